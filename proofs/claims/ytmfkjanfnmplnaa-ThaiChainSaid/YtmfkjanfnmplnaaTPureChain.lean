/- ThaiChain, as plain Lean. -/
import Derived.Test.YtmfkjanfnmplnaaXT5
import Derived.Test.YtmfkjanfnmplnaaTPure0
namespace Go.Proofs.Ytmfkjanfnmplnaa.TPure
open Go Go.RowKit Go.Proofs.YtmfkjanfnmplnaaW.PrintWords Go.Proofs.YtmfkjanfnmplnaaW.PrintLast Go.Proofs.YtmfkjanfnmplnaaW.PrintMore
open Go.Proofs.Ytmfkjanfnmplnaa.XT Go.Proofs.Ytmfkjanfnmplnaa.TE Go.Proofs.Ytmfkjanfnmplnaa.TF Go.Proofs.Ytmfkjanfnmplnaa.ThaiMath Go.Proofs.Ytmfkjanfnmplnaa.TP Go.Proofs.Ytmfkjanfnmplnaa.TPf
set_option linter.unusedVariables false
set_option linter.unusedSimpArgs false

/-! ### a chain -/
def pairsC : Int → List Int → List S39
  | _, [] => []
  | a, t :: ts => ⟨a, t, 0⟩ :: pairsC t ts
def IncC : Int → List Int → Prop
  | _, [] => True
  | a, t :: ts => a < t ∧ IncC t ts
def lastC : Int → List Int → Int
  | a, [] => a
  | _, t :: ts => lastC t ts

theorem pairsC_snoc (u : Int) : ∀ (ts : List Int) (a : Int), pairsC a (ts ++ [u]) = pairsC a ts ++ [⟨lastC a ts, u, 0⟩]
  | [], a => rfl
  | t :: ts, a => by rw [List.cons_append]; simp only [pairsC, lastC]; rw [pairsC_snoc u ts t]; rfl
theorem lastC_snoc (u : Int) : ∀ (ts : List Int) (a : Int), lastC a (ts ++ [u]) = u
  | [], a => rfl
  | t :: ts, a => lastC_snoc u ts t
theorem incC_snoc (u : Int) : ∀ (ts : List Int) (a : Int), IncC a ts → lastC a ts < u → IncC a (ts ++ [u])
  | [], a, _, h => ⟨h, trivial⟩
  | t :: ts, a, hi, h => ⟨hi.1, incC_snoc u ts t hi.2 h⟩
theorem lastC_ge : ∀ (ts : List Int) (a : Int), IncC a ts → a ≤ lastC a ts
  | [], a, _ => Int.le_refl _
  | t :: ts, a, hi => Int.le_trans (Int.le_of_lt hi.1) (lastC_ge ts t hi.2)
theorem pairsC_len : ∀ (ts : List Int) (a : Int), (pairsC a ts).length = ts.length
  | [], _ => rfl
  | t :: ts, a => by simp [pairsC, pairsC_len ts t]
theorem pairsC_mem : ∀ (ts : List Int) (a : Int), IncC a ts → ∀ s ∈ pairsC a ts, a ≤ s.f0 ∧ s.f0 < s.f1 ∧ s.f1 ≤ lastC a ts
  | [], _, _, s, h => by cases h
  | t :: ts, a, hi, s, h => by
    rcases List.mem_cons.1 h with rfl | h
    · exact ⟨Int.le_refl _, hi.1, lastC_ge ts t hi.2⟩
    · obtain ⟨h1, h2, h3⟩ := pairsC_mem ts t hi.2 s h
      have := hi.1
      exact ⟨by omega, h2, h3⟩

/-- the chain's path, and what is behind the last word -/
theorem chain_path (T rest : Int) (hr : 0 ≤ rest) : ∀ (ts : List Int) (a : Int) (pre : List S39), IncC a ts → lastC a ts + rest = T → (∀ s ∈ pre, s.f0 < a ∧ s.f1 ≤ a) →
    PathP T (wsOf (pre ++ pairsC a ts)) a (ts ++ if rest > 0 then [T] else [])
  | [], a, pre, hi, hT, hp => by
    have hT' : a + rest = T := hT
    have hnb : ∀ x, a ≤ x → ¬ beginsS (wsOf (pre ++ pairsC a [])) x := fun x hx ⟨t, ht⟩ => by
      obtain ⟨s, hs, e1, e2⟩ := (mem_ws _ _ _).1 ht
      simp only [pairsC, List.append_nil] at hs
      have := (hp s hs).1
      omega
    by_cases h : rest > 0
    · rw [if_pos h]
      exact ⟨by omega, ⟨by omega, by omega, fun hb => absurd hb (hnb a (Int.le_refl _)), fun _ => ⟨fun hlt => by omega, fun s h1 h2 => hnb s (by omega)⟩⟩, by show T ≤ T; omega⟩
    · rw [if_neg h]
      show T ≤ a
      omega
  | t :: ts, a, pre, hi, hT, hp => by
    have hge := lastC_ge ts t hi.2
    have hT' : lastC t ts + rest = T := hT
    have h1 := hi.1
    have ih := chain_path T rest hr ts t (pre ++ [⟨a, t, 0⟩]) hi.2 hT (fun s hs => by
      rcases List.mem_append.1 hs with h | h
      · have := hp s h; omega
      · simp only [List.mem_singleton] at h; subst h; exact ⟨h1, Int.le_refl _⟩)
    rw [List.append_assoc] at ih
    refine ⟨by omega, ⟨h1, by omega, fun _ => ⟨(mem_ws _ _ _).2 ⟨⟨a, t, 0⟩, List.mem_append_right _ List.mem_cons_self, rfl, rfl⟩, fun u hu => ?_⟩, fun hb => ?_⟩, ih⟩
    · obtain ⟨s, hs, e1, rfl⟩ := (mem_ws _ _ _).1 hu
      right
      rcases List.mem_append.1 hs with h | h
      · have := (hp s h).1; omega
      · rcases List.mem_cons.1 h with rfl | h
        · exact ⟨rfl, Int.le_refl _⟩
        · have := (pairsC_mem ts t hi.2 s h).1; omega
    · exact absurd ⟨t, (mem_ws _ _ _).2 ⟨⟨a, t, 0⟩, List.mem_append_right _ List.mem_cons_self, rfl, rfl⟩⟩ hb

theorem chain_parts (ts : List Int) (rest : Int) (hi : IncC 0 ts) (hr : 0 ≤ rest) (hT : lastC 0 ts + rest ≤ 5000) (hlen : ts.length ≤ 100) :
    Ev (fun k => thai_Parts.f k (lastC 0 ts + rest) (pairsC 0 ts)) (0 :: (ts ++ if rest > 0 then [lastC 0 ts + rest] else []), 0) := by
  have hge := lastC_ge ts 0 hi
  rcases parts_f (lastC 0 ts + rest) (pairsC 0 ts) (by rw [pairsC_len]; omega) with ⟨hn, _⟩ | ⟨_, us, hp, _, h⟩
  · refine absurd ⟨by omega, by omega, by rw [pairsC_len]; omega, fun s hs => ?_⟩ hn
    obtain ⟨h1, h2, h3⟩ := pairsC_mem ts 0 hi s hs
    exact ⟨h1, by omega, h2⟩
  · have := chain_path (lastC 0 ts + rest) rest hr ts 0 [] hi rfl (fun s hs => by cases hs)
    rw [List.nil_append] at this
    rw [this.uniq hp]; exact h

theorem c_add {i : Nat} (h2 : i ≤ 100000) : wrap64 ((i : Int) + 1) = ((i + 1 : Nat) : Int) := by unfold wrap64; omega
theorem c_sum {a b : Int} (h1 : 0 ≤ a + b) (h2 : a + b ≤ 100000) : wrap64 (a + b) = a + b := by unfold wrap64; omega

theorem l0_out (lens : List Int) (rest N : Int) (L : List S39) (wt : List Int) (k i : Nat) (x : Int) (h1 : (i : Int) < (lens.length : Int)) (h2 : (0 : Int) ≤ (i : Int)) (hx : rd lens (i : Int) = x) (h : x < 1 ∨ x > 50) :
    scansionlaw20_ThaiChain.l0 (k + 1) lens rest N L wt (i : Int) = some true := by
  rw [scansionlaw20_ThaiChain.l0, if_pos h1, if_pos h2, hx]
  by_cases e : x < 1
  · rw [if_pos e]
  · rw [if_neg e, if_pos (by omega)]
theorem l0_go (lens : List Int) (rest N : Int) (L : List S39) (wt : List Int) (k i : Nat) (x : Int) (h1 : (i : Int) < (lens.length : Int)) (h2 : (0 : Int) ≤ (i : Int)) (hx : rd lens (i : Int) = x) (h3 : ¬ x < 1) (h4 : ¬ x > 50) (h5 : L.length < 5864062014805) (h6 : wt.length < 17592186044416) (hw : wrap64 ((i : Int) + 1) = ((i + 1 : Nat) : Int)) (hw2 : wrap64 (N + x) = N + x) :
    scansionlaw20_ThaiChain.l0 (k + 1) lens rest N L wt (i : Int) = scansionlaw20_ThaiChain.l0 k lens rest (N + x) (L ++ [⟨N, N + x, 0⟩]) (wt ++ [N + x]) ((i + 1 : Nat) : Int) := by
  rw [scansionlaw20_ThaiChain.l0, if_pos h1, if_pos h2, hx, if_neg h3, if_neg h4, if_pos h5, if_pos h6, hw, hw2]
theorem l0_end (lens : List Int) (rest N : Int) (L : List S39) (wt : List Int) (k i : Nat) (h1 : ¬ (i : Int) < (lens.length : Int)) (h6 : wt.length < 17592186044416) (hw2 : wrap64 (N + rest) = N + rest) :
    scansionlaw20_ThaiChain.l0 (k + 1) lens rest N L wt (i : Int) = (thai_Parts.f k (N + rest) L).bind fun b => if b.2 = 0 then ((scansionref01_SameInts.f k b.1 (wt ++ if rest > 0 then [N + rest] else [])).bind fun t => some t) else some false := by
  rw [scansionlaw20_ThaiChain.l0, if_neg h1, hw2]
  by_cases h : rest > 0
  · simp only [if_pos h, if_pos h6]
  · simp only [if_neg h, List.append_nil]

theorem chain_l0 (lens : List Int) (rest : Int) (h40 : lens.length ≤ 40) (hr : 0 ≤ rest) (hr2 : rest ≤ 100) (d : Nat) : ∀ (i : Nat) (ts : List Int), i + d = lens.length → ts.length = i → IncC 0 ts → lastC 0 ts ≤ 50 * (i : Int) →
    Ev (fun k => scansionlaw20_ThaiChain.l0 k lens rest (lastC 0 ts) (pairsC 0 ts) (0 :: ts) (i : Int)) true := by
  induction d with
  | zero =>
    intro i ts h hts hi hle
    have hge := lastC_ge ts 0 hi
    have hp := chain_parts ts rest hi hr (by omega) (by omega)
    refine Ev.step (fun k => l0_end lens rest _ _ _ k i (by omega) (by simp; omega) (c_sum (by omega) (by omega))) (Ev.bind hp (Ev.congr (f := fun k => (scansionref01_SameInts.f k (0 :: (ts ++ if rest > 0 then [lastC 0 ts + rest] else [])) (0 :: ts ++ if rest > 0 then [lastC 0 ts + rest] else [])).bind fun t => some t) (fun k => if_pos rfl) (Ev.bind (same_f _ _ ?_) (Ev.congr (fun k => ?_) (Ev.now true)))))
    · by_cases h : rest > 0 <;> simp [h] <;> omega
    · rw [List.cons_append, decide_eq_true rfl]
  | succ d ih =>
    intro i ts h hts hi hle
    have hge := lastC_ge ts 0 hi
    have hl : i < lens.length := by omega
    have hx := rdi hl
    generalize lens[i] = x at hx
    by_cases h2 : x < 1 ∨ x > 50
    · exact Ev.step (fun k => l0_out lens rest _ _ _ k i x (by omega) (by omega) hx h2) (Ev.now true)
    · have ih2 := ih (i + 1) (ts ++ [lastC 0 ts + x]) (by omega) (by simp; omega) (incC_snoc _ ts 0 hi (by omega)) (by rw [lastC_snoc]; omega)
      rw [lastC_snoc, pairsC_snoc] at ih2
      exact Ev.step (fun k => l0_go lens rest _ _ _ k i x (by omega) (by omega) hx (by omega) (by omega) (by rw [pairsC_len]; omega) (by simp; omega) (c_add (by omega)) (c_sum (by omega) (by omega))) ih2

theorem thaiChain (lens : List Int) (rest : Int) : ∃ k, scansionlaw20_ThaiChain.f k lens rest = some true := by
  have h1 : Ev (fun k => scansionlaw20_ThaiChain.j0 k lens rest true true) true := Ev.step (f := fun _ => some true) (fun k => by rw [scansionlaw20_ThaiChain.j0, if_pos rfl]) (Ev.now _)
  have : Ev (fun k => scansionlaw20_ThaiChain.f k lens rest) true := by
    refine Ev.bind awake_ev ?_
    by_cases c1 : (lens.length : Int) > 40
    · exact Ev.congr (fun k => by rw [if_pos rfl, if_pos c1]) h1
    by_cases c2 : rest < 0
    · exact Ev.congr (fun k => by rw [if_pos rfl, if_neg c1, if_pos c2]) h1
    by_cases c3 : rest > 100
    · exact Ev.congr (fun k => by rw [if_pos rfl, if_neg c1, if_neg c2, decide_eq_true c3]) h1
    refine Ev.congr (f := fun k => scansionlaw20_ThaiChain.j0 k lens rest true false) (fun k => by rw [if_pos rfl, if_neg c1, if_neg c2, decide_eq_false c3]) ?_
    refine Ev.step (f := fun k => scansionlaw20_ThaiChain.l0 k lens rest (lastC 0 []) (pairsC 0 []) (0 :: []) ((0 : Nat) : Int)) (fun k => by rw [scansionlaw20_ThaiChain.j0, if_neg (by simp)]; rfl) (chain_l0 lens rest (by omega) (by omega) (by omega) lens.length 0 [] (by omega) rfl trivial (by simp [lastC]))
  obtain ⟨K, hK⟩ := this
  exact ⟨K, hK K (Nat.le_refl _)⟩
end Go.Proofs.Ytmfkjanfnmplnaa.TPure
