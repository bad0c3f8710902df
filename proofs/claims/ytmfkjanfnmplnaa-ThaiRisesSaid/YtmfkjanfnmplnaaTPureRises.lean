/- ThaiRises, as plain Lean. -/
import Derived.Test.YtmfkjanfnmplnaaXT4
import Derived.Test.YtmfkjanfnmplnaaTPure0
namespace Go.Proofs.Ytmfkjanfnmplnaa.TPure
open Go Go.RowKit Go.Proofs.YtmfkjanfnmplnaaW.PrintWords Go.Proofs.YtmfkjanfnmplnaaW.PrintLast Go.Proofs.YtmfkjanfnmplnaaW.PrintMore
open Go.Proofs.Ytmfkjanfnmplnaa.XT Go.Proofs.Ytmfkjanfnmplnaa.TE Go.Proofs.Ytmfkjanfnmplnaa.TF Go.Proofs.Ytmfkjanfnmplnaa.ThaiMath Go.Proofs.Ytmfkjanfnmplnaa.TP Go.Proofs.Ytmfkjanfnmplnaa.TPf
set_option linter.unusedVariables false
set_option linter.unusedSimpArgs false

theorem step_eq (F : Bool → Bool → Option Bool) (f0 f1 p q : Int) (wd bg : Bool) : (if wd = true then (if bg = true then F true true else (if p ≤ f0 then F true (decide (f0 < q)) else F true false)) else (if f0 = p then (if bg = true then F (f1 == q) true else (if p ≤ f0 then F (f1 == q) (decide (f0 < q)) else F (f1 == q) false)) else (if bg = true then F false true else (if p ≤ f0 then F false (decide (f0 < q)) else F false false)))) = F (wd || (f0 == p && f1 == q)) (bg || (decide (p ≤ f0) && decide (f0 < q))) := by
  by_cases e1 : f0 = p
  · have : (f0 == p) = true := by simp [e1]
    by_cases e3 : p ≤ f0 <;> cases wd <;> cases bg <;> simp [*]
  · have : (f0 == p) = false := by simp [e1]
    by_cases e3 : p ≤ f0 <;> cases wd <;> cases bg <;> simp [*]

theorem rises_eq (l : List S39) (a : List Int) (k : Nat) (i j : Nat) (wd bg : Bool) (s : S39) (p q : Int) (hj : (j : Int) < (l.length : Int)) (hg : rd_T39 l (j : Int) = s) (hp : rd a ((i : Int) - 1) = p) (hq : rd a (i : Int) = q)
    (hw : wrap64 ((i : Int) - 1) = (i : Int) - 1) (hw2 : wrap64 ((j : Int) + 1) = ((j + 1 : Nat) : Int)) (k0 : (0 : Int) ≤ (j : Int)) (k1 : (0 : Int) ≤ (i : Int)) (k2 : (i : Int) < (a.length : Int)) (k3 : (0 : Int) ≤ (i : Int) - 1) (k4 : (i : Int) - 1 < (a.length : Int)) :
    scansionlaw20_ThaiRises.l1 (k + 1) l a (i : Int) wd bg (j : Int) = scansionlaw20_ThaiRises.l1 k l a (i : Int) (wd || (s.f0 == p && s.f1 == q)) (bg || (decide (p ≤ s.f0) && decide (s.f0 < q))) ((j + 1 : Nat) : Int) := by
  rw [scansionlaw20_ThaiRises.l1]
  generalize hF : (fun x y => scansionlaw20_ThaiRises.l1 k l a (i : Int) x y ((j + 1 : Nat) : Int)) = F
  have hF2 : ∀ x y, scansionlaw20_ThaiRises.l1 k l a (i : Int) x y ((j + 1 : Nat) : Int) = F x y := fun x y => by rw [← hF]
  rw [if_pos hj]
  simp only [hw, hw2, hg, hp, hq, if_pos k0, if_pos k1, if_pos k2, if_pos k3, if_pos k4, hF2]
  exact step_eq F s.f0 s.f1 p q wd bg

theorem rises_or {α : Type} {P Q : α → Prop} {s : α} {rest : List α} {wd bg x y : Bool} (hx : x = true ↔ P s) (hy : y = true ↔ Q s) (hc : (wd = true ∨ ∃ t ∈ s :: rest, P t) ∨ ¬ (bg = true ∨ ∃ t ∈ s :: rest, Q t)) :
    (((wd || x) = true ∨ ∃ s ∈ rest, P s) ∨ ¬ ((bg || y) = true ∨ ∃ s ∈ rest, Q s)) := by
  rcases hc with (h | ⟨u, hu, h1⟩) | hc
  · exact .inl (.inl (by simp [h]))
  · rcases List.mem_cons.1 hu with e | hu
    · exact .inl (.inl (by simp [hx.2 (e ▸ h1)]))
    · exact .inl (.inr ⟨u, hu, h1⟩)
  · right
    rintro (h | ⟨u, hu, h1⟩)
    · rcases Bool.or_eq_true_iff.1 h with h | h
      · exact hc (.inl h)
      · exact hc (.inr ⟨s, List.mem_cons_self, hy.1 h⟩)
    · exact hc (.inr ⟨u, List.mem_cons_of_mem _ hu, h1⟩)

theorem rises_end (l : List S39) (a : List Int) (k : Nat) (i j : Nat) (wd bg : Bool) (p q : Int) (hj : ¬ (j : Int) < (l.length : Int)) (hp : rd a ((i : Int) - 1) = p) (hq : rd a (i : Int) = q) (hpq : ¬ q ≤ p) (hc : wd = true ∨ bg = false)
    (hw : wrap64 ((i : Int) - 1) = (i : Int) - 1) (hw2 : wrap64 ((i : Int) + 1) = ((i + 1 : Nat) : Int)) (k1 : (0 : Int) ≤ (i : Int)) (k2 : (i : Int) < (a.length : Int)) (k3 : (0 : Int) ≤ (i : Int) - 1) (k4 : (i : Int) - 1 < (a.length : Int)) :
    scansionlaw20_ThaiRises.l1 (k + 1) l a (i : Int) wd bg (j : Int) = scansionlaw20_ThaiRises.l0 k l a ((i + 1 : Nat) : Int) := by
  rw [scansionlaw20_ThaiRises.l1, if_neg hj, if_pos k1, if_pos k2, hw, if_pos k3, if_pos k4, hp, hq, if_neg hpq, hw2]
  rcases hc with rfl | rfl
  · rw [if_pos rfl]
  · cases wd
    · rw [if_neg (by simp), if_neg (by simp)]
    · rw [if_pos rfl]

theorem w_sub {i : Nat} (h : 0 < i) (h2 : i ≤ 100000) : wrap64 ((i : Int) - 1) = (i : Int) - 1 := by unfold wrap64; omega
theorem w_add {i : Nat} (h2 : i ≤ 100000) : wrap64 ((i : Int) + 1) = ((i + 1 : Nat) : Int) := by unfold wrap64; omega

theorem rises_l1 (l : List S39) (hl : l.length ≤ 60) (a : List Int) (ha : a.length ≤ 10000) (i : Nat) (hi : 0 < i) (hi2 : i < a.length) (p q : Int) (hp : rd a ((i : Int) - 1) = p) (hq : rd a (i : Int) = q) (hpq : p < q)
    (hn : Ev (fun k => scansionlaw20_ThaiRises.l0 k l a ((i + 1 : Nat) : Int)) true) (d : Nat) : ∀ (j : Nat) (wd bg : Bool), j + d = l.length →
    ((wd = true ∨ ∃ s ∈ l.drop j, s.f0 = p ∧ s.f1 = q) ∨ ¬ (bg = true ∨ ∃ s ∈ l.drop j, p ≤ s.f0 ∧ s.f0 < q)) →
    Ev (fun k => scansionlaw20_ThaiRises.l1 k l a (i : Int) wd bg (j : Int)) true := by
  have k1 : (0 : Int) ≤ (i : Int) := by omega
  have k2 : (i : Int) < (a.length : Int) := by omega
  have k3 : (0 : Int) ≤ (i : Int) - 1 := by omega
  have k4 : (i : Int) - 1 < (a.length : Int) := by omega
  induction d with
  | zero =>
    intro j wd bg h hc
    rw [List.drop_eq_nil_of_le (by omega)] at hc
    refine Ev.step (f := fun k => scansionlaw20_ThaiRises.l0 k l a ((i + 1 : Nat) : Int)) (fun k => rises_end l a k i j wd bg p q (by omega) hp hq (by omega) ?_ (w_sub hi (by omega)) (w_add (by omega)) k1 k2 k3 k4) hn
    cases wd <;> cases bg <;> simp at hc ⊢
  | succ d ih =>
    intro j wd bg h hc
    have hj : j < l.length := by omega
    rw [drop_get l j hj] at hc
    have hg := rd_get l j hj
    have g1 : (j : Int) < (l.length : Int) := by omega
    have g2 : (0 : Int) ≤ (j : Int) := by omega
    exact Ev.step (fun k => rises_eq l a k i j wd bg _ p q g1 hg hp hq (w_sub hi (by omega)) (w_add (by omega)) g2 k1 k2 k3 k4) (ih (j + 1) _ _ (by omega) (rises_or (by simp) (by simp) hc))

theorem rises_l0 (n : Int) (l : List S39) (hl : l.length ≤ 60) (ts : List Int) (ht : ts.length ≤ 5000) (hp : PathP n (wsOf l) 0 ts) : ∀ (d i : Nat), 0 < i → i + d = (0 :: ts).length → Ev (fun k => scansionlaw20_ThaiRises.l0 k l (0 :: ts) (i : Int)) true
  | 0, i, h0, h => by
    refine Ev.step (f := fun _ => some true) (fun k => ?_) (Ev.now _)
    simp only [scansionlaw20_ThaiRises.l0]
    rw [if_neg (by omega)]
  | d + 1, i, h0, h => by
    have ih := rises_l0 n l hl ts ht hp d (i + 1) (by omega) (by omega)
    obtain ⟨m, rfl⟩ : ∃ m, i = m + 1 := ⟨i - 1, by omega⟩
    have hN := path_at hp m (by omega)
    have hlen : (0 :: ts).length ≤ 5001 := by simp; omega
    have r1 : rd (0 :: ts) (((m + 1 : Nat) : Int) - 1) = (0 :: ts)[m]'(by omega) := by rw [show ((m + 1 : Nat) : Int) - 1 = (m : Int) by omega]; exact rdi (by omega)
    have r2 : rd (0 :: ts) ((m + 1 : Nat) : Int) = (0 :: ts)[m + 1]'(by omega) := rdi (by omega)
    generalize (0 :: ts)[m]'(by omega) = p at hN r1
    generalize (0 :: ts)[m + 1]'(by omega) = q at hN r2
    have hm : m + 1 < (0 :: ts).length := by omega
    generalize 0 :: ts = a at *
    refine Ev.step (f := fun k => scansionlaw20_ThaiRises.l1 k l a ((m + 1 : Nat) : Int) false false ((0 : Nat) : Int)) (fun k => ?_) (rises_l1 l hl a (by omega) (m + 1) (by omega) hm p q r1 r2 hN.gt ih l.length 0 false false (by omega) ?_)
    · simp only [scansionlaw20_ThaiRises.l0]
      rw [if_pos (by omega)]; rfl
    · rw [List.drop_zero]
      by_cases hb : beginsS (wsOf l) p
      · obtain ⟨s, hs, e⟩ := (mem_ws _ _ _).1 (hN.word hb).1
        exact .inl (.inr ⟨s, hs, e⟩)
      · right
        rintro (h | ⟨s, hs, h1, h2⟩)
        · cases h
        · have h3 : beginsS (wsOf l) s.f0 := ⟨s.f1, (mem_ws _ _ _).2 ⟨s, hs, rfl, rfl⟩⟩
          by_cases e : p = s.f0
          · exact hb (e ▸ h3)
          · exact (hN.none hb).2 s.f0 (by omega) h2 h3

theorem thaiRises (n : Int) (l : List S39) (hl : l.length ≤ 9223372036854775807) : ∃ k, scansionlaw20_ThaiRises.f k n l = some true := by
  refine frame (j := fun k t u => scansionlaw20_ThaiRises.j0 k n l t u) n l (fun k => rfl) ?_ ?_
  · exact Ev.step (f := fun _ => some true) (fun k => by simp only [scansionlaw20_ThaiRises.j0]; rw [if_pos trivial]) (Ev.now _)
  · intro h60
    have un : ∀ r : List Int × Int, Ev (fun k => thai_Parts.f k n l) r → Ev (fun k => (if r.2 = 0 then (if (r.1.length : Int) = 0 then (scansionlaw20_ThaiRises.j1 k l r.1 true) else (if 0 < (r.1.length : Int) then (if (rd r.1 0) = 0 then (if 0 ≤ (wrap64 ((r.1.length : Int) - 1)) then (if (wrap64 ((r.1.length : Int) - 1)) < (r.1.length : Int) then (scansionlaw20_ThaiRises.j1 k l r.1 ((rd r.1 (wrap64 ((r.1.length : Int) - 1))) != n)) else (none)) else (none)) else (scansionlaw20_ThaiRises.j1 k l r.1 true)) else (none))) else (if r.2 = 1 then (some ((r.1.length : Int) == 0)) else (some false)))) true →
        Ev (fun k => scansionlaw20_ThaiRises.j0 k n l true false) true := fun r h1 h2 => by
      refine Ev.step (f := fun k => (thai_Parts.f k n l).bind fun r => (if r.2 = 0 then (if (r.1.length : Int) = 0 then (scansionlaw20_ThaiRises.j1 k l r.1 true) else (if 0 < (r.1.length : Int) then (if (rd r.1 0) = 0 then (if 0 ≤ (wrap64 ((r.1.length : Int) - 1)) then (if (wrap64 ((r.1.length : Int) - 1)) < (r.1.length : Int) then (scansionlaw20_ThaiRises.j1 k l r.1 ((rd r.1 (wrap64 ((r.1.length : Int) - 1))) != n)) else (none)) else (none)) else (scansionlaw20_ThaiRises.j1 k l r.1 true)) else (none))) else (if r.2 = 1 then (some ((r.1.length : Int) == 0)) else (some false)))) (fun k => ?_) (Ev.bind h1 h2)
      simp only [scansionlaw20_ThaiRises.j0]; rw [if_neg (by simp)]
    rcases parts_f n l hl with ⟨_, h⟩ | ⟨hR, ts, hp, hlen, h⟩
    · exact un _ h (Ev.congr (fun k => by simp) (Ev.now true))
    · have h5 := hR.2.1
      have hL := path_last hR.1 hp
      have hw : wrap64 (((0 :: ts).length : Int) - 1) = (ts.length : Int) := by simp only [List.length_cons]; unfold wrap64; omega
      have hr : rd (0 :: ts) (ts.length : Int) = n := by rw [← hL]; exact rdi (by simp)
      have hz : rd (0 :: ts) 0 = 0 := by simp [rd]
      refine un _ h (Ev.congr (f := fun k => scansionlaw20_ThaiRises.j1 k l (0 :: ts) false) (fun k => ?_) (Ev.step (f := fun k => scansionlaw20_ThaiRises.l0 k l (0 :: ts) ((1 : Nat) : Int)) (fun k => by simp only [scansionlaw20_ThaiRises.j1]; rw [if_neg (by simp)]; rfl) (rises_l0 n l h60 ts (by omega) hp ts.length 1 (by omega) (by simp; omega))))
      have hc : ((0 :: ts).length : Int) = ts.length + 1 := by simp
      simp only
      have c0 : ¬ ((0 :: ts).length : Int) = 0 := by omega
      have c1 : (0 : Int) < ((0 :: ts).length : Int) := by omega
      have c2 : (0 : Int) ≤ (ts.length : Int) := by omega
      have c3 : (ts.length : Int) < ((0 :: ts).length : Int) := by omega
      simp only [hw, hr, hz, if_neg c0, if_pos c1, if_pos c2, if_pos c3, if_true, bne_self_eq_false]
end Go.Proofs.Ytmfkjanfnmplnaa.TPure
