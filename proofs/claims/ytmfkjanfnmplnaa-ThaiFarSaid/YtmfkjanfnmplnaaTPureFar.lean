/- ThaiFar, as plain Lean. -/
import Derived.Test.YtmfkjanfnmplnaaXT7
import Derived.Test.YtmfkjanfnmplnaaTPure0
import Derived.Test.YtmfkjanfnmplnaaTPf2
namespace Go.Proofs.Ytmfkjanfnmplnaa.TPure
open Go Go.RowKit Go.Proofs.YtmfkjanfnmplnaaW.PrintWords Go.Proofs.YtmfkjanfnmplnaaW.PrintLast Go.Proofs.YtmfkjanfnmplnaaW.PrintMore
open Go.Proofs.Ytmfkjanfnmplnaa.XT Go.Proofs.Ytmfkjanfnmplnaa.TE Go.Proofs.Ytmfkjanfnmplnaa.TF Go.Proofs.Ytmfkjanfnmplnaa.ThaiMath Go.Proofs.Ytmfkjanfnmplnaa.TP Go.Proofs.Ytmfkjanfnmplnaa.TPf
set_option linter.unusedVariables false
set_option linter.unusedSimpArgs false
open Go.Proofs.Ytmfkjanfnmplnaa.TPf2

theorem far_add {i : Nat} (h2 : i ≤ 100000) : wrap64 ((i : Int) + 1) = ((i + 1 : Nat) : Int) := by unfold wrap64; omega
theorem far_sub {i : Nat} (h2 : i ≤ 100000) : wrap64 (((i + 1 : Nat) : Int) - 1) = (i : Int) := by unfold wrap64; omega

theorem reach2 (n : Int) (l : List S39) (hR : Right n l) (a : Int) (h0 : 0 ≤ a) (h1 : a ≤ n) : Ev (fun k => thai_Reach.f k n l a 2) (reachS (wsOf l) 2 a, 0) := by
  have hl : l.length ≤ 9223372036854775807 := by have := hR.2.2.1; omega
  rcases reach_ev n l hl a 2 with ⟨hn, _⟩ | ⟨_, h⟩
  · exact absurd ⟨hR, h0, h1, by omega, by omega⟩ hn
  · exact h

theorem far_other (n : Int) (l : List S39) (a : List Int) (k i j : Nat) (hj : (j : Int) < (l.length : Int)) (g2 : (0 : Int) ≤ (j : Int)) (k1 : (0 : Int) ≤ (i : Int)) (k2 : (i : Int) < (a.length : Int)) (s : S39) (p : Int) (hg : rd_T39 l (j : Int) = s) (hp : rd a (i : Int) = p) (he : ¬ s.f0 = p) (hw : wrap64 ((j : Int) + 1) = ((j + 1 : Nat) : Int)) :
    scansionlaw20_ThaiFar.l1 (k + 1) n l a (i : Int) (j : Int) = scansionlaw20_ThaiFar.l1 k n l a (i : Int) ((j + 1 : Nat) : Int) := by
  rw [scansionlaw20_ThaiFar.l1, if_pos hj, if_pos g2, if_pos k1, if_pos k2, hg, hp, if_neg he, hw]
theorem far_end (n : Int) (l : List S39) (a : List Int) (k i j : Nat) (hj : ¬ (j : Int) < (l.length : Int)) (hw : wrap64 ((i : Int) + 1) = ((i + 1 : Nat) : Int)) :
    scansionlaw20_ThaiFar.l1 (k + 1) n l a (i : Int) (j : Int) = scansionlaw20_ThaiFar.l0 k n l a ((i + 1 : Nat) : Int) := by
  rw [scansionlaw20_ThaiFar.l1, if_neg hj, hw]
theorem far_word (n : Int) (l : List S39) (a : List Int) (i j : Nat) (hj : (j : Int) < (l.length : Int)) (g2 : (0 : Int) ≤ (j : Int)) (k1 : (0 : Int) ≤ (i : Int)) (k2 : (i : Int) < (a.length : Int)) (k3 : (0 : Int) ≤ ((i + 1 : Nat) : Int)) (k4 : ((i + 1 : Nat) : Int) < (a.length : Int)) (s : S39) (p q : Int) (hg : rd_T39 l (j : Int) = s) (hp : rd a (i : Int) = p) (hq : rd a ((i + 1 : Nat) : Int) = q) (he : s.f0 = p) (hw : wrap64 ((j : Int) + 1) = ((j + 1 : Nat) : Int)) (hw2 : wrap64 ((i : Int) + 1) = ((i + 1 : Nat) : Int))
    (x y : Int) (hx : Ev (fun k => thai_Reach.f k n l s.f1 2) (x, 0)) (hy : Ev (fun k => thai_Reach.f k n l q 2) (y, 0)) (h1 : ¬ x > y) (h2 : x = y → ¬ s.f1 > q) (r : Bool) (hn : Ev (fun k => scansionlaw20_ThaiFar.l1 k n l a (i : Int) ((j + 1 : Nat) : Int)) r) :
    Ev (fun k => scansionlaw20_ThaiFar.l1 k n l a (i : Int) (j : Int)) r := by
  let body : Nat → Int × Int → Int × Int → Option Bool := fun k bt248 bt251 => (if bt248.2 = 0 then (if bt251.2 = 0 then (if bt248.1 > bt251.1 then (some false) else (if bt248.1 = bt251.1 then (if s.f1 > q then (some false) else (scansionlaw20_ThaiFar.l1 k n l a (i : Int) ((j + 1 : Nat) : Int))) else (scansionlaw20_ThaiFar.l1 k n l a (i : Int) ((j + 1 : Nat) : Int)))) else (some false)) else (some false))
  have e : ∀ k, scansionlaw20_ThaiFar.l1 (k + 1) n l a (i : Int) (j : Int) = (thai_Reach.f k n l s.f1 2).bind fun b => (thai_Reach.f k n l q 2).bind fun c => body k b c := fun k => by
    rw [scansionlaw20_ThaiFar.l1, if_pos hj, if_pos g2, if_pos k1, if_pos k2, hg, hp, if_pos he, hw, hw2]
    simp only [if_pos k3, if_pos k4, hq]
    rfl
  refine Ev.step (g := fun k => scansionlaw20_ThaiFar.l1 k n l a (i : Int) (j : Int)) (f := fun k => (thai_Reach.f k n l s.f1 2).bind fun b => (thai_Reach.f k n l q 2).bind fun c => body k b c) e (Ev.bind hx (Ev.bind hy (Ev.congr (fun k => ?_) hn)))
  show (if (0 : Int) = 0 then (if (0 : Int) = 0 then (if x > y then _ else _) else _) else _) = _
  rw [if_pos rfl, if_pos rfl, if_neg h1]
  by_cases h3 : x = y
  · rw [if_pos h3, if_neg (h2 h3)]
  · rw [if_neg h3]

theorem far_l1 (n : Int) (l : List S39) (hR : Right n l) (hl : l.length ≤ 60) (a : List Int) (ha : a.length ≤ 10000) (i : Nat) (hi2 : i + 1 < a.length) (p q : Int) (hp : rd a (i : Int) = p) (hq : rd a ((i + 1 : Nat) : Int) = q) (h0 : 0 ≤ p) (hN : NextP n (wsOf l) p q)
    (hn : Ev (fun k => scansionlaw20_ThaiFar.l0 k n l a ((i + 1 : Nat) : Int)) true) (d : Nat) : ∀ (j : Nat), j + d = l.length → Ev (fun k => scansionlaw20_ThaiFar.l1 k n l a (i : Int) (j : Int)) true := by
  have k1 : (0 : Int) ≤ (i : Int) := by omega
  have k2 : (i : Int) < (a.length : Int) := by omega
  have k3 : (0 : Int) ≤ ((i + 1 : Nat) : Int) := by omega
  have k4 : ((i + 1 : Nat) : Int) < (a.length : Int) := by omega
  have q0 : 0 ≤ q := by have := hN.gt; omega
  have hy := reach2 n l hR q q0 hN.le
  induction d with
  | zero =>
    intro j h
    exact Ev.step (fun k => far_end n l a k i j (by omega) (far_add (by omega))) hn
  | succ d ih =>
    intro j h
    have hj : j < l.length := by omega
    have hg := rd_get l j hj
    have g1 : (j : Int) < (l.length : Int) := by omega
    have g2 : (0 : Int) ≤ (j : Int) := by omega
    have ih2 := ih (j + 1) (by omega)
    by_cases he : l[j].f0 = p
    · have hs := hR.2.2.2 l[j] (List.getElem_mem hj)
      have hm : (p, l[j].f1) ∈ wsOf l := (mem_ws _ _ _).2 ⟨l[j], List.getElem_mem hj, he, rfl⟩
      have hb := (hN.word ⟨_, hm⟩).2 _ hm
      have hs0 : 0 ≤ l[j].f1 := by unfold rightW at hs; omega
      have hs1 : l[j].f1 ≤ n := hs.2.1
      exact far_word n l a i j g1 g2 k1 k2 k3 k4 _ p q hg hp hq he (far_add (by omega)) (far_add (by omega)) _ _ (reach2 n l hR _ hs0 hs1) hy (by omega) (by omega) true ih2
    · exact Ev.step (fun k => far_other n l a k i j g1 g2 k1 k2 _ p hg hp he (far_add (by omega))) ih2

theorem far_l0e (n : Int) (l : List S39) (a : List Int) (k i m : Nat) (hw : wrap64 ((a.length : Int) - 1) = (m : Int)) (h : ¬ (i : Int) < (m : Int)) : scansionlaw20_ThaiFar.l0 (k + 1) n l a (i : Int) = some true := by
  rw [scansionlaw20_ThaiFar.l0, hw, if_neg h]
theorem far_l0s (n : Int) (l : List S39) (a : List Int) (k i m : Nat) (hw : wrap64 ((a.length : Int) - 1) = (m : Int)) (h : (i : Int) < (m : Int)) : scansionlaw20_ThaiFar.l0 (k + 1) n l a (i : Int) = scansionlaw20_ThaiFar.l1 k n l a (i : Int) ((0 : Nat) : Int) := by
  rw [scansionlaw20_ThaiFar.l0, hw, if_pos h]; rfl

theorem path_nonneg {n : Int} {ws : WS} : ∀ {ts : List Int} {a : Int}, 0 ≤ a → PathP n ws a ts → ∀ x ∈ a :: ts, 0 ≤ x
  | [], a, h, _, x, hx => by simp at hx; omega
  | t :: ts, a, h, hp, x, hx => by
    rcases List.mem_cons.1 hx with e | hx
    · omega
    · exact path_nonneg (by have := hp.2.1.gt; omega) hp.2.2 x hx

theorem far_l0 (n : Int) (l : List S39) (hR : Right n l) (hl : l.length ≤ 60) (ts : List Int) (ht : ts.length ≤ 5000) (hp : PathP n (wsOf l) 0 ts) (d : Nat) : ∀ (i : Nat), i + d = ts.length → Ev (fun k => scansionlaw20_ThaiFar.l0 k n l (0 :: ts) (i : Int)) true := by
  have hc : (0 :: ts).length = ts.length + 1 := by simp
  have hL : wrap64 (((0 :: ts).length : Int) - 1) = (ts.length : Int) := by rw [hc]; exact far_sub (by omega)
  induction d with
  | zero =>
    intro i h
    exact Ev.step (fun k => far_l0e n l (0 :: ts) k i ts.length hL (by clear hL; omega)) (Ev.now true)
  | succ d ih =>
    intro i h
    have h1 : i + 1 < (0 :: ts).length := by clear hL; omega
    have hN := path_at hp i h1
    have ih2 := ih (i + 1) (by clear hL; omega)
    refine Ev.step (fun k => far_l0s n l (0 :: ts) k i ts.length hL (by clear hL; omega)) (far_l1 n l hR hl (0 :: ts) (by clear hL; omega) i h1 _ _ (rdi (by clear hL; omega)) (rdi h1) (path_nonneg (Int.le_refl 0) hp _ (List.getElem_mem _)) hN ih2 l.length 0 (by clear hL; omega))

theorem thaiFar (n : Int) (l : List S39) (hl : l.length ≤ 9223372036854775807) : ∃ k, scansionlaw20_ThaiFar.f k n l = some true := by
  refine frame (j := fun k t u => scansionlaw20_ThaiFar.j0 k n l t u) n l (fun k => rfl) ?_ ?_
  · exact Ev.step (f := fun _ => some true) (fun k => by rw [scansionlaw20_ThaiFar.j0, if_pos rfl]) (Ev.now _)
  · intro h60
    have un : ∀ r : List Int × Int, Ev (fun k => thai_Parts.f k n l) r → Ev (fun k => if r.2 = 0 then scansionlaw20_ThaiFar.l0 k n l r.1 0 else some (r.2 == 1)) true → Ev (fun k => scansionlaw20_ThaiFar.j0 k n l true false) true := fun r h1 h2 => by
      refine Ev.step (f := fun k => (thai_Parts.f k n l).bind fun r => if r.2 = 0 then scansionlaw20_ThaiFar.l0 k n l r.1 0 else some (r.2 == 1)) (fun k => ?_) (Ev.bind h1 h2)
      rw [scansionlaw20_ThaiFar.j0, if_neg (by simp)]
    rcases parts_f n l hl with ⟨_, h⟩ | ⟨hR, ts, hp, hlen, h⟩
    · exact un _ h (Ev.congr (fun k => by rw [if_neg (by simp)]; rfl) (Ev.now true))
    · have h5 := hR.2.1
      exact un _ h (Ev.congr (fun k => by rw [if_pos rfl]; rfl) (far_l0 n l hR h60 ts (by omega) hp ts.length 0 (by omega)))
end Go.Proofs.Ytmfkjanfnmplnaa.TPure
