/- Layer 20: what all the laws ask first; two rows of numbers; a path's places. -/
import Derived.Test.YtmfkjanfnmplnaaXT2b
import Derived.Test.YtmfkjanfnmplnaaTPf
namespace Go.Proofs.Ytmfkjanfnmplnaa.TPure
open Go Go.RowKit Go.Proofs.YtmfkjanfnmplnaaW.PrintWords Go.Proofs.YtmfkjanfnmplnaaW.PrintLast Go.Proofs.YtmfkjanfnmplnaaW.PrintMore
open Go.Proofs.Ytmfkjanfnmplnaa.XT Go.Proofs.Ytmfkjanfnmplnaa.TE Go.Proofs.Ytmfkjanfnmplnaa.TF Go.Proofs.Ytmfkjanfnmplnaa.ThaiMath Go.Proofs.Ytmfkjanfnmplnaa.TP Go.Proofs.Ytmfkjanfnmplnaa.TPf
set_option linter.unusedVariables false
set_option linter.unusedSimpArgs false

theorem awake_ev : Ev (fun k => scansionlaw20_awake.f k) true := by
  refine Ev.of (fun k => scansionlaw20_awake.mono k) (k := 30) ?_
  decide +kernel

theorem few_f (n : Int) (l : List S39) : ∃ b, scansionlaw20_few.f n l = some b ∧ (b = true → l.length ≤ 60) := by
  unfold scansionlaw20_few.f
  by_cases h : (l.length : Int) ≤ 60
  · rw [if_pos h]
    by_cases h2 : n ≤ 60
    · rw [if_pos h2]; exact ⟨_, rfl, fun _ => by omega⟩
    · rw [if_neg h2]; exact ⟨_, rfl, fun _ => by omega⟩
  · rw [if_neg h]; exact ⟨_, rfl, fun h => by cases h⟩

theorem rdi {a : List Int} {i : Nat} (h : i < a.length) : rd a (i : Int) = a[i] := by simp [rd, List.getD_eq_getElem?_getD, h]

theorem same_l0 (a b : List Int) (hab : a.length = b.length) (hl : a.length ≤ 9223372036854775807) : ∀ d i, i + d = a.length → Ev (fun k => scansionref01_SameInts.l0 k a b (i : Int)) (decide (a.drop i = b.drop i))
  | 0, i, h => by
    rw [List.drop_eq_nil_of_le (by omega), List.drop_eq_nil_of_le (by omega)]
    refine Ev.step (f := fun _ => some (decide (([] : List Int) = []))) (fun k => ?_) (Ev.now _)
    simp only [scansionref01_SameInts.l0]
    rw [if_neg (by omega)]; simp
  | d + 1, i, h => by
    have h1 : i < a.length := by omega
    have h2 : i < b.length := by omega
    have ih := same_l0 a b hab hl d (i + 1) (by omega)
    rw [List.drop_eq_getElem_cons h1, List.drop_eq_getElem_cons h2]
    have c1 : ∀ p q : List Int, a[i] = b[i] → decide (a[i] :: p = b[i] :: q) = decide (p = q) := fun p q e => by simp [e]
    have c2 : ∀ p q : List Int, ¬ a[i] = b[i] → decide (a[i] :: p = b[i] :: q) = false := fun p q e => by simp [e]
    by_cases e : a[i] = b[i]
    · rw [c1 _ _ e]
      refine Ev.step (f := fun k => scansionref01_SameInts.l0 k a b ((i + 1 : Nat) : Int)) (fun k => ?_) ih
      simp only [scansionref01_SameInts.l0]
      rw [if_pos (by omega), if_pos (by omega), if_pos (by omega), rdi h1, rdi h2, if_pos e, wrap_nat h1 hl]
    · rw [c2 _ _ e]
      refine Ev.step (f := fun _ => some false) (fun k => ?_) (Ev.now _)
      simp only [scansionref01_SameInts.l0]
      rw [if_pos (by omega), if_pos (by omega), if_pos (by omega), rdi h1, rdi h2, if_neg e]

theorem same_f (a b : List Int) (hl : a.length ≤ 9223372036854775807) : Ev (fun k => scansionref01_SameInts.f k a b) (decide (a = b)) := by
  by_cases h : a.length = b.length
  · exact Ev.congr (f := fun k => scansionref01_SameInts.l0 k a b ((0 : Nat) : Int)) (fun k => by unfold scansionref01_SameInts.f; rw [if_pos (by omega)]; rfl) (same_l0 a b h hl a.length 0 (by omega))
  · rw [show decide (a = b) = false from by simp; intro e; exact h (by rw [e])]
    exact Ev.congr (f := fun _ => some false) (fun k => by unfold scansionref01_SameInts.f; rw [if_neg (by omega)]) (Ev.now _)

theorem path_at {n : Int} {ws : WS} : ∀ {ts : List Int} {a : Int}, PathP n ws a ts → ∀ (i : Nat) (h : i + 1 < (a :: ts).length), NextP n ws ((a :: ts)[i]'(by omega)) ((a :: ts)[i + 1])
  | [], a, _, i, h => by simp at h
  | t :: ts, a, hp, 0, h => hp.2.1
  | t :: ts, a, hp, i + 1, h => path_at hp.2.2 i (by simpa using h)

theorem path_last {n : Int} {ws : WS} : ∀ {ts : List Int} {a : Int}, a ≤ n → PathP n ws a ts → (a :: ts)[ts.length]'(by simp) = n
  | [], a, h, hp => by have : n ≤ a := hp; simp; omega
  | t :: ts, a, h, hp => by simpa using path_last hp.2.1.le hp.2.2

/-- The frame of all of them: awake, few. -/
theorem frame {g : Nat → Option Bool} {j : Nat → Bool → Bool → Option Bool} (n : Int) (l : List S39)
    (hg : ∀ k, g k = (scansionlaw20_awake.f k).bind fun t => ((scansionlaw20_few.f n l).bind fun u => (if t = true then (j k t (!u)) else (j k t true))))
    (h1 : Ev (fun k => j k true true) true) (h2 : l.length ≤ 60 → Ev (fun k => j k true false) true) : ∃ k, g k = some true := by
  obtain ⟨b, hb, hf⟩ := few_f n l
  have : Ev g true := by
    refine Ev.congr (f := fun k => (scansionlaw20_awake.f k).bind fun t => ((scansionlaw20_few.f n l).bind fun u => (if t = true then (j k t (!u)) else (j k t true)))) (fun k => hg k) (Ev.bind awake_ev ?_)
    refine Ev.congr (f := fun k => j k true (!b)) (fun k => by rw [hb]; rfl) ?_
    cases b with
    | false => exact h1
    | true => exact h2 (hf rfl)
  obtain ⟨K, hK⟩ := this
  exact ⟨K, hK K (Nat.le_refl _)⟩
end Go.Proofs.Ytmfkjanfnmplnaa.TPure
