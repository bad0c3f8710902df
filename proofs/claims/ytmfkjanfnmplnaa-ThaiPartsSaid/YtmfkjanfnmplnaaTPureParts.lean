/- ThaiParts, as plain Lean. -/
import Derived.Test.YtmfkjanfnmplnaaXT3
import Derived.Test.YtmfkjanfnmplnaaTPure0
namespace Go.Proofs.Ytmfkjanfnmplnaa.TPure
open Go Go.RowKit Go.Proofs.YtmfkjanfnmplnaaW.PrintWords Go.Proofs.YtmfkjanfnmplnaaW.PrintLast Go.Proofs.YtmfkjanfnmplnaaW.PrintMore
open Go.Proofs.Ytmfkjanfnmplnaa.XT Go.Proofs.Ytmfkjanfnmplnaa.TE Go.Proofs.Ytmfkjanfnmplnaa.TF Go.Proofs.Ytmfkjanfnmplnaa.ThaiMath Go.Proofs.Ytmfkjanfnmplnaa.TP Go.Proofs.Ytmfkjanfnmplnaa.TPf
set_option linter.unusedVariables false

theorem twin_l0 : ∀ k n l out a, scansionref20_Parts.l0 k n l out a = thai_Parts.l0 k n l out a
  | 0, _, _, _, _ => rfl
  | k + 1, n, l, out, a => by
    simp only [scansionref20_Parts.l0, thai_Parts.l0, twin_l0 k]
theorem twin_f (k : Nat) (n : Int) (l : List S39) : scansionref20_Parts.f k n l = thai_Parts.f k n l := by
  unfold scansionref20_Parts.f thai_Parts.f
  simp only [twin_l0]

theorem parts_any (n : Int) (l : List S39) (hl : l.length ≤ 9223372036854775807) : ∃ r : List Int × Int, Ev (fun k => thai_Parts.f k n l) r ∧ r.1.length ≤ 5001 := by
  rcases parts_f n l hl with ⟨_, h⟩ | ⟨hR, ts, hp, hlen, h⟩
  · exact ⟨_, h, by simp⟩
  · exact ⟨_, h, by have := hR.2.1; simp; omega⟩

theorem thaiParts (n : Int) (l : List S39) (hl : l.length ≤ 9223372036854775807) : ∃ k, scansionlaw20_ThaiParts.f k n l = some true := by
  refine frame (j := fun k t u => scansionlaw20_ThaiParts.j0 k n l t u) n l (fun k => rfl) ?_ ?_
  · exact Ev.step (f := fun _ => some true) (fun k => by simp only [scansionlaw20_ThaiParts.j0]; rw [if_pos trivial]) (Ev.now _)
  · intro _
    obtain ⟨r, hr, hlen⟩ := parts_any n l hl
    refine Ev.step (f := fun k => (thai_Parts.f k n l).bind fun bt148 => ((scansionref20_Parts.f k n l).bind fun bt152 => ((scansionref01_SameInts.f k bt148.1 bt152.1).bind fun t156 => (if t156 = true then (some (bt148.2 == bt152.2)) else (some false))))) (fun k => by simp only [scansionlaw20_ThaiParts.j0]; rw [if_neg (by simp)]) ?_
    refine Ev.bind hr (Ev.bind (Ev.congr (fun k => twin_f k n l) hr) (Ev.bind (same_f _ _ (by omega)) (Ev.congr (fun k => ?_) (Ev.now true))))
    rw [decide_eq_true rfl, if_pos rfl]; simp
end Go.Proofs.Ytmfkjanfnmplnaa.TPure
