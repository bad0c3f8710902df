/- An array of two numbers, as an argument of a law, opened. -/
import Derived.Test.YtmfkjanfnmplnaaTOpen
import Derived.OpenShut
namespace Go.Proofs.Ytmfkjanfnmplnaa.TOpen
open Go Go.ChangeShapes Go.WideShapes

theorem open_two {H : Type} {enc : TypeId × Value → H} {w : World} {base : Nat} {spare : Nat → Bool} {held : Bool} {r : Reach} {b0 : Nat} {v : Value} {d : DataW H} {ps : List MemPlace}
    (hv : Value.okWide Try.prog w r b0 23 v) (h : DataW.Trod enc Try.prog w base spare held 23 v d ps) : ∃ x0 x1 : Int, v = .agg #[.int .i64 x0, .int .i64 x1] := by
  simp only [Value.okWide, Try.underlying23] at hv
  obtain ⟨cs, rfl, h2, _⟩ := hv
  obtain ⟨fuel, hf⟩ := h
  obtain ⟨xs, m, _, _, hlen, hxl, hel⟩ := DataW.trod_array Try.underlying23 hf
  rw [show Try.prog.cellsOf 23 = 2 by kernel_rfl] at hlen
  obtain ⟨l⟩ := cs
  simp only [Value.cells] at hlen hel
  match l, hlen, xs, hxl with
  | [v0, v1], _, [y0, y1], _ =>
    have g0 := hel 0 (by omega)
    have g1 := hel 1 (by omega)
    simp [cells3] at g0 g1
    obtain ⟨n0, e0, _, _⟩ := DataW.trod_int Try.underlying3 g0
    obtain ⟨n1, e1, _, _⟩ := DataW.trod_int Try.underlying3 g1
    simp only [List.cons.injEq, and_true] at e0 e1
    exact ⟨n0, n1, by rw [e0, e1]⟩
end Go.Proofs.Ytmfkjanfnmplnaa.TOpen
