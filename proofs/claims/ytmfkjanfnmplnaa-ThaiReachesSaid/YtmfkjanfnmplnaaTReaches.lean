/- ThaiReaches: its function, walked. -/
import Derived.Test.YtmfkjanfnmplnaaXT7
import Derived.Test.YtmfkjanfnmplnaaTPf2
import Derived.Test.YtmfkjanfnmplnaaTPure0
import Derived.Outline
namespace Go.Proofs.Ytmfkjanfnmplnaa.TReaches
open Go Go.RowKit Go.Proofs.YtmfkjanfnmplnaaW.PrintWords Go.Proofs.YtmfkjanfnmplnaaW.PrintLast Go.Proofs.YtmfkjanfnmplnaaW.PrintMore
open Go.Proofs.Ytmfkjanfnmplnaa.XT Go.Proofs.Ytmfkjanfnmplnaa.TE Go.Proofs.Ytmfkjanfnmplnaa.TF Go.Proofs.Ytmfkjanfnmplnaa.ThaiMath Go.Proofs.Ytmfkjanfnmplnaa.TP Go.Proofs.Ytmfkjanfnmplnaa.TPf Go.Proofs.Ytmfkjanfnmplnaa.TR Go.Proofs.Ytmfkjanfnmplnaa.TPf2
set_option linter.unusedVariables false
set_option linter.unusedSimpArgs false

set_option maxHeartbeats 400000 in
theorem reaches_walk (n : Int) (A1 : Option Addr) (c1 : Nat) (l : List S39) (x0 x1 : Int) (w : World) (hr1 : Kd.C k39 w A1 l.length l) (hc1 : l.length ≤ c1) :
    Calls Try.prog 8 #[.int .i64 n, .slice A1 l.length c1, .agg #[.int .i64 x0, .int .i64 x1]] w fun e w' => e = .returned (.bool true) ∧ Below w.heap.size w w' := by
  obtain ⟨ka, hka0⟩ := TPure.awake_ev
  have hka := Aside0.mk (hka0 ka (Nat.le_refl _))
  obtain ⟨b, hfew0, _⟩ := TPure.few_f n l
  have hfew := Aside0.mk hfew0
  obtain ⟨r, k, hk1⟩ : ∃ (r : Int × Int) (k : Nat), thai_Reach.f k n l x0 x1 = some (r.1, r.2) := by
    rcases reach_ev n l hr1.2.1 x0 x1 with ⟨_, K, hK⟩ | ⟨_, K, hK⟩
    · exact ⟨(0, 1), K, hK K (Nat.le_refl _)⟩
    · exact ⟨(_, 0), K, hK K (Nat.le_refl _)⟩
  have hk2 : scansionref20_Reach.f k n l x0 x1 = some (r.1, r.2) := hk1
  have K1 := Aside0.mk hk1
  have K2 := Aside0.mk hk2
  have HR1 := Aside0.mk hr1
  have HC1 := Aside0.mk hc1
  clear hr1 hc1 hk1 hk2 hfew0 hka0
  go_enter Try.func8, Try.ntmps8
  go_wp2_with fail
  refine (scansionlaw20_awake.calls ka true _ hka.out).mono ?_
  rintro e w1 ⟨rfl, hb1⟩
  have y0 : w1.cell? ⟨w.heap.size, 0, none⟩ = some (.int .i64 x0) := (hb1.cell (by show w.heap.size < (w.alloc _).heap.size; simp)).trans (by go_simp)
  have y1 : w1.cell? ⟨w.heap.size, 1, none⟩ = some (.int .i64 x1) := (hb1.cell (by show w.heap.size < (w.alloc _).heap.size; simp)).trans (by go_simp)
  have HB := Aside0.mk (show Below w.heap.size w w1 from below_step (by repeat (first | exact Below.refl _ _ | apply below_alloc)) hb1)
  have L1 := Aside0.mk (show w.heap.size < w1.heap.size from by have := hb1.size; simp at this; omega)
  clear hb1
  go_wp2_with fail
  refine (scansionlaw20_few.calls n A1 c1 l b _ (Kd.C_below HR1.out HB.out) HC1.out hfew.out).mono ?_
  rintro e w' ⟨rfl, nd, rfl⟩
  cases b with
  | false =>
    go_wp2_with fail
    go_ret
    exact ⟨rfl, pw_below_drewN HB.out _⟩
  | true =>
    go_wp2_with fail
    refine (thai_Reach.calls k n A1 c1 l x0 x1 r.1 r.2 _ (Kd.C_drewN (Kd.C_below HR1.out HB.out) _) HC1.out K1.out).mono ?_
    rintro e w2 ⟨rfl, hb2⟩
    have hsz : (w1.drewN nd).heap.size = w1.heap.size := rfl
    have y2 : w2.cell? ⟨w.heap.size, 0, none⟩ = some (.int .i64 x0) := (hb2.cell (by rw [hsz]; exact L1.out)).trans y0
    have y3 : w2.cell? ⟨w.heap.size, 1, none⟩ = some (.int .i64 x1) := (hb2.cell (by rw [hsz]; exact L1.out)).trans y1
    have HB2 := Aside0.mk (show Below w.heap.size w w2 from below_step (pw_below_drewN HB.out nd) hb2)
    clear hb2 y0 y1
    go_wp2_with fail
    refine (scansionref20_Reach.calls k n A1 c1 l x0 x1 r.1 r.2 _ (Kd.C_below HR1.out HB2.out) HC1.out K2.out).mono ?_
    rintro e w3 ⟨rfl, hb3⟩
    have HB3 := Aside0.mk (show Below w.heap.size w w3 from below_step HB2.out hb3)
    clear hb3 y2 y3
    go_wp2_with fail
    go_ret
    exact ⟨by simp, HB3.out⟩
end Go.Proofs.Ytmfkjanfnmplnaa.TReaches
