/- cmp.Or of two numbers; which of two places is better; the best one of a row. -/
import Derived.Test.YtmfkjanfnmplnaaTReach
import Derived.Test.YtmfkjanfnmplnaaShelf
import Derived.StillTailTactics
namespace Go.Proofs.Ytmfkjanfnmplnaa.TB
open Go Go.RowKit Go.Proofs.YtmfkjanfnmplnaaW.PrintWords Go.Proofs.YtmfkjanfnmplnaaW.PrintLast
open Go.Proofs.Ytmfkjanfnmplnaa.ML Go.Proofs.Ytmfkjanfnmplnaa.TG Go.Proofs.Ytmfkjanfnmplnaa.XT Go.Proofs.Ytmfkjanfnmplnaa.TE Go.Proofs.Ytmfkjanfnmplnaa.TF Go.Proofs.Ytmfkjanfnmplnaa.ThaiMath Go.Proofs.Ytmfkjanfnmplnaa.TR
set_option linter.unusedVariables false
set_option linter.unusedSimpArgs false

/-- cmp.Or of two numbers. -/
def orS (x y : Int) : Int := if x = 0 then y else x
theorem or_calls (g : Nat) (x y : Int) (w : World) (c0 : w.cell? ⟨g, 0, none⟩ = some (.int .i64 x)) (c1 : w.cell? ⟨g, 1, none⟩ = some (.int .i64 y)) :
    Calls Try.prog 29 #[.slice (some ⟨g, 0, none⟩) 2 2] w fun e w' => e = .returned (.int .i64 (orS x y)) ∧ w = w' := by
  go_enter Try.func29, Try.ntmps29
  go_wp2_with fail
  go_loop [8] (fun v8 => ∃ j : Nat, j ≤ 2 ∧ v8 = .int .i64 j ∧ Aside0 (1 ≤ j → x = 0) ∧ Aside0 (2 ≤ j → y = 0)) (fun i => 2 - (intOf i).toNat)
  case atStart => exact ⟨0, by omega, rfl, ⟨by omega⟩, ⟨by omega⟩⟩
  case round =>
    obtain ⟨j, hj, rfl, H1, H2⟩ := hrel
    by_cases h0 : j = 0
    · subst h0
      by_cases hx : x = 0
      · have hb : (x != 0) = false := by simpa using hx
        have HX := Aside0.mk hx
        clear hx
        go_wp2_with fail
        go_round
        case rel => exact ⟨1, by omega, rfl, ⟨fun _ => HX.out⟩, ⟨by omega⟩⟩
        case measure => simp [intOf]
      · have hb : (x != 0) = true := by simpa using hx
        have HX := Aside0.mk hx
        clear hx
        go_wp2_with fail
        go_ret
        exact ⟨by unfold orS; rw [if_neg HX.out]; rfl, rfl⟩
    · by_cases h1 : j = 1
      · subst h1
        by_cases hy : y = 0
        · have hb : (y != 0) = false := by simpa using hy
          have HX := Aside0.mk hy
          clear hy h0
          go_wp2_with fail
          go_round
          case rel => exact ⟨2, by omega, rfl, ⟨fun _ => H1.out (by omega)⟩, ⟨fun _ => HX.out⟩⟩
          case measure => simp [intOf]
        · have hb : (y != 0) = true := by simpa using hy
          have HX := Aside0.mk hy
          clear hy h0
          go_wp2_with fail
          go_ret
          exact ⟨by unfold orS; rw [if_pos (H1.out (by omega))]; rfl, rfl⟩
      · obtain rfl : j = 2 := by omega
        have e := H1.out (by omega)
        have e2 := H2.out (by omega)
        have HX := Aside0.mk (show orS x y = 0 from by unfold orS; rw [if_pos e, e2])
        clear e e2 h0 h1
        go_wp2_with fail
        go_ret
        exact ⟨by rw [HX.out]; rfl, rfl⟩

/-- 'better': which of two places is the better one -/
def betS (l : List S39) (x y : Int) : Int := orS (Lib.compareInt (reachS (wsOf l) 2 x) (reachS (wsOf l) 2 y)) (Lib.compareInt x y)

theorem EndsMap.below {w w1 : World} {B b : Nat} {l : List S39} (h : EndsMap w B b l) (hb : Below w.heap.size w w1) : EndsMap w1 B b l := by
  obtain ⟨m, hG⟩ := h
  exact ⟨m, hG.grown (grown_of_below hb none) (by simp) (fun x v hv => by obtain ⟨g, hg⟩ := own_some (hG.row x v hv).2 (hG.row x v hv).1; simp [hg])⟩
theorem EndsMap.drew {w : World} {B b : Nat} {l : List S39} (h : EndsMap w B b l) : EndsMap w.drew B b l := EndsMap.below h (below_drew (Below.refl _ _))

theorem reach2 (l : List S39) (B b : Nat) (hl : ∀ s ∈ l, 0 ≤ s.f1 ∧ s.f1 ≤ 5000) (x : Int) (w : World) (hE : EndsMap w B b l) (h0 : 0 ≤ x) (h1 : x ≤ 5000) :
    Calls Try.prog 31 #[.map (some b), .int .i64 x, .int .i64 2] w fun e w' => e = .returned (.int .i64 (reachS (wsOf l) 2 x)) ∧ w' = w :=
  (reach_calls l B b hl 2 x w hE h0 h1 (by omega)).mono fun _ _ h => ⟨h.1, h.2.symm⟩

set_option maxHeartbeats 400000 in
theorem better_calls (l : List S39) (B b : Nat) (hl : ∀ s ∈ l, 0 ≤ s.f1 ∧ s.f1 ≤ 5000) (g : Nat) (x y : Int) (w : World) (hE : EndsMap w B b l) (hc : w.cell? ⟨g, 0, none⟩ = some (.map (some b))) (hx0 : 0 ≤ x) (hx1 : x ≤ 5000) (hy0 : 0 ≤ y) (hy1 : y ≤ 5000) :
    Calls Try.prog 28 #[.int .i64 x, .int .i64 y, .pointer (some ⟨g, 0, none⟩)] w fun e w' => e = .returned (.int .i64 (betS l x y)) ∧ Below w.heap.size w w' := by
  have HE := Aside0.mk hE
  have HL := Aside0.mk hl
  clear hE hl
  have HE2 := Aside0.mk (EndsMap.drew HE.out)
  have hc2 : w.drew.cell? ⟨g, 0, none⟩ = some (.map (some b)) := hc
  have HB2 := Aside0.mk (below_drew (Below.refl w.heap.size w))
  clear HE hc
  go_enter Try.func28, Try.ntmps28
  go_wp2_with fail
  refine wp_region_still_tail 10 (by kernel_rfl) (by kernel_rfl) ?_
  simp only [List.take_succ_cons, List.take_zero, List.drop_succ_cons, List.drop_zero]
  have hw2 : ({ heap := w.heap, tape := w.tape, drawn := w.drawn + 1, os := w.os, output := w.output } : World) = w.drew := rfl
  rw [hw2]
  clear hw2
  generalize w.drew = w2 at HE2 hc2 HB2 ⊢
  still_step
  still_step
  still_call (reach2 l B b HL.out x w2 HE2.out hx0 hx1)
  still_step
  still_step
  still_call (reach2 l B b HL.out y w2 HE2.out hy0 hy1)
  still_call (Try.cmp_Compare_int _ _ w2)
  still_step
  still_step
  still_call (Try.cmp_Compare_int _ _ w2)
  refine wpStill_nil ?_
  have HR := Aside0.mk (show betS l x y = orS (Lib.compareInt (reachS (wsOf l) 2 x) (reachS (wsOf l) 2 y)) (Lib.compareInt x y) from rfl)
  generalize Lib.compareInt (reachS (wsOf l) 2 x) (reachS (wsOf l) 2 y) = p at HR ⊢
  generalize Lib.compareInt x y = q at HR ⊢
  go_wp2_with fail
  refine (or_calls _ p q _ (by go_simp) (by go_simp)).mono ?_
  rintro e w' ⟨rfl, rfl⟩
  go_wp2_with fail
  go_ret
  exact ⟨ret_int HR.out.symm, HB2.out.alloc HB2.out.size _⟩
end Go.Proofs.Ytmfkjanfnmplnaa.TB
