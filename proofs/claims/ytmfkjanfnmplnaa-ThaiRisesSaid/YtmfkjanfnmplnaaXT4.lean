-- written by a program of this session's over the kit's print
import Derived.Test.YtmfkjanfnmplnaaXT0
import Derived.Test.YtmfkjanfnmplnaaXT2b
namespace Go.Proofs.Ytmfkjanfnmplnaa.XT
open Go.RowKit Go.Proofs.YtmfkjanfnmplnaaW.PrintWords Go.Proofs.YtmfkjanfnmplnaaW.PrintLast Go.Proofs.YtmfkjanfnmplnaaW.PrintMore
attribute [local go_sem] max2_int min2_int max_two min_two max_three min_three max_four min_four   -- for this text's walks alone
set_option linter.unusedVariables false
set_option linter.unusedSimpArgs false

/-! ### scansionlaw20_ThaiRises: function 5 -/
mutual
def scansionlaw20_ThaiRises.j0 : Nat → Int → List (S39) → Bool → Bool → Option (Bool)
  | 0, _, _, _, _ => none
  | k + 1, x0, x1, x5, x22 => if x22 = true then (some x5) else ((thai_Parts.f k x0 x1).bind fun bt159 => (if bt159.2 = 0 then (if (bt159.1.length : Int) = 0 then (scansionlaw20_ThaiRises.j1 k x1 bt159.1 true) else (if 0 < (bt159.1.length : Int) then (if (rd bt159.1 0) = 0 then (if 0 ≤ (wrap64 ((bt159.1.length : Int) - 1)) then (if (wrap64 ((bt159.1.length : Int) - 1)) < (bt159.1.length : Int) then (scansionlaw20_ThaiRises.j1 k x1 bt159.1 ((rd bt159.1 (wrap64 ((bt159.1.length : Int) - 1))) != x0)) else (none)) else (none)) else (scansionlaw20_ThaiRises.j1 k x1 bt159.1 true)) else (none))) else (if bt159.2 = 1 then (some ((bt159.1.length : Int) == 0)) else (some false))))
def scansionlaw20_ThaiRises.j1 : Nat → List (S39) → List Int → Bool → Option (Bool)
  | 0, _, _, _ => none
  | k + 1, x1, x7, x57 => if x57 = true then (some false) else (scansionlaw20_ThaiRises.l0 k x1 x7 1)
def scansionlaw20_ThaiRises.l0 : Nat → List (S39) → List Int → Int → Option (Bool)
  | 0, _, _, _ => none
  | k + 1, x1, x7, x9 => if x9 < (x7.length : Int) then (scansionlaw20_ThaiRises.l1 k x1 x7 x9 false false 0) else (some true)
def scansionlaw20_ThaiRises.l1 : Nat → List (S39) → List Int → Int → Bool → Bool → Int → Option (Bool)
  | 0, _, _, _, _, _, _ => none
  | k + 1, x1, x7, x9, x10, x11, x12 => if x12 < (x1.length : Int) then (if x10 = true then (if x11 = true then (scansionlaw20_ThaiRises.l1 k x1 x7 x9 true true (wrap64 (x12 + 1))) else (if 0 ≤ x12 then (if 0 ≤ (wrap64 (x9 - 1)) then (if (wrap64 (x9 - 1)) < (x7.length : Int) then (if ((rd_T39 x1 x12).f0) ≥ (rd x7 (wrap64 (x9 - 1))) then (if 0 ≤ x9 then (if x9 < (x7.length : Int) then (scansionlaw20_ThaiRises.l1 k x1 x7 x9 true (decide (((rd_T39 x1 x12).f0) < (rd x7 x9))) (wrap64 (x12 + 1))) else (none)) else (none)) else (scansionlaw20_ThaiRises.l1 k x1 x7 x9 true false (wrap64 (x12 + 1)))) else (none)) else (none)) else (none))) else (if 0 ≤ x12 then (if 0 ≤ (wrap64 (x9 - 1)) then (if (wrap64 (x9 - 1)) < (x7.length : Int) then (if ((rd_T39 x1 x12).f0) = (rd x7 (wrap64 (x9 - 1))) then (if 0 ≤ x9 then (if x9 < (x7.length : Int) then (if x11 = true then (scansionlaw20_ThaiRises.l1 k x1 x7 x9 (((rd_T39 x1 x12).f1) == (rd x7 x9)) true (wrap64 (x12 + 1))) else (if ((rd_T39 x1 x12).f0) ≥ (rd x7 (wrap64 (x9 - 1))) then (scansionlaw20_ThaiRises.l1 k x1 x7 x9 (((rd_T39 x1 x12).f1) == (rd x7 x9)) (decide (((rd_T39 x1 x12).f0) < (rd x7 x9))) (wrap64 (x12 + 1))) else (scansionlaw20_ThaiRises.l1 k x1 x7 x9 (((rd_T39 x1 x12).f1) == (rd x7 x9)) false (wrap64 (x12 + 1))))) else (none)) else (none)) else (if x11 = true then (scansionlaw20_ThaiRises.l1 k x1 x7 x9 false true (wrap64 (x12 + 1))) else (if ((rd_T39 x1 x12).f0) ≥ (rd x7 (wrap64 (x9 - 1))) then (if 0 ≤ x9 then (if x9 < (x7.length : Int) then (scansionlaw20_ThaiRises.l1 k x1 x7 x9 false (decide (((rd_T39 x1 x12).f0) < (rd x7 x9))) (wrap64 (x12 + 1))) else (none)) else (none)) else (scansionlaw20_ThaiRises.l1 k x1 x7 x9 false false (wrap64 (x12 + 1)))))) else (none)) else (none)) else (none))) else (if 0 ≤ x9 then (if x9 < (x7.length : Int) then (if 0 ≤ (wrap64 (x9 - 1)) then (if (wrap64 (x9 - 1)) < (x7.length : Int) then (if (rd x7 x9) ≤ (rd x7 (wrap64 (x9 - 1))) then (some false) else (if x10 = true then (scansionlaw20_ThaiRises.l0 k x1 x7 (wrap64 (x9 + 1))) else (if x11 = true then (some false) else (scansionlaw20_ThaiRises.l0 k x1 x7 (wrap64 (x9 + 1)))))) else (none)) else (none)) else (none)) else (none))
end
def scansionlaw20_ThaiRises.f (k : Nat) (a0 : Int) (l1 : List (S39)) : Option (Bool) := (scansionlaw20_awake.f k).bind fun t157 => ((scansionlaw20_few.f a0 l1).bind fun t158 => (if t157 = true then (scansionlaw20_ThaiRises.j0 k a0 l1 t157 (!t158)) else (scansionlaw20_ThaiRises.j0 k a0 l1 t157 true)))
theorem scansionlaw20_ThaiRises.mono_l : ∀ k, (∀ y0 y1 y2 y3, LeO (scansionlaw20_ThaiRises.j0 k y0 y1 y2 y3) (scansionlaw20_ThaiRises.j0 (k + 1) y0 y1 y2 y3)) ∧ (∀ y0 y1 y2, LeO (scansionlaw20_ThaiRises.j1 k y0 y1 y2) (scansionlaw20_ThaiRises.j1 (k + 1) y0 y1 y2)) ∧ (∀ y0 y1 y2, LeO (scansionlaw20_ThaiRises.l0 k y0 y1 y2) (scansionlaw20_ThaiRises.l0 (k + 1) y0 y1 y2)) ∧ (∀ y0 y1 y2 y3 y4 y5, LeO (scansionlaw20_ThaiRises.l1 k y0 y1 y2 y3 y4 y5) (scansionlaw20_ThaiRises.l1 (k + 1) y0 y1 y2 y3 y4 y5))
  | 0 => ⟨fun _ _ _ _ r h => by simp [scansionlaw20_ThaiRises.j0] at h, fun _ _ _ r h => by simp [scansionlaw20_ThaiRises.j1] at h, fun _ _ _ r h => by simp [scansionlaw20_ThaiRises.l0] at h, fun _ _ _ _ _ _ r h => by simp [scansionlaw20_ThaiRises.l1] at h⟩
  | k + 1 => by
    obtain ⟨ih0, ih1, ih2, ih3⟩ := scansionlaw20_ThaiRises.mono_l k
    refine ⟨?_, ?_, ?_, ?_⟩
    · intro y0 y1 y2 y3
      unfold scansionlaw20_ThaiRises.j0
      repeat' first
      | (with_reducible exact ih0 _ _ _ _)
      | (with_reducible exact ih1 _ _ _)
      | (with_reducible exact ih2 _ _ _)
      | (with_reducible exact ih3 _ _ _ _ _ _)
      | (with_reducible exact scansionlaw20_awake.mono _)
      | (with_reducible exact thai_Parts.mono _ _ _)
      | (with_reducible exact LeO.refl _)
      | (with_reducible exact LeO.none _)
      | (with_reducible refine LeO.ite ?_ ?_)
      | (with_reducible refine LeO.bind ?_ (fun _ => ?_))
      | exact ih0 _ _ _ _
      | exact ih1 _ _ _
      | exact ih2 _ _ _
      | exact ih3 _ _ _ _ _ _
      | exact scansionlaw20_awake.mono _
      | exact thai_Parts.mono _ _ _
      | exact LeO.none _
      | refine LeO.ite ?_ ?_
      | refine LeO.bind ?_ (fun _ => ?_)
    · intro y0 y1 y2
      unfold scansionlaw20_ThaiRises.j1
      repeat' first
      | (with_reducible exact ih0 _ _ _ _)
      | (with_reducible exact ih1 _ _ _)
      | (with_reducible exact ih2 _ _ _)
      | (with_reducible exact ih3 _ _ _ _ _ _)
      | (with_reducible exact scansionlaw20_awake.mono _)
      | (with_reducible exact thai_Parts.mono _ _ _)
      | (with_reducible exact LeO.refl _)
      | (with_reducible exact LeO.none _)
      | (with_reducible refine LeO.ite ?_ ?_)
      | (with_reducible refine LeO.bind ?_ (fun _ => ?_))
      | exact ih0 _ _ _ _
      | exact ih1 _ _ _
      | exact ih2 _ _ _
      | exact ih3 _ _ _ _ _ _
      | exact scansionlaw20_awake.mono _
      | exact thai_Parts.mono _ _ _
      | exact LeO.none _
      | refine LeO.ite ?_ ?_
      | refine LeO.bind ?_ (fun _ => ?_)
    · intro y0 y1 y2
      unfold scansionlaw20_ThaiRises.l0
      repeat' first
      | (with_reducible exact ih0 _ _ _ _)
      | (with_reducible exact ih1 _ _ _)
      | (with_reducible exact ih2 _ _ _)
      | (with_reducible exact ih3 _ _ _ _ _ _)
      | (with_reducible exact scansionlaw20_awake.mono _)
      | (with_reducible exact thai_Parts.mono _ _ _)
      | (with_reducible exact LeO.refl _)
      | (with_reducible exact LeO.none _)
      | (with_reducible refine LeO.ite ?_ ?_)
      | (with_reducible refine LeO.bind ?_ (fun _ => ?_))
      | exact ih0 _ _ _ _
      | exact ih1 _ _ _
      | exact ih2 _ _ _
      | exact ih3 _ _ _ _ _ _
      | exact scansionlaw20_awake.mono _
      | exact thai_Parts.mono _ _ _
      | exact LeO.none _
      | refine LeO.ite ?_ ?_
      | refine LeO.bind ?_ (fun _ => ?_)
    · intro y0 y1 y2 y3 y4 y5
      unfold scansionlaw20_ThaiRises.l1
      repeat' first
      | (with_reducible exact ih0 _ _ _ _)
      | (with_reducible exact ih1 _ _ _)
      | (with_reducible exact ih2 _ _ _)
      | (with_reducible exact ih3 _ _ _ _ _ _)
      | (with_reducible exact scansionlaw20_awake.mono _)
      | (with_reducible exact thai_Parts.mono _ _ _)
      | (with_reducible exact LeO.refl _)
      | (with_reducible exact LeO.none _)
      | (with_reducible refine LeO.ite ?_ ?_)
      | (with_reducible refine LeO.bind ?_ (fun _ => ?_))
      | exact ih0 _ _ _ _
      | exact ih1 _ _ _
      | exact ih2 _ _ _
      | exact ih3 _ _ _ _ _ _
      | exact scansionlaw20_awake.mono _
      | exact thai_Parts.mono _ _ _
      | exact LeO.none _
      | refine LeO.ite ?_ ?_
      | refine LeO.bind ?_ (fun _ => ?_)
theorem scansionlaw20_ThaiRises.mono : ∀ a0 a1 k, LeO (scansionlaw20_ThaiRises.f k a0 a1) (scansionlaw20_ThaiRises.f (k + 1) a0 a1) := by
  intro a0 a1 k
  obtain ⟨ih0, ih1, ih2, ih3⟩ := scansionlaw20_ThaiRises.mono_l k
  unfold scansionlaw20_ThaiRises.f
  repeat' first
      | (with_reducible exact ih0 _ _ _ _)
      | (with_reducible exact ih1 _ _ _)
      | (with_reducible exact ih2 _ _ _)
      | (with_reducible exact ih3 _ _ _ _ _ _)
      | (with_reducible exact scansionlaw20_awake.mono _)
      | (with_reducible exact thai_Parts.mono _ _ _)
      | (with_reducible exact LeO.refl _)
      | (with_reducible exact LeO.none _)
      | (with_reducible refine LeO.ite ?_ ?_)
      | (with_reducible refine LeO.bind ?_ (fun _ => ?_))
      | exact ih0 _ _ _ _
      | exact ih1 _ _ _
      | exact ih2 _ _ _
      | exact ih3 _ _ _ _ _ _
      | exact scansionlaw20_awake.mono _
      | exact thai_Parts.mono _ _ _
      | exact LeO.none _
      | refine LeO.ite ?_ ?_
      | refine LeO.bind ?_ (fun _ => ?_)
set_option maxHeartbeats 8000000 in
set_option maxRecDepth 100000 in
theorem scansionlaw20_ThaiRises.calls (k : Nat) (a0 : Int) (A1 : Option Addr) (c1 : Nat) (l1 : List (S39)) (r : Bool) (w : World) (hr1 : Kd.C k39 w A1 l1.length l1) (hc1 : l1.length ≤ c1) (h : scansionlaw20_ThaiRises.f k a0 l1 = some r) :
    Calls Try.prog 5 #[.int .i64 a0, .slice A1 l1.length c1] w fun e w' => e = .returned (.bool r) ∧ Below w.heap.size w w' := by
  have HR1 := Aside0.mk hr1
  have HC1 := Aside0.mk hc1
  clear hr1 hc1
  have HB := Aside0.mk (Below.refl w.heap.size w)
  have H : ((scansionlaw20_awake.f k).bind fun t157 => ((scansionlaw20_few.f a0 l1).bind fun t158 => (if t157 = true then (scansionlaw20_ThaiRises.j0 k a0 l1 t157 (!t158)) else (scansionlaw20_ThaiRises.j0 k a0 l1 t157 true)))) = some r := h
  clear h
  replace H := Option.bind_eq_some_iff.mp H
  obtain ⟨t157, A30, H⟩ := H
  replace H : ((scansionlaw20_few.f a0 l1).bind fun t158 => (if t157 = true then (scansionlaw20_ThaiRises.j0 k a0 l1 t157 (!t158)) else (scansionlaw20_ThaiRises.j0 k a0 l1 t157 true))) = some r := H
  have A3 := Aside0.mk A30
  clear A30
  replace H := Option.bind_eq_some_iff.mp H
  obtain ⟨t158, A40, H⟩ := H
  replace H : (if t157 = true then (scansionlaw20_ThaiRises.j0 k a0 l1 t157 (!t158)) else (scansionlaw20_ThaiRises.j0 k a0 l1 t157 true)) = some r := H
  have A4 := Aside0.mk A40
  clear A40
  have HC5 := Aside0.mk H
  clear H
  go_enter Try.func5, Try.ntmps5
  go_upto_region 3 with (first | (go_at_call 15; (with_reducible refine (scansionlaw20_awake.calls k  t157 _ A3.out).mono ?_); rintro e w6 ⟨rfl, hb⟩; have n0_ := Aside0.mk (below_step (by repeat (first | (with_reducible first | exact HB.out | apply below_alloc | apply pw_below_drewN | apply below_drew1) | exact HB.out)) hb); clear HB; have HB := n0_; clear n0_; (try clear hb); (try clear hb2); (try clear hk); (try clear hi)) | (go_at_call 16; (with_reducible refine (scansionlaw20_few.calls a0 _ _ l1 t158 _ ?side1 ?side2 A4.out).mono ?_); (case side1 => repeat (first | exact (Kd.C_below HR1.out HB.out) | (with_reducible refine Kd.C_alloc ?_ _) | (with_reducible refine Kd.C_drewN ?_ _) | (with_reducible refine Kd.C_drew ?_))); (case side2 => exact HC1.out); rintro e w' ⟨rfl, ⟨nd, rfl⟩⟩; (try first | exact ⟨rfl, _, World.drewN_drewN _ _ _⟩ | exact ⟨rfl, _, Eq.trans (World.drewN_drewN _ _ _) (congrArg (World.drewN _) (Nat.add_assoc _ _ _))⟩)))
  repeat (go_quiet (first | (go_at_call 15; (with_reducible refine (scansionlaw20_awake.calls k  t157 _ A3.out).mono ?_); rintro e w6 ⟨rfl, hb⟩; have n0_ := Aside0.mk (below_step (by repeat (first | (with_reducible first | exact HB.out | apply below_alloc | apply pw_below_drewN | apply below_drew1) | exact HB.out)) hb); clear HB; have HB := n0_; clear n0_; (try clear hb); (try clear hb2); (try clear hk); (try clear hi)) | (go_at_call 16; (with_reducible refine (scansionlaw20_few.calls a0 _ _ l1 t158 _ ?side1 ?side2 A4.out).mono ?_); (case side1 => repeat (first | exact (Kd.C_below HR1.out HB.out) | (with_reducible refine Kd.C_alloc ?_ _) | (with_reducible refine Kd.C_drewN ?_ _) | (with_reducible refine Kd.C_drew ?_))); (case side2 => exact HC1.out); rintro e w' ⟨rfl, ⟨nd, rfl⟩⟩; (try first | exact ⟨rfl, _, World.drewN_drewN _ _ _⟩ | exact ⟨rfl, _, Eq.trans (World.drewN_drewN _ _ _) (congrArg (World.drewN _) (Nat.add_assoc _ _ _))⟩))); go_upto_region 3 with (first | (go_at_call 15; (with_reducible refine (scansionlaw20_awake.calls k  t157 _ A3.out).mono ?_); rintro e w6 ⟨rfl, hb⟩; have n0_ := Aside0.mk (below_step (by repeat (first | (with_reducible first | exact HB.out | apply below_alloc | apply pw_below_drewN | apply below_drew1) | exact HB.out)) hb); clear HB; have HB := n0_; clear n0_; (try clear hb); (try clear hb2); (try clear hk); (try clear hi)) | (go_at_call 16; (with_reducible refine (scansionlaw20_few.calls a0 _ _ l1 t158 _ ?side1 ?side2 A4.out).mono ?_); (case side1 => repeat (first | exact (Kd.C_below HR1.out HB.out) | (with_reducible refine Kd.C_alloc ?_ _) | (with_reducible refine Kd.C_drewN ?_ _) | (with_reducible refine Kd.C_drew ?_))); (case side2 => exact HC1.out); rintro e w' ⟨rfl, ⟨nd, rfl⟩⟩; (try first | exact ⟨rfl, _, World.drewN_drewN _ _ _⟩ | exact ⟨rfl, _, Eq.trans (World.drewN_drewN _ _ _) (congrArg (World.drewN _) (Nat.add_assoc _ _ _))⟩))))
  (try simp only [Act.put, List.setIfInBounds_toArray, List.set_cons_zero, List.set_cons_succ])
  go_cut [22] (fun v22 wc => ∃ (kq : Nat) (x22_4 : Bool), v22 = .bool x22_4 ∧ Aside0 (scansionlaw20_ThaiRises.j0 kq a0 l1 t157 x22_4 = some r) ∧ Aside0 (kq ≤ k) ∧ Aside0 (Below w.heap.size w wc))
  case first =>
    have H := HC5.out
    clear HC5
    by_cases c7 : t157 = true
    · subst c7
      have H1 : (scansionlaw20_ThaiRises.j0 k a0 l1 true (!t158)) = some r := by rw [if_pos rfl] at H; exact H
      clear H
      have H := H1
      clear H1
      have H' := Aside0.mk H
      clear H
      go_wp2
      repeat (go_quiet (fail); try go_wp2)
      go_meet
      case rel => exact ⟨_, (!t158), (by first | rfl | (simp; done) | (simp [*]; done)), H', ⟨by first | omega | exact Nat.le_refl _⟩, ⟨by repeat (first | (with_reducible first | exact HB.out | apply below_alloc | apply pw_below_drewN | apply below_drew1) | exact HB.out)⟩⟩
    · replace c7 := Bool.eq_false_iff.mpr c7
      subst c7
      have H1 : (scansionlaw20_ThaiRises.j0 k a0 l1 false true) = some r := by rw [if_neg (show ¬ (false = true) by decide)] at H; exact H
      clear H
      have H := H1
      clear H1
      have H' := Aside0.mk H
      clear H
      go_wp2
      repeat (go_quiet (fail); try go_wp2)
      go_meet
      case rel => exact ⟨_, (true), (by first | rfl | (simp; done) | (simp [*]; done)), H', ⟨by first | omega | exact Nat.le_refl _⟩, ⟨by repeat (first | (with_reducible first | exact HB.out | apply below_alloc | apply pw_below_drewN | apply below_drew1) | exact HB.out)⟩⟩
  case rest =>
    clear HC5
    try clear c1
    try clear p2
    try clear c5
    try clear c7
    obtain ⟨kq, x22_4, rfl, HA, HJ4, HB⟩ := hcut
    cases kq with
    | zero => exact absurd HA.out (by simp [scansionlaw20_ThaiRises.j0])
    | succ kj4 =>
      have H := HA.out
      clear HA
      simp only [scansionlaw20_ThaiRises.j0] at H
      by_cases c8 : x22_4 = true
      · subst c8
        have H1 : (some t157) = some r := by rw [if_pos rfl] at H; exact H
        clear H
        have H := H1
        clear H1
        obtain rfl := Option.some.inj H
        go_wp2
        repeat (go_quiet (fail); try go_wp2)
        go_ret
        exact ⟨by first | rfl | (simp [errW_none, errW_some] <;> rfl) | (simp [*, errW_none, errW_some] <;> rfl), by repeat (first | (with_reducible first | exact HB.out | apply below_alloc | apply pw_below_drewN | apply below_drew1) | exact HB.out)⟩
      · replace c8 := Bool.eq_false_iff.mpr c8
        subst c8
        have H1 : ((thai_Parts.f kj4 a0 l1).bind fun bt159 => (if bt159.2 = 0 then (if (bt159.1.length : Int) = 0 then (scansionlaw20_ThaiRises.j1 kj4 l1 bt159.1 true) else (if 0 < (bt159.1.length : Int) then (if (rd bt159.1 0) = 0 then (if 0 ≤ (wrap64 ((bt159.1.length : Int) - 1)) then (if (wrap64 ((bt159.1.length : Int) - 1)) < (bt159.1.length : Int) then (scansionlaw20_ThaiRises.j1 kj4 l1 bt159.1 ((rd bt159.1 (wrap64 ((bt159.1.length : Int) - 1))) != a0)) else (none)) else (none)) else (scansionlaw20_ThaiRises.j1 kj4 l1 bt159.1 true)) else (none))) else (if bt159.2 = 1 then (some ((bt159.1.length : Int) == 0)) else (some false)))) = some r := by rw [if_neg (show ¬ (false = true) by decide)] at H; exact H
        clear H
        have H := H1
        clear H1
        replace H := Option.bind_eq_some_iff.mp H
        obtain ⟨⟨t159, t160⟩, A90, H⟩ := H
        replace H : (if t160 = 0 then (if (t159.length : Int) = 0 then (scansionlaw20_ThaiRises.j1 kj4 l1 t159 true) else (if 0 < (t159.length : Int) then (if (rd t159 0) = 0 then (if 0 ≤ (wrap64 ((t159.length : Int) - 1)) then (if (wrap64 ((t159.length : Int) - 1)) < (t159.length : Int) then (scansionlaw20_ThaiRises.j1 kj4 l1 t159 ((rd t159 (wrap64 ((t159.length : Int) - 1))) != a0)) else (none)) else (none)) else (scansionlaw20_ThaiRises.j1 kj4 l1 t159 true)) else (none))) else (if t160 = 1 then (some ((t159.length : Int) == 0)) else (some false))) = some r := H
        have A9 := Aside0.mk A90
        clear A90
        by_cases c10 : t160 = 0
        · rw [if_pos c10] at H
          have c10b0 : (t160 == 0) = true := beq_iff_eq.mpr c10
          have c10b1 : (t160 != 0) = false := bne_eq_false_iff_eq.mpr c10
          clear c10
          have HC11 := Aside0.mk H
          clear H
          go_upto_region 8 with (first | (go_at_call 17; (with_reducible refine (thai_Parts.calls kj4 a0 _ _ l1 t159 t160 _ ?side1 ?side2 A9.out).mono ?_); (case side1 => repeat (first | exact (Kd.C_below HR1.out HB.out) | (with_reducible refine Kd.C_alloc ?_ _) | (with_reducible refine Kd.C_drewN ?_ _) | (with_reducible refine Kd.C_drew ?_))); (case side2 => exact HC1.out); rintro e w12 ⟨v161, rfl, ho0, hb⟩; have n0_ := Aside0.mk (Kd.R_lower ho0 (below_size (by repeat (first | (with_reducible first | exact HB.out | apply below_alloc | apply pw_below_drewN | apply below_drew1) | exact HB.out)))); have n1_ := Aside0.mk (below_step (by repeat (first | (with_reducible first | exact HB.out | apply below_alloc | apply pw_below_drewN | apply below_drew1) | exact HB.out)) hb); clear HB; have HO162 := n0_; have HB := n1_; clear n0_ n1_; (try clear hb); (try clear hb2); (try clear hk); (try clear hi); (try clear ho0)))
          repeat (go_quiet (first | (go_at_call 17; (with_reducible refine (thai_Parts.calls kj4 a0 _ _ l1 t159 t160 _ ?side1 ?side2 A9.out).mono ?_); (case side1 => repeat (first | exact (Kd.C_below HR1.out HB.out) | (with_reducible refine Kd.C_alloc ?_ _) | (with_reducible refine Kd.C_drewN ?_ _) | (with_reducible refine Kd.C_drew ?_))); (case side2 => exact HC1.out); rintro e w12 ⟨v161, rfl, ho0, hb⟩; have n0_ := Aside0.mk (Kd.R_lower ho0 (below_size (by repeat (first | (with_reducible first | exact HB.out | apply below_alloc | apply pw_below_drewN | apply below_drew1) | exact HB.out)))); have n1_ := Aside0.mk (below_step (by repeat (first | (with_reducible first | exact HB.out | apply below_alloc | apply pw_below_drewN | apply below_drew1) | exact HB.out)) hb); clear HB; have HO162 := n0_; have HB := n1_; clear n0_ n1_; (try clear hb); (try clear hb2); (try clear hk); (try clear hi); (try clear ho0))); go_upto_region 8 with (first | (go_at_call 17; (with_reducible refine (thai_Parts.calls kj4 a0 _ _ l1 t159 t160 _ ?side1 ?side2 A9.out).mono ?_); (case side1 => repeat (first | exact (Kd.C_below HR1.out HB.out) | (with_reducible refine Kd.C_alloc ?_ _) | (with_reducible refine Kd.C_drewN ?_ _) | (with_reducible refine Kd.C_drew ?_))); (case side2 => exact HC1.out); rintro e w12 ⟨v161, rfl, ho0, hb⟩; have n0_ := Aside0.mk (Kd.R_lower ho0 (below_size (by repeat (first | (with_reducible first | exact HB.out | apply below_alloc | apply pw_below_drewN | apply below_drew1) | exact HB.out)))); have n1_ := Aside0.mk (below_step (by repeat (first | (with_reducible first | exact HB.out | apply below_alloc | apply pw_below_drewN | apply below_drew1) | exact HB.out)) hb); clear HB; have HO162 := n0_; have HB := n1_; clear n0_ n1_; (try clear hb); (try clear hb2); (try clear hk); (try clear hi); (try clear ho0))))
          (try simp only [Act.put, List.setIfInBounds_toArray, List.set_cons_zero, List.set_cons_succ])
          go_cut [57] (fun v57 wc => ∃ (kq : Nat) (x57_10 : Bool), v57 = .bool x57_10 ∧ Aside0 (scansionlaw20_ThaiRises.j1 kq l1 t159 x57_10 = some r) ∧ Aside0 (kq ≤ kj4) ∧ Aside0 (Kd.R (Kd.int .i64) 3 wc w.heap.size (fun _ => True) v161 t159) ∧ Aside0 (Below w.heap.size w wc))
          case first =>
            have H := HC11.out
            clear HC11
            by_cases c13 : (t159.length : Int) = 0
            · rw [if_pos c13] at H
              have c13b0 : ((t159.length : Int) == 0) = true := beq_iff_eq.mpr c13
              have c13b1 : ((t159.length : Int) != 0) = false := bne_eq_false_iff_eq.mpr c13
              clear c13
              (first | rw [c13b0] | (simp only [i64_w, i32_w]; rw [c13b0]) | skip)
              have H' := Aside0.mk H
              clear H
              obtain ⟨Ao14, co14, eo14⟩ := Kd.R_slice HO162.out
              subst eo14
              go_wp2
              repeat (go_quiet (fail); try go_wp2)
              go_meet
              case rel => exact ⟨_, (true), (by first | rfl | (simp; done) | (simp [*]; done)), H', ⟨by have := HJ4.out; first | omega | exact Nat.le_refl _⟩, ⟨by (with_reducible repeat (first | apply Kd.R_alloc | apply Kd.R_drewN | apply Kd.R_drew)); exact HO162.out⟩, ⟨by repeat (first | (with_reducible first | exact HB.out | apply below_alloc | apply pw_below_drewN | apply below_drew1) | exact HB.out)⟩⟩
            · rw [if_neg c13] at H
              have c13b0 : ((t159.length : Int) == 0) = false := beq_eq_false_iff_ne.mpr c13
              have c13b1 : ((t159.length : Int) != 0) = true := bne_iff_ne.mpr c13
              have c13b2 : ¬ (t159 = []) := fun h_ => c13 (by rw [h_]; rfl)
              (first | rw [c13b0] | (simp only [i64_w, i32_w]; rw [c13b0]) | skip)
              by_cases c15 : 0 < (t159.length : Int)
              · rw [if_pos c15] at H
                have c15b0 : decide (0 < (t159.length : Int)) = true := decide_eq_true c15
                have c15b1 : decide (0 < t159.length) = true := decide_eq_true (by omega)
                clear c15
                by_cases c16 : (rd t159 0) = 0
                · rw [if_pos c16] at H
                  have c16b0 : ((rd t159 0) == 0) = true := beq_iff_eq.mpr c16
                  have c16b1 : ((rd t159 0) != 0) = false := bne_eq_false_iff_eq.mpr c16
                  clear c16
                  obtain ⟨ji17, hji17⟩ : ∃ j_ : Int, (wrap64 ((t159.length : Int) - 1)) = j_ := ⟨_, rfl⟩
                  replace H : (if 0 ≤ (ji17) then (if (ji17) < (t159.length : Int) then (scansionlaw20_ThaiRises.j1 kj4 l1 t159 ((rd t159 (ji17)) != a0)) else (none)) else (none)) = some r := by first | (rw [hji17] at H; exact H) | (simp only [hji17] at H ⊢; exact H)
                  have hji17w : (IntKind.i64.wrap ((t159.length : Int) - 1)) = ji17 := (i64_w _).trans hji17
                  by_cases c18 : 0 ≤ (ji17)
                  · rw [if_pos c18] at H
                    have c18b0 : decide (0 ≤ (ji17)) = true := decide_eq_true c18
                    clear c18
                    by_cases c19 : (ji17) < (t159.length : Int)
                    · rw [if_pos c19] at H
                      have c19b0 : decide ((ji17) < (t159.length : Int)) = true := decide_eq_true c19
                      clear c19
                      have H' := Aside0.mk H
                      clear H
                      obtain ⟨Ao20, co20, eo20⟩ := Kd.R_slice HO162.out
                      subst eo20
                      have p163 : 0 ≤ (0 : Int) := (by omega)
                      have q163 : 0 < (t159.length : Int) := of_decide_eq_true (by first | (with_reducible assumption) | assumption)
                      obtain ⟨ad163, e163, hx163_0⟩ := Kd.at_int (Kd.R_reads' HO162.out).2.2 0 p163 q163
                      cases e163
                      have qi163 : (0 < t159.length) = True := eq_true (by omega)
                      (try rw [show ((0 : Int)).toNat = 0 from rfl] at hx163_0)
                      (try rw [Addr.add_zero'] at hx163_0)
                      replace p163 := eq_true p163
                      replace q163 := eq_true q163
                      have p164 : 0 ≤ ((ji17) : Int) := of_decide_eq_true (by first | (with_reducible assumption) | assumption)
                      have q164 : (ji17) < (t159.length : Int) := of_decide_eq_true (by first | (with_reducible assumption) | assumption)
                      obtain ⟨ad164, e164, hx164_0⟩ := Kd.at_int (Kd.R_reads' HO162.out).2.2 (ji17) p164 q164
                      obtain rfl : ad163 = ad164 := (by injection e164)
                      replace p164 := eq_true p164
                      replace q164 := eq_true q164
                      go_wp2
                      repeat (go_quiet (fail); try go_wp2)
                      go_meet
                      case rel => exact ⟨_, (((rd t159 (ji17)) != a0)), (by first | rfl | (simp; done) | (simp only [← hji17] <;> (first | rfl | simp)) | (simp [*]; done)), H', ⟨by have := HJ4.out; first | omega | exact Nat.le_refl _⟩, ⟨by (with_reducible repeat (first | apply Kd.R_alloc | apply Kd.R_drewN | apply Kd.R_drew)); exact HO162.out⟩, ⟨by repeat (first | (with_reducible first | exact HB.out | apply below_alloc | apply pw_below_drewN | apply below_drew1) | exact HB.out)⟩⟩
                    · rw [if_neg c19] at H
                      exact absurd H (by simp)
                  · rw [if_neg c18] at H
                    exact absurd H (by simp)
                · rw [if_neg c16] at H
                  have c16b0 : ((rd t159 0) == 0) = false := beq_eq_false_iff_ne.mpr c16
                  have c16b1 : ((rd t159 0) != 0) = true := bne_iff_ne.mpr c16
                  have H' := Aside0.mk H
                  clear H
                  obtain ⟨Ao21, co21, eo21⟩ := Kd.R_slice HO162.out
                  subst eo21
                  have p163 : 0 ≤ (0 : Int) := (by omega)
                  have q163 : 0 < (t159.length : Int) := of_decide_eq_true (by first | (with_reducible assumption) | assumption)
                  obtain ⟨ad163, e163, hx163_0⟩ := Kd.at_int (Kd.R_reads' HO162.out).2.2 0 p163 q163
                  cases e163
                  have qi163 : (0 < t159.length) = True := eq_true (by omega)
                  (try rw [show ((0 : Int)).toNat = 0 from rfl] at hx163_0)
                  (try rw [Addr.add_zero'] at hx163_0)
                  replace p163 := eq_true p163
                  replace q163 := eq_true q163
                  go_wp2
                  repeat (go_quiet (fail); try go_wp2)
                  go_meet
                  case rel => exact ⟨_, (true), (by first | rfl | (simp; done) | (simp [*]; done)), H', ⟨by have := HJ4.out; first | omega | exact Nat.le_refl _⟩, ⟨by (with_reducible repeat (first | apply Kd.R_alloc | apply Kd.R_drewN | apply Kd.R_drew)); exact HO162.out⟩, ⟨by repeat (first | (with_reducible first | exact HB.out | apply below_alloc | apply pw_below_drewN | apply below_drew1) | exact HB.out)⟩⟩
              · rw [if_neg c15] at H
                exact absurd H (by simp)
          case rest =>
            clear HC11
            try clear c1
            try clear p1
            try clear q1
            try clear hx1
            try clear qi1
            try clear p2
            try clear c5
            try clear p6
            try clear c7
            try clear c8
            try clear c10
            try clear c10b0
            try clear c10b1
            try clear c13
            try clear c13b0
            try clear c13b1
            try clear c13b2
            try clear c15
            try clear c15b0
            try clear c15b1
            try clear c16
            try clear c16b0
            try clear c16b1
            try clear p16
            try clear q16
            try clear hx16
            try clear qi16
            try clear c18
            try clear c18b0
            try clear c19
            try clear c19b0
            try clear hx163_0
            try clear hx164_0
            try clear p163
            try clear p164
            try clear p2
            try clear q163
            try clear q164
            obtain ⟨kq, x57_10, rfl, HA, HJ10, HO_7, HB⟩ := hcut
            cases kq with
            | zero => exact absurd HA.out (by simp [scansionlaw20_ThaiRises.j1])
            | succ kj10 =>
              have H := HA.out
              clear HA
              simp only [scansionlaw20_ThaiRises.j1] at H
              by_cases c22 : x57_10 = true
              · subst c22
                have H1 : (some false) = some r := by rw [if_pos rfl] at H; exact H
                clear H
                have H := H1
                clear H1
                obtain rfl := Option.some.inj H
                go_wp2
                repeat (go_quiet (fail); try go_wp2)
                go_ret
                exact ⟨by first | rfl | (simp [errW_none, errW_some] <;> rfl) | (simp [*, errW_none, errW_some] <;> rfl), by repeat (first | (with_reducible first | exact HB.out | apply below_alloc | apply pw_below_drewN | apply below_drew1) | exact HB.out)⟩
              · replace c22 := Bool.eq_false_iff.mpr c22
                subst c22
                have H1 : (scansionlaw20_ThaiRises.l0 kj10 l1 t159 1) = some r := by rw [if_neg (show ¬ (false = true) by decide)] at H; exact H
                clear H
                have H := H1
                clear H1
                have H' := Aside0.mk H
                clear H
                go_wp2
                repeat (go_quiet (fail); try go_wp2)
                go_loopg [9] kj10 (fun kq v9 w' => ∃ (x9_3 : Int), v9 = .int .i64 x9_3 ∧ Aside0 (scansionlaw20_ThaiRises.l0 kq l1 t159 x9_3 = some r) ∧ Aside0 (kq ≤ kj10) ∧ Aside0 (Kd.R (Kd.int .i64) 3 w' w.heap.size (fun _ => True) v161 t159) ∧ Aside0 (Below w.heap.size w w'))
                case atStart => exact ⟨(1), (by first | rfl | (simp; done) | (simp [*]; done)), H', ⟨Nat.le_refl _⟩, ⟨by (with_reducible repeat (first | apply Kd.R_alloc | apply Kd.R_drewN | apply Kd.R_drew)); exact HO_7.out⟩, ⟨by repeat (first | (with_reducible first | exact HB.out | apply below_alloc | apply pw_below_drewN | apply below_drew1) | exact HB.out)⟩⟩
                case round =>
                  clear H'
                  try clear c1
                  try clear p1
                  try clear q1
                  try clear hx1
                  try clear qi1
                  try clear c2
                  try clear p2
                  try clear c5
                  try clear p6
                  try clear c7
                  try clear c8
                  try clear c10
                  try clear c10b0
                  try clear c10b1
                  try clear c13
                  try clear c13b0
                  try clear c13b1
                  try clear c13b2
                  try clear c15
                  try clear c15b0
                  try clear c15b1
                  try clear c16
                  try clear c16b0
                  try clear c16b1
                  try clear p16
                  try clear q16
                  try clear hx16
                  try clear qi16
                  try clear c18
                  try clear c18b0
                  try clear c19
                  try clear c19b0
                  try clear c22
                  try clear hx163_0
                  try clear hx164_0
                  try clear p1
                  try clear p16
                  try clear p163
                  try clear p164
                  try clear p2
                  try clear p6
                  try clear q1
                  try clear q16
                  try clear q163
                  try clear q164
                  obtain ⟨x9_3, rfl, HA, HK3, HO_7, HB⟩ := hrel
                  cases gk with
                  | zero => exact absurd HA.out (by simp [scansionlaw20_ThaiRises.l0])
                  | succ k3 =>
                    have H := HA.out
                    clear HA
                    simp only [scansionlaw20_ThaiRises.l0] at H
                    by_cases c23 : x9_3 < (t159.length : Int)
                    · rw [if_pos c23] at H
                      have c23b0 : decide (x9_3 < (t159.length : Int)) = true := decide_eq_true c23
                      clear c23
                      have H' := Aside0.mk H
                      clear H
                      obtain ⟨Ao24, co24, eo24⟩ := Kd.R_slice HO_7.out
                      subst eo24
                      go_wp2
                      repeat (go_quiet (fail); try go_wp2)
                      go_loopg [10, 11, 12] k3 (fun kq v10 v11 v12 w' => ∃ (x10_4 : Bool) (x11_4 : Bool) (x12_4 : Int), v10 = .bool x10_4 ∧ v11 = .bool x11_4 ∧ v12 = .int .i64 x12_4 ∧ Aside0 (scansionlaw20_ThaiRises.l1 kq l1 t159 x9_3 x10_4 x11_4 x12_4 = some r) ∧ Aside0 (kq ≤ k3) ∧ Aside0 (Kd.R (Kd.int .i64) 3 w' w.heap.size (fun _ => True) (.slice Ao24 t159.length co24) t159) ∧ Aside0 (Below w.heap.size w w'))
                      case atStart => exact ⟨(false), (false), (0), (by first | rfl | (simp; done) | (simp [*]; done)), (by first | rfl | (simp; done) | (simp [*]; done)), (by first | rfl | (simp; done) | (simp [*]; done)), H', ⟨Nat.le_refl _⟩, ⟨by (with_reducible repeat (first | apply Kd.R_alloc | apply Kd.R_drewN | apply Kd.R_drew)); exact HO_7.out⟩, ⟨by repeat (first | (with_reducible first | exact HB.out | apply below_alloc | apply pw_below_drewN | apply below_drew1) | exact HB.out)⟩⟩
                      case round =>
                        clear H'
                        try clear c1
                        try clear p1
                        try clear q1
                        try clear hx1
                        try clear qi1
                        try clear c2
                        try clear p2
                        try clear c5
                        try clear p6
                        try clear c7
                        try clear c8
                        try clear c10
                        try clear c10b0
                        try clear c10b1
                        try clear c13
                        try clear c13b0
                        try clear c13b1
                        try clear c13b2
                        try clear c15
                        try clear c15b0
                        try clear c15b1
                        try clear c16
                        try clear c16b0
                        try clear c16b1
                        try clear p16
                        try clear q16
                        try clear hx16
                        try clear qi16
                        try clear c18
                        try clear c18b0
                        try clear c19
                        try clear c19b0
                        try clear c22
                        try clear c23
                        try clear c23b0
                        try clear hx163_0
                        try clear hx164_0
                        try clear p1
                        try clear p16
                        try clear p163
                        try clear p164
                        try clear p2
                        try clear p6
                        try clear q1
                        try clear q16
                        try clear q163
                        try clear q164
                        obtain ⟨x10_4, x11_4, x12_4, rfl, rfl, rfl, HA, HK4, HO_7, HB⟩ := hrel
                        cases gk with
                        | zero => exact absurd HA.out (by simp [scansionlaw20_ThaiRises.l1])
                        | succ k4 =>
                          have H := HA.out
                          clear HA
                          simp only [scansionlaw20_ThaiRises.l1] at H
                          by_cases c25 : x12_4 < (l1.length : Int)
                          · rw [if_pos c25] at H
                            have c25b0 : decide (x12_4 < (l1.length : Int)) = true := decide_eq_true c25
                            clear c25
                            by_cases c26 : x10_4 = true
                            · subst c26
                              have H1 : (if x11_4 = true then (scansionlaw20_ThaiRises.l1 k4 l1 t159 x9_3 true true (wrap64 (x12_4 + 1))) else (if 0 ≤ x12_4 then (if 0 ≤ (wrap64 (x9_3 - 1)) then (if (wrap64 (x9_3 - 1)) < (t159.length : Int) then (if ((rd_T39 l1 x12_4).f0) ≥ (rd t159 (wrap64 (x9_3 - 1))) then (if 0 ≤ x9_3 then (if x9_3 < (t159.length : Int) then (scansionlaw20_ThaiRises.l1 k4 l1 t159 x9_3 true (decide (((rd_T39 l1 x12_4).f0) < (rd t159 x9_3))) (wrap64 (x12_4 + 1))) else (none)) else (none)) else (scansionlaw20_ThaiRises.l1 k4 l1 t159 x9_3 true false (wrap64 (x12_4 + 1)))) else (none)) else (none)) else (none))) = some r := by rw [if_pos rfl] at H; exact H
                              clear H
                              have H := H1
                              clear H1
                              by_cases c27 : x11_4 = true
                              · subst c27
                                have H1 : (scansionlaw20_ThaiRises.l1 k4 l1 t159 x9_3 true true (wrap64 (x12_4 + 1))) = some r := by rw [if_pos rfl] at H; exact H
                                clear H
                                have H := H1
                                clear H1
                                have H' := Aside0.mk H
                                clear H
                                go_wp2
                                repeat (go_quiet (fail); try go_wp2)
                                go_roundg k4
                                case measure => have := HJ4.out; have := HJ10.out; have := HK3.out; have := HK4.out; omega
                                case rel => exact ⟨(true), (true), (wrap64 (x12_4 + 1)), (by first | rfl | (simp; done) | (simp [*]; done)), (by first | rfl | (simp; done) | (simp [*]; done)), (by first | rfl | (simp; done) | (simp [*]; done)), H', ⟨by have := HJ4.out; have := HJ10.out; have := HK3.out; have := HK4.out; omega⟩, ⟨by (with_reducible repeat (first | apply Kd.R_alloc | apply Kd.R_drewN | apply Kd.R_drew)); exact HO_7.out⟩, ⟨by repeat (first | (with_reducible first | exact HB.out | apply below_alloc | apply pw_below_drewN | apply below_drew1) | exact HB.out)⟩⟩
                              · replace c27 := Bool.eq_false_iff.mpr c27
                                subst c27
                                have H1 : (if 0 ≤ x12_4 then (if 0 ≤ (wrap64 (x9_3 - 1)) then (if (wrap64 (x9_3 - 1)) < (t159.length : Int) then (if ((rd_T39 l1 x12_4).f0) ≥ (rd t159 (wrap64 (x9_3 - 1))) then (if 0 ≤ x9_3 then (if x9_3 < (t159.length : Int) then (scansionlaw20_ThaiRises.l1 k4 l1 t159 x9_3 true (decide (((rd_T39 l1 x12_4).f0) < (rd t159 x9_3))) (wrap64 (x12_4 + 1))) else (none)) else (none)) else (scansionlaw20_ThaiRises.l1 k4 l1 t159 x9_3 true false (wrap64 (x12_4 + 1)))) else (none)) else (none)) else (none)) = some r := by rw [if_neg (show ¬ (false = true) by decide)] at H; exact H
                                clear H
                                have H := H1
                                clear H1
                                by_cases c28 : 0 ≤ x12_4
                                · rw [if_pos c28] at H
                                  have c28b0 : decide (0 ≤ x12_4) = true := decide_eq_true c28
                                  clear c28
                                  obtain ⟨ji29, hji29⟩ : ∃ j_ : Int, (wrap64 (x9_3 - 1)) = j_ := ⟨_, rfl⟩
                                  replace H : (if 0 ≤ (ji29) then (if (ji29) < (t159.length : Int) then (if ((rd_T39 l1 x12_4).f0) ≥ (rd t159 (ji29)) then (if 0 ≤ x9_3 then (if x9_3 < (t159.length : Int) then (scansionlaw20_ThaiRises.l1 k4 l1 t159 x9_3 true (decide (((rd_T39 l1 x12_4).f0) < (rd t159 x9_3))) (wrap64 (x12_4 + 1))) else (none)) else (none)) else (scansionlaw20_ThaiRises.l1 k4 l1 t159 x9_3 true false (wrap64 (x12_4 + 1)))) else (none)) else (none)) = some r := by first | (rw [hji29] at H; exact H) | (simp only [hji29] at H ⊢; exact H)
                                  have hji29w : (IntKind.i64.wrap (x9_3 - 1)) = ji29 := (i64_w _).trans hji29
                                  by_cases c30 : 0 ≤ (ji29)
                                  · rw [if_pos c30] at H
                                    have c30b0 : decide (0 ≤ (ji29)) = true := decide_eq_true c30
                                    clear c30
                                    by_cases c31 : (ji29) < (t159.length : Int)
                                    · rw [if_pos c31] at H
                                      have c31b0 : decide ((ji29) < (t159.length : Int)) = true := decide_eq_true c31
                                      clear c31
                                      by_cases c32 : ((rd_T39 l1 x12_4).f0) ≥ (rd t159 (ji29))
                                      · rw [if_pos c32] at H
                                        have c32b0 : decide ((rd t159 (ji29)) ≤ ((rd_T39 l1 x12_4).f0)) = true := decide_eq_true c32
                                        clear c32
                                        by_cases c33 : 0 ≤ x9_3
                                        · rw [if_pos c33] at H
                                          have c33b0 : decide (0 ≤ x9_3) = true := decide_eq_true c33
                                          clear c33
                                          by_cases c34 : x9_3 < (t159.length : Int)
                                          · rw [if_pos c34] at H
                                            have c34b0 : decide (x9_3 < (t159.length : Int)) = true := decide_eq_true c34
                                            clear c34
                                            have H' := Aside0.mk H
                                            clear H
                                            have p165 : 0 ≤ (x12_4 : Int) := of_decide_eq_true (by first | (with_reducible assumption) | assumption)
                                            have q165 : x12_4 < (l1.length : Int) := of_decide_eq_true (by first | (with_reducible assumption) | assumption)
                                            obtain ⟨ad165, e165, hx165_0, hx165_1, hx165_2⟩ := at_T39 HR1.out x12_4 p165 q165
                                            cases e165
                                            replace hx165_0 := (HB.out.cell (World.block_lt_of_cell? w _ hx165_0)).trans hx165_0
                                            replace hx165_1 := (HB.out.cell (World.block_lt_of_cell? w _ hx165_1)).trans hx165_1
                                            replace hx165_2 := (HB.out.cell (World.block_lt_of_cell? w _ hx165_2)).trans hx165_2
                                            replace p165 := eq_true p165
                                            replace q165 := eq_true q165
                                            have p166 : 0 ≤ ((ji29) : Int) := of_decide_eq_true (by first | (with_reducible assumption) | assumption)
                                            have q166 : (ji29) < (t159.length : Int) := of_decide_eq_true (by first | (with_reducible assumption) | assumption)
                                            obtain ⟨ad166, e166, hx166_0⟩ := Kd.at_int (Kd.R_reads' HO_7.out).2.2 (ji29) p166 q166
                                            cases e166
                                            replace p166 := eq_true p166
                                            replace q166 := eq_true q166
                                            have p167 : 0 ≤ (x12_4 : Int) := of_decide_eq_true (by first | (with_reducible assumption) | assumption)
                                            have q167 : x12_4 < (l1.length : Int) := of_decide_eq_true (by first | (with_reducible assumption) | assumption)
                                            obtain ⟨ad167, e167, hx167_0, hx167_1, hx167_2⟩ := at_T39 HR1.out x12_4 p167 q167
                                            obtain rfl : ad165 = ad167 := (by injection e167)
                                            replace hx167_0 := (HB.out.cell (World.block_lt_of_cell? w _ hx167_0)).trans hx167_0
                                            replace hx167_1 := (HB.out.cell (World.block_lt_of_cell? w _ hx167_1)).trans hx167_1
                                            replace hx167_2 := (HB.out.cell (World.block_lt_of_cell? w _ hx167_2)).trans hx167_2
                                            replace p167 := eq_true p167
                                            replace q167 := eq_true q167
                                            have p168 : 0 ≤ (x9_3 : Int) := of_decide_eq_true (by first | (with_reducible assumption) | assumption)
                                            have q168 : x9_3 < (t159.length : Int) := of_decide_eq_true (by first | (with_reducible assumption) | assumption)
                                            obtain ⟨ad168, e168, hx168_0⟩ := Kd.at_int (Kd.R_reads' HO_7.out).2.2 x9_3 p168 q168
                                            obtain rfl : ad166 = ad168 := (by injection e168)
                                            replace p168 := eq_true p168
                                            replace q168 := eq_true q168
                                            go_wp2
                                            repeat (go_quiet (fail); try go_wp2)
                                            go_roundg k4
                                            case measure => have := HJ4.out; have := HJ10.out; have := HK3.out; have := HK4.out; omega
                                            case rel => exact ⟨(true), (decide (((rd_T39 l1 x12_4).f0) < (rd t159 x9_3))), (wrap64 (x12_4 + 1)), (by first | rfl | (simp; done) | (simp [*]; done)), (by first | rfl | (simp; done) | (simp [*]; done)), (by first | rfl | (simp; done) | (simp [*]; done)), H', ⟨by have := HJ4.out; have := HJ10.out; have := HK3.out; have := HK4.out; omega⟩, ⟨by (with_reducible repeat (first | apply Kd.R_alloc | apply Kd.R_drewN | apply Kd.R_drew)); exact HO_7.out⟩, ⟨by repeat (first | (with_reducible first | exact HB.out | apply below_alloc | apply pw_below_drewN | apply below_drew1) | exact HB.out)⟩⟩
                                          · rw [if_neg c34] at H
                                            exact absurd H (by simp)
                                        · rw [if_neg c33] at H
                                          exact absurd H (by simp)
                                      · rw [if_neg c32] at H
                                        have c32b0 : decide ((rd t159 (ji29)) ≤ ((rd_T39 l1 x12_4).f0)) = false := decide_eq_false c32
                                        clear c32
                                        have H' := Aside0.mk H
                                        clear H
                                        have p165 : 0 ≤ (x12_4 : Int) := of_decide_eq_true (by first | (with_reducible assumption) | assumption)
                                        have q165 : x12_4 < (l1.length : Int) := of_decide_eq_true (by first | (with_reducible assumption) | assumption)
                                        obtain ⟨ad165, e165, hx165_0, hx165_1, hx165_2⟩ := at_T39 HR1.out x12_4 p165 q165
                                        cases e165
                                        replace hx165_0 := (HB.out.cell (World.block_lt_of_cell? w _ hx165_0)).trans hx165_0
                                        replace hx165_1 := (HB.out.cell (World.block_lt_of_cell? w _ hx165_1)).trans hx165_1
                                        replace hx165_2 := (HB.out.cell (World.block_lt_of_cell? w _ hx165_2)).trans hx165_2
                                        replace p165 := eq_true p165
                                        replace q165 := eq_true q165
                                        have p166 : 0 ≤ ((ji29) : Int) := of_decide_eq_true (by first | (with_reducible assumption) | assumption)
                                        have q166 : (ji29) < (t159.length : Int) := of_decide_eq_true (by first | (with_reducible assumption) | assumption)
                                        obtain ⟨ad166, e166, hx166_0⟩ := Kd.at_int (Kd.R_reads' HO_7.out).2.2 (ji29) p166 q166
                                        cases e166
                                        replace p166 := eq_true p166
                                        replace q166 := eq_true q166
                                        go_wp2
                                        repeat (go_quiet (fail); try go_wp2)
                                        go_roundg k4
                                        case measure => have := HJ4.out; have := HJ10.out; have := HK3.out; have := HK4.out; omega
                                        case rel => exact ⟨(true), (false), (wrap64 (x12_4 + 1)), (by first | rfl | (simp; done) | (simp [*]; done)), (by first | rfl | (simp; done) | (simp [*]; done)), (by first | rfl | (simp; done) | (simp [*]; done)), H', ⟨by have := HJ4.out; have := HJ10.out; have := HK3.out; have := HK4.out; omega⟩, ⟨by (with_reducible repeat (first | apply Kd.R_alloc | apply Kd.R_drewN | apply Kd.R_drew)); exact HO_7.out⟩, ⟨by repeat (first | (with_reducible first | exact HB.out | apply below_alloc | apply pw_below_drewN | apply below_drew1) | exact HB.out)⟩⟩
                                    · rw [if_neg c31] at H
                                      exact absurd H (by simp)
                                  · rw [if_neg c30] at H
                                    exact absurd H (by simp)
                                · rw [if_neg c28] at H
                                  exact absurd H (by simp)
                            · replace c26 := Bool.eq_false_iff.mpr c26
                              subst c26
                              have H1 : (if 0 ≤ x12_4 then (if 0 ≤ (wrap64 (x9_3 - 1)) then (if (wrap64 (x9_3 - 1)) < (t159.length : Int) then (if ((rd_T39 l1 x12_4).f0) = (rd t159 (wrap64 (x9_3 - 1))) then (if 0 ≤ x9_3 then (if x9_3 < (t159.length : Int) then (if x11_4 = true then (scansionlaw20_ThaiRises.l1 k4 l1 t159 x9_3 (((rd_T39 l1 x12_4).f1) == (rd t159 x9_3)) true (wrap64 (x12_4 + 1))) else (if ((rd_T39 l1 x12_4).f0) ≥ (rd t159 (wrap64 (x9_3 - 1))) then (scansionlaw20_ThaiRises.l1 k4 l1 t159 x9_3 (((rd_T39 l1 x12_4).f1) == (rd t159 x9_3)) (decide (((rd_T39 l1 x12_4).f0) < (rd t159 x9_3))) (wrap64 (x12_4 + 1))) else (scansionlaw20_ThaiRises.l1 k4 l1 t159 x9_3 (((rd_T39 l1 x12_4).f1) == (rd t159 x9_3)) false (wrap64 (x12_4 + 1))))) else (none)) else (none)) else (if x11_4 = true then (scansionlaw20_ThaiRises.l1 k4 l1 t159 x9_3 false true (wrap64 (x12_4 + 1))) else (if ((rd_T39 l1 x12_4).f0) ≥ (rd t159 (wrap64 (x9_3 - 1))) then (if 0 ≤ x9_3 then (if x9_3 < (t159.length : Int) then (scansionlaw20_ThaiRises.l1 k4 l1 t159 x9_3 false (decide (((rd_T39 l1 x12_4).f0) < (rd t159 x9_3))) (wrap64 (x12_4 + 1))) else (none)) else (none)) else (scansionlaw20_ThaiRises.l1 k4 l1 t159 x9_3 false false (wrap64 (x12_4 + 1)))))) else (none)) else (none)) else (none)) = some r := by rw [if_neg (show ¬ (false = true) by decide)] at H; exact H
                              clear H
                              have H := H1
                              clear H1
                              by_cases c35 : 0 ≤ x12_4
                              · rw [if_pos c35] at H
                                have c35b0 : decide (0 ≤ x12_4) = true := decide_eq_true c35
                                clear c35
                                obtain ⟨ji36, hji36⟩ : ∃ j_ : Int, (wrap64 (x9_3 - 1)) = j_ := ⟨_, rfl⟩
                                replace H : (if 0 ≤ (ji36) then (if (ji36) < (t159.length : Int) then (if ((rd_T39 l1 x12_4).f0) = (rd t159 (ji36)) then (if 0 ≤ x9_3 then (if x9_3 < (t159.length : Int) then (if x11_4 = true then (scansionlaw20_ThaiRises.l1 k4 l1 t159 x9_3 (((rd_T39 l1 x12_4).f1) == (rd t159 x9_3)) true (wrap64 (x12_4 + 1))) else (if ((rd_T39 l1 x12_4).f0) ≥ (rd t159 (ji36)) then (scansionlaw20_ThaiRises.l1 k4 l1 t159 x9_3 (((rd_T39 l1 x12_4).f1) == (rd t159 x9_3)) (decide (((rd_T39 l1 x12_4).f0) < (rd t159 x9_3))) (wrap64 (x12_4 + 1))) else (scansionlaw20_ThaiRises.l1 k4 l1 t159 x9_3 (((rd_T39 l1 x12_4).f1) == (rd t159 x9_3)) false (wrap64 (x12_4 + 1))))) else (none)) else (none)) else (if x11_4 = true then (scansionlaw20_ThaiRises.l1 k4 l1 t159 x9_3 false true (wrap64 (x12_4 + 1))) else (if ((rd_T39 l1 x12_4).f0) ≥ (rd t159 (ji36)) then (if 0 ≤ x9_3 then (if x9_3 < (t159.length : Int) then (scansionlaw20_ThaiRises.l1 k4 l1 t159 x9_3 false (decide (((rd_T39 l1 x12_4).f0) < (rd t159 x9_3))) (wrap64 (x12_4 + 1))) else (none)) else (none)) else (scansionlaw20_ThaiRises.l1 k4 l1 t159 x9_3 false false (wrap64 (x12_4 + 1)))))) else (none)) else (none)) = some r := by first | (rw [hji36] at H; exact H) | (simp only [hji36] at H ⊢; exact H)
                                have hji36w : (IntKind.i64.wrap (x9_3 - 1)) = ji36 := (i64_w _).trans hji36
                                by_cases c37 : 0 ≤ (ji36)
                                · rw [if_pos c37] at H
                                  have c37b0 : decide (0 ≤ (ji36)) = true := decide_eq_true c37
                                  clear c37
                                  by_cases c38 : (ji36) < (t159.length : Int)
                                  · rw [if_pos c38] at H
                                    have c38b0 : decide ((ji36) < (t159.length : Int)) = true := decide_eq_true c38
                                    clear c38
                                    by_cases c39 : ((rd_T39 l1 x12_4).f0) = (rd t159 (ji36))
                                    · rw [if_pos c39] at H
                                      have c39b0 : (((rd_T39 l1 x12_4).f0) == (rd t159 (ji36))) = true := beq_iff_eq.mpr c39
                                      have c39b1 : (((rd_T39 l1 x12_4).f0) != (rd t159 (ji36))) = false := bne_eq_false_iff_eq.mpr c39
                                      clear c39
                                      by_cases c40 : 0 ≤ x9_3
                                      · rw [if_pos c40] at H
                                        have c40b0 : decide (0 ≤ x9_3) = true := decide_eq_true c40
                                        clear c40
                                        by_cases c41 : x9_3 < (t159.length : Int)
                                        · rw [if_pos c41] at H
                                          have c41b0 : decide (x9_3 < (t159.length : Int)) = true := decide_eq_true c41
                                          clear c41
                                          by_cases c42 : x11_4 = true
                                          · subst c42
                                            have H1 : (scansionlaw20_ThaiRises.l1 k4 l1 t159 x9_3 (((rd_T39 l1 x12_4).f1) == (rd t159 x9_3)) true (wrap64 (x12_4 + 1))) = some r := by rw [if_pos rfl] at H; exact H
                                            clear H
                                            have H := H1
                                            clear H1
                                            have H' := Aside0.mk H
                                            clear H
                                            have p169 : 0 ≤ (x12_4 : Int) := of_decide_eq_true (by first | (with_reducible assumption) | assumption)
                                            have q169 : x12_4 < (l1.length : Int) := of_decide_eq_true (by first | (with_reducible assumption) | assumption)
                                            obtain ⟨ad169, e169, hx169_0, hx169_1, hx169_2⟩ := at_T39 HR1.out x12_4 p169 q169
                                            cases e169
                                            replace hx169_0 := (HB.out.cell (World.block_lt_of_cell? w _ hx169_0)).trans hx169_0
                                            replace hx169_1 := (HB.out.cell (World.block_lt_of_cell? w _ hx169_1)).trans hx169_1
                                            replace hx169_2 := (HB.out.cell (World.block_lt_of_cell? w _ hx169_2)).trans hx169_2
                                            replace p169 := eq_true p169
                                            replace q169 := eq_true q169
                                            have p170 : 0 ≤ ((ji36) : Int) := of_decide_eq_true (by first | (with_reducible assumption) | assumption)
                                            have q170 : (ji36) < (t159.length : Int) := of_decide_eq_true (by first | (with_reducible assumption) | assumption)
                                            obtain ⟨ad170, e170, hx170_0⟩ := Kd.at_int (Kd.R_reads' HO_7.out).2.2 (ji36) p170 q170
                                            cases e170
                                            replace p170 := eq_true p170
                                            replace q170 := eq_true q170
                                            have p171 : 0 ≤ (x12_4 : Int) := of_decide_eq_true (by first | (with_reducible assumption) | assumption)
                                            have q171 : x12_4 < (l1.length : Int) := of_decide_eq_true (by first | (with_reducible assumption) | assumption)
                                            obtain ⟨ad171, e171, hx171_0, hx171_1, hx171_2⟩ := at_T39 HR1.out x12_4 p171 q171
                                            obtain rfl : ad169 = ad171 := (by injection e171)
                                            replace hx171_0 := (HB.out.cell (World.block_lt_of_cell? w _ hx171_0)).trans hx171_0
                                            replace hx171_1 := (HB.out.cell (World.block_lt_of_cell? w _ hx171_1)).trans hx171_1
                                            replace hx171_2 := (HB.out.cell (World.block_lt_of_cell? w _ hx171_2)).trans hx171_2
                                            replace p171 := eq_true p171
                                            replace q171 := eq_true q171
                                            have p172 : 0 ≤ (x9_3 : Int) := of_decide_eq_true (by first | (with_reducible assumption) | assumption)
                                            have q172 : x9_3 < (t159.length : Int) := of_decide_eq_true (by first | (with_reducible assumption) | assumption)
                                            obtain ⟨ad172, e172, hx172_0⟩ := Kd.at_int (Kd.R_reads' HO_7.out).2.2 x9_3 p172 q172
                                            obtain rfl : ad170 = ad172 := (by injection e172)
                                            replace p172 := eq_true p172
                                            replace q172 := eq_true q172
                                            go_wp2
                                            repeat (go_quiet (fail); try go_wp2)
                                            go_roundg k4
                                            case measure => have := HJ4.out; have := HJ10.out; have := HK3.out; have := HK4.out; omega
                                            case rel => exact ⟨((((rd_T39 l1 x12_4).f1) == (rd t159 x9_3))), (true), (wrap64 (x12_4 + 1)), (by first | rfl | (simp; done) | (simp [*]; done)), (by first | rfl | (simp; done) | (simp [*]; done)), (by first | rfl | (simp; done) | (simp [*]; done)), H', ⟨by have := HJ4.out; have := HJ10.out; have := HK3.out; have := HK4.out; omega⟩, ⟨by (with_reducible repeat (first | apply Kd.R_alloc | apply Kd.R_drewN | apply Kd.R_drew)); exact HO_7.out⟩, ⟨by repeat (first | (with_reducible first | exact HB.out | apply below_alloc | apply pw_below_drewN | apply below_drew1) | exact HB.out)⟩⟩
                                          · replace c42 := Bool.eq_false_iff.mpr c42
                                            subst c42
                                            have H1 : (if ((rd_T39 l1 x12_4).f0) ≥ (rd t159 (ji36)) then (scansionlaw20_ThaiRises.l1 k4 l1 t159 x9_3 (((rd_T39 l1 x12_4).f1) == (rd t159 x9_3)) (decide (((rd_T39 l1 x12_4).f0) < (rd t159 x9_3))) (wrap64 (x12_4 + 1))) else (scansionlaw20_ThaiRises.l1 k4 l1 t159 x9_3 (((rd_T39 l1 x12_4).f1) == (rd t159 x9_3)) false (wrap64 (x12_4 + 1)))) = some r := by rw [if_neg (show ¬ (false = true) by decide)] at H; exact H
                                            clear H
                                            have H := H1
                                            clear H1
                                            by_cases c43 : ((rd_T39 l1 x12_4).f0) ≥ (rd t159 (ji36))
                                            · rw [if_pos c43] at H
                                              have c43b0 : decide ((rd t159 (ji36)) ≤ ((rd_T39 l1 x12_4).f0)) = true := decide_eq_true c43
                                              clear c43
                                              have H' := Aside0.mk H
                                              clear H
                                              have p169 : 0 ≤ (x12_4 : Int) := of_decide_eq_true (by first | (with_reducible assumption) | assumption)
                                              have q169 : x12_4 < (l1.length : Int) := of_decide_eq_true (by first | (with_reducible assumption) | assumption)
                                              obtain ⟨ad169, e169, hx169_0, hx169_1, hx169_2⟩ := at_T39 HR1.out x12_4 p169 q169
                                              cases e169
                                              replace hx169_0 := (HB.out.cell (World.block_lt_of_cell? w _ hx169_0)).trans hx169_0
                                              replace hx169_1 := (HB.out.cell (World.block_lt_of_cell? w _ hx169_1)).trans hx169_1
                                              replace hx169_2 := (HB.out.cell (World.block_lt_of_cell? w _ hx169_2)).trans hx169_2
                                              replace p169 := eq_true p169
                                              replace q169 := eq_true q169
                                              have p170 : 0 ≤ ((ji36) : Int) := of_decide_eq_true (by first | (with_reducible assumption) | assumption)
                                              have q170 : (ji36) < (t159.length : Int) := of_decide_eq_true (by first | (with_reducible assumption) | assumption)
                                              obtain ⟨ad170, e170, hx170_0⟩ := Kd.at_int (Kd.R_reads' HO_7.out).2.2 (ji36) p170 q170
                                              cases e170
                                              replace p170 := eq_true p170
                                              replace q170 := eq_true q170
                                              have p171 : 0 ≤ (x12_4 : Int) := of_decide_eq_true (by first | (with_reducible assumption) | assumption)
                                              have q171 : x12_4 < (l1.length : Int) := of_decide_eq_true (by first | (with_reducible assumption) | assumption)
                                              obtain ⟨ad171, e171, hx171_0, hx171_1, hx171_2⟩ := at_T39 HR1.out x12_4 p171 q171
                                              obtain rfl : ad169 = ad171 := (by injection e171)
                                              replace hx171_0 := (HB.out.cell (World.block_lt_of_cell? w _ hx171_0)).trans hx171_0
                                              replace hx171_1 := (HB.out.cell (World.block_lt_of_cell? w _ hx171_1)).trans hx171_1
                                              replace hx171_2 := (HB.out.cell (World.block_lt_of_cell? w _ hx171_2)).trans hx171_2
                                              replace p171 := eq_true p171
                                              replace q171 := eq_true q171
                                              have p172 : 0 ≤ (x9_3 : Int) := of_decide_eq_true (by first | (with_reducible assumption) | assumption)
                                              have q172 : x9_3 < (t159.length : Int) := of_decide_eq_true (by first | (with_reducible assumption) | assumption)
                                              obtain ⟨ad172, e172, hx172_0⟩ := Kd.at_int (Kd.R_reads' HO_7.out).2.2 x9_3 p172 q172
                                              obtain rfl : ad170 = ad172 := (by injection e172)
                                              replace p172 := eq_true p172
                                              replace q172 := eq_true q172
                                              have p173 : 0 ≤ (x12_4 : Int) := of_decide_eq_true (by first | (with_reducible assumption) | assumption)
                                              have q173 : x12_4 < (l1.length : Int) := of_decide_eq_true (by first | (with_reducible assumption) | assumption)
                                              obtain ⟨ad173, e173, hx173_0, hx173_1, hx173_2⟩ := at_T39 HR1.out x12_4 p173 q173
                                              obtain rfl : ad169 = ad173 := (by injection e173)
                                              replace hx173_0 := (HB.out.cell (World.block_lt_of_cell? w _ hx173_0)).trans hx173_0
                                              replace hx173_1 := (HB.out.cell (World.block_lt_of_cell? w _ hx173_1)).trans hx173_1
                                              replace hx173_2 := (HB.out.cell (World.block_lt_of_cell? w _ hx173_2)).trans hx173_2
                                              replace p173 := eq_true p173
                                              replace q173 := eq_true q173
                                              have p174 : 0 ≤ ((ji36) : Int) := of_decide_eq_true (by first | (with_reducible assumption) | assumption)
                                              have q174 : (ji36) < (t159.length : Int) := of_decide_eq_true (by first | (with_reducible assumption) | assumption)
                                              obtain ⟨ad174, e174, hx174_0⟩ := Kd.at_int (Kd.R_reads' HO_7.out).2.2 (ji36) p174 q174
                                              obtain rfl : ad170 = ad174 := (by injection e174)
                                              replace p174 := eq_true p174
                                              replace q174 := eq_true q174
                                              have p175 : 0 ≤ (x12_4 : Int) := of_decide_eq_true (by first | (with_reducible assumption) | assumption)
                                              have q175 : x12_4 < (l1.length : Int) := of_decide_eq_true (by first | (with_reducible assumption) | assumption)
                                              obtain ⟨ad175, e175, hx175_0, hx175_1, hx175_2⟩ := at_T39 HR1.out x12_4 p175 q175
                                              obtain rfl : ad169 = ad175 := (by injection e175)
                                              replace hx175_0 := (HB.out.cell (World.block_lt_of_cell? w _ hx175_0)).trans hx175_0
                                              replace hx175_1 := (HB.out.cell (World.block_lt_of_cell? w _ hx175_1)).trans hx175_1
                                              replace hx175_2 := (HB.out.cell (World.block_lt_of_cell? w _ hx175_2)).trans hx175_2
                                              replace p175 := eq_true p175
                                              replace q175 := eq_true q175
                                              have p176 : 0 ≤ (x9_3 : Int) := of_decide_eq_true (by first | (with_reducible assumption) | assumption)
                                              have q176 : x9_3 < (t159.length : Int) := of_decide_eq_true (by first | (with_reducible assumption) | assumption)
                                              obtain ⟨ad176, e176, hx176_0⟩ := Kd.at_int (Kd.R_reads' HO_7.out).2.2 x9_3 p176 q176
                                              obtain rfl : ad170 = ad176 := (by injection e176)
                                              replace p176 := eq_true p176
                                              replace q176 := eq_true q176
                                              go_wp2
                                              repeat (go_quiet (fail); try go_wp2)
                                              go_roundg k4
                                              case measure => have := HJ4.out; have := HJ10.out; have := HK3.out; have := HK4.out; omega
                                              case rel => exact ⟨((((rd_T39 l1 x12_4).f1) == (rd t159 x9_3))), (decide (((rd_T39 l1 x12_4).f0) < (rd t159 x9_3))), (wrap64 (x12_4 + 1)), (by first | rfl | (simp; done) | (simp [*]; done)), (by first | rfl | (simp; done) | (simp [*]; done)), (by first | rfl | (simp; done) | (simp [*]; done)), H', ⟨by have := HJ4.out; have := HJ10.out; have := HK3.out; have := HK4.out; omega⟩, ⟨by (with_reducible repeat (first | apply Kd.R_alloc | apply Kd.R_drewN | apply Kd.R_drew)); exact HO_7.out⟩, ⟨by repeat (first | (with_reducible first | exact HB.out | apply below_alloc | apply pw_below_drewN | apply below_drew1) | exact HB.out)⟩⟩
                                            · rw [if_neg c43] at H
                                              have c43b0 : decide ((rd t159 (ji36)) ≤ ((rd_T39 l1 x12_4).f0)) = false := decide_eq_false c43
                                              clear c43
                                              have H' := Aside0.mk H
                                              clear H
                                              have p169 : 0 ≤ (x12_4 : Int) := of_decide_eq_true (by first | (with_reducible assumption) | assumption)
                                              have q169 : x12_4 < (l1.length : Int) := of_decide_eq_true (by first | (with_reducible assumption) | assumption)
                                              obtain ⟨ad169, e169, hx169_0, hx169_1, hx169_2⟩ := at_T39 HR1.out x12_4 p169 q169
                                              cases e169
                                              replace hx169_0 := (HB.out.cell (World.block_lt_of_cell? w _ hx169_0)).trans hx169_0
                                              replace hx169_1 := (HB.out.cell (World.block_lt_of_cell? w _ hx169_1)).trans hx169_1
                                              replace hx169_2 := (HB.out.cell (World.block_lt_of_cell? w _ hx169_2)).trans hx169_2
                                              replace p169 := eq_true p169
                                              replace q169 := eq_true q169
                                              have p170 : 0 ≤ ((ji36) : Int) := of_decide_eq_true (by first | (with_reducible assumption) | assumption)
                                              have q170 : (ji36) < (t159.length : Int) := of_decide_eq_true (by first | (with_reducible assumption) | assumption)
                                              obtain ⟨ad170, e170, hx170_0⟩ := Kd.at_int (Kd.R_reads' HO_7.out).2.2 (ji36) p170 q170
                                              cases e170
                                              replace p170 := eq_true p170
                                              replace q170 := eq_true q170
                                              have p171 : 0 ≤ (x12_4 : Int) := of_decide_eq_true (by first | (with_reducible assumption) | assumption)
                                              have q171 : x12_4 < (l1.length : Int) := of_decide_eq_true (by first | (with_reducible assumption) | assumption)
                                              obtain ⟨ad171, e171, hx171_0, hx171_1, hx171_2⟩ := at_T39 HR1.out x12_4 p171 q171
                                              obtain rfl : ad169 = ad171 := (by injection e171)
                                              replace hx171_0 := (HB.out.cell (World.block_lt_of_cell? w _ hx171_0)).trans hx171_0
                                              replace hx171_1 := (HB.out.cell (World.block_lt_of_cell? w _ hx171_1)).trans hx171_1
                                              replace hx171_2 := (HB.out.cell (World.block_lt_of_cell? w _ hx171_2)).trans hx171_2
                                              replace p171 := eq_true p171
                                              replace q171 := eq_true q171
                                              have p172 : 0 ≤ (x9_3 : Int) := of_decide_eq_true (by first | (with_reducible assumption) | assumption)
                                              have q172 : x9_3 < (t159.length : Int) := of_decide_eq_true (by first | (with_reducible assumption) | assumption)
                                              obtain ⟨ad172, e172, hx172_0⟩ := Kd.at_int (Kd.R_reads' HO_7.out).2.2 x9_3 p172 q172
                                              obtain rfl : ad170 = ad172 := (by injection e172)
                                              replace p172 := eq_true p172
                                              replace q172 := eq_true q172
                                              have p173 : 0 ≤ (x12_4 : Int) := of_decide_eq_true (by first | (with_reducible assumption) | assumption)
                                              have q173 : x12_4 < (l1.length : Int) := of_decide_eq_true (by first | (with_reducible assumption) | assumption)
                                              obtain ⟨ad173, e173, hx173_0, hx173_1, hx173_2⟩ := at_T39 HR1.out x12_4 p173 q173
                                              obtain rfl : ad169 = ad173 := (by injection e173)
                                              replace hx173_0 := (HB.out.cell (World.block_lt_of_cell? w _ hx173_0)).trans hx173_0
                                              replace hx173_1 := (HB.out.cell (World.block_lt_of_cell? w _ hx173_1)).trans hx173_1
                                              replace hx173_2 := (HB.out.cell (World.block_lt_of_cell? w _ hx173_2)).trans hx173_2
                                              replace p173 := eq_true p173
                                              replace q173 := eq_true q173
                                              have p174 : 0 ≤ ((ji36) : Int) := of_decide_eq_true (by first | (with_reducible assumption) | assumption)
                                              have q174 : (ji36) < (t159.length : Int) := of_decide_eq_true (by first | (with_reducible assumption) | assumption)
                                              obtain ⟨ad174, e174, hx174_0⟩ := Kd.at_int (Kd.R_reads' HO_7.out).2.2 (ji36) p174 q174
                                              obtain rfl : ad170 = ad174 := (by injection e174)
                                              replace p174 := eq_true p174
                                              replace q174 := eq_true q174
                                              go_wp2
                                              repeat (go_quiet (fail); try go_wp2)
                                              go_roundg k4
                                              case measure => have := HJ4.out; have := HJ10.out; have := HK3.out; have := HK4.out; omega
                                              case rel => exact ⟨((((rd_T39 l1 x12_4).f1) == (rd t159 x9_3))), (false), (wrap64 (x12_4 + 1)), (by first | rfl | (simp; done) | (simp [*]; done)), (by first | rfl | (simp; done) | (simp [*]; done)), (by first | rfl | (simp; done) | (simp [*]; done)), H', ⟨by have := HJ4.out; have := HJ10.out; have := HK3.out; have := HK4.out; omega⟩, ⟨by (with_reducible repeat (first | apply Kd.R_alloc | apply Kd.R_drewN | apply Kd.R_drew)); exact HO_7.out⟩, ⟨by repeat (first | (with_reducible first | exact HB.out | apply below_alloc | apply pw_below_drewN | apply below_drew1) | exact HB.out)⟩⟩
                                        · rw [if_neg c41] at H
                                          exact absurd H (by simp)
                                      · rw [if_neg c40] at H
                                        exact absurd H (by simp)
                                    · rw [if_neg c39] at H
                                      have c39b0 : (((rd_T39 l1 x12_4).f0) == (rd t159 (ji36))) = false := beq_eq_false_iff_ne.mpr c39
                                      have c39b1 : (((rd_T39 l1 x12_4).f0) != (rd t159 (ji36))) = true := bne_iff_ne.mpr c39
                                      by_cases c44 : x11_4 = true
                                      · subst c44
                                        have H1 : (scansionlaw20_ThaiRises.l1 k4 l1 t159 x9_3 false true (wrap64 (x12_4 + 1))) = some r := by rw [if_pos rfl] at H; exact H
                                        clear H
                                        have H := H1
                                        clear H1
                                        have H' := Aside0.mk H
                                        clear H
                                        have p169 : 0 ≤ (x12_4 : Int) := of_decide_eq_true (by first | (with_reducible assumption) | assumption)
                                        have q169 : x12_4 < (l1.length : Int) := of_decide_eq_true (by first | (with_reducible assumption) | assumption)
                                        obtain ⟨ad169, e169, hx169_0, hx169_1, hx169_2⟩ := at_T39 HR1.out x12_4 p169 q169
                                        cases e169
                                        replace hx169_0 := (HB.out.cell (World.block_lt_of_cell? w _ hx169_0)).trans hx169_0
                                        replace hx169_1 := (HB.out.cell (World.block_lt_of_cell? w _ hx169_1)).trans hx169_1
                                        replace hx169_2 := (HB.out.cell (World.block_lt_of_cell? w _ hx169_2)).trans hx169_2
                                        replace p169 := eq_true p169
                                        replace q169 := eq_true q169
                                        have p170 : 0 ≤ ((ji36) : Int) := of_decide_eq_true (by first | (with_reducible assumption) | assumption)
                                        have q170 : (ji36) < (t159.length : Int) := of_decide_eq_true (by first | (with_reducible assumption) | assumption)
                                        obtain ⟨ad170, e170, hx170_0⟩ := Kd.at_int (Kd.R_reads' HO_7.out).2.2 (ji36) p170 q170
                                        cases e170
                                        replace p170 := eq_true p170
                                        replace q170 := eq_true q170
                                        go_wp2
                                        repeat (go_quiet (fail); try go_wp2)
                                        go_roundg k4
                                        case measure => have := HJ4.out; have := HJ10.out; have := HK3.out; have := HK4.out; omega
                                        case rel => exact ⟨(false), (true), (wrap64 (x12_4 + 1)), (by first | rfl | (simp; done) | (simp [*]; done)), (by first | rfl | (simp; done) | (simp [*]; done)), (by first | rfl | (simp; done) | (simp [*]; done)), H', ⟨by have := HJ4.out; have := HJ10.out; have := HK3.out; have := HK4.out; omega⟩, ⟨by (with_reducible repeat (first | apply Kd.R_alloc | apply Kd.R_drewN | apply Kd.R_drew)); exact HO_7.out⟩, ⟨by repeat (first | (with_reducible first | exact HB.out | apply below_alloc | apply pw_below_drewN | apply below_drew1) | exact HB.out)⟩⟩
                                      · replace c44 := Bool.eq_false_iff.mpr c44
                                        subst c44
                                        have H1 : (if ((rd_T39 l1 x12_4).f0) ≥ (rd t159 (ji36)) then (if 0 ≤ x9_3 then (if x9_3 < (t159.length : Int) then (scansionlaw20_ThaiRises.l1 k4 l1 t159 x9_3 false (decide (((rd_T39 l1 x12_4).f0) < (rd t159 x9_3))) (wrap64 (x12_4 + 1))) else (none)) else (none)) else (scansionlaw20_ThaiRises.l1 k4 l1 t159 x9_3 false false (wrap64 (x12_4 + 1)))) = some r := by rw [if_neg (show ¬ (false = true) by decide)] at H; exact H
                                        clear H
                                        have H := H1
                                        clear H1
                                        by_cases c45 : ((rd_T39 l1 x12_4).f0) ≥ (rd t159 (ji36))
                                        · rw [if_pos c45] at H
                                          have c45b0 : decide ((rd t159 (ji36)) ≤ ((rd_T39 l1 x12_4).f0)) = true := decide_eq_true c45
                                          clear c45
                                          by_cases c46 : 0 ≤ x9_3
                                          · rw [if_pos c46] at H
                                            have c46b0 : decide (0 ≤ x9_3) = true := decide_eq_true c46
                                            clear c46
                                            by_cases c47 : x9_3 < (t159.length : Int)
                                            · rw [if_pos c47] at H
                                              have c47b0 : decide (x9_3 < (t159.length : Int)) = true := decide_eq_true c47
                                              clear c47
                                              have H' := Aside0.mk H
                                              clear H
                                              have p169 : 0 ≤ (x12_4 : Int) := of_decide_eq_true (by first | (with_reducible assumption) | assumption)
                                              have q169 : x12_4 < (l1.length : Int) := of_decide_eq_true (by first | (with_reducible assumption) | assumption)
                                              obtain ⟨ad169, e169, hx169_0, hx169_1, hx169_2⟩ := at_T39 HR1.out x12_4 p169 q169
                                              cases e169
                                              replace hx169_0 := (HB.out.cell (World.block_lt_of_cell? w _ hx169_0)).trans hx169_0
                                              replace hx169_1 := (HB.out.cell (World.block_lt_of_cell? w _ hx169_1)).trans hx169_1
                                              replace hx169_2 := (HB.out.cell (World.block_lt_of_cell? w _ hx169_2)).trans hx169_2
                                              replace p169 := eq_true p169
                                              replace q169 := eq_true q169
                                              have p170 : 0 ≤ ((ji36) : Int) := of_decide_eq_true (by first | (with_reducible assumption) | assumption)
                                              have q170 : (ji36) < (t159.length : Int) := of_decide_eq_true (by first | (with_reducible assumption) | assumption)
                                              obtain ⟨ad170, e170, hx170_0⟩ := Kd.at_int (Kd.R_reads' HO_7.out).2.2 (ji36) p170 q170
                                              cases e170
                                              replace p170 := eq_true p170
                                              replace q170 := eq_true q170
                                              have p177 : 0 ≤ (x12_4 : Int) := of_decide_eq_true (by first | (with_reducible assumption) | assumption)
                                              have q177 : x12_4 < (l1.length : Int) := of_decide_eq_true (by first | (with_reducible assumption) | assumption)
                                              obtain ⟨ad177, e177, hx177_0, hx177_1, hx177_2⟩ := at_T39 HR1.out x12_4 p177 q177
                                              obtain rfl : ad169 = ad177 := (by injection e177)
                                              replace hx177_0 := (HB.out.cell (World.block_lt_of_cell? w _ hx177_0)).trans hx177_0
                                              replace hx177_1 := (HB.out.cell (World.block_lt_of_cell? w _ hx177_1)).trans hx177_1
                                              replace hx177_2 := (HB.out.cell (World.block_lt_of_cell? w _ hx177_2)).trans hx177_2
                                              replace p177 := eq_true p177
                                              replace q177 := eq_true q177
                                              have p178 : 0 ≤ ((ji36) : Int) := of_decide_eq_true (by first | (with_reducible assumption) | assumption)
                                              have q178 : (ji36) < (t159.length : Int) := of_decide_eq_true (by first | (with_reducible assumption) | assumption)
                                              obtain ⟨ad178, e178, hx178_0⟩ := Kd.at_int (Kd.R_reads' HO_7.out).2.2 (ji36) p178 q178
                                              obtain rfl : ad170 = ad178 := (by injection e178)
                                              replace p178 := eq_true p178
                                              replace q178 := eq_true q178
                                              have p179 : 0 ≤ (x12_4 : Int) := of_decide_eq_true (by first | (with_reducible assumption) | assumption)
                                              have q179 : x12_4 < (l1.length : Int) := of_decide_eq_true (by first | (with_reducible assumption) | assumption)
                                              obtain ⟨ad179, e179, hx179_0, hx179_1, hx179_2⟩ := at_T39 HR1.out x12_4 p179 q179
                                              obtain rfl : ad169 = ad179 := (by injection e179)
                                              replace hx179_0 := (HB.out.cell (World.block_lt_of_cell? w _ hx179_0)).trans hx179_0
                                              replace hx179_1 := (HB.out.cell (World.block_lt_of_cell? w _ hx179_1)).trans hx179_1
                                              replace hx179_2 := (HB.out.cell (World.block_lt_of_cell? w _ hx179_2)).trans hx179_2
                                              replace p179 := eq_true p179
                                              replace q179 := eq_true q179
                                              have p180 : 0 ≤ (x9_3 : Int) := of_decide_eq_true (by first | (with_reducible assumption) | assumption)
                                              have q180 : x9_3 < (t159.length : Int) := of_decide_eq_true (by first | (with_reducible assumption) | assumption)
                                              obtain ⟨ad180, e180, hx180_0⟩ := Kd.at_int (Kd.R_reads' HO_7.out).2.2 x9_3 p180 q180
                                              obtain rfl : ad170 = ad180 := (by injection e180)
                                              replace p180 := eq_true p180
                                              replace q180 := eq_true q180
                                              go_wp2
                                              repeat (go_quiet (fail); try go_wp2)
                                              go_roundg k4
                                              case measure => have := HJ4.out; have := HJ10.out; have := HK3.out; have := HK4.out; omega
                                              case rel => exact ⟨(false), (decide (((rd_T39 l1 x12_4).f0) < (rd t159 x9_3))), (wrap64 (x12_4 + 1)), (by first | rfl | (simp; done) | (simp [*]; done)), (by first | rfl | (simp; done) | (simp [*]; done)), (by first | rfl | (simp; done) | (simp [*]; done)), H', ⟨by have := HJ4.out; have := HJ10.out; have := HK3.out; have := HK4.out; omega⟩, ⟨by (with_reducible repeat (first | apply Kd.R_alloc | apply Kd.R_drewN | apply Kd.R_drew)); exact HO_7.out⟩, ⟨by repeat (first | (with_reducible first | exact HB.out | apply below_alloc | apply pw_below_drewN | apply below_drew1) | exact HB.out)⟩⟩
                                            · rw [if_neg c47] at H
                                              exact absurd H (by simp)
                                          · rw [if_neg c46] at H
                                            exact absurd H (by simp)
                                        · rw [if_neg c45] at H
                                          have c45b0 : decide ((rd t159 (ji36)) ≤ ((rd_T39 l1 x12_4).f0)) = false := decide_eq_false c45
                                          clear c45
                                          have H' := Aside0.mk H
                                          clear H
                                          have p169 : 0 ≤ (x12_4 : Int) := of_decide_eq_true (by first | (with_reducible assumption) | assumption)
                                          have q169 : x12_4 < (l1.length : Int) := of_decide_eq_true (by first | (with_reducible assumption) | assumption)
                                          obtain ⟨ad169, e169, hx169_0, hx169_1, hx169_2⟩ := at_T39 HR1.out x12_4 p169 q169
                                          cases e169
                                          replace hx169_0 := (HB.out.cell (World.block_lt_of_cell? w _ hx169_0)).trans hx169_0
                                          replace hx169_1 := (HB.out.cell (World.block_lt_of_cell? w _ hx169_1)).trans hx169_1
                                          replace hx169_2 := (HB.out.cell (World.block_lt_of_cell? w _ hx169_2)).trans hx169_2
                                          replace p169 := eq_true p169
                                          replace q169 := eq_true q169
                                          have p170 : 0 ≤ ((ji36) : Int) := of_decide_eq_true (by first | (with_reducible assumption) | assumption)
                                          have q170 : (ji36) < (t159.length : Int) := of_decide_eq_true (by first | (with_reducible assumption) | assumption)
                                          obtain ⟨ad170, e170, hx170_0⟩ := Kd.at_int (Kd.R_reads' HO_7.out).2.2 (ji36) p170 q170
                                          cases e170
                                          replace p170 := eq_true p170
                                          replace q170 := eq_true q170
                                          have p177 : 0 ≤ (x12_4 : Int) := of_decide_eq_true (by first | (with_reducible assumption) | assumption)
                                          have q177 : x12_4 < (l1.length : Int) := of_decide_eq_true (by first | (with_reducible assumption) | assumption)
                                          obtain ⟨ad177, e177, hx177_0, hx177_1, hx177_2⟩ := at_T39 HR1.out x12_4 p177 q177
                                          obtain rfl : ad169 = ad177 := (by injection e177)
                                          replace hx177_0 := (HB.out.cell (World.block_lt_of_cell? w _ hx177_0)).trans hx177_0
                                          replace hx177_1 := (HB.out.cell (World.block_lt_of_cell? w _ hx177_1)).trans hx177_1
                                          replace hx177_2 := (HB.out.cell (World.block_lt_of_cell? w _ hx177_2)).trans hx177_2
                                          replace p177 := eq_true p177
                                          replace q177 := eq_true q177
                                          have p178 : 0 ≤ ((ji36) : Int) := of_decide_eq_true (by first | (with_reducible assumption) | assumption)
                                          have q178 : (ji36) < (t159.length : Int) := of_decide_eq_true (by first | (with_reducible assumption) | assumption)
                                          obtain ⟨ad178, e178, hx178_0⟩ := Kd.at_int (Kd.R_reads' HO_7.out).2.2 (ji36) p178 q178
                                          obtain rfl : ad170 = ad178 := (by injection e178)
                                          replace p178 := eq_true p178
                                          replace q178 := eq_true q178
                                          go_wp2
                                          repeat (go_quiet (fail); try go_wp2)
                                          go_roundg k4
                                          case measure => have := HJ4.out; have := HJ10.out; have := HK3.out; have := HK4.out; omega
                                          case rel => exact ⟨(false), (false), (wrap64 (x12_4 + 1)), (by first | rfl | (simp; done) | (simp [*]; done)), (by first | rfl | (simp; done) | (simp [*]; done)), (by first | rfl | (simp; done) | (simp [*]; done)), H', ⟨by have := HJ4.out; have := HJ10.out; have := HK3.out; have := HK4.out; omega⟩, ⟨by (with_reducible repeat (first | apply Kd.R_alloc | apply Kd.R_drewN | apply Kd.R_drew)); exact HO_7.out⟩, ⟨by repeat (first | (with_reducible first | exact HB.out | apply below_alloc | apply pw_below_drewN | apply below_drew1) | exact HB.out)⟩⟩
                                  · rw [if_neg c38] at H
                                    exact absurd H (by simp)
                                · rw [if_neg c37] at H
                                  exact absurd H (by simp)
                              · rw [if_neg c35] at H
                                exact absurd H (by simp)
                          · rw [if_neg c25] at H
                            have c25b0 : decide (x12_4 < (l1.length : Int)) = false := decide_eq_false c25
                            clear c25
                            by_cases c48 : 0 ≤ x9_3
                            · rw [if_pos c48] at H
                              have c48b0 : decide (0 ≤ x9_3) = true := decide_eq_true c48
                              clear c48
                              by_cases c49 : x9_3 < (t159.length : Int)
                              · rw [if_pos c49] at H
                                have c49b0 : decide (x9_3 < (t159.length : Int)) = true := decide_eq_true c49
                                clear c49
                                obtain ⟨ji50, hji50⟩ : ∃ j_ : Int, (wrap64 (x9_3 - 1)) = j_ := ⟨_, rfl⟩
                                replace H : (if 0 ≤ (ji50) then (if (ji50) < (t159.length : Int) then (if (rd t159 x9_3) ≤ (rd t159 (ji50)) then (some false) else (if x10_4 = true then (scansionlaw20_ThaiRises.l0 k4 l1 t159 (wrap64 (x9_3 + 1))) else (if x11_4 = true then (some false) else (scansionlaw20_ThaiRises.l0 k4 l1 t159 (wrap64 (x9_3 + 1)))))) else (none)) else (none)) = some r := by first | (rw [hji50] at H; exact H) | (simp only [hji50] at H ⊢; exact H)
                                have hji50w : (IntKind.i64.wrap (x9_3 - 1)) = ji50 := (i64_w _).trans hji50
                                by_cases c51 : 0 ≤ (ji50)
                                · rw [if_pos c51] at H
                                  have c51b0 : decide (0 ≤ (ji50)) = true := decide_eq_true c51
                                  clear c51
                                  by_cases c52 : (ji50) < (t159.length : Int)
                                  · rw [if_pos c52] at H
                                    have c52b0 : decide ((ji50) < (t159.length : Int)) = true := decide_eq_true c52
                                    clear c52
                                    by_cases c53 : (rd t159 x9_3) ≤ (rd t159 (ji50))
                                    · rw [if_pos c53] at H
                                      have c53b0 : decide ((rd t159 x9_3) ≤ (rd t159 (ji50))) = true := decide_eq_true c53
                                      clear c53
                                      obtain rfl := Option.some.inj H
                                      have p181 : 0 ≤ (x9_3 : Int) := of_decide_eq_true (by first | (with_reducible assumption) | assumption)
                                      have q181 : x9_3 < (t159.length : Int) := of_decide_eq_true (by first | (with_reducible assumption) | assumption)
                                      obtain ⟨ad181, e181, hx181_0⟩ := Kd.at_int (Kd.R_reads' HO_7.out).2.2 x9_3 p181 q181
                                      cases e181
                                      replace p181 := eq_true p181
                                      replace q181 := eq_true q181
                                      have p182 : 0 ≤ ((ji50) : Int) := of_decide_eq_true (by first | (with_reducible assumption) | assumption)
                                      have q182 : (ji50) < (t159.length : Int) := of_decide_eq_true (by first | (with_reducible assumption) | assumption)
                                      obtain ⟨ad182, e182, hx182_0⟩ := Kd.at_int (Kd.R_reads' HO_7.out).2.2 (ji50) p182 q182
                                      obtain rfl : ad181 = ad182 := (by injection e182)
                                      replace p182 := eq_true p182
                                      replace q182 := eq_true q182
                                      go_wp2
                                      repeat (go_quiet (fail); try go_wp2)
                                      go_ret
                                      exact ⟨by first | rfl | (simp [errW_none, errW_some] <;> rfl) | (simp only [← hji50]; first | rfl | (simp [errW_none, errW_some] <;> rfl)) | (simp [*, errW_none, errW_some] <;> rfl), by repeat (first | (with_reducible first | exact HB.out | apply below_alloc | apply pw_below_drewN | apply below_drew1) | exact HB.out)⟩
                                    · rw [if_neg c53] at H
                                      have c53b0 : decide ((rd t159 x9_3) ≤ (rd t159 (ji50))) = false := decide_eq_false c53
                                      clear c53
                                      by_cases c54 : x10_4 = true
                                      · subst c54
                                        have H1 : (scansionlaw20_ThaiRises.l0 k4 l1 t159 (wrap64 (x9_3 + 1))) = some r := by rw [if_pos rfl] at H; exact H
                                        clear H
                                        have H := H1
                                        clear H1
                                        have H' := Aside0.mk H
                                        clear H
                                        have p181 : 0 ≤ (x9_3 : Int) := of_decide_eq_true (by first | (with_reducible assumption) | assumption)
                                        have q181 : x9_3 < (t159.length : Int) := of_decide_eq_true (by first | (with_reducible assumption) | assumption)
                                        obtain ⟨ad181, e181, hx181_0⟩ := Kd.at_int (Kd.R_reads' HO_7.out).2.2 x9_3 p181 q181
                                        cases e181
                                        replace p181 := eq_true p181
                                        replace q181 := eq_true q181
                                        have p182 : 0 ≤ ((ji50) : Int) := of_decide_eq_true (by first | (with_reducible assumption) | assumption)
                                        have q182 : (ji50) < (t159.length : Int) := of_decide_eq_true (by first | (with_reducible assumption) | assumption)
                                        obtain ⟨ad182, e182, hx182_0⟩ := Kd.at_int (Kd.R_reads' HO_7.out).2.2 (ji50) p182 q182
                                        obtain rfl : ad181 = ad182 := (by injection e182)
                                        replace p182 := eq_true p182
                                        replace q182 := eq_true q182
                                        go_wp2
                                        repeat (go_quiet (fail); try go_wp2)
                                        go_roundg k4
                                        case measure => have := HJ4.out; have := HJ10.out; have := HK3.out; have := HK4.out; omega
                                        case rel => exact ⟨(wrap64 (x9_3 + 1)), (by first | rfl | (simp; done) | (simp [*]; done)), H', ⟨by have := HJ4.out; have := HJ10.out; have := HK3.out; have := HK4.out; omega⟩, ⟨by (with_reducible repeat (first | apply Kd.R_alloc | apply Kd.R_drewN | apply Kd.R_drew)); exact HO_7.out⟩, ⟨by repeat (first | (with_reducible first | exact HB.out | apply below_alloc | apply pw_below_drewN | apply below_drew1) | exact HB.out)⟩⟩
                                      · replace c54 := Bool.eq_false_iff.mpr c54
                                        subst c54
                                        have H1 : (if x11_4 = true then (some false) else (scansionlaw20_ThaiRises.l0 k4 l1 t159 (wrap64 (x9_3 + 1)))) = some r := by rw [if_neg (show ¬ (false = true) by decide)] at H; exact H
                                        clear H
                                        have H := H1
                                        clear H1
                                        by_cases c55 : x11_4 = true
                                        · subst c55
                                          have H1 : (some false) = some r := by rw [if_pos rfl] at H; exact H
                                          clear H
                                          have H := H1
                                          clear H1
                                          obtain rfl := Option.some.inj H
                                          have p181 : 0 ≤ (x9_3 : Int) := of_decide_eq_true (by first | (with_reducible assumption) | assumption)
                                          have q181 : x9_3 < (t159.length : Int) := of_decide_eq_true (by first | (with_reducible assumption) | assumption)
                                          obtain ⟨ad181, e181, hx181_0⟩ := Kd.at_int (Kd.R_reads' HO_7.out).2.2 x9_3 p181 q181
                                          cases e181
                                          replace p181 := eq_true p181
                                          replace q181 := eq_true q181
                                          have p182 : 0 ≤ ((ji50) : Int) := of_decide_eq_true (by first | (with_reducible assumption) | assumption)
                                          have q182 : (ji50) < (t159.length : Int) := of_decide_eq_true (by first | (with_reducible assumption) | assumption)
                                          obtain ⟨ad182, e182, hx182_0⟩ := Kd.at_int (Kd.R_reads' HO_7.out).2.2 (ji50) p182 q182
                                          obtain rfl : ad181 = ad182 := (by injection e182)
                                          replace p182 := eq_true p182
                                          replace q182 := eq_true q182
                                          go_wp2
                                          repeat (go_quiet (fail); try go_wp2)
                                          go_ret
                                          exact ⟨by first | rfl | (simp [errW_none, errW_some] <;> rfl) | (simp only [← hji50]; first | rfl | (simp [errW_none, errW_some] <;> rfl)) | (simp [*, errW_none, errW_some] <;> rfl), by repeat (first | (with_reducible first | exact HB.out | apply below_alloc | apply pw_below_drewN | apply below_drew1) | exact HB.out)⟩
                                        · replace c55 := Bool.eq_false_iff.mpr c55
                                          subst c55
                                          have H1 : (scansionlaw20_ThaiRises.l0 k4 l1 t159 (wrap64 (x9_3 + 1))) = some r := by rw [if_neg (show ¬ (false = true) by decide)] at H; exact H
                                          clear H
                                          have H := H1
                                          clear H1
                                          have H' := Aside0.mk H
                                          clear H
                                          have p181 : 0 ≤ (x9_3 : Int) := of_decide_eq_true (by first | (with_reducible assumption) | assumption)
                                          have q181 : x9_3 < (t159.length : Int) := of_decide_eq_true (by first | (with_reducible assumption) | assumption)
                                          obtain ⟨ad181, e181, hx181_0⟩ := Kd.at_int (Kd.R_reads' HO_7.out).2.2 x9_3 p181 q181
                                          cases e181
                                          replace p181 := eq_true p181
                                          replace q181 := eq_true q181
                                          have p182 : 0 ≤ ((ji50) : Int) := of_decide_eq_true (by first | (with_reducible assumption) | assumption)
                                          have q182 : (ji50) < (t159.length : Int) := of_decide_eq_true (by first | (with_reducible assumption) | assumption)
                                          obtain ⟨ad182, e182, hx182_0⟩ := Kd.at_int (Kd.R_reads' HO_7.out).2.2 (ji50) p182 q182
                                          obtain rfl : ad181 = ad182 := (by injection e182)
                                          replace p182 := eq_true p182
                                          replace q182 := eq_true q182
                                          go_wp2
                                          repeat (go_quiet (fail); try go_wp2)
                                          go_roundg k4
                                          case measure => have := HJ4.out; have := HJ10.out; have := HK3.out; have := HK4.out; omega
                                          case rel => exact ⟨(wrap64 (x9_3 + 1)), (by first | rfl | (simp; done) | (simp [*]; done)), H', ⟨by have := HJ4.out; have := HJ10.out; have := HK3.out; have := HK4.out; omega⟩, ⟨by (with_reducible repeat (first | apply Kd.R_alloc | apply Kd.R_drewN | apply Kd.R_drew)); exact HO_7.out⟩, ⟨by repeat (first | (with_reducible first | exact HB.out | apply below_alloc | apply pw_below_drewN | apply below_drew1) | exact HB.out)⟩⟩
                                  · rw [if_neg c52] at H
                                    exact absurd H (by simp)
                                · rw [if_neg c51] at H
                                  exact absurd H (by simp)
                              · rw [if_neg c49] at H
                                exact absurd H (by simp)
                            · rw [if_neg c48] at H
                              exact absurd H (by simp)
                    · rw [if_neg c23] at H
                      have c23b0 : decide (x9_3 < (t159.length : Int)) = false := decide_eq_false c23
                      clear c23
                      obtain rfl := Option.some.inj H
                      obtain ⟨Ao56, co56, eo56⟩ := Kd.R_slice HO_7.out
                      subst eo56
                      go_wp2
                      repeat (go_quiet (fail); try go_wp2)
                      go_ret
                      exact ⟨by first | rfl | (simp [errW_none, errW_some] <;> rfl) | (simp [*, errW_none, errW_some] <;> rfl), by repeat (first | (with_reducible first | exact HB.out | apply below_alloc | apply pw_below_drewN | apply below_drew1) | exact HB.out)⟩
        · rw [if_neg c10] at H
          have c10b0 : (t160 == 0) = false := beq_eq_false_iff_ne.mpr c10
          have c10b1 : (t160 != 0) = true := bne_iff_ne.mpr c10
          by_cases c57 : t160 = 1
          · rw [if_pos c57] at H
            have c57b0 : (t160 == 1) = true := beq_iff_eq.mpr c57
            have c57b1 : (t160 != 1) = false := bne_eq_false_iff_eq.mpr c57
            clear c57
            obtain rfl := Option.some.inj H
            go_wp2_with (first | (go_at_call 17; (with_reducible refine (thai_Parts.calls kj4 a0 _ _ l1 t159 t160 _ ?side1 ?side2 A9.out).mono ?_); (case side1 => repeat (first | exact (Kd.C_below HR1.out HB.out) | (with_reducible refine Kd.C_alloc ?_ _) | (with_reducible refine Kd.C_drewN ?_ _) | (with_reducible refine Kd.C_drew ?_))); (case side2 => exact HC1.out); rintro e w58 ⟨v161, rfl, ho0, hb⟩; have n0_ := Aside0.mk (Kd.R_lower ho0 (below_size (by repeat (first | (with_reducible first | exact HB.out | apply below_alloc | apply pw_below_drewN | apply below_drew1) | exact HB.out)))); have n1_ := Aside0.mk (below_step (by repeat (first | (with_reducible first | exact HB.out | apply below_alloc | apply pw_below_drewN | apply below_drew1) | exact HB.out)) hb); clear HB; have HO162 := n0_; have HB := n1_; clear n0_ n1_; (try clear hb); (try clear hb2); (try clear hk); (try clear hi); (try clear ho0); obtain ⟨Ao59, co59, eo59⟩ := Kd.R_slice HO162.out; subst eo59))
            repeat (go_quiet (first | (go_at_call 17; (with_reducible refine (thai_Parts.calls kj4 a0 _ _ l1 t159 t160 _ ?side1 ?side2 A9.out).mono ?_); (case side1 => repeat (first | exact (Kd.C_below HR1.out HB.out) | (with_reducible refine Kd.C_alloc ?_ _) | (with_reducible refine Kd.C_drewN ?_ _) | (with_reducible refine Kd.C_drew ?_))); (case side2 => exact HC1.out); rintro e w58 ⟨v161, rfl, ho0, hb⟩; have n0_ := Aside0.mk (Kd.R_lower ho0 (below_size (by repeat (first | (with_reducible first | exact HB.out | apply below_alloc | apply pw_below_drewN | apply below_drew1) | exact HB.out)))); have n1_ := Aside0.mk (below_step (by repeat (first | (with_reducible first | exact HB.out | apply below_alloc | apply pw_below_drewN | apply below_drew1) | exact HB.out)) hb); clear HB; have HO162 := n0_; have HB := n1_; clear n0_ n1_; (try clear hb); (try clear hb2); (try clear hk); (try clear hi); (try clear ho0); obtain ⟨Ao59, co59, eo59⟩ := Kd.R_slice HO162.out; subst eo59)); try go_wp2_with (first | (go_at_call 17; (with_reducible refine (thai_Parts.calls kj4 a0 _ _ l1 t159 t160 _ ?side1 ?side2 A9.out).mono ?_); (case side1 => repeat (first | exact (Kd.C_below HR1.out HB.out) | (with_reducible refine Kd.C_alloc ?_ _) | (with_reducible refine Kd.C_drewN ?_ _) | (with_reducible refine Kd.C_drew ?_))); (case side2 => exact HC1.out); rintro e w58 ⟨v161, rfl, ho0, hb⟩; have n0_ := Aside0.mk (Kd.R_lower ho0 (below_size (by repeat (first | (with_reducible first | exact HB.out | apply below_alloc | apply pw_below_drewN | apply below_drew1) | exact HB.out)))); have n1_ := Aside0.mk (below_step (by repeat (first | (with_reducible first | exact HB.out | apply below_alloc | apply pw_below_drewN | apply below_drew1) | exact HB.out)) hb); clear HB; have HO162 := n0_; have HB := n1_; clear n0_ n1_; (try clear hb); (try clear hb2); (try clear hk); (try clear hi); (try clear ho0); obtain ⟨Ao59, co59, eo59⟩ := Kd.R_slice HO162.out; subst eo59)))
            go_ret
            exact ⟨by first | rfl | (simp [errW_none, errW_some] <;> rfl) | (simp [*, errW_none, errW_some] <;> rfl), by repeat (first | (with_reducible first | exact HB.out | apply below_alloc | apply pw_below_drewN | apply below_drew1) | exact HB.out)⟩
          · rw [if_neg c57] at H
            have c57b0 : (t160 == 1) = false := beq_eq_false_iff_ne.mpr c57
            have c57b1 : (t160 != 1) = true := bne_iff_ne.mpr c57
            obtain rfl := Option.some.inj H
            go_wp2_with (first | (go_at_call 17; (with_reducible refine (thai_Parts.calls kj4 a0 _ _ l1 t159 t160 _ ?side1 ?side2 A9.out).mono ?_); (case side1 => repeat (first | exact (Kd.C_below HR1.out HB.out) | (with_reducible refine Kd.C_alloc ?_ _) | (with_reducible refine Kd.C_drewN ?_ _) | (with_reducible refine Kd.C_drew ?_))); (case side2 => exact HC1.out); rintro e w60 ⟨v161, rfl, ho0, hb⟩; have n0_ := Aside0.mk (Kd.R_lower ho0 (below_size (by repeat (first | (with_reducible first | exact HB.out | apply below_alloc | apply pw_below_drewN | apply below_drew1) | exact HB.out)))); have n1_ := Aside0.mk (below_step (by repeat (first | (with_reducible first | exact HB.out | apply below_alloc | apply pw_below_drewN | apply below_drew1) | exact HB.out)) hb); clear HB; have HO162 := n0_; have HB := n1_; clear n0_ n1_; (try clear hb); (try clear hb2); (try clear hk); (try clear hi); (try clear ho0)))
            repeat (go_quiet (first | (go_at_call 17; (with_reducible refine (thai_Parts.calls kj4 a0 _ _ l1 t159 t160 _ ?side1 ?side2 A9.out).mono ?_); (case side1 => repeat (first | exact (Kd.C_below HR1.out HB.out) | (with_reducible refine Kd.C_alloc ?_ _) | (with_reducible refine Kd.C_drewN ?_ _) | (with_reducible refine Kd.C_drew ?_))); (case side2 => exact HC1.out); rintro e w60 ⟨v161, rfl, ho0, hb⟩; have n0_ := Aside0.mk (Kd.R_lower ho0 (below_size (by repeat (first | (with_reducible first | exact HB.out | apply below_alloc | apply pw_below_drewN | apply below_drew1) | exact HB.out)))); have n1_ := Aside0.mk (below_step (by repeat (first | (with_reducible first | exact HB.out | apply below_alloc | apply pw_below_drewN | apply below_drew1) | exact HB.out)) hb); clear HB; have HO162 := n0_; have HB := n1_; clear n0_ n1_; (try clear hb); (try clear hb2); (try clear hk); (try clear hi); (try clear ho0))); try go_wp2_with (first | (go_at_call 17; (with_reducible refine (thai_Parts.calls kj4 a0 _ _ l1 t159 t160 _ ?side1 ?side2 A9.out).mono ?_); (case side1 => repeat (first | exact (Kd.C_below HR1.out HB.out) | (with_reducible refine Kd.C_alloc ?_ _) | (with_reducible refine Kd.C_drewN ?_ _) | (with_reducible refine Kd.C_drew ?_))); (case side2 => exact HC1.out); rintro e w60 ⟨v161, rfl, ho0, hb⟩; have n0_ := Aside0.mk (Kd.R_lower ho0 (below_size (by repeat (first | (with_reducible first | exact HB.out | apply below_alloc | apply pw_below_drewN | apply below_drew1) | exact HB.out)))); have n1_ := Aside0.mk (below_step (by repeat (first | (with_reducible first | exact HB.out | apply below_alloc | apply pw_below_drewN | apply below_drew1) | exact HB.out)) hb); clear HB; have HO162 := n0_; have HB := n1_; clear n0_ n1_; (try clear hb); (try clear hb2); (try clear hk); (try clear hi); (try clear ho0))))
            go_ret
            exact ⟨by first | rfl | (simp [errW_none, errW_some] <;> rfl) | (simp [*, errW_none, errW_some] <;> rfl), by repeat (first | (with_reducible first | exact HB.out | apply below_alloc | apply pw_below_drewN | apply below_drew1) | exact HB.out)⟩

end Go.Proofs.Ytmfkjanfnmplnaa.XT
