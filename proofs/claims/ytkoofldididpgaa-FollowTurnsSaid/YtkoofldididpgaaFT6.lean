/- What FollowTurns's proof leans on, part 6: words printed by the kit's tools, walks and plain laws of mine. No condition. -/
import Derived.Deep.Slices
import Derived.SizedLaws
import Derived.Test.YtkoofldididpgaaFT5
section
namespace Go.Proofs.Ytkoofldididpgaa.XB
open Go.RowKit Go.Proofs.YtkoofldididpgaaW.PrintWords Go.Proofs.YtkoofldididpgaaW.PrintLast Go.Proofs.YtkoofldididpgaaW.PrintMore
attribute [local go_sem] max2_int min2_int max_two min_two max_three min_three max_four min_four
set_option linter.unusedVariables false
set_option linter.unusedSimpArgs false
mutual
def scansionlaw11_FollowTurns.j0 : Nat → Bool → Bool → Int → Int → List (S24) → Option (Bool)
  | 0, _, _, _, _, _ => none
  | k + 1, x3, x20, x236000, x236001, x236002 => if x20 = true then (some x3) else ((follow_Build.f x236000 x236001 x236002).bind fun bt238 => ((scansionref10_Turn.f k x236000 x236001 x236002).bind fun bt253 => ((follow_Build.f bt253.1 bt253.2.1 bt253.2.2).bind fun bt258 => (if bt238.2.2.2.2.2 = 0 then (scansionlaw11_FollowTurns.j1 k bt238.2.2.2.2.2 bt258.2.2.2.2.2 (bt258.2.2.2.2.2 != 0) bt238.1 bt238.2.1 bt238.2.2.1 bt238.2.2.2.1 bt238.2.2.2.2.1 bt258.1 bt258.2.1 bt258.2.2.1 bt258.2.2.2.1 bt258.2.2.2.2.1) else (scansionlaw11_FollowTurns.j1 k bt238.2.2.2.2.2 bt258.2.2.2.2.2 true bt238.1 bt238.2.1 bt238.2.2.1 bt238.2.2.2.1 bt238.2.2.2.2.1 bt258.1 bt258.2.1 bt258.2.2.1 bt258.2.2.2.1 bt258.2.2.2.2.1)))))
def scansionlaw11_FollowTurns.j1 : Nat → Int → Int → Bool → Bool → List Int → List Int → List Int → List (List Int) → Bool → List Int → List Int → List Int → List (List Int) → Option (Bool)
  | 0, _, _, _, _, _, _, _, _, _, _, _, _, _ => none
  | k + 1, x6, x8, x38, x253000, x253001, x253002, x253003, x253004, x273000, x273001, x273002, x273003, x273004 => if x38 = true then (some (x6 == x8)) else (scansionlaw11_FollowTurns.l0 k 0 0 0 x253000 x253001 x253002 x253003 x253004 x273000 x273001 x273002 x273003 x273004)
def scansionlaw11_FollowTurns.l0 : Nat → Int → Int → Int → Bool → List Int → List Int → List Int → List (List Int) → Bool → List Int → List Int → List Int → List (List Int) → Option (Bool)
  | 0, _, _, _, _, _, _, _, _, _, _, _, _, _ => none
  | k + 1, x9, x10, x11, x253000, x253001, x253002, x253003, x253004, x273000, x273001, x273002, x273003, x273004 => if x11 < (x253004.length : Int) then (if x11 < (x273004.length : Int) then (if 0 ≤ x11 then (scansionlaw11_FollowTurns.l0 k (wrap64 (x9 + ((rd_L1 x253004 x11).length : Int))) (wrap64 (x10 + ((rd_L1 x273004 x11).length : Int))) (wrap64 (x11 + 1)) x253000 x253001 x253002 x253003 x253004 x273000 x273001 x273002 x273003 x273004) else (none)) else (if (x253001.length : Int) = (x273001.length : Int) then (if (x253000 == x273000) = true then (if (x253002.length : Int) = (x273003.length : Int) then (if (x253003.length : Int) = (x273002.length : Int) then (some (x9 == x10)) else (some false)) else (some false)) else (some false)) else (some false))) else (if (x253001.length : Int) = (x273001.length : Int) then (if (x253000 == x273000) = true then (if (x253002.length : Int) = (x273003.length : Int) then (if (x253003.length : Int) = (x273002.length : Int) then (some (x9 == x10)) else (some false)) else (some false)) else (some false)) else (some false))
end
def scansionlaw11_FollowTurns.f (k : Nat) (a0_0 : Int) (a0_1 : Int) (l0_2 : List (S24)) : Option (Bool) := (scansionlaw11_awake.f k).bind fun t236 => ((scansionlaw11_few.f k a0_0 a0_1 l0_2 ([] : List Int)).bind fun t237 => (if t236 = true then (scansionlaw11_FollowTurns.j0 k t236 (!t237) a0_0 a0_1 l0_2) else (scansionlaw11_FollowTurns.j0 k t236 true a0_0 a0_1 l0_2)))
theorem scansionlaw11_FollowTurns.mono_l : ∀ k, (∀ y0 y1 y2 y3 y4, LeO (scansionlaw11_FollowTurns.j0 k y0 y1 y2 y3 y4) (scansionlaw11_FollowTurns.j0 (k + 1) y0 y1 y2 y3 y4)) ∧ (∀ y0 y1 y2 y3 y4 y5 y6 y7 y8 y9 y10 y11 y12, LeO (scansionlaw11_FollowTurns.j1 k y0 y1 y2 y3 y4 y5 y6 y7 y8 y9 y10 y11 y12) (scansionlaw11_FollowTurns.j1 (k + 1) y0 y1 y2 y3 y4 y5 y6 y7 y8 y9 y10 y11 y12)) ∧ (∀ y0 y1 y2 y3 y4 y5 y6 y7 y8 y9 y10 y11 y12, LeO (scansionlaw11_FollowTurns.l0 k y0 y1 y2 y3 y4 y5 y6 y7 y8 y9 y10 y11 y12) (scansionlaw11_FollowTurns.l0 (k + 1) y0 y1 y2 y3 y4 y5 y6 y7 y8 y9 y10 y11 y12))
  | 0 => ⟨fun _ _ _ _ _ r h => by simp [scansionlaw11_FollowTurns.j0] at h, fun _ _ _ _ _ _ _ _ _ _ _ _ _ r h => by simp [scansionlaw11_FollowTurns.j1] at h, fun _ _ _ _ _ _ _ _ _ _ _ _ _ r h => by simp [scansionlaw11_FollowTurns.l0] at h⟩
  | k + 1 => by
    obtain ⟨ih0, ih1, ih2⟩ := scansionlaw11_FollowTurns.mono_l k
    refine ⟨?_, ?_, ?_⟩
    · intro y0 y1 y2 y3 y4
      unfold scansionlaw11_FollowTurns.j0
      repeat' first
      | (with_reducible exact ih0 _ _ _ _ _)
      | (with_reducible exact ih1 _ _ _ _ _ _ _ _ _ _ _ _ _)
      | (with_reducible exact ih2 _ _ _ _ _ _ _ _ _ _ _ _ _)
      | (with_reducible exact scansionlaw11_awake.mono _)
      | (with_reducible exact scansionlaw11_few.mono _ _ _ _ _)
      | (with_reducible exact scansionref10_Turn.mono _ _ _ _)
      | (with_reducible exact LeO.refl _)
      | (with_reducible exact LeO.none _)
      | (with_reducible refine LeO.ite ?_ ?_)
      | (with_reducible refine LeO.bind ?_ (fun _ => ?_))
      | exact ih0 _ _ _ _ _
      | exact ih1 _ _ _ _ _ _ _ _ _ _ _ _ _
      | exact ih2 _ _ _ _ _ _ _ _ _ _ _ _ _
      | exact scansionlaw11_awake.mono _
      | exact scansionlaw11_few.mono _ _ _ _ _
      | exact scansionref10_Turn.mono _ _ _ _
      | exact LeO.none _
      | refine LeO.ite ?_ ?_
      | refine LeO.bind ?_ (fun _ => ?_)
    · intro y0 y1 y2 y3 y4 y5 y6 y7 y8 y9 y10 y11 y12
      unfold scansionlaw11_FollowTurns.j1
      repeat' first
      | (with_reducible exact ih0 _ _ _ _ _)
      | (with_reducible exact ih1 _ _ _ _ _ _ _ _ _ _ _ _ _)
      | (with_reducible exact ih2 _ _ _ _ _ _ _ _ _ _ _ _ _)
      | (with_reducible exact scansionlaw11_awake.mono _)
      | (with_reducible exact scansionlaw11_few.mono _ _ _ _ _)
      | (with_reducible exact scansionref10_Turn.mono _ _ _ _)
      | (with_reducible exact LeO.refl _)
      | (with_reducible exact LeO.none _)
      | (with_reducible refine LeO.ite ?_ ?_)
      | (with_reducible refine LeO.bind ?_ (fun _ => ?_))
      | exact ih0 _ _ _ _ _
      | exact ih1 _ _ _ _ _ _ _ _ _ _ _ _ _
      | exact ih2 _ _ _ _ _ _ _ _ _ _ _ _ _
      | exact scansionlaw11_awake.mono _
      | exact scansionlaw11_few.mono _ _ _ _ _
      | exact scansionref10_Turn.mono _ _ _ _
      | exact LeO.none _
      | refine LeO.ite ?_ ?_
      | refine LeO.bind ?_ (fun _ => ?_)
    · intro y0 y1 y2 y3 y4 y5 y6 y7 y8 y9 y10 y11 y12
      unfold scansionlaw11_FollowTurns.l0
      repeat' first
      | (with_reducible exact ih0 _ _ _ _ _)
      | (with_reducible exact ih1 _ _ _ _ _ _ _ _ _ _ _ _ _)
      | (with_reducible exact ih2 _ _ _ _ _ _ _ _ _ _ _ _ _)
      | (with_reducible exact scansionlaw11_awake.mono _)
      | (with_reducible exact scansionlaw11_few.mono _ _ _ _ _)
      | (with_reducible exact scansionref10_Turn.mono _ _ _ _)
      | (with_reducible exact LeO.refl _)
      | (with_reducible exact LeO.none _)
      | (with_reducible refine LeO.ite ?_ ?_)
      | (with_reducible refine LeO.bind ?_ (fun _ => ?_))
      | exact ih0 _ _ _ _ _
      | exact ih1 _ _ _ _ _ _ _ _ _ _ _ _ _
      | exact ih2 _ _ _ _ _ _ _ _ _ _ _ _ _
      | exact scansionlaw11_awake.mono _
      | exact scansionlaw11_few.mono _ _ _ _ _
      | exact scansionref10_Turn.mono _ _ _ _
      | exact LeO.none _
      | refine LeO.ite ?_ ?_
      | refine LeO.bind ?_ (fun _ => ?_)
theorem scansionlaw11_FollowTurns.mono : ∀ a0 a1 a2 k, LeO (scansionlaw11_FollowTurns.f k a0 a1 a2) (scansionlaw11_FollowTurns.f (k + 1) a0 a1 a2) := by
  intro a0 a1 a2 k
  obtain ⟨ih0, ih1, ih2⟩ := scansionlaw11_FollowTurns.mono_l k
  unfold scansionlaw11_FollowTurns.f
  repeat' first
      | (with_reducible exact ih0 _ _ _ _ _)
      | (with_reducible exact ih1 _ _ _ _ _ _ _ _ _ _ _ _ _)
      | (with_reducible exact ih2 _ _ _ _ _ _ _ _ _ _ _ _ _)
      | (with_reducible exact scansionlaw11_awake.mono _)
      | (with_reducible exact scansionlaw11_few.mono _ _ _ _ _)
      | (with_reducible exact scansionref10_Turn.mono _ _ _ _)
      | (with_reducible exact LeO.refl _)
      | (with_reducible exact LeO.none _)
      | (with_reducible refine LeO.ite ?_ ?_)
      | (with_reducible refine LeO.bind ?_ (fun _ => ?_))
      | exact ih0 _ _ _ _ _
      | exact ih1 _ _ _ _ _ _ _ _ _ _ _ _ _
      | exact ih2 _ _ _ _ _ _ _ _ _ _ _ _ _
      | exact scansionlaw11_awake.mono _
      | exact scansionlaw11_few.mono _ _ _ _ _
      | exact scansionref10_Turn.mono _ _ _ _
      | exact LeO.none _
      | refine LeO.ite ?_ ?_
      | refine LeO.bind ?_ (fun _ => ?_)
set_option maxHeartbeats 8000000 in
set_option maxRecDepth 100000 in
theorem scansionlaw11_FollowTurns.calls (k : Nat) (a0_0 : Int) (a0_1 : Int) (A0_2 : Option Addr) (c0_2 : Nat) (l0_2 : List (S24)) (r : Bool) (w : World) (hr0_2 : Kd.C k24 w A0_2 l0_2.length l0_2) (hc0_2 : l0_2.length ≤ c0_2) (h : scansionlaw11_FollowTurns.f k a0_0 a0_1 l0_2 = some r) :
    Calls Try.prog 5 #[.agg #[.int .i64 a0_0, .int .i64 a0_1, .slice A0_2 l0_2.length c0_2]] w fun e w' => e = .returned (.bool r) ∧ Below w.heap.size w w' := by
  have hu24 := Try.underlying24
  have hu30 := Try.underlying30
  have HR0_2 := Aside0.mk hr0_2
  have HC0_2 := Aside0.mk hc0_2
  clear hr0_2 hc0_2
  have HB := Aside0.mk (Below.refl w.heap.size w)
  have H : ((scansionlaw11_awake.f k).bind fun t236 => ((scansionlaw11_few.f k a0_0 a0_1 l0_2 ([] : List Int)).bind fun t237 => (if t236 = true then (scansionlaw11_FollowTurns.j0 k t236 (!t237) a0_0 a0_1 l0_2) else (scansionlaw11_FollowTurns.j0 k t236 true a0_0 a0_1 l0_2)))) = some r := h
  clear h
  replace H := Option.bind_eq_some_iff.mp H
  obtain ⟨t236, A20, H⟩ := H
  replace H : ((scansionlaw11_few.f k a0_0 a0_1 l0_2 ([] : List Int)).bind fun t237 => (if t236 = true then (scansionlaw11_FollowTurns.j0 k t236 (!t237) a0_0 a0_1 l0_2) else (scansionlaw11_FollowTurns.j0 k t236 true a0_0 a0_1 l0_2))) = some r := H
  have A2 := Aside0.mk A20
  clear A20
  replace H := Option.bind_eq_some_iff.mp H
  obtain ⟨t237, A30, H⟩ := H
  replace H : (if t236 = true then (scansionlaw11_FollowTurns.j0 k t236 (!t237) a0_0 a0_1 l0_2) else (scansionlaw11_FollowTurns.j0 k t236 true a0_0 a0_1 l0_2)) = some r := H
  have A3 := Aside0.mk A30
  clear A30
  have HC4 := Aside0.mk H
  clear H
  go_enter Try.func5, Try.ntmps5
  go_upto_region 3 with (first | ((with_reducible refine gate_dst (N := 1) rfl ?_); (try (refine gate_guard (by rfl) ?_; dsimp only)); refine box_event ?hg (N := 1) ?hd (cs := #[.int .i64 a0_0, .int .i64 a0_1, .slice A0_2 l0_2.length c0_2]) (t := 24) ?hr ?_; (case hd => rfl); (case hg => rfl); (case hr => first | (go_simp; done) | (go_simp; rfl)); intro gb235 hg w5 hbox hb; have n0_ := Aside0.mk (below_step (by repeat (first | (with_reducible first | exact HB.out | apply below_alloc | apply pw_below_drewN | apply below_drew1) | exact HB.out)) hb); have n1_ := Aside0.mk (hbox); have n2_ := Aside0.mk ((by rw [hg]; exact (below_size (by repeat (first | (with_reducible first | exact HB.out | apply below_alloc | apply pw_below_drewN | apply below_drew1) | exact HB.out))) : w.heap.size ≤ gb235)); have n3_ := Aside0.mk ((by rw [hg]; exact (below_size (by repeat (first | (with_reducible first | exact HB.out | apply below_alloc | apply pw_below_drewN | apply below_drew1) | exact HB.out))) : w.heap.size ≤ gb235)); clear HB; have HB := n0_; have BK235 := n1_; have GW235 := n2_; have GE235 := n3_; clear n0_ n1_ n2_ n3_; clear hb hbox hg) | ((with_reducible refine gate_callee (f := 16) rfl ?_); refine goesL_ (some 12) rfl rfl Try.func16 (by kernel_rfl) rfl #[] rfl (by (try simp only [List.map_toArray, List.map_cons, List.map_nil]); first | done | rfl | (simp only [List.length_drop, List.length_take]; rfl)) ?_; (with_reducible refine (scansionlaw11_awake.calls k  t236 _ A2.out).mono ?_); rintro e w6 ⟨rfl, hb⟩; refine ⟨_, rfl, ?_⟩; have n0_ := Aside0.mk (blk_below (g := gb235) (o := .cells #[.int .i64 a0_0, .int .i64 a0_1, .slice A0_2 l0_2.length c0_2] 24 (0, 0)) (by (with_reducible repeat (first | refine blk_drewN ?_ _ | refine blk_drew ?_ | refine blk_alloc ?_ _)); exact BK235.out) hb); have n1_ := Aside0.mk (below_step (by repeat (first | (with_reducible first | exact HB.out | apply below_alloc | apply pw_below_drewN | apply below_drew1 | refine below_set ?_ GE235.out) | exact HB.out)) hb); clear BK235; clear HB; have BK235 := n0_; have HB := n1_; clear n0_ n1_; (try clear hb); (try clear hb2); (try clear hk); (try clear hi); have hcz7_0 : w6.cell? ⟨gb235, 0, none⟩ = some (.int .i64 a0_0) := (blk_cell BK235.out 0).trans rfl; have hcz7_1 : w6.cell? ⟨gb235, 1, none⟩ = some (.int .i64 a0_1) := (blk_cell BK235.out 1).trans rfl; have hcz7_2 : w6.cell? ⟨gb235, 2, none⟩ = some (.slice A0_2 l0_2.length c0_2) := (blk_cell BK235.out 2).trans rfl; have hfz7_0 := blk_frozen BK235.out 0; have hfz7_1 := blk_frozen BK235.out 1; have hfz7_2 := blk_frozen BK235.out 2) | ((with_reducible refine gate_callee (f := 21) rfl ?_); refine goesL_ (some 14) rfl rfl Try.func21 (by kernel_rfl) rfl #[.agg #[.int .i64 a0_0, .int .i64 a0_1, .slice A0_2 l0_2.length c0_2], .slice none 0 0] rfl (by (try simp only [List.map_toArray, List.map_cons, List.map_nil]); first | done | rfl | (simp only [List.length_drop, List.length_take]; rfl)) ?_; (refine (scansionlaw11_few.calls k a0_0 a0_1 _ _ l0_2 _ _ ([] : List Int) t237 _ ?side1 ?side2 ?side3 ?side4 A3.out).mono ?_); (case side1 => repeat (first | exact (Kd.C_below HR0_2.out HB.out) | (with_reducible refine Kd.C_alloc ?_ _) | (with_reducible refine Kd.C_drewN ?_ _) | (with_reducible refine Kd.C_drew ?_))); (case side2 => exact HC0_2.out); (case side3 => exact Kd.C_nil _ _); (case side4 => exact Nat.le_refl _); rintro e w8 ⟨rfl, hb⟩; refine ⟨_, rfl, ?_⟩; have n0_ := Aside0.mk (blk_below (g := gb235) (o := .cells #[.int .i64 a0_0, .int .i64 a0_1, .slice A0_2 l0_2.length c0_2] 24 (0, 0)) (by (with_reducible repeat (first | refine blk_drewN ?_ _ | refine blk_drew ?_ | refine blk_alloc ?_ _)); exact BK235.out) hb); have n1_ := Aside0.mk (below_step (by repeat (first | (with_reducible first | exact HB.out | apply below_alloc | apply pw_below_drewN | apply below_drew1 | refine below_set ?_ GE235.out) | exact HB.out)) hb); clear BK235; clear HB; have BK235 := n0_; have HB := n1_; clear n0_ n1_; (try clear hb); (try clear hb2); (try clear hk); (try clear hi)))
  (try simp only [Act.put, List.setIfInBounds_toArray, List.set_cons_zero, List.set_cons_succ])
  go_cut [20] (fun v20 wc => ∃ (kq : Nat) (x20_3 : Bool), v20 = .bool x20_3 ∧ Aside0 (scansionlaw11_FollowTurns.j0 kq t236 x20_3 a0_0 a0_1 l0_2 = some r) ∧ Aside0 (kq ≤ k) ∧ Aside0 (wc.heap[gb235]? = some (.cells #[.int .i64 a0_0, .int .i64 a0_1, (.slice A0_2 l0_2.length c0_2)] 24 (0, 0))) ∧ Aside0 (Below w.heap.size w wc))
  case first =>
    have H := HC4.out
    clear HC4
    by_cases c9 : t236 = true
    · subst c9
      have H1 : (scansionlaw11_FollowTurns.j0 k true (!t237) a0_0 a0_1 l0_2) = some r := by rw [if_pos rfl] at H; exact H
      clear H
      have H := H1
      clear H1
      have H' := Aside0.mk H
      clear H
      go_wp2
      go_meet
      case rel => exact ⟨_, (!t237), (by first | rfl | (simp; done) | (simp [*]; done)), H', ⟨by first | omega | exact Nat.le_refl _⟩, ⟨by (with_reducible repeat (first | refine blk_drewN ?_ _ | refine blk_drew ?_ | refine blk_alloc ?_ _)); exact BK235.out⟩, ⟨by repeat (first | (with_reducible first | exact HB.out | apply below_alloc | apply pw_below_drewN | apply below_drew1 | refine below_set ?_ GE235.out) | exact HB.out)⟩⟩
    · replace c9 := Bool.eq_false_iff.mpr c9
      subst c9
      have H1 : (scansionlaw11_FollowTurns.j0 k false true a0_0 a0_1 l0_2) = some r := by rw [if_neg (show ¬ (false = true) by decide)] at H; exact H
      clear H
      have H := H1
      clear H1
      have H' := Aside0.mk H
      clear H
      go_wp2
      go_meet
      case rel => exact ⟨_, (true), (by first | rfl | (simp; done) | (simp [*]; done)), H', ⟨by first | omega | exact Nat.le_refl _⟩, ⟨by (with_reducible repeat (first | refine blk_drewN ?_ _ | refine blk_drew ?_ | refine blk_alloc ?_ _)); exact BK235.out⟩, ⟨by repeat (first | (with_reducible first | exact HB.out | apply below_alloc | apply pw_below_drewN | apply below_drew1 | refine below_set ?_ GE235.out) | exact HB.out)⟩⟩
  case rest =>
    clear HC4
    try clear c1
    try clear c2
    try clear p2
    try clear c5
    try clear c9
    try clear hcz7_0
    try clear hcz7_1
    try clear hcz7_2
    try clear hfz7_0
    try clear hfz7_1
    try clear hfz7_2
    obtain ⟨kq, x20_3, rfl, HA, HJ3, BK235, HB⟩ := hcut
    cases kq with
    | zero => exact absurd HA.out (by simp [scansionlaw11_FollowTurns.j0])
    | succ kj3 =>
      have H := HA.out
      clear HA
      simp only [scansionlaw11_FollowTurns.j0] at H
      by_cases c10 : x20_3 = true
      · subst c10
        have H1 : (some t236) = some r := by rw [if_pos rfl] at H; exact H
        clear H
        have H := H1
        clear H1
        obtain rfl := Option.some.inj H
        go_wp2
        go_ret
        exact ⟨by first | rfl | (simp [errW_none, errW_some] <;> rfl) | (simp [*, errW_none, errW_some] <;> rfl), by repeat (first | (with_reducible first | exact HB.out | apply below_alloc | apply pw_below_drewN | apply below_drew1 | refine below_set ?_ GE235.out) | exact HB.out)⟩
      · replace c10 := Bool.eq_false_iff.mpr c10
        subst c10
        have H1 : ((follow_Build.f a0_0 a0_1 l0_2).bind fun bt238 => ((scansionref10_Turn.f kj3 a0_0 a0_1 l0_2).bind fun bt253 => ((follow_Build.f bt253.1 bt253.2.1 bt253.2.2).bind fun bt258 => (if bt238.2.2.2.2.2 = 0 then (scansionlaw11_FollowTurns.j1 kj3 bt238.2.2.2.2.2 bt258.2.2.2.2.2 (bt258.2.2.2.2.2 != 0) bt238.1 bt238.2.1 bt238.2.2.1 bt238.2.2.2.1 bt238.2.2.2.2.1 bt258.1 bt258.2.1 bt258.2.2.1 bt258.2.2.2.1 bt258.2.2.2.2.1) else (scansionlaw11_FollowTurns.j1 kj3 bt238.2.2.2.2.2 bt258.2.2.2.2.2 true bt238.1 bt238.2.1 bt238.2.2.1 bt238.2.2.2.1 bt238.2.2.2.2.1 bt258.1 bt258.2.1 bt258.2.2.1 bt258.2.2.2.1 bt258.2.2.2.2.1))))) = some r := by rw [if_neg (show ¬ (false = true) by decide)] at H; exact H
        clear H
        have H := H1
        clear H1
        replace H := Option.bind_eq_some_iff.mp H
        obtain ⟨⟨t238, t239, t242, t245, t248, t251⟩, A110, H⟩ := H
        replace H : ((scansionref10_Turn.f kj3 a0_0 a0_1 l0_2).bind fun bt253 => ((follow_Build.f bt253.1 bt253.2.1 bt253.2.2).bind fun bt258 => (if t251 = 0 then (scansionlaw11_FollowTurns.j1 kj3 t251 bt258.2.2.2.2.2 (bt258.2.2.2.2.2 != 0) t238 t239 t242 t245 t248 bt258.1 bt258.2.1 bt258.2.2.1 bt258.2.2.2.1 bt258.2.2.2.2.1) else (scansionlaw11_FollowTurns.j1 kj3 t251 bt258.2.2.2.2.2 true t238 t239 t242 t245 t248 bt258.1 bt258.2.1 bt258.2.2.1 bt258.2.2.2.1 bt258.2.2.2.2.1)))) = some r := H
        have A11 := Aside0.mk A110
        clear A110
        replace H := Option.bind_eq_some_iff.mp H
        obtain ⟨⟨t253, t254, t255⟩, A120, H⟩ := H
        replace H : ((follow_Build.f t253 t254 t255).bind fun bt258 => (if t251 = 0 then (scansionlaw11_FollowTurns.j1 kj3 t251 bt258.2.2.2.2.2 (bt258.2.2.2.2.2 != 0) t238 t239 t242 t245 t248 bt258.1 bt258.2.1 bt258.2.2.1 bt258.2.2.2.1 bt258.2.2.2.2.1) else (scansionlaw11_FollowTurns.j1 kj3 t251 bt258.2.2.2.2.2 true t238 t239 t242 t245 t248 bt258.1 bt258.2.1 bt258.2.2.1 bt258.2.2.2.1 bt258.2.2.2.2.1))) = some r := H
        have A12 := Aside0.mk A120
        clear A120
        replace H := Option.bind_eq_some_iff.mp H
        obtain ⟨⟨t258, t259, t262, t265, t268, t271⟩, A130, H⟩ := H
        replace H : (if t251 = 0 then (scansionlaw11_FollowTurns.j1 kj3 t251 t271 (t271 != 0) t238 t239 t242 t245 t248 t258 t259 t262 t265 t268) else (scansionlaw11_FollowTurns.j1 kj3 t251 t271 true t238 t239 t242 t245 t248 t258 t259 t262 t265 t268)) = some r := H
        have A13 := Aside0.mk A130
        clear A130
        have HC14 := Aside0.mk H
        clear H
        have hcz15_0 : wc.cell? ⟨gb235, 0, none⟩ = some (.int .i64 a0_0) := (blk_cell BK235.out 0).trans rfl
        have hcz15_1 : wc.cell? ⟨gb235, 1, none⟩ = some (.int .i64 a0_1) := (blk_cell BK235.out 1).trans rfl
        have hcz15_2 : wc.cell? ⟨gb235, 2, none⟩ = some (.slice A0_2 l0_2.length c0_2) := (blk_cell BK235.out 2).trans rfl
        have hfz15_0 := blk_frozen BK235.out 0
        have hfz15_1 := blk_frozen BK235.out 1
        have hfz15_2 := blk_frozen BK235.out 2
        go_upto_region 7 with (first | ((with_reducible refine gate_callee (f := 18) rfl ?_); refine goesL_ (some 24) rfl rfl Try.func18 (by kernel_rfl) rfl #[.agg #[.int .i64 a0_0, .int .i64 a0_1, .slice A0_2 l0_2.length c0_2]] rfl (by (try simp only [List.map_toArray, List.map_cons, List.map_nil]); first | done | rfl | (simp only [List.length_drop, List.length_take]; rfl)) ?_; (with_reducible refine (follow_Build.calls a0_0 a0_1 _ _ l0_2 t238 t239 t242 t245 t248 t251 _ ?side1 ?side2 A11.out).mono ?_); (case side1 => repeat (first | exact (Kd.C_below HR0_2.out HB.out) | (with_reducible refine Kd.C_alloc ?_ _) | (with_reducible refine Kd.C_drewN ?_ _) | (with_reducible refine Kd.C_drew ?_))); (case side2 => exact HC0_2.out); rintro e w16 ⟨v240, v243, v246, v249, rfl, ho0, ho1, ho2, ho3, hb⟩; refine ⟨_, rfl, ?_⟩; have n0_ := Aside0.mk (Kd.R_lower (Kd.R_mono (ok' := fun k_ => some k_ ≠ (v243 : Value).ownBlock ∧ some k_ ≠ (v246 : Value).ownBlock) ho0 (fun _ hk_ => hk_.2)) (below_size (by repeat (first | (with_reducible first | exact HB.out | apply below_alloc | apply pw_below_drewN | apply below_drew1 | refine below_set ?_ GE235.out) | exact HB.out)))); have n1_ := Aside0.mk (Kd.R_lower (Kd.R_mono (ok' := fun k_ => some k_ ≠ (v240 : Value).ownBlock ∧ some k_ ≠ (Value.slice none 0 0 : Value).ownBlock) ho1 (fun _ hk_ => hk_.2)) (below_size (by repeat (first | (with_reducible first | exact HB.out | apply below_alloc | apply pw_below_drewN | apply below_drew1 | refine below_set ?_ GE235.out) | exact HB.out)))); have n2_ := Aside0.mk (Kd.R_lower (Kd.R_mono (ok' := fun k_ => some k_ ≠ (v240 : Value).ownBlock ∧ some k_ ≠ (Value.slice none 0 0 : Value).ownBlock) ho2 (fun _ hk_ => hk_.2)) (below_size (by repeat (first | (with_reducible first | exact HB.out | apply below_alloc | apply pw_below_drewN | apply below_drew1 | refine below_set ?_ GE235.out) | exact HB.out)))); have n3_ := Aside0.mk (Kd.N_lower (Kd.N_mono (ok' := fun k_ => some k_ ≠ (v240 : Value).ownBlock ∧ some k_ ≠ (Value.slice none 0 0 : Value).ownBlock ∧ some k_ ≠ (Value.slice none 0 0 : Value).ownBlock ∧ k_ ≠ gb235) ho3 (fun k_ hk_ => ⟨hk_.2.1, hk_.2.2.1, hk_.2.2.2, (Kd.freshB (g := gb235) (o := .cells #[.int .i64 a0_0, .int .i64 a0_1, .slice A0_2 l0_2.length c0_2] 24 (0, 0)) (by (with_reducible repeat (first | refine blk_drewN ?_ _ | refine blk_drew ?_ | refine blk_alloc ?_ _)); exact BK235.out) k_ hk_.1)⟩)) (below_size (by repeat (first | (with_reducible first | exact HB.out | apply below_alloc | apply pw_below_drewN | apply below_drew1 | refine below_set ?_ GE235.out) | exact HB.out)))); have n4_ := Aside0.mk (blk_below (g := gb235) (o := .cells #[.int .i64 a0_0, .int .i64 a0_1, .slice A0_2 l0_2.length c0_2] 24 (0, 0)) (by (with_reducible repeat (first | refine blk_drewN ?_ _ | refine blk_drew ?_ | refine blk_alloc ?_ _)); exact BK235.out) hb); have n5_ := Aside0.mk (below_step (by repeat (first | (with_reducible first | exact HB.out | apply below_alloc | apply pw_below_drewN | apply below_drew1 | refine below_set ?_ GE235.out) | exact HB.out)) hb); clear BK235; clear HB; have HO241 := n0_; have HO244 := n1_; have HO247 := n2_; have HO250 := n3_; have BK235 := n4_; have HB := n5_; clear n0_ n1_ n2_ n3_ n4_ n5_; (try clear hb); (try clear hb2); (try clear hk); (try clear hi); (try clear ho0); (try clear ho1); (try clear ho2); (try clear ho3)) | ((with_reducible refine gate_dst (N := 5) rfl ?_); (try (refine gate_guard (by rfl) ?_; dsimp only)); refine box_event ?hg (N := 5) ?hd (cs := #[.bool false, .slice none 0 0, .slice none 0 0, .slice none 0 0, .slice none 0 0]) (t := 30) ?hr ?_; (case hd => rfl); (case hg => rfl); (case hr => first | (go_simp; done) | (go_simp; rfl)); intro gb252 hg w17 hbox hb; have n0_ := Aside0.mk (Kd.R_below (by (with_reducible repeat (first | apply Kd.R_alloc | apply Kd.R_drewN | apply Kd.R_drew)); exact HO241.out) hb); have n1_ := Aside0.mk (Kd.R_below (by (with_reducible repeat (first | apply Kd.R_alloc | apply Kd.R_drewN | apply Kd.R_drew)); exact HO244.out) hb); have n2_ := Aside0.mk (Kd.R_below (by (with_reducible repeat (first | apply Kd.R_alloc | apply Kd.R_drewN | apply Kd.R_drew)); exact HO247.out) hb); have n3_ := Aside0.mk (Kd.N_below (Kd.N_elderB (by (with_reducible repeat (first | apply Kd.N_alloc | apply Kd.N_drewN | apply Kd.N_drew)); exact HO250.out) gb252 (Nat.le_of_eq hg.symm)) hb); have n4_ := Aside0.mk (blk_below (g := gb235) (o := .cells #[.int .i64 a0_0, .int .i64 a0_1, .slice A0_2 l0_2.length c0_2] 24 (0, 0)) (by (with_reducible repeat (first | refine blk_drewN ?_ _ | refine blk_drew ?_ | refine blk_alloc ?_ _)); exact BK235.out) hb); have n5_ := Aside0.mk (below_step (by repeat (first | (with_reducible first | exact HB.out | apply below_alloc | apply pw_below_drewN | apply below_drew1 | refine below_set ?_ GE235.out) | exact HB.out)) hb); have n6_ := Aside0.mk (hbox); have n7_ := Aside0.mk ((by rw [hg]; exact (below_size (by repeat (first | (with_reducible first | exact HB.out | apply below_alloc | apply pw_below_drewN | apply below_drew1 | refine below_set ?_ GE235.out) | exact HB.out))) : w.heap.size ≤ gb252)); have n8_ := Aside0.mk ((by rw [hg]; exact (below_size (by repeat (first | (with_reducible first | exact HB.out | apply below_alloc | apply pw_below_drewN | apply below_drew1 | refine below_set ?_ GE235.out) | exact HB.out))) : w.heap.size ≤ gb252)); have n9_ := Aside0.mk ((by rw [hg]; exact Nat.ne_of_lt (blk_lt (g := gb235) (o := .cells #[.int .i64 a0_0, .int .i64 a0_1, .slice A0_2 l0_2.length c0_2] 24 (0, 0)) (by (with_reducible repeat (first | refine blk_drewN ?_ _ | refine blk_drew ?_ | refine blk_alloc ?_ _)); exact BK235.out)) : gb235 ≠ gb252)); have n10_ := Aside0.mk ((by rw [hg]; exact Nat.ne_of_gt (blk_lt (g := gb235) (o := .cells #[.int .i64 a0_0, .int .i64 a0_1, .slice A0_2 l0_2.length c0_2] 24 (0, 0)) (by (with_reducible repeat (first | refine blk_drewN ?_ _ | refine blk_drew ?_ | refine blk_alloc ?_ _)); exact BK235.out)) : gb252 ≠ gb235)); clear HO241; clear HO244; clear HO247; clear HO250; clear BK235; clear HB; have HO241 := n0_; have HO244 := n1_; have HO247 := n2_; have HO250 := n3_; have BK235 := n4_; have HB := n5_; have BK252 := n6_; have GW252 := n7_; have GE252 := n8_; have NB235_252 := n9_; have NB252_235 := n10_; clear n0_ n1_ n2_ n3_ n4_ n5_ n6_ n7_ n8_ n9_ n10_; clear hb hbox hg; have hnb18 := NB252_235.out; have hnc18 := NB235_252.out; have hcz19_0 : w17.cell? ⟨gb252, 0, none⟩ = some (.bool false) := (blk_cell BK252.out 0).trans rfl; have hcz19_1 : w17.cell? ⟨gb252, 1, none⟩ = some (.slice none 0 0) := (blk_cell BK252.out 1).trans rfl; have hcz19_2 : w17.cell? ⟨gb252, 2, none⟩ = some (.slice none 0 0) := (blk_cell BK252.out 2).trans rfl; have hcz19_3 : w17.cell? ⟨gb252, 3, none⟩ = some (.slice none 0 0) := (blk_cell BK252.out 3).trans rfl; have hcz19_4 : w17.cell? ⟨gb252, 4, none⟩ = some (.slice none 0 0) := (blk_cell BK252.out 4).trans rfl; have hfz19_0 := blk_frozen BK252.out 0; have hfz19_1 := blk_frozen BK252.out 1; have hfz19_2 := blk_frozen BK252.out 2; have hfz19_3 := blk_frozen BK252.out 3; have hfz19_4 := blk_frozen BK252.out 4; obtain ⟨Ao20, co20, eo20⟩ := Kd.R_slice HO241.out; subst eo20; obtain ⟨Ao21, co21, eo21⟩ := Kd.R_slice HO244.out; subst eo21; obtain ⟨Ao22, co22, eo22⟩ := Kd.R_slice HO247.out; subst eo22; obtain ⟨Ao23, co23, eo23⟩ := Kd.N_slice HO250.out; subst eo23; have hcz24_0 : w17.cell? ⟨gb235, 0, none⟩ = some (.int .i64 a0_0) := (blk_cell BK235.out 0).trans rfl; have hcz24_1 : w17.cell? ⟨gb235, 1, none⟩ = some (.int .i64 a0_1) := (blk_cell BK235.out 1).trans rfl; have hcz24_2 : w17.cell? ⟨gb235, 2, none⟩ = some (.slice A0_2 l0_2.length c0_2) := (blk_cell BK235.out 2).trans rfl; have hfz24_0 := blk_frozen BK235.out 0; have hfz24_1 := blk_frozen BK235.out 1; have hfz24_2 := blk_frozen BK235.out 2) | ((with_reducible refine gate_callee (f := 24) rfl ?_); refine goesL_ (some 29) rfl rfl Try.func24 (by kernel_rfl) rfl #[.agg #[.int .i64 a0_0, .int .i64 a0_1, .slice A0_2 l0_2.length c0_2]] rfl (by (try simp only [List.map_toArray, List.map_cons, List.map_nil]); first | done | rfl | (simp only [List.length_drop, List.length_take]; rfl)) ?_; (with_reducible refine (scansionref10_Turn.calls kj3 a0_0 a0_1 _ _ l0_2 t253 t254 t255 _ ?side1 ?side2 A12.out).mono ?_); (case side1 => exact Kd.C_below HR0_2.out (by repeat (first | (with_reducible first | exact HB.out | apply below_alloc | apply pw_below_drewN | apply below_drew1 | refine below_set ?_ GE235.out | refine below_set ?_ GE252.out) | exact HB.out))); (case side2 => exact HC0_2.out); rintro e w25 ⟨v256, rfl, ho0, hb⟩; refine ⟨_, rfl, ?_⟩; have n0_ := Aside0.mk (Kd.R_below (by (with_reducible repeat (first | apply Kd.R_alloc | apply Kd.R_drewN | apply Kd.R_drew)); exact (Kd.R_mono (Kd.R_far (p := ⟨gb252, 4, none⟩) (Kd.R_far (p := ⟨gb252, 3, none⟩) (Kd.R_far (p := ⟨gb252, 2, none⟩) (Kd.R_far (p := ⟨gb252, 1, none⟩) (Kd.R_far (p := ⟨gb252, 0, none⟩) (Kd.R_types HO241.out BK252.out (by decide)) (fun _ hk => hk.2) (.bool t238)) (fun _ hk => hk.2) (.slice Ao20 t239.length co20)) (fun _ hk => hk.2) (.slice Ao21 t242.length co21)) (fun _ hk => hk.2) (.slice Ao22 t245.length co22)) (fun _ hk => hk.2) (.slice Ao23 t248.length co23)) (fun _ h_ => h_.1))) hb); have n1_ := Aside0.mk (Kd.R_below (by (with_reducible repeat (first | apply Kd.R_alloc | apply Kd.R_drewN | apply Kd.R_drew)); exact (Kd.R_mono (Kd.R_far (p := ⟨gb252, 4, none⟩) (Kd.R_far (p := ⟨gb252, 3, none⟩) (Kd.R_far (p := ⟨gb252, 2, none⟩) (Kd.R_far (p := ⟨gb252, 1, none⟩) (Kd.R_far (p := ⟨gb252, 0, none⟩) (Kd.R_types HO244.out BK252.out (by decide)) (fun _ hk => hk.2) (.bool t238)) (fun _ hk => hk.2) (.slice Ao20 t239.length co20)) (fun _ hk => hk.2) (.slice Ao21 t242.length co21)) (fun _ hk => hk.2) (.slice Ao22 t245.length co22)) (fun _ hk => hk.2) (.slice Ao23 t248.length co23)) (fun _ h_ => h_.1))) hb); have n2_ := Aside0.mk (Kd.R_below (by (with_reducible repeat (first | apply Kd.R_alloc | apply Kd.R_drewN | apply Kd.R_drew)); exact (Kd.R_mono (Kd.R_far (p := ⟨gb252, 4, none⟩) (Kd.R_far (p := ⟨gb252, 3, none⟩) (Kd.R_far (p := ⟨gb252, 2, none⟩) (Kd.R_far (p := ⟨gb252, 1, none⟩) (Kd.R_far (p := ⟨gb252, 0, none⟩) (Kd.R_types HO247.out BK252.out (by decide)) (fun _ hk => hk.2) (.bool t238)) (fun _ hk => hk.2) (.slice Ao20 t239.length co20)) (fun _ hk => hk.2) (.slice Ao21 t242.length co21)) (fun _ hk => hk.2) (.slice Ao22 t245.length co22)) (fun _ hk => hk.2) (.slice Ao23 t248.length co23)) (fun _ h_ => h_.1))) hb); have n3_ := Aside0.mk (Kd.N_elder' (by (with_reducible repeat (first | apply Kd.N_alloc | apply Kd.N_drewN | apply Kd.N_drew)); exact (Kd.N_mono (Kd.N_far (p := ⟨gb252, 4, none⟩) (Kd.N_far (p := ⟨gb252, 3, none⟩) (Kd.N_far (p := ⟨gb252, 2, none⟩) (Kd.N_far (p := ⟨gb252, 1, none⟩) (Kd.N_far (p := ⟨gb252, 0, none⟩) (Kd.N_mono HO250.out (fun k_ hk => (⟨hk, hk.2⟩ : _ ∧ k_ ≠ gb252))) (fun _ hk => hk.2) (.bool t238)) (fun _ hk => hk.2) (.slice Ao20 t239.length co20)) (fun _ hk => hk.2) (.slice Ao21 t242.length co21)) (fun _ hk => hk.2) (.slice Ao22 t245.length co22)) (fun _ hk => hk.2) (.slice Ao23 t248.length co23)) (fun _ h_ => h_.1))) (Kd.R_base ho0) hb); have n4_ := Aside0.mk (Kd.N_lower (Kd.N_mono (ok' := fun k_ => some k_ ≠ (.slice Ao20 t239.length co20 : Value).ownBlock ∧ some k_ ≠ (.slice Ao21 t242.length co21 : Value).ownBlock ∧ some k_ ≠ (.slice Ao22 t245.length co22 : Value).ownBlock ∧ some k_ ≠ (.slice Ao23 t248.length co23 : Value).ownBlock ∧ k_ ≠ gb235 ∧ k_ ≠ gb252) (Kd.R_N (Kd.R_bound ho0)) (fun k_ hk_ => ⟨(Kd.fresh' (Kd.R_lt (by (with_reducible repeat (first | apply Kd.R_alloc | apply Kd.R_drewN | apply Kd.R_drew)); exact (Kd.R_mono (Kd.R_far (p := ⟨gb252, 4, none⟩) (Kd.R_far (p := ⟨gb252, 3, none⟩) (Kd.R_far (p := ⟨gb252, 2, none⟩) (Kd.R_far (p := ⟨gb252, 1, none⟩) (Kd.R_far (p := ⟨gb252, 0, none⟩) (Kd.R_types HO241.out BK252.out (by decide)) (fun _ hk => hk.2) (.bool t238)) (fun _ hk => hk.2) (.slice Ao20 t239.length co20)) (fun _ hk => hk.2) (.slice Ao21 t242.length co21)) (fun _ hk => hk.2) (.slice Ao22 t245.length co22)) (fun _ hk => hk.2) (.slice Ao23 t248.length co23)) (fun _ h_ => h_.1)))) k_ hk_.2.1), (Kd.fresh' (Kd.R_lt (by (with_reducible repeat (first | apply Kd.R_alloc | apply Kd.R_drewN | apply Kd.R_drew)); exact (Kd.R_mono (Kd.R_far (p := ⟨gb252, 4, none⟩) (Kd.R_far (p := ⟨gb252, 3, none⟩) (Kd.R_far (p := ⟨gb252, 2, none⟩) (Kd.R_far (p := ⟨gb252, 1, none⟩) (Kd.R_far (p := ⟨gb252, 0, none⟩) (Kd.R_types HO244.out BK252.out (by decide)) (fun _ hk => hk.2) (.bool t238)) (fun _ hk => hk.2) (.slice Ao20 t239.length co20)) (fun _ hk => hk.2) (.slice Ao21 t242.length co21)) (fun _ hk => hk.2) (.slice Ao22 t245.length co22)) (fun _ hk => hk.2) (.slice Ao23 t248.length co23)) (fun _ h_ => h_.1)))) k_ hk_.2.1), (Kd.fresh' (Kd.R_lt (by (with_reducible repeat (first | apply Kd.R_alloc | apply Kd.R_drewN | apply Kd.R_drew)); exact (Kd.R_mono (Kd.R_far (p := ⟨gb252, 4, none⟩) (Kd.R_far (p := ⟨gb252, 3, none⟩) (Kd.R_far (p := ⟨gb252, 2, none⟩) (Kd.R_far (p := ⟨gb252, 1, none⟩) (Kd.R_far (p := ⟨gb252, 0, none⟩) (Kd.R_types HO247.out BK252.out (by decide)) (fun _ hk => hk.2) (.bool t238)) (fun _ hk => hk.2) (.slice Ao20 t239.length co20)) (fun _ hk => hk.2) (.slice Ao21 t242.length co21)) (fun _ hk => hk.2) (.slice Ao22 t245.length co22)) (fun _ hk => hk.2) (.slice Ao23 t248.length co23)) (fun _ h_ => h_.1)))) k_ hk_.2.1), (Kd.fresh' (Kd.N_lt (by (with_reducible repeat (first | apply Kd.N_alloc | apply Kd.N_drewN | apply Kd.N_drew)); exact (Kd.N_mono (Kd.N_far (p := ⟨gb252, 4, none⟩) (Kd.N_far (p := ⟨gb252, 3, none⟩) (Kd.N_far (p := ⟨gb252, 2, none⟩) (Kd.N_far (p := ⟨gb252, 1, none⟩) (Kd.N_far (p := ⟨gb252, 0, none⟩) (Kd.N_mono HO250.out (fun k_ hk => (⟨hk, hk.2⟩ : _ ∧ k_ ≠ gb252))) (fun _ hk => hk.2) (.bool t238)) (fun _ hk => hk.2) (.slice Ao20 t239.length co20)) (fun _ hk => hk.2) (.slice Ao21 t242.length co21)) (fun _ hk => hk.2) (.slice Ao22 t245.length co22)) (fun _ hk => hk.2) (.slice Ao23 t248.length co23)) (fun _ h_ => h_.1)))) k_ hk_.2.1), (Kd.freshB (g := gb235) (o := .cells #[.int .i64 a0_0, .int .i64 a0_1, .slice A0_2 l0_2.length c0_2] 24 (0, 0)) (by (with_reducible repeat (first | refine blk_drewN ?_ _ | refine blk_drew ?_ | refine blk_alloc ?_ _)); refine blk_far ?_ NB235_252.out _; (with_reducible repeat (first | refine blk_drewN ?_ _ | refine blk_drew ?_ | refine blk_alloc ?_ _)); refine blk_far ?_ NB235_252.out _; (with_reducible repeat (first | refine blk_drewN ?_ _ | refine blk_drew ?_ | refine blk_alloc ?_ _)); refine blk_far ?_ NB235_252.out _; (with_reducible repeat (first | refine blk_drewN ?_ _ | refine blk_drew ?_ | refine blk_alloc ?_ _)); refine blk_far ?_ NB235_252.out _; (with_reducible repeat (first | refine blk_drewN ?_ _ | refine blk_drew ?_ | refine blk_alloc ?_ _)); refine blk_far ?_ NB235_252.out _; (with_reducible repeat (first | refine blk_drewN ?_ _ | refine blk_drew ?_ | refine blk_alloc ?_ _)); exact BK235.out) k_ hk_.2.1), (Kd.freshB (g := gb252) (o := .cells #[.bool t238, .slice Ao20 t239.length co20, .slice Ao21 t242.length co21, .slice Ao22 t245.length co22, .slice Ao23 t248.length co23] 30 (0, 0)) (by (with_reducible repeat (first | refine blk_drewN ?_ _ | refine blk_drew ?_ | refine blk_alloc ?_ _)); refine blk_put (cs := #[.bool t238, .slice Ao20 t239.length co20, .slice Ao21 t242.length co21, .slice Ao22 t245.length co22, .slice none 0 0]) ?_ 4 _ rfl; (with_reducible repeat (first | refine blk_drewN ?_ _ | refine blk_drew ?_ | refine blk_alloc ?_ _)); refine blk_put (cs := #[.bool t238, .slice Ao20 t239.length co20, .slice Ao21 t242.length co21, .slice none 0 0, .slice none 0 0]) ?_ 3 _ rfl; (with_reducible repeat (first | refine blk_drewN ?_ _ | refine blk_drew ?_ | refine blk_alloc ?_ _)); refine blk_put (cs := #[.bool t238, .slice Ao20 t239.length co20, .slice none 0 0, .slice none 0 0, .slice none 0 0]) ?_ 2 _ rfl; (with_reducible repeat (first | refine blk_drewN ?_ _ | refine blk_drew ?_ | refine blk_alloc ?_ _)); refine blk_put (cs := #[.bool t238, .slice none 0 0, .slice none 0 0, .slice none 0 0, .slice none 0 0]) ?_ 1 _ rfl; (with_reducible repeat (first | refine blk_drewN ?_ _ | refine blk_drew ?_ | refine blk_alloc ?_ _)); refine blk_put (cs := #[.bool false, .slice none 0 0, .slice none 0 0, .slice none 0 0, .slice none 0 0]) ?_ 0 _ rfl; (with_reducible repeat (first | refine blk_drewN ?_ _ | refine blk_drew ?_ | refine blk_alloc ?_ _)); exact BK252.out) k_ hk_.2.1)⟩)) (below_size (by repeat (first | (with_reducible first | exact HB.out | apply below_alloc | apply pw_below_drewN | apply below_drew1 | refine below_set ?_ GE235.out | refine below_set ?_ GE252.out) | exact HB.out)))); have n5_ := Aside0.mk (blk_below (g := gb235) (o := .cells #[.int .i64 a0_0, .int .i64 a0_1, .slice A0_2 l0_2.length c0_2] 24 (0, 0)) (by (with_reducible repeat (first | refine blk_drewN ?_ _ | refine blk_drew ?_ | refine blk_alloc ?_ _)); refine blk_far ?_ NB235_252.out _; (with_reducible repeat (first | refine blk_drewN ?_ _ | refine blk_drew ?_ | refine blk_alloc ?_ _)); refine blk_far ?_ NB235_252.out _; (with_reducible repeat (first | refine blk_drewN ?_ _ | refine blk_drew ?_ | refine blk_alloc ?_ _)); refine blk_far ?_ NB235_252.out _; (with_reducible repeat (first | refine blk_drewN ?_ _ | refine blk_drew ?_ | refine blk_alloc ?_ _)); refine blk_far ?_ NB235_252.out _; (with_reducible repeat (first | refine blk_drewN ?_ _ | refine blk_drew ?_ | refine blk_alloc ?_ _)); refine blk_far ?_ NB235_252.out _; (with_reducible repeat (first | refine blk_drewN ?_ _ | refine blk_drew ?_ | refine blk_alloc ?_ _)); exact BK235.out) hb); have n6_ := Aside0.mk (blk_below (g := gb252) (o := .cells #[.bool t238, .slice Ao20 t239.length co20, .slice Ao21 t242.length co21, .slice Ao22 t245.length co22, .slice Ao23 t248.length co23] 30 (0, 0)) (by (with_reducible repeat (first | refine blk_drewN ?_ _ | refine blk_drew ?_ | refine blk_alloc ?_ _)); refine blk_put (cs := #[.bool t238, .slice Ao20 t239.length co20, .slice Ao21 t242.length co21, .slice Ao22 t245.length co22, .slice none 0 0]) ?_ 4 _ rfl; (with_reducible repeat (first | refine blk_drewN ?_ _ | refine blk_drew ?_ | refine blk_alloc ?_ _)); refine blk_put (cs := #[.bool t238, .slice Ao20 t239.length co20, .slice Ao21 t242.length co21, .slice none 0 0, .slice none 0 0]) ?_ 3 _ rfl; (with_reducible repeat (first | refine blk_drewN ?_ _ | refine blk_drew ?_ | refine blk_alloc ?_ _)); refine blk_put (cs := #[.bool t238, .slice Ao20 t239.length co20, .slice none 0 0, .slice none 0 0, .slice none 0 0]) ?_ 2 _ rfl; (with_reducible repeat (first | refine blk_drewN ?_ _ | refine blk_drew ?_ | refine blk_alloc ?_ _)); refine blk_put (cs := #[.bool t238, .slice none 0 0, .slice none 0 0, .slice none 0 0, .slice none 0 0]) ?_ 1 _ rfl; (with_reducible repeat (first | refine blk_drewN ?_ _ | refine blk_drew ?_ | refine blk_alloc ?_ _)); refine blk_put (cs := #[.bool false, .slice none 0 0, .slice none 0 0, .slice none 0 0, .slice none 0 0]) ?_ 0 _ rfl; (with_reducible repeat (first | refine blk_drewN ?_ _ | refine blk_drew ?_ | refine blk_alloc ?_ _)); exact BK252.out) hb); have n7_ := Aside0.mk (below_step (by repeat (first | (with_reducible first | exact HB.out | apply below_alloc | apply pw_below_drewN | apply below_drew1 | refine below_set ?_ GE235.out | refine below_set ?_ GE252.out) | exact HB.out)) hb); clear HO241; clear HO244; clear HO247; clear HO250; clear BK235; clear BK252; clear HB; have HO241 := n0_; have HO244 := n1_; have HO247 := n2_; have HO250 := n3_; have HO257 := n4_; have BK235 := n5_; have BK252 := n6_; have HB := n7_; clear n0_ n1_ n2_ n3_ n4_ n5_ n6_ n7_; (try clear hb); (try clear hb2); (try clear hk); (try clear hi); (try clear ho0); obtain ⟨Ao26, co26, eo26⟩ := Kd.N_slice HO257.out; subst eo26) | ((with_reducible refine gate_callee (f := 18) rfl ?_); refine goesL_ (some 30) rfl rfl Try.func18 (by kernel_rfl) rfl #[.agg #[.int .i64 t253, .int .i64 t254, .slice Ao26 t255.length co26]] rfl (by (try simp only [List.map_toArray, List.map_cons, List.map_nil]); first | done | rfl | (simp only [List.length_drop, List.length_take]; rfl)) ?_; (with_reducible refine (follow_Build.calls t253 t254 _ _ t255 t258 t259 t262 t265 t268 t271 _ ?side1 ?side2 A13.out).mono ?_); (case side1 => repeat (first | exact (Kd.N_reads' HO257.out).2.2 | (with_reducible refine Kd.C_alloc ?_ _) | (with_reducible refine Kd.C_drewN ?_ _) | (with_reducible refine Kd.C_drew ?_))); (case side2 => exact (Kd.N_reads' HO257.out).2.1); rintro e w27 ⟨v260, v263, v266, v269, rfl, ho0, ho1, ho2, ho3, hb⟩; refine ⟨_, rfl, ?_⟩; have n0_ := Aside0.mk (Kd.R_mono (Kd.R_told (Kd.R_told (Kd.R_told (Kd.R_old (by (with_reducible repeat (first | apply Kd.R_alloc | apply Kd.R_drewN | apply Kd.R_drew)); exact HO241.out) hb) (Kd.R_base ho0)) (Kd.R_base ho1)) (Kd.R_base ho2)) (fun _ h_ => h_.1)); have n1_ := Aside0.mk (Kd.R_mono (Kd.R_told (Kd.R_told (Kd.R_told (Kd.R_old (by (with_reducible repeat (first | apply Kd.R_alloc | apply Kd.R_drewN | apply Kd.R_drew)); exact HO244.out) hb) (Kd.R_base ho0)) (Kd.R_base ho1)) (Kd.R_base ho2)) (fun _ h_ => h_.1)); have n2_ := Aside0.mk (Kd.R_mono (Kd.R_told (Kd.R_told (Kd.R_told (Kd.R_old (by (with_reducible repeat (first | apply Kd.R_alloc | apply Kd.R_drewN | apply Kd.R_drew)); exact HO247.out) hb) (Kd.R_base ho0)) (Kd.R_base ho1)) (Kd.R_base ho2)) (fun _ h_ => h_.1)); have n3_ := Aside0.mk (Kd.N_mono (Kd.N_told (Kd.N_told (Kd.N_told (Kd.N_told (Kd.N_old (by (with_reducible repeat (first | apply Kd.N_alloc | apply Kd.N_drewN | apply Kd.N_drew)); exact HO250.out) hb) (Kd.R_base ho0)) (Kd.R_base ho1)) (Kd.R_base ho2)) (Kd.N_base ho3)) (fun _ h_ => h_.1)); have n4_ := Aside0.mk (Kd.N_mono (Kd.N_told (Kd.N_told (Kd.N_told (Kd.N_told (Kd.N_old (by (with_reducible repeat (first | apply Kd.N_alloc | apply Kd.N_drewN | apply Kd.N_drew)); exact HO257.out) hb) (Kd.R_base ho0)) (Kd.R_base ho1)) (Kd.R_base ho2)) (Kd.N_base ho3)) (fun _ h_ => h_.1)); have n5_ := Aside0.mk (Kd.R_lower (Kd.R_new' (Kd.R_new' (Kd.R_new' (Kd.R_mono (ok' := fun k_ => some k_ ≠ (v263 : Value).ownBlock ∧ some k_ ≠ (v266 : Value).ownBlock) ho0 (fun _ hk_ => hk_.2)) (Kd.R_lt (by (with_reducible repeat (first | apply Kd.R_alloc | apply Kd.R_drewN | apply Kd.R_drew)); exact HO241.out))) (Kd.R_lt (by (with_reducible repeat (first | apply Kd.R_alloc | apply Kd.R_drewN | apply Kd.R_drew)); exact HO244.out))) (Kd.R_lt (by (with_reducible repeat (first | apply Kd.R_alloc | apply Kd.R_drewN | apply Kd.R_drew)); exact HO247.out))) (below_size (by repeat (first | (with_reducible first | exact HB.out | apply below_alloc | apply pw_below_drewN | apply below_drew1 | refine below_set ?_ GE235.out | refine below_set ?_ GE252.out) | exact HB.out)))); have n6_ := Aside0.mk (Kd.R_lower (Kd.R_new' (Kd.R_new' (Kd.R_new' (Kd.R_mono (ok' := fun k_ => some k_ ≠ (v260 : Value).ownBlock ∧ some k_ ≠ (Value.slice none 0 0 : Value).ownBlock) ho1 (fun _ hk_ => hk_.2)) (Kd.R_lt (by (with_reducible repeat (first | apply Kd.R_alloc | apply Kd.R_drewN | apply Kd.R_drew)); exact HO241.out))) (Kd.R_lt (by (with_reducible repeat (first | apply Kd.R_alloc | apply Kd.R_drewN | apply Kd.R_drew)); exact HO244.out))) (Kd.R_lt (by (with_reducible repeat (first | apply Kd.R_alloc | apply Kd.R_drewN | apply Kd.R_drew)); exact HO247.out))) (below_size (by repeat (first | (with_reducible first | exact HB.out | apply below_alloc | apply pw_below_drewN | apply below_drew1 | refine below_set ?_ GE235.out | refine below_set ?_ GE252.out) | exact HB.out)))); have n7_ := Aside0.mk (Kd.R_lower (Kd.R_new' (Kd.R_new' (Kd.R_new' (Kd.R_mono (ok' := fun k_ => some k_ ≠ (v260 : Value).ownBlock ∧ some k_ ≠ (Value.slice none 0 0 : Value).ownBlock) ho2 (fun _ hk_ => hk_.2)) (Kd.R_lt (by (with_reducible repeat (first | apply Kd.R_alloc | apply Kd.R_drewN | apply Kd.R_drew)); exact HO241.out))) (Kd.R_lt (by (with_reducible repeat (first | apply Kd.R_alloc | apply Kd.R_drewN | apply Kd.R_drew)); exact HO244.out))) (Kd.R_lt (by (with_reducible repeat (first | apply Kd.R_alloc | apply Kd.R_drewN | apply Kd.R_drew)); exact HO247.out))) (below_size (by repeat (first | (with_reducible first | exact HB.out | apply below_alloc | apply pw_below_drewN | apply below_drew1 | refine below_set ?_ GE235.out | refine below_set ?_ GE252.out) | exact HB.out)))); have n8_ := Aside0.mk (Kd.N_lower (Kd.N_mono (ok' := fun k_ => some k_ ≠ (v260 : Value).ownBlock ∧ some k_ ≠ (Value.slice none 0 0 : Value).ownBlock ∧ some k_ ≠ (Value.slice none 0 0 : Value).ownBlock ∧ some k_ ≠ (.slice Ao20 t239.length co20 : Value).ownBlock ∧ some k_ ≠ (.slice Ao21 t242.length co21 : Value).ownBlock ∧ some k_ ≠ (.slice Ao22 t245.length co22 : Value).ownBlock ∧ some k_ ≠ (.slice Ao23 t248.length co23 : Value).ownBlock ∧ some k_ ≠ (.slice Ao26 t255.length co26 : Value).ownBlock ∧ k_ ≠ gb235 ∧ k_ ≠ gb252) ho3 (fun k_ hk_ => ⟨hk_.2.1, hk_.2.2.1, hk_.2.2.2, (Kd.fresh' (Kd.R_lt (by (with_reducible repeat (first | apply Kd.R_alloc | apply Kd.R_drewN | apply Kd.R_drew)); exact HO241.out)) k_ hk_.1), (Kd.fresh' (Kd.R_lt (by (with_reducible repeat (first | apply Kd.R_alloc | apply Kd.R_drewN | apply Kd.R_drew)); exact HO244.out)) k_ hk_.1), (Kd.fresh' (Kd.R_lt (by (with_reducible repeat (first | apply Kd.R_alloc | apply Kd.R_drewN | apply Kd.R_drew)); exact HO247.out)) k_ hk_.1), (Kd.fresh' (Kd.N_lt (by (with_reducible repeat (first | apply Kd.N_alloc | apply Kd.N_drewN | apply Kd.N_drew)); exact HO250.out)) k_ hk_.1), (Kd.fresh' (Kd.N_lt (by (with_reducible repeat (first | apply Kd.N_alloc | apply Kd.N_drewN | apply Kd.N_drew)); exact HO257.out)) k_ hk_.1), (Kd.freshB (g := gb235) (o := .cells #[.int .i64 a0_0, .int .i64 a0_1, .slice A0_2 l0_2.length c0_2] 24 (0, 0)) (by (with_reducible repeat (first | refine blk_drewN ?_ _ | refine blk_drew ?_ | refine blk_alloc ?_ _)); exact BK235.out) k_ hk_.1), (Kd.freshB (g := gb252) (o := .cells #[.bool t238, .slice Ao20 t239.length co20, .slice Ao21 t242.length co21, .slice Ao22 t245.length co22, .slice Ao23 t248.length co23] 30 (0, 0)) (by (with_reducible repeat (first | refine blk_drewN ?_ _ | refine blk_drew ?_ | refine blk_alloc ?_ _)); exact BK252.out) k_ hk_.1)⟩)) (below_size (by repeat (first | (with_reducible first | exact HB.out | apply below_alloc | apply pw_below_drewN | apply below_drew1 | refine below_set ?_ GE235.out | refine below_set ?_ GE252.out) | exact HB.out)))); have n9_ := Aside0.mk (blk_below (g := gb235) (o := .cells #[.int .i64 a0_0, .int .i64 a0_1, .slice A0_2 l0_2.length c0_2] 24 (0, 0)) (by (with_reducible repeat (first | refine blk_drewN ?_ _ | refine blk_drew ?_ | refine blk_alloc ?_ _)); exact BK235.out) hb); have n10_ := Aside0.mk (blk_below (g := gb252) (o := .cells #[.bool t238, .slice Ao20 t239.length co20, .slice Ao21 t242.length co21, .slice Ao22 t245.length co22, .slice Ao23 t248.length co23] 30 (0, 0)) (by (with_reducible repeat (first | refine blk_drewN ?_ _ | refine blk_drew ?_ | refine blk_alloc ?_ _)); exact BK252.out) hb); have n11_ := Aside0.mk (below_step (by repeat (first | (with_reducible first | exact HB.out | apply below_alloc | apply pw_below_drewN | apply below_drew1 | refine below_set ?_ GE235.out | refine below_set ?_ GE252.out) | exact HB.out)) hb); clear HO241; clear HO244; clear HO247; clear HO250; clear HO257; clear BK235; clear BK252; clear HB; have HO241 := n0_; have HO244 := n1_; have HO247 := n2_; have HO250 := n3_; have HO257 := n4_; have HO261 := n5_; have HO264 := n6_; have HO267 := n7_; have HO270 := n8_; have BK235 := n9_; have BK252 := n10_; have HB := n11_; clear n0_ n1_ n2_ n3_ n4_ n5_ n6_ n7_ n8_ n9_ n10_ n11_; (try clear hb); (try clear hb2); (try clear hk); (try clear hi); (try clear ho0); (try clear ho1); (try clear ho2); (try clear ho3)) | ((with_reducible refine gate_dst (N := 7) rfl ?_); (try (refine gate_guard (by rfl) ?_; dsimp only)); refine box_event ?hg (N := 7) ?hd (cs := #[.bool false, .slice none 0 0, .slice none 0 0, .slice none 0 0, .slice none 0 0]) (t := 30) ?hr ?_; (case hd => rfl); (case hg => rfl); (case hr => first | (go_simp; done) | (go_simp; rfl)); intro gb272 hg w28 hbox hb; have n0_ := Aside0.mk (Kd.R_below (by (with_reducible repeat (first | apply Kd.R_alloc | apply Kd.R_drewN | apply Kd.R_drew)); exact HO241.out) hb); have n1_ := Aside0.mk (Kd.R_below (by (with_reducible repeat (first | apply Kd.R_alloc | apply Kd.R_drewN | apply Kd.R_drew)); exact HO244.out) hb); have n2_ := Aside0.mk (Kd.R_below (by (with_reducible repeat (first | apply Kd.R_alloc | apply Kd.R_drewN | apply Kd.R_drew)); exact HO247.out) hb); have n3_ := Aside0.mk (Kd.N_below (Kd.N_elderB (by (with_reducible repeat (first | apply Kd.N_alloc | apply Kd.N_drewN | apply Kd.N_drew)); exact HO250.out) gb272 (Nat.le_of_eq hg.symm)) hb); have n4_ := Aside0.mk (Kd.N_below (Kd.N_elderB (by (with_reducible repeat (first | apply Kd.N_alloc | apply Kd.N_drewN | apply Kd.N_drew)); exact HO257.out) gb272 (Nat.le_of_eq hg.symm)) hb); have n5_ := Aside0.mk (Kd.R_below (by (with_reducible repeat (first | apply Kd.R_alloc | apply Kd.R_drewN | apply Kd.R_drew)); exact HO261.out) hb); have n6_ := Aside0.mk (Kd.R_below (by (with_reducible repeat (first | apply Kd.R_alloc | apply Kd.R_drewN | apply Kd.R_drew)); exact HO264.out) hb); have n7_ := Aside0.mk (Kd.R_below (by (with_reducible repeat (first | apply Kd.R_alloc | apply Kd.R_drewN | apply Kd.R_drew)); exact HO267.out) hb); have n8_ := Aside0.mk (Kd.N_below (Kd.N_elderB (by (with_reducible repeat (first | apply Kd.N_alloc | apply Kd.N_drewN | apply Kd.N_drew)); exact HO270.out) gb272 (Nat.le_of_eq hg.symm)) hb); have n9_ := Aside0.mk (blk_below (g := gb235) (o := .cells #[.int .i64 a0_0, .int .i64 a0_1, .slice A0_2 l0_2.length c0_2] 24 (0, 0)) (by (with_reducible repeat (first | refine blk_drewN ?_ _ | refine blk_drew ?_ | refine blk_alloc ?_ _)); exact BK235.out) hb); have n10_ := Aside0.mk (blk_below (g := gb252) (o := .cells #[.bool t238, .slice Ao20 t239.length co20, .slice Ao21 t242.length co21, .slice Ao22 t245.length co22, .slice Ao23 t248.length co23] 30 (0, 0)) (by (with_reducible repeat (first | refine blk_drewN ?_ _ | refine blk_drew ?_ | refine blk_alloc ?_ _)); exact BK252.out) hb); have n11_ := Aside0.mk (below_step (by repeat (first | (with_reducible first | exact HB.out | apply below_alloc | apply pw_below_drewN | apply below_drew1 | refine below_set ?_ GE235.out | refine below_set ?_ GE252.out) | exact HB.out)) hb); have n12_ := Aside0.mk (hbox); have n13_ := Aside0.mk ((by rw [hg]; exact (below_size (by repeat (first | (with_reducible first | exact HB.out | apply below_alloc | apply pw_below_drewN | apply below_drew1 | refine below_set ?_ GE235.out | refine below_set ?_ GE252.out) | exact HB.out))) : w.heap.size ≤ gb272)); have n14_ := Aside0.mk ((by rw [hg]; exact (below_size (by repeat (first | (with_reducible first | exact HB.out | apply below_alloc | apply pw_below_drewN | apply below_drew1 | refine below_set ?_ GE235.out | refine below_set ?_ GE252.out) | exact HB.out))) : w.heap.size ≤ gb272)); have n15_ := Aside0.mk ((by rw [hg]; exact Nat.ne_of_lt (blk_lt (g := gb235) (o := .cells #[.int .i64 a0_0, .int .i64 a0_1, .slice A0_2 l0_2.length c0_2] 24 (0, 0)) (by (with_reducible repeat (first | refine blk_drewN ?_ _ | refine blk_drew ?_ | refine blk_alloc ?_ _)); exact BK235.out)) : gb235 ≠ gb272)); have n16_ := Aside0.mk ((by rw [hg]; exact Nat.ne_of_gt (blk_lt (g := gb235) (o := .cells #[.int .i64 a0_0, .int .i64 a0_1, .slice A0_2 l0_2.length c0_2] 24 (0, 0)) (by (with_reducible repeat (first | refine blk_drewN ?_ _ | refine blk_drew ?_ | refine blk_alloc ?_ _)); exact BK235.out)) : gb272 ≠ gb235)); have n17_ := Aside0.mk ((by rw [hg]; exact Nat.ne_of_lt (blk_lt (g := gb252) (o := .cells #[.bool t238, .slice Ao20 t239.length co20, .slice Ao21 t242.length co21, .slice Ao22 t245.length co22, .slice Ao23 t248.length co23] 30 (0, 0)) (by (with_reducible repeat (first | refine blk_drewN ?_ _ | refine blk_drew ?_ | refine blk_alloc ?_ _)); exact BK252.out)) : gb252 ≠ gb272)); have n18_ := Aside0.mk ((by rw [hg]; exact Nat.ne_of_gt (blk_lt (g := gb252) (o := .cells #[.bool t238, .slice Ao20 t239.length co20, .slice Ao21 t242.length co21, .slice Ao22 t245.length co22, .slice Ao23 t248.length co23] 30 (0, 0)) (by (with_reducible repeat (first | refine blk_drewN ?_ _ | refine blk_drew ?_ | refine blk_alloc ?_ _)); exact BK252.out)) : gb272 ≠ gb252)); clear HO241; clear HO244; clear HO247; clear HO250; clear HO257; clear HO261; clear HO264; clear HO267; clear HO270; clear BK235; clear BK252; clear HB; have HO241 := n0_; have HO244 := n1_; have HO247 := n2_; have HO250 := n3_; have HO257 := n4_; have HO261 := n5_; have HO264 := n6_; have HO267 := n7_; have HO270 := n8_; have BK235 := n9_; have BK252 := n10_; have HB := n11_; have BK272 := n12_; have GW272 := n13_; have GE272 := n14_; have NB235_272 := n15_; have NB272_235 := n16_; have NB252_272 := n17_; have NB272_252 := n18_; clear n0_ n1_ n2_ n3_ n4_ n5_ n6_ n7_ n8_ n9_ n10_ n11_ n12_ n13_ n14_ n15_ n16_ n17_ n18_; clear hb hbox hg; have hnb29 := NB272_235.out; have hnc29 := NB235_272.out; have hnb30 := NB272_252.out; have hnc30 := NB252_272.out; have hcz31_0 : w28.cell? ⟨gb272, 0, none⟩ = some (.bool false) := (blk_cell BK272.out 0).trans rfl; have hcz31_1 : w28.cell? ⟨gb272, 1, none⟩ = some (.slice none 0 0) := (blk_cell BK272.out 1).trans rfl; have hcz31_2 : w28.cell? ⟨gb272, 2, none⟩ = some (.slice none 0 0) := (blk_cell BK272.out 2).trans rfl; have hcz31_3 : w28.cell? ⟨gb272, 3, none⟩ = some (.slice none 0 0) := (blk_cell BK272.out 3).trans rfl; have hcz31_4 : w28.cell? ⟨gb272, 4, none⟩ = some (.slice none 0 0) := (blk_cell BK272.out 4).trans rfl; have hfz31_0 := blk_frozen BK272.out 0; have hfz31_1 := blk_frozen BK272.out 1; have hfz31_2 := blk_frozen BK272.out 2; have hfz31_3 := blk_frozen BK272.out 3; have hfz31_4 := blk_frozen BK272.out 4; obtain ⟨Ao32, co32, eo32⟩ := Kd.R_slice HO261.out; subst eo32; obtain ⟨Ao33, co33, eo33⟩ := Kd.R_slice HO264.out; subst eo33; obtain ⟨Ao34, co34, eo34⟩ := Kd.R_slice HO267.out; subst eo34; obtain ⟨Ao35, co35, eo35⟩ := Kd.N_slice HO270.out; subst eo35))
        (try simp only [Act.put, List.setIfInBounds_toArray, List.set_cons_zero, List.set_cons_succ])
        go_cut [38] (fun v38 wc => ∃ (kq : Nat) (x38_13 : Bool), v38 = .bool x38_13 ∧ Aside0 (scansionlaw11_FollowTurns.j1 kq t251 t271 x38_13 t238 t239 t242 t245 t248 t258 t259 t262 t265 t268 = some r) ∧ Aside0 (kq ≤ kj3) ∧ Aside0 (Kd.R (Kd.int .i64) 3 wc w.heap.size (fun k_ => some k_ ≠ ((.slice Ao21 t242.length co21) : Value).ownBlock ∧ some k_ ≠ ((.slice Ao22 t245.length co22) : Value).ownBlock ∧ some k_ ≠ ((.slice Ao32 t259.length co32) : Value).ownBlock ∧ some k_ ≠ ((.slice Ao33 t262.length co33) : Value).ownBlock ∧ some k_ ≠ ((.slice Ao34 t265.length co34) : Value).ownBlock) (.slice Ao20 t239.length co20) t239) ∧ Aside0 (Kd.R (Kd.int .i64) 3 wc w.heap.size (fun k_ => some k_ ≠ ((.slice Ao20 t239.length co20) : Value).ownBlock ∧ some k_ ≠ (Value.slice none 0 0 : Value).ownBlock ∧ some k_ ≠ ((.slice Ao32 t259.length co32) : Value).ownBlock ∧ some k_ ≠ ((.slice Ao33 t262.length co33) : Value).ownBlock ∧ some k_ ≠ ((.slice Ao34 t265.length co34) : Value).ownBlock) (.slice Ao21 t242.length co21) t242) ∧ Aside0 (Kd.R (Kd.int .i64) 3 wc w.heap.size (fun k_ => some k_ ≠ ((.slice Ao20 t239.length co20) : Value).ownBlock ∧ some k_ ≠ (Value.slice none 0 0 : Value).ownBlock ∧ some k_ ≠ ((.slice Ao32 t259.length co32) : Value).ownBlock ∧ some k_ ≠ ((.slice Ao33 t262.length co33) : Value).ownBlock ∧ some k_ ≠ ((.slice Ao34 t265.length co34) : Value).ownBlock) (.slice Ao22 t245.length co22) t245) ∧ Aside0 (Kd.N (Kd.slice 3 (Kd.int .i64)) 27 wc w.heap.size (fun k_ => some k_ ≠ ((.slice Ao20 t239.length co20) : Value).ownBlock ∧ some k_ ≠ (Value.slice none 0 0 : Value).ownBlock ∧ some k_ ≠ (Value.slice none 0 0 : Value).ownBlock ∧ some k_ ≠ ((.slice Ao32 t259.length co32) : Value).ownBlock ∧ some k_ ≠ ((.slice Ao33 t262.length co33) : Value).ownBlock ∧ some k_ ≠ ((.slice Ao34 t265.length co34) : Value).ownBlock ∧ some k_ ≠ ((.slice Ao35 t268.length co35) : Value).ownBlock ∧ k_ ≠ gb235 ∧ k_ ≠ gb252 ∧ k_ ≠ gb272) (.slice Ao23 t248.length co23) t248) ∧ Aside0 (Kd.R (Kd.int .i64) 3 wc w.heap.size (fun k_ => some k_ ≠ ((.slice Ao20 t239.length co20) : Value).ownBlock ∧ some k_ ≠ ((.slice Ao21 t242.length co21) : Value).ownBlock ∧ some k_ ≠ ((.slice Ao22 t245.length co22) : Value).ownBlock ∧ some k_ ≠ ((.slice Ao33 t262.length co33) : Value).ownBlock ∧ some k_ ≠ ((.slice Ao34 t265.length co34) : Value).ownBlock) (.slice Ao32 t259.length co32) t259) ∧ Aside0 (Kd.R (Kd.int .i64) 3 wc w.heap.size (fun k_ => some k_ ≠ ((.slice Ao20 t239.length co20) : Value).ownBlock ∧ some k_ ≠ ((.slice Ao21 t242.length co21) : Value).ownBlock ∧ some k_ ≠ ((.slice Ao22 t245.length co22) : Value).ownBlock ∧ some k_ ≠ ((.slice Ao32 t259.length co32) : Value).ownBlock ∧ some k_ ≠ (Value.slice none 0 0 : Value).ownBlock) (.slice Ao33 t262.length co33) t262) ∧ Aside0 (Kd.R (Kd.int .i64) 3 wc w.heap.size (fun k_ => some k_ ≠ ((.slice Ao20 t239.length co20) : Value).ownBlock ∧ some k_ ≠ ((.slice Ao21 t242.length co21) : Value).ownBlock ∧ some k_ ≠ ((.slice Ao22 t245.length co22) : Value).ownBlock ∧ some k_ ≠ ((.slice Ao32 t259.length co32) : Value).ownBlock ∧ some k_ ≠ (Value.slice none 0 0 : Value).ownBlock) (.slice Ao34 t265.length co34) t265) ∧ Aside0 (Kd.N (Kd.slice 3 (Kd.int .i64)) 27 wc w.heap.size (fun k_ => some k_ ≠ ((.slice Ao20 t239.length co20) : Value).ownBlock ∧ some k_ ≠ ((.slice Ao21 t242.length co21) : Value).ownBlock ∧ some k_ ≠ ((.slice Ao22 t245.length co22) : Value).ownBlock ∧ some k_ ≠ ((.slice Ao23 t248.length co23) : Value).ownBlock ∧ some k_ ≠ ((.slice Ao32 t259.length co32) : Value).ownBlock ∧ some k_ ≠ (Value.slice none 0 0 : Value).ownBlock ∧ some k_ ≠ (Value.slice none 0 0 : Value).ownBlock ∧ k_ ≠ gb235 ∧ k_ ≠ gb252 ∧ k_ ≠ gb272) (.slice Ao35 t268.length co35) t268) ∧ Aside0 (wc.heap[gb235]? = some (.cells #[.int .i64 a0_0, .int .i64 a0_1, (.slice A0_2 l0_2.length c0_2)] 24 (0, 0))) ∧ Aside0 (wc.heap[gb252]? = some (.cells #[.bool t238, (.slice Ao20 t239.length co20), (.slice Ao21 t242.length co21), (.slice Ao22 t245.length co22), (.slice Ao23 t248.length co23)] 30 (0, 0))) ∧ Aside0 (wc.heap[gb272]? = some (.cells #[.bool t258, (.slice Ao32 t259.length co32), (.slice Ao33 t262.length co33), (.slice Ao34 t265.length co34), (.slice Ao35 t268.length co35)] 30 (0, 0))) ∧ Aside0 (Below w.heap.size w wc))
        case first =>
          have H := HC14.out
          clear HC14
          by_cases c36 : t251 = 0
          · rw [if_pos c36] at H
            have c36b0 : (t251 == 0) = true := beq_iff_eq.mpr c36
            have c36b1 : (t251 != 0) = false := bne_eq_false_iff_eq.mpr c36
            clear c36
            (first | rw [c36b0] | (simp only [i64_w, i32_w]; rw [c36b0]) | skip)
            have H' := Aside0.mk H
            clear H
            go_wp2
            go_meet
            case rel => exact ⟨_, ((t271 != 0)), (by first | rfl | (simp; done) | (simp [*]; done)), H', ⟨by have := HJ3.out; first | omega | exact Nat.le_refl _⟩, ⟨by (with_reducible repeat (first | apply Kd.R_alloc | apply Kd.R_drewN | apply Kd.R_drew)); exact Kd.R_mono (Kd.R_far (p := ⟨gb272, 4, none⟩) (Kd.R_far (p := ⟨gb272, 3, none⟩) (Kd.R_far (p := ⟨gb272, 2, none⟩) (Kd.R_far (p := ⟨gb272, 1, none⟩) (Kd.R_far (p := ⟨gb272, 0, none⟩) (Kd.R_types HO241.out BK272.out (by decide)) (fun _ hk => hk.2) (.bool t258)) (fun _ hk => hk.2) (.slice Ao32 t259.length co32)) (fun _ hk => hk.2) (.slice Ao33 t262.length co33)) (fun _ hk => hk.2) (.slice Ao34 t265.length co34)) (fun _ hk => hk.2) (.slice Ao35 t268.length co35)) (fun _ hk => ⟨hk.1.1.1.1.1, ⟨hk.1.1.1.1.2, ⟨hk.1.1.1.2, ⟨hk.1.1.2, hk.1.2⟩⟩⟩⟩)⟩, ⟨by (with_reducible repeat (first | apply Kd.R_alloc | apply Kd.R_drewN | apply Kd.R_drew)); exact Kd.R_mono (Kd.R_far (p := ⟨gb272, 4, none⟩) (Kd.R_far (p := ⟨gb272, 3, none⟩) (Kd.R_far (p := ⟨gb272, 2, none⟩) (Kd.R_far (p := ⟨gb272, 1, none⟩) (Kd.R_far (p := ⟨gb272, 0, none⟩) (Kd.R_types HO244.out BK272.out (by decide)) (fun _ hk => hk.2) (.bool t258)) (fun _ hk => hk.2) (.slice Ao32 t259.length co32)) (fun _ hk => hk.2) (.slice Ao33 t262.length co33)) (fun _ hk => hk.2) (.slice Ao34 t265.length co34)) (fun _ hk => hk.2) (.slice Ao35 t268.length co35)) (fun _ hk => ⟨hk.1.1.1.1.1, ⟨hk.1.1.1.1.2, ⟨hk.1.1.1.2, ⟨hk.1.1.2, hk.1.2⟩⟩⟩⟩)⟩, ⟨by (with_reducible repeat (first | apply Kd.R_alloc | apply Kd.R_drewN | apply Kd.R_drew)); exact Kd.R_mono (Kd.R_far (p := ⟨gb272, 4, none⟩) (Kd.R_far (p := ⟨gb272, 3, none⟩) (Kd.R_far (p := ⟨gb272, 2, none⟩) (Kd.R_far (p := ⟨gb272, 1, none⟩) (Kd.R_far (p := ⟨gb272, 0, none⟩) (Kd.R_types HO247.out BK272.out (by decide)) (fun _ hk => hk.2) (.bool t258)) (fun _ hk => hk.2) (.slice Ao32 t259.length co32)) (fun _ hk => hk.2) (.slice Ao33 t262.length co33)) (fun _ hk => hk.2) (.slice Ao34 t265.length co34)) (fun _ hk => hk.2) (.slice Ao35 t268.length co35)) (fun _ hk => ⟨hk.1.1.1.1.1, ⟨hk.1.1.1.1.2, ⟨hk.1.1.1.2, ⟨hk.1.1.2, hk.1.2⟩⟩⟩⟩)⟩, ⟨by (with_reducible repeat (first | apply Kd.N_alloc | apply Kd.N_drewN | apply Kd.N_drew)); exact Kd.N_mono (Kd.N_far (p := ⟨gb272, 4, none⟩) (Kd.N_far (p := ⟨gb272, 3, none⟩) (Kd.N_far (p := ⟨gb272, 2, none⟩) (Kd.N_far (p := ⟨gb272, 1, none⟩) (Kd.N_far (p := ⟨gb272, 0, none⟩) (Kd.N_mono HO250.out (fun k_ hk => (⟨hk, hk.2⟩ : _ ∧ k_ ≠ gb272))) (fun _ hk => hk.2) (.bool t258)) (fun _ hk => hk.2) (.slice Ao32 t259.length co32)) (fun _ hk => hk.2) (.slice Ao33 t262.length co33)) (fun _ hk => hk.2) (.slice Ao34 t265.length co34)) (fun _ hk => hk.2) (.slice Ao35 t268.length co35)) (fun _ hk => ⟨hk.1.1.1.1.1.1.1.1.1, ⟨hk.1.1.1.1.1.1.1.1.2.1, ⟨hk.1.1.1.1.1.1.1.1.2.2.1, ⟨hk.1.1.1.1.1.2, ⟨hk.1.1.1.1.2, ⟨hk.1.1.1.2, ⟨hk.1.1.2, ⟨hk.1.1.1.1.1.1.1.1.2.2.2, ⟨hk.1.1.1.1.1.1.1.2, hk.1.2⟩⟩⟩⟩⟩⟩⟩⟩⟩)⟩, ⟨by (with_reducible repeat (first | apply Kd.R_alloc | apply Kd.R_drewN | apply Kd.R_drew)); exact Kd.R_mono (Kd.R_far (p := ⟨gb272, 4, none⟩) (Kd.R_far (p := ⟨gb272, 3, none⟩) (Kd.R_far (p := ⟨gb272, 2, none⟩) (Kd.R_far (p := ⟨gb272, 1, none⟩) (Kd.R_far (p := ⟨gb272, 0, none⟩) (Kd.R_types HO261.out BK272.out (by decide)) (fun _ hk => hk.2) (.bool t258)) (fun _ hk => hk.2) (.slice Ao32 t259.length co32)) (fun _ hk => hk.2) (.slice Ao33 t262.length co33)) (fun _ hk => hk.2) (.slice Ao34 t265.length co34)) (fun _ hk => hk.2) (.slice Ao35 t268.length co35)) (fun _ hk => ⟨hk.1.1.1.2, ⟨hk.1.1.2, ⟨hk.1.2, ⟨hk.1.1.1.1.1, hk.1.1.1.1.2⟩⟩⟩⟩)⟩, ⟨by (with_reducible repeat (first | apply Kd.R_alloc | apply Kd.R_drewN | apply Kd.R_drew)); exact Kd.R_mono (Kd.R_far (p := ⟨gb272, 4, none⟩) (Kd.R_far (p := ⟨gb272, 3, none⟩) (Kd.R_far (p := ⟨gb272, 2, none⟩) (Kd.R_far (p := ⟨gb272, 1, none⟩) (Kd.R_far (p := ⟨gb272, 0, none⟩) (Kd.R_types HO264.out BK272.out (by decide)) (fun _ hk => hk.2) (.bool t258)) (fun _ hk => hk.2) (.slice Ao32 t259.length co32)) (fun _ hk => hk.2) (.slice Ao33 t262.length co33)) (fun _ hk => hk.2) (.slice Ao34 t265.length co34)) (fun _ hk => hk.2) (.slice Ao35 t268.length co35)) (fun _ hk => ⟨hk.1.1.1.2, ⟨hk.1.1.2, ⟨hk.1.2, ⟨hk.1.1.1.1.1, hk.1.1.1.1.2⟩⟩⟩⟩)⟩, ⟨by (with_reducible repeat (first | apply Kd.R_alloc | apply Kd.R_drewN | apply Kd.R_drew)); exact Kd.R_mono (Kd.R_far (p := ⟨gb272, 4, none⟩) (Kd.R_far (p := ⟨gb272, 3, none⟩) (Kd.R_far (p := ⟨gb272, 2, none⟩) (Kd.R_far (p := ⟨gb272, 1, none⟩) (Kd.R_far (p := ⟨gb272, 0, none⟩) (Kd.R_types HO267.out BK272.out (by decide)) (fun _ hk => hk.2) (.bool t258)) (fun _ hk => hk.2) (.slice Ao32 t259.length co32)) (fun _ hk => hk.2) (.slice Ao33 t262.length co33)) (fun _ hk => hk.2) (.slice Ao34 t265.length co34)) (fun _ hk => hk.2) (.slice Ao35 t268.length co35)) (fun _ hk => ⟨hk.1.1.1.2, ⟨hk.1.1.2, ⟨hk.1.2, ⟨hk.1.1.1.1.1, hk.1.1.1.1.2⟩⟩⟩⟩)⟩, ⟨by (with_reducible repeat (first | apply Kd.N_alloc | apply Kd.N_drewN | apply Kd.N_drew)); exact Kd.N_mono (Kd.N_far (p := ⟨gb272, 4, none⟩) (Kd.N_far (p := ⟨gb272, 3, none⟩) (Kd.N_far (p := ⟨gb272, 2, none⟩) (Kd.N_far (p := ⟨gb272, 1, none⟩) (Kd.N_far (p := ⟨gb272, 0, none⟩) (Kd.N_mono HO270.out (fun k_ hk => (⟨hk, hk.2⟩ : _ ∧ k_ ≠ gb272))) (fun _ hk => hk.2) (.bool t258)) (fun _ hk => hk.2) (.slice Ao32 t259.length co32)) (fun _ hk => hk.2) (.slice Ao33 t262.length co33)) (fun _ hk => hk.2) (.slice Ao34 t265.length co34)) (fun _ hk => hk.2) (.slice Ao35 t268.length co35)) (fun _ hk => ⟨hk.1.1.2.2.2.1, ⟨hk.1.1.2.2.2.2.1, ⟨hk.1.1.2.2.2.2.2.1, ⟨hk.1.1.2.2.2.2.2.2.1, ⟨hk.1.1.1, ⟨hk.1.1.2.1, ⟨hk.1.1.2.2.1, ⟨hk.1.1.2.2.2.2.2.2.2.2.1, ⟨hk.1.1.2.2.2.2.2.2.2.2.2, hk.1.2⟩⟩⟩⟩⟩⟩⟩⟩⟩)⟩, ⟨by (with_reducible repeat (first | refine blk_drewN ?_ _ | refine blk_drew ?_ | refine blk_alloc ?_ _)); refine blk_far ?_ NB235_272.out _; (with_reducible repeat (first | refine blk_drewN ?_ _ | refine blk_drew ?_ | refine blk_alloc ?_ _)); refine blk_far ?_ NB235_272.out _; (with_reducible repeat (first | refine blk_drewN ?_ _ | refine blk_drew ?_ | refine blk_alloc ?_ _)); refine blk_far ?_ NB235_272.out _; (with_reducible repeat (first | refine blk_drewN ?_ _ | refine blk_drew ?_ | refine blk_alloc ?_ _)); refine blk_far ?_ NB235_272.out _; (with_reducible repeat (first | refine blk_drewN ?_ _ | refine blk_drew ?_ | refine blk_alloc ?_ _)); refine blk_far ?_ NB235_272.out _; (with_reducible repeat (first | refine blk_drewN ?_ _ | refine blk_drew ?_ | refine blk_alloc ?_ _)); exact BK235.out⟩, ⟨by (with_reducible repeat (first | refine blk_drewN ?_ _ | refine blk_drew ?_ | refine blk_alloc ?_ _)); refine blk_far ?_ NB252_272.out _; (with_reducible repeat (first | refine blk_drewN ?_ _ | refine blk_drew ?_ | refine blk_alloc ?_ _)); refine blk_far ?_ NB252_272.out _; (with_reducible repeat (first | refine blk_drewN ?_ _ | refine blk_drew ?_ | refine blk_alloc ?_ _)); refine blk_far ?_ NB252_272.out _; (with_reducible repeat (first | refine blk_drewN ?_ _ | refine blk_drew ?_ | refine blk_alloc ?_ _)); refine blk_far ?_ NB252_272.out _; (with_reducible repeat (first | refine blk_drewN ?_ _ | refine blk_drew ?_ | refine blk_alloc ?_ _)); refine blk_far ?_ NB252_272.out _; (with_reducible repeat (first | refine blk_drewN ?_ _ | refine blk_drew ?_ | refine blk_alloc ?_ _)); exact BK252.out⟩, ⟨by (with_reducible repeat (first | refine blk_drewN ?_ _ | refine blk_drew ?_ | refine blk_alloc ?_ _)); refine blk_put (cs := #[.bool t258, .slice Ao32 t259.length co32, .slice Ao33 t262.length co33, .slice Ao34 t265.length co34, .slice none 0 0]) ?_ 4 _ rfl; (with_reducible repeat (first | refine blk_drewN ?_ _ | refine blk_drew ?_ | refine blk_alloc ?_ _)); refine blk_put (cs := #[.bool t258, .slice Ao32 t259.length co32, .slice Ao33 t262.length co33, .slice none 0 0, .slice none 0 0]) ?_ 3 _ rfl; (with_reducible repeat (first | refine blk_drewN ?_ _ | refine blk_drew ?_ | refine blk_alloc ?_ _)); refine blk_put (cs := #[.bool t258, .slice Ao32 t259.length co32, .slice none 0 0, .slice none 0 0, .slice none 0 0]) ?_ 2 _ rfl; (with_reducible repeat (first | refine blk_drewN ?_ _ | refine blk_drew ?_ | refine blk_alloc ?_ _)); refine blk_put (cs := #[.bool t258, .slice none 0 0, .slice none 0 0, .slice none 0 0, .slice none 0 0]) ?_ 1 _ rfl; (with_reducible repeat (first | refine blk_drewN ?_ _ | refine blk_drew ?_ | refine blk_alloc ?_ _)); refine blk_put (cs := #[.bool false, .slice none 0 0, .slice none 0 0, .slice none 0 0, .slice none 0 0]) ?_ 0 _ rfl; (with_reducible repeat (first | refine blk_drewN ?_ _ | refine blk_drew ?_ | refine blk_alloc ?_ _)); exact BK272.out⟩, ⟨by repeat (first | (with_reducible first | exact HB.out | apply below_alloc | apply pw_below_drewN | apply below_drew1 | refine below_set ?_ GE235.out | refine below_set ?_ GE252.out | refine below_set ?_ GE272.out) | exact HB.out)⟩⟩
          · rw [if_neg c36] at H
            have c36b0 : (t251 == 0) = false := beq_eq_false_iff_ne.mpr c36
            have c36b1 : (t251 != 0) = true := bne_iff_ne.mpr c36
            (first | rw [c36b0] | (simp only [i64_w, i32_w]; rw [c36b0]) | skip)
            have H' := Aside0.mk H
            clear H
            go_wp2
            go_meet
            case rel => exact ⟨_, (true), (by first | rfl | (simp; done) | (simp [*]; done)), H', ⟨by have := HJ3.out; first | omega | exact Nat.le_refl _⟩, ⟨by (with_reducible repeat (first | apply Kd.R_alloc | apply Kd.R_drewN | apply Kd.R_drew)); exact Kd.R_mono (Kd.R_far (p := ⟨gb272, 4, none⟩) (Kd.R_far (p := ⟨gb272, 3, none⟩) (Kd.R_far (p := ⟨gb272, 2, none⟩) (Kd.R_far (p := ⟨gb272, 1, none⟩) (Kd.R_far (p := ⟨gb272, 0, none⟩) (Kd.R_types HO241.out BK272.out (by decide)) (fun _ hk => hk.2) (.bool t258)) (fun _ hk => hk.2) (.slice Ao32 t259.length co32)) (fun _ hk => hk.2) (.slice Ao33 t262.length co33)) (fun _ hk => hk.2) (.slice Ao34 t265.length co34)) (fun _ hk => hk.2) (.slice Ao35 t268.length co35)) (fun _ hk => ⟨hk.1.1.1.1.1, ⟨hk.1.1.1.1.2, ⟨hk.1.1.1.2, ⟨hk.1.1.2, hk.1.2⟩⟩⟩⟩)⟩, ⟨by (with_reducible repeat (first | apply Kd.R_alloc | apply Kd.R_drewN | apply Kd.R_drew)); exact Kd.R_mono (Kd.R_far (p := ⟨gb272, 4, none⟩) (Kd.R_far (p := ⟨gb272, 3, none⟩) (Kd.R_far (p := ⟨gb272, 2, none⟩) (Kd.R_far (p := ⟨gb272, 1, none⟩) (Kd.R_far (p := ⟨gb272, 0, none⟩) (Kd.R_types HO244.out BK272.out (by decide)) (fun _ hk => hk.2) (.bool t258)) (fun _ hk => hk.2) (.slice Ao32 t259.length co32)) (fun _ hk => hk.2) (.slice Ao33 t262.length co33)) (fun _ hk => hk.2) (.slice Ao34 t265.length co34)) (fun _ hk => hk.2) (.slice Ao35 t268.length co35)) (fun _ hk => ⟨hk.1.1.1.1.1, ⟨hk.1.1.1.1.2, ⟨hk.1.1.1.2, ⟨hk.1.1.2, hk.1.2⟩⟩⟩⟩)⟩, ⟨by (with_reducible repeat (first | apply Kd.R_alloc | apply Kd.R_drewN | apply Kd.R_drew)); exact Kd.R_mono (Kd.R_far (p := ⟨gb272, 4, none⟩) (Kd.R_far (p := ⟨gb272, 3, none⟩) (Kd.R_far (p := ⟨gb272, 2, none⟩) (Kd.R_far (p := ⟨gb272, 1, none⟩) (Kd.R_far (p := ⟨gb272, 0, none⟩) (Kd.R_types HO247.out BK272.out (by decide)) (fun _ hk => hk.2) (.bool t258)) (fun _ hk => hk.2) (.slice Ao32 t259.length co32)) (fun _ hk => hk.2) (.slice Ao33 t262.length co33)) (fun _ hk => hk.2) (.slice Ao34 t265.length co34)) (fun _ hk => hk.2) (.slice Ao35 t268.length co35)) (fun _ hk => ⟨hk.1.1.1.1.1, ⟨hk.1.1.1.1.2, ⟨hk.1.1.1.2, ⟨hk.1.1.2, hk.1.2⟩⟩⟩⟩)⟩, ⟨by (with_reducible repeat (first | apply Kd.N_alloc | apply Kd.N_drewN | apply Kd.N_drew)); exact Kd.N_mono (Kd.N_far (p := ⟨gb272, 4, none⟩) (Kd.N_far (p := ⟨gb272, 3, none⟩) (Kd.N_far (p := ⟨gb272, 2, none⟩) (Kd.N_far (p := ⟨gb272, 1, none⟩) (Kd.N_far (p := ⟨gb272, 0, none⟩) (Kd.N_mono HO250.out (fun k_ hk => (⟨hk, hk.2⟩ : _ ∧ k_ ≠ gb272))) (fun _ hk => hk.2) (.bool t258)) (fun _ hk => hk.2) (.slice Ao32 t259.length co32)) (fun _ hk => hk.2) (.slice Ao33 t262.length co33)) (fun _ hk => hk.2) (.slice Ao34 t265.length co34)) (fun _ hk => hk.2) (.slice Ao35 t268.length co35)) (fun _ hk => ⟨hk.1.1.1.1.1.1.1.1.1, ⟨hk.1.1.1.1.1.1.1.1.2.1, ⟨hk.1.1.1.1.1.1.1.1.2.2.1, ⟨hk.1.1.1.1.1.2, ⟨hk.1.1.1.1.2, ⟨hk.1.1.1.2, ⟨hk.1.1.2, ⟨hk.1.1.1.1.1.1.1.1.2.2.2, ⟨hk.1.1.1.1.1.1.1.2, hk.1.2⟩⟩⟩⟩⟩⟩⟩⟩⟩)⟩, ⟨by (with_reducible repeat (first | apply Kd.R_alloc | apply Kd.R_drewN | apply Kd.R_drew)); exact Kd.R_mono (Kd.R_far (p := ⟨gb272, 4, none⟩) (Kd.R_far (p := ⟨gb272, 3, none⟩) (Kd.R_far (p := ⟨gb272, 2, none⟩) (Kd.R_far (p := ⟨gb272, 1, none⟩) (Kd.R_far (p := ⟨gb272, 0, none⟩) (Kd.R_types HO261.out BK272.out (by decide)) (fun _ hk => hk.2) (.bool t258)) (fun _ hk => hk.2) (.slice Ao32 t259.length co32)) (fun _ hk => hk.2) (.slice Ao33 t262.length co33)) (fun _ hk => hk.2) (.slice Ao34 t265.length co34)) (fun _ hk => hk.2) (.slice Ao35 t268.length co35)) (fun _ hk => ⟨hk.1.1.1.2, ⟨hk.1.1.2, ⟨hk.1.2, ⟨hk.1.1.1.1.1, hk.1.1.1.1.2⟩⟩⟩⟩)⟩, ⟨by (with_reducible repeat (first | apply Kd.R_alloc | apply Kd.R_drewN | apply Kd.R_drew)); exact Kd.R_mono (Kd.R_far (p := ⟨gb272, 4, none⟩) (Kd.R_far (p := ⟨gb272, 3, none⟩) (Kd.R_far (p := ⟨gb272, 2, none⟩) (Kd.R_far (p := ⟨gb272, 1, none⟩) (Kd.R_far (p := ⟨gb272, 0, none⟩) (Kd.R_types HO264.out BK272.out (by decide)) (fun _ hk => hk.2) (.bool t258)) (fun _ hk => hk.2) (.slice Ao32 t259.length co32)) (fun _ hk => hk.2) (.slice Ao33 t262.length co33)) (fun _ hk => hk.2) (.slice Ao34 t265.length co34)) (fun _ hk => hk.2) (.slice Ao35 t268.length co35)) (fun _ hk => ⟨hk.1.1.1.2, ⟨hk.1.1.2, ⟨hk.1.2, ⟨hk.1.1.1.1.1, hk.1.1.1.1.2⟩⟩⟩⟩)⟩, ⟨by (with_reducible repeat (first | apply Kd.R_alloc | apply Kd.R_drewN | apply Kd.R_drew)); exact Kd.R_mono (Kd.R_far (p := ⟨gb272, 4, none⟩) (Kd.R_far (p := ⟨gb272, 3, none⟩) (Kd.R_far (p := ⟨gb272, 2, none⟩) (Kd.R_far (p := ⟨gb272, 1, none⟩) (Kd.R_far (p := ⟨gb272, 0, none⟩) (Kd.R_types HO267.out BK272.out (by decide)) (fun _ hk => hk.2) (.bool t258)) (fun _ hk => hk.2) (.slice Ao32 t259.length co32)) (fun _ hk => hk.2) (.slice Ao33 t262.length co33)) (fun _ hk => hk.2) (.slice Ao34 t265.length co34)) (fun _ hk => hk.2) (.slice Ao35 t268.length co35)) (fun _ hk => ⟨hk.1.1.1.2, ⟨hk.1.1.2, ⟨hk.1.2, ⟨hk.1.1.1.1.1, hk.1.1.1.1.2⟩⟩⟩⟩)⟩, ⟨by (with_reducible repeat (first | apply Kd.N_alloc | apply Kd.N_drewN | apply Kd.N_drew)); exact Kd.N_mono (Kd.N_far (p := ⟨gb272, 4, none⟩) (Kd.N_far (p := ⟨gb272, 3, none⟩) (Kd.N_far (p := ⟨gb272, 2, none⟩) (Kd.N_far (p := ⟨gb272, 1, none⟩) (Kd.N_far (p := ⟨gb272, 0, none⟩) (Kd.N_mono HO270.out (fun k_ hk => (⟨hk, hk.2⟩ : _ ∧ k_ ≠ gb272))) (fun _ hk => hk.2) (.bool t258)) (fun _ hk => hk.2) (.slice Ao32 t259.length co32)) (fun _ hk => hk.2) (.slice Ao33 t262.length co33)) (fun _ hk => hk.2) (.slice Ao34 t265.length co34)) (fun _ hk => hk.2) (.slice Ao35 t268.length co35)) (fun _ hk => ⟨hk.1.1.2.2.2.1, ⟨hk.1.1.2.2.2.2.1, ⟨hk.1.1.2.2.2.2.2.1, ⟨hk.1.1.2.2.2.2.2.2.1, ⟨hk.1.1.1, ⟨hk.1.1.2.1, ⟨hk.1.1.2.2.1, ⟨hk.1.1.2.2.2.2.2.2.2.2.1, ⟨hk.1.1.2.2.2.2.2.2.2.2.2, hk.1.2⟩⟩⟩⟩⟩⟩⟩⟩⟩)⟩, ⟨by (with_reducible repeat (first | refine blk_drewN ?_ _ | refine blk_drew ?_ | refine blk_alloc ?_ _)); refine blk_far ?_ NB235_272.out _; (with_reducible repeat (first | refine blk_drewN ?_ _ | refine blk_drew ?_ | refine blk_alloc ?_ _)); refine blk_far ?_ NB235_272.out _; (with_reducible repeat (first | refine blk_drewN ?_ _ | refine blk_drew ?_ | refine blk_alloc ?_ _)); refine blk_far ?_ NB235_272.out _; (with_reducible repeat (first | refine blk_drewN ?_ _ | refine blk_drew ?_ | refine blk_alloc ?_ _)); refine blk_far ?_ NB235_272.out _; (with_reducible repeat (first | refine blk_drewN ?_ _ | refine blk_drew ?_ | refine blk_alloc ?_ _)); refine blk_far ?_ NB235_272.out _; (with_reducible repeat (first | refine blk_drewN ?_ _ | refine blk_drew ?_ | refine blk_alloc ?_ _)); exact BK235.out⟩, ⟨by (with_reducible repeat (first | refine blk_drewN ?_ _ | refine blk_drew ?_ | refine blk_alloc ?_ _)); refine blk_far ?_ NB252_272.out _; (with_reducible repeat (first | refine blk_drewN ?_ _ | refine blk_drew ?_ | refine blk_alloc ?_ _)); refine blk_far ?_ NB252_272.out _; (with_reducible repeat (first | refine blk_drewN ?_ _ | refine blk_drew ?_ | refine blk_alloc ?_ _)); refine blk_far ?_ NB252_272.out _; (with_reducible repeat (first | refine blk_drewN ?_ _ | refine blk_drew ?_ | refine blk_alloc ?_ _)); refine blk_far ?_ NB252_272.out _; (with_reducible repeat (first | refine blk_drewN ?_ _ | refine blk_drew ?_ | refine blk_alloc ?_ _)); refine blk_far ?_ NB252_272.out _; (with_reducible repeat (first | refine blk_drewN ?_ _ | refine blk_drew ?_ | refine blk_alloc ?_ _)); exact BK252.out⟩, ⟨by (with_reducible repeat (first | refine blk_drewN ?_ _ | refine blk_drew ?_ | refine blk_alloc ?_ _)); refine blk_put (cs := #[.bool t258, .slice Ao32 t259.length co32, .slice Ao33 t262.length co33, .slice Ao34 t265.length co34, .slice none 0 0]) ?_ 4 _ rfl; (with_reducible repeat (first | refine blk_drewN ?_ _ | refine blk_drew ?_ | refine blk_alloc ?_ _)); refine blk_put (cs := #[.bool t258, .slice Ao32 t259.length co32, .slice Ao33 t262.length co33, .slice none 0 0, .slice none 0 0]) ?_ 3 _ rfl; (with_reducible repeat (first | refine blk_drewN ?_ _ | refine blk_drew ?_ | refine blk_alloc ?_ _)); refine blk_put (cs := #[.bool t258, .slice Ao32 t259.length co32, .slice none 0 0, .slice none 0 0, .slice none 0 0]) ?_ 2 _ rfl; (with_reducible repeat (first | refine blk_drewN ?_ _ | refine blk_drew ?_ | refine blk_alloc ?_ _)); refine blk_put (cs := #[.bool t258, .slice none 0 0, .slice none 0 0, .slice none 0 0, .slice none 0 0]) ?_ 1 _ rfl; (with_reducible repeat (first | refine blk_drewN ?_ _ | refine blk_drew ?_ | refine blk_alloc ?_ _)); refine blk_put (cs := #[.bool false, .slice none 0 0, .slice none 0 0, .slice none 0 0, .slice none 0 0]) ?_ 0 _ rfl; (with_reducible repeat (first | refine blk_drewN ?_ _ | refine blk_drew ?_ | refine blk_alloc ?_ _)); exact BK272.out⟩, ⟨by repeat (first | (with_reducible first | exact HB.out | apply below_alloc | apply pw_below_drewN | apply below_drew1 | refine below_set ?_ GE235.out | refine below_set ?_ GE252.out | refine below_set ?_ GE272.out) | exact HB.out)⟩⟩
        case rest =>
          clear HC14
          try clear c1
          try clear c2
          try clear p2
          try clear c3
          try clear c5
          try clear c9
          try clear c10
          try clear c16
          try clear c18
          try clear c21
          try clear c24
          try clear c29
          try clear c30
          try clear c36
          try clear c36b0
          try clear c36b1
          try clear hcz15_0
          try clear hcz15_1
          try clear hcz15_2
          try clear hcz19_0
          try clear hcz19_1
          try clear hcz19_2
          try clear hcz19_3
          try clear hcz19_4
          try clear hcz24_0
          try clear hcz24_1
          try clear hcz24_2
          try clear hcz31_0
          try clear hcz31_1
          try clear hcz31_2
          try clear hcz31_3
          try clear hcz31_4
          try clear hcz7_0
          try clear hcz7_1
          try clear hcz7_2
          try clear hfz15_0
          try clear hfz15_1
          try clear hfz15_2
          try clear hfz19_0
          try clear hfz19_1
          try clear hfz19_2
          try clear hfz19_3
          try clear hfz19_4
          try clear hfz24_0
          try clear hfz24_1
          try clear hfz24_2
          try clear hfz31_0
          try clear hfz31_1
          try clear hfz31_2
          try clear hfz31_3
          try clear hfz31_4
          try clear hfz7_0
          try clear hfz7_1
          try clear hfz7_2
          try clear p2
          obtain ⟨kq, x38_13, rfl, HA, HJ13, HO_253001, HO_253002, HO_253003, HO_253004, HO_273001, HO_273002, HO_273003, HO_273004, BK235, BK252, BK272, HB⟩ := hcut
          cases kq with
          | zero => exact absurd HA.out (by simp [scansionlaw11_FollowTurns.j1])
          | succ kj13 =>
            have H := HA.out
            clear HA
            simp only [scansionlaw11_FollowTurns.j1] at H
            by_cases c37 : x38_13 = true
            · subst c37
              have H1 : (some (t251 == t271)) = some r := by rw [if_pos rfl] at H; exact H
              clear H
              have H := H1
              clear H1
              obtain rfl := Option.some.inj H
              go_wp2
              go_ret
              exact ⟨by first | rfl | (simp [errW_none, errW_some] <;> rfl) | (simp [*, errW_none, errW_some] <;> rfl), by repeat (first | (with_reducible first | exact HB.out | apply below_alloc | apply pw_below_drewN | apply below_drew1 | refine below_set ?_ GE235.out | refine below_set ?_ GE252.out | refine below_set ?_ GE272.out) | exact HB.out)⟩
            · replace c37 := Bool.eq_false_iff.mpr c37
              subst c37
              have H1 : (scansionlaw11_FollowTurns.l0 kj13 0 0 0 t238 t239 t242 t245 t248 t258 t259 t262 t265 t268) = some r := by rw [if_neg (show ¬ (false = true) by decide)] at H; exact H
              clear H
              have H := H1
              clear H1
              have H' := Aside0.mk H
              clear H
              go_wp2
              go_loopg [9, 10, 11] kj13 (fun kq v9 v10 v11 w' => ∃ (x9_3 : Int) (x10_3 : Int) (x11_3 : Int), v9 = .int .i64 x9_3 ∧ v10 = .int .i64 x10_3 ∧ v11 = .int .i64 x11_3 ∧ Aside0 (scansionlaw11_FollowTurns.l0 kq x9_3 x10_3 x11_3 t238 t239 t242 t245 t248 t258 t259 t262 t265 t268 = some r) ∧ Aside0 (kq ≤ kj13) ∧ Aside0 (Kd.R (Kd.int .i64) 3 w' w.heap.size (fun k_ => some k_ ≠ ((.slice Ao21 t242.length co21) : Value).ownBlock ∧ some k_ ≠ ((.slice Ao22 t245.length co22) : Value).ownBlock ∧ some k_ ≠ ((.slice Ao32 t259.length co32) : Value).ownBlock ∧ some k_ ≠ ((.slice Ao33 t262.length co33) : Value).ownBlock ∧ some k_ ≠ ((.slice Ao34 t265.length co34) : Value).ownBlock) (.slice Ao20 t239.length co20) t239) ∧ Aside0 (Kd.R (Kd.int .i64) 3 w' w.heap.size (fun k_ => some k_ ≠ ((.slice Ao20 t239.length co20) : Value).ownBlock ∧ some k_ ≠ (Value.slice none 0 0 : Value).ownBlock ∧ some k_ ≠ ((.slice Ao32 t259.length co32) : Value).ownBlock ∧ some k_ ≠ ((.slice Ao33 t262.length co33) : Value).ownBlock ∧ some k_ ≠ ((.slice Ao34 t265.length co34) : Value).ownBlock) (.slice Ao21 t242.length co21) t242) ∧ Aside0 (Kd.R (Kd.int .i64) 3 w' w.heap.size (fun k_ => some k_ ≠ ((.slice Ao20 t239.length co20) : Value).ownBlock ∧ some k_ ≠ (Value.slice none 0 0 : Value).ownBlock ∧ some k_ ≠ ((.slice Ao32 t259.length co32) : Value).ownBlock ∧ some k_ ≠ ((.slice Ao33 t262.length co33) : Value).ownBlock ∧ some k_ ≠ ((.slice Ao34 t265.length co34) : Value).ownBlock) (.slice Ao22 t245.length co22) t245) ∧ Aside0 (Kd.N (Kd.slice 3 (Kd.int .i64)) 27 w' w.heap.size (fun k_ => some k_ ≠ ((.slice Ao20 t239.length co20) : Value).ownBlock ∧ some k_ ≠ (Value.slice none 0 0 : Value).ownBlock ∧ some k_ ≠ (Value.slice none 0 0 : Value).ownBlock ∧ some k_ ≠ ((.slice Ao32 t259.length co32) : Value).ownBlock ∧ some k_ ≠ ((.slice Ao33 t262.length co33) : Value).ownBlock ∧ some k_ ≠ ((.slice Ao34 t265.length co34) : Value).ownBlock ∧ some k_ ≠ ((.slice Ao35 t268.length co35) : Value).ownBlock ∧ k_ ≠ gb235 ∧ k_ ≠ gb252 ∧ k_ ≠ gb272) (.slice Ao23 t248.length co23) t248) ∧ Aside0 (Kd.R (Kd.int .i64) 3 w' w.heap.size (fun k_ => some k_ ≠ ((.slice Ao20 t239.length co20) : Value).ownBlock ∧ some k_ ≠ ((.slice Ao21 t242.length co21) : Value).ownBlock ∧ some k_ ≠ ((.slice Ao22 t245.length co22) : Value).ownBlock ∧ some k_ ≠ ((.slice Ao33 t262.length co33) : Value).ownBlock ∧ some k_ ≠ ((.slice Ao34 t265.length co34) : Value).ownBlock) (.slice Ao32 t259.length co32) t259) ∧ Aside0 (Kd.R (Kd.int .i64) 3 w' w.heap.size (fun k_ => some k_ ≠ ((.slice Ao20 t239.length co20) : Value).ownBlock ∧ some k_ ≠ ((.slice Ao21 t242.length co21) : Value).ownBlock ∧ some k_ ≠ ((.slice Ao22 t245.length co22) : Value).ownBlock ∧ some k_ ≠ ((.slice Ao32 t259.length co32) : Value).ownBlock ∧ some k_ ≠ (Value.slice none 0 0 : Value).ownBlock) (.slice Ao33 t262.length co33) t262) ∧ Aside0 (Kd.R (Kd.int .i64) 3 w' w.heap.size (fun k_ => some k_ ≠ ((.slice Ao20 t239.length co20) : Value).ownBlock ∧ some k_ ≠ ((.slice Ao21 t242.length co21) : Value).ownBlock ∧ some k_ ≠ ((.slice Ao22 t245.length co22) : Value).ownBlock ∧ some k_ ≠ ((.slice Ao32 t259.length co32) : Value).ownBlock ∧ some k_ ≠ (Value.slice none 0 0 : Value).ownBlock) (.slice Ao34 t265.length co34) t265) ∧ Aside0 (Kd.N (Kd.slice 3 (Kd.int .i64)) 27 w' w.heap.size (fun k_ => some k_ ≠ ((.slice Ao20 t239.length co20) : Value).ownBlock ∧ some k_ ≠ ((.slice Ao21 t242.length co21) : Value).ownBlock ∧ some k_ ≠ ((.slice Ao22 t245.length co22) : Value).ownBlock ∧ some k_ ≠ ((.slice Ao23 t248.length co23) : Value).ownBlock ∧ some k_ ≠ ((.slice Ao32 t259.length co32) : Value).ownBlock ∧ some k_ ≠ (Value.slice none 0 0 : Value).ownBlock ∧ some k_ ≠ (Value.slice none 0 0 : Value).ownBlock ∧ k_ ≠ gb235 ∧ k_ ≠ gb252 ∧ k_ ≠ gb272) (.slice Ao35 t268.length co35) t268) ∧ Aside0 (w'.heap[gb235]? = some (.cells #[.int .i64 a0_0, .int .i64 a0_1, (.slice A0_2 l0_2.length c0_2)] 24 (0, 0))) ∧ Aside0 (w'.heap[gb252]? = some (.cells #[.bool t238, (.slice Ao20 t239.length co20), (.slice Ao21 t242.length co21), (.slice Ao22 t245.length co22), (.slice Ao23 t248.length co23)] 30 (0, 0))) ∧ Aside0 (w'.heap[gb272]? = some (.cells #[.bool t258, (.slice Ao32 t259.length co32), (.slice Ao33 t262.length co33), (.slice Ao34 t265.length co34), (.slice Ao35 t268.length co35)] 30 (0, 0))) ∧ Aside0 (Below w.heap.size w w'))
              case atStart => exact ⟨(0), (0), (0), (by first | rfl | (simp; done) | (simp [*]; done)), (by first | rfl | (simp; done) | (simp [*]; done)), (by first | rfl | (simp; done) | (simp [*]; done)), H', ⟨Nat.le_refl _⟩, ⟨by (with_reducible repeat (first | apply Kd.R_alloc | apply Kd.R_drewN | apply Kd.R_drew)); exact HO_253001.out⟩, ⟨by (with_reducible repeat (first | apply Kd.R_alloc | apply Kd.R_drewN | apply Kd.R_drew)); exact HO_253002.out⟩, ⟨by (with_reducible repeat (first | apply Kd.R_alloc | apply Kd.R_drewN | apply Kd.R_drew)); exact HO_253003.out⟩, ⟨by (with_reducible repeat (first | apply Kd.N_alloc | apply Kd.N_drewN | apply Kd.N_drew)); exact HO_253004.out⟩, ⟨by (with_reducible repeat (first | apply Kd.R_alloc | apply Kd.R_drewN | apply Kd.R_drew)); exact HO_273001.out⟩, ⟨by (with_reducible repeat (first | apply Kd.R_alloc | apply Kd.R_drewN | apply Kd.R_drew)); exact HO_273002.out⟩, ⟨by (with_reducible repeat (first | apply Kd.R_alloc | apply Kd.R_drewN | apply Kd.R_drew)); exact HO_273003.out⟩, ⟨by (with_reducible repeat (first | apply Kd.N_alloc | apply Kd.N_drewN | apply Kd.N_drew)); exact HO_273004.out⟩, ⟨by (with_reducible repeat (first | refine blk_drewN ?_ _ | refine blk_drew ?_ | refine blk_alloc ?_ _)); exact BK235.out⟩, ⟨by (with_reducible repeat (first | refine blk_drewN ?_ _ | refine blk_drew ?_ | refine blk_alloc ?_ _)); exact BK252.out⟩, ⟨by (with_reducible repeat (first | refine blk_drewN ?_ _ | refine blk_drew ?_ | refine blk_alloc ?_ _)); exact BK272.out⟩, ⟨by repeat (first | (with_reducible first | exact HB.out | apply below_alloc | apply pw_below_drewN | apply below_drew1 | refine below_set ?_ GE235.out | refine below_set ?_ GE252.out | refine below_set ?_ GE272.out) | exact HB.out)⟩⟩
              case round =>
                clear H'
                try clear c1
                try clear c2
                try clear p2
                try clear c3
                try clear c5
                try clear c9
                try clear c10
                try clear c16
                try clear c18
                try clear c21
                try clear c24
                try clear c29
                try clear c30
                try clear c36
                try clear c36b0
                try clear c36b1
                try clear c37
                try clear hcz15_0
                try clear hcz15_1
                try clear hcz15_2
                try clear hcz19_0
                try clear hcz19_1
                try clear hcz19_2
                try clear hcz19_3
                try clear hcz19_4
                try clear hcz24_0
                try clear hcz24_1
                try clear hcz24_2
                try clear hcz31_0
                try clear hcz31_1
                try clear hcz31_2
                try clear hcz31_3
                try clear hcz31_4
                try clear hcz7_0
                try clear hcz7_1
                try clear hcz7_2
                try clear hfz15_0
                try clear hfz15_1
                try clear hfz15_2
                try clear hfz19_0
                try clear hfz19_1
                try clear hfz19_2
                try clear hfz19_3
                try clear hfz19_4
                try clear hfz24_0
                try clear hfz24_1
                try clear hfz24_2
                try clear hfz31_0
                try clear hfz31_1
                try clear hfz31_2
                try clear hfz31_3
                try clear hfz31_4
                try clear hfz7_0
                try clear hfz7_1
                try clear hfz7_2
                try clear p2
                obtain ⟨x9_3, x10_3, x11_3, rfl, rfl, rfl, HA, HK3, HO_253001, HO_253002, HO_253003, HO_253004, HO_273001, HO_273002, HO_273003, HO_273004, BK235, BK252, BK272, HB⟩ := hrel
                cases gk with
                | zero => exact absurd HA.out (by simp [scansionlaw11_FollowTurns.l0])
                | succ k3 =>
                  have H := HA.out
                  clear HA
                  simp only [scansionlaw11_FollowTurns.l0] at H
                  by_cases c38 : x11_3 < (t248.length : Int)
                  · rw [if_pos c38] at H
                    have c38b0 : decide (x11_3 < (t248.length : Int)) = true := decide_eq_true c38
                    clear c38
                    by_cases c39 : x11_3 < (t268.length : Int)
                    · rw [if_pos c39] at H
                      have c39b0 : decide (x11_3 < (t268.length : Int)) = true := decide_eq_true c39
                      clear c39
                      by_cases c40 : 0 ≤ x11_3
                      · rw [if_pos c40] at H
                        have c40b0 : decide (0 ≤ x11_3) = true := decide_eq_true c40
                        clear c40
                        have H' := Aside0.mk H
                        clear H
                        have hnb41 := NB252_235.out
                        have hnc41 := NB235_252.out
                        have hnb42 := NB252_272.out
                        have hnc42 := NB272_252.out
                        have hcz43_0 : wr.cell? ⟨gb252, 0, none⟩ = some (.bool t238) := (blk_cell BK252.out 0).trans rfl
                        have hcz43_1 : wr.cell? ⟨gb252, 1, none⟩ = some (.slice Ao20 t239.length co20) := (blk_cell BK252.out 1).trans rfl
                        have hcz43_2 : wr.cell? ⟨gb252, 2, none⟩ = some (.slice Ao21 t242.length co21) := (blk_cell BK252.out 2).trans rfl
                        have hcz43_3 : wr.cell? ⟨gb252, 3, none⟩ = some (.slice Ao22 t245.length co22) := (blk_cell BK252.out 3).trans rfl
                        have hcz43_4 : wr.cell? ⟨gb252, 4, none⟩ = some (.slice Ao23 t248.length co23) := (blk_cell BK252.out 4).trans rfl
                        have hfz43_0 := blk_frozen BK252.out 0
                        have hfz43_1 := blk_frozen BK252.out 1
                        have hfz43_2 := blk_frozen BK252.out 2
                        have hfz43_3 := blk_frozen BK252.out 3
                        have hfz43_4 := blk_frozen BK252.out 4
                        have hnb44 := NB272_235.out
                        have hnc44 := NB235_272.out
                        have hcz45_0 : wr.cell? ⟨gb272, 0, none⟩ = some (.bool t258) := (blk_cell BK272.out 0).trans rfl
                        have hcz45_1 : wr.cell? ⟨gb272, 1, none⟩ = some (.slice Ao32 t259.length co32) := (blk_cell BK272.out 1).trans rfl
                        have hcz45_2 : wr.cell? ⟨gb272, 2, none⟩ = some (.slice Ao33 t262.length co33) := (blk_cell BK272.out 2).trans rfl
                        have hcz45_3 : wr.cell? ⟨gb272, 3, none⟩ = some (.slice Ao34 t265.length co34) := (blk_cell BK272.out 3).trans rfl
                        have hcz45_4 : wr.cell? ⟨gb272, 4, none⟩ = some (.slice Ao35 t268.length co35) := (blk_cell BK272.out 4).trans rfl
                        have hfz45_0 := blk_frozen BK272.out 0
                        have hfz45_1 := blk_frozen BK272.out 1
                        have hfz45_2 := blk_frozen BK272.out 2
                        have hfz45_3 := blk_frozen BK272.out 3
                        have hfz45_4 := blk_frozen BK272.out 4
                        have p273 : 0 ≤ (x11_3 : Int) := of_decide_eq_true (by first | (with_reducible assumption) | assumption)
                        have q273 : x11_3 < (t248.length : Int) := of_decide_eq_true (by first | (with_reducible assumption) | assumption)
                        obtain ⟨ad273, A273_0, c273_0, e273, hx273_0, hl273_0, hi273_0⟩ := at_L1 (Kd.N_reads' HO_253004.out).2.2 x11_3 p273 q273
                        cases e273
                        obtain ⟨ce273, hce273, hMe273, hcc273⟩ := Kd.N_get HO_253004.out [] x11_3 p273 (by first | exact q273 | exact of_decide_eq_true (by first | (with_reducible assumption) | assumption) | (have e_ := (Kd.N_reads' HO_253004.out).1; omega))
                        obtain ⟨ua273_0, uc273_0, rfl, ul273_0, ge273_0⟩ := Kd.FK_slice_open hMe273
                        have hv273_0 := hcc273 0 _ rfl
                        rw [Nat.add_zero, show ((Kd.slice 3 (Kd.int .i64))).sz = 1 from rfl, Nat.mul_one] at hv273_0
                        replace hv273_0 := Option.some.inj (hv273_0.symm.trans hx273_0)
                        injection hv273_0 with hva_ hvn_ hvc_
                        rw [hva_] at ge273_0
                        rw [hvc_] at ul273_0
                        have HL273_0 := Aside0.mk (show Kd.V (Kd.int .i64) 3 _ w.heap.size _ _ (rd_L1 t248 x11_3) from Kd.V_mk ul273_0 ge273_0)
                        clear hva_ hvn_ hvc_ ge273_0 ul273_0
                        clear hcc273 hce273
                        have HR273_0 := Aside0.mk hi273_0
                        have HC273_0 := Aside0.mk hl273_0
                        clear hi273_0 hl273_0
                        replace p273 := eq_true p273
                        replace q273 := eq_true q273
                        have p274 : 0 ≤ (x11_3 : Int) := of_decide_eq_true (by first | (with_reducible assumption) | assumption)
                        have q274 : x11_3 < (t268.length : Int) := of_decide_eq_true (by first | (with_reducible assumption) | assumption)
                        obtain ⟨ad274, A274_0, c274_0, e274, hx274_0, hl274_0, hi274_0⟩ := at_L1 (Kd.N_reads' HO_273004.out).2.2 x11_3 p274 q274
                        cases e274
                        obtain ⟨ce274, hce274, hMe274, hcc274⟩ := Kd.N_get HO_273004.out [] x11_3 p274 (by first | exact q274 | exact of_decide_eq_true (by first | (with_reducible assumption) | assumption) | (have e_ := (Kd.N_reads' HO_273004.out).1; omega))
                        obtain ⟨ua274_0, uc274_0, rfl, ul274_0, ge274_0⟩ := Kd.FK_slice_open hMe274
                        have hv274_0 := hcc274 0 _ rfl
                        rw [Nat.add_zero, show ((Kd.slice 3 (Kd.int .i64))).sz = 1 from rfl, Nat.mul_one] at hv274_0
                        replace hv274_0 := Option.some.inj (hv274_0.symm.trans hx274_0)
                        injection hv274_0 with hva_ hvn_ hvc_
                        rw [hva_] at ge274_0
                        rw [hvc_] at ul274_0
                        have HL274_0 := Aside0.mk (show Kd.V (Kd.int .i64) 3 _ w.heap.size _ _ (rd_L1 t268 x11_3) from Kd.V_mk ul274_0 ge274_0)
                        clear hva_ hvn_ hvc_ ge274_0 ul274_0
                        clear hcc274 hce274
                        have HR274_0 := Aside0.mk hi274_0
                        have HC274_0 := Aside0.mk hl274_0
                        clear hi274_0 hl274_0
                        replace p274 := eq_true p274
                        replace q274 := eq_true q274
                        go_wp2
                        go_roundg k3
                        case measure => have := HJ3.out; have := HJ13.out; have := HK3.out; omega
                        case rel => exact ⟨(wrap64 (x9_3 + ((rd_L1 t248 x11_3).length : Int))), (wrap64 (x10_3 + ((rd_L1 t268 x11_3).length : Int))), (wrap64 (x11_3 + 1)), (by first | rfl | (simp; done) | (simp [*]; done)), (by first | rfl | (simp; done) | (simp [*]; done)), (by first | rfl | (simp; done) | (simp [*]; done)), H', ⟨by have := HJ3.out; have := HJ13.out; have := HK3.out; omega⟩, ⟨by (with_reducible repeat (first | apply Kd.R_alloc | apply Kd.R_drewN | apply Kd.R_drew)); exact HO_253001.out⟩, ⟨by (with_reducible repeat (first | apply Kd.R_alloc | apply Kd.R_drewN | apply Kd.R_drew)); exact HO_253002.out⟩, ⟨by (with_reducible repeat (first | apply Kd.R_alloc | apply Kd.R_drewN | apply Kd.R_drew)); exact HO_253003.out⟩, ⟨by (with_reducible repeat (first | apply Kd.N_alloc | apply Kd.N_drewN | apply Kd.N_drew)); exact HO_253004.out⟩, ⟨by (with_reducible repeat (first | apply Kd.R_alloc | apply Kd.R_drewN | apply Kd.R_drew)); exact HO_273001.out⟩, ⟨by (with_reducible repeat (first | apply Kd.R_alloc | apply Kd.R_drewN | apply Kd.R_drew)); exact HO_273002.out⟩, ⟨by (with_reducible repeat (first | apply Kd.R_alloc | apply Kd.R_drewN | apply Kd.R_drew)); exact HO_273003.out⟩, ⟨by (with_reducible repeat (first | apply Kd.N_alloc | apply Kd.N_drewN | apply Kd.N_drew)); exact HO_273004.out⟩, ⟨by (with_reducible repeat (first | refine blk_drewN ?_ _ | refine blk_drew ?_ | refine blk_alloc ?_ _)); exact BK235.out⟩, ⟨by (with_reducible repeat (first | refine blk_drewN ?_ _ | refine blk_drew ?_ | refine blk_alloc ?_ _)); exact BK252.out⟩, ⟨by (with_reducible repeat (first | refine blk_drewN ?_ _ | refine blk_drew ?_ | refine blk_alloc ?_ _)); exact BK272.out⟩, ⟨by repeat (first | (with_reducible first | exact HB.out | apply below_alloc | apply pw_below_drewN | apply below_drew1 | refine below_set ?_ GE235.out | refine below_set ?_ GE252.out | refine below_set ?_ GE272.out) | exact HB.out)⟩⟩
                      · rw [if_neg c40] at H
                        exact absurd H (by simp)
                    · rw [if_neg c39] at H
                      have c39b0 : decide (x11_3 < (t268.length : Int)) = false := decide_eq_false c39
                      clear c39
                      by_cases c46 : (t239.length : Int) = (t259.length : Int)
                      · rw [if_pos c46] at H
                        have c46b0 : ((t239.length : Int) == (t259.length : Int)) = true := beq_iff_eq.mpr c46
                        have c46b1 : ((t239.length : Int) != (t259.length : Int)) = false := bne_eq_false_iff_eq.mpr c46
                        have c46b2 : (t239.length == t259.length) = true := by first | simpa using c46 | (simp at c46 ⊢; omega)
                        clear c46
                        by_cases c47 : (t238 == t258) = true
                        · rw [if_pos c47] at H
                          have c47b0 : (t238 == t258) = true := c47
                          (try (have c47b1 : decide (t238 = t258) = true := by simpa using c47))
                          (try (have c47b2 : (t238 == t258) = true := by simpa using c47))
                          clear c47
                          by_cases c48 : (t242.length : Int) = (t265.length : Int)
                          · rw [if_pos c48] at H
                            have c48b0 : ((t242.length : Int) == (t265.length : Int)) = true := beq_iff_eq.mpr c48
                            have c48b1 : ((t242.length : Int) != (t265.length : Int)) = false := bne_eq_false_iff_eq.mpr c48
                            have c48b2 : (t242.length == t265.length) = true := by first | simpa using c48 | (simp at c48 ⊢; omega)
                            clear c48
                            by_cases c49 : (t245.length : Int) = (t262.length : Int)
                            · rw [if_pos c49] at H
                              have c49b0 : ((t245.length : Int) == (t262.length : Int)) = true := beq_iff_eq.mpr c49
                              have c49b1 : ((t245.length : Int) != (t262.length : Int)) = false := bne_eq_false_iff_eq.mpr c49
                              have c49b2 : (t245.length == t262.length) = true := by first | simpa using c49 | (simp at c49 ⊢; omega)
                              clear c49
                              obtain rfl := Option.some.inj H
                              have hnb50 := NB252_235.out
                              have hnc50 := NB235_252.out
                              have hnb51 := NB252_272.out
                              have hnc51 := NB272_252.out
                              have hcz52_0 : wr.cell? ⟨gb252, 0, none⟩ = some (.bool t238) := (blk_cell BK252.out 0).trans rfl
                              have hcz52_1 : wr.cell? ⟨gb252, 1, none⟩ = some (.slice Ao20 t239.length co20) := (blk_cell BK252.out 1).trans rfl
                              have hcz52_2 : wr.cell? ⟨gb252, 2, none⟩ = some (.slice Ao21 t242.length co21) := (blk_cell BK252.out 2).trans rfl
                              have hcz52_3 : wr.cell? ⟨gb252, 3, none⟩ = some (.slice Ao22 t245.length co22) := (blk_cell BK252.out 3).trans rfl
                              have hcz52_4 : wr.cell? ⟨gb252, 4, none⟩ = some (.slice Ao23 t248.length co23) := (blk_cell BK252.out 4).trans rfl
                              have hfz52_0 := blk_frozen BK252.out 0
                              have hfz52_1 := blk_frozen BK252.out 1
                              have hfz52_2 := blk_frozen BK252.out 2
                              have hfz52_3 := blk_frozen BK252.out 3
                              have hfz52_4 := blk_frozen BK252.out 4
                              have hnb53 := NB272_235.out
                              have hnc53 := NB235_272.out
                              have hcz54_0 : wr.cell? ⟨gb272, 0, none⟩ = some (.bool t258) := (blk_cell BK272.out 0).trans rfl
                              have hcz54_1 : wr.cell? ⟨gb272, 1, none⟩ = some (.slice Ao32 t259.length co32) := (blk_cell BK272.out 1).trans rfl
                              have hcz54_2 : wr.cell? ⟨gb272, 2, none⟩ = some (.slice Ao33 t262.length co33) := (blk_cell BK272.out 2).trans rfl
                              have hcz54_3 : wr.cell? ⟨gb272, 3, none⟩ = some (.slice Ao34 t265.length co34) := (blk_cell BK272.out 3).trans rfl
                              have hcz54_4 : wr.cell? ⟨gb272, 4, none⟩ = some (.slice Ao35 t268.length co35) := (blk_cell BK272.out 4).trans rfl
                              have hfz54_0 := blk_frozen BK272.out 0
                              have hfz54_1 := blk_frozen BK272.out 1
                              have hfz54_2 := blk_frozen BK272.out 2
                              have hfz54_3 := blk_frozen BK272.out 3
                              have hfz54_4 := blk_frozen BK272.out 4
                              go_wp2
                              go_ret
                              exact ⟨by first | rfl | (simp [errW_none, errW_some] <;> rfl) | (simp [*, errW_none, errW_some] <;> rfl), by repeat (first | (with_reducible first | exact HB.out | apply below_alloc | apply pw_below_drewN | apply below_drew1 | refine below_set ?_ GE235.out | refine below_set ?_ GE252.out | refine below_set ?_ GE272.out) | exact HB.out)⟩
                            · rw [if_neg c49] at H
                              have c49b0 : ((t245.length : Int) == (t262.length : Int)) = false := beq_eq_false_iff_ne.mpr c49
                              have c49b1 : ((t245.length : Int) != (t262.length : Int)) = true := bne_iff_ne.mpr c49
                              have c49b2 : (t245.length == t262.length) = false := by first | simpa using c49 | (simp at c49 ⊢; omega)
                              obtain rfl := Option.some.inj H
                              have hnb55 := NB252_235.out
                              have hnc55 := NB235_252.out
                              have hnb56 := NB252_272.out
                              have hnc56 := NB272_252.out
                              have hcz57_0 : wr.cell? ⟨gb252, 0, none⟩ = some (.bool t238) := (blk_cell BK252.out 0).trans rfl
                              have hcz57_1 : wr.cell? ⟨gb252, 1, none⟩ = some (.slice Ao20 t239.length co20) := (blk_cell BK252.out 1).trans rfl
                              have hcz57_2 : wr.cell? ⟨gb252, 2, none⟩ = some (.slice Ao21 t242.length co21) := (blk_cell BK252.out 2).trans rfl
                              have hcz57_3 : wr.cell? ⟨gb252, 3, none⟩ = some (.slice Ao22 t245.length co22) := (blk_cell BK252.out 3).trans rfl
                              have hcz57_4 : wr.cell? ⟨gb252, 4, none⟩ = some (.slice Ao23 t248.length co23) := (blk_cell BK252.out 4).trans rfl
                              have hfz57_0 := blk_frozen BK252.out 0
                              have hfz57_1 := blk_frozen BK252.out 1
                              have hfz57_2 := blk_frozen BK252.out 2
                              have hfz57_3 := blk_frozen BK252.out 3
                              have hfz57_4 := blk_frozen BK252.out 4
                              have hnb58 := NB272_235.out
                              have hnc58 := NB235_272.out
                              have hcz59_0 : wr.cell? ⟨gb272, 0, none⟩ = some (.bool t258) := (blk_cell BK272.out 0).trans rfl
                              have hcz59_1 : wr.cell? ⟨gb272, 1, none⟩ = some (.slice Ao32 t259.length co32) := (blk_cell BK272.out 1).trans rfl
                              have hcz59_2 : wr.cell? ⟨gb272, 2, none⟩ = some (.slice Ao33 t262.length co33) := (blk_cell BK272.out 2).trans rfl
                              have hcz59_3 : wr.cell? ⟨gb272, 3, none⟩ = some (.slice Ao34 t265.length co34) := (blk_cell BK272.out 3).trans rfl
                              have hcz59_4 : wr.cell? ⟨gb272, 4, none⟩ = some (.slice Ao35 t268.length co35) := (blk_cell BK272.out 4).trans rfl
                              have hfz59_0 := blk_frozen BK272.out 0
                              have hfz59_1 := blk_frozen BK272.out 1
                              have hfz59_2 := blk_frozen BK272.out 2
                              have hfz59_3 := blk_frozen BK272.out 3
                              have hfz59_4 := blk_frozen BK272.out 4
                              go_wp2
                              go_ret
                              exact ⟨by first | rfl | (simp [errW_none, errW_some] <;> rfl) | (simp [*, errW_none, errW_some] <;> rfl), by repeat (first | (with_reducible first | exact HB.out | apply below_alloc | apply pw_below_drewN | apply below_drew1 | refine below_set ?_ GE235.out | refine below_set ?_ GE252.out | refine below_set ?_ GE272.out) | exact HB.out)⟩
                          · rw [if_neg c48] at H
                            have c48b0 : ((t242.length : Int) == (t265.length : Int)) = false := beq_eq_false_iff_ne.mpr c48
                            have c48b1 : ((t242.length : Int) != (t265.length : Int)) = true := bne_iff_ne.mpr c48
                            have c48b2 : (t242.length == t265.length) = false := by first | simpa using c48 | (simp at c48 ⊢; omega)
                            obtain rfl := Option.some.inj H
                            have hnb60 := NB252_235.out
                            have hnc60 := NB235_252.out
                            have hnb61 := NB252_272.out
                            have hnc61 := NB272_252.out
                            have hcz62_0 : wr.cell? ⟨gb252, 0, none⟩ = some (.bool t238) := (blk_cell BK252.out 0).trans rfl
                            have hcz62_1 : wr.cell? ⟨gb252, 1, none⟩ = some (.slice Ao20 t239.length co20) := (blk_cell BK252.out 1).trans rfl
                            have hcz62_2 : wr.cell? ⟨gb252, 2, none⟩ = some (.slice Ao21 t242.length co21) := (blk_cell BK252.out 2).trans rfl
                            have hcz62_3 : wr.cell? ⟨gb252, 3, none⟩ = some (.slice Ao22 t245.length co22) := (blk_cell BK252.out 3).trans rfl
                            have hcz62_4 : wr.cell? ⟨gb252, 4, none⟩ = some (.slice Ao23 t248.length co23) := (blk_cell BK252.out 4).trans rfl
                            have hfz62_0 := blk_frozen BK252.out 0
                            have hfz62_1 := blk_frozen BK252.out 1
                            have hfz62_2 := blk_frozen BK252.out 2
                            have hfz62_3 := blk_frozen BK252.out 3
                            have hfz62_4 := blk_frozen BK252.out 4
                            have hnb63 := NB272_235.out
                            have hnc63 := NB235_272.out
                            have hcz64_0 : wr.cell? ⟨gb272, 0, none⟩ = some (.bool t258) := (blk_cell BK272.out 0).trans rfl
                            have hcz64_1 : wr.cell? ⟨gb272, 1, none⟩ = some (.slice Ao32 t259.length co32) := (blk_cell BK272.out 1).trans rfl
                            have hcz64_2 : wr.cell? ⟨gb272, 2, none⟩ = some (.slice Ao33 t262.length co33) := (blk_cell BK272.out 2).trans rfl
                            have hcz64_3 : wr.cell? ⟨gb272, 3, none⟩ = some (.slice Ao34 t265.length co34) := (blk_cell BK272.out 3).trans rfl
                            have hcz64_4 : wr.cell? ⟨gb272, 4, none⟩ = some (.slice Ao35 t268.length co35) := (blk_cell BK272.out 4).trans rfl
                            have hfz64_0 := blk_frozen BK272.out 0
                            have hfz64_1 := blk_frozen BK272.out 1
                            have hfz64_2 := blk_frozen BK272.out 2
                            have hfz64_3 := blk_frozen BK272.out 3
                            have hfz64_4 := blk_frozen BK272.out 4
                            go_wp2
                            go_ret
                            exact ⟨by first | rfl | (simp [errW_none, errW_some] <;> rfl) | (simp [*, errW_none, errW_some] <;> rfl), by repeat (first | (with_reducible first | exact HB.out | apply below_alloc | apply pw_below_drewN | apply below_drew1 | refine below_set ?_ GE235.out | refine below_set ?_ GE252.out | refine below_set ?_ GE272.out) | exact HB.out)⟩
                        · rw [if_neg c47] at H
                          have c47b0 : (t238 == t258) = false := by simpa using c47
                          (try (have c47b1 : decide (t238 = t258) = false := by simpa using c47))
                          (try (have c47b2 : (t238 == t258) = false := by simpa using c47))
                          (try (have c47b3 : ¬ (t238 = t258) := by simpa using c47))
                          clear c47
                          obtain rfl := Option.some.inj H
                          have hnb65 := NB252_235.out
                          have hnc65 := NB235_252.out
                          have hnb66 := NB252_272.out
                          have hnc66 := NB272_252.out
                          have hcz67_0 : wr.cell? ⟨gb252, 0, none⟩ = some (.bool t238) := (blk_cell BK252.out 0).trans rfl
                          have hcz67_1 : wr.cell? ⟨gb252, 1, none⟩ = some (.slice Ao20 t239.length co20) := (blk_cell BK252.out 1).trans rfl
                          have hcz67_2 : wr.cell? ⟨gb252, 2, none⟩ = some (.slice Ao21 t242.length co21) := (blk_cell BK252.out 2).trans rfl
                          have hcz67_3 : wr.cell? ⟨gb252, 3, none⟩ = some (.slice Ao22 t245.length co22) := (blk_cell BK252.out 3).trans rfl
                          have hcz67_4 : wr.cell? ⟨gb252, 4, none⟩ = some (.slice Ao23 t248.length co23) := (blk_cell BK252.out 4).trans rfl
                          have hfz67_0 := blk_frozen BK252.out 0
                          have hfz67_1 := blk_frozen BK252.out 1
                          have hfz67_2 := blk_frozen BK252.out 2
                          have hfz67_3 := blk_frozen BK252.out 3
                          have hfz67_4 := blk_frozen BK252.out 4
                          have hnb68 := NB272_235.out
                          have hnc68 := NB235_272.out
                          have hcz69_0 : wr.cell? ⟨gb272, 0, none⟩ = some (.bool t258) := (blk_cell BK272.out 0).trans rfl
                          have hcz69_1 : wr.cell? ⟨gb272, 1, none⟩ = some (.slice Ao32 t259.length co32) := (blk_cell BK272.out 1).trans rfl
                          have hcz69_2 : wr.cell? ⟨gb272, 2, none⟩ = some (.slice Ao33 t262.length co33) := (blk_cell BK272.out 2).trans rfl
                          have hcz69_3 : wr.cell? ⟨gb272, 3, none⟩ = some (.slice Ao34 t265.length co34) := (blk_cell BK272.out 3).trans rfl
                          have hcz69_4 : wr.cell? ⟨gb272, 4, none⟩ = some (.slice Ao35 t268.length co35) := (blk_cell BK272.out 4).trans rfl
                          have hfz69_0 := blk_frozen BK272.out 0
                          have hfz69_1 := blk_frozen BK272.out 1
                          have hfz69_2 := blk_frozen BK272.out 2
                          have hfz69_3 := blk_frozen BK272.out 3
                          have hfz69_4 := blk_frozen BK272.out 4
                          go_wp2
                          go_ret
                          exact ⟨by first | rfl | (simp [errW_none, errW_some] <;> rfl) | (simp [*, errW_none, errW_some] <;> rfl), by repeat (first | (with_reducible first | exact HB.out | apply below_alloc | apply pw_below_drewN | apply below_drew1 | refine below_set ?_ GE235.out | refine below_set ?_ GE252.out | refine below_set ?_ GE272.out) | exact HB.out)⟩
                      · rw [if_neg c46] at H
                        have c46b0 : ((t239.length : Int) == (t259.length : Int)) = false := beq_eq_false_iff_ne.mpr c46
                        have c46b1 : ((t239.length : Int) != (t259.length : Int)) = true := bne_iff_ne.mpr c46
                        have c46b2 : (t239.length == t259.length) = false := by first | simpa using c46 | (simp at c46 ⊢; omega)
                        obtain rfl := Option.some.inj H
                        have hnb70 := NB252_235.out
                        have hnc70 := NB235_252.out
                        have hnb71 := NB252_272.out
                        have hnc71 := NB272_252.out
                        have hcz72_0 : wr.cell? ⟨gb252, 0, none⟩ = some (.bool t238) := (blk_cell BK252.out 0).trans rfl
                        have hcz72_1 : wr.cell? ⟨gb252, 1, none⟩ = some (.slice Ao20 t239.length co20) := (blk_cell BK252.out 1).trans rfl
                        have hcz72_2 : wr.cell? ⟨gb252, 2, none⟩ = some (.slice Ao21 t242.length co21) := (blk_cell BK252.out 2).trans rfl
                        have hcz72_3 : wr.cell? ⟨gb252, 3, none⟩ = some (.slice Ao22 t245.length co22) := (blk_cell BK252.out 3).trans rfl
                        have hcz72_4 : wr.cell? ⟨gb252, 4, none⟩ = some (.slice Ao23 t248.length co23) := (blk_cell BK252.out 4).trans rfl
                        have hfz72_0 := blk_frozen BK252.out 0
                        have hfz72_1 := blk_frozen BK252.out 1
                        have hfz72_2 := blk_frozen BK252.out 2
                        have hfz72_3 := blk_frozen BK252.out 3
                        have hfz72_4 := blk_frozen BK252.out 4
                        have hnb73 := NB272_235.out
                        have hnc73 := NB235_272.out
                        have hcz74_0 : wr.cell? ⟨gb272, 0, none⟩ = some (.bool t258) := (blk_cell BK272.out 0).trans rfl
                        have hcz74_1 : wr.cell? ⟨gb272, 1, none⟩ = some (.slice Ao32 t259.length co32) := (blk_cell BK272.out 1).trans rfl
                        have hcz74_2 : wr.cell? ⟨gb272, 2, none⟩ = some (.slice Ao33 t262.length co33) := (blk_cell BK272.out 2).trans rfl
                        have hcz74_3 : wr.cell? ⟨gb272, 3, none⟩ = some (.slice Ao34 t265.length co34) := (blk_cell BK272.out 3).trans rfl
                        have hcz74_4 : wr.cell? ⟨gb272, 4, none⟩ = some (.slice Ao35 t268.length co35) := (blk_cell BK272.out 4).trans rfl
                        have hfz74_0 := blk_frozen BK272.out 0
                        have hfz74_1 := blk_frozen BK272.out 1
                        have hfz74_2 := blk_frozen BK272.out 2
                        have hfz74_3 := blk_frozen BK272.out 3
                        have hfz74_4 := blk_frozen BK272.out 4
                        go_wp2
                        go_ret
                        exact ⟨by first | rfl | (simp [errW_none, errW_some] <;> rfl) | (simp [*, errW_none, errW_some] <;> rfl), by repeat (first | (with_reducible first | exact HB.out | apply below_alloc | apply pw_below_drewN | apply below_drew1 | refine below_set ?_ GE235.out | refine below_set ?_ GE252.out | refine below_set ?_ GE272.out) | exact HB.out)⟩
                  · rw [if_neg c38] at H
                    have c38b0 : decide (x11_3 < (t248.length : Int)) = false := decide_eq_false c38
                    clear c38
                    by_cases c75 : (t239.length : Int) = (t259.length : Int)
                    · rw [if_pos c75] at H
                      have c75b0 : ((t239.length : Int) == (t259.length : Int)) = true := beq_iff_eq.mpr c75
                      have c75b1 : ((t239.length : Int) != (t259.length : Int)) = false := bne_eq_false_iff_eq.mpr c75
                      have c75b2 : (t239.length == t259.length) = true := by first | simpa using c75 | (simp at c75 ⊢; omega)
                      clear c75
                      by_cases c76 : (t238 == t258) = true
                      · rw [if_pos c76] at H
                        have c76b0 : (t238 == t258) = true := c76
                        (try (have c76b1 : decide (t238 = t258) = true := by simpa using c76))
                        (try (have c76b2 : (t238 == t258) = true := by simpa using c76))
                        clear c76
                        by_cases c77 : (t242.length : Int) = (t265.length : Int)
                        · rw [if_pos c77] at H
                          have c77b0 : ((t242.length : Int) == (t265.length : Int)) = true := beq_iff_eq.mpr c77
                          have c77b1 : ((t242.length : Int) != (t265.length : Int)) = false := bne_eq_false_iff_eq.mpr c77
                          have c77b2 : (t242.length == t265.length) = true := by first | simpa using c77 | (simp at c77 ⊢; omega)
                          clear c77
                          by_cases c78 : (t245.length : Int) = (t262.length : Int)
                          · rw [if_pos c78] at H
                            have c78b0 : ((t245.length : Int) == (t262.length : Int)) = true := beq_iff_eq.mpr c78
                            have c78b1 : ((t245.length : Int) != (t262.length : Int)) = false := bne_eq_false_iff_eq.mpr c78
                            have c78b2 : (t245.length == t262.length) = true := by first | simpa using c78 | (simp at c78 ⊢; omega)
                            clear c78
                            obtain rfl := Option.some.inj H
                            have hnb79 := NB252_235.out
                            have hnc79 := NB235_252.out
                            have hnb80 := NB252_272.out
                            have hnc80 := NB272_252.out
                            have hcz81_0 : wr.cell? ⟨gb252, 0, none⟩ = some (.bool t238) := (blk_cell BK252.out 0).trans rfl
                            have hcz81_1 : wr.cell? ⟨gb252, 1, none⟩ = some (.slice Ao20 t239.length co20) := (blk_cell BK252.out 1).trans rfl
                            have hcz81_2 : wr.cell? ⟨gb252, 2, none⟩ = some (.slice Ao21 t242.length co21) := (blk_cell BK252.out 2).trans rfl
                            have hcz81_3 : wr.cell? ⟨gb252, 3, none⟩ = some (.slice Ao22 t245.length co22) := (blk_cell BK252.out 3).trans rfl
                            have hcz81_4 : wr.cell? ⟨gb252, 4, none⟩ = some (.slice Ao23 t248.length co23) := (blk_cell BK252.out 4).trans rfl
                            have hfz81_0 := blk_frozen BK252.out 0
                            have hfz81_1 := blk_frozen BK252.out 1
                            have hfz81_2 := blk_frozen BK252.out 2
                            have hfz81_3 := blk_frozen BK252.out 3
                            have hfz81_4 := blk_frozen BK252.out 4
                            have hnb82 := NB272_235.out
                            have hnc82 := NB235_272.out
                            have hcz83_0 : wr.cell? ⟨gb272, 0, none⟩ = some (.bool t258) := (blk_cell BK272.out 0).trans rfl
                            have hcz83_1 : wr.cell? ⟨gb272, 1, none⟩ = some (.slice Ao32 t259.length co32) := (blk_cell BK272.out 1).trans rfl
                            have hcz83_2 : wr.cell? ⟨gb272, 2, none⟩ = some (.slice Ao33 t262.length co33) := (blk_cell BK272.out 2).trans rfl
                            have hcz83_3 : wr.cell? ⟨gb272, 3, none⟩ = some (.slice Ao34 t265.length co34) := (blk_cell BK272.out 3).trans rfl
                            have hcz83_4 : wr.cell? ⟨gb272, 4, none⟩ = some (.slice Ao35 t268.length co35) := (blk_cell BK272.out 4).trans rfl
                            have hfz83_0 := blk_frozen BK272.out 0
                            have hfz83_1 := blk_frozen BK272.out 1
                            have hfz83_2 := blk_frozen BK272.out 2
                            have hfz83_3 := blk_frozen BK272.out 3
                            have hfz83_4 := blk_frozen BK272.out 4
                            go_wp2
                            go_ret
                            exact ⟨by first | rfl | (simp [errW_none, errW_some] <;> rfl) | (simp [*, errW_none, errW_some] <;> rfl), by repeat (first | (with_reducible first | exact HB.out | apply below_alloc | apply pw_below_drewN | apply below_drew1 | refine below_set ?_ GE235.out | refine below_set ?_ GE252.out | refine below_set ?_ GE272.out) | exact HB.out)⟩
                          · rw [if_neg c78] at H
                            have c78b0 : ((t245.length : Int) == (t262.length : Int)) = false := beq_eq_false_iff_ne.mpr c78
                            have c78b1 : ((t245.length : Int) != (t262.length : Int)) = true := bne_iff_ne.mpr c78
                            have c78b2 : (t245.length == t262.length) = false := by first | simpa using c78 | (simp at c78 ⊢; omega)
                            obtain rfl := Option.some.inj H
                            have hnb84 := NB252_235.out
                            have hnc84 := NB235_252.out
                            have hnb85 := NB252_272.out
                            have hnc85 := NB272_252.out
                            have hcz86_0 : wr.cell? ⟨gb252, 0, none⟩ = some (.bool t238) := (blk_cell BK252.out 0).trans rfl
                            have hcz86_1 : wr.cell? ⟨gb252, 1, none⟩ = some (.slice Ao20 t239.length co20) := (blk_cell BK252.out 1).trans rfl
                            have hcz86_2 : wr.cell? ⟨gb252, 2, none⟩ = some (.slice Ao21 t242.length co21) := (blk_cell BK252.out 2).trans rfl
                            have hcz86_3 : wr.cell? ⟨gb252, 3, none⟩ = some (.slice Ao22 t245.length co22) := (blk_cell BK252.out 3).trans rfl
                            have hcz86_4 : wr.cell? ⟨gb252, 4, none⟩ = some (.slice Ao23 t248.length co23) := (blk_cell BK252.out 4).trans rfl
                            have hfz86_0 := blk_frozen BK252.out 0
                            have hfz86_1 := blk_frozen BK252.out 1
                            have hfz86_2 := blk_frozen BK252.out 2
                            have hfz86_3 := blk_frozen BK252.out 3
                            have hfz86_4 := blk_frozen BK252.out 4
                            have hnb87 := NB272_235.out
                            have hnc87 := NB235_272.out
                            have hcz88_0 : wr.cell? ⟨gb272, 0, none⟩ = some (.bool t258) := (blk_cell BK272.out 0).trans rfl
                            have hcz88_1 : wr.cell? ⟨gb272, 1, none⟩ = some (.slice Ao32 t259.length co32) := (blk_cell BK272.out 1).trans rfl
                            have hcz88_2 : wr.cell? ⟨gb272, 2, none⟩ = some (.slice Ao33 t262.length co33) := (blk_cell BK272.out 2).trans rfl
                            have hcz88_3 : wr.cell? ⟨gb272, 3, none⟩ = some (.slice Ao34 t265.length co34) := (blk_cell BK272.out 3).trans rfl
                            have hcz88_4 : wr.cell? ⟨gb272, 4, none⟩ = some (.slice Ao35 t268.length co35) := (blk_cell BK272.out 4).trans rfl
                            have hfz88_0 := blk_frozen BK272.out 0
                            have hfz88_1 := blk_frozen BK272.out 1
                            have hfz88_2 := blk_frozen BK272.out 2
                            have hfz88_3 := blk_frozen BK272.out 3
                            have hfz88_4 := blk_frozen BK272.out 4
                            go_wp2
                            go_ret
                            exact ⟨by first | rfl | (simp [errW_none, errW_some] <;> rfl) | (simp [*, errW_none, errW_some] <;> rfl), by repeat (first | (with_reducible first | exact HB.out | apply below_alloc | apply pw_below_drewN | apply below_drew1 | refine below_set ?_ GE235.out | refine below_set ?_ GE252.out | refine below_set ?_ GE272.out) | exact HB.out)⟩
                        · rw [if_neg c77] at H
                          have c77b0 : ((t242.length : Int) == (t265.length : Int)) = false := beq_eq_false_iff_ne.mpr c77
                          have c77b1 : ((t242.length : Int) != (t265.length : Int)) = true := bne_iff_ne.mpr c77
                          have c77b2 : (t242.length == t265.length) = false := by first | simpa using c77 | (simp at c77 ⊢; omega)
                          obtain rfl := Option.some.inj H
                          have hnb89 := NB252_235.out
                          have hnc89 := NB235_252.out
                          have hnb90 := NB252_272.out
                          have hnc90 := NB272_252.out
                          have hcz91_0 : wr.cell? ⟨gb252, 0, none⟩ = some (.bool t238) := (blk_cell BK252.out 0).trans rfl
                          have hcz91_1 : wr.cell? ⟨gb252, 1, none⟩ = some (.slice Ao20 t239.length co20) := (blk_cell BK252.out 1).trans rfl
                          have hcz91_2 : wr.cell? ⟨gb252, 2, none⟩ = some (.slice Ao21 t242.length co21) := (blk_cell BK252.out 2).trans rfl
                          have hcz91_3 : wr.cell? ⟨gb252, 3, none⟩ = some (.slice Ao22 t245.length co22) := (blk_cell BK252.out 3).trans rfl
                          have hcz91_4 : wr.cell? ⟨gb252, 4, none⟩ = some (.slice Ao23 t248.length co23) := (blk_cell BK252.out 4).trans rfl
                          have hfz91_0 := blk_frozen BK252.out 0
                          have hfz91_1 := blk_frozen BK252.out 1
                          have hfz91_2 := blk_frozen BK252.out 2
                          have hfz91_3 := blk_frozen BK252.out 3
                          have hfz91_4 := blk_frozen BK252.out 4
                          have hnb92 := NB272_235.out
                          have hnc92 := NB235_272.out
                          have hcz93_0 : wr.cell? ⟨gb272, 0, none⟩ = some (.bool t258) := (blk_cell BK272.out 0).trans rfl
                          have hcz93_1 : wr.cell? ⟨gb272, 1, none⟩ = some (.slice Ao32 t259.length co32) := (blk_cell BK272.out 1).trans rfl
                          have hcz93_2 : wr.cell? ⟨gb272, 2, none⟩ = some (.slice Ao33 t262.length co33) := (blk_cell BK272.out 2).trans rfl
                          have hcz93_3 : wr.cell? ⟨gb272, 3, none⟩ = some (.slice Ao34 t265.length co34) := (blk_cell BK272.out 3).trans rfl
                          have hcz93_4 : wr.cell? ⟨gb272, 4, none⟩ = some (.slice Ao35 t268.length co35) := (blk_cell BK272.out 4).trans rfl
                          have hfz93_0 := blk_frozen BK272.out 0
                          have hfz93_1 := blk_frozen BK272.out 1
                          have hfz93_2 := blk_frozen BK272.out 2
                          have hfz93_3 := blk_frozen BK272.out 3
                          have hfz93_4 := blk_frozen BK272.out 4
                          go_wp2
                          go_ret
                          exact ⟨by first | rfl | (simp [errW_none, errW_some] <;> rfl) | (simp [*, errW_none, errW_some] <;> rfl), by repeat (first | (with_reducible first | exact HB.out | apply below_alloc | apply pw_below_drewN | apply below_drew1 | refine below_set ?_ GE235.out | refine below_set ?_ GE252.out | refine below_set ?_ GE272.out) | exact HB.out)⟩
                      · rw [if_neg c76] at H
                        have c76b0 : (t238 == t258) = false := by simpa using c76
                        (try (have c76b1 : decide (t238 = t258) = false := by simpa using c76))
                        (try (have c76b2 : (t238 == t258) = false := by simpa using c76))
                        (try (have c76b3 : ¬ (t238 = t258) := by simpa using c76))
                        clear c76
                        obtain rfl := Option.some.inj H
                        have hnb94 := NB252_235.out
                        have hnc94 := NB235_252.out
                        have hnb95 := NB252_272.out
                        have hnc95 := NB272_252.out
                        have hcz96_0 : wr.cell? ⟨gb252, 0, none⟩ = some (.bool t238) := (blk_cell BK252.out 0).trans rfl
                        have hcz96_1 : wr.cell? ⟨gb252, 1, none⟩ = some (.slice Ao20 t239.length co20) := (blk_cell BK252.out 1).trans rfl
                        have hcz96_2 : wr.cell? ⟨gb252, 2, none⟩ = some (.slice Ao21 t242.length co21) := (blk_cell BK252.out 2).trans rfl
                        have hcz96_3 : wr.cell? ⟨gb252, 3, none⟩ = some (.slice Ao22 t245.length co22) := (blk_cell BK252.out 3).trans rfl
                        have hcz96_4 : wr.cell? ⟨gb252, 4, none⟩ = some (.slice Ao23 t248.length co23) := (blk_cell BK252.out 4).trans rfl
                        have hfz96_0 := blk_frozen BK252.out 0
                        have hfz96_1 := blk_frozen BK252.out 1
                        have hfz96_2 := blk_frozen BK252.out 2
                        have hfz96_3 := blk_frozen BK252.out 3
                        have hfz96_4 := blk_frozen BK252.out 4
                        have hnb97 := NB272_235.out
                        have hnc97 := NB235_272.out
                        have hcz98_0 : wr.cell? ⟨gb272, 0, none⟩ = some (.bool t258) := (blk_cell BK272.out 0).trans rfl
                        have hcz98_1 : wr.cell? ⟨gb272, 1, none⟩ = some (.slice Ao32 t259.length co32) := (blk_cell BK272.out 1).trans rfl
                        have hcz98_2 : wr.cell? ⟨gb272, 2, none⟩ = some (.slice Ao33 t262.length co33) := (blk_cell BK272.out 2).trans rfl
                        have hcz98_3 : wr.cell? ⟨gb272, 3, none⟩ = some (.slice Ao34 t265.length co34) := (blk_cell BK272.out 3).trans rfl
                        have hcz98_4 : wr.cell? ⟨gb272, 4, none⟩ = some (.slice Ao35 t268.length co35) := (blk_cell BK272.out 4).trans rfl
                        have hfz98_0 := blk_frozen BK272.out 0
                        have hfz98_1 := blk_frozen BK272.out 1
                        have hfz98_2 := blk_frozen BK272.out 2
                        have hfz98_3 := blk_frozen BK272.out 3
                        have hfz98_4 := blk_frozen BK272.out 4
                        go_wp2
                        go_ret
                        exact ⟨by first | rfl | (simp [errW_none, errW_some] <;> rfl) | (simp [*, errW_none, errW_some] <;> rfl), by repeat (first | (with_reducible first | exact HB.out | apply below_alloc | apply pw_below_drewN | apply below_drew1 | refine below_set ?_ GE235.out | refine below_set ?_ GE252.out | refine below_set ?_ GE272.out) | exact HB.out)⟩
                    · rw [if_neg c75] at H
                      have c75b0 : ((t239.length : Int) == (t259.length : Int)) = false := beq_eq_false_iff_ne.mpr c75
                      have c75b1 : ((t239.length : Int) != (t259.length : Int)) = true := bne_iff_ne.mpr c75
                      have c75b2 : (t239.length == t259.length) = false := by first | simpa using c75 | (simp at c75 ⊢; omega)
                      obtain rfl := Option.some.inj H
                      have hnb99 := NB252_235.out
                      have hnc99 := NB235_252.out
                      have hnb100 := NB252_272.out
                      have hnc100 := NB272_252.out
                      have hcz101_0 : wr.cell? ⟨gb252, 0, none⟩ = some (.bool t238) := (blk_cell BK252.out 0).trans rfl
                      have hcz101_1 : wr.cell? ⟨gb252, 1, none⟩ = some (.slice Ao20 t239.length co20) := (blk_cell BK252.out 1).trans rfl
                      have hcz101_2 : wr.cell? ⟨gb252, 2, none⟩ = some (.slice Ao21 t242.length co21) := (blk_cell BK252.out 2).trans rfl
                      have hcz101_3 : wr.cell? ⟨gb252, 3, none⟩ = some (.slice Ao22 t245.length co22) := (blk_cell BK252.out 3).trans rfl
                      have hcz101_4 : wr.cell? ⟨gb252, 4, none⟩ = some (.slice Ao23 t248.length co23) := (blk_cell BK252.out 4).trans rfl
                      have hfz101_0 := blk_frozen BK252.out 0
                      have hfz101_1 := blk_frozen BK252.out 1
                      have hfz101_2 := blk_frozen BK252.out 2
                      have hfz101_3 := blk_frozen BK252.out 3
                      have hfz101_4 := blk_frozen BK252.out 4
                      have hnb102 := NB272_235.out
                      have hnc102 := NB235_272.out
                      have hcz103_0 : wr.cell? ⟨gb272, 0, none⟩ = some (.bool t258) := (blk_cell BK272.out 0).trans rfl
                      have hcz103_1 : wr.cell? ⟨gb272, 1, none⟩ = some (.slice Ao32 t259.length co32) := (blk_cell BK272.out 1).trans rfl
                      have hcz103_2 : wr.cell? ⟨gb272, 2, none⟩ = some (.slice Ao33 t262.length co33) := (blk_cell BK272.out 2).trans rfl
                      have hcz103_3 : wr.cell? ⟨gb272, 3, none⟩ = some (.slice Ao34 t265.length co34) := (blk_cell BK272.out 3).trans rfl
                      have hcz103_4 : wr.cell? ⟨gb272, 4, none⟩ = some (.slice Ao35 t268.length co35) := (blk_cell BK272.out 4).trans rfl
                      have hfz103_0 := blk_frozen BK272.out 0
                      have hfz103_1 := blk_frozen BK272.out 1
                      have hfz103_2 := blk_frozen BK272.out 2
                      have hfz103_3 := blk_frozen BK272.out 3
                      have hfz103_4 := blk_frozen BK272.out 4
                      go_wp2
                      go_ret
                      exact ⟨by first | rfl | (simp [errW_none, errW_some] <;> rfl) | (simp [*, errW_none, errW_some] <;> rfl), by repeat (first | (with_reducible first | exact HB.out | apply below_alloc | apply pw_below_drewN | apply below_drew1 | refine below_set ?_ GE235.out | refine below_set ?_ GE252.out | refine below_set ?_ GE272.out) | exact HB.out)⟩
def follow_Begin.f  : Option (List Int) := some (([0] : List Int))
set_option maxHeartbeats 8000000 in
set_option maxRecDepth 100000 in
theorem follow_Begin.calls  (r : List Int) (w : World) (h : follow_Begin.f  = some r) :
    Calls Try.prog 42 #[] w fun e w' => ∃ v0_ : Value, e = .returned (v0_) ∧ Kd.R (Kd.int .i64) 3 w' w.heap.size (fun _ => True) v0_ r ∧ Below w.heap.size w w' := by
  have HB := Aside0.mk (Below.refl w.heap.size w)
  have H : (some (([0] : List Int))) = some r := h
  clear h
  obtain ⟨y275, hy275⟩ : ∃ y_ : List Int, y_ = (([0] : List Int)) := ⟨_, rfl⟩
  replace H : (some y275) = some r := by first | (rw [hy275]; with_reducible exact H) | (have H2_ := (Option.bind_some _ _).symm.trans H; rw [hy275]; with_reducible exact H2_) | (have H2_ := (Option.bind_some _ _).symm.trans H; with_reducible exact H2_) | with_reducible exact H | (rw [hy275]; exact H) | exact H
  have Ny275 := Aside0.mk hy275
  clear hy275
  obtain rfl := Option.some.inj H
  go_enter Try.func42, Try.ntmps42
  go_wp2_with (first | ((with_reducible refine gate_dst (N := 1) rfl ?_); refine Kd.R_lit (Kd.int .i64) _ 3 ?hg (N := 1) ?hd (xs := ([0] : List Int)) (inner := [.int .i64 0]) (ok := fun _ => True) (okp := fun _ => True) ?hr ?hp (fun _ hk => hk) trivial (Below.refl _ _) (Nat.le_refl _) (by simp) ?_; (case hd => rfl); (case hg => rfl); (case hr => first | (go_simp; done) | (go_simp; rfl)); (case hp => exact (Reps.one (show Kd.M (Kd.int .i64) _ _ _ 0 [.int .i64 0] from rfl) (Reps.none _ _))); intro v276 w1 ho2 hb hg_ hnew_; clear hg_ hnew_; (first | rw [← Ny275.out] at ho2 | (simp only [Int.reduceToNat] at ho2; rw [← Ny275.out] at ho2)); have n0_ := Aside0.mk (Kd.R_lower ho2 (below_size (by repeat (first | (with_reducible first | exact HB.out | apply below_alloc | apply pw_below_drewN | apply below_drew1) | exact HB.out)))); have n1_ := Aside0.mk (below_step (by repeat (first | (with_reducible first | exact HB.out | apply below_alloc | apply pw_below_drewN | apply below_drew1) | exact HB.out)) hb); clear HB; have HO277 := n0_; have HB := n1_; clear n0_ n1_; clear hb ho2))
  go_ret
  exact ⟨_, by first | rfl | (simp [errW_none, errW_some] <;> rfl) | (simp [*, errW_none, errW_some] <;> rfl), by (with_reducible repeat (first | apply Kd.R_alloc | apply Kd.R_drewN | apply Kd.R_drew)); exact HO277.out, by repeat (first | (with_reducible first | exact HB.out | apply below_alloc | apply pw_below_drewN | apply below_drew1) | exact HB.out)⟩
end Go.Proofs.Ytkoofldididpgaa.XB

end
section
namespace Go.Proofs.Ytkoofldididpgaa.NP
open Go Go.RowKit Go.Proofs.YtkoofldididpgaaW.PrintWords Go.Proofs.YtkoofldididpgaaW.PrintLast Go.Proofs.YtkoofldididpgaaW.PrintMore
open Go.Proofs.Ytkoofldididpgaa.XB Go.Proofs.Ytkoofldididpgaa.FM Go.Proofs.Ytkoofldididpgaa.BM Go.Proofs.Ytkoofldididpgaa.NB
set_option linter.unusedVariables false
set_option linter.unusedSimpArgs false
theorem awake11 : Ev (fun k => scansionlaw11_awake.f k) true := by
  refine Ev.of (fun k => scansionlaw11_awake.mono k) (k := 10) ?_
  decide +kernel
theorem wrap_nat {i : Nat} {n : Nat} (h : i < n) (hn : n ≤ 9223372036854775807) : wrap64 ((i : Int) + 1) = ((i + 1 : Nat) : Int) := by
  unfold wrap64
  omega
theorem wrap64_id {x : Int} (h : -9223372036854775808 ≤ x) (h2 : x ≤ 9223372036854775807) : wrap64 x = x := by
  unfold wrap64
  omega
theorem rdL {a : List (List Int)} {i : Nat} (h : i < a.length) : rd_L1 a (i : Int) = a[i] := by simp [rd_L1, List.getD_eq_getElem?_getD, h]
theorem rdT {a : List S24} {i : Nat} (h : i < a.length) : rd_T24 a (i : Int) = a[i] := by simp [rd_T24, List.getD_eq_getElem?_getD, h]
mutual
def sizeN : S24 → Nat
  | ⟨_, _, ks⟩ => 1 + sizeL ks
def sizeL : List S24 → Nat
  | [] => 0
  | n :: ks => sizeN n + sizeL ks
end
theorem sizeN_eq (n : S24) : sizeN n = 1 + sizeL n.f2 := by cases n; rw [sizeN]
mutual
theorem cnt_size : ∀ n : S24, cntN n ≤ sizeN n
  | ⟨kd, st, ks⟩ => by
    have := cnts_size ks
    rw [cntN, sizeN]
    split <;> omega
theorem cnts_size : ∀ ks : List S24, cntL ks ≤ sizeL ks
  | [] => by rw [cntL, sizeL]; exact Nat.le_refl _
  | n :: ks => by
    have := cnt_size n
    have := cnts_size ks
    rw [cntL, sizeL]; omega
end
theorem len_size : ∀ ks : List S24, ks.length ≤ sizeL ks
  | [] => Nat.zero_le _
  | n :: ks => by
    have := len_size ks
    rw [sizeL, sizeN_eq, List.length_cons]; omega
def Count (n : S24) : Prop := ∀ m d : Int, 1 ≤ m → m ≤ 1000000 → -1 ≤ d → d ≤ 1000000 → ∃ t, Ev (fun k => scansionref08_Nodes.f k n.f0 n.f1 n.f2 m d) t ∧ 1 ≤ t ∧ t ≤ m ∧ (t < m → (sizeN n : Int) ≤ t)
theorem nodes_l0 (m d a b : Int) (l : List S24) (hm : 1 ≤ m) (hm2 : m ≤ 1000000) (hd : -1 ≤ d) (hd2 : d ≤ 1000000) (hk : ∀ n ∈ l, Count n) : ∀ e i (x : Int), i + e = l.length → 1 ≤ x → (i : Int) ≤ x → x ≤ m →
    ∃ t, Ev (fun k => scansionref08_Nodes.l0 k m d x (i : Int) a b l) t ∧ 1 ≤ t ∧ t ≤ m ∧ (t < m → x + (sizeL (l.drop i) : Int) ≤ t)
  | 0, i, x, h, h1, hi, hx => by
    refine ⟨mn x m, Ev.step (f := fun _ => some (mn x m)) (fun k => ?_) (Ev.now _), ?_, ?_, ?_⟩
    · simp only [scansionref08_Nodes.l0]
      rw [if_neg (by omega)]
    · unfold mn; split <;> omega
    · unfold mn; split <;> omega
    · rw [List.drop_eq_nil_of_le (by omega), sizeL]
      unfold mn; split <;> omega
  | e + 1, i, x, h, h1, hi, hx => by
    have hl : i < l.length := by omega
    by_cases h2 : x ≥ m
    · refine ⟨m, Ev.step (f := fun _ => some m) (fun k => ?_) (Ev.now _), hm, Int.le_refl _, fun h => absurd h (by omega)⟩
      simp only [scansionref08_Nodes.l0]
      rw [if_pos (by omega), if_pos h2]
    · by_cases h3 : d ≤ 0
      · refine ⟨m, Ev.step (f := fun _ => some m) (fun k => ?_) (Ev.now _), hm, Int.le_refl _, fun h => absurd h (by omega)⟩
        simp only [scansionref08_Nodes.l0]
        rw [if_pos (by omega), if_neg h2, if_pos h3]
      · obtain ⟨t, ht, t1, t2, t3⟩ := hk l[i] (List.getElem_mem hl) (m - x) (d - 1) (by omega) (by omega) (by omega) (by omega)
        obtain ⟨u, hu, u1, u2, u3⟩ := nodes_l0 m d a b l hm hm2 hd hd2 hk e (i + 1) (x + t) (by omega) (by omega) (by omega) (by omega)
        refine ⟨u, Ev.step (f := fun k => (scansionref08_Nodes.f k l[i].f0 l[i].f1 l[i].f2 (m - x) (d - 1)).bind fun t152 => scansionref08_Nodes.l0 k m d (wrap64 (x + t152)) ((i + 1 : Nat) : Int) a b l) (fun k => ?_) (Ev.bind ht ?_), u1, u2, ?_⟩
        · simp only [scansionref08_Nodes.l0]
          rw [if_pos (by omega), if_neg h2, if_neg h3, if_pos (by omega), rdT hl, wrap_nat (n := 1000000) (by omega) (by omega), wrap64_id (x := m - x) (by omega) (by omega), wrap64_id (x := d - 1) (by omega) (by omega)]
        · rw [wrap64_id (x := x + t) (by omega) (by omega)]; exact hu
        · intro h
          have q := u3 h
          rw [List.drop_eq_getElem_cons hl, sizeL]
          have : t < m - x ∨ t = m - x := by omega
          rcases this with h7 | h7
          · have := t3 h7; omega
          · omega
theorem count_node (n : S24) (hk : ∀ c ∈ n.f2, Count c) : Count n := fun m d h1 h2 h3 h4 => by
    obtain ⟨t, ht, t1, t2, t3⟩ := nodes_l0 m d n.f0 n.f1 n.f2 h1 h2 h3 h4 hk n.f2.length 0 1 (by omega) (by omega) (by omega) h1
    refine ⟨t, Ev.step (f := fun k => scansionref08_Nodes.l0 k m d 1 ((0 : Nat) : Int) n.f0 n.f1 n.f2) (fun k => ?_) ht, t1, t2, fun h => ?_⟩
    · rw [scansionref08_Nodes.f]; rfl
    · have := t3 h
      rw [List.drop_zero] at this
      rw [sizeN_eq]
      omega
mutual
theorem count_all : ∀ n : S24, Count n
  | ⟨kd, st, ks⟩ => count_node ⟨kd, st, ks⟩ (count_rows ks)
theorem count_rows : ∀ ks : List S24, ∀ n ∈ ks, Count n
  | [] => fun n h => by cases h
  | k :: ks => fun n h => (List.mem_cons.1 h).elim (fun e => e ▸ count_all k) (count_rows ks n)
end
end Go.Proofs.Ytkoofldididpgaa.NP

end
section
namespace Go.Proofs.Ytkoofldididpgaa.NP
open Go Go.RowKit Go.Proofs.YtkoofldididpgaaW.PrintWords Go.Proofs.YtkoofldididpgaaW.PrintLast Go.Proofs.YtkoofldididpgaaW.PrintMore
open Go.Proofs.Ytkoofldididpgaa.NM Go.Proofs.Ytkoofldididpgaa.XB Go.Proofs.Ytkoofldididpgaa.FM Go.Proofs.Ytkoofldididpgaa.BM Go.Proofs.Ytkoofldididpgaa.NB
set_option linter.unusedVariables false
set_option linter.unusedSimpArgs false
structure Short (r : AutoT) : Prop where
  l1 : r.2.1.length ≤ 300
  l2 : r.2.2.1.length ≤ 300
  l3 : r.2.2.2.1.length ≤ 300
  l4 : r.2.2.2.2.1.length ≤ 300
  l5 : ∀ q ∈ r.2.2.2.2.1, q.length ≤ 300
theorem sok0 : SOk ⟨[], []⟩ := ⟨rfl, fun r h => by cases h⟩
theorem build_short (n : S24) (h : cntN n < 4611686018427387904) : ∃ r, buildF n = some r ∧ Short r := by
  have hs : ∀ i, Short (false, [], [], [], [], i) := fun i => ⟨by simp, by simp, by simp, by simp, by simp⟩
  unfold buildF
  rw [if_pos h]
  by_cases h1 : rightN n = true
  · rw [if_pos h1]
    by_cases h2 : cntN n ≤ 300
    · rw [if_pos h2]
      obtain ⟨h3, h4, h5⟩ := bldN_ok n ⟨[], []⟩ h1 sok0
      simp only [List.length_nil, Nat.zero_add] at h4 h5
      refine ⟨_, rfl, ?_, ?_, ?_, ?_, ?_⟩
      · show (bldN n ⟨[], []⟩).2.sets.length ≤ 300; omega
      · have := h4.first.len; show (bldN n ⟨[], []⟩).1.first.length ≤ 300; omega
      · have := h4.last.len; show (bldN n ⟨[], []⟩).1.last.length ≤ 300; omega
      · have := h3.len; show (bldN n ⟨[], []⟩).2.follow.length ≤ 300; omega
      · intro q hq
        have := (h3.rows q hq).len
        omega
    · rw [if_neg h2]; exact ⟨_, rfl, hs _⟩
  · rw [if_neg h1]; exact ⟨_, rfl, hs _⟩
theorem eta_f {n : S24} {r : AutoT} (h : buildF n = some r) : buildF ⟨n.f0, n.f1, n.f2⟩ = some r := by cases n; exact h
end Go.Proofs.Ytkoofldididpgaa.NP

end
section
namespace Go.Proofs.Ytkoofldididpgaa.GM
open Go Go.Proofs.Ytkoofldididpgaa.NW Go.Proofs.Ytkoofldididpgaa.FM Go.Proofs.Ytkoofldididpgaa.XB Go.Proofs.Ytkoofldididpgaa.NM Go.Proofs.Ytkoofldididpgaa.BM
set_option linter.unusedVariables false
set_option linter.unusedSectionVars false
inductive Star (R : Nat → Nat → Prop) : Nat → Nat → Prop
  | nil (i : Nat) : Star R i i
  | cons {i k j : Nat} : R i k → Star R k j → Star R i j
theorem Star.one {R : Nat → Nat → Prop} {i j : Nat} (h : R i j) : Star R i j := .cons h (.nil j)
theorem Star.trans {R : Nat → Nat → Prop} {i k j : Nat} (h : Star R i k) (g : Star R k j) : Star R i j := by
  induction h with
  | nil i => exact g
  | cons h1 _ ih => exact .cons h1 (ih g)
theorem Star.imp {R S : Nat → Nat → Prop} (hRS : ∀ a b, R a b → S a b) {i j : Nat} (h : Star R i j) : Star S i j := by
  induction h with
  | nil i => exact .nil i
  | cons h1 _ ih => exact .cons (hRS _ _ h1) ih
theorem Star.congr {R S : Nat → Nat → Prop} (hRS : ∀ a b, R a b ↔ S a b) {i j : Nat} : Star R i j ↔ Star S i j :=
  ⟨Star.imp (fun a b => (hRS a b).1), Star.imp (fun a b => (hRS a b).2)⟩
mutual
def WN (hit : Int → Nat → Prop) : S24 → Nat → Nat → Prop
  | ⟨kd, st, ks⟩, i, j =>
    if kd = 1 then hit st i ∧ j = i + 1
    else if kd = 0 then WC hit ks i j
    else if kd = 2 then WA hit ks i j
    else if kd = 5 then i = j ∨ WO hit ks i j
    else if kd = 3 then Star (fun a b => WO hit ks a b) i j
    else ∃ m, WO hit ks i m ∧ Star (fun a b => WO hit ks a b) m j
def WC (hit : Int → Nat → Prop) : List S24 → Nat → Nat → Prop
  | [], i, j => i = j
  | n :: ks, i, j => ∃ m, WN hit n i m ∧ WC hit ks m j
def WA (hit : Int → Nat → Prop) : List S24 → Nat → Nat → Prop
  | [], _, _ => False
  | n :: ks, i, j => WN hit n i j ∨ WA hit ks i j
def WO (hit : Int → Nat → Prop) : List S24 → Nat → Nat → Prop
  | [], _, _ => False
  | n :: _, i, j => WN hit n i j
end
section
variable {hit : Int → Nat → Prop}
def okp (hit : Int → Nat → Prop) (s : St) (p : Int) (i : Nat) : Prop := hit (s.sets.getD (p - 1).toNat 0) i
def row (s : St) (p : Int) : List Int := s.follow.getD (p - 1).toNat []
inductive Path (hit : Int → Nat → Prop) (s : St) : Int → Int → Nat → Nat → Prop
  | one {p : Int} {i : Nat} : okp hit s p i → Path hit s p p i (i + 1)
  | step {p r q : Int} {i j : Nat} : okp hit s p i → r ∈ row s p → Path hit s r q (i + 1) j → Path hit s p q i j
theorem Path.append {s : St} {p l f q : Int} {i k j : Nat} (h : Path hit s p l i k) (hf : f ∈ row s l) (g : Path hit s f q k j) : Path hit s p q i j := by
  induction h with
  | one h => exact .step h hf g
  | step h hr _ ih => exact .step h hr (ih hf g)
theorem Path.snoc {s : St} {p l f : Int} {i k : Nat} (h : Path hit s p l i k) (hf : f ∈ row s l) (g : okp hit s f k) : Path hit s p f i (k + 1) := h.append hf (.one g)
theorem Path.stay {s : St} {S : Int → Prop} (hc : ∀ p, S p → ∀ r ∈ row s p, S r) {p q : Int} {i j : Nat} (h : Path hit s p q i j) (hp : S p) : S q := by
  induction h with
  | one h => exact hp
  | step h hr _ ih => exact ih (hc _ hp _ hr)
theorem Path.move {s s' : St} {S : Int → Prop} (hc : ∀ p, S p → (∀ i, okp hit s p i → okp hit s' p i) ∧ (∀ r ∈ row s p, r ∈ row s' p ∧ S r)) {p q : Int} {i j : Nat} (h : Path hit s p q i j) (hp : S p) : Path hit s' p q i j := by
  induction h with
  | one h => exact .one ((hc _ hp).1 _ h)
  | step h hr _ ih => exact .step ((hc _ hp).1 _ h) ((hc _ hp).2 _ hr).1 (ih ((hc _ hp).2 _ hr).2)
def Acc (hit : Int → Nat → Prop) (e : BM.Edge) (s : St) (i j : Nat) : Prop := (e.null = true ∧ i = j) ∨ ∃ p q, p ∈ e.first ∧ q ∈ e.last ∧ Path hit s p q i j
structure Ext (s s' : St) : Prop where
  sets : ∀ p : Int, 1 ≤ p → p ≤ s.sets.length → s'.sets.getD (p - 1).toNat 0 = s.sets.getD (p - 1).toNat 0
  rows : ∀ p : Int, 1 ≤ p → p ≤ s.sets.length → row s' p = row s p
  news : ∀ p : Int, (s.sets.length : Int) < p → p ≤ s'.sets.length → ∀ r ∈ row s' p, (s.sets.length : Int) < r ∧ r ≤ s'.sets.length
  le : s.sets.length ≤ s'.sets.length
def Seg (s s' : St) (p : Int) : Prop := (s.sets.length : Int) < p ∧ p ≤ s'.sets.length
structure EIn (s s' : St) (e : BM.Edge) : Prop where
  first : ∀ p ∈ e.first, Seg s s' p
  last : ∀ p ∈ e.last, Seg s s' p
theorem Ext.refl (s : St) : Ext s s := ⟨fun _ _ _ => rfl, fun _ _ _ => rfl, fun p h1 h2 => by omega, Nat.le_refl _⟩
theorem Ext.trans {s s1 s2 : St} (h : Ext s s1) (g : Ext s1 s2) : Ext s s2 := by
  have := h.le
  have := g.le
  refine ⟨fun p h1 h2 => (g.sets p h1 (by omega)).trans (h.sets p h1 h2), fun p h1 h2 => (g.rows p h1 (by omega)).trans (h.rows p h1 h2), fun p h1 h2 r hr => ?_, by omega⟩
  by_cases hp : p ≤ s1.sets.length
  · rw [g.rows p (by omega) hp] at hr
    have := h.news p h1 hp r hr
    omega
  · have := g.news p (by omega) h2 r hr
    omega
theorem EIn.mono {s s1 s2 : St} {e : BM.Edge} (h : EIn s s1 e) (g : Ext s1 s2) : EIn s s2 e := by
  have := g.le
  exact ⟨fun p hp => ⟨(h.first p hp).1, by have := (h.first p hp).2; omega⟩, fun p hp => ⟨(h.last p hp).1, by have := (h.last p hp).2; omega⟩⟩
theorem EIn.nil (b : Bool) (s s' : St) : EIn s s' ⟨b, [], []⟩ := ⟨fun p hp => (by cases hp), fun p hp => (by cases hp)⟩
theorem Ext.path {s s1 s2 : St} (h : Ext s s1) (g : Ext s1 s2) {p q : Int} {i j : Nat} (hp : Seg s s1 p) : Path hit s2 p q i j ↔ Path hit s1 p q i j := by
  have key : ∀ p, Seg s s1 p → s2.sets.getD (p - 1).toNat 0 = s1.sets.getD (p - 1).toNat 0 ∧ row s2 p = row s1 p ∧ ∀ r ∈ row s1 p, Seg s s1 r := fun p hp => by
    unfold Seg at hp
    exact ⟨g.sets p (by omega) hp.2, g.rows p (by omega) hp.2, fun r hr => h.news p hp.1 hp.2 r hr⟩
  constructor
  · intro hh
    refine hh.move (S := Seg s s1) (fun p hp => ?_) hp
    obtain ⟨h1, h2, h3⟩ := key p hp
    exact ⟨fun i hi => by unfold okp at hi ⊢; rwa [h1] at hi, fun r hr => by rw [h2] at hr; exact ⟨hr, h3 r hr⟩⟩
  · intro hh
    refine hh.move (S := Seg s s1) (fun p hp => ?_) hp
    obtain ⟨h1, h2, h3⟩ := key p hp
    exact ⟨fun i hi => by unfold okp at hi ⊢; rwa [h1], fun r hr => ⟨by rw [h2]; exact hr, h3 r hr⟩⟩
theorem Path.in_seg {s s1 : St} (h : Ext s s1) {p q : Int} {i j : Nat} (hh : Path hit s1 p q i j) (hp : Seg s s1 p) : Seg s s1 q :=
  hh.stay (fun p hp r hr => h.news p hp.1 hp.2 r hr) hp
theorem mem_put1 {fo : List (List Int)} {i : Int} {first : List Int} (hi : 1 ≤ i) (hil : i ≤ fo.length) (p r : Int) (hp : 1 ≤ p) :
    r ∈ (put1 fo i first).getD (p - 1).toNat [] ↔ r ∈ fo.getD (p - 1).toNat [] ∨ (p = i ∧ r ∈ first) := by
  unfold put1
  rw [List.getD_eq_getElem?_getD, List.getElem?_set]
  by_cases he : (i - 1).toNat = (p - 1).toNat
  · have : p = i := by omega
    subst this
    rw [if_pos rfl, if_pos (by omega)]
    simp only [Option.getD_some]
    rw [mem_fin, List.mem_append]
    simp
  · have : ¬ p = i := by omega
    rw [if_neg he, ← List.getD_eq_getElem?_getD]
    simp [this]
theorem mem_after {first : List Int} (p r : Int) (hp : 1 ≤ p) : ∀ (is : List Int) (fo : List (List Int)), (∀ i ∈ is, 1 ≤ i ∧ i ≤ fo.length) →
    (r ∈ (after fo is first).getD (p - 1).toNat [] ↔ r ∈ fo.getD (p - 1).toNat [] ∨ (p ∈ is ∧ r ∈ first))
  | [], fo, _ => by simp [after]
  | i :: is, fo, h => by
    have h1 := h i List.mem_cons_self
    rw [after, mem_after p r hp is _ (fun j hj => by rw [put1_len]; exact h j (List.mem_cons_of_mem _ hj)), mem_put1 h1.1 h1.2 p r hp, List.mem_cons]
    constructor
    · rintro ((h2 | ⟨rfl, h2⟩) | ⟨h2, h3⟩)
      · exact .inl h2
      · exact .inr ⟨.inl rfl, h2⟩
      · exact .inr ⟨.inr h2, h3⟩
    · rintro (h2 | ⟨rfl | h2, h3⟩)
      · exact .inl (.inl h2)
      · exact .inl (.inr ⟨rfl, h3⟩)
      · exact .inr ⟨h2, h3⟩
theorem put1_other {fo : List (List Int)} {i : Int} {first : List Int} {p : Int} (hp : 1 ≤ p) (hi : 1 ≤ i) (h : p ≠ i) : (put1 fo i first).getD (p - 1).toNat [] = fo.getD (p - 1).toNat [] := by
  unfold put1
  rw [List.getD_eq_getElem?_getD, List.getElem?_set, if_neg (by omega), ← List.getD_eq_getElem?_getD]
theorem after_other {first : List Int} {p : Int} (hp : 1 ≤ p) : ∀ (is : List Int) (fo : List (List Int)), (∀ i ∈ is, 1 ≤ i) → p ∉ is → (after fo is first).getD (p - 1).toNat [] = fo.getD (p - 1).toNat []
  | [], _, _, _ => rfl
  | i :: is, fo, h, hn => by
    rw [after, after_other hp is _ (fun j hj => h j (List.mem_cons_of_mem _ hj)) (fun hh => hn (List.mem_cons_of_mem _ hh)), put1_other hp (h i List.mem_cons_self) (fun e => hn (by rw [e]; exact List.mem_cons_self))]
theorem thenE_first (x y : BM.Edge) (p : Int) : p ∈ (thenE x y).first ↔ p ∈ x.first ∨ (x.null = true ∧ p ∈ y.first) := by
  unfold thenE
  dsimp only
  split
  · rename_i h
    rw [mem_fin, List.mem_append]; simp [h]
  · rename_i h
    simp [h]
theorem thenE_last (x y : BM.Edge) (p : Int) : p ∈ (thenE x y).last ↔ p ∈ y.last ∨ (y.null = true ∧ p ∈ x.last) := by
  unfold thenE
  dsimp only
  split
  · rename_i h
    rw [mem_fin, List.mem_append]; simp [h, or_comm]
  · rename_i h
    simp [h]
theorem then_ext {s0 s s1 : St} {e x : BM.Edge} (h0 : Ext s0 s) (h1 : Ext s s1) (he : EIn s0 s e) (hx : EIn s s1 x) (hs1 : SOk s1) :
    Ext s0 ⟨s1.sets, after s1.follow e.last x.first⟩ := by
  have l0 := h0.le
  have l1 := h1.le
  have hb : ∀ i ∈ e.last, 1 ≤ i ∧ i ≤ s1.follow.length := fun i hi => by
    have := he.last i hi
    unfold Seg at this
    rw [← hs1.len]; omega
  have h01 := h0.trans h1
  refine ⟨h01.sets, fun p hp1 hp2 => ?_, fun p hp1 hp2 r hr => ?_, h01.le⟩
  · unfold row
    dsimp only
    rw [after_other hp1 _ _ (fun i hi => (hb i hi).1) (fun hh => by have := (he.last p hh).1; omega)]
    exact h01.rows p hp1 hp2
  · unfold row at hr
    dsimp only at hr hp2
    rw [mem_after p r (by omega) _ _ hb] at hr
    rcases hr with hr | ⟨hr1, hr2⟩
    · exact h01.news p hp1 hp2 r hr
    · have := hx.first r hr2
      unfold Seg at this
      exact ⟨by omega, this.2⟩
theorem then_in {s0 s s1 : St} {e x : BM.Edge} {fo : List (List Int)} (h0 : Ext s0 s) (h1 : Ext s s1) (he : EIn s0 s e) (hx : EIn s s1 x) : EIn s0 ⟨s1.sets, fo⟩ (thenE e x) := by
  have l0 := h0.le
  have l1 := h1.le
  refine ⟨fun p hp => ?_, fun p hp => ?_⟩
  · rcases (thenE_first _ _ _).1 hp with h | ⟨_, h⟩
    · have := he.first p h; unfold Seg at this ⊢; dsimp only; omega
    · have := hx.first p h; unfold Seg at this ⊢; dsimp only; omega
  · rcases (thenE_last _ _ _).1 hp with h | ⟨_, h⟩
    · have := hx.last p h; unfold Seg at this ⊢; dsimp only; omega
    · have := he.last p h; unfold Seg at this ⊢; dsimp only; omega
section
variable {s0 s s1 : St} {e x : BM.Edge} (h0 : Ext s0 s) (h1 : Ext s s1) (he : EIn s0 s e) (hx : EIn s s1 x) (hs1 : SOk s1)
include h0 h1 he hx hs1
theorem then_row (p r : Int) (hp : 1 ≤ p) : r ∈ row ⟨s1.sets, after s1.follow e.last x.first⟩ p ↔ r ∈ row s1 p ∨ (p ∈ e.last ∧ r ∈ x.first) := by
  have l1 := h1.le
  refine mem_after p r hp _ _ (fun i hi => ?_)
  have := he.last i hi
  unfold Seg at this
  rw [← hs1.len]; omega
theorem then_right {p q : Int} {i j : Nat} (hp : Seg s s1 p) : Path hit ⟨s1.sets, after s1.follow e.last x.first⟩ p q i j ↔ Path hit s1 p q i j := by
  constructor
  · intro hh
    refine Path.move (s := ⟨s1.sets, after s1.follow e.last x.first⟩) (s' := s1) (S := Seg s s1) (fun p hp => ⟨fun i hi => hi, fun r hr => ?_⟩) hh hp
    rcases (then_row h0 h1 he hx hs1 p r (by have := hp.1; omega)).1 hr with hr | ⟨hr, _⟩
    · exact ⟨hr, h1.news p hp.1 hp.2 r hr⟩
    · have := (he.last p hr).2; have := hp.1; omega
  · intro hh
    refine Path.move (s := s1) (s' := ⟨s1.sets, after s1.follow e.last x.first⟩) (S := Seg s s1) (fun p hp => ⟨fun i hi => hi, fun r hr => ⟨?_, h1.news p hp.1 hp.2 r hr⟩⟩) hh hp
    exact (then_row h0 h1 he hx hs1 p r (by have := hp.1; omega)).2 (.inl hr)
theorem then_up {p q : Int} {i j : Nat} (hp : Seg s0 s p) (h : Path hit s p q i j) : Path hit ⟨s1.sets, after s1.follow e.last x.first⟩ p q i j := by
  refine Path.move (s := s1) (s' := ⟨s1.sets, after s1.follow e.last x.first⟩) (S := Seg s0 s) (fun p hp => ⟨fun i hi => hi, fun r hr => ⟨(then_row h0 h1 he hx hs1 p r (by have := hp.1; omega)).2 (.inl hr), ?_⟩⟩) ((h0.path h1 hp).2 h) hp
  rw [h1.rows p (by have := hp.1; omega) hp.2] at hr
  exact h0.news p hp.1 hp.2 r hr
theorem then_left {p q : Int} {i j : Nat} (hp : Seg s0 s p) (h : Path hit ⟨s1.sets, after s1.follow e.last x.first⟩ p q i j) :
    (Seg s0 s q ∧ Path hit s p q i j) ∨ (Seg s s1 q ∧ ∃ l f k, l ∈ e.last ∧ f ∈ x.first ∧ Path hit s p l i k ∧ Path hit s1 f q k j) := by
  have hok : ∀ p i, Seg s0 s p → okp hit ⟨s1.sets, after s1.follow e.last x.first⟩ p i → okp hit s p i := fun p i hp hi => by
    unfold okp at hi ⊢
    dsimp only at hi
    rwa [h1.sets p (by have := hp.1; omega) hp.2] at hi
  induction h with
  | one h => exact .inl ⟨hp, .one (hok _ _ hp h)⟩
  | @step p r q i j h hr g ih =>
    rcases (then_row h0 h1 he hx hs1 p r (by have := hp.1; omega)).1 hr with hr | ⟨hr, hf⟩
    · rw [h1.rows p (by have := hp.1; omega) hp.2] at hr
      have hr2 : Seg s0 s r := h0.news p hp.1 hp.2 r hr
      rcases ih hr2 with ⟨h2, h3⟩ | ⟨h2, l, f, k, hl, hf, h3, h4⟩
      · exact .inl ⟨h2, .step (hok _ _ hp h) hr h3⟩
      · exact .inr ⟨h2, l, f, k, hl, hf, .step (hok _ _ hp h) hr h3, h4⟩
    · have g1 := (then_right h0 h1 he hx hs1 (hx.first r hf)).1 g
      exact .inr ⟨g1.in_seg h1 (hx.first r hf), p, r, i + 1, hr, hf, .one (hok _ _ hp h), g1⟩
theorem then_acc (i j : Nat) : Acc hit (thenE e x) ⟨s1.sets, after s1.follow e.last x.first⟩ i j ↔ ∃ k, Acc hit e s i k ∧ Acc hit x s1 k j := by
  have hn : (thenE e x).null = true ↔ e.null = true ∧ x.null = true := by unfold thenE; simp
  constructor
  · rintro (⟨h, rfl⟩ | ⟨p, q, hp, hq, h⟩)
    · rw [hn] at h
      exact ⟨i, .inl ⟨h.1, rfl⟩, .inl ⟨h.2, rfl⟩⟩
    · rcases (thenE_first _ _ _).1 hp with hp | ⟨he1, hp⟩
      · rcases then_left h0 h1 he hx hs1 (he.first p hp) h with ⟨h2, h3⟩ | ⟨h2, l, f, k, hl, hf, h3, h4⟩
        · rcases (thenE_last _ _ _).1 hq with hq | ⟨hx1, hq⟩
          · have := (hx.last q hq).1; have := h2.2; omega
          · exact ⟨j, .inr ⟨p, q, hp, hq, h3⟩, .inl ⟨hx1, rfl⟩⟩
        · rcases (thenE_last _ _ _).1 hq with hq | ⟨hx1, hq⟩
          · exact ⟨k, .inr ⟨p, l, hp, hl, h3⟩, .inr ⟨f, q, hf, hq, h4⟩⟩
          · have := (he.last q hq).2; have := h2.1; omega
      · have h2 := (then_right h0 h1 he hx hs1 (hx.first p hp)).1 h
        rcases (thenE_last _ _ _).1 hq with hq | ⟨hx1, hq⟩
        · exact ⟨i, .inl ⟨he1, rfl⟩, .inr ⟨p, q, hp, hq, h2⟩⟩
        · have := h2.in_seg h1 (hx.first p hp)
          have := this.1; have := (he.last q hq).2; omega
  · rintro ⟨k, ⟨he1, rfl⟩ | ⟨p, l, hp, hl, h2⟩, ⟨hx1, rfl⟩ | ⟨f, q, hf, hq, h3⟩⟩
    · exact .inl ⟨hn.2 ⟨he1, hx1⟩, rfl⟩
    · exact .inr ⟨f, q, (thenE_first _ _ _).2 (.inr ⟨he1, hf⟩), (thenE_last _ _ _).2 (.inl hq), (then_right h0 h1 he hx hs1 (hx.first f hf)).2 h3⟩
    · exact .inr ⟨p, l, (thenE_first _ _ _).2 (.inl hp), (thenE_last _ _ _).2 (.inr ⟨hx1, hl⟩), then_up h0 h1 he hx hs1 (he.first p hp) h2⟩
    · refine .inr ⟨p, q, (thenE_first _ _ _).2 (.inl hp), (thenE_last _ _ _).2 (.inl hq), (then_up h0 h1 he hx hs1 (he.first p hp) h2).append ((then_row h0 h1 he hx hs1 l f ?_).2 (.inr ⟨hl, hf⟩)) ((then_right h0 h1 he hx hs1 (hx.first f hf)).2 h3)⟩
      have := (he.last l hl).1; omega
theorem or_in : EIn s0 s1 (orE e x) := by
  have l0 := h0.le
  have l1 := h1.le
  unfold orE
  refine ⟨fun p hp => ?_, fun p hp => ?_⟩
  · rcases List.mem_append.1 ((mem_fin _ _).1 hp) with h | h
    · have := he.first p h; unfold Seg at this ⊢; omega
    · have := hx.first p h; unfold Seg at this ⊢; omega
  · rcases List.mem_append.1 ((mem_fin _ _).1 hp) with h | h
    · have := he.last p h; unfold Seg at this ⊢; omega
    · have := hx.last p h; unfold Seg at this ⊢; omega
theorem or_acc (i j : Nat) : Acc hit (orE e x) s1 i j ↔ Acc hit e s i j ∨ Acc hit x s1 i j := by
  unfold Acc orE
  dsimp only
  constructor
  · rintro (⟨h, rfl⟩ | ⟨p, q, hp, hq, h⟩)
    · rcases (Bool.or_eq_true _ _).mp h with h | h
      · exact .inl (.inl ⟨h, rfl⟩)
      · exact .inr (.inl ⟨h, rfl⟩)
    · rcases List.mem_append.1 ((mem_fin _ _).1 hp) with hp | hp
      · have h2 := (h0.path h1 (he.first p hp)).1 h
        have h3 := h2.in_seg h0 (he.first p hp)
        rcases List.mem_append.1 ((mem_fin _ _).1 hq) with hq | hq
        · exact .inl (.inr ⟨p, q, hp, hq, h2⟩)
        · have := (hx.last q hq).1; have := h3.2; omega
      · have h3 := h.in_seg h1 (hx.first p hp)
        rcases List.mem_append.1 ((mem_fin _ _).1 hq) with hq | hq
        · have := (he.last q hq).2; have := h3.1; omega
        · exact .inr (.inr ⟨p, q, hp, hq, h⟩)
  · rintro ((⟨h, rfl⟩ | ⟨p, q, hp, hq, h⟩) | (⟨h, rfl⟩ | ⟨p, q, hp, hq, h⟩))
    · exact .inl ⟨by rw [h]; rfl, rfl⟩
    · exact .inr ⟨p, q, (mem_fin _ _).2 (List.mem_append_left _ hp), (mem_fin _ _).2 (List.mem_append_left _ hq), (h0.path h1 (he.first p hp)).2 h⟩
    · exact .inl ⟨by rw [h, Bool.or_true], rfl⟩
    · exact .inr ⟨p, q, (mem_fin _ _).2 (List.mem_append_right _ hp), (mem_fin _ _).2 (List.mem_append_right _ hq), h⟩
end
section
variable {s s1 : St} {x : BM.Edge} (h1 : Ext s s1) (hx : EIn s s1 x) (hs1 : SOk s1)
include h1 hx hs1
theorem loop_row (p r : Int) (hp : 1 ≤ p) : r ∈ row ⟨s1.sets, after s1.follow x.last x.first⟩ p ↔ r ∈ row s1 p ∨ (p ∈ x.last ∧ r ∈ x.first) := by
  refine mem_after p r hp _ _ (fun i hi => ?_)
  have := hx.last i hi
  unfold Seg at this
  rw [← hs1.len]; omega
theorem loop_ext : Ext s ⟨s1.sets, after s1.follow x.last x.first⟩ := by
  refine ⟨h1.sets, fun p hp1 hp2 => ?_, fun p hp1 hp2 r hr => ?_, h1.le⟩
  · unfold row
    dsimp only
    rw [after_other hp1 _ _ (fun i hi => by have := (hx.last i hi).1; omega) (fun hh => by have := (hx.last p hh).1; omega)]
    exact h1.rows p hp1 hp2
  · rcases (loop_row h1 hx hs1 p r (by omega)).1 hr with hr | ⟨_, hr⟩
    · exact h1.news p hp1 hp2 r hr
    · exact hx.first r hr
theorem loop_up {p q : Int} {i j : Nat} (hp : Seg s s1 p) (h : Path hit s1 p q i j) : Path hit ⟨s1.sets, after s1.follow x.last x.first⟩ p q i j :=
  Path.move (s := s1) (s' := ⟨s1.sets, after s1.follow x.last x.first⟩) (S := Seg s s1) (fun p hp => ⟨fun i hi => hi, fun r hr => ⟨(loop_row h1 hx hs1 p r (by have := hp.1; omega)).2 (.inl hr), h1.news p hp.1 hp.2 r hr⟩⟩) h hp
theorem loop_down {p q : Int} {i j : Nat} (hp : Seg s s1 p) (hq : q ∈ x.last) (h : Path hit ⟨s1.sets, after s1.follow x.last x.first⟩ p q i j) :
    ∃ k l, l ∈ x.last ∧ Path hit s1 p l i k ∧ Star (Acc hit x s1) k j := by
  induction h with
  | @one p i h => exact ⟨i + 1, p, hq, .one h, .nil _⟩
  | @step p r q i j h hr g ih =>
    rcases (loop_row h1 hx hs1 p r (by have := hp.1; omega)).1 hr with hr | ⟨hl, hf⟩
    · obtain ⟨k, l, hl, h2, h3⟩ := ih (h1.news p hp.1 hp.2 r hr) hq
      exact ⟨k, l, hl, .step h hr h2, h3⟩
    · obtain ⟨k, l, hl2, h2, h3⟩ := ih (hx.first r hf) hq
      exact ⟨i + 1, p, hl, .one h, .cons (.inr ⟨r, l, hf, hl2, h2⟩) h3⟩
theorem loop_star (i j : Nat) : Star (Acc hit x s1) i j ↔ i = j ∨ ∃ p q, p ∈ x.first ∧ q ∈ x.last ∧ Path hit ⟨s1.sets, after s1.follow x.last x.first⟩ p q i j := by
  constructor
  · intro h
    induction h with
    | nil i => exact .inl rfl
    | @cons i k j h g ih =>
      rcases h with ⟨_, rfl⟩ | ⟨p, l, hp, hl, h⟩
      · exact ih
      · have h2 := loop_up h1 hx hs1 (hx.first p hp) h
        rcases ih with rfl | ⟨f, q, hf, hq, g⟩
        · exact .inr ⟨p, l, hp, hl, h2⟩
        · exact .inr ⟨p, q, hp, hq, h2.append ((loop_row h1 hx hs1 l f (by have := (hx.last l hl).1; omega)).2 (.inr ⟨hl, hf⟩)) g⟩
  · rintro (rfl | ⟨p, q, hp, hq, h⟩)
    · exact .nil _
    · obtain ⟨k, l, hl, h2, h3⟩ := loop_down h1 hx hs1 (hx.first p hp) hq h
      exact .cons (.inr ⟨p, l, hp, hl, h2⟩) h3
theorem loop_plus (i j : Nat) : Acc hit x ⟨s1.sets, after s1.follow x.last x.first⟩ i j ↔ ∃ m, Acc hit x s1 i m ∧ Star (Acc hit x s1) m j := by
  constructor
  · rintro (⟨h, rfl⟩ | ⟨p, q, hp, hq, h⟩)
    · exact ⟨i, .inl ⟨h, rfl⟩, .nil _⟩
    · obtain ⟨k, l, hl, h2, h3⟩ := loop_down h1 hx hs1 (hx.first p hp) hq h
      exact ⟨k, .inr ⟨p, l, hp, hl, h2⟩, h3⟩
  · rintro ⟨m, h, g⟩
    rcases h with ⟨hn, rfl⟩ | ⟨p, l, hp, hl, h⟩
    · rcases (loop_star h1 hx hs1 _ _).1 g with rfl | h
      · exact .inl ⟨hn, rfl⟩
      · exact .inr h
    · rcases (loop_star h1 hx hs1 _ _).1 (.cons (.inr ⟨p, l, hp, hl, h⟩) g) with rfl | h2
      · have h2 := loop_up h1 hx hs1 (hx.first p hp) h
        rcases (loop_star h1 hx hs1 _ _).1 g with rfl | ⟨f, q, hf, hq, g⟩
        · exact .inr ⟨p, l, hp, hl, h2⟩
        · exact .inr ⟨p, q, hp, hq, h2.append ((loop_row h1 hx hs1 l f (by have := (hx.last l hl).1; omega)).2 (.inr ⟨hl, hf⟩)) g⟩
      · exact .inr h2
end
theorem acc_null {e : BM.Edge} {s : St} {b : Bool} (i j : Nat) (hb : e.null = true → b = true) : Acc hit ⟨b, e.first, e.last⟩ s i j ↔ (b = true ∧ i = j) ∨ Acc hit e s i j := by
  unfold Acc
  dsimp only
  constructor
  · rintro (h | h)
    · exact .inl h
    · exact .inr (.inr h)
  · rintro (h | (h | h))
    · exact .inl h
    · exact .inl ⟨hb h.1, h.2⟩
    · exact .inr h
def Fits (hit : Int → Nat → Prop) (s : St) (r : BM.Edge × St) (L : Nat → Nat → Prop) : Prop := Ext s r.2 ∧ EIn s r.2 r.1 ∧ ∀ i j, L i j ↔ Acc hit r.1 r.2 i j
mutual
theorem bldN_fits : ∀ (n : S24) (s : St), rightN n = true → SOk s → Fits hit s (bldN n s) (WN hit n)
  | ⟨kd, st, ks⟩, s, hr, hs => by
    rw [rightN, Bool.and_eq_true] at hr
    rw [bldN]
    unfold Fits
    simp only [WN]
    by_cases k1 : kd = 1
    · simp only [if_pos k1]
      have e1 : ∀ p : Int, 1 ≤ p → p ≤ s.sets.length → (s.sets ++ [st]).getD (p - 1).toNat 0 = s.sets.getD (p - 1).toNat 0 := fun p h1 h2 => by
        rw [List.getD_eq_getElem?_getD, List.getElem?_append_left (by omega), ← List.getD_eq_getElem?_getD]
      have e2 : ∀ p : Int, 1 ≤ p → p ≤ s.sets.length → (s.follow ++ [[]]).getD (p - 1).toNat [] = s.follow.getD (p - 1).toNat [] := fun p h1 h2 => by
        rw [List.getD_eq_getElem?_getD, List.getElem?_append_left (by have := hs.len; omega), ← List.getD_eq_getElem?_getD]
      have e3 : (s.sets ++ [st]).getD ((s.sets.length : Int) + 1 - 1).toNat 0 = st := by
        rw [show ((s.sets.length : Int) + 1 - 1).toNat = s.sets.length by omega]; simp [List.getD_eq_getElem?_getD]
      have e4 : row ⟨s.sets ++ [st], s.follow ++ [[]]⟩ ((s.sets.length : Int) + 1) = [] := by
        unfold row; dsimp only
        rw [show ((s.sets.length : Int) + 1 - 1).toNat = s.follow.length by have := hs.len; omega]; simp [List.getD_eq_getElem?_getD]
      refine ⟨⟨e1, e2, fun p h1 h2 r hr => ?_, by simp⟩, ⟨fun p hp => ?_, fun p hp => ?_⟩, fun i j => ?_⟩
      · simp at h2
        obtain rfl : p = (s.sets.length : Int) + 1 := by omega
        rw [e4] at hr; cases hr
      · simp at hp; subst hp; unfold Seg; simp; omega
      · simp at hp; subst hp; unfold Seg; simp; omega
      · unfold Acc
        constructor
        · rintro ⟨h, rfl⟩
          exact .inr ⟨_, _, List.mem_singleton.2 rfl, List.mem_singleton.2 rfl, .one (by unfold okp; dsimp only; rw [e3]; exact h)⟩
        · rintro (⟨h, _⟩ | ⟨p, q, hp, hq, h⟩)
          · cases h
          · rw [List.mem_singleton] at hp
            subst hp
            cases h with
            | one h => unfold okp at h; dsimp only at h; rw [e3] at h; exact ⟨h, rfl⟩
            | step h hr _ => rw [e4] at hr; cases hr
    simp only [if_neg k1]
    by_cases k0 : kd = 0
    · simp only [if_pos k0]
      have := catL_fits ks s ⟨true, [], []⟩ s hr.2 hs hs (Ext.refl s) (EIn.nil _ _ _) (EOk.nil _ _)
      refine ⟨this.1, this.2.1, fun i j => ?_⟩
      rw [this.2.2 i j]
      constructor
      · intro h; exact ⟨i, .inl ⟨rfl, rfl⟩, h⟩
      · rintro ⟨k, ⟨_, rfl⟩ | ⟨p, q, hp, _⟩, h⟩
        · exact h
        · cases hp
    simp only [if_neg k0]
    by_cases k2 : kd = 2
    · simp only [if_pos k2]
      have := altL_fits ks s ⟨false, [], []⟩ s hr.2 hs hs (Ext.refl s) (EIn.nil _ _ _) (EOk.nil _ _)
      refine ⟨this.1, this.2.1, fun i j => ?_⟩
      rw [this.2.2 i j]
      constructor
      · intro h; exact .inr h
      · rintro ((⟨h, _⟩ | ⟨p, q, hp, _⟩) | h)
        · cases h
        · cases hp
        · exact h
    simp only [if_neg k2]
    have hl : ks.length = 1 ∧ (kd = 3 ∨ kd = 4 ∨ kd = 5) := by
      have := hr.1
      unfold headOk at this
      rw [if_neg k1, if_neg k0, if_neg k2] at this
      by_cases h3 : kd = 3 ∨ kd = 4 ∨ kd = 5
      · rw [if_pos h3] at this; exact ⟨by simpa using this, h3⟩
      · rw [if_neg h3] at this; cases this
    match ks, hl, hr with
    | [n], ⟨_, hk⟩, hr =>
      have hrn : rightN n = true := by have := hr.2; rw [rightL, Bool.and_eq_true] at this; exact this.1
      obtain ⟨h1, h2, h3⟩ := bldN_fits n s hrn hs
      have hs1 := (bldN_ok n s hrn hs).1
      simp only [oneL, WO]
      generalize (bldN n s).1 = x at *
      generalize (bldN n s).2 = s1 at *
      rcases hk with rfl | rfl | rfl
      · simp only [if_neg (show ¬ (3 : Int) = 5 by omega), if_true, show (!((3 : Int) == 4)) = true from rfl, Bool.or_true]
        refine ⟨loop_ext h1 h2 hs1, ⟨h2.first, h2.last⟩, fun i j => ?_⟩
        rw [Star.congr (fun a b => h3 a b), loop_star h1 h2 hs1]
        unfold Acc
        simp
      · simp only [if_neg (show ¬ (4 : Int) = 5 by omega), if_neg (show ¬ (4 : Int) = 3 by omega), show (!((4 : Int) == 4)) = false from rfl, Bool.or_false]
        refine ⟨loop_ext h1 h2 hs1, ⟨h2.first, h2.last⟩, fun i j => ?_⟩
        refine Iff.trans ?_ (loop_plus h1 h2 hs1 i j).symm
        constructor
        · rintro ⟨m, h, g⟩; exact ⟨m, (h3 _ _).1 h, (Star.congr (fun a b => h3 a b)).1 g⟩
        · rintro ⟨m, h, g⟩; exact ⟨m, (h3 _ _).2 h, (Star.congr (fun a b => h3 a b)).2 g⟩
      · simp only [if_true, show (!((5 : Int) == 4)) = true from rfl, Bool.or_true]
        refine ⟨h1, ⟨h2.first, h2.last⟩, fun i j => ?_⟩
        rw [acc_null (e := x) i j (fun _ => rfl), h3 i j]
        simp
theorem catL_fits : ∀ (ks : List S24) (s0 : St) (e : BM.Edge) (s : St), rightL ks = true → SOk s0 → SOk s → Ext s0 s → EIn s0 s e → EOk s.sets.length e →
    Ext s0 (catL ks e s).2 ∧ EIn s0 (catL ks e s).2 (catL ks e s).1 ∧ ∀ i j, Acc hit (catL ks e s).1 (catL ks e s).2 i j ↔ ∃ k, Acc hit e s i k ∧ WC hit ks k j
  | [], s0, e, s, _, _, _, h0, he, _ => by
    simp only [catL, WC]
    exact ⟨h0, he, fun i j => ⟨fun h => ⟨j, h, rfl⟩, fun ⟨k, h, hk⟩ => hk ▸ h⟩⟩
  | n :: ks, s0, e, s, hr, hs0, hs, h0, he, ho => by
    rw [rightL, Bool.and_eq_true] at hr
    obtain ⟨h1, h2, h3⟩ := bldN_fits n s hr.1 hs
    obtain ⟨hs1, ho1, hl1⟩ := bldN_ok n s hr.1 hs
    have hs1' : SOk (bldN n s).2 := hs1
    simp only [catL, WC]
    generalize (bldN n s).1 = x at *
    generalize (bldN n s).2 = s1 at *
    have he2 := ho.mono (show s.sets.length ≤ s1.sets.length from h1.le)
    have hox : EOk s1.sets.length x := by rw [hl1]; exact ho1
    have := catL_fits ks s0 (thenE e x) ⟨s1.sets, after s1.follow e.last x.first⟩ hr.2 hs0
      ⟨by rw [after_len]; exact hs1'.len, fun r hr => after_ok hox.first _ _ hs1'.rows r hr⟩ (then_ext h0 h1 he h2 hs1') (then_in h0 h1 he h2) (thenE_ok he2 hox)
    refine ⟨this.1, this.2.1, fun i j => ?_⟩
    rw [this.2.2 i j]
    constructor
    · rintro ⟨k, h, g⟩
      obtain ⟨m, ha, hb⟩ := (then_acc h0 h1 he h2 hs1' i k).1 h
      exact ⟨m, ha, k, (h3 m k).2 hb, g⟩
    · rintro ⟨m, ha, k, hb, g⟩
      exact ⟨k, (then_acc h0 h1 he h2 hs1' i k).2 ⟨m, ha, (h3 m k).1 hb⟩, g⟩
theorem altL_fits : ∀ (ks : List S24) (s0 : St) (e : BM.Edge) (s : St), rightL ks = true → SOk s0 → SOk s → Ext s0 s → EIn s0 s e → EOk s.sets.length e →
    Ext s0 (altL ks e s).2 ∧ EIn s0 (altL ks e s).2 (altL ks e s).1 ∧ ∀ i j, Acc hit (altL ks e s).1 (altL ks e s).2 i j ↔ Acc hit e s i j ∨ WA hit ks i j
  | [], s0, e, s, _, _, _, h0, he, _ => by
    simp only [altL, WA]
    exact ⟨h0, he, fun i j => by simp⟩
  | n :: ks, s0, e, s, hr, hs0, hs, h0, he, ho => by
    rw [rightL, Bool.and_eq_true] at hr
    obtain ⟨h1, h2, h3⟩ := bldN_fits n s hr.1 hs
    obtain ⟨hs1, ho1, hl1⟩ := bldN_ok n s hr.1 hs
    have hs1' : SOk (bldN n s).2 := hs1
    simp only [altL, WA]
    generalize (bldN n s).1 = x at *
    generalize (bldN n s).2 = s1 at *
    have he2 := ho.mono (show s.sets.length ≤ s1.sets.length from h1.le)
    have hox : EOk s1.sets.length x := by rw [hl1]; exact ho1
    have := altL_fits ks s0 (orE e x) s1 hr.2 hs0 hs1' (h0.trans h1) (or_in h0 h1 he h2 hs1') (orE_ok he2 hox)
    refine ⟨this.1, this.2.1, fun i j => ?_⟩
    rw [this.2.2 i j, or_acc h0 h1 he h2 hs1' i j, h3 i j, or_assoc]
end
end
end Go.Proofs.Ytkoofldididpgaa.GM

end
section
namespace Go.Proofs.Ytkoofldididpgaa.TM
open Go Go.Proofs.Ytkoofldididpgaa.NW Go.Proofs.Ytkoofldididpgaa.FM Go.Proofs.Ytkoofldididpgaa.XB Go.Proofs.Ytkoofldididpgaa.NM Go.Proofs.Ytkoofldididpgaa.BM Go.Proofs.Ytkoofldididpgaa.GM
set_option linter.unusedVariables false
set_option linter.unusedSectionVars false
mutual
def turnN : S24 → S24
  | ⟨kd, st, ks⟩ => ⟨kd, st, if kd = 0 then (turnL ks).reverse else turnL ks⟩
def turnL : List S24 → List S24
  | [] => []
  | n :: ks => turnN n :: turnL ks
end
mutual
def nulN : S24 → Bool
  | ⟨kd, st, ks⟩ => if kd = 1 then false else if kd = 0 then nulC ks else if kd = 2 then nulA ks else nulO ks || !(kd == 4)
def nulC : List S24 → Bool
  | [] => true
  | n :: ks => nulN n && nulC ks
def nulA : List S24 → Bool
  | [] => false
  | n :: ks => nulN n || nulA ks
def nulO : List S24 → Bool
  | [] => false
  | n :: _ => nulN n
end
mutual
def FN : S24 → Int → Prop
  | ⟨kd, st, ks⟩, t => if kd = 1 then t = 1 else if kd = 0 then FC ks t else if kd = 2 then FA ks t else FO ks t
def FC : List S24 → Int → Prop
  | [], _ => False
  | n :: ks, t => FN n t ∨ (nulN n = true ∧ FC ks (t - cntN n))
def FA : List S24 → Int → Prop
  | [], _ => False
  | n :: ks, t => FN n t ∨ FA ks (t - cntN n)
def FO : List S24 → Int → Prop
  | [], _ => False
  | n :: _, t => FN n t
end
mutual
def LN : S24 → Int → Prop
  | ⟨kd, st, ks⟩, t => if kd = 1 then t = 1 else if kd = 0 then LC ks t else if kd = 2 then LA ks t else LO ks t
def LC : List S24 → Int → Prop
  | [], _ => False
  | n :: ks, t => LC ks (t - cntN n) ∨ (nulC ks = true ∧ LN n t)
def LA : List S24 → Int → Prop
  | [], _ => False
  | n :: ks, t => LN n t ∨ LA ks (t - cntN n)
def LO : List S24 → Int → Prop
  | [], _ => False
  | n :: _, t => LN n t
end
mutual
def RN : S24 → Int → Int → Prop
  | ⟨kd, st, ks⟩, u, v => if kd = 1 then False else if kd = 0 then RC ks u v else if kd = 2 then RA ks u v else if kd = 5 then RO ks u v else (RO ks u v ∨ (LO ks u ∧ FO ks v))
def RC : List S24 → Int → Int → Prop
  | [], _, _ => False
  | n :: ks, u, v => RN n u v ∨ (LN n u ∧ FC ks (v - cntN n)) ∨ RC ks (u - cntN n) (v - cntN n)
def RA : List S24 → Int → Int → Prop
  | [], _, _ => False
  | n :: ks, u, v => RN n u v ∨ RA ks (u - cntN n) (v - cntN n)
def RO : List S24 → Int → Int → Prop
  | [], _, _ => False
  | n :: _, u, v => RN n u v
end
def inside (c : Nat) (t : Int) : Prop := 1 ≤ t ∧ t ≤ c
mutual
theorem FN_in : ∀ (n : S24) (t : Int), FN n t → inside (cntN n) t
  | ⟨kd, st, ks⟩, t, h => by
    have h1 := FC_in ks t
    have h2 := FA_in ks t
    have h3 := FO_in ks t
    rw [FN] at h
    rw [cntN]
    unfold inside at *
    split at h <;> rename_i a
    · rw [if_pos a]; omega
    · rw [if_neg a]
      split at h
      · exact h1 h
      · split at h
        · exact h2 h
        · exact h3 h
theorem FC_in : ∀ (ks : List S24) (t : Int), FC ks t → inside (cntL ks) t
  | [], t, h => by rw [FC] at h; exact h.elim
  | n :: ks, t, h => by
    have h1 := FN_in n t
    have h2 := FC_in ks (t - cntN n)
    rw [FC] at h
    rw [cntL]
    unfold inside at *
    rcases h with h | ⟨_, h⟩
    · have := h1 h; omega
    · have := h2 h; omega
theorem FA_in : ∀ (ks : List S24) (t : Int), FA ks t → inside (cntL ks) t
  | [], t, h => by rw [FA] at h; exact h.elim
  | n :: ks, t, h => by
    have h1 := FN_in n t
    have h2 := FA_in ks (t - cntN n)
    rw [FA] at h
    rw [cntL]
    unfold inside at *
    rcases h with h | h
    · have := h1 h; omega
    · have := h2 h; omega
theorem FO_in : ∀ (ks : List S24) (t : Int), FO ks t → inside (cntL ks) t
  | [], t, h => by rw [FO] at h; exact h.elim
  | n :: ks, t, h => by
    have h1 := FN_in n t
    rw [FO] at h
    rw [cntL]
    unfold inside at *
    have := h1 h; omega
end
mutual
theorem LN_in : ∀ (n : S24) (t : Int), LN n t → inside (cntN n) t
  | ⟨kd, st, ks⟩, t, h => by
    have h1 := LC_in ks t
    have h2 := LA_in ks t
    have h3 := LO_in ks t
    rw [LN] at h
    rw [cntN]
    unfold inside at *
    split at h <;> rename_i a
    · rw [if_pos a]; omega
    · rw [if_neg a]
      split at h
      · exact h1 h
      · split at h
        · exact h2 h
        · exact h3 h
theorem LC_in : ∀ (ks : List S24) (t : Int), LC ks t → inside (cntL ks) t
  | [], t, h => by rw [LC] at h; exact h.elim
  | n :: ks, t, h => by
    have h1 := LN_in n t
    have h2 := LC_in ks (t - cntN n)
    rw [LC] at h
    rw [cntL]
    unfold inside at *
    rcases h with h | ⟨_, h⟩
    · have := h2 h; omega
    · have := h1 h; omega
theorem LA_in : ∀ (ks : List S24) (t : Int), LA ks t → inside (cntL ks) t
  | [], t, h => by rw [LA] at h; exact h.elim
  | n :: ks, t, h => by
    have h1 := LN_in n t
    have h2 := LA_in ks (t - cntN n)
    rw [LA] at h
    rw [cntL]
    unfold inside at *
    rcases h with h | h
    · have := h1 h; omega
    · have := h2 h; omega
theorem LO_in : ∀ (ks : List S24) (t : Int), LO ks t → inside (cntL ks) t
  | [], t, h => by rw [LO] at h; exact h.elim
  | n :: ks, t, h => by
    have h1 := LN_in n t
    rw [LO] at h
    rw [cntL]
    unfold inside at *
    have := h1 h; omega
end
mutual
theorem RN_in : ∀ (n : S24) (u v : Int), RN n u v → inside (cntN n) u ∧ inside (cntN n) v
  | ⟨kd, st, ks⟩, u, v, h => by
    have h1 := RC_in ks u v
    have h2 := RA_in ks u v
    have h3 := RO_in ks u v
    have h4 := LO_in ks u
    have h5 := FO_in ks v
    rw [RN] at h
    rw [cntN]
    unfold inside at *
    split at h <;> rename_i a
    · exact h.elim
    · rw [if_neg a]
      split at h
      · exact h1 h
      · split at h
        · exact h2 h
        · split at h
          · exact h3 h
          · rcases h with h | ⟨h, g⟩
            · exact h3 h
            · exact ⟨h4 h, h5 g⟩
theorem RC_in : ∀ (ks : List S24) (u v : Int), RC ks u v → inside (cntL ks) u ∧ inside (cntL ks) v
  | [], u, v, h => by rw [RC] at h; exact h.elim
  | n :: ks, u, v, h => by
    have h1 := RN_in n u v
    have h2 := RC_in ks (u - cntN n) (v - cntN n)
    have h3 := LN_in n u
    have h4 := FC_in ks (v - cntN n)
    rw [RC] at h
    rw [cntL]
    unfold inside at *
    rcases h with h | ⟨h, g⟩ | h
    · have := h1 h; omega
    · have := h3 h; have := h4 g; omega
    · have := h2 h; omega
theorem RA_in : ∀ (ks : List S24) (u v : Int), RA ks u v → inside (cntL ks) u ∧ inside (cntL ks) v
  | [], u, v, h => by rw [RA] at h; exact h.elim
  | n :: ks, u, v, h => by
    have h1 := RN_in n u v
    have h2 := RA_in ks (u - cntN n) (v - cntN n)
    rw [RA] at h
    rw [cntL]
    unfold inside at *
    rcases h with h | h
    · have := h1 h; omega
    · have := h2 h; omega
theorem RO_in : ∀ (ks : List S24) (u v : Int), RO ks u v → inside (cntL ks) u ∧ inside (cntL ks) v
  | [], u, v, h => by rw [RO] at h; exact h.elim
  | n :: ks, u, v, h => by
    have h1 := RN_in n u v
    rw [RO] at h
    rw [cntL]
    unfold inside at *
    have := h1 h; omega
end
end Go.Proofs.Ytkoofldididpgaa.TM

end
section
namespace Go.Proofs.Ytkoofldididpgaa.TM
open Go Go.Proofs.Ytkoofldididpgaa.NW Go.Proofs.Ytkoofldididpgaa.FM Go.Proofs.Ytkoofldididpgaa.XB Go.Proofs.Ytkoofldididpgaa.NM Go.Proofs.Ytkoofldididpgaa.BM Go.Proofs.Ytkoofldididpgaa.GM
set_option linter.unusedVariables false
set_option linter.unusedSectionVars false
theorem row_out {s : St} (hs : SOk s) {p : Int} (h : (s.sets.length : Int) < p) : row s p = [] := by
  unfold row
  rw [List.getD_eq_getElem?_getD, List.getElem?_eq_none (by have := hs.len; omega)]; rfl
def no : Int → Nat → Prop := fun _ _ => False
structure Sem (n : S24) (s : St) (r : BM.Edge × St) : Prop where
  null : r.1.null = nulN n
  first : ∀ t, t ∈ r.1.first ↔ FN n (t - s.sets.length)
  last : ∀ t, t ∈ r.1.last ↔ LN n (t - s.sets.length)
  rows : ∀ p v, (s.sets.length : Int) < p → (v ∈ row r.2 p ↔ RN n (p - s.sets.length) (v - s.sets.length))
theorem or_first (x y : BM.Edge) (p : Int) : p ∈ (orE x y).first ↔ p ∈ x.first ∨ p ∈ y.first := by unfold orE; dsimp only; rw [mem_fin, List.mem_append]
theorem or_last (x y : BM.Edge) (p : Int) : p ∈ (orE x y).last ↔ p ∈ x.last ∨ p ∈ y.last := by unfold orE; dsimp only; rw [mem_fin, List.mem_append]
theorem row_two {n : S24} {s0 s : St} {r : BM.Edge × St} (hs : SOk s) (h : Sem n s r) (h1 : Ext s r.2) (p v : Int) (hp : 1 ≤ p) : v ∈ row r.2 p ↔ v ∈ row s p ∨ RN n (p - s.sets.length) (v - s.sets.length) := by
  by_cases hb : p ≤ s.sets.length
  · rw [h1.rows p hp hb]
    constructor
    · exact .inl
    · rintro (h | h)
      · exact h
      · have := (RN_in _ _ _ h).1.1; omega
  · rw [h.rows p v (by omega), row_out hs (by omega)]; simp
mutual
theorem bldN_sem : ∀ (n : S24) (s : St), rightN n = true → SOk s → Sem n s (bldN n s)
  | ⟨kd, st, ks⟩, s, hr, hs => by
    rw [rightN, Bool.and_eq_true] at hr
    rw [bldN]
    by_cases k1 : kd = 1
    · simp only [if_pos k1]
      have e4 : row ⟨s.sets ++ [st], s.follow ++ [[]]⟩ ((s.sets.length : Int) + 1) = [] := by
        unfold row; dsimp only
        rw [show ((s.sets.length : Int) + 1 - 1).toNat = s.follow.length by have := hs.len; omega]; simp [List.getD_eq_getElem?_getD]
      refine ⟨by rw [nulN, if_pos k1], fun t => ?_, fun t => ?_, fun p v hp => ?_⟩
      · rw [FN, if_pos k1]; simp; omega
      · rw [LN, if_pos k1]; simp; omega
      · rw [RN, if_pos k1]
        simp only [iff_false]
        by_cases h : p = (s.sets.length : Int) + 1
        · rw [h, e4]; simp
        · unfold row; dsimp only
          rw [List.getD_eq_getElem?_getD, List.getElem?_eq_none (by have := hs.len; simp; omega)]; simp
    simp only [if_neg k1]
    by_cases k0 : kd = 0
    · simp only [if_pos k0]
      obtain ⟨h1, h2, h3, h4⟩ := catL_sem ks s ⟨true, [], []⟩ s hr.2 hs hs (Ext.refl s) (EIn.nil _ _ _) (EOk.nil _ _)
      refine ⟨?_, fun t => ?_, fun t => ?_, fun p v hp => ?_⟩
      · rw [h1, nulN, if_neg k1, if_pos k0]; simp
      · rw [h2, FN, if_neg k1, if_pos k0]; simp
      · rw [h3, LN, if_neg k1, if_pos k0]; simp
      · rw [h4 p v hp, RN, if_neg k1, if_pos k0, row_out hs hp]; simp
    simp only [if_neg k0]
    by_cases k2 : kd = 2
    · simp only [if_pos k2]
      obtain ⟨h1, h2, h3, h4⟩ := altL_sem ks s ⟨false, [], []⟩ s hr.2 hs hs (Ext.refl s) (EIn.nil _ _ _) (EOk.nil _ _)
      refine ⟨?_, fun t => ?_, fun t => ?_, fun p v hp => ?_⟩
      · rw [h1, nulN, if_neg k1, if_neg k0, if_pos k2]; simp
      · rw [h2, FN, if_neg k1, if_neg k0, if_pos k2]; simp
      · rw [h3, LN, if_neg k1, if_neg k0, if_pos k2]; simp
      · rw [h4 p v hp, RN, if_neg k1, if_neg k0, if_pos k2, row_out hs hp]; simp
    simp only [if_neg k2]
    have hl : ks.length = 1 := by
      have := hr.1
      unfold headOk at this
      rw [if_neg k1, if_neg k0, if_neg k2] at this
      by_cases h3 : kd = 3 ∨ kd = 4 ∨ kd = 5
      · rw [if_pos h3] at this; simpa using this
      · rw [if_neg h3] at this; cases this
    match ks, hl, hr with
    | [n], _, hr =>
      have hrn : rightN n = true := by have := hr.2; rw [rightL, Bool.and_eq_true] at this; exact this.1
      obtain ⟨h1, h2, h3, h4⟩ := bldN_sem n s hrn hs
      obtain ⟨g1, g2, _⟩ := bldN_fits (hit := no) n s hrn hs
      have hs1 := (bldN_ok n s hrn hs).1
      simp only [oneL]
      generalize (bldN n s).1 = x at *
      generalize (bldN n s).2 = s1 at *
      refine ⟨?_, fun t => ?_, fun t => ?_, fun p v hp => ?_⟩
      · dsimp only; rw [h1, nulN, if_neg k1, if_neg k0, if_neg k2, nulO]
      · rw [FN, if_neg k1, if_neg k0, if_neg k2, FO]; exact h2 t
      · rw [LN, if_neg k1, if_neg k0, if_neg k2, LO]; exact h3 t
      · rw [RN, if_neg k1, if_neg k0, if_neg k2, RO, LO, FO]
        by_cases k5 : kd = 5
        · simp only [if_pos k5]; exact h4 p v hp
        · simp only [if_neg k5]
          rw [loop_row g1 g2 hs1 p v (by omega), ← h4 p v hp, ← h3 p, ← h2 v]
theorem catL_sem : ∀ (ks : List S24) (s0 : St) (e : BM.Edge) (s : St), rightL ks = true → SOk s0 → SOk s → Ext s0 s → EIn s0 s e → EOk s.sets.length e →
    (catL ks e s).1.null = (e.null && nulC ks) ∧ (∀ t, t ∈ (catL ks e s).1.first ↔ t ∈ e.first ∨ (e.null = true ∧ FC ks (t - s.sets.length))) ∧
    (∀ t, t ∈ (catL ks e s).1.last ↔ LC ks (t - s.sets.length) ∨ (nulC ks = true ∧ t ∈ e.last)) ∧
    (∀ p v, (s0.sets.length : Int) < p → (v ∈ row (catL ks e s).2 p ↔ v ∈ row s p ∨ (p ∈ e.last ∧ FC ks (v - s.sets.length)) ∨ RC ks (p - s.sets.length) (v - s.sets.length)))
  | [], s0, e, s, _, _, _, h0, he, _ => by
    simp only [catL, nulC, FC, LC, RC]; simp
  | n :: ks, s0, e, s, hr, hs0, hs, h0, he, ho => by
    rw [rightL, Bool.and_eq_true] at hr
    obtain ⟨h1, h2, _⟩ := bldN_fits (hit := no) n s hr.1 hs
    obtain ⟨hs1, ho1, hl1⟩ := bldN_ok n s hr.1 hs
    have hsem := bldN_sem n s hr.1 hs
    have hs1' : SOk (bldN n s).2 := hs1
    have hrow := fun p v hp => row_two (s0 := s0) hs hsem h1 p v hp
    obtain ⟨m1, m2, m3, m4⟩ := hsem
    simp only [catL]
    generalize (bldN n s).1 = x at *
    generalize (bldN n s).2 = s1 at *
    have he2 := ho.mono (show s.sets.length ≤ s1.sets.length from h1.le)
    have hox : EOk s1.sets.length x := by rw [hl1]; exact ho1
    obtain ⟨g1, g2, g3, g4⟩ := catL_sem ks s0 (thenE e x) ⟨s1.sets, after s1.follow e.last x.first⟩ hr.2 hs0
      ⟨by rw [after_len]; exact hs1'.len, fun r hr => after_ok hox.first _ _ hs1'.rows r hr⟩ (then_ext h0 h1 he h2 hs1') (then_in h0 h1 he h2) (thenE_ok he2 hox)
    have hnull : (thenE e x).null = (e.null && x.null) := rfl
    have hsub : ∀ t : Int, t - ((⟨s1.sets, after s1.follow e.last x.first⟩ : St).sets.length : Int) = t - s.sets.length - cntN n := fun t => by dsimp only; omega
    refine ⟨?_, fun t => ?_, fun t => ?_, fun p v hp => ?_⟩
    · rw [g1, hnull, m1, nulC, Bool.and_assoc]
    · rw [g2, thenE_first, hnull, m2, hsub, FC, m1]
      simp only [Bool.and_eq_true]
      grind
    · rw [g3, thenE_last, m3, hsub, LC, m1, nulC]
      simp only [Bool.and_eq_true]
      grind
    · rw [g4 p v hp, then_row h0 h1 he h2 hs1' p v (by omega), thenE_last, hrow p v (by omega), m2, m3, m1, hsub, hsub, RC, FC]
      grind
theorem altL_sem : ∀ (ks : List S24) (s0 : St) (e : BM.Edge) (s : St), rightL ks = true → SOk s0 → SOk s → Ext s0 s → EIn s0 s e → EOk s.sets.length e →
    (altL ks e s).1.null = (e.null || nulA ks) ∧ (∀ t, t ∈ (altL ks e s).1.first ↔ t ∈ e.first ∨ FA ks (t - s.sets.length)) ∧
    (∀ t, t ∈ (altL ks e s).1.last ↔ t ∈ e.last ∨ LA ks (t - s.sets.length)) ∧
    (∀ p v, (s0.sets.length : Int) < p → (v ∈ row (altL ks e s).2 p ↔ v ∈ row s p ∨ RA ks (p - s.sets.length) (v - s.sets.length)))
  | [], s0, e, s, _, _, _, h0, he, _ => by
    simp only [altL, nulA, FA, LA, RA]; simp
  | n :: ks, s0, e, s, hr, hs0, hs, h0, he, ho => by
    rw [rightL, Bool.and_eq_true] at hr
    obtain ⟨h1, h2, _⟩ := bldN_fits (hit := no) n s hr.1 hs
    obtain ⟨hs1, ho1, hl1⟩ := bldN_ok n s hr.1 hs
    have hsem := bldN_sem n s hr.1 hs
    have hs1' : SOk (bldN n s).2 := hs1
    have hrow := fun p v hp => row_two (s0 := s0) hs hsem h1 p v hp
    obtain ⟨m1, m2, m3, m4⟩ := hsem
    simp only [altL]
    generalize (bldN n s).1 = x at *
    generalize (bldN n s).2 = s1 at *
    have he2 := ho.mono (show s.sets.length ≤ s1.sets.length from h1.le)
    have hox : EOk s1.sets.length x := by rw [hl1]; exact ho1
    obtain ⟨g1, g2, g3, g4⟩ := altL_sem ks s0 (orE e x) s1 hr.2 hs0 hs1' (h0.trans h1) (or_in h0 h1 he h2 hs1') (orE_ok he2 hox)
    have hnull : (orE e x).null = (e.null || x.null) := rfl
    have hsub : ∀ t : Int, t - (s1.sets.length : Int) = t - s.sets.length - cntN n := fun t => by omega
    refine ⟨?_, fun t => ?_, fun t => ?_, fun p v hp => ?_⟩
    · rw [g1, hnull, m1, nulA, Bool.or_assoc]
    · rw [g2, or_first, m2, hsub, FA, or_assoc]
    · rw [g3, or_last, m3, hsub, LA, or_assoc]
    · rw [g4 p v hp, hrow p v (by omega), hsub, hsub, RA, or_assoc]
end
end Go.Proofs.Ytkoofldididpgaa.TM

end
section
namespace Go.Proofs.Ytkoofldididpgaa.TM
open Go Go.Proofs.Ytkoofldididpgaa.NW Go.Proofs.Ytkoofldididpgaa.FM Go.Proofs.Ytkoofldididpgaa.XB Go.Proofs.Ytkoofldididpgaa.NM Go.Proofs.Ytkoofldididpgaa.BM Go.Proofs.Ytkoofldididpgaa.GM
set_option linter.unusedVariables false
set_option linter.unusedSectionVars false
theorem turnL_map : ∀ ks : List S24, turnL ks = ks.map turnN
  | [] => by rw [turnL]; rfl
  | n :: ks => by rw [turnL, turnL_map ks]; rfl
mutual
theorem turn_turn : ∀ n : S24, turnN (turnN n) = n
  | ⟨kd, st, ks⟩ => by
    have h := turns_turn ks
    rw [turnN, turnN]
    by_cases k : kd = 0
    · simp only [if_pos k]; rw [turnL_map (turnL ks).reverse, List.map_reverse, List.reverse_reverse, ← turnL_map, h]
    · simp only [if_neg k]; rw [h]
theorem turns_turn : ∀ ks : List S24, turnL (turnL ks) = ks
  | [] => by rw [turnL, turnL]
  | n :: ks => by rw [turnL, turnL, turn_turn n, turns_turn ks]
end
theorem cntL_rev (ks : List S24) : cntL ks.reverse = cntL ks := by
  induction ks with
  | nil => rfl
  | cons n ks ih => rw [List.reverse_cons, cntL_append, ih, cntL, cntL, cntL]; omega
theorem rightL_rev (ks : List S24) : rightL ks.reverse = rightL ks := by rw [rightL_all, rightL_all, List.all_reverse]
mutual
theorem cnt_turn : ∀ n : S24, cntN (turnN n) = cntN n
  | ⟨kd, st, ks⟩ => by
    have h := cnts_turn ks
    rw [turnN, cntN, cntN]
    by_cases k : kd = 0
    · simp only [if_pos k]; rw [cntL_rev, h]
    · simp only [if_neg k]; rw [h]
theorem cnts_turn : ∀ ks : List S24, cntL (turnL ks) = cntL ks
  | [] => by rw [turnL]
  | n :: ks => by rw [turnL, cntL, cntL, cnt_turn n, cnts_turn ks]
end
theorem len_turns (ks : List S24) : (turnL ks).length = ks.length := by rw [turnL_map, List.length_map]
mutual
theorem right_turn : ∀ n : S24, rightN (turnN n) = rightN n
  | ⟨kd, st, ks⟩ => by
    have h := rights_turn ks
    rw [turnN, rightN, rightN]
    by_cases k : kd = 0
    · simp only [if_pos k]; rw [rightL_rev, h, List.length_reverse, len_turns]
    · simp only [if_neg k]; rw [h, len_turns]
theorem rights_turn : ∀ ks : List S24, rightL (turnL ks) = rightL ks
  | [] => by rw [turnL]
  | n :: ks => by rw [turnL, rightL, rightL, right_turn n, rights_turn ks]
end
theorem nulC_app (n : S24) : ∀ ks : List S24, nulC (ks ++ [n]) = (nulC ks && nulN n)
  | [] => by simp [nulC]
  | k :: ks => by rw [List.cons_append, nulC, nulC, nulC_app n ks, Bool.and_assoc]
theorem nulC_rev (ks : List S24) : nulC ks.reverse = nulC ks := by
  induction ks with
  | nil => rfl
  | cons n ks ih => rw [List.reverse_cons, nulC_app, ih, nulC, Bool.and_comm]
theorem FC_app (n : S24) : ∀ (ks : List S24) (t : Int), FC (ks ++ [n]) t ↔ FC ks t ∨ (nulC ks = true ∧ FN n (t - cntL ks))
  | [], t => by simp [FC, nulC, cntL]
  | k :: ks, t => by
    rw [List.cons_append, FC, FC, FC_app n ks, nulC, show t - (cntL (k :: ks) : Int) = t - cntN k - cntL ks by rw [cntL]; omega]
    simp only [Bool.and_eq_true]
    grind
theorem LC_app (n : S24) : ∀ (ks : List S24) (t : Int), LC (ks ++ [n]) t ↔ LN n (t - cntL ks) ∨ (nulN n = true ∧ LC ks t)
  | [], t => by simp [LC, nulC, cntL]
  | k :: ks, t => by
    rw [List.cons_append, LC, LC, LC_app n ks, nulC_app, show t - (cntL (k :: ks) : Int) = t - cntN k - cntL ks by rw [cntL]; omega]
    simp only [Bool.and_eq_true]
    grind
theorem RC_app (n : S24) : ∀ (ks : List S24) (u v : Int), RC (ks ++ [n]) u v ↔ RC ks u v ∨ (LC ks u ∧ FN n (v - cntL ks)) ∨ RN n (u - cntL ks) (v - cntL ks)
  | [], u, v => by simp [RC, LC, FC, cntL]
  | k :: ks, u, v => by
    rw [List.cons_append, RC, RC, RC_app n ks, FC_app, LC, show u - (cntL (k :: ks) : Int) = u - cntN k - cntL ks by rw [cntL]; omega, show v - (cntL (k :: ks) : Int) = v - cntN k - cntL ks by rw [cntL]; omega]
    grind
def Mirr (c : Nat) (F L : Int → Prop) (R : Int → Int → Prop) (F' L' : Int → Prop) (R' : Int → Int → Prop) : Prop :=
  ∃ π : Int → Int, (∀ t, inside c t → inside c (π t)) ∧ (∀ t u, inside c t → inside c u → π t = π u → t = u) ∧ (∀ t, L t → F' (π t)) ∧ (∀ t, F t → L' (π t)) ∧ (∀ u v, R u v → R' (π v) (π u))
mutual
theorem nul_turn : ∀ n : S24, rightN n = true → nulN (turnN n) = nulN n
  | ⟨kd, st, ks⟩, hr => by
    rw [rightN, Bool.and_eq_true] at hr
    have h := nuls_turn ks hr.2
    rw [turnN, nulN, nulN]
    by_cases k1 : kd = 1
    · simp only [if_pos k1]
    by_cases k0 : kd = 0
    · simp only [if_neg k1, if_pos k0]; rw [nulC_rev, h.1]
    · simp only [if_neg k1, if_neg k0]; rw [h.2.1, h.2.2]
theorem nuls_turn : ∀ ks : List S24, rightL ks = true → nulC (turnL ks) = nulC ks ∧ nulA (turnL ks) = nulA ks ∧ nulO (turnL ks) = nulO ks
  | [], _ => by rw [turnL]; exact ⟨rfl, rfl, rfl⟩
  | n :: ks, hr => by
    rw [rightL, Bool.and_eq_true] at hr
    obtain ⟨h1, h2, h3⟩ := nuls_turn ks hr.2
    have h := nul_turn n hr.1
    refine ⟨?_, ?_, ?_⟩
    · rw [turnL, nulC, nulC, h, h1]
    · rw [turnL, nulA, nulA, h, h2]
    · rw [turnL, nulO, nulO, h]
end
theorem mirr_cat {n n' : S24} {ks K : List S24} (hc : cntN n' = cntN n) (hk : cntL K = cntL ks) (hn : nulN n' = nulN n) (hnk : nulC K = nulC ks)
    (h : Mirr (cntN n) (FN n) (LN n) (RN n) (FN n') (LN n') (RN n')) (g : Mirr (cntL ks) (FC ks) (LC ks) (RC ks) (FC K) (LC K) (RC K)) :
    Mirr (cntL (n :: ks)) (FC (n :: ks)) (LC (n :: ks)) (RC (n :: ks)) (FC (K ++ [n'])) (LC (K ++ [n'])) (RC (K ++ [n'])) := by
  obtain ⟨π, p1, p2, p3, p4, p5⟩ := h
  obtain ⟨ρ, q1, q2, q3, q4, q5⟩ := g
  have e1 : ∀ t, inside (cntN n) t → (if t ≤ cntN n then (cntL ks : Int) + π t else ρ (t - cntN n)) = cntL ks + π t := fun t ht => if_pos ht.2
  have e2 : ∀ t, inside (cntL ks) (t - cntN n) → (if t ≤ cntN n then (cntL ks : Int) + π t else ρ (t - cntN n)) = ρ (t - cntN n) := fun t ht => if_neg (by have := ht.1; omega)
  have hs : ∀ t : Int, (cntL ks : Int) + π t - (cntL K : Int) = π t := fun t => by omega
  have cl : cntL (n :: ks) = cntN n + cntL ks := by rw [cntL]
  have cs : ∀ t, inside (cntL (n :: ks)) t → inside (cntN n) t ∨ inside (cntL ks) (t - cntN n) := fun t ht => by unfold inside at *; omega
  refine ⟨fun t => if t ≤ cntN n then cntL ks + π t else ρ (t - cntN n), fun t ht => ?_, fun t u ht hu hh => ?_, fun t ht => ?_, fun t ht => ?_, fun u v hh => ?_⟩
  · dsimp only
    rcases cs t ht with h | h
    · rw [e1 t h]; have := p1 t h; unfold inside at *; omega
    · rw [e2 t h]; have := q1 _ h; unfold inside at *; omega
  · dsimp only at hh
    rcases cs t ht with h | h <;> rcases cs u hu with h' | h'
    · rw [e1 t h, e1 u h'] at hh; exact p2 t u h h' (by omega)
    · rw [e1 t h, e2 u h'] at hh; have := p1 t h; have := q1 _ h'; unfold inside at *; omega
    · rw [e2 t h, e1 u h'] at hh; have := p1 u h'; have := q1 _ h; unfold inside at *; omega
    · rw [e2 t h, e2 u h'] at hh; have := q2 _ _ h h' hh; omega
  · dsimp only
    rw [FC_app]
    rw [LC] at ht
    rcases ht with ht | ⟨ha, ht⟩
    · rw [e2 t (LC_in _ _ ht)]; exact .inl (q3 _ ht)
    · rw [e1 t (LN_in _ _ ht), hs]; exact .inr ⟨by rw [hnk]; exact ha, p3 _ ht⟩
  · dsimp only
    rw [LC_app]
    rw [FC] at ht
    rcases ht with ht | ⟨ha, ht⟩
    · rw [e1 t (FN_in _ _ ht), hs]; exact .inl (p4 _ ht)
    · rw [e2 t (FC_in _ _ ht)]; exact .inr ⟨by rw [hn]; exact ha, q4 _ ht⟩
  · dsimp only
    rw [RC_app]
    rw [RC] at hh
    rcases hh with hh | ⟨ha, hb⟩ | hh
    · have := RN_in _ _ _ hh
      rw [e1 u this.1, e1 v this.2, hs, hs]; exact .inr (.inr (p5 _ _ hh))
    · rw [e1 u (LN_in _ _ ha), e2 v (FC_in _ _ hb), hs]; exact .inr (.inl ⟨q4 _ hb, p3 _ ha⟩)
    · have := RC_in _ _ _ hh
      rw [e2 u this.1, e2 v this.2]; exact .inl (q5 _ _ hh)
theorem mirr_alt {n n' : S24} {ks K : List S24} (hc : cntN n' = cntN n) (hk : cntL K = cntL ks)
    (h : Mirr (cntN n) (FN n) (LN n) (RN n) (FN n') (LN n') (RN n')) (g : Mirr (cntL ks) (FA ks) (LA ks) (RA ks) (FA K) (LA K) (RA K)) :
    Mirr (cntL (n :: ks)) (FA (n :: ks)) (LA (n :: ks)) (RA (n :: ks)) (FA (n' :: K)) (LA (n' :: K)) (RA (n' :: K)) := by
  obtain ⟨π, p1, p2, p3, p4, p5⟩ := h
  obtain ⟨ρ, q1, q2, q3, q4, q5⟩ := g
  have e1 : ∀ t, inside (cntN n) t → (if t ≤ cntN n then π t else (cntN n : Int) + ρ (t - cntN n)) = π t := fun t ht => if_pos ht.2
  have e2 : ∀ t, inside (cntL ks) (t - cntN n) → (if t ≤ cntN n then π t else (cntN n : Int) + ρ (t - cntN n)) = cntN n + ρ (t - cntN n) := fun t ht => if_neg (by have := ht.1; omega)
  have hs : ∀ t : Int, (cntN n : Int) + ρ t - (cntN n' : Int) = ρ t := fun t => by omega
  have cl : cntL (n :: ks) = cntN n + cntL ks := by rw [cntL]
  have cs : ∀ t, inside (cntL (n :: ks)) t → inside (cntN n) t ∨ inside (cntL ks) (t - cntN n) := fun t ht => by unfold inside at *; omega
  refine ⟨fun t => if t ≤ cntN n then π t else cntN n + ρ (t - cntN n), fun t ht => ?_, fun t u ht hu hh => ?_, fun t ht => ?_, fun t ht => ?_, fun u v hh => ?_⟩
  · dsimp only
    rcases cs t ht with h | h
    · rw [e1 t h]; have := p1 t h; unfold inside at *; omega
    · rw [e2 t h]; have := q1 _ h; unfold inside at *; omega
  · dsimp only at hh
    rcases cs t ht with h | h <;> rcases cs u hu with h' | h'
    · rw [e1 t h, e1 u h'] at hh; exact p2 t u h h' hh
    · rw [e1 t h, e2 u h'] at hh; have := p1 t h; have := q1 _ h'; unfold inside at *; omega
    · rw [e2 t h, e1 u h'] at hh; have := p1 u h'; have := q1 _ h; unfold inside at *; omega
    · rw [e2 t h, e2 u h'] at hh; have := q2 _ _ h h' (by omega); omega
  · dsimp only
    rw [FA]
    rw [LA] at ht
    rcases ht with ht | ht
    · rw [e1 t (LN_in _ _ ht)]; exact .inl (p3 _ ht)
    · rw [e2 t (LA_in _ _ ht), hs]; exact .inr (q3 _ ht)
  · dsimp only
    rw [LA]
    rw [FA] at ht
    rcases ht with ht | ht
    · rw [e1 t (FN_in _ _ ht)]; exact .inl (p4 _ ht)
    · rw [e2 t (FA_in _ _ ht), hs]; exact .inr (q4 _ ht)
  · dsimp only
    rw [RA]
    rw [RA] at hh
    rcases hh with hh | hh
    · have := RN_in _ _ _ hh
      rw [e1 u this.1, e1 v this.2]; exact .inl (p5 _ _ hh)
    · have := RA_in _ _ _ hh
      rw [e2 u this.1, e2 v this.2, hs, hs]; exact .inr (q5 _ _ hh)
mutual
theorem mirr_turn : ∀ n : S24, rightN n = true → Mirr (cntN n) (FN n) (LN n) (RN n) (FN (turnN n)) (LN (turnN n)) (RN (turnN n))
  | ⟨kd, st, ks⟩, hr => by
    rw [rightN, Bool.and_eq_true] at hr
    have h := mirr_turns ks hr.2
    rw [turnN, cntN]
    by_cases k1 : kd = 1
    · simp only [if_pos k1]
      refine ⟨id, fun t h => h, fun t u _ _ h => h, fun t ht => ?_, fun t ht => ?_, fun u v hh => ?_⟩
      · rw [FN, if_pos k1]; rw [LN, if_pos k1] at ht; exact ht
      · rw [LN, if_pos k1]; rw [FN, if_pos k1] at ht; exact ht
      · rw [RN, if_pos k1] at hh; exact hh.elim
    by_cases k0 : kd = 0
    · simp only [if_neg k1, if_pos k0]
      obtain ⟨π, p1, p2, p3, p4, p5⟩ := h.1
      refine ⟨π, p1, p2, fun t ht => ?_, fun t ht => ?_, fun u v hh => ?_⟩
      · rw [FN, if_neg k1, if_pos k0]; rw [LN, if_neg k1, if_pos k0] at ht; exact p3 t ht
      · rw [LN, if_neg k1, if_pos k0]; rw [FN, if_neg k1, if_pos k0] at ht; exact p4 t ht
      · rw [RN, if_neg k1, if_pos k0]; rw [RN, if_neg k1, if_pos k0] at hh; exact p5 u v hh
    by_cases k2 : kd = 2
    · simp only [if_neg k1, if_neg k0]
      obtain ⟨π, p1, p2, p3, p4, p5⟩ := h.2
      refine ⟨π, p1, p2, fun t ht => ?_, fun t ht => ?_, fun u v hh => ?_⟩
      · rw [FN, if_neg k1, if_neg k0, if_pos k2]; rw [LN, if_neg k1, if_neg k0, if_pos k2] at ht; exact p3 t ht
      · rw [LN, if_neg k1, if_neg k0, if_pos k2]; rw [FN, if_neg k1, if_neg k0, if_pos k2] at ht; exact p4 t ht
      · rw [RN, if_neg k1, if_neg k0, if_pos k2]; rw [RN, if_neg k1, if_neg k0, if_pos k2] at hh; exact p5 u v hh
    simp only [if_neg k1, if_neg k0]
    have hl : ks.length = 1 := by
      have := hr.1
      unfold headOk at this
      rw [if_neg k1, if_neg k0, if_neg k2] at this
      by_cases h3 : kd = 3 ∨ kd = 4 ∨ kd = 5
      · rw [if_pos h3] at this; simpa using this
      · rw [if_neg h3] at this; cases this
    match ks, hl, hr with
    | [n], _, hr =>
      have hrn : rightN n = true := by have := hr.2; rw [rightL, Bool.and_eq_true] at this; exact this.1
      obtain ⟨π, p1, p2, p3, p4, p5⟩ := mirr_turn n hrn
      have hc : cntL [n] = cntN n := by rw [cntL, cntL]; omega
      rw [hc, turnL]
      refine ⟨π, p1, p2, fun t ht => ?_, fun t ht => ?_, fun u v hh => ?_⟩
      · rw [FN, if_neg k1, if_neg k0, if_neg k2, FO]; rw [LN, if_neg k1, if_neg k0, if_neg k2, LO] at ht; exact p3 t ht
      · rw [LN, if_neg k1, if_neg k0, if_neg k2, LO]; rw [FN, if_neg k1, if_neg k0, if_neg k2, FO] at ht; exact p4 t ht
      · rw [RN, if_neg k1, if_neg k0, if_neg k2, RO, LO, FO]
        rw [RN, if_neg k1, if_neg k0, if_neg k2, RO, LO, FO] at hh
        by_cases k5 : kd = 5
        · rw [if_pos k5] at hh ⊢; exact p5 u v hh
        · rw [if_neg k5] at hh ⊢
          rcases hh with hh | ⟨ha, hb⟩
          · exact .inl (p5 u v hh)
          · exact .inr ⟨p4 v hb, p3 u ha⟩
theorem mirr_turns : ∀ ks : List S24, rightL ks = true → Mirr (cntL ks) (FC ks) (LC ks) (RC ks) (FC (turnL ks).reverse) (LC (turnL ks).reverse) (RC (turnL ks).reverse) ∧
    Mirr (cntL ks) (FA ks) (LA ks) (RA ks) (FA (turnL ks)) (LA (turnL ks)) (RA (turnL ks))
  | [], _ => by
    refine ⟨⟨id, fun t h => h, fun t u _ _ h => h, fun t ht => ?_, fun t ht => ?_, fun u v hh => ?_⟩, ⟨id, fun t h => h, fun t u _ _ h => h, fun t ht => ?_, fun t ht => ?_, fun u v hh => ?_⟩⟩
    · rw [LC] at ht; exact ht.elim
    · rw [FC] at ht; exact ht.elim
    · rw [RC] at hh; exact hh.elim
    · rw [LA] at ht; exact ht.elim
    · rw [FA] at ht; exact ht.elim
    · rw [RA] at hh; exact hh.elim
  | n :: ks, hr => by
    rw [rightL, Bool.and_eq_true] at hr
    have h := mirr_turn n hr.1
    obtain ⟨g1, g2⟩ := mirr_turns ks hr.2
    rw [turnL, List.reverse_cons]
    exact ⟨mirr_cat (cnt_turn n) (by rw [cntL_rev, cnts_turn]) (nul_turn n hr.1) (by rw [nulC_rev, (nuls_turn ks hr.2).1]) h g1, mirr_alt (cnt_turn n) (cnts_turn ks) h g2⟩
end
end Go.Proofs.Ytkoofldididpgaa.TM

end
section
namespace Go.Proofs.Ytkoofldididpgaa.TM
open Go Go.Proofs.Ytkoofldididpgaa.NW Go.Proofs.Ytkoofldididpgaa.FM Go.Proofs.Ytkoofldididpgaa.XB Go.Proofs.Ytkoofldididpgaa.NM Go.Proofs.Ytkoofldididpgaa.BM Go.Proofs.Ytkoofldididpgaa.GM
set_option linter.unusedVariables false
set_option linter.unusedSectionVars false
theorem len_le {α : Type} [DecidableEq α] : ∀ (xs ys : List α), xs.Nodup → (∀ x ∈ xs, x ∈ ys) → xs.length ≤ ys.length
  | [], ys, _, _ => Nat.zero_le _
  | x :: xs, ys, hn, hm => by
    rw [List.nodup_cons] at hn
    have hx := hm x (List.mem_cons_self ..)
    have := len_le xs (ys.erase x) hn.2 (fun y hy => (List.mem_erase_of_ne (fun e => by subst e; exact hn.1 hy)).2 (hm y (List.mem_cons_of_mem _ hy)))
    rw [List.length_erase_of_mem hx] at this
    have hp : 0 < ys.length := List.length_pos_of_mem hx
    rw [List.length_cons]; omega
theorem map_le {α β : Type} [DecidableEq β] (f : α → β) (xs : List α) (ys : List β) (hn : xs.Nodup) (hi : ∀ x ∈ xs, ∀ y ∈ xs, f x = f y → x = y) (hm : ∀ x ∈ xs, f x ∈ ys) : xs.length ≤ ys.length := by
  have h : (xs.map f).Nodup := by
    rw [List.nodup_iff_pairwise_ne, List.pairwise_map]
    refine List.Pairwise.imp_of_mem ?_ (List.nodup_iff_pairwise_ne.1 hn)
    intro a b ha hb hab e
    exact hab (hi a ha b hb e)
  have := len_le (xs.map f) ys h (fun y hy => by obtain ⟨x, hx, rfl⟩ := List.mem_map.1 hy; exact hm x hx)
  rwa [List.length_map] at this
def sumL : List (List Int) → Nat
  | [] => 0
  | r :: rs => r.length + sumL rs
def pairs : Int → List (List Int) → List (Int × Int)
  | _, [] => []
  | k, r :: rs => r.map (fun t => (k, t)) ++ pairs (k + 1) rs
theorem pairs_len : ∀ (rs : List (List Int)) (k : Int), (pairs k rs).length = sumL rs
  | [], k => rfl
  | r :: rs, k => by rw [pairs, sumL, List.length_append, List.length_map, pairs_len rs]
theorem mem_pairs : ∀ (rs : List (List Int)) (k p t : Int), (p, t) ∈ pairs k rs ↔ k ≤ p ∧ t ∈ rs.getD (p - k).toNat []
  | [], k, p, t => by simp [pairs]
  | r :: rs, k, p, t => by
    rw [pairs, List.mem_append, mem_pairs rs (k + 1) p t]
    constructor
    · rintro (h | ⟨h, g⟩)
      · obtain ⟨x, hx, e⟩ := List.mem_map.1 h
        cases e
        exact ⟨Int.le_refl _, by rw [Int.sub_self]; exact hx⟩
      · refine ⟨by omega, ?_⟩
        rw [show (p - k).toNat = (p - (k + 1)).toNat + 1 by omega, List.getD_cons_succ]; exact g
    · rintro ⟨h, g⟩
      by_cases e : p = k
      · subst e
        rw [Int.sub_self] at g
        exact .inl (List.mem_map.2 ⟨t, g, rfl⟩)
      · rw [show (p - k).toNat = (p - (k + 1)).toNat + 1 by omega, List.getD_cons_succ] at g
        exact .inr ⟨by omega, g⟩
theorem pairs_nodup : ∀ (rs : List (List Int)) (k : Int), (∀ r ∈ rs, r.Nodup) → (pairs k rs).Nodup
  | [], k, _ => List.nodup_nil
  | r :: rs, k, h => by
    rw [pairs, List.nodup_append]
    refine ⟨?_, pairs_nodup rs (k + 1) (fun q hq => h q (List.mem_cons_of_mem _ hq)), fun a ha b hb e => ?_⟩
    · rw [List.nodup_iff_pairwise_ne, List.pairwise_map]
      exact (List.nodup_iff_pairwise_ne.1 (h r (List.mem_cons_self ..))).imp (fun hab e => hab (Prod.mk.inj e).2)
    · obtain ⟨x, hx, rfl⟩ := List.mem_map.1 ha
      subst e
      have := ((mem_pairs rs (k + 1) _ _).1 hb).1
      omega
theorem rise_nodup {xs : List Int} (h : Rise xs) : xs.Nodup := List.nodup_iff_pairwise_ne.2 (List.Pairwise.imp (fun hab e => by rw [e] at hab; exact absurd hab (Int.lt_irrefl _)) h)
def zero : St := ⟨[], []⟩
theorem sokz : SOk zero := ⟨rfl, fun r h => by cases h⟩
theorem mirr_le (n m : S24) (hr : rightN n = true) (hr' : rightN m = true) (h : Mirr (cntN n) (FN n) (LN n) (RN n) (FN m) (LN m) (RN m)) :
    (bldN n zero).1.last.length ≤ (bldN m zero).1.first.length ∧ (bldN n zero).1.first.length ≤ (bldN m zero).1.last.length ∧ sumL (bldN n zero).2.follow ≤ sumL (bldN m zero).2.follow := by
  obtain ⟨π, p1, p2, p3, p4, p5⟩ := h
  obtain ⟨s1, o1, _⟩ := bldN_ok n zero hr sokz
  obtain ⟨n1, f1, l1, r1⟩ := bldN_sem n zero hr sokz
  obtain ⟨n2, f2, l2, r2⟩ := bldN_sem m zero hr' sokz
  have z : ∀ t : Int, t - (zero.sets.length : Int) = t := fun t => by show t - ((0 : Nat) : Int) = t; omega
  simp only [z] at f1 l1 r1 f2 l2 r2
  have z0 : (zero.sets.length : Int) = 0 := rfl
  refine ⟨map_le π _ _ (rise_nodup o1.last.1) (fun x hx y hy e => p2 x y (LN_in _ _ ((l1 x).1 hx)) (LN_in _ _ ((l1 y).1 hy)) e) (fun x hx => (f2 _).2 (p3 x ((l1 x).1 hx))),
    map_le π _ _ (rise_nodup o1.first.1) (fun x hx y hy e => p2 x y (FN_in _ _ ((f1 x).1 hx)) (FN_in _ _ ((f1 y).1 hy)) e) (fun x hx => (l2 _).2 (p4 x ((f1 x).1 hx))), ?_⟩
  rw [← pairs_len (bldN n zero).2.follow 1, ← pairs_len (bldN m zero).2.follow 1]
  have key : ∀ x ∈ pairs 1 (bldN n zero).2.follow, RN n x.1 x.2 := fun x hx => by
    obtain ⟨p, t⟩ := x
    obtain ⟨h1, h2⟩ := (mem_pairs _ _ _ _).1 hx
    exact (r1 p t (by omega)).1 h2
  refine map_le (fun x : Int × Int => (π x.2, π x.1)) _ _ (pairs_nodup _ _ (fun r hr => rise_nodup (s1.rows r hr).1)) (fun x hx y hy e => ?_) (fun x hx => ?_)
  · obtain ⟨e1, e2⟩ := Prod.mk.inj e
    have a := RN_in _ _ _ (key x hx)
    have b := RN_in _ _ _ (key y hy)
    exact Prod.ext (p2 _ _ a.1 b.1 e2) (p2 _ _ a.2 b.2 e1)
  · have h := p5 _ _ (key x hx)
    have a := RN_in _ _ _ h
    refine (mem_pairs _ _ _ _).2 ⟨a.1.1, ?_⟩
    exact (r2 _ _ (by have := a.1.1; omega)).2 h
theorem turn_counts (n : S24) (hr : rightN n = true) : (bldN n zero).1.null = (bldN (turnN n) zero).1.null ∧ (bldN n zero).1.first.length = (bldN (turnN n) zero).1.last.length ∧
    (bldN n zero).1.last.length = (bldN (turnN n) zero).1.first.length ∧ sumL (bldN n zero).2.follow = sumL (bldN (turnN n) zero).2.follow ∧ (bldN n zero).2.sets.length = (bldN (turnN n) zero).2.sets.length ∧
    (bldN n zero).2.follow.length = (bldN (turnN n) zero).2.follow.length := by
  have hr' : rightN (turnN n) = true := by rw [right_turn]; exact hr
  obtain ⟨a1, a2, a3⟩ := mirr_le n (turnN n) hr hr' (mirr_turn n hr)
  have hb := mirr_turn (turnN n) hr'
  rw [turn_turn] at hb
  obtain ⟨b1, b2, b3⟩ := mirr_le (turnN n) n hr' hr hb
  obtain ⟨s1, _, c1⟩ := bldN_ok n zero hr sokz
  obtain ⟨s2, _, c2⟩ := bldN_ok (turnN n) zero hr' sokz
  rw [cnt_turn] at c2
  have d1 := s1.len
  have d2 := s2.len
  refine ⟨by rw [(bldN_sem n zero hr sokz).null, (bldN_sem (turnN n) zero hr' sokz).null, nul_turn n hr], by omega, by omega, by omega, by omega, by omega⟩
end Go.Proofs.Ytkoofldididpgaa.TM

end
section
namespace Go.Proofs.Ytkoofldididpgaa.NP
open Go Go.RowKit Go.Proofs.YtkoofldididpgaaW.PrintWords Go.Proofs.YtkoofldididpgaaW.PrintLast Go.Proofs.YtkoofldididpgaaW.PrintMore
open Go.Proofs.Ytkoofldididpgaa.NM Go.Proofs.Ytkoofldididpgaa.XB Go.Proofs.Ytkoofldididpgaa.FM Go.Proofs.Ytkoofldididpgaa.BM Go.Proofs.Ytkoofldididpgaa.NB Go.Proofs.Ytkoofldididpgaa.TM
set_option linter.unusedVariables false
set_option linter.unusedSimpArgs false
def tup (n : S24) : Int × Int × List S24 := (n.f0, n.f1, n.f2)
theorem tup_mk (n : S24) : (⟨(tup n).1, (tup n).2.1, (tup n).2.2⟩ : S24) = n := by cases n; rfl
def TurnsOk (n : S24) : Prop := Ev (fun k => scansionref10_Turn.f k n.f0 n.f1 n.f2) (tup (turnN n))
theorem turn_l0 (kd st : Int) (ks T : List S24) (hT : T = if kd = 0 then (turnL ks).reverse else turnL ks) (hs : ks.length ≤ 1000000) (hk : ∀ c ∈ ks, TurnsOk c) : ∀ e i, i + e = ks.length →
    Ev (fun k => scansionref10_Turn.l0 k (i : Int) kd st ks kd st (T.take i)) (kd, st, T)
  | 0, i, h => by
    have hl : T.length = ks.length := by rw [hT]; split <;> simp [turnL_map]
    refine Ev.step (f := fun _ => some (kd, st, T)) (fun k => ?_) (Ev.now _)
    simp only [scansionref10_Turn.l0]
    rw [if_neg (by omega), List.take_of_length_le (by omega)]
  | e + 1, i, h => by
    have hl : T.length = ks.length := by rw [hT]; split <;> simp [turnL_map]
    have hi : i < ks.length := by omega
    have ih := turn_l0 kd st ks T hT hs hk e (i + 1) (by omega)
    have hw : wrap64 ((i : Int) + 1) = ((i + 1 : Nat) : Int) := wrap_nat (n := 1000000) (by omega) (by omega)
    have ht : T.take (i + 1) = T.take i ++ [T[i]] := by rw [List.take_append_getElem]
    have hlt : (T.take i).length < 3518437208883 := by rw [List.length_take]; omega
    have main : ∀ j (hj : j < ks.length), T[i] = turnN ks[j] →
        Ev (fun k => (scansionref10_Turn.f k ks[j].f0 ks[j].f1 ks[j].f2).bind fun bt => if (T.take i).length < 3518437208883 then scansionref10_Turn.l0 k ((i + 1 : Nat) : Int) kd st ks kd st (T.take i ++ [(⟨bt.1, bt.2.1, bt.2.2⟩ : S24)]) else none) (kd, st, T) := fun j hj e => by
      refine Ev.bind (hk ks[j] (List.getElem_mem hj)) ?_
      refine Ev.congr (fun k => ?_) ih
      rw [if_pos hlt, tup_mk, ht, e]
    by_cases k0 : kd = 0
    · have hj : ks.length - 1 - i < ks.length := by omega
      have e1 : wrap64 ((ks.length : Int) - 1) = (ks.length : Int) - 1 := wrap64_id (by omega) (by omega)
      have e2 : wrap64 ((ks.length : Int) - 1 - (i : Int)) = ((ks.length - 1 - i : Nat) : Int) := by rw [wrap64_id (by omega) (by omega)]; omega
      have e3 : T[i] = turnN ks[ks.length - 1 - i] := by
        subst hT
        simp only [if_pos k0, turnL_map, List.getElem_reverse, List.getElem_map, List.length_map]
      refine Ev.step (fun k => ?_) (main _ hj e3)
      simp only [scansionref10_Turn.l0]
      rw [if_pos (by omega), if_pos k0, e1, e2, if_pos (by omega), if_pos (by omega), rdT hj, hw]
    · have e3 : T[i] = turnN ks[i] := by
        subst hT
        simp only [if_neg k0, turnL_map, List.getElem_map]
      refine Ev.step (fun k => ?_) (main _ hi e3)
      simp only [scansionref10_Turn.l0]
      rw [if_pos (by omega), if_neg k0, if_pos (by omega), rdT hi, hw]
theorem turn_node (n : S24) (hs : n.f2.length ≤ 1000000) (hk : ∀ c ∈ n.f2, TurnsOk c) : TurnsOk n := by
  have := turn_l0 n.f0 n.f1 n.f2 _ rfl hs hk n.f2.length 0 (by omega)
  unfold TurnsOk
  have e : tup (turnN n) = (n.f0, n.f1, if n.f0 = 0 then (turnL n.f2).reverse else turnL n.f2) := by cases n; rw [turnN]; rfl
  rw [e]
  refine Ev.step (fun k => ?_) this
  rw [scansionref10_Turn.f, List.take_zero]; rfl
mutual
theorem turn_all : ∀ n : S24, sizeN n ≤ 1000000 → TurnsOk n
  | ⟨kd, st, ks⟩ => fun h => turn_node ⟨kd, st, ks⟩ (by have := len_size ks; rw [sizeN] at h; show ks.length ≤ _; omega) (turn_rows ks (by rw [sizeN] at h; omega))
theorem turn_rows : ∀ ks : List S24, sizeL ks ≤ 1000000 → ∀ n ∈ ks, TurnsOk n
  | [] => fun _ n h => by cases h
  | k :: ks => fun hs n h => (List.mem_cons.1 h).elim (fun e => e ▸ turn_all k (by rw [sizeL] at hs; omega)) (turn_rows ks (by rw [sizeL] at hs; omega) n)
end
theorem few11 (n : S24) (l : List Int) : ∃ b, Ev (fun k => scansionlaw11_few.f k n.f0 n.f1 n.f2 l) b ∧ (b = true → sizeN n ≤ 119 ∧ l.length ≤ 30) := by
  obtain ⟨t, ht, t1, t2, t3⟩ := count_all n 120 40 (by omega) (by omega) (by omega) (by omega)
  unfold scansionlaw11_few.f
  by_cases h : t < 120
  · refine ⟨decide ((l.length : Int) ≤ 30), Ev.bind ht (Ev.congr (f := fun _ => some (decide ((l.length : Int) ≤ 30))) (fun k => if_pos h) (Ev.now _)), fun hb => ?_⟩
    have := t3 h
    simp at hb
    omega
  · exact ⟨false, Ev.bind ht (Ev.congr (f := fun _ => some false) (fun k => if_neg h) (Ev.now _)), fun h => by cases h⟩
theorem wrap_add {a b : Nat} (h : a + b ≤ 1000000) : wrap64 ((a : Int) + (b : Int)) = ((a + b : Nat) : Int) := by rw [wrap64_id (by omega) (by omega)]; omega
theorem turns_l0 (xb : Bool) (x1 x2 x3 : List Int) (x4 : List (List Int)) (yb : Bool) (y1 y2 y3 : List Int) (y4 : List (List Int)) (hl : x4.length = y4.length) (hs : x4.length ≤ 300)
    (hx : ∀ q ∈ x4, q.length ≤ 300) (hy : ∀ q ∈ y4, q.length ≤ 300) (h1 : x1.length = y1.length) (hb : xb = yb) (h2 : x2.length = y3.length) (h3 : x3.length = y2.length) : ∀ e i (a b : Nat), i + e = x4.length → a ≤ i * 300 → b ≤ i * 300 →
    a + sumL (x4.drop i) = b + sumL (y4.drop i) →
    Ev (fun k => scansionlaw11_FollowTurns.l0 k (a : Int) (b : Int) (i : Int) xb x1 x2 x3 x4 yb y1 y2 y3 y4) true
  | 0, i, a, b, h, ha, hb', hsum => by
    rw [List.drop_eq_nil_of_le (by omega), List.drop_eq_nil_of_le (by omega)] at hsum
    have hab : a = b := by simpa [sumL] using hsum
    subst hab
    subst hb
    have g0 : ¬ ((i : Int) < (x4.length : Int)) := by omega
    have g1 : (x1.length : Int) = (y1.length : Int) := by rw [h1]
    have g2 : (x2.length : Int) = (y3.length : Int) := by rw [h2]
    have g3 : (x3.length : Int) = (y2.length : Int) := by rw [h3]
    have g4 : (xb == xb) = true := by cases xb <;> rfl
    have g5 : ((a : Int) == (a : Int)) = true := by rw [beq_self_eq_true]
    refine Ev.step (f := fun _ => some true) (fun k => ?_) (Ev.now _)
    rw [scansionlaw11_FollowTurns.l0, if_neg g0, if_pos g1, if_pos g4, if_pos g2, if_pos g3, g5]
  | e + 1, i, a, b, h, ha, hb', hsum => by
    have i1 : i < x4.length := by omega
    have i2 : i < y4.length := by omega
    rw [List.drop_eq_getElem_cons i1, List.drop_eq_getElem_cons i2, sumL, sumL] at hsum
    have p1 := hx _ (List.getElem_mem i1)
    have p2 := hy _ (List.getElem_mem i2)
    have ih := turns_l0 xb x1 x2 x3 x4 yb y1 y2 y3 y4 hl hs hx hy h1 hb h2 h3 e (i + 1) (a + x4[i].length) (b + y4[i].length) (by omega) (by omega) (by omega) (by omega)
    have g0 : (i : Int) < (x4.length : Int) := by omega
    have g1 : (i : Int) < (y4.length : Int) := by omega
    have g2 : 0 ≤ (i : Int) := by omega
    have b1 : a + x4[i].length ≤ 1000000 := by omega
    have b2 : b + y4[i].length ≤ 1000000 := by omega
    have b3 : i < 300 := by omega
    refine Ev.step (fun k => ?_) ih
    rw [scansionlaw11_FollowTurns.l0, if_pos g0, if_pos g1, if_pos g2, rdL i1, rdL i2, wrap_add b1, wrap_add b2, wrap_nat (n := 300) b3 (by decide)]
theorem turn_build (n : S24) (h : cntN n < 4611686018427387904) : ∃ r q, buildF n = some r ∧ buildF (turnN n) = some q ∧ Short r ∧ Short q ∧ r.2.2.2.2.2 = q.2.2.2.2.2 ∧
    (r.2.2.2.2.2 = 0 → r.1 = q.1 ∧ r.2.1.length = q.2.1.length ∧ r.2.2.1.length = q.2.2.2.1.length ∧ r.2.2.2.1.length = q.2.2.1.length ∧ sumL r.2.2.2.2.1 = sumL q.2.2.2.2.1 ∧ r.2.2.2.2.1.length = q.2.2.2.2.1.length) := by
  obtain ⟨r, hr, sr⟩ := build_short n h
  obtain ⟨q, hq, sq⟩ := build_short (turnN n) (by rw [cnt_turn]; exact h)
  refine ⟨r, q, hr, hq, sr, sq, ?_⟩
  unfold buildF at hr hq
  rw [cnt_turn, right_turn] at hq
  rw [if_pos h] at hr hq
  by_cases h1 : rightN n = true
  · rw [if_pos h1] at hr hq
    by_cases h2 : cntN n ≤ 300
    · rw [if_pos h2] at hr hq
      cases hr
      cases hq
      obtain ⟨a1, a2, a3, a4, a5, a6⟩ := turn_counts n h1
      exact ⟨rfl, fun _ => ⟨a1, a5, a2, a3, a4, a6⟩⟩
    · rw [if_neg h2] at hr hq
      cases hr
      cases hq
      exact ⟨rfl, fun h => by cases h⟩
  · rw [if_neg h1] at hr hq
    cases hr
    cases hq
    exact ⟨rfl, fun h => by cases h⟩
theorem turns_pure (n : S24) : ∃ k, scansionlaw11_FollowTurns.f k n.f0 n.f1 n.f2 = some true := by
  refine Ev.rounds ?_
  unfold scansionlaw11_FollowTurns.f
  refine Ev.bind awake11 ?_
  obtain ⟨b, hb, hb1⟩ := few11 n []
  refine Ev.bind hb ?_
  refine Ev.congr (fun k => if_pos rfl) ?_
  cases b with
  | false =>
    refine Ev.step (f := fun _ => some true) (fun k => ?_) (Ev.now _)
    simp only [scansionlaw11_FollowTurns.j0, Bool.not_false, if_true]
  | true =>
    have hsz := (hb1 rfl).1
    have hcs := cnt_size n
    obtain ⟨r, q, hr, hq, sr, sq, he, hc⟩ := turn_build n (by omega)
    have hT := turn_all n (by omega)
    refine Ev.step (f := fun k => (scansionref10_Turn.f k n.f0 n.f1 n.f2).bind fun bt253 => ((follow_Build.f bt253.1 bt253.2.1 bt253.2.2).bind fun bt258 => (if r.2.2.2.2.2 = 0 then (scansionlaw11_FollowTurns.j1 k r.2.2.2.2.2 bt258.2.2.2.2.2 (bt258.2.2.2.2.2 != 0) r.1 r.2.1 r.2.2.1 r.2.2.2.1 r.2.2.2.2.1 bt258.1 bt258.2.1 bt258.2.2.1 bt258.2.2.2.1 bt258.2.2.2.2.1) else (scansionlaw11_FollowTurns.j1 k r.2.2.2.2.2 bt258.2.2.2.2.2 true r.1 r.2.1 r.2.2.1 r.2.2.2.1 r.2.2.2.2.1 bt258.1 bt258.2.1 bt258.2.2.1 bt258.2.2.2.1 bt258.2.2.2.2.1)))) (fun k => ?_) ?_
    · simp only [scansionlaw11_FollowTurns.j0, Bool.not_true]
      rw [if_neg (by simp), show follow_Build.f n.f0 n.f1 n.f2 = some r from eta_f hr]
      rfl
    · refine Ev.bind hT ?_
      have hq' : follow_Build.f (tup (turnN n)).1 (tup (turnN n)).2.1 (tup (turnN n)).2.2 = some q := eta_f hq
      rw [hq']
      refine Ev.bind (g := fun _ => some q) (Ev.now _) ?_
      by_cases h0 : r.2.2.2.2.2 = 0
      · refine Ev.congr (fun k => if_pos h0) ?_
        obtain ⟨c1, c2, c3, c4, c5, c6⟩ := hc h0
        refine Ev.step (f := fun k => scansionlaw11_FollowTurns.l0 k ((0 : Nat) : Int) ((0 : Nat) : Int) ((0 : Nat) : Int) r.1 r.2.1 r.2.2.1 r.2.2.2.1 r.2.2.2.2.1 q.1 q.2.1 q.2.2.1 q.2.2.2.1 q.2.2.2.2.1) (fun k => ?_)
          (turns_l0 _ _ _ _ _ _ _ _ _ _ c6 sr.l4 sr.l5 sq.l5 c2 c1 c3 c4 _ 0 0 0 (Nat.zero_add _) (by omega) (by omega) (by rw [List.drop_zero, List.drop_zero, c5]))
        simp only [scansionlaw11_FollowTurns.j1]
        rw [if_neg (by rw [← he, h0]; simp)]; rfl
      · refine Ev.congr (fun k => if_neg h0) ?_
        refine Ev.step (f := fun _ => some true) (fun k => ?_) (Ev.now _)
        simp only [scansionlaw11_FollowTurns.j1, if_true]
        rw [he]; simp
end Go.Proofs.Ytkoofldididpgaa.NP

end
section
namespace Go.Proofs.Ytkoofldididpgaa.NOP
open Go Go.ChangeShapes Go.WideShapes Go.RowKit Go.Proofs.YtkoofldididpgaaW.PrintWords Go.Proofs.YtkoofldididpgaaW.PrintLast Go.Proofs.YtkoofldididpgaaW.PrintMore Go.Proofs.Ytkoofldididpgaa.XB
set_option linter.unusedVariables false
theorem cells24 : Try.prog.cellsOf 24 = 3 := by kernel_rfl
theorem cells22 : Try.prog.cellsOf 22 = 1 := by kernel_rfl
theorem cells3 : Try.prog.cellsOf 3 = 1 := by kernel_rfl
set_option maxRecDepth 100000 in
theorem open_node {H : Type} {enc : TypeId × Value → H} {w : World} {spare : Nat → Bool} {held : Bool} : ∀ (fuel : Nat) {cs : List Value} {x : DataW H × List MemPlace},
    DataW.trod enc Try.prog w 0 spare held fuel 24 cs = some x → ∃ s : S24, k24.K w s cs := by
  intro fuel
  induction fuel using Nat.strongRecOn with
  | _ fuel ih =>
    intro cs x h
    obtain ⟨xs, n, hfu, _, hlen, hxl, hf⟩ := DataW.trod_struct Try.underlying24 h
    rw [cells24] at hlen
    match xs, hxl, cs, hlen with
    | [y0, y1, y2], _, [v0, v1, v2], _ =>
      have g0 := hf 0 _ rfl
      have g1 := hf 1 _ rfl
      have g2 := hf 2 _ rfl
      simp [cells3, cells22] at g0 g1 g2
      obtain ⟨n0, e0, _, _⟩ := DataW.trod_int Try.underlying3 g0
      obtain ⟨n1, e1, _, _⟩ := DataW.trod_int Try.underlying3 g1
      simp only [List.cons.injEq, and_true] at e0 e1
      subst e0
      subst e1
      rcases DataW.trod_slice Try.underlying22 g2 with ⟨hcs, _⟩ | ⟨a, len, cap, elems, rest, m, hm, hcs, _, hb, hl, hcm, hel, hat, _, _⟩
      · simp only [List.cons.injEq, and_true] at hcs
        subst hcs
        exact ⟨⟨n0, n1, []⟩, k24_mk w ⟨n0, n1, []⟩ (Nat.le_refl _) (Kd.C_nil _ _)⟩
      · simp only [List.cons.injEq, and_true] at hcs
        subst hcs
        haveI : Inhabited (S24 × List Value) := ⟨(z24, [])⟩
        obtain ⟨S, hS⟩ := Go.Deep.choose_lt (α := S24 × List Value) (n := len) (p := fun i s => w.cells? 0 (a.add (i * 3)) 3 = some s.2 ∧ k24.K w s.1 s.2) (fun i hi => by
          have h1 := hat i hi
          rw [List.getElem?_eq_getElem (by omega)] at h1
          obtain ⟨cs', h2, h3⟩ := Option.bind_eq_some_iff.1 h1
          obtain ⟨s, hs⟩ := ih m (by omega) h3
          rw [cells24] at h2
          exact ⟨(s, cs'), h2, hs⟩)
        have hC : k24.C w (some a) ((List.range len).map fun i => (S i).1).length ((List.range len).map fun i => (S i).1) := by
          refine ⟨rfl, ?_, fun _ => ⟨a, rfl, fun j p hj => ?_⟩⟩
          · have : maxLen ≤ 9223372036854775807 := by decide
            simp; omega
          · have hj2 : j < len := by
              have := (List.getElem?_eq_some_iff.1 hj).1
              simpa using this
            rw [List.getElem?_map, List.getElem?_range hj2] at hj
            simp only [Option.map_some, Option.some.injEq] at hj
            subst hj
            obtain ⟨h2, h3⟩ := hS j hj2
            obtain ⟨_, hl3, hcell⟩ := World.cells?_some h2
            refine ⟨_, hl3, h3, fun i u hu => ?_⟩
            have hi : i < 3 := by
              have := (List.getElem?_eq_some_iff.1 hu).1
              omega
            have := hcell i hi
            rw [Go.Deep.add_add] at this
            rw [show k24.sz = 3 from rfl, this]
            exact hu
        have := k24_mk w ⟨n0, n1, (List.range len).map fun i => (S i).1⟩ (A2 := some a) (c2 := cap) (by simpa using hl) hC
        exact ⟨_, by simpa using this⟩
theorem open_arg {H : Type} {enc : TypeId × Value → H} {w : World} {spare : Nat → Bool} {held : Bool} {v : Value} {d : DataW H} {ps : List MemPlace}
    (h : DataW.Trod enc Try.prog w 0 spare held 24 v d ps) (hv : ∃ cs, v = .agg cs) : ∃ (s : S24) (A : Option Addr) (c : Nat), v = .agg #[.int .i64 s.f0, .int .i64 s.f1, .slice A s.f2.length c] ∧ s.f2.length ≤ c ∧ k24.C w A s.f2.length s.f2 := by
  obtain ⟨fuel, hf⟩ := h
  obtain ⟨s, hs⟩ := open_node fuel hf
  obtain ⟨A2, c2, hcs, hl, hC⟩ := k24_open hs
  obtain ⟨cs, rfl⟩ := hv
  exact ⟨s, A2, c2, by rw [show cs = _ from Array.toList_inj.1 hcs], hl, hC⟩
end Go.Proofs.Ytkoofldididpgaa.NOP

end
