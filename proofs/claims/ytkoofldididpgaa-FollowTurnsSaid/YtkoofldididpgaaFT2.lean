/- What FollowTurns's proof leans on, part 2: words printed by the kit's tools, walks and plain laws of mine. No condition. -/
import Derived.Outline
import Derived.Test.YtkoofldididpgaaFT1
section
namespace Go.Proofs.Ytkoofldididpgaa.NN
open Go Go.RowKit Go.Proofs.YtkoofldididpgaaW.PrintWords Go.Proofs.YtkoofldididpgaaW.PrintLast Go.Proofs.YtkoofldididpgaaW.PrintMore
open Go.Proofs.Ytkoofldididpgaa.XB Go.Proofs.Ytkoofldididpgaa.NW Go.Proofs.Ytkoofldididpgaa.BM Go.Proofs.Ytkoofldididpgaa.FM Go.Proofs.Ytkoofldididpgaa.NA
set_option linter.unusedVariables false
set_option linter.unusedSimpArgs false
def csP (vs vf : Value) : Array Value := #[.bool false, vs, .slice none 0 0, .slice none 0 0, vf]
abbrev AutoP (X : Nat → Prop) := AutoM csP 30 X
set_option maxRecDepth 100000 in
set_option maxHeartbeats 800000 in
theorem note_calls (X : Nat → Prop) (B p ga : Nat) (vs vf vl v1 : Value) (s : St) (last first : List Int) (w : World) (hB : B ≤ w.heap.size) (hX : ∀ k, X k → k < w.heap.size) (hA : AutoP X B p vs vf s w) (hs : SOk s) (hm : s.sets.length ≤ 300)
    (hga : w.heap[ga]? = some (.cells #[.pointer (some ⟨p, 0, none⟩)] 71 (0, 0))) (hgp : ga ≠ p)
    (hl : Kd.R kI 3 w B (Away p vs vf) vl last) (hl1 : In s.sets.length last) (hf : Kd.R kI 3 w B (Away p vs vf) v1 first) (hf1 : In s.sets.length first) :
    Calls Try.prog 72 #[vl, v1, .pointer (some ⟨ga, 0, none⟩)] w fun e w' => e = .returned (.tuple #[]) ∧ AutoP X B p vs vf ⟨s.sets, after s.follow last first⟩ w' ∧ Stp B p vs vf vs vf w w' := by
  have hl2 := hl1.len
  have hf2 := hf1.len
  obtain ⟨Al, cl, rfl, hlc, hlC⟩ := Kd.R_reads hl
  obtain ⟨Af, cf, rfl, hfc, hfC⟩ := Kd.R_reads hf
  have HA := Aside0.mk hA
  have HS := Aside0.mk hs
  have HG := Aside0.mk hga
  have HAw := Aside0.mk (hA.away hga hgp (by decide) (by decide))
  have HL := Aside0.mk hl
  have HF := Aside0.mk hf
  have HL1 := Aside0.mk hl1
  have HF1 := Aside0.mk hf1
  clear hA hs hga hl hf hl1 hf1 hlC hfC
  go_enter Try.func72, Try.ntmps72
  go_wp2_with fail
  go_loopg [9] last.length (fun kq v9 wr => ∃ j : Nat, v9 = .int .i64 j ∧ Aside0 (j ≤ last.length ∧ kq + j = last.length) ∧ Aside0 (AutoP X B p vs vf ⟨s.sets, after s.follow (last.take j) first⟩ wr) ∧ Aside0 (Stp B p vs vf vs vf w wr))
  case atStart => exact ⟨0, rfl, ⟨by omega⟩, ⟨by rw [List.take_zero]; exact HA.out⟩, ⟨Stp.refl _ _ _ _ _⟩⟩
  case round =>
    obtain ⟨j, rfl, HI, HM, HT⟩ := hrel
    by_cases hlt : j < last.length
    · have hlC := (Kd.R_reads' (HT.out.row HL.out)).2.2
      obtain ⟨ad, rfl, e0⟩ := (Kd.reads_of_C (d := 0) hlC).at_ (j : Int) (by omega) (by omega)
      have hx : rdOf 0 last (j : Int) = last[j] := by simp [rdOf, List.getD_eq_getElem?_getD, hlt]
      have hb := HL1.out.2 last[j] (List.getElem_mem hlt)
      have htk := Aside0.mk (show last.take (j + 1) = last.take j ++ [last[j]] from List.take_succ_eq_append_getElem hlt)
      rw [hx] at e0
      simp only [Int.toNat_natCast] at e0
      generalize last[j] = i at e0 hb htk
      obtain ⟨q, rfl⟩ : ∃ q : Nat, i = (q : Int) + 1 := ⟨(i - 1).toNat, by omega⟩
      have hfl : (after s.follow (last.take j) first).length = s.sets.length := by rw [after_len, HS.out.len]
      have htk2 := Aside0.mk (show after s.follow (last.take (j + 1)) first = put1 (after s.follow (last.take j) first) ((q : Int) + 1) first by rw [htk.out, after_snoc])
      have hrows := Aside0.mk (after_ok HF1.out (last.take j) s.follow HS.out.rows)
      generalize hfo : after s.follow (last.take j) first = fo at HM hfl htk2 hrows
      clear hfo htk hx hlC
      obtain ⟨g, cap, rfl, hgB, hglt, hgc⟩ := Kd.N_form HM.out.fol (by show 0 < fo.length; omega)
      dsimp only at HM HT
      obtain ⟨c, hcl, hFK, hcc, hcf⟩ := Kd.N_elem HM.out.fol [] (q : Int) (by omega) (by show (q : Int) < (fo.length : Nat); omega)
      have hq : q < fo.length := by omega
      have hrq : fo.getD q [] = fo[q] := by simp [List.getD_eq_getElem?_getD, hq]
      rw [Int.toNat_natCast] at hFK hcc hcf
      dsimp only at hFK
      rw [hrq] at hFK
      obtain ⟨A0, c0, rfl, l0, g0⟩ := Kd.FK_now hFK
      have hc3 : wr.cell? ⟨g, q, none⟩ = some (.slice A0 fo[q].length c0) := by have := hcc 0 _ rfl; rwa [show q * kII.sz + 0 = q by show q * 1 + 0 = q; omega] at this
      have hrl := Aside0.mk (hrows.out fo[q] (List.getElem_mem hq)).len
      have hput := Aside0.mk (show put1 fo ((q : Int) + 1) first = fo.set q (fin (fo[q] ++ first)) by unfold put1; rw [show ((q : Int) + 1 - 1).toNat = q by omega, hrq])
      generalize fo[q] = row at hc3 l0 g0 hrl hput
      have hc1 : wr.cell? ⟨ga, 0, none⟩ = some (.pointer (some ⟨p, 0, none⟩)) := (blk_cell (HT.out.blk HAw.out HG.out) 0).trans rfl
      have hc2 : wr.cell? ⟨p, 4, none⟩ = some (.slice (some ⟨g, 0, none⟩) fo.length cap) := (blk_cell HM.out.blk 4).trans rfl
      have HC0 := Aside0.mk g0
      have HFr := Kd.R_reads' (HT.out.row HF.out)
      have HCf := Aside0.mk HFr.2.2
      have HW1 : Aside0 (IntKind.i64.wrap (q : Int) = (q : Int)) := ⟨by rw [i64_w]; unfold wrap64; omega⟩
      have HFL := Aside0.mk hfl
      clear hfl
      clear hcc hcf hFK HFr hcl
      go_wp2_with fail
      have HM2 := Aside0.mk (AutoM.below HM.out (below_drew (Below.refl wr.heap.size wr)))
      have HC2 := Aside0.mk (Kd.C_drew HC0.out)
      have HCf2 := Aside0.mk (Kd.C_drew HCf.out)
      have hd1 : wr.drew.cell? ⟨ga, 0, none⟩ = some (.pointer (some ⟨p, 0, none⟩)) := hc1
      have hd2 : wr.drew.cell? ⟨p, 4, none⟩ = some (.slice (some ⟨g, 0, none⟩) fo.length cap) := hc2
      have hd3 : wr.drew.cell? ⟨g, q, none⟩ = some (.slice A0 row.length c0) := hc3
      refine start_ (n := 18) (S := fun w' => w'.cell? ⟨ga, 0, none⟩ = some (.pointer (some ⟨p, 0, none⟩)) ∧ w'.cell? ⟨p, 4, none⟩ = some (.slice (some ⟨g, 0, none⟩) fo.length cap) ∧ w'.cell? ⟨g, q, none⟩ = some (.slice A0 row.length c0)) (ds := [17]) #[false, false, false, false, false, false, false, false, false, false, false, false, false, false, false, false, false, false] (by kernel_rfl) rfl rfl ⟨hd1, hd2, hd3⟩ (fun hHeld => ?_)
      refine take_ (i := 0) (N := some 13) (v := ?_) (a' := ?_) #[true, false, false, false, false, false, false, false, false, false, false, false, false, false, false, false, false, false] rfl rfl (by kernel_rfl) (fun _ _ _ h => h) (Or.inl ⟨by rfl, ?_⟩) hHeld ?_ ?_
      rotate_left
      · rintro w' ⟨s0, s1, s2⟩
        go_simp
        with_reducible rfl
      rotate_left
      · simp only [Act.put, List.setIfInBounds_toArray, List.set_cons_zero, List.set_cons_succ, i64_w, i32_w]
        rfl
      refine pure_ (i := 1) (N := some 14) (v := ?_) (a' := ?_) #[true, true, false, false, false, false, false, false, false, false, false, false, false, false, false, false, false, false] rfl rfl (by kernel_rfl) (fun _ _ _ h => h) (Or.inl ⟨by rfl, ?_⟩) ?_ ?_
      rotate_left
      · intro w'
        go_simp
        with_reducible rfl
      rotate_left
      · simp only [Act.put, List.setIfInBounds_toArray, List.set_cons_zero, List.set_cons_succ, i64_w, i32_w]
        rfl
      refine pure_ (i := 2) (N := some 15) (v := ?_) (a' := ?_) #[true, true, true, false, false, false, false, false, false, false, false, false, false, false, false, false, false, false] rfl rfl (by kernel_rfl) (fun _ _ _ h => h) (Or.inl ⟨by rfl, ?_⟩) ?_ ?_
      rotate_left
      · intro w'
        go_simp
        with_reducible rfl
      rotate_left
      · simp only [Act.put, List.setIfInBounds_toArray, List.set_cons_zero, List.set_cons_succ, i64_w, i32_w]
        rfl
      refine take_ (i := 3) (N := some 16) (v := ?_) (a' := ?_) #[true, true, true, true, false, false, false, false, false, false, false, false, false, false, false, false, false, false] rfl rfl (by kernel_rfl) (fun _ _ _ h => h) (Or.inl ⟨by rfl, ?_⟩) hHeld ?_ ?_
      rotate_left
      · rintro w' ⟨s0, s1, s2⟩
        go_simp
        with_reducible rfl
      rotate_left
      · simp only [Act.put, List.setIfInBounds_toArray, List.set_cons_zero, List.set_cons_succ, i64_w, i32_w]
        rfl
      refine pure_ (i := 4) (N := some 17) (v := ?_) (a' := ?_) #[true, true, true, true, true, false, false, false, false, false, false, false, false, false, false, false, false, false] rfl rfl (by kernel_rfl) (fun _ _ _ h => h) (Or.inl ⟨by rfl, ?_⟩) ?_ ?_
      rotate_left
      · intro w'
        go_simp
        with_reducible rfl
      rotate_left
      · simp only [Act.put, List.setIfInBounds_toArray, List.set_cons_zero, List.set_cons_succ, i64_w, i32_w]
        rfl
      refine pure_ (i := 5) (N := some 18) (v := ?_) (a' := ?_) #[true, true, true, true, true, true, false, false, false, false, false, false, false, false, false, false, false, false] rfl rfl (by kernel_rfl) (fun _ _ _ h => h) (Or.inl ⟨by rfl, ?_⟩) ?_ ?_
      rotate_left
      · intro w'
        go_simp
        exact congrArg (Value.int .i64) HW1.out
      rotate_left
      · simp only [Act.put, List.setIfInBounds_toArray, List.set_cons_zero, List.set_cons_succ, i64_w, i32_w]
        rfl
      refine take_ (i := 6) (N := some 19) (v := ?_) (a' := ?_) #[true, true, true, true, true, true, true, false, false, false, false, false, false, false, false, false, false, false] rfl rfl (by kernel_rfl) (fun _ _ _ h => h) (Or.inl ⟨by rfl, ?_⟩) hHeld ?_ ?_
      rotate_left
      · rintro w' ⟨s0, s1, s2⟩
        go_simp
        with_reducible rfl
      rotate_left
      · simp only [Act.put, List.setIfInBounds_toArray, List.set_cons_zero, List.set_cons_succ, i64_w, i32_w]
        rfl
      refine pure_ (i := 7) (N := some 20) (v := ?_) (a' := ?_) #[true, true, true, true, true, true, true, true, false, false, false, false, false, false, false, false, false, false] rfl rfl (by kernel_rfl) (fun _ _ _ h => h) (Or.inl ⟨by rfl, ?_⟩) ?_ ?_
      rotate_left
      · intro w'
        go_simp
        with_reducible rfl
      rotate_left
      · simp only [Act.put, List.setIfInBounds_toArray, List.set_cons_zero, List.set_cons_succ, i64_w, i32_w]
        rfl
      refine pure_ (i := 8) (N := some 21) (v := ?_) (a' := ?_) #[true, true, true, true, true, true, true, true, true, false, false, false, false, false, false, false, false, false] rfl rfl (by kernel_rfl) (fun _ _ _ h => h) (Or.inl ⟨by rfl, ?_⟩) ?_ ?_
      rotate_left
      · intro w'
        go_simp
        with_reducible rfl
      rotate_left
      · simp only [Act.put, List.setIfInBounds_toArray, List.set_cons_zero, List.set_cons_succ, i64_w, i32_w]
        rfl
      refine take_ (i := 9) (N := some 22) (v := ?_) (a' := ?_) #[true, true, true, true, true, true, true, true, true, true, false, false, false, false, false, false, false, false] rfl rfl (by kernel_rfl) (fun _ _ _ h => h) (Or.inl ⟨by rfl, ?_⟩) hHeld ?_ ?_
      rotate_left
      · rintro w' ⟨s0, s1, s2⟩
        go_simp
        with_reducible rfl
      rotate_left
      · simp only [Act.put, List.setIfInBounds_toArray, List.set_cons_zero, List.set_cons_succ, i64_w, i32_w]
        rfl
      refine pure_ (i := 10) (N := some 23) (v := ?_) (a' := ?_) #[true, true, true, true, true, true, true, true, true, true, true, false, false, false, false, false, false, false] rfl rfl (by kernel_rfl) (fun _ _ _ h => h) (Or.inl ⟨by rfl, ?_⟩) ?_ ?_
      rotate_left
      · intro w'
        go_simp
        with_reducible rfl
      rotate_left
      · simp only [Act.put, List.setIfInBounds_toArray, List.set_cons_zero, List.set_cons_succ, i64_w, i32_w]
        rfl
      refine pure_ (i := 11) (N := some 24) (v := ?_) (a' := ?_) #[true, true, true, true, true, true, true, true, true, true, true, true, false, false, false, false, false, false] rfl rfl (by kernel_rfl) (fun _ _ _ h => h) (Or.inl ⟨by rfl, ?_⟩) ?_ ?_
      rotate_left
      · intro w'
        go_simp
        exact congrArg (Value.int .i64) HW1.out
      rotate_left
      · simp only [Act.put, List.setIfInBounds_toArray, List.set_cons_zero, List.set_cons_succ, i64_w, i32_w]
        rfl
      refine pure_ (i := 12) (N := some 25) (v := ?_) (a' := ?_) #[true, true, true, true, true, true, true, true, true, true, true, true, true, false, false, false, false, false] rfl rfl (by kernel_rfl) (fun _ _ _ h => h) (Or.inl ⟨by rfl, ?_⟩) ?_ ?_
      rotate_left
      · intro w'
        go_simp
        with_reducible rfl
      rotate_left
      · simp only [Act.put, List.setIfInBounds_toArray, List.set_cons_zero, List.set_cons_succ, i64_w, i32_w]
        rfl
      refine take_ (i := 13) (N := some 26) (v := ?_) (a' := ?_) #[true, true, true, true, true, true, true, true, true, true, true, true, true, true, false, false, false, false] rfl rfl (by kernel_rfl) (fun _ _ _ h => h) (Or.inl ⟨by rfl, ?_⟩) hHeld ?_ ?_
      rotate_left
      · rintro w' ⟨s0, s1, s2⟩
        go_simp
        with_reducible rfl
      rotate_left
      · simp only [Act.put, List.setIfInBounds_toArray, List.set_cons_zero, List.set_cons_succ, i64_w, i32_w]
        rfl
      refine pure_ (i := 14) (N := some 27) (v := ?_) (a' := ?_) #[true, true, true, true, true, true, true, true, true, true, true, true, true, true, true, false, false, false] rfl rfl (by kernel_rfl) (fun _ _ _ h => h) (Or.inl ⟨by rfl, ?_⟩) ?_ ?_
      rotate_left
      · intro w'
        go_simp
        with_reducible rfl
      rotate_left
      · simp only [Act.put, List.setIfInBounds_toArray, List.set_cons_zero, List.set_cons_succ, i64_w, i32_w]
        rfl
      refine one_ (i := 15) (N := some 28) #[true, true, true, true, true, true, true, true, true, true, true, true, true, true, true, true, false, false] rfl rfl (by kernel_rfl) (by decide) (fun K hK => ?_)
      refine goes_ Try.func71 (by kernel_rfl) rfl #[.slice A0 row.length c0, .slice Af first.length cf] (by kernel_rfl) rfl rfl (by simp only [List.map_toArray, List.map_cons, List.map_nil]; rfl) ?_
      refine (with_fp A0 Af c0 cf row first _ HC2.out l0 HCf2.out hfc (by have := hrl.out; omega)).mono ?_
      rintro e w3 ⟨v, rfl, hR, hb3⟩
      refine ⟨v, rfl, ?_⟩
      refine hK.out _ _ ⟨?_, ?_, ?_⟩ (fun hHeld => ?_)
      · exact (World.cell?_of_block (hb3.block ga (World.block_lt_of_cell? _ _ hd1))).trans hd1
      · exact (World.cell?_of_block (hb3.block p (World.block_lt_of_cell? _ _ hd2))).trans hd2
      · exact (World.cell?_of_block (hb3.block g (World.block_lt_of_cell? _ _ hd3))).trans hd3
      clear hK K
      refine norm_ (a' := ?_) ?_ ?_
      rotate_left
      · show Act.put _ (some 28) _ = _
        simp only [Act.put, List.setIfInBounds_toArray, List.set_cons_zero, List.set_cons_succ, i64_w, i32_w]
        rfl
      refine pure_ (i := 16) (N := some 29) (v := ?_) (a' := ?_) #[true, true, true, true, true, true, true, true, true, true, true, true, true, true, true, true, true, false] rfl rfl (by kernel_rfl) (fun _ _ _ h => h) (Or.inl ⟨by rfl, ?_⟩) ?_ ?_
      rotate_left
      · intro w'
        go_simp
        with_reducible rfl
      rotate_left
      · simp only [Act.put, List.setIfInBounds_toArray, List.set_cons_zero, List.set_cons_succ, i64_w, i32_w]
        rfl
      have HM3 := Aside0.mk (AutoM.below HM2.out hb3)
      have HV := Aside0.mk (HM2.out.new_row (by have := HT.out.below.size; exact Nat.le_trans hB this) (fun k hk => Nat.lt_of_lt_of_le (hX k hk) HT.out.below.size) hR)
      have HT3 := Aside0.mk (HT.out.trans (Stp.of_below (by have := HT.out.below.size; exact Nat.le_trans hB this) (below_step (below_drew (Below.refl wr.heap.size wr)) hb3)))
      have hfr : w3.frozen? ⟨g, q, none⟩ = false := by obtain ⟨_, _, _, _, hcf3⟩ := Kd.N_elem HM3.out.fol [] (q : Int) (by omega) (by show (q : Int) < (fo.length : Nat); omega); have := hcf3 0; rwa [Int.toNat_natCast, show q * kII.sz + 0 = q by show q * 1 + 0 = q; omega] at this
      have hce : w3.cell? ⟨g, q, none⟩ = some (.slice A0 row.length c0) := hHeld.2.2
      clear hR hb3 HM2 HC2 HCf2 hd1 hd2 hd3
      refine last_ (i := 17) (N := none) #[true, true, true, true, true, true, true, true, true, true, true, true, true, true, true, true, true, true] rfl rfl (by kernel_rfl) (by decide) (fun K hK => ?_)
      refine skip_ (w1 := w3.setCells g q [v]) (by rfl) rfl ?_ ?_
      · obtain ⟨Av, cv, rfl⟩ := Kd.R_slice HV.out
        go_simp
        rfl
      refine hK.out _ _ ?_
      clear hK K
      refine done_ (by kernel_rfl) ?_
      obtain ⟨hA4, hS4⟩ := HM3.out.store (m := q) (by show q < fo.length; omega) HV.out
      have HM4 := Aside0.mk hA4
      have HT4 := Aside0.mk (HT3.out.trans hS4)
      generalize w3.setCells g q [v] = w4 at HM4 HT4 ⊢
      go_wp2_with fail
      go_roundg (last.length - (j + 1))
      case measure => have := HI.out; omega
      case rel => exact ⟨j + 1, by go_num, ⟨by have := HI.out; omega⟩, ⟨by rw [htk2.out, hput.out]; exact HM4.out⟩, HT4⟩
    · have := HI.out
      obtain rfl : j = last.length := by omega
      clear this
      go_wp2_with fail
      go_end0
      exact ⟨rfl, by have := HM.out; rwa [List.take_length] at this, HT.out⟩
end Go.Proofs.Ytkoofldididpgaa.NN

end
section
namespace Go.Proofs.Ytkoofldididpgaa.NT
open Go Go.RowKit Go.Proofs.YtkoofldididpgaaW.PrintWords Go.Proofs.YtkoofldididpgaaW.PrintLast Go.Proofs.YtkoofldididpgaaW.PrintMore
open Go.Proofs.Ytkoofldididpgaa.XB Go.Proofs.Ytkoofldididpgaa.NW Go.Proofs.Ytkoofldididpgaa.BM Go.Proofs.Ytkoofldididpgaa.FM Go.Proofs.Ytkoofldididpgaa.NA Go.Proofs.Ytkoofldididpgaa.NN
set_option linter.unusedVariables false
set_option linter.unusedSimpArgs false
theorem results_c1 {P : Program} {fn : Func} {p : Tmp} {ty : TypeId} (h : fn.results = #[.cell p ty]) (tmps : Array Value) (w : World) (g : Nat) (t : TypeId) (cs : Array Value) (fr : Nat × Nat) (d : TypeDesc)
    (hp : tmps.getD p undef = .pointer (some ⟨g, 0, none⟩)) (hg : w.heap[g]? = some (.cells cs t fr))
    (hu : P.underlying ty = some d) (hd : (match d with | .struct _ | .array _ _ => true | _ => false) = true) (hi : (P.info? ty).map (·.size) = some cs.size) :
    (results fn tmps).run P w = .ok (.agg cs) w := by
  have hp' : tmps[p]?.getD undef = .pointer (some ⟨g, 0, none⟩) := by simpa using hp
  simp [results, h, hp', asAddr, run_loadVar_row w g t ty cs fr d hg hu hd hi]
theorem set3 {w : World} {g t : Nat} {a b c x y z : Value} (h : w.heap[g]? = some (.cells #[a, b, c] t (0, 0))) :
    (((w.setCell ⟨g, 0, none⟩ x).setCell ⟨g, 1, none⟩ y).setCell ⟨g, 2, none⟩ z).heap[g]? = some (.cells #[x, y, z] t (0, 0)) := by
  simp only [World.setCell, Array.getElem?_modify, if_true, h, Option.map_some]
  rfl
theorem set3_other {w : World} {g k : Nat} {x y z : Value} (h : k ≠ g) : (((w.setCell ⟨g, 0, none⟩ x).setCell ⟨g, 1, none⟩ y).setCell ⟨g, 2, none⟩ z).heap[k]? = w.heap[k]? := by
  have h2 : ¬ g = k := fun e => h e.symm
  simp only [World.setCell, Array.getElem?_modify, if_neg h2]
variable {cs : Value → Value → Array Value} {t : Nat} {X : Nat → Prop}
structure Own (g : Nat) (w w' : World) : Prop where
  os : w'.os = w.os
  tape : w'.tape = w.tape
  output : w'.output = w.output
  size : w.heap.size ≤ w'.heap.size
  block : ∀ k, k < w.heap.size → k ≠ g → w'.heap[k]? = w.heap[k]?
theorem Stp.own {B p g : Nat} {vs vf vs' vf' : Value} {w w1 w2 : World} (hB : B ≤ w.heap.size) (h : Stp B p vs vf vs' vf' w w1) (hg : w.heap.size ≤ g) (ho : Own g w1 w2) : Stp B p vs vf vs' vf' w w2 := by
  have hs := h.below.size
  refine ⟨⟨ho.os.trans h.below.os, ho.tape.trans h.below.tape, ho.output.trans h.below.output, Nat.le_trans hs ho.size, fun i hi => (ho.block i (by omega) (by omega)).trans (h.below.block i hi)⟩, fun k hk ha => (ho.block k (by omega) (by omega)).trans (h.keep k hk ha), h.vsAt, h.vfAt⟩
theorem AutoM.own {B p g u : Nat} {vs vf : Value} {s : St} {w w2 : World} {c : Array Value} (h : AutoM cs t X B p vs vf s w) (hg : w.heap[g]? = some (.cells c u (0, 0))) (hp : g ≠ p) (h3 : u ≠ 3) (hX : X g) (ho : Own g w w2) : AutoM cs t X B p vs vf s w2 :=
  ⟨(ho.block p h.lt (Ne.symm hp)).trans h.blk, h.pb, Kd.R_mono (Kd.R_step (Kd.R_types h.sets hg (fun q hq => by simp [Kd.int, Kd.scalar] at hq; omega)) (fun k hk hlt => ho.block k hlt hk.2)) (fun _ hk => hk.1), Kd.N_step h.fol (fun k hk hlt => ho.block k hlt (fun e => hk.2.2 (e ▸ hX)))⟩
theorem AutoM.more {B p : Nat} {vs vf : Value} {s : St} {w w' : World} (h : AutoM cs t X B p vs vf s w) (hb : Below w.heap.size w w') (Y : Nat → Prop) (hY : ∀ k, Y k → w.heap.size ≤ k) : AutoM cs t (fun k => X k ∨ Y k) B p vs vf s w' :=
  ⟨(hb.block p h.lt).trans h.blk, h.pb, Kd.R_below h.sets hb, Kd.N_below (Kd.N_mono (Kd.N_bound h.fol) (fun k hk => ⟨hk.1.1, hk.1.2.1, fun hx => by
    rcases hx with hx | hy
    · exact hk.1.2.2 hx
    · have := hY k hy; omega⟩)) hb⟩
theorem AutoM.less {B p : Nat} {vs vf : Value} {s : St} {w : World} {Y : Nat → Prop} (h : AutoM cs t Y B p vs vf s w) (hXY : ∀ k, X k → Y k) : AutoM cs t X B p vs vf s w :=
  ⟨h.blk, h.pb, h.sets, Kd.N_mono h.fol (fun k hk => ⟨hk.1, hk.2.1, fun hx => hk.2.2 (hXY k hx)⟩)⟩
theorem R_from {e b : Nat} {v : Value} {ok : Nat → Prop} {w w' : World} {xs : List Int} (h : Kd.R kI e w b ok v xs) (hm : ∀ k, b ≤ k → k < w.heap.size → w'.heap[k]? = w.heap[k]?) : Kd.R kI e w' b ok v xs :=
  Kd.R_mono (Kd.R_step (Kd.R_bound h) (fun k hk hlt => hm k hk.2.1 hlt)) (fun _ hk => hk.1)
def PartM (B p : Nat) (vs vf : Value) (e : BM.Edge) (v1 v2 : Value) (w : World) : Prop := Kd.R kI 3 w B (Away p vs vf) v1 e.first ∧ Kd.R kI 3 w B (Away p vs vf) v2 e.last
def partV (b : Bool) (v1 v2 : Value) : Value := .agg #[.bool b, v1, v2]
theorem then_end (X : Nat → Prop) (B p gr : Nat) (vs vf : Value) (s : St) (x y : BM.Edge) (w w4 w' : World) {X' : Nat → Prop} {c : Array Value} {v1 v2 : Value} {b : Bool} {fo : List (List Int)} (hB : B ≤ w.heap.size) (hX : ∀ k, X k → k < w.heap.size)
    (hS4 : Stp B p vs vf vs vf w w4) (hA4 : AutoP X' B p vs vf ⟨s.sets, fo⟩ w4) (hr : w4.heap[gr]? = some (.cells c 69 (0, 0))) (hgr : w.heap.size ≤ gr) (hgp : gr ≠ p) (hX' : ∀ k, X k ∨ k = gr → X' k) (hO : Own gr w4 w')
    (hb : b = (thenE x y).null)
    (h1 : (∃ n, w4.heap.size ≤ n ∧ Kd.R kI 3 w' n (fun _ => True) v1 (thenE x y).first) ∨ Kd.R kI 3 w B (Away p vs vf) v1 (thenE x y).first)
    (h2 : (∃ n, w4.heap.size ≤ n ∧ Kd.R kI 3 w' n (fun _ => True) v2 (thenE x y).last) ∨ Kd.R kI 3 w B (Away p vs vf) v2 (thenE x y).last) :
    ∃ u1 u2, Ending.returned (Value.agg #[.bool b, v1, v2]) = .returned (.agg #[.bool (thenE x y).null, u1, u2]) ∧ AutoP X B p vs vf ⟨s.sets, fo⟩ w' ∧ Stp B p vs vf vs vf w w' ∧ PartM B p vs vf (thenE x y) u1 u2 w' := by
  subst hb
  have hS5 := Stp.own hB hS4 hgr hO
  have hs4 := hS4.below.size
  have key : ∀ (v : Value) (xs : List Int), ((∃ n, w4.heap.size ≤ n ∧ Kd.R kI 3 w' n (fun _ => True) v xs) ∨ Kd.R kI 3 w B (Away p vs vf) v xs) → Kd.R kI 3 w' B (Away p vs vf) v xs := by
    rintro v xs (⟨n, hn, h⟩ | h)
    · refine Kd.R_lower (Kd.R_mono (Kd.R_bound h) (fun k hk => ?_)) (show B ≤ n by omega)
      have h1 := hk.2.1
      have hp := hA4.lt
      refine ⟨by omega, fun e => ?_, fun e => ?_⟩
      · have := (Kd.R_bound hA4.sets).1 k e.symm; omega
      · have := Kd.N_lt hA4.fol k e.symm; omega
    · exact hS5.row h
  exact ⟨v1, v2, rfl, AutoM.less (AutoM.own hA4 hr hgp (by decide) (hX' gr (.inr rfl)) hO) (fun k hk => hX' k (.inl hk)), hS5, key v1 _ h1, key v2 _ h2⟩
set_option maxRecDepth 100000 in
set_option maxHeartbeats 800000 in
theorem then_ff_calls (X : Nat → Prop) (B p ga : Nat) (vs vf x1 x2 y1 y2 : Value) (s : St) (xf xl yf yl : List Int) (w : World) (hB : B ≤ w.heap.size) (hX : ∀ k, X k → k < w.heap.size) (hA : AutoP X B p vs vf s w) (hs : SOk s) (hm : s.sets.length ≤ 300)
    (hga : w.heap[ga]? = some (.cells #[.pointer (some ⟨p, 0, none⟩)] 71 (0, 0))) (hgp : ga ≠ p)
    (hx : PartM B p vs vf ⟨false, xf, xl⟩ x1 x2 w) (hx1 : EOk s.sets.length ⟨false, xf, xl⟩) (hy : PartM B p vs vf ⟨false, yf, yl⟩ y1 y2 w) (hy1 : EOk s.sets.length ⟨false, yf, yl⟩) :
    Calls Try.prog 73 #[partV false x1 x2, partV false y1 y2, .func (.func 72) #[] #[.pointer (some ⟨ga, 0, none⟩)]] w fun e w' => ∃ v1 v2, e = .returned (partV (thenE (⟨false, xf, xl⟩ : BM.Edge) (⟨false, yf, yl⟩ : BM.Edge)).null v1 v2) ∧
      AutoP X B p vs vf ⟨s.sets, after s.follow xl yf⟩ w' ∧ Stp B p vs vf vs vf w w' ∧ PartM B p vs vf (thenE (⟨false, xf, xl⟩ : BM.Edge) (⟨false, yf, yl⟩ : BM.Edge)) v1 v2 w' := by
  have HA := Aside0.mk hA
  have HS := Aside0.mk hs
  have HG := Aside0.mk hga
  have HX := Aside0.mk hx
  have HY := Aside0.mk hy
  have HX1 := Aside0.mk hx1
  have HY1 := Aside0.mk hy1
  clear hA hs hga hx hx1 hy hy1
  unfold partV
  try dsimp only at *
  obtain ⟨A1, c1, rfl⟩ := Kd.R_slice HX.out.1
  obtain ⟨A2, c2, rfl⟩ := Kd.R_slice HX.out.2
  obtain ⟨A3, c3, rfl⟩ := Kd.R_slice HY.out.1
  obtain ⟨A4, c4, rfl⟩ := Kd.R_slice HY.out.2
  try dsimp only at *
  go_enter Try.func73, Try.ntmps73
  go_wp2_with fail
  have hb3 : Below w.heap.size w (((w.alloc (Obj.cells #[Value.bool false, (.slice A1 xf.length c1), (.slice A2 xl.length c2)] 69)).alloc (Obj.cells #[Value.bool false, (.slice A3 yf.length c3), (.slice A4 yl.length c4)] 69)).alloc (Obj.cells #[Value.bool false, Value.slice none 0 0, Value.slice none 0 0] 69)) := by repeat (first | exact Below.refl _ _ | apply below_alloc)
  have bx : (((w.alloc (Obj.cells #[Value.bool false, (.slice A1 xf.length c1), (.slice A2 xl.length c2)] 69)).alloc (Obj.cells #[Value.bool false, (.slice A3 yf.length c3), (.slice A4 yl.length c4)] 69)).alloc (Obj.cells #[Value.bool false, Value.slice none 0 0, Value.slice none 0 0] 69)).heap[w.heap.size]? = some (.cells #[Value.bool false, (.slice A1 xf.length c1), (.slice A2 xl.length c2)] 69 (0, 0)) := by repeat (first | exact blk_new _ _ | refine blk_alloc ?_ _)
  have by_ : (((w.alloc (Obj.cells #[Value.bool false, (.slice A1 xf.length c1), (.slice A2 xl.length c2)] 69)).alloc (Obj.cells #[Value.bool false, (.slice A3 yf.length c3), (.slice A4 yl.length c4)] 69)).alloc (Obj.cells #[Value.bool false, Value.slice none 0 0, Value.slice none 0 0] 69)).heap[w.heap.size + 1]? = some (.cells #[Value.bool false, (.slice A3 yf.length c3), (.slice A4 yl.length c4)] 69 (0, 0)) := blk_alloc (by simpa using blk_new (w.alloc (Obj.cells #[Value.bool false, (.slice A1 xf.length c1), (.slice A2 xl.length c2)] 69)) (Obj.cells #[Value.bool false, (.slice A3 yf.length c3), (.slice A4 yl.length c4)] 69)) _
  have br : (((w.alloc (Obj.cells #[Value.bool false, (.slice A1 xf.length c1), (.slice A2 xl.length c2)] 69)).alloc (Obj.cells #[Value.bool false, (.slice A3 yf.length c3), (.slice A4 yl.length c4)] 69)).alloc (Obj.cells #[Value.bool false, Value.slice none 0 0, Value.slice none 0 0] 69)).heap[w.heap.size + 2]? = some (.cells #[Value.bool false, Value.slice none 0 0, Value.slice none 0 0] 69 (0, 0)) := by simpa using blk_new ((w.alloc (Obj.cells #[Value.bool false, (.slice A1 xf.length c1), (.slice A2 xl.length c2)] 69)).alloc (Obj.cells #[Value.bool false, (.slice A3 yf.length c3), (.slice A4 yl.length c4)] 69)) (Obj.cells #[Value.bool false, Value.slice none 0 0, Value.slice none 0 0] 69)
  generalize (((w.alloc (Obj.cells #[Value.bool false, (.slice A1 xf.length c1), (.slice A2 xl.length c2)] 69)).alloc (Obj.cells #[Value.bool false, (.slice A3 yf.length c3), (.slice A4 yl.length c4)] 69)).alloc (Obj.cells #[Value.bool false, Value.slice none 0 0, Value.slice none 0 0] 69)) = W at hb3 bx by_ br ⊢
  generalize hgx : w.heap.size = gx at bx by_ br ⊢
  have hS3 := Stp.of_below (p := p) (vs := vs) (vf := vf) hB hb3
  have hA3 := AutoM.more HA.out hb3 (fun k => k = gx ∨ k = gx + 1 ∨ k = gx + 1 + 1) (fun k hk => by omega)
  have hWl : gx + 2 < W.heap.size := (Array.getElem?_eq_some_iff.1 br).1
  have hpx : p < gx := by have := HA.out.lt; omega
  have ax := hA3.away bx (by omega) (by decide) (by decide)
  have ay := hA3.away by_ (by omega) (by decide) (by decide)
  have ar := hA3.away br (by omega) (by decide) (by decide)
  refine (note_calls _ B p ga vs vf (.slice A2 xl.length c2) (.slice A3 yf.length c3) s xl yf W (Nat.le_trans hB hb3.size) (fun k hk => by rcases hk with hk | hk; (have := hX k hk; omega); omega) hA3 HS.out hm (hS3.blk (HA.out.away HG.out hgp (by decide) (by decide)) HG.out) hgp (hS3.row HX.out.2) HX1.out.last (hS3.row HY.out.1) HY1.out.first).mono ?_
  rintro e w4 ⟨rfl, hA4, hS4⟩
  have BX := Aside0.mk (hS4.blk ax bx)
  have BY := Aside0.mk (hS4.blk ay by_)
  have BR := Aside0.mk (hS4.blk ar br)
  have HA4 := Aside0.mk hA4
  have HS4 := Aside0.mk (hS3.trans hS4)
  have cx0 : w4.cell? ⟨gx, 0, none⟩ = some (.bool false) := (blk_cell BX.out 0).trans rfl
  have cx1 : w4.cell? ⟨gx, 1, none⟩ = some (.slice A1 xf.length c1) := (blk_cell BX.out 1).trans rfl
  have cx2 : w4.cell? ⟨gx, 2, none⟩ = some (.slice A2 xl.length c2) := (blk_cell BX.out 2).trans rfl
  have cy0 : w4.cell? ⟨gx + 1, 0, none⟩ = some (.bool false) := (blk_cell BY.out 0).trans rfl
  have cy1 : w4.cell? ⟨gx + 1, 1, none⟩ = some (.slice A3 yf.length c3) := (blk_cell BY.out 1).trans rfl
  have cy2 : w4.cell? ⟨gx + 1, 2, none⟩ = some (.slice A4 yl.length c4) := (blk_cell BY.out 2).trans rfl
  have hlt4 : gx + 2 < w4.heap.size := (Array.getElem?_eq_some_iff.1 BR.out).1
  have cr0 : w4.cell? ⟨gx + 1 + 1, 0, none⟩ = some (.bool false) := (blk_cell BR.out 0).trans rfl
  have cr1 : w4.cell? ⟨gx + 1 + 1, 1, none⟩ = some (.slice none 0 0) := (blk_cell BR.out 1).trans rfl
  have cr2 : w4.cell? ⟨gx + 1 + 1, 2, none⟩ = some (.slice none 0 0) := (blk_cell BR.out 2).trans rfl
  have fr0 : w4.frozen? ⟨gx + 1 + 1, 0, none⟩ = false := blk_frozen BR.out 0
  have fr1 : w4.frozen? ⟨gx + 1 + 1, 1, none⟩ = false := blk_frozen BR.out 1
  have fr2 : w4.frozen? ⟨gx + 1 + 1, 2, none⟩ = false := blk_frozen BR.out 2
  have n1 : (gx == w4.heap.size) = false := by rw [beq_eq_false_iff_ne]; omega
  have n2 : (gx + 1 == w4.heap.size) = false := by rw [beq_eq_false_iff_ne]; omega
  have n3 : ¬ gx = w4.heap.size := by omega
  have n4 : ¬ gx + 1 = w4.heap.size := by omega
  have n5 : ¬ w4.heap.size = gx := by omega
  have n6 : ¬ w4.heap.size = gx + 1 := by omega
  have n7 : gx < w4.heap.size := by omega
  have n8 : gx + 1 < w4.heap.size := by omega
  have n9 : gx + 1 + 1 < w4.heap.size := by omega
  have n10 : ¬ gx + 1 + 1 = w4.heap.size := by omega
  have n11 : ¬ w4.heap.size = gx + 1 + 1 := by omega
  have n12 : (gx + 1 + 1 == w4.heap.size) = false := by rw [beq_eq_false_iff_ne]; omega
  clear hb3 bx by_ br hS3 hA3 ax ay ar hA4 hS4
  go_wp2_with fail
  refine bodyPost_ret (results_c1 (P := Try.prog) rfl _ _ (gx + 1 + 1) 69 #[.bool false, .slice A1 xf.length c1, .slice A4 yl.length c4] (0, 0) _ rfl ?_ Try.underlying69 rfl (by kernel_rfl)) rfl ?_
  · exact blk_alloc (set3 BR.out) _
  · have hO : Own (gx + 1 + 1) w4 ((((w4.setCell ⟨gx + 1 + 1, 0, none⟩ (.bool false)).setCell ⟨gx + 1 + 1, 1, none⟩ (.slice A1 xf.length c1)).setCell ⟨gx + 1 + 1, 2, none⟩ (.slice A4 yl.length c4)).alloc (Obj.cells #[Value.bool false, Value.slice A1 xf.length c1, Value.slice A4 yl.length c4] 69)) :=
      ⟨rfl, rfl, rfl, by simp [World.setCell], fun k hk hne => (heap_alloc_old _ _ (by simpa [World.setCell] using hk)).trans (set3_other hne)⟩
    have hS5 := Stp.own hB HS4.out (by omega) hO
    exact ⟨_, _, rfl, AutoM.less (AutoM.own HA4.out BR.out (by omega) (by decide) (.inr (.inr (.inr rfl))) hO) (fun k hk => .inl hk), hS5, hS5.row HX.out.1, hS5.row HY.out.2⟩
set_option maxRecDepth 100000 in
set_option maxHeartbeats 800000 in
theorem then_ft_calls (X : Nat → Prop) (B p ga : Nat) (vs vf x1 x2 y1 y2 : Value) (s : St) (xf xl yf yl : List Int) (w : World) (hB : B ≤ w.heap.size) (hX : ∀ k, X k → k < w.heap.size) (hA : AutoP X B p vs vf s w) (hs : SOk s) (hm : s.sets.length ≤ 300)
    (hga : w.heap[ga]? = some (.cells #[.pointer (some ⟨p, 0, none⟩)] 71 (0, 0))) (hgp : ga ≠ p)
    (hx : PartM B p vs vf ⟨false, xf, xl⟩ x1 x2 w) (hx1 : EOk s.sets.length ⟨false, xf, xl⟩) (hy : PartM B p vs vf ⟨true, yf, yl⟩ y1 y2 w) (hy1 : EOk s.sets.length ⟨true, yf, yl⟩) :
    Calls Try.prog 73 #[partV false x1 x2, partV true y1 y2, .func (.func 72) #[] #[.pointer (some ⟨ga, 0, none⟩)]] w fun e w' => ∃ v1 v2, e = .returned (partV (thenE (⟨false, xf, xl⟩ : BM.Edge) (⟨true, yf, yl⟩ : BM.Edge)).null v1 v2) ∧
      AutoP X B p vs vf ⟨s.sets, after s.follow xl yf⟩ w' ∧ Stp B p vs vf vs vf w w' ∧ PartM B p vs vf (thenE (⟨false, xf, xl⟩ : BM.Edge) (⟨true, yf, yl⟩ : BM.Edge)) v1 v2 w' := by
  have HA := Aside0.mk hA
  have HS := Aside0.mk hs
  have HG := Aside0.mk hga
  have HX := Aside0.mk hx
  have HY := Aside0.mk hy
  have HX1 := Aside0.mk hx1
  have HY1 := Aside0.mk hy1
  clear hA hs hga hx hx1 hy hy1
  unfold partV
  try dsimp only at *
  obtain ⟨A1, c1, rfl⟩ := Kd.R_slice HX.out.1
  obtain ⟨A2, c2, rfl⟩ := Kd.R_slice HX.out.2
  obtain ⟨A3, c3, rfl⟩ := Kd.R_slice HY.out.1
  obtain ⟨A4, c4, rfl⟩ := Kd.R_slice HY.out.2
  try dsimp only at *
  go_enter Try.func73, Try.ntmps73
  go_wp2_with fail
  have hb3 : Below w.heap.size w (((w.alloc (Obj.cells #[Value.bool false, (.slice A1 xf.length c1), (.slice A2 xl.length c2)] 69)).alloc (Obj.cells #[Value.bool true, (.slice A3 yf.length c3), (.slice A4 yl.length c4)] 69)).alloc (Obj.cells #[Value.bool false, Value.slice none 0 0, Value.slice none 0 0] 69)) := by repeat (first | exact Below.refl _ _ | apply below_alloc)
  have bx : (((w.alloc (Obj.cells #[Value.bool false, (.slice A1 xf.length c1), (.slice A2 xl.length c2)] 69)).alloc (Obj.cells #[Value.bool true, (.slice A3 yf.length c3), (.slice A4 yl.length c4)] 69)).alloc (Obj.cells #[Value.bool false, Value.slice none 0 0, Value.slice none 0 0] 69)).heap[w.heap.size]? = some (.cells #[Value.bool false, (.slice A1 xf.length c1), (.slice A2 xl.length c2)] 69 (0, 0)) := by repeat (first | exact blk_new _ _ | refine blk_alloc ?_ _)
  have by_ : (((w.alloc (Obj.cells #[Value.bool false, (.slice A1 xf.length c1), (.slice A2 xl.length c2)] 69)).alloc (Obj.cells #[Value.bool true, (.slice A3 yf.length c3), (.slice A4 yl.length c4)] 69)).alloc (Obj.cells #[Value.bool false, Value.slice none 0 0, Value.slice none 0 0] 69)).heap[w.heap.size + 1]? = some (.cells #[Value.bool true, (.slice A3 yf.length c3), (.slice A4 yl.length c4)] 69 (0, 0)) := blk_alloc (by simpa using blk_new (w.alloc (Obj.cells #[Value.bool false, (.slice A1 xf.length c1), (.slice A2 xl.length c2)] 69)) (Obj.cells #[Value.bool true, (.slice A3 yf.length c3), (.slice A4 yl.length c4)] 69)) _
  have br : (((w.alloc (Obj.cells #[Value.bool false, (.slice A1 xf.length c1), (.slice A2 xl.length c2)] 69)).alloc (Obj.cells #[Value.bool true, (.slice A3 yf.length c3), (.slice A4 yl.length c4)] 69)).alloc (Obj.cells #[Value.bool false, Value.slice none 0 0, Value.slice none 0 0] 69)).heap[w.heap.size + 2]? = some (.cells #[Value.bool false, Value.slice none 0 0, Value.slice none 0 0] 69 (0, 0)) := by simpa using blk_new ((w.alloc (Obj.cells #[Value.bool false, (.slice A1 xf.length c1), (.slice A2 xl.length c2)] 69)).alloc (Obj.cells #[Value.bool true, (.slice A3 yf.length c3), (.slice A4 yl.length c4)] 69)) (Obj.cells #[Value.bool false, Value.slice none 0 0, Value.slice none 0 0] 69)
  generalize (((w.alloc (Obj.cells #[Value.bool false, (.slice A1 xf.length c1), (.slice A2 xl.length c2)] 69)).alloc (Obj.cells #[Value.bool true, (.slice A3 yf.length c3), (.slice A4 yl.length c4)] 69)).alloc (Obj.cells #[Value.bool false, Value.slice none 0 0, Value.slice none 0 0] 69)) = W at hb3 bx by_ br ⊢
  generalize hgx : w.heap.size = gx at bx by_ br ⊢
  have hS3 := Stp.of_below (p := p) (vs := vs) (vf := vf) hB hb3
  have hA3 := AutoM.more HA.out hb3 (fun k => k = gx ∨ k = gx + 1 ∨ k = gx + 1 + 1) (fun k hk => by omega)
  have hWl : gx + 2 < W.heap.size := (Array.getElem?_eq_some_iff.1 br).1
  have hpx : p < gx := by have := HA.out.lt; omega
  have ax := hA3.away bx (by omega) (by decide) (by decide)
  have ay := hA3.away by_ (by omega) (by decide) (by decide)
  have ar := hA3.away br (by omega) (by decide) (by decide)
  refine (note_calls _ B p ga vs vf (.slice A2 xl.length c2) (.slice A3 yf.length c3) s xl yf W (Nat.le_trans hB hb3.size) (fun k hk => by rcases hk with hk | hk; (have := hX k hk; omega); omega) hA3 HS.out hm (hS3.blk (HA.out.away HG.out hgp (by decide) (by decide)) HG.out) hgp (hS3.row HX.out.2) HX1.out.last (hS3.row HY.out.1) HY1.out.first).mono ?_
  rintro e w4 ⟨rfl, hA4, hS4⟩
  have BX := Aside0.mk (hS4.blk ax bx)
  have BY := Aside0.mk (hS4.blk ay by_)
  have BR := Aside0.mk (hS4.blk ar br)
  have HA4 := Aside0.mk hA4
  have HS4 := Aside0.mk (hS3.trans hS4)
  have cx0 : w4.cell? ⟨gx, 0, none⟩ = some (.bool false) := (blk_cell BX.out 0).trans rfl
  have cx1 : w4.cell? ⟨gx, 1, none⟩ = some (.slice A1 xf.length c1) := (blk_cell BX.out 1).trans rfl
  have cx2 : w4.cell? ⟨gx, 2, none⟩ = some (.slice A2 xl.length c2) := (blk_cell BX.out 2).trans rfl
  have cy0 : w4.cell? ⟨gx + 1, 0, none⟩ = some (.bool true) := (blk_cell BY.out 0).trans rfl
  have cy1 : w4.cell? ⟨gx + 1, 1, none⟩ = some (.slice A3 yf.length c3) := (blk_cell BY.out 1).trans rfl
  have cy2 : w4.cell? ⟨gx + 1, 2, none⟩ = some (.slice A4 yl.length c4) := (blk_cell BY.out 2).trans rfl
  have hlt4 : gx + 2 < w4.heap.size := (Array.getElem?_eq_some_iff.1 BR.out).1
  have cr0 : w4.cell? ⟨gx + 1 + 1, 0, none⟩ = some (.bool false) := (blk_cell BR.out 0).trans rfl
  have cr1 : w4.cell? ⟨gx + 1 + 1, 1, none⟩ = some (.slice none 0 0) := (blk_cell BR.out 1).trans rfl
  have cr2 : w4.cell? ⟨gx + 1 + 1, 2, none⟩ = some (.slice none 0 0) := (blk_cell BR.out 2).trans rfl
  have fr0 : w4.frozen? ⟨gx + 1 + 1, 0, none⟩ = false := blk_frozen BR.out 0
  have fr1 : w4.frozen? ⟨gx + 1 + 1, 1, none⟩ = false := blk_frozen BR.out 1
  have fr2 : w4.frozen? ⟨gx + 1 + 1, 2, none⟩ = false := blk_frozen BR.out 2
  have n1 : (gx == w4.heap.size) = false := by rw [beq_eq_false_iff_ne]; omega
  have n2 : (gx + 1 == w4.heap.size) = false := by rw [beq_eq_false_iff_ne]; omega
  have n3 : ¬ gx = w4.heap.size := by omega
  have n4 : ¬ gx + 1 = w4.heap.size := by omega
  have n5 : ¬ w4.heap.size = gx := by omega
  have n6 : ¬ w4.heap.size = gx + 1 := by omega
  have n7 : gx < w4.heap.size := by omega
  have n8 : gx + 1 < w4.heap.size := by omega
  have n9 : gx + 1 + 1 < w4.heap.size := by omega
  have n10 : ¬ gx + 1 + 1 = w4.heap.size := by omega
  have n11 : ¬ w4.heap.size = gx + 1 + 1 := by omega
  have n12 : (gx + 1 + 1 == w4.heap.size) = false := by rw [beq_eq_false_iff_ne]; omega
  clear hb3 bx by_ br hS3 hA3 ax ay ar hA4 hS4
  go_wp2_with fail
  have rx6 := Kd.R_reads' (HS4.out.row HX.out.2)
  have ry6 := Kd.R_reads' (HS4.out.row HY.out.2)
  refine (with_fp A2 A4 c2 c4 xl yl _ (Kd.C_alloc rx6.2.2 _) rx6.2.1 (Kd.C_alloc ry6.2.2 _) ry6.2.1 (by have h1 := HX1.out.last.len; have h2 := HY1.out.last.len; dsimp only at h1 h2; omega)).mono ?_
  rintro e w6 ⟨v6', rfl, hR, hb6⟩
  clear rx6 ry6
  obtain ⟨Av6, cv6, rfl⟩ := Kd.R_slice hR
  generalize hz : fin (xl ++ yl) = z6 at hR
  have HZ6 := Aside0.mk hz
  clear hz
  have HR6 := Aside0.mk hR
  have HB6 := Aside0.mk hb6
  clear hR
  have BX6 := Aside0.mk (blk_below (blk_alloc BX.out _) hb6)
  have BY6 := Aside0.mk (blk_below (blk_alloc BY.out _) hb6)
  have BR6 := Aside0.mk (blk_below (blk_alloc BR.out _) hb6)
  have BO6 := Aside0.mk (blk_below (blk_new w4 _) hb6)
  have hl6 : w4.heap.size < w6.heap.size := (Array.getElem?_eq_some_iff.1 BO6.out).1
  clear hb6
  have xc6_0 : w6.cell? ⟨gx, 0, none⟩ = some (.bool false) := (blk_cell BX6.out 0).trans rfl
  have xc6_1 : w6.cell? ⟨gx, 1, none⟩ = some (.slice A1 xf.length c1) := (blk_cell BX6.out 1).trans rfl
  have xc6_2 : w6.cell? ⟨gx, 2, none⟩ = some (.slice A2 xl.length c2) := (blk_cell BX6.out 2).trans rfl
  have yc6_0 : w6.cell? ⟨gx + 1, 0, none⟩ = some (.bool true) := (blk_cell BY6.out 0).trans rfl
  have yc6_1 : w6.cell? ⟨gx + 1, 1, none⟩ = some (.slice A3 yf.length c3) := (blk_cell BY6.out 1).trans rfl
  have yc6_2 : w6.cell? ⟨gx + 1, 2, none⟩ = some (.slice A4 yl.length c4) := (blk_cell BY6.out 2).trans rfl
  have rc6_0 : w6.cell? ⟨gx + 1 + 1, 0, none⟩ = some (.bool false) := (blk_cell BR6.out 0).trans rfl
  have rc6_1 : w6.cell? ⟨gx + 1 + 1, 1, none⟩ = some (.slice none 0 0) := (blk_cell BR6.out 1).trans rfl
  have rc6_2 : w6.cell? ⟨gx + 1 + 1, 2, none⟩ = some (.slice none 0 0) := (blk_cell BR6.out 2).trans rfl
  have oc6_0 : w6.cell? ⟨w4.heap.size, 0, none⟩ = some (.bool false) := (blk_cell BO6.out 0).trans rfl
  have oc6_1 : w6.cell? ⟨w4.heap.size, 1, none⟩ = some (.slice A1 xf.length c1) := (blk_cell BO6.out 1).trans rfl
  have oc6_2 : w6.cell? ⟨w4.heap.size, 2, none⟩ = some (.slice A4 yl.length c4) := (blk_cell BO6.out 2).trans rfl
  have rf6_0 : w6.frozen? ⟨gx + 1 + 1, 0, none⟩ = false := blk_frozen BR6.out 0
  have rf6_1 : w6.frozen? ⟨gx + 1 + 1, 1, none⟩ = false := blk_frozen BR6.out 1
  have rf6_2 : w6.frozen? ⟨gx + 1 + 1, 2, none⟩ = false := blk_frozen BR6.out 2
  have of6_0 : w6.frozen? ⟨w4.heap.size, 0, none⟩ = false := blk_frozen BO6.out 0
  have of6_1 : w6.frozen? ⟨w4.heap.size, 1, none⟩ = false := blk_frozen BO6.out 1
  have of6_2 : w6.frozen? ⟨w4.heap.size, 2, none⟩ = false := blk_frozen BO6.out 2
  clear cx0 cx1 cx2 cy0 cy1 cy2 cr0 cr1 cr2 fr0 fr1 fr2
  go_wp2_with fail
  refine bodyPost_ret (results_c1 (P := Try.prog) rfl _ _ (gx + 1 + 1) 69 #[.bool false, .slice A1 xf.length c1, Value.slice Av6 z6.length cv6] (0, 0) _ rfl ?_ Try.underlying69 rfl (by kernel_rfl)) rfl ?_
  · exact set3 (blk_far BR6.out (by show gx + 1 + 1 ≠ w4.heap.size; omega) _)
  · have hs6 := HB6.out.size
    simp only [World.alloc, Array.size_push] at hs6
    refine then_end X B p (gx + 1 + 1) vs vf s _ _ w w4 _ hB hX HS4.out HA4.out BR.out (by omega) (by omega) (fun k hk => ?_) ⟨HB6.out.os, HB6.out.tape, HB6.out.output, by simp [World.setCell]; omega, fun k hk hne => ?_⟩ rfl ?_ ?_
    · rcases hk with h | h | h | h
      · exact .inl h
      all_goals (right; omega)
    · exact (set3_other hne).trans ((Below.heap_setCell _ _ _ k (by show k ≠ w4.heap.size; omega)).trans ((HB6.out.block k (by simp; omega)).trans (Below.heap_alloc _ _ k hk)))
    · exact .inr HX.out.1
    · refine .inl ⟨w4.heap.size + 1, by omega, ?_⟩
      show Kd.R kI 3 _ _ _ _ (fin (xl ++ yl))
      rw [HZ6.out]
      refine R_from (b := w4.heap.size + 1) (by simpa using HR6.out) (fun k hk hlt => ?_)
      exact (set3_other (by omega)).trans (Below.heap_setCell _ _ _ k (by show k ≠ w4.heap.size; omega))
set_option maxRecDepth 100000 in
set_option maxHeartbeats 800000 in
theorem then_tf_calls (X : Nat → Prop) (B p ga : Nat) (vs vf x1 x2 y1 y2 : Value) (s : St) (xf xl yf yl : List Int) (w : World) (hB : B ≤ w.heap.size) (hX : ∀ k, X k → k < w.heap.size) (hA : AutoP X B p vs vf s w) (hs : SOk s) (hm : s.sets.length ≤ 300)
    (hga : w.heap[ga]? = some (.cells #[.pointer (some ⟨p, 0, none⟩)] 71 (0, 0))) (hgp : ga ≠ p)
    (hx : PartM B p vs vf ⟨true, xf, xl⟩ x1 x2 w) (hx1 : EOk s.sets.length ⟨true, xf, xl⟩) (hy : PartM B p vs vf ⟨false, yf, yl⟩ y1 y2 w) (hy1 : EOk s.sets.length ⟨false, yf, yl⟩) :
    Calls Try.prog 73 #[partV true x1 x2, partV false y1 y2, .func (.func 72) #[] #[.pointer (some ⟨ga, 0, none⟩)]] w fun e w' => ∃ v1 v2, e = .returned (partV (thenE (⟨true, xf, xl⟩ : BM.Edge) (⟨false, yf, yl⟩ : BM.Edge)).null v1 v2) ∧
      AutoP X B p vs vf ⟨s.sets, after s.follow xl yf⟩ w' ∧ Stp B p vs vf vs vf w w' ∧ PartM B p vs vf (thenE (⟨true, xf, xl⟩ : BM.Edge) (⟨false, yf, yl⟩ : BM.Edge)) v1 v2 w' := by
  have HA := Aside0.mk hA
  have HS := Aside0.mk hs
  have HG := Aside0.mk hga
  have HX := Aside0.mk hx
  have HY := Aside0.mk hy
  have HX1 := Aside0.mk hx1
  have HY1 := Aside0.mk hy1
  clear hA hs hga hx hx1 hy hy1
  unfold partV
  try dsimp only at *
  obtain ⟨A1, c1, rfl⟩ := Kd.R_slice HX.out.1
  obtain ⟨A2, c2, rfl⟩ := Kd.R_slice HX.out.2
  obtain ⟨A3, c3, rfl⟩ := Kd.R_slice HY.out.1
  obtain ⟨A4, c4, rfl⟩ := Kd.R_slice HY.out.2
  try dsimp only at *
  go_enter Try.func73, Try.ntmps73
  go_wp2_with fail
  have hb3 : Below w.heap.size w (((w.alloc (Obj.cells #[Value.bool true, (.slice A1 xf.length c1), (.slice A2 xl.length c2)] 69)).alloc (Obj.cells #[Value.bool false, (.slice A3 yf.length c3), (.slice A4 yl.length c4)] 69)).alloc (Obj.cells #[Value.bool false, Value.slice none 0 0, Value.slice none 0 0] 69)) := by repeat (first | exact Below.refl _ _ | apply below_alloc)
  have bx : (((w.alloc (Obj.cells #[Value.bool true, (.slice A1 xf.length c1), (.slice A2 xl.length c2)] 69)).alloc (Obj.cells #[Value.bool false, (.slice A3 yf.length c3), (.slice A4 yl.length c4)] 69)).alloc (Obj.cells #[Value.bool false, Value.slice none 0 0, Value.slice none 0 0] 69)).heap[w.heap.size]? = some (.cells #[Value.bool true, (.slice A1 xf.length c1), (.slice A2 xl.length c2)] 69 (0, 0)) := by repeat (first | exact blk_new _ _ | refine blk_alloc ?_ _)
  have by_ : (((w.alloc (Obj.cells #[Value.bool true, (.slice A1 xf.length c1), (.slice A2 xl.length c2)] 69)).alloc (Obj.cells #[Value.bool false, (.slice A3 yf.length c3), (.slice A4 yl.length c4)] 69)).alloc (Obj.cells #[Value.bool false, Value.slice none 0 0, Value.slice none 0 0] 69)).heap[w.heap.size + 1]? = some (.cells #[Value.bool false, (.slice A3 yf.length c3), (.slice A4 yl.length c4)] 69 (0, 0)) := blk_alloc (by simpa using blk_new (w.alloc (Obj.cells #[Value.bool true, (.slice A1 xf.length c1), (.slice A2 xl.length c2)] 69)) (Obj.cells #[Value.bool false, (.slice A3 yf.length c3), (.slice A4 yl.length c4)] 69)) _
  have br : (((w.alloc (Obj.cells #[Value.bool true, (.slice A1 xf.length c1), (.slice A2 xl.length c2)] 69)).alloc (Obj.cells #[Value.bool false, (.slice A3 yf.length c3), (.slice A4 yl.length c4)] 69)).alloc (Obj.cells #[Value.bool false, Value.slice none 0 0, Value.slice none 0 0] 69)).heap[w.heap.size + 2]? = some (.cells #[Value.bool false, Value.slice none 0 0, Value.slice none 0 0] 69 (0, 0)) := by simpa using blk_new ((w.alloc (Obj.cells #[Value.bool true, (.slice A1 xf.length c1), (.slice A2 xl.length c2)] 69)).alloc (Obj.cells #[Value.bool false, (.slice A3 yf.length c3), (.slice A4 yl.length c4)] 69)) (Obj.cells #[Value.bool false, Value.slice none 0 0, Value.slice none 0 0] 69)
  generalize (((w.alloc (Obj.cells #[Value.bool true, (.slice A1 xf.length c1), (.slice A2 xl.length c2)] 69)).alloc (Obj.cells #[Value.bool false, (.slice A3 yf.length c3), (.slice A4 yl.length c4)] 69)).alloc (Obj.cells #[Value.bool false, Value.slice none 0 0, Value.slice none 0 0] 69)) = W at hb3 bx by_ br ⊢
  generalize hgx : w.heap.size = gx at bx by_ br ⊢
  have hS3 := Stp.of_below (p := p) (vs := vs) (vf := vf) hB hb3
  have hA3 := AutoM.more HA.out hb3 (fun k => k = gx ∨ k = gx + 1 ∨ k = gx + 1 + 1) (fun k hk => by omega)
  have hWl : gx + 2 < W.heap.size := (Array.getElem?_eq_some_iff.1 br).1
  have hpx : p < gx := by have := HA.out.lt; omega
  have ax := hA3.away bx (by omega) (by decide) (by decide)
  have ay := hA3.away by_ (by omega) (by decide) (by decide)
  have ar := hA3.away br (by omega) (by decide) (by decide)
  refine (note_calls _ B p ga vs vf (.slice A2 xl.length c2) (.slice A3 yf.length c3) s xl yf W (Nat.le_trans hB hb3.size) (fun k hk => by rcases hk with hk | hk; (have := hX k hk; omega); omega) hA3 HS.out hm (hS3.blk (HA.out.away HG.out hgp (by decide) (by decide)) HG.out) hgp (hS3.row HX.out.2) HX1.out.last (hS3.row HY.out.1) HY1.out.first).mono ?_
  rintro e w4 ⟨rfl, hA4, hS4⟩
  have BX := Aside0.mk (hS4.blk ax bx)
  have BY := Aside0.mk (hS4.blk ay by_)
  have BR := Aside0.mk (hS4.blk ar br)
  have HA4 := Aside0.mk hA4
  have HS4 := Aside0.mk (hS3.trans hS4)
  have cx0 : w4.cell? ⟨gx, 0, none⟩ = some (.bool true) := (blk_cell BX.out 0).trans rfl
  have cx1 : w4.cell? ⟨gx, 1, none⟩ = some (.slice A1 xf.length c1) := (blk_cell BX.out 1).trans rfl
  have cx2 : w4.cell? ⟨gx, 2, none⟩ = some (.slice A2 xl.length c2) := (blk_cell BX.out 2).trans rfl
  have cy0 : w4.cell? ⟨gx + 1, 0, none⟩ = some (.bool false) := (blk_cell BY.out 0).trans rfl
  have cy1 : w4.cell? ⟨gx + 1, 1, none⟩ = some (.slice A3 yf.length c3) := (blk_cell BY.out 1).trans rfl
  have cy2 : w4.cell? ⟨gx + 1, 2, none⟩ = some (.slice A4 yl.length c4) := (blk_cell BY.out 2).trans rfl
  have hlt4 : gx + 2 < w4.heap.size := (Array.getElem?_eq_some_iff.1 BR.out).1
  have cr0 : w4.cell? ⟨gx + 1 + 1, 0, none⟩ = some (.bool false) := (blk_cell BR.out 0).trans rfl
  have cr1 : w4.cell? ⟨gx + 1 + 1, 1, none⟩ = some (.slice none 0 0) := (blk_cell BR.out 1).trans rfl
  have cr2 : w4.cell? ⟨gx + 1 + 1, 2, none⟩ = some (.slice none 0 0) := (blk_cell BR.out 2).trans rfl
  have fr0 : w4.frozen? ⟨gx + 1 + 1, 0, none⟩ = false := blk_frozen BR.out 0
  have fr1 : w4.frozen? ⟨gx + 1 + 1, 1, none⟩ = false := blk_frozen BR.out 1
  have fr2 : w4.frozen? ⟨gx + 1 + 1, 2, none⟩ = false := blk_frozen BR.out 2
  have n1 : (gx == w4.heap.size) = false := by rw [beq_eq_false_iff_ne]; omega
  have n2 : (gx + 1 == w4.heap.size) = false := by rw [beq_eq_false_iff_ne]; omega
  have n3 : ¬ gx = w4.heap.size := by omega
  have n4 : ¬ gx + 1 = w4.heap.size := by omega
  have n5 : ¬ w4.heap.size = gx := by omega
  have n6 : ¬ w4.heap.size = gx + 1 := by omega
  have n7 : gx < w4.heap.size := by omega
  have n8 : gx + 1 < w4.heap.size := by omega
  have n9 : gx + 1 + 1 < w4.heap.size := by omega
  have n10 : ¬ gx + 1 + 1 = w4.heap.size := by omega
  have n11 : ¬ w4.heap.size = gx + 1 + 1 := by omega
  have n12 : (gx + 1 + 1 == w4.heap.size) = false := by rw [beq_eq_false_iff_ne]; omega
  clear hb3 bx by_ br hS3 hA3 ax ay ar hA4 hS4
  go_wp2_with fail
  have rx6 := Kd.R_reads' (HS4.out.row HX.out.1)
  have ry6 := Kd.R_reads' (HS4.out.row HY.out.1)
  refine (with_fp A1 A3 c1 c3 xf yf _ (Kd.C_alloc rx6.2.2 _) rx6.2.1 (Kd.C_alloc ry6.2.2 _) ry6.2.1 (by have h1 := HX1.out.first.len; have h2 := HY1.out.first.len; dsimp only at h1 h2; omega)).mono ?_
  rintro e w6 ⟨v6', rfl, hR, hb6⟩
  clear rx6 ry6
  obtain ⟨Av6, cv6, rfl⟩ := Kd.R_slice hR
  generalize hz : fin (xf ++ yf) = z6 at hR
  have HZ6 := Aside0.mk hz
  clear hz
  have HR6 := Aside0.mk hR
  have HB6 := Aside0.mk hb6
  clear hR
  have BX6 := Aside0.mk (blk_below (blk_alloc BX.out _) hb6)
  have BY6 := Aside0.mk (blk_below (blk_alloc BY.out _) hb6)
  have BR6 := Aside0.mk (blk_below (blk_alloc BR.out _) hb6)
  have BO6 := Aside0.mk (blk_below (blk_new w4 _) hb6)
  have hl6 : w4.heap.size < w6.heap.size := (Array.getElem?_eq_some_iff.1 BO6.out).1
  clear hb6
  have xc6_0 : w6.cell? ⟨gx, 0, none⟩ = some (.bool true) := (blk_cell BX6.out 0).trans rfl
  have xc6_1 : w6.cell? ⟨gx, 1, none⟩ = some (.slice A1 xf.length c1) := (blk_cell BX6.out 1).trans rfl
  have xc6_2 : w6.cell? ⟨gx, 2, none⟩ = some (.slice A2 xl.length c2) := (blk_cell BX6.out 2).trans rfl
  have yc6_0 : w6.cell? ⟨gx + 1, 0, none⟩ = some (.bool false) := (blk_cell BY6.out 0).trans rfl
  have yc6_1 : w6.cell? ⟨gx + 1, 1, none⟩ = some (.slice A3 yf.length c3) := (blk_cell BY6.out 1).trans rfl
  have yc6_2 : w6.cell? ⟨gx + 1, 2, none⟩ = some (.slice A4 yl.length c4) := (blk_cell BY6.out 2).trans rfl
  have rc6_0 : w6.cell? ⟨gx + 1 + 1, 0, none⟩ = some (.bool false) := (blk_cell BR6.out 0).trans rfl
  have rc6_1 : w6.cell? ⟨gx + 1 + 1, 1, none⟩ = some (.slice none 0 0) := (blk_cell BR6.out 1).trans rfl
  have rc6_2 : w6.cell? ⟨gx + 1 + 1, 2, none⟩ = some (.slice none 0 0) := (blk_cell BR6.out 2).trans rfl
  have oc6_0 : w6.cell? ⟨w4.heap.size, 0, none⟩ = some (.bool false) := (blk_cell BO6.out 0).trans rfl
  have oc6_1 : w6.cell? ⟨w4.heap.size, 1, none⟩ = some (.slice A1 xf.length c1) := (blk_cell BO6.out 1).trans rfl
  have oc6_2 : w6.cell? ⟨w4.heap.size, 2, none⟩ = some (.slice A4 yl.length c4) := (blk_cell BO6.out 2).trans rfl
  have rf6_0 : w6.frozen? ⟨gx + 1 + 1, 0, none⟩ = false := blk_frozen BR6.out 0
  have rf6_1 : w6.frozen? ⟨gx + 1 + 1, 1, none⟩ = false := blk_frozen BR6.out 1
  have rf6_2 : w6.frozen? ⟨gx + 1 + 1, 2, none⟩ = false := blk_frozen BR6.out 2
  have of6_0 : w6.frozen? ⟨w4.heap.size, 0, none⟩ = false := blk_frozen BO6.out 0
  have of6_1 : w6.frozen? ⟨w4.heap.size, 1, none⟩ = false := blk_frozen BO6.out 1
  have of6_2 : w6.frozen? ⟨w4.heap.size, 2, none⟩ = false := blk_frozen BO6.out 2
  clear cx0 cx1 cx2 cy0 cy1 cy2 cr0 cr1 cr2 fr0 fr1 fr2
  go_wp2_with fail
  refine bodyPost_ret (results_c1 (P := Try.prog) rfl _ _ (gx + 1 + 1) 69 #[.bool false, Value.slice Av6 z6.length cv6, .slice A4 yl.length c4] (0, 0) _ rfl ?_ Try.underlying69 rfl (by kernel_rfl)) rfl ?_
  · exact set3 (blk_far BR6.out (by show gx + 1 + 1 ≠ w4.heap.size; omega) _)
  · have hs6 := HB6.out.size
    simp only [World.alloc, Array.size_push] at hs6
    refine then_end X B p (gx + 1 + 1) vs vf s _ _ w w4 _ hB hX HS4.out HA4.out BR.out (by omega) (by omega) (fun k hk => ?_) ⟨HB6.out.os, HB6.out.tape, HB6.out.output, by simp [World.setCell]; omega, fun k hk hne => ?_⟩ rfl ?_ ?_
    · rcases hk with h | h | h | h
      · exact .inl h
      all_goals (right; omega)
    · exact (set3_other hne).trans ((Below.heap_setCell _ _ _ k (by show k ≠ w4.heap.size; omega)).trans ((HB6.out.block k (by simp; omega)).trans (Below.heap_alloc _ _ k hk)))
    · refine .inl ⟨w4.heap.size + 1, by omega, ?_⟩
      show Kd.R kI 3 _ _ _ _ (fin (xf ++ yf))
      rw [HZ6.out]
      refine R_from (b := w4.heap.size + 1) (by simpa using HR6.out) (fun k hk hlt => ?_)
      exact (set3_other (by omega)).trans (Below.heap_setCell _ _ _ k (by show k ≠ w4.heap.size; omega))
    · exact .inr HY.out.2
set_option maxRecDepth 100000 in
set_option maxHeartbeats 800000 in
theorem then_tt_calls (X : Nat → Prop) (B p ga : Nat) (vs vf x1 x2 y1 y2 : Value) (s : St) (xf xl yf yl : List Int) (w : World) (hB : B ≤ w.heap.size) (hX : ∀ k, X k → k < w.heap.size) (hA : AutoP X B p vs vf s w) (hs : SOk s) (hm : s.sets.length ≤ 300)
    (hga : w.heap[ga]? = some (.cells #[.pointer (some ⟨p, 0, none⟩)] 71 (0, 0))) (hgp : ga ≠ p)
    (hx : PartM B p vs vf ⟨true, xf, xl⟩ x1 x2 w) (hx1 : EOk s.sets.length ⟨true, xf, xl⟩) (hy : PartM B p vs vf ⟨true, yf, yl⟩ y1 y2 w) (hy1 : EOk s.sets.length ⟨true, yf, yl⟩) :
    Calls Try.prog 73 #[partV true x1 x2, partV true y1 y2, .func (.func 72) #[] #[.pointer (some ⟨ga, 0, none⟩)]] w fun e w' => ∃ v1 v2, e = .returned (partV (thenE (⟨true, xf, xl⟩ : BM.Edge) (⟨true, yf, yl⟩ : BM.Edge)).null v1 v2) ∧
      AutoP X B p vs vf ⟨s.sets, after s.follow xl yf⟩ w' ∧ Stp B p vs vf vs vf w w' ∧ PartM B p vs vf (thenE (⟨true, xf, xl⟩ : BM.Edge) (⟨true, yf, yl⟩ : BM.Edge)) v1 v2 w' := by
  have HA := Aside0.mk hA
  have HS := Aside0.mk hs
  have HG := Aside0.mk hga
  have HX := Aside0.mk hx
  have HY := Aside0.mk hy
  have HX1 := Aside0.mk hx1
  have HY1 := Aside0.mk hy1
  clear hA hs hga hx hx1 hy hy1
  unfold partV
  try dsimp only at *
  obtain ⟨A1, c1, rfl⟩ := Kd.R_slice HX.out.1
  obtain ⟨A2, c2, rfl⟩ := Kd.R_slice HX.out.2
  obtain ⟨A3, c3, rfl⟩ := Kd.R_slice HY.out.1
  obtain ⟨A4, c4, rfl⟩ := Kd.R_slice HY.out.2
  try dsimp only at *
  go_enter Try.func73, Try.ntmps73
  go_wp2_with fail
  have hb3 : Below w.heap.size w (((w.alloc (Obj.cells #[Value.bool true, (.slice A1 xf.length c1), (.slice A2 xl.length c2)] 69)).alloc (Obj.cells #[Value.bool true, (.slice A3 yf.length c3), (.slice A4 yl.length c4)] 69)).alloc (Obj.cells #[Value.bool false, Value.slice none 0 0, Value.slice none 0 0] 69)) := by repeat (first | exact Below.refl _ _ | apply below_alloc)
  have bx : (((w.alloc (Obj.cells #[Value.bool true, (.slice A1 xf.length c1), (.slice A2 xl.length c2)] 69)).alloc (Obj.cells #[Value.bool true, (.slice A3 yf.length c3), (.slice A4 yl.length c4)] 69)).alloc (Obj.cells #[Value.bool false, Value.slice none 0 0, Value.slice none 0 0] 69)).heap[w.heap.size]? = some (.cells #[Value.bool true, (.slice A1 xf.length c1), (.slice A2 xl.length c2)] 69 (0, 0)) := by repeat (first | exact blk_new _ _ | refine blk_alloc ?_ _)
  have by_ : (((w.alloc (Obj.cells #[Value.bool true, (.slice A1 xf.length c1), (.slice A2 xl.length c2)] 69)).alloc (Obj.cells #[Value.bool true, (.slice A3 yf.length c3), (.slice A4 yl.length c4)] 69)).alloc (Obj.cells #[Value.bool false, Value.slice none 0 0, Value.slice none 0 0] 69)).heap[w.heap.size + 1]? = some (.cells #[Value.bool true, (.slice A3 yf.length c3), (.slice A4 yl.length c4)] 69 (0, 0)) := blk_alloc (by simpa using blk_new (w.alloc (Obj.cells #[Value.bool true, (.slice A1 xf.length c1), (.slice A2 xl.length c2)] 69)) (Obj.cells #[Value.bool true, (.slice A3 yf.length c3), (.slice A4 yl.length c4)] 69)) _
  have br : (((w.alloc (Obj.cells #[Value.bool true, (.slice A1 xf.length c1), (.slice A2 xl.length c2)] 69)).alloc (Obj.cells #[Value.bool true, (.slice A3 yf.length c3), (.slice A4 yl.length c4)] 69)).alloc (Obj.cells #[Value.bool false, Value.slice none 0 0, Value.slice none 0 0] 69)).heap[w.heap.size + 2]? = some (.cells #[Value.bool false, Value.slice none 0 0, Value.slice none 0 0] 69 (0, 0)) := by simpa using blk_new ((w.alloc (Obj.cells #[Value.bool true, (.slice A1 xf.length c1), (.slice A2 xl.length c2)] 69)).alloc (Obj.cells #[Value.bool true, (.slice A3 yf.length c3), (.slice A4 yl.length c4)] 69)) (Obj.cells #[Value.bool false, Value.slice none 0 0, Value.slice none 0 0] 69)
  generalize (((w.alloc (Obj.cells #[Value.bool true, (.slice A1 xf.length c1), (.slice A2 xl.length c2)] 69)).alloc (Obj.cells #[Value.bool true, (.slice A3 yf.length c3), (.slice A4 yl.length c4)] 69)).alloc (Obj.cells #[Value.bool false, Value.slice none 0 0, Value.slice none 0 0] 69)) = W at hb3 bx by_ br ⊢
  generalize hgx : w.heap.size = gx at bx by_ br ⊢
  have hS3 := Stp.of_below (p := p) (vs := vs) (vf := vf) hB hb3
  have hA3 := AutoM.more HA.out hb3 (fun k => k = gx ∨ k = gx + 1 ∨ k = gx + 1 + 1) (fun k hk => by omega)
  have hWl : gx + 2 < W.heap.size := (Array.getElem?_eq_some_iff.1 br).1
  have hpx : p < gx := by have := HA.out.lt; omega
  have ax := hA3.away bx (by omega) (by decide) (by decide)
  have ay := hA3.away by_ (by omega) (by decide) (by decide)
  have ar := hA3.away br (by omega) (by decide) (by decide)
  refine (note_calls _ B p ga vs vf (.slice A2 xl.length c2) (.slice A3 yf.length c3) s xl yf W (Nat.le_trans hB hb3.size) (fun k hk => by rcases hk with hk | hk; (have := hX k hk; omega); omega) hA3 HS.out hm (hS3.blk (HA.out.away HG.out hgp (by decide) (by decide)) HG.out) hgp (hS3.row HX.out.2) HX1.out.last (hS3.row HY.out.1) HY1.out.first).mono ?_
  rintro e w4 ⟨rfl, hA4, hS4⟩
  have BX := Aside0.mk (hS4.blk ax bx)
  have BY := Aside0.mk (hS4.blk ay by_)
  have BR := Aside0.mk (hS4.blk ar br)
  have HA4 := Aside0.mk hA4
  have HS4 := Aside0.mk (hS3.trans hS4)
  have cx0 : w4.cell? ⟨gx, 0, none⟩ = some (.bool true) := (blk_cell BX.out 0).trans rfl
  have cx1 : w4.cell? ⟨gx, 1, none⟩ = some (.slice A1 xf.length c1) := (blk_cell BX.out 1).trans rfl
  have cx2 : w4.cell? ⟨gx, 2, none⟩ = some (.slice A2 xl.length c2) := (blk_cell BX.out 2).trans rfl
  have cy0 : w4.cell? ⟨gx + 1, 0, none⟩ = some (.bool true) := (blk_cell BY.out 0).trans rfl
  have cy1 : w4.cell? ⟨gx + 1, 1, none⟩ = some (.slice A3 yf.length c3) := (blk_cell BY.out 1).trans rfl
  have cy2 : w4.cell? ⟨gx + 1, 2, none⟩ = some (.slice A4 yl.length c4) := (blk_cell BY.out 2).trans rfl
  have hlt4 : gx + 2 < w4.heap.size := (Array.getElem?_eq_some_iff.1 BR.out).1
  have cr0 : w4.cell? ⟨gx + 1 + 1, 0, none⟩ = some (.bool false) := (blk_cell BR.out 0).trans rfl
  have cr1 : w4.cell? ⟨gx + 1 + 1, 1, none⟩ = some (.slice none 0 0) := (blk_cell BR.out 1).trans rfl
  have cr2 : w4.cell? ⟨gx + 1 + 1, 2, none⟩ = some (.slice none 0 0) := (blk_cell BR.out 2).trans rfl
  have fr0 : w4.frozen? ⟨gx + 1 + 1, 0, none⟩ = false := blk_frozen BR.out 0
  have fr1 : w4.frozen? ⟨gx + 1 + 1, 1, none⟩ = false := blk_frozen BR.out 1
  have fr2 : w4.frozen? ⟨gx + 1 + 1, 2, none⟩ = false := blk_frozen BR.out 2
  have n1 : (gx == w4.heap.size) = false := by rw [beq_eq_false_iff_ne]; omega
  have n2 : (gx + 1 == w4.heap.size) = false := by rw [beq_eq_false_iff_ne]; omega
  have n3 : ¬ gx = w4.heap.size := by omega
  have n4 : ¬ gx + 1 = w4.heap.size := by omega
  have n5 : ¬ w4.heap.size = gx := by omega
  have n6 : ¬ w4.heap.size = gx + 1 := by omega
  have n7 : gx < w4.heap.size := by omega
  have n8 : gx + 1 < w4.heap.size := by omega
  have n9 : gx + 1 + 1 < w4.heap.size := by omega
  have n10 : ¬ gx + 1 + 1 = w4.heap.size := by omega
  have n11 : ¬ w4.heap.size = gx + 1 + 1 := by omega
  have n12 : (gx + 1 + 1 == w4.heap.size) = false := by rw [beq_eq_false_iff_ne]; omega
  clear hb3 bx by_ br hS3 hA3 ax ay ar hA4 hS4
  go_wp2_with fail
  have rx6 := Kd.R_reads' (HS4.out.row HX.out.1)
  have ry6 := Kd.R_reads' (HS4.out.row HY.out.1)
  refine (with_fp A1 A3 c1 c3 xf yf _ (Kd.C_alloc rx6.2.2 _) rx6.2.1 (Kd.C_alloc ry6.2.2 _) ry6.2.1 (by have h1 := HX1.out.first.len; have h2 := HY1.out.first.len; dsimp only at h1 h2; omega)).mono ?_
  rintro e w6 ⟨v6', rfl, hR, hb6⟩
  clear rx6 ry6
  obtain ⟨Av6, cv6, rfl⟩ := Kd.R_slice hR
  generalize hz : fin (xf ++ yf) = z6 at hR
  have HZ6 := Aside0.mk hz
  clear hz
  have HR6 := Aside0.mk hR
  have HB6 := Aside0.mk hb6
  clear hR
  have BX6 := Aside0.mk (blk_below (blk_alloc BX.out _) hb6)
  have BY6 := Aside0.mk (blk_below (blk_alloc BY.out _) hb6)
  have BR6 := Aside0.mk (blk_below (blk_alloc BR.out _) hb6)
  have BO6 := Aside0.mk (blk_below (blk_new w4 _) hb6)
  have hl6 : w4.heap.size < w6.heap.size := (Array.getElem?_eq_some_iff.1 BO6.out).1
  clear hb6
  have xc6_0 : w6.cell? ⟨gx, 0, none⟩ = some (.bool true) := (blk_cell BX6.out 0).trans rfl
  have xc6_1 : w6.cell? ⟨gx, 1, none⟩ = some (.slice A1 xf.length c1) := (blk_cell BX6.out 1).trans rfl
  have xc6_2 : w6.cell? ⟨gx, 2, none⟩ = some (.slice A2 xl.length c2) := (blk_cell BX6.out 2).trans rfl
  have yc6_0 : w6.cell? ⟨gx + 1, 0, none⟩ = some (.bool true) := (blk_cell BY6.out 0).trans rfl
  have yc6_1 : w6.cell? ⟨gx + 1, 1, none⟩ = some (.slice A3 yf.length c3) := (blk_cell BY6.out 1).trans rfl
  have yc6_2 : w6.cell? ⟨gx + 1, 2, none⟩ = some (.slice A4 yl.length c4) := (blk_cell BY6.out 2).trans rfl
  have rc6_0 : w6.cell? ⟨gx + 1 + 1, 0, none⟩ = some (.bool false) := (blk_cell BR6.out 0).trans rfl
  have rc6_1 : w6.cell? ⟨gx + 1 + 1, 1, none⟩ = some (.slice none 0 0) := (blk_cell BR6.out 1).trans rfl
  have rc6_2 : w6.cell? ⟨gx + 1 + 1, 2, none⟩ = some (.slice none 0 0) := (blk_cell BR6.out 2).trans rfl
  have oc6_0 : w6.cell? ⟨w4.heap.size, 0, none⟩ = some (.bool true) := (blk_cell BO6.out 0).trans rfl
  have oc6_1 : w6.cell? ⟨w4.heap.size, 1, none⟩ = some (.slice A1 xf.length c1) := (blk_cell BO6.out 1).trans rfl
  have oc6_2 : w6.cell? ⟨w4.heap.size, 2, none⟩ = some (.slice A4 yl.length c4) := (blk_cell BO6.out 2).trans rfl
  have rf6_0 : w6.frozen? ⟨gx + 1 + 1, 0, none⟩ = false := blk_frozen BR6.out 0
  have rf6_1 : w6.frozen? ⟨gx + 1 + 1, 1, none⟩ = false := blk_frozen BR6.out 1
  have rf6_2 : w6.frozen? ⟨gx + 1 + 1, 2, none⟩ = false := blk_frozen BR6.out 2
  have of6_0 : w6.frozen? ⟨w4.heap.size, 0, none⟩ = false := blk_frozen BO6.out 0
  have of6_1 : w6.frozen? ⟨w4.heap.size, 1, none⟩ = false := blk_frozen BO6.out 1
  have of6_2 : w6.frozen? ⟨w4.heap.size, 2, none⟩ = false := blk_frozen BO6.out 2
  clear cx0 cx1 cx2 cy0 cy1 cy2 cr0 cr1 cr2 fr0 fr1 fr2
  go_wp2_with fail
  have HS6 := Aside0.mk (show Below w4.heap.size w4 (w6.setCell ⟨w4.heap.size, 1, none⟩ (.slice Av6 z6.length cv6)) from (below_step (below_alloc (Below.refl _ _) _) HB6.out).setCell (Nat.le_refl _) _)
  have rx8 := Kd.R_reads' (Kd.R_below (HS4.out.row HX.out.2) HS6.out)
  have ry8 := Kd.R_reads' (Kd.R_below (HS4.out.row HY.out.2) HS6.out)
  refine (with_fp A2 A4 c2 c4 xl yl _ (rx8.2.2) rx8.2.1 (ry8.2.2) ry8.2.1 (by have h1 := HX1.out.last.len; have h2 := HY1.out.last.len; dsimp only at h1 h2; omega)).mono ?_
  rintro e w8 ⟨v8', rfl, hR, hb8⟩
  clear rx8 ry8
  obtain ⟨Av8, cv8, rfl⟩ := Kd.R_slice hR
  generalize hz : fin (xl ++ yl) = z8 at hR
  have HZ8 := Aside0.mk hz
  clear hz
  have HR8 := Aside0.mk hR
  have HB8 := Aside0.mk hb8
  clear hR
  have BR8 := Aside0.mk (blk_below (blk_far BR6.out (by show gx + 1 + 1 ≠ w4.heap.size; omega) _) hb8)
  have BO8 := Aside0.mk (show w8.heap[w4.heap.size]? = some (.cells #[.bool true, .slice Av6 z6.length cv6, .slice A4 yl.length c4] 69 (0, 0)) from blk_below (blk_set BO6.out 1 _) hb8)
  have hl8 : w4.heap.size < w8.heap.size := (Array.getElem?_eq_some_iff.1 BO8.out).1
  clear hb8
  have rc8_0 : w8.cell? ⟨gx + 1 + 1, 0, none⟩ = some (.bool false) := (blk_cell BR8.out 0).trans rfl
  have rc8_1 : w8.cell? ⟨gx + 1 + 1, 1, none⟩ = some (.slice none 0 0) := (blk_cell BR8.out 1).trans rfl
  have rc8_2 : w8.cell? ⟨gx + 1 + 1, 2, none⟩ = some (.slice none 0 0) := (blk_cell BR8.out 2).trans rfl
  have oc8_0 : w8.cell? ⟨w4.heap.size, 0, none⟩ = some (.bool true) := (blk_cell BO8.out 0).trans rfl
  have oc8_1 : w8.cell? ⟨w4.heap.size, 1, none⟩ = some (.slice Av6 z6.length cv6) := (blk_cell BO8.out 1).trans rfl
  have oc8_2 : w8.cell? ⟨w4.heap.size, 2, none⟩ = some (.slice A4 yl.length c4) := (blk_cell BO8.out 2).trans rfl
  have rf8_0 : w8.frozen? ⟨gx + 1 + 1, 0, none⟩ = false := blk_frozen BR8.out 0
  have rf8_1 : w8.frozen? ⟨gx + 1 + 1, 1, none⟩ = false := blk_frozen BR8.out 1
  have rf8_2 : w8.frozen? ⟨gx + 1 + 1, 2, none⟩ = false := blk_frozen BR8.out 2
  have of8_0 : w8.frozen? ⟨w4.heap.size, 0, none⟩ = false := blk_frozen BO8.out 0
  have of8_1 : w8.frozen? ⟨w4.heap.size, 1, none⟩ = false := blk_frozen BO8.out 1
  have of8_2 : w8.frozen? ⟨w4.heap.size, 2, none⟩ = false := blk_frozen BO8.out 2
  clear xc6_0 xc6_1 xc6_2 yc6_0 yc6_1 yc6_2 rc6_0 rc6_1 rc6_2 oc6_0 oc6_1 oc6_2 rf6_0 rf6_1 rf6_2 of6_0 of6_1 of6_2
  go_wp2_with fail
  refine bodyPost_ret (results_c1 (P := Try.prog) rfl _ _ (gx + 1 + 1) 69 #[.bool true, Value.slice Av6 z6.length cv6, Value.slice Av8 z8.length cv8] (0, 0) _ rfl ?_ Try.underlying69 rfl (by kernel_rfl)) rfl ?_
  · exact set3 (blk_far BR8.out (by show gx + 1 + 1 ≠ w4.heap.size; omega) _)
  · have hk8 : ∀ k, k < w6.heap.size → k ≠ w4.heap.size → w8.heap[k]? = w6.heap[k]? := fun k hk hne => (HB8.out.block k (by simpa [World.setCell] using hk)).trans (Below.heap_setCell _ _ _ k hne)
    have hs8 := HB8.out.size
    have hs6 := HB6.out.size
    simp only [World.setCell, Array.size_modify] at hs8
    simp only [World.alloc, Array.size_push] at hs6
    refine then_end X B p (gx + 1 + 1) vs vf s _ _ w w4 _ hB hX HS4.out HA4.out BR.out (by omega) (by omega) (fun k hk => ?_) ⟨HB8.out.os.trans HB6.out.os, HB8.out.tape.trans HB6.out.tape, HB8.out.output.trans HB6.out.output, by simp [World.setCell]; omega, fun k hk hne => ?_⟩ rfl ?_ ?_
    · rcases hk with h | h | h | h
      · exact .inl h
      all_goals (right; omega)
    · exact (set3_other hne).trans ((Below.heap_setCell _ _ _ k (by show k ≠ w4.heap.size; omega)).trans ((hk8 k (by omega) (by omega)).trans ((HB6.out.block k (by simp; omega)).trans (Below.heap_alloc _ _ k hk))))
    · refine .inl ⟨w4.heap.size + 1, by omega, ?_⟩
      show Kd.R kI 3 _ _ _ _ (fin (xf ++ yf))
      rw [HZ6.out]
      refine R_from (b := w4.heap.size + 1) (by simpa using HR6.out) (fun k hk hlt => ?_)
      exact (set3_other (by omega)).trans ((Below.heap_setCell _ _ _ k (by show k ≠ w4.heap.size; omega)).trans (hk8 k hlt (by omega)))
    · refine .inl ⟨w4.heap.size + 1, by omega, ?_⟩
      show Kd.R kI 3 _ _ _ _ (fin (xl ++ yl))
      rw [HZ8.out]
      refine R_from (b := w4.heap.size + 1) (Kd.R_lower HR8.out (by simp only [World.setCell, Array.size_modify]; omega)) (fun k hk hlt => ?_)
      exact (set3_other (by omega)).trans (Below.heap_setCell _ _ _ k (by show k ≠ w4.heap.size; omega))
theorem then_calls (X : Nat → Prop) (B p ga : Nat) (vs vf x1 x2 y1 y2 : Value) (s : St) (x y : BM.Edge) (w : World) (hB : B ≤ w.heap.size) (hX : ∀ k, X k → k < w.heap.size) (hA : AutoP X B p vs vf s w) (hs : SOk s) (hm : s.sets.length ≤ 300)
    (hga : w.heap[ga]? = some (.cells #[.pointer (some ⟨p, 0, none⟩)] 71 (0, 0))) (hgp : ga ≠ p)
    (hx : PartM B p vs vf x x1 x2 w) (hx1 : EOk s.sets.length x) (hy : PartM B p vs vf y y1 y2 w) (hy1 : EOk s.sets.length y) :
    Calls Try.prog 73 #[partV x.null x1 x2, partV y.null y1 y2, .func (.func 72) #[] #[.pointer (some ⟨ga, 0, none⟩)]] w fun e w' => ∃ v1 v2, e = .returned (partV (thenE x y).null v1 v2) ∧
      AutoP X B p vs vf ⟨s.sets, after s.follow x.last y.first⟩ w' ∧ Stp B p vs vf vs vf w w' ∧ PartM B p vs vf (thenE x y) v1 v2 w' := by
  obtain ⟨xn, xf, xl⟩ := x
  obtain ⟨yn, yf, yl⟩ := y
  cases xn <;> cases yn
  · exact then_ff_calls X B p ga vs vf x1 x2 y1 y2 s xf xl yf yl w hB hX hA hs hm hga hgp hx hx1 hy hy1
  · exact then_ft_calls X B p ga vs vf x1 x2 y1 y2 s xf xl yf yl w hB hX hA hs hm hga hgp hx hx1 hy hy1
  · exact then_tf_calls X B p ga vs vf x1 x2 y1 y2 s xf xl yf yl w hB hX hA hs hm hga hgp hx hx1 hy hy1
  · exact then_tt_calls X B p ga vs vf x1 x2 y1 y2 s xf xl yf yl w hB hX hA hs hm hga hgp hx hx1 hy hy1
end Go.Proofs.Ytkoofldididpgaa.NT

end
section
namespace Go.Proofs.Ytkoofldididpgaa.NO
open Go Go.RowKit Go.Proofs.YtkoofldididpgaaW.PrintWords Go.Proofs.YtkoofldididpgaaW.PrintLast Go.Proofs.YtkoofldididpgaaW.PrintMore
open Go.Proofs.Ytkoofldididpgaa.XB Go.Proofs.Ytkoofldididpgaa.NW Go.Proofs.Ytkoofldididpgaa.BM Go.Proofs.Ytkoofldididpgaa.FM Go.Proofs.Ytkoofldididpgaa.NA Go.Proofs.Ytkoofldididpgaa.NN Go.Proofs.Ytkoofldididpgaa.NT
set_option linter.unusedVariables false
set_option linter.unusedSimpArgs false
set_option maxRecDepth 100000 in
set_option maxHeartbeats 800000 in
theorem or_f_fp (A1 A2 A3 A4 : Option Addr) (c1 c2 c3 c4 : Nat) (xf xl yf yl : List Int) (yb : Bool) (w : World) (h1 : kI.C w A1 xf.length xf) (l1 : xf.length ≤ c1) (h2 : kI.C w A2 xl.length xl) (l2 : xl.length ≤ c2) (h3 : kI.C w A3 yf.length yf) (l3 : yf.length ≤ c3) (h4 : kI.C w A4 yl.length yl) (l4 : yl.length ≤ c4)
    (m1 : xf.length + yf.length ≤ 10000) (m2 : xl.length + yl.length ≤ 10000) :
    Calls Try.prog 74 #[partV false (.slice A1 xf.length c1) (.slice A2 xl.length c2), partV yb (.slice A3 yf.length c3) (.slice A4 yl.length c4)] w fun e w' => ∃ v1 v2, e = .returned (partV (false || yb) v1 v2) ∧
      Kd.R kI 3 w' w.heap.size (fun _ => True) v1 (fin (xf ++ yf)) ∧ Kd.R kI 3 w' w.heap.size (fun _ => True) v2 (fin (xl ++ yl)) ∧ Below w.heap.size w w' := by
  have H1 := Aside0.mk h1
  have H2 := Aside0.mk h2
  have H3 := Aside0.mk h3
  have H4 := Aside0.mk h4
  have L1 := Aside0.mk l1
  have L2 := Aside0.mk l2
  have L3 := Aside0.mk l3
  have L4 := Aside0.mk l4
  have M1 := Aside0.mk m1
  have M2 := Aside0.mk m2
  clear h1 h2 h3 h4 l1 l2 l3 l4 m1 m2
  unfold partV
  go_enter Try.func74, Try.ntmps74
  go_wp2_with fail
  have hb3 : Below w.heap.size w (((w.alloc (Obj.cells #[.bool false, .slice A1 xf.length c1, .slice A2 xl.length c2] 69)).alloc (Obj.cells #[.bool yb, .slice A3 yf.length c3, .slice A4 yl.length c4] 69)).alloc (Obj.cells #[.bool false, .slice none 0 0, .slice none 0 0] 69)) := by repeat (first | exact Below.refl _ _ | apply below_alloc)
  have bx : (((w.alloc (Obj.cells #[.bool false, .slice A1 xf.length c1, .slice A2 xl.length c2] 69)).alloc (Obj.cells #[.bool yb, .slice A3 yf.length c3, .slice A4 yl.length c4] 69)).alloc (Obj.cells #[.bool false, .slice none 0 0, .slice none 0 0] 69)).heap[w.heap.size]? = some (.cells #[.bool false, .slice A1 xf.length c1, .slice A2 xl.length c2] 69 (0, 0)) := by repeat (first | exact blk_new _ _ | refine blk_alloc ?_ _)
  have by_ : (((w.alloc (Obj.cells #[.bool false, .slice A1 xf.length c1, .slice A2 xl.length c2] 69)).alloc (Obj.cells #[.bool yb, .slice A3 yf.length c3, .slice A4 yl.length c4] 69)).alloc (Obj.cells #[.bool false, .slice none 0 0, .slice none 0 0] 69)).heap[w.heap.size + 1]? = some (.cells #[.bool yb, .slice A3 yf.length c3, .slice A4 yl.length c4] 69 (0, 0)) := blk_alloc (by simpa using blk_new (w.alloc (Obj.cells #[.bool false, .slice A1 xf.length c1, .slice A2 xl.length c2] 69)) (Obj.cells #[.bool yb, .slice A3 yf.length c3, .slice A4 yl.length c4] 69)) _
  have br : (((w.alloc (Obj.cells #[.bool false, .slice A1 xf.length c1, .slice A2 xl.length c2] 69)).alloc (Obj.cells #[.bool yb, .slice A3 yf.length c3, .slice A4 yl.length c4] 69)).alloc (Obj.cells #[.bool false, .slice none 0 0, .slice none 0 0] 69)).heap[w.heap.size + 2]? = some (.cells #[.bool false, .slice none 0 0, .slice none 0 0] 69 (0, 0)) := by simpa using blk_new ((w.alloc (Obj.cells #[.bool false, .slice A1 xf.length c1, .slice A2 xl.length c2] 69)).alloc (Obj.cells #[.bool yb, .slice A3 yf.length c3, .slice A4 yl.length c4] 69)) (Obj.cells #[.bool false, .slice none 0 0, .slice none 0 0] 69)
  have hsz : (((w.alloc (Obj.cells #[.bool false, .slice A1 xf.length c1, .slice A2 xl.length c2] 69)).alloc (Obj.cells #[.bool yb, .slice A3 yf.length c3, .slice A4 yl.length c4] 69)).alloc (Obj.cells #[.bool false, .slice none 0 0, .slice none 0 0] 69)).heap.size = w.heap.size + 3 := by simp
  generalize (((w.alloc (Obj.cells #[.bool false, .slice A1 xf.length c1, .slice A2 xl.length c2] 69)).alloc (Obj.cells #[.bool yb, .slice A3 yf.length c3, .slice A4 yl.length c4] 69)).alloc (Obj.cells #[.bool false, .slice none 0 0, .slice none 0 0] 69)) = W at hb3 bx by_ br hsz ⊢
  have HB3 := Aside0.mk hb3
  have H1' := Aside0.mk (Kd.C_drew (Kd.C_below H1.out hb3))
  have H2' := Aside0.mk (Kd.C_below H2.out hb3)
  have H3' := Aside0.mk (Kd.C_drew (Kd.C_below H3.out hb3))
  have H4' := Aside0.mk (Kd.C_below H4.out hb3)
  have BX := Aside0.mk bx
  have BY := Aside0.mk by_
  have BR := Aside0.mk br
  have HSZ := Aside0.mk hsz
  have hgx : w.heap.size < W.heap.size := by omega
  clear hb3 bx by_ br hsz H1 H2 H3 H4
  have hS0 : (fun w' => w'.cell? ⟨w.heap.size, 0, none⟩ = some (.bool false) ∧ w'.cell? ⟨w.heap.size, 1, none⟩ = some (.slice A1 xf.length c1) ∧ w'.cell? ⟨w.heap.size, 2, none⟩ = some (.slice A2 xl.length c2) ∧ w'.cell? ⟨w.heap.size + 1, 0, none⟩ = some (.bool yb) ∧ w'.cell? ⟨w.heap.size + 1, 1, none⟩ = some (.slice A3 yf.length c3) ∧ w'.cell? ⟨w.heap.size + 1, 2, none⟩ = some (.slice A4 yl.length c4)) W.drew := ⟨(blk_cell BX.out 0).trans rfl, (blk_cell BX.out 1).trans rfl, (blk_cell BX.out 2).trans rfl, (blk_cell BY.out 0).trans rfl, (blk_cell BY.out 1).trans rfl, (blk_cell BY.out 2).trans rfl⟩
  have hkeep : ∀ w', Below W.heap.size W w' → (fun w' => w'.cell? ⟨w.heap.size, 0, none⟩ = some (.bool false) ∧ w'.cell? ⟨w.heap.size, 1, none⟩ = some (.slice A1 xf.length c1) ∧ w'.cell? ⟨w.heap.size, 2, none⟩ = some (.slice A2 xl.length c2) ∧ w'.cell? ⟨w.heap.size + 1, 0, none⟩ = some (.bool yb) ∧ w'.cell? ⟨w.heap.size + 1, 1, none⟩ = some (.slice A3 yf.length c3) ∧ w'.cell? ⟨w.heap.size + 1, 2, none⟩ = some (.slice A4 yl.length c4)) w' := fun w' hb => ⟨(blk_cell (blk_below BX.out hb) 0).trans rfl, (blk_cell (blk_below BX.out hb) 1).trans rfl, (blk_cell (blk_below BX.out hb) 2).trans rfl, (blk_cell (blk_below BY.out hb) 0).trans rfl, (blk_cell (blk_below BY.out hb) 1).trans rfl, (blk_cell (blk_below BY.out hb) 2).trans rfl⟩
  have HK := Aside0.mk hkeep
  clear hkeep
  refine start_ (n := 18) (S := fun w' => w'.cell? ⟨w.heap.size, 0, none⟩ = some (.bool false) ∧ w'.cell? ⟨w.heap.size, 1, none⟩ = some (.slice A1 xf.length c1) ∧ w'.cell? ⟨w.heap.size, 2, none⟩ = some (.slice A2 xl.length c2) ∧ w'.cell? ⟨w.heap.size + 1, 0, none⟩ = some (.bool yb) ∧ w'.cell? ⟨w.heap.size + 1, 1, none⟩ = some (.slice A3 yf.length c3) ∧ w'.cell? ⟨w.heap.size + 1, 2, none⟩ = some (.slice A4 yl.length c4)) (ds := [17]) #[false, false, false, false, false, false, false, false, false, false, false, false, false, false, false, false, false, false] (by kernel_rfl) rfl rfl hS0 (fun hHeld => ?_)
  refine pure_ (i := 0) (N := some 5) (v := ?_) (a' := ?_) #[true, false, false, false, false, false, false, false, false, false, false, false, false, false, false, false, false, false] rfl rfl (by kernel_rfl) (fun _ _ _ h => h) (Or.inl ⟨by rfl, ?_⟩) ?_ ?_
  rotate_left
  · intro w'
    go_simp
    with_reducible rfl
  rotate_left
  · simp only [Act.put, List.setIfInBounds_toArray, List.set_cons_zero, List.set_cons_succ, i64_w, i32_w]
    rfl
  refine take_ (i := 1) (N := some 6) (v := ?_) (a' := ?_) #[true, true, false, false, false, false, false, false, false, false, false, false, false, false, false, false, false, false] rfl rfl (by kernel_rfl) (fun _ _ _ h => h) (Or.inl ⟨by rfl, ?_⟩) hHeld ?_ ?_
  rotate_left
  · rintro w' ⟨s0, s1, s2, s3, s4, s5⟩
    go_simp
    with_reducible rfl
  rotate_left
  · simp only [Act.put, List.setIfInBounds_toArray, List.set_cons_zero, List.set_cons_succ, i64_w, i32_w]
    rfl
  refine pure_ (i := 2) (N := some 7) (v := ?_) (a' := ?_) #[true, true, true, false, false, false, false, false, false, false, false, false, false, false, false, false, false, false] rfl rfl (by kernel_rfl) (fun _ _ _ h => h) (Or.inl ⟨by rfl, ?_⟩) ?_ ?_
  rotate_left
  · intro w'
    go_simp
    with_reducible rfl
  rotate_left
  · simp only [Act.put, List.setIfInBounds_toArray, List.set_cons_zero, List.set_cons_succ, i64_w, i32_w]
    rfl
  refine pure_ (i := 3) (N := some 8) (v := ?_) (a' := ?_) #[true, true, true, true, false, false, false, false, false, false, false, false, false, false, false, false, false, false] rfl rfl (by kernel_rfl) (fun _ _ _ h => h) (Or.inl ⟨by rfl, ?_⟩) ?_ ?_
  rotate_left
  · intro w'
    go_simp
    with_reducible rfl
  rotate_left
  · simp only [Act.put, List.setIfInBounds_toArray, List.set_cons_zero, List.set_cons_succ, i64_w, i32_w]
    rfl
  refine take_ (i := 4) (N := some 9) (v := ?_) (a' := ?_) #[true, true, true, true, true, false, false, false, false, false, false, false, false, false, false, false, false, false] rfl rfl (by kernel_rfl) (fun _ _ _ h => h) (Or.inl ⟨by rfl, ?_⟩) hHeld ?_ ?_
  rotate_left
  · rintro w' ⟨s0, s1, s2, s3, s4, s5⟩
    go_simp
    with_reducible rfl
  rotate_left
  · simp only [Act.put, List.setIfInBounds_toArray, List.set_cons_zero, List.set_cons_succ, i64_w, i32_w]
    rfl
  refine pure_ (i := 5) (N := some 10) (v := ?_) (a' := ?_) #[true, true, true, true, true, true, false, false, false, false, false, false, false, false, false, false, false, false] rfl rfl (by kernel_rfl) (fun _ _ _ h => h) (Or.inl ⟨by rfl, ?_⟩) ?_ ?_
  rotate_left
  · intro w'
    go_simp
    with_reducible rfl
  rotate_left
  · simp only [Act.put, List.setIfInBounds_toArray, List.set_cons_zero, List.set_cons_succ, i64_w, i32_w]
    rfl
  refine pure_ (i := 6) (N := some 11) (v := ?_) (a' := ?_) #[true, true, true, true, true, true, true, false, false, false, false, false, false, false, false, false, false, false] rfl rfl (by kernel_rfl) (fun _ _ _ h => h) (Or.inl ⟨by rfl, ?_⟩) ?_ ?_
  rotate_left
  · intro w'
    go_simp
    with_reducible rfl
  rotate_left
  · simp only [Act.put, List.setIfInBounds_toArray, List.set_cons_zero, List.set_cons_succ, i64_w, i32_w]
    rfl
  refine take_ (i := 7) (N := some 12) (v := ?_) (a' := ?_) #[true, true, true, true, true, true, true, true, false, false, false, false, false, false, false, false, false, false] rfl rfl (by kernel_rfl) (fun _ _ _ h => h) (Or.inl ⟨by rfl, ?_⟩) hHeld ?_ ?_
  rotate_left
  · rintro w' ⟨s0, s1, s2, s3, s4, s5⟩
    go_simp
    with_reducible rfl
  rotate_left
  · simp only [Act.put, List.setIfInBounds_toArray, List.set_cons_zero, List.set_cons_succ, i64_w, i32_w]
    rfl
  refine pure_ (i := 8) (N := some 13) (v := ?_) (a' := ?_) #[true, true, true, true, true, true, true, true, true, false, false, false, false, false, false, false, false, false] rfl rfl (by kernel_rfl) (fun _ _ _ h => h) (Or.inl ⟨by rfl, ?_⟩) ?_ ?_
  rotate_left
  · intro w'
    go_simp
    with_reducible rfl
  rotate_left
  · simp only [Act.put, List.setIfInBounds_toArray, List.set_cons_zero, List.set_cons_succ, i64_w, i32_w]
    rfl
  refine take_ (i := 9) (N := some 14) (v := ?_) (a' := ?_) #[true, true, true, true, true, true, true, true, true, true, false, false, false, false, false, false, false, false] rfl rfl (by kernel_rfl) (fun _ _ _ h => h) (Or.inl ⟨by rfl, ?_⟩) hHeld ?_ ?_
  rotate_left
  · rintro w' ⟨s0, s1, s2, s3, s4, s5⟩
    go_simp
    with_reducible rfl
  rotate_left
  · simp only [Act.put, List.setIfInBounds_toArray, List.set_cons_zero, List.set_cons_succ, i64_w, i32_w]
    rfl
  refine pure_ (i := 11) (N := some 16) (v := ?_) (a' := ?_) #[true, true, true, true, true, true, true, true, true, true, false, true, false, false, false, false, false, false] rfl rfl (by kernel_rfl) (fun _ _ _ h => h) (Or.inl ⟨by rfl, ?_⟩) ?_ ?_
  rotate_left
  · intro w'
    go_simp
    with_reducible rfl
  rotate_left
  · simp only [Act.put, List.setIfInBounds_toArray, List.set_cons_zero, List.set_cons_succ, i64_w, i32_w]
    rfl
  refine take_ (i := 12) (N := some 17) (v := ?_) (a' := ?_) #[true, true, true, true, true, true, true, true, true, true, false, true, true, false, false, false, false, false] rfl rfl (by kernel_rfl) (fun _ _ _ h => h) (Or.inl ⟨by rfl, ?_⟩) hHeld ?_ ?_
  rotate_left
  · rintro w' ⟨s0, s1, s2, s3, s4, s5⟩
    go_simp
    with_reducible rfl
  rotate_left
  · simp only [Act.put, List.setIfInBounds_toArray, List.set_cons_zero, List.set_cons_succ, i64_w, i32_w]
    rfl
  refine pure_ (i := 13) (N := some 18) (v := ?_) (a' := ?_) #[true, true, true, true, true, true, true, true, true, true, false, true, true, true, false, false, false, false] rfl rfl (by kernel_rfl) (fun _ _ _ h => h) (Or.inl ⟨by rfl, ?_⟩) ?_ ?_
  rotate_left
  · intro w'
    go_simp
    with_reducible rfl
  rotate_left
  · simp only [Act.put, List.setIfInBounds_toArray, List.set_cons_zero, List.set_cons_succ, i64_w, i32_w]
    rfl
  refine take_ (i := 14) (N := some 19) (v := ?_) (a' := ?_) #[true, true, true, true, true, true, true, true, true, true, false, true, true, true, true, false, false, false] rfl rfl (by kernel_rfl) (fun _ _ _ h => h) (Or.inl ⟨by rfl, ?_⟩) hHeld ?_ ?_
  rotate_left
  · rintro w' ⟨s0, s1, s2, s3, s4, s5⟩
    go_simp
    with_reducible rfl
  rotate_left
  · simp only [Act.put, List.setIfInBounds_toArray, List.set_cons_zero, List.set_cons_succ, i64_w, i32_w]
    rfl
  refine one_ (i := 10) (N := some 15) #[true, true, true, true, true, true, true, true, true, true, true, true, true, true, true, false, false, false] rfl rfl (by kernel_rfl) (by decide) (fun K hK => ?_)
  refine goes_ Try.func71 (by kernel_rfl) rfl #[.slice A1 xf.length c1, .slice A3 yf.length c3] (by kernel_rfl) rfl rfl (by simp only [List.map_toArray, List.map_cons, List.map_nil]; rfl) ?_
  refine (with_fp A1 A3 c1 c3 xf yf _ H1'.out L1.out H3'.out L3.out (by have := M1.out; omega)).mono ?_
  rintro e w1 ⟨v1, rfl, hR1, hb1⟩
  refine ⟨v1, rfl, ?_⟩
  have HB1 := Aside0.mk (show Below W.heap.size W w1 from below_step (below_drew (Below.refl _ _)) hb1)
  refine hK.out _ _ (HK.out _ HB1.out) (fun hHeld => ?_)
  clear hK K
  have HR1 := Aside0.mk (show Kd.R kI 3 w1 W.heap.size (fun _ => True) v1 (fin (xf ++ yf)) from hR1)
  clear hR1 hb1
  refine norm_ (a' := ?_) ?_ ?_
  rotate_left
  · show Act.put _ (some 15) _ = _
    simp only [Act.put, List.setIfInBounds_toArray, List.set_cons_zero, List.set_cons_succ, i64_w, i32_w]
    rfl
  refine one_ (i := 15) (N := some 20) #[true, true, true, true, true, true, true, true, true, true, true, true, true, true, true, true, false, false] rfl rfl (by kernel_rfl) (by decide) (fun K hK => ?_)
  refine goes_ Try.func71 (by kernel_rfl) rfl #[.slice A2 xl.length c2, .slice A4 yl.length c4] (by kernel_rfl) rfl rfl (by simp only [List.map_toArray, List.map_cons, List.map_nil]; rfl) ?_
  refine (with_fp A2 A4 c2 c4 xl yl _ (Kd.C_below H2'.out HB1.out) L2.out (Kd.C_below H4'.out HB1.out) L4.out (by have := M2.out; omega)).mono ?_
  rintro e w2 ⟨v2, rfl, hR2, hb2⟩
  refine ⟨v2, rfl, ?_⟩
  have HB2 := Aside0.mk (below_step HB1.out hb2)
  have HR1' := Aside0.mk (Kd.R_below HR1.out hb2)
  have HR2 := Aside0.mk (show Kd.R kI 3 w2 W.heap.size (fun _ => True) v2 (fin (xl ++ yl)) from Kd.R_lower hR2 HB1.out.size)
  refine hK.out _ _ (HK.out _ HB2.out) (fun hHeld => ?_)
  clear hK K hR2 hb2
  refine norm_ (a' := ?_) ?_ ?_
  rotate_left
  · show Act.put _ (some 20) _ = _
    simp only [Act.put, List.setIfInBounds_toArray, List.set_cons_zero, List.set_cons_succ, i64_w, i32_w]
    rfl
  obtain ⟨Av1, cv1, rfl⟩ := Kd.R_slice HR1'.out
  obtain ⟨Av2, cv2, rfl⟩ := Kd.R_slice HR2.out
  generalize hz1 : fin (xf ++ yf) = z1 at HR1 HR1' ⊢
  generalize hz2 : fin (xl ++ yl) = z2 at HR2 ⊢
  have HZ1 := Aside0.mk hz1
  have HZ2 := Aside0.mk hz2
  clear hz1 hz2
  refine pure_ (i := 16) (N := some 21) (v := ?_) (a' := ?_) #[true, true, true, true, true, true, true, true, true, true, true, true, true, true, true, true, true, false] rfl rfl (by kernel_rfl) (fun _ _ _ h => h) (Or.inl ⟨by rfl, ?_⟩) ?_ ?_
  rotate_left
  · intro w'
    go_simp
    with_reducible rfl
  rotate_left
  · simp only [Act.put, List.setIfInBounds_toArray, List.set_cons_zero, List.set_cons_succ, i64_w, i32_w]
    rfl
  have hce0 : w2.cell? ⟨w.heap.size + 2, 0, none⟩ = some (.bool false) := (blk_cell (blk_below BR.out HB2.out) 0).trans rfl
  have hce1 : w2.cell? ⟨w.heap.size + 2, 1, none⟩ = some (.slice none 0 0) := (blk_cell (blk_below BR.out HB2.out) 1).trans rfl
  have hce2 : w2.cell? ⟨w.heap.size + 2, 2, none⟩ = some (.slice none 0 0) := (blk_cell (blk_below BR.out HB2.out) 2).trans rfl
  have hfr : ∀ i, w2.frozen? ⟨w.heap.size + 2, i, none⟩ = false := fun i => blk_frozen (blk_below BR.out HB2.out) i
  refine last_ (i := 17) (N := none) #[true, true, true, true, true, true, true, true, true, true, true, true, true, true, true, true, true, true] rfl rfl (by kernel_rfl) (by decide) (fun K hK => ?_)
  refine skip_ (w1 := ((w2.setCell ⟨w.heap.size + 2, 0, none⟩ (.bool yb)).setCell ⟨w.heap.size + 2, 1, none⟩ (.slice Av1 z1.length cv1)).setCell ⟨w.heap.size + 2, 2, none⟩ (.slice Av2 z2.length cv2)) (by rfl) rfl ?_ ?_
  · go_simp
  refine hK.out _ _ ?_
  clear hK K
  refine done_ (by kernel_rfl) ?_
  clear hce0 hce1 hce2 hfr hHeld hS0
  go_wp2_with fail
  refine bodyPost_ret (results_c1 (P := Try.prog) rfl _ _ (w.heap.size + 2) 69 #[.bool yb, .slice Av1 z1.length cv1, .slice Av2 z2.length cv2] (0, 0) _ rfl ?_ Try.underlying69 rfl (by kernel_rfl)) rfl ?_
  · exact set3 (blk_below BR.out HB2.out)
  have hk : ∀ k, k ≠ w.heap.size + 2 → (((w2.setCell ⟨w.heap.size + 2, 0, none⟩ (.bool yb)).setCell ⟨w.heap.size + 2, 1, none⟩ (.slice Av1 z1.length cv1)).setCell ⟨w.heap.size + 2, 2, none⟩ (.slice Av2 z2.length cv2)).heap[k]? = w2.heap[k]? := fun k hk => set3_other hk
  have hsz := HSZ.out
  have hB2 := HB2.out
  have hB3 := HB3.out
  have hs2 := hB2.size
  refine ⟨.slice Av1 z1.length cv1, .slice Av2 z2.length cv2, by first | rfl | (simp; done), ?_, ?_, ⟨hB2.os.trans hB3.os, hB2.tape.trans hB3.tape, hB2.output.trans hB3.output, by simp [World.setCell]; omega, fun k hk' => (hk k (by omega)).trans ((hB2.block k (by omega)).trans (hB3.block k hk'))⟩⟩
  · rw [HZ1.out]; exact Kd.R_lower (R_from HR1'.out (fun k h1 h2 => hk k (by omega))) (by omega)
  · rw [HZ2.out]; exact Kd.R_lower (R_from HR2.out (fun k h1 h2 => hk k (by omega))) (by omega)
set_option maxRecDepth 100000 in
set_option maxHeartbeats 800000 in
theorem or_t_fp (A1 A2 A3 A4 : Option Addr) (c1 c2 c3 c4 : Nat) (xf xl yf yl : List Int) (yb : Bool) (w : World) (h1 : kI.C w A1 xf.length xf) (l1 : xf.length ≤ c1) (h2 : kI.C w A2 xl.length xl) (l2 : xl.length ≤ c2) (h3 : kI.C w A3 yf.length yf) (l3 : yf.length ≤ c3) (h4 : kI.C w A4 yl.length yl) (l4 : yl.length ≤ c4)
    (m1 : xf.length + yf.length ≤ 10000) (m2 : xl.length + yl.length ≤ 10000) :
    Calls Try.prog 74 #[partV true (.slice A1 xf.length c1) (.slice A2 xl.length c2), partV yb (.slice A3 yf.length c3) (.slice A4 yl.length c4)] w fun e w' => ∃ v1 v2, e = .returned (partV (true || yb) v1 v2) ∧
      Kd.R kI 3 w' w.heap.size (fun _ => True) v1 (fin (xf ++ yf)) ∧ Kd.R kI 3 w' w.heap.size (fun _ => True) v2 (fin (xl ++ yl)) ∧ Below w.heap.size w w' := by
  have H1 := Aside0.mk h1
  have H2 := Aside0.mk h2
  have H3 := Aside0.mk h3
  have H4 := Aside0.mk h4
  have L1 := Aside0.mk l1
  have L2 := Aside0.mk l2
  have L3 := Aside0.mk l3
  have L4 := Aside0.mk l4
  have M1 := Aside0.mk m1
  have M2 := Aside0.mk m2
  clear h1 h2 h3 h4 l1 l2 l3 l4 m1 m2
  unfold partV
  go_enter Try.func74, Try.ntmps74
  go_wp2_with fail
  have hb3 : Below w.heap.size w (((w.alloc (Obj.cells #[.bool true, .slice A1 xf.length c1, .slice A2 xl.length c2] 69)).alloc (Obj.cells #[.bool yb, .slice A3 yf.length c3, .slice A4 yl.length c4] 69)).alloc (Obj.cells #[.bool false, .slice none 0 0, .slice none 0 0] 69)) := by repeat (first | exact Below.refl _ _ | apply below_alloc)
  have bx : (((w.alloc (Obj.cells #[.bool true, .slice A1 xf.length c1, .slice A2 xl.length c2] 69)).alloc (Obj.cells #[.bool yb, .slice A3 yf.length c3, .slice A4 yl.length c4] 69)).alloc (Obj.cells #[.bool false, .slice none 0 0, .slice none 0 0] 69)).heap[w.heap.size]? = some (.cells #[.bool true, .slice A1 xf.length c1, .slice A2 xl.length c2] 69 (0, 0)) := by repeat (first | exact blk_new _ _ | refine blk_alloc ?_ _)
  have by_ : (((w.alloc (Obj.cells #[.bool true, .slice A1 xf.length c1, .slice A2 xl.length c2] 69)).alloc (Obj.cells #[.bool yb, .slice A3 yf.length c3, .slice A4 yl.length c4] 69)).alloc (Obj.cells #[.bool false, .slice none 0 0, .slice none 0 0] 69)).heap[w.heap.size + 1]? = some (.cells #[.bool yb, .slice A3 yf.length c3, .slice A4 yl.length c4] 69 (0, 0)) := blk_alloc (by simpa using blk_new (w.alloc (Obj.cells #[.bool true, .slice A1 xf.length c1, .slice A2 xl.length c2] 69)) (Obj.cells #[.bool yb, .slice A3 yf.length c3, .slice A4 yl.length c4] 69)) _
  have br : (((w.alloc (Obj.cells #[.bool true, .slice A1 xf.length c1, .slice A2 xl.length c2] 69)).alloc (Obj.cells #[.bool yb, .slice A3 yf.length c3, .slice A4 yl.length c4] 69)).alloc (Obj.cells #[.bool false, .slice none 0 0, .slice none 0 0] 69)).heap[w.heap.size + 2]? = some (.cells #[.bool false, .slice none 0 0, .slice none 0 0] 69 (0, 0)) := by simpa using blk_new ((w.alloc (Obj.cells #[.bool true, .slice A1 xf.length c1, .slice A2 xl.length c2] 69)).alloc (Obj.cells #[.bool yb, .slice A3 yf.length c3, .slice A4 yl.length c4] 69)) (Obj.cells #[.bool false, .slice none 0 0, .slice none 0 0] 69)
  have hsz : (((w.alloc (Obj.cells #[.bool true, .slice A1 xf.length c1, .slice A2 xl.length c2] 69)).alloc (Obj.cells #[.bool yb, .slice A3 yf.length c3, .slice A4 yl.length c4] 69)).alloc (Obj.cells #[.bool false, .slice none 0 0, .slice none 0 0] 69)).heap.size = w.heap.size + 3 := by simp
  generalize (((w.alloc (Obj.cells #[.bool true, .slice A1 xf.length c1, .slice A2 xl.length c2] 69)).alloc (Obj.cells #[.bool yb, .slice A3 yf.length c3, .slice A4 yl.length c4] 69)).alloc (Obj.cells #[.bool false, .slice none 0 0, .slice none 0 0] 69)) = W at hb3 bx by_ br hsz ⊢
  have HB3 := Aside0.mk hb3
  have H1' := Aside0.mk (Kd.C_drew (Kd.C_below H1.out hb3))
  have H2' := Aside0.mk (Kd.C_below H2.out hb3)
  have H3' := Aside0.mk (Kd.C_drew (Kd.C_below H3.out hb3))
  have H4' := Aside0.mk (Kd.C_below H4.out hb3)
  have BX := Aside0.mk bx
  have BY := Aside0.mk by_
  have BR := Aside0.mk br
  have HSZ := Aside0.mk hsz
  have hgx : w.heap.size < W.heap.size := by omega
  clear hb3 bx by_ br hsz H1 H2 H3 H4
  have hS0 : (fun w' => w'.cell? ⟨w.heap.size, 0, none⟩ = some (.bool true) ∧ w'.cell? ⟨w.heap.size, 1, none⟩ = some (.slice A1 xf.length c1) ∧ w'.cell? ⟨w.heap.size, 2, none⟩ = some (.slice A2 xl.length c2) ∧ w'.cell? ⟨w.heap.size + 1, 0, none⟩ = some (.bool yb) ∧ w'.cell? ⟨w.heap.size + 1, 1, none⟩ = some (.slice A3 yf.length c3) ∧ w'.cell? ⟨w.heap.size + 1, 2, none⟩ = some (.slice A4 yl.length c4)) W.drew := ⟨(blk_cell BX.out 0).trans rfl, (blk_cell BX.out 1).trans rfl, (blk_cell BX.out 2).trans rfl, (blk_cell BY.out 0).trans rfl, (blk_cell BY.out 1).trans rfl, (blk_cell BY.out 2).trans rfl⟩
  have hkeep : ∀ w', Below W.heap.size W w' → (fun w' => w'.cell? ⟨w.heap.size, 0, none⟩ = some (.bool true) ∧ w'.cell? ⟨w.heap.size, 1, none⟩ = some (.slice A1 xf.length c1) ∧ w'.cell? ⟨w.heap.size, 2, none⟩ = some (.slice A2 xl.length c2) ∧ w'.cell? ⟨w.heap.size + 1, 0, none⟩ = some (.bool yb) ∧ w'.cell? ⟨w.heap.size + 1, 1, none⟩ = some (.slice A3 yf.length c3) ∧ w'.cell? ⟨w.heap.size + 1, 2, none⟩ = some (.slice A4 yl.length c4)) w' := fun w' hb => ⟨(blk_cell (blk_below BX.out hb) 0).trans rfl, (blk_cell (blk_below BX.out hb) 1).trans rfl, (blk_cell (blk_below BX.out hb) 2).trans rfl, (blk_cell (blk_below BY.out hb) 0).trans rfl, (blk_cell (blk_below BY.out hb) 1).trans rfl, (blk_cell (blk_below BY.out hb) 2).trans rfl⟩
  have HK := Aside0.mk hkeep
  clear hkeep
  refine start_ (n := 18) (S := fun w' => w'.cell? ⟨w.heap.size, 0, none⟩ = some (.bool true) ∧ w'.cell? ⟨w.heap.size, 1, none⟩ = some (.slice A1 xf.length c1) ∧ w'.cell? ⟨w.heap.size, 2, none⟩ = some (.slice A2 xl.length c2) ∧ w'.cell? ⟨w.heap.size + 1, 0, none⟩ = some (.bool yb) ∧ w'.cell? ⟨w.heap.size + 1, 1, none⟩ = some (.slice A3 yf.length c3) ∧ w'.cell? ⟨w.heap.size + 1, 2, none⟩ = some (.slice A4 yl.length c4)) (ds := [17]) #[false, false, false, false, false, false, false, false, false, false, false, false, false, false, false, false, false, false] (by kernel_rfl) rfl rfl hS0 (fun hHeld => ?_)
  refine pure_ (i := 0) (N := some 5) (v := ?_) (a' := ?_) #[true, false, false, false, false, false, false, false, false, false, false, false, false, false, false, false, false, false] rfl rfl (by kernel_rfl) (fun _ _ _ h => h) (Or.inl ⟨by rfl, ?_⟩) ?_ ?_
  rotate_left
  · intro w'
    go_simp
    with_reducible rfl
  rotate_left
  · simp only [Act.put, List.setIfInBounds_toArray, List.set_cons_zero, List.set_cons_succ, i64_w, i32_w]
    rfl
  refine take_ (i := 1) (N := some 6) (v := ?_) (a' := ?_) #[true, true, false, false, false, false, false, false, false, false, false, false, false, false, false, false, false, false] rfl rfl (by kernel_rfl) (fun _ _ _ h => h) (Or.inl ⟨by rfl, ?_⟩) hHeld ?_ ?_
  rotate_left
  · rintro w' ⟨s0, s1, s2, s3, s4, s5⟩
    go_simp
    with_reducible rfl
  rotate_left
  · simp only [Act.put, List.setIfInBounds_toArray, List.set_cons_zero, List.set_cons_succ, i64_w, i32_w]
    rfl
  refine pure_ (i := 2) (N := some 7) (v := ?_) (a' := ?_) #[true, true, true, false, false, false, false, false, false, false, false, false, false, false, false, false, false, false] rfl rfl (by kernel_rfl) (fun _ _ _ h => h) (Or.inl ⟨by rfl, ?_⟩) ?_ ?_
  rotate_left
  · intro w'
    go_simp
    with_reducible rfl
  rotate_left
  · simp only [Act.put, List.setIfInBounds_toArray, List.set_cons_zero, List.set_cons_succ, i64_w, i32_w]
    rfl
  refine pure_ (i := 3) (N := some 8) (v := undef) (a' := ?_) #[true, true, true, true, false, false, false, false, false, false, false, false, false, false, false, false, false, false] rfl rfl (by kernel_rfl) (fun _ _ _ h => h) (Or.inr ⟨by rfl, rfl⟩) ?_ ?_
  rotate_left
  · simp only [Act.put, List.setIfInBounds_toArray, List.set_cons_zero, List.set_cons_succ, i64_w, i32_w]
    rfl
  refine pure_ (i := 4) (N := some 9) (v := undef) (a' := ?_) #[true, true, true, true, true, false, false, false, false, false, false, false, false, false, false, false, false, false] rfl rfl (by kernel_rfl) (fun _ _ _ h => h) (Or.inr ⟨by rfl, rfl⟩) ?_ ?_
  rotate_left
  · simp only [Act.put, List.setIfInBounds_toArray, List.set_cons_zero, List.set_cons_succ, i64_w, i32_w]
    rfl
  refine pure_ (i := 5) (N := some 10) (v := ?_) (a' := ?_) #[true, true, true, true, true, true, false, false, false, false, false, false, false, false, false, false, false, false] rfl rfl (by kernel_rfl) (fun _ _ _ h => h) (Or.inl ⟨by rfl, ?_⟩) ?_ ?_
  rotate_left
  · intro w'
    go_simp
    with_reducible rfl
  rotate_left
  · simp only [Act.put, List.setIfInBounds_toArray, List.set_cons_zero, List.set_cons_succ, i64_w, i32_w]
    rfl
  refine pure_ (i := 6) (N := some 11) (v := ?_) (a' := ?_) #[true, true, true, true, true, true, true, false, false, false, false, false, false, false, false, false, false, false] rfl rfl (by kernel_rfl) (fun _ _ _ h => h) (Or.inl ⟨by rfl, ?_⟩) ?_ ?_
  rotate_left
  · intro w'
    go_simp
    with_reducible rfl
  rotate_left
  · simp only [Act.put, List.setIfInBounds_toArray, List.set_cons_zero, List.set_cons_succ, i64_w, i32_w]
    rfl
  refine take_ (i := 7) (N := some 12) (v := ?_) (a' := ?_) #[true, true, true, true, true, true, true, true, false, false, false, false, false, false, false, false, false, false] rfl rfl (by kernel_rfl) (fun _ _ _ h => h) (Or.inl ⟨by rfl, ?_⟩) hHeld ?_ ?_
  rotate_left
  · rintro w' ⟨s0, s1, s2, s3, s4, s5⟩
    go_simp
    with_reducible rfl
  rotate_left
  · simp only [Act.put, List.setIfInBounds_toArray, List.set_cons_zero, List.set_cons_succ, i64_w, i32_w]
    rfl
  refine pure_ (i := 8) (N := some 13) (v := ?_) (a' := ?_) #[true, true, true, true, true, true, true, true, true, false, false, false, false, false, false, false, false, false] rfl rfl (by kernel_rfl) (fun _ _ _ h => h) (Or.inl ⟨by rfl, ?_⟩) ?_ ?_
  rotate_left
  · intro w'
    go_simp
    with_reducible rfl
  rotate_left
  · simp only [Act.put, List.setIfInBounds_toArray, List.set_cons_zero, List.set_cons_succ, i64_w, i32_w]
    rfl
  refine take_ (i := 9) (N := some 14) (v := ?_) (a' := ?_) #[true, true, true, true, true, true, true, true, true, true, false, false, false, false, false, false, false, false] rfl rfl (by kernel_rfl) (fun _ _ _ h => h) (Or.inl ⟨by rfl, ?_⟩) hHeld ?_ ?_
  rotate_left
  · rintro w' ⟨s0, s1, s2, s3, s4, s5⟩
    go_simp
    with_reducible rfl
  rotate_left
  · simp only [Act.put, List.setIfInBounds_toArray, List.set_cons_zero, List.set_cons_succ, i64_w, i32_w]
    rfl
  refine pure_ (i := 11) (N := some 16) (v := ?_) (a' := ?_) #[true, true, true, true, true, true, true, true, true, true, false, true, false, false, false, false, false, false] rfl rfl (by kernel_rfl) (fun _ _ _ h => h) (Or.inl ⟨by rfl, ?_⟩) ?_ ?_
  rotate_left
  · intro w'
    go_simp
    with_reducible rfl
  rotate_left
  · simp only [Act.put, List.setIfInBounds_toArray, List.set_cons_zero, List.set_cons_succ, i64_w, i32_w]
    rfl
  refine take_ (i := 12) (N := some 17) (v := ?_) (a' := ?_) #[true, true, true, true, true, true, true, true, true, true, false, true, true, false, false, false, false, false] rfl rfl (by kernel_rfl) (fun _ _ _ h => h) (Or.inl ⟨by rfl, ?_⟩) hHeld ?_ ?_
  rotate_left
  · rintro w' ⟨s0, s1, s2, s3, s4, s5⟩
    go_simp
    with_reducible rfl
  rotate_left
  · simp only [Act.put, List.setIfInBounds_toArray, List.set_cons_zero, List.set_cons_succ, i64_w, i32_w]
    rfl
  refine pure_ (i := 13) (N := some 18) (v := ?_) (a' := ?_) #[true, true, true, true, true, true, true, true, true, true, false, true, true, true, false, false, false, false] rfl rfl (by kernel_rfl) (fun _ _ _ h => h) (Or.inl ⟨by rfl, ?_⟩) ?_ ?_
  rotate_left
  · intro w'
    go_simp
    with_reducible rfl
  rotate_left
  · simp only [Act.put, List.setIfInBounds_toArray, List.set_cons_zero, List.set_cons_succ, i64_w, i32_w]
    rfl
  refine take_ (i := 14) (N := some 19) (v := ?_) (a' := ?_) #[true, true, true, true, true, true, true, true, true, true, false, true, true, true, true, false, false, false] rfl rfl (by kernel_rfl) (fun _ _ _ h => h) (Or.inl ⟨by rfl, ?_⟩) hHeld ?_ ?_
  rotate_left
  · rintro w' ⟨s0, s1, s2, s3, s4, s5⟩
    go_simp
    with_reducible rfl
  rotate_left
  · simp only [Act.put, List.setIfInBounds_toArray, List.set_cons_zero, List.set_cons_succ, i64_w, i32_w]
    rfl
  refine one_ (i := 10) (N := some 15) #[true, true, true, true, true, true, true, true, true, true, true, true, true, true, true, false, false, false] rfl rfl (by kernel_rfl) (by decide) (fun K hK => ?_)
  refine goes_ Try.func71 (by kernel_rfl) rfl #[.slice A1 xf.length c1, .slice A3 yf.length c3] (by kernel_rfl) rfl rfl (by simp only [List.map_toArray, List.map_cons, List.map_nil]; rfl) ?_
  refine (with_fp A1 A3 c1 c3 xf yf _ H1'.out L1.out H3'.out L3.out (by have := M1.out; omega)).mono ?_
  rintro e w1 ⟨v1, rfl, hR1, hb1⟩
  refine ⟨v1, rfl, ?_⟩
  have HB1 := Aside0.mk (show Below W.heap.size W w1 from below_step (below_drew (Below.refl _ _)) hb1)
  refine hK.out _ _ (HK.out _ HB1.out) (fun hHeld => ?_)
  clear hK K
  have HR1 := Aside0.mk (show Kd.R kI 3 w1 W.heap.size (fun _ => True) v1 (fin (xf ++ yf)) from hR1)
  clear hR1 hb1
  refine norm_ (a' := ?_) ?_ ?_
  rotate_left
  · show Act.put _ (some 15) _ = _
    simp only [Act.put, List.setIfInBounds_toArray, List.set_cons_zero, List.set_cons_succ, i64_w, i32_w]
    rfl
  refine one_ (i := 15) (N := some 20) #[true, true, true, true, true, true, true, true, true, true, true, true, true, true, true, true, false, false] rfl rfl (by kernel_rfl) (by decide) (fun K hK => ?_)
  refine goes_ Try.func71 (by kernel_rfl) rfl #[.slice A2 xl.length c2, .slice A4 yl.length c4] (by kernel_rfl) rfl rfl (by simp only [List.map_toArray, List.map_cons, List.map_nil]; rfl) ?_
  refine (with_fp A2 A4 c2 c4 xl yl _ (Kd.C_below H2'.out HB1.out) L2.out (Kd.C_below H4'.out HB1.out) L4.out (by have := M2.out; omega)).mono ?_
  rintro e w2 ⟨v2, rfl, hR2, hb2⟩
  refine ⟨v2, rfl, ?_⟩
  have HB2 := Aside0.mk (below_step HB1.out hb2)
  have HR1' := Aside0.mk (Kd.R_below HR1.out hb2)
  have HR2 := Aside0.mk (show Kd.R kI 3 w2 W.heap.size (fun _ => True) v2 (fin (xl ++ yl)) from Kd.R_lower hR2 HB1.out.size)
  refine hK.out _ _ (HK.out _ HB2.out) (fun hHeld => ?_)
  clear hK K hR2 hb2
  refine norm_ (a' := ?_) ?_ ?_
  rotate_left
  · show Act.put _ (some 20) _ = _
    simp only [Act.put, List.setIfInBounds_toArray, List.set_cons_zero, List.set_cons_succ, i64_w, i32_w]
    rfl
  obtain ⟨Av1, cv1, rfl⟩ := Kd.R_slice HR1'.out
  obtain ⟨Av2, cv2, rfl⟩ := Kd.R_slice HR2.out
  generalize hz1 : fin (xf ++ yf) = z1 at HR1 HR1' ⊢
  generalize hz2 : fin (xl ++ yl) = z2 at HR2 ⊢
  have HZ1 := Aside0.mk hz1
  have HZ2 := Aside0.mk hz2
  clear hz1 hz2
  refine pure_ (i := 16) (N := some 21) (v := ?_) (a' := ?_) #[true, true, true, true, true, true, true, true, true, true, true, true, true, true, true, true, true, false] rfl rfl (by kernel_rfl) (fun _ _ _ h => h) (Or.inl ⟨by rfl, ?_⟩) ?_ ?_
  rotate_left
  · intro w'
    go_simp
    with_reducible rfl
  rotate_left
  · simp only [Act.put, List.setIfInBounds_toArray, List.set_cons_zero, List.set_cons_succ, i64_w, i32_w]
    rfl
  have hce0 : w2.cell? ⟨w.heap.size + 2, 0, none⟩ = some (.bool false) := (blk_cell (blk_below BR.out HB2.out) 0).trans rfl
  have hce1 : w2.cell? ⟨w.heap.size + 2, 1, none⟩ = some (.slice none 0 0) := (blk_cell (blk_below BR.out HB2.out) 1).trans rfl
  have hce2 : w2.cell? ⟨w.heap.size + 2, 2, none⟩ = some (.slice none 0 0) := (blk_cell (blk_below BR.out HB2.out) 2).trans rfl
  have hfr : ∀ i, w2.frozen? ⟨w.heap.size + 2, i, none⟩ = false := fun i => blk_frozen (blk_below BR.out HB2.out) i
  refine last_ (i := 17) (N := none) #[true, true, true, true, true, true, true, true, true, true, true, true, true, true, true, true, true, true] rfl rfl (by kernel_rfl) (by decide) (fun K hK => ?_)
  refine skip_ (w1 := ((w2.setCell ⟨w.heap.size + 2, 0, none⟩ (.bool true)).setCell ⟨w.heap.size + 2, 1, none⟩ (.slice Av1 z1.length cv1)).setCell ⟨w.heap.size + 2, 2, none⟩ (.slice Av2 z2.length cv2)) (by rfl) rfl ?_ ?_
  · go_simp
  refine hK.out _ _ ?_
  clear hK K
  refine done_ (by kernel_rfl) ?_
  clear hce0 hce1 hce2 hfr hHeld hS0
  go_wp2_with fail
  refine bodyPost_ret (results_c1 (P := Try.prog) rfl _ _ (w.heap.size + 2) 69 #[.bool true, .slice Av1 z1.length cv1, .slice Av2 z2.length cv2] (0, 0) _ rfl ?_ Try.underlying69 rfl (by kernel_rfl)) rfl ?_
  · exact set3 (blk_below BR.out HB2.out)
  have hk : ∀ k, k ≠ w.heap.size + 2 → (((w2.setCell ⟨w.heap.size + 2, 0, none⟩ (.bool true)).setCell ⟨w.heap.size + 2, 1, none⟩ (.slice Av1 z1.length cv1)).setCell ⟨w.heap.size + 2, 2, none⟩ (.slice Av2 z2.length cv2)).heap[k]? = w2.heap[k]? := fun k hk => set3_other hk
  have hsz := HSZ.out
  have hB2 := HB2.out
  have hB3 := HB3.out
  have hs2 := hB2.size
  refine ⟨.slice Av1 z1.length cv1, .slice Av2 z2.length cv2, by first | rfl | (simp; done), ?_, ?_, ⟨hB2.os.trans hB3.os, hB2.tape.trans hB3.tape, hB2.output.trans hB3.output, by simp [World.setCell]; omega, fun k hk' => (hk k (by omega)).trans ((hB2.block k (by omega)).trans (hB3.block k hk'))⟩⟩
  · rw [HZ1.out]; exact Kd.R_lower (R_from HR1'.out (fun k h1 h2 => hk k (by omega))) (by omega)
  · rw [HZ2.out]; exact Kd.R_lower (R_from HR2.out (fun k h1 h2 => hk k (by omega))) (by omega)
theorem or_fp (A1 A2 A3 A4 : Option Addr) (c1 c2 c3 c4 : Nat) (xf xl yf yl : List Int) (xb yb : Bool) (w : World) (h1 : kI.C w A1 xf.length xf) (l1 : xf.length ≤ c1) (h2 : kI.C w A2 xl.length xl) (l2 : xl.length ≤ c2) (h3 : kI.C w A3 yf.length yf) (l3 : yf.length ≤ c3) (h4 : kI.C w A4 yl.length yl) (l4 : yl.length ≤ c4)
    (m1 : xf.length + yf.length ≤ 10000) (m2 : xl.length + yl.length ≤ 10000) :
    Calls Try.prog 74 #[partV xb (.slice A1 xf.length c1) (.slice A2 xl.length c2), partV yb (.slice A3 yf.length c3) (.slice A4 yl.length c4)] w fun e w' => ∃ v1 v2, e = .returned (partV (xb || yb) v1 v2) ∧
      Kd.R kI 3 w' w.heap.size (fun _ => True) v1 (fin (xf ++ yf)) ∧ Kd.R kI 3 w' w.heap.size (fun _ => True) v2 (fin (xl ++ yl)) ∧ Below w.heap.size w w' := by
  cases xb
  · exact or_f_fp A1 A2 A3 A4 c1 c2 c3 c4 xf xl yf yl yb w h1 l1 h2 l2 h3 l3 h4 l4 m1 m2
  · exact or_t_fp A1 A2 A3 A4 c1 c2 c3 c4 xf xl yf yl yb w h1 l1 h2 l2 h3 l3 h4 l4 m1 m2
end Go.Proofs.Ytkoofldididpgaa.NO

end
section
namespace Go.Proofs.Ytkoofldididpgaa.RT
open Go Go.Proofs.YtkoofldididpgaaW.PrintLast
set_option linter.unusedVariables false
def Till (D : List (Option Nat × (World → Prop))) (l : Array Bool) (w : World) : Prop := ∀ x ∈ D, (∀ d, x.1 = some d → l.getD d false = false) → x.2 w
theorem Till.nil (l : Array Bool) (w : World) : Till [] l w := fun x hx => by cases hx
theorem Till.live {D : List (Option Nat × (World → Prop))} {d : Option Nat} {S : World → Prop} {l : Array Bool} {w : World} (h : S w) (g : Till D l w) : Till ((d, S) :: D) l w := fun x hx hd => by
  rcases List.mem_cons.1 hx with rfl | hx
  · exact h
  · exact g x hx hd
theorem Till.dead {D : List (Option Nat × (World → Prop))} {d : Nat} {S : World → Prop} {l : Array Bool} {w : World} (h : l.getD d false = true) (g : Till D l w) : Till ((some d, S) :: D) l w := fun x hx hd => by
  rcases List.mem_cons.1 hx with rfl | hx
  · have := hd d rfl; rw [h] at this; cases this
  · exact g x hx hd
theorem Till.mono {D : List (Option Nat × (World → Prop))} {l : Array Bool} {w : World} (i : Nat) (h : Till D l w) : Till D (l.setIfInBounds i true) w := fun x hx hd => h x hx (fun d hxd => by
  have := hd d hxd
  cases hl : l.getD d false with
  | false => rfl
  | true => rw [getD_set_true hl] at this; exact this)
section
variable {P : Program} {ops : Array Oper} {Q : Exit → Act → World → Prop} {md : Region.Mode} {D : List (Option Nat × (World → Prop))}
def wpT (P : Program) (md : Region.Mode) (ops : Array Oper) (Q : Exit → Act → World → Prop) (D : List (Option Nat × (World → Prop))) : Nat → Array Bool → Act → World → Prop
  | 0, l, a, w => Region.ready md ops l = [] ∧ Q .normal a w
  | fuel + 1, l, a, w => (Region.ready md ops l = [] → Q .normal a w) ∧
    ∀ i ∈ Region.ready md ops l, wpOp P ops Q i (fun a' w' => (Till D l w → Till D (l.setIfInBounds i true) w') ∧ wpT P md ops Q D fuel (l.setIfInBounds i true) a' w') a w
theorem wpAny_of_T : ∀ (fuel : Nat) (l : Array Bool) (a : Act) (w : World), wpT P md ops Q D fuel l a w → wpAny P md ops Q fuel l a w
  | 0, _, _, _, h => h
  | fuel + 1, _, _, _, h => ⟨h.1, fun i hi => wpOp_mono (fun a' w' h' => wpAny_of_T fuel _ a' w' h'.2) (h.2 i hi)⟩
theorem T_first {i : Nat} {oi : Oper} {v : Value} {S : World → Prop} (hi : ops[i]? = some oi) (hsel : ∀ (j : Nat) (o : Oper) cs b, ops[j]? = some o → o.op ≠ .select cs b)
    (hQ : ∀ c a w, Q (.panic c) (a.put oi.dst v) w → Q (.panic c) a w) (hne : ∀ x ∈ D, ∀ d, x.1 = some d → d ≠ i)
    (hSt : ∀ l w, ListedClosed md ops l → l.getD i true = false → Till D l w → S w) :
    ∀ (fuel : Nat) (listed : Array Bool) (a : Act) (w : World),
      (∀ j oj, ops[j]? = some oj → j ≠ i → listed.getD j true = false → (∀ e ∈ oj.after, Region.binds md e = true → e.on ≠ i) → oi.apart ops oj = true) →
      ListedClosed md ops listed → i ∈ Region.ready md ops listed → YieldsIf P ops S oi v a → Till D listed w →
      wpT P md ops Q D fuel (listed.setIfInBounds i true) (a.put oi.dst v) w → wpT P md ops Q D (fuel + 1) listed a w := by
  intro fuel
  induction fuel with
  | zero =>
    intro listed a w _ hc hr hy hS H
    refine ⟨fun h => (by rw [h] at hr; cases hr), fun j hj => ?_⟩
    by_cases hji : j = i
    · subst hji; exact hy.wpOp hi (hSt _ _ hc (mem_ready.1 hr).1 hS) ⟨fun h => h.mono j, H⟩
    · have := ready_mono hj hji
      rw [H.1] at this
      cases this
  | succ fuel ih =>
    intro listed a w hfree hc hr hy hS H
    refine ⟨fun h => (by rw [h] at hr; cases hr), fun j hj => ?_⟩
    by_cases hji : j = i
    · subst hji; exact hy.wpOp hi (hSt _ _ hc (mem_ready.1 hr).1 hS) ⟨fun h => h.mono j, H⟩
    · have h1 := H.2 j (ready_mono hj hji)
      obtain ⟨hjun, oj, hoj, hall⟩ := mem_ready.1 hj
      have hiun := (mem_ready.1 hr).1
      have hnot : ∀ e ∈ oj.after, Region.binds md e = true → e.on ≠ i := fun e he hb heq => by
        have h1 := hall e he hb
        rw [heq] at h1
        rcases Nat.lt_or_ge i listed.size with h' | h'
        · simp [h'] at hiun h1; rw [hiun] at h1; cases h1
        · simp [Array.getElem?_eq_none h'] at h1
      have h2 := wpOp_putIf hoj (hfree j oj hoj hji hjun hnot) (fun cs b => hsel i oi cs b hi) (fun cs b => hsel j oj cs b hoj) hQ hy h1
      have hfree' : ∀ k ok, ops[k]? = some ok → k ≠ i → (listed.setIfInBounds j true).getD k true = false →
          (∀ e ∈ ok.after, Region.binds md e = true → e.on ≠ i) → oi.apart ops ok = true := fun k ok hk hki hun hno => by
        refine hfree k ok hk hki ?_ hno
        by_cases hjk : j = k
        · subst hjk; exact hjun
        · rw [getD_set_ne true hjk] at hun; exact hun
      have hback : ∀ w', Till D ((listed.setIfInBounds i true).setIfInBounds j true) w' → Till D (listed.setIfInBounds j true) w' := fun w' h => by
        rw [Array.setIfInBounds_comm _ _ (Ne.symm hji)] at h
        exact fun x hx hd => h x hx (fun d hxd => by rw [getD_set_ne false (Ne.symm (hne x hx d hxd))]; exact hd d hxd)
      refine wpOp_mono (fun a' w' h3 => ⟨fun hT => hback w' (h3.2.1 (hT.mono i)), ih (listed.setIfInBounds j true) a' w' hfree' (hc.set hj) (ready_mono hr (Ne.symm hji)) h3.1 (hback w' (h3.2.1 (hS.mono i))) ?_⟩) h2
      rw [Array.setIfInBounds_comm _ _ hji]
      exact h3.2.2
theorem T_of_any {fuel : Nat} {l : Array Bool} {a : Act} {w : World} {rs : List Nat} (hr : Region.ready md ops l = rs) (hne : rs ≠ [])
    (h : ∀ i ∈ rs, wpOp P ops Q i (fun a' w' => (Till D l w → Till D (l.setIfInBounds i true) w') ∧ wpT P md ops Q D fuel (l.setIfInBounds i true) a' w') a w) : wpT P md ops Q D (fuel + 1) l a w :=
  ⟨fun h0 => absurd (hr ▸ h0) hne, hr ▸ h⟩
def takeB (md : Region.Mode) (ops : Array Oper) (l l' : Array Bool) (i : Nat) (d : Option Nat) (fs : List Nat) : Bool :=
  Region.noSelect ops && Region.free md ops l i && (Region.ready md ops l).contains i && Region.closedB md ops l && (match d with | none => true | some d => Region.reachB md ops i ops.size d) && fs.all (fun f => f != i) && (l.setIfInBounds i true == l')
def ends (D : List (Option Nat × (World → Prop))) : List Nat := D.filterMap (·.1)
theorem tk_ {i : Nat} {N : Option Tmp} {oi : Oper} {v : Value} {fuel : Nat} {l : Array Bool} {a : Act} {w : World} (d : Option Nat) (S : World → Prop) (l' : Array Bool) (hD : (d, S) ∈ D) (hi : ops[i]? = some oi) (hN : oi.dst = N) (hc : takeB md ops l l' i d (ends D) = true)
    (hQ : ∀ c a w, Q (.panic c) (a.put oi.dst v) w → Q (.panic c) a w) (hy : YieldsIf P ops S oi v a) (hS : Till D l w) {a' : Act} (ha : a.put N v = a')
    (h : Till D l' w → wpT P md ops Q D fuel l' a' w) : wpT P md ops Q D (fuel + 1) l a w := by
  subst ha
  subst hN
  simp only [takeB, Bool.and_eq_true, beq_iff_eq] at hc
  obtain ⟨⟨⟨⟨⟨⟨h1, h2⟩, h3⟩, h4⟩, h5⟩, h6⟩, h7⟩ := hc
  subst h7
  refine T_first (S := S) hi (Region.noSelect_spec h1) hQ (fun x hx d' hd' => ?_) (fun l w hc hun hT => ?_) fuel l a w (Region.free_spec hi h2) (Region.closedB_spec h4) (by simpa using h3) hy hS (h (hS.mono i))
  · have := List.all_eq_true.1 h6 d' (List.mem_filterMap.2 ⟨x, hx, hd'⟩)
    simpa using this
  · refine hT _ hD (fun d' hd' => ?_)
    dsimp only at hd'
    subst hd'
    cases hl : l.getD d' false with
    | false => rfl
    | true =>
      have := Region.reach_listed hc _ _ h5 hl
      rcases Nat.lt_or_ge i l.size with h' | h'
      · simp [h'] at hun this; rw [hun] at this; cases this
      · simp [Array.getElem?_eq_none h'] at this
theorem pr_ {i : Nat} {N : Option Tmp} {oi : Oper} {v : Value} {fuel : Nat} {l : Array Bool} {a : Act} {w : World} (l' : Array Bool) (hi : ops[i]? = some oi) (hN : oi.dst = N) (hc : takeB md ops l l' i none (ends D) = true)
    (hQ : ∀ c a w, Q (.panic c) (a.put oi.dst v) w → Q (.panic c) a w) (hy : Yields P ops oi v a) (hS : Till D l w) {a' : Act} (ha : a.put N v = a')
    (h : Till D l' w → wpT P md ops Q D fuel l' a' w) : wpT P md ops Q D (fuel + 1) l a w := by
  subst ha
  subst hN
  simp only [takeB, Bool.and_eq_true, beq_iff_eq] at hc
  obtain ⟨⟨⟨⟨⟨⟨h1, h2⟩, h3⟩, h4⟩, _⟩, h6⟩, h7⟩ := hc
  subst h7
  refine T_first (S := fun _ => True) hi (Region.noSelect_spec h1) hQ (fun x hx d' hd' => ?_) (fun _ _ _ _ _ => trivial) fuel l a w (Region.free_spec hi h2) (Region.closedB_spec h4) (by simpa using h3) hy.yieldsIf hS (h (hS.mono i))
  have := List.all_eq_true.1 h6 d' (List.mem_filterMap.2 ⟨x, hx, hd'⟩)
  simpa using this
theorem st_ {id n : Nat} {a : Act} {w : World} (D : List (Option Nat × (World → Prop))) (l : Array Bool) (hm : P.follows .mixedOrders = true) (hn : ops.size = n) (hl : Array.replicate n false = l)
    (hS : Till D l w.drew) (h : Till D l w.drew → wpT P .any ops Q D n l a w.drew) : (Code.region id ops true).wp P Q a w := by
  subst hn
  subst hl
  exact wp_region_any hm (wpAny_of_T _ _ _ _ (h hS))
theorem on_ {i : Nat} {N : Option Tmp} {oi : Oper} {fuel : Nat} {l : Array Bool} {a : Act} {w : World} (l' : Array Bool) (hi : ops[i]? = some oi) (hN : oi.dst = N) (hc : readyB md ops l l' i = true)
    (h : ∀ K : Act → World → Prop, Shut (∀ a' w', Till D l' w' → (Till D l' w' → wpT P md ops Q D fuel l' a' w') → K a' w') → if Region.wanted oi (yielded ops a.tmps) = true then Oper.wp P oi a w K Q else K (a.put N undef) w) :
    wpT P md ops Q D (fuel + 1) l a w := by
  subst hN
  simp only [readyB, Bool.and_eq_true, beq_iff_eq] at hc
  obtain ⟨h1, h2⟩ := hc
  subst h2
  refine T_of_any h1 (by simp) (fun j hj => ?_)
  rw [List.mem_singleton] at hj
  subst hj
  exact wpOp_step hi (fun K' hK => h K' (fun a w hS hW => hK a w ⟨fun _ => hS, hW hS⟩))
theorem tw_ {i j : Nat} {Ni Nj : Option Tmp} {oi oj : Oper} {fuel : Nat} {l : Array Bool} {a : Act} {w : World} (li lj : Array Bool) (hi : ops[i]? = some oi) (hj : ops[j]? = some oj) (hNi : oi.dst = Ni) (hNj : oj.dst = Nj)
    (hc : (Region.ready md ops l == [i, j] && l.setIfInBounds i true == li && l.setIfInBounds j true == lj) = true)
    (h1 : ∀ K : Act → World → Prop, Shut (∀ a' w', Till D li w' → (Till D li w' → wpT P md ops Q D fuel li a' w') → K a' w') → if Region.wanted oi (yielded ops a.tmps) = true then Oper.wp P oi a w K Q else K (a.put Ni undef) w)
    (h2 : ∀ K : Act → World → Prop, Shut (∀ a' w', Till D lj w' → (Till D lj w' → wpT P md ops Q D fuel lj a' w') → K a' w') → if Region.wanted oj (yielded ops a.tmps) = true then Oper.wp P oj a w K Q else K (a.put Nj undef) w) :
    wpT P md ops Q D (fuel + 1) l a w := by
  subst hNi
  subst hNj
  simp only [Bool.and_eq_true, beq_iff_eq] at hc
  obtain ⟨⟨h3, h4⟩, h5⟩ := hc
  subst h4
  subst h5
  refine T_of_any h3 (by simp) (fun k hk => ?_)
  rcases List.mem_cons.1 hk with rfl | hk
  · exact wpOp_step hi (fun K' hK => h1 K' (fun a w hS hW => hK a w ⟨fun _ => hS, hW hS⟩))
  · rw [List.mem_singleton] at hk
    subst hk
    exact wpOp_step hj (fun K' hK => h2 K' (fun a w hS hW => hK a w ⟨fun _ => hS, hW hS⟩))
theorem dn_ {l : Array Bool} {a : Act} {w : World} (hr : (Region.ready md ops l == []) = true) (h : Q .normal a w) : ∀ n, wpT P md ops Q D n l a w
  | 0 => ⟨by simpa using hr, h⟩
  | _ + 1 => ⟨fun _ => h, by rw [show Region.ready md ops l = [] by simpa using hr]; simp⟩
theorem nm_ {fuel : Nat} {l : Array Bool} {a a' : Act} {w : World} (ha : a = a') (h : wpT P md ops Q D fuel l a' w) : wpT P md ops Q D fuel l a w := by
  subst ha
  exact h
theorem jn_ {σ : Type} {fuel : Nat} {l : Array Bool} {a : Act} {w : World} (fuel' : Nat) (l' : Array Bool) (ns : σ → List (Tmp × Value)) (F : σ → World → Prop)
    (hcont : ∀ s w', F s w' → wpT P md ops Q D fuel' l' (putAll a (ns s)) w')
    (h : (∀ s w', F s w' → wpT P md ops Q D fuel' l' (putAll a (ns s)) w') → wpT P md ops Q D fuel l a w) : wpT P md ops Q D fuel l a w := h hcont
end
end Go.Proofs.Ytkoofldididpgaa.RT

end
section
namespace Go.Proofs.Ytkoofldididpgaa.NR
open Go Go.RowKit Go.Proofs.YtkoofldididpgaaW.PrintWords Go.Proofs.YtkoofldididpgaaW.PrintLast Go.Proofs.YtkoofldididpgaaW.PrintMore
open Go.Proofs.Ytkoofldididpgaa.XB Go.Proofs.Ytkoofldididpgaa.NM
set_option linter.unusedVariables false
set_option linter.unusedSimpArgs false
def nodeV (n : S24) (A : Option Addr) (c : Nat) : Value := .agg #[.int .i64 n.f0, .int .i64 n.f1, .slice A n.f2.length c]
def RightAt (n : S24) : Prop := ∀ (A : Option Addr) (c : Nat) (w : World), Kd.C k24 w A n.f2.length n.f2 → n.f2.length ≤ c →
  Calls Try.prog 41 #[nodeV n A c] w fun e w' => e = .returned (.bool (rightN n)) ∧ Below w.heap.size w w'
set_option maxHeartbeats 400000 in
theorem odd_calls (n : S24) (h : RightAt n) (A : Option Addr) (c : Nat) (w : World) (hr : Kd.C k24 w A n.f2.length n.f2) (hc : n.f2.length ≤ c) :
    Calls Try.prog 64 #[nodeV n A c] w fun e w' => e = .returned (.bool (!rightN n)) ∧ Below w.heap.size w w' := by
  have hu24 := Try.underlying24
  have HR := Aside0.mk hr
  have HC := Aside0.mk hc
  have HH := Aside0.mk h
  clear hr hc h
  unfold nodeV
  go_enter Try.func64, Try.ntmps64
  go_wp2_with fail
  refine (HH.out A c _ (Kd.C_alloc HR.out _) HC.out).mono ?_
  rintro e w1 ⟨rfl, hb⟩
  have HB := Aside0.mk (show Below w.heap.size w w1 from below_step (below_alloc (Below.refl _ _) _) hb)
  clear hb
  go_wp2_with fail
  go_ret
  exact ⟨rfl, HB.out⟩
set_option maxHeartbeats 400000 in
theorem index_calls (ks : List S24) (h : ∀ x ∈ ks, RightAt x) (A : Option Addr) (c : Nat) (w : World) (hr : Kd.C k24 w A ks.length ks) (hc : ks.length ≤ c) :
    Calls Try.prog 87 #[.slice A ks.length c, .func (.func 64) #[] #[]] w fun e w' => (∃ i : Int, e = .returned (.int .i64 i) ∧ (ks.all rightN = true ↔ i < 0)) ∧ Below w.heap.size w w' := by
  have hu24 := Try.underlying24
  have HR := Aside0.mk hr
  have HC := Aside0.mk hc
  have HH := Aside0.mk h
  have hlen : ks.length ≤ 9223372036854775807 := hr.2.1
  clear hr hc h
  go_enter Try.func87, Try.ntmps87
  go_wp2_with fail
  go_loopg [8] ks.length (fun kq v8 wr => ∃ i : Nat, v8 = .int .i64 i ∧ Aside0 (i ≤ ks.length ∧ kq + i = ks.length) ∧ Aside0 ((ks.take i).all rightN = true) ∧ Aside0 (Below w.heap.size w wr))
  case atStart => exact ⟨0, rfl, ⟨by omega⟩, ⟨by simp⟩, ⟨Below.refl _ _⟩⟩
  case round =>
    obtain ⟨i, rfl, HI, HA, HB⟩ := hrel
    by_cases hlt : i < ks.length
    · have hrd := Kd.C_below HR.out HB.out
      obtain ⟨ad, A2, c2, rfl, e0, e1, e2, l2, g2⟩ := at_T24 hrd (i : Int) (by omega) (by omega)
      have hx : rd_T24 ks (i : Int) = ks[i] := by simp [rd_T24, List.getD_eq_getElem?_getD, hlt]
      rw [hx] at e0 e1 e2 l2 g2
      simp only [Int.toNat_natCast] at e0 e1 e2
      have HT := Aside0.mk (show ks.take (i + 1) = ks.take i ++ [ks[i]] from List.take_succ_eq_append_getElem hlt)
      have HX := Aside0.mk (HH.out ks[i] (List.getElem_mem hlt))
      have HG := Aside0.mk g2
      have HL := Aside0.mk l2
      clear hrd hx g2 l2
      generalize ks[i] = x at e0 e1 e2 HT HX HG HL
      go_wp2_with fail
      refine (odd_calls x HX.out A2 c2 _ HG.out HL.out).mono ?_
      rintro e w1 ⟨rfl, hb⟩
      have HB1 := Aside0.mk (below_step HB.out hb)
      clear hb e0 e1 e2
      cases hx : rightN x with
      | true =>
        go_wp2_with fail
        go_roundg (ks.length - (i + 1))
        case measure => have := HI.out; omega
        case rel => exact ⟨i + 1, by go_num, ⟨by have := HI.out; omega⟩, ⟨by rw [HT.out, List.all_append, HA.out]; simp [hx]⟩, HB1⟩
      | false =>
        go_wp2_with fail
        go_ret
        refine ⟨⟨(i : Int), rfl, ?_⟩, HB1.out⟩
        have h1 : x ∈ ks := by
          have : x ∈ ks.take (i + 1) := by rw [HT.out]; simp
          exact List.mem_of_mem_take this
        constructor
        · intro hall
          have := List.all_eq_true.1 hall x h1
          rw [hx] at this
          cases this
        · intro h2; omega
    · have := HI.out
      obtain rfl : i = ks.length := by omega
      clear this
      go_wp2_with fail
      go_ret
      exact ⟨⟨-1, rfl, by have := HA.out; rw [List.take_length] at this; simp [this]⟩, HB.out⟩
set_option maxHeartbeats 400000 in
theorem contains_calls (ks : List S24) (h : ∀ x ∈ ks, RightAt x) (A : Option Addr) (c : Nat) (w : World) (hr : Kd.C k24 w A ks.length ks) (hc : ks.length ≤ c) :
    Calls Try.prog 65 #[.slice A ks.length c, .func (.func 64) #[] #[]] w fun e w' => e = .returned (.bool (!ks.all rightN)) ∧ Below w.heap.size w w' := by
  have HR := Aside0.mk hr
  have HC := Aside0.mk hc
  have HH := Aside0.mk h
  clear hr hc h
  go_enter Try.func65, Try.ntmps65
  go_wp2_with fail
  refine (index_calls ks HH.out A c _ HR.out HC.out).mono ?_
  rintro e w1 ⟨⟨i, rfl, hi⟩, hb⟩
  have HB := Aside0.mk hb
  have HE : Aside0 ((!ks.all rightN) = decide (0 ≤ i)) := ⟨by
    cases hk : ks.all rightN with
    | true => have := hi.1 hk; simp; omega
    | false => simp; rw [hk] at hi; simp at hi; omega⟩
  clear hi hb
  go_wp2_with fail
  go_ret
  exact ⟨by rw [HE.out]; rfl, HB.out⟩
theorem right_eq (n : S24) : rightN n = (headOk n.f0 n.f1 n.f2.length && n.f2.all rightN) := by rw [rightN_eq, rightL_all]
theorem head_cases (kd st : Int) (m : Nat) : (headOk kd st m = true ∧ ((kd = 1 ∧ (m : Int) = 0 ∧ 0 ≤ st ∧ st ≤ 63) ∨ kd = 0 ∨ (kd = 2 ∧ 0 < (m : Int)) ∨ (kd = 3 ∧ (m : Int) = 1) ∨ (kd = 4 ∧ (m : Int) = 1) ∨ (kd = 5 ∧ (m : Int) = 1))) ∨
    (headOk kd st m = false ∧ ((kd = 1 ∧ ¬ (m : Int) = 0) ∨ (kd = 1 ∧ (m : Int) = 0 ∧ ¬ 0 ≤ st) ∨ (kd = 1 ∧ (m : Int) = 0 ∧ 0 ≤ st ∧ ¬ st ≤ 63) ∨ (kd = 2 ∧ ¬ 0 < (m : Int)) ∨ (kd = 3 ∧ ¬ (m : Int) = 1) ∨ (kd = 4 ∧ ¬ (m : Int) = 1) ∨ (kd = 5 ∧ ¬ (m : Int) = 1) ∨ (¬ kd = 1 ∧ ¬ kd = 0 ∧ ¬ kd = 2 ∧ ¬ kd = 3 ∧ ¬ kd = 4 ∧ ¬ kd = 5))) := by
  unfold headOk
  by_cases h1 : kd = 1
  · rw [if_pos h1]
    by_cases hm : m = 0 ∧ 0 ≤ st ∧ st ≤ 63
    · exact .inl ⟨by simp [hm], .inl ⟨h1, by omega, by omega, by omega⟩⟩
    · refine .inr ⟨by simp only [decide_eq_false_iff_not]; exact hm, ?_⟩
      by_cases a : (m : Int) = 0
      · by_cases b : 0 ≤ st
        · exact .inr (.inr (.inl ⟨h1, a, b, by omega⟩))
        · exact .inr (.inl ⟨h1, a, b⟩)
      · exact .inl ⟨h1, a⟩
  rw [if_neg h1]
  by_cases h0 : kd = 0
  · rw [if_pos h0]; exact .inl ⟨rfl, .inr (.inl h0)⟩
  rw [if_neg h0]
  by_cases h2 : kd = 2
  · rw [if_pos h2]
    by_cases hm : 0 < m
    · exact .inl ⟨by simp [hm], .inr (.inr (.inl ⟨h2, by omega⟩))⟩
    · exact .inr ⟨by simp only [decide_eq_false_iff_not]; exact hm, .inr (.inr (.inr (.inl ⟨h2, by omega⟩)))⟩
  rw [if_neg h2]
  by_cases h3 : kd = 3 ∨ kd = 4 ∨ kd = 5
  · rw [if_pos h3]
    by_cases hm : m = 1
    · refine .inl ⟨by simp [hm], ?_⟩
      rcases h3 with h | h | h
      · exact .inr (.inr (.inr (.inl ⟨h, by omega⟩)))
      · exact .inr (.inr (.inr (.inr (.inl ⟨h, by omega⟩))))
      · exact .inr (.inr (.inr (.inr (.inr ⟨h, by omega⟩))))
    · refine .inr ⟨by simp only [decide_eq_false_iff_not]; exact hm, ?_⟩
      rcases h3 with h | h | h
      · exact .inr (.inr (.inr (.inr (.inl ⟨h, by omega⟩))))
      · exact .inr (.inr (.inr (.inr (.inr (.inl ⟨h, by omega⟩)))))
      · exact .inr (.inr (.inr (.inr (.inr (.inr (.inl ⟨h, by omega⟩))))))
  · rw [if_neg h3]
    exact .inr ⟨rfl, .inr (.inr (.inr (.inr (.inr (.inr (.inr ⟨h1, h0, h2, by omega, by omega, by omega⟩))))))⟩
set_option maxRecDepth 100000 in
set_option maxHeartbeats 800000 in
theorem right_step (n : S24) (h : ∀ x ∈ n.f2, RightAt x) : RightAt n := by
  intro A c w hr hc
  have hu24 := Try.underlying24
  have HR := Aside0.mk hr
  have HC := Aside0.mk hc
  have HH := Aside0.mk h
  have HE := Aside0.mk (right_eq n)
  have HL := hr.2.1
  obtain ⟨kd, st, ks⟩ := n
  dsimp only at *
  clear hr hc h
  unfold nodeV
  dsimp only
  rcases head_cases kd st ks.length with ⟨h1, hk⟩ | ⟨h1, hk⟩
  · have HE2 : Aside0 (rightN ⟨kd, st, ks⟩ = ks.all rightN) := ⟨by rw [HE.out, h1]; rfl⟩
    clear HE h1
    rcases hk with ⟨rfl, g0, g1, g2⟩ | rfl | ⟨rfl, g0⟩ | ⟨rfl, g0⟩ | ⟨rfl, g0⟩ | ⟨rfl, g0⟩
    · skip
      go_enter Try.func41, Try.ntmps41
      go_wp2_with (first | ((with_reducible refine gate_dst (N := 1) rfl ?_); refine box_event ?hg (N := 1) ?hd (cs := #[.int .i64 1, .int .i64 st, .slice A ks.length c]) (t := 24) ?hr ?_; (case hd => rfl); (case hg => rfl); (case hr => first | (go_simp; done) | (go_simp; rfl)); intro gb hg w1 hbox hb; have BK := Aside0.mk hbox; have HB := Aside0.mk hb; have hc0 : w1.cell? ⟨gb, 0, none⟩ = some (.int .i64 1) := (blk_cell BK.out 0).trans rfl; have hc1 : w1.cell? ⟨gb, 1, none⟩ = some (.int .i64 st) := (blk_cell BK.out 1).trans rfl; have hc2 : w1.cell? ⟨gb, 2, none⟩ = some (.slice A ks.length c) := (blk_cell BK.out 2).trans rfl; clear hg hbox hb))
      refine (contains_calls ks HH.out A c _ (Kd.C_below HR.out HB.out) HC.out).mono ?_
      rintro e w2 ⟨rfl, hb⟩
      have HB2 := Aside0.mk (below_step HB.out hb)
      clear hb
      go_wp2_with fail
      go_ret
      exact ⟨by rw [HE2.out]; rfl, HB2.out⟩
    · skip
      go_enter Try.func41, Try.ntmps41
      go_wp2_with (first | ((with_reducible refine gate_dst (N := 1) rfl ?_); refine box_event ?hg (N := 1) ?hd (cs := #[.int .i64 0, .int .i64 st, .slice A ks.length c]) (t := 24) ?hr ?_; (case hd => rfl); (case hg => rfl); (case hr => first | (go_simp; done) | (go_simp; rfl)); intro gb hg w1 hbox hb; have BK := Aside0.mk hbox; have HB := Aside0.mk hb; have hc0 : w1.cell? ⟨gb, 0, none⟩ = some (.int .i64 0) := (blk_cell BK.out 0).trans rfl; have hc1 : w1.cell? ⟨gb, 1, none⟩ = some (.int .i64 st) := (blk_cell BK.out 1).trans rfl; have hc2 : w1.cell? ⟨gb, 2, none⟩ = some (.slice A ks.length c) := (blk_cell BK.out 2).trans rfl; clear hg hbox hb))
      refine (contains_calls ks HH.out A c _ (Kd.C_below HR.out HB.out) HC.out).mono ?_
      rintro e w2 ⟨rfl, hb⟩
      have HB2 := Aside0.mk (below_step HB.out hb)
      clear hb
      go_wp2_with fail
      go_ret
      exact ⟨by rw [HE2.out]; rfl, HB2.out⟩
    · skip
      go_enter Try.func41, Try.ntmps41
      go_wp2_with (first | ((with_reducible refine gate_dst (N := 1) rfl ?_); refine box_event ?hg (N := 1) ?hd (cs := #[.int .i64 2, .int .i64 st, .slice A ks.length c]) (t := 24) ?hr ?_; (case hd => rfl); (case hg => rfl); (case hr => first | (go_simp; done) | (go_simp; rfl)); intro gb hg w1 hbox hb; have BK := Aside0.mk hbox; have HB := Aside0.mk hb; have hc0 : w1.cell? ⟨gb, 0, none⟩ = some (.int .i64 2) := (blk_cell BK.out 0).trans rfl; have hc1 : w1.cell? ⟨gb, 1, none⟩ = some (.int .i64 st) := (blk_cell BK.out 1).trans rfl; have hc2 : w1.cell? ⟨gb, 2, none⟩ = some (.slice A ks.length c) := (blk_cell BK.out 2).trans rfl; clear hg hbox hb))
      refine (contains_calls ks HH.out A c _ (Kd.C_below HR.out HB.out) HC.out).mono ?_
      rintro e w2 ⟨rfl, hb⟩
      have HB2 := Aside0.mk (below_step HB.out hb)
      clear hb
      go_wp2_with fail
      go_ret
      exact ⟨by rw [HE2.out]; rfl, HB2.out⟩
    · skip
      go_enter Try.func41, Try.ntmps41
      go_wp2_with (first | ((with_reducible refine gate_dst (N := 1) rfl ?_); refine box_event ?hg (N := 1) ?hd (cs := #[.int .i64 3, .int .i64 st, .slice A ks.length c]) (t := 24) ?hr ?_; (case hd => rfl); (case hg => rfl); (case hr => first | (go_simp; done) | (go_simp; rfl)); intro gb hg w1 hbox hb; have BK := Aside0.mk hbox; have HB := Aside0.mk hb; have hc0 : w1.cell? ⟨gb, 0, none⟩ = some (.int .i64 3) := (blk_cell BK.out 0).trans rfl; have hc1 : w1.cell? ⟨gb, 1, none⟩ = some (.int .i64 st) := (blk_cell BK.out 1).trans rfl; have hc2 : w1.cell? ⟨gb, 2, none⟩ = some (.slice A ks.length c) := (blk_cell BK.out 2).trans rfl; clear hg hbox hb))
      refine (contains_calls ks HH.out A c _ (Kd.C_below HR.out HB.out) HC.out).mono ?_
      rintro e w2 ⟨rfl, hb⟩
      have HB2 := Aside0.mk (below_step HB.out hb)
      clear hb
      go_wp2_with fail
      go_ret
      exact ⟨by rw [HE2.out]; rfl, HB2.out⟩
    · skip
      go_enter Try.func41, Try.ntmps41
      go_wp2_with (first | ((with_reducible refine gate_dst (N := 1) rfl ?_); refine box_event ?hg (N := 1) ?hd (cs := #[.int .i64 4, .int .i64 st, .slice A ks.length c]) (t := 24) ?hr ?_; (case hd => rfl); (case hg => rfl); (case hr => first | (go_simp; done) | (go_simp; rfl)); intro gb hg w1 hbox hb; have BK := Aside0.mk hbox; have HB := Aside0.mk hb; have hc0 : w1.cell? ⟨gb, 0, none⟩ = some (.int .i64 4) := (blk_cell BK.out 0).trans rfl; have hc1 : w1.cell? ⟨gb, 1, none⟩ = some (.int .i64 st) := (blk_cell BK.out 1).trans rfl; have hc2 : w1.cell? ⟨gb, 2, none⟩ = some (.slice A ks.length c) := (blk_cell BK.out 2).trans rfl; clear hg hbox hb))
      refine (contains_calls ks HH.out A c _ (Kd.C_below HR.out HB.out) HC.out).mono ?_
      rintro e w2 ⟨rfl, hb⟩
      have HB2 := Aside0.mk (below_step HB.out hb)
      clear hb
      go_wp2_with fail
      go_ret
      exact ⟨by rw [HE2.out]; rfl, HB2.out⟩
    · skip
      go_enter Try.func41, Try.ntmps41
      go_wp2_with (first | ((with_reducible refine gate_dst (N := 1) rfl ?_); refine box_event ?hg (N := 1) ?hd (cs := #[.int .i64 5, .int .i64 st, .slice A ks.length c]) (t := 24) ?hr ?_; (case hd => rfl); (case hg => rfl); (case hr => first | (go_simp; done) | (go_simp; rfl)); intro gb hg w1 hbox hb; have BK := Aside0.mk hbox; have HB := Aside0.mk hb; have hc0 : w1.cell? ⟨gb, 0, none⟩ = some (.int .i64 5) := (blk_cell BK.out 0).trans rfl; have hc1 : w1.cell? ⟨gb, 1, none⟩ = some (.int .i64 st) := (blk_cell BK.out 1).trans rfl; have hc2 : w1.cell? ⟨gb, 2, none⟩ = some (.slice A ks.length c) := (blk_cell BK.out 2).trans rfl; clear hg hbox hb))
      refine (contains_calls ks HH.out A c _ (Kd.C_below HR.out HB.out) HC.out).mono ?_
      rintro e w2 ⟨rfl, hb⟩
      have HB2 := Aside0.mk (below_step HB.out hb)
      clear hb
      go_wp2_with fail
      go_ret
      exact ⟨by rw [HE2.out]; rfl, HB2.out⟩
  · have HE2 : Aside0 (rightN ⟨kd, st, ks⟩ = false) := ⟨by rw [HE.out, h1]; rfl⟩
    clear HE h1
    rcases hk with ⟨rfl, g0⟩ | ⟨rfl, g0, g1⟩ | ⟨rfl, g0, g1, g2⟩ | ⟨rfl, g0⟩ | ⟨rfl, g0⟩ | ⟨rfl, g0⟩ | ⟨rfl, g0⟩ | ⟨g0, g1, g2, g3, g4, g5⟩
    · have g0b : decide ((ks.length : Int) = 0) = false := decide_eq_false g0
      have hks : ks ≠ [] := by rintro rfl; exact g0 rfl
      go_enter Try.func41, Try.ntmps41
      go_wp2_with (first | ((with_reducible refine gate_dst (N := 1) rfl ?_); refine box_event ?hg (N := 1) ?hd (cs := #[.int .i64 1, .int .i64 st, .slice A ks.length c]) (t := 24) ?hr ?_; (case hd => rfl); (case hg => rfl); (case hr => first | (go_simp; done) | (go_simp; rfl)); intro gb hg w1 hbox hb; have BK := Aside0.mk hbox; have HB := Aside0.mk hb; have hc0 : w1.cell? ⟨gb, 0, none⟩ = some (.int .i64 1) := (blk_cell BK.out 0).trans rfl; have hc1 : w1.cell? ⟨gb, 1, none⟩ = some (.int .i64 st) := (blk_cell BK.out 1).trans rfl; have hc2 : w1.cell? ⟨gb, 2, none⟩ = some (.slice A ks.length c) := (blk_cell BK.out 2).trans rfl; clear hg hbox hb))
      go_ret
      exact ⟨by rw [HE2.out]; rfl, HB.out⟩
    · skip
      go_enter Try.func41, Try.ntmps41
      go_wp2_with (first | ((with_reducible refine gate_dst (N := 1) rfl ?_); refine box_event ?hg (N := 1) ?hd (cs := #[.int .i64 1, .int .i64 st, .slice A ks.length c]) (t := 24) ?hr ?_; (case hd => rfl); (case hg => rfl); (case hr => first | (go_simp; done) | (go_simp; rfl)); intro gb hg w1 hbox hb; have BK := Aside0.mk hbox; have HB := Aside0.mk hb; have hc0 : w1.cell? ⟨gb, 0, none⟩ = some (.int .i64 1) := (blk_cell BK.out 0).trans rfl; have hc1 : w1.cell? ⟨gb, 1, none⟩ = some (.int .i64 st) := (blk_cell BK.out 1).trans rfl; have hc2 : w1.cell? ⟨gb, 2, none⟩ = some (.slice A ks.length c) := (blk_cell BK.out 2).trans rfl; clear hg hbox hb))
      go_ret
      exact ⟨by rw [HE2.out]; rfl, HB.out⟩
    · skip
      go_enter Try.func41, Try.ntmps41
      go_wp2_with (first | ((with_reducible refine gate_dst (N := 1) rfl ?_); refine box_event ?hg (N := 1) ?hd (cs := #[.int .i64 1, .int .i64 st, .slice A ks.length c]) (t := 24) ?hr ?_; (case hd => rfl); (case hg => rfl); (case hr => first | (go_simp; done) | (go_simp; rfl)); intro gb hg w1 hbox hb; have BK := Aside0.mk hbox; have HB := Aside0.mk hb; have hc0 : w1.cell? ⟨gb, 0, none⟩ = some (.int .i64 1) := (blk_cell BK.out 0).trans rfl; have hc1 : w1.cell? ⟨gb, 1, none⟩ = some (.int .i64 st) := (blk_cell BK.out 1).trans rfl; have hc2 : w1.cell? ⟨gb, 2, none⟩ = some (.slice A ks.length c) := (blk_cell BK.out 2).trans rfl; clear hg hbox hb))
      go_ret
      exact ⟨by rw [HE2.out]; rfl, HB.out⟩
    · skip
      go_enter Try.func41, Try.ntmps41
      go_wp2_with (first | ((with_reducible refine gate_dst (N := 1) rfl ?_); refine box_event ?hg (N := 1) ?hd (cs := #[.int .i64 2, .int .i64 st, .slice A ks.length c]) (t := 24) ?hr ?_; (case hd => rfl); (case hg => rfl); (case hr => first | (go_simp; done) | (go_simp; rfl)); intro gb hg w1 hbox hb; have BK := Aside0.mk hbox; have HB := Aside0.mk hb; have hc0 : w1.cell? ⟨gb, 0, none⟩ = some (.int .i64 2) := (blk_cell BK.out 0).trans rfl; have hc1 : w1.cell? ⟨gb, 1, none⟩ = some (.int .i64 st) := (blk_cell BK.out 1).trans rfl; have hc2 : w1.cell? ⟨gb, 2, none⟩ = some (.slice A ks.length c) := (blk_cell BK.out 2).trans rfl; clear hg hbox hb))
      go_ret
      exact ⟨by rw [HE2.out]; rfl, HB.out⟩
    · skip
      go_enter Try.func41, Try.ntmps41
      go_wp2_with (first | ((with_reducible refine gate_dst (N := 1) rfl ?_); refine box_event ?hg (N := 1) ?hd (cs := #[.int .i64 3, .int .i64 st, .slice A ks.length c]) (t := 24) ?hr ?_; (case hd => rfl); (case hg => rfl); (case hr => first | (go_simp; done) | (go_simp; rfl)); intro gb hg w1 hbox hb; have BK := Aside0.mk hbox; have HB := Aside0.mk hb; have hc0 : w1.cell? ⟨gb, 0, none⟩ = some (.int .i64 3) := (blk_cell BK.out 0).trans rfl; have hc1 : w1.cell? ⟨gb, 1, none⟩ = some (.int .i64 st) := (blk_cell BK.out 1).trans rfl; have hc2 : w1.cell? ⟨gb, 2, none⟩ = some (.slice A ks.length c) := (blk_cell BK.out 2).trans rfl; clear hg hbox hb))
      go_ret
      exact ⟨by rw [HE2.out]; rfl, HB.out⟩
    · skip
      go_enter Try.func41, Try.ntmps41
      go_wp2_with (first | ((with_reducible refine gate_dst (N := 1) rfl ?_); refine box_event ?hg (N := 1) ?hd (cs := #[.int .i64 4, .int .i64 st, .slice A ks.length c]) (t := 24) ?hr ?_; (case hd => rfl); (case hg => rfl); (case hr => first | (go_simp; done) | (go_simp; rfl)); intro gb hg w1 hbox hb; have BK := Aside0.mk hbox; have HB := Aside0.mk hb; have hc0 : w1.cell? ⟨gb, 0, none⟩ = some (.int .i64 4) := (blk_cell BK.out 0).trans rfl; have hc1 : w1.cell? ⟨gb, 1, none⟩ = some (.int .i64 st) := (blk_cell BK.out 1).trans rfl; have hc2 : w1.cell? ⟨gb, 2, none⟩ = some (.slice A ks.length c) := (blk_cell BK.out 2).trans rfl; clear hg hbox hb))
      go_ret
      exact ⟨by rw [HE2.out]; rfl, HB.out⟩
    · skip
      go_enter Try.func41, Try.ntmps41
      go_wp2_with (first | ((with_reducible refine gate_dst (N := 1) rfl ?_); refine box_event ?hg (N := 1) ?hd (cs := #[.int .i64 5, .int .i64 st, .slice A ks.length c]) (t := 24) ?hr ?_; (case hd => rfl); (case hg => rfl); (case hr => first | (go_simp; done) | (go_simp; rfl)); intro gb hg w1 hbox hb; have BK := Aside0.mk hbox; have HB := Aside0.mk hb; have hc0 : w1.cell? ⟨gb, 0, none⟩ = some (.int .i64 5) := (blk_cell BK.out 0).trans rfl; have hc1 : w1.cell? ⟨gb, 1, none⟩ = some (.int .i64 st) := (blk_cell BK.out 1).trans rfl; have hc2 : w1.cell? ⟨gb, 2, none⟩ = some (.slice A ks.length c) := (blk_cell BK.out 2).trans rfl; clear hg hbox hb))
      go_ret
      exact ⟨by rw [HE2.out]; rfl, HB.out⟩
    · skip
      go_enter Try.func41, Try.ntmps41
      go_wp2_with (first | ((with_reducible refine gate_dst (N := 1) rfl ?_); refine box_event ?hg (N := 1) ?hd (cs := #[.int .i64 kd, .int .i64 st, .slice A ks.length c]) (t := 24) ?hr ?_; (case hd => rfl); (case hg => rfl); (case hr => first | (go_simp; done) | (go_simp; rfl)); intro gb hg w1 hbox hb; have BK := Aside0.mk hbox; have HB := Aside0.mk hb; have hc0 : w1.cell? ⟨gb, 0, none⟩ = some (.int .i64 kd) := (blk_cell BK.out 0).trans rfl; have hc1 : w1.cell? ⟨gb, 1, none⟩ = some (.int .i64 st) := (blk_cell BK.out 1).trans rfl; have hc2 : w1.cell? ⟨gb, 2, none⟩ = some (.slice A ks.length c) := (blk_cell BK.out 2).trans rfl; clear hg hbox hb))
      go_ret
      exact ⟨by rw [HE2.out]; rfl, HB.out⟩
theorem right_calls : ∀ n : S24, RightAt n := fun n => by
  generalize hm : SizeOf.sizeOf n = m
  induction m using Nat.strongRecOn generalizing n with
  | _ m ih => exact right_step n (fun x hx => ih (SizeOf.sizeOf x) (by have := size_kid hx; omega) x rfl)
end Go.Proofs.Ytkoofldididpgaa.NR

end
section
namespace Go.Proofs.Ytkoofldididpgaa.NK
open Go Go.RowKit Go.Proofs.YtkoofldididpgaaW.PrintWords Go.Proofs.YtkoofldididpgaaW.PrintLast Go.Proofs.YtkoofldididpgaaW.PrintMore
open Go.Proofs.Ytkoofldididpgaa.XB Go.Proofs.Ytkoofldididpgaa.NM Go.Proofs.Ytkoofldididpgaa.NR Go.Proofs.Ytkoofldididpgaa.BM
set_option linter.unusedVariables false
set_option linter.unusedSimpArgs false
def CountAt (n : S24) : Prop := ∀ (A : Option Addr) (c : Nat) (w : World), Kd.C k24 w A n.f2.length n.f2 → n.f2.length ≤ c → cntN n < 4611686018427387904 →
  Calls Try.prog 47 #[nodeV n A c] w fun e w' => e = .returned (.int .i64 (cntN n : Int)) ∧ Below w.heap.size w w'
theorem cntL_take (ks : List S24) (i : Nat) (h : i < ks.length) : cntL (ks.take (i + 1)) = cntL (ks.take i) + cntN ks[i] := by
  rw [List.take_succ_eq_append_getElem h, cntL_append, cntL, cntL]; omega
theorem cntL_take_le (ks : List S24) (i : Nat) : cntL (ks.take i) ≤ cntL ks := by
  have := cntL_append (ks.take i) (ks.drop i)
  rw [List.take_append_drop] at this
  omega
set_option maxRecDepth 100000 in
set_option maxHeartbeats 400000 in
theorem count_step (n : S24) (h : ∀ x ∈ n.f2, CountAt x) : CountAt n := by
  intro A c w hr hc hm
  have hu24 := Try.underlying24
  have HR := Aside0.mk hr
  have HC := Aside0.mk hc
  have HH := Aside0.mk h
  have HL := hr.2.1
  rw [cntN_eq] at hm ⊢
  obtain ⟨kd, st, ks⟩ := n
  dsimp only at *
  clear hr hc h
  unfold nodeV
  dsimp only
  by_cases h1 : kd = 1
  · subst h1
    rw [if_pos rfl]
    go_enter Try.func47, Try.ntmps47
    go_wp2_with fail
    go_ret
    exact ⟨rfl, below_alloc (Below.refl _ _) _⟩
  · rw [if_neg h1] at hm ⊢
    have hkb : (kd == 1) = false := by rw [beq_eq_false_iff_ne]; exact h1
    go_enter Try.func47, Try.ntmps47
    go_wp2_with fail
    go_loopg [3, 5, 12] ks.length (fun kq v3 v5 v12 wr => ∃ i : Nat, v12 = .int .i64 i ∧ Aside0 (i ≤ ks.length ∧ kq + i = ks.length) ∧ v3 = .int .i64 (cntL (ks.take i) : Int) ∧ Aside0 (Below w.heap.size w wr))
    case atStart => exact ⟨0, rfl, ⟨by omega⟩, by simp [cntL], ⟨below_alloc (Below.refl _ _) _⟩⟩
    case round =>
      obtain ⟨i, rfl, HI, rfl, HB⟩ := hrel
      by_cases hlt : i < ks.length
      · have hrd := Kd.C_below HR.out HB.out
        obtain ⟨ad, A2, c2, rfl, e0, e1, e2, l2, g2⟩ := at_T24 hrd (i : Int) (by omega) (by omega)
        have hx : rd_T24 ks (i : Int) = ks[i] := by simp [rd_T24, List.getD_eq_getElem?_getD, hlt]
        rw [hx] at e0 e1 e2 l2 g2
        simp only [Int.toNat_natCast] at e0 e1 e2
        have HT := Aside0.mk (cntL_take ks i hlt)
        have HX := Aside0.mk (HH.out ks[i] (List.getElem_mem hlt))
        have HG := Aside0.mk g2
        have HL2 := Aside0.mk l2
        have hle := cntL_take_le ks (i + 1)
        rw [HT.out] at hle
        clear hrd hx g2 l2
        generalize ks[i] = x at e0 e1 e2 HT HX HG HL2 hle
        have HLE := Aside0.mk hle
        go_wp2_with fail
        refine (HX.out A2 c2 _ (Kd.C_alloc HG.out _) HL2.out (by have := HLE.out; omega)).mono ?_
        rintro e w1 ⟨rfl, hb⟩
        have HB1 := Aside0.mk (below_step (below_alloc HB.out _) hb)
        clear hb e0 e1 e2
        go_wp2_with fail
        go_roundg (ks.length - (i + 1))
        case measure => have := HI.out; omega
        case rel => exact ⟨i + 1, by go_num, ⟨by have := HI.out; omega⟩, by rw [HT.out]; go_num, HB1⟩
      · have := HI.out
        obtain rfl : i = ks.length := by omega
        clear this
        go_wp2_with fail
        go_ret
        exact ⟨by rw [List.take_length]; rfl, HB.out⟩
theorem count_calls : ∀ n : S24, CountAt n := fun n => by
  generalize hm : SizeOf.sizeOf n = m
  induction m using Nat.strongRecOn generalizing n with
  | _ m ih => exact count_step n (fun x hx => ih (SizeOf.sizeOf x) (by have := size_kid hx; omega) x rfl)
end Go.Proofs.Ytkoofldididpgaa.NK

end
section
namespace Go.Proofs.Ytkoofldididpgaa.NA
open Go Go.RowKit Go.Proofs.YtkoofldididpgaaW.PrintWords Go.Proofs.YtkoofldididpgaaW.PrintLast Go.Proofs.YtkoofldididpgaaW.PrintMore
open Go.Proofs.Ytkoofldididpgaa.XB Go.Proofs.Ytkoofldididpgaa.NW Go.Proofs.Ytkoofldididpgaa.BM Go.Proofs.Ytkoofldididpgaa.FM
set_option linter.unusedVariables false
structure Rows (X : Nat → Prop) (B p : Nat) (vs vf : Value) (s : St) (w : World) : Prop where
  pb : B ≤ p
  lt : p < w.heap.size
  sets : Kd.R kI 3 w B (fun k => k ≠ p ∧ some k ≠ vf.ownBlock) vs s.sets
  fol : Kd.N kII 27 w B (fun k => k ≠ p ∧ some k ≠ vs.ownBlock ∧ ¬ X k) vf s.follow
variable {cs : Value → Value → Array Value} {t : Nat} {X : Nat → Prop} {B p : Nat} {vs vf : Value} {s : St} {w w1 : World}
theorem AutoM.rows (h : AutoM cs t X B p vs vf s w) : Rows X B p vs vf s w := ⟨h.pb, h.lt, h.sets, h.fol⟩
theorem Rows.auto (h : Rows X B p vs vf s w) (hb : w.heap[p]? = some (.cells (cs vs vf) t (0, 0))) : AutoM cs t X B p vs vf s w := ⟨hb, h.pb, h.sets, h.fol⟩
theorem Rows.below (h : Rows X B p vs vf s w) (hb : Below w.heap.size w w1) : Rows X B p vs vf s w1 := ⟨h.pb, Nat.lt_of_lt_of_le h.lt hb.size, Kd.R_below h.sets hb, Kd.N_below h.fol hb⟩
theorem Rows.base (h : Rows X B p vs vf s w) : B ≤ w.heap.size := Nat.le_of_lt (Nat.lt_of_le_of_lt h.pb h.lt)
theorem Rows.setp (h : Rows X B p vs vf s w) (i : Nat) (u : Value) : Rows X B p vs vf s (w.setCell ⟨p, i, none⟩ u) := ⟨h.pb, by simpa [World.setCell] using h.lt, Kd.R_far h.sets (fun k hk => hk.1) u, Kd.N_far h.fol (fun k hk => hk.1) u⟩
theorem Rows.app1 {vs' : Value} {ys : List Int} (h : Rows X B p vs vf s w) (hR : Kd.R kI 3 w1 B (fun k => k ≠ p ∧ some k ≠ vf.ownBlock) vs' ys) (hg : w.grownBy w1 vs.ownBlock) (hat : vs'.ownBlock = vs.ownBlock ∨ ∃ b, vs'.ownBlock = some b ∧ w.heap.size ≤ b) :
    Rows X B p vs' vf ⟨ys, s.follow⟩ w1 := by
  refine ⟨h.pb, Nat.lt_of_lt_of_le h.lt hg.size, hR, ?_⟩
  have h1 : Kd.N kII 27 w B (fun k => (k ≠ p ∧ ¬ X k) ∧ some k ≠ vs.ownBlock) vf s.follow := Kd.N_mono h.fol (fun k hk => ⟨⟨hk.1, hk.2.2⟩, hk.2.1⟩)
  exact Kd.N_mono (Kd.N_after h1 hg hat) (fun k hk => ⟨hk.1.1, hk.2, hk.1.2⟩)
theorem Rows.app2 {vf' : Value} {fo : List (List Int)} (h : Rows X B p vs vf s w) (hN : Kd.N kII 27 w1 B (fun k => k ≠ p ∧ some k ≠ vs.ownBlock ∧ ¬ X k) vf' fo) (hg : w.grownBy w1 vf.ownBlock) (hat : vf'.ownBlock = vf.ownBlock ∨ ∃ b, vf'.ownBlock = some b ∧ w.heap.size ≤ b) :
    Rows X B p vs vf' ⟨s.sets, fo⟩ w1 :=
  ⟨h.pb, Nat.lt_of_lt_of_le h.lt hg.size, Kd.R_after h.sets hg hat, hN⟩
theorem Stp.app1 {vs' : Value} (h : Rows X B p vs vf s w) (hg : w.grownBy w1 vs.ownBlock) (hat : vs'.ownBlock = vs.ownBlock ∨ ∃ b, vs'.ownBlock = some b ∧ w.heap.size ≤ b) : Stp B p vs vf vs' vf w w1 :=
  ⟨(Below.refl B w).grown hg h.base (Kd.R_base h.sets), fun k hk ha => hg.block k hk ha.2.1, hat, .inl rfl⟩
theorem Stp.app2 {vf' : Value} (h : Rows X B p vs vf s w) (hg : w.grownBy w1 vf.ownBlock) (hat : vf'.ownBlock = vf.ownBlock ∨ ∃ b, vf'.ownBlock = some b ∧ w.heap.size ≤ b) : Stp B p vs vf vs vf' w w1 :=
  ⟨(Below.refl B w).grown hg h.base (Kd.N_base h.fol), fun k hk ha => hg.block k hk ha.2.2, .inl rfl, hat⟩
theorem Stp.setp (B p : Nat) (vs vf : Value) (w : World) (hp : B ≤ p) (i : Nat) (u : Value) : Stp B p vs vf vs vf w (w.setCell ⟨p, i, none⟩ u) :=
  ⟨(Below.refl B w).setCell hp u, fun k hk ha => Below.heap_setCell w _ u k ha.1, .inl rfl, .inl rfl⟩
theorem lit1 {W : World} {L t : Nat} {x : Int} (h : W.heap[L]? = some (.cells #[.int .i64 x] t (0, 0))) : ReadsRow (kI.K W) kI.sz W (some ⟨L, 0, none⟩) 1 [x] := by
  refine ⟨rfl, by omega, fun _ => ⟨_, rfl, fun j q hj => ?_⟩⟩
  match j, hj with
  | 0, hj =>
    obtain rfl : x = q := by simpa using hj
    refine ⟨[.int .i64 x], rfl, rfl, fun i u hu => ?_⟩
    match i, hu with
    | 0, hu =>
      obtain rfl : Value.int .i64 x = u := by simpa using hu
      exact (blk_cell h 0).trans rfl
theorem lit2 {W : World} {L t : Nat} (h : W.heap[L]? = some (.cells #[.slice none 0 0] t (0, 0))) : Kd.F kII W (fun k => k = L) (some ⟨L, 0, none⟩) 1 [[]] := fun W' hW => by
  have hb : W'.heap[L]? = some (.cells #[.slice none 0 0] t (0, 0)) := (hW L rfl (Array.getElem?_eq_some_iff.1 h).1).trans h
  refine ⟨rfl, by omega, fun _ => ⟨_, rfl, fun j q hj => ?_⟩⟩
  match j, hj with
  | 0, hj =>
    obtain rfl : [] = q := by simpa using hj
    refine ⟨[.slice none 0 0], rfl, ⟨none, 0, rfl, Nat.le_refl _, Kd.C_nil _ _⟩, fun i u hu => ?_⟩
    match i, hu with
    | 0, hu =>
      obtain rfl : Value.slice none 0 0 = u := by simpa using hu
      exact (blk_cell hb 0).trans rfl
structure Grw (X : Nat → Prop) (B p : Nat) (vs vf : Value) (C : Array Value) (t : Nat) (W : World) (v1 v2 : Value) (s : St) (w : World) : Prop where
  rows : Rows X B p v1 v2 s w
  stp : Stp B p vs vf v1 v2 W w
  blk : w.heap[p]? = some (.cells C t (0, 0))
section
variable {C : Array Value} {W : World} {v1 v2 v' : Value}
theorem Grw.below (h : Grw X B p vs vf C t W v1 v2 s w) (hb : Below w.heap.size w w1) : Grw X B p vs vf C t W v1 v2 s w1 :=
  ⟨h.rows.below hb, h.stp.trans (Stp.of_below h.rows.base hb), blk_below h.blk hb⟩
theorem Grw.app1 {ys : List Int} (h : Grw X B p vs vf C t W v1 v2 s w) (hR : Kd.R kI 3 w1 B (fun k => k ≠ p ∧ some k ≠ v2.ownBlock) v' ys) (hg : w.grownBy w1 v1.ownBlock) (hat : v'.ownBlock = v1.ownBlock ∨ ∃ b, v'.ownBlock = some b ∧ w.heap.size ≤ b) :
    Grw X B p vs vf C t W v' v2 ⟨ys, s.follow⟩ w1 :=
  ⟨h.rows.app1 hR hg hat, h.stp.trans (Stp.app1 h.rows hg hat), (hg.block p h.rows.lt (fun e => (h.rows.sets.1 p e.symm).1 rfl)).trans h.blk⟩
theorem Grw.app2 {fo : List (List Int)} (h : Grw X B p vs vf C t W v1 v2 s w) (hN : Kd.N kII 27 w1 B (fun k => k ≠ p ∧ some k ≠ v1.ownBlock ∧ ¬ X k) v' fo) (hg : w.grownBy w1 v2.ownBlock) (hat : v'.ownBlock = v2.ownBlock ∨ ∃ b, v'.ownBlock = some b ∧ w.heap.size ≤ b) :
    Grw X B p vs vf C t W v1 v' ⟨s.sets, fo⟩ w1 :=
  ⟨h.rows.app2 hN hg hat, h.stp.trans (Stp.app2 h.rows hg hat), (hg.block p h.rows.lt (fun e => (h.rows.fol.1 p e.symm).1 rfl)).trans h.blk⟩
theorem Grw.at_ (h : Grw X B p vs vf C t W v1 v2 s w) {k : Nat} {o : Obj} (ha : Away p vs vf k) (hk : W.heap[k]? = some o) : w.heap[k]? = some o := h.stp.blk ha hk
end
theorem val_ {P : Program} {ops : Array Oper} {Q : Exit → Act → World → Prop} {oi : Oper} {N : Option Tmp} {a : Act} {w w1 : World} {K : Act → World → Prop} {v : Value} (hw : Region.wanted oi (yielded ops a.tmps) = true) (hN : oi.dst = N) (hrun : (execOp a.eval oi).run P w = .ok (.value v) w1)
    (h : K (a.put N v) w1) : if Region.wanted oi (yielded ops a.tmps) = true then Oper.wp P oi a w K Q else K (a.put N undef) w := by
  rw [if_pos hw]
  unfold Oper.wp
  rw [hrun]
  show K (a.put oi.dst v) w1
  rw [hN]
  exact h
end Go.Proofs.Ytkoofldididpgaa.NA

end
section
namespace Go.Proofs.Ytkoofldididpgaa.NB
open Go Go.RowKit Go.Proofs.YtkoofldididpgaaW.PrintWords Go.Proofs.YtkoofldididpgaaW.PrintLast Go.Proofs.YtkoofldididpgaaW.PrintMore
open Go.Proofs.Ytkoofldididpgaa.XB Go.Proofs.Ytkoofldididpgaa.NM Go.Proofs.Ytkoofldididpgaa.NR Go.Proofs.Ytkoofldididpgaa.NW Go.Proofs.Ytkoofldididpgaa.BM Go.Proofs.Ytkoofldididpgaa.FM Go.Proofs.Ytkoofldididpgaa.NA Go.Proofs.Ytkoofldididpgaa.NN Go.Proofs.Ytkoofldididpgaa.NT Go.Proofs.Ytkoofldididpgaa.NO Go.Proofs.Ytkoofldididpgaa.RT
set_option linter.unusedVariables false
set_option linter.unusedSimpArgs false
def BPost (X : Nat → Prop) (B p : Nat) (vs vf : Value) (w : World) (r : BM.Edge × St) : Ending → World → Prop := fun e w' =>
  ∃ v1 v2 vs' vf', e = .returned (partV r.1.null v1 v2) ∧ AutoP X B p vs' vf' r.2 w' ∧ Stp B p vs vf vs' vf' w w' ∧ PartM B p vs' vf' r.1 v1 v2 w'
set_option maxRecDepth 100000 in
set_option maxHeartbeats 1600000 in
theorem built_set (X : Nat → Prop) (B p : Nat) (vs vf : Value) (s : St) (st : Int) (A : Option Addr) (c : Nat) (w : World) (hB : B ≤ w.heap.size) (hX : ∀ k, X k → k < w.heap.size) (hA : AutoP X B p vs vf s w) (hs : SOk s) (hm : s.sets.length + 1 ≤ 300) :
    Calls Try.prog 48 #[.pointer (some ⟨p, 0, none⟩), .agg #[.int .i64 1, .int .i64 st, .slice A 0 c]] w (BPost X B p vs vf w (⟨false, [(s.sets.length : Int) + 1], [(s.sets.length : Int) + 1]⟩, ⟨s.sets ++ [st], s.follow ++ [[]]⟩)) := by
  have HA := Aside0.mk hA
  have HS := Aside0.mk hs
  have hfl : s.follow.length + 1 ≤ 300 := by have := hs.len; omega
  clear hA hs
  go_enter Try.func48, Try.ntmps48
  go_wp2_with fail
  have hb3 : Below w.heap.size w (((w.alloc (Obj.cells #[.pointer (some ⟨p, 0, none⟩)] 71)).alloc (Obj.cells #[.int .i64 1, .int .i64 st, .slice A 0 c] 24)).alloc (Obj.cells #[.bool false, .slice none 0 0, .slice none 0 0] 69)) := by repeat (first | exact Below.refl _ _ | apply below_alloc)
  have ba : (((w.alloc (Obj.cells #[.pointer (some ⟨p, 0, none⟩)] 71)).alloc (Obj.cells #[.int .i64 1, .int .i64 st, .slice A 0 c] 24)).alloc (Obj.cells #[.bool false, .slice none 0 0, .slice none 0 0] 69)).heap[w.heap.size]? = some (.cells #[.pointer (some ⟨p, 0, none⟩)] 71 (0, 0)) := by repeat (first | exact blk_new _ _ | refine blk_alloc ?_ _)
  have bn : (((w.alloc (Obj.cells #[.pointer (some ⟨p, 0, none⟩)] 71)).alloc (Obj.cells #[.int .i64 1, .int .i64 st, .slice A 0 c] 24)).alloc (Obj.cells #[.bool false, .slice none 0 0, .slice none 0 0] 69)).heap[w.heap.size + 1]? = some (.cells #[.int .i64 1, .int .i64 st, .slice A 0 c] 24 (0, 0)) := blk_alloc (by simpa using blk_new (w.alloc (Obj.cells #[.pointer (some ⟨p, 0, none⟩)] 71)) (Obj.cells #[.int .i64 1, .int .i64 st, .slice A 0 c] 24)) _
  have br : (((w.alloc (Obj.cells #[.pointer (some ⟨p, 0, none⟩)] 71)).alloc (Obj.cells #[.int .i64 1, .int .i64 st, .slice A 0 c] 24)).alloc (Obj.cells #[.bool false, .slice none 0 0, .slice none 0 0] 69)).heap[w.heap.size + 1 + 1]? = some (.cells #[.bool false, .slice none 0 0, .slice none 0 0] 69 (0, 0)) := by simpa using blk_new ((w.alloc (Obj.cells #[.pointer (some ⟨p, 0, none⟩)] 71)).alloc (Obj.cells #[.int .i64 1, .int .i64 st, .slice A 0 c] 24)) (Obj.cells #[.bool false, .slice none 0 0, .slice none 0 0] 69)
  have hsz : (((w.alloc (Obj.cells #[.pointer (some ⟨p, 0, none⟩)] 71)).alloc (Obj.cells #[.int .i64 1, .int .i64 st, .slice A 0 c] 24)).alloc (Obj.cells #[.bool false, .slice none 0 0, .slice none 0 0] 69)).heap.size = w.heap.size + 3 := by simp
  generalize (((w.alloc (Obj.cells #[.pointer (some ⟨p, 0, none⟩)] 71)).alloc (Obj.cells #[.int .i64 1, .int .i64 st, .slice A 0 c] 24)).alloc (Obj.cells #[.bool false, .slice none 0 0, .slice none 0 0] 69)) = W at hb3 ba bn br hsz ⊢
  have hlt := HA.out.lt
  have hA0 := AutoM.more HA.out hb3 (fun k => k = w.heap.size + 1 + 1) (fun k hk => by omega)
  have HXX : Aside0 (∀ k, (X k ∨ k = w.heap.size + 1 + 1) → k < W.heap.size) := ⟨fun k hk => by
    rcases hk with hk | hk
    · have := hX k hk; omega
    · omega⟩
  have HS3 := Aside0.mk (Stp.of_below (p := p) (vs := vs) (vf := vf) hB hb3)
  have HG0 := Aside0.mk (show Grw (fun k => X k ∨ k = w.heap.size + 1 + 1) B p vs vf (csP vs vf) 30 W vs vf s W.drew from (Grw.mk hA0.rows (Stp.refl _ _ _ _ _) hA0.blk).below (below_drew (Below.refl _ _)))
  have HAA := Aside0.mk (hA0.away ba (by omega) (by decide) (by decide))
  have HAN := Aside0.mk (hA0.away bn (by omega) (by decide) (by decide))
  have HAR := Aside0.mk (hA0.away br (by omega) (by decide) (by decide))
  have BA := Aside0.mk ba
  have BN := Aside0.mk bn
  have BR := Aside0.mk br
  have HSZ := Aside0.mk hsz
  have HLT := Aside0.mk hlt
  have hWB : B ≤ W.heap.size := by omega
  have hWw : w.heap.size + 3 ≤ W.heap.size := by omega
  clear ba bn br hsz hA0 hb3 hX
  have HTG : Aside0 (∀ (l : Array Bool) (v1 v2 : Value) (s' : St) (w' : World), Grw (fun k => X k ∨ k = w.heap.size + 1 + 1) B p vs vf (csP vs vf) 30 W v1 v2 s' w' → Till [(none, fun w' : World => w'.cell? ⟨w.heap.size, 0, none⟩ = some (.pointer (some ⟨p, 0, none⟩)) ∧ w'.cell? ⟨w.heap.size + 1, 1, none⟩ = some (.int .i64 st)), (some 18, fun w' : World => w'.cell? ⟨p, 1, none⟩ = some vs ∧ w'.cell? ⟨p, 4, none⟩ = some vf)] l w') := ⟨fun l v1 v2 s' w' h =>
    Till.live ⟨(blk_cell (h.at_ HAA.out BA.out) 0).trans rfl, (blk_cell (h.at_ HAN.out BN.out) 1).trans rfl⟩ (Till.live ⟨(blk_cell h.blk 1).trans rfl, (blk_cell h.blk 4).trans rfl⟩ (Till.nil _ _))⟩
  refine st_ [(none, (fun w' : World => w'.cell? ⟨w.heap.size, 0, none⟩ = some (.pointer (some ⟨p, 0, none⟩)) ∧ w'.cell? ⟨w.heap.size + 1, 1, none⟩ = some (.int .i64 st))), (some 18, (fun w' : World => w'.cell? ⟨p, 1, none⟩ = some vs ∧ w'.cell? ⟨p, 4, none⟩ = some vf))] #[false, false, false, false, false, false, false, false, false, false, false, false, false, false, false, false, false, false, false, false, false, false] (by kernel_rfl) rfl rfl (HTG.out _ _ _ _ _ HG0.out) (fun hT => ?_)
  refine tk_ (i := 0) (N := some 19) (v := ?_) (a' := ?_) none (fun w' : World => w'.cell? ⟨w.heap.size, 0, none⟩ = some (.pointer (some ⟨p, 0, none⟩)) ∧ w'.cell? ⟨w.heap.size + 1, 1, none⟩ = some (.int .i64 st)) #[true, false, false, false, false, false, false, false, false, false, false, false, false, false, false, false, false, false, false, false, false, false] (List.Mem.head _) rfl rfl (by kernel_rfl) (fun _ _ _ h => h) (Or.inl ⟨by rfl, ?_⟩) hT ?_ (fun hT => ?_)
  rotate_left
  · rintro w' ⟨s0, s1⟩
    go_simp
    with_reducible rfl
  rotate_left
  · simp only [Act.put, List.setIfInBounds_toArray, List.set_cons_zero, List.set_cons_succ, i64_w, i32_w]
    rfl
  refine tk_ (i := 1) (N := some 20) (v := ?_) (a' := ?_) none (fun w' : World => w'.cell? ⟨w.heap.size, 0, none⟩ = some (.pointer (some ⟨p, 0, none⟩)) ∧ w'.cell? ⟨w.heap.size + 1, 1, none⟩ = some (.int .i64 st)) #[true, true, false, false, false, false, false, false, false, false, false, false, false, false, false, false, false, false, false, false, false, false] (List.Mem.head _) rfl rfl (by kernel_rfl) (fun _ _ _ h => h) (Or.inl ⟨by rfl, ?_⟩) hT ?_ (fun hT => ?_)
  rotate_left
  · rintro w' ⟨s0, s1⟩
    go_simp
    with_reducible rfl
  rotate_left
  · simp only [Act.put, List.setIfInBounds_toArray, List.set_cons_zero, List.set_cons_succ, i64_w, i32_w]
    rfl
  refine tk_ (i := 2) (N := some 21) (v := ?_) (a' := ?_) none (fun w' : World => w'.cell? ⟨w.heap.size, 0, none⟩ = some (.pointer (some ⟨p, 0, none⟩)) ∧ w'.cell? ⟨w.heap.size + 1, 1, none⟩ = some (.int .i64 st)) #[true, true, true, false, false, false, false, false, false, false, false, false, false, false, false, false, false, false, false, false, false, false] (List.Mem.head _) rfl rfl (by kernel_rfl) (fun _ _ _ h => h) (Or.inl ⟨by rfl, ?_⟩) hT ?_ (fun hT => ?_)
  rotate_left
  · rintro w' ⟨s0, s1⟩
    go_simp
    with_reducible rfl
  rotate_left
  · simp only [Act.put, List.setIfInBounds_toArray, List.set_cons_zero, List.set_cons_succ, i64_w, i32_w]
    rfl
  refine pr_ (i := 3) (N := some 22) (v := ?_) (a' := ?_) #[true, true, true, true, false, false, false, false, false, false, false, false, false, false, false, false, false, false, false, false, false, false] rfl rfl (by kernel_rfl) (fun _ _ _ h => h) (Or.inl ⟨by rfl, ?_⟩) hT ?_ (fun hT => ?_)
  rotate_left
  · intro w'
    go_simp
    with_reducible rfl
  rotate_left
  · simp only [Act.put, List.setIfInBounds_toArray, List.set_cons_zero, List.set_cons_succ, i64_w, i32_w]
    rfl
  refine pr_ (i := 4) (N := some 23) (v := ?_) (a' := ?_) #[true, true, true, true, true, false, false, false, false, false, false, false, false, false, false, false, false, false, false, false, false, false] rfl rfl (by kernel_rfl) (fun _ _ _ h => h) (Or.inl ⟨by rfl, ?_⟩) hT ?_ (fun hT => ?_)
  rotate_left
  · intro w'
    go_simp
    with_reducible rfl
  rotate_left
  · simp only [Act.put, List.setIfInBounds_toArray, List.set_cons_zero, List.set_cons_succ, i64_w, i32_w]
    rfl
  refine tk_ (i := 5) (N := some 24) (v := ?_) (a' := ?_) (some 18) (fun w' : World => w'.cell? ⟨p, 1, none⟩ = some vs ∧ w'.cell? ⟨p, 4, none⟩ = some vf) #[true, true, true, true, true, true, false, false, false, false, false, false, false, false, false, false, false, false, false, false, false, false] (List.Mem.tail _ (List.Mem.head _)) rfl rfl (by kernel_rfl) (fun _ _ _ h => h) (Or.inl ⟨by rfl, ?_⟩) hT ?_ (fun hT => ?_)
  rotate_left
  · rintro w' ⟨s0, s1⟩
    go_simp
    with_reducible rfl
  rotate_left
  · simp only [Act.put, List.setIfInBounds_toArray, List.set_cons_zero, List.set_cons_succ, i64_w, i32_w]
    rfl
  refine pr_ (i := 6) (N := some 25) (v := ?_) (a' := ?_) #[true, true, true, true, true, true, true, false, false, false, false, false, false, false, false, false, false, false, false, false, false, false] rfl rfl (by kernel_rfl) (fun _ _ _ h => h) (Or.inl ⟨by rfl, ?_⟩) hT ?_ (fun hT => ?_)
  rotate_left
  · intro w'
    go_simp
    with_reducible rfl
  rotate_left
  · simp only [Act.put, List.setIfInBounds_toArray, List.set_cons_zero, List.set_cons_succ, i64_w, i32_w]
    rfl
  refine tk_ (i := 7) (N := some 26) (v := ?_) (a' := ?_) none (fun w' : World => w'.cell? ⟨w.heap.size, 0, none⟩ = some (.pointer (some ⟨p, 0, none⟩)) ∧ w'.cell? ⟨w.heap.size + 1, 1, none⟩ = some (.int .i64 st)) #[true, true, true, true, true, true, true, true, false, false, false, false, false, false, false, false, false, false, false, false, false, false] (List.Mem.head _) rfl rfl (by kernel_rfl) (fun _ _ _ h => h) (Or.inl ⟨by rfl, ?_⟩) hT ?_ (fun hT => ?_)
  rotate_left
  · rintro w' ⟨s0, s1⟩
    go_simp
    with_reducible rfl
  rotate_left
  · simp only [Act.put, List.setIfInBounds_toArray, List.set_cons_zero, List.set_cons_succ, i64_w, i32_w]
    rfl
  refine tk_ (i := 10) (N := some 29) (v := ?_) (a' := ?_) none (fun w' : World => w'.cell? ⟨w.heap.size, 0, none⟩ = some (.pointer (some ⟨p, 0, none⟩)) ∧ w'.cell? ⟨w.heap.size + 1, 1, none⟩ = some (.int .i64 st)) #[true, true, true, true, true, true, true, true, false, false, true, false, false, false, false, false, false, false, false, false, false, false] (List.Mem.head _) rfl rfl (by kernel_rfl) (fun _ _ _ h => h) (Or.inl ⟨by rfl, ?_⟩) hT ?_ (fun hT => ?_)
  rotate_left
  · rintro w' ⟨s0, s1⟩
    go_simp
    with_reducible rfl
  rotate_left
  · simp only [Act.put, List.setIfInBounds_toArray, List.set_cons_zero, List.set_cons_succ, i64_w, i32_w]
    rfl
  refine pr_ (i := 11) (N := some 30) (v := ?_) (a' := ?_) #[true, true, true, true, true, true, true, true, false, false, true, true, false, false, false, false, false, false, false, false, false, false] rfl rfl (by kernel_rfl) (fun _ _ _ h => h) (Or.inl ⟨by rfl, ?_⟩) hT ?_ (fun hT => ?_)
  rotate_left
  · intro w'
    go_simp
    with_reducible rfl
  rotate_left
  · simp only [Act.put, List.setIfInBounds_toArray, List.set_cons_zero, List.set_cons_succ, i64_w, i32_w]
    rfl
  refine pr_ (i := 12) (N := some 31) (v := ?_) (a' := ?_) #[true, true, true, true, true, true, true, true, false, false, true, true, true, false, false, false, false, false, false, false, false, false] rfl rfl (by kernel_rfl) (fun _ _ _ h => h) (Or.inl ⟨by rfl, ?_⟩) hT ?_ (fun hT => ?_)
  rotate_left
  · intro w'
    go_simp
    with_reducible rfl
  rotate_left
  · simp only [Act.put, List.setIfInBounds_toArray, List.set_cons_zero, List.set_cons_succ, i64_w, i32_w]
    rfl
  refine tk_ (i := 13) (N := some 32) (v := ?_) (a' := ?_) (some 18) (fun w' : World => w'.cell? ⟨p, 1, none⟩ = some vs ∧ w'.cell? ⟨p, 4, none⟩ = some vf) #[true, true, true, true, true, true, true, true, false, false, true, true, true, true, false, false, false, false, false, false, false, false] (List.Mem.tail _ (List.Mem.head _)) rfl rfl (by kernel_rfl) (fun _ _ _ h => h) (Or.inl ⟨by rfl, ?_⟩) hT ?_ (fun hT => ?_)
  rotate_left
  · rintro w' ⟨s0, s1⟩
    go_simp
    with_reducible rfl
  rotate_left
  · simp only [Act.put, List.setIfInBounds_toArray, List.set_cons_zero, List.set_cons_succ, i64_w, i32_w]
    rfl
  refine jn_ (σ := Value × Value × Value × Value) 6 #[true, true, true, true, true, true, true, true, true, true, true, true, true, true, true, true, false, false, false, false, false, false] (fun q => [(27, q.1), (28, q.2.1), (33, q.2.2.1), (34, q.2.2.2)]) (fun q w' => Grw (fun k => X k ∨ k = w.heap.size + 1 + 1) B p vs vf (csP vs vf) 30 W q.2.1 q.2.2.2 ⟨s.sets ++ [st], s.follow ++ [[]]⟩ w') ?_ (fun hcont => ?_)
  · rintro ⟨v27, v28, v33, v34⟩ w' hG
    have HG := Aside0.mk hG
    clear hG
    have hT := HTG.out #[true, true, true, true, true, true, true, true, true, true, true, true, true, true, true, true, false, false, false, false, false, false] _ _ _ _ HG.out
    refine nm_ (a' := ?_) ?_ ?_
    rotate_left
    · simp only [putAll, Act.put, List.setIfInBounds_toArray, List.set_cons_zero, List.set_cons_succ]
      rfl
    refine pr_ (i := 16) (N := some 35) (v := ?_) (a' := ?_) #[true, true, true, true, true, true, true, true, true, true, true, true, true, true, true, true, true, false, false, false, false, false] rfl rfl (by kernel_rfl) (fun _ _ _ h => h) (Or.inl ⟨by rfl, ?_⟩) hT ?_ (fun hT => ?_)
    rotate_left
    · intro w'
      go_simp
      with_reducible rfl
    rotate_left
    · simp only [Act.put, List.setIfInBounds_toArray, List.set_cons_zero, List.set_cons_succ, i64_w, i32_w]
      rfl
    refine pr_ (i := 17) (N := some 36) (v := ?_) (a' := ?_) #[true, true, true, true, true, true, true, true, true, true, true, true, true, true, true, true, true, true, false, false, false, false] rfl rfl (by kernel_rfl) (fun _ _ _ h => h) (Or.inl ⟨by rfl, ?_⟩) hT ?_ (fun hT => ?_)
    rotate_left
    · intro w'
      go_simp
      with_reducible rfl
    rotate_left
    · simp only [Act.put, List.setIfInBounds_toArray, List.set_cons_zero, List.set_cons_succ, i64_w, i32_w]
      rfl
    obtain ⟨A28, c28, rfl⟩ := Kd.R_slice HG.out.rows.sets
    obtain ⟨A34, c34, rfl⟩ := Kd.N_slice HG.out.rows.fol
    dsimp only at HG
    have hp1 : w'.cell? ⟨p, 1, none⟩ = some vs := (blk_cell HG.out.blk 1).trans rfl
    have hp4 : w'.cell? ⟨p, 4, none⟩ = some vf := (blk_cell HG.out.blk 4).trans rfl
    have hfr : ∀ i, w'.frozen? ⟨p, i, none⟩ = false := fun i => blk_frozen HG.out.blk i
    have H1 := Aside0.mk (HG.out.rows.setp 1 (.slice A28 (s.sets ++ [st]).length c28))
    have HS1 := Aside0.mk (HG.out.stp.trans (Stp.setp B p _ _ w' HG.out.rows.pb 1 (.slice A28 (s.sets ++ [st]).length c28)))
    have HB1 := Aside0.mk (blk_set HG.out.blk 1 (.slice A28 (s.sets ++ [st]).length c28))
    refine on_ (i := 18) (N := none) #[true, true, true, true, true, true, true, true, true, true, true, true, true, true, true, true, true, true, true, false, false, false] rfl rfl (by kernel_rfl) (fun K hK => ?_)
    refine skip_ (w1 := w'.setCell ⟨p, 1, none⟩ (.slice A28 (s.sets ++ [st]).length c28)) (by rfl) rfl ?_ ?_
    · go_simp
    refine hK.out _ _ ?_ (fun hT => ?_)
    · exact Till.live ⟨(blk_cell (HS1.out.blk HAA.out BA.out) 0).trans rfl, (blk_cell (HS1.out.blk HAN.out BN.out) 1).trans rfl⟩ (Till.dead rfl (Till.nil _ _))
    clear hK K hp1 hp4 hfr
    generalize w'.setCell ⟨p, 1, none⟩ (.slice A28 (s.sets ++ [st]).length c28) = w2 at H1 HS1 HB1 hT ⊢
    have hp4 : w2.cell? ⟨p, 4, none⟩ = some vf := (blk_cell HB1.out 4).trans rfl
    have hfr : ∀ i, w2.frozen? ⟨p, i, none⟩ = false := fun i => blk_frozen HB1.out i
    refine pr_ (i := 19) (N := some 37) (v := ?_) (a' := ?_) #[true, true, true, true, true, true, true, true, true, true, true, true, true, true, true, true, true, true, true, true, false, false] rfl rfl (by kernel_rfl) (fun _ _ _ h => h) (Or.inl ⟨by rfl, ?_⟩) hT ?_ (fun hT => ?_)
    rotate_left
    · intro w'
      go_simp
      with_reducible rfl
    rotate_left
    · simp only [Act.put, List.setIfInBounds_toArray, List.set_cons_zero, List.set_cons_succ, i64_w, i32_w]
      rfl
    refine pr_ (i := 20) (N := some 38) (v := ?_) (a' := ?_) #[true, true, true, true, true, true, true, true, true, true, true, true, true, true, true, true, true, true, true, true, true, false] rfl rfl (by kernel_rfl) (fun _ _ _ h => h) (Or.inl ⟨by rfl, ?_⟩) hT ?_ (fun hT => ?_)
    rotate_left
    · intro w'
      go_simp
      with_reducible rfl
    rotate_left
    · simp only [Act.put, List.setIfInBounds_toArray, List.set_cons_zero, List.set_cons_succ, i64_w, i32_w]
      rfl
    refine on_ (i := 21) (N := none) #[true, true, true, true, true, true, true, true, true, true, true, true, true, true, true, true, true, true, true, true, true, true] rfl rfl (by kernel_rfl) (fun K hK => ?_)
    refine skip_ (w1 := w2.setCell ⟨p, 4, none⟩ (.slice A34 (s.follow ++ [[]]).length c34)) (by rfl) rfl ?_ ?_
    · go_simp
    have H2 := Aside0.mk (H1.out.setp 4 (.slice A34 (s.follow ++ [[]]).length c34))
    have HS2 := Aside0.mk (HS1.out.trans (Stp.setp B p _ _ w2 H1.out.pb 4 (.slice A34 (s.follow ++ [[]]).length c34)))
    have HB2 := Aside0.mk (show (w2.setCell ⟨p, 4, none⟩ (.slice A34 (s.follow ++ [[]]).length c34)).heap[p]? = some (.cells (csP (.slice A28 (s.sets ++ [st]).length c28) (.slice A34 (s.follow ++ [[]]).length c34)) 30 (0, 0)) from blk_set HB1.out 4 _)
    refine hK.out _ _ ?_ (fun hT => ?_)
    · exact Till.live ⟨(blk_cell (HS2.out.blk HAA.out BA.out) 0).trans rfl, (blk_cell (HS2.out.blk HAN.out BN.out) 1).trans rfl⟩ (Till.dead rfl (Till.nil _ _))
    clear hK K hp4 hfr hT
    refine dn_ (by kernel_rfl) ?_ _
    generalize w2.setCell ⟨p, 4, none⟩ (.slice A34 (s.follow ++ [[]]).length c34) = w3 at H2 HS2 HB2 ⊢
    have hc1 : w3.cell? ⟨w.heap.size, 0, none⟩ = some (.pointer (some ⟨p, 0, none⟩)) := (blk_cell (HS2.out.blk HAA.out BA.out) 0).trans rfl
    have hc2 : w3.cell? ⟨p, 1, none⟩ = some (.slice A28 (s.sets ++ [st]).length c28) := (blk_cell HB2.out 1).trans rfl
    have hsl : (s.sets ++ [st]).length = s.sets.length + 1 := by simp
    have BR3 := Aside0.mk (HS2.out.blk HAR.out BR.out)
    have hr0 : w3.cell? ⟨w.heap.size + 1 + 1, 0, none⟩ = some (.bool false) := (blk_cell BR3.out 0).trans rfl
    have hr1 : w3.cell? ⟨w.heap.size + 1 + 1, 1, none⟩ = some (.slice none 0 0) := (blk_cell BR3.out 1).trans rfl
    have hr2 : w3.cell? ⟨w.heap.size + 1 + 1, 2, none⟩ = some (.slice none 0 0) := (blk_cell BR3.out 2).trans rfl
    have hfr : ∀ i, w3.frozen? ⟨w.heap.size + 1 + 1, i, none⟩ = false := fun i => blk_frozen BR3.out i
    have hl3 : w.heap.size + 1 + 1 < w3.heap.size := (Array.getElem?_eq_some_iff.1 BR3.out).1
    have hn3 : ¬ w.heap.size + 1 + 1 = w3.heap.size := by omega
    have hn4 : ¬ w3.heap.size = w.heap.size + 1 + 1 := by omega
    rw [hsl] at hc2
    have HSL := Aside0.mk hsl
    clear hsl
    go_wp2_with fail
    refine bodyPost_ret (results_c1 (P := Try.prog) rfl _ _ (w.heap.size + 1 + 1) 69 #[.bool false, (Value.slice (some ⟨w3.heap.size, 0, none⟩) 1 1), (Value.slice (some ⟨w3.heap.size, 0, none⟩) 1 1)] (0, 0) _ rfl ?_ Try.underlying69 rfl (by kernel_rfl)) rfl ?_
    · exact blk_alloc (set3 BR3.out) _
    have hO : Own (w.heap.size + 1 + 1) w3 ((((w3.setCell ⟨w.heap.size + 1 + 1, 0, none⟩ (.bool false)).setCell ⟨w.heap.size + 1 + 1, 1, none⟩ (Value.slice (some ⟨w3.heap.size, 0, none⟩) 1 1)).setCell ⟨w.heap.size + 1 + 1, 2, none⟩ (Value.slice (some ⟨w3.heap.size, 0, none⟩) 1 1)).alloc (Obj.cells #[.int .i64 ((s.sets.length : Int) + 1)] 3)) := ⟨rfl, rfl, rfl, by simp [World.setCell], fun k hk hne => (heap_alloc_old _ _ (by simpa [World.setCell] using hk)).trans (set3_other hne)⟩
    have hown := own_lit (((w3.setCell ⟨w.heap.size + 1 + 1, 0, none⟩ (.bool false)).setCell ⟨w.heap.size + 1 + 1, 1, none⟩ (Value.slice (some ⟨w3.heap.size, 0, none⟩) 1 1)).setCell ⟨w.heap.size + 1 + 1, 2, none⟩ (Value.slice (some ⟨w3.heap.size, 0, none⟩) 1 1)) B 3 .i64 [(s.sets.length : Int) + 1] (by simp [World.setCell]; omega) (by simp)
    rw [show (((w3.setCell ⟨w.heap.size + 1 + 1, 0, none⟩ (.bool false)).setCell ⟨w.heap.size + 1 + 1, 1, none⟩ (Value.slice (some ⟨w3.heap.size, 0, none⟩) 1 1)).setCell ⟨w.heap.size + 1 + 1, 2, none⟩ (Value.slice (some ⟨w3.heap.size, 0, none⟩) 1 1)).heap.size = w3.heap.size by simp [World.setCell]] at hown
    have hA5 := H2.out.auto HB2.out
    have hS5 := Stp.own hB (HS3.out.trans HS2.out) (by omega) hO
    have hlt2 := HLT.out
    have hR5 : Kd.R kI 3 ((((w3.setCell ⟨w.heap.size + 1 + 1, 0, none⟩ (.bool false)).setCell ⟨w.heap.size + 1 + 1, 1, none⟩ (Value.slice (some ⟨w3.heap.size, 0, none⟩) 1 1)).setCell ⟨w.heap.size + 1 + 1, 2, none⟩ (Value.slice (some ⟨w3.heap.size, 0, none⟩) 1 1)).alloc (Obj.cells #[.int .i64 ((s.sets.length : Int) + 1)] 3)) B (Away p (.slice A28 (s.sets ++ [st]).length c28) (.slice A34 (s.follow ++ [[]]).length c34)) (Value.slice (some ⟨w3.heap.size, 0, none⟩) 1 1) [(s.sets.length : Int) + 1] := Kd.R_of_own (enc := Value.int .i64) (h1 := fun _ => rfl) hown (fun k hk => by
      obtain rfl : w3.heap.size = k := by simpa [Value.ownBlock] using hk
      exact ⟨by have := H2.out.lt; omega, fun e => Nat.lt_irrefl _ (Kd.R_lt H2.out.sets _ e.symm), fun e => Nat.lt_irrefl _ (Kd.N_lt H2.out.fol _ e.symm)⟩)
    exact ⟨_, _, _, _, rfl, AutoM.less (AutoM.own hA5 BR3.out (by omega) (by decide) (.inr rfl) hO) (fun k hk => .inl hk), hS5, hR5, hR5⟩
  have hz0 : W.drew.heap.size = W.heap.size := rfl
  generalize W.drew = wd at HG0 hT hz0 ⊢
  refine tw_ (i := 8) (j := 14) (Ni := some 27) (Nj := some 33) #[true, true, true, true, true, true, true, true, true, false, true, true, true, true, false, false, false, false, false, false, false, false] #[true, true, true, true, true, true, true, true, false, false, true, true, true, true, true, false, false, false, false, false, false, false] rfl rfl rfl rfl (by kernel_rfl) (fun K hK => ?_) (fun K hK => ?_)
  · skip
    refine val_ (v := .slice (some ⟨wd.heap.size, 0, none⟩) 1 1) (w1 := wd.alloc (.cells #[.int .i64 st] 3)) (by rfl) rfl ?_ ?_
    · go_simp
    have HGa := Aside0.mk (HG0.out.below (below_alloc (Below.refl _ _) (.cells #[.int .i64 st] 3)))
    have BL1 := Aside0.mk (blk_new wd (.cells #[.int .i64 st] 3))
    have hz_wa : (wd.alloc (.cells #[.int .i64 st] 3)).heap.size = wd.heap.size + 1 := by simp
    refine hK.out _ _ (HTG.out _ _ _ _ _ HGa.out) (fun hT => ?_)
    clear hK K
    generalize wd.alloc (.cells #[.int .i64 st] 3) = wa at hz_wa HGa BL1  hT ⊢
    refine nm_ (a' := ?_) ?_ ?_
    rotate_left
    · show Act.put _ (some 27) _ = _
      simp only [Act.put, List.setIfInBounds_toArray, List.set_cons_zero, List.set_cons_succ, i64_w, i32_w]
      rfl
    refine tw_ (i := 9) (j := 14) (Ni := some 28) (Nj := some 33) #[true, true, true, true, true, true, true, true, true, true, true, true, true, true, false, false, false, false, false, false, false, false] #[true, true, true, true, true, true, true, true, true, false, true, true, true, true, true, false, false, false, false, false, false, false] rfl rfl rfl rfl (by kernel_rfl) (fun K hK => ?_) (fun K hK => ?_)
    · skip
      refine Kd.R_append_rows_step kI B (by rfl) (.tmp 24) (.tmp 27) 27 3 (.int .i64 0) 8 rfl Try.underlying27 (by kernel_rfl) rfl (by decide) (by decide) vs s.sets [st] (some ⟨wd.heap.size, 0, none⟩) 1 1 (fun k => k ≠ p ∧ some k ≠ vf.ownBlock) (fun _ => False) (by rfl) (by rfl) HGa.out.rows.sets (lit1 BL1.out) (fun _ _ h => h) (fun _ h => h.elim) (fun k hk => ⟨by have := HGa.out.rows.lt; omega, fun e => by have := Kd.N_lt HGa.out.rows.fol k e.symm; omega⟩) (Below.refl B wa) HGa.out.rows.base (by omega) ?_
      intro v28 wb hR _ hg1 hat
      have HGb := Aside0.mk (HGa.out.app1 hR hg1 hat)
      have hz_wb := hg1.size
      have HO28 : Aside0 (∀ k, v28.ownBlock = some k → k < W.heap.size ∨ wa.heap.size ≤ k) := ⟨fun k hk => by
        rcases hat with e | ⟨b, e, hb⟩
        · rw [e] at hk; have := Kd.R_lt HG0.out.rows.sets _ hk; omega
        · rw [e] at hk; injection hk with hk; omega⟩
      refine hK.out _ _ (HTG.out _ _ _ _ _ HGb.out) (fun hT => ?_)
      clear hK K hR hg1 hat
      refine nm_ (a' := ?_) ?_ ?_
      rotate_left
      · show Act.put _ (some 28) _ = _
        simp only [Act.put, List.setIfInBounds_toArray, List.set_cons_zero, List.set_cons_succ, i64_w, i32_w]
        rfl
      refine on_ (i := 14) (N := some 33) #[true, true, true, true, true, true, true, true, true, true, true, true, true, true, true, false, false, false, false, false, false, false] rfl rfl (by kernel_rfl) (fun K hK => ?_)
      refine val_ (v := .slice (some ⟨wb.heap.size, 0, none⟩) 1 1) (w1 := wb.alloc (.cells #[.slice none 0 0] 27)) (by rfl) rfl ?_ ?_
      · go_simp
      have HGc := Aside0.mk (HGb.out.below (below_alloc (Below.refl _ _) (.cells #[.slice none 0 0] 27)))
      have BL2 := Aside0.mk (blk_new wb (.cells #[.slice none 0 0] 27))
      have hz_wc : (wb.alloc (.cells #[.slice none 0 0] 27)).heap.size = wb.heap.size + 1 := by simp
      refine hK.out _ _ (HTG.out _ _ _ _ _ HGc.out) (fun hT => ?_)
      clear hK K
      generalize wb.alloc (.cells #[.slice none 0 0] 27) = wc at hz_wc HGc BL2  hT ⊢
      refine nm_ (a' := ?_) ?_ ?_
      rotate_left
      · show Act.put _ (some 33) _ = _
        simp only [Act.put, List.setIfInBounds_toArray, List.set_cons_zero, List.set_cons_succ, i64_w, i32_w]
        rfl
      refine on_ (i := 15) (N := some 34) #[true, true, true, true, true, true, true, true, true, true, true, true, true, true, true, true, false, false, false, false, false, false] rfl rfl (by kernel_rfl) (fun K hK => ?_)
      refine Kd.N_append_rows_step kII B (by rfl) (.tmp 32) (.tmp 33) 28 27 (.slice none 0 0) 24 rfl Try.underlying28 (by kernel_rfl) rfl (by decide) (by decide) vf s.follow [[]] (some ⟨wb.heap.size, 0, none⟩) 1 1 (fun k => k ≠ p ∧ some k ≠ v28.ownBlock ∧ ¬ (X k ∨ k = w.heap.size + 1 + 1)) (fun k => k = wb.heap.size) (by rfl) (by rfl) HGc.out.rows.fol (lit2 BL2.out) (fun k hk => ⟨⟨by have := HLT.out; omega, fun e => by first | (have := HO28.out k e.symm; omega) | (have := Kd.R_lt HGb.out.rows.sets k e.symm; omega), fun hx => by have := HXX.out k hx; omega⟩, fun e => by have := Kd.N_lt HG0.out.rows.fol k e.symm; omega⟩) (fun k hk => ⟨by have := HGc.out.rows.lt; omega, fun e => by have := Kd.R_lt HGc.out.rows.sets k e.symm; omega, fun hx => by have := HXX.out k hx; omega⟩) (Below.refl B wc) HGc.out.rows.base (by show (s.follow.length + 1) * 24 ≤ _; omega) ?_
      intro v34 wz hN _ hg2 hat2
      have HGz := Aside0.mk (HGc.out.app2 hN hg2 hat2)
      refine hK.out _ _ (HTG.out _ _ _ _ _ HGz.out) (fun hT => ?_)
      exact hcont ((.slice (some ⟨wd.heap.size, 0, none⟩) 1 1), v28, .slice (some ⟨wb.heap.size, 0, none⟩) 1 1, v34) _ HGz.out
    · skip
      refine val_ (v := .slice (some ⟨wa.heap.size, 0, none⟩) 1 1) (w1 := wa.alloc (.cells #[.slice none 0 0] 27)) (by rfl) rfl ?_ ?_
      · go_simp
      have HGb := Aside0.mk (HGa.out.below (below_alloc (Below.refl _ _) (.cells #[.slice none 0 0] 27)))
      have BL2 := Aside0.mk (blk_new wa (.cells #[.slice none 0 0] 27))
      have BL1b := Aside0.mk (blk_alloc BL1.out (.cells #[.slice none 0 0] 27))
      have hz_wb : (wa.alloc (.cells #[.slice none 0 0] 27)).heap.size = wa.heap.size + 1 := by simp
      refine hK.out _ _ (HTG.out _ _ _ _ _ HGb.out) (fun hT => ?_)
      clear hK K
      generalize wa.alloc (.cells #[.slice none 0 0] 27) = wb at hz_wb HGb BL2 BL1b hT ⊢
      refine nm_ (a' := ?_) ?_ ?_
      rotate_left
      · show Act.put _ (some 33) _ = _
        simp only [Act.put, List.setIfInBounds_toArray, List.set_cons_zero, List.set_cons_succ, i64_w, i32_w]
        rfl
      refine on_ (i := 9) (N := some 28) #[true, true, true, true, true, true, true, true, true, true, true, true, true, true, true, false, false, false, false, false, false, false] rfl rfl (by kernel_rfl) (fun K hK => ?_)
      refine Kd.R_append_rows_step kI B (by rfl) (.tmp 24) (.tmp 27) 27 3 (.int .i64 0) 8 rfl Try.underlying27 (by kernel_rfl) rfl (by decide) (by decide) vs s.sets [st] (some ⟨wd.heap.size, 0, none⟩) 1 1 (fun k => k ≠ p ∧ some k ≠ vf.ownBlock) (fun _ => False) (by rfl) (by rfl) HGb.out.rows.sets (lit1 BL1b.out) (fun _ _ h => h) (fun _ h => h.elim) (fun k hk => ⟨by have := HGb.out.rows.lt; omega, fun e => by have := Kd.N_lt HGb.out.rows.fol k e.symm; omega⟩) (Below.refl B wb) HGb.out.rows.base (by omega) ?_
      intro v28 wc hR _ hg1 hat
      have HGc := Aside0.mk (HGb.out.app1 hR hg1 hat)
      have BL2c := Aside0.mk (blk_grown BL2.out hg1 (fun e => by have := Kd.R_lt HG0.out.rows.sets _ e.symm; omega))
      have hz_wc := hg1.size
      have HO28 : Aside0 (∀ k, v28.ownBlock = some k → k < W.heap.size ∨ wb.heap.size ≤ k) := ⟨fun k hk => by
        rcases hat with e | ⟨b, e, hb⟩
        · rw [e] at hk; have := Kd.R_lt HG0.out.rows.sets _ hk; omega
        · rw [e] at hk; injection hk with hk; omega⟩
      refine hK.out _ _ (HTG.out _ _ _ _ _ HGc.out) (fun hT => ?_)
      clear hK K hR hg1 hat
      refine nm_ (a' := ?_) ?_ ?_
      rotate_left
      · show Act.put _ (some 28) _ = _
        simp only [Act.put, List.setIfInBounds_toArray, List.set_cons_zero, List.set_cons_succ, i64_w, i32_w]
        rfl
      refine on_ (i := 15) (N := some 34) #[true, true, true, true, true, true, true, true, true, true, true, true, true, true, true, true, false, false, false, false, false, false] rfl rfl (by kernel_rfl) (fun K hK => ?_)
      refine Kd.N_append_rows_step kII B (by rfl) (.tmp 32) (.tmp 33) 28 27 (.slice none 0 0) 24 rfl Try.underlying28 (by kernel_rfl) rfl (by decide) (by decide) vf s.follow [[]] (some ⟨wa.heap.size, 0, none⟩) 1 1 (fun k => k ≠ p ∧ some k ≠ v28.ownBlock ∧ ¬ (X k ∨ k = w.heap.size + 1 + 1)) (fun k => k = wa.heap.size) (by rfl) (by rfl) HGc.out.rows.fol (lit2 BL2c.out) (fun k hk => ⟨⟨by have := HLT.out; omega, fun e => by first | (have := HO28.out k e.symm; omega) | (have := Kd.R_lt HGb.out.rows.sets k e.symm; omega), fun hx => by have := HXX.out k hx; omega⟩, fun e => by have := Kd.N_lt HG0.out.rows.fol k e.symm; omega⟩) (fun k hk => ⟨by have := HGc.out.rows.lt; omega, fun e => by have := Kd.R_lt HGc.out.rows.sets k e.symm; omega, fun hx => by have := HXX.out k hx; omega⟩) (Below.refl B wc) HGc.out.rows.base (by show (s.follow.length + 1) * 24 ≤ _; omega) ?_
      intro v34 wz hN _ hg2 hat2
      have HGz := Aside0.mk (HGc.out.app2 hN hg2 hat2)
      refine hK.out _ _ (HTG.out _ _ _ _ _ HGz.out) (fun hT => ?_)
      exact hcont ((.slice (some ⟨wd.heap.size, 0, none⟩) 1 1), v28, .slice (some ⟨wa.heap.size, 0, none⟩) 1 1, v34) _ HGz.out
  · skip
    refine val_ (v := .slice (some ⟨wd.heap.size, 0, none⟩) 1 1) (w1 := wd.alloc (.cells #[.slice none 0 0] 27)) (by rfl) rfl ?_ ?_
    · go_simp
    have HGa := Aside0.mk (HG0.out.below (below_alloc (Below.refl _ _) (.cells #[.slice none 0 0] 27)))
    have BL2 := Aside0.mk (blk_new wd (.cells #[.slice none 0 0] 27))
    have hz_wa : (wd.alloc (.cells #[.slice none 0 0] 27)).heap.size = wd.heap.size + 1 := by simp
    refine hK.out _ _ (HTG.out _ _ _ _ _ HGa.out) (fun hT => ?_)
    clear hK K
    generalize wd.alloc (.cells #[.slice none 0 0] 27) = wa at hz_wa HGa BL2  hT ⊢
    refine nm_ (a' := ?_) ?_ ?_
    rotate_left
    · show Act.put _ (some 33) _ = _
      simp only [Act.put, List.setIfInBounds_toArray, List.set_cons_zero, List.set_cons_succ, i64_w, i32_w]
      rfl
    refine on_ (i := 8) (N := some 27) #[true, true, true, true, true, true, true, true, true, false, true, true, true, true, true, false, false, false, false, false, false, false] rfl rfl (by kernel_rfl) (fun K hK => ?_)
    refine val_ (v := .slice (some ⟨wa.heap.size, 0, none⟩) 1 1) (w1 := wa.alloc (.cells #[.int .i64 st] 3)) (by rfl) rfl ?_ ?_
    · go_simp
    have HGb := Aside0.mk (HGa.out.below (below_alloc (Below.refl _ _) (.cells #[.int .i64 st] 3)))
    have BL1 := Aside0.mk (blk_new wa (.cells #[.int .i64 st] 3))
    have BL2b := Aside0.mk (blk_alloc BL2.out (.cells #[.int .i64 st] 3))
    have hz_wb : (wa.alloc (.cells #[.int .i64 st] 3)).heap.size = wa.heap.size + 1 := by simp
    refine hK.out _ _ (HTG.out _ _ _ _ _ HGb.out) (fun hT => ?_)
    clear hK K
    generalize wa.alloc (.cells #[.int .i64 st] 3) = wb at hz_wb HGb BL1 BL2b hT ⊢
    refine nm_ (a' := ?_) ?_ ?_
    rotate_left
    · show Act.put _ (some 27) _ = _
      simp only [Act.put, List.setIfInBounds_toArray, List.set_cons_zero, List.set_cons_succ, i64_w, i32_w]
      rfl
    refine on_ (i := 9) (N := some 28) #[true, true, true, true, true, true, true, true, true, true, true, true, true, true, true, false, false, false, false, false, false, false] rfl rfl (by kernel_rfl) (fun K hK => ?_)
    refine Kd.R_append_rows_step kI B (by rfl) (.tmp 24) (.tmp 27) 27 3 (.int .i64 0) 8 rfl Try.underlying27 (by kernel_rfl) rfl (by decide) (by decide) vs s.sets [st] (some ⟨wa.heap.size, 0, none⟩) 1 1 (fun k => k ≠ p ∧ some k ≠ vf.ownBlock) (fun _ => False) (by rfl) (by rfl) HGb.out.rows.sets (lit1 BL1.out) (fun _ _ h => h) (fun _ h => h.elim) (fun k hk => ⟨by have := HGb.out.rows.lt; omega, fun e => by have := Kd.N_lt HGb.out.rows.fol k e.symm; omega⟩) (Below.refl B wb) HGb.out.rows.base (by omega) ?_
    intro v28 wc hR _ hg1 hat
    have HGc := Aside0.mk (HGb.out.app1 hR hg1 hat)
    have BL2c := Aside0.mk (blk_grown BL2b.out hg1 (fun e => by have := Kd.R_lt HG0.out.rows.sets _ e.symm; omega))
    have hz_wc := hg1.size
    have HO28 : Aside0 (∀ k, v28.ownBlock = some k → k < W.heap.size ∨ wb.heap.size ≤ k) := ⟨fun k hk => by
      rcases hat with e | ⟨b, e, hb⟩
      · rw [e] at hk; have := Kd.R_lt HG0.out.rows.sets _ hk; omega
      · rw [e] at hk; injection hk with hk; omega⟩
    refine hK.out _ _ (HTG.out _ _ _ _ _ HGc.out) (fun hT => ?_)
    clear hK K hR hg1 hat
    refine nm_ (a' := ?_) ?_ ?_
    rotate_left
    · show Act.put _ (some 28) _ = _
      simp only [Act.put, List.setIfInBounds_toArray, List.set_cons_zero, List.set_cons_succ, i64_w, i32_w]
      rfl
    refine on_ (i := 15) (N := some 34) #[true, true, true, true, true, true, true, true, true, true, true, true, true, true, true, true, false, false, false, false, false, false] rfl rfl (by kernel_rfl) (fun K hK => ?_)
    refine Kd.N_append_rows_step kII B (by rfl) (.tmp 32) (.tmp 33) 28 27 (.slice none 0 0) 24 rfl Try.underlying28 (by kernel_rfl) rfl (by decide) (by decide) vf s.follow [[]] (some ⟨wd.heap.size, 0, none⟩) 1 1 (fun k => k ≠ p ∧ some k ≠ v28.ownBlock ∧ ¬ (X k ∨ k = w.heap.size + 1 + 1)) (fun k => k = wd.heap.size) (by rfl) (by rfl) HGc.out.rows.fol (lit2 BL2c.out) (fun k hk => ⟨⟨by have := HLT.out; omega, fun e => by first | (have := HO28.out k e.symm; omega) | (have := Kd.R_lt HGb.out.rows.sets k e.symm; omega), fun hx => by have := HXX.out k hx; omega⟩, fun e => by have := Kd.N_lt HG0.out.rows.fol k e.symm; omega⟩) (fun k hk => ⟨by have := HGc.out.rows.lt; omega, fun e => by have := Kd.R_lt HGc.out.rows.sets k e.symm; omega, fun hx => by have := HXX.out k hx; omega⟩) (Below.refl B wc) HGc.out.rows.base (by show (s.follow.length + 1) * 24 ≤ _; omega) ?_
    intro v34 wz hN _ hg2 hat2
    have HGz := Aside0.mk (HGc.out.app2 hN hg2 hat2)
    refine hK.out _ _ (HTG.out _ _ _ _ _ HGz.out) (fun hT => ?_)
    exact hcont (.slice (some ⟨wa.heap.size, 0, none⟩) 1 1, v28, (.slice (some ⟨wd.heap.size, 0, none⟩) 1 1), v34) _ HGz.out
end Go.Proofs.Ytkoofldididpgaa.NB

end
section
namespace Go.Proofs.Ytkoofldididpgaa.NB
open Go Go.RowKit Go.Proofs.YtkoofldididpgaaW.PrintWords Go.Proofs.YtkoofldididpgaaW.PrintLast Go.Proofs.YtkoofldididpgaaW.PrintMore
open Go.Proofs.Ytkoofldididpgaa.XB Go.Proofs.Ytkoofldididpgaa.NM Go.Proofs.Ytkoofldididpgaa.NR Go.Proofs.Ytkoofldididpgaa.NW Go.Proofs.Ytkoofldididpgaa.BM Go.Proofs.Ytkoofldididpgaa.FM Go.Proofs.Ytkoofldididpgaa.NA Go.Proofs.Ytkoofldididpgaa.NN Go.Proofs.Ytkoofldididpgaa.NT Go.Proofs.Ytkoofldididpgaa.NO Go.Proofs.Ytkoofldididpgaa.RT Go.Proofs.Ytkoofldididpgaa.NK
set_option linter.unusedVariables false
set_option linter.unusedSimpArgs false
def BuiltAt (n : S24) : Prop := ∀ (X : Nat → Prop) (B p : Nat) (vs vf : Value) (s : St) (A : Option Addr) (c : Nat) (w0 w : World), w0.heap.size ≤ B → Below w0.heap.size w0 w → Kd.C k24 w0 A n.f2.length n.f2 → n.f2.length ≤ c →
  B ≤ w.heap.size → (∀ k, X k → k < w.heap.size) → AutoP X B p vs vf s w → SOk s → rightN n = true → s.sets.length + cntN n ≤ 300 →
  Calls Try.prog 48 #[.pointer (some ⟨p, 0, none⟩), nodeV n A c] w (BPost X B p vs vf w (bldN n s))
theorem R_own {v : Value} {xs : List Int} {ok : Nat → Prop} {B g u : Nat} {c : Array Value} {w w' : World} (h : Kd.R kI 3 w B ok v xs) (hg : w.heap[g]? = some (.cells c u (0, 0))) (h3 : u ≠ 3) (ho : Own g w w') : Kd.R kI 3 w' B ok v xs :=
  Kd.R_mono (Kd.R_step (Kd.R_types h hg (fun q hq => by simp [Kd.int, Kd.scalar] at hq; omega)) (fun k hk hlt => ho.block k hlt hk.2)) (fun _ hk => hk.1)
theorem below_stp {w0 w w' : World} {B : Nat} (h : Below w0.heap.size w0 w) (hB : w0.heap.size ≤ B) (g : Below B w w') : Below w0.heap.size w0 w' := h.trans (g.mono hB)
theorem rightL_take {ks : List S24} (h : rightL ks = true) (i : Nat) : rightL (ks.take i) = true := by
  rw [rightL_all] at *
  exact List.all_eq_true.2 (fun x hx => List.all_eq_true.1 h x (List.mem_of_mem_take hx))
theorem rightL_get {ks : List S24} (h : rightL ks = true) {i : Nat} (hi : i < ks.length) : rightN ks[i] = true := by
  rw [rightL_all] at h
  exact List.all_eq_true.1 h _ (List.getElem_mem hi)
theorem own_set3 (g : Nat) (w : World) (x y z : Value) : Own g w (((w.setCell ⟨g, 0, none⟩ x).setCell ⟨g, 1, none⟩ y).setCell ⟨g, 2, none⟩ z) := ⟨rfl, rfl, rfl, by simp [World.setCell], fun k hk hne => set3_other hne⟩
theorem cat_next (ks : List S24) (s : St) (i : Nat) (h : i < ks.length) : catL (ks.take (i + 1)) ⟨true, [], []⟩ s =
    (thenE (catL (ks.take i) ⟨true, [], []⟩ s).1 (bldN ks[i] (catL (ks.take i) ⟨true, [], []⟩ s).2).1, ⟨(bldN ks[i] (catL (ks.take i) ⟨true, [], []⟩ s).2).2.sets, after (bldN ks[i] (catL (ks.take i) ⟨true, [], []⟩ s).2).2.follow (catL (ks.take i) ⟨true, [], []⟩ s).1.last (bldN ks[i] (catL (ks.take i) ⟨true, [], []⟩ s).2).1.first⟩) := by
  rw [List.take_succ_eq_append_getElem h, catL_snoc]
  simp only [catL]
theorem alt_next (ks : List S24) (s : St) (i : Nat) (h : i < ks.length) : altL (ks.take (i + 1)) ⟨false, [], []⟩ s =
    (orE (altL (ks.take i) ⟨false, [], []⟩ s).1 (bldN ks[i] (altL (ks.take i) ⟨false, [], []⟩ s).2).1, (bldN ks[i] (altL (ks.take i) ⟨false, [], []⟩ s).2).2) := by
  rw [List.take_succ_eq_append_getElem h, altL_snoc]
  simp only [altL]
def XL (X : Nat → Prop) (n0 : Nat) : Nat → Prop := fun k => X k ∨ (n0 ≤ k ∧ k ≤ n0 + 3)
structure LoopM (X : Nat → Prop) (B p n0 : Nat) (vs vf : Value) (kd st : Int) (vk : Value) (r : BM.Edge × St) (w wr : World) (vs' vf' o1 o2 : Value) : Prop where
  auto : AutoP (XL X n0) B p vs' vf' r.2 wr
  stp : Stp B p vs vf vs' vf' w wr
  part : PartM B p vs' vf' r.1 o1 o2 wr
  ba : wr.heap[n0]? = some (.cells #[.pointer (some ⟨p, 0, none⟩)] 71 (0, 0))
  bn : wr.heap[n0 + 1]? = some (.cells #[.int .i64 kd, .int .i64 st, vk] 24 (0, 0))
  br : wr.heap[n0 + 1 + 1]? = some (.cells #[.bool false, .slice none 0 0, .slice none 0 0] 69 (0, 0))
  bo : wr.heap[n0 + 1 + 1 + 1]? = some (.cells #[.bool r.1.null, o1, o2] 69 (0, 0))
section
variable {X : Nat → Prop} {B p n0 : Nat} {vs vf : Value} {kd st : Int} {vk : Value} {r r' : BM.Edge × St} {w wr w1 w2 : World} {vs' vf' o1 o2 vs2 vf2 v1 v2 : Value}
theorem LoopM.base (h : LoopM X B p n0 vs vf kd st vk r w wr vs' vf' o1 o2) : B ≤ wr.heap.size := h.auto.rows.base
theorem LoopM.below (h : LoopM X B p n0 vs vf kd st vk r w wr vs' vf' o1 o2) (hb : Below wr.heap.size wr w1) : LoopM X B p n0 vs vf kd st vk r w w1 vs' vf' o1 o2 :=
  ⟨h.auto.below hb, h.stp.trans (Stp.of_below h.base hb), ⟨Kd.R_below h.part.1 hb, Kd.R_below h.part.2 hb⟩, blk_below h.ba hb, blk_below h.bn hb, blk_below h.br hb, blk_below h.bo hb⟩
theorem LoopM.away (h : LoopM X B p n0 vs vf kd st vk r w wr vs' vf' o1 o2) (hp : p < n0) {k u : Nat} {c : Array Value} (hk : wr.heap[k]? = some (.cells c u (0, 0))) (hkp : n0 ≤ k) (h3 : u ≠ 3) (h27 : u ≠ 27) : Away p vs' vf' k := h.auto.away hk (by omega) h3 h27
theorem LoopM.kept (h : LoopM X B p n0 vs vf kd st vk r w wr vs' vf' o1 o2) (hp : p < n0) (hS : Stp B p vs' vf' vs2 vf2 wr w2) {k u : Nat} {c : Array Value} (hk : wr.heap[k]? = some (.cells c u (0, 0))) (hkp : n0 ≤ k) (h3 : u ≠ 3) (h27 : u ≠ 27) : w2.heap[k]? = some (.cells c u (0, 0)) := hS.blk (h.away hp hk hkp h3 h27) hk
theorem LoopM.next (h : LoopM X B p n0 vs vf kd st vk r w wr vs' vf' o1 o2) (hB : B ≤ w.heap.size) (hn : w.heap.size ≤ n0) (hp : p < n0) (hA : AutoP (XL X n0) B p vs2 vf2 r'.2 w2) (hS : Stp B p vs' vf' vs2 vf2 wr w2) (hP : PartM B p vs2 vf2 r'.1 v1 v2 w2) :
    LoopM X B p n0 vs vf kd st vk r' w (((w2.setCell ⟨n0 + 1 + 1 + 1, 0, none⟩ (.bool r'.1.null)).setCell ⟨n0 + 1 + 1 + 1, 1, none⟩ v1).setCell ⟨n0 + 1 + 1 + 1, 2, none⟩ v2) vs2 vf2 v1 v2 := by
  have hO := own_set3 (n0 + 1 + 1 + 1) w2 (.bool r'.1.null) v1 v2
  have bo := h.kept hp hS h.bo (by omega) (by decide) (by decide)
  have far : ∀ {k u : Nat} {c : Array Value}, wr.heap[k]? = some (.cells c u (0, 0)) → n0 ≤ k → k ≠ n0 + 1 + 1 + 1 → u ≠ 3 → u ≠ 27 → (((w2.setCell ⟨n0 + 1 + 1 + 1, 0, none⟩ (.bool r'.1.null)).setCell ⟨n0 + 1 + 1 + 1, 1, none⟩ v1).setCell ⟨n0 + 1 + 1 + 1, 2, none⟩ v2).heap[k]? = some (.cells c u (0, 0)) :=
    fun hk hkp hne h3 h27 => (set3_other hne).trans (h.kept hp hS hk hkp h3 h27)
  exact ⟨AutoM.own hA bo (by omega) (by decide) (.inr ⟨by omega, by omega⟩) hO, Stp.own hB (h.stp.trans hS) (by omega) hO, ⟨R_own hP.1 bo (by decide) hO, R_own hP.2 bo (by decide) hO⟩,
    far h.ba (by omega) (by omega) (by decide) (by decide), far h.bn (by omega) (by omega) (by decide) (by decide), far h.br (by omega) (by omega) (by decide) (by decide), set3 bo⟩
theorem LoopM.done (h : LoopM X B p n0 vs vf kd st vk r w wr vs' vf' o1 o2) (hB : B ≤ w.heap.size) (hn : w.heap.size ≤ n0) (hp : p < n0) :
    BPost X B p vs vf w r (.returned (.agg #[.bool r.1.null, o1, o2])) (((wr.setCell ⟨n0 + 1 + 1, 0, none⟩ (.bool r.1.null)).setCell ⟨n0 + 1 + 1, 1, none⟩ o1).setCell ⟨n0 + 1 + 1, 2, none⟩ o2) := by
  have hO := own_set3 (n0 + 1 + 1) wr (.bool r.1.null) o1 o2
  exact ⟨o1, o2, vs', vf', rfl, AutoM.less (AutoM.own h.auto h.br (by omega) (by decide) (.inr ⟨by omega, by omega⟩) hO) (fun k hk => .inl hk), Stp.own hB h.stp (by omega) hO, R_own h.part.1 h.br (by decide) hO, R_own h.part.2 h.br (by decide) hO⟩
end
set_option maxRecDepth 100000 in
set_option maxHeartbeats 1600000 in
theorem built_cat (ks : List S24) (st : Int) (h : ∀ x ∈ ks, BuiltAt x) (X : Nat → Prop) (B p : Nat) (vs vf : Value) (s : St) (A : Option Addr) (c : Nat) (w0 w : World) (h0B : w0.heap.size ≤ B) (hb0 : Below w0.heap.size w0 w) (hr : Kd.C k24 w0 A ks.length ks) (hc : ks.length ≤ c)
    (hB : B ≤ w.heap.size) (hX : ∀ k, X k → k < w.heap.size) (hA : AutoP X B p vs vf s w) (hs : SOk s) (hk : rightL ks = true) (hm : s.sets.length + cntL ks ≤ 300) :
    Calls Try.prog 48 #[.pointer (some ⟨p, 0, none⟩), .agg #[.int .i64 0, .int .i64 st, .slice A ks.length c]] w (BPost X B p vs vf w (catL ks ⟨true, [], []⟩ s)) := by
  have HH := Aside0.mk h
  have H0 := Aside0.mk hb0
  have HR := Aside0.mk hr
  have HC := Aside0.mk hc
  have HA := Aside0.mk hA
  have HS := Aside0.mk hs
  have HK := Aside0.mk hk
  have HM0 := Aside0.mk hm
  have HL := hr.2.1
  clear h hb0 hr hc hA hs hk hm
  go_enter Try.func48, Try.ntmps48
  go_wp2_with fail
  have hn0 : p < w.heap.size := HA.out.lt
  have hb4 : Below w.heap.size w ((((w.alloc (Obj.cells #[.pointer (some ⟨p, 0, none⟩)] 71)).alloc (Obj.cells #[.int .i64 0, .int .i64 st, .slice A ks.length c] 24)).alloc (Obj.cells #[.bool false, .slice none 0 0, .slice none 0 0] 69)).alloc (Obj.cells #[.bool true, .slice none 0 0, .slice none 0 0] 69)) := by repeat (first | exact Below.refl _ _ | apply below_alloc)
  have ba : ((((w.alloc (Obj.cells #[.pointer (some ⟨p, 0, none⟩)] 71)).alloc (Obj.cells #[.int .i64 0, .int .i64 st, .slice A ks.length c] 24)).alloc (Obj.cells #[.bool false, .slice none 0 0, .slice none 0 0] 69)).alloc (Obj.cells #[.bool true, .slice none 0 0, .slice none 0 0] 69)).heap[w.heap.size]? = some (.cells #[.pointer (some ⟨p, 0, none⟩)] 71 (0, 0)) := by repeat (first | exact blk_new _ _ | refine blk_alloc ?_ _)
  have bn : ((((w.alloc (Obj.cells #[.pointer (some ⟨p, 0, none⟩)] 71)).alloc (Obj.cells #[.int .i64 0, .int .i64 st, .slice A ks.length c] 24)).alloc (Obj.cells #[.bool false, .slice none 0 0, .slice none 0 0] 69)).alloc (Obj.cells #[.bool true, .slice none 0 0, .slice none 0 0] 69)).heap[w.heap.size + 1]? = some (.cells #[.int .i64 0, .int .i64 st, .slice A ks.length c] 24 (0, 0)) := blk_alloc (blk_alloc (by simpa using blk_new (w.alloc (Obj.cells #[.pointer (some ⟨p, 0, none⟩)] 71)) (Obj.cells #[.int .i64 0, .int .i64 st, .slice A ks.length c] 24)) _) _
  have br : ((((w.alloc (Obj.cells #[.pointer (some ⟨p, 0, none⟩)] 71)).alloc (Obj.cells #[.int .i64 0, .int .i64 st, .slice A ks.length c] 24)).alloc (Obj.cells #[.bool false, .slice none 0 0, .slice none 0 0] 69)).alloc (Obj.cells #[.bool true, .slice none 0 0, .slice none 0 0] 69)).heap[w.heap.size + 1 + 1]? = some (.cells #[.bool false, .slice none 0 0, .slice none 0 0] 69 (0, 0)) := blk_alloc (by simpa using blk_new ((w.alloc (Obj.cells #[.pointer (some ⟨p, 0, none⟩)] 71)).alloc (Obj.cells #[.int .i64 0, .int .i64 st, .slice A ks.length c] 24)) (Obj.cells #[.bool false, .slice none 0 0, .slice none 0 0] 69)) _
  have bo : ((((w.alloc (Obj.cells #[.pointer (some ⟨p, 0, none⟩)] 71)).alloc (Obj.cells #[.int .i64 0, .int .i64 st, .slice A ks.length c] 24)).alloc (Obj.cells #[.bool false, .slice none 0 0, .slice none 0 0] 69)).alloc (Obj.cells #[.bool true, .slice none 0 0, .slice none 0 0] 69)).heap[w.heap.size + 1 + 1 + 1]? = some (.cells #[.bool true, .slice none 0 0, .slice none 0 0] 69 (0, 0)) := by simpa using blk_new (((w.alloc (Obj.cells #[.pointer (some ⟨p, 0, none⟩)] 71)).alloc (Obj.cells #[.int .i64 0, .int .i64 st, .slice A ks.length c] 24)).alloc (Obj.cells #[.bool false, .slice none 0 0, .slice none 0 0] 69)) (Obj.cells #[.bool true, .slice none 0 0, .slice none 0 0] 69)
  generalize ((((w.alloc (Obj.cells #[.pointer (some ⟨p, 0, none⟩)] 71)).alloc (Obj.cells #[.int .i64 0, .int .i64 st, .slice A ks.length c] 24)).alloc (Obj.cells #[.bool false, .slice none 0 0, .slice none 0 0] 69)).alloc (Obj.cells #[.bool true, .slice none 0 0, .slice none 0 0] 69)) = W at hb4 ba bn br bo ⊢
  have HM := Aside0.mk (show LoopM X B p w.heap.size vs vf 0 st (.slice A ks.length c) (catL (ks.take 0) ⟨true, [], []⟩ s) w W vs vf (.slice none 0 0) (.slice none 0 0) from by
    rw [List.take_zero, catL]
    exact ⟨AutoM.more HA.out hb4 (fun k => w.heap.size ≤ k ∧ k ≤ w.heap.size + 3) (fun k hk => hk.1), Stp.of_below hB hb4, ⟨Kd.R_nil _ _ _ _ _, Kd.R_nil _ _ _ _ _⟩, ba, bn, br, bo⟩)
  clear hb4 ba bn br bo
  go_loopg [54] ks.length (fun kq vi wr => ∃ i : Nat, vi = .int .i64 i ∧ Aside0 (i ≤ ks.length ∧ kq + i = ks.length) ∧ Aside0 (∃ vs' vf' o1 o2, LoopM X B p w.heap.size vs vf 0 st (.slice A ks.length c) (catL (ks.take i) ⟨true, [], []⟩ s) w wr vs' vf' o1 o2))
  case atStart => exact ⟨0, rfl, ⟨by omega⟩, ⟨_, _, _, _, HM.out⟩⟩
  case round =>
    clear HM
    obtain ⟨i, rfl, HI, HM⟩ := hrel
    by_cases hlt : i < ks.length
    · obtain ⟨vs', vf', o1, o2, hM⟩ := HM.out
      clear HM
      have hW := catL_ok (ks.take i) ⟨true, [], []⟩ s (rightL_take HK.out i) HS.out (EOk.nil _ _)
      have hle := cntL_take_le ks (i + 1)
      rw [cntL_take ks i hlt] at hle
      have hM0 := HM0.out
      have HXr := Aside0.mk (rightL_get HK.out hlt)
      have HN := Aside0.mk (cat_next ks s i hlt)
      have HX := Aside0.mk (HH.out ks[i] (List.getElem_mem hlt))
      obtain ⟨ad, A2, c2, rfl, f0, f1, f2, l2, g2⟩ := at_T24 HR.out (i : Int) (by omega) (by omega)
      have hx : rd_T24 ks (i : Int) = ks[i] := by simp [rd_T24, List.getD_eq_getElem?_getD, hlt]
      rw [hx] at f0 f1 f2 l2 g2
      simp only [Int.toNat_natCast] at f0 f1 f2
      have hbr := below_stp H0.out h0B hM.stp.below
      have e0 := pw_cell_below hbr f0
      have e1 := pw_cell_below hbr f1
      have e2 := pw_cell_below hbr f2
      have HG := Aside0.mk g2
      have HL2 := Aside0.mk l2
      clear f0 f1 f2 hx g2 l2 hbr
      have hcx : cntN ks[i] ≤ 300 := by omega
      have hms : s.sets.length + cntL (ks.take i) + cntN ks[i] ≤ 300 := by omega
      clear hle hM0
      generalize ks[i] = x at e0 e1 e2 HX HG HL2 HXr HN hcx hms
      generalize catL (ks.take i) ⟨true, [], []⟩ s = r at hM hW HN
      have HW := Aside0.mk hW
      have hrl : r.2.sets.length + cntN x ≤ 300 := by have := hW.2.2; omega
      clear hW hms
      obtain ⟨O1, d1, rfl⟩ := Kd.R_slice hM.part.1
      obtain ⟨O2, d2, rfl⟩ := Kd.R_slice hM.part.2
      have HM := Aside0.mk hM
      clear hM
      go_wp2_with fail
      have HMd := Aside0.mk (HM.out.below (below_drew (below_alloc (Below.refl _ _) (.cells #[.int .i64 x.f0, .int .i64 x.f1, .slice A2 x.f2.length c2] 24))))
      have HBK := Aside0.mk (show (wr.alloc (.cells #[.int .i64 x.f0, .int .i64 x.f1, .slice A2 x.f2.length c2] 24)).drew.heap[wr.heap.size]? = some (.cells #[.int .i64 x.f0, .int .i64 x.f1, .slice A2 x.f2.length c2] 24 (0, 0)) from blk_new wr _)
      have HSD := Aside0.mk (show (wr.alloc (.cells #[.int .i64 x.f0, .int .i64 x.f1, .slice A2 x.f2.length c2] 24)).drew.heap.size = wr.heap.size + 1 from by simp [World.drew])
      have hgk : w.heap.size + 1 + 1 + 1 < wr.heap.size := (Array.getElem?_eq_some_iff.1 HM.out.bo).1
      clear HM e0 e1 e2
      have hT0 : ∀ l, Till [(some 6, (fun w' : World => w'.cell? ⟨w.heap.size, 0, none⟩ = some (.pointer (some ⟨p, 0, none⟩)) ∧ w'.cell? ⟨w.heap.size + 1 + 1 + 1, 0, none⟩ = some (.bool r.1.null) ∧ w'.cell? ⟨w.heap.size + 1 + 1 + 1, 1, none⟩ = some (.slice O1 r.1.first.length d1) ∧ w'.cell? ⟨w.heap.size + 1 + 1 + 1, 2, none⟩ = some (.slice O2 r.1.last.length d2) ∧ w'.cell? ⟨wr.heap.size, 0, none⟩ = some (.int .i64 x.f0) ∧ w'.cell? ⟨wr.heap.size, 1, none⟩ = some (.int .i64 x.f1) ∧ w'.cell? ⟨wr.heap.size, 2, none⟩ = some (.slice A2 x.f2.length c2)))] l (wr.alloc (.cells #[.int .i64 x.f0, .int .i64 x.f1, .slice A2 x.f2.length c2] 24)).drew := fun l => Till.live ⟨(blk_cell HMd.out.ba 0).trans rfl, (blk_cell HMd.out.bo 0).trans rfl, (blk_cell HMd.out.bo 1).trans rfl, (blk_cell HMd.out.bo 2).trans rfl, (blk_cell HBK.out 0).trans rfl, (blk_cell HBK.out 1).trans rfl, (blk_cell HBK.out 2).trans rfl⟩ (Till.nil _ _)
      have HT0 := Aside0.mk hT0
      have HTS : Aside0 (∀ (l : Array Bool) (vs2 vf2 : Value) (w2 : World), Stp B p vs' vf' vs2 vf2 (wr.alloc (.cells #[.int .i64 x.f0, .int .i64 x.f1, .slice A2 x.f2.length c2] 24)).drew w2 → Till [(some 6, (fun w' : World => w'.cell? ⟨w.heap.size, 0, none⟩ = some (.pointer (some ⟨p, 0, none⟩)) ∧ w'.cell? ⟨w.heap.size + 1 + 1 + 1, 0, none⟩ = some (.bool r.1.null) ∧ w'.cell? ⟨w.heap.size + 1 + 1 + 1, 1, none⟩ = some (.slice O1 r.1.first.length d1) ∧ w'.cell? ⟨w.heap.size + 1 + 1 + 1, 2, none⟩ = some (.slice O2 r.1.last.length d2) ∧ w'.cell? ⟨wr.heap.size, 0, none⟩ = some (.int .i64 x.f0) ∧ w'.cell? ⟨wr.heap.size, 1, none⟩ = some (.int .i64 x.f1) ∧ w'.cell? ⟨wr.heap.size, 2, none⟩ = some (.slice A2 x.f2.length c2)))] l w2) := ⟨fun l vs2 vf2 w2 hS => Till.live ⟨(blk_cell (HMd.out.kept hn0 hS HMd.out.ba (by omega) (by decide) (by decide)) 0).trans rfl, (blk_cell (HMd.out.kept hn0 hS HMd.out.bo (by omega) (by decide) (by decide)) 0).trans rfl, (blk_cell (HMd.out.kept hn0 hS HMd.out.bo (by omega) (by decide) (by decide)) 1).trans rfl, (blk_cell (HMd.out.kept hn0 hS HMd.out.bo (by omega) (by decide) (by decide)) 2).trans rfl, (blk_cell (HMd.out.kept hn0 hS HBK.out (by omega) (by decide) (by decide)) 0).trans rfl, (blk_cell (HMd.out.kept hn0 hS HBK.out (by omega) (by decide) (by decide)) 1).trans rfl, (blk_cell (HMd.out.kept hn0 hS HBK.out (by omega) (by decide) (by decide)) 2).trans rfl⟩ (Till.nil _ _)⟩
      clear hT0
      refine st_ [(some 6, (fun w' : World => w'.cell? ⟨w.heap.size, 0, none⟩ = some (.pointer (some ⟨p, 0, none⟩)) ∧ w'.cell? ⟨w.heap.size + 1 + 1 + 1, 0, none⟩ = some (.bool r.1.null) ∧ w'.cell? ⟨w.heap.size + 1 + 1 + 1, 1, none⟩ = some (.slice O1 r.1.first.length d1) ∧ w'.cell? ⟨w.heap.size + 1 + 1 + 1, 2, none⟩ = some (.slice O2 r.1.last.length d2) ∧ w'.cell? ⟨wr.heap.size, 0, none⟩ = some (.int .i64 x.f0) ∧ w'.cell? ⟨wr.heap.size, 1, none⟩ = some (.int .i64 x.f1) ∧ w'.cell? ⟨wr.heap.size, 2, none⟩ = some (.slice A2 x.f2.length c2)))] #[false, false, false, false, false, false, false] (by kernel_rfl) rfl rfl (HT0.out _) (fun hT => ?_)
      generalize (wr.alloc (.cells #[.int .i64 x.f0, .int .i64 x.f1, .slice A2 x.f2.length c2] 24)).drew = wd at HMd HBK HSD HT0 HTS hT ⊢
      refine tk_ (i := 0) (N := some 58) (v := ?_) (a' := ?_) (some 6) (fun w' : World => w'.cell? ⟨w.heap.size, 0, none⟩ = some (.pointer (some ⟨p, 0, none⟩)) ∧ w'.cell? ⟨w.heap.size + 1 + 1 + 1, 0, none⟩ = some (.bool r.1.null) ∧ w'.cell? ⟨w.heap.size + 1 + 1 + 1, 1, none⟩ = some (.slice O1 r.1.first.length d1) ∧ w'.cell? ⟨w.heap.size + 1 + 1 + 1, 2, none⟩ = some (.slice O2 r.1.last.length d2) ∧ w'.cell? ⟨wr.heap.size, 0, none⟩ = some (.int .i64 x.f0) ∧ w'.cell? ⟨wr.heap.size, 1, none⟩ = some (.int .i64 x.f1) ∧ w'.cell? ⟨wr.heap.size, 2, none⟩ = some (.slice A2 x.f2.length c2)) #[true, false, false, false, false, false, false] (List.Mem.head _) rfl rfl (by kernel_rfl) (fun _ _ _ h => h) (Or.inl ⟨by rfl, ?_⟩) hT ?_ (fun hT => ?_)
      rotate_left
      · rintro w' ⟨s0, s1, s2, s3, s4, s5, s6⟩
        go_simp
        with_reducible rfl
      rotate_left
      · simp only [Act.put, List.setIfInBounds_toArray, List.set_cons_zero, List.set_cons_succ, i64_w, i32_w]
        rfl
      refine tk_ (i := 1) (N := some 59) (v := ?_) (a' := ?_) (some 6) (fun w' : World => w'.cell? ⟨w.heap.size, 0, none⟩ = some (.pointer (some ⟨p, 0, none⟩)) ∧ w'.cell? ⟨w.heap.size + 1 + 1 + 1, 0, none⟩ = some (.bool r.1.null) ∧ w'.cell? ⟨w.heap.size + 1 + 1 + 1, 1, none⟩ = some (.slice O1 r.1.first.length d1) ∧ w'.cell? ⟨w.heap.size + 1 + 1 + 1, 2, none⟩ = some (.slice O2 r.1.last.length d2) ∧ w'.cell? ⟨wr.heap.size, 0, none⟩ = some (.int .i64 x.f0) ∧ w'.cell? ⟨wr.heap.size, 1, none⟩ = some (.int .i64 x.f1) ∧ w'.cell? ⟨wr.heap.size, 2, none⟩ = some (.slice A2 x.f2.length c2)) #[true, true, false, false, false, false, false] (List.Mem.head _) rfl rfl (by kernel_rfl) (fun _ _ _ h => h) (Or.inl ⟨by rfl, ?_⟩) hT ?_ (fun hT => ?_)
      rotate_left
      · rintro w' ⟨s0, s1, s2, s3, s4, s5, s6⟩
        go_simp
        with_reducible rfl
      rotate_left
      · simp only [Act.put, List.setIfInBounds_toArray, List.set_cons_zero, List.set_cons_succ, i64_w, i32_w]
        rfl
      refine tk_ (i := 2) (N := some 60) (v := ?_) (a' := ?_) (some 6) (fun w' : World => w'.cell? ⟨w.heap.size, 0, none⟩ = some (.pointer (some ⟨p, 0, none⟩)) ∧ w'.cell? ⟨w.heap.size + 1 + 1 + 1, 0, none⟩ = some (.bool r.1.null) ∧ w'.cell? ⟨w.heap.size + 1 + 1 + 1, 1, none⟩ = some (.slice O1 r.1.first.length d1) ∧ w'.cell? ⟨w.heap.size + 1 + 1 + 1, 2, none⟩ = some (.slice O2 r.1.last.length d2) ∧ w'.cell? ⟨wr.heap.size, 0, none⟩ = some (.int .i64 x.f0) ∧ w'.cell? ⟨wr.heap.size, 1, none⟩ = some (.int .i64 x.f1) ∧ w'.cell? ⟨wr.heap.size, 2, none⟩ = some (.slice A2 x.f2.length c2)) #[true, true, true, false, false, false, false] (List.Mem.head _) rfl rfl (by kernel_rfl) (fun _ _ _ h => h) (Or.inl ⟨by rfl, ?_⟩) hT ?_ (fun hT => ?_)
      rotate_left
      · rintro w' ⟨s0, s1, s2, s3, s4, s5, s6⟩
        go_simp
        with_reducible rfl
      rotate_left
      · simp only [Act.put, List.setIfInBounds_toArray, List.set_cons_zero, List.set_cons_succ, i64_w, i32_w]
        rfl
      refine pr_ (i := 4) (N := some 62) (v := ?_) (a' := ?_) #[true, true, true, false, true, false, false] rfl rfl (by kernel_rfl) (fun _ _ _ h => h) (Or.inl ⟨by rfl, ?_⟩) hT ?_ (fun hT => ?_)
      rotate_left
      · intro w'
        go_simp
        with_reducible rfl
      rotate_left
      · simp only [Act.put, List.setIfInBounds_toArray, List.set_cons_zero, List.set_cons_succ, i64_w, i32_w]
        rfl
      refine on_ (i := 3) (N := some 61) #[true, true, true, true, true, false, false] rfl rfl (by kernel_rfl) (fun K hK => ?_)
      refine goes_ Try.func48 (by kernel_rfl) rfl #[.pointer (some ⟨p, 0, none⟩), nodeV x A2 c2] (by kernel_rfl) rfl rfl (by simp only [List.map_toArray, List.map_cons, List.map_nil]; rfl) ?_
      refine (HX.out (XL X w.heap.size) B p vs' vf' r.2 A2 c2 w0 wd h0B (below_stp H0.out h0B HMd.out.stp.below) HG.out HL2.out HMd.out.base (fun k hk => by have := HSD.out; rcases hk with hk | hk; (have := hX k hk; omega); omega) HMd.out.auto HW.out.1 HXr.out hrl).mono ?_
      rintro e w1 ⟨u1, u2, vs2, vf2, rfl, hA1, hS1, hP1⟩
      refine ⟨_, rfl, ?_⟩
      have hW2 := bldN_ok x r.2 HXr.out HW.out.1
      generalize bldN x r.2 = q at hA1 hP1 HN hW2 ⊢
      have HA1 := Aside0.mk hA1
      have HS1 := Aside0.mk hS1
      have HP1 := Aside0.mk hP1
      have HW2 := Aside0.mk hW2
      clear hA1 hS1 hP1 hW2
      obtain ⟨U1, m1, rfl⟩ := Kd.R_slice HP1.out.1
      obtain ⟨U2, m2, rfl⟩ := Kd.R_slice HP1.out.2
      refine hK.out _ _ (HTS.out _ _ _ _ HS1.out) (fun hT => ?_)
      clear hK K
      refine nm_ (a' := ?_) ?_ ?_
      rotate_left
      · show Act.put _ (some 61) _ = _
        simp only [Act.put, List.setIfInBounds_toArray, List.set_cons_zero, List.set_cons_succ, i64_w, i32_w]
        rfl
      refine on_ (i := 5) (N := some 63) #[true, true, true, true, true, true, false] rfl rfl (by kernel_rfl) (fun K hK => ?_)
      refine goes_ Try.func73 (by kernel_rfl) rfl #[partV r.1.null (.slice O1 r.1.first.length d1) (.slice O2 r.1.last.length d2), partV q.1.null (.slice U1 q.1.first.length m1) (.slice U2 q.1.last.length m2), .func (.func 72) #[] #[.pointer (some ⟨w.heap.size, 0, none⟩)]] (by kernel_rfl) rfl rfl (by simp only [List.map_toArray, List.map_cons, List.map_nil]; rfl) ?_
      have hWl := HW2.out.2.2
      have hWr := HW.out.2.2
      refine (then_calls (XL X w.heap.size) B p w.heap.size vs2 vf2 _ _ _ _ q.2 r.1 q.1 w1 HA1.out.rows.base (fun k hk => by have := HSD.out; have := HS1.out.below.size; have := (HS1.out.blk (HMd.out.away hn0 HMd.out.bo (by omega) (by decide) (by decide)) HMd.out.bo); have := (Array.getElem?_eq_some_iff.1 this).1; rcases hk with hk | hk; (have := hX k hk; omega); omega) HA1.out HW2.out.1 (by omega) (HMd.out.kept hn0 HS1.out HMd.out.ba (by omega) (by decide) (by decide)) (by omega) ⟨HS1.out.row HMd.out.part.1, HS1.out.row HMd.out.part.2⟩ (HW.out.2.1.mono (by omega)) HP1.out (by rw [hWl]; exact HW2.out.2.1)).mono ?_
      rintro e w2 ⟨v1, v2, rfl, hA2, hS2, hP2⟩
      refine ⟨_, rfl, ?_⟩
      have HA2 := Aside0.mk (show AutoP (XL X w.heap.size) B p vs2 vf2 ((catL (ks.take (i + 1)) ⟨true, [], []⟩ s)).2 w2 by rw [HN.out]; exact hA2)
      have HP2 := Aside0.mk (show PartM B p vs2 vf2 ((catL (ks.take (i + 1)) ⟨true, [], []⟩ s)).1 v1 v2 w2 by rw [HN.out]; exact hP2)
      have HS2 := Aside0.mk (HS1.out.trans hS2)
      have HNu := Aside0.mk (show (thenE r.1 q.1).null = (catL (ks.take (i + 1)) ⟨true, [], []⟩ s).1.null by rw [HN.out])
      clear hA2 hS2 hP2 hWl hWr
      refine hK.out _ _ (HTS.out _ _ _ _ HS2.out) (fun hT => ?_)
      clear hK K
      refine nm_ (a' := ?_) ?_ ?_
      rotate_left
      · show Act.put _ (some 63) _ = _
        simp only [Act.put, List.setIfInBounds_toArray, List.set_cons_zero, List.set_cons_succ, i64_w, i32_w]
        rfl
      unfold partV
      rw [HNu.out]
      generalize hrr : catL (ks.take (i + 1)) ⟨true, [], []⟩ s = rr at HA2 HP2 HNu ⊢
      have HRR := Aside0.mk hrr
      clear hrr
      obtain ⟨V1, n1, rfl⟩ := Kd.R_slice HP2.out.1
      obtain ⟨V2, n2, rfl⟩ := Kd.R_slice HP2.out.2
      have HBO := Aside0.mk (HMd.out.kept hn0 HS2.out HMd.out.bo (by omega) (by decide) (by decide))
      have h0 : w2.cell? ⟨w.heap.size + 1 + 1 + 1, 0, none⟩ = some (.bool r.1.null) := (blk_cell HBO.out 0).trans rfl
      have h1 : w2.cell? ⟨w.heap.size + 1 + 1 + 1, 1, none⟩ = some (.slice O1 r.1.first.length d1) := (blk_cell HBO.out 1).trans rfl
      have h2 : w2.cell? ⟨w.heap.size + 1 + 1 + 1, 2, none⟩ = some (.slice O2 r.1.last.length d2) := (blk_cell HBO.out 2).trans rfl
      have hfr : ∀ i, w2.frozen? ⟨w.heap.size + 1 + 1 + 1, i, none⟩ = false := fun i => blk_frozen HBO.out i
      have HMn := Aside0.mk (HMd.out.next hB (Nat.le_refl _) hn0 HA2.out HS2.out HP2.out)
      refine on_ (i := 6) (N := none) #[true, true, true, true, true, true, true] rfl rfl (by kernel_rfl) (fun K hK => ?_)
      refine skip_ (w1 := (((w2.setCell ⟨w.heap.size + 1 + 1 + 1, 0, none⟩ (.bool rr.1.null)).setCell ⟨w.heap.size + 1 + 1 + 1, 1, none⟩ (.slice V1 rr.1.first.length n1)).setCell ⟨w.heap.size + 1 + 1 + 1, 2, none⟩ (.slice V2 rr.1.last.length n2))) (by rfl) rfl ?_ ?_
      · go_simp
      refine hK.out _ _ (Till.dead rfl (Till.nil _ _)) (fun hT => ?_)
      clear hK K h0 h1 h2 hfr hT
      refine dn_ (by kernel_rfl) ?_ _
      generalize (((w2.setCell ⟨w.heap.size + 1 + 1 + 1, 0, none⟩ (.bool rr.1.null)).setCell ⟨w.heap.size + 1 + 1 + 1, 1, none⟩ (.slice V1 rr.1.first.length n1)).setCell ⟨w.heap.size + 1 + 1 + 1, 2, none⟩ (.slice V2 rr.1.last.length n2)) = w3 at HMn ⊢
      clear HT0 HTS
      go_wp2_with fail
      go_roundg (ks.length - (i + 1))
      case measure => have := HI.out; omega
      case rel => exact ⟨i + 1, by go_num, ⟨by have := HI.out; omega⟩, ⟨_, _, _, _, by rw [HRR.out]; exact HMn.out⟩⟩
    · have := HI.out
      obtain rfl : i = ks.length := by omega
      clear this
      obtain ⟨vs', vf', o1, o2, hM⟩ := HM.out
      rw [List.take_length] at hM
      obtain ⟨O1, d1, rfl⟩ := Kd.R_slice hM.part.1
      obtain ⟨O2, d2, rfl⟩ := Kd.R_slice hM.part.2
      generalize hre : catL ks ⟨true, [], []⟩ s = r at hM
      have HRE := Aside0.mk hre
      clear hre
      have b0 : wr.cell? ⟨w.heap.size + 1 + 1 + 1, 0, none⟩ = some (.bool r.1.null) := (blk_cell hM.bo 0).trans rfl
      have b1 : wr.cell? ⟨w.heap.size + 1 + 1 + 1, 1, none⟩ = some (.slice O1 r.1.first.length d1) := (blk_cell hM.bo 1).trans rfl
      have b2 : wr.cell? ⟨w.heap.size + 1 + 1 + 1, 2, none⟩ = some (.slice O2 r.1.last.length d2) := (blk_cell hM.bo 2).trans rfl
      have r0 : wr.cell? ⟨w.heap.size + 1 + 1, 0, none⟩ = some (.bool false) := (blk_cell hM.br 0).trans rfl
      have r1 : wr.cell? ⟨w.heap.size + 1 + 1, 1, none⟩ = some (.slice none 0 0) := (blk_cell hM.br 1).trans rfl
      have r2 : wr.cell? ⟨w.heap.size + 1 + 1, 2, none⟩ = some (.slice none 0 0) := (blk_cell hM.br 2).trans rfl
      have hfr : ∀ i, wr.frozen? ⟨w.heap.size + 1 + 1, i, none⟩ = false := fun i => blk_frozen hM.br i
      have HMe := Aside0.mk hM
      clear HM hM
      go_wp2_with fail
      refine bodyPost_ret (results_c1 (P := Try.prog) rfl _ _ (w.heap.size + 1 + 1) 69 #[.bool r.1.null, .slice O1 r.1.first.length d1, .slice O2 r.1.last.length d2] (0, 0) _ rfl ?_ Try.underlying69 rfl (by kernel_rfl)) rfl ?_
      · exact set3 HMe.out.br
      · rw [HRE.out]; exact HMe.out.done hB (Nat.le_refl _) hn0
end Go.Proofs.Ytkoofldididpgaa.NB

end
section
namespace Go.Proofs.Ytkoofldididpgaa.NB
open Go Go.RowKit Go.Proofs.YtkoofldididpgaaW.PrintWords Go.Proofs.YtkoofldididpgaaW.PrintLast Go.Proofs.YtkoofldididpgaaW.PrintMore
open Go.Proofs.Ytkoofldididpgaa.XB Go.Proofs.Ytkoofldididpgaa.NM Go.Proofs.Ytkoofldididpgaa.NR Go.Proofs.Ytkoofldididpgaa.NW Go.Proofs.Ytkoofldididpgaa.BM Go.Proofs.Ytkoofldididpgaa.FM Go.Proofs.Ytkoofldididpgaa.NA Go.Proofs.Ytkoofldididpgaa.NN Go.Proofs.Ytkoofldididpgaa.NT Go.Proofs.Ytkoofldididpgaa.NO Go.Proofs.Ytkoofldididpgaa.RT Go.Proofs.Ytkoofldididpgaa.NK
set_option linter.unusedVariables false
set_option linter.unusedSimpArgs false
set_option maxRecDepth 100000 in
set_option maxHeartbeats 1600000 in
theorem built_alt (ks : List S24) (st : Int) (h : ∀ x ∈ ks, BuiltAt x) (X : Nat → Prop) (B p : Nat) (vs vf : Value) (s : St) (A : Option Addr) (c : Nat) (w0 w : World) (h0B : w0.heap.size ≤ B) (hb0 : Below w0.heap.size w0 w) (hr : Kd.C k24 w0 A ks.length ks) (hc : ks.length ≤ c)
    (hB : B ≤ w.heap.size) (hX : ∀ k, X k → k < w.heap.size) (hA : AutoP X B p vs vf s w) (hs : SOk s) (hk : rightL ks = true) (hm : s.sets.length + cntL ks ≤ 300) :
    Calls Try.prog 48 #[.pointer (some ⟨p, 0, none⟩), .agg #[.int .i64 2, .int .i64 st, .slice A ks.length c]] w (BPost X B p vs vf w (altL ks ⟨false, [], []⟩ s)) := by
  have HH := Aside0.mk h
  have H0 := Aside0.mk hb0
  have HR := Aside0.mk hr
  have HC := Aside0.mk hc
  have HA := Aside0.mk hA
  have HS := Aside0.mk hs
  have HK := Aside0.mk hk
  have HM0 := Aside0.mk hm
  have HL := hr.2.1
  clear h hb0 hr hc hA hs hk hm
  go_enter Try.func48, Try.ntmps48
  go_wp2_with fail
  have hn0 : p < w.heap.size := HA.out.lt
  have hb4 : Below w.heap.size w ((((w.alloc (Obj.cells #[.pointer (some ⟨p, 0, none⟩)] 71)).alloc (Obj.cells #[.int .i64 2, .int .i64 st, .slice A ks.length c] 24)).alloc (Obj.cells #[.bool false, .slice none 0 0, .slice none 0 0] 69)).alloc (Obj.cells #[.bool false, .slice none 0 0, .slice none 0 0] 69)) := by repeat (first | exact Below.refl _ _ | apply below_alloc)
  have ba : ((((w.alloc (Obj.cells #[.pointer (some ⟨p, 0, none⟩)] 71)).alloc (Obj.cells #[.int .i64 2, .int .i64 st, .slice A ks.length c] 24)).alloc (Obj.cells #[.bool false, .slice none 0 0, .slice none 0 0] 69)).alloc (Obj.cells #[.bool false, .slice none 0 0, .slice none 0 0] 69)).heap[w.heap.size]? = some (.cells #[.pointer (some ⟨p, 0, none⟩)] 71 (0, 0)) := by repeat (first | exact blk_new _ _ | refine blk_alloc ?_ _)
  have bn : ((((w.alloc (Obj.cells #[.pointer (some ⟨p, 0, none⟩)] 71)).alloc (Obj.cells #[.int .i64 2, .int .i64 st, .slice A ks.length c] 24)).alloc (Obj.cells #[.bool false, .slice none 0 0, .slice none 0 0] 69)).alloc (Obj.cells #[.bool false, .slice none 0 0, .slice none 0 0] 69)).heap[w.heap.size + 1]? = some (.cells #[.int .i64 2, .int .i64 st, .slice A ks.length c] 24 (0, 0)) := blk_alloc (blk_alloc (by simpa using blk_new (w.alloc (Obj.cells #[.pointer (some ⟨p, 0, none⟩)] 71)) (Obj.cells #[.int .i64 2, .int .i64 st, .slice A ks.length c] 24)) _) _
  have br : ((((w.alloc (Obj.cells #[.pointer (some ⟨p, 0, none⟩)] 71)).alloc (Obj.cells #[.int .i64 2, .int .i64 st, .slice A ks.length c] 24)).alloc (Obj.cells #[.bool false, .slice none 0 0, .slice none 0 0] 69)).alloc (Obj.cells #[.bool false, .slice none 0 0, .slice none 0 0] 69)).heap[w.heap.size + 1 + 1]? = some (.cells #[.bool false, .slice none 0 0, .slice none 0 0] 69 (0, 0)) := blk_alloc (by simpa using blk_new ((w.alloc (Obj.cells #[.pointer (some ⟨p, 0, none⟩)] 71)).alloc (Obj.cells #[.int .i64 2, .int .i64 st, .slice A ks.length c] 24)) (Obj.cells #[.bool false, .slice none 0 0, .slice none 0 0] 69)) _
  have bo : ((((w.alloc (Obj.cells #[.pointer (some ⟨p, 0, none⟩)] 71)).alloc (Obj.cells #[.int .i64 2, .int .i64 st, .slice A ks.length c] 24)).alloc (Obj.cells #[.bool false, .slice none 0 0, .slice none 0 0] 69)).alloc (Obj.cells #[.bool false, .slice none 0 0, .slice none 0 0] 69)).heap[w.heap.size + 1 + 1 + 1]? = some (.cells #[.bool false, .slice none 0 0, .slice none 0 0] 69 (0, 0)) := by simpa using blk_new (((w.alloc (Obj.cells #[.pointer (some ⟨p, 0, none⟩)] 71)).alloc (Obj.cells #[.int .i64 2, .int .i64 st, .slice A ks.length c] 24)).alloc (Obj.cells #[.bool false, .slice none 0 0, .slice none 0 0] 69)) (Obj.cells #[.bool false, .slice none 0 0, .slice none 0 0] 69)
  generalize ((((w.alloc (Obj.cells #[.pointer (some ⟨p, 0, none⟩)] 71)).alloc (Obj.cells #[.int .i64 2, .int .i64 st, .slice A ks.length c] 24)).alloc (Obj.cells #[.bool false, .slice none 0 0, .slice none 0 0] 69)).alloc (Obj.cells #[.bool false, .slice none 0 0, .slice none 0 0] 69)) = W at hb4 ba bn br bo ⊢
  have HM := Aside0.mk (show LoopM X B p w.heap.size vs vf 2 st (.slice A ks.length c) (altL (ks.take 0) ⟨false, [], []⟩ s) w W vs vf (.slice none 0 0) (.slice none 0 0) from by
    rw [List.take_zero, altL]
    exact ⟨AutoM.more HA.out hb4 (fun k => w.heap.size ≤ k ∧ k ≤ w.heap.size + 3) (fun k hk => hk.1), Stp.of_below hB hb4, ⟨Kd.R_nil _ _ _ _ _, Kd.R_nil _ _ _ _ _⟩, ba, bn, br, bo⟩)
  clear hb4 ba bn br bo
  go_loopg [71] ks.length (fun kq vi wr => ∃ i : Nat, vi = .int .i64 i ∧ Aside0 (i ≤ ks.length ∧ kq + i = ks.length) ∧ Aside0 (∃ vs' vf' o1 o2, LoopM X B p w.heap.size vs vf 2 st (.slice A ks.length c) (altL (ks.take i) ⟨false, [], []⟩ s) w wr vs' vf' o1 o2))
  case atStart => exact ⟨0, rfl, ⟨by omega⟩, ⟨_, _, _, _, HM.out⟩⟩
  case round =>
    clear HM
    obtain ⟨i, rfl, HI, HM⟩ := hrel
    by_cases hlt : i < ks.length
    · obtain ⟨vs', vf', o1, o2, hM⟩ := HM.out
      clear HM
      have hW := altL_ok (ks.take i) ⟨false, [], []⟩ s (rightL_take HK.out i) HS.out (EOk.nil _ _)
      have hle := cntL_take_le ks (i + 1)
      rw [cntL_take ks i hlt] at hle
      have hM0 := HM0.out
      have HXr := Aside0.mk (rightL_get HK.out hlt)
      have HN := Aside0.mk (alt_next ks s i hlt)
      have HX := Aside0.mk (HH.out ks[i] (List.getElem_mem hlt))
      obtain ⟨ad, A2, c2, rfl, f0, f1, f2, l2, g2⟩ := at_T24 HR.out (i : Int) (by omega) (by omega)
      have hx : rd_T24 ks (i : Int) = ks[i] := by simp [rd_T24, List.getD_eq_getElem?_getD, hlt]
      rw [hx] at f0 f1 f2 l2 g2
      simp only [Int.toNat_natCast] at f0 f1 f2
      have hbr := below_stp H0.out h0B hM.stp.below
      have e0 := pw_cell_below hbr f0
      have e1 := pw_cell_below hbr f1
      have e2 := pw_cell_below hbr f2
      have HG := Aside0.mk g2
      have HL2 := Aside0.mk l2
      clear f0 f1 f2 hx g2 l2 hbr
      have hcx : cntN ks[i] ≤ 300 := by omega
      have hms : s.sets.length + cntL (ks.take i) + cntN ks[i] ≤ 300 := by omega
      clear hle hM0
      generalize ks[i] = x at e0 e1 e2 HX HG HL2 HXr HN hcx hms
      generalize altL (ks.take i) ⟨false, [], []⟩ s = r at hM hW HN
      have HW := Aside0.mk hW
      have hrl : r.2.sets.length + cntN x ≤ 300 := by have := hW.2.2; omega
      clear hW hms
      obtain ⟨O1, d1, rfl⟩ := Kd.R_slice hM.part.1
      obtain ⟨O2, d2, rfl⟩ := Kd.R_slice hM.part.2
      have HM := Aside0.mk hM
      clear hM
      go_wp2_with fail
      have HMd := Aside0.mk (HM.out.below (below_drew (below_alloc (Below.refl _ _) (.cells #[.int .i64 x.f0, .int .i64 x.f1, .slice A2 x.f2.length c2] 24))))
      have HBK := Aside0.mk (show (wr.alloc (.cells #[.int .i64 x.f0, .int .i64 x.f1, .slice A2 x.f2.length c2] 24)).drew.heap[wr.heap.size]? = some (.cells #[.int .i64 x.f0, .int .i64 x.f1, .slice A2 x.f2.length c2] 24 (0, 0)) from blk_new wr _)
      have HSD := Aside0.mk (show (wr.alloc (.cells #[.int .i64 x.f0, .int .i64 x.f1, .slice A2 x.f2.length c2] 24)).drew.heap.size = wr.heap.size + 1 from by simp [World.drew])
      have hgk : w.heap.size + 1 + 1 + 1 < wr.heap.size := (Array.getElem?_eq_some_iff.1 HM.out.bo).1
      clear HM e0 e1 e2
      have hT0 : ∀ l, Till [(some 5, (fun w' : World => w'.cell? ⟨w.heap.size, 0, none⟩ = some (.pointer (some ⟨p, 0, none⟩)) ∧ w'.cell? ⟨w.heap.size + 1 + 1 + 1, 0, none⟩ = some (.bool r.1.null) ∧ w'.cell? ⟨w.heap.size + 1 + 1 + 1, 1, none⟩ = some (.slice O1 r.1.first.length d1) ∧ w'.cell? ⟨w.heap.size + 1 + 1 + 1, 2, none⟩ = some (.slice O2 r.1.last.length d2) ∧ w'.cell? ⟨wr.heap.size, 0, none⟩ = some (.int .i64 x.f0) ∧ w'.cell? ⟨wr.heap.size, 1, none⟩ = some (.int .i64 x.f1) ∧ w'.cell? ⟨wr.heap.size, 2, none⟩ = some (.slice A2 x.f2.length c2)))] l (wr.alloc (.cells #[.int .i64 x.f0, .int .i64 x.f1, .slice A2 x.f2.length c2] 24)).drew := fun l => Till.live ⟨(blk_cell HMd.out.ba 0).trans rfl, (blk_cell HMd.out.bo 0).trans rfl, (blk_cell HMd.out.bo 1).trans rfl, (blk_cell HMd.out.bo 2).trans rfl, (blk_cell HBK.out 0).trans rfl, (blk_cell HBK.out 1).trans rfl, (blk_cell HBK.out 2).trans rfl⟩ (Till.nil _ _)
      have HT0 := Aside0.mk hT0
      have HTS : Aside0 (∀ (l : Array Bool) (vs2 vf2 : Value) (w2 : World), Stp B p vs' vf' vs2 vf2 (wr.alloc (.cells #[.int .i64 x.f0, .int .i64 x.f1, .slice A2 x.f2.length c2] 24)).drew w2 → Till [(some 5, (fun w' : World => w'.cell? ⟨w.heap.size, 0, none⟩ = some (.pointer (some ⟨p, 0, none⟩)) ∧ w'.cell? ⟨w.heap.size + 1 + 1 + 1, 0, none⟩ = some (.bool r.1.null) ∧ w'.cell? ⟨w.heap.size + 1 + 1 + 1, 1, none⟩ = some (.slice O1 r.1.first.length d1) ∧ w'.cell? ⟨w.heap.size + 1 + 1 + 1, 2, none⟩ = some (.slice O2 r.1.last.length d2) ∧ w'.cell? ⟨wr.heap.size, 0, none⟩ = some (.int .i64 x.f0) ∧ w'.cell? ⟨wr.heap.size, 1, none⟩ = some (.int .i64 x.f1) ∧ w'.cell? ⟨wr.heap.size, 2, none⟩ = some (.slice A2 x.f2.length c2)))] l w2) := ⟨fun l vs2 vf2 w2 hS => Till.live ⟨(blk_cell (HMd.out.kept hn0 hS HMd.out.ba (by omega) (by decide) (by decide)) 0).trans rfl, (blk_cell (HMd.out.kept hn0 hS HMd.out.bo (by omega) (by decide) (by decide)) 0).trans rfl, (blk_cell (HMd.out.kept hn0 hS HMd.out.bo (by omega) (by decide) (by decide)) 1).trans rfl, (blk_cell (HMd.out.kept hn0 hS HMd.out.bo (by omega) (by decide) (by decide)) 2).trans rfl, (blk_cell (HMd.out.kept hn0 hS HBK.out (by omega) (by decide) (by decide)) 0).trans rfl, (blk_cell (HMd.out.kept hn0 hS HBK.out (by omega) (by decide) (by decide)) 1).trans rfl, (blk_cell (HMd.out.kept hn0 hS HBK.out (by omega) (by decide) (by decide)) 2).trans rfl⟩ (Till.nil _ _)⟩
      clear hT0
      refine st_ [(some 5, (fun w' : World => w'.cell? ⟨w.heap.size, 0, none⟩ = some (.pointer (some ⟨p, 0, none⟩)) ∧ w'.cell? ⟨w.heap.size + 1 + 1 + 1, 0, none⟩ = some (.bool r.1.null) ∧ w'.cell? ⟨w.heap.size + 1 + 1 + 1, 1, none⟩ = some (.slice O1 r.1.first.length d1) ∧ w'.cell? ⟨w.heap.size + 1 + 1 + 1, 2, none⟩ = some (.slice O2 r.1.last.length d2) ∧ w'.cell? ⟨wr.heap.size, 0, none⟩ = some (.int .i64 x.f0) ∧ w'.cell? ⟨wr.heap.size, 1, none⟩ = some (.int .i64 x.f1) ∧ w'.cell? ⟨wr.heap.size, 2, none⟩ = some (.slice A2 x.f2.length c2)))] #[false, false, false, false, false, false] (by kernel_rfl) rfl rfl (HT0.out _) (fun hT => ?_)
      generalize (wr.alloc (.cells #[.int .i64 x.f0, .int .i64 x.f1, .slice A2 x.f2.length c2] 24)).drew = wd at HMd HBK HSD HT0 HTS hT ⊢
      refine tk_ (i := 0) (N := some 75) (v := ?_) (a' := ?_) (some 5) (fun w' : World => w'.cell? ⟨w.heap.size, 0, none⟩ = some (.pointer (some ⟨p, 0, none⟩)) ∧ w'.cell? ⟨w.heap.size + 1 + 1 + 1, 0, none⟩ = some (.bool r.1.null) ∧ w'.cell? ⟨w.heap.size + 1 + 1 + 1, 1, none⟩ = some (.slice O1 r.1.first.length d1) ∧ w'.cell? ⟨w.heap.size + 1 + 1 + 1, 2, none⟩ = some (.slice O2 r.1.last.length d2) ∧ w'.cell? ⟨wr.heap.size, 0, none⟩ = some (.int .i64 x.f0) ∧ w'.cell? ⟨wr.heap.size, 1, none⟩ = some (.int .i64 x.f1) ∧ w'.cell? ⟨wr.heap.size, 2, none⟩ = some (.slice A2 x.f2.length c2)) #[true, false, false, false, false, false] (List.Mem.head _) rfl rfl (by kernel_rfl) (fun _ _ _ h => h) (Or.inl ⟨by rfl, ?_⟩) hT ?_ (fun hT => ?_)
      rotate_left
      · rintro w' ⟨s0, s1, s2, s3, s4, s5, s6⟩
        go_simp
        with_reducible rfl
      rotate_left
      · simp only [Act.put, List.setIfInBounds_toArray, List.set_cons_zero, List.set_cons_succ, i64_w, i32_w]
        rfl
      refine tk_ (i := 1) (N := some 76) (v := ?_) (a' := ?_) (some 5) (fun w' : World => w'.cell? ⟨w.heap.size, 0, none⟩ = some (.pointer (some ⟨p, 0, none⟩)) ∧ w'.cell? ⟨w.heap.size + 1 + 1 + 1, 0, none⟩ = some (.bool r.1.null) ∧ w'.cell? ⟨w.heap.size + 1 + 1 + 1, 1, none⟩ = some (.slice O1 r.1.first.length d1) ∧ w'.cell? ⟨w.heap.size + 1 + 1 + 1, 2, none⟩ = some (.slice O2 r.1.last.length d2) ∧ w'.cell? ⟨wr.heap.size, 0, none⟩ = some (.int .i64 x.f0) ∧ w'.cell? ⟨wr.heap.size, 1, none⟩ = some (.int .i64 x.f1) ∧ w'.cell? ⟨wr.heap.size, 2, none⟩ = some (.slice A2 x.f2.length c2)) #[true, true, false, false, false, false] (List.Mem.head _) rfl rfl (by kernel_rfl) (fun _ _ _ h => h) (Or.inl ⟨by rfl, ?_⟩) hT ?_ (fun hT => ?_)
      rotate_left
      · rintro w' ⟨s0, s1, s2, s3, s4, s5, s6⟩
        go_simp
        with_reducible rfl
      rotate_left
      · simp only [Act.put, List.setIfInBounds_toArray, List.set_cons_zero, List.set_cons_succ, i64_w, i32_w]
        rfl
      refine tk_ (i := 2) (N := some 77) (v := ?_) (a' := ?_) (some 5) (fun w' : World => w'.cell? ⟨w.heap.size, 0, none⟩ = some (.pointer (some ⟨p, 0, none⟩)) ∧ w'.cell? ⟨w.heap.size + 1 + 1 + 1, 0, none⟩ = some (.bool r.1.null) ∧ w'.cell? ⟨w.heap.size + 1 + 1 + 1, 1, none⟩ = some (.slice O1 r.1.first.length d1) ∧ w'.cell? ⟨w.heap.size + 1 + 1 + 1, 2, none⟩ = some (.slice O2 r.1.last.length d2) ∧ w'.cell? ⟨wr.heap.size, 0, none⟩ = some (.int .i64 x.f0) ∧ w'.cell? ⟨wr.heap.size, 1, none⟩ = some (.int .i64 x.f1) ∧ w'.cell? ⟨wr.heap.size, 2, none⟩ = some (.slice A2 x.f2.length c2)) #[true, true, true, false, false, false] (List.Mem.head _) rfl rfl (by kernel_rfl) (fun _ _ _ h => h) (Or.inl ⟨by rfl, ?_⟩) hT ?_ (fun hT => ?_)
      rotate_left
      · rintro w' ⟨s0, s1, s2, s3, s4, s5, s6⟩
        go_simp
        with_reducible rfl
      rotate_left
      · simp only [Act.put, List.setIfInBounds_toArray, List.set_cons_zero, List.set_cons_succ, i64_w, i32_w]
        rfl
      refine on_ (i := 3) (N := some 78) #[true, true, true, true, false, false] rfl rfl (by kernel_rfl) (fun K hK => ?_)
      refine goes_ Try.func48 (by kernel_rfl) rfl #[.pointer (some ⟨p, 0, none⟩), nodeV x A2 c2] (by kernel_rfl) rfl rfl (by simp only [List.map_toArray, List.map_cons, List.map_nil]; rfl) ?_
      refine (HX.out (XL X w.heap.size) B p vs' vf' r.2 A2 c2 w0 wd h0B (below_stp H0.out h0B HMd.out.stp.below) HG.out HL2.out HMd.out.base (fun k hk => by have := HSD.out; rcases hk with hk | hk; (have := hX k hk; omega); omega) HMd.out.auto HW.out.1 HXr.out hrl).mono ?_
      rintro e w1 ⟨u1, u2, vs2, vf2, rfl, hA1, hS1, hP1⟩
      refine ⟨_, rfl, ?_⟩
      have hW2 := bldN_ok x r.2 HXr.out HW.out.1
      generalize bldN x r.2 = q at hA1 hP1 HN hW2 ⊢
      have HA1 := Aside0.mk hA1
      have HS1 := Aside0.mk hS1
      have HP1 := Aside0.mk hP1
      have HW2 := Aside0.mk hW2
      clear hA1 hS1 hP1 hW2
      obtain ⟨U1, m1, rfl⟩ := Kd.R_slice HP1.out.1
      obtain ⟨U2, m2, rfl⟩ := Kd.R_slice HP1.out.2
      refine hK.out _ _ (HTS.out _ _ _ _ HS1.out) (fun hT => ?_)
      clear hK K
      refine nm_ (a' := ?_) ?_ ?_
      rotate_left
      · show Act.put _ (some 78) _ = _
        simp only [Act.put, List.setIfInBounds_toArray, List.set_cons_zero, List.set_cons_succ, i64_w, i32_w]
        rfl
      refine on_ (i := 4) (N := some 79) #[true, true, true, true, true, false] rfl rfl (by kernel_rfl) (fun K hK => ?_)
      refine goes_ Try.func74 (by kernel_rfl) rfl #[partV r.1.null (.slice O1 r.1.first.length d1) (.slice O2 r.1.last.length d2), partV q.1.null (.slice U1 q.1.first.length m1) (.slice U2 q.1.last.length m2)] (by kernel_rfl) rfl rfl (by simp only [List.map_toArray, List.map_cons, List.map_nil]; rfl) ?_
      have hWl := HW2.out.2.2
      have hWr := HW.out.2.2
      have z1 := Kd.R_reads' (HS1.out.row HMd.out.part.1)
      have z2 := Kd.R_reads' (HS1.out.row HMd.out.part.2)
      have z3 := Kd.R_reads' HP1.out.1
      have z4 := Kd.R_reads' HP1.out.2
      refine (or_fp O1 O2 U1 U2 d1 d2 m1 m2 r.1.first r.1.last q.1.first q.1.last r.1.null q.1.null w1 z1.2.2 z1.2.1 z2.2.2 z2.2.1 z3.2.2 z3.2.1 z4.2.2 z4.2.1 (by have := HW.out.2.1.first.len; have := HW2.out.2.1.first.len; omega) (by have := HW.out.2.1.last.len; have := HW2.out.2.1.last.len; omega)).mono ?_
      rintro e w2 ⟨v1, v2, rfl, hv1, hv2, hb2⟩
      refine ⟨_, rfl, ?_⟩
      clear z1 z2 z3 z4
      have hXw : ∀ k, XL X w.heap.size k → k < w1.heap.size := fun k hk => by have := HSD.out; have := HS1.out.below.size; have := (HS1.out.blk (HMd.out.away hn0 HMd.out.bo (by omega) (by decide) (by decide)) HMd.out.bo); have := (Array.getElem?_eq_some_iff.1 this).1; rcases hk with hk | hk; (have := hX k hk; omega); omega
      have n1 := HA1.out.new_row HA1.out.rows.base hXw hv1
      have n2 := HA1.out.new_row HA1.out.rows.base hXw hv2
      have HA2 := Aside0.mk (show AutoP (XL X w.heap.size) B p vs2 vf2 ((altL (ks.take (i + 1)) ⟨false, [], []⟩ s)).2 w2 by rw [HN.out]; exact HA1.out.below hb2)
      have HP2 := Aside0.mk (show PartM B p vs2 vf2 ((altL (ks.take (i + 1)) ⟨false, [], []⟩ s)).1 v1 v2 w2 by rw [HN.out]; exact ⟨Kd.R_mono n1 (fun k hk => hk.1), Kd.R_mono n2 (fun k hk => hk.1)⟩)
      have HS2 := Aside0.mk (HS1.out.trans (Stp.of_below HA1.out.rows.base hb2))
      have HNu := Aside0.mk (show (r.1.null || q.1.null) = (altL (ks.take (i + 1)) ⟨false, [], []⟩ s).1.null by rw [HN.out]; rfl)
      clear hv1 hv2 hb2 hXw n1 n2 hWl hWr
      refine hK.out _ _ (HTS.out _ _ _ _ HS2.out) (fun hT => ?_)
      clear hK K
      refine nm_ (a' := ?_) ?_ ?_
      rotate_left
      · show Act.put _ (some 79) _ = _
        simp only [Act.put, List.setIfInBounds_toArray, List.set_cons_zero, List.set_cons_succ, i64_w, i32_w]
        rfl
      unfold partV
      rw [HNu.out]
      generalize hrr : altL (ks.take (i + 1)) ⟨false, [], []⟩ s = rr at HA2 HP2 HNu ⊢
      have HRR := Aside0.mk hrr
      clear hrr
      obtain ⟨V1, n1, rfl⟩ := Kd.R_slice HP2.out.1
      obtain ⟨V2, n2, rfl⟩ := Kd.R_slice HP2.out.2
      have HBO := Aside0.mk (HMd.out.kept hn0 HS2.out HMd.out.bo (by omega) (by decide) (by decide))
      have h0 : w2.cell? ⟨w.heap.size + 1 + 1 + 1, 0, none⟩ = some (.bool r.1.null) := (blk_cell HBO.out 0).trans rfl
      have h1 : w2.cell? ⟨w.heap.size + 1 + 1 + 1, 1, none⟩ = some (.slice O1 r.1.first.length d1) := (blk_cell HBO.out 1).trans rfl
      have h2 : w2.cell? ⟨w.heap.size + 1 + 1 + 1, 2, none⟩ = some (.slice O2 r.1.last.length d2) := (blk_cell HBO.out 2).trans rfl
      have hfr : ∀ i, w2.frozen? ⟨w.heap.size + 1 + 1 + 1, i, none⟩ = false := fun i => blk_frozen HBO.out i
      have HMn := Aside0.mk (HMd.out.next hB (Nat.le_refl _) hn0 HA2.out HS2.out HP2.out)
      refine on_ (i := 5) (N := none) #[true, true, true, true, true, true] rfl rfl (by kernel_rfl) (fun K hK => ?_)
      refine skip_ (w1 := (((w2.setCell ⟨w.heap.size + 1 + 1 + 1, 0, none⟩ (.bool rr.1.null)).setCell ⟨w.heap.size + 1 + 1 + 1, 1, none⟩ (.slice V1 rr.1.first.length n1)).setCell ⟨w.heap.size + 1 + 1 + 1, 2, none⟩ (.slice V2 rr.1.last.length n2))) (by rfl) rfl ?_ ?_
      · go_simp
      refine hK.out _ _ (Till.dead rfl (Till.nil _ _)) (fun hT => ?_)
      clear hK K h0 h1 h2 hfr hT
      refine dn_ (by kernel_rfl) ?_ _
      generalize (((w2.setCell ⟨w.heap.size + 1 + 1 + 1, 0, none⟩ (.bool rr.1.null)).setCell ⟨w.heap.size + 1 + 1 + 1, 1, none⟩ (.slice V1 rr.1.first.length n1)).setCell ⟨w.heap.size + 1 + 1 + 1, 2, none⟩ (.slice V2 rr.1.last.length n2)) = w3 at HMn ⊢
      clear HT0 HTS
      go_wp2_with fail
      go_roundg (ks.length - (i + 1))
      case measure => have := HI.out; omega
      case rel => exact ⟨i + 1, by go_num, ⟨by have := HI.out; omega⟩, ⟨_, _, _, _, by rw [HRR.out]; exact HMn.out⟩⟩
    · have := HI.out
      obtain rfl : i = ks.length := by omega
      clear this
      obtain ⟨vs', vf', o1, o2, hM⟩ := HM.out
      rw [List.take_length] at hM
      obtain ⟨O1, d1, rfl⟩ := Kd.R_slice hM.part.1
      obtain ⟨O2, d2, rfl⟩ := Kd.R_slice hM.part.2
      generalize hre : altL ks ⟨false, [], []⟩ s = r at hM
      have HRE := Aside0.mk hre
      clear hre
      have b0 : wr.cell? ⟨w.heap.size + 1 + 1 + 1, 0, none⟩ = some (.bool r.1.null) := (blk_cell hM.bo 0).trans rfl
      have b1 : wr.cell? ⟨w.heap.size + 1 + 1 + 1, 1, none⟩ = some (.slice O1 r.1.first.length d1) := (blk_cell hM.bo 1).trans rfl
      have b2 : wr.cell? ⟨w.heap.size + 1 + 1 + 1, 2, none⟩ = some (.slice O2 r.1.last.length d2) := (blk_cell hM.bo 2).trans rfl
      have r0 : wr.cell? ⟨w.heap.size + 1 + 1, 0, none⟩ = some (.bool false) := (blk_cell hM.br 0).trans rfl
      have r1 : wr.cell? ⟨w.heap.size + 1 + 1, 1, none⟩ = some (.slice none 0 0) := (blk_cell hM.br 1).trans rfl
      have r2 : wr.cell? ⟨w.heap.size + 1 + 1, 2, none⟩ = some (.slice none 0 0) := (blk_cell hM.br 2).trans rfl
      have hfr : ∀ i, wr.frozen? ⟨w.heap.size + 1 + 1, i, none⟩ = false := fun i => blk_frozen hM.br i
      have HMe := Aside0.mk hM
      clear HM hM
      go_wp2_with fail
      refine bodyPost_ret (results_c1 (P := Try.prog) rfl _ _ (w.heap.size + 1 + 1) 69 #[.bool r.1.null, .slice O1 r.1.first.length d1, .slice O2 r.1.last.length d2] (0, 0) _ rfl ?_ Try.underlying69 rfl (by kernel_rfl)) rfl ?_
      · exact set3 HMe.out.br
      · rw [HRE.out]; exact HMe.out.done hB (Nat.le_refl _) hn0
end Go.Proofs.Ytkoofldididpgaa.NB

end
