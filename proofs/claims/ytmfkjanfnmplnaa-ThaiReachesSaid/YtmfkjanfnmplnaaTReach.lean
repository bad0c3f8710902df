/- thai.reach -/
import Derived.Test.YtmfkjanfnmplnaaTFin
namespace Go.Proofs.Ytmfkjanfnmplnaa.TR
open Go Go.RowKit Go.Proofs.YtmfkjanfnmplnaaW.PrintWords Go.Proofs.YtmfkjanfnmplnaaW.PrintLast
open Go.Proofs.Ytmfkjanfnmplnaa.ML Go.Proofs.Ytmfkjanfnmplnaa.TG Go.Proofs.Ytmfkjanfnmplnaa.XT Go.Proofs.Ytmfkjanfnmplnaa.TE Go.Proofs.Ytmfkjanfnmplnaa.TF Go.Proofs.Ytmfkjanfnmplnaa.ThaiMath
set_option linter.unusedVariables false
set_option linter.unusedSimpArgs false

theorem ret_int {k : IntKind} {a b : Int} (h : a = b) : Ending.returned (.int k a) = .returned (.int k b) := by rw [h]

set_option maxHeartbeats 400000 in
theorem reach_calls (l : List S39) (B b : Nat) (hl : ∀ s ∈ l, 0 ≤ s.f1 ∧ s.f1 ≤ 5000) (k : Nat) : ∀ (at_ : Int) (w : World), EndsMap w B b l → 0 ≤ at_ → at_ ≤ 5000 → k ≤ 3 →
    Calls Try.prog 31 #[.map (some b), .int .i64 at_, .int .i64 k] w fun e w' => e = .returned (.int .i64 (reachS (wsOf l) k at_)) ∧ w = w' := by
  induction k with
  | zero =>
    intro at_ w hE h0 h1 hk
    clear hE
    go_enter Try.func31, Try.ntmps31
    go_wp2_with fail
    go_ret
    exact ⟨rfl, rfl⟩
  | succ k ih =>
    intro at_ w hE h0 h1 hk
    have HE := Aside0.mk hE
    obtain ⟨m, hG⟩ := hE
    have hgood := hG.good
    have hblk := hG.blk
    have hrow := hG.rowAt at_
    obtain ⟨A, c, hv, hrd⟩ := own_reads hrow
    have HV := Aside0.mk hv
    have HRD := Aside0.mk hrd
    have HI := Aside0.mk ih
    have HL := Aside0.mk hl
    have hok : okI at_ := okI_of h0 (by omega)
    have b0 : ((k : Int) + 1 == 0) = false := by simp; omega
    have hlen : (fin (tosL l at_)).length ≤ 9223372036854775807 := hrd.2.1
    clear hv hrd hrow hG ih hl
    have HF := Aside0.mk (reach_fin l k at_)
    have HX : Aside0 (∀ t ∈ fin (tosL l at_), 0 ≤ t ∧ t ≤ 5000) := ⟨fun t ht => by
      rw [mem_fin, mem_tos, mem_ws] at ht
      obtain ⟨s, hs, _, rfl⟩ := ht
      exact HL.out s hs⟩
    generalize fin (tosL l at_) = xs at hlen HF HX HV HRD
    go_enter Try.func31, Try.ntmps31
    go_wp2_with (at_lookup; (refine wl_look' (mk := mkI) rfl (.tmp 14) (.tmp 15) 53 false rfl keys53 hgood Try.underlying53 (zero25 _) hblk rfl at_ hok rfl (.slice A xs.length c) HV.out ?_))
    go_loop [7, 18] (fun v7 v18 => ∃ j : Nat, j ≤ xs.length ∧ v18 = .int .i64 j ∧ v7 = .int .i64 ((xs.take j).foldl (fun m t => max m (reachS (wsOf l) k t)) at_)) (fun _ i => xs.length - (intOf i).toNat)
    case atStart => exact ⟨0, Nat.zero_le _, rfl, rfl⟩
    case round =>
      obtain ⟨j, hj, rfl, rfl⟩ := hrel
      by_cases hlt : j < xs.length
      · obtain ⟨ad, rfl, hc⟩ := HRD.out.at_ (j : Int) (by omega) (by omega)
        simp only [Int.toNat_natCast] at hc
        have HS := Aside0.mk (foldl_snoc (fun t => reachS (wsOf l) k t) xs j hlt at_)
        have hb := HX.out (rd xs j) (by unfold rd; rw [Int.toNat_natCast, List.getD_eq_getElem?_getD, List.getElem?_eq_getElem hlt]; simp)
        have hz1 := hb.1
        have hz2 := hb.2
        clear hb
        rw [show xs.getD j 0 = rd xs (j : Int) from by simp [rd]] at HS
        generalize rd xs (j : Int) = x at hc HS hz1 hz2
        generalize (xs.take j).foldl (fun m t => max m (reachS (wsOf l) k t)) at_ = far at HS ⊢
        go_wp2_with fail
        refine (HI.out x _ HE.out hz1 hz2 (by omega)).mono ?_
        rintro e w' ⟨rfl, rfl⟩
        go_wp2_with fail
        go_round
        case rel => exact ⟨j + 1, by omega, by go_num, by rw [HS.out]; simp [Int.max_def]; try omega⟩
        case measure => simp [intOf]; omega
      · obtain rfl : j = xs.length := by omega
        go_wp2_with fail
        go_ret
        exact ⟨ret_int HF.out.symm, rfl⟩
end Go.Proofs.Ytmfkjanfnmplnaa.TR
