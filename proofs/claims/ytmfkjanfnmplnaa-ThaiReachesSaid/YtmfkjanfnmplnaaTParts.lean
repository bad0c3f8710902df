/- thai.Parts and thai.Reach -/
import Derived.Test.YtmfkjanfnmplnaaTMax
import Derived.Test.YtmfkjanfnmplnaaTSort
namespace Go.Proofs.Ytmfkjanfnmplnaa.TP
open Go Go.RowKit Go.Proofs.YtmfkjanfnmplnaaW.PrintWords Go.Proofs.YtmfkjanfnmplnaaW.PrintLast
open Go.Proofs.Ytmfkjanfnmplnaa.ML Go.Proofs.Ytmfkjanfnmplnaa.TG Go.Proofs.Ytmfkjanfnmplnaa.XT Go.Proofs.Ytmfkjanfnmplnaa.TE Go.Proofs.Ytmfkjanfnmplnaa.TF Go.Proofs.Ytmfkjanfnmplnaa.ThaiMath Go.Proofs.Ytmfkjanfnmplnaa.TR Go.Proofs.Ytmfkjanfnmplnaa.TB Go.Proofs.Ytmfkjanfnmplnaa.TX
set_option linter.unusedVariables false
set_option linter.unusedSimpArgs false

theorem ends_ (n : Int) (A1 : Option Addr) (c1 : Nat) (l : List S39) (w : World) (hr1 : Kd.C k39 w A1 l.length l) (hc1 : l.length ≤ c1) :
    Calls Try.prog 27 #[.int .i64 n, .slice A1 l.length c1] w (EndsPost n l w) := ends_calls TS.sortC TS.compactC n A1 c1 l w hr1 hc1

/-- what is looked up -/
theorem look_begins {w : World} {B b : Nat} {l : List S39} {m : List (Int × Value)} (hG : Groups w B b m (fun x => fin (tosL l x))) (x : Int) :
    (mlook m x = none ∧ ¬ beginsS (wsOf l) x) ∨ (∃ A c, mlook m x = some (.slice A (fin (tosL l x)).length c) ∧ ReadsInt w .i64 A (fin (tosL l x)).length (fin (tosL l x)) ∧ fin (tosL l x) ≠ [] ∧ beginsS (wsOf l) x) := by
  have hbe : beginsS (wsOf l) x ↔ fin (tosL l x) ≠ [] := by
    constructor
    · rintro ⟨t, ht⟩ e
      have := (mem_fin (tosL l x) t).2 ((mem_tos l x t).2 ht)
      rw [e] at this
      cases this
    · intro h
      obtain ⟨t, ht⟩ := List.exists_mem_of_ne_nil _ h
      exact ⟨t, (mem_tos l x t).1 ((mem_fin _ _).1 ht)⟩
  cases hl : mlook m x with
  | none => exact .inl ⟨rfl, fun h => hbe.1 h (hG.none_ x hl)⟩
  | some v =>
    obtain ⟨h1, h2⟩ := hG.row x v hl
    obtain ⟨A, c, rfl, hr⟩ := own_reads h2
    exact .inr ⟨A, c, rfl, hr, h1, hbe.2 h1⟩

theorem next_word {n : Int} {l : List S39} (hR : ∀ s ∈ l, rightW n s) {x t : Int} (hb : beginsS (wsOf l) x) (h : BestIn l (fin (tosL l x)) t) : NextP n (wsOf l) x t := by
  have hm := (mem_tos l x t).1 ((mem_fin _ _).1 h.1)
  obtain ⟨s, hs, rfl, rfl⟩ := (mem_ws l x t).1 hm
  obtain ⟨h1, h2, h3⟩ := hR s hs
  exact ⟨h3, h2, fun _ => ⟨hm, fun u hu => h.2 u ((mem_fin _ _).2 ((mem_tos l _ u).2 hu))⟩, fun hn => absurd hb hn⟩

def PartsPost (n : Int) (l : List S39) (w : World) (e : Ending) (w' : World) : Prop := Below w.heap.size w w' ∧
  ((¬ Right n l ∧ e = .returned (.tuple #[.slice none 0 0, .int .i64 1])) ∨
    (Right n l ∧ ∃ v ts, e = .returned (.tuple #[v, .int .i64 0]) ∧ (Kd.int .i64).R 3 w' w.heap.size (fun _ => True) v (0 :: ts) ∧ PathP n (wsOf l) 0 ts))

set_option maxHeartbeats 1000000 in
theorem parts_calls (n : Int) (A1 : Option Addr) (c1 : Nat) (l : List S39) (w : World) (hr1 : Kd.C k39 w A1 l.length l) (hc1 : l.length ≤ c1) :
    Calls Try.prog 17 #[.int .i64 n, .slice A1 l.length c1] w (PartsPost n l w) := by
  have HR1 := Aside0.mk hr1
  have HC1 := Aside0.mk hc1
  clear hr1 hc1
  go_enter Try.func17, Try.ntmps17
  go_wp2_with fail
  refine (ends_ n A1 c1 l w HR1.out HC1.out).mono ?_
  rintro e w1 ⟨hb1, ⟨hno, rfl⟩ | ⟨hR, b, rfl, hE⟩⟩
  · have HN := Aside0.mk hno
    have HB := Aside0.mk hb1
    clear hno hb1
    go_wp2_with fail
    go_ret2
    exact ⟨HB.out.alloc HB.out.size _, .inl ⟨HN.out, rfl⟩⟩
  · have HB := Aside0.mk hb1
    have HR := Aside0.mk hR
    have HE := Aside0.mk (EndsMap.below hE (below_alloc (Below.refl _ _) (Obj.cells #[Value.map (some b)] 53)))
    have HB1 := Aside0.mk (below_alloc hb1 (Obj.cells #[Value.map (some b)] 53))
    have hn0 := hR.1
    have hn1 := hR.2.1
    clear hb1 hR hE
    have HW := Aside0.mk (show (w1.alloc (Obj.cells #[Value.map (some b)] 53)).heap.size = w1.heap.size + 1 ∧ (w1.alloc (Obj.cells #[Value.map (some b)] 53)).cell? ⟨w1.heap.size, 0, none⟩ = some (.map (some b)) ∧ w.heap.size ≤ w1.heap.size from ⟨by simp, by go_simp, HB.out.size⟩)
    have HL : Aside0 (∀ s ∈ l, 0 ≤ s.f1 ∧ s.f1 ≤ 5000) := ⟨fun s hs => by obtain ⟨q1, q2, q3⟩ := HR.out.2.2.2 s hs; omega⟩
    go_wp2_with fail
    have HO0 := Aside0.mk (own_lit (w1.alloc (Obj.cells #[Value.map (some b)] 53)) (w1.heap.size + 1) 3 .i64 [0] (by rw [HW.out.1]; exact Nat.le_refl _) (by simp))
    generalize w1.alloc (Obj.cells #[Value.map (some b)] 53) = W1 at HE HB1 HW HO0 ⊢
    generalize w1.heap.size = gb at HW HO0 ⊢
    go_loopg [9, 10] n.toNat (fun kq v9 v10 wr => ∃ (a : Int) (pre : List Int), v10 = .int .i64 a ∧ Aside0 (0 ≤ a ∧ a ≤ n ∧ (kq : Int) = n - a) ∧ Aside0 (∀ ts, PathP n (wsOf l) a ts → PathP n (wsOf l) 0 (pre ++ ts)) ∧ Aside0 ((Kd.int .i64).R 3 wr (gb + 1) (fun _ => True) v9 (0 :: pre)) ∧ Aside0 (Below (gb + 1) W1 wr) ∧ Aside0 ((pre.length : Int) ≤ a))
    case atStart => exact ⟨0, [], rfl, ⟨by omega⟩, ⟨fun ts h => h⟩, ⟨by have := HO0.out; rw [HW.out.1] at this; exact own_R this⟩, ⟨(Below.refl _ _).alloc (by rw [HW.out.1]; exact Nat.le_refl _) _⟩, ⟨by simp⟩⟩
    case round =>
      clear HO0
      obtain ⟨a, pre, rfl, HA, HP, HO, HB2, HP2⟩ := hrel
      have HBw : Aside0 (Below W1.heap.size W1 wr) := ⟨by rw [HW.out.1]; exact HB2.out⟩
      have HE2 := Aside0.mk (EndsMap.below HE.out HBw.out)
      have hcell := pw_cell_below HBw.out HW.out.2.1
      have ha0 := HA.out.1
      by_cases hlt : a < n
      · obtain ⟨m, hG⟩ := HE2.out
        have hgood := hG.good
        have hblk := hG.blk
        have HG := Aside0.mk hG
        have hok : okI a := okI_of ha0 (by omega)
        rcases look_begins hG a with ⟨hl0, hnb⟩ | ⟨A, c, hl0, hrd, hne, hbg⟩
        · have HV := Aside0.mk (show (if true then Value.tuple #[(mlook m a).getD (.slice none 0 0), .bool (mlook m a).isSome] else (mlook m a).getD (.slice none 0 0)) = .tuple #[.slice none 0 0, .bool false] from by rw [hl0]; rfl)
          have HNB := Aside0.mk hnb
          clear hl0 hnb hG
          go_wp2_with (at_lookup; (refine wl_look' (mk := mkI) rfl (.tmp 31) (.tmp 32) 53 true rfl keys53 hgood Try.underlying53 (zero25 _) hblk rfl a hok rfl _ HV.out ?_))
          clear hok
          go_loop [10] (fun v10 => ∃ a1 : Int, v10 = .int .i64 a1 ∧ Aside0 (a < a1 ∧ a1 ≤ n ∧ ∀ s, a < s → s < a1 → ¬ beginsS (wsOf l) s)) (fun v => (n - intOf v).toNat)
          case atStart => exact ⟨a + 1, rfl, ⟨by omega, by omega, fun s h1 h2 => by omega⟩⟩
          case round =>
            obtain ⟨a1, rfl, HI⟩ := hrel
            have hi0 := HI.out.1
            have hi1 := HI.out.2.1
            by_cases hlt1 : a1 < n
            · have hok1 : okI a1 := okI_of (by omega) (by omega)
              rcases look_begins HG.out a1 with ⟨hl1, hnb⟩ | ⟨A, c, hl1, hrd, hne, hbg⟩
              · have HV1 := Aside0.mk (show (if false then Value.tuple #[(mlook m a1).getD (.slice none 0 0), .bool (mlook m a1).isSome] else (mlook m a1).getD (.slice none 0 0)) = .slice none 0 0 from by rw [hl1]; rfl)
                have HNB1 := Aside0.mk hnb
                have hL : Sem.run Try.prog (Instr.lookup 53 (.map (some b)) (.int .i64 a1) false) wr = .ok (.slice none 0 0) wr := (run_look (mk := mkI) keys53 hgood Try.underlying53 (zero25 _) hblk hok1 false).trans (by rw [HV1.out])
                clear hl1 hnb hok1
                go_wp2_with fail
                go_round
                case rel => exact ⟨a1 + 1, rfl, ⟨by omega, by omega, fun s h1 h2 => by
                  by_cases e : s = a1
                  · rw [e]; exact HNB1.out
                  · exact HI.out.2.2 s h1 (by omega)⟩⟩
                case measure => simp [intOf]; omega
              · have HV1 := Aside0.mk (show (if false then Value.tuple #[(mlook m a1).getD (.slice none 0 0), .bool (mlook m a1).isSome] else (mlook m a1).getD (.slice none 0 0)) = .slice A (fin (tosL l a1)).length c from by rw [hl1]; rfl)
                have HN : Aside0 (NextP n (wsOf l) a a1) := ⟨hi0, hi1, fun h => absurd h HNB.out, fun _ => ⟨fun _ => hbg, HI.out.2.2⟩⟩
                have hln : (((fin (tosL l a1)).length : Int) == 0) = false := by simpa using hne
                have hln2 : ((fin (tosL l a1)).length == 0) = false := by simpa using hne
                clear hl1 hrd hne hbg
                generalize (fin (tosL l a1)).length = len at HV1 hln hln2 ⊢
                have HO2 := HO
                have hL : Sem.run Try.prog (Instr.lookup 53 (.map (some b)) (.int .i64 a1) false) wr = .ok (.slice A len c) wr := (run_look (mk := mkI) keys53 hgood Try.underlying53 (zero25 _) hblk hok1 false).trans (by rw [HV1.out])
                clear hok1
                go_wp2_with ((at_builtin; (refine Kd.R_append (Kd.int .i64) (w0 := W1) (gb + 1) rfl (.tmp 26) (.tmp 28) 25 3 (.int .i64 0) 8 rfl Try.underlying25 info3 rfl (by decide) (by omega) u9 (0 :: pre) a1 [.int .i64 a1] (fun _ => True) (fun _ => False) rfl rfl ?aP (fun _ hk => hk.elim) (fun _ _ => trivial) HO2.out HB2.out ?aS ?aL ?_); (case aP => exact rfl); (case aS => have := HB2.out.size; have := HW.out.1; omega); (case aL => have := HP2.out; have := HA.out; simp only [List.length_cons]; omega); intro v1 w4 ho4 hb4 hg4 hat4; have HO4 := Aside0.mk ho4; have HB4 := Aside0.mk hb4; clear ho4 hb4 hg4 hat4))
                go_roundg (n - a1).toNat
                case measure => have := HA.out; have := HN.out.gt; omega
                case rel => exact ⟨a1, pre ++ [a1], rfl, ⟨by have := HA.out; have := HN.out.gt; have := HN.out.le; omega⟩, ⟨fun ts hts => by rw [List.append_assoc]; exact HP.out _ ⟨hlt, HN.out, hts⟩⟩, HO4, HB4, ⟨by have := HP2.out; have := HN.out.gt; have := HA.out; rw [List.length_append, List.length_singleton]; omega⟩⟩
            · obtain rfl : a1 = n := by omega
              have HN : Aside0 (NextP a1 (wsOf l) a a1) := ⟨hi0, hi1, fun h => absurd h HNB.out, fun _ => ⟨fun h => by omega, HI.out.2.2⟩⟩
              have HO2 := HO
              go_wp2_with (at_builtin; (refine Kd.R_append (Kd.int .i64) (w0 := W1) (gb + 1) rfl (.tmp 26) (.tmp 28) 25 3 (.int .i64 0) 8 rfl Try.underlying25 info3 rfl (by decide) (by omega) u9 (0 :: pre) a1 [.int .i64 a1] (fun _ => True) (fun _ => False) rfl rfl ?aP (fun _ hk => hk.elim) (fun _ _ => trivial) HO2.out HB2.out ?aS ?aL ?_); (case aP => exact rfl); (case aS => have := HB2.out.size; have := HW.out.1; omega); (case aL => have := HP2.out; have := HA.out; simp only [List.length_cons]; omega); intro v1 w4 ho4 hb4 hg4 hat4; have HO4 := Aside0.mk ho4; have HB4 := Aside0.mk hb4; clear ho4 hb4 hg4 hat4)
              go_roundg (a1 - a1).toNat
              case measure => have := HA.out; have := HN.out.gt; omega
              case rel => exact ⟨a1, pre ++ [a1], rfl, ⟨by have := HA.out; have := HN.out.gt; have := HN.out.le; omega⟩, ⟨fun ts hts => by rw [List.append_assoc]; exact HP.out _ ⟨hlt, HN.out, hts⟩⟩, HO4, HB4, ⟨by have := HP2.out; have := HN.out.gt; have := HA.out; rw [List.length_append, List.length_singleton]; omega⟩⟩
        · have HV := Aside0.mk (show (if true then Value.tuple #[(mlook m a).getD (.slice none 0 0), .bool (mlook m a).isSome] else (mlook m a).getD (.slice none 0 0)) = .tuple #[.slice A (fin (tosL l a)).length c, .bool true] from by rw [hl0]; rfl)
          have HX : Aside0 (∀ t ∈ fin (tosL l a), 0 ≤ t ∧ t ≤ 5000) := ⟨fun t ht => by
            rw [mem_fin, mem_tos, mem_ws] at ht
            obtain ⟨s, hs, _, rfl⟩ := ht
            exact HL.out s hs⟩
          have HRD := Aside0.mk hrd
          have HNe := Aside0.mk (List.length_pos_iff.2 hne)
          have HBG := Aside0.mk hbg
          clear hl0 hrd hne hbg hG
          go_wp2_with (at_lookup; (refine wl_look' (mk := mkI) rfl (.tmp 31) (.tmp 32) 53 true rfl keys53 hgood Try.underlying53 (zero25 _) hblk rfl a hok rfl _ HV.out ?_))
          refine (max_calls l w.heap.size b HL.out gb A c (fin (tosL l a)) _ HRD.out HNe.out HX.out HE2.out hcell).mono ?_
          rintro e w3 ⟨t, rfl, hbest, hb3⟩
          have HN := Aside0.mk (next_word HR.out.2.2.2 HBG.out hbest)
          have HB3 := Aside0.mk (show Below (gb + 1) W1 w3 from HB2.out.trans (hb3.mono (by have := HB2.out.size; have := HW.out.1; omega)))
          have HO2 := Aside0.mk (Kd.R_below HO.out hb3)
          clear hbest hb3 hgood hblk hok hcell HG HE2 HBw HB2
          have HB2 := HB3
          go_wp2_with (at_builtin; (refine Kd.R_append (Kd.int .i64) (w0 := W1) (gb + 1) rfl (.tmp 26) (.tmp 28) 25 3 (.int .i64 0) 8 rfl Try.underlying25 info3 rfl (by decide) (by omega) u9 (0 :: pre) t [.int .i64 t] (fun _ => True) (fun _ => False) rfl rfl ?aP (fun _ hk => hk.elim) (fun _ _ => trivial) HO2.out HB2.out ?aS ?aL ?_); (case aP => exact rfl); (case aS => have := HB2.out.size; have := HW.out.1; omega); (case aL => have := HP2.out; have := HA.out; simp only [List.length_cons]; omega); intro v1 w4 ho4 hb4 hg4 hat4; have HO4 := Aside0.mk ho4; have HB4 := Aside0.mk hb4; clear ho4 hb4 hg4 hat4)
          go_roundg (n - t).toNat
          case measure => have := HA.out; have := HN.out.gt; omega
          case rel => exact ⟨t, pre ++ [t], rfl, ⟨by have := HA.out; have := HN.out.gt; have := HN.out.le; omega⟩, ⟨fun ts hts => by rw [List.append_assoc]; exact HP.out _ ⟨hlt, HN.out, hts⟩⟩, HO4, HB4, ⟨by have := HP2.out; have := HN.out.gt; have := HA.out; rw [List.length_append, List.length_singleton]; omega⟩⟩
      · obtain rfl : a = n := by have := HA.out; omega
        go_wp2_with fail
        go_ret2
        have hle := HW.out.2.2
        refine ⟨HB1.out.trans (HB2.out.mono (by omega)), .inr ⟨HR.out, _, pre, rfl, Kd.R_lower HO.out (by omega), ?_⟩⟩
        have := HP.out [] (Int.le_refl _)
        rwa [List.append_nil] at this
end Go.Proofs.Ytmfkjanfnmplnaa.TP
