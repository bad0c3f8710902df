/- What FollowTurns's proof leans on, part 3: words printed by the kit's tools, walks and plain laws of mine. No condition. -/
import Derived.Test.YtkoofldididpgaaFT2
section
namespace Go.Proofs.Ytkoofldididpgaa.NB
open Go Go.RowKit Go.Proofs.YtkoofldididpgaaW.PrintWords Go.Proofs.YtkoofldididpgaaW.PrintLast Go.Proofs.YtkoofldididpgaaW.PrintMore
open Go.Proofs.Ytkoofldididpgaa.XB Go.Proofs.Ytkoofldididpgaa.NM Go.Proofs.Ytkoofldididpgaa.NR Go.Proofs.Ytkoofldididpgaa.NW Go.Proofs.Ytkoofldididpgaa.BM Go.Proofs.Ytkoofldididpgaa.FM Go.Proofs.Ytkoofldididpgaa.NA Go.Proofs.Ytkoofldididpgaa.NN Go.Proofs.Ytkoofldididpgaa.NT Go.Proofs.Ytkoofldididpgaa.NO Go.Proofs.Ytkoofldididpgaa.RT Go.Proofs.Ytkoofldididpgaa.NK
set_option linter.unusedVariables false
set_option linter.unusedSimpArgs false
def XO (X : Nat → Prop) (n0 gx : Nat) : Nat → Prop := fun k => X k ∨ (n0 ≤ k ∧ k ≤ n0 + 2) ∨ k = gx
structure OneM (X : Nat → Prop) (B p n0 gx : Nat) (vs vf : Value) (kd st : Int) (vk : Value) (q : St) (w w' : World) (vs2 vf2 : Value) : Prop where
  auto : AutoP (XO X n0 gx) B p vs2 vf2 q w'
  stp : Stp B p vs vf vs2 vf2 w w'
  ba : w'.heap[n0]? = some (.cells #[.pointer (some ⟨p, 0, none⟩)] 71 (0, 0))
  bn : w'.heap[n0 + 1]? = some (.cells #[.int .i64 kd, .int .i64 st, vk] 24 (0, 0))
  br : w'.heap[n0 + 1 + 1]? = some (.cells #[.bool false, .slice none 0 0, .slice none 0 0] 69 (0, 0))
section
variable {X : Nat → Prop} {B p n0 gx : Nat} {vs vf : Value} {kd st : Int} {vk : Value} {q q' : St} {w wr w1 w2 : World} {vs' vf' o1 o2 vs2 vf2 v1 v2 : Value}
theorem OneM.base (h : OneM X B p n0 gx vs vf kd st vk q w wr vs2 vf2) : B ≤ wr.heap.size := h.auto.rows.base
theorem OneM.step (h : OneM X B p n0 gx vs vf kd st vk q w wr vs' vf') (hp : p < n0) (hA : AutoP (XO X n0 gx) B p vs2 vf2 q' w2) (hS : Stp B p vs' vf' vs2 vf2 wr w2) : OneM X B p n0 gx vs vf kd st vk q' w w2 vs2 vf2 :=
  ⟨hA, h.stp.trans hS, hS.blk (h.auto.away h.ba (by omega) (by decide) (by decide)) h.ba, hS.blk (h.auto.away h.bn (by omega) (by decide) (by decide)) h.bn, hS.blk (h.auto.away h.br (by omega) (by decide) (by decide)) h.br⟩
theorem OneM.own (h : OneM X B p n0 gx vs vf kd st vk q w wr vs' vf') (hB : B ≤ w.heap.size) (hn : w.heap.size ≤ n0) (hp : p < n0) (hgx : n0 + 3 ≤ gx) {c : Array Value} (hx : wr.heap[gx]? = some (.cells c 69 (0, 0))) (hO : Own gx wr w2) : OneM X B p n0 gx vs vf kd st vk q w w2 vs' vf' :=
  ⟨AutoM.own h.auto hx (by omega) (by decide) (.inr (.inr rfl)) hO, Stp.own hB h.stp (by omega) hO, (hO.block _ (Array.getElem?_eq_some_iff.1 h.ba).1 (by omega)).trans h.ba, (hO.block _ (Array.getElem?_eq_some_iff.1 h.bn).1 (by omega)).trans h.bn, (hO.block _ (Array.getElem?_eq_some_iff.1 h.br).1 (by omega)).trans h.br⟩
theorem OneM.done (h : OneM X B p n0 gx vs vf kd st vk q w wr vs' vf') (hB : B ≤ w.heap.size) (hn : w.heap.size ≤ n0) (hp : p < n0) {e : BM.Edge} (hP : PartM B p vs' vf' e o1 o2 wr) :
    BPost X B p vs vf w (e, q) (.returned (.agg #[.bool e.null, o1, o2])) (((wr.setCell ⟨n0 + 1 + 1, 0, none⟩ (.bool e.null)).setCell ⟨n0 + 1 + 1, 1, none⟩ o1).setCell ⟨n0 + 1 + 1, 2, none⟩ o2) := by
  have hO := own_set3 (n0 + 1 + 1) wr (.bool e.null) o1 o2
  exact ⟨o1, o2, vs', vf', rfl, AutoM.less (AutoM.own h.auto h.br (by omega) (by decide) (.inr (.inl ⟨by omega, by omega⟩)) hO) (fun k hk => .inl hk), Stp.own hB h.stp (by omega) hO, R_own hP.1 h.br (by decide) hO, R_own hP.2 h.br (by decide) hO⟩
end
theorem own_set1 (g : Nat) (w : World) (i : Nat) (x : Value) : Own g w (w.setCell ⟨g, i, none⟩ x) := ⟨rfl, rfl, rfl, by simp [World.setCell], fun k hk hne => Below.heap_setCell w _ x k hne⟩
set_option maxRecDepth 100000 in
set_option maxHeartbeats 1600000 in
theorem built_one3 (x : S24) (st : Int) (h : BuiltAt x) (X : Nat → Prop) (B p : Nat) (vs vf : Value) (s : St) (A : Option Addr) (c : Nat) (w0 w : World) (h0B : w0.heap.size ≤ B) (hb0 : Below w0.heap.size w0 w) (hr : Kd.C k24 w0 A [x].length [x]) (hc : [x].length ≤ c)
    (hB : B ≤ w.heap.size) (hX : ∀ k, X k → k < w.heap.size) (hA : AutoP X B p vs vf s w) (hs : SOk s) (hk : rightN x = true) (hm : s.sets.length + cntN x ≤ 300) :
    Calls Try.prog 48 #[.pointer (some ⟨p, 0, none⟩), .agg #[.int .i64 3, .int .i64 st, .slice A 1 c]] w (BPost X B p vs vf w (oneL 3 [x] s)) := by
  have HX := Aside0.mk h
  have H0 := Aside0.mk hb0
  have HA := Aside0.mk hA
  have HS := Aside0.mk hs
  have HK := Aside0.mk hk
  have hn0 : p < w.heap.size := hA.lt
  obtain ⟨ad, A2, c2, rfl, f0, f1, f2, l2, g2⟩ := at_T24 hr 0 (by omega) (by simp)
  have hx : rd_T24 [x] 0 = x := rfl
  rw [hx] at f0 f1 f2 l2 g2
  rw [show (0 : Int).toNat * 3 = 0 from rfl, show ad.add 0 = ad by cases ad; simp [Addr.add]] at f0 f1 f2
  have e0 := pw_cell_below hb0 f0
  have e1 := pw_cell_below hb0 f1
  have e2 := pw_cell_below hb0 f2
  have HG := Aside0.mk g2
  have HL2 := Aside0.mk l2
  have HE := Aside0.mk (show oneL 3 [x] s = (⟨(bldN x s).1.null || !((3 : Int) == 4), (bldN x s).1.first, (bldN x s).1.last⟩, ⟨(bldN x s).2.sets, if (3 : Int) = 5 then (bldN x s).2.follow else after (bldN x s).2.follow (bldN x s).1.last (bldN x s).1.first⟩) by rw [oneL])
  have HF0 := Aside0.mk f0
  have HF1 := Aside0.mk f1
  have HF2 := Aside0.mk f2
  have hlen : s.sets.length + cntN x ≤ 300 := hm
  clear h hb0 hr hc hA hs hk f0 f1 f2 l2 g2 hx hm
  go_enter Try.func48, Try.ntmps48
  go_wp2_with fail
  have hb4 : Below w.heap.size w (((w.alloc (Obj.cells #[.pointer (some ⟨p, 0, none⟩)] 71)).alloc (Obj.cells #[.int .i64 3, .int .i64 st, .slice (some ad) 1 c] 24)).alloc (Obj.cells #[.bool false, .slice none 0 0, .slice none 0 0] 69)) := by repeat (first | exact Below.refl _ _ | apply below_alloc)
  have ba : (((w.alloc (Obj.cells #[.pointer (some ⟨p, 0, none⟩)] 71)).alloc (Obj.cells #[.int .i64 3, .int .i64 st, .slice (some ad) 1 c] 24)).alloc (Obj.cells #[.bool false, .slice none 0 0, .slice none 0 0] 69)).heap[w.heap.size]? = some (.cells #[.pointer (some ⟨p, 0, none⟩)] 71 (0, 0)) := by repeat (first | exact blk_new _ _ | refine blk_alloc ?_ _)
  have bn : (((w.alloc (Obj.cells #[.pointer (some ⟨p, 0, none⟩)] 71)).alloc (Obj.cells #[.int .i64 3, .int .i64 st, .slice (some ad) 1 c] 24)).alloc (Obj.cells #[.bool false, .slice none 0 0, .slice none 0 0] 69)).heap[w.heap.size + 1]? = some (.cells #[.int .i64 3, .int .i64 st, .slice (some ad) 1 c] 24 (0, 0)) := blk_alloc (by simpa using blk_new (w.alloc (Obj.cells #[.pointer (some ⟨p, 0, none⟩)] 71)) (Obj.cells #[.int .i64 3, .int .i64 st, .slice (some ad) 1 c] 24)) _
  have br : (((w.alloc (Obj.cells #[.pointer (some ⟨p, 0, none⟩)] 71)).alloc (Obj.cells #[.int .i64 3, .int .i64 st, .slice (some ad) 1 c] 24)).alloc (Obj.cells #[.bool false, .slice none 0 0, .slice none 0 0] 69)).heap[w.heap.size + 1 + 1]? = some (.cells #[.bool false, .slice none 0 0, .slice none 0 0] 69 (0, 0)) := by simpa using blk_new ((w.alloc (Obj.cells #[.pointer (some ⟨p, 0, none⟩)] 71)).alloc (Obj.cells #[.int .i64 3, .int .i64 st, .slice (some ad) 1 c] 24)) (Obj.cells #[.bool false, .slice none 0 0, .slice none 0 0] 69)
  have hsz : (((w.alloc (Obj.cells #[.pointer (some ⟨p, 0, none⟩)] 71)).alloc (Obj.cells #[.int .i64 3, .int .i64 st, .slice (some ad) 1 c] 24)).alloc (Obj.cells #[.bool false, .slice none 0 0, .slice none 0 0] 69)).heap.size = w.heap.size + 3 := by simp
  generalize (((w.alloc (Obj.cells #[.pointer (some ⟨p, 0, none⟩)] 71)).alloc (Obj.cells #[.int .i64 3, .int .i64 st, .slice (some ad) 1 c] 24)).alloc (Obj.cells #[.bool false, .slice none 0 0, .slice none 0 0] 69)) = W at hb4 ba bn br hsz ⊢
  have HB0 := Aside0.mk (below_drew hb4)
  have HB1 := Aside0.mk (show Below w0.heap.size w0 W.drew from below_stp H0.out h0B ((below_drew hb4).mono hB))
  have HBA := Aside0.mk (show W.drew.heap[w.heap.size]? = _ from ba)
  have HBN := Aside0.mk (show W.drew.heap[w.heap.size + 1]? = _ from bn)
  have HBR := Aside0.mk (show W.drew.heap[w.heap.size + 1 + 1]? = _ from br)
  have HSZ := Aside0.mk (show W.drew.heap.size = w.heap.size + 3 from hsz)
  clear hb4 ba bn br hsz e0 e1 e2
  have HT : Aside0 (∀ (l : Array Bool) (w' : World), w'.heap[w.heap.size]? = some (.cells #[.pointer (some ⟨p, 0, none⟩)] 71 (0, 0)) → w'.heap[w.heap.size + 1]? = some (.cells #[.int .i64 3, .int .i64 st, .slice (some ad) 1 c] 24 (0, 0)) → Below w0.heap.size w0 w' → Till [(some 7, (fun w' : World => w'.cell? ⟨w.heap.size, 0, none⟩ = some (.pointer (some ⟨p, 0, none⟩)) ∧ w'.cell? ⟨w.heap.size + 1, 2, none⟩ = some (.slice (some ad) 1 c) ∧ w'.cell? ad = some (.int .i64 x.f0) ∧ w'.cell? ⟨ad.block, ad.off + 1, none⟩ = some (.int .i64 x.f1) ∧ w'.cell? ⟨ad.block, ad.off + 2, none⟩ = some (.slice A2 x.f2.length c2)))] l w') := ⟨fun l w' h1 h2 h3 =>
    Till.live ⟨(blk_cell h1 0).trans rfl, (blk_cell h2 2).trans rfl, pw_cell_below h3 HF0.out, pw_cell_below h3 HF1.out, pw_cell_below h3 HF2.out⟩ (Till.nil _ _)⟩
  refine st_ [(some 7, (fun w' : World => w'.cell? ⟨w.heap.size, 0, none⟩ = some (.pointer (some ⟨p, 0, none⟩)) ∧ w'.cell? ⟨w.heap.size + 1, 2, none⟩ = some (.slice (some ad) 1 c) ∧ w'.cell? ad = some (.int .i64 x.f0) ∧ w'.cell? ⟨ad.block, ad.off + 1, none⟩ = some (.int .i64 x.f1) ∧ w'.cell? ⟨ad.block, ad.off + 2, none⟩ = some (.slice A2 x.f2.length c2)))] #[false, false, false, false, false, false, false, false] (by kernel_rfl) rfl rfl (HT.out _ _ HBA.out HBN.out HB1.out) (fun hT => ?_)
  generalize W.drew = wd at HB0 HB1 HBA HBN HBR HSZ hT ⊢
  refine tk_ (i := 0) (N := some 82) (v := ?_) (a' := ?_) (some 7) (fun w' : World => w'.cell? ⟨w.heap.size, 0, none⟩ = some (.pointer (some ⟨p, 0, none⟩)) ∧ w'.cell? ⟨w.heap.size + 1, 2, none⟩ = some (.slice (some ad) 1 c) ∧ w'.cell? ad = some (.int .i64 x.f0) ∧ w'.cell? ⟨ad.block, ad.off + 1, none⟩ = some (.int .i64 x.f1) ∧ w'.cell? ⟨ad.block, ad.off + 2, none⟩ = some (.slice A2 x.f2.length c2)) #[true, false, false, false, false, false, false, false] (List.Mem.head _) rfl rfl (by kernel_rfl) (fun _ _ _ h => h) (Or.inl ⟨by rfl, ?_⟩) hT ?_ (fun hT => ?_)
  rotate_left
  · rintro w' ⟨s0, s1, s2, s3, s4⟩
    go_simp
    with_reducible rfl
  rotate_left
  · simp only [Act.put, List.setIfInBounds_toArray, List.set_cons_zero, List.set_cons_succ, i64_w, i32_w]
    rfl
  refine pr_ (i := 1) (N := some 83) (v := ?_) (a' := ?_) #[true, true, false, false, false, false, false, false] rfl rfl (by kernel_rfl) (fun _ _ _ h => h) (Or.inl ⟨by rfl, ?_⟩) hT ?_ (fun hT => ?_)
  rotate_left
  · intro w'
    go_simp
    with_reducible rfl
  rotate_left
  · simp only [Act.put, List.setIfInBounds_toArray, List.set_cons_zero, List.set_cons_succ, i64_w, i32_w]
    rfl
  refine tk_ (i := 2) (N := some 84) (v := ?_) (a' := ?_) (some 7) (fun w' : World => w'.cell? ⟨w.heap.size, 0, none⟩ = some (.pointer (some ⟨p, 0, none⟩)) ∧ w'.cell? ⟨w.heap.size + 1, 2, none⟩ = some (.slice (some ad) 1 c) ∧ w'.cell? ad = some (.int .i64 x.f0) ∧ w'.cell? ⟨ad.block, ad.off + 1, none⟩ = some (.int .i64 x.f1) ∧ w'.cell? ⟨ad.block, ad.off + 2, none⟩ = some (.slice A2 x.f2.length c2)) #[true, true, true, false, false, false, false, false] (List.Mem.head _) rfl rfl (by kernel_rfl) (fun _ _ _ h => h) (Or.inl ⟨by rfl, ?_⟩) hT ?_ (fun hT => ?_)
  rotate_left
  · rintro w' ⟨s0, s1, s2, s3, s4⟩
    go_simp
    with_reducible rfl
  rotate_left
  · simp only [Act.put, List.setIfInBounds_toArray, List.set_cons_zero, List.set_cons_succ, i64_w, i32_w]
    rfl
  refine pr_ (i := 3) (N := some 85) (v := ?_) (a' := ?_) #[true, true, true, true, false, false, false, false] rfl rfl (by kernel_rfl) (fun _ _ _ h => h) (Or.inl ⟨by rfl, ?_⟩) hT ?_ (fun hT => ?_)
  rotate_left
  · intro w'
    go_simp
    with_reducible rfl
  rotate_left
  · simp only [Act.put, List.setIfInBounds_toArray, List.set_cons_zero, List.set_cons_succ, i64_w, i32_w]
    rfl
  refine tk_ (i := 4) (N := some 86) (v := ?_) (a' := ?_) (some 7) (fun w' : World => w'.cell? ⟨w.heap.size, 0, none⟩ = some (.pointer (some ⟨p, 0, none⟩)) ∧ w'.cell? ⟨w.heap.size + 1, 2, none⟩ = some (.slice (some ad) 1 c) ∧ w'.cell? ad = some (.int .i64 x.f0) ∧ w'.cell? ⟨ad.block, ad.off + 1, none⟩ = some (.int .i64 x.f1) ∧ w'.cell? ⟨ad.block, ad.off + 2, none⟩ = some (.slice A2 x.f2.length c2)) #[true, true, true, true, true, false, false, false] (List.Mem.head _) rfl rfl (by kernel_rfl) (fun _ _ _ h => h) (Or.inl ⟨by rfl, ?_⟩) hT ?_ (fun hT => ?_)
  rotate_left
  · rintro w' ⟨s0, s1, s2, s3, s4⟩
    go_simp
    with_reducible rfl
  rotate_left
  · simp only [Act.put, List.setIfInBounds_toArray, List.set_cons_zero, List.set_cons_succ, i64_w, i32_w]
    rfl
  have HAd := Aside0.mk (AutoM.more HA.out HB0.out (fun k => w.heap.size ≤ k ∧ k ≤ w.heap.size + 2) (fun k hk => hk.1))
  have HSd := Aside0.mk (Stp.of_below (p := p) (vs := vs) (vf := vf) hB HB0.out)
  have hq := bldN_ok x s HK.out HS.out
  have HQ := Aside0.mk hq
  clear hq
  have hwd : w.heap.size + 3 ≤ wd.heap.size := by have := HSZ.out; omega
  refine jn_ (σ := Value × Value × Value × Value × Nat) 1 #[true, true, true, true, true, true, true, false] (fun t => [(87, partV (bldN x s).1.null t.1 t.2.1), (13, .pointer (some ⟨t.2.2.2.2, 0, none⟩))]) (fun t w' => t.2.2.2.2 ≥ w.heap.size + 3 ∧ OneM X B p w.heap.size t.2.2.2.2 vs vf 3 st (.slice (some ad) 1 c) (bldN x s).2 w w' t.2.2.1 t.2.2.2.1 ∧ PartM B p t.2.2.1 t.2.2.2.1 (bldN x s).1 t.1 t.2.1 w' ∧ w'.heap[t.2.2.2.2]? = some (.cells #[.bool false, .slice none 0 0, .slice none 0 0] 69 (0, 0))) ?_ (fun hcont => ?_)
  · rintro ⟨u1, u2, vs2, vf2, gx⟩ w' ⟨hgx, hM, hP, hx⟩
    dsimp only at hgx hM hP hx ⊢
    generalize hqq : bldN x s = q at hM hP HE HQ ⊢
    clear hqq
    obtain ⟨⟨nb, fi, la⟩, qs⟩ := q
    dsimp only at hM hP HE HQ ⊢
    obtain ⟨U1, m1, rfl⟩ := Kd.R_slice hP.1
    obtain ⟨U2, m2, rfl⟩ := Kd.R_slice hP.2
    dsimp only at hP
    have HM := Aside0.mk hM
    have HP := Aside0.mk hP
    have HXB := Aside0.mk hx
    clear hM hP
    have hT : Till [(some 7, (fun w' : World => w'.cell? ⟨w.heap.size, 0, none⟩ = some (.pointer (some ⟨p, 0, none⟩)) ∧ w'.cell? ⟨w.heap.size + 1, 2, none⟩ = some (.slice (some ad) 1 c) ∧ w'.cell? ad = some (.int .i64 x.f0) ∧ w'.cell? ⟨ad.block, ad.off + 1, none⟩ = some (.int .i64 x.f1) ∧ w'.cell? ⟨ad.block, ad.off + 2, none⟩ = some (.slice A2 x.f2.length c2)))] #[true, true, true, true, true, true, true, false] w' := (HT.out _ _ HM.out.ba HM.out.bn (below_stp H0.out h0B HM.out.stp.below))
    refine nm_ (a' := ?_) ?_ ?_
    rotate_left
    · simp only [putAll, Act.put, List.setIfInBounds_toArray, List.set_cons_zero, List.set_cons_succ]
      rfl
    have h0 : w'.cell? ⟨gx, 0, none⟩ = some (.bool false) := (blk_cell hx 0).trans rfl
    have h1 : w'.cell? ⟨gx, 1, none⟩ = some (.slice none 0 0) := (blk_cell hx 1).trans rfl
    have h2 : w'.cell? ⟨gx, 2, none⟩ = some (.slice none 0 0) := (blk_cell hx 2).trans rfl
    have hfr : ∀ i, w'.frozen? ⟨gx, i, none⟩ = false := fun i => blk_frozen hx i
    clear hx
    unfold partV
    have HM1 := Aside0.mk (HM.out.own hB (Nat.le_refl _) hn0 hgx HXB.out (own_set3 gx w' (.bool nb) (.slice U1 fi.length m1) (.slice U2 la.length m2)))
    have HP1 := Aside0.mk (show PartM B p vs2 vf2 ⟨nb, fi, la⟩ (.slice U1 fi.length m1) (.slice U2 la.length m2) (((w'.setCell ⟨gx, 0, none⟩ (.bool nb)).setCell ⟨gx, 1, none⟩ (.slice U1 fi.length m1)).setCell ⟨gx, 2, none⟩ (.slice U2 la.length m2)) from ⟨R_own HP.out.1 HXB.out (by decide) (own_set3 gx w' _ _ _), R_own HP.out.2 HXB.out (by decide) (own_set3 gx w' _ _ _)⟩)
    have HX1 := Aside0.mk (show (((w'.setCell ⟨gx, 0, none⟩ (.bool nb)).setCell ⟨gx, 1, none⟩ (.slice U1 fi.length m1)).setCell ⟨gx, 2, none⟩ (.slice U2 la.length m2)).heap[gx]? = some (.cells #[.bool nb, .slice U1 fi.length m1, .slice U2 la.length m2] 69 (0, 0)) from set3 HXB.out)
    refine on_ (i := 7) (N := none) #[true, true, true, true, true, true, true, true] rfl rfl (by kernel_rfl) (fun K hK => ?_)
    refine skip_ (w1 := (((w'.setCell ⟨gx, 0, none⟩ (.bool nb)).setCell ⟨gx, 1, none⟩ (.slice U1 fi.length m1)).setCell ⟨gx, 2, none⟩ (.slice U2 la.length m2))) (by rfl) rfl ?_ ?_
    · go_simp
    refine hK.out _ _ (Till.dead rfl (Till.nil _ _)) (fun hT => ?_)
    clear hK K h0 h1 h2 hfr hT
    refine dn_ (by kernel_rfl) ?_ _
    generalize (((w'.setCell ⟨gx, 0, none⟩ (.bool nb)).setCell ⟨gx, 1, none⟩ (.slice U1 fi.length m1)).setCell ⟨gx, 2, none⟩ (.slice U2 la.length m2)) = w1 at HM1 HP1 HX1 ⊢
    have ca : w1.cell? ⟨w.heap.size, 0, none⟩ = some (.pointer (some ⟨p, 0, none⟩)) := (blk_cell HM1.out.ba 0).trans rfl
    have cn : w1.cell? ⟨w.heap.size + 1, 0, none⟩ = some (.int .i64 3) := (blk_cell HM1.out.bn 0).trans rfl
    have c0 : w1.cell? ⟨gx, 0, none⟩ = some (.bool nb) := (blk_cell HX1.out 0).trans rfl
    have c1 : w1.cell? ⟨gx, 1, none⟩ = some (.slice U1 fi.length m1) := (blk_cell HX1.out 1).trans rfl
    have c2 : w1.cell? ⟨gx, 2, none⟩ = some (.slice U2 la.length m2) := (blk_cell HX1.out 2).trans rfl
    have cr0 : w1.cell? ⟨w.heap.size + 1 + 1, 0, none⟩ = some (.bool false) := (blk_cell HM1.out.br 0).trans rfl
    have cr1 : w1.cell? ⟨w.heap.size + 1 + 1, 1, none⟩ = some (.slice none 0 0) := (blk_cell HM1.out.br 1).trans rfl
    have cr2 : w1.cell? ⟨w.heap.size + 1 + 1, 2, none⟩ = some (.slice none 0 0) := (blk_cell HM1.out.br 2).trans rfl
    have cf : ∀ i, w1.frozen? ⟨gx, i, none⟩ = false := fun i => blk_frozen HX1.out i
    have cg : ∀ i, w1.frozen? ⟨w.heap.size + 1 + 1, i, none⟩ = false := fun i => blk_frozen HM1.out.br i
    have hne1 : ¬ gx = w.heap.size + 1 + 1 := by omega
    have hne2 : ¬ w.heap.size + 1 + 1 = gx := by omega
    go_wp2_with fail
    have hqs : qs.sets.length ≤ 300 := by have := HQ.out.2.2; dsimp only at this; omega
    have hw1 : wd.heap.size ≤ w1.heap.size ∨ True := .inr trivial
    refine (note_calls (XO X w.heap.size gx) B p w.heap.size vs2 vf2 _ _ qs la fi w1 HM1.out.base (fun k hk => by have h1 := (Array.getElem?_eq_some_iff.1 HM1.out.br).1; have h2 := (Array.getElem?_eq_some_iff.1 HX1.out).1; rcases hk with hk | hk | hk; (have := hX k hk; omega); omega; omega) HM1.out.auto HQ.out.1 hqs HM1.out.ba (by omega) HP1.out.2 (by have := HQ.out.2.1.last; rw [← HQ.out.2.2] at this; exact this) HP1.out.1 (by have := HQ.out.2.1.first; rw [← HQ.out.2.2] at this; exact this)).mono ?_
    rintro e w2 ⟨rfl, hA2, hS2⟩
    have HX2 := Aside0.mk (hS2.blk (HM1.out.auto.away HX1.out (by omega) (by decide) (by decide)) HX1.out)
    have HM2 := Aside0.mk (HM1.out.step hn0 hA2 hS2)
    have HP2 := Aside0.mk (show PartM B p vs2 vf2 ⟨nb, fi, la⟩ (.slice U1 fi.length m1) (.slice U2 la.length m2) w2 from ⟨hS2.row HP1.out.1, hS2.row HP1.out.2⟩)
    clear hA2 hS2 hw1
    clear ca cn c0 c1 c2 cr0 cr1 cr2 cf cg
    have ca : w2.cell? ⟨w.heap.size, 0, none⟩ = some (.pointer (some ⟨p, 0, none⟩)) := (blk_cell HM2.out.ba 0).trans rfl
    have cn : w2.cell? ⟨w.heap.size + 1, 0, none⟩ = some (.int .i64 3) := (blk_cell HM2.out.bn 0).trans rfl
    have c0 : w2.cell? ⟨gx, 0, none⟩ = some (.bool nb) := (blk_cell HX2.out 0).trans rfl
    have c1 : w2.cell? ⟨gx, 1, none⟩ = some (.slice U1 fi.length m1) := (blk_cell HX2.out 1).trans rfl
    have c2 : w2.cell? ⟨gx, 2, none⟩ = some (.slice U2 la.length m2) := (blk_cell HX2.out 2).trans rfl
    have cr0 : w2.cell? ⟨w.heap.size + 1 + 1, 0, none⟩ = some (.bool false) := (blk_cell HM2.out.br 0).trans rfl
    have cr1 : w2.cell? ⟨w.heap.size + 1 + 1, 1, none⟩ = some (.slice none 0 0) := (blk_cell HM2.out.br 1).trans rfl
    have cr2 : w2.cell? ⟨w.heap.size + 1 + 1, 2, none⟩ = some (.slice none 0 0) := (blk_cell HM2.out.br 2).trans rfl
    have cf : ∀ i, w2.frozen? ⟨gx, i, none⟩ = false := fun i => blk_frozen HX2.out i
    have cg : ∀ i, w2.frozen? ⟨w.heap.size + 1 + 1, i, none⟩ = false := fun i => blk_frozen HM2.out.br i
    cases nb
    · skip
      go_wp2_with fail
      refine bodyPost_ret (results_c1 (P := Try.prog) rfl _ _ (w.heap.size + 1 + 1) 69 #[.bool true, .slice U1 fi.length m1, .slice U2 la.length m2] (0, 0) _ rfl ?_ Try.underlying69 rfl (by kernel_rfl)) rfl ?_
      · exact set3 (blk_far HM2.out.br (by show w.heap.size + 1 + 1 ≠ gx; omega) _)
      · rw [HE.out]; exact (HM2.out.own hB (Nat.le_refl _) hn0 hgx HX2.out (own_set1 gx w2 0 (.bool true))).done hB (Nat.le_refl _) hn0 (e := ⟨true, fi, la⟩) ⟨R_own HP2.out.1 HX2.out (by decide) (own_set1 gx w2 0 _), R_own HP2.out.2 HX2.out (by decide) (own_set1 gx w2 0 _)⟩
    · skip
      go_wp2_with fail
      refine bodyPost_ret (results_c1 (P := Try.prog) rfl _ _ (w.heap.size + 1 + 1) 69 #[.bool true, .slice U1 fi.length m1, .slice U2 la.length m2] (0, 0) _ rfl ?_ Try.underlying69 rfl (by kernel_rfl)) rfl ?_
      · exact set3 (blk_far HM2.out.br (by show w.heap.size + 1 + 1 ≠ gx; omega) _)
      · rw [HE.out]; exact (HM2.out.own hB (Nat.le_refl _) hn0 hgx HX2.out (own_set1 gx w2 0 (.bool true))).done hB (Nat.le_refl _) hn0 (e := ⟨true, fi, la⟩) ⟨R_own HP2.out.1 HX2.out (by decide) (own_set1 gx w2 0 _), R_own HP2.out.2 HX2.out (by decide) (own_set1 gx w2 0 _)⟩
  · skip
    refine tw_ (i := 5) (j := 6) (Ni := some 87) (Nj := some 13) #[true, true, true, true, true, true, false, false] #[true, true, true, true, true, false, true, false] rfl rfl rfl rfl (by kernel_rfl) (fun K hK => ?_) (fun K hK => ?_)
    · skip
      refine goes_ Try.func48 (by kernel_rfl) rfl #[.pointer (some ⟨p, 0, none⟩), nodeV x A2 c2] (by kernel_rfl) rfl rfl (by simp only [List.map_toArray, List.map_cons, List.map_nil]; rfl) ?_
      refine (HX.out (fun k => X k ∨ w.heap.size ≤ k ∧ k ≤ w.heap.size + 2) B p vs vf s A2 c2 w0 wd h0B HB1.out HG.out HL2.out HAd.out.rows.base (fun k hk => by rcases hk with hk | hk; (have := hX k hk; omega); omega) HAd.out HS.out HK.out hlen).mono ?_
      rintro e w1 ⟨u1, u2, vs2, vf2, rfl, hA1, hS1, hP1⟩
      refine ⟨_, rfl, ?_⟩
      have b1 := hS1.blk (HAd.out.away HBA.out (by omega) (by decide) (by decide)) HBA.out
      have b2 := hS1.blk (HAd.out.away HBN.out (by omega) (by decide) (by decide)) HBN.out
      have b3 := hS1.blk (HAd.out.away HBR.out (by omega) (by decide) (by decide)) HBR.out
      refine hK.out _ _ (HT.out _ _ b1 b2 (below_stp HB1.out h0B hS1.below)) (fun hT => ?_)
      clear hK K
      refine nm_ (a' := ?_) ?_ ?_
      rotate_left
      · show Act.put _ (some 87) _ = _
        simp only [Act.put, List.setIfInBounds_toArray, List.set_cons_zero, List.set_cons_succ, i64_w, i32_w]
        rfl
      have hs1 := hS1.below.size
      have hbz := below_alloc (Below.refl w1.heap.size w1) (.cells #[.bool false, .slice none 0 0, .slice none 0 0] 69)
      refine on_ (i := 6) (N := some 13) #[true, true, true, true, true, true, true, false] rfl rfl (by kernel_rfl) (fun K hK => ?_)
      refine val_ (v := .pointer (some ⟨w1.heap.size, 0, none⟩)) (w1 := w1.alloc (.cells #[.bool false, .slice none 0 0, .slice none 0 0] 69)) (by rfl) rfl ?_ ?_
      · go_simp
      refine hK.out _ _ (HT.out _ _ (blk_alloc b1 _) (blk_alloc b2 _) ((below_stp HB1.out h0B hS1.below).trans (hbz.mono (by have := HB1.out.size; omega)))) (fun hT => ?_)
      exact hcont (u1, u2, vs2, vf2, w1.heap.size) _ ⟨by show w1.heap.size ≥ w.heap.size + 3; omega, ⟨AutoM.less (AutoM.more hA1 hbz (fun k => k = w1.heap.size) (fun k hk => by omega)) (fun k hk => by rcases hk with hk | hk | hk; exact .inl (.inl hk); exact .inl (.inr hk); exact .inr hk), (HSd.out.trans hS1).trans (Stp.of_below hA1.rows.base hbz), blk_alloc b1 _, blk_alloc b2 _, blk_alloc b3 _⟩, ⟨Kd.R_below hP1.1 hbz, Kd.R_below hP1.2 hbz⟩, blk_new _ _⟩
    · skip
      have hbz := below_alloc (Below.refl wd.heap.size wd) (.cells #[.bool false, .slice none 0 0, .slice none 0 0] 69)
      have hb1' := HB1.out.trans (hbz.mono (by have := HB1.out.size; omega))
      refine val_ (v := .pointer (some ⟨wd.heap.size, 0, none⟩)) (w1 := wd.alloc (.cells #[.bool false, .slice none 0 0, .slice none 0 0] 69)) (by rfl) rfl ?_ ?_
      · go_simp
      refine hK.out _ _ (HT.out _ _ (blk_alloc HBA.out _) (blk_alloc HBN.out _) hb1') (fun hT => ?_)
      clear hK K
      have HAx := Aside0.mk (show AutoP (XO X w.heap.size wd.heap.size) B p vs vf s (wd.alloc (.cells #[.bool false, .slice none 0 0, .slice none 0 0] 69)) from AutoM.less (AutoM.more HAd.out hbz (fun k => k = wd.heap.size) (fun k hk => by omega)) (fun k hk => by rcases hk with hk | hk | hk; exact .inl (.inl hk); exact .inl (.inr hk); exact .inr hk))
      have HBx := Aside0.mk hb1'
      have HSx := Aside0.mk (HSd.out.trans (Stp.of_below HAd.out.rows.base hbz))
      have BX := Aside0.mk (blk_new wd (.cells #[.bool false, .slice none 0 0, .slice none 0 0] 69))
      have B1 := Aside0.mk (blk_alloc HBA.out (.cells #[.bool false, .slice none 0 0, .slice none 0 0] 69))
      have B2 := Aside0.mk (blk_alloc HBN.out (.cells #[.bool false, .slice none 0 0, .slice none 0 0] 69))
      have B3 := Aside0.mk (blk_alloc HBR.out (.cells #[.bool false, .slice none 0 0, .slice none 0 0] 69))
      have hzx : (wd.alloc (.cells #[.bool false, .slice none 0 0, .slice none 0 0] 69)).heap.size = wd.heap.size + 1 := by simp
      clear hb1' hbz
      generalize wd.alloc (.cells #[.bool false, .slice none 0 0, .slice none 0 0] 69) = wx at HAx HBx HSx BX B1 B2 B3 hzx hT ⊢
      refine nm_ (a' := ?_) ?_ ?_
      rotate_left
      · show Act.put _ (some 13) _ = _
        simp only [Act.put, List.setIfInBounds_toArray, List.set_cons_zero, List.set_cons_succ, i64_w, i32_w]
        rfl
      refine on_ (i := 5) (N := some 87) #[true, true, true, true, true, true, true, false] rfl rfl (by kernel_rfl) (fun K hK => ?_)
      refine goes_ Try.func48 (by kernel_rfl) rfl #[.pointer (some ⟨p, 0, none⟩), nodeV x A2 c2] (by kernel_rfl) rfl rfl (by simp only [List.map_toArray, List.map_cons, List.map_nil]; rfl) ?_
      refine (HX.out (XO X w.heap.size wd.heap.size) B p vs vf s A2 c2 w0 wx h0B HBx.out HG.out HL2.out HAx.out.rows.base (fun k hk => by rcases hk with hk | hk | hk; (have := hX k hk; omega); omega; omega) HAx.out HS.out HK.out hlen).mono ?_
      rintro e w1 ⟨u1, u2, vs2, vf2, rfl, hA1, hS1, hP1⟩
      refine ⟨_, rfl, ?_⟩
      have b0 := hS1.blk (HAx.out.away BX.out (by omega) (by decide) (by decide)) BX.out
      have b1 := hS1.blk (HAx.out.away B1.out (by omega) (by decide) (by decide)) B1.out
      have b2 := hS1.blk (HAx.out.away B2.out (by omega) (by decide) (by decide)) B2.out
      have b3 := hS1.blk (HAx.out.away B3.out (by omega) (by decide) (by decide)) B3.out
      refine hK.out _ _ (HT.out _ _ b1 b2 (below_stp HBx.out h0B hS1.below)) (fun hT => ?_)
      exact hcont (u1, u2, vs2, vf2, wd.heap.size) _ ⟨by show wd.heap.size ≥ w.heap.size + 3; omega, ⟨hA1, HSx.out.trans hS1, b1, b2, b3⟩, hP1, b0⟩
set_option maxRecDepth 100000 in
set_option maxHeartbeats 1600000 in
theorem built_one4 (x : S24) (st : Int) (h : BuiltAt x) (X : Nat → Prop) (B p : Nat) (vs vf : Value) (s : St) (A : Option Addr) (c : Nat) (w0 w : World) (h0B : w0.heap.size ≤ B) (hb0 : Below w0.heap.size w0 w) (hr : Kd.C k24 w0 A [x].length [x]) (hc : [x].length ≤ c)
    (hB : B ≤ w.heap.size) (hX : ∀ k, X k → k < w.heap.size) (hA : AutoP X B p vs vf s w) (hs : SOk s) (hk : rightN x = true) (hm : s.sets.length + cntN x ≤ 300) :
    Calls Try.prog 48 #[.pointer (some ⟨p, 0, none⟩), .agg #[.int .i64 4, .int .i64 st, .slice A 1 c]] w (BPost X B p vs vf w (oneL 4 [x] s)) := by
  have HX := Aside0.mk h
  have H0 := Aside0.mk hb0
  have HA := Aside0.mk hA
  have HS := Aside0.mk hs
  have HK := Aside0.mk hk
  have hn0 : p < w.heap.size := hA.lt
  obtain ⟨ad, A2, c2, rfl, f0, f1, f2, l2, g2⟩ := at_T24 hr 0 (by omega) (by simp)
  have hx : rd_T24 [x] 0 = x := rfl
  rw [hx] at f0 f1 f2 l2 g2
  rw [show (0 : Int).toNat * 3 = 0 from rfl, show ad.add 0 = ad by cases ad; simp [Addr.add]] at f0 f1 f2
  have e0 := pw_cell_below hb0 f0
  have e1 := pw_cell_below hb0 f1
  have e2 := pw_cell_below hb0 f2
  have HG := Aside0.mk g2
  have HL2 := Aside0.mk l2
  have HE := Aside0.mk (show oneL 4 [x] s = (⟨(bldN x s).1.null || !((4 : Int) == 4), (bldN x s).1.first, (bldN x s).1.last⟩, ⟨(bldN x s).2.sets, if (4 : Int) = 5 then (bldN x s).2.follow else after (bldN x s).2.follow (bldN x s).1.last (bldN x s).1.first⟩) by rw [oneL])
  have HF0 := Aside0.mk f0
  have HF1 := Aside0.mk f1
  have HF2 := Aside0.mk f2
  have hlen : s.sets.length + cntN x ≤ 300 := hm
  clear h hb0 hr hc hA hs hk f0 f1 f2 l2 g2 hx hm
  go_enter Try.func48, Try.ntmps48
  go_wp2_with fail
  have hb4 : Below w.heap.size w (((w.alloc (Obj.cells #[.pointer (some ⟨p, 0, none⟩)] 71)).alloc (Obj.cells #[.int .i64 4, .int .i64 st, .slice (some ad) 1 c] 24)).alloc (Obj.cells #[.bool false, .slice none 0 0, .slice none 0 0] 69)) := by repeat (first | exact Below.refl _ _ | apply below_alloc)
  have ba : (((w.alloc (Obj.cells #[.pointer (some ⟨p, 0, none⟩)] 71)).alloc (Obj.cells #[.int .i64 4, .int .i64 st, .slice (some ad) 1 c] 24)).alloc (Obj.cells #[.bool false, .slice none 0 0, .slice none 0 0] 69)).heap[w.heap.size]? = some (.cells #[.pointer (some ⟨p, 0, none⟩)] 71 (0, 0)) := by repeat (first | exact blk_new _ _ | refine blk_alloc ?_ _)
  have bn : (((w.alloc (Obj.cells #[.pointer (some ⟨p, 0, none⟩)] 71)).alloc (Obj.cells #[.int .i64 4, .int .i64 st, .slice (some ad) 1 c] 24)).alloc (Obj.cells #[.bool false, .slice none 0 0, .slice none 0 0] 69)).heap[w.heap.size + 1]? = some (.cells #[.int .i64 4, .int .i64 st, .slice (some ad) 1 c] 24 (0, 0)) := blk_alloc (by simpa using blk_new (w.alloc (Obj.cells #[.pointer (some ⟨p, 0, none⟩)] 71)) (Obj.cells #[.int .i64 4, .int .i64 st, .slice (some ad) 1 c] 24)) _
  have br : (((w.alloc (Obj.cells #[.pointer (some ⟨p, 0, none⟩)] 71)).alloc (Obj.cells #[.int .i64 4, .int .i64 st, .slice (some ad) 1 c] 24)).alloc (Obj.cells #[.bool false, .slice none 0 0, .slice none 0 0] 69)).heap[w.heap.size + 1 + 1]? = some (.cells #[.bool false, .slice none 0 0, .slice none 0 0] 69 (0, 0)) := by simpa using blk_new ((w.alloc (Obj.cells #[.pointer (some ⟨p, 0, none⟩)] 71)).alloc (Obj.cells #[.int .i64 4, .int .i64 st, .slice (some ad) 1 c] 24)) (Obj.cells #[.bool false, .slice none 0 0, .slice none 0 0] 69)
  have hsz : (((w.alloc (Obj.cells #[.pointer (some ⟨p, 0, none⟩)] 71)).alloc (Obj.cells #[.int .i64 4, .int .i64 st, .slice (some ad) 1 c] 24)).alloc (Obj.cells #[.bool false, .slice none 0 0, .slice none 0 0] 69)).heap.size = w.heap.size + 3 := by simp
  generalize (((w.alloc (Obj.cells #[.pointer (some ⟨p, 0, none⟩)] 71)).alloc (Obj.cells #[.int .i64 4, .int .i64 st, .slice (some ad) 1 c] 24)).alloc (Obj.cells #[.bool false, .slice none 0 0, .slice none 0 0] 69)) = W at hb4 ba bn br hsz ⊢
  have HB0 := Aside0.mk (below_drew hb4)
  have HB1 := Aside0.mk (show Below w0.heap.size w0 W.drew from below_stp H0.out h0B ((below_drew hb4).mono hB))
  have HBA := Aside0.mk (show W.drew.heap[w.heap.size]? = _ from ba)
  have HBN := Aside0.mk (show W.drew.heap[w.heap.size + 1]? = _ from bn)
  have HBR := Aside0.mk (show W.drew.heap[w.heap.size + 1 + 1]? = _ from br)
  have HSZ := Aside0.mk (show W.drew.heap.size = w.heap.size + 3 from hsz)
  clear hb4 ba bn br hsz e0 e1 e2
  have HT : Aside0 (∀ (l : Array Bool) (w' : World), w'.heap[w.heap.size]? = some (.cells #[.pointer (some ⟨p, 0, none⟩)] 71 (0, 0)) → w'.heap[w.heap.size + 1]? = some (.cells #[.int .i64 4, .int .i64 st, .slice (some ad) 1 c] 24 (0, 0)) → Below w0.heap.size w0 w' → Till [(some 7, (fun w' : World => w'.cell? ⟨w.heap.size, 0, none⟩ = some (.pointer (some ⟨p, 0, none⟩)) ∧ w'.cell? ⟨w.heap.size + 1, 2, none⟩ = some (.slice (some ad) 1 c) ∧ w'.cell? ad = some (.int .i64 x.f0) ∧ w'.cell? ⟨ad.block, ad.off + 1, none⟩ = some (.int .i64 x.f1) ∧ w'.cell? ⟨ad.block, ad.off + 2, none⟩ = some (.slice A2 x.f2.length c2)))] l w') := ⟨fun l w' h1 h2 h3 =>
    Till.live ⟨(blk_cell h1 0).trans rfl, (blk_cell h2 2).trans rfl, pw_cell_below h3 HF0.out, pw_cell_below h3 HF1.out, pw_cell_below h3 HF2.out⟩ (Till.nil _ _)⟩
  refine st_ [(some 7, (fun w' : World => w'.cell? ⟨w.heap.size, 0, none⟩ = some (.pointer (some ⟨p, 0, none⟩)) ∧ w'.cell? ⟨w.heap.size + 1, 2, none⟩ = some (.slice (some ad) 1 c) ∧ w'.cell? ad = some (.int .i64 x.f0) ∧ w'.cell? ⟨ad.block, ad.off + 1, none⟩ = some (.int .i64 x.f1) ∧ w'.cell? ⟨ad.block, ad.off + 2, none⟩ = some (.slice A2 x.f2.length c2)))] #[false, false, false, false, false, false, false, false] (by kernel_rfl) rfl rfl (HT.out _ _ HBA.out HBN.out HB1.out) (fun hT => ?_)
  generalize W.drew = wd at HB0 HB1 HBA HBN HBR HSZ hT ⊢
  refine tk_ (i := 0) (N := some 82) (v := ?_) (a' := ?_) (some 7) (fun w' : World => w'.cell? ⟨w.heap.size, 0, none⟩ = some (.pointer (some ⟨p, 0, none⟩)) ∧ w'.cell? ⟨w.heap.size + 1, 2, none⟩ = some (.slice (some ad) 1 c) ∧ w'.cell? ad = some (.int .i64 x.f0) ∧ w'.cell? ⟨ad.block, ad.off + 1, none⟩ = some (.int .i64 x.f1) ∧ w'.cell? ⟨ad.block, ad.off + 2, none⟩ = some (.slice A2 x.f2.length c2)) #[true, false, false, false, false, false, false, false] (List.Mem.head _) rfl rfl (by kernel_rfl) (fun _ _ _ h => h) (Or.inl ⟨by rfl, ?_⟩) hT ?_ (fun hT => ?_)
  rotate_left
  · rintro w' ⟨s0, s1, s2, s3, s4⟩
    go_simp
    with_reducible rfl
  rotate_left
  · simp only [Act.put, List.setIfInBounds_toArray, List.set_cons_zero, List.set_cons_succ, i64_w, i32_w]
    rfl
  refine pr_ (i := 1) (N := some 83) (v := ?_) (a' := ?_) #[true, true, false, false, false, false, false, false] rfl rfl (by kernel_rfl) (fun _ _ _ h => h) (Or.inl ⟨by rfl, ?_⟩) hT ?_ (fun hT => ?_)
  rotate_left
  · intro w'
    go_simp
    with_reducible rfl
  rotate_left
  · simp only [Act.put, List.setIfInBounds_toArray, List.set_cons_zero, List.set_cons_succ, i64_w, i32_w]
    rfl
  refine tk_ (i := 2) (N := some 84) (v := ?_) (a' := ?_) (some 7) (fun w' : World => w'.cell? ⟨w.heap.size, 0, none⟩ = some (.pointer (some ⟨p, 0, none⟩)) ∧ w'.cell? ⟨w.heap.size + 1, 2, none⟩ = some (.slice (some ad) 1 c) ∧ w'.cell? ad = some (.int .i64 x.f0) ∧ w'.cell? ⟨ad.block, ad.off + 1, none⟩ = some (.int .i64 x.f1) ∧ w'.cell? ⟨ad.block, ad.off + 2, none⟩ = some (.slice A2 x.f2.length c2)) #[true, true, true, false, false, false, false, false] (List.Mem.head _) rfl rfl (by kernel_rfl) (fun _ _ _ h => h) (Or.inl ⟨by rfl, ?_⟩) hT ?_ (fun hT => ?_)
  rotate_left
  · rintro w' ⟨s0, s1, s2, s3, s4⟩
    go_simp
    with_reducible rfl
  rotate_left
  · simp only [Act.put, List.setIfInBounds_toArray, List.set_cons_zero, List.set_cons_succ, i64_w, i32_w]
    rfl
  refine pr_ (i := 3) (N := some 85) (v := ?_) (a' := ?_) #[true, true, true, true, false, false, false, false] rfl rfl (by kernel_rfl) (fun _ _ _ h => h) (Or.inl ⟨by rfl, ?_⟩) hT ?_ (fun hT => ?_)
  rotate_left
  · intro w'
    go_simp
    with_reducible rfl
  rotate_left
  · simp only [Act.put, List.setIfInBounds_toArray, List.set_cons_zero, List.set_cons_succ, i64_w, i32_w]
    rfl
  refine tk_ (i := 4) (N := some 86) (v := ?_) (a' := ?_) (some 7) (fun w' : World => w'.cell? ⟨w.heap.size, 0, none⟩ = some (.pointer (some ⟨p, 0, none⟩)) ∧ w'.cell? ⟨w.heap.size + 1, 2, none⟩ = some (.slice (some ad) 1 c) ∧ w'.cell? ad = some (.int .i64 x.f0) ∧ w'.cell? ⟨ad.block, ad.off + 1, none⟩ = some (.int .i64 x.f1) ∧ w'.cell? ⟨ad.block, ad.off + 2, none⟩ = some (.slice A2 x.f2.length c2)) #[true, true, true, true, true, false, false, false] (List.Mem.head _) rfl rfl (by kernel_rfl) (fun _ _ _ h => h) (Or.inl ⟨by rfl, ?_⟩) hT ?_ (fun hT => ?_)
  rotate_left
  · rintro w' ⟨s0, s1, s2, s3, s4⟩
    go_simp
    with_reducible rfl
  rotate_left
  · simp only [Act.put, List.setIfInBounds_toArray, List.set_cons_zero, List.set_cons_succ, i64_w, i32_w]
    rfl
  have HAd := Aside0.mk (AutoM.more HA.out HB0.out (fun k => w.heap.size ≤ k ∧ k ≤ w.heap.size + 2) (fun k hk => hk.1))
  have HSd := Aside0.mk (Stp.of_below (p := p) (vs := vs) (vf := vf) hB HB0.out)
  have hq := bldN_ok x s HK.out HS.out
  have HQ := Aside0.mk hq
  clear hq
  have hwd : w.heap.size + 3 ≤ wd.heap.size := by have := HSZ.out; omega
  refine jn_ (σ := Value × Value × Value × Value × Nat) 1 #[true, true, true, true, true, true, true, false] (fun t => [(87, partV (bldN x s).1.null t.1 t.2.1), (13, .pointer (some ⟨t.2.2.2.2, 0, none⟩))]) (fun t w' => t.2.2.2.2 ≥ w.heap.size + 3 ∧ OneM X B p w.heap.size t.2.2.2.2 vs vf 4 st (.slice (some ad) 1 c) (bldN x s).2 w w' t.2.2.1 t.2.2.2.1 ∧ PartM B p t.2.2.1 t.2.2.2.1 (bldN x s).1 t.1 t.2.1 w' ∧ w'.heap[t.2.2.2.2]? = some (.cells #[.bool false, .slice none 0 0, .slice none 0 0] 69 (0, 0))) ?_ (fun hcont => ?_)
  · rintro ⟨u1, u2, vs2, vf2, gx⟩ w' ⟨hgx, hM, hP, hx⟩
    dsimp only at hgx hM hP hx ⊢
    generalize hqq : bldN x s = q at hM hP HE HQ ⊢
    clear hqq
    obtain ⟨⟨nb, fi, la⟩, qs⟩ := q
    dsimp only at hM hP HE HQ ⊢
    obtain ⟨U1, m1, rfl⟩ := Kd.R_slice hP.1
    obtain ⟨U2, m2, rfl⟩ := Kd.R_slice hP.2
    dsimp only at hP
    have HM := Aside0.mk hM
    have HP := Aside0.mk hP
    have HXB := Aside0.mk hx
    clear hM hP
    have hT : Till [(some 7, (fun w' : World => w'.cell? ⟨w.heap.size, 0, none⟩ = some (.pointer (some ⟨p, 0, none⟩)) ∧ w'.cell? ⟨w.heap.size + 1, 2, none⟩ = some (.slice (some ad) 1 c) ∧ w'.cell? ad = some (.int .i64 x.f0) ∧ w'.cell? ⟨ad.block, ad.off + 1, none⟩ = some (.int .i64 x.f1) ∧ w'.cell? ⟨ad.block, ad.off + 2, none⟩ = some (.slice A2 x.f2.length c2)))] #[true, true, true, true, true, true, true, false] w' := (HT.out _ _ HM.out.ba HM.out.bn (below_stp H0.out h0B HM.out.stp.below))
    refine nm_ (a' := ?_) ?_ ?_
    rotate_left
    · simp only [putAll, Act.put, List.setIfInBounds_toArray, List.set_cons_zero, List.set_cons_succ]
      rfl
    have h0 : w'.cell? ⟨gx, 0, none⟩ = some (.bool false) := (blk_cell hx 0).trans rfl
    have h1 : w'.cell? ⟨gx, 1, none⟩ = some (.slice none 0 0) := (blk_cell hx 1).trans rfl
    have h2 : w'.cell? ⟨gx, 2, none⟩ = some (.slice none 0 0) := (blk_cell hx 2).trans rfl
    have hfr : ∀ i, w'.frozen? ⟨gx, i, none⟩ = false := fun i => blk_frozen hx i
    clear hx
    unfold partV
    have HM1 := Aside0.mk (HM.out.own hB (Nat.le_refl _) hn0 hgx HXB.out (own_set3 gx w' (.bool nb) (.slice U1 fi.length m1) (.slice U2 la.length m2)))
    have HP1 := Aside0.mk (show PartM B p vs2 vf2 ⟨nb, fi, la⟩ (.slice U1 fi.length m1) (.slice U2 la.length m2) (((w'.setCell ⟨gx, 0, none⟩ (.bool nb)).setCell ⟨gx, 1, none⟩ (.slice U1 fi.length m1)).setCell ⟨gx, 2, none⟩ (.slice U2 la.length m2)) from ⟨R_own HP.out.1 HXB.out (by decide) (own_set3 gx w' _ _ _), R_own HP.out.2 HXB.out (by decide) (own_set3 gx w' _ _ _)⟩)
    have HX1 := Aside0.mk (show (((w'.setCell ⟨gx, 0, none⟩ (.bool nb)).setCell ⟨gx, 1, none⟩ (.slice U1 fi.length m1)).setCell ⟨gx, 2, none⟩ (.slice U2 la.length m2)).heap[gx]? = some (.cells #[.bool nb, .slice U1 fi.length m1, .slice U2 la.length m2] 69 (0, 0)) from set3 HXB.out)
    refine on_ (i := 7) (N := none) #[true, true, true, true, true, true, true, true] rfl rfl (by kernel_rfl) (fun K hK => ?_)
    refine skip_ (w1 := (((w'.setCell ⟨gx, 0, none⟩ (.bool nb)).setCell ⟨gx, 1, none⟩ (.slice U1 fi.length m1)).setCell ⟨gx, 2, none⟩ (.slice U2 la.length m2))) (by rfl) rfl ?_ ?_
    · go_simp
    refine hK.out _ _ (Till.dead rfl (Till.nil _ _)) (fun hT => ?_)
    clear hK K h0 h1 h2 hfr hT
    refine dn_ (by kernel_rfl) ?_ _
    generalize (((w'.setCell ⟨gx, 0, none⟩ (.bool nb)).setCell ⟨gx, 1, none⟩ (.slice U1 fi.length m1)).setCell ⟨gx, 2, none⟩ (.slice U2 la.length m2)) = w1 at HM1 HP1 HX1 ⊢
    have ca : w1.cell? ⟨w.heap.size, 0, none⟩ = some (.pointer (some ⟨p, 0, none⟩)) := (blk_cell HM1.out.ba 0).trans rfl
    have cn : w1.cell? ⟨w.heap.size + 1, 0, none⟩ = some (.int .i64 4) := (blk_cell HM1.out.bn 0).trans rfl
    have c0 : w1.cell? ⟨gx, 0, none⟩ = some (.bool nb) := (blk_cell HX1.out 0).trans rfl
    have c1 : w1.cell? ⟨gx, 1, none⟩ = some (.slice U1 fi.length m1) := (blk_cell HX1.out 1).trans rfl
    have c2 : w1.cell? ⟨gx, 2, none⟩ = some (.slice U2 la.length m2) := (blk_cell HX1.out 2).trans rfl
    have cr0 : w1.cell? ⟨w.heap.size + 1 + 1, 0, none⟩ = some (.bool false) := (blk_cell HM1.out.br 0).trans rfl
    have cr1 : w1.cell? ⟨w.heap.size + 1 + 1, 1, none⟩ = some (.slice none 0 0) := (blk_cell HM1.out.br 1).trans rfl
    have cr2 : w1.cell? ⟨w.heap.size + 1 + 1, 2, none⟩ = some (.slice none 0 0) := (blk_cell HM1.out.br 2).trans rfl
    have cf : ∀ i, w1.frozen? ⟨gx, i, none⟩ = false := fun i => blk_frozen HX1.out i
    have cg : ∀ i, w1.frozen? ⟨w.heap.size + 1 + 1, i, none⟩ = false := fun i => blk_frozen HM1.out.br i
    have hne1 : ¬ gx = w.heap.size + 1 + 1 := by omega
    have hne2 : ¬ w.heap.size + 1 + 1 = gx := by omega
    go_wp2_with fail
    have hqs : qs.sets.length ≤ 300 := by have := HQ.out.2.2; dsimp only at this; omega
    have hw1 : wd.heap.size ≤ w1.heap.size ∨ True := .inr trivial
    refine (note_calls (XO X w.heap.size gx) B p w.heap.size vs2 vf2 _ _ qs la fi w1 HM1.out.base (fun k hk => by have h1 := (Array.getElem?_eq_some_iff.1 HM1.out.br).1; have h2 := (Array.getElem?_eq_some_iff.1 HX1.out).1; rcases hk with hk | hk | hk; (have := hX k hk; omega); omega; omega) HM1.out.auto HQ.out.1 hqs HM1.out.ba (by omega) HP1.out.2 (by have := HQ.out.2.1.last; rw [← HQ.out.2.2] at this; exact this) HP1.out.1 (by have := HQ.out.2.1.first; rw [← HQ.out.2.2] at this; exact this)).mono ?_
    rintro e w2 ⟨rfl, hA2, hS2⟩
    have HX2 := Aside0.mk (hS2.blk (HM1.out.auto.away HX1.out (by omega) (by decide) (by decide)) HX1.out)
    have HM2 := Aside0.mk (HM1.out.step hn0 hA2 hS2)
    have HP2 := Aside0.mk (show PartM B p vs2 vf2 ⟨nb, fi, la⟩ (.slice U1 fi.length m1) (.slice U2 la.length m2) w2 from ⟨hS2.row HP1.out.1, hS2.row HP1.out.2⟩)
    clear hA2 hS2 hw1
    clear ca cn c0 c1 c2 cr0 cr1 cr2 cf cg
    have ca : w2.cell? ⟨w.heap.size, 0, none⟩ = some (.pointer (some ⟨p, 0, none⟩)) := (blk_cell HM2.out.ba 0).trans rfl
    have cn : w2.cell? ⟨w.heap.size + 1, 0, none⟩ = some (.int .i64 4) := (blk_cell HM2.out.bn 0).trans rfl
    have c0 : w2.cell? ⟨gx, 0, none⟩ = some (.bool nb) := (blk_cell HX2.out 0).trans rfl
    have c1 : w2.cell? ⟨gx, 1, none⟩ = some (.slice U1 fi.length m1) := (blk_cell HX2.out 1).trans rfl
    have c2 : w2.cell? ⟨gx, 2, none⟩ = some (.slice U2 la.length m2) := (blk_cell HX2.out 2).trans rfl
    have cr0 : w2.cell? ⟨w.heap.size + 1 + 1, 0, none⟩ = some (.bool false) := (blk_cell HM2.out.br 0).trans rfl
    have cr1 : w2.cell? ⟨w.heap.size + 1 + 1, 1, none⟩ = some (.slice none 0 0) := (blk_cell HM2.out.br 1).trans rfl
    have cr2 : w2.cell? ⟨w.heap.size + 1 + 1, 2, none⟩ = some (.slice none 0 0) := (blk_cell HM2.out.br 2).trans rfl
    have cf : ∀ i, w2.frozen? ⟨gx, i, none⟩ = false := fun i => blk_frozen HX2.out i
    have cg : ∀ i, w2.frozen? ⟨w.heap.size + 1 + 1, i, none⟩ = false := fun i => blk_frozen HM2.out.br i
    cases nb
    · skip
      go_wp2_with fail
      refine bodyPost_ret (results_c1 (P := Try.prog) rfl _ _ (w.heap.size + 1 + 1) 69 #[.bool false, .slice U1 fi.length m1, .slice U2 la.length m2] (0, 0) _ rfl ?_ Try.underlying69 rfl (by kernel_rfl)) rfl ?_
      · exact set3 (blk_far HM2.out.br (by show w.heap.size + 1 + 1 ≠ gx; omega) _)
      · rw [HE.out]; exact (HM2.out.own hB (Nat.le_refl _) hn0 hgx HX2.out (own_set1 gx w2 0 (.bool false))).done hB (Nat.le_refl _) hn0 (e := ⟨false, fi, la⟩) ⟨R_own HP2.out.1 HX2.out (by decide) (own_set1 gx w2 0 _), R_own HP2.out.2 HX2.out (by decide) (own_set1 gx w2 0 _)⟩
    · skip
      go_wp2_with fail
      refine bodyPost_ret (results_c1 (P := Try.prog) rfl _ _ (w.heap.size + 1 + 1) 69 #[.bool true, .slice U1 fi.length m1, .slice U2 la.length m2] (0, 0) _ rfl ?_ Try.underlying69 rfl (by kernel_rfl)) rfl ?_
      · exact set3 (blk_far HM2.out.br (by show w.heap.size + 1 + 1 ≠ gx; omega) _)
      · rw [HE.out]; exact (HM2.out.own hB (Nat.le_refl _) hn0 hgx HX2.out (own_set1 gx w2 0 (.bool true))).done hB (Nat.le_refl _) hn0 (e := ⟨true, fi, la⟩) ⟨R_own HP2.out.1 HX2.out (by decide) (own_set1 gx w2 0 _), R_own HP2.out.2 HX2.out (by decide) (own_set1 gx w2 0 _)⟩
  · skip
    refine tw_ (i := 5) (j := 6) (Ni := some 87) (Nj := some 13) #[true, true, true, true, true, true, false, false] #[true, true, true, true, true, false, true, false] rfl rfl rfl rfl (by kernel_rfl) (fun K hK => ?_) (fun K hK => ?_)
    · skip
      refine goes_ Try.func48 (by kernel_rfl) rfl #[.pointer (some ⟨p, 0, none⟩), nodeV x A2 c2] (by kernel_rfl) rfl rfl (by simp only [List.map_toArray, List.map_cons, List.map_nil]; rfl) ?_
      refine (HX.out (fun k => X k ∨ w.heap.size ≤ k ∧ k ≤ w.heap.size + 2) B p vs vf s A2 c2 w0 wd h0B HB1.out HG.out HL2.out HAd.out.rows.base (fun k hk => by rcases hk with hk | hk; (have := hX k hk; omega); omega) HAd.out HS.out HK.out hlen).mono ?_
      rintro e w1 ⟨u1, u2, vs2, vf2, rfl, hA1, hS1, hP1⟩
      refine ⟨_, rfl, ?_⟩
      have b1 := hS1.blk (HAd.out.away HBA.out (by omega) (by decide) (by decide)) HBA.out
      have b2 := hS1.blk (HAd.out.away HBN.out (by omega) (by decide) (by decide)) HBN.out
      have b3 := hS1.blk (HAd.out.away HBR.out (by omega) (by decide) (by decide)) HBR.out
      refine hK.out _ _ (HT.out _ _ b1 b2 (below_stp HB1.out h0B hS1.below)) (fun hT => ?_)
      clear hK K
      refine nm_ (a' := ?_) ?_ ?_
      rotate_left
      · show Act.put _ (some 87) _ = _
        simp only [Act.put, List.setIfInBounds_toArray, List.set_cons_zero, List.set_cons_succ, i64_w, i32_w]
        rfl
      have hs1 := hS1.below.size
      have hbz := below_alloc (Below.refl w1.heap.size w1) (.cells #[.bool false, .slice none 0 0, .slice none 0 0] 69)
      refine on_ (i := 6) (N := some 13) #[true, true, true, true, true, true, true, false] rfl rfl (by kernel_rfl) (fun K hK => ?_)
      refine val_ (v := .pointer (some ⟨w1.heap.size, 0, none⟩)) (w1 := w1.alloc (.cells #[.bool false, .slice none 0 0, .slice none 0 0] 69)) (by rfl) rfl ?_ ?_
      · go_simp
      refine hK.out _ _ (HT.out _ _ (blk_alloc b1 _) (blk_alloc b2 _) ((below_stp HB1.out h0B hS1.below).trans (hbz.mono (by have := HB1.out.size; omega)))) (fun hT => ?_)
      exact hcont (u1, u2, vs2, vf2, w1.heap.size) _ ⟨by show w1.heap.size ≥ w.heap.size + 3; omega, ⟨AutoM.less (AutoM.more hA1 hbz (fun k => k = w1.heap.size) (fun k hk => by omega)) (fun k hk => by rcases hk with hk | hk | hk; exact .inl (.inl hk); exact .inl (.inr hk); exact .inr hk), (HSd.out.trans hS1).trans (Stp.of_below hA1.rows.base hbz), blk_alloc b1 _, blk_alloc b2 _, blk_alloc b3 _⟩, ⟨Kd.R_below hP1.1 hbz, Kd.R_below hP1.2 hbz⟩, blk_new _ _⟩
    · skip
      have hbz := below_alloc (Below.refl wd.heap.size wd) (.cells #[.bool false, .slice none 0 0, .slice none 0 0] 69)
      have hb1' := HB1.out.trans (hbz.mono (by have := HB1.out.size; omega))
      refine val_ (v := .pointer (some ⟨wd.heap.size, 0, none⟩)) (w1 := wd.alloc (.cells #[.bool false, .slice none 0 0, .slice none 0 0] 69)) (by rfl) rfl ?_ ?_
      · go_simp
      refine hK.out _ _ (HT.out _ _ (blk_alloc HBA.out _) (blk_alloc HBN.out _) hb1') (fun hT => ?_)
      clear hK K
      have HAx := Aside0.mk (show AutoP (XO X w.heap.size wd.heap.size) B p vs vf s (wd.alloc (.cells #[.bool false, .slice none 0 0, .slice none 0 0] 69)) from AutoM.less (AutoM.more HAd.out hbz (fun k => k = wd.heap.size) (fun k hk => by omega)) (fun k hk => by rcases hk with hk | hk | hk; exact .inl (.inl hk); exact .inl (.inr hk); exact .inr hk))
      have HBx := Aside0.mk hb1'
      have HSx := Aside0.mk (HSd.out.trans (Stp.of_below HAd.out.rows.base hbz))
      have BX := Aside0.mk (blk_new wd (.cells #[.bool false, .slice none 0 0, .slice none 0 0] 69))
      have B1 := Aside0.mk (blk_alloc HBA.out (.cells #[.bool false, .slice none 0 0, .slice none 0 0] 69))
      have B2 := Aside0.mk (blk_alloc HBN.out (.cells #[.bool false, .slice none 0 0, .slice none 0 0] 69))
      have B3 := Aside0.mk (blk_alloc HBR.out (.cells #[.bool false, .slice none 0 0, .slice none 0 0] 69))
      have hzx : (wd.alloc (.cells #[.bool false, .slice none 0 0, .slice none 0 0] 69)).heap.size = wd.heap.size + 1 := by simp
      clear hb1' hbz
      generalize wd.alloc (.cells #[.bool false, .slice none 0 0, .slice none 0 0] 69) = wx at HAx HBx HSx BX B1 B2 B3 hzx hT ⊢
      refine nm_ (a' := ?_) ?_ ?_
      rotate_left
      · show Act.put _ (some 13) _ = _
        simp only [Act.put, List.setIfInBounds_toArray, List.set_cons_zero, List.set_cons_succ, i64_w, i32_w]
        rfl
      refine on_ (i := 5) (N := some 87) #[true, true, true, true, true, true, true, false] rfl rfl (by kernel_rfl) (fun K hK => ?_)
      refine goes_ Try.func48 (by kernel_rfl) rfl #[.pointer (some ⟨p, 0, none⟩), nodeV x A2 c2] (by kernel_rfl) rfl rfl (by simp only [List.map_toArray, List.map_cons, List.map_nil]; rfl) ?_
      refine (HX.out (XO X w.heap.size wd.heap.size) B p vs vf s A2 c2 w0 wx h0B HBx.out HG.out HL2.out HAx.out.rows.base (fun k hk => by rcases hk with hk | hk | hk; (have := hX k hk; omega); omega; omega) HAx.out HS.out HK.out hlen).mono ?_
      rintro e w1 ⟨u1, u2, vs2, vf2, rfl, hA1, hS1, hP1⟩
      refine ⟨_, rfl, ?_⟩
      have b0 := hS1.blk (HAx.out.away BX.out (by omega) (by decide) (by decide)) BX.out
      have b1 := hS1.blk (HAx.out.away B1.out (by omega) (by decide) (by decide)) B1.out
      have b2 := hS1.blk (HAx.out.away B2.out (by omega) (by decide) (by decide)) B2.out
      have b3 := hS1.blk (HAx.out.away B3.out (by omega) (by decide) (by decide)) B3.out
      refine hK.out _ _ (HT.out _ _ b1 b2 (below_stp HBx.out h0B hS1.below)) (fun hT => ?_)
      exact hcont (u1, u2, vs2, vf2, wd.heap.size) _ ⟨by show wd.heap.size ≥ w.heap.size + 3; omega, ⟨hA1, HSx.out.trans hS1, b1, b2, b3⟩, hP1, b0⟩
set_option maxRecDepth 100000 in
set_option maxHeartbeats 1600000 in
theorem built_one5 (x : S24) (st : Int) (h : BuiltAt x) (X : Nat → Prop) (B p : Nat) (vs vf : Value) (s : St) (A : Option Addr) (c : Nat) (w0 w : World) (h0B : w0.heap.size ≤ B) (hb0 : Below w0.heap.size w0 w) (hr : Kd.C k24 w0 A [x].length [x]) (hc : [x].length ≤ c)
    (hB : B ≤ w.heap.size) (hX : ∀ k, X k → k < w.heap.size) (hA : AutoP X B p vs vf s w) (hs : SOk s) (hk : rightN x = true) (hm : s.sets.length + cntN x ≤ 300) :
    Calls Try.prog 48 #[.pointer (some ⟨p, 0, none⟩), .agg #[.int .i64 5, .int .i64 st, .slice A 1 c]] w (BPost X B p vs vf w (oneL 5 [x] s)) := by
  have HX := Aside0.mk h
  have H0 := Aside0.mk hb0
  have HA := Aside0.mk hA
  have HS := Aside0.mk hs
  have HK := Aside0.mk hk
  have hn0 : p < w.heap.size := hA.lt
  obtain ⟨ad, A2, c2, rfl, f0, f1, f2, l2, g2⟩ := at_T24 hr 0 (by omega) (by simp)
  have hx : rd_T24 [x] 0 = x := rfl
  rw [hx] at f0 f1 f2 l2 g2
  rw [show (0 : Int).toNat * 3 = 0 from rfl, show ad.add 0 = ad by cases ad; simp [Addr.add]] at f0 f1 f2
  have e0 := pw_cell_below hb0 f0
  have e1 := pw_cell_below hb0 f1
  have e2 := pw_cell_below hb0 f2
  have HG := Aside0.mk g2
  have HL2 := Aside0.mk l2
  have HE := Aside0.mk (show oneL 5 [x] s = (⟨(bldN x s).1.null || !((5 : Int) == 4), (bldN x s).1.first, (bldN x s).1.last⟩, ⟨(bldN x s).2.sets, if (5 : Int) = 5 then (bldN x s).2.follow else after (bldN x s).2.follow (bldN x s).1.last (bldN x s).1.first⟩) by rw [oneL])
  have HF0 := Aside0.mk f0
  have HF1 := Aside0.mk f1
  have HF2 := Aside0.mk f2
  have hlen : s.sets.length + cntN x ≤ 300 := hm
  clear h hb0 hr hc hA hs hk f0 f1 f2 l2 g2 hx hm
  go_enter Try.func48, Try.ntmps48
  go_wp2_with fail
  have hb4 : Below w.heap.size w (((w.alloc (Obj.cells #[.pointer (some ⟨p, 0, none⟩)] 71)).alloc (Obj.cells #[.int .i64 5, .int .i64 st, .slice (some ad) 1 c] 24)).alloc (Obj.cells #[.bool false, .slice none 0 0, .slice none 0 0] 69)) := by repeat (first | exact Below.refl _ _ | apply below_alloc)
  have ba : (((w.alloc (Obj.cells #[.pointer (some ⟨p, 0, none⟩)] 71)).alloc (Obj.cells #[.int .i64 5, .int .i64 st, .slice (some ad) 1 c] 24)).alloc (Obj.cells #[.bool false, .slice none 0 0, .slice none 0 0] 69)).heap[w.heap.size]? = some (.cells #[.pointer (some ⟨p, 0, none⟩)] 71 (0, 0)) := by repeat (first | exact blk_new _ _ | refine blk_alloc ?_ _)
  have bn : (((w.alloc (Obj.cells #[.pointer (some ⟨p, 0, none⟩)] 71)).alloc (Obj.cells #[.int .i64 5, .int .i64 st, .slice (some ad) 1 c] 24)).alloc (Obj.cells #[.bool false, .slice none 0 0, .slice none 0 0] 69)).heap[w.heap.size + 1]? = some (.cells #[.int .i64 5, .int .i64 st, .slice (some ad) 1 c] 24 (0, 0)) := blk_alloc (by simpa using blk_new (w.alloc (Obj.cells #[.pointer (some ⟨p, 0, none⟩)] 71)) (Obj.cells #[.int .i64 5, .int .i64 st, .slice (some ad) 1 c] 24)) _
  have br : (((w.alloc (Obj.cells #[.pointer (some ⟨p, 0, none⟩)] 71)).alloc (Obj.cells #[.int .i64 5, .int .i64 st, .slice (some ad) 1 c] 24)).alloc (Obj.cells #[.bool false, .slice none 0 0, .slice none 0 0] 69)).heap[w.heap.size + 1 + 1]? = some (.cells #[.bool false, .slice none 0 0, .slice none 0 0] 69 (0, 0)) := by simpa using blk_new ((w.alloc (Obj.cells #[.pointer (some ⟨p, 0, none⟩)] 71)).alloc (Obj.cells #[.int .i64 5, .int .i64 st, .slice (some ad) 1 c] 24)) (Obj.cells #[.bool false, .slice none 0 0, .slice none 0 0] 69)
  have hsz : (((w.alloc (Obj.cells #[.pointer (some ⟨p, 0, none⟩)] 71)).alloc (Obj.cells #[.int .i64 5, .int .i64 st, .slice (some ad) 1 c] 24)).alloc (Obj.cells #[.bool false, .slice none 0 0, .slice none 0 0] 69)).heap.size = w.heap.size + 3 := by simp
  generalize (((w.alloc (Obj.cells #[.pointer (some ⟨p, 0, none⟩)] 71)).alloc (Obj.cells #[.int .i64 5, .int .i64 st, .slice (some ad) 1 c] 24)).alloc (Obj.cells #[.bool false, .slice none 0 0, .slice none 0 0] 69)) = W at hb4 ba bn br hsz ⊢
  have HB0 := Aside0.mk (below_drew hb4)
  have HB1 := Aside0.mk (show Below w0.heap.size w0 W.drew from below_stp H0.out h0B ((below_drew hb4).mono hB))
  have HBA := Aside0.mk (show W.drew.heap[w.heap.size]? = _ from ba)
  have HBN := Aside0.mk (show W.drew.heap[w.heap.size + 1]? = _ from bn)
  have HBR := Aside0.mk (show W.drew.heap[w.heap.size + 1 + 1]? = _ from br)
  have HSZ := Aside0.mk (show W.drew.heap.size = w.heap.size + 3 from hsz)
  clear hb4 ba bn br hsz e0 e1 e2
  have HT : Aside0 (∀ (l : Array Bool) (w' : World), w'.heap[w.heap.size]? = some (.cells #[.pointer (some ⟨p, 0, none⟩)] 71 (0, 0)) → w'.heap[w.heap.size + 1]? = some (.cells #[.int .i64 5, .int .i64 st, .slice (some ad) 1 c] 24 (0, 0)) → Below w0.heap.size w0 w' → Till [(some 7, (fun w' : World => w'.cell? ⟨w.heap.size, 0, none⟩ = some (.pointer (some ⟨p, 0, none⟩)) ∧ w'.cell? ⟨w.heap.size + 1, 2, none⟩ = some (.slice (some ad) 1 c) ∧ w'.cell? ad = some (.int .i64 x.f0) ∧ w'.cell? ⟨ad.block, ad.off + 1, none⟩ = some (.int .i64 x.f1) ∧ w'.cell? ⟨ad.block, ad.off + 2, none⟩ = some (.slice A2 x.f2.length c2)))] l w') := ⟨fun l w' h1 h2 h3 =>
    Till.live ⟨(blk_cell h1 0).trans rfl, (blk_cell h2 2).trans rfl, pw_cell_below h3 HF0.out, pw_cell_below h3 HF1.out, pw_cell_below h3 HF2.out⟩ (Till.nil _ _)⟩
  refine st_ [(some 7, (fun w' : World => w'.cell? ⟨w.heap.size, 0, none⟩ = some (.pointer (some ⟨p, 0, none⟩)) ∧ w'.cell? ⟨w.heap.size + 1, 2, none⟩ = some (.slice (some ad) 1 c) ∧ w'.cell? ad = some (.int .i64 x.f0) ∧ w'.cell? ⟨ad.block, ad.off + 1, none⟩ = some (.int .i64 x.f1) ∧ w'.cell? ⟨ad.block, ad.off + 2, none⟩ = some (.slice A2 x.f2.length c2)))] #[false, false, false, false, false, false, false, false] (by kernel_rfl) rfl rfl (HT.out _ _ HBA.out HBN.out HB1.out) (fun hT => ?_)
  generalize W.drew = wd at HB0 HB1 HBA HBN HBR HSZ hT ⊢
  refine tk_ (i := 0) (N := some 82) (v := ?_) (a' := ?_) (some 7) (fun w' : World => w'.cell? ⟨w.heap.size, 0, none⟩ = some (.pointer (some ⟨p, 0, none⟩)) ∧ w'.cell? ⟨w.heap.size + 1, 2, none⟩ = some (.slice (some ad) 1 c) ∧ w'.cell? ad = some (.int .i64 x.f0) ∧ w'.cell? ⟨ad.block, ad.off + 1, none⟩ = some (.int .i64 x.f1) ∧ w'.cell? ⟨ad.block, ad.off + 2, none⟩ = some (.slice A2 x.f2.length c2)) #[true, false, false, false, false, false, false, false] (List.Mem.head _) rfl rfl (by kernel_rfl) (fun _ _ _ h => h) (Or.inl ⟨by rfl, ?_⟩) hT ?_ (fun hT => ?_)
  rotate_left
  · rintro w' ⟨s0, s1, s2, s3, s4⟩
    go_simp
    with_reducible rfl
  rotate_left
  · simp only [Act.put, List.setIfInBounds_toArray, List.set_cons_zero, List.set_cons_succ, i64_w, i32_w]
    rfl
  refine pr_ (i := 1) (N := some 83) (v := ?_) (a' := ?_) #[true, true, false, false, false, false, false, false] rfl rfl (by kernel_rfl) (fun _ _ _ h => h) (Or.inl ⟨by rfl, ?_⟩) hT ?_ (fun hT => ?_)
  rotate_left
  · intro w'
    go_simp
    with_reducible rfl
  rotate_left
  · simp only [Act.put, List.setIfInBounds_toArray, List.set_cons_zero, List.set_cons_succ, i64_w, i32_w]
    rfl
  refine tk_ (i := 2) (N := some 84) (v := ?_) (a' := ?_) (some 7) (fun w' : World => w'.cell? ⟨w.heap.size, 0, none⟩ = some (.pointer (some ⟨p, 0, none⟩)) ∧ w'.cell? ⟨w.heap.size + 1, 2, none⟩ = some (.slice (some ad) 1 c) ∧ w'.cell? ad = some (.int .i64 x.f0) ∧ w'.cell? ⟨ad.block, ad.off + 1, none⟩ = some (.int .i64 x.f1) ∧ w'.cell? ⟨ad.block, ad.off + 2, none⟩ = some (.slice A2 x.f2.length c2)) #[true, true, true, false, false, false, false, false] (List.Mem.head _) rfl rfl (by kernel_rfl) (fun _ _ _ h => h) (Or.inl ⟨by rfl, ?_⟩) hT ?_ (fun hT => ?_)
  rotate_left
  · rintro w' ⟨s0, s1, s2, s3, s4⟩
    go_simp
    with_reducible rfl
  rotate_left
  · simp only [Act.put, List.setIfInBounds_toArray, List.set_cons_zero, List.set_cons_succ, i64_w, i32_w]
    rfl
  refine pr_ (i := 3) (N := some 85) (v := ?_) (a' := ?_) #[true, true, true, true, false, false, false, false] rfl rfl (by kernel_rfl) (fun _ _ _ h => h) (Or.inl ⟨by rfl, ?_⟩) hT ?_ (fun hT => ?_)
  rotate_left
  · intro w'
    go_simp
    with_reducible rfl
  rotate_left
  · simp only [Act.put, List.setIfInBounds_toArray, List.set_cons_zero, List.set_cons_succ, i64_w, i32_w]
    rfl
  refine tk_ (i := 4) (N := some 86) (v := ?_) (a' := ?_) (some 7) (fun w' : World => w'.cell? ⟨w.heap.size, 0, none⟩ = some (.pointer (some ⟨p, 0, none⟩)) ∧ w'.cell? ⟨w.heap.size + 1, 2, none⟩ = some (.slice (some ad) 1 c) ∧ w'.cell? ad = some (.int .i64 x.f0) ∧ w'.cell? ⟨ad.block, ad.off + 1, none⟩ = some (.int .i64 x.f1) ∧ w'.cell? ⟨ad.block, ad.off + 2, none⟩ = some (.slice A2 x.f2.length c2)) #[true, true, true, true, true, false, false, false] (List.Mem.head _) rfl rfl (by kernel_rfl) (fun _ _ _ h => h) (Or.inl ⟨by rfl, ?_⟩) hT ?_ (fun hT => ?_)
  rotate_left
  · rintro w' ⟨s0, s1, s2, s3, s4⟩
    go_simp
    with_reducible rfl
  rotate_left
  · simp only [Act.put, List.setIfInBounds_toArray, List.set_cons_zero, List.set_cons_succ, i64_w, i32_w]
    rfl
  have HAd := Aside0.mk (AutoM.more HA.out HB0.out (fun k => w.heap.size ≤ k ∧ k ≤ w.heap.size + 2) (fun k hk => hk.1))
  have HSd := Aside0.mk (Stp.of_below (p := p) (vs := vs) (vf := vf) hB HB0.out)
  have hq := bldN_ok x s HK.out HS.out
  have HQ := Aside0.mk hq
  clear hq
  have hwd : w.heap.size + 3 ≤ wd.heap.size := by have := HSZ.out; omega
  refine jn_ (σ := Value × Value × Value × Value × Nat) 1 #[true, true, true, true, true, true, true, false] (fun t => [(87, partV (bldN x s).1.null t.1 t.2.1), (13, .pointer (some ⟨t.2.2.2.2, 0, none⟩))]) (fun t w' => t.2.2.2.2 ≥ w.heap.size + 3 ∧ OneM X B p w.heap.size t.2.2.2.2 vs vf 5 st (.slice (some ad) 1 c) (bldN x s).2 w w' t.2.2.1 t.2.2.2.1 ∧ PartM B p t.2.2.1 t.2.2.2.1 (bldN x s).1 t.1 t.2.1 w' ∧ w'.heap[t.2.2.2.2]? = some (.cells #[.bool false, .slice none 0 0, .slice none 0 0] 69 (0, 0))) ?_ (fun hcont => ?_)
  · rintro ⟨u1, u2, vs2, vf2, gx⟩ w' ⟨hgx, hM, hP, hx⟩
    dsimp only at hgx hM hP hx ⊢
    generalize hqq : bldN x s = q at hM hP HE HQ ⊢
    clear hqq
    obtain ⟨⟨nb, fi, la⟩, qs⟩ := q
    dsimp only at hM hP HE HQ ⊢
    obtain ⟨U1, m1, rfl⟩ := Kd.R_slice hP.1
    obtain ⟨U2, m2, rfl⟩ := Kd.R_slice hP.2
    dsimp only at hP
    have HM := Aside0.mk hM
    have HP := Aside0.mk hP
    have HXB := Aside0.mk hx
    clear hM hP
    have hT : Till [(some 7, (fun w' : World => w'.cell? ⟨w.heap.size, 0, none⟩ = some (.pointer (some ⟨p, 0, none⟩)) ∧ w'.cell? ⟨w.heap.size + 1, 2, none⟩ = some (.slice (some ad) 1 c) ∧ w'.cell? ad = some (.int .i64 x.f0) ∧ w'.cell? ⟨ad.block, ad.off + 1, none⟩ = some (.int .i64 x.f1) ∧ w'.cell? ⟨ad.block, ad.off + 2, none⟩ = some (.slice A2 x.f2.length c2)))] #[true, true, true, true, true, true, true, false] w' := (HT.out _ _ HM.out.ba HM.out.bn (below_stp H0.out h0B HM.out.stp.below))
    refine nm_ (a' := ?_) ?_ ?_
    rotate_left
    · simp only [putAll, Act.put, List.setIfInBounds_toArray, List.set_cons_zero, List.set_cons_succ]
      rfl
    have h0 : w'.cell? ⟨gx, 0, none⟩ = some (.bool false) := (blk_cell hx 0).trans rfl
    have h1 : w'.cell? ⟨gx, 1, none⟩ = some (.slice none 0 0) := (blk_cell hx 1).trans rfl
    have h2 : w'.cell? ⟨gx, 2, none⟩ = some (.slice none 0 0) := (blk_cell hx 2).trans rfl
    have hfr : ∀ i, w'.frozen? ⟨gx, i, none⟩ = false := fun i => blk_frozen hx i
    clear hx
    unfold partV
    have HM1 := Aside0.mk (HM.out.own hB (Nat.le_refl _) hn0 hgx HXB.out (own_set3 gx w' (.bool nb) (.slice U1 fi.length m1) (.slice U2 la.length m2)))
    have HP1 := Aside0.mk (show PartM B p vs2 vf2 ⟨nb, fi, la⟩ (.slice U1 fi.length m1) (.slice U2 la.length m2) (((w'.setCell ⟨gx, 0, none⟩ (.bool nb)).setCell ⟨gx, 1, none⟩ (.slice U1 fi.length m1)).setCell ⟨gx, 2, none⟩ (.slice U2 la.length m2)) from ⟨R_own HP.out.1 HXB.out (by decide) (own_set3 gx w' _ _ _), R_own HP.out.2 HXB.out (by decide) (own_set3 gx w' _ _ _)⟩)
    have HX1 := Aside0.mk (show (((w'.setCell ⟨gx, 0, none⟩ (.bool nb)).setCell ⟨gx, 1, none⟩ (.slice U1 fi.length m1)).setCell ⟨gx, 2, none⟩ (.slice U2 la.length m2)).heap[gx]? = some (.cells #[.bool nb, .slice U1 fi.length m1, .slice U2 la.length m2] 69 (0, 0)) from set3 HXB.out)
    refine on_ (i := 7) (N := none) #[true, true, true, true, true, true, true, true] rfl rfl (by kernel_rfl) (fun K hK => ?_)
    refine skip_ (w1 := (((w'.setCell ⟨gx, 0, none⟩ (.bool nb)).setCell ⟨gx, 1, none⟩ (.slice U1 fi.length m1)).setCell ⟨gx, 2, none⟩ (.slice U2 la.length m2))) (by rfl) rfl ?_ ?_
    · go_simp
    refine hK.out _ _ (Till.dead rfl (Till.nil _ _)) (fun hT => ?_)
    clear hK K h0 h1 h2 hfr hT
    refine dn_ (by kernel_rfl) ?_ _
    generalize (((w'.setCell ⟨gx, 0, none⟩ (.bool nb)).setCell ⟨gx, 1, none⟩ (.slice U1 fi.length m1)).setCell ⟨gx, 2, none⟩ (.slice U2 la.length m2)) = w1 at HM1 HP1 HX1 ⊢
    have ca : w1.cell? ⟨w.heap.size, 0, none⟩ = some (.pointer (some ⟨p, 0, none⟩)) := (blk_cell HM1.out.ba 0).trans rfl
    have cn : w1.cell? ⟨w.heap.size + 1, 0, none⟩ = some (.int .i64 5) := (blk_cell HM1.out.bn 0).trans rfl
    have c0 : w1.cell? ⟨gx, 0, none⟩ = some (.bool nb) := (blk_cell HX1.out 0).trans rfl
    have c1 : w1.cell? ⟨gx, 1, none⟩ = some (.slice U1 fi.length m1) := (blk_cell HX1.out 1).trans rfl
    have c2 : w1.cell? ⟨gx, 2, none⟩ = some (.slice U2 la.length m2) := (blk_cell HX1.out 2).trans rfl
    have cr0 : w1.cell? ⟨w.heap.size + 1 + 1, 0, none⟩ = some (.bool false) := (blk_cell HM1.out.br 0).trans rfl
    have cr1 : w1.cell? ⟨w.heap.size + 1 + 1, 1, none⟩ = some (.slice none 0 0) := (blk_cell HM1.out.br 1).trans rfl
    have cr2 : w1.cell? ⟨w.heap.size + 1 + 1, 2, none⟩ = some (.slice none 0 0) := (blk_cell HM1.out.br 2).trans rfl
    have cf : ∀ i, w1.frozen? ⟨gx, i, none⟩ = false := fun i => blk_frozen HX1.out i
    have cg : ∀ i, w1.frozen? ⟨w.heap.size + 1 + 1, i, none⟩ = false := fun i => blk_frozen HM1.out.br i
    have hne1 : ¬ gx = w.heap.size + 1 + 1 := by omega
    have hne2 : ¬ w.heap.size + 1 + 1 = gx := by omega
    cases nb
    · skip
      go_wp2_with fail
      refine bodyPost_ret (results_c1 (P := Try.prog) rfl _ _ (w.heap.size + 1 + 1) 69 #[.bool true, .slice U1 fi.length m1, .slice U2 la.length m2] (0, 0) _ rfl ?_ Try.underlying69 rfl (by kernel_rfl)) rfl ?_
      · exact set3 (blk_far HM1.out.br (by show w.heap.size + 1 + 1 ≠ gx; omega) _)
      · rw [HE.out]; exact (HM1.out.own hB (Nat.le_refl _) hn0 hgx HX1.out (own_set1 gx w1 0 (.bool true))).done hB (Nat.le_refl _) hn0 (e := ⟨true, fi, la⟩) ⟨R_own HP1.out.1 HX1.out (by decide) (own_set1 gx w1 0 _), R_own HP1.out.2 HX1.out (by decide) (own_set1 gx w1 0 _)⟩
    · skip
      go_wp2_with fail
      refine bodyPost_ret (results_c1 (P := Try.prog) rfl _ _ (w.heap.size + 1 + 1) 69 #[.bool true, .slice U1 fi.length m1, .slice U2 la.length m2] (0, 0) _ rfl ?_ Try.underlying69 rfl (by kernel_rfl)) rfl ?_
      · exact set3 (blk_far HM1.out.br (by show w.heap.size + 1 + 1 ≠ gx; omega) _)
      · rw [HE.out]; exact (HM1.out.own hB (Nat.le_refl _) hn0 hgx HX1.out (own_set1 gx w1 0 (.bool true))).done hB (Nat.le_refl _) hn0 (e := ⟨true, fi, la⟩) ⟨R_own HP1.out.1 HX1.out (by decide) (own_set1 gx w1 0 _), R_own HP1.out.2 HX1.out (by decide) (own_set1 gx w1 0 _)⟩
  · skip
    refine tw_ (i := 5) (j := 6) (Ni := some 87) (Nj := some 13) #[true, true, true, true, true, true, false, false] #[true, true, true, true, true, false, true, false] rfl rfl rfl rfl (by kernel_rfl) (fun K hK => ?_) (fun K hK => ?_)
    · skip
      refine goes_ Try.func48 (by kernel_rfl) rfl #[.pointer (some ⟨p, 0, none⟩), nodeV x A2 c2] (by kernel_rfl) rfl rfl (by simp only [List.map_toArray, List.map_cons, List.map_nil]; rfl) ?_
      refine (HX.out (fun k => X k ∨ w.heap.size ≤ k ∧ k ≤ w.heap.size + 2) B p vs vf s A2 c2 w0 wd h0B HB1.out HG.out HL2.out HAd.out.rows.base (fun k hk => by rcases hk with hk | hk; (have := hX k hk; omega); omega) HAd.out HS.out HK.out hlen).mono ?_
      rintro e w1 ⟨u1, u2, vs2, vf2, rfl, hA1, hS1, hP1⟩
      refine ⟨_, rfl, ?_⟩
      have b1 := hS1.blk (HAd.out.away HBA.out (by omega) (by decide) (by decide)) HBA.out
      have b2 := hS1.blk (HAd.out.away HBN.out (by omega) (by decide) (by decide)) HBN.out
      have b3 := hS1.blk (HAd.out.away HBR.out (by omega) (by decide) (by decide)) HBR.out
      refine hK.out _ _ (HT.out _ _ b1 b2 (below_stp HB1.out h0B hS1.below)) (fun hT => ?_)
      clear hK K
      refine nm_ (a' := ?_) ?_ ?_
      rotate_left
      · show Act.put _ (some 87) _ = _
        simp only [Act.put, List.setIfInBounds_toArray, List.set_cons_zero, List.set_cons_succ, i64_w, i32_w]
        rfl
      have hs1 := hS1.below.size
      have hbz := below_alloc (Below.refl w1.heap.size w1) (.cells #[.bool false, .slice none 0 0, .slice none 0 0] 69)
      refine on_ (i := 6) (N := some 13) #[true, true, true, true, true, true, true, false] rfl rfl (by kernel_rfl) (fun K hK => ?_)
      refine val_ (v := .pointer (some ⟨w1.heap.size, 0, none⟩)) (w1 := w1.alloc (.cells #[.bool false, .slice none 0 0, .slice none 0 0] 69)) (by rfl) rfl ?_ ?_
      · go_simp
      refine hK.out _ _ (HT.out _ _ (blk_alloc b1 _) (blk_alloc b2 _) ((below_stp HB1.out h0B hS1.below).trans (hbz.mono (by have := HB1.out.size; omega)))) (fun hT => ?_)
      exact hcont (u1, u2, vs2, vf2, w1.heap.size) _ ⟨by show w1.heap.size ≥ w.heap.size + 3; omega, ⟨AutoM.less (AutoM.more hA1 hbz (fun k => k = w1.heap.size) (fun k hk => by omega)) (fun k hk => by rcases hk with hk | hk | hk; exact .inl (.inl hk); exact .inl (.inr hk); exact .inr hk), (HSd.out.trans hS1).trans (Stp.of_below hA1.rows.base hbz), blk_alloc b1 _, blk_alloc b2 _, blk_alloc b3 _⟩, ⟨Kd.R_below hP1.1 hbz, Kd.R_below hP1.2 hbz⟩, blk_new _ _⟩
    · skip
      have hbz := below_alloc (Below.refl wd.heap.size wd) (.cells #[.bool false, .slice none 0 0, .slice none 0 0] 69)
      have hb1' := HB1.out.trans (hbz.mono (by have := HB1.out.size; omega))
      refine val_ (v := .pointer (some ⟨wd.heap.size, 0, none⟩)) (w1 := wd.alloc (.cells #[.bool false, .slice none 0 0, .slice none 0 0] 69)) (by rfl) rfl ?_ ?_
      · go_simp
      refine hK.out _ _ (HT.out _ _ (blk_alloc HBA.out _) (blk_alloc HBN.out _) hb1') (fun hT => ?_)
      clear hK K
      have HAx := Aside0.mk (show AutoP (XO X w.heap.size wd.heap.size) B p vs vf s (wd.alloc (.cells #[.bool false, .slice none 0 0, .slice none 0 0] 69)) from AutoM.less (AutoM.more HAd.out hbz (fun k => k = wd.heap.size) (fun k hk => by omega)) (fun k hk => by rcases hk with hk | hk | hk; exact .inl (.inl hk); exact .inl (.inr hk); exact .inr hk))
      have HBx := Aside0.mk hb1'
      have HSx := Aside0.mk (HSd.out.trans (Stp.of_below HAd.out.rows.base hbz))
      have BX := Aside0.mk (blk_new wd (.cells #[.bool false, .slice none 0 0, .slice none 0 0] 69))
      have B1 := Aside0.mk (blk_alloc HBA.out (.cells #[.bool false, .slice none 0 0, .slice none 0 0] 69))
      have B2 := Aside0.mk (blk_alloc HBN.out (.cells #[.bool false, .slice none 0 0, .slice none 0 0] 69))
      have B3 := Aside0.mk (blk_alloc HBR.out (.cells #[.bool false, .slice none 0 0, .slice none 0 0] 69))
      have hzx : (wd.alloc (.cells #[.bool false, .slice none 0 0, .slice none 0 0] 69)).heap.size = wd.heap.size + 1 := by simp
      clear hb1' hbz
      generalize wd.alloc (.cells #[.bool false, .slice none 0 0, .slice none 0 0] 69) = wx at HAx HBx HSx BX B1 B2 B3 hzx hT ⊢
      refine nm_ (a' := ?_) ?_ ?_
      rotate_left
      · show Act.put _ (some 13) _ = _
        simp only [Act.put, List.setIfInBounds_toArray, List.set_cons_zero, List.set_cons_succ, i64_w, i32_w]
        rfl
      refine on_ (i := 5) (N := some 87) #[true, true, true, true, true, true, true, false] rfl rfl (by kernel_rfl) (fun K hK => ?_)
      refine goes_ Try.func48 (by kernel_rfl) rfl #[.pointer (some ⟨p, 0, none⟩), nodeV x A2 c2] (by kernel_rfl) rfl rfl (by simp only [List.map_toArray, List.map_cons, List.map_nil]; rfl) ?_
      refine (HX.out (XO X w.heap.size wd.heap.size) B p vs vf s A2 c2 w0 wx h0B HBx.out HG.out HL2.out HAx.out.rows.base (fun k hk => by rcases hk with hk | hk | hk; (have := hX k hk; omega); omega; omega) HAx.out HS.out HK.out hlen).mono ?_
      rintro e w1 ⟨u1, u2, vs2, vf2, rfl, hA1, hS1, hP1⟩
      refine ⟨_, rfl, ?_⟩
      have b0 := hS1.blk (HAx.out.away BX.out (by omega) (by decide) (by decide)) BX.out
      have b1 := hS1.blk (HAx.out.away B1.out (by omega) (by decide) (by decide)) B1.out
      have b2 := hS1.blk (HAx.out.away B2.out (by omega) (by decide) (by decide)) B2.out
      have b3 := hS1.blk (HAx.out.away B3.out (by omega) (by decide) (by decide)) B3.out
      refine hK.out _ _ (HT.out _ _ b1 b2 (below_stp HBx.out h0B hS1.below)) (fun hT => ?_)
      exact hcont (u1, u2, vs2, vf2, wd.heap.size) _ ⟨by show wd.heap.size ≥ w.heap.size + 3; omega, ⟨hA1, HSx.out.trans hS1, b1, b2, b3⟩, hP1, b0⟩
end Go.Proofs.Ytkoofldididpgaa.NB

end
section
namespace Go.Proofs.Ytkoofldididpgaa.NB
open Go Go.RowKit Go.Proofs.YtkoofldididpgaaW.PrintWords Go.Proofs.YtkoofldididpgaaW.PrintLast Go.Proofs.YtkoofldididpgaaW.PrintMore
open Go.Proofs.Ytkoofldididpgaa.XB Go.Proofs.Ytkoofldididpgaa.NM Go.Proofs.Ytkoofldididpgaa.NR Go.Proofs.Ytkoofldididpgaa.NW Go.Proofs.Ytkoofldididpgaa.BM Go.Proofs.Ytkoofldididpgaa.FM Go.Proofs.Ytkoofldididpgaa.NA Go.Proofs.Ytkoofldididpgaa.NN Go.Proofs.Ytkoofldididpgaa.NT Go.Proofs.Ytkoofldididpgaa.NO Go.Proofs.Ytkoofldididpgaa.RT Go.Proofs.Ytkoofldididpgaa.NK
set_option linter.unusedVariables false
set_option linter.unusedSimpArgs false
theorem built_step (n : S24) (h : ∀ x ∈ n.f2, BuiltAt x) : BuiltAt n := by
  intro X B p vs vf s A c w0 w h0B hb0 hr hc hB hX hA hs hk hm
  obtain ⟨kd, st, ks⟩ := n
  dsimp only at *
  rw [rightN, Bool.and_eq_true] at hk
  rw [cntN] at hm
  rw [bldN]
  unfold nodeV
  dsimp only
  by_cases h1 : kd = 1
  · subst h1
    rw [if_pos rfl] at hm ⊢
    have hl : ks.length = 0 := by
      have := hk.1
      unfold headOk at this
      rw [if_pos rfl] at this
      exact (of_decide_eq_true this).1
    rw [hl]
    exact built_set X B p vs vf s st A c w hB hX hA hs (by omega)
  rw [if_neg h1] at hm ⊢
  by_cases h0 : kd = 0
  · subst h0
    rw [if_pos rfl]
    exact built_cat ks st h X B p vs vf s A c w0 w h0B hb0 hr hc hB hX hA hs hk.2 hm
  rw [if_neg h0]
  by_cases h2 : kd = 2
  · subst h2
    rw [if_pos rfl]
    exact built_alt ks st h X B p vs vf s A c w0 w h0B hb0 hr hc hB hX hA hs hk.2 hm
  rw [if_neg h2]
  have hl : ks.length = 1 ∧ (kd = 3 ∨ kd = 4 ∨ kd = 5) := by
    have := hk.1
    unfold headOk at this
    rw [if_neg h1, if_neg h0, if_neg h2] at this
    by_cases h3 : kd = 3 ∨ kd = 4 ∨ kd = 5
    · rw [if_pos h3] at this; exact ⟨by simpa using this, h3⟩
    · rw [if_neg h3] at this; cases this
  match ks, hl, hk, hr, hc, h, hm with
  | [x], ⟨_, hkd⟩, hk, hr, hc, h, hm =>
    have hx : rightN x = true := by have := hk.2; rw [rightL, Bool.and_eq_true] at this; exact this.1
    have hmx : s.sets.length + cntN x ≤ 300 := by rw [cntL, cntL] at hm; omega
    rcases hkd with rfl | rfl | rfl
    · exact built_one3 x st (h x List.mem_cons_self) X B p vs vf s A c w0 w h0B hb0 hr hc hB hX hA hs hx hmx
    · exact built_one4 x st (h x List.mem_cons_self) X B p vs vf s A c w0 w h0B hb0 hr hc hB hX hA hs hx hmx
    · exact built_one5 x st (h x List.mem_cons_self) X B p vs vf s A c w0 w h0B hb0 hr hc hB hX hA hs hx hmx
theorem built_calls : ∀ n : S24, BuiltAt n := fun n => by
  generalize hm : SizeOf.sizeOf n = m
  induction m using Nat.strongRecOn generalizing n with
  | _ m ih => exact built_step n (fun x hx => ih (SizeOf.sizeOf x) (by have := size_kid hx; omega) x rfl)
abbrev AutoT := Bool × List Int × List Int × List Int × List (List Int) × Int
def bldT (n : S24) : AutoT := ((bldN n ⟨[], []⟩).1.null, (bldN n ⟨[], []⟩).2.sets, (bldN n ⟨[], []⟩).1.first, (bldN n ⟨[], []⟩).1.last, (bldN n ⟨[], []⟩).2.follow, 0)
def buildF (n : S24) : Option AutoT :=
  if cntN n < 4611686018427387904 then (if rightN n = true then (if cntN n ≤ 300 then some (bldT n) else some (false, [], [], [], [], 3)) else some (false, [], [], [], [], 1)) else none
def AutoPost (r : AutoT) (w : World) : Ending → World → Prop := fun e w' => ∃ v1_ v2_ v3_ v4_ : Value, e = .returned (.tuple #[.agg #[.bool r.1, v1_, v2_, v3_, v4_], .int .i64 r.2.2.2.2.2]) ∧
  Kd.R (Kd.int .i64) 3 w' w.heap.size (fun k_ => (w.heap.size ≤ k_) ∧ some k_ ≠ (v2_ : Value).ownBlock ∧ some k_ ≠ (v3_ : Value).ownBlock) v1_ r.2.1 ∧
  Kd.R (Kd.int .i64) 3 w' w.heap.size (fun k_ => (w.heap.size ≤ k_) ∧ some k_ ≠ (v1_ : Value).ownBlock ∧ some k_ ≠ (Value.slice none 0 0 : Value).ownBlock) v2_ r.2.2.1 ∧
  Kd.R (Kd.int .i64) 3 w' w.heap.size (fun k_ => (w.heap.size ≤ k_) ∧ some k_ ≠ (v1_ : Value).ownBlock ∧ some k_ ≠ (Value.slice none 0 0 : Value).ownBlock) v3_ r.2.2.2.1 ∧
  Kd.N (Kd.slice 3 (Kd.int .i64)) 27 w' w.heap.size (fun k_ => (w.heap.size ≤ k_) ∧ some k_ ≠ (v1_ : Value).ownBlock ∧ some k_ ≠ (Value.slice none 0 0 : Value).ownBlock ∧ some k_ ≠ (Value.slice none 0 0 : Value).ownBlock) v4_ r.2.2.2.2.1 ∧ Below w.heap.size w w'
theorem R_reok {w : World} {B : Nat} {ok ok' : Nat → Prop} {v : Value} {xs : List Int} (h : Kd.R kI 3 w B ok v xs) (hok : ∀ k, v.ownBlock = some k → ok' k) : Kd.R kI 3 w B ok' v xs := ⟨hok, h.2.imp_ (fun _ _ hp => hp)⟩
theorem autoPost_err (w w' : World) (i : Int) (hb : Below w.heap.size w w') : AutoPost (false, [], [], [], [], i) w (.returned (.tuple #[.agg #[.bool false, .slice none 0 0, .slice none 0 0, .slice none 0 0, .slice none 0 0], .int .i64 i])) w' :=
  ⟨_, _, _, _, rfl, Kd.R_nil _ _ _ _ _, Kd.R_nil _ _ _ _ _, Kd.R_nil _ _ _ _ _, Kd.N_nil _ _ _ _ _, hb⟩
theorem autoPost_ok {X : Nat → Prop} {B p : Nat} {vs vf v1 v2 : Value} {e : BM.Edge} {s : St} {w w' : World} (hB : B = w.heap.size) (hX : ∀ k, k < w.heap.size → X k) (h : NA.Rows X B p vs vf s w') (hP : PartM B p vs vf e v1 v2 w') (hb : Below w.heap.size w w') :
    AutoPost (e.null, s.sets, e.first, e.last, s.follow, 0) w (.returned (.tuple #[.agg #[.bool e.null, vs, v1, v2, vf], .int .i64 0])) w' := by
  subst hB
  have nn : ∀ k : Nat, some k ≠ (Value.slice none 0 0 : Value).ownBlock := fun k => by simp [Value.ownBlock]
  refine ⟨vs, v1, v2, vf, rfl, R_reok h.sets (fun k hk => ⟨Kd.R_base h.sets k hk, fun e => ?_, fun e => ?_⟩), R_reok hP.1 (fun k hk => ⟨Kd.R_base hP.1 k hk, (hP.1.1 k hk).2.1, nn k⟩), R_reok hP.2 (fun k hk => ⟨Kd.R_base hP.2 k hk, (hP.2.1 k hk).2.1, nn k⟩), ?_, hb⟩
  · exact (hP.1.1 k e.symm).2.1 hk.symm
  · exact (hP.2.1 k e.symm).2.1 hk.symm
  · exact Kd.N_mono h.fol (fun k hk => ⟨Nat.le_of_not_lt (fun hlt => hk.2.2 (hX k hlt)), hk.2.1, nn k, nn k⟩)
theorem set5 {w : World} {g t : Nat} {a b c d e x y z u v : Value} (h : w.heap[g]? = some (.cells #[a, b, c, d, e] t (0, 0))) :
    (((((w.setCell ⟨g, 0, none⟩ x).setCell ⟨g, 1, none⟩ y).setCell ⟨g, 2, none⟩ z).setCell ⟨g, 3, none⟩ u).setCell ⟨g, 4, none⟩ v).heap[g]? = some (.cells #[x, y, z, u, v] t (0, 0)) := by
  simp only [World.setCell, Array.getElem?_modify, if_true, h, Option.map_some]
  rfl
theorem own_trans {g : Nat} {w w1 w2 : World} (h : Own g w w1) (k : Own g w1 w2) : Own g w w2 := ⟨k.os.trans h.os, k.tape.trans h.tape, k.output.trans h.output, Nat.le_trans h.size k.size, fun i hi hne => (k.block i (Nat.lt_of_lt_of_le hi h.size) hne).trans (h.block i hi hne)⟩
theorem own_set5 (g : Nat) (w : World) (x y z u v : Value) : Own g w (((((w.setCell ⟨g, 0, none⟩ x).setCell ⟨g, 1, none⟩ y).setCell ⟨g, 2, none⟩ z).setCell ⟨g, 3, none⟩ u).setCell ⟨g, 4, none⟩ v) := own_trans (own_trans (own_trans (own_trans (own_set1 g w 0 x) (own_set1 g _ 1 y)) (own_set1 g _ 2 z)) (own_set1 g _ 3 u)) (own_set1 g _ 4 v)
theorem below_own {w w1 w2 : World} {g : Nat} (h : Below w.heap.size w w1) (hg : w.heap.size ≤ g) (ho : Own g w1 w2) : Below w.heap.size w w2 :=
  ⟨ho.os.trans h.os, ho.tape.trans h.tape, ho.output.trans h.output, Nat.le_trans h.size ho.size, fun k hk => (ho.block k (Nat.lt_of_lt_of_le hk h.size) (by omega)).trans (h.block k hk)⟩
set_option maxRecDepth 100000 in
set_option maxHeartbeats 1600000 in
theorem build_err (n : S24) (A : Option Addr) (c : Nat) (w : World) (hr : Kd.C k24 w A n.f2.length n.f2) (hc : n.f2.length ≤ c) (hn : cntN n < 4611686018427387904) (hk : rightN n = false) :
    Calls Try.prog 18 #[nodeV n A c] w (AutoPost (false, [], [], [], [], 1) w) := by
  have HR := Aside0.mk hr
  have HC := Aside0.mk hc
  have HN := Aside0.mk hn
  clear hr hc hn
  unfold nodeV
  go_enter Try.func18, Try.ntmps18
  go_wp2_with fail
  have hb2 : Below w.heap.size w ((w.alloc (.cells #[.int .i64 n.f0, .int .i64 n.f1, .slice A n.f2.length c] 24)).alloc (.cells #[.bool false, .slice none 0 0, .slice none 0 0, .slice none 0 0, .slice none 0 0] 30)) := by repeat (first | exact Below.refl _ _ | apply below_alloc)
  have HBN := Aside0.mk (show ((w.alloc (.cells #[.int .i64 n.f0, .int .i64 n.f1, .slice A n.f2.length c] 24)).alloc (.cells #[.bool false, .slice none 0 0, .slice none 0 0, .slice none 0 0, .slice none 0 0] 30)).heap[w.heap.size]? = some (.cells #[.int .i64 n.f0, .int .i64 n.f1, .slice A n.f2.length c] 24 (0, 0)) from by repeat (first | exact blk_new _ _ | refine blk_alloc ?_ _))
  have HBR := Aside0.mk (show ((w.alloc (.cells #[.int .i64 n.f0, .int .i64 n.f1, .slice A n.f2.length c] 24)).alloc (.cells #[.bool false, .slice none 0 0, .slice none 0 0, .slice none 0 0, .slice none 0 0] 30)).heap[w.heap.size + 1]? = some (.cells #[.bool false, .slice none 0 0, .slice none 0 0, .slice none 0 0, .slice none 0 0] 30 (0, 0)) from by simpa using blk_new (w.alloc (.cells #[.int .i64 n.f0, .int .i64 n.f1, .slice A n.f2.length c] 24)) (.cells #[.bool false, .slice none 0 0, .slice none 0 0, .slice none 0 0, .slice none 0 0] 30))
  have hr2 := Kd.C_below HR.out hb2
  have HB2 := Aside0.mk hb2
  clear hb2
  generalize ((w.alloc (.cells #[.int .i64 n.f0, .int .i64 n.f1, .slice A n.f2.length c] 24)).alloc (.cells #[.bool false, .slice none 0 0, .slice none 0 0, .slice none 0 0, .slice none 0 0] 30)) = W at HB2 HBN HBR hr2 ⊢
  refine (right_calls n A c W hr2 HC.out).mono ?_
  rintro e w1 ⟨rfl, hb1⟩
  have HB3 := Aside0.mk (below_step HB2.out hb1)
  have HBN1 := Aside0.mk (blk_below HBN.out hb1)
  have HBR1 := Aside0.mk (blk_below HBR.out hb1)
  rw [hk]
  clear hb1 hr2 hk
  have n0 : w1.cell? ⟨w.heap.size, 0, none⟩ = some (.int .i64 n.f0) := (blk_cell HBN1.out 0).trans rfl
  have n1 : w1.cell? ⟨w.heap.size, 1, none⟩ = some (.int .i64 n.f1) := (blk_cell HBN1.out 1).trans rfl
  have n2 : w1.cell? ⟨w.heap.size, 2, none⟩ = some (.slice A n.f2.length c) := (blk_cell HBN1.out 2).trans rfl
  have z0 : w1.cell? ⟨w.heap.size + 1, 0, none⟩ = some (.bool false) := (blk_cell HBR1.out 0).trans rfl
  have z1 : w1.cell? ⟨w.heap.size + 1, 1, none⟩ = some (.slice none 0 0) := (blk_cell HBR1.out 1).trans rfl
  have z2 : w1.cell? ⟨w.heap.size + 1, 2, none⟩ = some (.slice none 0 0) := (blk_cell HBR1.out 2).trans rfl
  have z3 : w1.cell? ⟨w.heap.size + 1, 3, none⟩ = some (.slice none 0 0) := (blk_cell HBR1.out 3).trans rfl
  have z4 : w1.cell? ⟨w.heap.size + 1, 4, none⟩ = some (.slice none 0 0) := (blk_cell HBR1.out 4).trans rfl
  have zf : ∀ i, w1.frozen? ⟨w.heap.size + 1, i, none⟩ = false := fun i => blk_frozen HBR1.out i
  go_wp2_with fail
  refine bodyPost_ret (results_ct (P := Try.prog) rfl _ _ (w.heap.size + 1) 30 #[.bool false, .slice none 0 0, .slice none 0 0, .slice none 0 0, .slice none 0 0] (0, 0) _ rfl ?_ Try.underlying30 rfl (by kernel_rfl)) rfl ?_
  · exact set5 HBR1.out
  · exact autoPost_err _ _ _ (below_own HB3.out (by omega) (own_set5 (w.heap.size + 1) w1 _ _ _ _ _))
set_option maxRecDepth 100000 in
set_option maxHeartbeats 1600000 in
theorem build_full (n : S24) (A : Option Addr) (c : Nat) (w : World) (hr : Kd.C k24 w A n.f2.length n.f2) (hc : n.f2.length ≤ c) (hn : cntN n < 4611686018427387904) (hk : rightN n = true) (hf : 300 < cntN n) :
    Calls Try.prog 18 #[nodeV n A c] w (AutoPost (false, [], [], [], [], 3) w) := by
  have HR := Aside0.mk hr
  have HC := Aside0.mk hc
  have HN := Aside0.mk hn
  clear hr hc hn
  unfold nodeV
  go_enter Try.func18, Try.ntmps18
  go_wp2_with fail
  have hb2 : Below w.heap.size w ((w.alloc (.cells #[.int .i64 n.f0, .int .i64 n.f1, .slice A n.f2.length c] 24)).alloc (.cells #[.bool false, .slice none 0 0, .slice none 0 0, .slice none 0 0, .slice none 0 0] 30)) := by repeat (first | exact Below.refl _ _ | apply below_alloc)
  have HBN := Aside0.mk (show ((w.alloc (.cells #[.int .i64 n.f0, .int .i64 n.f1, .slice A n.f2.length c] 24)).alloc (.cells #[.bool false, .slice none 0 0, .slice none 0 0, .slice none 0 0, .slice none 0 0] 30)).heap[w.heap.size]? = some (.cells #[.int .i64 n.f0, .int .i64 n.f1, .slice A n.f2.length c] 24 (0, 0)) from by repeat (first | exact blk_new _ _ | refine blk_alloc ?_ _))
  have HBR := Aside0.mk (show ((w.alloc (.cells #[.int .i64 n.f0, .int .i64 n.f1, .slice A n.f2.length c] 24)).alloc (.cells #[.bool false, .slice none 0 0, .slice none 0 0, .slice none 0 0, .slice none 0 0] 30)).heap[w.heap.size + 1]? = some (.cells #[.bool false, .slice none 0 0, .slice none 0 0, .slice none 0 0, .slice none 0 0] 30 (0, 0)) from by simpa using blk_new (w.alloc (.cells #[.int .i64 n.f0, .int .i64 n.f1, .slice A n.f2.length c] 24)) (.cells #[.bool false, .slice none 0 0, .slice none 0 0, .slice none 0 0, .slice none 0 0] 30))
  have hr2 := Kd.C_below HR.out hb2
  have HB2 := Aside0.mk hb2
  clear hb2
  generalize ((w.alloc (.cells #[.int .i64 n.f0, .int .i64 n.f1, .slice A n.f2.length c] 24)).alloc (.cells #[.bool false, .slice none 0 0, .slice none 0 0, .slice none 0 0, .slice none 0 0] 30)) = W at HB2 HBN HBR hr2 ⊢
  refine (right_calls n A c W hr2 HC.out).mono ?_
  rintro e w1 ⟨rfl, hb1⟩
  have HB3 := Aside0.mk (below_step HB2.out hb1)
  have HBN1 := Aside0.mk (blk_below HBN.out hb1)
  have HBR1 := Aside0.mk (blk_below HBR.out hb1)
  rw [hk]
  clear hb1 hr2 hk
  have n0 : w1.cell? ⟨w.heap.size, 0, none⟩ = some (.int .i64 n.f0) := (blk_cell HBN1.out 0).trans rfl
  have n1 : w1.cell? ⟨w.heap.size, 1, none⟩ = some (.int .i64 n.f1) := (blk_cell HBN1.out 1).trans rfl
  have n2 : w1.cell? ⟨w.heap.size, 2, none⟩ = some (.slice A n.f2.length c) := (blk_cell HBN1.out 2).trans rfl
  go_wp2_with fail
  refine (count_calls n A c w1 (Kd.C_below HR.out HB3.out) HC.out HN.out).mono ?_
  rintro e w2 ⟨rfl, hb2⟩
  have HB4 := Aside0.mk (below_step HB3.out hb2)
  have HBN2 := Aside0.mk (blk_below HBN1.out hb2)
  have HBR2 := Aside0.mk (blk_below HBR1.out hb2)
  clear hb2 n0 n1 n2
  have z0 : w2.cell? ⟨w.heap.size + 1, 0, none⟩ = some (.bool false) := (blk_cell HBR2.out 0).trans rfl
  have z1 : w2.cell? ⟨w.heap.size + 1, 1, none⟩ = some (.slice none 0 0) := (blk_cell HBR2.out 1).trans rfl
  have z2 : w2.cell? ⟨w.heap.size + 1, 2, none⟩ = some (.slice none 0 0) := (blk_cell HBR2.out 2).trans rfl
  have z3 : w2.cell? ⟨w.heap.size + 1, 3, none⟩ = some (.slice none 0 0) := (blk_cell HBR2.out 3).trans rfl
  have z4 : w2.cell? ⟨w.heap.size + 1, 4, none⟩ = some (.slice none 0 0) := (blk_cell HBR2.out 4).trans rfl
  have zf : ∀ i, w2.frozen? ⟨w.heap.size + 1, i, none⟩ = false := fun i => blk_frozen HBR2.out i
  go_wp2_with fail
  refine bodyPost_ret (results_ct (P := Try.prog) rfl _ _ (w.heap.size + 1) 30 #[.bool false, .slice none 0 0, .slice none 0 0, .slice none 0 0, .slice none 0 0] (0, 0) _ rfl ?_ Try.underlying30 rfl (by kernel_rfl)) rfl ?_
  · exact set5 HBR2.out
  · exact autoPost_err _ _ _ (below_own HB4.out (by omega) (own_set5 (w.heap.size + 1) w2 _ _ _ _ _))
theorem rows_own5 {X : Nat → Prop} {B p g u : Nat} {vs vf : Value} {s : St} {c : Array Value} {w w' : World} (h : NA.Rows X B p vs vf s w) (hg : w.heap[g]? = some (.cells c u (0, 0))) (h3 : u ≠ 3) (hX : X g) (ho : Own g w w') : NA.Rows X B p vs vf s w' :=
  ⟨h.pb, Nat.lt_of_lt_of_le h.lt ho.size, R_own h.sets hg h3 ho, Kd.N_step h.fol (fun k hk hlt => ho.block k hlt (fun e => hk.2.2 (e ▸ hX)))⟩
def XB (w : World) (gx : Nat) : Nat → Prop := fun k => k < w.heap.size ∨ k = w.heap.size + 1 ∨ k = gx
set_option maxRecDepth 100000 in
set_option maxHeartbeats 1600000 in
theorem build_ok (n : S24) (A : Option Addr) (c : Nat) (w : World) (hr : Kd.C k24 w A n.f2.length n.f2) (hc : n.f2.length ≤ c) (hk : rightN n = true) (hf : cntN n ≤ 300) :
    Calls Try.prog 18 #[nodeV n A c] w (AutoPost (bldT n) w) := by
  have HR := Aside0.mk hr
  have HC := Aside0.mk hc
  have HK := Aside0.mk hk
  have HQ := Aside0.mk (bldN_ok n ⟨[], []⟩ hk ⟨rfl, fun r hr => by cases hr⟩)
  have HX := Aside0.mk (built_calls n)
  clear hr hc hk
  unfold nodeV
  go_enter Try.func18, Try.ntmps18
  go_wp2_with fail
  have hb2 : Below w.heap.size w ((w.alloc (.cells #[.int .i64 n.f0, .int .i64 n.f1, .slice A n.f2.length c] 24)).alloc (.cells #[.bool false, .slice none 0 0, .slice none 0 0, .slice none 0 0, .slice none 0 0] 30)) := by repeat (first | exact Below.refl _ _ | apply below_alloc)
  have HBN := Aside0.mk (show ((w.alloc (.cells #[.int .i64 n.f0, .int .i64 n.f1, .slice A n.f2.length c] 24)).alloc (.cells #[.bool false, .slice none 0 0, .slice none 0 0, .slice none 0 0, .slice none 0 0] 30)).heap[w.heap.size]? = some (.cells #[.int .i64 n.f0, .int .i64 n.f1, .slice A n.f2.length c] 24 (0, 0)) from by repeat (first | exact blk_new _ _ | refine blk_alloc ?_ _))
  have HBR := Aside0.mk (show ((w.alloc (.cells #[.int .i64 n.f0, .int .i64 n.f1, .slice A n.f2.length c] 24)).alloc (.cells #[.bool false, .slice none 0 0, .slice none 0 0, .slice none 0 0, .slice none 0 0] 30)).heap[w.heap.size + 1]? = some (.cells #[.bool false, .slice none 0 0, .slice none 0 0, .slice none 0 0, .slice none 0 0] 30 (0, 0)) from by simpa using blk_new (w.alloc (.cells #[.int .i64 n.f0, .int .i64 n.f1, .slice A n.f2.length c] 24)) (.cells #[.bool false, .slice none 0 0, .slice none 0 0, .slice none 0 0, .slice none 0 0] 30))
  have hr2 := Kd.C_below HR.out hb2
  have HB2 := Aside0.mk hb2
  clear hb2
  generalize ((w.alloc (.cells #[.int .i64 n.f0, .int .i64 n.f1, .slice A n.f2.length c] 24)).alloc (.cells #[.bool false, .slice none 0 0, .slice none 0 0, .slice none 0 0, .slice none 0 0] 30)) = W at HB2 HBN HBR hr2 ⊢
  refine (right_calls n A c W hr2 HC.out).mono ?_
  rintro e w1 ⟨rfl, hb1⟩
  have HB3 := Aside0.mk (below_step HB2.out hb1)
  have HBN1 := Aside0.mk (blk_below HBN.out hb1)
  have HBR1 := Aside0.mk (blk_below HBR.out hb1)
  rw [HK.out]
  clear hb1 hr2
  have n0 : w1.cell? ⟨w.heap.size, 0, none⟩ = some (.int .i64 n.f0) := (blk_cell HBN1.out 0).trans rfl
  have n1 : w1.cell? ⟨w.heap.size, 1, none⟩ = some (.int .i64 n.f1) := (blk_cell HBN1.out 1).trans rfl
  have n2 : w1.cell? ⟨w.heap.size, 2, none⟩ = some (.slice A n.f2.length c) := (blk_cell HBN1.out 2).trans rfl
  go_wp2_with fail
  refine (count_calls n A c w1 (Kd.C_below HR.out HB3.out) HC.out (by omega)).mono ?_
  rintro e w2 ⟨rfl, hb2⟩
  have HB4 := Aside0.mk (below_step HB3.out hb2)
  have HBN2 := Aside0.mk (blk_below HBN1.out hb2)
  have HBR2 := Aside0.mk (blk_below HBR1.out hb2)
  clear hb2 n0 n1 n2
  have n0 : w2.cell? ⟨w.heap.size, 0, none⟩ = some (.int .i64 n.f0) := (blk_cell HBN2.out 0).trans rfl
  have n1 : w2.cell? ⟨w.heap.size, 1, none⟩ = some (.int .i64 n.f1) := (blk_cell HBN2.out 1).trans rfl
  have n2 : w2.cell? ⟨w.heap.size, 2, none⟩ = some (.slice A n.f2.length c) := (blk_cell HBN2.out 2).trans rfl
  have hpr : w.heap.size + 2 ≤ w2.heap.size := (Array.getElem?_eq_some_iff.1 HBR2.out).1
  have q1 : w.heap.size < w2.heap.size := by omega
  have q2 : ¬ w.heap.size = w2.heap.size := by omega
  have q3 : ¬ w2.heap.size = w.heap.size := by omega
  have q4 : (w.heap.size == w2.heap.size) = false := by rw [beq_eq_false_iff_ne]; omega
  go_wp2_with fail
  clear q1 q2 q3 q4
  have HB5 := Aside0.mk (show Below w.heap.size w (w2.alloc (.cells #[.bool false, .slice none 0 0, .slice none 0 0, .slice none 0 0, .slice none 0 0] 30)) from below_alloc HB4.out _)
  have HBN3 := Aside0.mk (show (w2.alloc (.cells #[.bool false, .slice none 0 0, .slice none 0 0, .slice none 0 0, .slice none 0 0] 30)).heap[w.heap.size]? = some (.cells #[.int .i64 n.f0, .int .i64 n.f1, .slice A n.f2.length c] 24 (0, 0)) from blk_alloc HBN2.out _)
  have HBR3 := Aside0.mk (show (w2.alloc (.cells #[.bool false, .slice none 0 0, .slice none 0 0, .slice none 0 0, .slice none 0 0] 30)).heap[w.heap.size + 1]? = some (.cells #[.bool false, .slice none 0 0, .slice none 0 0, .slice none 0 0, .slice none 0 0] 30 (0, 0)) from blk_alloc HBR2.out _)
  have HBP := Aside0.mk (show (w2.alloc (.cells #[.bool false, .slice none 0 0, .slice none 0 0, .slice none 0 0, .slice none 0 0] 30)).heap[w2.heap.size]? = some (.cells #[.bool false, .slice none 0 0, .slice none 0 0, .slice none 0 0, .slice none 0 0] 30 (0, 0)) from blk_new w2 _)
  have HSD := Aside0.mk (show (w2.alloc (.cells #[.bool false, .slice none 0 0, .slice none 0 0, .slice none 0 0, .slice none 0 0] 30)).heap.size = w2.heap.size + 1 from by simp)
  clear n0 n1 n2
  generalize (w2.alloc (.cells #[.bool false, .slice none 0 0, .slice none 0 0, .slice none 0 0, .slice none 0 0] 30)) = wd at HB5 HBN3 HBR3 HBP HSD ⊢
  generalize hgp : w2.heap.size = p at HBP HSD hpr ⊢
  clear hgp
  have HA0 := Aside0.mk (show AutoP (fun k => k < w.heap.size ∨ k = w.heap.size + 1) w.heap.size p (.slice none 0 0) (.slice none 0 0) ⟨[], []⟩ wd from ⟨HBP.out, by omega, Kd.R_nil _ _ _ _ _, Kd.N_nil _ _ _ _ _⟩)
  refine (HX.out (fun k => k < w.heap.size ∨ k = w.heap.size + 1) w.heap.size p (.slice none 0 0) (.slice none 0 0) ⟨[], []⟩ A c w wd (Nat.le_refl _) HB5.out HR.out HC.out HA0.out.rows.base (fun k hk => by have := HSD.out; rcases hk with hk | hk; omega; omega) HA0.out ⟨rfl, fun r hr => by cases hr⟩ HK.out (by simpa using hf)).mono ?_
  rintro e w5 ⟨u1, u2, vs2, vf2, rfl, hA1, hS1, hP1⟩
  have HBT := Aside0.mk (show bldT n = ((bldN n ⟨[], []⟩).1.null, (bldN n ⟨[], []⟩).2.sets, (bldN n ⟨[], []⟩).1.first, (bldN n ⟨[], []⟩).1.last, (bldN n ⟨[], []⟩).2.follow, 0) from rfl)
  generalize bldN n ⟨[], []⟩ = q at hA1 hP1 HQ HBT ⊢
  obtain ⟨⟨nb, fi, la⟩, qs⟩ := q
  dsimp only at hA1 hP1 HQ HBT ⊢
  obtain ⟨U1, m1, rfl⟩ := Kd.R_slice hP1.1
  obtain ⟨U2, m2, rfl⟩ := Kd.R_slice hP1.2
  dsimp only at hP1
  obtain ⟨As, cs_, rfl⟩ := Kd.R_slice hA1.sets
  obtain ⟨Af, cf, rfl⟩ := Kd.N_slice hA1.fol
  have HA1 := Aside0.mk hA1
  have HP := Aside0.mk hP1
  have b3 := hS1.blk (HA0.out.away HBR3.out (by omega) (by decide) (by decide)) HBR3.out
  have HG := Aside0.mk b3
  have HB6 := Aside0.mk (HB5.out.trans hS1.below)
  have hgr5 : w.heap.size + 2 ≤ w5.heap.size := (Array.getElem?_eq_some_iff.1 b3).1
  clear hA1 hS1 hP1 b3
  unfold partV
  go_wp2_with fail
  have hbz := below_alloc (Below.refl w5.heap.size w5) (.cells #[.bool nb, .slice U1 fi.length m1, .slice U2 la.length m2] 69)
  have HM1 := Aside0.mk (show AutoP (XB w w5.heap.size) w.heap.size p (.slice As qs.sets.length cs_) (.slice Af qs.follow.length cf) qs (w5.alloc (.cells #[.bool nb, .slice U1 fi.length m1, .slice U2 la.length m2] 69)) from AutoM.less (AutoM.more HA1.out hbz (fun k => k = w5.heap.size) (fun k hk => by omega)) (fun k hk => by rcases hk with hk | hk | hk; exact .inl (.inl hk); exact .inl (.inr hk); exact .inr hk))
  have HP1 := Aside0.mk (show PartM w.heap.size p (.slice As qs.sets.length cs_) (.slice Af qs.follow.length cf) ⟨nb, fi, la⟩ (.slice U1 fi.length m1) (.slice U2 la.length m2) (w5.alloc (.cells #[.bool nb, .slice U1 fi.length m1, .slice U2 la.length m2] 69)) from ⟨Kd.R_below HP.out.1 hbz, Kd.R_below HP.out.2 hbz⟩)
  have HX1 := Aside0.mk (blk_new w5 (.cells #[.bool nb, .slice U1 fi.length m1, .slice U2 la.length m2] 69))
  have HG1 := Aside0.mk (show (w5.alloc (.cells #[.bool nb, .slice U1 fi.length m1, .slice U2 la.length m2] 69)).heap[w.heap.size + 1]? = some (.cells #[.bool false, .slice none 0 0, .slice none 0 0, .slice none 0 0, .slice none 0 0] 30 (0, 0)) from blk_alloc HG.out _)
  have HB1 := Aside0.mk (below_alloc HB6.out (.cells #[.bool nb, .slice U1 fi.length m1, .slice U2 la.length m2] 69))
  have hgp : w5.heap.size ≠ p := by have := HA1.out.lt; omega
  clear hbz
  generalize (w5.alloc (.cells #[.bool nb, .slice U1 fi.length m1, .slice U2 la.length m2] 69)) = w1' at HM1 HP1 HX1 HG1 HB1 ⊢
  clear HA1 HP HG HB6 HX
  generalize hgx0 : w5.heap.size = gx at HM1 HX1 hgp hgr5 ⊢
  clear hgx0
  have HT2 : Aside0 (∀ (l : Array Bool) (w' : World), w'.heap[gx]? = some (.cells #[.bool nb, .slice U1 fi.length m1, .slice U2 la.length m2] 69 (0, 0)) → Till [(none, (fun w' : World => w'.cell? ⟨gx, 0, none⟩ = some (.bool nb) ∧ w'.cell? ⟨gx, 1, none⟩ = some (.slice U1 fi.length m1) ∧ w'.cell? ⟨gx, 2, none⟩ = some (.slice U2 la.length m2)))] l w') := ⟨fun l w' h => Till.live ⟨(blk_cell h 0).trans rfl, (blk_cell h 1).trans rfl, (blk_cell h 2).trans rfl⟩ (Till.nil _ _)⟩
  refine st_ [(none, (fun w' : World => w'.cell? ⟨gx, 0, none⟩ = some (.bool nb) ∧ w'.cell? ⟨gx, 1, none⟩ = some (.slice U1 fi.length m1) ∧ w'.cell? ⟨gx, 2, none⟩ = some (.slice U2 la.length m2)))] #[false, false, false, false, false, false, false, false, false, false, false, false] (by kernel_rfl) rfl rfl (HT2.out _ _ HX1.out) (fun hT => ?_)
  have HM2 := Aside0.mk (HM1.out.below (below_drew (Below.refl _ _)))
  have HP2 := Aside0.mk (show PartM w.heap.size p (.slice As qs.sets.length cs_) (.slice Af qs.follow.length cf) ⟨nb, fi, la⟩ (.slice U1 fi.length m1) (.slice U2 la.length m2) w1'.drew from ⟨Kd.R_drew HP1.out.1, Kd.R_drew HP1.out.2⟩)
  have HX2 := Aside0.mk (show w1'.drew.heap[gx]? = _ from HX1.out)
  have HG2 := Aside0.mk (show w1'.drew.heap[w.heap.size + 1]? = _ from HG1.out)
  have HB2' := Aside0.mk (below_drew HB1.out)
  clear HM1 HP1 HX1 HG1 HB1
  generalize w1'.drew = wa at HM2 HP2 HX2 HG2 HB2' hT ⊢
  have HBP2 := Aside0.mk (show wa.heap[p]? = some (.cells #[.bool false, (.slice As qs.sets.length cs_), .slice none 0 0, .slice none 0 0, (.slice Af qs.follow.length cf)] 30 (0, 0)) from HM2.out.blk)
  have HR2 := Aside0.mk HM2.out.rows
  clear HM2
  have hxp : gx ≠ p := hgp
  refine pr_ (i := 0) (N := some 18) (v := ?_) (a' := ?_) #[true, false, false, false, false, false, false, false, false, false, false, false] rfl rfl (by kernel_rfl) (fun _ _ _ h => h) (Or.inl ⟨by rfl, ?_⟩) hT ?_ (fun hT => ?_)
  rotate_left
  · intro w'
    go_simp
    with_reducible rfl
  rotate_left
  · simp only [Act.put, List.setIfInBounds_toArray, List.set_cons_zero, List.set_cons_succ, i64_w, i32_w]
    rfl
  refine tk_ (i := 1) (N := some 19) (v := ?_) (a' := ?_) none (fun w' : World => w'.cell? ⟨gx, 0, none⟩ = some (.bool nb) ∧ w'.cell? ⟨gx, 1, none⟩ = some (.slice U1 fi.length m1) ∧ w'.cell? ⟨gx, 2, none⟩ = some (.slice U2 la.length m2)) #[true, true, false, false, false, false, false, false, false, false, false, false] (List.Mem.head _) rfl rfl (by kernel_rfl) (fun _ _ _ h => h) (Or.inl ⟨by rfl, ?_⟩) hT ?_ (fun hT => ?_)
  rotate_left
  · rintro w' ⟨s0, s1, s2⟩
    go_simp
    with_reducible rfl
  rotate_left
  · simp only [Act.put, List.setIfInBounds_toArray, List.set_cons_zero, List.set_cons_succ, i64_w, i32_w]
    rfl
  refine pr_ (i := 2) (N := some 20) (v := ?_) (a' := ?_) #[true, true, true, false, false, false, false, false, false, false, false, false] rfl rfl (by kernel_rfl) (fun _ _ _ h => h) (Or.inl ⟨by rfl, ?_⟩) hT ?_ (fun hT => ?_)
  rotate_left
  · intro w'
    go_simp
    with_reducible rfl
  rotate_left
  · simp only [Act.put, List.setIfInBounds_toArray, List.set_cons_zero, List.set_cons_succ, i64_w, i32_w]
    rfl
  refine tk_ (i := 3) (N := some 21) (v := ?_) (a' := ?_) none (fun w' : World => w'.cell? ⟨gx, 0, none⟩ = some (.bool nb) ∧ w'.cell? ⟨gx, 1, none⟩ = some (.slice U1 fi.length m1) ∧ w'.cell? ⟨gx, 2, none⟩ = some (.slice U2 la.length m2)) #[true, true, true, true, false, false, false, false, false, false, false, false] (List.Mem.head _) rfl rfl (by kernel_rfl) (fun _ _ _ h => h) (Or.inl ⟨by rfl, ?_⟩) hT ?_ (fun hT => ?_)
  rotate_left
  · rintro w' ⟨s0, s1, s2⟩
    go_simp
    with_reducible rfl
  rotate_left
  · simp only [Act.put, List.setIfInBounds_toArray, List.set_cons_zero, List.set_cons_succ, i64_w, i32_w]
    rfl
  refine pr_ (i := 4) (N := some 22) (v := ?_) (a' := ?_) #[true, true, true, true, true, false, false, false, false, false, false, false] rfl rfl (by kernel_rfl) (fun _ _ _ h => h) (Or.inl ⟨by rfl, ?_⟩) hT ?_ (fun hT => ?_)
  rotate_left
  · intro w'
    go_simp
    with_reducible rfl
  rotate_left
  · simp only [Act.put, List.setIfInBounds_toArray, List.set_cons_zero, List.set_cons_succ, i64_w, i32_w]
    rfl
  refine tk_ (i := 5) (N := some 23) (v := ?_) (a' := ?_) none (fun w' : World => w'.cell? ⟨gx, 0, none⟩ = some (.bool nb) ∧ w'.cell? ⟨gx, 1, none⟩ = some (.slice U1 fi.length m1) ∧ w'.cell? ⟨gx, 2, none⟩ = some (.slice U2 la.length m2)) #[true, true, true, true, true, true, false, false, false, false, false, false] (List.Mem.head _) rfl rfl (by kernel_rfl) (fun _ _ _ h => h) (Or.inl ⟨by rfl, ?_⟩) hT ?_ (fun hT => ?_)
  rotate_left
  · rintro w' ⟨s0, s1, s2⟩
    go_simp
    with_reducible rfl
  rotate_left
  · simp only [Act.put, List.setIfInBounds_toArray, List.set_cons_zero, List.set_cons_succ, i64_w, i32_w]
    rfl
  refine pr_ (i := 6) (N := some 24) (v := ?_) (a' := ?_) #[true, true, true, true, true, true, true, false, false, false, false, false] rfl rfl (by kernel_rfl) (fun _ _ _ h => h) (Or.inl ⟨by rfl, ?_⟩) hT ?_ (fun hT => ?_)
  rotate_left
  · intro w'
    go_simp
    with_reducible rfl
  rotate_left
  · simp only [Act.put, List.setIfInBounds_toArray, List.set_cons_zero, List.set_cons_succ, i64_w, i32_w]
    rfl
  have p0 : wa.cell? ⟨p, 0, none⟩ = some (.bool false) := (blk_cell HBP2.out 0).trans rfl
  have p1 : wa.cell? ⟨p, 1, none⟩ = some (.slice As qs.sets.length cs_) := (blk_cell HBP2.out 1).trans rfl
  have p2 : wa.cell? ⟨p, 2, none⟩ = some (.slice none 0 0) := (blk_cell HBP2.out 2).trans rfl
  have p3 : wa.cell? ⟨p, 3, none⟩ = some (.slice none 0 0) := (blk_cell HBP2.out 3).trans rfl
  have p4 : wa.cell? ⟨p, 4, none⟩ = some (.slice Af qs.follow.length cf) := (blk_cell HBP2.out 4).trans rfl
  have pf : ∀ i, wa.frozen? ⟨p, i, none⟩ = false := fun i => blk_frozen HBP2.out i
  have HR3 := Aside0.mk (HR2.out.setp 0 (.bool nb))
  have HBP3 := Aside0.mk (show (wa.setCell ⟨p, 0, none⟩ (.bool nb)).heap[p]? = some (.cells #[.bool nb, .slice As qs.sets.length cs_, .slice none 0 0, .slice none 0 0, .slice Af qs.follow.length cf] 30 (0, 0)) from blk_set HBP2.out 0 (.bool nb))
  have HX3 := Aside0.mk (blk_far (p := ⟨p, 0, none⟩) HX2.out hxp (.bool nb))
  have HG3 := Aside0.mk (blk_far (p := ⟨p, 0, none⟩) HG2.out (show w.heap.size + 1 ≠ p by omega) (.bool nb))
  have HP3 := Aside0.mk (show PartM w.heap.size p (.slice As qs.sets.length cs_) (.slice Af qs.follow.length cf) ⟨nb, fi, la⟩ (.slice U1 fi.length m1) (.slice U2 la.length m2) (wa.setCell ⟨p, 0, none⟩ (.bool nb)) from ⟨Kd.R_far HP2.out.1 (fun k hk => hk.1) _, Kd.R_far HP2.out.2 (fun k hk => hk.1) _⟩)
  have HB3' := Aside0.mk (HB2'.out.setCell (p := ⟨p, 0, none⟩) (show w.heap.size ≤ p by omega) (.bool nb))
  refine on_ (i := 7) (N := none) #[true, true, true, true, true, true, true, true, false, false, false, false] rfl rfl (by kernel_rfl) (fun K hK => ?_)
  refine skip_ (w1 := wa.setCell ⟨p, 0, none⟩ (.bool nb)) (by rfl) rfl ?_ ?_
  · go_simp
  refine hK.out _ _ (HT2.out _ _ HX3.out) (fun hT => ?_)
  clear hK K p0 p1 p2 p3 p4 pf
  generalize wa.setCell ⟨p, 0, none⟩ (.bool nb) = wb at HR3 HBP3 HX3 HP3 HB3' HG3 hT ⊢
  refine pr_ (i := 8) (N := some 25) (v := ?_) (a' := ?_) #[true, true, true, true, true, true, true, true, true, false, false, false] rfl rfl (by kernel_rfl) (fun _ _ _ h => h) (Or.inl ⟨by rfl, ?_⟩) hT ?_ (fun hT => ?_)
  rotate_left
  · intro w'
    go_simp
    with_reducible rfl
  rotate_left
  · simp only [Act.put, List.setIfInBounds_toArray, List.set_cons_zero, List.set_cons_succ, i64_w, i32_w]
    rfl
  have p0 : wb.cell? ⟨p, 0, none⟩ = some (.bool nb) := (blk_cell HBP3.out 0).trans rfl
  have p1 : wb.cell? ⟨p, 1, none⟩ = some (.slice As qs.sets.length cs_) := (blk_cell HBP3.out 1).trans rfl
  have p2 : wb.cell? ⟨p, 2, none⟩ = some (.slice none 0 0) := (blk_cell HBP3.out 2).trans rfl
  have p3 : wb.cell? ⟨p, 3, none⟩ = some (.slice none 0 0) := (blk_cell HBP3.out 3).trans rfl
  have p4 : wb.cell? ⟨p, 4, none⟩ = some (.slice Af qs.follow.length cf) := (blk_cell HBP3.out 4).trans rfl
  have pf : ∀ i, wb.frozen? ⟨p, i, none⟩ = false := fun i => blk_frozen HBP3.out i
  have HR4 := Aside0.mk (HR3.out.setp 2 (.slice U1 fi.length m1))
  have HBP4 := Aside0.mk (show (wb.setCell ⟨p, 2, none⟩ (.slice U1 fi.length m1)).heap[p]? = some (.cells #[.bool nb, .slice As qs.sets.length cs_, .slice U1 fi.length m1, .slice none 0 0, .slice Af qs.follow.length cf] 30 (0, 0)) from blk_set HBP3.out 2 (.slice U1 fi.length m1))
  have HX4 := Aside0.mk (blk_far (p := ⟨p, 2, none⟩) HX3.out hxp (.slice U1 fi.length m1))
  have HG4 := Aside0.mk (blk_far (p := ⟨p, 2, none⟩) HG3.out (show w.heap.size + 1 ≠ p by omega) (.slice U1 fi.length m1))
  have HP4 := Aside0.mk (show PartM w.heap.size p (.slice As qs.sets.length cs_) (.slice Af qs.follow.length cf) ⟨nb, fi, la⟩ (.slice U1 fi.length m1) (.slice U2 la.length m2) (wb.setCell ⟨p, 2, none⟩ (.slice U1 fi.length m1)) from ⟨Kd.R_far HP3.out.1 (fun k hk => hk.1) _, Kd.R_far HP3.out.2 (fun k hk => hk.1) _⟩)
  have HB4' := Aside0.mk (HB3'.out.setCell (p := ⟨p, 2, none⟩) (show w.heap.size ≤ p by omega) (.slice U1 fi.length m1))
  refine on_ (i := 9) (N := none) #[true, true, true, true, true, true, true, true, true, true, false, false] rfl rfl (by kernel_rfl) (fun K hK => ?_)
  refine skip_ (w1 := wb.setCell ⟨p, 2, none⟩ (.slice U1 fi.length m1)) (by rfl) rfl ?_ ?_
  · go_simp
  refine hK.out _ _ (HT2.out _ _ HX4.out) (fun hT => ?_)
  clear hK K p0 p1 p2 p3 p4 pf
  generalize wb.setCell ⟨p, 2, none⟩ (.slice U1 fi.length m1) = wc at HR4 HBP4 HX4 HP4 HB4' HG4 hT ⊢
  refine pr_ (i := 10) (N := some 26) (v := ?_) (a' := ?_) #[true, true, true, true, true, true, true, true, true, true, true, false] rfl rfl (by kernel_rfl) (fun _ _ _ h => h) (Or.inl ⟨by rfl, ?_⟩) hT ?_ (fun hT => ?_)
  rotate_left
  · intro w'
    go_simp
    with_reducible rfl
  rotate_left
  · simp only [Act.put, List.setIfInBounds_toArray, List.set_cons_zero, List.set_cons_succ, i64_w, i32_w]
    rfl
  have p0 : wc.cell? ⟨p, 0, none⟩ = some (.bool nb) := (blk_cell HBP4.out 0).trans rfl
  have p1 : wc.cell? ⟨p, 1, none⟩ = some (.slice As qs.sets.length cs_) := (blk_cell HBP4.out 1).trans rfl
  have p2 : wc.cell? ⟨p, 2, none⟩ = some (.slice U1 fi.length m1) := (blk_cell HBP4.out 2).trans rfl
  have p3 : wc.cell? ⟨p, 3, none⟩ = some (.slice none 0 0) := (blk_cell HBP4.out 3).trans rfl
  have p4 : wc.cell? ⟨p, 4, none⟩ = some (.slice Af qs.follow.length cf) := (blk_cell HBP4.out 4).trans rfl
  have pf : ∀ i, wc.frozen? ⟨p, i, none⟩ = false := fun i => blk_frozen HBP4.out i
  have HR5 := Aside0.mk (HR4.out.setp 3 (.slice U2 la.length m2))
  have HBP5 := Aside0.mk (show (wc.setCell ⟨p, 3, none⟩ (.slice U2 la.length m2)).heap[p]? = some (.cells #[.bool nb, .slice As qs.sets.length cs_, .slice U1 fi.length m1, .slice U2 la.length m2, .slice Af qs.follow.length cf] 30 (0, 0)) from blk_set HBP4.out 3 (.slice U2 la.length m2))
  have HX5 := Aside0.mk (blk_far (p := ⟨p, 3, none⟩) HX4.out hxp (.slice U2 la.length m2))
  have HG5 := Aside0.mk (blk_far (p := ⟨p, 3, none⟩) HG4.out (show w.heap.size + 1 ≠ p by omega) (.slice U2 la.length m2))
  have HP5 := Aside0.mk (show PartM w.heap.size p (.slice As qs.sets.length cs_) (.slice Af qs.follow.length cf) ⟨nb, fi, la⟩ (.slice U1 fi.length m1) (.slice U2 la.length m2) (wc.setCell ⟨p, 3, none⟩ (.slice U2 la.length m2)) from ⟨Kd.R_far HP4.out.1 (fun k hk => hk.1) _, Kd.R_far HP4.out.2 (fun k hk => hk.1) _⟩)
  have HB5' := Aside0.mk (HB4'.out.setCell (p := ⟨p, 3, none⟩) (show w.heap.size ≤ p by omega) (.slice U2 la.length m2))
  refine on_ (i := 11) (N := none) #[true, true, true, true, true, true, true, true, true, true, true, true] rfl rfl (by kernel_rfl) (fun K hK => ?_)
  refine skip_ (w1 := wc.setCell ⟨p, 3, none⟩ (.slice U2 la.length m2)) (by rfl) rfl ?_ ?_
  · go_simp
  refine hK.out _ _ (HT2.out _ _ HX5.out) (fun hT => ?_)
  clear hK K p0 p1 p2 p3 p4 pf
  generalize wc.setCell ⟨p, 3, none⟩ (.slice U2 la.length m2) = we at HR5 HBP5 HX5 HP5 HB5' HG5 hT ⊢
  refine dn_ (by kernel_rfl) ?_ _
  have p0 : we.cell? ⟨p, 0, none⟩ = some (.bool nb) := (blk_cell HBP5.out 0).trans rfl
  have p1 : we.cell? ⟨p, 1, none⟩ = some (.slice As qs.sets.length cs_) := (blk_cell HBP5.out 1).trans rfl
  have p2 : we.cell? ⟨p, 2, none⟩ = some (.slice U1 fi.length m1) := (blk_cell HBP5.out 2).trans rfl
  have p3 : we.cell? ⟨p, 3, none⟩ = some (.slice U2 la.length m2) := (blk_cell HBP5.out 3).trans rfl
  have p4 : we.cell? ⟨p, 4, none⟩ = some (.slice Af qs.follow.length cf) := (blk_cell HBP5.out 4).trans rfl
  have pf : ∀ i, we.frozen? ⟨p, i, none⟩ = false := fun i => blk_frozen HBP5.out i
  have z0 : we.cell? ⟨w.heap.size + 1, 0, none⟩ = some (.bool false) := (blk_cell HG5.out 0).trans rfl
  have z1 : we.cell? ⟨w.heap.size + 1, 1, none⟩ = some (.slice none 0 0) := (blk_cell HG5.out 1).trans rfl
  have z2 : we.cell? ⟨w.heap.size + 1, 2, none⟩ = some (.slice none 0 0) := (blk_cell HG5.out 2).trans rfl
  have z3 : we.cell? ⟨w.heap.size + 1, 3, none⟩ = some (.slice none 0 0) := (blk_cell HG5.out 3).trans rfl
  have z4 : we.cell? ⟨w.heap.size + 1, 4, none⟩ = some (.slice none 0 0) := (blk_cell HG5.out 4).trans rfl
  have zf : ∀ i, we.frozen? ⟨w.heap.size + 1, i, none⟩ = false := fun i => blk_frozen HG5.out i
  have hne1 : ¬ p = w.heap.size + 1 := by omega
  have hne2 : ¬ w.heap.size + 1 = p := by omega
  go_wp2_with fail
  refine bodyPost_ret (results_ct (P := Try.prog) rfl _ _ (w.heap.size + 1) 30 #[.bool nb, .slice As qs.sets.length cs_, .slice U1 fi.length m1, .slice U2 la.length m2, .slice Af qs.follow.length cf] (0, 0) _ rfl ?_ Try.underlying30 rfl (by kernel_rfl)) rfl ?_
  · exact set5 HG5.out
  · rw [HBT.out]
    have hO := own_set5 (w.heap.size + 1) we (.bool nb) (.slice As qs.sets.length cs_) (.slice U1 fi.length m1) (.slice U2 la.length m2) (.slice Af qs.follow.length cf)
    exact autoPost_ok (X := XB w gx) (e := ⟨nb, fi, la⟩) rfl (fun k hk => .inl hk) (rows_own5 HR5.out HG5.out (by decide) (.inr (.inl rfl)) hO) ⟨R_own HP5.out.1 HG5.out (by decide) hO, R_own HP5.out.2 HG5.out (by decide) hO⟩ (below_own HB5'.out (by omega) hO)
theorem build_calls (n : S24) (A : Option Addr) (c : Nat) (w : World) (hr : Kd.C k24 w A n.f2.length n.f2) (hc : n.f2.length ≤ c) (r : AutoT) (h : buildF n = some r) :
    Calls Try.prog 18 #[nodeV n A c] w (AutoPost r w) := by
  unfold buildF at h
  by_cases h1 : cntN n < 4611686018427387904
  · rw [if_pos h1] at h
    cases h2 : rightN n with
    | true =>
      rw [if_pos h2] at h
      by_cases h3 : cntN n ≤ 300
      · rw [if_pos h3] at h
        injection h with h; subst h
        exact build_ok n A c w hr hc h2 h3
      · rw [if_neg h3] at h
        injection h with h; subst h
        exact build_full n A c w hr hc h1 h2 (by omega)
    | false =>
      rw [if_neg (by rw [h2]; decide)] at h
      injection h with h; subst h
      exact build_err n A c w hr hc h1 h2
  · rw [if_neg h1] at h; cases h
end Go.Proofs.Ytkoofldididpgaa.NB

end
section
namespace Go.Proofs.Ytkoofldididpgaa.RB
open Go Go.RowKit Go.Proofs.YtkoofldididpgaaW.PrintWords Go.Proofs.YtkoofldididpgaaW.PrintLast Go.Proofs.YtkoofldididpgaaW.PrintMore
open Go.Proofs.Ytkoofldididpgaa.XB Go.Proofs.Ytkoofldididpgaa.NM Go.Proofs.Ytkoofldididpgaa.NR Go.Proofs.Ytkoofldididpgaa.NW Go.Proofs.Ytkoofldididpgaa.BM Go.Proofs.Ytkoofldididpgaa.FM Go.Proofs.Ytkoofldididpgaa.NA Go.Proofs.Ytkoofldididpgaa.NN Go.Proofs.Ytkoofldididpgaa.NT Go.Proofs.Ytkoofldididpgaa.NO Go.Proofs.Ytkoofldididpgaa.RT Go.Proofs.Ytkoofldididpgaa.NK Go.Proofs.Ytkoofldididpgaa.NP Go.Proofs.Ytkoofldididpgaa.NB
set_option linter.unusedVariables false
set_option linter.unusedSimpArgs false
def csR (vs vf : Value) : Array Value := #[vs, vf]
abbrev AutoR (X : Nat → Prop) := AutoM csR 75 X
section
variable {cs : Value → Value → Array Value} {t : Nat} {X : Nat → Prop}
theorem storeF {B p g n cap m : Nat} {vs v : Value} {s : St} {w : World} {ys : List Int} (h : AutoM cs t X B p vs (.slice (some ⟨g, 0, none⟩) n cap) s w) (hm : m < s.follow.length)
    (hFK : Kd.FK kII w (fun k => Away p vs (.slice (some ⟨g, 0, none⟩) n cap) k ∧ ¬ X k) ys [v]) :
    AutoM cs t X B p vs (.slice (some ⟨g, 0, none⟩) n cap) ⟨s.sets, s.follow.set m ys⟩ (w.setCells g m [v]) ∧ Stp B p vs (.slice (some ⟨g, 0, none⟩) n cap) vs (.slice (some ⟨g, 0, none⟩) n cap) w (w.setCells g m [v]) := by
  have hn := (Kd.N_reads' h.fol).1
  obtain ⟨c, hcl, _, hcc, _⟩ := Kd.N_elem h.fol [] (m : Int) (by omega) (by omega)
  have hgB := Kd.N_base h.fol g (by simp [Value.ownBlock])
  have hgp := (h.fol.1 g (by simp [Value.ownBlock])).1
  have hFK : Kd.FK kII w (fun k => Away p vs (.slice (some ⟨g, 0, none⟩) n cap) k ∧ ¬ X k) ys (c.take 0 ++ [v] ++ c.drop (0 + [v].length)) := by
    have e : c.take 0 ++ [v] ++ c.drop (0 + [v].length) = [v] := by
      rw [List.take_zero, List.nil_append, List.drop_eq_nil_of_le (by rw [hcl]; exact Nat.le_refl _), List.append_nil]
    rw [e]
    exact hFK
  obtain ⟨hN, hg⟩ := Kd.N_seg h.fol (m : Int) (by omega) (by omega) (j := 0) (seg := [v]) hcl hcc (by show 0 + 1 ≤ kII.sz; exact Nat.le_refl _) hFK (fun k hk => ⟨⟨hk.1.1, hk.1.2.1, hk.2⟩, fun e => hk.1.2.2 (by rw [e]; simp [Value.ownBlock])⟩)
  have e2 : w.setCells g ((m : Int).toNat * kII.sz + 0) [v] = w.setCells g m [v] := by
    rw [show (m : Int).toNat * kII.sz + 0 = m from by rw [Int.toNat_natCast]; show m * 1 + 0 = m; omega]
  rw [e2] at hN hg
  rw [Int.toNat_natCast] at hN
  refine ⟨⟨(hg.block p h.lt (fun e => hgp (by injection e with e; exact e.symm))).trans h.blk, h.pb, Kd.R_grown h.sets hg (fun k hk e => hk.2 (by rw [e]; simp [Value.ownBlock])), hN⟩, ?_⟩
  refine ⟨(Below.refl B w).grown hg (Nat.le_of_lt (Nat.lt_of_le_of_lt h.pb h.lt)) (fun k hk => by injection hk with hk; omega), fun k hk ha => hg.block k hk (fun e => ha.2.2 (by rw [e]; simp [Value.ownBlock])), .inl rfl, .inl rfl⟩
end
set_option maxRecDepth 100000 in
set_option maxHeartbeats 1600000 in
theorem after_calls (X : Nat → Prop) (B p : Nat) (vs vf vl v1 : Value) (s : St) (last first : List Int) (w : World) (hB : B ≤ w.heap.size) (hX : ∀ k, X k → k < w.heap.size) (hA : AutoR X B p vs vf s w) (hs : SOk s) (hm : s.sets.length ≤ 300)
    (hl : Kd.R kI 3 w B (Away p vs vf) vl last) (hl1 : In s.sets.length last) (hf : Kd.R kI 3 w B (Away p vs vf) v1 first) (hf1 : In s.sets.length first) :
    Calls Try.prog 77 #[.pointer (some ⟨p, 0, none⟩), vl, v1] w fun e w' => e = .returned (.tuple #[]) ∧ AutoR X B p vs vf ⟨s.sets, after s.follow last first⟩ w' ∧ Stp B p vs vf vs vf w w' := by
  have hl2 := hl1.len
  have hf2 := hf1.len
  obtain ⟨Al, cl, rfl, hlc, hlC⟩ := Kd.R_reads hl
  obtain ⟨Af, cf, rfl, hfc, hfC⟩ := Kd.R_reads hf
  have HA := Aside0.mk hA
  have HS := Aside0.mk hs
  have HL := Aside0.mk hl
  have HF := Aside0.mk hf
  have HL1 := Aside0.mk hl1
  have HF1 := Aside0.mk hf1
  clear hA hs hl hf hl1 hf1 hlC hfC
  go_enter Try.func77, Try.ntmps77
  go_wp2_with fail
  go_loopg [6] last.length (fun kq v6 wr => ∃ j : Nat, v6 = .int .i64 j ∧ Aside0 (j ≤ last.length ∧ kq + j = last.length) ∧ Aside0 (AutoR X B p vs vf ⟨s.sets, after s.follow (last.take j) first⟩ wr) ∧ Aside0 (Stp B p vs vf vs vf w wr))
  case atStart => exact ⟨0, rfl, ⟨by omega⟩, ⟨by rw [List.take_zero]; exact HA.out⟩, ⟨Stp.refl _ _ _ _ _⟩⟩
  case round =>
    obtain ⟨j, rfl, HI, HM, HT⟩ := hrel
    by_cases hlt : j < last.length
    · have hlC := (Kd.R_reads' (HT.out.row HL.out)).2.2
      obtain ⟨ad, rfl, e0⟩ := (Kd.reads_of_C (d := 0) hlC).at_ (j : Int) (by omega) (by omega)
      have hx : rdOf 0 last (j : Int) = last[j] := by simp [rdOf, List.getD_eq_getElem?_getD, hlt]
      have hb := HL1.out.2 last[j] (List.getElem_mem hlt)
      have htk := Aside0.mk (show last.take (j + 1) = last.take j ++ [last[j]] from List.take_succ_eq_append_getElem hlt)
      rw [hx] at e0
      simp only [Int.toNat_natCast] at e0
      generalize last[j] = i at e0 hb htk
      obtain ⟨q, rfl⟩ : ∃ q : Nat, i = (q : Int) + 1 := ⟨(i - 1).toNat, by omega⟩
      have hfl : (after s.follow (last.take j) first).length = s.sets.length := by rw [after_len, HS.out.len]
      have htk2 := Aside0.mk (show after s.follow (last.take (j + 1)) first = put1 (after s.follow (last.take j) first) ((q : Int) + 1) first by rw [htk.out, after_snoc])
      have hrows := Aside0.mk (after_ok HF1.out (last.take j) s.follow HS.out.rows)
      generalize hfo : after s.follow (last.take j) first = fo at HM hfl htk2 hrows
      clear hfo htk hx hlC
      obtain ⟨g, cap, rfl, hgB, hglt, hgc⟩ := Kd.N_form HM.out.fol (by show 0 < fo.length; omega)
      dsimp only at HM HT
      obtain ⟨c, hcl, hFK, hcc, hcf⟩ := Kd.N_elem HM.out.fol [] (q : Int) (by omega) (by show (q : Int) < (fo.length : Nat); omega)
      have hq : q < fo.length := by omega
      have hrq : fo.getD q [] = fo[q] := by simp [List.getD_eq_getElem?_getD, hq]
      rw [Int.toNat_natCast] at hFK hcc hcf
      dsimp only at hFK
      rw [hrq] at hFK
      obtain ⟨A0, c0, hcv, l0, g0⟩ := Kd.FK_now hFK
      subst hcv
      have hc3 : wr.cell? ⟨g, q, none⟩ = some (.slice A0 fo[q].length c0) := by have := hcc 0 _ rfl; rwa [show q * kII.sz + 0 = q by show q * 1 + 0 = q; omega] at this
      have hrl := Aside0.mk (hrows.out fo[q] (List.getElem_mem hq)).len
      have hput := Aside0.mk (show put1 fo ((q : Int) + 1) first = fo.set q (bothL fo[q] first) by unfold put1; rw [show ((q : Int) + 1 - 1).toNat = q by omega, hrq, bothL_fin (hrows.out fo[q] (List.getElem_mem hq)).1])
      have HFK := Aside0.mk (Kd.FK_mono hFK (ok' := fun k => Away p vs (.slice (some ⟨g, 0, none⟩) fo.length cap) k ∧ ¬ X k) (fun k hk => ⟨⟨hk.1.1, hk.1.2.1, fun e => hk.2 (by simpa [Value.ownBlock] using e)⟩, hk.1.2.2⟩))
      clear hFK
      generalize fo[q] = row at hc3 l0 g0 hrl hput HFK
      have hc2 : wr.cell? ⟨p, 1, none⟩ = some (.slice (some ⟨g, 0, none⟩) fo.length cap) := (blk_cell HM.out.blk 1).trans rfl
      have HC0 := Aside0.mk g0
      have HL0 := Aside0.mk l0
      have HFr := Kd.R_reads' (HT.out.row HF.out)
      have HCf := Aside0.mk HFr.2.2
      have HW1 : Aside0 (IntKind.i64.wrap (q : Int) = (q : Int)) := ⟨by rw [i64_w]; unfold wrap64; omega⟩
      have HFL := Aside0.mk hfl
      have hfL : fo.length = s.sets.length := hfl
      clear hfl
      clear hcc hcf HFr hcl g0 l0
      have hql : (q : Int) < (fo.length : Int) := by omega
      clear hfL
      go_wp2_with fail
      have HM2 := Aside0.mk (AutoM.below HM.out (below_drew (Below.refl wr.heap.size wr)))
      have HC2 := Aside0.mk (Kd.C_drew HC0.out)
      have HCf2 := Aside0.mk (Kd.C_drew HCf.out)
      have HE0 := Aside0.mk e0
      have HE2 := Aside0.mk hc2
      have HE3 := Aside0.mk hc3
      have HT0 : Aside0 (∀ (l : Array Bool) (w' : World), Below wr.heap.size wr w' → Till [(some 23, (fun w' : World => w'.cell? ⟨p, 1, none⟩ = some (.slice (some ⟨g, 0, none⟩) fo.length cap) ∧ w'.cell? (ad.add j) = some (.int .i64 ((q : Int) + 1)) ∧ w'.cell? ⟨g, q, none⟩ = some (.slice A0 row.length c0)))] l w') := ⟨fun l w' h => Till.live ⟨pw_cell_below h HE2.out, pw_cell_below h HE0.out, pw_cell_below h HE3.out⟩ (Till.nil _ _)⟩
      clear e0 hc2 hc3
      refine st_ [(some 23, (fun w' : World => w'.cell? ⟨p, 1, none⟩ = some (.slice (some ⟨g, 0, none⟩) fo.length cap) ∧ w'.cell? (ad.add j) = some (.int .i64 ((q : Int) + 1)) ∧ w'.cell? ⟨g, q, none⟩ = some (.slice A0 row.length c0)))] #[false, false, false, false, false, false, false, false, false, false, false, false, false, false, false, false, false, false, false, false, false, false, false, false] (by kernel_rfl) rfl rfl (HT0.out _ _ (below_drew (Below.refl _ _))) (fun hT => ?_)
      refine pr_ (i := 0) (N := some 13) (v := ?_) (a' := ?_) #[true, false, false, false, false, false, false, false, false, false, false, false, false, false, false, false, false, false, false, false, false, false, false, false] rfl rfl (by kernel_rfl) (fun _ _ _ h => h) (Or.inl ⟨by rfl, ?_⟩) hT ?_ (fun hT => ?_)
      rotate_left
      · intro w'
        go_simp
        with_reducible rfl
      rotate_left
      · simp only [Act.put, List.setIfInBounds_toArray, List.set_cons_zero, List.set_cons_succ, i64_w, i32_w]
        rfl
      refine pr_ (i := 1) (N := some 14) (v := ?_) (a' := ?_) #[true, true, false, false, false, false, false, false, false, false, false, false, false, false, false, false, false, false, false, false, false, false, false, false] rfl rfl (by kernel_rfl) (fun _ _ _ h => h) (Or.inl ⟨by rfl, ?_⟩) hT ?_ (fun hT => ?_)
      rotate_left
      · intro w'
        go_simp
        with_reducible rfl
      rotate_left
      · simp only [Act.put, List.setIfInBounds_toArray, List.set_cons_zero, List.set_cons_succ, i64_w, i32_w]
        rfl
      refine pr_ (i := 2) (N := some 15) (v := ?_) (a' := ?_) #[true, true, true, false, false, false, false, false, false, false, false, false, false, false, false, false, false, false, false, false, false, false, false, false] rfl rfl (by kernel_rfl) (fun _ _ _ h => h) (Or.inl ⟨by rfl, ?_⟩) hT ?_ (fun hT => ?_)
      rotate_left
      · intro w'
        go_simp
        with_reducible rfl
      rotate_left
      · simp only [Act.put, List.setIfInBounds_toArray, List.set_cons_zero, List.set_cons_succ, i64_w, i32_w]
        rfl
      refine tk_ (i := 3) (N := some 16) (v := ?_) (a' := ?_) (some 23) (fun w' : World => w'.cell? ⟨p, 1, none⟩ = some (.slice (some ⟨g, 0, none⟩) fo.length cap) ∧ w'.cell? (ad.add j) = some (.int .i64 ((q : Int) + 1)) ∧ w'.cell? ⟨g, q, none⟩ = some (.slice A0 row.length c0)) #[true, true, true, true, false, false, false, false, false, false, false, false, false, false, false, false, false, false, false, false, false, false, false, false] (List.Mem.head _) rfl rfl (by kernel_rfl) (fun _ _ _ h => h) (Or.inl ⟨by rfl, ?_⟩) hT ?_ (fun hT => ?_)
      rotate_left
      · rintro w' ⟨s0, s1, s2⟩
        go_simp
        with_reducible rfl
      rotate_left
      · simp only [Act.put, List.setIfInBounds_toArray, List.set_cons_zero, List.set_cons_succ, i64_w, i32_w]
        rfl
      refine pr_ (i := 4) (N := some 17) (v := ?_) (a' := ?_) #[true, true, true, true, true, false, false, false, false, false, false, false, false, false, false, false, false, false, false, false, false, false, false, false] rfl rfl (by kernel_rfl) (fun _ _ _ h => h) (Or.inl ⟨by rfl, ?_⟩) hT ?_ (fun hT => ?_)
      rotate_left
      · intro w'
        go_simp
        with_reducible rfl
      rotate_left
      · simp only [Act.put, List.setIfInBounds_toArray, List.set_cons_zero, List.set_cons_succ, i64_w, i32_w]
        rfl
      refine pr_ (i := 5) (N := some 18) (v := ?_) (a' := ?_) #[true, true, true, true, true, true, false, false, false, false, false, false, false, false, false, false, false, false, false, false, false, false, false, false] rfl rfl (by kernel_rfl) (fun _ _ _ h => h) (Or.inl ⟨by rfl, ?_⟩) hT ?_ (fun hT => ?_)
      rotate_left
      · intro w'
        go_simp
        with_reducible rfl
      rotate_left
      · simp only [Act.put, List.setIfInBounds_toArray, List.set_cons_zero, List.set_cons_succ, i64_w, i32_w]
        rfl
      refine pr_ (i := 6) (N := some 19) (v := ?_) (a' := ?_) #[true, true, true, true, true, true, true, false, false, false, false, false, false, false, false, false, false, false, false, false, false, false, false, false] rfl rfl (by kernel_rfl) (fun _ _ _ h => h) (Or.inl ⟨by rfl, ?_⟩) hT ?_ (fun hT => ?_)
      rotate_left
      · intro w'
        go_simp
        with_reducible rfl
      rotate_left
      · simp only [Act.put, List.setIfInBounds_toArray, List.set_cons_zero, List.set_cons_succ, i64_w, i32_w]
        rfl
      refine tk_ (i := 7) (N := some 20) (v := ?_) (a' := ?_) (some 23) (fun w' : World => w'.cell? ⟨p, 1, none⟩ = some (.slice (some ⟨g, 0, none⟩) fo.length cap) ∧ w'.cell? (ad.add j) = some (.int .i64 ((q : Int) + 1)) ∧ w'.cell? ⟨g, q, none⟩ = some (.slice A0 row.length c0)) #[true, true, true, true, true, true, true, true, false, false, false, false, false, false, false, false, false, false, false, false, false, false, false, false] (List.Mem.head _) rfl rfl (by kernel_rfl) (fun _ _ _ h => h) (Or.inl ⟨by rfl, ?_⟩) hT ?_ (fun hT => ?_)
      rotate_left
      · rintro w' ⟨s0, s1, s2⟩
        go_simp
        with_reducible rfl
      rotate_left
      · simp only [Act.put, List.setIfInBounds_toArray, List.set_cons_zero, List.set_cons_succ, i64_w, i32_w]
        rfl
      refine pr_ (i := 8) (N := some 21) (v := ?_) (a' := ?_) #[true, true, true, true, true, true, true, true, true, false, false, false, false, false, false, false, false, false, false, false, false, false, false, false] rfl rfl (by kernel_rfl) (fun _ _ _ h => h) (Or.inl ⟨by rfl, ?_⟩) hT ?_ (fun hT => ?_)
      rotate_left
      · intro w'
        go_simp
        exact congrArg (Value.int .i64) HW1.out
      rotate_left
      · simp only [Act.put, List.setIfInBounds_toArray, List.set_cons_zero, List.set_cons_succ, i64_w, i32_w]
        rfl
      refine pr_ (i := 9) (N := some 22) (v := ?_) (a' := ?_) #[true, true, true, true, true, true, true, true, true, true, false, false, false, false, false, false, false, false, false, false, false, false, false, false] rfl rfl (by kernel_rfl) (fun _ _ _ h => h) (Or.inl ⟨by rfl, ?_⟩) hT ?_ (fun hT => ?_)
      rotate_left
      · intro w'
        go_simp
        with_reducible rfl
      rotate_left
      · simp only [Act.put, List.setIfInBounds_toArray, List.set_cons_zero, List.set_cons_succ, i64_w, i32_w]
        rfl
      refine pr_ (i := 10) (N := some 23) (v := ?_) (a' := ?_) #[true, true, true, true, true, true, true, true, true, true, true, false, false, false, false, false, false, false, false, false, false, false, false, false] rfl rfl (by kernel_rfl) (fun _ _ _ h => h) (Or.inl ⟨by rfl, ?_⟩) hT ?_ (fun hT => ?_)
      rotate_left
      · intro w'
        go_simp
        with_reducible rfl
      rotate_left
      · simp only [Act.put, List.setIfInBounds_toArray, List.set_cons_zero, List.set_cons_succ, i64_w, i32_w]
        rfl
      refine pr_ (i := 11) (N := some 24) (v := ?_) (a' := ?_) #[true, true, true, true, true, true, true, true, true, true, true, true, false, false, false, false, false, false, false, false, false, false, false, false] rfl rfl (by kernel_rfl) (fun _ _ _ h => h) (Or.inl ⟨by rfl, ?_⟩) hT ?_ (fun hT => ?_)
      rotate_left
      · intro w'
        go_simp
        with_reducible rfl
      rotate_left
      · simp only [Act.put, List.setIfInBounds_toArray, List.set_cons_zero, List.set_cons_succ, i64_w, i32_w]
        rfl
      refine tk_ (i := 12) (N := some 25) (v := ?_) (a' := ?_) (some 23) (fun w' : World => w'.cell? ⟨p, 1, none⟩ = some (.slice (some ⟨g, 0, none⟩) fo.length cap) ∧ w'.cell? (ad.add j) = some (.int .i64 ((q : Int) + 1)) ∧ w'.cell? ⟨g, q, none⟩ = some (.slice A0 row.length c0)) #[true, true, true, true, true, true, true, true, true, true, true, true, true, false, false, false, false, false, false, false, false, false, false, false] (List.Mem.head _) rfl rfl (by kernel_rfl) (fun _ _ _ h => h) (Or.inl ⟨by rfl, ?_⟩) hT ?_ (fun hT => ?_)
      rotate_left
      · rintro w' ⟨s0, s1, s2⟩
        go_simp
        with_reducible rfl
      rotate_left
      · simp only [Act.put, List.setIfInBounds_toArray, List.set_cons_zero, List.set_cons_succ, i64_w, i32_w]
        rfl
      refine pr_ (i := 13) (N := some 26) (v := ?_) (a' := ?_) #[true, true, true, true, true, true, true, true, true, true, true, true, true, true, false, false, false, false, false, false, false, false, false, false] rfl rfl (by kernel_rfl) (fun _ _ _ h => h) (Or.inl ⟨by rfl, ?_⟩) hT ?_ (fun hT => ?_)
      rotate_left
      · intro w'
        go_simp
        with_reducible rfl
      rotate_left
      · simp only [Act.put, List.setIfInBounds_toArray, List.set_cons_zero, List.set_cons_succ, i64_w, i32_w]
        rfl
      refine pr_ (i := 14) (N := some 27) (v := ?_) (a' := ?_) #[true, true, true, true, true, true, true, true, true, true, true, true, true, true, true, false, false, false, false, false, false, false, false, false] rfl rfl (by kernel_rfl) (fun _ _ _ h => h) (Or.inl ⟨by rfl, ?_⟩) hT ?_ (fun hT => ?_)
      rotate_left
      · intro w'
        go_simp
        with_reducible rfl
      rotate_left
      · simp only [Act.put, List.setIfInBounds_toArray, List.set_cons_zero, List.set_cons_succ, i64_w, i32_w]
        rfl
      refine pr_ (i := 15) (N := some 28) (v := ?_) (a' := ?_) #[true, true, true, true, true, true, true, true, true, true, true, true, true, true, true, true, false, false, false, false, false, false, false, false] rfl rfl (by kernel_rfl) (fun _ _ _ h => h) (Or.inl ⟨by rfl, ?_⟩) hT ?_ (fun hT => ?_)
      rotate_left
      · intro w'
        go_simp
        with_reducible rfl
      rotate_left
      · simp only [Act.put, List.setIfInBounds_toArray, List.set_cons_zero, List.set_cons_succ, i64_w, i32_w]
        rfl
      refine tk_ (i := 16) (N := some 29) (v := ?_) (a' := ?_) (some 23) (fun w' : World => w'.cell? ⟨p, 1, none⟩ = some (.slice (some ⟨g, 0, none⟩) fo.length cap) ∧ w'.cell? (ad.add j) = some (.int .i64 ((q : Int) + 1)) ∧ w'.cell? ⟨g, q, none⟩ = some (.slice A0 row.length c0)) #[true, true, true, true, true, true, true, true, true, true, true, true, true, true, true, true, true, false, false, false, false, false, false, false] (List.Mem.head _) rfl rfl (by kernel_rfl) (fun _ _ _ h => h) (Or.inl ⟨by rfl, ?_⟩) hT ?_ (fun hT => ?_)
      rotate_left
      · rintro w' ⟨s0, s1, s2⟩
        go_simp
        with_reducible rfl
      rotate_left
      · simp only [Act.put, List.setIfInBounds_toArray, List.set_cons_zero, List.set_cons_succ, i64_w, i32_w]
        rfl
      refine pr_ (i := 17) (N := some 30) (v := ?_) (a' := ?_) #[true, true, true, true, true, true, true, true, true, true, true, true, true, true, true, true, true, true, false, false, false, false, false, false] rfl rfl (by kernel_rfl) (fun _ _ _ h => h) (Or.inl ⟨by rfl, ?_⟩) hT ?_ (fun hT => ?_)
      rotate_left
      · intro w'
        go_simp
        exact congrArg (Value.int .i64) HW1.out
      rotate_left
      · simp only [Act.put, List.setIfInBounds_toArray, List.set_cons_zero, List.set_cons_succ, i64_w, i32_w]
        rfl
      refine pr_ (i := 18) (N := some 31) (v := ?_) (a' := ?_) #[true, true, true, true, true, true, true, true, true, true, true, true, true, true, true, true, true, true, true, false, false, false, false, false] rfl rfl (by kernel_rfl) (fun _ _ _ h => h) (Or.inl ⟨by rfl, ?_⟩) hT ?_ (fun hT => ?_)
      rotate_left
      · intro w'
        go_simp
        with_reducible rfl
      rotate_left
      · simp only [Act.put, List.setIfInBounds_toArray, List.set_cons_zero, List.set_cons_succ, i64_w, i32_w]
        rfl
      refine tk_ (i := 19) (N := some 32) (v := ?_) (a' := ?_) (some 23) (fun w' : World => w'.cell? ⟨p, 1, none⟩ = some (.slice (some ⟨g, 0, none⟩) fo.length cap) ∧ w'.cell? (ad.add j) = some (.int .i64 ((q : Int) + 1)) ∧ w'.cell? ⟨g, q, none⟩ = some (.slice A0 row.length c0)) #[true, true, true, true, true, true, true, true, true, true, true, true, true, true, true, true, true, true, true, true, false, false, false, false] (List.Mem.head _) rfl rfl (by kernel_rfl) (fun _ _ _ h => h) (Or.inl ⟨by rfl, ?_⟩) hT ?_ (fun hT => ?_)
      rotate_left
      · rintro w' ⟨s0, s1, s2⟩
        go_simp
        with_reducible rfl
      rotate_left
      · simp only [Act.put, List.setIfInBounds_toArray, List.set_cons_zero, List.set_cons_succ, i64_w, i32_w]
        rfl
      refine pr_ (i := 20) (N := some 33) (v := ?_) (a' := ?_) #[true, true, true, true, true, true, true, true, true, true, true, true, true, true, true, true, true, true, true, true, true, false, false, false] rfl rfl (by kernel_rfl) (fun _ _ _ h => h) (Or.inl ⟨by rfl, ?_⟩) hT ?_ (fun hT => ?_)
      rotate_left
      · intro w'
        go_simp
        with_reducible rfl
      rotate_left
      · simp only [Act.put, List.setIfInBounds_toArray, List.set_cons_zero, List.set_cons_succ, i64_w, i32_w]
        rfl
      refine on_ (i := 21) (N := some 34) #[true, true, true, true, true, true, true, true, true, true, true, true, true, true, true, true, true, true, true, true, true, true, false, false] rfl rfl (by kernel_rfl) (fun K hK => ?_)
      refine goes_ Try.func76 (by kernel_rfl) rfl #[.slice A0 row.length c0, .slice Af first.length cf] (by kernel_rfl) rfl rfl (by simp only [List.map_toArray, List.map_cons, List.map_nil]; rfl) ?_
      refine (both_fp A0 Af c0 cf row first _ HC2.out HL0.out HCf2.out hfc (by have := hrl.out; omega)).mono ?_
      rintro e w3 ⟨v, rfl, hb3, hv⟩
      refine ⟨v, rfl, ?_⟩
      have HB3 := Aside0.mk (show Below wr.heap.size wr w3 from below_step (below_drew (Below.refl _ _)) hb3)
      refine hK.out _ _ (HT0.out _ _ HB3.out) (fun hT => ?_)
      clear hK K
      refine nm_ (a' := ?_) ?_ ?_
      rotate_left
      · show Act.put _ (some 34) _ = _
        simp only [Act.put, List.setIfInBounds_toArray, List.set_cons_zero, List.set_cons_succ, i64_w, i32_w]
        rfl
      refine pr_ (i := 22) (N := some 35) (v := ?_) (a' := ?_) #[true, true, true, true, true, true, true, true, true, true, true, true, true, true, true, true, true, true, true, true, true, true, true, false] rfl rfl (by kernel_rfl) (fun _ _ _ h => h) (Or.inl ⟨by rfl, ?_⟩) hT ?_ (fun hT => ?_)
      rotate_left
      · intro w'
        go_simp
        with_reducible rfl
      rotate_left
      · simp only [Act.put, List.setIfInBounds_toArray, List.set_cons_zero, List.set_cons_succ, i64_w, i32_w]
        rfl
      have HM3 := Aside0.mk (AutoM.below HM2.out hb3)
      have hwr := HT.out.below.size
      have hvs : ∃ Av cv, v = .slice Av (bothL row first).length cv := by
        rcases hv with ⟨h1, h2⟩ | h1
        · rw [h2]; exact ⟨_, _, h1⟩
        · exact Kd.R_slice h1
      have HV := Aside0.mk (show Kd.FK kII w3 (fun k => Away p vs (.slice (some ⟨g, 0, none⟩) fo.length cap) k ∧ ¬ X k) (bothL row first) [v] from by
        rcases hv with ⟨rfl, h2⟩ | h1
        · rw [h2]; exact Kd.FK_below HFK.out HB3.out
        · exact Kd.FK_of_M (base := B) ⟨v, rfl, HM2.out.new_row (Nat.le_trans hB hwr) (fun k hk => Nat.lt_of_lt_of_le (hX k hk) hwr) h1⟩)
      have HT3 := Aside0.mk (HT.out.trans (Stp.of_below (Nat.le_trans hB hwr) HB3.out))
      have hfr : w3.frozen? ⟨g, q, none⟩ = false := by obtain ⟨_, _, _, _, hcf3⟩ := Kd.N_elem HM3.out.fol [] (q : Int) (by omega) (by show (q : Int) < (fo.length : Nat); omega); have := hcf3 0; rwa [Int.toNat_natCast, show q * kII.sz + 0 = q by show q * 1 + 0 = q; omega] at this
      have hce : w3.cell? ⟨g, q, none⟩ = some (.slice A0 row.length c0) := pw_cell_below HB3.out HE3.out
      clear hb3 HM2 HC2 HCf2 hv
      obtain ⟨Av, cv, rfl⟩ := hvs
      refine on_ (i := 23) (N := none) #[true, true, true, true, true, true, true, true, true, true, true, true, true, true, true, true, true, true, true, true, true, true, true, true] rfl rfl (by kernel_rfl) (fun K hK => ?_)
      refine skip_ (w1 := w3.setCells g q [.slice Av (bothL row first).length cv]) (by rfl) rfl ?_ ?_
      · go_simp
        first | rfl | done
      refine hK.out _ _ (Till.dead rfl (Till.nil _ _)) (fun hT => ?_)
      clear hK K hT
      refine dn_ (by kernel_rfl) ?_ _
      obtain ⟨hA4, hS4⟩ := storeF HM3.out (m := q) (by show q < fo.length; omega) HV.out
      have HM4 := Aside0.mk hA4
      have HT4 := Aside0.mk (HT3.out.trans hS4)
      clear hA4 hS4 HT0 hce hfr
      generalize w3.setCells g q [.slice Av (bothL row first).length cv] = w4 at HM4 HT4 ⊢
      go_wp2_with fail
      go_roundg (last.length - (j + 1))
      case measure => have := HI.out; omega
      case rel => exact ⟨j + 1, by go_num, ⟨by have := HI.out; omega⟩, ⟨by rw [htk2.out, hput.out]; exact HM4.out⟩, HT4⟩
    · have := HI.out
      obtain rfl : j = last.length := by omega
      clear this
      go_wp2_with fail
      go_end0
      exact ⟨rfl, by have := HM.out; rwa [List.take_length] at this, HT.out⟩
end Go.Proofs.Ytkoofldididpgaa.RB

end
section
namespace Go.Proofs.Ytkoofldididpgaa.RB
open Go Go.RowKit Go.Proofs.YtkoofldididpgaaW.PrintWords Go.Proofs.YtkoofldididpgaaW.PrintLast Go.Proofs.YtkoofldididpgaaW.PrintMore
open Go.Proofs.Ytkoofldididpgaa.XB Go.Proofs.Ytkoofldididpgaa.NM Go.Proofs.Ytkoofldididpgaa.NR Go.Proofs.Ytkoofldididpgaa.NW Go.Proofs.Ytkoofldididpgaa.BM Go.Proofs.Ytkoofldididpgaa.FM Go.Proofs.Ytkoofldididpgaa.NA Go.Proofs.Ytkoofldididpgaa.NN Go.Proofs.Ytkoofldididpgaa.NT Go.Proofs.Ytkoofldididpgaa.NO Go.Proofs.Ytkoofldididpgaa.RT Go.Proofs.Ytkoofldididpgaa.NK Go.Proofs.Ytkoofldididpgaa.NP Go.Proofs.Ytkoofldididpgaa.NB
set_option linter.unusedVariables false
set_option linter.unusedSimpArgs false
def RPost (X : Nat → Prop) (B p : Nat) (vs vf : Value) (w : World) (r : BM.Edge × St) : Ending → World → Prop := fun e w' =>
  ∃ v1 v2 vs' vf', e = .returned (partV r.1.null v1 v2) ∧ AutoR X B p vs' vf' r.2 w' ∧ Stp B p vs vf vs' vf' w w' ∧ PartM B p vs' vf' r.1 v1 v2 w'
def NodeAt (n : S24) : Prop := ∀ (X : Nat → Prop) (B p : Nat) (vs vf : Value) (s : St) (A : Option Addr) (c : Nat) (w0 w : World), w0.heap.size ≤ B → Below w0.heap.size w0 w → Kd.C k24 w0 A n.f2.length n.f2 → n.f2.length ≤ c →
  B ≤ w.heap.size → (∀ k, X k → k < w.heap.size) → AutoR X B p vs vf s w → SOk s → rightN n = true → s.sets.length + cntN n ≤ 300 →
  Calls Try.prog 51 #[.pointer (some ⟨p, 0, none⟩), nodeV n A c] w (RPost X B p vs vf w (bldN n s))
def XR (X : Nat → Prop) (gr go : Nat) : Nat → Prop := fun k => X k ∨ k = gr ∨ k = go
structure LoopR (X : Nat → Prop) (B p gr go : Nat) (vs vf : Value) (r : BM.Edge × St) (w wr : World) (vs' vf' o1 o2 : Value) : Prop where
  auto : AutoR (XR X gr go) B p vs' vf' r.2 wr
  stp : Stp B p vs vf vs' vf' w wr
  part : PartM B p vs' vf' r.1 o1 o2 wr
  br : wr.heap[gr]? = some (.cells #[.bool false, .slice none 0 0, .slice none 0 0] 77 (0, 0))
  bo : wr.heap[go]? = some (.cells #[.bool r.1.null, o1, o2] 77 (0, 0))
structure Ends (B p : Nat) (gr go : Nat) (w : World) : Prop where
  hB : B ≤ w.heap.size
  hr : w.heap.size ≤ gr
  ho : w.heap.size ≤ go
  hp : p < w.heap.size
  ne : gr ≠ go
section
variable {X : Nat → Prop} {B p gr go : Nat} {vs vf : Value} {r r' : BM.Edge × St} {w wr w1 w2 w3 : World} {vs' vf' o1 o2 vs2 vf2 v1 v2 : Value}
theorem LoopR.base (h : LoopR X B p gr go vs vf r w wr vs' vf' o1 o2) : B ≤ wr.heap.size := h.auto.rows.base
theorem LoopR.below (h : LoopR X B p gr go vs vf r w wr vs' vf' o1 o2) (hb : Below wr.heap.size wr w1) : LoopR X B p gr go vs vf r w w1 vs' vf' o1 o2 :=
  ⟨h.auto.below hb, h.stp.trans (Stp.of_below h.base hb), ⟨Kd.R_below h.part.1 hb, Kd.R_below h.part.2 hb⟩, blk_below h.br hb, blk_below h.bo hb⟩
theorem LoopR.kept (h : LoopR X B p gr go vs vf r w wr vs' vf' o1 o2) (hS : Stp B p vs' vf' vs2 vf2 wr w2) {k u : Nat} {c : Array Value} (hk : wr.heap[k]? = some (.cells c u (0, 0))) (hkp : k ≠ p) (h3 : u ≠ 3) (h27 : u ≠ 27) : w2.heap[k]? = some (.cells c u (0, 0)) := hS.blk (h.auto.away hk hkp h3 h27) hk
theorem LoopR.next (h : LoopR X B p gr go vs vf r w wr vs' vf' o1 o2) (hE : Ends B p gr go w) (hA : AutoR (XR X gr go) B p vs2 vf2 r'.2 w2) (hS : Stp B p vs' vf' vs2 vf2 wr w2) (hO : Own go w2 w3)
    (h1 : (∃ n, w2.heap.size ≤ n ∧ Kd.R kI 3 w3 n (fun _ => True) v1 r'.1.first) ∨ Kd.R kI 3 w2 B (Away p vs2 vf2) v1 r'.1.first)
    (h2 : (∃ n, w2.heap.size ≤ n ∧ Kd.R kI 3 w3 n (fun _ => True) v2 r'.1.last) ∨ Kd.R kI 3 w2 B (Away p vs2 vf2) v2 r'.1.last)
    (hb : w3.heap[go]? = some (.cells #[.bool r'.1.null, v1, v2] 77 (0, 0))) :
    LoopR X B p gr go vs vf r' w w3 vs2 vf2 v1 v2 := by
  have hEp := hE.hp
  have hEo := hE.ho
  have hEr := hE.hr
  have bo := h.kept hS h.bo (by omega) (by decide) (by decide)
  have br := h.kept hS h.br (by omega) (by decide) (by decide)
  have key : ∀ (v : Value) (xs : List Int), ((∃ n, w2.heap.size ≤ n ∧ Kd.R kI 3 w3 n (fun _ => True) v xs) ∨ Kd.R kI 3 w2 B (Away p vs2 vf2) v xs) → Kd.R kI 3 w3 B (Away p vs2 vf2) v xs := by
    rintro v xs (⟨n, hn, h⟩ | h)
    · refine Kd.R_lower (Kd.R_mono (Kd.R_bound h) (fun k hk => ?_)) (show B ≤ n by have := hA.rows.base; omega)
      have h1 := hk.2.1
      have hp := hA.lt
      refine ⟨by omega, fun e => ?_, fun e => ?_⟩
      · have := (Kd.R_bound hA.sets).1 k e.symm; omega
      · have := Kd.N_lt hA.fol k e.symm; omega
    · exact R_own h bo (by decide) hO
  exact ⟨AutoM.own hA bo (by omega) (by decide) (.inr (.inr rfl)) hO, Stp.own hE.hB (h.stp.trans hS) hEo hO, ⟨key _ _ h1, key _ _ h2⟩, (hO.block gr (Array.getElem?_eq_some_iff.1 br).1 hE.ne).trans br, hb⟩
theorem LoopR.done (h : LoopR X B p gr go vs vf r w wr vs' vf' o1 o2) (hE : Ends B p gr go w) :
    RPost X B p vs vf w r (.returned (.agg #[.bool r.1.null, o1, o2])) (((wr.setCell ⟨gr, 0, none⟩ (.bool r.1.null)).setCell ⟨gr, 1, none⟩ o1).setCell ⟨gr, 2, none⟩ o2) := by
  have hO := own_set3 gr wr (.bool r.1.null) o1 o2
  have hEp := hE.hp
  have hEr := hE.hr
  exact ⟨o1, o2, vs', vf', rfl, AutoM.less (AutoM.own h.auto h.br (by omega) (by decide) (.inr (.inl rfl)) hO) (fun k hk => .inl hk), Stp.own hE.hB h.stp hEr hO, R_own h.part.1 h.br (by decide) hO, R_own h.part.2 h.br (by decide) hO⟩
end
theorem oldnew_row {A : Option Addr} {c : Nat} {xs ys : List Int} {v : Value} {w2 w3 w4 : World} {B : Nat} {ok : Nat → Prop} {n : Nat} (h : (v = .slice A xs.length c ∧ ys = xs) ∨ Kd.R kI 3 w4 n (fun _ => True) v ys) (ho : Kd.R kI 3 w2 B ok (.slice A xs.length c) xs) (hn : w2.heap.size ≤ n) (hm : ∀ k, n ≤ k → k < w4.heap.size → w3.heap[k]? = w4.heap[k]?) :
    (∃ n, w2.heap.size ≤ n ∧ Kd.R kI 3 w3 n (fun _ => True) v ys) ∨ Kd.R kI 3 w2 B ok v ys := by
  rcases h with ⟨rfl, rfl⟩ | h
  · exact .inr ho
  · exact .inl ⟨n, hn, R_from h hm⟩
theorem oldnew_slice {A : Option Addr} {c : Nat} {xs ys : List Int} {v : Value} {w : World} {n : Nat} (h : (v = .slice A xs.length c ∧ ys = xs) ∨ Kd.R kI 3 w n (fun _ => True) v ys) : ∃ A' c', v = .slice A' ys.length c' := by
  rcases h with ⟨rfl, rfl⟩ | h
  · exact ⟨_, _, rfl⟩
  · exact Kd.R_slice h
theorem own_below {g : Nat} {w w1 w2 : World} (h : Own g w w1) (hb : Below w1.heap.size w1 w2) : Own g w w2 :=
  ⟨hb.os.trans h.os, hb.tape.trans h.tape, hb.output.trans h.output, Nat.le_trans h.size hb.size, fun k hk hne => (hb.block k (Nat.lt_of_lt_of_le hk h.size)).trans (h.block k hk hne)⟩
theorem own_refl (g : Nat) (w : World) : Own g w w := ⟨rfl, rfl, rfl, Nat.le_refl _, fun _ _ _ => rfl⟩
set_option maxRecDepth 100000 in
set_option maxHeartbeats 3200000 in
theorem cat_calls (ks : List S24) (h : ∀ x ∈ ks, NodeAt x) (X : Nat → Prop) (B p : Nat) (vs vf : Value) (s : St) (A : Option Addr) (c : Nat) (w0 w : World) (h0B : w0.heap.size ≤ B) (hb0 : Below w0.heap.size w0 w) (hr : Kd.C k24 w0 A ks.length ks) (hc : ks.length ≤ c)
    (hB : B ≤ w.heap.size) (hX : ∀ k, X k → k < w.heap.size) (hA : AutoR X B p vs vf s w) (hs : SOk s) (hk : rightL ks = true) (hm : s.sets.length + cntL ks ≤ 300) :
    Calls Try.prog 75 #[.pointer (some ⟨p, 0, none⟩), .slice A ks.length c] w (RPost X B p vs vf w (catL ks ⟨true, [], []⟩ s)) := by
  have HH := Aside0.mk h
  have H0 := Aside0.mk hb0
  have HR := Aside0.mk hr
  have HC := Aside0.mk hc
  have HA := Aside0.mk hA
  have HS := Aside0.mk hs
  have HK := Aside0.mk hk
  have HM0 := Aside0.mk hm
  have HL := hr.2.1
  clear h hb0 hr hc hA hs hk hm
  go_enter Try.func75, Try.ntmps75
  go_wp2_with fail
  have hn0 : p < w.heap.size := HA.out.lt
  have HE : Ends B p (w.heap.size) (w.heap.size + 1) w := ⟨hB, Nat.le_refl _, by omega, hn0, by omega⟩
  have hb4 : Below w.heap.size w ((w.alloc (.cells #[.bool false, .slice none 0 0, .slice none 0 0] 77)).alloc (.cells #[.bool true, .slice none 0 0, .slice none 0 0] 77)) := by repeat (first | exact Below.refl _ _ | apply below_alloc)
  have br : ((w.alloc (.cells #[.bool false, .slice none 0 0, .slice none 0 0] 77)).alloc (.cells #[.bool true, .slice none 0 0, .slice none 0 0] 77)).heap[w.heap.size]? = some (.cells #[.bool false, .slice none 0 0, .slice none 0 0] 77 (0, 0)) := by repeat (first | exact blk_new _ _ | refine blk_alloc ?_ _)
  have bo : ((w.alloc (.cells #[.bool false, .slice none 0 0, .slice none 0 0] 77)).alloc (.cells #[.bool true, .slice none 0 0, .slice none 0 0] 77)).heap[w.heap.size + 1]? = some (.cells #[.bool true, .slice none 0 0, .slice none 0 0] 77 (0, 0)) := by simpa using blk_new (w.alloc (.cells #[.bool false, .slice none 0 0, .slice none 0 0] 77)) (.cells #[.bool true, .slice none 0 0, .slice none 0 0] 77)
  generalize ((w.alloc (.cells #[.bool false, .slice none 0 0, .slice none 0 0] 77)).alloc (.cells #[.bool true, .slice none 0 0, .slice none 0 0] 77)) = W at hb4 br bo ⊢
  have HM := Aside0.mk (show LoopR X B p (w.heap.size) (w.heap.size + 1) vs vf (catL (ks.take 0) ⟨true, [], []⟩ s) w W vs vf (.slice none 0 0) (.slice none 0 0) from by
    rw [List.take_zero, catL]
    exact ⟨AutoM.less (AutoM.more HA.out hb4 (fun k => k = w.heap.size ∨ k = w.heap.size + 1) (fun k hk => by omega)) (fun k hk => hk), Stp.of_below hB hb4, ⟨Kd.R_nil _ _ _ _ _, Kd.R_nil _ _ _ _ _⟩, br, bo⟩)
  clear hb4 br bo
  go_loopg [6] ks.length (fun kq vi wr => ∃ i : Nat, vi = .int .i64 i ∧ Aside0 (i ≤ ks.length ∧ kq + i = ks.length) ∧ Aside0 (∃ vs' vf' o1 o2, LoopR X B p (w.heap.size) (w.heap.size + 1) vs vf (catL (ks.take i) ⟨true, [], []⟩ s) w wr vs' vf' o1 o2))
  case atStart => exact ⟨0, rfl, ⟨by omega⟩, ⟨_, _, _, _, HM.out⟩⟩
  case round =>
    clear HM
    obtain ⟨i, rfl, HI, HM⟩ := hrel
    by_cases hlt : i < ks.length
    · obtain ⟨vs', vf', o1, o2, hM⟩ := HM.out
      clear HM
      have hW := catL_ok (ks.take i) ⟨true, [], []⟩ s (rightL_take HK.out i) HS.out (EOk.nil _ _)
      have hle := cntL_take_le ks (i + 1)
      rw [cntL_take ks i hlt] at hle
      have hM0 := HM0.out
      have HXr := Aside0.mk (rightL_get HK.out hlt)
      have HN := Aside0.mk (cat_next ks s i hlt)
      have HX := Aside0.mk (HH.out ks[i] (List.getElem_mem hlt))
      obtain ⟨ad, A2, c2, rfl, f0, f1, f2, l2, g2⟩ := at_T24 HR.out (i : Int) (by omega) (by omega)
      have hx : rd_T24 ks (i : Int) = ks[i] := by simp [rd_T24, List.getD_eq_getElem?_getD, hlt]
      rw [hx] at f0 f1 f2 l2 g2
      simp only [Int.toNat_natCast] at f0 f1 f2
      have hbr := below_stp H0.out h0B hM.stp.below
      have e0 := pw_cell_below hbr f0
      have e1 := pw_cell_below hbr f1
      have e2 := pw_cell_below hbr f2
      have HG := Aside0.mk g2
      have HL2 := Aside0.mk l2
      clear f0 f1 f2 hx g2 l2 hbr
      have hcx : cntN ks[i] ≤ 300 := by omega
      have hms : s.sets.length + cntL (ks.take i) + cntN ks[i] ≤ 300 := by omega
      clear hle hM0
      generalize ks[i] = x at e0 e1 e2 HX HG HL2 HXr HN hcx hms
      generalize catL (ks.take i) ⟨true, [], []⟩ s = r at hM hW HN
      have HW := Aside0.mk hW
      have hrl : r.2.sets.length + cntN x ≤ 300 := by have := hW.2.2; omega
      clear hW hms
      obtain ⟨⟨rn, rf, rla⟩, rs⟩ := r
      dsimp only at hM HW hrl HN
      obtain ⟨O1, d1, rfl⟩ := Kd.R_slice hM.part.1
      obtain ⟨O2, d2, rfl⟩ := Kd.R_slice hM.part.2
      dsimp only at hM
      have HM := Aside0.mk hM
      have hgo : w.heap.size + 1 < wr.heap.size := (Array.getElem?_eq_some_iff.1 hM.bo).1
      clear hM
      go_wp2_with fail
      refine (HX.out (XR X (w.heap.size) (w.heap.size + 1)) B p vs' vf' rs A2 c2 w0 wr h0B (below_stp H0.out h0B HM.out.stp.below) HG.out HL2.out HM.out.base (fun k hk => by rcases hk with hk | hk | hk; (have := hX k hk; omega); omega; omega) HM.out.auto HW.out.1 HXr.out hrl).mono ?_
      rintro e w1 ⟨u1, u2, vs2, vf2, rfl, hA1, hS1, hP1⟩
      have hW2 := bldN_ok x rs HXr.out HW.out.1
      generalize bldN x rs = q at hA1 hP1 HN hW2 ⊢
      obtain ⟨⟨qn, qf, ql⟩, qs⟩ := q
      dsimp only at hA1 hP1 HN hW2 ⊢
      obtain ⟨U1, m1, rfl⟩ := Kd.R_slice hP1.1
      obtain ⟨U2, m2, rfl⟩ := Kd.R_slice hP1.2
      dsimp only at hP1
      have bo1 := HM.out.kept hS1 HM.out.bo (by omega) (by decide) (by decide)
      have hgo1 : w.heap.size + 1 < w1.heap.size := (Array.getElem?_eq_some_iff.1 bo1).1
      have q1 : ¬ w.heap.size + 1 = w1.heap.size := by omega
      have q2 : ¬ w1.heap.size = w.heap.size + 1 := by omega
      have q3 : (w.heap.size + 1 == w1.heap.size) = false := by rw [beq_eq_false_iff_ne]; omega
      have b0 : w1.cell? ⟨w.heap.size + 1, 0, none⟩ = some (.bool rn) := (blk_cell bo1 0).trans rfl
      have b1 : w1.cell? ⟨w.heap.size + 1, 1, none⟩ = some (.slice O1 rf.length d1) := (blk_cell bo1 1).trans rfl
      have b2 : w1.cell? ⟨w.heap.size + 1, 2, none⟩ = some (.slice O2 rla.length d2) := (blk_cell bo1 2).trans rfl
      have HA1 := Aside0.mk hA1
      have HS1 := Aside0.mk hS1
      have HP1 := Aside0.mk hP1
      have HW2 := Aside0.mk hW2
      have HBO1 := Aside0.mk bo1
      clear hA1 hS1 hP1 hW2 bo1 e0 e1 e2
      unfold partV
      go_wp2_with fail
      have hbz := below_alloc (Below.refl w1.heap.size w1) (.cells #[.bool qn, .slice U1 qf.length m1, .slice U2 ql.length m2] 77)
      have HA2 := Aside0.mk (HA1.out.below hbz)
      have HS2 := Aside0.mk (HS1.out.trans (Stp.of_below HA1.out.rows.base hbz))
      have HP2 := Aside0.mk (show PartM B p vs2 vf2 ⟨qn, qf, ql⟩ (.slice U1 qf.length m1) (.slice U2 ql.length m2) (w1.alloc (.cells #[.bool qn, .slice U1 qf.length m1, .slice U2 ql.length m2] 77)) from ⟨Kd.R_below HP1.out.1 hbz, Kd.R_below HP1.out.2 hbz⟩)
      have HX2 := Aside0.mk (blk_new w1 (.cells #[.bool qn, .slice U1 qf.length m1, .slice U2 ql.length m2] 77))
      have hsz2 : w1.heap.size < (w1.alloc (.cells #[.bool qn, .slice U1 qf.length m1, .slice U2 ql.length m2] 77)).heap.size := by simp
      clear hbz b0 b1 b2 q1 q2 q3
      generalize w1.alloc (.cells #[.bool qn, .slice U1 qf.length m1, .slice U2 ql.length m2] 77) = w2 at HA2 HS2 HP2 HX2 hsz2 ⊢
      have hWl := HW2.out.2.2
      have hWr := HW.out.2.2
      have HPr := Aside0.mk (show PartM B p vs2 vf2 ⟨rn, rf, rla⟩ (.slice O1 rf.length d1) (.slice O2 rla.length d2) w2 from ⟨HS2.out.row HM.out.part.1, HS2.out.row HM.out.part.2⟩)
      refine (after_calls (XR X (w.heap.size) (w.heap.size + 1)) B p vs2 vf2 _ _ qs rla qf w2 HA2.out.rows.base (fun k hk => by rcases hk with hk | hk | hk; (have := hX k hk; omega); omega; omega) HA2.out HW2.out.1 (by dsimp only at hWl hWr; omega) HPr.out.2 ((HW.out.2.1.mono (by dsimp only at hWl hWr; omega)).last) HP2.out.1 (by have := HW2.out.2.1.first; dsimp only at hWl this; rw [hWl]; exact this)).mono ?_
      rintro e w3 ⟨rfl, hA3, hS3⟩
      have bo3 := hS3.blk (HA2.out.away (HM.out.kept HS2.out HM.out.bo (by omega) (by decide) (by decide)) (by omega) (by decide) (by decide)) (HM.out.kept HS2.out HM.out.bo (by omega) (by decide) (by decide))
      have bx3 := hS3.blk (HA2.out.away HX2.out (by have := HA1.out.lt; omega) (by decide) (by decide)) HX2.out
      have HA3 := Aside0.mk hA3
      have HS3 := Aside0.mk (HS2.out.trans hS3)
      have HPr3 := Aside0.mk (show PartM B p vs2 vf2 ⟨rn, rf, rla⟩ (.slice O1 rf.length d1) (.slice O2 rla.length d2) w3 from ⟨hS3.row HPr.out.1, hS3.row HPr.out.2⟩)
      have HPq3 := Aside0.mk (show PartM B p vs2 vf2 ⟨qn, qf, ql⟩ (.slice U1 qf.length m1) (.slice U2 ql.length m2) w3 from ⟨hS3.row HP2.out.1, hS3.row HP2.out.2⟩)
      generalize hgx : w1.heap.size = gx at bx3 hgo1 ⊢
      have hne1 : ¬ gx = w.heap.size + 1 := by omega
      have hne2 : ¬ w.heap.size + 1 = gx := by omega
      have BO3 := Aside0.mk bo3
      have BX3 := Aside0.mk bx3
      have lf := HW.out.2.1.first.len
      have ll := HW.out.2.1.last.len
      have kf := HW2.out.2.1.first.len
      have kl := HW2.out.2.1.last.len
      dsimp only at lf ll kf kl hWl hWr
      have hlim1 : rf.length + qf.length ≤ 10000 := by omega
      have hlim2 : rla.length + ql.length ≤ 10000 := by omega
      have HRf := Aside0.mk HW.out.2.1.first.1
      have HRl := Aside0.mk HW.out.2.1.last.1
      dsimp only at HRf HRl
      clear hA3 hS3 bo3 bx3 lf ll kf kl hWl hWr HA2 HS2 HP2 HX2 HPr hsz2
      have b0 : w3.cell? ⟨w.heap.size + 1, 0, none⟩ = some (.bool rn) := (blk_cell BO3.out 0).trans rfl
      have b1 : w3.cell? ⟨w.heap.size + 1, 1, none⟩ = some (.slice O1 rf.length d1) := (blk_cell BO3.out 1).trans rfl
      have b2 : w3.cell? ⟨w.heap.size + 1, 2, none⟩ = some (.slice O2 rla.length d2) := (blk_cell BO3.out 2).trans rfl
      have bf : ∀ i, w3.frozen? ⟨w.heap.size + 1, i, none⟩ = false := fun i => blk_frozen BO3.out i
      have x0 : w3.cell? ⟨gx, 0, none⟩ = some (.bool qn) := (blk_cell BX3.out 0).trans rfl
      have x1 : w3.cell? ⟨gx, 1, none⟩ = some (.slice U1 qf.length m1) := (blk_cell BX3.out 1).trans rfl
      have x2 : w3.cell? ⟨gx, 2, none⟩ = some (.slice U2 ql.length m2) := (blk_cell BX3.out 2).trans rfl
      cases rn <;> cases qn
      · skip
        have HO3 := Aside0.mk (own_refl (w.heap.size + 1) w3)
        go_wp2_with fail
        have HNx := Aside0.mk (show catL (ks.take (i + 1)) ⟨true, [], []⟩ s = ((⟨false, rf, ql⟩ : BM.Edge), ⟨qs.sets, after qs.follow rla qf⟩) from by rw [HN.out]; rfl)
        have hown : Own (w.heap.size + 1) w3 ((w3.setCell ⟨w.heap.size + 1, 2, none⟩ (.slice U2 ql.length m2)).setCell ⟨w.heap.size + 1, 0, none⟩ (.bool false)) := (own_trans (own_trans HO3.out (own_set1 (w.heap.size + 1) _ 2 (.slice U2 ql.length m2))) (own_set1 (w.heap.size + 1) _ 0 (.bool false)))
        have hblk : ((w3.setCell ⟨w.heap.size + 1, 2, none⟩ (.slice U2 ql.length m2)).setCell ⟨w.heap.size + 1, 0, none⟩ (.bool false)).heap[w.heap.size + 1]? = some (.cells #[.bool false, .slice O1 rf.length d1, .slice U2 ql.length m2] 77 (0, 0)) := (blk_set (blk_set BO3.out 2 (.slice U2 ql.length m2)) 0 (.bool false))
        have hgo3 : w.heap.size + 1 < w3.heap.size := (Array.getElem?_eq_some_iff.1 BO3.out).1
        have HMn := Aside0.mk (HM.out.next (r' := (⟨false, rf, ql⟩, ⟨qs.sets, after qs.follow rla qf⟩)) HE HA3.out HS3.out hown (.inr HPr3.out.1) (.inr HPq3.out.2) hblk)
        clear hown hblk b0 b1 b2 bf x0 x1 x2
        generalize ((w3.setCell ⟨w.heap.size + 1, 2, none⟩ (.slice U2 ql.length m2)).setCell ⟨w.heap.size + 1, 0, none⟩ (.bool false)) = wf at HMn ⊢
        skip
        go_roundg (ks.length - (i + 1))
        case measure => have := HI.out; omega
        case rel => exact ⟨i + 1, by go_num, ⟨by have := HI.out; omega⟩, ⟨_, _, _, _, by rw [HNx.out]; exact HMn.out⟩⟩
      · skip
        have HO3 := Aside0.mk (own_refl (w.heap.size + 1) w3)
        go_wp2_with fail
        have y1 := Kd.R_reads' HPr3.out.2
        have y2 := Kd.R_reads' HPq3.out.2
        refine (both_fp O2 U2 d2 m2 rla ql _ y1.2.2 y1.2.1 y2.2.2 y2.2.1 hlim2).mono ?_
        rintro e w6 ⟨v6, rfl, hb, hv6⟩
        clear y1 y2
        have HV6 := Aside0.mk hv6
        obtain ⟨E6, n6, rfl⟩ := oldnew_slice hv6
        clear hv6
        have HO6 := Aside0.mk (own_below HO3.out hb)
        have BO6 := Aside0.mk (blk_below BO3.out hb)
        have BX6 := Aside0.mk (blk_below BX3.out hb)
        have HB6 := Aside0.mk hb
        clear hb b0 b1 b2 bf x0 x1 x2
        have b0 : w6.cell? ⟨w.heap.size + 1, 0, none⟩ = some (.bool false) := (blk_cell BO6.out 0).trans rfl
        have b1 : w6.cell? ⟨w.heap.size + 1, 1, none⟩ = some (.slice O1 rf.length d1) := (blk_cell BO6.out 1).trans rfl
        have b2 : w6.cell? ⟨w.heap.size + 1, 2, none⟩ = some (.slice O2 rla.length d2) := (blk_cell BO6.out 2).trans rfl
        have bf : ∀ i, w6.frozen? ⟨w.heap.size + 1, i, none⟩ = false := fun i => blk_frozen BO6.out i
        have x0 : w6.cell? ⟨gx, 0, none⟩ = some (.bool true) := (blk_cell BX6.out 0).trans rfl
        have x1 : w6.cell? ⟨gx, 1, none⟩ = some (.slice U1 qf.length m1) := (blk_cell BX6.out 1).trans rfl
        have x2 : w6.cell? ⟨gx, 2, none⟩ = some (.slice U2 ql.length m2) := (blk_cell BX6.out 2).trans rfl
        generalize hz6 : bothL rla ql = z6 at HV6 ⊢
        have HZ6 := Aside0.mk hz6
        clear hz6
        go_wp2_with fail
        have HNx := Aside0.mk (show catL (ks.take (i + 1)) ⟨true, [], []⟩ s = ((⟨false, rf, bothL rla ql⟩ : BM.Edge), ⟨qs.sets, after qs.follow rla qf⟩) from by rw [HN.out, bothL_fin HRl.out]; rfl)
        rw [HZ6.out] at HNx
        have hown : Own (w.heap.size + 1) w3 ((w6.setCell ⟨w.heap.size + 1, 2, none⟩ (.slice E6 z6.length n6)).setCell ⟨w.heap.size + 1, 0, none⟩ (.bool false)) := (own_trans (own_trans HO6.out (own_set1 (w.heap.size + 1) _ 2 (.slice E6 z6.length n6))) (own_set1 (w.heap.size + 1) _ 0 (.bool false)))
        have hblk : ((w6.setCell ⟨w.heap.size + 1, 2, none⟩ (.slice E6 z6.length n6)).setCell ⟨w.heap.size + 1, 0, none⟩ (.bool false)).heap[w.heap.size + 1]? = some (.cells #[.bool false, .slice O1 rf.length d1, .slice E6 z6.length n6] 77 (0, 0)) := (blk_set (blk_set BO6.out 2 (.slice E6 z6.length n6)) 0 (.bool false))
        have hgo3 : w.heap.size + 1 < w3.heap.size := (Array.getElem?_eq_some_iff.1 BO3.out).1
        have HMn := Aside0.mk (HM.out.next (r' := (⟨false, rf, z6⟩, ⟨qs.sets, after qs.follow rla qf⟩)) HE HA3.out HS3.out hown (.inr HPr3.out.1) (oldnew_row (w3 := ((w6.setCell ⟨w.heap.size + 1, 2, none⟩ (.slice E6 z6.length n6)).setCell ⟨w.heap.size + 1, 0, none⟩ (.bool false))) (n := w3.heap.size) HV6.out HPr3.out.2 (Nat.le_refl _) (fun k hk hlt => by exact ((Below.heap_setCell _ _ _ k (show k ≠ w.heap.size + 1 by omega)).trans (Below.heap_setCell _ _ _ k (show k ≠ w.heap.size + 1 by omega))))) hblk)
        clear hown hblk b0 b1 b2 bf x0 x1 x2
        generalize ((w6.setCell ⟨w.heap.size + 1, 2, none⟩ (.slice E6 z6.length n6)).setCell ⟨w.heap.size + 1, 0, none⟩ (.bool false)) = wf at HMn ⊢
        skip
        go_roundg (ks.length - (i + 1))
        case measure => have := HI.out; omega
        case rel => exact ⟨i + 1, by go_num, ⟨by have := HI.out; omega⟩, ⟨_, _, _, _, by rw [HNx.out]; exact HMn.out⟩⟩
      · skip
        have HO3 := Aside0.mk (own_refl (w.heap.size + 1) w3)
        go_wp2_with fail
        have y1 := Kd.R_reads' HPr3.out.1
        have y2 := Kd.R_reads' HPq3.out.1
        refine (both_fp O1 U1 d1 m1 rf qf _ y1.2.2 y1.2.1 y2.2.2 y2.2.1 hlim1).mono ?_
        rintro e w4 ⟨v4, rfl, hb, hv4⟩
        clear y1 y2
        have HV4 := Aside0.mk hv4
        obtain ⟨E4, n4, rfl⟩ := oldnew_slice hv4
        clear hv4
        have HO4 := Aside0.mk (own_below HO3.out hb)
        have BO4 := Aside0.mk (blk_below BO3.out hb)
        have BX4 := Aside0.mk (blk_below BX3.out hb)
        have HB4 := Aside0.mk hb
        clear hb b0 b1 b2 bf x0 x1 x2
        have b0 : w4.cell? ⟨w.heap.size + 1, 0, none⟩ = some (.bool true) := (blk_cell BO4.out 0).trans rfl
        have b1 : w4.cell? ⟨w.heap.size + 1, 1, none⟩ = some (.slice O1 rf.length d1) := (blk_cell BO4.out 1).trans rfl
        have b2 : w4.cell? ⟨w.heap.size + 1, 2, none⟩ = some (.slice O2 rla.length d2) := (blk_cell BO4.out 2).trans rfl
        have bf : ∀ i, w4.frozen? ⟨w.heap.size + 1, i, none⟩ = false := fun i => blk_frozen BO4.out i
        have x0 : w4.cell? ⟨gx, 0, none⟩ = some (.bool false) := (blk_cell BX4.out 0).trans rfl
        have x1 : w4.cell? ⟨gx, 1, none⟩ = some (.slice U1 qf.length m1) := (blk_cell BX4.out 1).trans rfl
        have x2 : w4.cell? ⟨gx, 2, none⟩ = some (.slice U2 ql.length m2) := (blk_cell BX4.out 2).trans rfl
        generalize hz4 : bothL rf qf = z4 at HV4 ⊢
        have HZ4 := Aside0.mk hz4
        clear hz4
        go_wp2_with fail
        have HNx := Aside0.mk (show catL (ks.take (i + 1)) ⟨true, [], []⟩ s = ((⟨false, bothL rf qf, ql⟩ : BM.Edge), ⟨qs.sets, after qs.follow rla qf⟩) from by rw [HN.out, bothL_fin HRf.out]; rfl)
        rw [HZ4.out] at HNx
        have hown : Own (w.heap.size + 1) w3 (((w4.setCell ⟨w.heap.size + 1, 1, none⟩ (.slice E4 z4.length n4)).setCell ⟨w.heap.size + 1, 2, none⟩ (.slice U2 ql.length m2)).setCell ⟨w.heap.size + 1, 0, none⟩ (.bool false)) := (own_trans (own_trans (own_trans HO4.out (own_set1 (w.heap.size + 1) _ 1 (.slice E4 z4.length n4))) (own_set1 (w.heap.size + 1) _ 2 (.slice U2 ql.length m2))) (own_set1 (w.heap.size + 1) _ 0 (.bool false)))
        have hblk : (((w4.setCell ⟨w.heap.size + 1, 1, none⟩ (.slice E4 z4.length n4)).setCell ⟨w.heap.size + 1, 2, none⟩ (.slice U2 ql.length m2)).setCell ⟨w.heap.size + 1, 0, none⟩ (.bool false)).heap[w.heap.size + 1]? = some (.cells #[.bool false, .slice E4 z4.length n4, .slice U2 ql.length m2] 77 (0, 0)) := (blk_set (blk_set (blk_set BO4.out 1 (.slice E4 z4.length n4)) 2 (.slice U2 ql.length m2)) 0 (.bool false))
        have hgo3 : w.heap.size + 1 < w3.heap.size := (Array.getElem?_eq_some_iff.1 BO3.out).1
        have HMn := Aside0.mk (HM.out.next (r' := (⟨false, z4, ql⟩, ⟨qs.sets, after qs.follow rla qf⟩)) HE HA3.out HS3.out hown (oldnew_row (w3 := (((w4.setCell ⟨w.heap.size + 1, 1, none⟩ (.slice E4 z4.length n4)).setCell ⟨w.heap.size + 1, 2, none⟩ (.slice U2 ql.length m2)).setCell ⟨w.heap.size + 1, 0, none⟩ (.bool false))) (n := w3.heap.size) HV4.out HPr3.out.1 (Nat.le_refl _) (fun k hk hlt => ((Below.heap_setCell _ _ _ k (show k ≠ w.heap.size + 1 by omega)).trans ((Below.heap_setCell _ _ _ k (show k ≠ w.heap.size + 1 by omega)).trans (Below.heap_setCell _ _ _ k (show k ≠ w.heap.size + 1 by omega)))))) (.inr HPq3.out.2) hblk)
        clear hown hblk b0 b1 b2 bf x0 x1 x2
        generalize (((w4.setCell ⟨w.heap.size + 1, 1, none⟩ (.slice E4 z4.length n4)).setCell ⟨w.heap.size + 1, 2, none⟩ (.slice U2 ql.length m2)).setCell ⟨w.heap.size + 1, 0, none⟩ (.bool false)) = wf at HMn ⊢
        skip
        go_roundg (ks.length - (i + 1))
        case measure => have := HI.out; omega
        case rel => exact ⟨i + 1, by go_num, ⟨by have := HI.out; omega⟩, ⟨_, _, _, _, by rw [HNx.out]; exact HMn.out⟩⟩
      · skip
        have HO3 := Aside0.mk (own_refl (w.heap.size + 1) w3)
        go_wp2_with fail
        have y1 := Kd.R_reads' HPr3.out.1
        have y2 := Kd.R_reads' HPq3.out.1
        refine (both_fp O1 U1 d1 m1 rf qf _ y1.2.2 y1.2.1 y2.2.2 y2.2.1 hlim1).mono ?_
        rintro e w4 ⟨v4, rfl, hb, hv4⟩
        clear y1 y2
        have HV4 := Aside0.mk hv4
        obtain ⟨E4, n4, rfl⟩ := oldnew_slice hv4
        clear hv4
        have HO4 := Aside0.mk (own_below HO3.out hb)
        have BO4 := Aside0.mk (blk_below BO3.out hb)
        have BX4 := Aside0.mk (blk_below BX3.out hb)
        have HB4 := Aside0.mk hb
        clear hb b0 b1 b2 bf x0 x1 x2
        have b0 : w4.cell? ⟨w.heap.size + 1, 0, none⟩ = some (.bool true) := (blk_cell BO4.out 0).trans rfl
        have b1 : w4.cell? ⟨w.heap.size + 1, 1, none⟩ = some (.slice O1 rf.length d1) := (blk_cell BO4.out 1).trans rfl
        have b2 : w4.cell? ⟨w.heap.size + 1, 2, none⟩ = some (.slice O2 rla.length d2) := (blk_cell BO4.out 2).trans rfl
        have bf : ∀ i, w4.frozen? ⟨w.heap.size + 1, i, none⟩ = false := fun i => blk_frozen BO4.out i
        have x0 : w4.cell? ⟨gx, 0, none⟩ = some (.bool true) := (blk_cell BX4.out 0).trans rfl
        have x1 : w4.cell? ⟨gx, 1, none⟩ = some (.slice U1 qf.length m1) := (blk_cell BX4.out 1).trans rfl
        have x2 : w4.cell? ⟨gx, 2, none⟩ = some (.slice U2 ql.length m2) := (blk_cell BX4.out 2).trans rfl
        generalize hz4 : bothL rf qf = z4 at HV4 ⊢
        have HZ4 := Aside0.mk hz4
        clear hz4
        go_wp2_with fail
        have HO5 := Aside0.mk (own_trans HO4.out (own_set1 (w.heap.size + 1) w4 1 (.slice E4 z4.length n4)))
        have BO5 := Aside0.mk (show (w4.setCell ⟨w.heap.size + 1, 1, none⟩ (.slice E4 z4.length n4)).heap[w.heap.size + 1]? = some (.cells #[.bool true, .slice E4 z4.length n4, .slice O2 rla.length d2] 77 (0, 0)) from blk_set BO4.out 1 _)
        have BX5 := Aside0.mk (blk_far (p := ⟨w.heap.size + 1, 1, none⟩) BX4.out (show gx ≠ w.heap.size + 1 from hne1) (.slice E4 z4.length n4))
        have HK5 := Aside0.mk (show ∀ k, k ≠ w.heap.size + 1 → (w4.setCell ⟨w.heap.size + 1, 1, none⟩ (.slice E4 z4.length n4)).heap[k]? = w4.heap[k]? from fun k hk => Below.heap_setCell _ _ _ k hk)
        have HZ5 := Aside0.mk (show (w4.setCell ⟨w.heap.size + 1, 1, none⟩ (.slice E4 z4.length n4)).heap.size = w4.heap.size from by simp [World.setCell])
        clear b0 b1 b2 bf x0 x1 x2
        generalize (w4.setCell ⟨w.heap.size + 1, 1, none⟩ (.slice E4 z4.length n4)) = w5 at HO5 BO5 BX5 HK5 HZ5 ⊢
        have hR5 : PartM B p vs2 vf2 ⟨true, rf, rla⟩ (.slice O1 rf.length d1) (.slice O2 rla.length d2) w5 := ⟨R_own HPr3.out.1 BO3.out (by decide) HO5.out, R_own HPr3.out.2 BO3.out (by decide) HO5.out⟩
        have hQ5 : PartM B p vs2 vf2 ⟨true, qf, ql⟩ (.slice U1 qf.length m1) (.slice U2 ql.length m2) w5 := ⟨R_own HPq3.out.1 BO3.out (by decide) HO5.out, R_own HPq3.out.2 BO3.out (by decide) HO5.out⟩
        have y1 := Kd.R_reads' hR5.2
        have y2 := Kd.R_reads' hQ5.2
        refine (both_fp O2 U2 d2 m2 rla ql _ y1.2.2 y1.2.1 y2.2.2 y2.2.1 hlim2).mono ?_
        rintro e w6 ⟨v6, rfl, hb, hv6⟩
        clear y1 y2 hR5 hQ5
        have HV6 := Aside0.mk hv6
        obtain ⟨E6, n6, rfl⟩ := oldnew_slice hv6
        clear hv6
        have HO6 := Aside0.mk (own_below HO5.out hb)
        have BO6 := Aside0.mk (blk_below BO5.out hb)
        have BX6 := Aside0.mk (blk_below BX5.out hb)
        have HB6 := Aside0.mk hb
        clear hb
        have b0 : w6.cell? ⟨w.heap.size + 1, 0, none⟩ = some (.bool true) := (blk_cell BO6.out 0).trans rfl
        have b1 : w6.cell? ⟨w.heap.size + 1, 1, none⟩ = some (.slice E4 z4.length n4) := (blk_cell BO6.out 1).trans rfl
        have b2 : w6.cell? ⟨w.heap.size + 1, 2, none⟩ = some (.slice O2 rla.length d2) := (blk_cell BO6.out 2).trans rfl
        have bf : ∀ i, w6.frozen? ⟨w.heap.size + 1, i, none⟩ = false := fun i => blk_frozen BO6.out i
        have x0 : w6.cell? ⟨gx, 0, none⟩ = some (.bool true) := (blk_cell BX6.out 0).trans rfl
        have x1 : w6.cell? ⟨gx, 1, none⟩ = some (.slice U1 qf.length m1) := (blk_cell BX6.out 1).trans rfl
        have x2 : w6.cell? ⟨gx, 2, none⟩ = some (.slice U2 ql.length m2) := (blk_cell BX6.out 2).trans rfl
        generalize hz6 : bothL rla ql = z6 at HV6 ⊢
        have HZ6 := Aside0.mk hz6
        clear hz6
        go_wp2_with fail
        have HNx := Aside0.mk (show catL (ks.take (i + 1)) ⟨true, [], []⟩ s = ((⟨true, bothL rf qf, bothL rla ql⟩ : BM.Edge), ⟨qs.sets, after qs.follow rla qf⟩) from by rw [HN.out, bothL_fin HRf.out, bothL_fin HRl.out]; rfl)
        rw [HZ4.out] at HNx
        rw [HZ6.out] at HNx
        have hown : Own (w.heap.size + 1) w3 ((w6.setCell ⟨w.heap.size + 1, 2, none⟩ (.slice E6 z6.length n6)).setCell ⟨w.heap.size + 1, 0, none⟩ (.bool true)) := (own_trans (own_trans HO6.out (own_set1 (w.heap.size + 1) _ 2 (.slice E6 z6.length n6))) (own_set1 (w.heap.size + 1) _ 0 (.bool true)))
        have hblk : ((w6.setCell ⟨w.heap.size + 1, 2, none⟩ (.slice E6 z6.length n6)).setCell ⟨w.heap.size + 1, 0, none⟩ (.bool true)).heap[w.heap.size + 1]? = some (.cells #[.bool true, .slice E4 z4.length n4, .slice E6 z6.length n6] 77 (0, 0)) := (blk_set (blk_set BO6.out 2 (.slice E6 z6.length n6)) 0 (.bool true))
        have hgo3 : w.heap.size + 1 < w3.heap.size := (Array.getElem?_eq_some_iff.1 BO3.out).1
        have HMn := Aside0.mk (HM.out.next (r' := (⟨true, z4, z6⟩, ⟨qs.sets, after qs.follow rla qf⟩)) HE HA3.out HS3.out hown (oldnew_row (w3 := ((w6.setCell ⟨w.heap.size + 1, 2, none⟩ (.slice E6 z6.length n6)).setCell ⟨w.heap.size + 1, 0, none⟩ (.bool true))) (n := w3.heap.size) HV4.out HPr3.out.1 (Nat.le_refl _) (fun k hk hlt => by have hs := HB4.out.size; exact ((Below.heap_setCell _ _ _ k (show k ≠ w.heap.size + 1 by omega)).trans (Below.heap_setCell _ _ _ k (show k ≠ w.heap.size + 1 by omega))).trans ((HB6.out.block k (by rw [HZ5.out]; exact hlt)).trans (HK5.out k (by omega))))) (oldnew_row (w3 := ((w6.setCell ⟨w.heap.size + 1, 2, none⟩ (.slice E6 z6.length n6)).setCell ⟨w.heap.size + 1, 0, none⟩ (.bool true))) (n := w5.heap.size) HV6.out HPr3.out.2 (by have := HO5.out.size; omega) (fun k hk hlt => by have hs := HO5.out.size; exact ((Below.heap_setCell _ _ _ k (show k ≠ w.heap.size + 1 by omega)).trans (Below.heap_setCell _ _ _ k (show k ≠ w.heap.size + 1 by omega))))) hblk)
        clear hown hblk b0 b1 b2 bf x0 x1 x2
        generalize ((w6.setCell ⟨w.heap.size + 1, 2, none⟩ (.slice E6 z6.length n6)).setCell ⟨w.heap.size + 1, 0, none⟩ (.bool true)) = wf at HMn ⊢
        skip
        go_roundg (ks.length - (i + 1))
        case measure => have := HI.out; omega
        case rel => exact ⟨i + 1, by go_num, ⟨by have := HI.out; omega⟩, ⟨_, _, _, _, by rw [HNx.out]; exact HMn.out⟩⟩
    · have := HI.out
      obtain rfl : i = ks.length := by omega
      clear this
      obtain ⟨vs', vf', o1, o2, hM⟩ := HM.out
      rw [List.take_length] at hM
      obtain ⟨O1, d1, rfl⟩ := Kd.R_slice hM.part.1
      obtain ⟨O2, d2, rfl⟩ := Kd.R_slice hM.part.2
      generalize hre : catL ks ⟨true, [], []⟩ s = r at hM
      have HRE := Aside0.mk hre
      clear hre
      have b0 : wr.cell? ⟨w.heap.size + 1, 0, none⟩ = some (.bool r.1.null) := (blk_cell hM.bo 0).trans rfl
      have b1 : wr.cell? ⟨w.heap.size + 1, 1, none⟩ = some (.slice O1 r.1.first.length d1) := (blk_cell hM.bo 1).trans rfl
      have b2 : wr.cell? ⟨w.heap.size + 1, 2, none⟩ = some (.slice O2 r.1.last.length d2) := (blk_cell hM.bo 2).trans rfl
      have z0 : wr.cell? ⟨w.heap.size, 0, none⟩ = some (.bool false) := (blk_cell hM.br 0).trans rfl
      have z1 : wr.cell? ⟨w.heap.size, 1, none⟩ = some (.slice none 0 0) := (blk_cell hM.br 1).trans rfl
      have z2 : wr.cell? ⟨w.heap.size, 2, none⟩ = some (.slice none 0 0) := (blk_cell hM.br 2).trans rfl
      have zf : ∀ i, wr.frozen? ⟨w.heap.size, i, none⟩ = false := fun i => blk_frozen hM.br i
      have HMe := Aside0.mk hM
      clear HM hM
      go_wp2_with fail
      refine bodyPost_ret (results_c1 (P := Try.prog) rfl _ _ (w.heap.size) 77 #[.bool r.1.null, .slice O1 r.1.first.length d1, .slice O2 r.1.last.length d2] (0, 0) _ rfl ?_ Try.underlying77 rfl (by kernel_rfl)) rfl ?_
      · exact set3 HMe.out.br
      · rw [HRE.out]; exact HMe.out.done HE
end Go.Proofs.Ytkoofldididpgaa.RB

end
section
namespace Go.Proofs.Ytkoofldididpgaa.RB
open Go Go.RowKit Go.Proofs.YtkoofldididpgaaW.PrintWords Go.Proofs.YtkoofldididpgaaW.PrintLast Go.Proofs.YtkoofldididpgaaW.PrintMore
open Go.Proofs.Ytkoofldididpgaa.XB Go.Proofs.Ytkoofldididpgaa.NM Go.Proofs.Ytkoofldididpgaa.NR Go.Proofs.Ytkoofldididpgaa.NW Go.Proofs.Ytkoofldididpgaa.BM Go.Proofs.Ytkoofldididpgaa.FM Go.Proofs.Ytkoofldididpgaa.NA Go.Proofs.Ytkoofldididpgaa.NN Go.Proofs.Ytkoofldididpgaa.NT Go.Proofs.Ytkoofldididpgaa.NO Go.Proofs.Ytkoofldididpgaa.RT Go.Proofs.Ytkoofldididpgaa.NK Go.Proofs.Ytkoofldididpgaa.NP Go.Proofs.Ytkoofldididpgaa.NB
set_option linter.unusedVariables false
set_option linter.unusedSimpArgs false
theorem fk_nil (w : World) : Kd.FK kII w (fun _ => False) [] [.slice none 0 0] := fun W' _ => ⟨none, 0, rfl, Nat.le_refl _, Kd.C_nil _ _⟩
set_option maxRecDepth 100000 in
set_option maxHeartbeats 1600000 in
theorem node_set (X : Nat → Prop) (B p : Nat) (vs vf : Value) (s : St) (st : Int) (A : Option Addr) (c : Nat) (w : World) (hB : B ≤ w.heap.size) (hX : ∀ k, X k → k < w.heap.size) (hA : AutoR X B p vs vf s w) (hs : SOk s) (hm : s.sets.length + 1 ≤ 300) :
    Calls Try.prog 51 #[.pointer (some ⟨p, 0, none⟩), .agg #[.int .i64 1, .int .i64 st, .slice A 0 c]] w (RPost X B p vs vf w (⟨false, [(s.sets.length : Int) + 1], [(s.sets.length : Int) + 1]⟩, ⟨s.sets ++ [st], s.follow ++ [[]]⟩)) := by
  have HA := Aside0.mk hA
  have HS := Aside0.mk hs
  have hfl : s.follow.length + 1 ≤ 300 := by have := hs.len; omega
  clear hA hs
  go_enter Try.func51, Try.ntmps51
  go_wp2_with fail
  have hb3 : Below w.heap.size w ((w.alloc (.cells #[.int .i64 1, .int .i64 st, .slice A 0 c] 24)).alloc (.cells #[.bool false, .slice none 0 0, .slice none 0 0] 77)) := by repeat (first | exact Below.refl _ _ | apply below_alloc)
  have bn : ((w.alloc (.cells #[.int .i64 1, .int .i64 st, .slice A 0 c] 24)).alloc (.cells #[.bool false, .slice none 0 0, .slice none 0 0] 77)).heap[w.heap.size]? = some (.cells #[.int .i64 1, .int .i64 st, .slice A 0 c] 24 (0, 0)) := by repeat (first | exact blk_new _ _ | refine blk_alloc ?_ _)
  have br : ((w.alloc (.cells #[.int .i64 1, .int .i64 st, .slice A 0 c] 24)).alloc (.cells #[.bool false, .slice none 0 0, .slice none 0 0] 77)).heap[w.heap.size + 1]? = some (.cells #[.bool false, .slice none 0 0, .slice none 0 0] 77 (0, 0)) := by simpa using blk_new (w.alloc (.cells #[.int .i64 1, .int .i64 st, .slice A 0 c] 24)) (.cells #[.bool false, .slice none 0 0, .slice none 0 0] 77)
  have hsz : ((w.alloc (.cells #[.int .i64 1, .int .i64 st, .slice A 0 c] 24)).alloc (.cells #[.bool false, .slice none 0 0, .slice none 0 0] 77)).heap.size = w.heap.size + 2 := by simp
  generalize ((w.alloc (.cells #[.int .i64 1, .int .i64 st, .slice A 0 c] 24)).alloc (.cells #[.bool false, .slice none 0 0, .slice none 0 0] 77)) = W at hb3 bn br hsz ⊢
  have hlt := HA.out.lt
  have hA0 := AutoM.more HA.out hb3 (fun k => k = w.heap.size + 1) (fun k hk => by omega)
  have HXX : Aside0 (∀ k, (X k ∨ k = w.heap.size + 1) → k < W.heap.size) := ⟨fun k hk => by
    rcases hk with hk | hk
    · have := hX k hk; omega
    · omega⟩
  have HS3 := Aside0.mk (Stp.of_below (p := p) (vs := vs) (vf := vf) hB hb3)
  have HG0 := Aside0.mk (show Grw (fun k => X k ∨ k = w.heap.size + 1) B p vs vf (csR vs vf) 75 W vs vf s W.drew from (Grw.mk hA0.rows (Stp.refl _ _ _ _ _) hA0.blk).below (below_drew (Below.refl _ _)))
  have HAN := Aside0.mk (hA0.away bn (by omega) (by decide) (by decide))
  have HAR := Aside0.mk (hA0.away br (by omega) (by decide) (by decide))
  have BN := Aside0.mk bn
  have BR := Aside0.mk br
  have hWw : w.heap.size + 2 ≤ W.heap.size := by omega
  clear bn br hsz hA0 hb3 hX
  have HTG : Aside0 (∀ (l : Array Bool) (v1 v2 : Value) (s' : St) (w' : World), Grw (fun k => X k ∨ k = w.heap.size + 1) B p vs vf (csR vs vf) 75 W v1 v2 s' w' → Till [(some 11, (fun w' : World => w'.cell? ⟨p, 0, none⟩ = some vs ∧ w'.cell? ⟨w.heap.size, 1, none⟩ = some (.int .i64 st)))] l w') := ⟨fun l v1 v2 s' w' h =>
    Till.live ⟨(blk_cell h.blk 0).trans rfl, (blk_cell (h.at_ HAN.out BN.out) 1).trans rfl⟩ (Till.nil _ _)⟩
  refine st_ [(some 11, (fun w' : World => w'.cell? ⟨p, 0, none⟩ = some vs ∧ w'.cell? ⟨w.heap.size, 1, none⟩ = some (.int .i64 st)))] #[false, false, false, false, false, false, false, false, false, false, false, false] (by kernel_rfl) rfl rfl (HTG.out _ _ _ _ _ HG0.out) (fun hT => ?_)
  refine pr_ (i := 0) (N := some 14) (v := ?_) (a' := ?_) #[true, false, false, false, false, false, false, false, false, false, false, false] rfl rfl (by kernel_rfl) (fun _ _ _ h => h) (Or.inl ⟨by rfl, ?_⟩) hT ?_ (fun hT => ?_)
  rotate_left
  · intro w'
    go_simp
    with_reducible rfl
  rotate_left
  · simp only [Act.put, List.setIfInBounds_toArray, List.set_cons_zero, List.set_cons_succ, i64_w, i32_w]
    rfl
  refine pr_ (i := 1) (N := some 15) (v := ?_) (a' := ?_) #[true, true, false, false, false, false, false, false, false, false, false, false] rfl rfl (by kernel_rfl) (fun _ _ _ h => h) (Or.inl ⟨by rfl, ?_⟩) hT ?_ (fun hT => ?_)
  rotate_left
  · intro w'
    go_simp
    with_reducible rfl
  rotate_left
  · simp only [Act.put, List.setIfInBounds_toArray, List.set_cons_zero, List.set_cons_succ, i64_w, i32_w]
    rfl
  refine pr_ (i := 2) (N := some 16) (v := ?_) (a' := ?_) #[true, true, true, false, false, false, false, false, false, false, false, false] rfl rfl (by kernel_rfl) (fun _ _ _ h => h) (Or.inl ⟨by rfl, ?_⟩) hT ?_ (fun hT => ?_)
  rotate_left
  · intro w'
    go_simp
    with_reducible rfl
  rotate_left
  · simp only [Act.put, List.setIfInBounds_toArray, List.set_cons_zero, List.set_cons_succ, i64_w, i32_w]
    rfl
  refine pr_ (i := 3) (N := some 17) (v := ?_) (a' := ?_) #[true, true, true, true, false, false, false, false, false, false, false, false] rfl rfl (by kernel_rfl) (fun _ _ _ h => h) (Or.inl ⟨by rfl, ?_⟩) hT ?_ (fun hT => ?_)
  rotate_left
  · intro w'
    go_simp
    with_reducible rfl
  rotate_left
  · simp only [Act.put, List.setIfInBounds_toArray, List.set_cons_zero, List.set_cons_succ, i64_w, i32_w]
    rfl
  refine tk_ (i := 4) (N := some 18) (v := ?_) (a' := ?_) (some 11) (fun w' : World => w'.cell? ⟨p, 0, none⟩ = some vs ∧ w'.cell? ⟨w.heap.size, 1, none⟩ = some (.int .i64 st)) #[true, true, true, true, true, false, false, false, false, false, false, false] (List.Mem.head _) rfl rfl (by kernel_rfl) (fun _ _ _ h => h) (Or.inl ⟨by rfl, ?_⟩) hT ?_ (fun hT => ?_)
  rotate_left
  · rintro w' ⟨s0, s1⟩
    go_simp
    with_reducible rfl
  rotate_left
  · simp only [Act.put, List.setIfInBounds_toArray, List.set_cons_zero, List.set_cons_succ, i64_w, i32_w]
    rfl
  refine pr_ (i := 5) (N := some 19) (v := ?_) (a' := ?_) #[true, true, true, true, true, true, false, false, false, false, false, false] rfl rfl (by kernel_rfl) (fun _ _ _ h => h) (Or.inl ⟨by rfl, ?_⟩) hT ?_ (fun hT => ?_)
  rotate_left
  · intro w'
    go_simp
    with_reducible rfl
  rotate_left
  · simp only [Act.put, List.setIfInBounds_toArray, List.set_cons_zero, List.set_cons_succ, i64_w, i32_w]
    rfl
  refine tk_ (i := 6) (N := some 20) (v := ?_) (a' := ?_) (some 11) (fun w' : World => w'.cell? ⟨p, 0, none⟩ = some vs ∧ w'.cell? ⟨w.heap.size, 1, none⟩ = some (.int .i64 st)) #[true, true, true, true, true, true, true, false, false, false, false, false] (List.Mem.head _) rfl rfl (by kernel_rfl) (fun _ _ _ h => h) (Or.inl ⟨by rfl, ?_⟩) hT ?_ (fun hT => ?_)
  rotate_left
  · rintro w' ⟨s0, s1⟩
    go_simp
    with_reducible rfl
  rotate_left
  · simp only [Act.put, List.setIfInBounds_toArray, List.set_cons_zero, List.set_cons_succ, i64_w, i32_w]
    rfl
  have hz0 : W.drew.heap.size = W.heap.size := rfl
  generalize W.drew = wd at HG0 hT hz0 ⊢
  refine on_ (i := 7) (N := some 21) #[true, true, true, true, true, true, true, true, false, false, false, false] rfl rfl (by kernel_rfl) (fun K hK => ?_)
  refine val_ (v := .slice (some ⟨wd.heap.size, 0, none⟩) 1 1) (w1 := wd.alloc (.cells #[.int .i64 st] 3)) (by rfl) rfl ?_ ?_
  · go_simp
  have HGa := Aside0.mk (HG0.out.below (below_alloc (Below.refl _ _) (.cells #[.int .i64 st] 3)))
  have BL1 := Aside0.mk (blk_new wd (.cells #[.int .i64 st] 3))
  have hza : (wd.alloc (.cells #[.int .i64 st] 3)).heap.size = wd.heap.size + 1 := by simp
  refine hK.out _ _ (HTG.out _ _ _ _ _ HGa.out) (fun hT => ?_)
  clear hK K
  generalize wd.alloc (.cells #[.int .i64 st] 3) = wa at hza HGa BL1 hT ⊢
  refine nm_ (a' := ?_) ?_ ?_
  rotate_left
  · show Act.put _ (some 21) _ = _
    simp only [Act.put, List.setIfInBounds_toArray, List.set_cons_zero, List.set_cons_succ, i64_w, i32_w]
    rfl
  refine on_ (i := 8) (N := some 22) #[true, true, true, true, true, true, true, true, true, false, false, false] rfl rfl (by kernel_rfl) (fun K hK => ?_)
  refine Kd.R_append_rows_step kI B (by rfl) (.tmp 18) (.tmp 21) 27 3 (.int .i64 0) 8 rfl Try.underlying27 (by kernel_rfl) rfl (by decide) (by decide) vs s.sets [st] (some ⟨wd.heap.size, 0, none⟩) 1 1 (fun k => k ≠ p ∧ some k ≠ vf.ownBlock) (fun _ => False) (by rfl) (by rfl) HGa.out.rows.sets (lit1 BL1.out) (fun _ _ h => h) (fun _ h => h.elim) (fun k hk => ⟨by have := HGa.out.rows.lt; omega, fun e => by have := Kd.N_lt HGa.out.rows.fol k e.symm; omega⟩) (Below.refl B wa) HGa.out.rows.base (by omega) ?_
  intro v28 wb hR _ hg1 hat
  have HGb := Aside0.mk (HGa.out.app1 hR hg1 hat)
  refine hK.out _ _ (HTG.out _ _ _ _ _ HGb.out) (fun hT => ?_)
  clear hK K hR hg1 hat
  refine nm_ (a' := ?_) ?_ ?_
  rotate_left
  · show Act.put _ (some 22) _ = _
    simp only [Act.put, List.setIfInBounds_toArray, List.set_cons_zero, List.set_cons_succ, i64_w, i32_w]
    rfl
  refine pr_ (i := 9) (N := some 23) (v := ?_) (a' := ?_) #[true, true, true, true, true, true, true, true, true, true, false, false] rfl rfl (by kernel_rfl) (fun _ _ _ h => h) (Or.inl ⟨by rfl, ?_⟩) hT ?_ (fun hT => ?_)
  rotate_left
  · intro w'
    go_simp
    with_reducible rfl
  rotate_left
  · simp only [Act.put, List.setIfInBounds_toArray, List.set_cons_zero, List.set_cons_succ, i64_w, i32_w]
    rfl
  refine pr_ (i := 10) (N := some 24) (v := ?_) (a' := ?_) #[true, true, true, true, true, true, true, true, true, true, true, false] rfl rfl (by kernel_rfl) (fun _ _ _ h => h) (Or.inl ⟨by rfl, ?_⟩) hT ?_ (fun hT => ?_)
  rotate_left
  · intro w'
    go_simp
    with_reducible rfl
  rotate_left
  · simp only [Act.put, List.setIfInBounds_toArray, List.set_cons_zero, List.set_cons_succ, i64_w, i32_w]
    rfl
  obtain ⟨A28, c28, rfl⟩ := Kd.R_slice HGb.out.rows.sets
  dsimp only at HGb
  have hp0 : wb.cell? ⟨p, 0, none⟩ = some vs := (blk_cell HGb.out.blk 0).trans rfl
  have hfr : ∀ i, wb.frozen? ⟨p, i, none⟩ = false := fun i => blk_frozen HGb.out.blk i
  have H1 := Aside0.mk (HGb.out.rows.setp 0 (.slice A28 (s.sets ++ [st]).length c28))
  have HS1 := Aside0.mk (HGb.out.stp.trans (Stp.setp B p _ _ wb HGb.out.rows.pb 0 (.slice A28 (s.sets ++ [st]).length c28)))
  have HB1 := Aside0.mk (show (wb.setCell ⟨p, 0, none⟩ (.slice A28 (s.sets ++ [st]).length c28)).heap[p]? = some (.cells #[.slice A28 (s.sets ++ [st]).length c28, vf] 75 (0, 0)) from blk_set HGb.out.blk 0 _)
  refine on_ (i := 11) (N := none) #[true, true, true, true, true, true, true, true, true, true, true, true] rfl rfl (by kernel_rfl) (fun K hK => ?_)
  refine skip_ (w1 := wb.setCell ⟨p, 0, none⟩ (.slice A28 (s.sets ++ [st]).length c28)) (by rfl) rfl ?_ ?_
  · go_simp
  refine hK.out _ _ (Till.dead rfl (Till.nil _ _)) (fun hT => ?_)
  clear hK K hp0 hfr hT
  refine dn_ (by kernel_rfl) ?_ _
  generalize wb.setCell ⟨p, 0, none⟩ (.slice A28 (s.sets ++ [st]).length c28) = w3 at H1 HS1 HB1 ⊢
  clear HTG HGa HGb BL1
  have hsl : (s.sets ++ [st]).length = s.sets.length + 1 := by simp
  have BR3 := Aside0.mk (HS1.out.blk HAR.out BR.out)
  have hp1 : w3.cell? ⟨p, 1, none⟩ = some vf := (blk_cell HB1.out 1).trans rfl
  have HWS := Aside0.mk HS1.out.below.size
  have HW3 := Aside0.mk (HS1.out.below.size)
  have HSL := Aside0.mk hsl
  clear hsl
  have hp1_ : w3.cell? ⟨p, 1, none⟩ = some vf := hp1
  clear hp1
  go_wp2_with ((with_reducible refine gate_builtin (b := .append) (xs := #[.tmp 29, .tmp 30]) rfl ?_); at_builtin; refine Kd.N_append kII (w0 := w3) B rfl (.tmp 29) (.tmp 30) 28 27 (.slice none 0 0) 24 rfl Try.underlying28 (by kernel_rfl) rfl (by decide) (by omega) vf s.follow [] [.slice none 0 0] (fun k => k ≠ p ∧ some k ≠ (Value.slice A28 (s.sets ++ [st]).length c28).ownBlock ∧ ¬ (X k ∨ k = w.heap.size + 1)) (fun _ => False) rfl rfl (fk_nil w3) (fun _ h => h.elim) (fun k hk => ⟨by have := H1.out.lt; omega, fun e => by have := Kd.R_lt H1.out.sets k e.symm; omega, fun hx => by have := HXX.out k hx; have := HS1.out.below.size; have := (Array.getElem?_eq_some_iff.1 BR3.out).1; have := HWS.out; omega⟩) H1.out.fol (Below.refl B w3) H1.out.base (by omega) ?_; intro v34 w5 hN hb hg hat; have H2 := Aside0.mk (H1.out.app2 hN hg hat); have HS2 := Aside0.mk (HS1.out.trans (Stp.app2 H1.out hg hat)); have HB2 := Aside0.mk ((hg.block p H1.out.lt (fun e => (H1.out.fol.1 p e.symm).1 rfl)).trans HB1.out); have BR5 := Aside0.mk (HS2.out.blk HAR.out BR.out); obtain ⟨A34, c34, rfl⟩ := Kd.N_slice H2.out.fol; dsimp only at H2 HS2; have hp0 : w5.cell? ⟨p, 0, none⟩ = some (.slice A28 (s.sets.length + 1) c28) := (by have h := (blk_cell HB2.out 0).trans rfl; rwa [HSL.out] at h); have hp1 : w5.cell? ⟨p, 1, none⟩ = some vf := (blk_cell HB2.out 1).trans rfl; have hpf : ∀ i, w5.frozen? ⟨p, i, none⟩ = false := fun i => blk_frozen HB2.out i; have z0 : w5.cell? ⟨w.heap.size + 1, 0, none⟩ = some (.bool false) := (blk_cell BR5.out 0).trans rfl; have z1 : w5.cell? ⟨w.heap.size + 1, 1, none⟩ = some (.slice none 0 0) := (blk_cell BR5.out 1).trans rfl; have z2 : w5.cell? ⟨w.heap.size + 1, 2, none⟩ = some (.slice none 0 0) := (blk_cell BR5.out 2).trans rfl; have zf : ∀ i, w5.frozen? ⟨w.heap.size + 1, i, none⟩ = false := fun i => blk_frozen BR5.out i; have hr5 : w.heap.size + 1 < w5.heap.size := (Array.getElem?_eq_some_iff.1 BR5.out).1; have q1 : ¬ w.heap.size + 1 = w5.heap.size := (by omega); have q2 : ¬ w5.heap.size = w.heap.size + 1 := (by omega); have q3 : ¬ p = w.heap.size + 1 := (by omega); have q4 : ¬ w.heap.size + 1 = p := (by omega); have q5 : ¬ w.heap.size + 1 = w5.heap.size + 1 := (by omega); have q6 : ¬ w5.heap.size + 1 = w.heap.size + 1 := (by omega); have q7 : ¬ w.heap.size = w5.heap.size := (by omega); have q8 : ¬ w5.heap.size = w.heap.size := (by omega); have q9 : (w.heap.size == w5.heap.size) = false := (by rw [beq_eq_false_iff_ne]; omega); have q10 : (w.heap.size + 1 == w5.heap.size) = false := (by rw [beq_eq_false_iff_ne]; omega); have q11 : w.heap.size + 1 < w5.heap.size + 1 := (by omega); clear hN hb hg hat hp1_)
  refine bodyPost_ret (results_c1 (P := Try.prog) rfl _ _ (w.heap.size + 1) 77 #[.bool false, (Value.slice (some ⟨w5.heap.size, 0, none⟩) 1 1), (Value.slice (some ⟨w5.heap.size + 1, 0, none⟩) 1 1)] (0, 0) _ rfl ?_ Try.underlying77 rfl (by kernel_rfl)) rfl ?_
  · exact blk_alloc (blk_alloc (set3 (blk_far BR5.out (show w.heap.size + 1 ≠ p by omega) _)) _) _
  have hl2 : (s.follow ++ [[]]).length = s.follow.length + 1 := by simp
  have h2 := H2.out
  have hs2 := HS2.out
  rw [HSL.out, hl2] at h2 hs2
  have hb2 := HB2.out
  rw [HSL.out] at hb2
  have h6 := h2.setp 1 (Value.slice A34 (s.follow.length + 1) c34)
  have hs6 := hs2.trans (Stp.setp B p _ _ w5 h2.pb 1 (Value.slice A34 (s.follow.length + 1) c34))
  have hb6 : (w5.setCell ⟨p, 1, none⟩ (Value.slice A34 (s.follow.length + 1) c34)).heap[p]? = some (.cells (csR (Value.slice A28 (s.sets.length + 1) c28) (Value.slice A34 (s.follow.length + 1) c34)) 75 (0, 0)) := blk_set hb2 1 _
  have br6 : (w5.setCell ⟨p, 1, none⟩ (Value.slice A34 (s.follow.length + 1) c34)).heap[w.heap.size + 1]? = _ := blk_far BR5.out (show w.heap.size + 1 ≠ p by omega) (Value.slice A34 (s.follow.length + 1) c34)
  have hz6 : (w5.setCell ⟨p, 1, none⟩ (Value.slice A34 (s.follow.length + 1) c34)).heap.size = w5.heap.size := by simp [World.setCell]
  have hz7 : ((((w5.setCell ⟨p, 1, none⟩ (Value.slice A34 (s.follow.length + 1) c34)).setCell ⟨w.heap.size + 1, 0, none⟩ (.bool false)).setCell ⟨w.heap.size + 1, 1, none⟩ (Value.slice (some ⟨w5.heap.size, 0, none⟩) 1 1)).setCell ⟨w.heap.size + 1, 2, none⟩ (Value.slice (some ⟨w5.heap.size + 1, 0, none⟩) 1 1)).heap.size = w5.heap.size := by simp [World.setCell]
  have hO := own_set3 (w.heap.size + 1) (w5.setCell ⟨p, 1, none⟩ (Value.slice A34 (s.follow.length + 1) c34)) (.bool false) (Value.slice (some ⟨w5.heap.size, 0, none⟩) 1 1) (Value.slice (some ⟨w5.heap.size + 1, 0, none⟩) 1 1)
  generalize ((((w5.setCell ⟨p, 1, none⟩ (Value.slice A34 (s.follow.length + 1) c34)).setCell ⟨w.heap.size + 1, 0, none⟩ (.bool false)).setCell ⟨w.heap.size + 1, 1, none⟩ (Value.slice (some ⟨w5.heap.size, 0, none⟩) 1 1)).setCell ⟨w.heap.size + 1, 2, none⟩ (Value.slice (some ⟨w5.heap.size + 1, 0, none⟩) 1 1)) = w7 at hz7 hO ⊢
  generalize (w5.setCell ⟨p, 1, none⟩ (Value.slice A34 (s.follow.length + 1) c34)) = w6 at h6 hs6 hb6 br6 hz6 hO ⊢
  have hBw : B ≤ w5.heap.size := h2.base
  have l1 : Kd.R kI 3 (w7.alloc (.cells #[.int .i64 ((s.sets.length : Int) + 1)] 3)) w5.heap.size (fun _ => True) (Value.slice (some ⟨w5.heap.size, 0, none⟩) 1 1) [(s.sets.length : Int) + 1] := own_R (by have := own_lit w7 w5.heap.size 3 .i64 [(s.sets.length : Int) + 1] (by omega) (by simp); rw [hz7] at this; exact this)
  have l2 : Kd.R kI 3 ((w7.alloc (.cells #[.int .i64 ((s.sets.length : Int) + 1)] 3)).alloc (.cells #[.int .i64 ((s.sets.length : Int) + 1)] 3)) w5.heap.size (fun _ => True) (Value.slice (some ⟨w5.heap.size + 1, 0, none⟩) 1 1) [(s.sets.length : Int) + 1] := own_R (by have := own_lit (w7.alloc (.cells #[.int .i64 ((s.sets.length : Int) + 1)] 3)) w5.heap.size 3 .i64 [(s.sets.length : Int) + 1] (by simp; omega) (by simp); rw [show (w7.alloc (.cells #[.int .i64 ((s.sets.length : Int) + 1)] 3)).heap.size = w5.heap.size + 1 by simp [hz7]] at this; exact this)
  have hO2 := own_below hO ((below_alloc (Below.refl w7.heap.size w7) (.cells #[.int .i64 ((s.sets.length : Int) + 1)] 3)))
  have hO3 : Own (w.heap.size + 1) w6 ((w7.alloc (.cells #[.int .i64 ((s.sets.length : Int) + 1)] 3)).alloc (.cells #[.int .i64 ((s.sets.length : Int) + 1)] 3)) := own_below hO (below_alloc (below_alloc (Below.refl w7.heap.size w7) (.cells #[.int .i64 ((s.sets.length : Int) + 1)] 3)) (.cells #[.int .i64 ((s.sets.length : Int) + 1)] 3))
  have hAf := AutoM.own (h6.auto (cs := csR) (t := 75) hb6) br6 (by omega) (by decide) (.inr rfl) hO3
  have hSf := Stp.own hB (HS3.out.trans hs6) (by omega) hO3
  have away : ∀ k, w5.heap.size ≤ k → Away p (Value.slice A28 (s.sets.length + 1) c28) (Value.slice A34 (s.follow.length + 1) c34) k := fun k hk => ⟨by have := h2.lt; omega, fun e => by have := Kd.R_lt h2.sets k e.symm; omega, fun e => by have := Kd.N_lt h6.fol k e.symm; omega⟩
  exact ⟨(Value.slice (some ⟨w5.heap.size, 0, none⟩) 1 1), (Value.slice (some ⟨w5.heap.size + 1, 0, none⟩) 1 1), _, _, rfl, AutoM.less hAf (fun k hk => .inl hk), hSf, Kd.R_lower (Kd.R_mono (Kd.R_bound (Kd.R_below l1 (below_alloc (Below.refl _ _) _))) (fun k hk => away k hk.2.1)) hBw, Kd.R_lower (Kd.R_mono (Kd.R_bound l2) (fun k hk => away k hk.2.1)) hBw⟩
end Go.Proofs.Ytkoofldididpgaa.RB

end
section
namespace Go.Proofs.Ytkoofldididpgaa.RB
open Go Go.RowKit Go.Proofs.YtkoofldididpgaaW.PrintWords Go.Proofs.YtkoofldididpgaaW.PrintLast Go.Proofs.YtkoofldididpgaaW.PrintMore
open Go.Proofs.Ytkoofldididpgaa.XB Go.Proofs.Ytkoofldididpgaa.NM Go.Proofs.Ytkoofldididpgaa.NR Go.Proofs.Ytkoofldididpgaa.NW Go.Proofs.Ytkoofldididpgaa.BM Go.Proofs.Ytkoofldididpgaa.FM Go.Proofs.Ytkoofldididpgaa.NA Go.Proofs.Ytkoofldididpgaa.NN Go.Proofs.Ytkoofldididpgaa.NT Go.Proofs.Ytkoofldididpgaa.NO Go.Proofs.Ytkoofldididpgaa.RT Go.Proofs.Ytkoofldididpgaa.NK Go.Proofs.Ytkoofldididpgaa.NP Go.Proofs.Ytkoofldididpgaa.NB
set_option linter.unusedVariables false
set_option linter.unusedSimpArgs false
set_option maxRecDepth 100000 in
set_option maxHeartbeats 3200000 in
theorem node_alt (ks : List S24) (st : Int) (h : ∀ x ∈ ks, NodeAt x) (X : Nat → Prop) (B p : Nat) (vs vf : Value) (s : St) (A : Option Addr) (c : Nat) (w0 w : World) (h0B : w0.heap.size ≤ B) (hb0 : Below w0.heap.size w0 w) (hr : Kd.C k24 w0 A ks.length ks) (hc : ks.length ≤ c)
    (hB : B ≤ w.heap.size) (hX : ∀ k, X k → k < w.heap.size) (hA : AutoR X B p vs vf s w) (hs : SOk s) (hk : rightL ks = true) (hm : s.sets.length + cntL ks ≤ 300) :
    Calls Try.prog 51 #[.pointer (some ⟨p, 0, none⟩), .agg #[.int .i64 2, .int .i64 st, .slice A ks.length c]] w (RPost X B p vs vf w (altL ks ⟨false, [], []⟩ s)) := by
  have HH := Aside0.mk h
  have H0 := Aside0.mk hb0
  have HR := Aside0.mk hr
  have HC := Aside0.mk hc
  have HA := Aside0.mk hA
  have HS := Aside0.mk hs
  have HK := Aside0.mk hk
  have HM0 := Aside0.mk hm
  have HL := hr.2.1
  clear h hb0 hr hc hA hs hk hm
  go_enter Try.func51, Try.ntmps51
  go_wp2_with fail
  have hn0 : p < w.heap.size := HA.out.lt
  have HE : Ends B p (w.heap.size + 1) (w.heap.size + 1 + 1) w := ⟨hB, by omega, by omega, hn0, by omega⟩
  have hb4 : Below w.heap.size w (((w.alloc (.cells #[.int .i64 2, .int .i64 st, .slice A ks.length c] 24)).alloc (.cells #[.bool false, .slice none 0 0, .slice none 0 0] 77)).alloc (.cells #[.bool false, .slice none 0 0, .slice none 0 0] 77)) := by repeat (first | exact Below.refl _ _ | apply below_alloc)
  have bn : (((w.alloc (.cells #[.int .i64 2, .int .i64 st, .slice A ks.length c] 24)).alloc (.cells #[.bool false, .slice none 0 0, .slice none 0 0] 77)).alloc (.cells #[.bool false, .slice none 0 0, .slice none 0 0] 77)).heap[w.heap.size]? = some (.cells #[.int .i64 2, .int .i64 st, .slice A ks.length c] 24 (0, 0)) := by repeat (first | exact blk_new _ _ | refine blk_alloc ?_ _)
  have br : (((w.alloc (.cells #[.int .i64 2, .int .i64 st, .slice A ks.length c] 24)).alloc (.cells #[.bool false, .slice none 0 0, .slice none 0 0] 77)).alloc (.cells #[.bool false, .slice none 0 0, .slice none 0 0] 77)).heap[w.heap.size + 1]? = some (.cells #[.bool false, .slice none 0 0, .slice none 0 0] 77 (0, 0)) := blk_alloc (by simpa using blk_new (w.alloc (.cells #[.int .i64 2, .int .i64 st, .slice A ks.length c] 24)) (.cells #[.bool false, .slice none 0 0, .slice none 0 0] 77)) _
  have bo : (((w.alloc (.cells #[.int .i64 2, .int .i64 st, .slice A ks.length c] 24)).alloc (.cells #[.bool false, .slice none 0 0, .slice none 0 0] 77)).alloc (.cells #[.bool false, .slice none 0 0, .slice none 0 0] 77)).heap[w.heap.size + 1 + 1]? = some (.cells #[.bool false, .slice none 0 0, .slice none 0 0] 77 (0, 0)) := by simpa using blk_new ((w.alloc (.cells #[.int .i64 2, .int .i64 st, .slice A ks.length c] 24)).alloc (.cells #[.bool false, .slice none 0 0, .slice none 0 0] 77)) (.cells #[.bool false, .slice none 0 0, .slice none 0 0] 77)
  generalize (((w.alloc (.cells #[.int .i64 2, .int .i64 st, .slice A ks.length c] 24)).alloc (.cells #[.bool false, .slice none 0 0, .slice none 0 0] 77)).alloc (.cells #[.bool false, .slice none 0 0, .slice none 0 0] 77)) = W at hb4 bn br bo ⊢
  have HM := Aside0.mk (show LoopR X B p (w.heap.size + 1) (w.heap.size + 1 + 1) vs vf (altL (ks.take 0) ⟨false, [], []⟩ s) w W vs vf (.slice none 0 0) (.slice none 0 0) ∧ W.heap[w.heap.size]? = some (.cells #[.int .i64 2, .int .i64 st, .slice A ks.length c] 24 (0, 0)) from by
    rw [List.take_zero, altL]
    exact ⟨⟨AutoM.less (AutoM.more HA.out hb4 (fun k => k = w.heap.size + 1 ∨ k = w.heap.size + 1 + 1) (fun k hk => by omega)) (fun k hk => hk), Stp.of_below hB hb4, ⟨Kd.R_nil _ _ _ _ _, Kd.R_nil _ _ _ _ _⟩, br, bo⟩, bn⟩)
  clear hb4 bn br bo
  go_loopg [7] ks.length (fun kq vi wr => ∃ i : Nat, vi = .int .i64 i ∧ Aside0 (i ≤ ks.length ∧ kq + i = ks.length) ∧ Aside0 (∃ vs' vf' o1 o2, LoopR X B p (w.heap.size + 1) (w.heap.size + 1 + 1) vs vf (altL (ks.take i) ⟨false, [], []⟩ s) w wr vs' vf' o1 o2 ∧ wr.heap[w.heap.size]? = some (.cells #[.int .i64 2, .int .i64 st, .slice A ks.length c] 24 (0, 0))))
  case atStart => exact ⟨0, rfl, ⟨by omega⟩, ⟨_, _, _, _, HM.out⟩⟩
  case round =>
    clear HM
    obtain ⟨i, rfl, HI, HM⟩ := hrel
    by_cases hlt : i < ks.length
    · obtain ⟨vs', vf', o1, o2, hM, hbn⟩ := HM.out
      clear HM
      have HBN := Aside0.mk hbn
      have hW := altL_ok (ks.take i) ⟨false, [], []⟩ s (rightL_take HK.out i) HS.out (EOk.nil _ _)
      have hle := cntL_take_le ks (i + 1)
      rw [cntL_take ks i hlt] at hle
      have hM0 := HM0.out
      have HXr := Aside0.mk (rightL_get HK.out hlt)
      have HN := Aside0.mk (alt_next ks s i hlt)
      have HX := Aside0.mk (HH.out ks[i] (List.getElem_mem hlt))
      obtain ⟨ad, A2, c2, rfl, f0, f1, f2, l2, g2⟩ := at_T24 HR.out (i : Int) (by omega) (by omega)
      have hx : rd_T24 ks (i : Int) = ks[i] := by simp [rd_T24, List.getD_eq_getElem?_getD, hlt]
      rw [hx] at f0 f1 f2 l2 g2
      simp only [Int.toNat_natCast] at f0 f1 f2
      have hbr := below_stp H0.out h0B hM.stp.below
      have e0 := pw_cell_below hbr f0
      have e1 := pw_cell_below hbr f1
      have e2 := pw_cell_below hbr f2
      have HG := Aside0.mk g2
      have HL2 := Aside0.mk l2
      clear f0 f1 f2 hx g2 l2 hbr
      have hcx : cntN ks[i] ≤ 300 := by omega
      have hms : s.sets.length + cntL (ks.take i) + cntN ks[i] ≤ 300 := by omega
      clear hle hM0
      generalize ks[i] = x at e0 e1 e2 HX HG HL2 HXr HN hcx hms
      generalize altL (ks.take i) ⟨false, [], []⟩ s = r at hM hW HN
      have HW := Aside0.mk hW
      have hrl : r.2.sets.length + cntN x ≤ 300 := by have := hW.2.2; omega
      clear hW hms
      obtain ⟨⟨rn, rf, rla⟩, rs⟩ := r
      dsimp only at hM HW hrl HN
      obtain ⟨O1, d1, rfl⟩ := Kd.R_slice hM.part.1
      obtain ⟨O2, d2, rfl⟩ := Kd.R_slice hM.part.2
      dsimp only at hM
      have HM := Aside0.mk hM
      have hgo : w.heap.size + 1 + 1 < wr.heap.size := (Array.getElem?_eq_some_iff.1 hM.bo).1
      have n2 : wr.cell? ⟨w.heap.size, 2, none⟩ = some (.slice (some ad) ks.length c) := (blk_cell hbn 2).trans rfl
      clear hM hbn
      go_wp2_with fail
      refine (HX.out (XR X (w.heap.size + 1) (w.heap.size + 1 + 1)) B p vs' vf' rs A2 c2 w0 wr h0B (below_stp H0.out h0B HM.out.stp.below) HG.out HL2.out HM.out.base (fun k hk => by rcases hk with hk | hk | hk; (have := hX k hk; omega); omega; omega) HM.out.auto HW.out.1 HXr.out hrl).mono ?_
      rintro e w1 ⟨u1, u2, vs2, vf2, rfl, hA1, hS1, hP1⟩
      have hW2 := bldN_ok x rs HXr.out HW.out.1
      generalize bldN x rs = q at hA1 hP1 HN hW2 ⊢
      obtain ⟨⟨qn, qf, ql⟩, qs⟩ := q
      dsimp only at hA1 hP1 HN hW2 ⊢
      obtain ⟨U1, m1, rfl⟩ := Kd.R_slice hP1.1
      obtain ⟨U2, m2, rfl⟩ := Kd.R_slice hP1.2
      dsimp only at hP1
      have bo1 := HM.out.kept hS1 HM.out.bo (by omega) (by decide) (by decide)
      have bn1 := HM.out.kept hS1 HBN.out (by omega) (by decide) (by decide)
      have hgo1 : w.heap.size + 1 + 1 < w1.heap.size := (Array.getElem?_eq_some_iff.1 bo1).1
      have q1 : ¬ w.heap.size + 1 + 1 = w1.heap.size := by omega
      have q2 : ¬ w1.heap.size = w.heap.size + 1 + 1 := by omega
      have q3 : (w.heap.size + 1 + 1 == w1.heap.size) = false := by rw [beq_eq_false_iff_ne]; omega
      have HA1 := Aside0.mk hA1
      have HS1 := Aside0.mk hS1
      have HP1 := Aside0.mk hP1
      have HW2 := Aside0.mk hW2
      have HBO1 := Aside0.mk bo1
      have HBN1 := Aside0.mk bn1
      have lf := HW.out.2.1.first.len
      have ll := HW.out.2.1.last.len
      have kf := hW2.2.1.first.len
      have kl := hW2.2.1.last.len
      have hWr := HW.out.2.2
      dsimp only at lf ll kf kl hWr
      have hlim1 : rf.length + qf.length ≤ 10000 := by omega
      have hlim2 : rla.length + ql.length ≤ 10000 := by omega
      have HRf := Aside0.mk HW.out.2.1.first.1
      have HRl := Aside0.mk HW.out.2.1.last.1
      dsimp only at HRf HRl
      clear hA1 hS1 hP1 hW2 e0 e1 e2 n2 lf ll kf kl hWr
      unfold partV
      have b0 : w1.cell? ⟨w.heap.size + 1 + 1, 0, none⟩ = some (.bool rn) := (blk_cell bo1 0).trans rfl
      have b1 : w1.cell? ⟨w.heap.size + 1 + 1, 1, none⟩ = some (.slice O1 rf.length d1) := (blk_cell bo1 1).trans rfl
      have b2 : w1.cell? ⟨w.heap.size + 1 + 1, 2, none⟩ = some (.slice O2 rla.length d2) := (blk_cell bo1 2).trans rfl
      have bf : ∀ i, w1.frozen? ⟨w.heap.size + 1 + 1, i, none⟩ = false := fun i => blk_frozen bo1 i
      clear bo1 bn1
      cases rn
      · skip
        go_wp2_with fail
        clear b0 b1 b2 bf q1 q2 q3
        have HO3 := Aside0.mk (own_below (own_set1 (w.heap.size + 1 + 1) w1 0 (.bool qn)) (below_alloc (Below.refl _ _) (.cells #[.bool qn, .slice U1 qf.length m1, .slice U2 ql.length m2] 77)))
        have BO3 := Aside0.mk (show ((w1.setCell ⟨w.heap.size + 1 + 1, 0, none⟩ (.bool qn)).alloc (.cells #[.bool qn, .slice U1 qf.length m1, .slice U2 ql.length m2] 77)).heap[w.heap.size + 1 + 1]? = some (.cells #[.bool qn, .slice O1 rf.length d1, .slice O2 rla.length d2] 77 (0, 0)) from blk_alloc (blk_set HBO1.out 0 _) _)
        have BX3 := Aside0.mk (show ((w1.setCell ⟨w.heap.size + 1 + 1, 0, none⟩ (.bool qn)).alloc (.cells #[.bool qn, .slice U1 qf.length m1, .slice U2 ql.length m2] 77)).heap[w1.heap.size]? = some (.cells #[.bool qn, .slice U1 qf.length m1, .slice U2 ql.length m2] 77 (0, 0)) from by have := blk_new (w1.setCell ⟨w.heap.size + 1 + 1, 0, none⟩ (.bool qn)) (.cells #[.bool qn, .slice U1 qf.length m1, .slice U2 ql.length m2] 77); rwa [show (w1.setCell ⟨w.heap.size + 1 + 1, 0, none⟩ (.bool qn)).heap.size = w1.heap.size by simp [World.setCell]] at this)
        generalize ((w1.setCell ⟨w.heap.size + 1 + 1, 0, none⟩ (.bool qn)).alloc (.cells #[.bool qn, .slice U1 qf.length m1, .slice U2 ql.length m2] 77)) = w3 at HO3 BO3 BX3 ⊢
        generalize hgx : w1.heap.size = gx at BX3 hgo1
        have HGX := Aside0.mk hgx
        have hne1 : ¬ gx = w.heap.size + 1 + 1 := by omega
        have hne2 : ¬ w.heap.size + 1 + 1 = gx := by omega
        clear hgx
        have HR1 := Aside0.mk (HS1.out.row HM.out.part.1)
        have HR2 := Aside0.mk (HS1.out.row HM.out.part.2)
        have y1 := Kd.R_reads' (R_own HR1.out HBO1.out (by decide) HO3.out)
        have y2 := Kd.R_reads' (R_own HP1.out.1 HBO1.out (by decide) HO3.out)
        refine (both_fp O1 U1 d1 m1 rf qf _ y1.2.2 y1.2.1 y2.2.2 y2.2.1 hlim1).mono ?_
        rintro e w4 ⟨v4, rfl, hb, hv4⟩
        clear y1 y2
        have HV4 := Aside0.mk hv4
        obtain ⟨E4, n4, rfl⟩ := oldnew_slice hv4
        clear hv4
        have HO4 := Aside0.mk (own_below HO3.out hb)
        have BO4 := Aside0.mk (blk_below BO3.out hb)
        have BX4 := Aside0.mk (blk_below BX3.out hb)
        have HB4 := Aside0.mk hb
        clear hb
        have b0 : w4.cell? ⟨w.heap.size + 1 + 1, 0, none⟩ = some (.bool qn) := (blk_cell BO4.out 0).trans rfl
        have b1 : w4.cell? ⟨w.heap.size + 1 + 1, 1, none⟩ = some (.slice O1 rf.length d1) := (blk_cell BO4.out 1).trans rfl
        have b2 : w4.cell? ⟨w.heap.size + 1 + 1, 2, none⟩ = some (.slice O2 rla.length d2) := (blk_cell BO4.out 2).trans rfl
        have bf : ∀ i, w4.frozen? ⟨w.heap.size + 1 + 1, i, none⟩ = false := fun i => blk_frozen BO4.out i
        have x0 : w4.cell? ⟨gx, 0, none⟩ = some (.bool qn) := (blk_cell BX4.out 0).trans rfl
        have x1 : w4.cell? ⟨gx, 1, none⟩ = some (.slice U1 qf.length m1) := (blk_cell BX4.out 1).trans rfl
        have x2 : w4.cell? ⟨gx, 2, none⟩ = some (.slice U2 ql.length m2) := (blk_cell BX4.out 2).trans rfl
        generalize hz4 : bothL rf qf = z4 at HV4 ⊢
        have HZ4 := Aside0.mk hz4
        clear hz4
        go_wp2_with fail
        clear b0 b1 b2 bf x0 x1 x2
        have HO5 := Aside0.mk (own_trans HO4.out (own_set1 (w.heap.size + 1 + 1) w4 1 (.slice E4 z4.length n4)))
        have BO5 := Aside0.mk (show (w4.setCell ⟨w.heap.size + 1 + 1, 1, none⟩ (.slice E4 z4.length n4)).heap[w.heap.size + 1 + 1]? = some (.cells #[.bool qn, .slice E4 z4.length n4, .slice O2 rla.length d2] 77 (0, 0)) from blk_set BO4.out 1 _)
        have HK5 := Aside0.mk (show ∀ k, k ≠ w.heap.size + 1 + 1 → (w4.setCell ⟨w.heap.size + 1 + 1, 1, none⟩ (.slice E4 z4.length n4)).heap[k]? = w4.heap[k]? from fun k hk => Below.heap_setCell _ _ _ k hk)
        have HZ5 := Aside0.mk (show (w4.setCell ⟨w.heap.size + 1 + 1, 1, none⟩ (.slice E4 z4.length n4)).heap.size = w4.heap.size from by simp [World.setCell])
        generalize (w4.setCell ⟨w.heap.size + 1 + 1, 1, none⟩ (.slice E4 z4.length n4)) = w5 at HO5 BO5 HK5 HZ5 ⊢
        have y1 := Kd.R_reads' (R_own HR2.out HBO1.out (by decide) HO5.out)
        have y2 := Kd.R_reads' (R_own HP1.out.2 HBO1.out (by decide) HO5.out)
        refine (both_fp O2 U2 d2 m2 rla ql _ y1.2.2 y1.2.1 y2.2.2 y2.2.1 hlim2).mono ?_
        rintro e w6 ⟨v6, rfl, hb, hv6⟩
        clear y1 y2
        have HV6 := Aside0.mk hv6
        obtain ⟨E6, n6, rfl⟩ := oldnew_slice hv6
        clear hv6
        have HO6 := Aside0.mk (own_below HO5.out hb)
        have BO6 := Aside0.mk (blk_below BO5.out hb)
        have HB6 := Aside0.mk hb
        clear hb
        have b0 : w6.cell? ⟨w.heap.size + 1 + 1, 0, none⟩ = some (.bool qn) := (blk_cell BO6.out 0).trans rfl
        have b1 : w6.cell? ⟨w.heap.size + 1 + 1, 1, none⟩ = some (.slice E4 z4.length n4) := (blk_cell BO6.out 1).trans rfl
        have b2 : w6.cell? ⟨w.heap.size + 1 + 1, 2, none⟩ = some (.slice O2 rla.length d2) := (blk_cell BO6.out 2).trans rfl
        have bf : ∀ i, w6.frozen? ⟨w.heap.size + 1 + 1, i, none⟩ = false := fun i => blk_frozen BO6.out i
        generalize hz6 : bothL rla ql = z6 at HV6 ⊢
        have HZ6 := Aside0.mk hz6
        clear hz6
        go_wp2_with fail
        clear b0 b1 b2 bf
        have HNx := Aside0.mk (show altL (ks.take (i + 1)) ⟨false, [], []⟩ s = ((⟨qn, bothL rf qf, bothL rla ql⟩ : BM.Edge), qs) from by rw [HN.out, bothL_fin HRf.out, bothL_fin HRl.out]; rfl)
        rw [HZ4.out, HZ6.out] at HNx
        have hown : Own (w.heap.size + 1 + 1) w1 (w6.setCell ⟨w.heap.size + 1 + 1, 2, none⟩ (.slice E6 z6.length n6)) := own_trans HO6.out (own_set1 (w.heap.size + 1 + 1) w6 2 (.slice E6 z6.length n6))
        have hblk : (w6.setCell ⟨w.heap.size + 1 + 1, 2, none⟩ (.slice E6 z6.length n6)).heap[w.heap.size + 1 + 1]? = some (.cells #[.bool qn, .slice E4 z4.length n4, .slice E6 z6.length n6] 77 (0, 0)) := blk_set BO6.out 2 _
        have hs3 := HO3.out.size
        have hs4 := HB4.out.size
        have hs5 := HZ5.out
        have hgx0 := HGX.out
        have hlt3 : w1.heap.size ≤ w3.heap.size := HO3.out.size
        have hgo3 : w.heap.size + 1 + 1 < w3.heap.size := by omega
        have hgo5 : w.heap.size + 1 + 1 < w5.heap.size := by omega
        have HMn := Aside0.mk (HM.out.next (r' := (⟨qn, z4, z6⟩, qs)) HE HA1.out HS1.out hown
          (oldnew_row (w3 := (w6.setCell ⟨w.heap.size + 1 + 1, 2, none⟩ (.slice E6 z6.length n6))) (n := w3.heap.size) HV4.out HR1.out hlt3 (fun k hk hlt => by
            exact (Below.heap_setCell _ _ _ k (show k ≠ w.heap.size + 1 + 1 by omega)).trans ((HB6.out.block k (by omega)).trans (HK5.out k (by omega)))))
          (oldnew_row (w3 := (w6.setCell ⟨w.heap.size + 1 + 1, 2, none⟩ (.slice E6 z6.length n6))) (n := w5.heap.size) HV6.out HR2.out (by omega) (fun k hk hlt => Below.heap_setCell _ _ _ k (show k ≠ w.heap.size + 1 + 1 by omega))) hblk)
        have HNN := Aside0.mk ((hown.block _ (Array.getElem?_eq_some_iff.1 HBN1.out).1 (by omega)).trans HBN1.out)
        clear hown hblk hs3 hs4 hs5 hgx0 hlt3 hgo3 hgo5
        generalize (w6.setCell ⟨w.heap.size + 1 + 1, 2, none⟩ (.slice E6 z6.length n6)) = wf at HMn HNN ⊢
        go_roundg (ks.length - (i + 1))
        case measure => have := HI.out; omega
        case rel => exact ⟨i + 1, by go_num, ⟨by have := HI.out; omega⟩, ⟨_, _, _, _, by rw [HNx.out]; exact HMn.out, HNN.out⟩⟩
      · skip
        go_wp2_with fail
        clear b0 b1 b2 bf q1 q2 q3
        have HO3 := Aside0.mk (own_below (own_set1 (w.heap.size + 1 + 1) w1 0 (.bool true)) (below_alloc (Below.refl _ _) (.cells #[.bool qn, .slice U1 qf.length m1, .slice U2 ql.length m2] 77)))
        have BO3 := Aside0.mk (show ((w1.setCell ⟨w.heap.size + 1 + 1, 0, none⟩ (.bool true)).alloc (.cells #[.bool qn, .slice U1 qf.length m1, .slice U2 ql.length m2] 77)).heap[w.heap.size + 1 + 1]? = some (.cells #[.bool true, .slice O1 rf.length d1, .slice O2 rla.length d2] 77 (0, 0)) from blk_alloc (blk_set HBO1.out 0 _) _)
        have BX3 := Aside0.mk (show ((w1.setCell ⟨w.heap.size + 1 + 1, 0, none⟩ (.bool true)).alloc (.cells #[.bool qn, .slice U1 qf.length m1, .slice U2 ql.length m2] 77)).heap[w1.heap.size]? = some (.cells #[.bool qn, .slice U1 qf.length m1, .slice U2 ql.length m2] 77 (0, 0)) from by have := blk_new (w1.setCell ⟨w.heap.size + 1 + 1, 0, none⟩ (.bool true)) (.cells #[.bool qn, .slice U1 qf.length m1, .slice U2 ql.length m2] 77); rwa [show (w1.setCell ⟨w.heap.size + 1 + 1, 0, none⟩ (.bool true)).heap.size = w1.heap.size by simp [World.setCell]] at this)
        generalize ((w1.setCell ⟨w.heap.size + 1 + 1, 0, none⟩ (.bool true)).alloc (.cells #[.bool qn, .slice U1 qf.length m1, .slice U2 ql.length m2] 77)) = w3 at HO3 BO3 BX3 ⊢
        generalize hgx : w1.heap.size = gx at BX3 hgo1
        have HGX := Aside0.mk hgx
        have hne1 : ¬ gx = w.heap.size + 1 + 1 := by omega
        have hne2 : ¬ w.heap.size + 1 + 1 = gx := by omega
        clear hgx
        have HR1 := Aside0.mk (HS1.out.row HM.out.part.1)
        have HR2 := Aside0.mk (HS1.out.row HM.out.part.2)
        have y1 := Kd.R_reads' (R_own HR1.out HBO1.out (by decide) HO3.out)
        have y2 := Kd.R_reads' (R_own HP1.out.1 HBO1.out (by decide) HO3.out)
        refine (both_fp O1 U1 d1 m1 rf qf _ y1.2.2 y1.2.1 y2.2.2 y2.2.1 hlim1).mono ?_
        rintro e w4 ⟨v4, rfl, hb, hv4⟩
        clear y1 y2
        have HV4 := Aside0.mk hv4
        obtain ⟨E4, n4, rfl⟩ := oldnew_slice hv4
        clear hv4
        have HO4 := Aside0.mk (own_below HO3.out hb)
        have BO4 := Aside0.mk (blk_below BO3.out hb)
        have BX4 := Aside0.mk (blk_below BX3.out hb)
        have HB4 := Aside0.mk hb
        clear hb
        have b0 : w4.cell? ⟨w.heap.size + 1 + 1, 0, none⟩ = some (.bool true) := (blk_cell BO4.out 0).trans rfl
        have b1 : w4.cell? ⟨w.heap.size + 1 + 1, 1, none⟩ = some (.slice O1 rf.length d1) := (blk_cell BO4.out 1).trans rfl
        have b2 : w4.cell? ⟨w.heap.size + 1 + 1, 2, none⟩ = some (.slice O2 rla.length d2) := (blk_cell BO4.out 2).trans rfl
        have bf : ∀ i, w4.frozen? ⟨w.heap.size + 1 + 1, i, none⟩ = false := fun i => blk_frozen BO4.out i
        have x0 : w4.cell? ⟨gx, 0, none⟩ = some (.bool qn) := (blk_cell BX4.out 0).trans rfl
        have x1 : w4.cell? ⟨gx, 1, none⟩ = some (.slice U1 qf.length m1) := (blk_cell BX4.out 1).trans rfl
        have x2 : w4.cell? ⟨gx, 2, none⟩ = some (.slice U2 ql.length m2) := (blk_cell BX4.out 2).trans rfl
        generalize hz4 : bothL rf qf = z4 at HV4 ⊢
        have HZ4 := Aside0.mk hz4
        clear hz4
        go_wp2_with fail
        clear b0 b1 b2 bf x0 x1 x2
        have HO5 := Aside0.mk (own_trans HO4.out (own_set1 (w.heap.size + 1 + 1) w4 1 (.slice E4 z4.length n4)))
        have BO5 := Aside0.mk (show (w4.setCell ⟨w.heap.size + 1 + 1, 1, none⟩ (.slice E4 z4.length n4)).heap[w.heap.size + 1 + 1]? = some (.cells #[.bool true, .slice E4 z4.length n4, .slice O2 rla.length d2] 77 (0, 0)) from blk_set BO4.out 1 _)
        have HK5 := Aside0.mk (show ∀ k, k ≠ w.heap.size + 1 + 1 → (w4.setCell ⟨w.heap.size + 1 + 1, 1, none⟩ (.slice E4 z4.length n4)).heap[k]? = w4.heap[k]? from fun k hk => Below.heap_setCell _ _ _ k hk)
        have HZ5 := Aside0.mk (show (w4.setCell ⟨w.heap.size + 1 + 1, 1, none⟩ (.slice E4 z4.length n4)).heap.size = w4.heap.size from by simp [World.setCell])
        generalize (w4.setCell ⟨w.heap.size + 1 + 1, 1, none⟩ (.slice E4 z4.length n4)) = w5 at HO5 BO5 HK5 HZ5 ⊢
        have y1 := Kd.R_reads' (R_own HR2.out HBO1.out (by decide) HO5.out)
        have y2 := Kd.R_reads' (R_own HP1.out.2 HBO1.out (by decide) HO5.out)
        refine (both_fp O2 U2 d2 m2 rla ql _ y1.2.2 y1.2.1 y2.2.2 y2.2.1 hlim2).mono ?_
        rintro e w6 ⟨v6, rfl, hb, hv6⟩
        clear y1 y2
        have HV6 := Aside0.mk hv6
        obtain ⟨E6, n6, rfl⟩ := oldnew_slice hv6
        clear hv6
        have HO6 := Aside0.mk (own_below HO5.out hb)
        have BO6 := Aside0.mk (blk_below BO5.out hb)
        have HB6 := Aside0.mk hb
        clear hb
        have b0 : w6.cell? ⟨w.heap.size + 1 + 1, 0, none⟩ = some (.bool true) := (blk_cell BO6.out 0).trans rfl
        have b1 : w6.cell? ⟨w.heap.size + 1 + 1, 1, none⟩ = some (.slice E4 z4.length n4) := (blk_cell BO6.out 1).trans rfl
        have b2 : w6.cell? ⟨w.heap.size + 1 + 1, 2, none⟩ = some (.slice O2 rla.length d2) := (blk_cell BO6.out 2).trans rfl
        have bf : ∀ i, w6.frozen? ⟨w.heap.size + 1 + 1, i, none⟩ = false := fun i => blk_frozen BO6.out i
        generalize hz6 : bothL rla ql = z6 at HV6 ⊢
        have HZ6 := Aside0.mk hz6
        clear hz6
        go_wp2_with fail
        clear b0 b1 b2 bf
        have HNx := Aside0.mk (show altL (ks.take (i + 1)) ⟨false, [], []⟩ s = ((⟨true, bothL rf qf, bothL rla ql⟩ : BM.Edge), qs) from by rw [HN.out, bothL_fin HRf.out, bothL_fin HRl.out]; rfl)
        rw [HZ4.out, HZ6.out] at HNx
        have hown : Own (w.heap.size + 1 + 1) w1 (w6.setCell ⟨w.heap.size + 1 + 1, 2, none⟩ (.slice E6 z6.length n6)) := own_trans HO6.out (own_set1 (w.heap.size + 1 + 1) w6 2 (.slice E6 z6.length n6))
        have hblk : (w6.setCell ⟨w.heap.size + 1 + 1, 2, none⟩ (.slice E6 z6.length n6)).heap[w.heap.size + 1 + 1]? = some (.cells #[.bool true, .slice E4 z4.length n4, .slice E6 z6.length n6] 77 (0, 0)) := blk_set BO6.out 2 _
        have hs3 := HO3.out.size
        have hs4 := HB4.out.size
        have hs5 := HZ5.out
        have hgx0 := HGX.out
        have hlt3 : w1.heap.size ≤ w3.heap.size := HO3.out.size
        have hgo3 : w.heap.size + 1 + 1 < w3.heap.size := by omega
        have hgo5 : w.heap.size + 1 + 1 < w5.heap.size := by omega
        have HMn := Aside0.mk (HM.out.next (r' := (⟨true, z4, z6⟩, qs)) HE HA1.out HS1.out hown
          (oldnew_row (w3 := (w6.setCell ⟨w.heap.size + 1 + 1, 2, none⟩ (.slice E6 z6.length n6))) (n := w3.heap.size) HV4.out HR1.out hlt3 (fun k hk hlt => by
            exact (Below.heap_setCell _ _ _ k (show k ≠ w.heap.size + 1 + 1 by omega)).trans ((HB6.out.block k (by omega)).trans (HK5.out k (by omega)))))
          (oldnew_row (w3 := (w6.setCell ⟨w.heap.size + 1 + 1, 2, none⟩ (.slice E6 z6.length n6))) (n := w5.heap.size) HV6.out HR2.out (by omega) (fun k hk hlt => Below.heap_setCell _ _ _ k (show k ≠ w.heap.size + 1 + 1 by omega))) hblk)
        have HNN := Aside0.mk ((hown.block _ (Array.getElem?_eq_some_iff.1 HBN1.out).1 (by omega)).trans HBN1.out)
        clear hown hblk hs3 hs4 hs5 hgx0 hlt3 hgo3 hgo5
        generalize (w6.setCell ⟨w.heap.size + 1 + 1, 2, none⟩ (.slice E6 z6.length n6)) = wf at HMn HNN ⊢
        go_roundg (ks.length - (i + 1))
        case measure => have := HI.out; omega
        case rel => exact ⟨i + 1, by go_num, ⟨by have := HI.out; omega⟩, ⟨_, _, _, _, by rw [HNx.out]; exact HMn.out, HNN.out⟩⟩
    · have := HI.out
      obtain rfl : i = ks.length := by omega
      clear this
      obtain ⟨vs', vf', o1, o2, hM, hbn⟩ := HM.out
      rw [List.take_length] at hM
      obtain ⟨O1, d1, rfl⟩ := Kd.R_slice hM.part.1
      obtain ⟨O2, d2, rfl⟩ := Kd.R_slice hM.part.2
      generalize hre : altL ks ⟨false, [], []⟩ s = r at hM
      have HRE := Aside0.mk hre
      clear hre
      have n2 : wr.cell? ⟨w.heap.size, 2, none⟩ = some (.slice A ks.length c) := (blk_cell hbn 2).trans rfl
      have b0 : wr.cell? ⟨w.heap.size + 1 + 1, 0, none⟩ = some (.bool r.1.null) := (blk_cell hM.bo 0).trans rfl
      have b1 : wr.cell? ⟨w.heap.size + 1 + 1, 1, none⟩ = some (.slice O1 r.1.first.length d1) := (blk_cell hM.bo 1).trans rfl
      have b2 : wr.cell? ⟨w.heap.size + 1 + 1, 2, none⟩ = some (.slice O2 r.1.last.length d2) := (blk_cell hM.bo 2).trans rfl
      have z0 : wr.cell? ⟨w.heap.size + 1, 0, none⟩ = some (.bool false) := (blk_cell hM.br 0).trans rfl
      have z1 : wr.cell? ⟨w.heap.size + 1, 1, none⟩ = some (.slice none 0 0) := (blk_cell hM.br 1).trans rfl
      have z2 : wr.cell? ⟨w.heap.size + 1, 2, none⟩ = some (.slice none 0 0) := (blk_cell hM.br 2).trans rfl
      have zf : ∀ i, wr.frozen? ⟨w.heap.size + 1, i, none⟩ = false := fun i => blk_frozen hM.br i
      have HMe := Aside0.mk hM
      clear HM hM hbn
      go_wp2_with fail
      refine bodyPost_ret (results_c1 (P := Try.prog) rfl _ _ (w.heap.size + 1) 77 #[.bool r.1.null, .slice O1 r.1.first.length d1, .slice O2 r.1.last.length d2] (0, 0) _ rfl ?_ Try.underlying77 rfl (by kernel_rfl)) rfl ?_
      · exact set3 HMe.out.br
      · rw [HRE.out]; exact HMe.out.done HE
end Go.Proofs.Ytkoofldididpgaa.RB

end
section
namespace Go.Proofs.Ytkoofldididpgaa.RB
open Go Go.RowKit Go.Proofs.YtkoofldididpgaaW.PrintWords Go.Proofs.YtkoofldididpgaaW.PrintLast Go.Proofs.YtkoofldididpgaaW.PrintMore
open Go.Proofs.Ytkoofldididpgaa.XB Go.Proofs.Ytkoofldididpgaa.NM Go.Proofs.Ytkoofldididpgaa.NR Go.Proofs.Ytkoofldididpgaa.NW Go.Proofs.Ytkoofldididpgaa.BM Go.Proofs.Ytkoofldididpgaa.FM Go.Proofs.Ytkoofldididpgaa.NA Go.Proofs.Ytkoofldididpgaa.NN Go.Proofs.Ytkoofldididpgaa.NT Go.Proofs.Ytkoofldididpgaa.NO Go.Proofs.Ytkoofldididpgaa.RT Go.Proofs.Ytkoofldididpgaa.NK Go.Proofs.Ytkoofldididpgaa.NP Go.Proofs.Ytkoofldididpgaa.NB
set_option linter.unusedVariables false
set_option linter.unusedSimpArgs false
set_option maxRecDepth 100000 in
set_option maxHeartbeats 3200000 in
theorem node_cat (ks : List S24) (st : Int) (h : ∀ x ∈ ks, NodeAt x) (X : Nat → Prop) (B p : Nat) (vs vf : Value) (s : St) (A : Option Addr) (c : Nat) (w0 w : World) (h0B : w0.heap.size ≤ B) (hb0 : Below w0.heap.size w0 w) (hr : Kd.C k24 w0 A ks.length ks) (hc : ks.length ≤ c)
    (hB : B ≤ w.heap.size) (hX : ∀ k, X k → k < w.heap.size) (hA : AutoR X B p vs vf s w) (hs : SOk s) (hk : rightL ks = true) (hm : s.sets.length + cntL ks ≤ 300) :
    Calls Try.prog 51 #[.pointer (some ⟨p, 0, none⟩), .agg #[.int .i64 0, .int .i64 st, .slice A ks.length c]] w (RPost X B p vs vf w (catL ks ⟨true, [], []⟩ s)) := by
  have HA := Aside0.mk hA
  have hn0 := hA.lt
  go_enter Try.func51, Try.ntmps51
  go_wp2_with fail
  have hb2 : Below w.heap.size w ((w.alloc (.cells #[.int .i64 0, .int .i64 st, .slice A ks.length c] 24)).alloc (.cells #[.bool false, .slice none 0 0, .slice none 0 0] 77)) := by repeat (first | exact Below.refl _ _ | apply below_alloc)
  have br : ((w.alloc (.cells #[.int .i64 0, .int .i64 st, .slice A ks.length c] 24)).alloc (.cells #[.bool false, .slice none 0 0, .slice none 0 0] 77)).heap[w.heap.size + 1]? = some (.cells #[.bool false, .slice none 0 0, .slice none 0 0] 77 (0, 0)) := by simpa using blk_new (w.alloc (.cells #[.int .i64 0, .int .i64 st, .slice A ks.length c] 24)) (.cells #[.bool false, .slice none 0 0, .slice none 0 0] 77)
  have hsz : ((w.alloc (.cells #[.int .i64 0, .int .i64 st, .slice A ks.length c] 24)).alloc (.cells #[.bool false, .slice none 0 0, .slice none 0 0] 77)).heap.size = w.heap.size + 2 := by simp
  generalize ((w.alloc (.cells #[.int .i64 0, .int .i64 st, .slice A ks.length c] 24)).alloc (.cells #[.bool false, .slice none 0 0, .slice none 0 0] 77)) = W at hb2 br hsz ⊢
  have hA2 := AutoM.more HA.out hb2 (fun k => k = w.heap.size + 1) (fun k hk => by omega)
  refine (cat_calls ks h (fun k => X k ∨ k = w.heap.size + 1) B p vs vf s A c w0 W h0B (hb0.trans (hb2.mono hb0.size)) hr hc hA2.rows.base (fun k hk => by rcases hk with hk | hk; (have := hX k hk; omega); omega) hA2 hs hk hm).mono ?_
  rintro e w1 ⟨u1, u2, vs2, vf2, rfl, hA1, hS1, hP1⟩
  have HR2 := Aside0.mk (hS1.blk (hA2.away br (by omega) (by decide) (by decide)) br)
  generalize hq : catL ks ⟨true, [], []⟩ s = q at hA1 hP1
  have HQ := Aside0.mk hq
  clear hq
  obtain ⟨U1, m1, rfl⟩ := Kd.R_slice hP1.1
  obtain ⟨U2, m2, rfl⟩ := Kd.R_slice hP1.2
  have HA1 := Aside0.mk hA1
  have HS1 := Aside0.mk ((Stp.of_below hB hb2).trans hS1)
  have HP1 := Aside0.mk hP1
  clear hA1 hS1 hP1 br hb2 hA2 hA hs hr h hk hm hb0
  have z0 : w1.cell? ⟨w.heap.size + 1, 0, none⟩ = some (.bool false) := (blk_cell HR2.out 0).trans rfl
  have z1 : w1.cell? ⟨w.heap.size + 1, 1, none⟩ = some (.slice none 0 0) := (blk_cell HR2.out 1).trans rfl
  have z2 : w1.cell? ⟨w.heap.size + 1, 2, none⟩ = some (.slice none 0 0) := (blk_cell HR2.out 2).trans rfl
  have zf : ∀ i, w1.frozen? ⟨w.heap.size + 1, i, none⟩ = false := fun i => blk_frozen HR2.out i
  unfold partV
  go_wp2_with fail
  refine bodyPost_ret (results_c1 (P := Try.prog) rfl _ _ (w.heap.size + 1) 77 #[.bool q.1.null, .slice U1 q.1.first.length m1, .slice U2 q.1.last.length m2] (0, 0) _ rfl ?_ Try.underlying77 rfl (by kernel_rfl)) rfl ?_
  · exact set3 HR2.out
  · have hO := own_set3 (w.heap.size + 1) w1 (.bool q.1.null) (.slice U1 q.1.first.length m1) (.slice U2 q.1.last.length m2)
    rw [HQ.out]
    exact ⟨_, _, _, _, rfl, AutoM.less (AutoM.own HA1.out HR2.out (by omega) (by decide) (.inr rfl) hO) (fun k hk => .inl hk), Stp.own hB HS1.out (by omega) hO, R_own HP1.out.1 HR2.out (by decide) hO, R_own HP1.out.2 HR2.out (by decide) hO⟩
set_option maxRecDepth 100000 in
set_option maxHeartbeats 3200000 in
theorem node_one3 (x : S24) (st : Int) (h : NodeAt x) (X : Nat → Prop) (B p : Nat) (vs vf : Value) (s : St) (A : Option Addr) (c : Nat) (w0 w : World) (h0B : w0.heap.size ≤ B) (hb0 : Below w0.heap.size w0 w) (hr : Kd.C k24 w0 A [x].length [x]) (hc : [x].length ≤ c)
    (hB : B ≤ w.heap.size) (hX : ∀ k, X k → k < w.heap.size) (hA : AutoR X B p vs vf s w) (hs : SOk s) (hk : rightN x = true) (hm : s.sets.length + cntN x ≤ 300) :
    Calls Try.prog 51 #[.pointer (some ⟨p, 0, none⟩), .agg #[.int .i64 3, .int .i64 st, .slice A 1 c]] w (RPost X B p vs vf w (oneL 3 [x] s)) := by
  have HX := Aside0.mk h
  have H0 := Aside0.mk hb0
  have HA := Aside0.mk hA
  have HS := Aside0.mk hs
  have HK := Aside0.mk hk
  have hn0 : p < w.heap.size := hA.lt
  obtain ⟨ad, A2, c2, rfl, f0, f1, f2, l2, g2⟩ := at_T24 hr 0 (by omega) (by simp)
  have hx : rd_T24 [x] 0 = x := rfl
  rw [hx] at f0 f1 f2 l2 g2
  rw [show (0 : Int).toNat * 3 = 0 from rfl, show ad.add 0 = ad by cases ad; simp [Addr.add]] at f0 f1 f2
  have HG := Aside0.mk g2
  have HL2 := Aside0.mk l2
  have HE := Aside0.mk (show oneL 3 [x] s = (⟨(bldN x s).1.null || !((3 : Int) == 4), (bldN x s).1.first, (bldN x s).1.last⟩, ⟨(bldN x s).2.sets, if (3 : Int) = 5 then (bldN x s).2.follow else after (bldN x s).2.follow (bldN x s).1.last (bldN x s).1.first⟩) by rw [oneL])
  have e0 := pw_cell_below hb0 f0
  have e1 := pw_cell_below hb0 f1
  have e2 := pw_cell_below hb0 f2
  have hal : ad.block < w.heap.size := World.block_lt_of_cell? _ _ e0
  clear h hb0 hr hc hA hs hk f0 f1 f2 l2 g2 hx
  have a1 : ¬ ad.block = w.heap.size := by omega
  have a2 : ¬ w.heap.size = ad.block := by omega
  have a3 : ¬ ad.block = w.heap.size + 1 := by omega
  have a4 : ¬ w.heap.size + 1 = ad.block := by omega
  have a5 : ad.block < w.heap.size + 1 := by omega
  have a6 : (ad.block == w.heap.size) = false := by rw [beq_eq_false_iff_ne]; omega
  have a7 : (ad.block == w.heap.size + 1) = false := by rw [beq_eq_false_iff_ne]; omega
  go_enter Try.func51, Try.ntmps51
  go_wp2_with fail
  clear a1 a2 a3 a4 a5 a6 a7 e0 e1 e2
  have hb2 : Below w.heap.size w ((w.alloc (.cells #[.int .i64 3, .int .i64 st, .slice (some ad) 1 c] 24)).alloc (.cells #[.bool false, .slice none 0 0, .slice none 0 0] 77)) := by repeat (first | exact Below.refl _ _ | apply below_alloc)
  have br : ((w.alloc (.cells #[.int .i64 3, .int .i64 st, .slice (some ad) 1 c] 24)).alloc (.cells #[.bool false, .slice none 0 0, .slice none 0 0] 77)).heap[w.heap.size + 1]? = some (.cells #[.bool false, .slice none 0 0, .slice none 0 0] 77 (0, 0)) := by simpa using blk_new (w.alloc (.cells #[.int .i64 3, .int .i64 st, .slice (some ad) 1 c] 24)) (.cells #[.bool false, .slice none 0 0, .slice none 0 0] 77)
  have bn : ((w.alloc (.cells #[.int .i64 3, .int .i64 st, .slice (some ad) 1 c] 24)).alloc (.cells #[.bool false, .slice none 0 0, .slice none 0 0] 77)).heap[w.heap.size]? = some (.cells #[.int .i64 3, .int .i64 st, .slice (some ad) 1 c] 24 (0, 0)) := by repeat (first | exact blk_new _ _ | refine blk_alloc ?_ _)
  have hsz : ((w.alloc (.cells #[.int .i64 3, .int .i64 st, .slice (some ad) 1 c] 24)).alloc (.cells #[.bool false, .slice none 0 0, .slice none 0 0] 77)).heap.size = w.heap.size + 2 := by simp
  generalize ((w.alloc (.cells #[.int .i64 3, .int .i64 st, .slice (some ad) 1 c] 24)).alloc (.cells #[.bool false, .slice none 0 0, .slice none 0 0] 77)) = W at hb2 br bn hsz ⊢
  have hA2 := AutoM.more HA.out hb2 (fun k => k = w.heap.size + 1) (fun k hk => by omega)
  refine (HX.out (fun k => X k ∨ k = w.heap.size + 1) B p vs vf s A2 c2 w0 W h0B (H0.out.trans (hb2.mono H0.out.size)) HG.out HL2.out hA2.rows.base (fun k hk => by rcases hk with hk | hk; (have := hX k hk; omega); omega) hA2 HS.out HK.out hm).mono ?_
  rintro e w1 ⟨u1, u2, vs2, vf2, rfl, hA1, hS1, hP1⟩
  have br1 := hS1.blk (hA2.away br (by omega) (by decide) (by decide)) br
  have bn1 := hS1.blk (hA2.away bn (by omega) (by decide) (by decide)) bn
  have hW2 := bldN_ok x s HK.out HS.out
  generalize bldN x s = q at hA1 hP1 HE hW2 ⊢
  obtain ⟨⟨qn, qf, ql⟩, qs⟩ := q
  dsimp only at hA1 hP1 HE hW2 ⊢
  obtain ⟨U1, m1, rfl⟩ := Kd.R_slice hP1.1
  obtain ⟨U2, m2, rfl⟩ := Kd.R_slice hP1.2
  dsimp only at hP1
  have HA1 := Aside0.mk hA1
  have HS1 := Aside0.mk ((Stp.of_below hB hb2).trans hS1)
  have HP1 := Aside0.mk hP1
  have HW2 := Aside0.mk hW2
  have BR1 := Aside0.mk br1
  have BN1 := Aside0.mk bn1
  have hr1 : w.heap.size + 1 < w1.heap.size := (Array.getElem?_eq_some_iff.1 br1).1
  clear hA1 hS1 hP1 hW2 br bn hb2 hA2
  have a1 : ¬ w.heap.size = w1.heap.size := by omega
  have a2 : ¬ w1.heap.size = w.heap.size := by omega
  have a3 : w.heap.size < w1.heap.size := by omega
  have a4 : (w.heap.size == w1.heap.size) = false := by rw [beq_eq_false_iff_ne]; omega
  have n0 : w1.cell? ⟨w.heap.size, 0, none⟩ = some (.int .i64 3) := (blk_cell BN1.out 0).trans rfl
  have n1 : w1.cell? ⟨w.heap.size, 1, none⟩ = some (.int .i64 st) := (blk_cell BN1.out 1).trans rfl
  have n2 : w1.cell? ⟨w.heap.size, 2, none⟩ = some (.slice (some ad) 1 c) := (blk_cell BN1.out 2).trans rfl
  unfold partV
  go_wp2_with fail
  clear n0 n1 n2 a1 a2 a3 a4 br1 bn1
  have hbz := below_alloc (Below.refl w1.heap.size w1) (.cells #[.bool qn, .slice U1 qf.length m1, .slice U2 ql.length m2] 77)
  have hL : LoopR X B p (w.heap.size + 1) w1.heap.size vs vf (⟨qn, qf, ql⟩, qs) w (w1.alloc (.cells #[.bool qn, .slice U1 qf.length m1, .slice U2 ql.length m2] 77)) vs2 vf2 (.slice U1 qf.length m1) (.slice U2 ql.length m2) :=
    ⟨AutoM.less (AutoM.more HA1.out hbz (fun k => k = w1.heap.size) (fun k hk => by omega)) (fun k hk => by rcases hk with hk | hk | hk; exact .inl (.inl hk); exact .inl (.inr hk); exact .inr hk), HS1.out.trans (Stp.of_below HA1.out.rows.base hbz), ⟨Kd.R_below HP1.out.1 hbz, Kd.R_below HP1.out.2 hbz⟩, blk_alloc BR1.out _, blk_new _ _⟩
  have hN2 : (w1.alloc (.cells #[.bool qn, .slice U1 qf.length m1, .slice U2 ql.length m2] 77)).heap[w.heap.size]? = some (.cells #[.int .i64 3, .int .i64 st, .slice (some ad) 1 c] 24 (0, 0)) := blk_alloc BN1.out _
  have hE : Ends B p (w.heap.size + 1) w1.heap.size w := ⟨hB, by omega, by omega, hn0, by omega⟩
  have HLL := Aside0.mk hL
  have HN2 := Aside0.mk hN2
  clear hbz hL hN2
  generalize w1.alloc (.cells #[.bool qn, .slice U1 qf.length m1, .slice U2 ql.length m2] 77) = w2 at HLL HN2 ⊢
  generalize hgx : w1.heap.size = gx at HLL hE hr1 ⊢
  clear hgx
  have hgx2 : gx < w2.heap.size := (Array.getElem?_eq_some_iff.1 HLL.out.bo).1
  refine (after_calls (XR X (w.heap.size + 1) gx) B p vs2 vf2 _ _ qs ql qf w2 HLL.out.base (fun k hk => by rcases hk with hk | hk | hk; (have := hX k hk; omega); omega; omega) HLL.out.auto HW2.out.1 (by have := HW2.out.2.2; dsimp only at this; omega) HLL.out.part.2 (by have := HW2.out.2.1.last; rw [← HW2.out.2.2] at this; exact this) HLL.out.part.1 (by have := HW2.out.2.1.first; rw [← HW2.out.2.2] at this; exact this)).mono ?_
  rintro e w3 ⟨rfl, hA3, hS3⟩
  have bx3 := HLL.out.kept hS3 HLL.out.bo (by omega) (by decide) (by decide)
  have br3 := HLL.out.kept hS3 HLL.out.br (by omega) (by decide) (by decide)
  have bn3 := hS3.blk (HLL.out.auto.away HN2.out (by omega) (by decide) (by decide)) HN2.out
  have HA3 := Aside0.mk hA3
  have HS3 := Aside0.mk hS3
  have BX3 := Aside0.mk bx3
  have hq1 : ¬ gx = w.heap.size + 1 := by omega
  have hq2 : ¬ w.heap.size + 1 = gx := by omega
  have hq3 : ¬ gx = w.heap.size := by omega
  have hq4 : ¬ w.heap.size = gx := by omega
  clear hA3 hS3
  have x0 : w3.cell? ⟨gx, 0, none⟩ = some (.bool qn) := (blk_cell bx3 0).trans rfl
  have x1 : w3.cell? ⟨gx, 1, none⟩ = some (.slice U1 qf.length m1) := (blk_cell bx3 1).trans rfl
  have x2 : w3.cell? ⟨gx, 2, none⟩ = some (.slice U2 ql.length m2) := (blk_cell bx3 2).trans rfl
  have xf : ∀ i, w3.frozen? ⟨gx, i, none⟩ = false := fun i => blk_frozen bx3 i
  have z0 : w3.cell? ⟨w.heap.size + 1, 0, none⟩ = some (.bool false) := (blk_cell br3 0).trans rfl
  have z1 : w3.cell? ⟨w.heap.size + 1, 1, none⟩ = some (.slice none 0 0) := (blk_cell br3 1).trans rfl
  have z2 : w3.cell? ⟨w.heap.size + 1, 2, none⟩ = some (.slice none 0 0) := (blk_cell br3 2).trans rfl
  have zf : ∀ i, w3.frozen? ⟨w.heap.size + 1, i, none⟩ = false := fun i => blk_frozen br3 i
  have n0 : w3.cell? ⟨w.heap.size, 0, none⟩ = some (.int .i64 3) := (blk_cell bn3 0).trans rfl
  have n1 : w3.cell? ⟨w.heap.size, 1, none⟩ = some (.int .i64 st) := (blk_cell bn3 1).trans rfl
  have n2 : w3.cell? ⟨w.heap.size, 2, none⟩ = some (.slice (some ad) 1 c) := (blk_cell bn3 2).trans rfl
  clear bx3 br3 bn3
  cases qn
  · skip
    have hLn := HLL.out.next (r' := (⟨true, qf, ql⟩, ⟨qs.sets, after qs.follow ql qf⟩)) hE HA3.out HS3.out (own_set1 gx w3 0 (.bool true)) (.inr (HS3.out.row HLL.out.part.1)) (.inr (HS3.out.row HLL.out.part.2)) (blk_set BX3.out 0 (.bool true))
    have HLn := Aside0.mk hLn
    clear hLn
    go_wp2_with fail
    refine bodyPost_ret (results_c1 (P := Try.prog) rfl _ _ (w.heap.size + 1) 77 #[.bool true, .slice U1 qf.length m1, .slice U2 ql.length m2] (0, 0) _ rfl ?_ Try.underlying77 rfl (by kernel_rfl)) rfl ?_
    · exact set3 HLn.out.br
    · rw [HE.out]; exact HLn.out.done hE
  · skip
    have hLn := HLL.out.next (r' := (⟨true, qf, ql⟩, ⟨qs.sets, after qs.follow ql qf⟩)) hE HA3.out HS3.out (own_set1 gx w3 0 (.bool true)) (.inr (HS3.out.row HLL.out.part.1)) (.inr (HS3.out.row HLL.out.part.2)) (blk_set BX3.out 0 (.bool true))
    have HLn := Aside0.mk hLn
    clear hLn
    go_wp2_with fail
    refine bodyPost_ret (results_c1 (P := Try.prog) rfl _ _ (w.heap.size + 1) 77 #[.bool true, .slice U1 qf.length m1, .slice U2 ql.length m2] (0, 0) _ rfl ?_ Try.underlying77 rfl (by kernel_rfl)) rfl ?_
    · exact set3 HLn.out.br
    · rw [HE.out]; exact HLn.out.done hE
set_option maxRecDepth 100000 in
set_option maxHeartbeats 3200000 in
theorem node_one4 (x : S24) (st : Int) (h : NodeAt x) (X : Nat → Prop) (B p : Nat) (vs vf : Value) (s : St) (A : Option Addr) (c : Nat) (w0 w : World) (h0B : w0.heap.size ≤ B) (hb0 : Below w0.heap.size w0 w) (hr : Kd.C k24 w0 A [x].length [x]) (hc : [x].length ≤ c)
    (hB : B ≤ w.heap.size) (hX : ∀ k, X k → k < w.heap.size) (hA : AutoR X B p vs vf s w) (hs : SOk s) (hk : rightN x = true) (hm : s.sets.length + cntN x ≤ 300) :
    Calls Try.prog 51 #[.pointer (some ⟨p, 0, none⟩), .agg #[.int .i64 4, .int .i64 st, .slice A 1 c]] w (RPost X B p vs vf w (oneL 4 [x] s)) := by
  have HX := Aside0.mk h
  have H0 := Aside0.mk hb0
  have HA := Aside0.mk hA
  have HS := Aside0.mk hs
  have HK := Aside0.mk hk
  have hn0 : p < w.heap.size := hA.lt
  obtain ⟨ad, A2, c2, rfl, f0, f1, f2, l2, g2⟩ := at_T24 hr 0 (by omega) (by simp)
  have hx : rd_T24 [x] 0 = x := rfl
  rw [hx] at f0 f1 f2 l2 g2
  rw [show (0 : Int).toNat * 3 = 0 from rfl, show ad.add 0 = ad by cases ad; simp [Addr.add]] at f0 f1 f2
  have HG := Aside0.mk g2
  have HL2 := Aside0.mk l2
  have HE := Aside0.mk (show oneL 4 [x] s = (⟨(bldN x s).1.null || !((4 : Int) == 4), (bldN x s).1.first, (bldN x s).1.last⟩, ⟨(bldN x s).2.sets, if (4 : Int) = 5 then (bldN x s).2.follow else after (bldN x s).2.follow (bldN x s).1.last (bldN x s).1.first⟩) by rw [oneL])
  have e0 := pw_cell_below hb0 f0
  have e1 := pw_cell_below hb0 f1
  have e2 := pw_cell_below hb0 f2
  have hal : ad.block < w.heap.size := World.block_lt_of_cell? _ _ e0
  clear h hb0 hr hc hA hs hk f0 f1 f2 l2 g2 hx
  have a1 : ¬ ad.block = w.heap.size := by omega
  have a2 : ¬ w.heap.size = ad.block := by omega
  have a3 : ¬ ad.block = w.heap.size + 1 := by omega
  have a4 : ¬ w.heap.size + 1 = ad.block := by omega
  have a5 : ad.block < w.heap.size + 1 := by omega
  have a6 : (ad.block == w.heap.size) = false := by rw [beq_eq_false_iff_ne]; omega
  have a7 : (ad.block == w.heap.size + 1) = false := by rw [beq_eq_false_iff_ne]; omega
  go_enter Try.func51, Try.ntmps51
  go_wp2_with fail
  clear a1 a2 a3 a4 a5 a6 a7 e0 e1 e2
  have hb2 : Below w.heap.size w ((w.alloc (.cells #[.int .i64 4, .int .i64 st, .slice (some ad) 1 c] 24)).alloc (.cells #[.bool false, .slice none 0 0, .slice none 0 0] 77)) := by repeat (first | exact Below.refl _ _ | apply below_alloc)
  have br : ((w.alloc (.cells #[.int .i64 4, .int .i64 st, .slice (some ad) 1 c] 24)).alloc (.cells #[.bool false, .slice none 0 0, .slice none 0 0] 77)).heap[w.heap.size + 1]? = some (.cells #[.bool false, .slice none 0 0, .slice none 0 0] 77 (0, 0)) := by simpa using blk_new (w.alloc (.cells #[.int .i64 4, .int .i64 st, .slice (some ad) 1 c] 24)) (.cells #[.bool false, .slice none 0 0, .slice none 0 0] 77)
  have bn : ((w.alloc (.cells #[.int .i64 4, .int .i64 st, .slice (some ad) 1 c] 24)).alloc (.cells #[.bool false, .slice none 0 0, .slice none 0 0] 77)).heap[w.heap.size]? = some (.cells #[.int .i64 4, .int .i64 st, .slice (some ad) 1 c] 24 (0, 0)) := by repeat (first | exact blk_new _ _ | refine blk_alloc ?_ _)
  have hsz : ((w.alloc (.cells #[.int .i64 4, .int .i64 st, .slice (some ad) 1 c] 24)).alloc (.cells #[.bool false, .slice none 0 0, .slice none 0 0] 77)).heap.size = w.heap.size + 2 := by simp
  generalize ((w.alloc (.cells #[.int .i64 4, .int .i64 st, .slice (some ad) 1 c] 24)).alloc (.cells #[.bool false, .slice none 0 0, .slice none 0 0] 77)) = W at hb2 br bn hsz ⊢
  have hA2 := AutoM.more HA.out hb2 (fun k => k = w.heap.size + 1) (fun k hk => by omega)
  refine (HX.out (fun k => X k ∨ k = w.heap.size + 1) B p vs vf s A2 c2 w0 W h0B (H0.out.trans (hb2.mono H0.out.size)) HG.out HL2.out hA2.rows.base (fun k hk => by rcases hk with hk | hk; (have := hX k hk; omega); omega) hA2 HS.out HK.out hm).mono ?_
  rintro e w1 ⟨u1, u2, vs2, vf2, rfl, hA1, hS1, hP1⟩
  have br1 := hS1.blk (hA2.away br (by omega) (by decide) (by decide)) br
  have bn1 := hS1.blk (hA2.away bn (by omega) (by decide) (by decide)) bn
  have hW2 := bldN_ok x s HK.out HS.out
  generalize bldN x s = q at hA1 hP1 HE hW2 ⊢
  obtain ⟨⟨qn, qf, ql⟩, qs⟩ := q
  dsimp only at hA1 hP1 HE hW2 ⊢
  obtain ⟨U1, m1, rfl⟩ := Kd.R_slice hP1.1
  obtain ⟨U2, m2, rfl⟩ := Kd.R_slice hP1.2
  dsimp only at hP1
  have HA1 := Aside0.mk hA1
  have HS1 := Aside0.mk ((Stp.of_below hB hb2).trans hS1)
  have HP1 := Aside0.mk hP1
  have HW2 := Aside0.mk hW2
  have BR1 := Aside0.mk br1
  have BN1 := Aside0.mk bn1
  have hr1 : w.heap.size + 1 < w1.heap.size := (Array.getElem?_eq_some_iff.1 br1).1
  clear hA1 hS1 hP1 hW2 br bn hb2 hA2
  have a1 : ¬ w.heap.size = w1.heap.size := by omega
  have a2 : ¬ w1.heap.size = w.heap.size := by omega
  have a3 : w.heap.size < w1.heap.size := by omega
  have a4 : (w.heap.size == w1.heap.size) = false := by rw [beq_eq_false_iff_ne]; omega
  have n0 : w1.cell? ⟨w.heap.size, 0, none⟩ = some (.int .i64 4) := (blk_cell BN1.out 0).trans rfl
  have n1 : w1.cell? ⟨w.heap.size, 1, none⟩ = some (.int .i64 st) := (blk_cell BN1.out 1).trans rfl
  have n2 : w1.cell? ⟨w.heap.size, 2, none⟩ = some (.slice (some ad) 1 c) := (blk_cell BN1.out 2).trans rfl
  unfold partV
  go_wp2_with fail
  clear n0 n1 n2 a1 a2 a3 a4 br1 bn1
  have hbz := below_alloc (Below.refl w1.heap.size w1) (.cells #[.bool qn, .slice U1 qf.length m1, .slice U2 ql.length m2] 77)
  have hL : LoopR X B p (w.heap.size + 1) w1.heap.size vs vf (⟨qn, qf, ql⟩, qs) w (w1.alloc (.cells #[.bool qn, .slice U1 qf.length m1, .slice U2 ql.length m2] 77)) vs2 vf2 (.slice U1 qf.length m1) (.slice U2 ql.length m2) :=
    ⟨AutoM.less (AutoM.more HA1.out hbz (fun k => k = w1.heap.size) (fun k hk => by omega)) (fun k hk => by rcases hk with hk | hk | hk; exact .inl (.inl hk); exact .inl (.inr hk); exact .inr hk), HS1.out.trans (Stp.of_below HA1.out.rows.base hbz), ⟨Kd.R_below HP1.out.1 hbz, Kd.R_below HP1.out.2 hbz⟩, blk_alloc BR1.out _, blk_new _ _⟩
  have hN2 : (w1.alloc (.cells #[.bool qn, .slice U1 qf.length m1, .slice U2 ql.length m2] 77)).heap[w.heap.size]? = some (.cells #[.int .i64 4, .int .i64 st, .slice (some ad) 1 c] 24 (0, 0)) := blk_alloc BN1.out _
  have hE : Ends B p (w.heap.size + 1) w1.heap.size w := ⟨hB, by omega, by omega, hn0, by omega⟩
  have HLL := Aside0.mk hL
  have HN2 := Aside0.mk hN2
  clear hbz hL hN2
  generalize w1.alloc (.cells #[.bool qn, .slice U1 qf.length m1, .slice U2 ql.length m2] 77) = w2 at HLL HN2 ⊢
  generalize hgx : w1.heap.size = gx at HLL hE hr1 ⊢
  clear hgx
  have hgx2 : gx < w2.heap.size := (Array.getElem?_eq_some_iff.1 HLL.out.bo).1
  refine (after_calls (XR X (w.heap.size + 1) gx) B p vs2 vf2 _ _ qs ql qf w2 HLL.out.base (fun k hk => by rcases hk with hk | hk | hk; (have := hX k hk; omega); omega; omega) HLL.out.auto HW2.out.1 (by have := HW2.out.2.2; dsimp only at this; omega) HLL.out.part.2 (by have := HW2.out.2.1.last; rw [← HW2.out.2.2] at this; exact this) HLL.out.part.1 (by have := HW2.out.2.1.first; rw [← HW2.out.2.2] at this; exact this)).mono ?_
  rintro e w3 ⟨rfl, hA3, hS3⟩
  have bx3 := HLL.out.kept hS3 HLL.out.bo (by omega) (by decide) (by decide)
  have br3 := HLL.out.kept hS3 HLL.out.br (by omega) (by decide) (by decide)
  have bn3 := hS3.blk (HLL.out.auto.away HN2.out (by omega) (by decide) (by decide)) HN2.out
  have HA3 := Aside0.mk hA3
  have HS3 := Aside0.mk hS3
  have BX3 := Aside0.mk bx3
  have hq1 : ¬ gx = w.heap.size + 1 := by omega
  have hq2 : ¬ w.heap.size + 1 = gx := by omega
  have hq3 : ¬ gx = w.heap.size := by omega
  have hq4 : ¬ w.heap.size = gx := by omega
  clear hA3 hS3
  have x0 : w3.cell? ⟨gx, 0, none⟩ = some (.bool qn) := (blk_cell bx3 0).trans rfl
  have x1 : w3.cell? ⟨gx, 1, none⟩ = some (.slice U1 qf.length m1) := (blk_cell bx3 1).trans rfl
  have x2 : w3.cell? ⟨gx, 2, none⟩ = some (.slice U2 ql.length m2) := (blk_cell bx3 2).trans rfl
  have xf : ∀ i, w3.frozen? ⟨gx, i, none⟩ = false := fun i => blk_frozen bx3 i
  have z0 : w3.cell? ⟨w.heap.size + 1, 0, none⟩ = some (.bool false) := (blk_cell br3 0).trans rfl
  have z1 : w3.cell? ⟨w.heap.size + 1, 1, none⟩ = some (.slice none 0 0) := (blk_cell br3 1).trans rfl
  have z2 : w3.cell? ⟨w.heap.size + 1, 2, none⟩ = some (.slice none 0 0) := (blk_cell br3 2).trans rfl
  have zf : ∀ i, w3.frozen? ⟨w.heap.size + 1, i, none⟩ = false := fun i => blk_frozen br3 i
  have n0 : w3.cell? ⟨w.heap.size, 0, none⟩ = some (.int .i64 4) := (blk_cell bn3 0).trans rfl
  have n1 : w3.cell? ⟨w.heap.size, 1, none⟩ = some (.int .i64 st) := (blk_cell bn3 1).trans rfl
  have n2 : w3.cell? ⟨w.heap.size, 2, none⟩ = some (.slice (some ad) 1 c) := (blk_cell bn3 2).trans rfl
  clear bx3 br3 bn3
  cases qn
  · skip
    have hLn := HLL.out.next (r' := (⟨false, qf, ql⟩, ⟨qs.sets, after qs.follow ql qf⟩)) hE HA3.out HS3.out (own_set1 gx w3 0 (.bool false)) (.inr (HS3.out.row HLL.out.part.1)) (.inr (HS3.out.row HLL.out.part.2)) (blk_set BX3.out 0 (.bool false))
    have HLn := Aside0.mk hLn
    clear hLn
    go_wp2_with fail
    refine bodyPost_ret (results_c1 (P := Try.prog) rfl _ _ (w.heap.size + 1) 77 #[.bool false, .slice U1 qf.length m1, .slice U2 ql.length m2] (0, 0) _ rfl ?_ Try.underlying77 rfl (by kernel_rfl)) rfl ?_
    · exact set3 HLn.out.br
    · rw [HE.out]; exact HLn.out.done hE
  · skip
    have hLn := HLL.out.next (r' := (⟨true, qf, ql⟩, ⟨qs.sets, after qs.follow ql qf⟩)) hE HA3.out HS3.out (own_set1 gx w3 0 (.bool true)) (.inr (HS3.out.row HLL.out.part.1)) (.inr (HS3.out.row HLL.out.part.2)) (blk_set BX3.out 0 (.bool true))
    have HLn := Aside0.mk hLn
    clear hLn
    go_wp2_with fail
    refine bodyPost_ret (results_c1 (P := Try.prog) rfl _ _ (w.heap.size + 1) 77 #[.bool true, .slice U1 qf.length m1, .slice U2 ql.length m2] (0, 0) _ rfl ?_ Try.underlying77 rfl (by kernel_rfl)) rfl ?_
    · exact set3 HLn.out.br
    · rw [HE.out]; exact HLn.out.done hE
set_option maxRecDepth 100000 in
set_option maxHeartbeats 3200000 in
theorem node_one5 (x : S24) (st : Int) (h : NodeAt x) (X : Nat → Prop) (B p : Nat) (vs vf : Value) (s : St) (A : Option Addr) (c : Nat) (w0 w : World) (h0B : w0.heap.size ≤ B) (hb0 : Below w0.heap.size w0 w) (hr : Kd.C k24 w0 A [x].length [x]) (hc : [x].length ≤ c)
    (hB : B ≤ w.heap.size) (hX : ∀ k, X k → k < w.heap.size) (hA : AutoR X B p vs vf s w) (hs : SOk s) (hk : rightN x = true) (hm : s.sets.length + cntN x ≤ 300) :
    Calls Try.prog 51 #[.pointer (some ⟨p, 0, none⟩), .agg #[.int .i64 5, .int .i64 st, .slice A 1 c]] w (RPost X B p vs vf w (oneL 5 [x] s)) := by
  have HX := Aside0.mk h
  have H0 := Aside0.mk hb0
  have HA := Aside0.mk hA
  have HS := Aside0.mk hs
  have HK := Aside0.mk hk
  have hn0 : p < w.heap.size := hA.lt
  obtain ⟨ad, A2, c2, rfl, f0, f1, f2, l2, g2⟩ := at_T24 hr 0 (by omega) (by simp)
  have hx : rd_T24 [x] 0 = x := rfl
  rw [hx] at f0 f1 f2 l2 g2
  rw [show (0 : Int).toNat * 3 = 0 from rfl, show ad.add 0 = ad by cases ad; simp [Addr.add]] at f0 f1 f2
  have HG := Aside0.mk g2
  have HL2 := Aside0.mk l2
  have HE := Aside0.mk (show oneL 5 [x] s = (⟨(bldN x s).1.null || !((5 : Int) == 4), (bldN x s).1.first, (bldN x s).1.last⟩, ⟨(bldN x s).2.sets, if (5 : Int) = 5 then (bldN x s).2.follow else after (bldN x s).2.follow (bldN x s).1.last (bldN x s).1.first⟩) by rw [oneL])
  have e0 := pw_cell_below hb0 f0
  have e1 := pw_cell_below hb0 f1
  have e2 := pw_cell_below hb0 f2
  have hal : ad.block < w.heap.size := World.block_lt_of_cell? _ _ e0
  clear h hb0 hr hc hA hs hk f0 f1 f2 l2 g2 hx
  have a1 : ¬ ad.block = w.heap.size := by omega
  have a2 : ¬ w.heap.size = ad.block := by omega
  have a3 : ¬ ad.block = w.heap.size + 1 := by omega
  have a4 : ¬ w.heap.size + 1 = ad.block := by omega
  have a5 : ad.block < w.heap.size + 1 := by omega
  have a6 : (ad.block == w.heap.size) = false := by rw [beq_eq_false_iff_ne]; omega
  have a7 : (ad.block == w.heap.size + 1) = false := by rw [beq_eq_false_iff_ne]; omega
  go_enter Try.func51, Try.ntmps51
  go_wp2_with fail
  clear a1 a2 a3 a4 a5 a6 a7 e0 e1 e2
  have hb2 : Below w.heap.size w ((w.alloc (.cells #[.int .i64 5, .int .i64 st, .slice (some ad) 1 c] 24)).alloc (.cells #[.bool false, .slice none 0 0, .slice none 0 0] 77)) := by repeat (first | exact Below.refl _ _ | apply below_alloc)
  have br : ((w.alloc (.cells #[.int .i64 5, .int .i64 st, .slice (some ad) 1 c] 24)).alloc (.cells #[.bool false, .slice none 0 0, .slice none 0 0] 77)).heap[w.heap.size + 1]? = some (.cells #[.bool false, .slice none 0 0, .slice none 0 0] 77 (0, 0)) := by simpa using blk_new (w.alloc (.cells #[.int .i64 5, .int .i64 st, .slice (some ad) 1 c] 24)) (.cells #[.bool false, .slice none 0 0, .slice none 0 0] 77)
  have bn : ((w.alloc (.cells #[.int .i64 5, .int .i64 st, .slice (some ad) 1 c] 24)).alloc (.cells #[.bool false, .slice none 0 0, .slice none 0 0] 77)).heap[w.heap.size]? = some (.cells #[.int .i64 5, .int .i64 st, .slice (some ad) 1 c] 24 (0, 0)) := by repeat (first | exact blk_new _ _ | refine blk_alloc ?_ _)
  have hsz : ((w.alloc (.cells #[.int .i64 5, .int .i64 st, .slice (some ad) 1 c] 24)).alloc (.cells #[.bool false, .slice none 0 0, .slice none 0 0] 77)).heap.size = w.heap.size + 2 := by simp
  generalize ((w.alloc (.cells #[.int .i64 5, .int .i64 st, .slice (some ad) 1 c] 24)).alloc (.cells #[.bool false, .slice none 0 0, .slice none 0 0] 77)) = W at hb2 br bn hsz ⊢
  have hA2 := AutoM.more HA.out hb2 (fun k => k = w.heap.size + 1) (fun k hk => by omega)
  refine (HX.out (fun k => X k ∨ k = w.heap.size + 1) B p vs vf s A2 c2 w0 W h0B (H0.out.trans (hb2.mono H0.out.size)) HG.out HL2.out hA2.rows.base (fun k hk => by rcases hk with hk | hk; (have := hX k hk; omega); omega) hA2 HS.out HK.out hm).mono ?_
  rintro e w1 ⟨u1, u2, vs2, vf2, rfl, hA1, hS1, hP1⟩
  have br1 := hS1.blk (hA2.away br (by omega) (by decide) (by decide)) br
  have bn1 := hS1.blk (hA2.away bn (by omega) (by decide) (by decide)) bn
  have hW2 := bldN_ok x s HK.out HS.out
  generalize bldN x s = q at hA1 hP1 HE hW2 ⊢
  obtain ⟨⟨qn, qf, ql⟩, qs⟩ := q
  dsimp only at hA1 hP1 HE hW2 ⊢
  obtain ⟨U1, m1, rfl⟩ := Kd.R_slice hP1.1
  obtain ⟨U2, m2, rfl⟩ := Kd.R_slice hP1.2
  dsimp only at hP1
  have HA1 := Aside0.mk hA1
  have HS1 := Aside0.mk ((Stp.of_below hB hb2).trans hS1)
  have HP1 := Aside0.mk hP1
  have HW2 := Aside0.mk hW2
  have BR1 := Aside0.mk br1
  have BN1 := Aside0.mk bn1
  have hr1 : w.heap.size + 1 < w1.heap.size := (Array.getElem?_eq_some_iff.1 br1).1
  clear hA1 hS1 hP1 hW2 br bn hb2 hA2
  have a1 : ¬ w.heap.size = w1.heap.size := by omega
  have a2 : ¬ w1.heap.size = w.heap.size := by omega
  have a3 : w.heap.size < w1.heap.size := by omega
  have a4 : (w.heap.size == w1.heap.size) = false := by rw [beq_eq_false_iff_ne]; omega
  have n0 : w1.cell? ⟨w.heap.size, 0, none⟩ = some (.int .i64 5) := (blk_cell BN1.out 0).trans rfl
  have n1 : w1.cell? ⟨w.heap.size, 1, none⟩ = some (.int .i64 st) := (blk_cell BN1.out 1).trans rfl
  have n2 : w1.cell? ⟨w.heap.size, 2, none⟩ = some (.slice (some ad) 1 c) := (blk_cell BN1.out 2).trans rfl
  have hbz := below_alloc (Below.refl w1.heap.size w1) (.cells #[.bool qn, .slice U1 qf.length m1, .slice U2 ql.length m2] 77)
  have hL : LoopR X B p (w.heap.size + 1) w1.heap.size vs vf (⟨qn, qf, ql⟩, qs) w (w1.alloc (.cells #[.bool qn, .slice U1 qf.length m1, .slice U2 ql.length m2] 77)) vs2 vf2 (.slice U1 qf.length m1) (.slice U2 ql.length m2) :=
    ⟨AutoM.less (AutoM.more HA1.out hbz (fun k => k = w1.heap.size) (fun k hk => by omega)) (fun k hk => by rcases hk with hk | hk | hk; exact .inl (.inl hk); exact .inl (.inr hk); exact .inr hk), HS1.out.trans (Stp.of_below HA1.out.rows.base hbz), ⟨Kd.R_below HP1.out.1 hbz, Kd.R_below HP1.out.2 hbz⟩, blk_alloc BR1.out _, blk_new _ _⟩
  have hN2 : (w1.alloc (.cells #[.bool qn, .slice U1 qf.length m1, .slice U2 ql.length m2] 77)).heap[w.heap.size]? = some (.cells #[.int .i64 5, .int .i64 st, .slice (some ad) 1 c] 24 (0, 0)) := blk_alloc BN1.out _
  have hE : Ends B p (w.heap.size + 1) w1.heap.size w := ⟨hB, by omega, by omega, hn0, by omega⟩
  have HLL := Aside0.mk hL
  have HN2 := Aside0.mk hN2
  clear hbz hL hN2
  generalize hw2 : w1.alloc (.cells #[.bool qn, .slice U1 qf.length m1, .slice U2 ql.length m2] 77) = w2 at HLL HN2
  have hgx2 : w1.heap.size < w2.heap.size := (Array.getElem?_eq_some_iff.1 HLL.out.bo).1
  subst hw2
  unfold partV
  have BR1' := Aside0.mk BR1.out
  clear n0 n1 n2
  have n0 : w1.cell? ⟨w.heap.size, 0, none⟩ = some (.int .i64 5) := (blk_cell BN1.out 0).trans rfl
  have n1 : w1.cell? ⟨w.heap.size, 1, none⟩ = some (.int .i64 st) := (blk_cell BN1.out 1).trans rfl
  have n2 : w1.cell? ⟨w.heap.size, 2, none⟩ = some (.slice (some ad) 1 c) := (blk_cell BN1.out 2).trans rfl
  have z0 : w1.cell? ⟨w.heap.size + 1, 0, none⟩ = some (.bool false) := (blk_cell BR1.out 0).trans rfl
  have z1 : w1.cell? ⟨w.heap.size + 1, 1, none⟩ = some (.slice none 0 0) := (blk_cell BR1.out 1).trans rfl
  have z2 : w1.cell? ⟨w.heap.size + 1, 2, none⟩ = some (.slice none 0 0) := (blk_cell BR1.out 2).trans rfl
  have zf : ∀ i, w1.frozen? ⟨w.heap.size + 1, i, none⟩ = false := fun i => blk_frozen BR1.out i
  have q1 : ¬ w.heap.size + 1 = w1.heap.size := by omega
  have q2 : ¬ w1.heap.size = w.heap.size + 1 := by omega
  have q3 : (w.heap.size + 1 == w1.heap.size) = false := by rw [beq_eq_false_iff_ne]; omega
  clear br1 bn1
  cases qn
  · skip
    go_wp2_with fail
    refine bodyPost_ret (results_c1 (P := Try.prog) rfl _ _ (w.heap.size + 1) 77 #[.bool true, .slice U1 qf.length m1, .slice U2 ql.length m2] (0, 0) _ rfl ?_ Try.underlying77 rfl (by kernel_rfl)) rfl ?_
    · exact blk_alloc (set3 BR1.out) _
    · have hO := own_below (own_set3 (w.heap.size + 1) w1 (.bool true) (.slice U1 qf.length m1) (.slice U2 ql.length m2)) (below_alloc (Below.refl _ _) (.cells #[.bool true, .slice U1 qf.length m1, .slice U2 ql.length m2] 77))
      rw [HE.out]
      exact ⟨_, _, _, _, rfl, AutoM.less (AutoM.own HA1.out BR1.out (by omega) (by decide) (.inr rfl) hO) (fun k hk => .inl hk), Stp.own hB HS1.out (by omega) hO, R_own HP1.out.1 BR1.out (by decide) hO, R_own HP1.out.2 BR1.out (by decide) hO⟩
  · skip
    go_wp2_with fail
    refine bodyPost_ret (results_c1 (P := Try.prog) rfl _ _ (w.heap.size + 1) 77 #[.bool true, .slice U1 qf.length m1, .slice U2 ql.length m2] (0, 0) _ rfl ?_ Try.underlying77 rfl (by kernel_rfl)) rfl ?_
    · exact blk_alloc (set3 BR1.out) _
    · have hO := own_below (own_set3 (w.heap.size + 1) w1 (.bool true) (.slice U1 qf.length m1) (.slice U2 ql.length m2)) (below_alloc (Below.refl _ _) (.cells #[.bool true, .slice U1 qf.length m1, .slice U2 ql.length m2] 77))
      rw [HE.out]
      exact ⟨_, _, _, _, rfl, AutoM.less (AutoM.own HA1.out BR1.out (by omega) (by decide) (.inr rfl) hO) (fun k hk => .inl hk), Stp.own hB HS1.out (by omega) hO, R_own HP1.out.1 BR1.out (by decide) hO, R_own HP1.out.2 BR1.out (by decide) hO⟩
end Go.Proofs.Ytkoofldididpgaa.RB

end
section
namespace Go.Proofs.Ytkoofldididpgaa.NR
open Go Go.RowKit Go.Proofs.YtkoofldididpgaaW.PrintWords Go.Proofs.YtkoofldididpgaaW.PrintLast Go.Proofs.YtkoofldididpgaaW.PrintMore
open Go.Proofs.Ytkoofldididpgaa.XB Go.Proofs.Ytkoofldididpgaa.NM
set_option linter.unusedVariables false
set_option linter.unusedSimpArgs false
def RefRightAt (n : S24) : Prop := ∀ (A : Option Addr) (c : Nat) (w : World), Kd.C k24 w A n.f2.length n.f2 → n.f2.length ≤ c →
  Calls Try.prog 49 #[nodeV n A c] w fun e w' => e = .returned (.bool (rightN n)) ∧ Below w.heap.size w w'
set_option maxRecDepth 100000 in
set_option maxHeartbeats 1600000 in
theorem ref_right_step (n : S24) (h : ∀ x ∈ n.f2, RefRightAt x) : RefRightAt n := by
  intro A c w hr hc
  have hu24 := Try.underlying24
  have HR := Aside0.mk hr
  have HC := Aside0.mk hc
  have HH := Aside0.mk h
  have HE := Aside0.mk (right_eq n)
  have HL := hr.2.1
  obtain ⟨kd, st, ks⟩ := n
  dsimp only at *
  clear hr hc h
  unfold nodeV
  dsimp only
  rcases head_cases kd st ks.length with ⟨h1, hk⟩ | ⟨h1, hk⟩
  · have HE2 : Aside0 (rightN ⟨kd, st, ks⟩ = ks.all rightN) := ⟨by rw [HE.out, h1]; rfl⟩
    clear HE h1
    rcases hk with ⟨rfl, g0, g1, g2⟩ | rfl | ⟨rfl, g0⟩ | ⟨rfl, g0⟩ | ⟨rfl, g0⟩ | ⟨rfl, g0⟩
    · have hks : ks = [] := List.length_eq_zero_iff.1 (by omega)
      subst hks
      go_enter Try.func49, Try.ntmps49
      go_wp2_with (first | ((with_reducible refine gate_dst (N := 1) rfl ?_); refine box_event ?hg (N := 1) ?hd (cs := #[.int .i64 1, .int .i64 st, .slice A ([] : List S24).length c]) (t := 24) ?hr ?_; (case hd => rfl); (case hg => rfl); (case hr => first | (go_simp; done) | (go_simp; rfl)); intro gb hg w1 hbox hb; have BK := Aside0.mk hbox; have HB := Aside0.mk hb; have hc0 : w1.cell? ⟨gb, 0, none⟩ = some (.int .i64 1) := (blk_cell BK.out 0).trans rfl; have hc1 : w1.cell? ⟨gb, 1, none⟩ = some (.int .i64 st) := (blk_cell BK.out 1).trans rfl; have hc2 : w1.cell? ⟨gb, 2, none⟩ = some (.slice A ([] : List S24).length c) := (blk_cell BK.out 2).trans rfl; clear hg hbox hb))
      go_ret
      exact ⟨by rw [HE2.out]; rfl, HB.out⟩
    · skip
      go_enter Try.func49, Try.ntmps49
      go_wp2_with (first | ((with_reducible refine gate_dst (N := 1) rfl ?_); refine box_event ?hg (N := 1) ?hd (cs := #[.int .i64 0, .int .i64 st, .slice A ks.length c]) (t := 24) ?hr ?_; (case hd => rfl); (case hg => rfl); (case hr => first | (go_simp; done) | (go_simp; rfl)); intro gb hg w1 hbox hb; have BK := Aside0.mk hbox; have HB := Aside0.mk hb; have hc0 : w1.cell? ⟨gb, 0, none⟩ = some (.int .i64 0) := (blk_cell BK.out 0).trans rfl; have hc1 : w1.cell? ⟨gb, 1, none⟩ = some (.int .i64 st) := (blk_cell BK.out 1).trans rfl; have hc2 : w1.cell? ⟨gb, 2, none⟩ = some (.slice A ks.length c) := (blk_cell BK.out 2).trans rfl; clear hg hbox hb))
      clear hc0 hc1 hc2
      go_loopg [4] ks.length (fun kq v4 wr => ∃ i : Nat, v4 = .int .i64 i ∧ Aside0 (i ≤ ks.length ∧ kq + i = ks.length) ∧ Aside0 ((ks.take i).all rightN = true) ∧ Aside0 (wr.heap[gb]? = some (.cells #[.int .i64 0, .int .i64 st, .slice A ks.length c] 24 (0, 0))) ∧ Aside0 (Below w.heap.size w wr))
      case atStart => exact ⟨0, rfl, ⟨by omega⟩, ⟨by simp⟩, BK, HB⟩
      case round =>
        clear BK HB
        obtain ⟨i, rfl, HI, HA, BK, HB⟩ := hrel
        by_cases hlt : i < ks.length
        · have hrd := Kd.C_below HR.out HB.out
          obtain ⟨ad, A2, c2, rfl, e0, e1, e2, l2, g2⟩ := at_T24 hrd (i : Int) (by omega) (by omega)
          have hx : rd_T24 ks (i : Int) = ks[i] := by simp [rd_T24, List.getD_eq_getElem?_getD, hlt]
          rw [hx] at e0 e1 e2 l2 g2
          simp only [Int.toNat_natCast] at e0 e1 e2
          have HT := Aside0.mk (show ks.take (i + 1) = ks.take i ++ [ks[i]] from List.take_succ_eq_append_getElem hlt)
          have HX := Aside0.mk (HH.out ks[i] (List.getElem_mem hlt))
          have HG := Aside0.mk g2
          have HL2 := Aside0.mk l2
          have hc2 : wr.cell? ⟨gb, 2, none⟩ = some (.slice (some ad) ks.length c) := (blk_cell BK.out 2).trans rfl
          clear hrd hx g2 l2
          generalize ks[i] = x at e0 e1 e2 HT HX HG HL2
          go_wp2_with fail
          refine (HX.out A2 c2 _ HG.out HL2.out).mono ?_
          rintro e w2 ⟨rfl, hb⟩
          have HB1 := Aside0.mk (below_step HB.out hb)
          have BK1 := Aside0.mk (blk_below BK.out hb)
          clear hb e0 e1 e2 hc2
          cases hx : rightN x with
          | true =>
            go_wp2_with fail
            go_roundg (ks.length - (i + 1))
            case measure => have := HI.out; omega
            case rel => exact ⟨i + 1, by go_num, ⟨by have := HI.out; omega⟩, ⟨by rw [HT.out, List.all_append, HA.out]; simp [hx]⟩, BK1, HB1⟩
          | false =>
            go_wp2_with fail
            go_ret
            refine ⟨?_, HB1.out⟩
            have h1 : x ∈ ks := by
              have : x ∈ ks.take (i + 1) := by rw [HT.out]; simp
              exact List.mem_of_mem_take this
            have h2 : ks.all rightN = false := by
              cases hall : ks.all rightN with
              | false => rfl
              | true => have := List.all_eq_true.1 hall x h1; rw [hx] at this; cases this
            rw [HE2.out, h2]; rfl
        · have := HI.out
          obtain rfl : i = ks.length := by omega
          clear this
          go_wp2_with fail
          go_ret
          have h2 : ks.all rightN = true := by have := HA.out; rwa [List.take_length] at this
          exact ⟨by rw [HE2.out, h2]; rfl, HB.out⟩
    · have q1 : (((ks.length : Nat) : Int) == 0) = false := by rw [beq_eq_false_iff_ne]; omega
      have q2 : decide (((ks.length : Nat) : Int) = 0) = false := decide_eq_false (by omega)
      go_enter Try.func49, Try.ntmps49
      go_wp2_with (first | ((with_reducible refine gate_dst (N := 1) rfl ?_); refine box_event ?hg (N := 1) ?hd (cs := #[.int .i64 2, .int .i64 st, .slice A ks.length c]) (t := 24) ?hr ?_; (case hd => rfl); (case hg => rfl); (case hr => first | (go_simp; done) | (go_simp; rfl)); intro gb hg w1 hbox hb; have BK := Aside0.mk hbox; have HB := Aside0.mk hb; have hc0 : w1.cell? ⟨gb, 0, none⟩ = some (.int .i64 2) := (blk_cell BK.out 0).trans rfl; have hc1 : w1.cell? ⟨gb, 1, none⟩ = some (.int .i64 st) := (blk_cell BK.out 1).trans rfl; have hc2 : w1.cell? ⟨gb, 2, none⟩ = some (.slice A ks.length c) := (blk_cell BK.out 2).trans rfl; clear hg hbox hb))
      clear hc0 hc1 hc2
      go_loopg [4] ks.length (fun kq v4 wr => ∃ i : Nat, v4 = .int .i64 i ∧ Aside0 (i ≤ ks.length ∧ kq + i = ks.length) ∧ Aside0 ((ks.take i).all rightN = true) ∧ Aside0 (wr.heap[gb]? = some (.cells #[.int .i64 2, .int .i64 st, .slice A ks.length c] 24 (0, 0))) ∧ Aside0 (Below w.heap.size w wr))
      case atStart => exact ⟨0, rfl, ⟨by omega⟩, ⟨by simp⟩, BK, HB⟩
      case round =>
        clear BK HB
        obtain ⟨i, rfl, HI, HA, BK, HB⟩ := hrel
        by_cases hlt : i < ks.length
        · have hrd := Kd.C_below HR.out HB.out
          obtain ⟨ad, A2, c2, rfl, e0, e1, e2, l2, g2⟩ := at_T24 hrd (i : Int) (by omega) (by omega)
          have hx : rd_T24 ks (i : Int) = ks[i] := by simp [rd_T24, List.getD_eq_getElem?_getD, hlt]
          rw [hx] at e0 e1 e2 l2 g2
          simp only [Int.toNat_natCast] at e0 e1 e2
          have HT := Aside0.mk (show ks.take (i + 1) = ks.take i ++ [ks[i]] from List.take_succ_eq_append_getElem hlt)
          have HX := Aside0.mk (HH.out ks[i] (List.getElem_mem hlt))
          have HG := Aside0.mk g2
          have HL2 := Aside0.mk l2
          have hc2 : wr.cell? ⟨gb, 2, none⟩ = some (.slice (some ad) ks.length c) := (blk_cell BK.out 2).trans rfl
          clear hrd hx g2 l2
          generalize ks[i] = x at e0 e1 e2 HT HX HG HL2
          go_wp2_with fail
          refine (HX.out A2 c2 _ HG.out HL2.out).mono ?_
          rintro e w2 ⟨rfl, hb⟩
          have HB1 := Aside0.mk (below_step HB.out hb)
          have BK1 := Aside0.mk (blk_below BK.out hb)
          clear hb e0 e1 e2 hc2
          cases hx : rightN x with
          | true =>
            go_wp2_with fail
            go_roundg (ks.length - (i + 1))
            case measure => have := HI.out; omega
            case rel => exact ⟨i + 1, by go_num, ⟨by have := HI.out; omega⟩, ⟨by rw [HT.out, List.all_append, HA.out]; simp [hx]⟩, BK1, HB1⟩
          | false =>
            go_wp2_with fail
            go_ret
            refine ⟨?_, HB1.out⟩
            have h1 : x ∈ ks := by
              have : x ∈ ks.take (i + 1) := by rw [HT.out]; simp
              exact List.mem_of_mem_take this
            have h2 : ks.all rightN = false := by
              cases hall : ks.all rightN with
              | false => rfl
              | true => have := List.all_eq_true.1 hall x h1; rw [hx] at this; cases this
            rw [HE2.out, h2]; rfl
        · have := HI.out
          obtain rfl : i = ks.length := by omega
          clear this
          go_wp2_with fail
          go_ret
          have h2 : ks.all rightN = true := by have := HA.out; rwa [List.take_length] at this
          exact ⟨by rw [HE2.out, h2]; rfl, HB.out⟩
    · skip
      go_enter Try.func49, Try.ntmps49
      go_wp2_with (first | ((with_reducible refine gate_dst (N := 1) rfl ?_); refine box_event ?hg (N := 1) ?hd (cs := #[.int .i64 3, .int .i64 st, .slice A ks.length c]) (t := 24) ?hr ?_; (case hd => rfl); (case hg => rfl); (case hr => first | (go_simp; done) | (go_simp; rfl)); intro gb hg w1 hbox hb; have BK := Aside0.mk hbox; have HB := Aside0.mk hb; have hc0 : w1.cell? ⟨gb, 0, none⟩ = some (.int .i64 3) := (blk_cell BK.out 0).trans rfl; have hc1 : w1.cell? ⟨gb, 1, none⟩ = some (.int .i64 st) := (blk_cell BK.out 1).trans rfl; have hc2 : w1.cell? ⟨gb, 2, none⟩ = some (.slice A ks.length c) := (blk_cell BK.out 2).trans rfl; clear hg hbox hb))
      clear hc0 hc1 hc2
      go_loopg [4] ks.length (fun kq v4 wr => ∃ i : Nat, v4 = .int .i64 i ∧ Aside0 (i ≤ ks.length ∧ kq + i = ks.length) ∧ Aside0 ((ks.take i).all rightN = true) ∧ Aside0 (wr.heap[gb]? = some (.cells #[.int .i64 3, .int .i64 st, .slice A ks.length c] 24 (0, 0))) ∧ Aside0 (Below w.heap.size w wr))
      case atStart => exact ⟨0, rfl, ⟨by omega⟩, ⟨by simp⟩, BK, HB⟩
      case round =>
        clear BK HB
        obtain ⟨i, rfl, HI, HA, BK, HB⟩ := hrel
        by_cases hlt : i < ks.length
        · have hrd := Kd.C_below HR.out HB.out
          obtain ⟨ad, A2, c2, rfl, e0, e1, e2, l2, g2⟩ := at_T24 hrd (i : Int) (by omega) (by omega)
          have hx : rd_T24 ks (i : Int) = ks[i] := by simp [rd_T24, List.getD_eq_getElem?_getD, hlt]
          rw [hx] at e0 e1 e2 l2 g2
          simp only [Int.toNat_natCast] at e0 e1 e2
          have HT := Aside0.mk (show ks.take (i + 1) = ks.take i ++ [ks[i]] from List.take_succ_eq_append_getElem hlt)
          have HX := Aside0.mk (HH.out ks[i] (List.getElem_mem hlt))
          have HG := Aside0.mk g2
          have HL2 := Aside0.mk l2
          have hc2 : wr.cell? ⟨gb, 2, none⟩ = some (.slice (some ad) ks.length c) := (blk_cell BK.out 2).trans rfl
          clear hrd hx g2 l2
          generalize ks[i] = x at e0 e1 e2 HT HX HG HL2
          go_wp2_with fail
          refine (HX.out A2 c2 _ HG.out HL2.out).mono ?_
          rintro e w2 ⟨rfl, hb⟩
          have HB1 := Aside0.mk (below_step HB.out hb)
          have BK1 := Aside0.mk (blk_below BK.out hb)
          clear hb e0 e1 e2 hc2
          cases hx : rightN x with
          | true =>
            go_wp2_with fail
            go_roundg (ks.length - (i + 1))
            case measure => have := HI.out; omega
            case rel => exact ⟨i + 1, by go_num, ⟨by have := HI.out; omega⟩, ⟨by rw [HT.out, List.all_append, HA.out]; simp [hx]⟩, BK1, HB1⟩
          | false =>
            go_wp2_with fail
            go_ret
            refine ⟨?_, HB1.out⟩
            have h1 : x ∈ ks := by
              have : x ∈ ks.take (i + 1) := by rw [HT.out]; simp
              exact List.mem_of_mem_take this
            have h2 : ks.all rightN = false := by
              cases hall : ks.all rightN with
              | false => rfl
              | true => have := List.all_eq_true.1 hall x h1; rw [hx] at this; cases this
            rw [HE2.out, h2]; rfl
        · have := HI.out
          obtain rfl : i = ks.length := by omega
          clear this
          go_wp2_with fail
          go_ret
          have h2 : ks.all rightN = true := by have := HA.out; rwa [List.take_length] at this
          exact ⟨by rw [HE2.out, h2]; rfl, HB.out⟩
    · skip
      go_enter Try.func49, Try.ntmps49
      go_wp2_with (first | ((with_reducible refine gate_dst (N := 1) rfl ?_); refine box_event ?hg (N := 1) ?hd (cs := #[.int .i64 4, .int .i64 st, .slice A ks.length c]) (t := 24) ?hr ?_; (case hd => rfl); (case hg => rfl); (case hr => first | (go_simp; done) | (go_simp; rfl)); intro gb hg w1 hbox hb; have BK := Aside0.mk hbox; have HB := Aside0.mk hb; have hc0 : w1.cell? ⟨gb, 0, none⟩ = some (.int .i64 4) := (blk_cell BK.out 0).trans rfl; have hc1 : w1.cell? ⟨gb, 1, none⟩ = some (.int .i64 st) := (blk_cell BK.out 1).trans rfl; have hc2 : w1.cell? ⟨gb, 2, none⟩ = some (.slice A ks.length c) := (blk_cell BK.out 2).trans rfl; clear hg hbox hb))
      clear hc0 hc1 hc2
      go_loopg [4] ks.length (fun kq v4 wr => ∃ i : Nat, v4 = .int .i64 i ∧ Aside0 (i ≤ ks.length ∧ kq + i = ks.length) ∧ Aside0 ((ks.take i).all rightN = true) ∧ Aside0 (wr.heap[gb]? = some (.cells #[.int .i64 4, .int .i64 st, .slice A ks.length c] 24 (0, 0))) ∧ Aside0 (Below w.heap.size w wr))
      case atStart => exact ⟨0, rfl, ⟨by omega⟩, ⟨by simp⟩, BK, HB⟩
      case round =>
        clear BK HB
        obtain ⟨i, rfl, HI, HA, BK, HB⟩ := hrel
        by_cases hlt : i < ks.length
        · have hrd := Kd.C_below HR.out HB.out
          obtain ⟨ad, A2, c2, rfl, e0, e1, e2, l2, g2⟩ := at_T24 hrd (i : Int) (by omega) (by omega)
          have hx : rd_T24 ks (i : Int) = ks[i] := by simp [rd_T24, List.getD_eq_getElem?_getD, hlt]
          rw [hx] at e0 e1 e2 l2 g2
          simp only [Int.toNat_natCast] at e0 e1 e2
          have HT := Aside0.mk (show ks.take (i + 1) = ks.take i ++ [ks[i]] from List.take_succ_eq_append_getElem hlt)
          have HX := Aside0.mk (HH.out ks[i] (List.getElem_mem hlt))
          have HG := Aside0.mk g2
          have HL2 := Aside0.mk l2
          have hc2 : wr.cell? ⟨gb, 2, none⟩ = some (.slice (some ad) ks.length c) := (blk_cell BK.out 2).trans rfl
          clear hrd hx g2 l2
          generalize ks[i] = x at e0 e1 e2 HT HX HG HL2
          go_wp2_with fail
          refine (HX.out A2 c2 _ HG.out HL2.out).mono ?_
          rintro e w2 ⟨rfl, hb⟩
          have HB1 := Aside0.mk (below_step HB.out hb)
          have BK1 := Aside0.mk (blk_below BK.out hb)
          clear hb e0 e1 e2 hc2
          cases hx : rightN x with
          | true =>
            go_wp2_with fail
            go_roundg (ks.length - (i + 1))
            case measure => have := HI.out; omega
            case rel => exact ⟨i + 1, by go_num, ⟨by have := HI.out; omega⟩, ⟨by rw [HT.out, List.all_append, HA.out]; simp [hx]⟩, BK1, HB1⟩
          | false =>
            go_wp2_with fail
            go_ret
            refine ⟨?_, HB1.out⟩
            have h1 : x ∈ ks := by
              have : x ∈ ks.take (i + 1) := by rw [HT.out]; simp
              exact List.mem_of_mem_take this
            have h2 : ks.all rightN = false := by
              cases hall : ks.all rightN with
              | false => rfl
              | true => have := List.all_eq_true.1 hall x h1; rw [hx] at this; cases this
            rw [HE2.out, h2]; rfl
        · have := HI.out
          obtain rfl : i = ks.length := by omega
          clear this
          go_wp2_with fail
          go_ret
          have h2 : ks.all rightN = true := by have := HA.out; rwa [List.take_length] at this
          exact ⟨by rw [HE2.out, h2]; rfl, HB.out⟩
    · skip
      go_enter Try.func49, Try.ntmps49
      go_wp2_with (first | ((with_reducible refine gate_dst (N := 1) rfl ?_); refine box_event ?hg (N := 1) ?hd (cs := #[.int .i64 5, .int .i64 st, .slice A ks.length c]) (t := 24) ?hr ?_; (case hd => rfl); (case hg => rfl); (case hr => first | (go_simp; done) | (go_simp; rfl)); intro gb hg w1 hbox hb; have BK := Aside0.mk hbox; have HB := Aside0.mk hb; have hc0 : w1.cell? ⟨gb, 0, none⟩ = some (.int .i64 5) := (blk_cell BK.out 0).trans rfl; have hc1 : w1.cell? ⟨gb, 1, none⟩ = some (.int .i64 st) := (blk_cell BK.out 1).trans rfl; have hc2 : w1.cell? ⟨gb, 2, none⟩ = some (.slice A ks.length c) := (blk_cell BK.out 2).trans rfl; clear hg hbox hb))
      clear hc0 hc1 hc2
      go_loopg [4] ks.length (fun kq v4 wr => ∃ i : Nat, v4 = .int .i64 i ∧ Aside0 (i ≤ ks.length ∧ kq + i = ks.length) ∧ Aside0 ((ks.take i).all rightN = true) ∧ Aside0 (wr.heap[gb]? = some (.cells #[.int .i64 5, .int .i64 st, .slice A ks.length c] 24 (0, 0))) ∧ Aside0 (Below w.heap.size w wr))
      case atStart => exact ⟨0, rfl, ⟨by omega⟩, ⟨by simp⟩, BK, HB⟩
      case round =>
        clear BK HB
        obtain ⟨i, rfl, HI, HA, BK, HB⟩ := hrel
        by_cases hlt : i < ks.length
        · have hrd := Kd.C_below HR.out HB.out
          obtain ⟨ad, A2, c2, rfl, e0, e1, e2, l2, g2⟩ := at_T24 hrd (i : Int) (by omega) (by omega)
          have hx : rd_T24 ks (i : Int) = ks[i] := by simp [rd_T24, List.getD_eq_getElem?_getD, hlt]
          rw [hx] at e0 e1 e2 l2 g2
          simp only [Int.toNat_natCast] at e0 e1 e2
          have HT := Aside0.mk (show ks.take (i + 1) = ks.take i ++ [ks[i]] from List.take_succ_eq_append_getElem hlt)
          have HX := Aside0.mk (HH.out ks[i] (List.getElem_mem hlt))
          have HG := Aside0.mk g2
          have HL2 := Aside0.mk l2
          have hc2 : wr.cell? ⟨gb, 2, none⟩ = some (.slice (some ad) ks.length c) := (blk_cell BK.out 2).trans rfl
          clear hrd hx g2 l2
          generalize ks[i] = x at e0 e1 e2 HT HX HG HL2
          go_wp2_with fail
          refine (HX.out A2 c2 _ HG.out HL2.out).mono ?_
          rintro e w2 ⟨rfl, hb⟩
          have HB1 := Aside0.mk (below_step HB.out hb)
          have BK1 := Aside0.mk (blk_below BK.out hb)
          clear hb e0 e1 e2 hc2
          cases hx : rightN x with
          | true =>
            go_wp2_with fail
            go_roundg (ks.length - (i + 1))
            case measure => have := HI.out; omega
            case rel => exact ⟨i + 1, by go_num, ⟨by have := HI.out; omega⟩, ⟨by rw [HT.out, List.all_append, HA.out]; simp [hx]⟩, BK1, HB1⟩
          | false =>
            go_wp2_with fail
            go_ret
            refine ⟨?_, HB1.out⟩
            have h1 : x ∈ ks := by
              have : x ∈ ks.take (i + 1) := by rw [HT.out]; simp
              exact List.mem_of_mem_take this
            have h2 : ks.all rightN = false := by
              cases hall : ks.all rightN with
              | false => rfl
              | true => have := List.all_eq_true.1 hall x h1; rw [hx] at this; cases this
            rw [HE2.out, h2]; rfl
        · have := HI.out
          obtain rfl : i = ks.length := by omega
          clear this
          go_wp2_with fail
          go_ret
          have h2 : ks.all rightN = true := by have := HA.out; rwa [List.take_length] at this
          exact ⟨by rw [HE2.out, h2]; rfl, HB.out⟩
  · have HE2 : Aside0 (rightN ⟨kd, st, ks⟩ = false) := ⟨by rw [HE.out, h1]; rfl⟩
    clear HE h1
    rcases hk with ⟨rfl, g0⟩ | ⟨rfl, g0, g1⟩ | ⟨rfl, g0, g1, g2⟩ | ⟨rfl, g0⟩ | ⟨rfl, g0⟩ | ⟨rfl, g0⟩ | ⟨rfl, g0⟩ | ⟨g0, g1, g2, g3, g4, g5⟩
    · have g0b : decide ((ks.length : Int) = 0) = false := decide_eq_false g0
      have hks : ks ≠ [] := by rintro rfl; exact g0 rfl
      go_enter Try.func49, Try.ntmps49
      go_wp2_with (first | ((with_reducible refine gate_dst (N := 1) rfl ?_); refine box_event ?hg (N := 1) ?hd (cs := #[.int .i64 1, .int .i64 st, .slice A ks.length c]) (t := 24) ?hr ?_; (case hd => rfl); (case hg => rfl); (case hr => first | (go_simp; done) | (go_simp; rfl)); intro gb hg w1 hbox hb; have BK := Aside0.mk hbox; have HB := Aside0.mk hb; have hc0 : w1.cell? ⟨gb, 0, none⟩ = some (.int .i64 1) := (blk_cell BK.out 0).trans rfl; have hc1 : w1.cell? ⟨gb, 1, none⟩ = some (.int .i64 st) := (blk_cell BK.out 1).trans rfl; have hc2 : w1.cell? ⟨gb, 2, none⟩ = some (.slice A ks.length c) := (blk_cell BK.out 2).trans rfl; clear hg hbox hb))
      go_ret
      exact ⟨by rw [HE2.out]; rfl, HB.out⟩
    · skip
      go_enter Try.func49, Try.ntmps49
      go_wp2_with (first | ((with_reducible refine gate_dst (N := 1) rfl ?_); refine box_event ?hg (N := 1) ?hd (cs := #[.int .i64 1, .int .i64 st, .slice A ks.length c]) (t := 24) ?hr ?_; (case hd => rfl); (case hg => rfl); (case hr => first | (go_simp; done) | (go_simp; rfl)); intro gb hg w1 hbox hb; have BK := Aside0.mk hbox; have HB := Aside0.mk hb; have hc0 : w1.cell? ⟨gb, 0, none⟩ = some (.int .i64 1) := (blk_cell BK.out 0).trans rfl; have hc1 : w1.cell? ⟨gb, 1, none⟩ = some (.int .i64 st) := (blk_cell BK.out 1).trans rfl; have hc2 : w1.cell? ⟨gb, 2, none⟩ = some (.slice A ks.length c) := (blk_cell BK.out 2).trans rfl; clear hg hbox hb))
      go_ret
      exact ⟨by rw [HE2.out]; rfl, HB.out⟩
    · skip
      go_enter Try.func49, Try.ntmps49
      go_wp2_with (first | ((with_reducible refine gate_dst (N := 1) rfl ?_); refine box_event ?hg (N := 1) ?hd (cs := #[.int .i64 1, .int .i64 st, .slice A ks.length c]) (t := 24) ?hr ?_; (case hd => rfl); (case hg => rfl); (case hr => first | (go_simp; done) | (go_simp; rfl)); intro gb hg w1 hbox hb; have BK := Aside0.mk hbox; have HB := Aside0.mk hb; have hc0 : w1.cell? ⟨gb, 0, none⟩ = some (.int .i64 1) := (blk_cell BK.out 0).trans rfl; have hc1 : w1.cell? ⟨gb, 1, none⟩ = some (.int .i64 st) := (blk_cell BK.out 1).trans rfl; have hc2 : w1.cell? ⟨gb, 2, none⟩ = some (.slice A ks.length c) := (blk_cell BK.out 2).trans rfl; clear hg hbox hb))
      go_ret
      exact ⟨by rw [HE2.out]; rfl, HB.out⟩
    · skip
      go_enter Try.func49, Try.ntmps49
      go_wp2_with (first | ((with_reducible refine gate_dst (N := 1) rfl ?_); refine box_event ?hg (N := 1) ?hd (cs := #[.int .i64 2, .int .i64 st, .slice A ks.length c]) (t := 24) ?hr ?_; (case hd => rfl); (case hg => rfl); (case hr => first | (go_simp; done) | (go_simp; rfl)); intro gb hg w1 hbox hb; have BK := Aside0.mk hbox; have HB := Aside0.mk hb; have hc0 : w1.cell? ⟨gb, 0, none⟩ = some (.int .i64 2) := (blk_cell BK.out 0).trans rfl; have hc1 : w1.cell? ⟨gb, 1, none⟩ = some (.int .i64 st) := (blk_cell BK.out 1).trans rfl; have hc2 : w1.cell? ⟨gb, 2, none⟩ = some (.slice A ks.length c) := (blk_cell BK.out 2).trans rfl; clear hg hbox hb))
      go_ret
      exact ⟨by rw [HE2.out]; rfl, HB.out⟩
    · skip
      go_enter Try.func49, Try.ntmps49
      go_wp2_with (first | ((with_reducible refine gate_dst (N := 1) rfl ?_); refine box_event ?hg (N := 1) ?hd (cs := #[.int .i64 3, .int .i64 st, .slice A ks.length c]) (t := 24) ?hr ?_; (case hd => rfl); (case hg => rfl); (case hr => first | (go_simp; done) | (go_simp; rfl)); intro gb hg w1 hbox hb; have BK := Aside0.mk hbox; have HB := Aside0.mk hb; have hc0 : w1.cell? ⟨gb, 0, none⟩ = some (.int .i64 3) := (blk_cell BK.out 0).trans rfl; have hc1 : w1.cell? ⟨gb, 1, none⟩ = some (.int .i64 st) := (blk_cell BK.out 1).trans rfl; have hc2 : w1.cell? ⟨gb, 2, none⟩ = some (.slice A ks.length c) := (blk_cell BK.out 2).trans rfl; clear hg hbox hb))
      go_ret
      exact ⟨by rw [HE2.out]; rfl, HB.out⟩
    · skip
      go_enter Try.func49, Try.ntmps49
      go_wp2_with (first | ((with_reducible refine gate_dst (N := 1) rfl ?_); refine box_event ?hg (N := 1) ?hd (cs := #[.int .i64 4, .int .i64 st, .slice A ks.length c]) (t := 24) ?hr ?_; (case hd => rfl); (case hg => rfl); (case hr => first | (go_simp; done) | (go_simp; rfl)); intro gb hg w1 hbox hb; have BK := Aside0.mk hbox; have HB := Aside0.mk hb; have hc0 : w1.cell? ⟨gb, 0, none⟩ = some (.int .i64 4) := (blk_cell BK.out 0).trans rfl; have hc1 : w1.cell? ⟨gb, 1, none⟩ = some (.int .i64 st) := (blk_cell BK.out 1).trans rfl; have hc2 : w1.cell? ⟨gb, 2, none⟩ = some (.slice A ks.length c) := (blk_cell BK.out 2).trans rfl; clear hg hbox hb))
      go_ret
      exact ⟨by rw [HE2.out]; rfl, HB.out⟩
    · skip
      go_enter Try.func49, Try.ntmps49
      go_wp2_with (first | ((with_reducible refine gate_dst (N := 1) rfl ?_); refine box_event ?hg (N := 1) ?hd (cs := #[.int .i64 5, .int .i64 st, .slice A ks.length c]) (t := 24) ?hr ?_; (case hd => rfl); (case hg => rfl); (case hr => first | (go_simp; done) | (go_simp; rfl)); intro gb hg w1 hbox hb; have BK := Aside0.mk hbox; have HB := Aside0.mk hb; have hc0 : w1.cell? ⟨gb, 0, none⟩ = some (.int .i64 5) := (blk_cell BK.out 0).trans rfl; have hc1 : w1.cell? ⟨gb, 1, none⟩ = some (.int .i64 st) := (blk_cell BK.out 1).trans rfl; have hc2 : w1.cell? ⟨gb, 2, none⟩ = some (.slice A ks.length c) := (blk_cell BK.out 2).trans rfl; clear hg hbox hb))
      go_ret
      exact ⟨by rw [HE2.out]; rfl, HB.out⟩
    · skip
      go_enter Try.func49, Try.ntmps49
      go_wp2_with (first | ((with_reducible refine gate_dst (N := 1) rfl ?_); refine box_event ?hg (N := 1) ?hd (cs := #[.int .i64 kd, .int .i64 st, .slice A ks.length c]) (t := 24) ?hr ?_; (case hd => rfl); (case hg => rfl); (case hr => first | (go_simp; done) | (go_simp; rfl)); intro gb hg w1 hbox hb; have BK := Aside0.mk hbox; have HB := Aside0.mk hb; have hc0 : w1.cell? ⟨gb, 0, none⟩ = some (.int .i64 kd) := (blk_cell BK.out 0).trans rfl; have hc1 : w1.cell? ⟨gb, 1, none⟩ = some (.int .i64 st) := (blk_cell BK.out 1).trans rfl; have hc2 : w1.cell? ⟨gb, 2, none⟩ = some (.slice A ks.length c) := (blk_cell BK.out 2).trans rfl; clear hg hbox hb))
      go_ret
      exact ⟨by rw [HE2.out]; rfl, HB.out⟩
theorem ref_right_calls : ∀ n : S24, RefRightAt n := fun n => by
  generalize hm : SizeOf.sizeOf n = m
  induction m using Nat.strongRecOn generalizing n with
  | _ m ih => exact ref_right_step n (fun x hx => ih (SizeOf.sizeOf x) (by have := size_kid hx; omega) x rfl)
end Go.Proofs.Ytkoofldididpgaa.NR

end
section
namespace Go.Proofs.Ytkoofldididpgaa.NK
open Go Go.RowKit Go.Proofs.YtkoofldididpgaaW.PrintWords Go.Proofs.YtkoofldididpgaaW.PrintLast Go.Proofs.YtkoofldididpgaaW.PrintMore
open Go.Proofs.Ytkoofldididpgaa.XB Go.Proofs.Ytkoofldididpgaa.NM Go.Proofs.Ytkoofldididpgaa.NR Go.Proofs.Ytkoofldididpgaa.BM
set_option linter.unusedVariables false
set_option linter.unusedSimpArgs false
structure PlcOk (c : Nat) (most r : Int) : Prop where
  lo : 0 ≤ r
  hi : r ≤ c
  eq : (c : Int) < most → r = c
  ge : most ≤ c → most ≤ r
def PlacesAt (n : S24) : Prop := ∀ (A : Option Addr) (c : Nat) (most : Int) (w : World), 1 ≤ most → most ≤ 301 → Kd.C k24 w A n.f2.length n.f2 → n.f2.length ≤ c → cntN n < 4611686018427387904 →
  Calls Try.prog 50 #[nodeV n A c, .int .i64 most] w fun e w' => (∃ r : Int, e = .returned (.int .i64 r) ∧ PlcOk (cntN n) most r) ∧ Below w.heap.size w w'
set_option maxRecDepth 100000 in
set_option maxHeartbeats 400000 in
theorem places_step (n : S24) (h : ∀ x ∈ n.f2, PlacesAt x) : PlacesAt n := by
  intro A c most w hm1 hm2 hr hc hm
  have hu24 := Try.underlying24
  have HR := Aside0.mk hr
  have HC := Aside0.mk hc
  have HH := Aside0.mk h
  have HL := hr.2.1
  rw [cntN_eq] at hm ⊢
  obtain ⟨kd, st, ks⟩ := n
  dsimp only at *
  clear hr hc h
  unfold nodeV
  dsimp only
  by_cases h1 : kd = 1
  · subst h1
    rw [if_pos rfl]
    go_enter Try.func50, Try.ntmps50
    go_wp2_with fail
    go_ret
    exact ⟨⟨1, rfl, ⟨by omega, by omega, fun _ => rfl, fun h => by omega⟩⟩, below_alloc (Below.refl _ _) _⟩
  · rw [if_neg h1] at hm ⊢
    have hkb : (kd == 1) = false := by rw [beq_eq_false_iff_ne]; exact h1
    go_enter Try.func50, Try.ntmps50
    go_wp2_with fail
    go_loopg [5, 6] ks.length (fun kq v5 v6 wr => ∃ (i : Nat) (k : Int), v6 = .int .i64 i ∧ Aside0 (i ≤ ks.length ∧ kq + i = ks.length) ∧ v5 = .int .i64 k ∧ Aside0 (PlcOk (cntL (ks.take i)) most k) ∧ Aside0 (Below w.heap.size w wr ∧ wr.heap[w.heap.size]? = some (.cells #[.int .i64 kd, .int .i64 st, .slice A ks.length c] 24 (0, 0))))
    case atStart => exact ⟨0, 0, rfl, ⟨by omega⟩, rfl, ⟨⟨by omega, by simp [cntL], fun _ => by simp [cntL], fun h => by simp [cntL] at h; omega⟩⟩, ⟨below_alloc (Below.refl _ _) _, blk_new _ _⟩⟩
    case round =>
      obtain ⟨i, k, rfl, HI, rfl, HP, HB⟩ := hrel
      have n2 : wr.cell? ⟨w.heap.size, 2, none⟩ = some (.slice A ks.length c) := (blk_cell HB.out.2 2).trans rfl
      have hk0 := HP.out.lo
      by_cases hlt : i < ks.length
      · by_cases hkm : k < most
        · have hrd := Kd.C_below HR.out HB.out.1
          obtain ⟨ad, A2, c2, rfl, e0, e1, e2, l2, g2⟩ := at_T24 hrd (i : Int) (by omega) (by omega)
          have hx : rd_T24 ks (i : Int) = ks[i] := by simp [rd_T24, List.getD_eq_getElem?_getD, hlt]
          rw [hx] at e0 e1 e2 l2 g2
          simp only [Int.toNat_natCast] at e0 e1 e2
          have HT := Aside0.mk (cntL_take ks i hlt)
          have HX := Aside0.mk (HH.out ks[i] (List.getElem_mem hlt))
          have HG := Aside0.mk g2
          have HL2 := Aside0.mk l2
          have hle := cntL_take_le ks (i + 1)
          rw [HT.out] at hle
          have hlo : 1 ≤ most - k := by omega
          have hhi : most - k ≤ 301 := by omega
          clear hrd hx g2 l2
          generalize ks[i] = x at e0 e1 e2 HT HX HG HL2 hle
          go_wp2_with fail
          refine (HX.out A2 c2 (most - k) wr hlo hhi HG.out HL2.out (by omega)).mono ?_
          rintro e w1 ⟨⟨r, rfl, hr⟩, hb⟩
          have HB1 := Aside0.mk (And.intro (below_step HB.out.1 hb) (blk_below HB.out.2 hb))
          have hr0 := hr.lo
          have hr1 := hr.hi
          have hk1 := HP.out.hi
          have HPn := Aside0.mk (show PlcOk (cntL (ks.take (i + 1))) most (k + r) from by
            have a1 := hr.eq
            have a2 := hr.ge
            have b1 := HP.out.eq
            have b2 := HP.out.ge
            rw [HT.out]
            refine ⟨by omega, by push_cast; omega, fun h => ?_, fun h => ?_⟩
            · push_cast at h ⊢
              have := b1 (by omega)
              have := a1 (by omega)
              omega
            · push_cast at h
              by_cases hb : (cntL (ks.take i) : Int) < most
              · have := b1 hb
                have := a2 (by omega)
                omega
              · have := b2 (by omega)
                omega)
          have hu : k + r ≤ 4611686018427387904 := by omega
          clear hb e0 e1 e2 n2 hr hle hk1 hr1
          go_wp2_with fail
          go_roundg (ks.length - (i + 1))
          case measure => have := HI.out; omega
          case rel => exact ⟨i + 1, k + r, by go_num, ⟨by have := HI.out; omega⟩, by first | rfl | go_num, HPn, HB1⟩
        · go_wp2_with fail
          go_ret
          have hle := cntL_take_le ks i
          have h1 := HP.out.hi
          exact ⟨⟨k, rfl, ⟨HP.out.lo, by omega, fun h => by omega, fun h => by omega⟩⟩, HB.out.1⟩
      · have := HI.out
        obtain rfl : i = ks.length := by omega
        clear this
        go_wp2_with fail
        go_ret
        have := HP.out
        rw [List.take_length] at this
        exact ⟨⟨k, rfl, this⟩, HB.out.1⟩
theorem places_calls : ∀ n : S24, PlacesAt n := fun n => by
  generalize hm : SizeOf.sizeOf n = m
  induction m using Nat.strongRecOn generalizing n with
  | _ m ih => exact places_step n (fun x hx => ih (SizeOf.sizeOf x) (by have := size_kid hx; omega) x rfl)
end Go.Proofs.Ytkoofldididpgaa.NK

end
