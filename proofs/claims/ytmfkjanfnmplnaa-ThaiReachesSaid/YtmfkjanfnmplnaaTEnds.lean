/- What thai.ends makes: a map from each place at which words begin to the places at which they end, rising, each once. -/
import Derived.Test.YtmfkjanfnmplnaaTGroups
import Derived.Test.YtmfkjanfnmplnaaXT0
import Derived.Lib.SlicesCompact
namespace Go.Proofs.Ytmfkjanfnmplnaa.TE
open Go Go.RowKit Go.Proofs.YtmfkjanfnmplnaaW.PrintWords Go.Proofs.YtmfkjanfnmplnaaW.PrintLast
open Go.Proofs.Ytmfkjanfnmplnaa.ML Go.Proofs.Ytmfkjanfnmplnaa.TG Go.Proofs.Ytmfkjanfnmplnaa.XT
open Go.ChangeMaps (setBlock)
set_option linter.unusedVariables false
set_option linter.unusedSimpArgs false

def tosL (l : List S39) (x : Int) : List Int := (l.filter fun s => s.f0 == x).map (·.f1)
def srt (xs : List Int) : List Int := xs.mergeSort fun x y => decide (x ≤ y)
def fin (xs : List Int) : List Int := Lib.compact (srt xs)
theorem fin_nil : fin [] = [] := by simp [fin, srt, Lib.compact, Lib.compactUpTo]
theorem compact_ne {xs : List Int} (h : xs ≠ []) : Lib.compact xs ≠ [] := by
  cases xs with
  | nil => exact absurd rfl h
  | cons x r => simp [Lib.compact, Lib.compactUpTo, List.range_succ_eq_map, Lib.keeps]
theorem srt_ne {xs : List Int} (h : xs ≠ []) : srt xs ≠ [] := fun e => by
  have := List.length_mergeSort (le := fun x y : Int => decide (x ≤ y)) xs
  rw [show xs.mergeSort (fun x y => decide (x ≤ y)) = srt xs from rfl, e] at this
  exact h (List.eq_nil_of_length_eq_zero this.symm)
def rightW (n : Int) (s : S39) : Prop := 0 ≤ s.f0 ∧ s.f1 ≤ n ∧ s.f0 < s.f1
def EndsMap (w : World) (B b : Nat) (l : List S39) : Prop := ∃ m, Groups w B b m (fun x => fin (tosL l x))
def Right (n : Int) (l : List S39) : Prop := 0 ≤ n ∧ n ≤ 5000 ∧ l.length ≤ 100000 ∧ ∀ s ∈ l, rightW n s
def EndsPost (n : Int) (l : List S39) (w : World) (e : Ending) (w' : World) : Prop := Below w.heap.size w w' ∧
  ((¬ Right n l ∧ e = .returned (.tuple #[.map none, .bool false])) ∨
    (Right n l ∧ ∃ b, e = .returned (.tuple #[.map (some b), .bool true]) ∧ EndsMap w' w.heap.size b l))

def SortC : Prop := ∀ (w : World) (B : Nat) (v : Value) (xs : List Int), xs ≠ [] → xs.length ≤ 1000000 → w.ownsRow B 3 1 v xs.length (nums .i64 xs) →
  Calls Try.prog 37 #[v] w fun e w' => e = .returned (.tuple #[]) ∧ w'.ownsRow B 3 1 v (srt xs).length (nums .i64 (srt xs)) ∧ w.grownBy w' v.ownBlock
def CompactC : Prop := ∀ (w : World) (B : Nat) (v : Value) (xs : List Int), xs ≠ [] → xs.length ≤ 1000000 → w.ownsRow B 3 1 v xs.length (nums .i64 xs) →
  Calls Try.prog 38 #[v] w fun e w' => ∃ v', e = .returned v' ∧ w'.ownsRow B 3 1 v' (Lib.compact xs).length (nums .i64 (Lib.compact xs)) ∧ v'.ownBlock = v.ownBlock ∧ w.grownBy w' v.ownBlock

theorem zero25 (w : World) : (zeroValue 25).run Try.prog w = .ok (.slice none 0 0) w := by kernel_rfl
theorem keys53 : MKeys Try.prog 3 mkI okI := keysI Try.underlying3
theorem tosL_snoc (l : List S39) (s : S39) (x : Int) : tosL (l ++ [s]) x = upd (tosL l) s.f0 (tosL l s.f0 ++ [s.f1]) x := by
  unfold tosL upd
  by_cases h : x = s.f0
  · subst h; simp
  · have : ¬ s.f0 = x := fun e => h e.symm
    simp [h, this]
theorem tosL_len (l : List S39) (x : Int) : (tosL l x).length ≤ l.length := by
  unfold tosL; rw [List.length_map]; exact List.length_filter_le _ _
theorem own_R {w : World} {B : Nat} {v : Value} {xs : List Int} (h : w.ownsRow B 3 1 v xs.length (nums .i64 xs)) : (Kd.int .i64).R 3 w B (fun _ => True) v xs := Kd.R_of_own (enc := Value.int .i64) (h1 := fun _ => rfl) h (fun _ _ => trivial)
theorem R_own {w : World} {B : Nat} {v : Value} {xs : List Int} (h : (Kd.int .i64).R 3 w B (fun _ => True) v xs) : w.ownsRow B 3 1 v xs.length (nums .i64 xs) := Kd.own_of_R (enc := Value.int .i64) (h1 := fun _ => rfl) h

/-- the state of the range: dn: whose rows are put in order already -/
structure Ranged (w0 w : World) (B b r : Nat) (l : List S39) (m : List (Int × Value)) (seen : Array Nat) (dn : Int → Bool) (left : Nat) : Prop where
  groups : Groups w B b m (fun x => if dn x then fin (tosL l x) else tosL l x)
  iter : w.heap[r]? = some (.mapIter (some b) m.length seen m.length)
  ne : r ≠ b
  base : B ≤ r
  seen_ : ∀ j x v, m[j]? = some (x, v) → seen.contains j = dn x
  left_ : left = leftN m.length seen
  below : Below B w0 w

theorem Ranged.done {w0 w : World} {B b r : Nat} {l : List S39} {m : List (Int × Value)} {seen : Array Nat} {dn : Int → Bool} {left : Nat} (h : Ranged w0 w B b r l m seen dn left) (hs : ∀ j, j < m.length → seen.contains j = true) : EndsMap w B b l := by
  refine ⟨m, h.groups.congr fun x => ?_⟩
  cases hd : dn x with
  | true => simp
  | false =>
    have hn : mlook m x = none := by
      cases hl : mlook m x with
      | none => rfl
      | some v =>
        exfalso
        unfold mlook at hl
        obtain ⟨p, hp, rfl⟩ := Option.map_eq_some_iff.1 hl
        have h1 := List.find?_some hp
        simp only [beq_iff_eq] at h1
        obtain ⟨j, hj⟩ := List.getElem?_of_mem (List.mem_of_find?_eq_some hp)
        have h2 := h.seen_ j p.1 p.2 hj
        rw [hs j (List.getElem?_eq_some_iff.1 hj).1, h1, hd] at h2
        cases h2
    have := h.groups.none_ x hn
    rw [hd] at this
    simp only [Bool.false_eq_true, if_false] at this
    rw [this, fin_nil]
    rfl

theorem Ranged.step {w0 w w1 : World} {B b r : Nat} {l : List S39} {m : List (Int × Value)} {seen : Array Nat} {dn : Int → Bool} {left : Nat} (h : Ranged w0 w B b r l m seen dn left) {j : Nat} {x : Int} {v : Value} (hj : m[j]? = some (x, v)) (hs : seen.contains j = false) (hw1 : w1 = w ∨ w1 = w.drew) :
    (Instr.entry (.pointer (some ⟨r, 0, none⟩))).run Try.prog (setBlock w1 r (.mapIter (some b) m.length (seen.push j) m.length)) = .ok (.tuple #[.int .i64 x, v]) (setBlock w1 r (.mapIter (some b) m.length (seen.push j) m.length)) ∧
    (dn x = false ∧ v = TG.rowAt m x ∧ okI x ∧ mlook m x = some v ∧ tosL l x ≠ []) ∧ leftN m.length (seen.push j) < left ∧ (∀ i y u, m[i]? = some (y, u) → (seen.push j).contains i = (dn y || y == x)) ∧
    Groups (setBlock w1 r (.mapIter (some b) m.length (seen.push j) m.length)) B b m (fun x => if dn x then fin (tosL l x) else tosL l x) ∧
    (setBlock w1 r (.mapIter (some b) m.length (seen.push j) m.length)).heap[r]? = some (.mapIter (some b) m.length (seen.push j) m.length) ∧
    Below B w0 (setBlock w1 r (.mapIter (some b) m.length (seen.push j) m.length)) := by
  have hr1 : w1.heap[r]? = some (.mapIter (some b) m.length seen m.length) := by rcases hw1 with rfl | rfl <;> exact h.iter
  have hG1 : Groups w1 B b m (fun x => if dn x then fin (tosL l x) else tosL l x) := by rcases hw1 with rfl | rfl; exact h.groups; exact h.groups.drew
  have hB1 : Below B w0 w1 := by rcases hw1 with rfl | rfl; exact h.below; exact h.below.drew
  have hlt : r < w1.heap.size := (Array.getElem?_eq_some_iff.1 hr1).1
  have hbl : (setBlock w1 r (.mapIter (some b) m.length (seen.push j) m.length)).heap[b]? = some (mapObj mkI m) := (setBlock_other _ _ (fun e => h.ne e.symm)).trans hG1.blk
  have hrl := setBlock_same w1 (.mapIter (some b) m.length (seen.push j) m.length) hlt
  have hl := look_of_get h.groups.good.nodup hj
  have hrow := h.groups.row x v hl
  have hdn : dn x = false := by rw [← h.seen_ j x v hj]; exact hs
  rw [hdn] at hrow
  simp only [Bool.false_eq_true, if_false] at hrow
  refine ⟨run_entry (mk := mkI) r seen hj hrl hbl, ⟨hdn, by unfold TG.rowAt; rw [hl]; rfl, h.groups.good.okk (x, v) (List.mem_of_getElem? hj), hl, hrow.1⟩, ?_, ?_, ?_, hrl, ?_⟩
  · rw [h.left_]
    exact leftN_push (List.getElem?_eq_some_iff.1 hj).1 hs
  · intro i y u hi
    rw [Array.contains_push, h.seen_ i y u hi]
    have : (i == j) = (y == x) := by
      rw [Bool.eq_iff_iff]
      simp only [beq_iff_eq]
      constructor
      · rintro rfl; rw [hi] at hj; cases hj; rfl
      · rintro rfl
        have e1 : (m.map (·.1))[i]? = some y := by simp [hi]
        have e2 : (m.map (·.1))[j]? = some y := by simp [hj]
        exact (List.getElem?_inj (List.getElem?_eq_some_iff.1 e1).1 h.groups.good.nodup).1 (e1.trans e2.symm)
    rw [this]
  · refine hG1.grown (setBlock_grown w1 r _) (fun e => h.ne (by injection e with e; exact e.symm)) (fun y u hu => ?_)
    intro e
    have ho := (hG1.row y u hu).2
    rcases ho.2 with ⟨rfl, _⟩ | ⟨g, cap, cur, rfl, _, hg, _⟩
    · cases e
    · have : g = r := by simpa [Value.ownBlock] using e
      subst this
      rw [hr1] at hg
      cases hg
  · exact hB1.trans ((Below.refl B w1).grown (setBlock_grown w1 r _) (by have := hB1.size; have := h.below.size; have := h.base; omega) (fun k hk => by cases hk; exact h.base))

theorem gb_trans {a b c : World} {row : Option Nat} (h : a.grownBy b row) (k : b.grownBy c row) : a.grownBy c row :=
  ⟨k.os.trans h.os, k.tape.trans h.tape, k.output.trans h.output, Nat.le_trans h.size k.size, fun i hi hr => (k.block i (Nat.lt_of_lt_of_le hi h.size) hr).trans (h.block i hi hr)⟩

theorem Ranged.next {w0 w2 w4 : World} {B b r : Nat} {l : List S39} {m : List (Int × Value)} {seen : Array Nat} {dn : Int → Bool} {left j : Nat} {x : Int} {v v' : Value} {E : Prop}
    (h : E ∧ (dn x = false ∧ v = TG.rowAt m x ∧ okI x ∧ mlook m x = some v ∧ tosL l x ≠ []) ∧ leftN m.length (seen.push j) < left ∧ (∀ i y u, m[i]? = some (y, u) → (seen.push j).contains i = (dn y || y == x)) ∧
      Groups w2 B b m (fun x => if dn x then fin (tosL l x) else tosL l x) ∧ w2.heap[r]? = some (.mapIter (some b) m.length (seen.push j) m.length) ∧ Below B w0 w2)
    (hne : tosL l x ≠ []) (ho : w4.ownsRow B 3 1 v' (Lib.compact (srt (tosL l x))).length (nums .i64 (Lib.compact (srt (tosL l x))))) (hb : v'.ownBlock = v.ownBlock) (hg : w2.grownBy w4 v.ownBlock) (hB : B ≤ w2.heap.size := by omega) (hBr : B ≤ r := by omega) (hrb : r ≠ b := by omega) :
    w4.heap[b]? = some (mapObj mkI m) ∧ Ranged w0 (setBlock w4 b (mapObj mkI (mput m x v'))) B b r l (mput m x v') (seen.push j) (fun y => dn y || y == x) (leftN m.length (seen.push j)) := by
  obtain ⟨_, ⟨hdn, hv, hok, hl, _⟩, _, hseen, hG, hiter, hbel⟩ := h
  have hne' : fin (tosL l x) ≠ [] := compact_ne (srt_ne hne)
  have hgx : w2.grownBy w4 (TG.rowAt m x).ownBlock := by rw [← hv]; exact hg
  have hb4 : w4.heap[b]? = some (mapObj mkI m) := (hgx.block b hG.lt (hG.ne_map x)).trans hG.blk
  have hlen : (mput m x v').length = m.length := by
    have := congrArg List.length (keys_put_old (x := x) (v := v') (m := m) (by rw [hl]; simp))
    simpa using this
  have hrr : some r ≠ v.ownBlock := by
    intro e
    have ho2 := (hG.row x v hl).2
    rcases ho2.2 with ⟨rfl, _⟩ | ⟨g, cap, cur, rfl, _, hgg, _⟩
    · cases e
    · have : r = g := by simpa [Value.ownBlock] using e
      subst this
      rw [hiter] at hgg
      cases hgg
  have hr4 : w4.heap[r]? = some (.mapIter (some b) m.length (seen.push j) m.length) := (hg.block r (Array.getElem?_eq_some_iff.1 hiter).1 hrr).trans hiter
  refine ⟨hb4, { groups := ?_, iter := ?_, ne := hrb, base := hBr, seen_ := ?_, left_ := by rw [hlen], below := ?_ }⟩
  · refine (hG.put hok hne' hgx ho (.inl (by rw [hb, ← hv]))).congr fun y => ?_
    unfold upd
    by_cases e : y = x
    · subst e; simp [fin]
    · simp [e]
  · rw [hlen]
    exact (setBlock_other _ _ hrb).trans hr4
  · intro i y u hi
    have h1 : ((mput m x v').map (·.1))[i]? = some y := by simp [hi]
    rw [keys_put_old (by rw [hl]; simp)] at h1
    rw [List.getElem?_map] at h1
    obtain ⟨p, hp, rfl⟩ := Option.map_eq_some_iff.1 h1
    exact hseen i p.1 p.2 hp
  · have h1 : Below B w0 w4 := hbel.grown hg hB (fun k hk => ((hG.row x v hl).2.lt k hk).1)
    exact h1.trans ((Below.refl B w4).grown (setBlock_grown w4 b _) (Nat.le_trans hB hg.size) (fun k hk => by cases hk; exact hG.base))

set_option maxHeartbeats 1000000 in
theorem ends_main (hSort : SortC) (hComp : CompactC) (n : Int) (A1 : Option Addr) (c1 : Nat) (l : List S39) (w : World) (hr1 : Kd.C k39 w A1 l.length l) (hc1 : l.length ≤ c1) (h0 : 0 ≤ n) (h1 : n ≤ 5000) (h2 : l.length ≤ 100000) :
    Calls Try.prog 27 #[.int .i64 n, .slice A1 l.length c1] w (EndsPost n l w) := by
  have HR1 := Aside0.mk hr1
  have HC1 := Aside0.mk hc1
  have HSo := Aside0.mk hSort
  have HCo := Aside0.mk hComp
  clear hr1 hc1 hSort hComp
  have b1 : decide (n < 0) = false := decide_eq_false (by omega)
  have b2 : decide (5000 < n) = false := decide_eq_false (by omega)
  have b3 : decide ((100000 : Int) < (l.length : Int)) = false := decide_eq_false (by omega)
  have b4 : decide (100000 < l.length) = false := decide_eq_false (by omega)
  have hmm := @run_makeMap Try.prog
  go_enter Try.func27, Try.ntmps27
  go_wp2_with fail
  clear hmm
  go_loopg [25] l.length (fun kq v25 wr => ∃ (k : Nat) (m : List (Int × Value)), v25 = .int .i64 k ∧ Aside0 (k ≤ l.length ∧ kq + k = l.length) ∧ Aside0 (∀ s ∈ l.take k, rightW n s) ∧ Aside0 (Groups wr w.heap.size w.heap.size m (tosL (l.take k))) ∧ Aside0 (Below w.heap.size w wr))
  case atStart => exact ⟨0, [], rfl, ⟨⟨Nat.zero_le _, rfl⟩⟩, ⟨by simp⟩, ⟨Groups.made w _ (Nat.le_refl _) _ (by simp [tosL])⟩, ⟨(Below.refl _ _).alloc (Nat.le_refl _) _⟩⟩
  case round =>
    obtain ⟨k, m, rfl, HK, HW, HG, HB⟩ := hrel
    by_cases hlt : k < l.length
    · obtain ⟨ad, rfl, x0, x1, x2⟩ := at_T39 (Kd.C_below HR1.out HB.out) (k : Int) (by omega) (by omega)
      simp only [Int.toNat_natCast] at x0 x1 x2
      have HS : Aside0 (l.take (k + 1) = l.take k ++ [rd_T39 l (k : Int)] ∧ rd_T39 l (k : Int) ∈ l) := ⟨by rw [List.take_succ_eq_append_getElem hlt]; simp [rd_T39, List.getD_eq_getElem?_getD, List.getElem?_eq_getElem hlt]⟩
      generalize rd_T39 l (k : Int) = s at x0 x1 x2 HS
      by_cases p0 : s.f0 < 0
      · go_wp2_with fail
        go_ret2
        exact ⟨HB.out.alloc HB.out.size _, .inl ⟨fun h => by have := (h.2.2.2 s HS.out.2).1; omega, rfl⟩⟩
      · by_cases p1 : n < s.f1
        · go_wp2_with fail
          go_ret2
          exact ⟨HB.out.alloc HB.out.size _, .inl ⟨fun h => by have := (h.2.2.2 s HS.out.2).2.1; omega, rfl⟩⟩
        · by_cases p2 : s.f1 ≤ s.f0
          · go_wp2_with fail
            go_ret2
            exact ⟨HB.out.alloc HB.out.size _, .inl ⟨fun h => by have := (h.2.2.2 s HS.out.2).2.2; omega, rfl⟩⟩
          · go_wp2_with fail
            have ok0 : okI s.f0 := okI_of (by omega) (by omega)
            have HO0 := Aside0.mk ok0
            clear ok0
            have hG2 : Groups (wr.alloc (Obj.cells #[Value.int IntKind.i64 s.f0, Value.int IntKind.i64 s.f1, Value.int IntKind.i64 s.f2] 39)).drew w.heap.size w.heap.size m (tosL (l.take k)) := (HG.out.alloc _).drew
            have hB2 : Below w.heap.size w (wr.alloc (Obj.cells #[Value.int IntKind.i64 s.f0, Value.int IntKind.i64 s.f1, Value.int IntKind.i64 s.f2] 39)).drew := (HB.out.alloc HB.out.size _).drew
            have y0 : (wr.alloc (Obj.cells #[Value.int IntKind.i64 s.f0, Value.int IntKind.i64 s.f1, Value.int IntKind.i64 s.f2] 39)).drew.cell? ⟨wr.heap.size, 0, none⟩ = some (.int .i64 s.f0) := by go_simp
            have y1 : (wr.alloc (Obj.cells #[Value.int IntKind.i64 s.f0, Value.int IntKind.i64 s.f1, Value.int IntKind.i64 s.f2] 39)).drew.cell? ⟨wr.heap.size, 1, none⟩ = some (.int .i64 s.f1) := by go_simp
            have yb : (wr.alloc (Obj.cells #[Value.int IntKind.i64 s.f0, Value.int IntKind.i64 s.f1, Value.int IntKind.i64 s.f2] 39)).drew.heap[wr.heap.size]? = some (.cells #[Value.int IntKind.i64 s.f0, Value.int IntKind.i64 s.f1, Value.int IntKind.i64 s.f2] 39) := heap_alloc_new _ _
            clear x0 x1 x2
            refine start_ (n := 12) (S := fun w' => w'.cell? ⟨wr.heap.size, 0, none⟩ = some (.int .i64 s.f0) ∧ w'.cell? ⟨wr.heap.size, 1, none⟩ = some (.int .i64 s.f1) ∧ w'.heap[w.heap.size]? = some (mapObj mkI m)) (ds := [11]) #[false, false, false, false, false, false, false, false, false, false, false, false] (by kernel_rfl) rfl rfl ⟨y0, y1, hG2.blk⟩ (fun hHeld => ?_)
            clear hHeld
            generalize hgs : wr.heap.size = gs at y0 y1 yb ⊢
            clear hgs
            generalize (wr.alloc (Obj.cells #[Value.int IntKind.i64 s.f0, Value.int IntKind.i64 s.f1, Value.int IntKind.i64 s.f2] 39)).drew = w2 at hG2 hB2 y0 y1 yb ⊢
            have hHeld : w2.cell? ⟨gs, 0, none⟩ = some (.int .i64 s.f0) ∧ w2.cell? ⟨gs, 1, none⟩ = some (.int .i64 s.f1) ∧ w2.heap[w.heap.size]? = some (mapObj mkI m) := ⟨y0, y1, hG2.blk⟩
            have hgood := Aside0.mk hG2.good
            refine pure_ (i := 0) (N := some 45) (v := ?_) (a' := ?_) #[true, false, false, false, false, false, false, false, false, false, false, false] rfl rfl (by kernel_rfl) (fun _ _ _ h => h) (Or.inl ⟨by rfl, ?_⟩) ?_ ?_
            rotate_left
            · intro w'
              go_simp
              with_reducible rfl
            rotate_left
            · simp only [Act.put, List.setIfInBounds_toArray, List.set_cons_zero, List.set_cons_succ, i64_w, i32_w]
              rfl
            refine pure_ (i := 1) (N := some 46) (v := ?_) (a' := ?_) #[true, true, false, false, false, false, false, false, false, false, false, false] rfl rfl (by kernel_rfl) (fun _ _ _ h => h) (Or.inl ⟨by rfl, ?_⟩) ?_ ?_
            rotate_left
            · intro w'
              go_simp
              with_reducible rfl
            rotate_left
            · simp only [Act.put, List.setIfInBounds_toArray, List.set_cons_zero, List.set_cons_succ, i64_w, i32_w]
              rfl
            refine take_ (i := 2) (N := some 47) (v := ?_) (a' := ?_) #[true, true, true, false, false, false, false, false, false, false, false, false] rfl rfl (by kernel_rfl) (fun _ _ _ h => h) (Or.inl ⟨by rfl, ?_⟩) hHeld ?_ ?_
            rotate_left
            · rintro w' ⟨s0, s1, s2⟩
              go_simp
              with_reducible rfl
            rotate_left
            · simp only [Act.put, List.setIfInBounds_toArray, List.set_cons_zero, List.set_cons_succ, i64_w, i32_w]
              rfl
            refine pure_ (i := 3) (N := some 48) (v := ?_) (a' := ?_) #[true, true, true, true, false, false, false, false, false, false, false, false] rfl rfl (by kernel_rfl) (fun _ _ _ h => h) (Or.inl ⟨by rfl, ?_⟩) ?_ ?_
            rotate_left
            · intro w'
              go_simp
              with_reducible rfl
            rotate_left
            · simp only [Act.put, List.setIfInBounds_toArray, List.set_cons_zero, List.set_cons_succ, i64_w, i32_w]
              rfl
            refine pure_ (i := 4) (N := some 49) (v := ?_) (a' := ?_) #[true, true, true, true, true, false, false, false, false, false, false, false] rfl rfl (by kernel_rfl) (fun _ _ _ h => h) (Or.inl ⟨by rfl, ?_⟩) ?_ ?_
            rotate_left
            · intro w'
              go_simp
              with_reducible rfl
            rotate_left
            · simp only [Act.put, List.setIfInBounds_toArray, List.set_cons_zero, List.set_cons_succ, i64_w, i32_w]
              rfl
            refine take_ (i := 5) (N := some 50) (v := ?_) (a' := ?_) #[true, true, true, true, true, true, false, false, false, false, false, false] rfl rfl (by kernel_rfl) (fun _ _ _ h => h) (Or.inl ⟨by rfl, ?_⟩) hHeld ?_ ?_
            rotate_left
            · rintro w' ⟨s0, s1, s2⟩
              go_simp
              with_reducible rfl
            rotate_left
            · simp only [Act.put, List.setIfInBounds_toArray, List.set_cons_zero, List.set_cons_succ, i64_w, i32_w]
              rfl
            refine take_ (i := 6) (N := some 51) (v := ?_) (a' := ?_) #[true, true, true, true, true, true, true, false, false, false, false, false] rfl rfl (by kernel_rfl) (fun _ _ _ h => h) (Or.inl ⟨by rfl, ?_⟩) hHeld ?_ ?_
            rotate_left
            · rintro w' ⟨s0, s1, s2⟩
              have hL := run_look (P := Try.prog) keys53 hgood.out Try.underlying53 (zero25 w') s2 HO0.out false
              simp only [Bool.false_eq_true, if_false] at hL
              rw [show (mlook m s.f0).getD (.slice none 0 0) = TG.rowAt m s.f0 from rfl] at hL
              rw [show mkI s.f0 = Value.int .i64 s.f0 from rfl] at hL
              go_simp
              with_reducible rfl
            rotate_left
            · simp only [Act.put, List.setIfInBounds_toArray, List.set_cons_zero, List.set_cons_succ, i64_w, i32_w]
              rfl
            refine pure_ (i := 7) (N := some 52) (v := ?_) (a' := ?_) #[true, true, true, true, true, true, true, true, false, false, false, false] rfl rfl (by kernel_rfl) (fun _ _ _ h => h) (Or.inl ⟨by rfl, ?_⟩) ?_ ?_
            rotate_left
            · intro w'
              go_simp
              with_reducible rfl
            rotate_left
            · simp only [Act.put, List.setIfInBounds_toArray, List.set_cons_zero, List.set_cons_succ, i64_w, i32_w]
              rfl
            refine take_ (i := 8) (N := some 53) (v := ?_) (a' := ?_) #[true, true, true, true, true, true, true, true, true, false, false, false] rfl rfl (by kernel_rfl) (fun _ _ _ h => h) (Or.inl ⟨by rfl, ?_⟩) hHeld ?_ ?_
            rotate_left
            · rintro w' ⟨s0, s1, s2⟩
              go_simp
              with_reducible rfl
            rotate_left
            · simp only [Act.put, List.setIfInBounds_toArray, List.set_cons_zero, List.set_cons_succ, i64_w, i32_w]
              rfl
            refine one_ (i := 9) (N := some 54) #[true, true, true, true, true, true, true, true, true, true, false, false] rfl rfl (by kernel_rfl) (by decide) (fun K hK => ?_)
            refine value_ (w1 := ?_) (v := ?_) (by rfl) rfl ?_ ?_
            rotate_left 2
            · go_simp
              constructor
              · rfl
              · rfl
            refine hK.out _ _ ⟨(World.cell?_alloc_lt _ _ _ (World.block_lt_of_cell? _ _ y0)).trans y0, (World.cell?_alloc_lt _ _ _ (World.block_lt_of_cell? _ _ y1)).trans y1, (heap_alloc_old _ _ _ hG2.lt).trans hG2.blk⟩ (fun hHeld => ?_)
            clear hK K
            refine norm_ (a' := ?_) ?_ ?_
            rotate_left
            · show Act.put _ (some 54) _ = _
              simp only [Act.put, List.setIfInBounds_toArray, List.set_cons_zero, List.set_cons_succ, i64_w, i32_w]
              rfl
            refine one_ (i := 10) (N := some 55) #[true, true, true, true, true, true, true, true, true, true, true, false] rfl rfl (by kernel_rfl) (by decide) (fun K hK => ?_)
            refine Kd.R_append_step (Kd.int .i64) (w0 := w) w.heap.size (by rfl) (.tmp 51) (.tmp 54) 25 3 (.int .i64 0) 8 rfl Try.underlying25 info3 rfl (by decide) (by omega) (TG.rowAt m s.f0) (tosL (l.take k) s.f0) s.f1 [.int .i64 s.f1] (fun _ => True) (fun _ => False) rfl rfl ?aP (fun _ hk => hk.elim) (fun _ _ => trivial) (own_R (hG2.rowAt s.f0)) hB2 hB2.size ?aL ?_
            (case aP => exact rfl)
            (case aL => have := tosL_len (l.take k) s.f0; have := List.length_take_le k l; omega)
            intro v1 w3 ho hb hgr hat
            refine hK.out _ _ ⟨?_, ?_, ?_⟩ (fun hHeld => ?_)
            · exact (World.cell?_of_block (hgr.block gs (World.block_lt_of_cell? _ _ y0) (own_ne (hG2.rowAt s.f0) yb (by decide)))).trans y0
            · exact (World.cell?_of_block (hgr.block gs (World.block_lt_of_cell? _ _ y0) (own_ne (hG2.rowAt s.f0) yb (by decide)))).trans y1
            · exact (hgr.block _ hG2.lt (hG2.ne_map s.f0)).trans hG2.blk
            clear hK K
            refine norm_ (a' := ?_) ?_ ?_
            rotate_left
            · show Act.put _ (some 55) _ = _
              simp only [Act.put, List.setIfInBounds_toArray, List.set_cons_zero, List.set_cons_succ, i64_w, i32_w]
              rfl
            refine last_ (i := 11) (N := none) #[true, true, true, true, true, true, true, true, true, true, true, true] rfl rfl (by kernel_rfl) (by decide) (fun K hK => ?_)
            refine st_put (by rfl) rfl (.tmp 45) (.tmp 47) (.tmp 55) 53 rfl keys53 hgood.out Try.underlying53 ((hgr.block _ hG2.lt (hG2.ne_map s.f0)).trans hG2.blk) rfl s.f0 HO0.out rfl v1 rfl ?_
            refine hK.out _ _ ?_
            clear hK K
            refine norm_ (a' := ?_) ?_ ?_
            rotate_left
            · show Act.put _ (none) _ = _
              simp only [Act.put, List.setIfInBounds_toArray, List.set_cons_zero, List.set_cons_succ, i64_w, i32_w]
              rfl
            refine done_ (by kernel_rfl) ?_
            have hys : tosL (l.take k) s.f0 ++ [s.f1] ≠ [] := by simp
            have HG4 := Aside0.mk (hG2.put HO0.out hys hgr (R_own ho) hat)
            have HB4 := Aside0.mk (hb.trans ((Below.refl w.heap.size w3).grown (setBlock_grown w3 w.heap.size (mapObj mkI (mput m s.f0 v1))) hb.size (fun j hj => by cases hj; exact Nat.le_refl _)))
            generalize setBlock w3 w.heap.size (mapObj mkI (mput m s.f0 v1)) = w4 at HG4 HB4 ⊢
            clear hG2 hB2 y0 y1 yb ho hb hgr hat hys
            go_wp2_with fail
            go_roundg (l.length - (k + 1))
            case measure => have := HK.out; omega
            case rel => exact ⟨k + 1, _, by go_num, ⟨by have := HK.out; omega⟩, ⟨by rw [HS.out.1]; intro t ht; rcases List.mem_append.1 ht with ht | ht; exact HW.out t ht; rw [List.mem_singleton.1 ht]; exact ⟨by omega, by omega, by omega⟩⟩, ⟨by rw [HS.out.1]; exact HG4.out.congr (fun x => (tosL_snoc _ s x).symm)⟩, HB4⟩
    · have HKe := HK.out
      obtain rfl : k = l.length := by omega
      have hWall : ∀ s ∈ l, rightW n s := by have := HW.out; rwa [List.take_length] at this
      have HRt := Aside0.mk (show Right n l from ⟨h0, h1, h2, hWall⟩)
      clear hWall HW HK HKe
      have hG := HG.out
      rw [List.take_length] at hG
      have hgood := hG.good
      have hblk := hG.blk
      go_wp2_with (at_range; (refine wl_range rfl (.tmp 57) 53 rfl Try.underlying53 hblk rfl ?_); go_frame)
      have HR0 : Aside0 (Ranged w (wr.alloc (.mapIter (some w.heap.size) m.length #[] m.length)) w.heap.size w.heap.size wr.heap.size l m #[] (fun _ => false) (leftN m.length #[])) := ⟨{ groups := (hG.alloc _).congr (fun x => by simp), iter := heap_alloc_new _ _, ne := by have := hG.lt; omega, base := HB.out.size, seen_ := by simp, left_ := rfl, below := HB.out.alloc HB.out.size _ }⟩
      clear hG hblk hgood HG HB
      generalize hrr : wr.heap.size = r at HR0 ⊢
      generalize wr.alloc (.mapIter (some w.heap.size) m.length #[] m.length) = wq at HR0 ⊢
      clear hrr
      go_loopg [] (leftN m.length #[]) (fun kq w' => ∃ (m : List (Int × Value)) (seen : Array Nat) (dn : Int → Bool), Aside0 (Ranged w w' w.heap.size w.heap.size r l m seen dn kq))
      case atStart => exact ⟨m, #[], _, HR0⟩
      case round =>
        clear HR0
        obtain ⟨m, seen, dn, HR⟩ := hrel
        have hit := HR.out.iter
        have hblk := HR.out.groups.blk
        go_wp2_with (at_next; (refine wl_next (mk := mkI) rfl (.tmp 58) rfl r seen rfl hit hblk ?_ ?_))
        · intro hall
          clear hit hblk
          have HE := Aside0.mk (HR.out.done (fun j hj => by simpa using hall j hj))
          have HBe := Aside0.mk HR.out.below
          clear hall HR
          go_wp2_with fail
          go_ret2
          exact ⟨HBe.out, .inr ⟨HRt.out, _, rfl, HE.out⟩⟩
        · intro j x v w1 hj hs hw1
          have HBr := Aside0.mk (show w.heap.size ≤ (setBlock w1 r (.mapIter (some w.heap.size) m.length (seen.push j) m.length)).heap.size ∧ w.heap.size ≤ r ∧ r ≠ w.heap.size from ⟨by have := HR.out.below.size; rw [setBlock_size]; rcases hw1 with rfl | rfl <;> exact this, HR.out.base, HR.out.ne⟩)
          have HX := Aside0.mk (HR.out.step hj (by simpa using hs) hw1)
          clear hit hblk HR
          generalize setBlock w1 r (.mapIter (some w.heap.size) m.length (seen.push j) m.length) = w2 at HX HBr ⊢
          have hen := HX.out.1
          clear hj hs hw1
          go_wp2_with fail
          clear hen
          obtain ⟨_, ⟨hdn, hv, hok, hl, hne⟩, _, _, hG, _, hbel⟩ := HX.out
          have hrow := (hG.row x v hl).2
          simp only [hdn, Bool.false_eq_true, if_false] at hrow
          have hlen := tosL_len l x
          refine (HSo.out _ _ v (tosL l x) hne (by omega) hrow).mono ?_
          rintro e w3 ⟨rfl, ho3, hg3⟩
          have HN := Aside0.mk hne
          have HRo := Aside0.mk ho3
          have HGr := Aside0.mk hg3
          clear hdn hv hok hl hne hG hbel hrow ho3 hg3
          go_wp2_with fail
          refine (HCo.out _ _ v (srt (tosL l x)) (srt_ne HN.out) (by unfold srt; rw [List.length_mergeSort]; omega) HRo.out).mono ?_
          rintro e w4 ⟨v', rfl, ho4, hb4, hg4⟩
          have HNx := Aside0.mk (Ranged.next HX.out HN.out ho4 hb4 (gb_trans HGr.out hg4) HBr.out.1 HBr.out.2.1 HBr.out.2.2)
          have hblk4 := HNx.out.1
          have hgood4 := HX.out.2.2.2.2.1.good
          have hok4 := HX.out.2.1.2.2.1
          clear ho4 hb4 hg4
          go_wp2_with (at_mapUpdate; (refine wl_put (mk := mkI) rfl (.tmp 66) (.tmp 67) (.tmp 69) 53 rfl keys53 hgood4 Try.underlying53 hblk4 rfl x hok4 rfl v' rfl ?_))
          clear hblk4 hgood4 hok4
          go_roundg (leftN m.length (seen.push j))
          case measure => exact HX.out.2.2.1
          case rel => exact ⟨_, _, _, ⟨HNx.out.2⟩⟩

theorem ends_bad (n : Int) (A1 : Option Addr) (c1 : Nat) (l : List S39) (w : World) (h : n < 0 ∨ 5000 < n ∨ 100000 < l.length) :
    Calls Try.prog 27 #[.int .i64 n, .slice A1 l.length c1] w (EndsPost n l w) := by
  have hno : Aside0 (¬ Right n l) := ⟨fun ⟨h1, h2, h3, _⟩ => by omega⟩
  by_cases p0 : n < 0
  · clear h
    go_enter Try.func27, Try.ntmps27
    go_wp2_with fail
    go_ret2
    exact ⟨Below.refl _ _, .inl ⟨hno.out, rfl⟩⟩
  · by_cases p1 : 5000 < n
    · clear h
      go_enter Try.func27, Try.ntmps27
      go_wp2_with fail
      go_ret2
      exact ⟨Below.refl _ _, .inl ⟨hno.out, rfl⟩⟩
    · have b3 : decide ((100000 : Int) < (l.length : Int)) = true := decide_eq_true (by omega)
      have b4 : decide (100000 < l.length) = true := decide_eq_true (by omega)
      clear h
      go_enter Try.func27, Try.ntmps27
      go_wp2_with fail
      go_ret2
      exact ⟨Below.refl _ _, .inl ⟨hno.out, rfl⟩⟩

theorem ends_calls (hSort : SortC) (hComp : CompactC) (n : Int) (A1 : Option Addr) (c1 : Nat) (l : List S39) (w : World) (hr1 : Kd.C k39 w A1 l.length l) (hc1 : l.length ≤ c1) :
    Calls Try.prog 27 #[.int .i64 n, .slice A1 l.length c1] w (EndsPost n l w) := by
  by_cases h : n < 0 ∨ 5000 < n ∨ 100000 < l.length
  · exact ends_bad n A1 c1 l w h
  · exact ends_main hSort hComp n A1 c1 l w hr1 hc1 (by omega) (by omega) (by omega)
end Go.Proofs.Ytmfkjanfnmplnaa.TE
