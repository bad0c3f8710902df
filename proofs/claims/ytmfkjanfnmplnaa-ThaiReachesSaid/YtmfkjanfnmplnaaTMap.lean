/- Laws on a map's block that is written out: its entries in the order of their insertion, each stamped by its place. Nothing is asked but that keys are keys. -/
import Derived.Maps.Range
import Derived.Maps.RangeWalk
import Derived.Below
import Derived.OwnWalk
namespace Go.Proofs.Ytmfkjanfnmplnaa.ML
open Go Go.RowKit
open Go.Maps (Keyed)
open Go.ChangeMaps (setBlock)

set_option linter.unusedSectionVars false
set_option linter.unusedVariables false
set_option linter.unusedSimpArgs false
variable {α : Type} [DecidableEq α]

/-- the entries -/
def ents (mk : α → Value) (m : List (α × Value)) : List MapEntry := m.mapIdx fun i p => ⟨mk p.1, p.2, i⟩
/-- the block -/
def mapObj (mk : α → Value) (m : List (α × Value)) : Obj := .map (ents mk m).toArray m.length

theorem ents_length (mk : α → Value) (m : List (α × Value)) : (ents mk m).length = m.length := by simp [ents]
theorem ents_get (mk : α → Value) (m : List (α × Value)) (i : Nat) : (ents mk m)[i]? = (m[i]?).map fun p => ⟨mk p.1, p.2, i⟩ := by simp [ents, List.getElem?_mapIdx]

def mlook (m : List (α × Value)) (x : α) : Option Value := (m.find? fun p => p.1 == x).map (·.2)
def mput (m : List (α × Value)) (x : α) (v : Value) : List (α × Value) := if m.any (fun p => p.1 == x) then m.map (fun p => if p.1 = x then (x, v) else p) else m ++ [(x, v)]

/-- keys: each of the ones that are asked or stored is a key, and no two are one -/
structure MKeys (P : Program) (k : TypeId) (mk : α → Value) (ok : α → Prop) : Prop where
  law : Keyed P k
  key : ∀ x, ok x → ∃ l, keyOf P k (mk x) = some l
  inj : ∀ x y, mk x = mk y → x = y

structure MGood (ok : α → Prop) (m : List (α × Value)) : Prop where
  okk : ∀ p ∈ m, ok p.1
  nodup : (m.map (·.1)).Nodup

theorem MGood.nil {ok : α → Prop} : MGood ok ([] : List (α × Value)) := ⟨by simp, by simp⟩

variable {P : Program} {k : TypeId} {mk : α → Value} {ok : α → Prop} {m : List (α × Value)} {w : World} {b : Nat}

theorem ents_key (K : MKeys P k mk ok) (G : MGood ok m) : ∀ e ∈ ents mk m, ∃ l, keyOf P k e.key = some l := by
  intro e he
  obtain ⟨i, hi⟩ := List.getElem?_of_mem he
  rw [ents_get] at hi
  obtain ⟨p, hp, rfl⟩ := Option.map_eq_some_iff.1 hi
  exact K.key _ (G.okk p (List.mem_of_getElem? hp))

/-- where a key is found, and that it is found there alone -/
theorem find_at (K : MKeys P k mk ok) (G : MGood ok m) {x : α} {j : Nat} {e : MapEntry} (h1 : (ents mk m)[j]? = some e) (h2 : e.key = mk x) :
    ∃ v, e = ⟨mk x, v, j⟩ ∧ m[j]? = some (x, v) ∧ mlook m x = some v ∧ m.any (fun p => p.1 == x) = true := by
  rw [ents_get] at h1
  obtain ⟨p, hp, rfl⟩ := Option.map_eq_some_iff.1 h1
  have hx : p.1 = x := K.inj _ _ h2
  obtain ⟨p1, v⟩ := p
  simp only at hx
  subst hx
  have hm := List.mem_of_getElem? hp
  have hany : m.any (fun p => p.1 == p1) = true := List.any_eq_true.2 ⟨_, hm, by simp⟩
  refine ⟨v, rfl, hp, ?_, hany⟩
  unfold mlook
  have hs : (m.find? fun p => p.1 == p1).isSome := by rw [List.find?_isSome]; exact ⟨_, hm, by simp⟩
  obtain ⟨q, hq⟩ := Option.isSome_iff_exists.1 hs
  have hq1 := List.find?_some hq
  have hq2 := List.mem_of_find?_eq_some hq
  obtain ⟨q1, u⟩ := q
  simp only [beq_iff_eq] at hq1
  subst hq1
  obtain ⟨i, hi⟩ := List.getElem?_of_mem hq2
  have hn := G.nodup
  have e1 : (m.map (·.1))[i]? = some q1 := by simp [hi]
  have e2 : (m.map (·.1))[j]? = some q1 := by simp [hp]
  have hlt : i < (m.map (·.1)).length := (List.getElem?_eq_some_iff.1 e1).1
  have hij : i = j := (List.getElem?_inj hlt hn).1 (e1.trans e2.symm)
  subst hij
  rw [hi] at hp
  cases hp
  rw [hq]; rfl

theorem find_none (K : MKeys P k mk ok) {x : α} (h : ∀ e ∈ ents mk m, e.key ≠ mk x) : mlook m x = none ∧ m.any (fun p => p.1 == x) = false := by
  have h' : ∀ p ∈ m, (p.1 == x) = false := by
    intro p hp
    obtain ⟨i, hi⟩ := List.getElem?_of_mem hp
    have : (ents mk m)[i]? = some ⟨mk p.1, p.2, i⟩ := by rw [ents_get, hi]; rfl
    have := h _ (List.mem_of_getElem? this)
    simp only [beq_eq_false_iff_ne]
    rintro rfl
    exact this rfl
  refine ⟨?_, ?_⟩
  · unfold mlook
    rw [List.find?_eq_none.2 (fun p hp => by rw [h' p hp]; simp)]; rfl
  · rw [List.any_eq_false]
    exact fun p hp => by rw [h' p hp]; simp

/-- 'm[x]', 'v, ok := m[x]' -/
theorem run_look (K : MKeys P k mk ok) (G : MGood ok m) {t e : TypeId} (ht : P.underlying t = some (.map k e)) {z : Value} (hz : (zeroValue e).run P w = .ok z w) (hb : w.heap[b]? = some (mapObj mk m)) {x : α} (hx : ok x) (c : Bool) :
    (Instr.lookup t (.map (some b)) (mk x) c).run P w = .ok (if c then .tuple #[(mlook m x).getD z, .bool (mlook m x).isSome] else (mlook m x).getD z) w := by
  obtain ⟨l, hl⟩ := K.key x hx
  have hb' : w.heap[b]? = some (.map (ents mk m).toArray m.length) := hb
  rcases K.law.find w hl (ents mk m) (ents_key K G) with ⟨h1, h2⟩ | ⟨j, e0, h1, h2, h3⟩
  · obtain ⟨g1, _⟩ := find_none K h2
    rw [g1]
    simp [Instr.lookup, run_underlying ht, MapKept.run_getObj_map hb', K.law.check w _ hl, h1, hz, Result.andThen]
  · obtain ⟨v, rfl, _, g1, _⟩ := find_at K G h2 h3
    rw [g1]
    simp [Instr.lookup, run_underlying ht, MapKept.run_getObj_map hb', K.law.check w _ hl, h1, Result.andThen]

theorem put_old {x : α} {v : Value} (h : m.any (fun p => p.1 == x) = true) : mput m x v = m.map (fun p => if p.1 = x then (x, v) else p) := by unfold mput; rw [if_pos h]
theorem put_new {x : α} {v : Value} (h : m.any (fun p => p.1 == x) = false) : mput m x v = m ++ [(x, v)] := by unfold mput; rw [if_neg (by rw [h]; simp)]

theorem ents_put_new {x : α} {v : Value} (h : m.any (fun p => p.1 == x) = false) : mapObj mk (mput m x v) = .map ((ents mk m).toArray.push ⟨mk x, v, m.length⟩) (m.length + 1) := by
  rw [put_new h]
  simp [mapObj, ents, List.mapIdx_append]

theorem put_at (G : MGood ok m) {x : α} {v u : Value} {j : Nat} (hj : m[j]? = some (x, u)) : mput m x v = m.set j (x, v) := by
  have hany : m.any (fun p => p.1 == x) = true := List.any_eq_true.2 ⟨_, List.mem_of_getElem? hj, by simp⟩
  rw [put_old hany]
  apply List.ext_getElem?
  intro i
  rw [List.getElem?_map, List.getElem?_set]
  have hlt : j < m.length := (List.getElem?_eq_some_iff.1 hj).1
  by_cases hij : j = i
  · subst hij
    rw [hj, if_pos rfl, if_pos hlt]; simp
  · rw [if_neg hij]
    cases hi : m[i]? with
    | none => rfl
    | some p =>
      have hne : p.1 ≠ x := by
        intro e1
        have e2 : (m.map (·.1))[i]? = some x := by simp [hi, e1]
        have e3 : (m.map (·.1))[j]? = some x := by simp [hj]
        have hl2 : i < (m.map (·.1)).length := (List.getElem?_eq_some_iff.1 e2).1
        exact hij ((List.getElem?_inj hl2 G.nodup).1 (e2.trans e3.symm)).symm
      simp [hne]

theorem ents_put_at (G : MGood ok m) {x : α} {v u : Value} {j : Nat} (hj : m[j]? = some (x, u)) : mapObj mk (mput m x v) = .map ((ents mk m).toArray.modify j fun e => { e with key := mk x, val := v }) m.length := by
  rw [put_at G hj]
  have hlt : j < m.length := (List.getElem?_eq_some_iff.1 hj).1
  have : ents mk (m.set j (x, v)) = ((ents mk m).toArray.modify j fun e => { e with key := mk x, val := v }).toList := by
    apply List.ext_getElem?
    intro i
    rw [Array.toList_modify, List.getElem?_modify, ents_get, ents_get, List.getElem?_set]
    by_cases hij : j = i
    · subst hij; rw [if_pos rfl, if_pos hlt, hj]; simp
    · rw [if_neg hij]; simp [hij]
  unfold mapObj
  rw [this]
  simp

theorem MGood.mput (G : MGood ok m) {x : α} (hx : ok x) (v : Value) : MGood ok (mput m x v) := by
  by_cases h : m.any (fun p => p.1 == x) = true
  · rw [put_old h]
    refine ⟨fun p hp => ?_, ?_⟩
    · obtain ⟨q, hq, rfl⟩ := List.mem_map.1 hp
      split
      · exact hx
      · exact G.okk q hq
    · have : (m.map (fun p => if p.1 = x then (x, v) else p)).map (·.1) = m.map (·.1) := by
        rw [List.map_map]
        refine List.map_congr_left fun p _ => ?_
        simp only [Function.comp]
        split
        · rename_i e; exact e.symm
        · rfl
      rw [this]; exact G.nodup
  · have h' : m.any (fun p => p.1 == x) = false := (Bool.not_eq_true _).mp h
    rw [put_new h']
    refine ⟨fun p hp => ?_, ?_⟩
    · rcases List.mem_append.1 hp with hp | hp
      · exact G.okk p hp
      · rw [List.mem_singleton.1 hp]; exact hx
    · rw [List.map_append, List.map_singleton, List.nodup_append]
      refine ⟨G.nodup, by simp, ?_⟩
      intro a ha c hc
      rw [List.mem_singleton.1 hc]
      obtain ⟨q, hq, rfl⟩ := List.mem_map.1 ha
      have := List.any_eq_false.1 h' q hq
      simpa using this

/-- 'm[x] = v' -/
theorem run_put (K : MKeys P k mk ok) (G : MGood ok m) {t e : TypeId} (ht : P.underlying t = some (.map k e)) (hb : w.heap[b]? = some (mapObj mk m)) {x : α} (hx : ok x) (v : Value) :
    (Instr.mapUpdate t (.map (some b)) (mk x) v).run P w = .ok () (setBlock w b (mapObj mk (mput m x v))) := by
  obtain ⟨l, hl⟩ := K.key x hx
  have hb' : w.heap[b]? = some (.map (ents mk m).toArray m.length) := hb
  rcases K.law.find w hl (ents mk m) (ents_key K G) with ⟨h1, h2⟩ | ⟨j, e0, h1, h2, h3⟩
  · obtain ⟨_, g2⟩ := find_none K h2
    rw [ents_put_new g2]
    simp [Instr.mapUpdate, run_underlying ht, MapKept.run_getObj_map hb', K.law.check w false hl, h1, MapKept.run_setObj_map _ hb', Result.andThen, setBlock]
  · obtain ⟨u, rfl, g1, _, _⟩ := find_at K G h2 h3
    rw [ents_put_at G g1]
    simp [Instr.mapUpdate, run_underlying ht, MapKept.run_getObj_map hb', K.law.check w false hl, h1, h2, K.law.stays w hl, MapKept.run_setObj_map _ hb', Result.andThen, setBlock]

/-! ### what is looked up behind a store -/
theorem look_put (m : List (α × Value)) (x y : α) (v : Value) : mlook (mput m x v) y = if y = x then some v else mlook m y := by
  by_cases h : m.any (fun p => p.1 == x) = true
  · rw [put_old h]
    unfold mlook
    induction m with
    | nil => simp at h
    | cons p m ih =>
      by_cases hp : p.1 = x
      · by_cases hy : y = x
        · subst hy; simp [hp]
        · have : ¬ x = y := fun e => hy e.symm
          simp only [List.map_cons, hp, if_true, List.find?_cons, beq_iff_eq, this, if_false, hy]
          by_cases h2 : m.any (fun p => p.1 == x) = true
          · have := ih h2
            rw [if_neg hy] at this
            simpa [this, hp, show (x == y) = false from by simpa using ‹¬ x = y›] using this
          · have hid : m.map (fun p => if p.1 = x then (x, v) else p) = m := by
              refine (List.map_congr_left fun q hq => ?_).trans (List.map_id m)
              have := List.any_eq_false.1 ((Bool.not_eq_true _).mp h2) q hq
              simp only [beq_iff_eq] at this
              simp [this]
            rw [hid]
            simp [hp, show (x == y) = false from by simpa using ‹¬ x = y›]
      · have h2 : m.any (fun p => p.1 == x) = true := by rw [List.any_cons] at h; simpa only [show (p.1 == x) = false from by simpa using hp, Bool.false_or] using h
        have := ih h2
        simp only [List.map_cons, hp, if_false, List.find?_cons]
        by_cases hpy : p.1 = y
        · have hyx : ¬ y = x := fun e => hp (hpy.trans e)
          simp [hpy, hyx]
        · simp only [show (p.1 == y) = false from by simpa using hpy]
          exact this
  · have h' : m.any (fun p => p.1 == x) = false := (Bool.not_eq_true _).mp h
    rw [put_new h']
    unfold mlook
    rw [List.find?_append]
    by_cases hy : y = x
    · subst hy
      rw [List.find?_eq_none.2 (fun p hp => by have := List.any_eq_false.1 h' p hp; simpa using this)]
      simp
    · have : (x == y) = false := by simpa using fun e => hy (Eq.symm e)
      simp [this, hy]

theorem put_length_le (m : List (α × Value)) (x : α) (v : Value) : (mput m x v).length ≤ m.length + 1 := by
  unfold mput
  split <;> simp

/-! ### at the operations, for the walk -/
section
variable {ops : Array Oper} {rest : List Oper} {o : Oper} {a : Act} {Q : Exit → Act → World → Prop}

theorem wl_look (hg : o.guard = none) (x i : Operand) (t : TypeId) (c : Bool) (hop : o.op = Op.lookup t x i c) (K : MKeys P k mk ok) (G : MGood ok m) {e : TypeId} (ht : P.underlying t = some (.map k e)) {z : Value} (hz : (zeroValue e).run P w = .ok z w)
    (hb : w.heap[b]? = some (mapObj mk m)) (hm : a.eval x = .map (some b)) (y : α) (hy : ok y) (hi : a.eval i = mk y)
    (hK : wpList P ops Q rest (a.put o.dst (if c then .tuple #[(mlook m y).getD z, .bool (mlook m y).isSome] else (mlook m y).getD z)) w) : wpList P ops Q (o :: rest) a w := by
  refine wpList_plain hg fun K' hK' => ?_
  unfold Oper.wp
  simp [execOp, hop, hm, hi, run_look K G ht hz hb hy c, Result.andThen]
  exact hK' _ _ hK

theorem wl_look' (hg : o.guard = none) (x i : Operand) (t : TypeId) (c : Bool) (hop : o.op = Op.lookup t x i c) (K : MKeys P k mk ok) (G : MGood ok m) {e : TypeId} (ht : P.underlying t = some (.map k e)) {z : Value} (hz : (zeroValue e).run P w = .ok z w)
    (hb : w.heap[b]? = some (mapObj mk m)) (hm : a.eval x = .map (some b)) (y : α) (hy : ok y) (hi : a.eval i = mk y) (res : Value) (hres : (if c then .tuple #[(mlook m y).getD z, .bool (mlook m y).isSome] else (mlook m y).getD z) = res)
    (hK : wpList P ops Q rest (a.put o.dst res) w) : wpList P ops Q (o :: rest) a w := by
  subst hres
  exact wl_look hg x i t c hop K G ht hz hb hm y hy hi hK

theorem wl_put (hg : o.guard = none) (x i v : Operand) (t : TypeId) (hop : o.op = Op.mapUpdate t x i v) (K : MKeys P k mk ok) (G : MGood ok m) {e : TypeId} (ht : P.underlying t = some (.map k e))
    (hb : w.heap[b]? = some (mapObj mk m)) (hm : a.eval x = .map (some b)) (y : α) (hy : ok y) (hi : a.eval i = mk y) (u : Value) (hv : a.eval v = u)
    (hK : wpList P ops Q rest (a.put o.dst undef) (setBlock w b (mapObj mk (mput m y u)))) : wpList P ops Q (o :: rest) a w := by
  refine wpList_plain hg fun K' hK' => ?_
  unfold Oper.wp
  simp [execOp, hop, hm, hi, hv, run_put K G ht hb hy u, Result.andThen]
  exact hK' _ _ hK

variable {Kc : Act → World → Prop}
theorem st_put {N : Option Tmp} (hw : Region.wanted o (yielded ops a.tmps) = true) (hN : o.dst = N) (x i v : Operand) (t : TypeId) (hop : o.op = Op.mapUpdate t x i v) (K : MKeys P k mk ok) (G : MGood ok m) {e : TypeId} (ht : P.underlying t = some (.map k e))
    (hb : w.heap[b]? = some (mapObj mk m)) (hm : a.eval x = .map (some b)) (y : α) (hy : ok y) (hi : a.eval i = mk y) (u : Value) (hv : a.eval v = u)
    (hK : Kc (a.put N undef) (setBlock w b (mapObj mk (mput m y u)))) : if Region.wanted o (yielded ops a.tmps) = true then Oper.wp P o a w Kc Q else Kc (a.put N undef) w := by
  rw [if_pos hw]
  subst hN
  unfold Oper.wp
  simp [execOp, hop, hm, hi, hv, run_put K G ht hb hy u, Result.andThen]
  exact hK

/-- 'range m' -/
theorem wl_range (hg : o.guard = none) (x : Operand) (t : TypeId) (hop : o.op = Op.range t x) {e : TypeId} (ht : P.underlying t = some (.map k e)) (hb : w.heap[b]? = some (mapObj mk m)) (hm : a.eval x = .map (some b))
    (hK : wpList P ops Q rest (a.put o.dst (.pointer (some ⟨w.heap.size, 0, none⟩))) (w.alloc (.mapIter (some b) m.length #[] m.length))) : wpList P ops Q (o :: rest) a w := by
  refine wpList_plain hg fun K' hK' => ?_
  have hb' : w.heap[b]? = some (.map (ents mk m).toArray m.length) := hb
  have hrun : (Instr.range t (.map (some b))).run P w = .ok (.pointer (some ⟨w.heap.size, 0, none⟩)) (w.alloc (.mapIter (some b) m.length #[] m.length)) := by
    simp only [Instr.range, Sem.run_bind, run_underlying ht, getObj, newObj, Sem.run, hb', Result.andThen]
    rfl
  unfold Oper.wp
  simp [execOp, hop, hm, hrun, Result.andThen]
  exact hK' _ _ hK

theorem ents_lt (mk : α → Value) (m : List (α × Value)) : ∀ x ∈ (ents mk m).toArray.toList, x.born < m.length := by
  intro x hx
  obtain ⟨i, hi⟩ := List.getElem?_of_mem hx
  have hi' : (ents mk m)[i]? = some x := hi
  rw [ents_get] at hi'
  obtain ⟨p, hp, rfl⟩ := Option.map_eq_some_iff.1 hi'
  exact (List.getElem?_eq_some_iff.1 hp).1

theorem leftOf_mem {seen : Array Nat} {e : MapEntry} (h : e ∈ (leftOf (ents mk m).toArray seen).toList) : ∃ j x v, m[j]? = some (x, v) ∧ e = ⟨mk x, v, j⟩ ∧ seen.contains j = false := by
  unfold leftOf at h
  rw [Array.toList_filter] at h
  obtain ⟨h1, h2⟩ := List.mem_filter.1 h
  obtain ⟨j, hj⟩ := List.getElem?_of_mem h1
  have hj' : (ents mk m)[j]? = some e := hj
  rw [ents_get] at hj'
  obtain ⟨p, hp, rfl⟩ := Option.map_eq_some_iff.1 hj'
  exact ⟨j, p.1, p.2, hp, rfl, by simpa using h2⟩

theorem leftOf_none {seen : Array Nat} (h : (leftOf (ents mk m).toArray seen).size = 0) : ∀ j, j < m.length → seen.contains j = true := by
  intro j hj
  have h0 : leftOf (ents mk m).toArray seen = #[] := Array.eq_empty_of_size_eq_zero h
  unfold leftOf at h0
  rw [Array.filter_eq_empty_iff] at h0
  have hm : (ents mk m)[j]? = some ⟨mk m[j].1, m[j].2, j⟩ := by rw [ents_get, List.getElem?_eq_getElem hj]; rfl
  have h1 := h0 _ (by simpa using List.mem_of_getElem? hm)
  simpa using h1

/-- the range's step -/
theorem wl_next (hg : o.guard = none) (it : Operand) (hop : o.op = Op.next it false) (r : Nat) (seen : Array Nat) (hit : a.eval it = .pointer (some ⟨r, 0, none⟩))
    (hr : w.heap[r]? = some (.mapIter (some b) m.length seen m.length)) (hb : w.heap[b]? = some (mapObj mk m))
    (hDone : (∀ j, j < m.length → seen.contains j = true) → wpList P ops Q rest (a.put o.dst (.tuple #[.bool false])) w)
    (hMore : ∀ j x v w1, m[j]? = some (x, v) → seen.contains j = false → (w1 = w ∨ w1 = w.drew) → wpList P ops Q rest (a.put o.dst (.tuple #[.bool true, mk x, v])) (setBlock w1 r (.mapIter (some b) m.length (seen.push j) m.length))) : wpList P ops Q (o :: rest) a w := by
  refine wpList_plain hg fun K' hK' => ?_
  have hb' : w.heap[b]? = some (.map (ents mk m).toArray m.length) := hb
  unfold Oper.wp
  rcases run_next_at (P := P) w o.type r b m.length m.length seen (ents mk m).toArray m.length hr hb' (ents_lt mk m) (Nat.le_refl _) with ⟨h0, hrun⟩ | ⟨e, he, w1, hw1, hrun⟩
  · simp [execOp, hop, hit, hrun, Result.andThen]
    exact hK' _ _ (hDone (leftOf_none h0))
  · obtain ⟨j, x, v, hj, rfl, hs⟩ := leftOf_mem he
    simp [execOp, hop, hit, hrun, Result.andThen]
    exact hK' _ _ (hMore j x v w1 hj hs hw1)

/-- the round's key and value -/
theorem run_entry (r : Nat) (seen : Array Nat) {j : Nat} {x : α} {v : Value} (hj : m[j]? = some (x, v)) (hr : w.heap[r]? = some (.mapIter (some b) m.length (seen.push j) m.length)) (hb : w.heap[b]? = some (mapObj mk m)) :
    (Instr.entry (.pointer (some ⟨r, 0, none⟩))).run P w = .ok (.tuple #[mk x, v]) w := by
  have hb' : w.heap[b]? = some (.map (ents mk m).toArray m.length) := hb
  have he : (⟨mk x, v, j⟩ : MapEntry) ∈ (ents mk m).toArray.toList := by
    have : (ents mk m)[j]? = some ⟨mk x, v, j⟩ := by rw [ents_get, hj]; rfl
    simpa using List.mem_of_getElem? this
  have hn : ((ents mk m).toArray.toList.map (·.born)).Nodup := by
    have : (ents mk m).map (·.born) = List.range m.length := List.ext_getElem (by simp [ents]) (fun i h1 h2 => by simp [ents])
    show ((ents mk m).map (·.born)).Nodup
    rw [this]
    exact List.nodup_range
  exact run_entry_at w r b m.length seen (ents mk m).toArray m.length ⟨mk x, v, j⟩ hr hb' he hn
end

theorem setBlock_other (w : World) (o : Obj) {b i : Nat} (h : i ≠ b) : (setBlock w b o).heap[i]? = w.heap[i]? := by
  show (w.heap.setIfInBounds b o)[i]? = _
  rw [Array.getElem?_setIfInBounds, if_neg (by omega)]
theorem setBlock_same (w : World) (o : Obj) {b : Nat} (h : b < w.heap.size) : (setBlock w b o).heap[b]? = some o := by
  show (w.heap.setIfInBounds b o)[b]? = _
  rw [Array.getElem?_setIfInBounds, if_pos rfl, if_pos h]
theorem setBlock_size (w : World) (b : Nat) (o : Obj) : (setBlock w b o).heap.size = w.heap.size := by simp [setBlock]
theorem setBlock_grown (w : World) (b : Nat) (o : Obj) : w.grownBy (setBlock w b o) (some b) :=
  ⟨rfl, rfl, rfl, by simp [setBlock], fun i _ hi => setBlock_other w o (fun e => hi (by rw [e]))⟩

#print axioms wl_look
#print axioms wl_put
end Go.Proofs.Ytmfkjanfnmplnaa.ML
