/- A row of the call's own, and the library's sort and compaction of it. -/
import Derived.Below
import Derived.OwnWalk
import Derived.Sort.Grow
import Derived.Laws.AppendOwn
namespace Go.Proofs.Ytmfkjanfnmplnaa.RS
open Go Go.RowKit Go.Sort
variable {α : Type} [Inhabited α]

theorem own_form {w : World} {B : Nat} {e : TypeId} {v : Value} {n : Nat} {xs : List Value} (h : w.ownsRow B e 1 v n xs) (hn : 0 < n) :
    ∃ g cap cur, v = .slice (some ⟨g, 0, none⟩) n cap ∧ B ≤ g ∧ w.heap[g]? = some (.cells cur e (0, 0)) ∧ n ≤ cap ∧ cap ≤ maxLen ∧ cur.size = cap ∧ cur.toList.take n = xs := by
  rcases h.2 with ⟨_, h0⟩ | ⟨g, cap, cur, h1, h2, h3, h4, h5, h6, h7⟩
  · omega
  · exact ⟨g, cap, cur, h1, h2, h3, h4, h5, by simpa using h6, by simpa using h7⟩

theorem holds_of_row (enc : α → Value) {w : World} {g n : Nat} {e : TypeId} {cur : Array Value} {xs : List α} (h : w.heap[g]? = some (.cells cur e (0, 0))) (ht : cur.toList.take n = xs.map enc) : Holds enc w g 0 xs.toArray := by
  intro j hj
  simp only [List.size_toArray] at hj
  refine ⟨?_, by simp [World.frozen?, h]⟩
  rw [Nat.zero_add, cell_of_row w g j cur e (0, 0) h]
  have h1 : (cur.toList.take n)[j]? = some (enc xs[j]) := by rw [ht]; simp [hj]
  rw [List.getElem?_take] at h1
  split at h1
  · rw [← Array.getElem?_toList, h1]
    simp [hj]
  · cases h1

theorem row_put (enc : α → Value) {w : World} {g : Nat} {e : TypeId} {cur : Array Value} (h : w.heap[g]? = some (.cells cur e (0, 0))) (k : Nat) (zs : List α) (os : Array Obj) :
    (grow (putRow enc (Sort.ahead w k) g 0 zs.toArray) os).heap[g]? = some (.cells (putCells enc 0 zs.toArray cur) e (0, 0)) ∧ w.grownBy (grow (putRow enc (Sort.ahead w k) g 0 zs.toArray) os) (some g) := by
  have hlt : g < w.heap.size := (Array.getElem?_eq_some_iff.1 h).1
  have hh : (grow (putRow enc (Sort.ahead w k) g 0 zs.toArray) os).heap = (w.heap.modify g (onCells (putCells enc 0 zs.toArray))) ++ os := rfl
  refine ⟨?_, rfl, rfl, rfl, ?_, ?_⟩
  · rw [hh, Array.getElem?_append, if_pos (by simpa using hlt), Array.getElem?_modify, if_pos rfl, h]
    rfl
  · rw [hh]; simp
  · intro i hi hne
    have : ¬ g = i := fun e => hne (by rw [e])
    rw [hh, Array.getElem?_append, if_pos (by simpa using hi), Array.getElem?_modify, if_neg this]

theorem putCells_take (enc : α → Value) (zs : List α) (cur : Array Value) (hz : zs.length ≤ cur.size) (m : Nat) (hm : m ≤ zs.length) : (putCells enc 0 zs.toArray cur).toList.take m = (zs.take m).map enc := by
  apply List.ext_getElem?
  intro i
  rw [List.getElem?_take, List.getElem?_map, List.getElem?_take]
  by_cases h : i < m
  · rw [if_pos h, if_pos h, Array.getElem?_toList]
    unfold putCells
    rw [Array.getElem?_mapIdx, Array.getElem?_eq_getElem (by omega), List.getElem?_eq_getElem (by omega)]
    simp [show i < zs.length by omega]
  · rw [if_neg h, if_neg h]; rfl

/-- v's row has been written over by zs (at most as long as there is room): the first m of them are owned. -/
theorem own_put (enc : α → Value) {w : World} {B g cap : Nat} {e : TypeId} {cur : Array Value} (hB : B ≤ g) (h : w.heap[g]? = some (.cells cur e (0, 0))) (hc : cur.size = cap) (hcm : cap ≤ maxLen) (k : Nat) (zs : List α) (os : Array Obj) (hz : zs.length ≤ cap) (m : Nat) (hm : m ≤ zs.length) :
    (grow (putRow enc (Sort.ahead w k) g 0 zs.toArray) os).ownsRow B e 1 (.slice (some ⟨g, 0, none⟩) m cap) m ((zs.take m).map enc) := by
  refine ⟨by simp; omega, .inr ⟨g, cap, putCells enc 0 zs.toArray cur, rfl, hB, (row_put enc h k zs os).1, by omega, hcm, by simp [putCells, hc], ?_⟩⟩
  rw [Nat.mul_one]
  exact putCells_take enc zs cur (by omega) m hm
end Go.Proofs.Ytmfkjanfnmplnaa.RS
