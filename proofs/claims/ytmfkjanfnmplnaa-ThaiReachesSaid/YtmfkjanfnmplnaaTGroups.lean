/- A map from whole numbers to rows of whole numbers that the call itself has made: how a store keeps it, and how a range over it goes on. -/
import Derived.Test.YtmfkjanfnmplnaaTMap
import Derived.Test.YtmfkjanfnmplnaaWWords
namespace Go.Proofs.Ytmfkjanfnmplnaa.TG
open Go Go.RowKit Go.Proofs.YtmfkjanfnmplnaaW.PrintWords
open Go.ChangeMaps (setBlock)
open Go.Proofs.Ytmfkjanfnmplnaa.ML

def mkI (x : Int) : Value := .int .i64 x
def okI (x : Int) : Prop := (Lit.int .i64 x).wf = true
theorem okI_of {x : Int} (h0 : 0 ≤ x) (h1 : x ≤ 1000000000) : okI x := WalkArith.wf_i64 (by omega)

theorem keysI {P : Program} {k : TypeId} (hk : P.underlying k = some (.int .i64)) : MKeys P k mkI okI where
  law := Maps.int_keyed hk
  key x hx := ⟨_, Maps.keyOf_int_mk hk hx⟩
  inj x y h := by unfold mkI at h; injection h

/-- Block b of w is a map whose keys' rows hold what f says; no two keys' rows are one. -/
structure Groups (w : World) (B b : Nat) (m : List (Int × Value)) (f : Int → List Int) : Prop where
  blk : w.heap[b]? = some (mapObj mkI m)
  good : MGood okI m
  base : B ≤ b
  none_ : ∀ x, mlook m x = none → f x = []
  row : ∀ x v, mlook m x = some v → f x ≠ [] ∧ w.ownsRow B 3 1 v (f x).length (nums .i64 (f x))
  apart : ∀ x y v u, mlook m x = some v → mlook m y = some u → x ≠ y → v.ownBlock ≠ u.ownBlock

theorem own_some {w : World} {B : Nat} {e : TypeId} {v : Value} {xs : List Int} (h : w.ownsRow B e 1 v xs.length (nums .i64 xs)) (hx : xs ≠ []) : ∃ g, v.ownBlock = some g := by
  rcases h.2 with ⟨_, h0⟩ | ⟨g, cap, cur, rfl, _⟩
  · exact absurd (List.eq_nil_of_length_eq_zero h0) hx
  · exact ⟨g, rfl⟩

theorem own_not_map {w : World} {B b : Nat} {e : TypeId} {s n : Nat} {v : Value} {xs : List Value} {m : List (Int × Value)} (h : w.ownsRow B e s v n xs) (hb : w.heap[b]? = some (mapObj mkI m)) : v.ownBlock = none ∨ v.ownBlock ≠ some b := by
  rcases h.2 with ⟨rfl, _⟩ | ⟨g, cap, cur, rfl, _, hg, _⟩
  · exact .inl rfl
  · refine .inr fun e => ?_
    have : g = b := by simpa [Value.ownBlock] using e
    subst this
    rw [hg] at hb
    cases hb

theorem Groups.lt {w : World} {B b : Nat} {m : List (Int × Value)} {f : Int → List Int} (h : Groups w B b m f) : b < w.heap.size := (Array.getElem?_eq_some_iff.1 h.blk).1

theorem Groups.made (w : World) (B : Nat) (hB : B ≤ w.heap.size) (f : Int → List Int) (hf : ∀ x, f x = []) : Groups (w.alloc (.map #[] 0)) B w.heap.size [] f where
  blk := heap_alloc_new w _
  good := MGood.nil
  base := hB
  none_ x _ := hf x
  row x v h := by simp [mlook] at h
  apart x y v u h := by simp [mlook] at h

theorem Groups.congr {w : World} {B b : Nat} {m : List (Int × Value)} {f f' : Int → List Int} (h : Groups w B b m f) (hf : ∀ x, f x = f' x) : Groups w B b m f' := by
  have : f = f' := funext hf
  exact this ▸ h

theorem Groups.grown {w w1 : World} {B b : Nat} {m : List (Int × Value)} {f : Int → List Int} {row : Option Nat} (h : Groups w B b m f) (hg : w.grownBy w1 row) (hb : some b ≠ row) (hr : ∀ x v, mlook m x = some v → v.ownBlock ≠ row) : Groups w1 B b m f where
  blk := (hg.block b h.lt hb).trans h.blk
  good := h.good
  base := h.base
  none_ := h.none_
  row x v hv := ⟨(h.row x v hv).1, (h.row x v hv).2.kept hg (.inr (hr x v hv))⟩
  apart := h.apart

theorem Groups.alloc {w : World} {B b : Nat} {m : List (Int × Value)} {f : Int → List Int} (h : Groups w B b m f) (o : Obj) : Groups (w.alloc o) B b m f :=
  h.grown (World.grownBy_alloc w o none) (by simp) (fun x v hv => by
    obtain ⟨g, hg⟩ := own_some (h.row x v hv).2 (h.row x v hv).1
    simp [hg])

theorem Groups.drewN {w : World} {B b : Nat} {m : List (Int × Value)} {f : Int → List Int} (h : Groups w B b m f) (n : Nat) : Groups (w.drewN n) B b m f := ⟨h.blk, h.good, h.base, h.none_, h.row, h.apart⟩
theorem Groups.drew {w : World} {B b : Nat} {m : List (Int × Value)} {f : Int → List Int} (h : Groups w B b m f) : Groups w.drew B b m f := ⟨h.blk, h.good, h.base, h.none_, h.row, h.apart⟩

/-- the row at a key, nil where there is none -/
def rowAt (m : List (Int × Value)) (x : Int) : Value := (mlook m x).getD (.slice none 0 0)

theorem Groups.rowAt {w : World} {B b : Nat} {m : List (Int × Value)} {f : Int → List Int} (h : Groups w B b m f) (x : Int) : w.ownsRow B 3 1 (rowAt m x) (f x).length (nums .i64 (f x)) := by
  unfold TG.rowAt
  cases hl : mlook m x with
  | none => rw [h.none_ x hl]; exact World.ownsRow_nil _ _ _ _
  | some v => exact (h.row x v hl).2

theorem Groups.ne_map {w : World} {B b : Nat} {m : List (Int × Value)} {f : Int → List Int} (h : Groups w B b m f) (x : Int) : some b ≠ (TG.rowAt m x).ownBlock := by
  intro e
  rcases own_not_map (h.rowAt x) h.blk with h1 | h1
  · rw [h1] at e; cases e
  · exact h1 e.symm

def upd (f : Int → List Int) (x : Int) (ys : List Int) : Int → List Int := fun y => if y = x then ys else f y

/-- What a store at a key leaves: W: the world in which the map stood; w1: the world behind what was done to that key's row alone (and to new blocks). -/
theorem Groups.put {W w1 : World} {B b : Nat} {m : List (Int × Value)} {f : Int → List Int} (h : Groups W B b m f) {x : Int} (hx : okI x) {v1 : Value} {ys : List Int} (hy : ys ≠ []) (hg : W.grownBy w1 (TG.rowAt m x).ownBlock)
    (hR : w1.ownsRow B 3 1 v1 ys.length (nums .i64 ys)) (hat : v1.ownBlock = (TG.rowAt m x).ownBlock ∨ ∃ c, v1.ownBlock = some c ∧ W.heap.size ≤ c) :
    Groups (setBlock w1 b (mapObj mkI (mput m x v1))) B b (ML.mput m x v1) (upd f x ys) := by
  have hb1 : w1.heap[b]? = some (mapObj mkI m) := (hg.block b h.lt (h.ne_map x)).trans h.blk
  have hlt : b < w1.heap.size := (Array.getElem?_eq_some_iff.1 hb1).1
  have hs := setBlock_grown w1 b (mapObj mkI (ML.mput m x v1))
  have other : ∀ y v, y ≠ x → mlook m y = some v → w1.ownsRow B 3 1 v (f y).length (nums .i64 (f y)) ∧ v.ownBlock ≠ v1.ownBlock := by
    intro y v hne hv
    have hr := h.row y v hv
    have hne2 : v.ownBlock ≠ (TG.rowAt m x).ownBlock := by
      unfold TG.rowAt
      cases hl : mlook m x with
      | none =>
        obtain ⟨g, hg'⟩ := own_some hr.2 hr.1
        rw [show (Option.getD none (Value.slice none 0 0)).ownBlock = none from rfl, hg']
        simp
      | some u => exact h.apart y x v u hv hl hne
    refine ⟨hr.2.kept hg (.inr hne2), ?_⟩
    rcases hat with hat | ⟨c, hc, hle⟩
    · rw [hat]; exact hne2
    · obtain ⟨g, hg'⟩ := own_some hr.2 hr.1
      have := (hr.2.lt g hg').2
      rw [hc, hg']
      intro e
      injection e with e
      omega
  refine ⟨setBlock_same _ _ hlt, h.good.mput hx v1, h.base, ?_, ?_, ?_⟩
  · intro y hy'
    rw [look_put] at hy'
    unfold upd
    split at hy'
    · cases hy'
    · rename_i hne
      rw [if_neg hne]
      exact h.none_ y hy'
  · intro y v hv
    rw [look_put] at hv
    unfold upd
    split at hv
    · rename_i he
      cases hv
      rw [if_pos he]
      refine ⟨hy, hR.kept hs ?_⟩
      exact own_not_map hR hb1
    · rename_i hne
      rw [if_neg hne]
      refine ⟨(h.row y v hv).1, (other y v hne hv).1.kept hs ?_⟩
      exact own_not_map (other y v hne hv).1 hb1
  · intro y z v u hv hu hne
    rw [look_put] at hv hu
    split at hv
    · rename_i e1
      subst e1
      cases hv
      rw [if_neg (fun e => hne e.symm)] at hu
      exact fun e => (other z u (fun e => hne e.symm) hu).2 e.symm
    · rename_i e1
      split at hu
      · cases hu
        exact (other y v e1 hv).2
      · exact h.apart y z v u hv hu hne

/-! ### the range over it -/
theorem keys_put_old {m : List (Int × Value)} {x : Int} {v : Value} (h : mlook m x ≠ none) : (ML.mput m x v).map (·.1) = m.map (·.1) := by
  have hany : m.any (fun p => p.1 == x) = true := by
    by_cases h1 : m.any (fun p => p.1 == x) = true
    · exact h1
    · exfalso; apply h
      have h2 : m.any (fun p => p.1 == x) = false := (Bool.not_eq_true _).mp h1
      unfold mlook
      rw [List.find?_eq_none.2 (fun p hp => by have := List.any_eq_false.1 h2 p hp; simpa using this)]; rfl
  rw [put_old hany, List.map_map]
  refine List.map_congr_left fun p _ => ?_
  simp only [Function.comp]
  split
  · rename_i e; exact e.symm
  · rfl

/-- The iterator's block: the entries at the places 'seen' have come. -/
def IterAt (w : World) (r b n : Nat) (seen : Array Nat) : Prop := w.heap[r]? = some (.mapIter (some b) n seen n)

theorem look_of_get {m : List (Int × Value)} (hn : (m.map (·.1)).Nodup) {j : Nat} {x : Int} {v : Value} (h : m[j]? = some (x, v)) : mlook m x = some v := by
  unfold mlook
  have hs : (m.find? fun p => p.1 == x).isSome := by rw [List.find?_isSome]; exact ⟨_, List.mem_of_getElem? h, by simp⟩
  obtain ⟨q, hq⟩ := Option.isSome_iff_exists.1 hs
  have hq1 := List.find?_some hq
  obtain ⟨i, hi⟩ := List.getElem?_of_mem (List.mem_of_find?_eq_some hq)
  obtain ⟨q1, u⟩ := q
  simp only [beq_iff_eq] at hq1
  subst hq1
  have e1 : (m.map (·.1))[i]? = some q1 := by simp [hi]
  have e2 : (m.map (·.1))[j]? = some q1 := by simp [h]
  have hlt : i < (m.map (·.1)).length := (List.getElem?_eq_some_iff.1 e1).1
  have hij : i = j := (List.getElem?_inj hlt hn).1 (e1.trans e2.symm)
  subst hij
  rw [hi] at h
  cases h
  rw [hq]; rfl

/-- how many places are still to come -/
def leftN (n : Nat) (seen : Array Nat) : Nat := ((List.range n).filter fun j => !seen.contains j).length

theorem leftN_push {n j : Nat} {seen : Array Nat} (hj : j < n) (hs : seen.contains j = false) : leftN n (seen.push j) < leftN n seen := by
  unfold leftN
  have hsub : (List.range n).filter (fun i => !(seen.push j).contains i) = ((List.range n).filter fun i => !seen.contains i).filter (fun i => !(i == j)) := by
    rw [List.filter_filter]
    refine List.filter_congr fun i _ => ?_
    rw [Array.contains_push]
    cases h1 : seen.contains i <;> cases h2 : (i == j) <;> simp_all
  rw [hsub]
  refine Nat.lt_of_le_of_ne (List.length_filter_le _ _) fun e => ?_
  have h1 := List.length_filter_eq_length_iff.1 e j (List.mem_filter.2 ⟨List.mem_range.2 hj, by rw [hs]; rfl⟩)
  simp at h1

end Go.Proofs.Ytmfkjanfnmplnaa.TG
