/- What is in order and each once holds what was there; the farthest place by it. -/
import Derived.Test.YtmfkjanfnmplnaaTEnds
import Derived.Test.YtmfkjanfnmplnaaTThaiMath
namespace Go.Proofs.Ytmfkjanfnmplnaa.TF
open Go Go.Proofs.Ytmfkjanfnmplnaa.TE Go.Proofs.Ytmfkjanfnmplnaa.XT Go.Proofs.Ytmfkjanfnmplnaa.ThaiMath

theorem mem_compact (xs : List Int) (t : Int) : t ∈ Lib.compact xs ↔ t ∈ xs := by
  unfold Lib.compact Lib.compactUpTo
  constructor
  · intro h
    obtain ⟨j, hj, rfl⟩ := List.mem_map.1 h
    have := List.mem_range.1 (List.mem_filter.1 hj).1
    simp [this]
  · intro h
    obtain ⟨j, hj, rfl⟩ := List.getElem_of_mem h
    induction j with
    | zero => exact List.mem_map.2 ⟨0, List.mem_filter.2 ⟨List.mem_range.2 hj, by simp [Lib.keeps]⟩, by simp [hj]⟩
    | succ j ih =>
      by_cases he : xs[j + 1] = xs[j]
      · rw [he]; exact ih (by omega) (List.getElem_mem _)
      · refine List.mem_map.2 ⟨j + 1, List.mem_filter.2 ⟨List.mem_range.2 hj, Lib.keeps_pos ?_⟩, by simp [hj]⟩
        simpa [hj, show j < xs.length by omega] using he

theorem mem_fin (xs : List Int) (t : Int) : t ∈ fin xs ↔ t ∈ xs := by
  unfold fin srt
  rw [mem_compact]
  exact (List.mergeSort_perm xs _).mem_iff

def wsOf (l : List S39) : WS := l.map fun s => (s.f0, s.f1)
theorem mem_ws (l : List S39) (x t : Int) : (x, t) ∈ wsOf l ↔ ∃ s ∈ l, s.f0 = x ∧ s.f1 = t := by
  unfold wsOf
  rw [List.mem_map]
  constructor
  · rintro ⟨s, hs, he⟩; simp only [Prod.mk.injEq] at he; exact ⟨s, hs, he.1, he.2⟩
  · rintro ⟨s, hs, rfl, rfl⟩; exact ⟨s, hs, rfl⟩
theorem mem_tos (l : List S39) (x t : Int) : t ∈ tosL l x ↔ (x, t) ∈ wsOf l := by
  rw [mem_ws]
  unfold tosL
  rw [List.mem_map]
  constructor
  · rintro ⟨s, hs, rfl⟩
    obtain ⟨h1, h2⟩ := List.mem_filter.1 hs
    exact ⟨s, h1, by simpa using h2, rfl⟩
  · rintro ⟨s, hs, rfl, rfl⟩
    exact ⟨s, List.mem_filter.2 ⟨hs, by simp⟩, rfl⟩

theorem foldl_le (f : Int → Int) : ∀ (l : List Int) (m b : Int), m ≤ b → (∀ p ∈ l, f p ≤ b) → l.foldl (fun m p => max m (f p)) m ≤ b
  | [], _, _, h, _ => h
  | p :: l, m, b, h, k => foldl_le f l _ b (Int.max_le.2 ⟨h, k p (by simp)⟩) (fun q hq => k q (by simp [hq]))
theorem le_foldl (f : Int → Int) : ∀ (l : List Int) (m : Int), m ≤ l.foldl (fun m p => max m (f p)) m
  | [], m => Int.le_refl m
  | p :: l, m => Int.le_trans (Int.le_max_left m (f p)) (le_foldl f l _)
theorem mem_foldl (f : Int → Int) : ∀ (l : List Int) (m p : Int), p ∈ l → f p ≤ l.foldl (fun m p => max m (f p)) m
  | q :: l, m, p, h => by
    rcases List.mem_cons.1 h with e | h
    · subst e
      exact Int.le_trans (Int.le_max_right m (f p)) (le_foldl f l _)
    · exact mem_foldl f l _ p h

theorem reach_fin (l : List S39) (k : Nat) (a : Int) : reachS (wsOf l) (k + 1) a = (fin (tosL l a)).foldl (fun m t => max m (reachS (wsOf l) k t)) a := by
  rw [reachS]
  apply Int.le_antisymm
  · refine foldl_max_le _ _ _ _ (le_foldl _ _ _) fun p hp => ?_
    obtain ⟨h1, h2⟩ := List.mem_filter.1 hp
    have : p.2 ∈ fin (tosL l a) := by
      rw [mem_fin, mem_tos]
      have h3 : p.1 = a := by simpa using h2
      rw [← h3]; exact h1
    exact mem_foldl (fun t => reachS (wsOf l) k t) _ _ _ this
  · refine foldl_le _ _ _ _ (le_foldl_max _ _ _) fun t ht => ?_
    rw [mem_fin, mem_tos] at ht
    exact mem_foldl_max (fun p => reachS (wsOf l) k p.2) _ _ (a, t) (List.mem_filter.2 ⟨ht, by simp⟩)

theorem foldl_snoc (f : Int → Int) (l : List Int) (j : Nat) (hj : j < l.length) (m : Int) : (l.take (j + 1)).foldl (fun m p => max m (f p)) m = max ((l.take j).foldl (fun m p => max m (f p)) m) (f (l.getD j 0)) := by
  rw [List.take_succ_eq_append_getElem hj, List.foldl_append]
  simp [List.getD_eq_getElem?_getD, hj]
end Go.Proofs.Ytmfkjanfnmplnaa.TF
