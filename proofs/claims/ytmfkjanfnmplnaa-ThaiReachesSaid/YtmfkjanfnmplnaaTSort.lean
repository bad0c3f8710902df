/- slices.Sort and slices.Compact of whole numbers, for a row of the call's own. -/
import Derived.Test.YtmfkjanfnmplnaaShelf
import Derived.Test.YtmfkjanfnmplnaaTRow
import Derived.Test.YtmfkjanfnmplnaaTEnds
namespace Go.Proofs.Ytmfkjanfnmplnaa.TS
open Go Go.RowKit Go.Sort Go.Proofs.YtmfkjanfnmplnaaW.PrintWords
open Go.Proofs.Ytmfkjanfnmplnaa.TE Go.Proofs.Ytmfkjanfnmplnaa.RS

theorem sortC : SortC := by
  intro w B v xs hne hlen ho
  have hpos : 0 < xs.length := List.length_pos_iff.2 hne
  obtain ⟨g, cap, cur, rfl, hB, hh, hnc, hcm, hcs, htk⟩ := own_form ho hpos
  have hH : Holds (Value.int .i64) w g 0 xs.toArray := holds_of_row (Value.int .i64) hh htk
  refine (Try.slices_Sort_int g 0 cap xs w hH (Array.getElem?_eq_some_iff.1 hh).1 (by omega)).mono ?_
  rintro e w' ⟨rfl, k, os, rfl⟩
  have hl : (srt xs).length = xs.length := List.length_mergeSort _
  refine ⟨rfl, ?_, (row_put _ hh k _ os).2⟩
  have := own_put (Value.int .i64) hB hh hcs hcm k (srt xs) os (by omega) xs.length (by omega)
  rw [← hl] at this ⊢
  rw [List.take_length] at this
  rw [hl] at this ⊢
  exact this

theorem compactC : CompactC := by
  intro w B v xs hne hlen ho
  have hpos : 0 < xs.length := List.length_pos_iff.2 hne
  obtain ⟨g, cap, cur, rfl, hB, hh, hnc, hcm, hcs, htk⟩ := own_form ho hpos
  have hH : Holds (Value.int .i64) w g 0 xs.toArray := holds_of_row (Value.int .i64) hh htk
  refine (Try.slices_Compact_int g 0 cap xs w hH (by omega) (by omega)).mono ?_
  rintro e w' ⟨rfl, q, rfl⟩
  have hl : (Lib.compact xs).length ≤ xs.length := by
    unfold Lib.compact Lib.compactUpTo
    rw [List.length_map]
    exact Nat.le_trans (List.length_filter_le _ _) (by simp)
  have hr := row_put (Value.int .i64) hh q (Lib.compact xs ++ List.replicate (xs.length - (Lib.compact xs).length) 0) #[]
  have ho := own_put (Value.int .i64) hB hh hcs hcm q (Lib.compact xs ++ List.replicate (xs.length - (Lib.compact xs).length) 0) #[] (by simp; omega) (Lib.compact xs).length (by simp)
  rw [grow_empty] at hr ho
  rw [List.take_left] at ho
  exact ⟨_, rfl, ho, rfl, hr.2⟩
end Go.Proofs.Ytmfkjanfnmplnaa.TS
