/- slices.MaxFunc by 'better' -/
import Derived.Test.YtmfkjanfnmplnaaTBetter
namespace Go.Proofs.Ytmfkjanfnmplnaa.TX
open Go Go.RowKit Go.Proofs.YtmfkjanfnmplnaaW.PrintWords Go.Proofs.YtmfkjanfnmplnaaW.PrintLast
open Go.Proofs.Ytmfkjanfnmplnaa.ML Go.Proofs.Ytmfkjanfnmplnaa.TG Go.Proofs.Ytmfkjanfnmplnaa.XT Go.Proofs.Ytmfkjanfnmplnaa.TE Go.Proofs.Ytmfkjanfnmplnaa.TF Go.Proofs.Ytmfkjanfnmplnaa.ThaiMath Go.Proofs.Ytmfkjanfnmplnaa.TR Go.Proofs.Ytmfkjanfnmplnaa.TB
set_option linter.unusedVariables false
set_option linter.unusedSimpArgs false

def leB (l : List S39) (u t : Int) : Prop := reachS (wsOf l) 2 u < reachS (wsOf l) 2 t ∨ (reachS (wsOf l) 2 u = reachS (wsOf l) 2 t ∧ u ≤ t)
theorem bet_pos (l : List S39) (u t : Int) : 0 < betS l u t ↔ ¬ leB l u t := by
  unfold betS orS leB Lib.compareInt
  repeat' split
  all_goals (try simp only [reduceCtorEq]) <;> omega
def BestIn (l : List S39) (xs : List Int) (t : Int) : Prop := t ∈ xs ∧ ∀ u ∈ xs, leB l u t
def MaxPost (l : List S39) (xs : List Int) (w : World) (e : Ending) (w' : World) : Prop := ∃ t, e = .returned (.int .i64 t) ∧ BestIn l xs t ∧ Below w.heap.size w w'

theorem best_stay {l : List S39} {xs : List Int} {t x : Int} (h : BestIn l xs t) (hx : leB l x t) : BestIn l (xs ++ [x]) t :=
  ⟨List.mem_append_left _ h.1, fun u hu => by
    rcases List.mem_append.1 hu with hu | hu
    · exact h.2 u hu
    · rw [List.mem_singleton.1 hu]; exact hx⟩
theorem best_turn {l : List S39} {xs : List Int} {t x : Int} (h : BestIn l xs t) (hx : ¬ leB l x t) : BestIn l (xs ++ [x]) x :=
  ⟨by simp, fun u hu => by
    rcases List.mem_append.1 hu with hu | hu
    · have := h.2 u hu
      unfold leB at this hx ⊢
      omega
    · rw [List.mem_singleton.1 hu]; exact .inr ⟨rfl, Int.le_refl _⟩⟩

set_option maxHeartbeats 400000 in
theorem max_calls (l : List S39) (B b : Nat) (hl : ∀ s ∈ l, 0 ≤ s.f1 ∧ s.f1 ≤ 5000) (g : Nat) (A : Option Addr) (c : Nat) (xs : List Int) (w : World) (hr : ReadsInt w .i64 A xs.length xs) (hne : 0 < xs.length) (hxs : ∀ t ∈ xs, 0 ≤ t ∧ t ≤ 5000)
    (hE : EndsMap w B b l) (hc : w.cell? ⟨g, 0, none⟩ = some (.map (some b))) :
    Calls Try.prog 32 #[.slice A xs.length c, .func (.func 28) #[] #[.pointer (some ⟨g, 0, none⟩)]] w (MaxPost l xs w) := by
  have HE := Aside0.mk hE
  have HL := Aside0.mk hl
  have HR := Aside0.mk hr
  have HC := Aside0.mk hc
  have HX := Aside0.mk hxs
  have hlen := hr.2.1
  obtain ⟨ad, rfl, hc0⟩ := hr.at_ 0 (by omega) (by omega)
  rw [show ((0 : Int).toNat) = 0 from rfl, show ad.add 0 = ad from by simp [Addr.add]] at hc0
  have hx0 : Aside0 (xs.take 1 = [rd xs 0]) := ⟨by cases xs with
    | nil => simp at hne
    | cons x r => simp [rd]⟩
  generalize rd xs 0 = x0 at hc0 hx0
  clear hE hl hr hc hxs
  go_enter Try.func32, Try.ntmps32
  go_wp2_with fail
  go_loopg [5, 6] xs.length (fun kq v5 v6 wr => ∃ (i : Nat) (t : Int), v6 = .int .i64 i ∧ v5 = .int .i64 t ∧ Aside0 (i ≤ xs.length ∧ kq + i = xs.length + 1 ∧ 1 ≤ i) ∧ Aside0 (BestIn l (xs.take i) t) ∧ Aside0 (Below w.heap.size w wr))
  case atStart => exact ⟨1, x0, rfl, rfl, ⟨by omega⟩, ⟨by rw [hx0.out]; exact ⟨by simp, fun u hu => by rw [List.mem_singleton.1 hu]; exact .inr ⟨rfl, Int.le_refl _⟩⟩⟩, ⟨Below.refl _ _⟩⟩
  case round =>
    clear hx0 hc0
    obtain ⟨i, t, rfl, rfl, HI, HBe, HB⟩ := hrel
    by_cases hlt : i < xs.length
    · have hrd := HR.out.below HB.out
      obtain ⟨ad', e1, hc1⟩ := hrd.at_ (i : Int) (by omega) (by omega)
      obtain rfl : ad = ad' := Option.some.inj e1
      simp only [Int.toNat_natCast] at hc1
      have HS : Aside0 (xs.take (i + 1) = xs.take i ++ [rd xs (i : Int)] ∧ (0 ≤ rd xs (i : Int) ∧ rd xs (i : Int) ≤ 5000) ∧ 0 ≤ t ∧ t ≤ 5000) := ⟨by rw [List.take_succ_eq_append_getElem hlt]; simp [rd, List.getD_eq_getElem?_getD, List.getElem?_eq_getElem hlt], HX.out _ (by simp [rd, List.getD_eq_getElem?_getD, List.getElem?_eq_getElem hlt]), HX.out _ (List.mem_of_mem_take HBe.out.1)⟩
      clear hrd e1
      generalize rd xs (i : Int) = x at hc1 HS
      have hE1 := Aside0.mk (EndsMap.below HE.out HB.out)
      have hC1 := Aside0.mk (pw_cell_below HB.out HC.out)
      by_cases hb : 0 < betS l x t
      · go_wp2_with fail
        refine (better_calls l B b HL.out g x t _ hE1.out hC1.out HS.out.2.1.1 HS.out.2.1.2 HS.out.2.2.1 HS.out.2.2.2).mono ?_
        rintro e w' ⟨rfl, hb1⟩
        have HB1 := Aside0.mk (below_step HB.out hb1)
        have hc2 := pw_cell_below hb1 hc1
        have HT := Aside0.mk (best_turn HBe.out ((bet_pos l x t).1 hb))
        clear hb1 hc1 hE1 hC1
        generalize betS l x t = q at hb ⊢
        go_wp2_with fail
        go_roundg (xs.length - i)
        case measure => have := HI.out; omega
        case rel => exact ⟨i + 1, x, by go_num, rfl, ⟨by have := HI.out; omega⟩, ⟨by rw [HS.out.1]; exact HT.out⟩, HB1⟩
      · have HT := Aside0.mk (best_stay (x := x) HBe.out (Classical.byContradiction (fun h => hb ((bet_pos l x t).2 h))))
        go_wp2_with fail
        refine (better_calls l B b HL.out g x t _ hE1.out hC1.out HS.out.2.1.1 HS.out.2.1.2 HS.out.2.2.1 HS.out.2.2.2).mono ?_
        rintro e w' ⟨rfl, hb1⟩
        have HB1 := Aside0.mk (below_step HB.out hb1)
        clear hb1 hc1 hE1 hC1
        generalize betS l x t = q at hb ⊢
        go_wp2_with fail
        go_roundg (xs.length - i)
        case measure => have := HI.out; omega
        case rel => exact ⟨i + 1, t, by go_num, rfl, ⟨by have := HI.out; omega⟩, ⟨by rw [HS.out.1]; exact HT.out⟩, HB1⟩
    · have := HI.out
      obtain rfl : i = xs.length := by omega
      clear this
      go_wp2_with fail
      go_ret
      exact ⟨t, rfl, by have := HBe.out; rwa [List.take_length] at this, HB.out⟩
end Go.Proofs.Ytmfkjanfnmplnaa.TX
