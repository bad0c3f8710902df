/- The reference's functions of layer 20: what they come to; and that thai.Parts answers as the reference does. -/
import Derived.Test.YtmfkjanfnmplnaaXT2a
import Derived.Test.YtmfkjanfnmplnaaTParts
namespace Go.Proofs.Ytmfkjanfnmplnaa.TPf
open Go Go.RowKit Go.Proofs.YtmfkjanfnmplnaaW.PrintWords Go.Proofs.YtmfkjanfnmplnaaW.PrintLast Go.Proofs.YtmfkjanfnmplnaaW.PrintMore
open Go.Proofs.Ytmfkjanfnmplnaa.XT Go.Proofs.Ytmfkjanfnmplnaa.TE Go.Proofs.Ytmfkjanfnmplnaa.TF Go.Proofs.Ytmfkjanfnmplnaa.ThaiMath Go.Proofs.Ytmfkjanfnmplnaa.TP
set_option linter.unusedVariables false
set_option linter.unusedSimpArgs false

theorem wrap_nat {i n : Nat} (hi : i < n) (hn : n ≤ 9223372036854775807) : wrap64 ((i : Int) + 1) = ((i + 1 : Nat) : Int) := by
  unfold wrap64
  omega
theorem rd_get (l : List S39) (i : Nat) (hi : i < l.length) : rd_T39 l (i : Int) = l[i] := by simp [rd_T39, List.getD_eq_getElem?_getD, hi]
theorem drop_get (l : List S39) (i : Nat) (hi : i < l.length) : l.drop i = l[i] :: l.drop (i + 1) := List.drop_eq_getElem_cons hi

theorem right_l0 (n : Int) (l : List S39) (hl : l.length ≤ 9223372036854775807) : ∀ d i, i + d = l.length → ∃ b, Ev (fun k => scansionref20_right.l0 k n l (i : Int)) b ∧ (b = true ↔ ∀ s ∈ l.drop i, rightW n s)
  | 0, i, h => by
    refine ⟨true, Ev.step (f := fun _ => some true) (fun k => ?_) (Ev.now true), ?_⟩
    · simp only [scansionref20_right.l0]
      rw [if_neg (by omega)]
    · rw [List.drop_eq_nil_of_le (by omega)]; simp
  | d + 1, i, h => by
    have hi : i < l.length := by omega
    obtain ⟨b, hb, he⟩ := right_l0 n l hl d (i + 1) (by omega)
    rw [drop_get l i hi]
    have hg := rd_get l i hi
    generalize l[i] = s at hg ⊢
    generalize l.drop (i + 1) = rest at he ⊢
    by_cases h0 : s.f0 < 0
    · refine ⟨false, Ev.step (f := fun _ => some false) (fun k => ?_) (Ev.now false), ?_⟩
      · simp only [scansionref20_right.l0]
        rw [if_pos (by omega), if_pos (by omega), hg, if_pos h0]
      · simp only [Bool.false_eq_true, false_iff]
        intro hh
        have := (hh s (List.mem_cons_self)).1
        omega
    by_cases h1 : s.f1 > n
    · refine ⟨false, Ev.step (f := fun _ => some false) (fun k => ?_) (Ev.now false), ?_⟩
      · simp only [scansionref20_right.l0]
        rw [if_pos (by omega), if_pos (by omega), hg, if_neg h0, if_pos h1]
      · simp only [Bool.false_eq_true, false_iff]
        intro hh
        have := (hh s (List.mem_cons_self)).2.1
        omega
    by_cases h2 : s.f0 ≥ s.f1
    · refine ⟨false, Ev.step (f := fun _ => some false) (fun k => ?_) (Ev.now false), ?_⟩
      · simp only [scansionref20_right.l0]
        rw [if_pos (by omega), if_pos (by omega), hg, if_neg h0, if_neg h1, if_pos h2]
      · simp only [Bool.false_eq_true, false_iff]
        intro hh
        have := (hh s (List.mem_cons_self)).2.2
        omega
    refine ⟨b, Ev.step (fun k => ?_) hb, ?_⟩
    · simp only [scansionref20_right.l0]
      rw [if_pos (by omega), if_pos (by omega), hg, if_neg h0, if_neg h1, if_neg h2, wrap_nat hi hl]
    · rw [he]
      simp only [List.mem_cons, forall_eq_or_imp]
      exact ⟨fun hh => ⟨⟨by omega, by omega, by omega⟩, hh⟩, fun hh => hh.2⟩

theorem right_f (n : Int) (l : List S39) (hl : l.length ≤ 9223372036854775807) : ∃ b, Ev (fun k => scansionref20_right.f k n l) b ∧ (b = true ↔ Right n l) := by
  have bad : ∀ (hn : ¬ Right n l), Ev (fun k => scansionref20_right.j0 k n l true) false := fun _ => Ev.step (f := fun _ => some false) (fun k => by simp [scansionref20_right.j0]) (Ev.now false)
  by_cases h0 : n < 0
  · have hn : ¬ Right n l := fun h => by have := h.1; omega
    exact ⟨false, Ev.congr (fun k => by unfold scansionref20_right.f; rw [if_pos h0]) (bad hn), by simp [hn]⟩
  by_cases h1 : n > 5000
  · have hn : ¬ Right n l := fun h => by have := h.2.1; omega
    exact ⟨false, Ev.congr (fun k => by unfold scansionref20_right.f; rw [if_neg h0, if_pos h1]) (bad hn), by simp [hn]⟩
  by_cases h2 : (l.length : Int) > 100000
  · have hn : ¬ Right n l := fun h => by have := h.2.2.1; omega
    exact ⟨false, Ev.congr (fun k => by unfold scansionref20_right.f; rw [if_neg h0, if_neg h1, decide_eq_true h2]) (bad hn), by simp [hn]⟩
  obtain ⟨b, hb, he⟩ := right_l0 n l hl l.length 0 (by omega)
  refine ⟨b, Ev.congr (f := fun k => scansionref20_right.j0 k n l false) (fun k => by unfold scansionref20_right.f; rw [if_neg h0, if_neg h1, decide_eq_false h2]) (Ev.step (fun k => by simp [scansionref20_right.j0]) hb), ?_⟩
  rw [he, List.drop_zero]
  exact ⟨fun h => ⟨by omega, by omega, by omega, h⟩, fun h => h.2.2.2⟩

theorem begins_l0 (l : List S39) (hl : l.length ≤ 9223372036854775807) (x : Int) : ∀ d i, i + d = l.length → ∃ b, Ev (fun k => scansionref20_begins.l0 k l x (i : Int)) b ∧ (b = true ↔ ∃ s ∈ l.drop i, s.f0 = x)
  | 0, i, h => by
    refine ⟨false, Ev.step (f := fun _ => some false) (fun k => ?_) (Ev.now false), ?_⟩
    · simp only [scansionref20_begins.l0]
      rw [if_neg (by omega)]
    · rw [List.drop_eq_nil_of_le (by omega)]; simp
  | d + 1, i, h => by
    have hi : i < l.length := by omega
    obtain ⟨b, hb, he⟩ := begins_l0 l hl x d (i + 1) (by omega)
    rw [drop_get l i hi]
    have hg := rd_get l i hi
    generalize l[i] = s at hg ⊢
    generalize l.drop (i + 1) = rest at he ⊢
    by_cases h0 : s.f0 = x
    · refine ⟨true, Ev.step (f := fun _ => some true) (fun k => ?_) (Ev.now true), ?_⟩
      · simp only [scansionref20_begins.l0]
        rw [if_pos (by omega), if_pos (by omega), hg, if_pos h0]
      · simp [h0]
    · refine ⟨b, Ev.step (fun k => ?_) hb, ?_⟩
      · simp only [scansionref20_begins.l0]
        rw [if_pos (by omega), if_pos (by omega), hg, if_neg h0, wrap_nat hi hl]
      · rw [he]; simp [h0]

theorem begins_f (l : List S39) (hl : l.length ≤ 9223372036854775807) (x : Int) : ∃ b, Ev (fun k => scansionref20_begins.f k l x) b ∧ (b = true ↔ beginsS (wsOf l) x) := by
  obtain ⟨b, hb, he⟩ := begins_l0 l hl x l.length 0 (by omega)
  refine ⟨b, hb, ?_⟩
  rw [he, List.drop_zero]
  unfold beginsS
  constructor
  · rintro ⟨s, hs, rfl⟩; exact ⟨s.f1, (mem_ws l _ _).2 ⟨s, hs, rfl, rfl⟩⟩
  · rintro ⟨t, ht⟩; obtain ⟨s, hs, h1, _⟩ := (mem_ws l _ _).1 ht; exact ⟨s, hs, h1⟩

theorem mx_max (a b : Int) : mx a b = max a b := by unfold mx; omega

theorem reach_f (l : List S39) (hl : l.length ≤ 9223372036854775807) : ∀ (w : Nat), w ≤ 1000 → ∀ x : Int, Ev (fun k => scansionref20_reach.f k l x (w : Int)) (reachS (wsOf l) w x)
  | 0, hw, x => by
    refine Ev.step (f := fun k => scansionref20_reach.l0 k l x 0 x 0) (fun k => by simp [scansionref20_reach.f]) ?_
    refine Ev.step (f := fun k => scansionref20_reach.j1 k l x 0 x 0 false) (fun k => ?_) ?_
    · simp only [scansionref20_reach.l0]; split <;> simp
    · exact Ev.step (f := fun _ => some x) (fun k => by simp [scansionref20_reach.j1]) (Ev.now x)
  | w + 1, hw, x => by
    have loop : ∀ d i (m : Int), i + d = l.length → Ev (fun k => scansionref20_reach.l0 k l x ((w + 1 : Nat) : Int) m (i : Int)) (((wsOf (l.drop i)).filter fun p => p.1 == x).foldl (fun m p => max m (reachS (wsOf l) w p.2)) m) := by
      intro d
      induction d with
      | zero =>
        intro i m h
        rw [List.drop_eq_nil_of_le (by omega)]
        refine Ev.step (f := fun k => scansionref20_reach.j1 k l x ((w + 1 : Nat) : Int) m (i : Int) false) (fun k => ?_) ?_
        · simp only [scansionref20_reach.l0]; rw [if_neg (by omega)]
        · exact Ev.step (f := fun _ => some m) (fun k => by simp [scansionref20_reach.j1]) (Ev.now m)
      | succ d ih =>
        intro i m h
        have hi : i < l.length := by omega
        rw [drop_get l i hi]
        have hg := rd_get l i hi
        have ih1 := fun m => ih (i + 1) m (by omega)
        generalize l[i] = s at hg ⊢
        generalize l.drop (i + 1) = rest at ih1 ⊢
        refine Ev.step (f := fun k => scansionref20_reach.j1 k l x ((w + 1 : Nat) : Int) m (i : Int) true) (fun k => ?_) ?_
        · simp only [scansionref20_reach.l0]; rw [if_pos (by omega), decide_eq_true (by omega)]
        · by_cases h0 : s.f0 = x
          · have e1 : (wsOf (s :: rest)).filter (fun p => p.1 == x) = (s.f0, s.f1) :: (wsOf rest).filter (fun p => p.1 == x) := by simp [wsOf, h0]
            rw [e1, List.foldl_cons]
            refine Ev.step (f := fun k => (scansionref20_reach.f k l s.f1 (w : Int)).bind fun t => scansionref20_reach.l0 k l x ((w + 1 : Nat) : Int) (mx m t) ((i + 1 : Nat) : Int)) (fun k => ?_) ?_
            · simp only [scansionref20_reach.j1]
              rw [if_pos trivial, if_pos (by omega), if_pos (by omega), hg, if_pos h0, wrap_nat hi hl, show wrap64 (((w + 1 : Nat) : Int) - 1) = (w : Int) from by unfold wrap64; omega]
            · refine Ev.bind (reach_f l hl w (by omega) s.f1) ?_
              have := ih1 (mx m (reachS (wsOf l) w s.f1))
              rw [mx_max] at this
              simpa [mx_max] using this
          · have e1 : (wsOf (s :: rest)).filter (fun p => p.1 == x) = (wsOf rest).filter (fun p => p.1 == x) := by simp [wsOf, h0]
            rw [e1]
            refine Ev.step (fun k => ?_) (ih1 m)
            simp only [scansionref20_reach.j1]
            rw [if_pos trivial, if_pos (by omega), if_pos (by omega), hg, if_neg h0, wrap_nat hi hl]
    have h := loop l.length 0 x (by omega)
    rw [List.drop_zero] at h
    exact Ev.step (fun k => by simp [scansionref20_reach.f]) h

/-- the best word among the first ones -/
def BestI (l : List S39) (x : Int) (pre : List S39) (tq far : Int) : Prop :=
  ((∀ s ∈ pre, s.f0 ≠ x) ∧ tq = -1 ∧ far = -1) ∨
  ((∃ s ∈ pre, s.f0 = x ∧ s.f1 = tq) ∧ far = reachS (wsOf l) 2 tq ∧ ∀ s ∈ pre, s.f0 = x → TX.leB l s.f1 tq)

theorem reach_nonneg (l : List S39) {t : Int} (h : 0 ≤ t) : 0 ≤ reachS (wsOf l) 2 t := Int.le_trans h (self_le_reach _ 2 t)

theorem bestI_skip {l : List S39} {x : Int} {pre : List S39} {tq far : Int} {s : S39} (h : BestI l x pre tq far) (hs : s.f0 ≠ x) : BestI l x (pre ++ [s]) tq far := by
  rcases h with ⟨h1, h2, h3⟩ | ⟨⟨q, hq, h1, h2⟩, h3, h4⟩
  · refine .inl ⟨fun q hq => ?_, h2, h3⟩
    rcases List.mem_append.1 hq with hq | hq
    · exact h1 q hq
    · rw [List.mem_singleton.1 hq]; exact hs
  · refine .inr ⟨⟨q, List.mem_append_left _ hq, h1, h2⟩, h3, fun r hr e => ?_⟩
    rcases List.mem_append.1 hr with hr | hr
    · exact h4 r hr e
    · rw [List.mem_singleton.1 hr] at e; exact absurd e hs
theorem bestI_turn {l : List S39} {x : Int} {pre : List S39} {tq far : Int} {s : S39} (h : BestI l x pre tq far) (hs : s.f0 = x) (hg : far < reachS (wsOf l) 2 s.f1 ∨ (reachS (wsOf l) 2 s.f1 = far ∧ tq < s.f1)) : BestI l x (pre ++ [s]) s.f1 (reachS (wsOf l) 2 s.f1) := by
  refine .inr ⟨⟨s, by simp, hs, rfl⟩, rfl, fun r hr e => ?_⟩
  rcases List.mem_append.1 hr with hr | hr
  · rcases h with ⟨h1, _⟩ | ⟨_, h3, h4⟩
    · exact absurd e (h1 r hr)
    · have := h4 r hr e
      unfold TX.leB at this ⊢
      omega
  · rw [List.mem_singleton.1 hr]; exact .inr ⟨rfl, Int.le_refl _⟩
theorem bestI_stay {l : List S39} {x : Int} {pre : List S39} {tq far : Int} {s : S39} (h : BestI l x pre tq far) (hs : s.f0 = x) (h0 : 0 ≤ s.f1) (hg : ¬ (far < reachS (wsOf l) 2 s.f1)) (hg2 : ¬ (reachS (wsOf l) 2 s.f1 = far ∧ tq < s.f1)) : BestI l x (pre ++ [s]) tq far := by
  have hr0 := reach_nonneg l h0
  rcases h with ⟨h1, h2, h3⟩ | ⟨⟨q, hq, h1, h2⟩, h3, h4⟩
  · omega
  · refine .inr ⟨⟨q, List.mem_append_left _ hq, h1, h2⟩, h3, fun r hr e => ?_⟩
    rcases List.mem_append.1 hr with hr | hr
    · exact h4 r hr e
    · rw [List.mem_singleton.1 hr]
      unfold TX.leB
      omega

theorem next_l1 (l : List S39) (hl : l.length ≤ 9223372036854775807) (h0 : ∀ s ∈ l, 0 ≤ s.f1) (x : Int) : ∀ d i (tq far : Int), i + d = l.length → BestI l x (l.take i) tq far →
    ∃ t f, Ev (fun k => scansionref20_next.l1 k l x tq far (i : Int)) t ∧ BestI l x l t f
  | 0, i, tq, far, h, hI => by
    refine ⟨tq, far, Ev.step (f := fun _ => some tq) (fun k => ?_) (Ev.now tq), ?_⟩
    · simp only [scansionref20_next.l1]
      rw [if_neg (by omega)]
    · rwa [List.take_of_length_le (by omega)] at hI
  | d + 1, i, tq, far, h, hI => by
    have hi : i < l.length := by omega
    have hg := rd_get l i hi
    have ht : l.take (i + 1) = l.take i ++ [l[i]] := List.take_succ_eq_append_getElem hi
    have hs0 := h0 l[i] (List.getElem_mem hi)
    have hn := fun tq far => next_l1 l hl h0 x d (i + 1) tq far (by omega)
    rw [ht] at hn
    generalize l[i] = s at hg hs0 hn
    by_cases hx : s.f0 = x
    · have hre := reach_f l hl 2 (by omega) s.f1
      by_cases c1 : far < reachS (wsOf l) 2 s.f1
      · obtain ⟨t, f, he, hb⟩ := hn _ _ (bestI_turn hI hx (.inl c1))
        refine ⟨t, f, Ev.step (f := fun k => (scansionref20_reach.f k l s.f1 ((2 : Nat) : Int)).bind fun r => if r > far then scansionref20_next.l1 k l x s.f1 r ((i + 1 : Nat) : Int) else if r = far then (if s.f1 > tq then scansionref20_next.l1 k l x s.f1 r ((i + 1 : Nat) : Int) else scansionref20_next.l1 k l x tq far ((i + 1 : Nat) : Int)) else scansionref20_next.l1 k l x tq far ((i + 1 : Nat) : Int)) (fun k => ?_) (Ev.bind hre ?_), hb⟩
        · simp only [scansionref20_next.l1]
          rw [if_pos (by omega), if_pos (by omega), hg, if_pos hx, wrap_nat hi hl]
          rfl
        · exact Ev.congr (fun k => by rw [if_pos c1]) he
      · by_cases c2 : reachS (wsOf l) 2 s.f1 = far ∧ tq < s.f1
        · obtain ⟨t, f, he, hb⟩ := hn _ _ (bestI_turn hI hx (.inr c2))
          refine ⟨t, f, Ev.step (f := fun k => (scansionref20_reach.f k l s.f1 ((2 : Nat) : Int)).bind fun r => if r > far then scansionref20_next.l1 k l x s.f1 r ((i + 1 : Nat) : Int) else if r = far then (if s.f1 > tq then scansionref20_next.l1 k l x s.f1 r ((i + 1 : Nat) : Int) else scansionref20_next.l1 k l x tq far ((i + 1 : Nat) : Int)) else scansionref20_next.l1 k l x tq far ((i + 1 : Nat) : Int)) (fun k => ?_) (Ev.bind hre ?_), hb⟩
          · simp only [scansionref20_next.l1]
            rw [if_pos (by omega), if_pos (by omega), hg, if_pos hx, wrap_nat hi hl]
            rfl
          · exact Ev.congr (fun k => by rw [if_neg c1, if_pos c2.1, if_pos c2.2]) he
        · obtain ⟨t, f, he, hb⟩ := hn _ _ (bestI_stay hI hx hs0 c1 c2)
          refine ⟨t, f, Ev.step (f := fun k => (scansionref20_reach.f k l s.f1 ((2 : Nat) : Int)).bind fun r => if r > far then scansionref20_next.l1 k l x s.f1 r ((i + 1 : Nat) : Int) else if r = far then (if s.f1 > tq then scansionref20_next.l1 k l x s.f1 r ((i + 1 : Nat) : Int) else scansionref20_next.l1 k l x tq far ((i + 1 : Nat) : Int)) else scansionref20_next.l1 k l x tq far ((i + 1 : Nat) : Int)) (fun k => ?_) (Ev.bind hre ?_), hb⟩
          · simp only [scansionref20_next.l1]
            rw [if_pos (by omega), if_pos (by omega), hg, if_pos hx, wrap_nat hi hl]
            rfl
          · refine Ev.congr (fun k => ?_) he
            rw [if_neg c1]
            by_cases c3 : reachS (wsOf l) 2 s.f1 = far
            · rw [if_pos c3, if_neg (by omega)]
            · rw [if_neg c3]
    · obtain ⟨t, f, he, hb⟩ := hn _ _ (bestI_skip hI hx)
      refine ⟨t, f, Ev.step (fun k => ?_) he, hb⟩
      simp only [scansionref20_next.l1]
      rw [if_pos (by omega), if_pos (by omega), hg, if_neg hx, wrap_nat hi hl]

theorem next_l0 (n : Int) (hn : n ≤ 5000) (l : List S39) (hl : l.length ≤ 9223372036854775807) : ∀ (d : Nat) (a : Int), 0 ≤ a → a ≤ n → n - a = d → ∃ t, Ev (fun k => scansionref20_next.l0 k n l a) t ∧ a ≤ t ∧ t ≤ n ∧ (t < n → beginsS (wsOf l) t) ∧ ∀ s, a ≤ s → s < t → ¬ beginsS (wsOf l) s
  | 0, a, h0, h1, h => by
    refine ⟨a, Ev.step (f := fun _ => some a) (fun k => ?_) (Ev.now a), by omega, by omega, by omega, by omega⟩
    simp only [scansionref20_next.l0]
    rw [if_neg (by omega)]
  | d + 1, a, h0, h1, h => by
    obtain ⟨b, hb, he⟩ := begins_f l hl a
    cases b with
    | true =>
      refine ⟨a, Ev.step (f := fun k => (scansionref20_begins.f k l a).bind fun t => if t = true then some a else scansionref20_next.l0 k n l (wrap64 (a + 1))) (fun k => ?_) (Ev.bind hb (Ev.congr (fun k => by rw [if_pos rfl]) (Ev.now a))), by omega, by omega, fun _ => he.1 rfl, by omega⟩
      simp only [scansionref20_next.l0]
      rw [if_pos (by omega)]
    | false =>
      obtain ⟨t, ht, h2, h3, h4, h5⟩ := next_l0 n hn l hl d (a + 1) (by omega) (by omega) (by omega)
      have hw : wrap64 (a + 1) = a + 1 := by unfold wrap64; omega
      refine ⟨t, Ev.step (f := fun k => (scansionref20_begins.f k l a).bind fun t => if t = true then some a else scansionref20_next.l0 k n l (wrap64 (a + 1))) (fun k => ?_) (Ev.bind hb (Ev.congr (fun k => by rw [if_neg (by simp), hw]) ht)), by omega, by omega, h4, fun s h6 h7 => ?_⟩
      · simp only [scansionref20_next.l0]
        rw [if_pos (by omega)]
      · by_cases e : s = a
        · subst e; intro hh; have := he.2 hh; cases this
        · exact h5 s (by omega) h7

theorem next_f (n : Int) (l : List S39) (hR : Right n l) (a : Int) (h0 : 0 ≤ a) (h1 : a < n) : ∃ t, Ev (fun k => scansionref20_next.f k n l a) t ∧ NextP n (wsOf l) a t := by
  obtain ⟨r0, r1, r2, r3⟩ := hR
  have hl : l.length ≤ 9223372036854775807 := by omega
  obtain ⟨b, hb, he⟩ := begins_f l hl a
  cases b with
  | true =>
    obtain ⟨t, f, ht, hB⟩ := next_l1 l hl (fun s hs => by have := r3 s hs; unfold rightW at this; omega) a l.length 0 (-1) (-1) (by omega) (.inl ⟨by simp, rfl, rfl⟩)
    refine ⟨t, Ev.congr (f := fun k => (scansionref20_begins.f k l a).bind fun t => if t = true then scansionref20_next.l1 k l a (-1) (-1) ((0 : Nat) : Int) else scansionref20_next.l0 k n l (wrap64 (a + 1))) (fun k => rfl) (Ev.bind hb (Ev.congr (fun k => by rw [if_pos rfl]) ht)), ?_⟩
    have hbe := he.1 rfl
    rcases hB with ⟨hno, _⟩ | ⟨⟨s, hs, e1, e2⟩, _, hall⟩
    · obtain ⟨u, hu⟩ := hbe
      obtain ⟨s, hs, e1, _⟩ := (mem_ws l _ _).1 hu
      exact absurd e1 (hno s hs)
    · refine next_word r3 hbe ⟨(mem_fin _ _).2 ((mem_tos l _ _).2 ((mem_ws l _ _).2 ⟨s, hs, e1, e2⟩)), fun u hu => ?_⟩
      obtain ⟨q, hq, e3, rfl⟩ := (mem_ws l _ _).1 ((mem_tos l _ _).1 ((mem_fin _ _).1 hu))
      exact hall q hq e3
  | false =>
    have hnb : ¬ beginsS (wsOf l) a := fun h => by have := he.2 h; cases this
    obtain ⟨t, ht, h2, h3, h4, h5⟩ := next_l0 n r1 l hl (n - (a + 1)).toNat (a + 1) (by omega) (by omega) (by omega)
    have hw : wrap64 (a + 1) = a + 1 := by unfold wrap64; omega
    refine ⟨t, Ev.congr (f := fun k => (scansionref20_begins.f k l a).bind fun t => if t = true then scansionref20_next.l1 k l a (-1) (-1) 0 else scansionref20_next.l0 k n l (wrap64 (a + 1))) (fun k => rfl) (Ev.bind hb (Ev.congr (fun k => by rw [if_neg (by simp), hw]) ht)), ⟨by omega, h3, fun h => absurd h hnb, fun _ => ⟨h4, fun s h6 h7 => h5 s (by omega) h7⟩⟩⟩

theorem parts_l0 (n : Int) (l : List S39) (hR : Right n l) : ∀ (d : Nat) (a : Int), 0 ≤ a → a ≤ n → n - a = d → ∃ ts, PathP n (wsOf l) a ts ∧ (ts.length : Int) ≤ n - a ∧ ∀ out : List Int, out.length ≤ 10000000 - d → Ev (fun k => thai_Parts.l0 k n l out a) (out ++ ts, 0) := by
  intro d
  induction d using Nat.strongRecOn with
  | _ d ih =>
    intro a h0 h1 h
    have hn := hR.2.1
    by_cases hlt : a < n
    · obtain ⟨t, ht, hN⟩ := next_f n l hR a h0 hlt
      have g1 := hN.gt
      have g2 := hN.le
      obtain ⟨ts, hp, hlen, hev⟩ := ih (n - t).toNat (by omega) t (by omega) (by omega) (by omega)
      refine ⟨t :: ts, ⟨hlt, hN, hp⟩, by rw [List.length_cons]; omega, fun out ho => ?_⟩
      have h3 := hev (out ++ [t]) (by rw [List.length_append, List.length_singleton]; omega)
      rw [List.append_assoc] at h3
      refine Ev.step (f := fun k => (scansionref20_next.f k n l a).bind fun t => if out.length < 17592186044416 then thai_Parts.l0 k n l (out ++ [t]) t else none) (fun k => ?_) (Ev.bind ht (Ev.congr (fun k => by rw [if_pos (by omega)]) h3))
      simp only [thai_Parts.l0]
      rw [if_pos hlt]
    · refine ⟨[], by show n ≤ a; omega, by simp; omega, fun out _ => Ev.step (f := fun _ => some (out ++ [], 0)) (fun k => ?_) (Ev.now _)⟩
      simp only [thai_Parts.l0]
      rw [if_neg hlt, List.append_nil]

/-- What the reference's Parts comes to. -/
theorem parts_f (n : Int) (l : List S39) (hl : l.length ≤ 9223372036854775807) :
    (¬ Right n l ∧ Ev (fun k => thai_Parts.f k n l) ([], 1)) ∨ (Right n l ∧ ∃ ts, PathP n (wsOf l) 0 ts ∧ (ts.length : Int) ≤ n ∧ Ev (fun k => thai_Parts.f k n l) (0 :: ts, 0)) := by
  obtain ⟨b, hb, he⟩ := right_f n l hl
  cases b with
  | true =>
    have hR := he.1 rfl
    obtain ⟨ts, hp, hlen, hev⟩ := parts_l0 n l hR n.toNat 0 (by omega) hR.1 (by have := hR.1; omega)
    refine .inr ⟨hR, ts, hp, by omega, ?_⟩
    have h3 := hev [0] (by have := hR.2.1; simp; omega)
    exact Ev.congr (f := fun k => (scansionref20_right.f k n l).bind fun t => if t = true then thai_Parts.l0 k n l [0] 0 else some ([], 1)) (fun k => rfl) (Ev.bind hb (Ev.congr (fun k => by rw [if_pos rfl]) h3))
  | false =>
    refine .inl ⟨fun h => (by have := he.2 h; cases this), ?_⟩
    exact Ev.congr (f := fun k => (scansionref20_right.f k n l).bind fun t => if t = true then thai_Parts.l0 k n l [0] 0 else some ([], 1)) (fun k => rfl) (Ev.bind hb (Ev.congr (fun k => by rw [if_neg (by simp)]) (Ev.now _)))

theorem ev_det {α : Type} {g : Nat → Option α} {r r' : α} (hm : ∀ k, LeO (g k) (g (k + 1))) {k : Nat} (h : g k = some r) (he : Ev g r') : r = r' := by
  obtain ⟨K, hK⟩ := he
  have h1 := at_rounds hm (Nat.le_max_left k K) h
  have h2 := hK (max k K) (Nat.le_max_right k K)
  rw [h1] at h2
  exact Option.some.inj h2

theorem parts_final (k : Nat) (a0 : Int) (A1 : Option Addr) (c1 : Nat) (l1 : List (S39)) (r1 : List Int) (r2 : Int) (w : World) (hr1 : Kd.C k39 w A1 l1.length l1) (hc1 : l1.length ≤ c1) (h : thai_Parts.f k a0 l1 = some (r1, r2)) :
    Calls Try.prog 17 #[.int .i64 a0, .slice A1 l1.length c1] w fun e w' => ∃ v0_ : Value, e = .returned (.tuple #[v0_, .int .i64 r2]) ∧ Kd.R (Kd.int .i64) 3 w' w.heap.size (fun _ => True) v0_ r1 ∧ Below w.heap.size w w' := by
  refine (parts_calls a0 A1 c1 l1 w hr1 hc1).mono ?_
  rintro e w' ⟨hb, hp⟩
  have hlen : l1.length ≤ 9223372036854775807 := hr1.2.1
  rcases parts_f a0 l1 hlen with ⟨hn, hev⟩ | ⟨hR, ts, hpath, _, hev⟩
  · have e1 := ev_det (thai_Parts.mono a0 l1) h hev
    simp only [Prod.mk.injEq] at e1
    obtain ⟨rfl, rfl⟩ := e1
    rcases hp with ⟨_, rfl⟩ | ⟨hR, _⟩
    · exact ⟨_, rfl, Kd.R_nil _ _ _ _ _, hb⟩
    · exact absurd hR hn
  · have e1 := ev_det (thai_Parts.mono a0 l1) h hev
    simp only [Prod.mk.injEq] at e1
    obtain ⟨rfl, rfl⟩ := e1
    rcases hp with ⟨hn, _⟩ | ⟨_, v, us, rfl, ho, hpu⟩
    · exact absurd hR hn
    · obtain rfl := hpath.uniq hpu
      exact ⟨v, rfl, ho, hb⟩
end Go.Proofs.Ytmfkjanfnmplnaa.TPf
