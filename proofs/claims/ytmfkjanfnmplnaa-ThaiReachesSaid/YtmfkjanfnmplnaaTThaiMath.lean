/- Plain mathematics; no program. -/
namespace Go.Proofs.Ytmfkjanfnmplnaa.ThaiMath

/-- words: pairs (from, to) -/
abbrev WS := List (Int × Int)

def reachS (ws : WS) : Nat → Int → Int
  | 0, at_ => at_
  | k + 1, at_ => (ws.filter fun p => p.1 == at_).foldl (fun m p => max m (reachS ws k p.2)) at_

def beginsS (ws : WS) (at_ : Int) : Prop := ∃ t, (at_, t) ∈ ws

/-- the place behind one -/
structure NextP (n : Int) (ws : WS) (at_ t : Int) : Prop where
  gt : at_ < t
  le : t ≤ n
  word : beginsS ws at_ → (at_, t) ∈ ws ∧ ∀ u, (at_, u) ∈ ws → reachS ws 2 u < reachS ws 2 t ∨ (reachS ws 2 u = reachS ws 2 t ∧ u ≤ t)
  none : ¬ beginsS ws at_ → (t < n → beginsS ws t) ∧ ∀ s, at_ < s → s < t → ¬ beginsS ws s

def PathP (n : Int) (ws : WS) : Int → List Int → Prop
  | a, [] => n ≤ a
  | a, t :: ts => a < n ∧ NextP n ws a t ∧ PathP n ws t ts

theorem NextP.uniq {n : Int} {ws : WS} {a t u : Int} (h : NextP n ws a t) (k : NextP n ws a u) : t = u := by
  by_cases hb : beginsS ws a
  · obtain ⟨h1, h2⟩ := h.word hb
    obtain ⟨k1, k2⟩ := k.word hb
    have := h2 u k1
    have := k2 t h1
    omega
  · obtain ⟨h1, h2⟩ := h.none hb
    obtain ⟨k1, k2⟩ := k.none hb
    have := h.gt
    have := k.gt
    have := h.le
    have := k.le
    rcases Int.lt_trichotomy t u with e | e | e
    · exact absurd (h1 (by omega)) (k2 t (by omega) e)
    · exact e
    · exact absurd (k1 (by omega)) (h2 u (by omega) e)

theorem PathP.uniq {n : Int} {ws : WS} : ∀ {ts us : List Int} {a : Int}, PathP n ws a ts → PathP n ws a us → ts = us
  | [], [], _, _, _ => rfl
  | [], u :: us, a, h, k => by
    have h1 : n ≤ a := h
    have k1 : a < n := k.1
    omega
  | t :: ts, [], a, h, k => by
    have h1 : n ≤ a := k
    have k1 : a < n := h.1
    omega
  | t :: ts, u :: us, a, h, k => by
    obtain ⟨_, h2, h3⟩ := h
    obtain ⟨_, k2, k3⟩ := k
    have e := h2.uniq k2
    subst e
    rw [PathP.uniq h3 k3]

/-! ### only the set of words plays a part -/
theorem foldl_max_le (f : Int × Int → Int) : ∀ (l : WS) (m b : Int), m ≤ b → (∀ p ∈ l, f p ≤ b) → l.foldl (fun m p => max m (f p)) m ≤ b
  | [], _, _, h, _ => h
  | p :: l, m, b, h, k => foldl_max_le f l _ b (Int.max_le.2 ⟨h, k p (by simp)⟩) (fun q hq => k q (by simp [hq]))
theorem le_foldl_max (f : Int × Int → Int) : ∀ (l : WS) (m : Int), m ≤ l.foldl (fun m p => max m (f p)) m
  | [], m => Int.le_refl m
  | p :: l, m => Int.le_trans (Int.le_max_left m (f p)) (le_foldl_max f l _)
theorem mem_foldl_max (f : Int × Int → Int) : ∀ (l : WS) (m : Int) (p : Int × Int), p ∈ l → f p ≤ l.foldl (fun m p => max m (f p)) m
  | q :: l, m, p, h => by
    rcases List.mem_cons.1 h with e | h
    · subst e
      exact Int.le_trans (Int.le_max_right m (f p)) (le_foldl_max f l _)
    · exact mem_foldl_max f l _ p h

def Same (ws vs : WS) : Prop := ∀ p, p ∈ ws ↔ p ∈ vs
theorem Same.symm {ws vs : WS} (h : Same ws vs) : Same vs ws := fun p => (h p).symm

theorem reach_le {ws vs : WS} (h : Same ws vs) : ∀ (k : Nat) (a : Int), reachS ws k a ≤ reachS vs k a
  | 0, _ => Int.le_refl _
  | k + 1, a => by
    unfold reachS
    refine foldl_max_le _ _ _ _ (le_foldl_max _ _ _) fun p hp => ?_
    obtain ⟨h1, h2⟩ := List.mem_filter.1 hp
    exact Int.le_trans (reach_le h k p.2) (mem_foldl_max (fun p => reachS vs k p.2) _ _ p (List.mem_filter.2 ⟨(h p).1 h1, h2⟩))
theorem reach_same {ws vs : WS} (h : Same ws vs) (k : Nat) (a : Int) : reachS ws k a = reachS vs k a := Int.le_antisymm (reach_le h k a) (reach_le h.symm k a)
theorem begins_same {ws vs : WS} (h : Same ws vs) (a : Int) : beginsS ws a ↔ beginsS vs a := ⟨fun ⟨t, ht⟩ => ⟨t, (h _).1 ht⟩, fun ⟨t, ht⟩ => ⟨t, (h _).2 ht⟩⟩
theorem NextP.same {n : Int} {ws vs : WS} (h : Same ws vs) {a t : Int} (k : NextP n ws a t) : NextP n vs a t where
  gt := k.gt
  le := k.le
  word hb := by
    obtain ⟨k1, k2⟩ := k.word ((begins_same h a).2 hb)
    refine ⟨(h _).1 k1, fun u hu => ?_⟩
    rw [← reach_same h, ← reach_same h]
    exact k2 u ((h _).2 hu)
  none hb := by
    obtain ⟨k1, k2⟩ := k.none (fun h' => hb ((begins_same h a).1 h'))
    exact ⟨fun ht => (begins_same h t).1 (k1 ht), fun s h1 h2 h3 => k2 s h1 h2 ((begins_same h s).2 h3)⟩
theorem PathP.same {n : Int} {ws vs : WS} (h : Same ws vs) : ∀ {ts : List Int} {a : Int}, PathP n ws a ts → PathP n vs a ts
  | [], _, k => k
  | _ :: _, _, ⟨k1, k2, k3⟩ => ⟨k1, k2.same h, PathP.same h k3⟩

theorem self_le_reach (ws : WS) : ∀ (k : Nat) (a : Int), a ≤ reachS ws k a
  | 0, _ => Int.le_refl _
  | _ + 1, _ => le_foldl_max _ _ _
theorem reach_le_n {n : Int} {ws : WS} (hv : ∀ p ∈ ws, p.2 ≤ n) : ∀ (k : Nat) (a : Int), a ≤ n → reachS ws k a ≤ n
  | 0, _, h => h
  | k + 1, _, h => foldl_max_le _ _ _ _ h fun p hp => reach_le_n hv k p.2 (hv p (List.mem_filter.1 hp).1)

end Go.Proofs.Ytmfkjanfnmplnaa.ThaiMath
