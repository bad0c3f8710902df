/- ThaiTurned, as plain Lean. -/
import Derived.Test.YtmfkjanfnmplnaaXT6a
import Derived.Test.YtmfkjanfnmplnaaTPure0
namespace Go.Proofs.Ytmfkjanfnmplnaa.TPure
open Go Go.RowKit Go.Proofs.YtmfkjanfnmplnaaW.PrintWords Go.Proofs.YtmfkjanfnmplnaaW.PrintLast Go.Proofs.YtmfkjanfnmplnaaW.PrintMore
open Go.Proofs.Ytmfkjanfnmplnaa.XT Go.Proofs.Ytmfkjanfnmplnaa.TE Go.Proofs.Ytmfkjanfnmplnaa.TF Go.Proofs.Ytmfkjanfnmplnaa.ThaiMath Go.Proofs.Ytmfkjanfnmplnaa.TP Go.Proofs.Ytmfkjanfnmplnaa.TPf
set_option linter.unusedVariables false
set_option linter.unusedSimpArgs false

def turn (s : S39) : S39 := ⟨s.f0, s.f1, Go.bits .xor .i64 s.f2 1⟩

/-- the loop's end -/
def Tail (n : Int) (l back : List S39) (k : Nat) : Option Bool :=
  (thai_Parts.f k n l).bind fun b => (thai_Parts.f k n (back.drop (l.length / 2))).bind fun c => if b.2 = c.2 then ((scansionref01_SameInts.f k b.1 c.1).bind fun t => some t) else some false

theorem turned_loop (n : Int) (l : List S39) (hl : l.length ≤ 60) (r : Bool) (hT : Ev (Tail n l (l ++ l.reverse.map turn)) r) : ∀ (d : Nat), d ≤ l.length →
    Ev (fun k => scansionlaw20_ThaiTurned.l0 k n l (l ++ (l.drop d).reverse.map turn) ((d : Int) - 1)) r
  | 0, _ => by
    rw [List.drop_zero]
    refine Ev.step (f := fun k => Tail n l (l ++ l.reverse.map turn) k) (fun k => ?_) hT
    simp only [scansionlaw20_ThaiTurned.l0]
    have h2 : wrap64 ((l.length : Int) / 2) = ((l.length / 2 : Nat) : Int) := by unfold wrap64; omega
    have h3 : (l ++ l.reverse.map turn).length = l.length + l.length := by simp
    rw [if_neg (by omega), h2]
    generalize l ++ l.reverse.map turn = back at h3
    unfold Tail
    have c1 : (0 : Int) ≤ ((l.length / 2 : Nat) : Int) := by omega
    have c2 : ((l.length / 2 : Nat) : Int) ≤ (back.length : Int) := by omega
    simp only [if_pos c1, if_pos c2, Int.toNat_natCast]
  | d + 1, hd => by
    have ih := turned_loop n l hl r hT d (by omega)
    have hi : d < l.length := by omega
    have e1 : (l.drop d).reverse.map turn = (l.drop (d + 1)).reverse.map turn ++ [turn l[d]] := by
      rw [drop_get l d hi, List.reverse_cons, List.map_append]; rfl
    rw [e1, ← List.append_assoc] at ih
    have h3 : (l ++ (l.drop (d + 1)).reverse.map turn).length ≤ 200 := by simp; omega
    generalize l ++ (l.drop (d + 1)).reverse.map turn = out at h3 ih ⊢
    refine Ev.step (f := fun k => scansionlaw20_ThaiTurned.l0 k n l (out ++ [turn l[d]]) ((d : Int) - 1)) (fun k => ?_) ih
    have hg := rd_get l d hi
    generalize l[d] = s at hg ⊢
    have h4 : ((d + 1 : Nat) : Int) - 1 = (d : Int) := by omega
    have h5 : wrap64 ((d : Int) - 1) = (d : Int) - 1 := by unfold wrap64; omega
    simp only [scansionlaw20_ThaiTurned.l0]
    rw [h4, if_pos (by omega), if_pos (by omega), if_pos (by omega), if_pos (by omega), hg, h5]
    rfl

theorem ws_turned (l : List S39) : Same (wsOf l) (wsOf ((l ++ l.reverse.map turn).drop (l.length / 2))) := by
  intro p
  obtain ⟨x, t⟩ := p
  rw [mem_ws, mem_ws]
  constructor
  · rintro ⟨s, hs, rfl, rfl⟩
    refine ⟨turn s, ?_, rfl, rfl⟩
    rw [List.drop_append]
    exact List.mem_append_right _ (by rw [show l.length / 2 - l.length = 0 by omega, List.drop_zero]; simp; exact ⟨s, hs, rfl⟩)
  · rintro ⟨s, hs, rfl, rfl⟩
    rcases List.mem_append.1 (List.mem_of_mem_drop hs) with h | h
    · exact ⟨s, h, rfl, rfl⟩
    · simp only [List.mem_map, List.mem_reverse] at h
      obtain ⟨q, hq, rfl⟩ := h
      exact ⟨q, hq, rfl, rfl⟩

theorem right_ws {n : Int} {l m : List S39} (h : Same (wsOf l) (wsOf m)) (hl : l.length ≤ 1000) (hm : m.length ≤ 1000) (hR : Right n l) : Right n m := by
  obtain ⟨h0, h1, h2, h3⟩ := hR
  refine ⟨h0, h1, by omega, fun s hs => ?_⟩
  obtain ⟨q, hq, e1, e2⟩ := (mem_ws l _ _).1 ((h (s.f0, s.f1)).2 ((mem_ws m _ _).2 ⟨s, hs, rfl, rfl⟩))
  have := h3 q hq
  unfold rightW at this ⊢
  omega

theorem parts_same {n : Int} {l m : List S39} (h : Same (wsOf l) (wsOf m)) (hl : l.length ≤ 1000) (hm : m.length ≤ 1000) :
    ∃ r : List Int × Int, r.1.length ≤ 5001 ∧ Ev (fun k => thai_Parts.f k n l) r ∧ Ev (fun k => thai_Parts.f k n m) r := by
  rcases parts_f n l (by omega) with ⟨hn, h1⟩ | ⟨hR, ts, hp, hlen, h1⟩
  · rcases parts_f n m (by omega) with ⟨_, h2⟩ | ⟨hR, _⟩
    · exact ⟨_, by simp, h1, h2⟩
    · exact absurd (right_ws h.symm hm hl hR) hn
  · rcases parts_f n m (by omega) with ⟨hn, _⟩ | ⟨_, us, hq, _, h2⟩
    · exact absurd (right_ws h hl hm hR) hn
    · obtain rfl := (hp.same h).uniq hq
      exact ⟨_, by have := hR.2.1; simp; omega, h1, h2⟩

theorem thaiTurned (n : Int) (l : List S39) (hl : l.length ≤ 9223372036854775807) : ∃ k, scansionlaw20_ThaiTurned.f k n l = some true := by
  refine frame (j := fun k t u => scansionlaw20_ThaiTurned.j0 k n l t u) n l (fun k => rfl) ?_ ?_
  · exact Ev.step (f := fun _ => some true) (fun k => by simp only [scansionlaw20_ThaiTurned.j0]; rw [if_pos trivial]) (Ev.now _)
  · intro h60
    have hT : Ev (Tail n l (l ++ l.reverse.map turn)) true := by
      obtain ⟨r, hr, h1, h2⟩ := parts_same (n := n) (ws_turned l) (by omega) (by simp; omega)
      refine Ev.bind h1 (Ev.bind h2 (Ev.congr (f := fun k => (scansionref01_SameInts.f k r.1 r.1).bind fun t => some t) (fun k => if_pos rfl) (Ev.bind (same_f _ _ (by omega)) (Ev.congr (fun k => ?_) (Ev.now true)))))
      rw [decide_eq_true rfl]
    have := turned_loop n l h60 true hT l.length (Nat.le_refl _)
    rw [List.drop_length] at this
    refine Ev.step (f := fun k => scansionlaw20_ThaiTurned.l0 k n l (l ++ ([] : List S39).reverse.map turn) ((l.length : Int) - 1)) (fun k => ?_) this
    simp only [scansionlaw20_ThaiTurned.j0]
    rw [if_neg (by simp)]
    show (if ([] : List S39).length + l.length < 5864062014805 then _ else _) = _
    have h5 : wrap64 ((l.length : Int) - 1) = (l.length : Int) - 1 := by unfold wrap64; omega
    rw [if_pos (by simp; omega), h5]; simp
end Go.Proofs.Ytmfkjanfnmplnaa.TPure
