/- thai.Reach answers as the reference does. -/
import Derived.Test.YtmfkjanfnmplnaaXT6a
import Derived.Test.YtmfkjanfnmplnaaTPf
namespace Go.Proofs.Ytmfkjanfnmplnaa.TPf2
open Go Go.RowKit Go.Proofs.YtmfkjanfnmplnaaW.PrintWords Go.Proofs.YtmfkjanfnmplnaaW.PrintLast Go.Proofs.YtmfkjanfnmplnaaW.PrintMore
open Go.Proofs.Ytmfkjanfnmplnaa.XT Go.Proofs.Ytmfkjanfnmplnaa.TE Go.Proofs.Ytmfkjanfnmplnaa.TF Go.Proofs.Ytmfkjanfnmplnaa.ThaiMath Go.Proofs.Ytmfkjanfnmplnaa.TP Go.Proofs.Ytmfkjanfnmplnaa.TPf Go.Proofs.Ytmfkjanfnmplnaa.TR
set_option linter.unusedVariables false
set_option linter.unusedSimpArgs false

def RArgs (n : Int) (l : List S39) (a ws : Int) : Prop := Right n l ∧ 0 ≤ a ∧ a ≤ n ∧ 0 ≤ ws ∧ ws ≤ 3
def ReachPost (n : Int) (l : List S39) (a ws : Int) (w : World) (e : Ending) (w' : World) : Prop := Below w.heap.size w w' ∧
  ((¬ RArgs n l a ws ∧ e = .returned (.tuple #[.int .i64 0, .int .i64 1])) ∨ (RArgs n l a ws ∧ e = .returned (.tuple #[.int .i64 (reachS (wsOf l) ws.toNat a), .int .i64 0])))

set_option maxHeartbeats 400000 in
theorem reach_walk (n : Int) (A1 : Option Addr) (c1 : Nat) (l : List S39) (a ws : Int) (w : World) (hr1 : Kd.C k39 w A1 l.length l) (hc1 : l.length ≤ c1) :
    Calls Try.prog 20 #[.int .i64 n, .slice A1 l.length c1, .int .i64 a, .int .i64 ws] w (ReachPost n l a ws w) := by
  have HR1 := Aside0.mk hr1
  have HC1 := Aside0.mk hc1
  clear hr1 hc1
  go_enter Try.func20, Try.ntmps20
  go_wp2_with fail
  refine (ends_ n A1 c1 l w HR1.out HC1.out).mono ?_
  rintro e w1 ⟨hb1, ⟨hno, rfl⟩ | ⟨hR, b, rfl, hE⟩⟩
  · have HN := Aside0.mk hno
    have HB := Aside0.mk hb1
    clear hno hb1
    go_wp2_with fail
    go_ret2
    exact ⟨HB.out, .inl ⟨fun h => HN.out h.1, rfl⟩⟩
  · have HB := Aside0.mk hb1
    have HR := Aside0.mk hR
    have HE := Aside0.mk hE
    clear hb1 hR hE
    by_cases p0 : a < 0
    · go_wp2_with fail
      go_ret2
      exact ⟨HB.out, .inl ⟨fun h => by have := h.2.1; omega, rfl⟩⟩
    by_cases p1 : n < a
    · go_wp2_with fail
      go_ret2
      exact ⟨HB.out, .inl ⟨fun h => by have := h.2.2.1; omega, rfl⟩⟩
    by_cases p2 : ws < 0
    · go_wp2_with fail
      go_ret2
      exact ⟨HB.out, .inl ⟨fun h => by have := h.2.2.2.1; omega, rfl⟩⟩
    by_cases p3 : 3 < ws
    · go_wp2_with fail
      go_ret2
      exact ⟨HB.out, .inl ⟨fun h => by have := h.2.2.2.2; omega, rfl⟩⟩
    obtain ⟨k, rfl⟩ := Int.eq_ofNat_of_zero_le (show 0 ≤ ws by omega)
    go_wp2_with fail
    refine (reach_calls l w.heap.size b (fun s hs => by obtain ⟨q1, q2, q3⟩ := HR.out.2.2.2 s hs; have := HR.out.2.1; omega) k a _ HE.out (by omega) (by have := HR.out.2.1; omega) (by omega)).mono ?_
    rintro e w2 ⟨rfl, rfl⟩
    go_wp2_with fail
    go_ret2
    exact ⟨HB.out, .inr ⟨⟨HR.out, by omega, by omega, by omega, by omega⟩, rfl⟩⟩

theorem reach_ev (n : Int) (l : List S39) (hl : l.length ≤ 9223372036854775807) (a ws : Int) :
    (¬ RArgs n l a ws ∧ Ev (fun k => thai_Reach.f k n l a ws) (0, 1)) ∨ (RArgs n l a ws ∧ Ev (fun k => thai_Reach.f k n l a ws) (reachS (wsOf l) ws.toNat a, 0)) := by
  obtain ⟨b, hb, he⟩ := right_f n l hl
  have un : ∀ (r : Int × Int), Ev (fun k => if b = true then (if a < 0 then (some ((0 : Int), (1 : Int))) else (if a > n then (some (0, 1)) else (if ws < 0 then (some (0, 1)) else (if ws > 3 then (some (0, 1)) else ((scansionref20_reach.f k l a ws).bind fun t => (some (t, 0))))))) else (some (0, 1))) r → Ev (fun k => thai_Reach.f k n l a ws) r := fun r h => Ev.congr (f := fun k => (scansionref20_right.f k n l).bind fun t => if t = true then (if a < 0 then (some ((0 : Int), (1 : Int))) else (if a > n then (some (0, 1)) else (if ws < 0 then (some (0, 1)) else (if ws > 3 then (some (0, 1)) else ((scansionref20_reach.f k l a ws).bind fun t => (some (t, 0))))))) else (some (0, 1))) (fun k => rfl) (Ev.bind hb h)
  have bad : ¬ RArgs n l a ws → Ev (fun k => thai_Reach.f k n l a ws) (0, 1) := fun hn => by
    refine un _ (Ev.congr (f := fun _ => some (0, 1)) (fun k => ?_) (Ev.now _))
    cases b with
    | false => rw [if_neg (by simp)]
    | true =>
      rw [if_pos rfl]
      by_cases p0 : a < 0
      · rw [if_pos p0]
      by_cases p1 : a > n
      · rw [if_neg p0, if_pos p1]
      by_cases p2 : ws < 0
      · rw [if_neg p0, if_neg p1, if_pos p2]
      by_cases p3 : ws > 3
      · rw [if_neg p0, if_neg p1, if_neg p2, if_pos p3]
      exact absurd ⟨he.1 rfl, by omega, by omega, by omega, by omega⟩ hn
  by_cases hn : RArgs n l a ws
  · obtain ⟨h1, h2, h3, h4, h5⟩ := hn
    refine .inr ⟨⟨h1, h2, h3, h4, h5⟩, ?_⟩
    obtain rfl : b = true := he.2 h1
    obtain ⟨k, rfl⟩ := Int.eq_ofNat_of_zero_le h4
    refine un _ (Ev.congr (f := fun m => (scansionref20_reach.f m l a (k : Int)).bind fun t => some (t, 0)) (fun m => ?_) (Ev.bind (reach_f l hl k (by omega) a) (Ev.now _)))
    rw [if_pos rfl, if_neg (by omega), if_neg (by omega), if_neg (by omega), if_neg (by omega)]
  · exact .inl ⟨hn, bad hn⟩

theorem reach_final (k : Nat) (a0 : Int) (A1 : Option Addr) (c1 : Nat) (l1 : List (S39)) (a2 : Int) (a3 : Int) (r1 : Int) (r2 : Int) (w : World) (hr1 : Kd.C k39 w A1 l1.length l1) (hc1 : l1.length ≤ c1) (h : thai_Reach.f k a0 l1 a2 a3 = some (r1, r2)) :
    Calls Try.prog 20 #[.int .i64 a0, .slice A1 l1.length c1, .int .i64 a2, .int .i64 a3] w fun e w' => e = .returned (.tuple #[.int .i64 r1, .int .i64 r2]) ∧ Below w.heap.size w w' := by
  refine (reach_walk a0 A1 c1 l1 a2 a3 w hr1 hc1).mono ?_
  rintro e w' ⟨hb, hp⟩
  rcases reach_ev a0 l1 hr1.2.1 a2 a3 with ⟨hn, hev⟩ | ⟨hR, hev⟩
  · have e1 := ev_det (thai_Reach.mono a0 l1 a2 a3) h hev
    simp only [Prod.mk.injEq] at e1
    obtain ⟨rfl, rfl⟩ := e1
    rcases hp with ⟨_, rfl⟩ | ⟨hR, _⟩
    · exact ⟨rfl, hb⟩
    · exact absurd hR hn
  · have e1 := ev_det (thai_Reach.mono a0 l1 a2 a3) h hev
    simp only [Prod.mk.injEq] at e1
    obtain ⟨rfl, rfl⟩ := e1
    rcases hp with ⟨hn, _⟩ | ⟨_, rfl⟩
    · exact absurd hR hn
    · exact ⟨rfl, hb⟩
end Go.Proofs.Ytmfkjanfnmplnaa.TPf2
