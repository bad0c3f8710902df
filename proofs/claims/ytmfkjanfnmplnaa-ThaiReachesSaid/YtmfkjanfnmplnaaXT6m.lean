-- written by a program of this session's over the kit's print
import Derived.Test.YtmfkjanfnmplnaaXT0
import Derived.Test.YtmfkjanfnmplnaaXT1
import Derived.Test.YtmfkjanfnmplnaaXT2b
import Derived.Test.YtmfkjanfnmplnaaXT6a
import Derived.Test.YtmfkjanfnmplnaaTPf2
namespace Go.Proofs.Ytmfkjanfnmplnaa.XT
open Go.RowKit Go.Proofs.YtmfkjanfnmplnaaW.PrintWords Go.Proofs.YtmfkjanfnmplnaaW.PrintLast Go.Proofs.YtmfkjanfnmplnaaW.PrintMore
attribute [local go_sem] max2_int min2_int max_two min_two max_three min_three max_four min_four   -- for this text's walks alone
set_option linter.unusedVariables false
set_option linter.unusedSimpArgs false

theorem thai_Reach.calls (k : Nat) (a0 : Int) (A1 : Option Addr) (c1 : Nat) (l1 : List (S39)) (a2 : Int) (a3 : Int) (r1 : Int) (r2 : Int) (w : World) (hr1 : Kd.C k39 w A1 l1.length l1) (hc1 : l1.length ≤ c1) (h : thai_Reach.f k a0 l1 a2 a3 = some (r1, r2)) :
    Calls Try.prog 20 #[.int .i64 a0, .slice A1 l1.length c1, .int .i64 a2, .int .i64 a3] w fun e w' => e = .returned (.tuple #[.int .i64 r1, .int .i64 r2]) ∧ Below w.heap.size w w' := by
  exact TPf2.reach_final k a0 A1 c1 l1 a2 a3 r1 r2 w hr1 hc1 h

end Go.Proofs.Ytmfkjanfnmplnaa.XT
