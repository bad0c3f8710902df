/- ThaiChain, as plain Lean. -/
import Derived.Test.YtmfkjanfnmplnaaXT5
import Derived.Test.YtmfkjanfnmplnaaTPureChain
namespace Go.Proofs.Ytmfkjanfnmplnaa.Pure
open Go.RowKit Go.Proofs.Ytmfkjanfnmplnaa.XT

theorem ThaiChain : scansionlaw20_ThaiChain.Pure := fun l0 a1 _ _ _ _ => TPure.thaiChain l0 a1

end Go.Proofs.Ytmfkjanfnmplnaa.Pure
