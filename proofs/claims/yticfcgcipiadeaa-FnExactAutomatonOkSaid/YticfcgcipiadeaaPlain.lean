/- Small plain facts that the pure statements use and the printed texts do not. -/
import Derived.Test.YticfcgcipiadeaaBase
namespace Go.Proofs.Yticfcgcipiadeaa.Base
open Go.RowKit Go.Proofs.YticfcgcipiadeaaW.PrintWords Go.Proofs.YticfcgcipiadeaaW.PrintLast

end Go.Proofs.Yticfcgcipiadeaa.Base
