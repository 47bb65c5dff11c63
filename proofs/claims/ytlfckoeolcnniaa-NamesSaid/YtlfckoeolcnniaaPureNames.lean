/- The law Names in plain numbers: the list of the names' numbers is the document's. No condition. -/
import Derived.Test.YtlfckoeolcnniaaPNamesx1
namespace Go.Proofs.Ytlfckoeolcnniaa.Pure
open Go.RowKit Go.Proofs.Ytlfckoeolcnniaa.PNames Go.Proofs.YtlfckoeolcnniaaW.PrintWords Go.Proofs.YtlfckoeolcnniaaW.PrintLast

theorem Names : counterpanelaw0_Names.Pure := ⟨80, by decide +kernel⟩

end Go.Proofs.Ytlfckoeolcnniaa.Pure
