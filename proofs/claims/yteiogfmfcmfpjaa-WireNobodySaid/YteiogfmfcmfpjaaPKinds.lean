/- The types of the laws' arguments, opened: what each value of them that can be read holds, and how large its parts are. -/
import Derived.Test.YteiogfmfcmfpjaaXOpen
import Derived.Test.YteiogfmfcmfpjaaPx0
namespace Go.Proofs.Yteiogfmfcmfpjaa.P
open Go.RowKit Go.Proofs.YteiogfmfcmfpjaaW.PrintWords Go.Proofs.YteiogfmfcmfpjaaW.PrintLast
end Go.Proofs.Yteiogfmfcmfpjaa.P
