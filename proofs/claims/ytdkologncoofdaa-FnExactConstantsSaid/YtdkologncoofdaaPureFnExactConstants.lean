/- The law FnExactConstants answers true: every exported constant of the program is the document's. No condition. -/
import Derived.Test.YtdkologncoofdaaPFnExactConstantsx1
namespace Go.Proofs.Ytdkologncoofdaa.Pure
open Go.RowKit Go.Proofs.Ytdkologncoofdaa.PFnExactConstants Go.Proofs.YtdkologncoofdaaW.PrintWords Go.Proofs.YtdkologncoofdaaW.PrintLast

theorem FnExactConstants : laws_FnExactConstants.Pure := rfl

end Go.Proofs.Ytdkologncoofdaa.Pure
