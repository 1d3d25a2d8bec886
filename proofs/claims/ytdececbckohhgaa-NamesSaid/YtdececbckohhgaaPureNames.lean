/- Names: the two answers are one, over plain numbers and lists, for every argument; no conditions. -/
import Derived.Test.YtdececbckohhgaaPNamesx1
set_option linter.unusedVariables false
set_option linter.unusedSimpArgs false
namespace Go.Proofs.Ytdececbckohhgaa.Pure
open Go.RowKit Go.Proofs.Ytdececbckohhgaa Go.Proofs.Ytdececbckohhgaa.PNames Go.Proofs.YtdececbckohhgaaW.PrintWords Go.Proofs.YtdececbckohhgaaW.PrintLast Go.Proofs.YtdececbckohhgaaW.PrintMore

theorem Names : quicksetlaw_Names.Pure := ⟨100, by decide +kernel⟩

end Go.Proofs.Ytdececbckohhgaa.Pure
