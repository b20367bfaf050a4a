/- The exported constants have the told values: no condition. -/
import Derived.Test.YtdonfllhlhafpaaPFnExactConstantsx1
namespace Go.Proofs.Ytdonfllhlhafpaa.Pure
open Go.RowKit Go.Proofs.Ytdonfllhlhafpaa.PFnExactConstants Go.Proofs.YtdonfllhlhafpaaW.PrintWords Go.Proofs.YtdonfllhlhafpaaW.PrintLast
namespace OwnConstants

theorem done : laws_FnExactConstants.Pure := rfl
end OwnConstants
theorem FnExactConstants : laws_FnExactConstants.Pure := OwnConstants.done
end Go.Proofs.Ytdonfllhlhafpaa.Pure
