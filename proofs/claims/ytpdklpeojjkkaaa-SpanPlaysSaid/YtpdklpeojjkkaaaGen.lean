/- By program (gen.py): this seat's regions and tables, as the engine wants them. -/
import Derived.Test.YtpdklpeojjkkaaaGena
import Derived.Test.YtpdklpeojjkkaaaGenb
import Derived.Test.YtpdklpeojjkkaaaGenc
import Derived.Test.YtpdklpeojjkkaaaGend
import Derived.Test.YtpdklpeojjkkaaaGene
namespace Go.Proofs.Ytpdklpeojjkkaaa
theorem mixed : Try.prog.follows .mixedOrders = true := by kernel_rfl
end Go.Proofs.Ytpdklpeojjkkaaa
