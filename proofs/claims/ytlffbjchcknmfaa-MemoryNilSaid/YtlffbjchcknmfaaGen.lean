/- By program (gen.py): this seat's regions and tables, as the engine wants them. -/
import Derived.Test.YtlffbjchcknmfaaGena
import Derived.Test.YtlffbjchcknmfaaGenb
namespace Go.Proofs.Ytlffbjchcknmfaa
theorem mixed : Try.prog.follows .mixedOrders = true := by kernel_rfl
end Go.Proofs.Ytlffbjchcknmfaa
