/-
  QuotBack holds of the printed function; no condition.
-/
import Derived.Test.YtedjlpfggjcmfaaPQuotBack
namespace Go.Proofs.Ytedjlpfggjcmfaa.Pure
theorem QuotBack : Go.Proofs.Ytedjlpfggjcmfaa.X.tillerlaw07_QuotBack.Pure := Go.Proofs.Ytedjlpfggjcmfaa.QuotBack
end Go.Proofs.Ytedjlpfggjcmfaa.Pure
