import Derived.Test.YtbgefpeicmbgiaaKI11
namespace Go.Proofs.Ytbgefpeicmbgiaa.Pure
set_option linter.unusedVariables false
set_option linter.unusedSimpArgs false
theorem IntsBack : Go.Proofs.Ytbgefpeicmbgiaa.X.tillerlaw11_IntsBack.Pure := Go.Proofs.Ytbgefpeicmbgiaa.IntsBack
end Go.Proofs.Ytbgefpeicmbgiaa.Pure
