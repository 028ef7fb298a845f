/- Twin.., Left.., Same.. of the statements' helpers: each once. Printed by a program of ours. -/
import Derived.Test.YtiaojbbgjlpikaaFacts
namespace Go.Proofs.Ytiaojbbgjlpikaa
open Go Go.Dd Go.RowKit
set_option maxRecDepth 100000












end Go.Proofs.Ytiaojbbgjlpikaa
