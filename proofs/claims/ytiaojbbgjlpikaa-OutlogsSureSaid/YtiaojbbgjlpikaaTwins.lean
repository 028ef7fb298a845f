/- Twin.., Left.., Same.. of the statements' helpers: each once. Printed by a program of ours. -/
import Derived.Test.YtiaojbbgjlpikaaFacts
namespace Go.Proofs.Ytiaojbbgjlpikaa
open Go Go.Dd Go.RowKit












end Go.Proofs.Ytiaojbbgjlpikaa
