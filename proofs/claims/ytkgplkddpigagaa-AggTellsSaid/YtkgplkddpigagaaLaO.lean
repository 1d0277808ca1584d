/- AggOne: the law, walked. -/
import Derived.Test.YtkgplkddpigagaaQaV
import Derived.Test.YtkgplkddpigagaaGi
set_option linter.unusedVariables false
set_option linter.unusedSimpArgs false
namespace Go.Proofs.Ytkgplkddpigagaa
namespace Am
open Go.RowKit
set_option maxRecDepth 100000
section
variable {X : Type} {E : Nat → Option (Ent X)}
structure QaW (E : Nat → Option (Ent X)) : Prop extends QaN E where
  q : QsT E
  r : QrT E
  known : E 10 = some (.nat n_true)
end
end Am
end Go.Proofs.Ytkgplkddpigagaa
