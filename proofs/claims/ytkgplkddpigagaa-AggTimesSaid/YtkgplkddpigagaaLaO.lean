/- AggOne: the law, walked. -/
import Derived.Test.YtkgplkddpigagaaQaV
import Derived.Test.YtkgplkddpigagaaGi
set_option linter.unusedVariables false
set_option linter.unusedSimpArgs false
namespace Go.Proofs.Ytkgplkddpigagaa
namespace Am
open Go.RowKit
set_option maxRecDepth 100000
section
variable {X : Type} {E : Nat → Option (Ent X)}
structure QaW (E : Nat → Option (Ent X)) : Prop extends QaN E where
  q : QsT E
  r : QrT E
  known : E 10 = some (.nat n_true)
theorem v_seq2tt {X : Type} {e : En} {t : List AV} {h : Hp X} {x y : Od} {a b : QQ} (hx : x.ev e t = .agg [.int .i64 a.1, .int .i64 a.2]) (hy : y.ev e t = .agg [.int .i64 b.1, .int .i64 b.2]) (hab : a = b) : (Mv.seq true [0, 0] x y).ev e t h = some (.bool false) := by rw [v_seq2 hx hy, decide_eq_true hab]; rfl
end
end Am
end Go.Proofs.Ytkgplkddpigagaa
