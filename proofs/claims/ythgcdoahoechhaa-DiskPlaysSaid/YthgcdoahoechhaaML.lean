/- Package wal: Open, Add, Sync, Count, Name. -/
import Derived.Test.YthgcdoahoechhaaMK
set_option linter.unusedVariables false
set_option linter.unusedSimpArgs false
namespace Go.Proofs.Ythgcdoahoechhaa
namespace Am
open Go.RowKit
set_option maxRecDepth 100000
section
variable {E : Nat → Option (Ent MD)}
structure midR (P : List AV → Hp MD → Prop) (S : R MD → Prop) (r : R MD) : Prop where
  out : match r with | .norm t h => P t h | r => S r
theorem mid_norm {P : List AV → Hp MD → Prop} {S : R MD → Prop} {t : List AV} {h : Hp MD} (q : P t h) : midR P S (.norm t h) := ⟨q⟩
theorem wb_mid {D : Dp MD} {t : List AV} {h : Hp MD} {c b : BC} {Q : R MD → Prop} (P : List AV → Hp MD → Prop) (H : WB D c t h (midR P (thenR D b Q))) (H2 : ∀ t' h', P t' h' → WB D b t' h' Q) : WB D c t h (thenR D b Q) := by
  have key : ∀ r, midR P (thenR D b Q) r → thenR D b Q r := fun r q => by
    cases r with
    | norm t h => exact ⟨H2 _ _ q.out⟩
    | _ => exact q.out
  exact WB.mono H key
end
end Am
end Go.Proofs.Ythgcdoahoechhaa
