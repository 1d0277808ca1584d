/- ManifestTells: the walk as its row wants it. -/
import Derived.Test.YthgcdoahoechhaaTab10
import Derived.Test.YthgcdoahoechhaaAm36
import Derived.Test.YthgcdoahoechhaaMH
namespace Go.Proofs.Ythgcdoahoechhaa
set_option linter.unusedVariables false
set_option linter.unusedSimpArgs false
namespace Am
set_option linter.unusedVariables false
set_option linter.unusedSimpArgs false
open Go.RowKit
set_option maxRecDepth 1000000
theorem v10 : MfV E10 where
  right := rfl
  has := rfl
  idx := rfl
  concat := rfl
  grow := rfl
  put := rfl
  clone := rfl
  encode := rfl
  get := rfl
  cloneI := rfl
  decode := rfl
  frPut := rfl
  frAll := rfl
  frLength := rfl
  create := rfl
  sync := rfl
  append := rfl
  rename := rfl
  dread := rfl
  write := rfl
  read := rfl
  num := rfl
  rget := rfl
  may := rfl
  dec := rfl
  rput := rfl
  enc := rfl
  new := rfl
  fresh := rfl
  on := rfl
  sameI := rfl
  same := rfl
  encodes := rfl
  decodes := rfl
  within := rfl
  made := rfl
  cut := rfl
  r4put := rfl
  r4all := rfl
  known := rfl
  digits := rfl
  table := rfl
  mwal := rfl
  whole := rfl
  parts := rfl
  names := rfl
  arm := rfl
  crash := rfl
end Am
end Go.Proofs.Ythgcdoahoechhaa
