/-
What functions of the program come to, walked one by one.
Conditions: none beside those that each theorem names.
-/
import Derived.Test.YtggmeldoecnkaaaAvK
import Derived.Test.YtggmeldoecnkaaaAv22
import Derived.Laws.StructEq
import Derived.Laws.Small
set_option linter.unusedVariables false
set_option linter.unusedSimpArgs false
namespace Go.Proofs.Ytggmeldoecnkaaa.Av
open Go.RowKit
set_option maxRecDepth 20000
set_option maxHeartbeats 4000000
section
variable {l : List Int} {at0 at_ k x c : Int}
end
def bit (b : Bool) : Int := if b = true then 1 else 0
section
variable {l : List Int} {a n nx : Int} {ok : Bool}
end
section
variable {l : List Int} {a n nx i : Int} {ok : Bool} {q : List ByteArray}
end
section
variable {bs : List Int} {i0 n nx : Int} {h0 ok : Bool}
end
section
variable {t : S35} (h : txOk t = true)
include h
end
end Go.Proofs.Ytggmeldoecnkaaa.Av
