/-
  An, part C: functions that call themselves.
-/
import Derived.Test.YtjcjpeckfikfkaaAnA
set_option linter.all false
namespace Go.Am
variable [U : Univ]

section
variable {P : Program} {f : FuncId} {fn : Func} {c : Code} {sp : FnSpec}

end
end Go.Am
