/-
  Walks over letters of the functions that the law reaches.
-/
import Derived.Test.YtfaplhodeekjnaaGreatTy
set_option linter.unusedSimpArgs false
namespace Go.AM
set_option linter.defProp false
attribute [local instance] fnMaps
def st2 := @size_2
end Go.AM
