/- The world in which a row's call begins holds what the library's calls want. -/
import Derived.Test.YtikldgckdlnkpaaTabs
import Derived.Test.YtikldgckdlnkpaaShelf
namespace Go.Proofs.Ytikldgckdlnkpaa
theorem tabsOf {W : World} (h : W.ShapedOpen Try.prog) : Tabs W := ⟨Try.laysM144.s1_3 W h⟩
end Go.Proofs.Ytikldgckdlnkpaa
