/-
  ImagesOk: both sides' contracts in the form of the law's walk.
-/
import Derived.Test.YtanjmolgpkffoaaGreatDoorM1Iq
import Derived.Test.YtanjmolgpkffoaaGreatDoorM1J
import Derived.Test.YtanjmolgpkffoaaGreatDoorM1Le
namespace Go.Proofs.YtanjmolgpkffoaaGreatDoor
open Go.RowKit
theorem cs_ImagesOk (A : Option Addr) (c : Nat) (xs : List TImage) (w : World) (h : SRW shImage w A c xs) (_hn : (shL shImage).sz xs ≤ 1048576) :
    Calls Tryz.prog 20 #[.slice A xs.length c] w (RetV (.bool (imagesB xs)) w) := c_specImagesOk xs A c w h
theorem ci_ImagesOk (A : Option Addr) (c : Nat) (xs : List TImage) (w : World) (h : SRW shImage w A c xs) (hn : (shL shImage).sz xs ≤ 1048576) (htab : Tab w) :
    Calls Tryz.prog 22 #[.slice A xs.length c] w (RetV (.bool (imagesB xs)) w) := c_implImagesOk xs A c w h hn htab
end Go.Proofs.YtanjmolgpkffoaaGreatDoor
