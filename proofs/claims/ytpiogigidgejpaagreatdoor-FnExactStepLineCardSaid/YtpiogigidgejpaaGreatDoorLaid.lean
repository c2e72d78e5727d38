import Derived.Test.YtpiogigidgejpaaGreatDoorProg
import Derived.Test.YtpiogigidgejpaaGreatDoorZ2
import Derived.Lib.SmallJoins
import Derived.Lib.AppendIntMem
import Derived.Test.YtpiogigidgejpaaGreatDoorY1
set_option linter.unusedVariables false
namespace Go.Proofs.YtpiogigidgejpaaGreatDoor.Laid
open Go Go.Proofs Go.RowKit Go.Shelf Go.Sort Go.Lib Go.Joins Go.Proofs.YtpiogigidgejpaaGreatDoorW.PrintWords
def T (w:World):Prop:=Lib.TabIs Tryz.prog w "internal/strconv.uint64pow10" .u64 Lib.pow10Tab
theorem gTab:Tryz.prog.globalNamed "internal/strconv.uint64pow10" =some 3:=by kernel_rfl
theorem T.below {w w':World} (h:T w)(hb:Below w.heap.size w w'):T w':=tab_stays gTab h hb (Nat.le_refl _)
theorem T.drewN {w:World} (h:T w)(n:Nat):T (w.drewN n):=h.below (J8 (Below.refl _ _) n)
theorem T.drew {w:World} (h:T w):T w.drew:=h.below (o6 (Below.refl _ _))
theorem T.alloc {w:World} (h:T w)(o:Obj):T (w.alloc o):=h.below (R2 (Below.refl _ _) o)
theorem itoa (n:Int)(h0: -9223372036854775808≤n)(h1:n≤9223372036854775807)(w:World)(hL:T w) :
  Calls Tryz.prog 86 #[.int .i64 n] w fun e w'=>e=.returned (.string ⟨(Lib.itoa n).toArray⟩)∧Below w.heap.size w w' :=
 (Tryz.strconv_Itoa n h0 h1 w hL).mono fun e w' ⟨he,k,os,hw⟩=>⟨he,hw ▸ below_grow w.heap.size w (Nat.le_refl _) k os⟩
end Go.Proofs.YtpiogigidgejpaaGreatDoor.Laid
