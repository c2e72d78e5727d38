import Derived.Test.YtpiogigidgejpaaGreatDoorLaid
set_option linter.unusedVariables false
namespace Go.Proofs.YtpiogigidgejpaaGreatDoor.Laid
open Go Go.Proofs Go.RowKit Go.Shelf Go.Sort Go.Lib Go.Joins Go.Proofs.YtpiogigidgejpaaGreatDoorW.PrintWords
def A (w:World):Prop:=T w∧(∃m:Int,w.cell? ⟨0,0,none⟩=some (.int .i64 m))∧(∃tp p,w.var? Tryz.prog "strconv.ErrSyntax" =some #[.iface tp p])∧∃tp p,w.var? Tryz.prog "strconv.ErrRange" =some #[.iface tp p]
theorem gSyn:Tryz.prog.globalNamed "strconv.ErrSyntax" =some 1:=by kernel_rfl
theorem gRan:Tryz.prog.globalNamed "strconv.ErrRange" =some 2:=by kernel_rfl
theorem A.below {w w':World} (h:A w)(hb:Below w.heap.size w w'):A w':=by
 obtain⟨h1,⟨m,h2⟩,⟨t3,p3,h3⟩,t4,p4,h4⟩:=h
 exact⟨h1.below hb,⟨m,(hb.cell (World.block_lt_of_cell? _ _ h2)).trans h2⟩,⟨t3,p3,var_stays gSyn h3 hb (Nat.le_refl _)⟩,t4,p4,var_stays gRan h4 hb (Nat.le_refl _)⟩
theorem A.drewN {w:World} (h:A w)(n:Nat):A (w.drewN n):=h.below (J8 (Below.refl _ _) n)
theorem A.drew {w:World} (h:A w):A w.drew:=h.below (o6 (Below.refl _ _))
theorem A.alloc {w:World} (h:A w)(o:Obj):A (w.alloc o):=h.below (R2 (Below.refl _ _) o)
theorem A.tab {w:World} (h:A w):T w:=h.1
def num (s:ByteArray):Option Int:=match Lib.atoiAll s.data.toList with|.ok v=>some v|_=>none
theorem atoi (s:ByteArray)(hs:s.size≤281474976710656)(w:World)(hL:A w) :
  Calls Tryz.prog 91 #[.string s] w fun e w'=>((∃v,num s=some v∧e=.returned (.tuple #[.int .i64 v,.nilIface]))∨(num s=none∧∃ (v:Int) (t:Nat) (p:Value),e=.returned (.tuple #[.int .i64 v,.iface t p])))∧Below w.heap.size w w':=by
 obtain⟨h1,_,⟨t3,p3,h3⟩,t4,p4,h4⟩:=hL
 by_cases hv:∃v,Lib.atoiAll s.data.toList=.ok v
 ·obtain⟨v,h⟩:=hv
  refine(Tryz.strconv_Atoi_ok s (by omega) v h w).mono fun e w' hh=>⟨.inl ⟨v,by unfold num;rw[h],hh.1⟩,?_⟩
  rcases hh.2 with rfl|⟨t,rfl⟩
  ·exact Below.refl _ _
  ·exact below_bytesWorld _ _ _ _ (Nat.le_refl _)
 ·by_cases h:Lib.atoiAll s.data.toList=Lib.NumEnd.syntax
  ·exact(Tryz.strconv_Atoi_syntax_var s hs h t3 p3 w h3).mono fun e w' ⟨N,he,_,_,hb⟩=>⟨.inr ⟨by unfold num;rw[h],_,_,_,he⟩,hb⟩
  ·have h:Lib.atoiAll s.data.toList=.range:=by
    cases hq:Lib.atoiAll s.data.toList
    ·exact absurd ⟨_,hq⟩ hv
    ·exact absurd hq h
    ·rfl
   exact(Tryz.strconv_Atoi_range_var s hs h t4 p4 w h4).mono fun e w' ⟨N,he,_,_,hb⟩=>⟨.inr ⟨by unfold num;rw[h],_,_,_,he⟩,hb⟩
end Go.Proofs.YtpiogigidgejpaaGreatDoor.Laid
