import Derived.Test.YtpiogigidgejpaaGreatDoorPFnExactStepLinex16
namespace Go.Proofs.YtpiogigidgejpaaGreatDoor.PFnExactStepLine
open Go.RowKit Go.Proofs.YtpiogigidgejpaaGreatDoorW.PrintWords Go.Proofs.YtpiogigidgejpaaGreatDoorW.PrintLast Go.Proofs.YtpiogigidgejpaaGreatDoorW.PrintMore Go.Proofs.YtpiogigidgejpaaGreatDoor.Sq Tryz
attribute [local go_sem] g8 g9 s8 q8 Y0 X9 b8 e6
set_option maxHeartbeats 8000000
set_option maxRecDepth 100000
set_option linter.unusedVariables false
set_option linter.unusedSimpArgs false
def X8.f (k:Nat)(c:List Int)(a:ByteArray):Option (List Int×ByteArray×Bool):=(F2.f k c).bind fun d=>(if d=true then(if(a.size:Int)>3000 then(some (([]:List Int),(⟨#[]⟩:ByteArray),false))else((k7.f a (⟨#[10]⟩:ByteArray)).bind fun e=>(if e=true then(some (([]:List Int),(⟨#[]⟩:ByteArray),false))else((E9.f k c a).bind fun b=>(some (b.1,b.2,true))))))else(some (([]:List Int),(⟨#[]⟩:ByteArray),false)))
theorem X8.calls (k A0 c0 l0 a1 r1 r2 r3 w):Kd.C KI w A0 l0.length l0→l0.length≤c0→X8.f k l0 a1=some (r1,r2,r3)→Go.Proofs.YtpiogigidgejpaaGreatDoor.Laid.A w→
 Calls prog 16 #[.slice A0 l0.length c0,.string a1] w fun e w'=>∃v0_:Value,e=.returned (.tuple #[v0_,.string r2,.bool r3])∧Kd.R KI 3 w' w.heap.size (fun _=>True) v0_ r1∧Below w.heap.size w w':=by
 have HB:=bR w
 refine pa fun aA aB=>?_
 intro H
 refine pc fun HL_=>?_
 unfold X8.f at H
 revert H
 refine ib fun t604 A3=>iB ?_ ?_<;>rintro rfl
 ·refine io ?_ ?_<;>intro c5
  ·have aD:decide (3000< (a1.size:Int))=true:=(decide_eq_true c5)
   have aE:decide (3000<a1.size)=true:=decide_eq_true (by omega)
   refine i3 ?_;rintro rfl rfl rfl
   go_in
   go_wp2_with ((with_reducible refine ga 42 ?_);refine gB func42 (F2.calls k A0 c0 l0 true _ (M8 aA.1) aB.1 A3.1) bz ?_;clear HB;intro w6 HB)
   go_ret3
   exact⟨_,fe,nz,bz⟩
  have aD:decide (3000< (a1.size:Int))=false:=(decide_eq_false c5)
  have aE:decide (3000<a1.size)=false:=decide_eq_false (by omega)
  refine ib fun t605 A7=>iB ?_ ?_<;>rintro rfl
  ·refine i3 ?_;rintro rfl rfl rfl
   go_in
   go_wp2_with (first|((with_reducible refine ga 42 ?_);refine gB func42 (F2.calls k A0 c0 l0 true _ (M8 aA.1) aB.1 A3.1) bz ?_;clear HB;intro w9 HB)|(go_at_call 43;(with_reducible refine qp (k7.calls a1 (⟨#[10]⟩:ByteArray) true _ A7.1) fun nd=>?_)))
   go_ret3
   exact⟨_,fe,nz,bz⟩
  refine ib ?_;rintro⟨aF,aG⟩ A10
  refine i3 ?_;rintro rfl rfl rfl
  go_in
  go_wp2_with (first|((with_reducible refine ga 42 ?_);refine gB func42 (F2.calls k A0 c0 l0 true _ (M8 aA.1) aB.1 A3.1) bz ?_;clear HB;intro w11 HB)|(go_at_call 43;(with_reducible refine qp (k7.calls a1 (⟨#[10]⟩:ByteArray) false _ A7.1) fun nd=>?_))|((with_reducible refine ga 44 ?_);refine gR func44 (E9.calls k A0 c0 l0 a1 aF aG _ (by repeat(first|exact(Kd.C_below aA.1 bz)|(with_reducible refine Kd.C_alloc ?_ _)|(with_reducible refine Kd.C_drewN ?_ _)|(with_reducible refine Kd.C_drew ?_))) aB.1 A10.1 lz) bz ?_;clear HB;intro v608 w12 aC HB))
  go_ret3
  exact⟨_,fe,rR aC,bz⟩
 refine i3 ?_;rintro rfl rfl rfl
 go_in
 go_wp2_with ((with_reducible refine ga 42 ?_);refine gB func42 (F2.calls k A0 c0 l0 false _ (M8 aA.1) aB.1 A3.1) bz ?_;clear HB;intro w13 HB)
 go_ret3
 exact⟨_,fe,nz,bz⟩
end Go.Proofs.YtpiogigidgejpaaGreatDoor.PFnExactStepLine
