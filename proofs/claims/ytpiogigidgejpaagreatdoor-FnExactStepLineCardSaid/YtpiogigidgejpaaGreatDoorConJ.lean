import Derived.Test.YtpiogigidgejpaaGreatDoorZ0
import Derived.Test.YtpiogigidgejpaaGreatDoorY0
import Derived.Test.YtpiogigidgejpaaGreatDoorConD
import Derived.Test.YtpiogigidgejpaaGreatDoorPFnExactStepLinex15
import Derived.Test.YtpiogigidgejpaaGreatDoorPFnExactStepLinex17
namespace Go.Proofs.YtpiogigidgejpaaGreatDoor.Pure
open Go.RowKit Go.Proofs.YtpiogigidgejpaaGreatDoor.PFnExactStepLine Go.Proofs.YtpiogigidgejpaaGreatDoorW.PrintWords Go.Proofs.YtpiogigidgejpaaGreatDoorW.PrintLast Go.Proofs.YtpiogigidgejpaaGreatDoor.Base
set_option maxRecDepth 10000
set_option linter.unusedVariables false
set_option linter.unusedSimpArgs false
theorem AS2 (n:Int):Z4.f n=some (inB n 1 5):=by unfold Z4.f;rw[H9];rfl
theorem Ah8 (n:Int):AB5.f n=some (inB n 1 5):=by unfold AB5.f;rw[J6];rfl
theorem AV9 (l:List Int)(x:Int)(hl:l.length≤1000000000000):∀ (d i:Nat),i+d=l.length→∃r:Int,(r≥0↔x∈l.drop i)∧Ev (fun k=>E5.l0 k l x (l.length:Int) (i:Int)) r:=by
 intro d
 induction d with
 |zero =>
  intro i h
  rw[List.drop_eq_nil_of_le (by omega)]
  exact⟨-1,by simp,Ev.step (fun k=>by simp only[E5.l0];rfl) (en (Ev.now _))⟩
 |succ d ih =>
  intro i h
  rw[s7 l i (by omega)]
  obtain⟨r,h1,h2⟩:=ih (i+1) (by omega)
  by_cases e:x=rd l (i:Int)
  ·refine⟨(i:Int),by simp[e],Ev.step (fun k=>by simp only[E5.l0];rfl) ?_⟩
   exact ep (ep (ep (D9 e (Ev.now _))))
  ·refine⟨r,by rw[h1,List.mem_cons];exact⟨.inr,fun h=>h.resolve_left e⟩,Ev.step (fun k=>by simp only[E5.l0];rfl) ?_⟩
   rw[E2 (by omega)]
   exact ep (ep (ep (G8 e h2)))
theorem AH7 (l:List Int)(x:Int)(hl:l.length≤1000000000000):Ev (fun k=>K7.f k l x) (decide (x∈l)):=by
 unfold K7.f E5.f
 obtain⟨r,h1,h2⟩:=AV9 l x hl l.length 0 (by omega)
 refine C6 h2 (C7 (decide_eq_decide.mpr ?_))
 simpa using h1
theorem Ac3 (n:Nat)(w:List Int)(hn:1≤n)(hn2:n≤12)(hw:w.length≤200):Ev (fun k=>J5.f k (n:Int) w) (Aj1 n w):=by
 unfold J5.f Aj1
 by_cases hnl:n≤w.length+1
 ·refine AL8 (fun(out:List Int) i k=>J5.l0 k (n:Int) w out (i:Int)) (At7 n w) (fun i out=>n≤i∧out.length≤i) (w.length+1) ?_ (w.length+1 - n) n [] (by omega) ⟨Nat.le_refl _,by simp⟩ ?_
  ·intro out i hi hI
   have hs:=An9 n w out i
   refine⟨⟨by omega,by omega⟩,fun r k=>?_⟩
   refine Ev.step (fun k=>by simp only[J5.l0];rfl) ?_
   rw[E4 (x:=(i:Int) - (n:Int)) (by omega),E2 (by omega),show(i:Int) - (n:Int)=((i - n:Nat):Int)by omega,Int.toNat_natCast,Int.toNat_natCast]
   refine ep (ep (ep (C6 (X0 _) ?_)))
   unfold At7 at k
   refine X2 (fun e=>?_) (fun e=>?_)
   ·rw[if_pos e]at k
    refine C6 (AA9 _ (AC1.mp e).1) (C6 (AH7 out _ (by omega)) (X2 (fun e2=>?_) (fun e2=>?_)))
    ·rw[if_pos (by simpa using e2)]at k;exact k
    ·rw[if_neg (by simpa using e2)]at k;exact ep k
   ·rw[if_neg e]at k;exact k
  ·intro _
   exact Ev.step (fun k=>by simp only[J5.l0];rfl) (en (Ev.now _))
 ·rw[show w.length+1 - n=0 by omega]
  exact Ev.step (fun k=>by simp only[J5.l0];rfl) (en (Ev.now _))
def a8 (n:Nat):List Int:=(J4.f 3000 (n:Int)).getD []
def AT4 (n:Nat):List Int:=Aj1 n (a8 n)
theorem BN6:J4.f 3000 ((1:Nat):Int)=some (a8 1):=by kernel_rfl
theorem BP3:J4.f 3000 ((2:Nat):Int)=some (a8 2):=by kernel_rfl
theorem BK4:J4.f 3000 ((3:Nat):Int)=some (a8 3):=by kernel_rfl
theorem BJ3:J4.f 3000 ((4:Nat):Int)=some (a8 4):=by kernel_rfl
theorem BM4:J4.f 3000 ((5:Nat):Int)=some (a8 5):=by kernel_rfl
theorem BM7:G0.l0 3000 ((2:Nat):Int) [] (AT4 1) ((AT4 1).length:Int) 0=some (a8 2):=by kernel_rfl
theorem BQ1:G0.l0 3000 ((3:Nat):Int) [] (AT4 2) ((AT4 2).length:Int) 0=some (a8 3):=by kernel_rfl
theorem BN5:G0.l0 3000 ((4:Nat):Int) [] (AT4 3) ((AT4 3).length:Int) 0=some (a8 4):=by kernel_rfl
theorem BL4:G0.l0 3000 ((5:Nat):Int) [] (AT4 4) ((AT4 4).length:Int) 0=some (a8 5):=by kernel_rfl
theorem Aq2:(a8 1).length≤200∧(a8 2).length≤200∧(a8 3).length≤200∧(a8 4).length≤200∧(a8 5).length≤200:=by decide +kernel
theorem Ar3:okL (a8 1)=true∧okL (a8 2)=true∧okL (a8 3)=true∧okL (a8 4)=true∧okL (a8 5)=true:=by decide +kernel
theorem Ad7:Ev (fun q=>G0.f q ((1:Nat):Int)) (a8 1) :=
 Ev.step (fun k=>by simp only[G0.f];rfl) (ep (C7 (by kernel_rfl)))
theorem AC3 (n:Nat)(hn:1≤n∧n≤4)(hw:(a8 n).length≤200)(h:Ev (fun q=>G0.f q (n:Int)) (a8 n))(hl:G0.l0 3000 ((n+1:Nat):Int) [] (AT4 n) ((AT4 n).length:Int) 0=some (a8 (n+1))) :
  Ev (fun q=>G0.f q ((n+1:Nat):Int)) (a8 (n+1)):=by
 refine Ev.step (fun k=>by simp only[G0.f];rfl) (en ?_)
 rw[S9 (by omega)]
 exact C6 h (C6 (Ac3 n (a8 n) hn.1 (by omega) hw) (Ev.of (fun k=>(G0.mono_l k).2.1 _ _ _ _ _) (k:=3000) hl))
theorem Az9 (n:Nat)(hn:1≤n∧n≤5):(a8 n).length≤200∧Ev (fun q=>G0.f q (n:Int)) (a8 n)∧Ev (fun q=>J4.f q (n:Int)) (a8 n):=by
 obtain⟨s1,s2,s3,s4,s5⟩:=Aq2
 have e1:=Ad7
 have e2:=AC3 1 (by omega) s1 e1 BM7
 have e3:=AC3 2 (by omega) s2 e2 BQ1
 have e4:=AC3 3 (by omega) s3 e3 BN5
 have e5:=AC3 4 (by omega) s4 e4 BL4
 obtain rfl|rfl|rfl|rfl|rfl:n=1∨n=2∨n=3∨n=4∨n=5:=by omega
 ·exact⟨s1,e1,Ev.of (fun k=>J4.mono _ k) (k:=3000) BN6⟩
 ·exact⟨s2,e2,Ev.of (fun k=>J4.mono _ k) (k:=3000) BP3⟩
 ·exact⟨s3,e3,Ev.of (fun k=>J4.mono _ k) (k:=3000) BK4⟩
 ·exact⟨s4,e4,Ev.of (fun k=>J4.mono _ k) (k:=3000) BJ3⟩
 ·exact⟨s5,e5,Ev.of (fun k=>J4.mono _ k) (k:=3000) BM4⟩
theorem Ap5 (n:Int):∃r:List Int,∃b:Bool,x2 r∧Ev (fun q=>AA2.f q n) (r,b)∧Ev (fun q=>AA1.f q n) (r,b):=by
 have e1:=AS2 n
 have e2:=Ah8 n
 by_cases h:inB n 1 5=true
 ·have h1:=I3.mp h
  obtain⟨n,rfl⟩:=Int.eq_ofNat_of_zero_le (show 0≤n by omega)
  obtain⟨s,i,p⟩:=Az9 n (by omega)
  refine⟨a8 n,true,⟨by omega,Ad0 ?_⟩,?_,?_⟩
  ·obtain⟨g1,g2,g3,g4,g5⟩:=Ar3
   obtain rfl|rfl|rfl|rfl|rfl:n=1∨n=2∨n=3∨n=4∨n=5:=by omega
   ·exact g1
   ·exact g2
   ·exact g3
   ·exact g4
   ·exact g5
  ·unfold AA2.f
   exact D8 e1 (D9 h (C6 i (Ev.now _)))
  ·unfold AA1.f
   exact D8 e2 (D9 h (C6 p (Ev.now _)))
 ·refine⟨[],false,AA4,?_,?_⟩
  ·unfold AA2.f
   exact D8 e1 (G8 h (Ev.now _))
  ·unfold AA1.f
   exact D8 e2 (G8 h (Ev.now _))
end Go.Proofs.YtpiogigidgejpaaGreatDoor.Pure
