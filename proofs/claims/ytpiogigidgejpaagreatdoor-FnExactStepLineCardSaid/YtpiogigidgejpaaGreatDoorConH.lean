import Derived.Test.YtpiogigidgejpaaGreatDoorZ0
import Derived.Test.YtpiogigidgejpaaGreatDoorY0
import Derived.Test.YtpiogigidgejpaaGreatDoorConD
import Derived.Test.YtpiogigidgejpaaGreatDoorPFnExactStepLinex15
import Derived.Test.YtpiogigidgejpaaGreatDoorPFnExactStepLinex17
namespace Go.Proofs.YtpiogigidgejpaaGreatDoor.Pure
open Go.RowKit Go.Proofs.YtpiogigidgejpaaGreatDoor.PFnExactStepLine Go.Proofs.YtpiogigidgejpaaGreatDoorW.PrintWords Go.Proofs.YtpiogigidgejpaaGreatDoorW.PrintLast Go.Proofs.YtpiogigidgejpaaGreatDoor.Base
set_option maxRecDepth 10000
set_option linter.unusedVariables false
set_option linter.unusedSimpArgs false
def Aa9 (n k:Int):Bool:=inB n 1 10&& (inB k 2 6&&decide (k.toNat ^ n.toNat≤1024))
theorem BE2 {n k:Int}:Aa9 n k=true↔(1≤n∧n≤10)∧(2≤k∧k≤6)∧k.toNat ^ n.toNat≤1024:=by simp[Aa9,I3]
theorem BF6 {n k:Int} (h:Aa9 n k=true):∃n' k':Nat,n=n'∧k=k'∧1≤n'∧n'≤10∧2≤k'∧k'≤6∧k' ^ n'≤1024:=by
 obtain⟨h1,h2,h3⟩:=BE2.mp h
 exact⟨n.toNat,k.toNat,by omega,by omega,by omega,by omega,by omega,by omega,h3⟩
theorem Ak3 (a n:Nat)(ha:a≤6)(hn:n≤12):Ev (fun k=>Q6.f k (a:Int) (n:Int)) ((a ^ n:Nat):Int):=by
 have hb:∀j,j≤n→a ^ j≤2176782336:=fun j hj=>Nat.le_trans (Nat.pow_le_pow_left ha j) (Nat.le_trans (Nat.pow_le_pow_right (by omega) (show j≤12 by omega)) (by decide))
 unfold Q6.f
 refine AL8 (fun(o:Nat) i k=>Q6.l0 k (a:Int) (o:Int) (n:Int) (i:Int)) (fun o _=>o*a) (fun i o=>o=a ^ i) n ?_ n 0 1 (by omega) rfl ?_
 ·intro o i hi hI
  refine⟨by rw[hI,Nat.pow_succ],fun r k=>?_⟩
  have h1:=hb (i+1) (by omega)
  rw[Nat.pow_succ,←hI]at h1
  refine Ev.step (fun k=>by simp only[Q6.l0];rfl) ?_
  refine ep ?_
  rw[E2 (by omega),show(o:Int)* (a:Int)=((o*a:Nat):Int)by simp,E4 (by omega)]
  exact k
 ·intro h
  refine Ev.step (fun k=>by simp only[Q6.l0];rfl) (en (C7 (by rw[h])))
theorem AQ0 (n k:Int):Ev (fun q=>S3.f q n k) (Aa9 n k):=by
 unfold S3.f Aa9
 refine D8 (H9 _ _ _) (X2 (fun h1=>?_) (fun h1=>C7 (by simp[Bool.eq_false_iff.mpr h1])))
 refine D8 (H9 _ _ _) (X2 (fun h2=>?_) (fun h2=>C7 (by simp[Bool.eq_false_iff.mpr h2])))
 have e1:=I3.mp h1
 have e2:=I3.mp h2
 obtain⟨n,rfl⟩:=Int.eq_ofNat_of_zero_le (show 0≤n by omega)
 obtain⟨k,rfl⟩:=Int.eq_ofNat_of_zero_le (show 0≤k by omega)
 refine C6 (Ak3 k n (by omega) (by omega)) (C7 ?_)
 rw[h1,h2]
 simp only[Bool.true_and,Int.toNat_natCast]
 exact decide_eq_decide.mpr (by omega)
theorem AU8 (a:Nat)(ha:a≤6):∀ (e j:Nat),e+j≤12→Ev (fun k=>N6.l0 k (a:Int) (e:Int) ((a ^ j:Nat):Int)) ((a ^ (j+e):Nat):Int):=by
 intro e
 induction e with
 |zero =>
  intro j h
  exact Ev.step (fun k=>by simp only[N6.l0];rfl) (en (Ev.now _))
 |succ e ih =>
  intro j h
  have h1:a ^ (j+1)≤2176782336:=Nat.le_trans (Nat.pow_le_pow_left ha (j+1)) (Nat.le_trans (Nat.pow_le_pow_right (by omega) (show j+1≤12 by omega)) (by decide))
  refine Ev.step (fun k=>by simp only[N6.l0];rfl) ?_
  refine ep ?_
  rw[S9 (by omega),show((a ^ j:Nat):Int)* (a:Int)=((a ^ (j+1):Nat):Int)by rw[Nat.pow_succ];simp,E4 (by omega)]
  exact S7 (ih (j+1) (by omega)) (by rw[show j+1+e=j+ (e+1)by omega])
theorem Ac5 (a n:Nat)(ha:a≤6)(hn:n≤12):Ev (fun k=>N6.f k (a:Int) (n:Int)) ((a ^ n:Nat):Int) :=
 S7 (AU8 a ha n 0 (by omega)) (by simp)
theorem Ai6 (n k:Int):Ev (fun q=>Y5.f q n k) (Aa9 n k):=by
 unfold Y5.f Aa9
 refine D8 (J6 _ _ _) (X2 (fun h1=>?_) (fun h1=>C7 (by simp[Bool.eq_false_iff.mpr h1])))
 refine D8 (J6 _ _ _) (X2 (fun h2=>?_) (fun h2=>C7 (by simp[Bool.eq_false_iff.mpr h2])))
 have e1:=I3.mp h1
 have e2:=I3.mp h2
 obtain⟨n,rfl⟩:=Int.eq_ofNat_of_zero_le (show 0≤n by omega)
 obtain⟨k,rfl⟩:=Int.eq_ofNat_of_zero_le (show 0≤k by omega)
 refine C6 (Ac5 k n (by omega) (by omega)) (C7 ?_)
 rw[h1,h2]
 simp only[Bool.true_and,Int.toNat_natCast]
 exact decide_eq_decide.mpr (by omega)
def O6 (n k:Nat):Bool:= !(decide (1≤n)&&decide (2≤k)&&decide (k ^ n≤1024))||(match I0.f 2000 (n:Int) (k:Int),L0.f 2000 (n:Int) (k:Int)with|some (r,b),some (r',b')=>(r==r')&& ((b==b')&& (decide (r.length≤1024)&&okL r))|_,_=>false)
theorem Av6:O6 1 2=true:=by kernel_rfl
theorem Ay0:O6 1 3=true:=by kernel_rfl
theorem Ax4:O6 1 4=true:=by kernel_rfl
theorem Ay3:O6 1 5=true:=by kernel_rfl
theorem BA8:O6 1 6=true:=by kernel_rfl
theorem Az4:O6 2 2=true:=by kernel_rfl
theorem BB5:O6 2 3=true:=by kernel_rfl
theorem Az6:O6 2 4=true:=by kernel_rfl
theorem Av4:O6 2 5=true:=by kernel_rfl
theorem BB0:O6 2 6=true:=by kernel_rfl
theorem Ax0:O6 3 2=true:=by kernel_rfl
theorem BB7:O6 3 3=true:=by kernel_rfl
theorem BC1:O6 3 4=true:=by kernel_rfl
theorem Ax1:O6 3 5=true:=by kernel_rfl
theorem Aw2:O6 3 6=true:=by kernel_rfl
theorem Ay9:O6 4 2=true:=by kernel_rfl
theorem Az5:O6 4 3=true:=by kernel_rfl
theorem Ay7:O6 4 4=true:=by kernel_rfl
theorem Ax6:O6 4 5=true:=by kernel_rfl
theorem BB4:O6 5 2=true:=by kernel_rfl
theorem BC2:O6 5 3=true:=by kernel_rfl
theorem Ax2:O6 5 4=true:=by kernel_rfl
theorem Az8:O6 6 2=true:=by kernel_rfl
theorem BB8:O6 6 3=true:=by kernel_rfl
theorem Aw8:O6 7 2=true:=by kernel_rfl
theorem Az0:O6 8 2=true:=by kernel_rfl
theorem Aw9:O6 9 2=true:=by kernel_rfl
theorem Ar4:O6 10 2=true:=by kernel_rfl
theorem Az1 (n k:Nat)(h1:1≤n)(h2:n≤10)(h3:2≤k)(h4:k≤6)(h5:k ^ n≤1024):O6 n k=true:=by
 have hn:n=1∨n=2∨n=3∨n=4∨n=5∨n=6∨n=7∨n=8∨n=9∨n=10:=by omega
 have hk:k=2∨k=3∨k=4∨k=5∨k=6:=by omega
 rcases hn with rfl|rfl|rfl|rfl|rfl|rfl|rfl|rfl|rfl|rfl<;>rcases hk with rfl|rfl|rfl|rfl|rfl
 ·exact Av6
 ·exact Ay0
 ·exact Ax4
 ·exact Ay3
 ·exact BA8
 ·exact Az4
 ·exact BB5
 ·exact Az6
 ·exact Av4
 ·exact BB0
 ·exact Ax0
 ·exact BB7
 ·exact BC1
 ·exact Ax1
 ·exact Aw2
 ·exact Ay9
 ·exact Az5
 ·exact Ay7
 ·exact Ax6
 ·exact absurd h5 (by decide +kernel)
 ·exact BB4
 ·exact BC2
 ·exact Ax2
 ·exact absurd h5 (by decide +kernel)
 ·exact absurd h5 (by decide +kernel)
 ·exact Az8
 ·exact BB8
 ·exact absurd h5 (by decide +kernel)
 ·exact absurd h5 (by decide +kernel)
 ·exact absurd h5 (by decide +kernel)
 ·exact Aw8
 ·exact absurd h5 (by decide +kernel)
 ·exact absurd h5 (by decide +kernel)
 ·exact absurd h5 (by decide +kernel)
 ·exact absurd h5 (by decide +kernel)
 ·exact Az0
 ·exact absurd h5 (by decide +kernel)
 ·exact absurd h5 (by decide +kernel)
 ·exact absurd h5 (by decide +kernel)
 ·exact absurd h5 (by decide +kernel)
 ·exact Aw9
 ·exact absurd h5 (by decide +kernel)
 ·exact absurd h5 (by decide +kernel)
 ·exact absurd h5 (by decide +kernel)
 ·exact absurd h5 (by decide +kernel)
 ·exact Ar4
 ·exact absurd h5 (by decide +kernel)
 ·exact absurd h5 (by decide +kernel)
 ·exact absurd h5 (by decide +kernel)
 ·exact absurd h5 (by decide +kernel)
theorem Aw6 (n k:Int):∃r:List Int,∃b:Bool,x2 r∧Ev (fun q=>L0.f q n k) (r,b)∧Ev (fun q=>I0.f q n k) (r,b):=by
 by_cases h:Aa9 n k=true
 ·obtain⟨n,k,rfl,rfl,n1,n2,k1,k2,hp⟩:=BF6 h
  have h:=Az1 n k n1 n2 k1 k2 hp
  unfold O6 at h
  rw[decide_eq_true n1,decide_eq_true k1,decide_eq_true hp]at h
  cases hs:I0.f 2000 (n:Int) (k:Int)with
  |none=>rw[hs]at h;simp at h
  |some p =>
   cases hi:L0.f 2000 (n:Int) (k:Int)with
   |none=>rw[hs,hi]at h;simp at h
   |some p' =>
    obtain⟨r,b⟩:=p
    obtain⟨r',b'⟩:=p'
    rw[hs,hi]at h
    simp at h
    obtain⟨rfl,rfl,hl,ho⟩:=h
    exact⟨r,b,⟨by omega,Ad0 ho⟩,Ev.of (fun k=>L0.mono _ _ k) (k:=2000) hi,Ev.of (fun k=>I0.mono _ _ k) (k:=2000) hs⟩
 ·have hb:=Bool.eq_false_iff.mpr h
  have e1:=Ai6 n k
  have e2:=AQ0 n k
  rw[hb]at e1 e2
  refine⟨[],false,AA4,?_,?_⟩
  ·unfold L0.f
   exact C6 e2 (G8 (by simp) (Ev.now _))
  ·unfold I0.f
   exact C6 e1 (G8 (by simp) (Ev.now _))
end Go.Proofs.YtpiogigidgejpaaGreatDoor.Pure
