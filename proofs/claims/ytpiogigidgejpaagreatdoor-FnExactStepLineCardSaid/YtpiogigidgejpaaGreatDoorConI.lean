import Derived.Test.YtpiogigidgejpaaGreatDoorZ0
import Derived.Test.YtpiogigidgejpaaGreatDoorY0
import Derived.Test.YtpiogigidgejpaaGreatDoorConD
import Derived.Test.YtpiogigidgejpaaGreatDoorPFnExactStepLinex15
import Derived.Test.YtpiogigidgejpaaGreatDoorPFnExactStepLinex17
namespace Go.Proofs.YtpiogigidgejpaaGreatDoor.Pure
open Go.RowKit Go.Proofs.YtpiogigidgejpaaGreatDoor.PFnExactStepLine Go.Proofs.YtpiogigidgejpaaGreatDoorW.PrintWords Go.Proofs.YtpiogigidgejpaaGreatDoorW.PrintLast Go.Proofs.YtpiogigidgejpaaGreatDoor.Base
set_option maxRecDepth 10000
set_option linter.unusedVariables false
set_option linter.unusedSimpArgs false
def AC0 (m:Nat):List Bool:=(List.range 121).map m.testBit
def AK0 (K a:Nat):Nat→List Bool→Int→Option (List Bool×Int)
 |0,s,best=>some (s,best)
 |d+1,s,best=>if o9 false s ((a*11+d:Nat):Int)=true then(match F6.f K 11 ((s.set (a*11+d) false).set (d*11+a) false) (d:Int)with
  |some t=>AK0 K a d ((((s.set (a*11+d) false).set (d*11+a) false).set (a*11+d) true).set (d*11+a) true) (if t=true then(d:Int)else best)
  |none=>none)else AK0 K a d s best
def AB6 (K:Nat):Nat→List Bool→List Int→Nat→Option (List Bool×List Int×Nat)
 |0,s,w,a=>some (s,w,a)
 |c+1,s,w,a=>match AK0 K a 11 s (-1)with
  |some (s',b)=>if 0≤b∧b<11 then AB6 K c ((s'.set (a*11+b.toNat) false).set (b.toNat*11+a) false) (w++ [b]) b.toNat else none
  |none=>none
theorem Ac9 (a d:Nat)(ha:a<11)(hd:d<11):wrap64 (wrap64 ((a:Int)*11)+ (d:Int))=((a*11+d:Nat):Int):=by
 unfold wrap64
 omega
theorem At3 (K a:Nat)(ha:a<11)(w:List Int)(r:List Int):∀ (d:Nat) (s:List Bool) (best:Int) (s':List Bool) (best':Int),AK0 K a d s best=some (s',best')→d≤11→s.length=121→
  (s'.length=121→Ev (fun k=>E7.l2 k 11 s' w (a:Int) best' (-1)) r)→Ev (fun k=>E7.l2 k 11 s w (a:Int) best ((d:Int) - 1)) r:=by
 intro d
 induction d with
 |zero =>
  intro s best s' best' h _ hs k
  unfold AK0 at h
  simp only[Option.some.injEq,Prod.mk.injEq]at h
  obtain⟨rfl,rfl⟩:=h
  exact k hs
 |succ d ih =>
  intro s best s' best' h hd hs k
  have e0:((d+1:Nat):Int) - 1=(d:Int):=by omega
  have e1:=Ac9 a d ha (by omega)
  have e2:=Ac9 d a (by omega) ha
  have e3:wrap64 ((d:Int) - 1)=(d:Int) - 1:=by unfold wrap64;omega
  have g1:a*11+d<121:=by omega
  have g2:d*11+a<121:=by omega
  rw[e0]
  refine Ev.step (fun k=>by simp only[E7.l2];rfl) (ep ?_)
  simp only[e1,e2,e3,Int.toNat_natCast]
  refine ep (ep ?_)
  unfold AK0 at h
  by_cases c1:o9 false s ((a*11+d:Nat):Int)=true
  ·rw[if_pos c1]at h
   refine D9 c1 (ep (ep (D8 rfl ?_)))
   split at h
   ·rename_i t ht
    refine C6 (Ev.of (fun k=>F6.mono _ _ _ k) ht) ?_
    by_cases c2:t=true
    ·subst c2
     rw[if_pos rfl]at h
     exact D9 rfl (ih _ _ _ _ h (by omega) (by simp only[List.length_set];exact hs) k)
    ·rw[if_neg c2]at h
     exact G8 c2 (ih _ _ _ _ h (by omega) (by simp only[List.length_set];exact hs) k)
   ·cases h
  ·rw[if_neg c1]at h
   exact G8 c1 (ih _ _ _ _ h (by omega) hs k)
theorem x4 (K:Nat)(r:List Int):∀ (c:Nat) (s:List Bool) (w:List Int) (a:Nat) (s':List Bool) (w':List Int) (a':Nat),AB6 K c s w a=some (s',w',a')→a<11→s.length=121→0<w.length→w.length+c≤56→rd w ((w.length:Int) - 1)=(a:Int)→
  Ev (fun k=>E7.l1 k 11 s' w') r→Ev (fun k=>E7.l1 k 11 s w) r:=by
 intro c
 induction c with
 |zero =>
  intro s w a s' w' a' h _ _ _ _ _ k
  unfold AB6 at h
  simp only[Option.some.injEq,Prod.mk.injEq]at h
  obtain⟨rfl,rfl,rfl⟩:=h
  exact k
 |succ c ih =>
  intro s w a s' w' a' h ha hs h0 hw hr k
  have e0:wrap64 (Int.tdiv (wrap64 (11* (wrap64 (11 - 1)))) 2)=55:=by decide +kernel
  have e1:wrap64 ((w.length:Int) - 1)=(w.length:Int) - 1:=by unfold wrap64;omega
  have e2:wrap64 ((11:Int) - 1)=((11:Nat):Int) - 1:=by decide +kernel
  refine Ev.step (fun k=>by simp only[E7.l1];rfl) ?_
  rw[e0,e1,e2,hr]
  refine ep (ep (ep ?_))
  unfold AB6 at h
  split at h
  ·rename_i s1 b hb
   by_cases c1:0≤b∧b<11
   ·rw[if_pos c1]at h
    obtain⟨b,rfl⟩:=Int.eq_ofNat_of_zero_le c1.1
    have hb11:b<11:=by omega
    rw[Int.toNat_natCast]at h
    refine At3 K a ha w r 11 s (-1) s1 (b:Int) hb (by omega) hs (fun hs1=>?_)
    clear e0 e1 e2
    have q1:(0:Int)≤((a*11+b:Nat):Int):=Int.natCast_nonneg _
    have q2:((a*11+b:Nat):Int)< (s1.length:Int):=by rw[hs1];omega
    have q3:(0:Int)≤((b*11+a:Nat):Int):=Int.natCast_nonneg _
    have q4:((b*11+a:Nat):Int)< (s1.length:Int):=by rw[hs1];omega
    have q5:w.length<17592186044416:=by omega
    have g1:=Ac9 a b ha hb11
    have g2:=Ac9 b a hb11 ha
    refine Ev.step (fun k=>by simp only[E7.l2];rfl) (G8 (by decide) ?_)
    simp only[g1,g2,Int.toNat_natCast]
    refine D9 q1 ?_
    refine D9 q2 ?_
    refine D9 q3 ?_
    refine D9 q4 ?_
    refine D9 q5 ?_
    clear g1 g2
    refine ih _ _ _ _ _ _ h hb11 (by simp only[List.length_set];exact hs1) (by simp) (by simp;omega) ?_ k
    rw[List.length_append,List.length_singleton,show((w.length+1:Nat):Int) - 1=(w.length:Int)by omega]
    simp[rd,o9]
   ·rw[if_neg c1]at h
    cases h
  ·cases h
def AF1:List Int:=[0,1,2,0,3,1,4,0,5,1,6,0,7,1,8,0,9,1,10,2,3,4,2,5,3,6,2,7,3,8,2,9,3,10,4,5,6,4,7,5,8,4,9,5,10,6,7,8,6,9,7,10,8,9,10]
def o5:List Int:=[0,1,2,0,3,1,4,0,5,1,6,0,7,1,8,0,9,1,10,2,3,4,2,5,3,6,2,7,3,8,2,9,3,10,4,5,6,4,7,5,8,4,9,5,10,6,7,8,6,9,7,10,8,9,10,0]
theorem BG0:AB6 600 5 (AC0 1328903397983747395279166325955489790) (o5.take 1) 0=some (AC0 1328903397983747395279166300173076464,o5.take 6,1):=by kernel_rfl
theorem BH1:AB6 600 5 (AC0 1328903397983747395279166300173076464) (o5.take 6) 1=some (AC0 1328903397983747247597074542881408960,o5.take 11,6):=by kernel_rfl
theorem BH9:AB6 600 5 (AC0 1328903397983747247597074542881408960) (o5.take 11) 6=some (AC0 1328903397054838797163707555927557632,o5.take 16,0):=by kernel_rfl
theorem BH2:AB6 600 5 (AC0 1328903397054838797163707555927557632) (o5.take 16) 0=some (AC0 1321113050291136213376809527687513088,o5.take 21,3):=by kernel_rfl
theorem BI3:AB6 600 5 (AC0 1321113050291136213376809527687513088) (o5.take 21) 3=some (AC0 1321113050291135622648441536247759872,o5.take 26,6):=by kernel_rfl
theorem BG7:AB6 600 5 (AC0 1321113050291135622648441536247759872) (o5.take 26) 6=some (AC0 1321113046575501820914970288021570560,o5.take 31,2):=by kernel_rfl
theorem BI7:AB6 600 5 (AC0 1321113046575501820914970288021570560) (o5.take 31) 2=some (AC0 1289951659520691485172327032773673984,o5.take 36,5):=by kernel_rfl
theorem BH8:AB6 600 5 (AC0 1289951659520691485172327032773673984) (o5.take 36) 5=some (AC0 1289951649609914058052456142082147328,o5.take 41,8):=by kernel_rfl
theorem BJ1:AB6 600 5 (AC0 1289951649609914058052456142082147328) (o5.take 41) 8=some (AC0 1165306096438836947103098275373253632,o5.take 46,6):=by kernel_rfl
theorem BE9:AB6 600 5 (AC0 1165306096438836947103098275373253632) (o5.take 46) 6=some (AC0 1165184342434298753011619787505140736,o5.take 51,7):=by kernel_rfl
theorem Az7:AB6 600 5 (AC0 1165184342434298753011619787505140736) (o5.take 51) 7=some (AC0 0,o5.take 56,0):=by kernel_rfl
def AX5 (s:List Bool)(i:Nat):List Bool:=s.set i ((wrap64 (Int.tdiv (i:Int) 11)) != (Int.tmod (i:Int) 11))
theorem BF3:(List.range' 0 121).foldl AX5 (List.replicate 121 false)=AC0 1328903397983747395279166325955489790:=by kernel_rfl
theorem Ab4 (s:List Bool)(i:Nat):(AX5 s i).length=s.length:=by unfold AX5;rw[List.length_set]
theorem BG6:Ev (fun k=>E7.f k 11) AF1:=by
 have e0:wrap64 ((11:Int)*11)=((121:Nat):Int):=by decide +kernel
 unfold E7.f
 rw[e0,Int.toNat_natCast]
 clear e0
 refine ep ?_
 refine ep ?_
 refine D8 rfl ?_
 rw[List.length_replicate]
 refine AL8 (fun s i k=>E7.l0 k 11 s ((121:Nat):Int) (i:Int)) AX5 (fun _ s=>s.length=121) 121 (fun s i hi hs=>⟨by rw[Ab4,hs],fun r hr=>?_⟩) 121 0 _ (by omega) (by rw[List.length_replicate]) (fun _=>?_)
 ·refine Ev.step (fun k=>by simp only[E7.l0];rfl) ?_
  refine ep ?_
  refine G8 (by decide) ?_
  refine ep ?_
  refine D9 (by rw[hs];omega) ?_
  rw[Int.toNat_natCast,E2 (i:=i) (by omega)]
  exact hr
 ·rw[BF3]
  refine Ev.step (fun k=>by simp only[E7.l0];rfl) ?_
  refine en ?_
  have hL:∀m,(AC0 m).length=121:=fun m=>by unfold AC0;rw[List.length_map,List.length_range]
  have hW:∀d,d≤56→(o5.take d).length=d:=fun d hd=>by rw[List.length_take];exact Nat.min_eq_left hd
  have h0:([0]:List Int)=o5.take 1:=rfl
  rw[h0]
  refine x4 600 AF1 5 _ _ _ _ _ _ BG0 (by omega) (hL _) (by rw[hW _ (by omega)];omega) (by rw[hW _ (by omega)];omega) (by rw[hW _ (by omega)];rfl) ?_
  refine x4 600 AF1 5 _ _ _ _ _ _ BH1 (by omega) (hL _) (by rw[hW _ (by omega)];omega) (by rw[hW _ (by omega)];omega) (by rw[hW _ (by omega)];rfl) ?_
  refine x4 600 AF1 5 _ _ _ _ _ _ BH9 (by omega) (hL _) (by rw[hW _ (by omega)];omega) (by rw[hW _ (by omega)];omega) (by rw[hW _ (by omega)];rfl) ?_
  refine x4 600 AF1 5 _ _ _ _ _ _ BH2 (by omega) (hL _) (by rw[hW _ (by omega)];omega) (by rw[hW _ (by omega)];omega) (by rw[hW _ (by omega)];rfl) ?_
  refine x4 600 AF1 5 _ _ _ _ _ _ BI3 (by omega) (hL _) (by rw[hW _ (by omega)];omega) (by rw[hW _ (by omega)];omega) (by rw[hW _ (by omega)];rfl) ?_
  refine x4 600 AF1 5 _ _ _ _ _ _ BG7 (by omega) (hL _) (by rw[hW _ (by omega)];omega) (by rw[hW _ (by omega)];omega) (by rw[hW _ (by omega)];rfl) ?_
  refine x4 600 AF1 5 _ _ _ _ _ _ BI7 (by omega) (hL _) (by rw[hW _ (by omega)];omega) (by rw[hW _ (by omega)];omega) (by rw[hW _ (by omega)];rfl) ?_
  refine x4 600 AF1 5 _ _ _ _ _ _ BH8 (by omega) (hL _) (by rw[hW _ (by omega)];omega) (by rw[hW _ (by omega)];omega) (by rw[hW _ (by omega)];rfl) ?_
  refine x4 600 AF1 5 _ _ _ _ _ _ BJ1 (by omega) (hL _) (by rw[hW _ (by omega)];omega) (by rw[hW _ (by omega)];omega) (by rw[hW _ (by omega)];rfl) ?_
  refine x4 600 AF1 5 _ _ _ _ _ _ BE9 (by omega) (hL _) (by rw[hW _ (by omega)];omega) (by rw[hW _ (by omega)];omega) (by rw[hW _ (by omega)];rfl) ?_
  refine x4 600 AF1 5 _ _ _ _ _ _ Az7 (by omega) (hL _) (by rw[hW _ (by omega)];omega) (by rw[hW _ (by omega)];omega) (by rw[hW _ (by omega)];rfl) ?_
  have e1:wrap64 (Int.tdiv (wrap64 (11* (wrap64 (11 - 1)))) 2)=55:=by decide +kernel
  have e2:wrap64 (((o5.take 56).length:Int) - 1)=55:=by rw[hW _ (by omega)];decide +kernel
  refine Ev.step (fun k=>by simp only[E7.l1];rfl) ?_
  rw[e1,e2,hW 56 (by omega)]
  clear e1 e2
  refine G8 (by decide) ?_
  refine D9 (by decide) ?_
  refine D9 (by decide) ?_
  exact C7 rfl
def AH6 (n:Nat):Bool:=match C0.f 1000 (n:Int),R9.f 1000 (n:Int)with
 |some (r,true),some (s,true)=>decide (r=s)&& (decide (r.length≤1000)&&okL r)
 |_,_=>false
theorem BA3:AH6 3=true:=by kernel_rfl
theorem Av7:AH6 5=true:=by kernel_rfl
theorem Aw7:AH6 7=true:=by kernel_rfl
theorem Ax7:AH6 9=true:=by kernel_rfl
theorem BJ6:C0.f 1000 11=some (AF1,true):=by kernel_rfl
theorem Af7 (n:Nat)(h:AH6 n=true):∃r:List Int,x2 r∧Ev (fun q=>C0.f q (n:Int)) (r,true)∧Ev (fun q=>R9.f q (n:Int)) (r,true):=by
 unfold AH6 at h
 split at h
 ·rename_i r s h1 h2
  rw[Bool.and_eq_true,Bool.and_eq_true,decide_eq_true_eq,decide_eq_true_eq]at h
  obtain⟨rfl,hl,ho⟩:=h
  exact⟨_,⟨by omega,Ad0 ho⟩,Ev.of (fun k=>C0.mono _ k) h1,Ev.of (fun k=>R9.mono _ k) h2⟩
 ·cases h
theorem Af3 (n:Int):∃r:List Int,∃b:Bool,x2 r∧Ev (fun q=>C0.f q n) (r,b)∧Ev (fun q=>R9.f q n) (r,b):=by
 by_cases h:inB n 2 11=true
 ·by_cases h2:Int.tmod n 2=0
  ·refine⟨[],false,AA4,?_,?_⟩
   ·unfold C0.f
    exact D8 (H9 _ _ _) (D9 h (D9 h2 (Ev.now _)))
   ·unfold R9.f X6.f
    refine D8 (by rw[J6];rfl) ?_
    exact D9 h (D9 h2 (Ev.now _))
  ·have h1:=I3.mp h
   have key:∀m:Nat,n=(m:Int)→AH6 m=true→∃r:List Int,∃b:Bool,x2 r∧Ev (fun q=>C0.f q n) (r,b)∧Ev (fun q=>R9.f q n) (r,b):=by
    rintro m rfl hm
    obtain⟨r,q1,q2,q3⟩:=Af7 m hm
    exact⟨r,true,q1,q2,q3⟩
   have h5:n=2∨n=3∨n=4∨n=5∨n=6∨n=7∨n=8∨n=9∨n=10∨n=11:=by omega
   rcases h5 with rfl|rfl|rfl|rfl|rfl|rfl|rfl|rfl|rfl|rfl
   ·exact absurd rfl h2
   ·exact key 3 rfl BA3
   ·exact absurd rfl h2
   ·exact key 5 rfl Av7
   ·exact absurd rfl h2
   ·exact key 7 rfl Aw7
   ·exact absurd rfl h2
   ·exact key 9 rfl Ax7
   ·exact absurd rfl h2
   ·refine⟨AF1,true,⟨by decide,Ad0 (by decide)⟩,Ev.of (fun k=>C0.mono _ k) BJ6,?_⟩
    unfold R9.f X6.f
    refine D8 (by rw[J6];rfl) ?_
    exact D9 h (G8 h2 (C6 BG6 (Ev.now _)))
 ·refine⟨[],false,AA4,?_,?_⟩
  ·unfold C0.f
   exact D8 (H9 _ _ _) (G8 h (Ev.now _))
  ·unfold R9.f X6.f
   refine D8 (by rw[J6];rfl) ?_
   exact G8 h (Ev.now _)
end Go.Proofs.YtpiogigidgejpaaGreatDoor.Pure
