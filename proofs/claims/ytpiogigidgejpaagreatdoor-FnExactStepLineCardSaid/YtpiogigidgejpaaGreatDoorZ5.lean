import Derived.Test.YtpiogigidgejpaaGreatDoorZ0
import Derived.Test.YtpiogigidgejpaaGreatDoorY0
import Derived.Test.YtpiogigidgejpaaGreatDoorZ3
import Derived.Test.YtpiogigidgejpaaGreatDoorZ4
import Derived.Test.YtpiogigidgejpaaGreatDoorConD
import Derived.Test.YtpiogigidgejpaaGreatDoorConH
import Derived.Test.YtpiogigidgejpaaGreatDoorConI
import Derived.Test.YtpiogigidgejpaaGreatDoorConJ
import Derived.Test.YtpiogigidgejpaaGreatDoorPFnExactStepLinex15
import Derived.Test.YtpiogigidgejpaaGreatDoorPFnExactStepLinex17
namespace Go.Proofs.YtpiogigidgejpaaGreatDoor.Pure
open Go.RowKit Go.Proofs.YtpiogigidgejpaaGreatDoor.PFnExactStepLine Go.Proofs.YtpiogigidgejpaaGreatDoorW.PrintWords Go.Proofs.YtpiogigidgejpaaGreatDoorW.PrintLast Go.Proofs.YtpiogigidgejpaaGreatDoor.Base
set_option maxRecDepth 10000
set_option linter.unusedVariables false
set_option linter.unusedSimpArgs false
theorem Ac8 (n:Nat)(h:n≤1000000000):S1.f (n:Int)=some (Y4 (Lib.decDigits n)):=by
 unfold S1.f
 rw[if_pos (by omega)]
 unfold Lib.itoa
 rw[if_neg (by omega)]
 rfl
theorem AY9 (n:Nat)(b:Bool)(h:n≤1000000000):m8.f (n:Int) b=some (Y4 (Lib.decDigits n),b):=by
 unfold m8.f
 rw[Ac8 n h];rfl
theorem AH3 (l:List Int)(b:Bool)(h:x2 l):Ev (fun k=>U7.f k l b) (Y4 (x6 l),b):=by
 unfold U7.f
 exact C6 (AL0 l h.1 h.2) (C7 rfl)
theorem AE6 (l:List Int)(b:Bool)(h:x2 l):Ev (fun k=>S8.f k l b) (if b=true then Y4 (x6 l)else⟨#[110,111]⟩):=by
 unfold S8.f
 cases b with
 |true=>exact D9 rfl (C6 (AF2 l h.1 h.2) (C7 rfl))
 |false=>exact G8 (by simp) (C7 rfl)
theorem Aa6 (n:Nat)(b:Bool)(h:n≤1000000000):Ev (fun k=>l9.f k (n:Int) b) (if b=true then Y4 (Lib.decDigits n)else⟨#[110,111]⟩):=by
 unfold l9.f
 cases b with
 |true=>exact D9 rfl (C6 (AA5 n h) (C7 rfl))
 |false=>exact G8 (by simp) (C7 rfl)
def AI1 (a:ByteArray) (x l n:List Int):Prop:=∃out rep ok,(ok=true→X1 out=true)∧Ev (fun k=>P4.f k x a n l) (out,rep,ok)∧Ev (fun k=>I7.f k x l n a) (if ok=true then(rep,out)else((⟨#[110,111]⟩:ByteArray),x))
theorem BT8 (b:Bool) (s t:ByteArray)(x:List Int):(((if b=true then s else t),x):ByteArray×List Int)=if b=true then(s,x)else(t,x):=by cases b<;>rfl
theorem AR7 (x l:List Int)(b:Bool)(s:ByteArray):H5.f x l b s=if b=true then(s,l)else((⟨#[110,111]⟩:ByteArray),x):=rfl
theorem ch {P Q:Prop} (h:Q)(f:Q→P:=by
 intro h_
 repeat(first
  |(with_reducible refine D9 hw ?_)
  |((with_reducible refine G8 ?_ ?_);(focus (rw[hw];decide)))
  |((with_reducible refine D9 ?_ ?_);(focus (simp;done))))
 exact h_):P:=f h
theorem Z0 (a:ByteArray) (x l n:List Int)(hx:X1 x=true)(rep:ByteArray)(ok:Bool)
  (hi:Ev (fun k=>E6.f k x a n l) (rep,ok)) (hr:Ev (fun k=>I7.f k x l n a) ((if ok=true then rep else(⟨#[110,111]⟩:ByteArray)),x))
  (hs:a.toList≠[116,97,107,101]∧a.toList≠[110,101,120,116]∧a.toList≠[116,114,111,116]∧a.toList≠[115,119,97,112]∧a.toList≠[114,101,118,101,114,115,101]∧a.toList≠[114,111,116,97,116,101]:=by rw[hw];decide):AI1 a x l n:=by
 obtain⟨h1,h2,h3,h4,h5,h6⟩:=hs
 have hg:=AR2 hx
 refine⟨x,rep,ok,fun _=>hx,?_,?_⟩
 ·unfold P4.f
  exact G8 h1 (G8 h2 (G8 h3 (G8 h4 (G8 h5 (G8 h6 (C6 hi (D8 (m0 x (by have:=hg.1;omega)) (C7 rfl))))))))
 ·rw[BT8]at hr;exact hr
theorem BL7 (a:ByteArray)(hw:a.toList=[116,97,107,101]) (x l:List Int)(hx:X1 x=true)(hl:x2 l):AI1 a x l []:=by
 have hp1:=X0 l
 have hp2:=k5 l (by have:=hl.1;omega)
 refine⟨l,⟨#[111,107]⟩,X1 l,fun h=>h,?_,?_⟩
 ·unfold P4.f
  exact D9 hw (D8 (m0 l (by have:=hl.1;omega)) (C6 hp1 (C7 rfl)))
 ·unfold I7.f K3.f
  exact D9 hw (D9 hw (C6 hp2 (C7 (AR7 _ _ _ _))))
theorem BO3 (a:ByteArray)(hw:a.toList=[110,101,120,116]) (x l:List Int)(hx:X1 x=true)(hl:x2 l):AI1 a x l []:=by
 obtain⟨y,b,hy,_,e1,e2⟩:=BI0 x hx
 refine⟨y,⟨#[111,107]⟩,b,hy,?_,?_⟩
 ·unfold P4.f
  refine ch ?_
  exact(C6 e1 (C7 rfl))
 ·unfold I7.f K3.f
  refine ch ?_
  exact(C6 e2 (C7 (AR7 _ _ _ _)))
theorem BQ2 (a:ByteArray)(hw:a.toList=[116,114,111,116]) (x l:List Int)(hx:X1 x=true)(hl:x2 l):AI1 a x l []:=by
 obtain⟨y,p,b,hp,hy,_,e1,e2⟩:=BE3 x hx
 refine⟨y,Y4 (Lib.decDigits p),b,hy,?_,?_⟩
 ·unfold P4.f
  refine ch ?_
  exact(C6 e1 (D8 (Ac8 p (by omega)) (C7 rfl)))
 ·unfold I7.f K3.f
  refine ch ?_
  exact(C6 e2 (C6 (AA5 p (by omega)) (C7 (AR7 _ _ _ _))))
theorem BP5 (a:ByteArray)(hw:a.toList=[115,119,97,112]) (x l:List Int)(hx:X1 x=true)(hl:x2 l)(n0:Nat)(hn0:n0≤999999)(n1:Nat)(hn1:n1≤999999):AI1 a x l [(n0:Int),(n1:Int)]:=by
 obtain⟨y,b,hy,_,e1,e2⟩:=AZ1 x 0 n0 n1 hx (by omega) (by omega) (by omega) (by omega)
 refine⟨y,⟨#[111,107]⟩,b,hy,?_,?_⟩
 ·unfold P4.f
  refine ch ?_
  exact(C6 e1 (C7 rfl))
 ·unfold I7.f K3.f
  refine ch ?_
  exact(C6 e2 (C7 (AR7 _ _ _ _)))
theorem As5 (a:ByteArray)(hw:a.toList=[114,101,118,101,114,115,101]) (x l:List Int)(hx:X1 x=true)(hl:x2 l)(n0:Nat)(hn0:n0≤999999):AI1 a x l [(n0:Int)]:=by
 obtain⟨y,b,hy,_,e1,e2⟩:=AZ1 x 1 n0 0 hx (by omega) (by omega) (by omega) (by omega)
 refine⟨y,⟨#[111,107]⟩,b,hy,?_,?_⟩
 ·unfold P4.f
  refine ch ?_
  exact(C6 e1 (C7 rfl))
 ·unfold I7.f K3.f
  refine ch ?_
  exact(C6 e2 (C7 (AR7 _ _ _ _)))
theorem BA2 (a:ByteArray)(hw:a.toList=[114,111,116,97,116,101]) (x l:List Int)(hx:X1 x=true)(hl:x2 l)(n0:Nat)(hn0:n0≤999999):AI1 a x l [(n0:Int)]:=by
 obtain⟨y,b,hy,_,e1,e2⟩:=AZ1 x 2 n0 0 hx (by omega) (by omega) (by omega) (by omega)
 refine⟨y,⟨#[111,107]⟩,b,hy,?_,?_⟩
 ·unfold P4.f
  refine ch ?_
  exact(C6 e1 (C7 rfl))
 ·unfold I7.f K3.f
  refine ch ?_
  exact(C6 e2 (C7 (AR7 _ _ _ _)))
theorem BQ4 (a:ByteArray)(hw:a.toList=[115,104,111,119]) (x l:List Int)(hx:X1 x=true)(hl:x2 l):AI1 a x l []:=by
 have hg:=AR2 hx
 refine Z0 a x l _ hx (Y4 (x6 x)) (true) ?_ ?_
 ·unfold E6.f
  refine ch ?_
  exact(C6 (AH3 x true hg) (C7 rfl))
 ·unfold I7.f
  refine ch ?_
  exact(C6 (AF2 x hg.1 hg.2) (C7 rfl))
theorem BM5 (a:ByteArray)(hw:a.toList=[114,97,110,107]) (x l:List Int)(hx:X1 x=true)(hl:x2 l):AI1 a x l []:=by
 obtain⟨r,hr,e1,e2⟩:=BI1 x hx
 refine Z0 a x l _ hx (Y4 (Lib.decDigits r)) (true) ?_ ?_
 ·unfold E6.f
  refine ch ?_
  exact(C6 e1 (D8 (AY9 r true (by omega)) (C7 rfl)))
 ·unfold I7.f
  refine ch ?_
  exact(C6 e2 (C6 (AA5 r (by omega)) (C7 rfl)))
theorem BQ5 (a:ByteArray)(hw:a.toList=[115,105,103,110]) (x l:List Int)(hx:X1 x=true)(hl:x2 l):AI1 a x l []:=by
 have hg:=AR2 hx
 have hx12:=(AC1.mp hx).1
 have e1:=Ap8 x (by omega)
 have e2:=Ai7 x (by omega)
 have hs:Ab0 x=1∨Ab0 x= -1:=by unfold Ab0;split<;>simp
 refine Z0 a x l _ hx (if Ab0 x=1 then⟨#[101,118,101,110]⟩else⟨#[111,100,100]⟩) true ?_ ?_
 ·unfold E6.f
  refine ch ?_
  refine(C6 e1 ?_)
  exact X2 (fun h=>C7 (by rw[if_pos h])) (fun h=>C7 (by rw[if_neg h]))
 ·unfold I7.f
  refine ch ?_
  refine(C6 e2 (C7 ?_))
  rcases hs with h|h
  ·rw[h];rfl
  ·rw[h];rfl
theorem BQ3 (a:ByteArray)(hw:a.toList=[103,114,97,121]) (x l:List Int)(hx:X1 x=true)(hl:x2 l)(n0:Nat)(hn0:n0≤999999)(n1:Nat)(hn1:n1≤999999):AI1 a x l [(n0:Int),(n1:Int)]:=by
 obtain⟨v,b,hv,e1,e2⟩:=BI6 n0 n1
 refine Z0 a x l _ hx (Y4 (Lib.decDigits v)) (b) ?_ ?_
 ·unfold E6.f
  refine ch ?_
  exact(D8 e1 (D8 (AY9 v b (by omega)) (C7 rfl)))
 ·unfold I7.f G7.f
  refine ch ?_
  refine(C6 (a:=if(b)=true then(Y4 (Lib.decDigits v))else(⟨#[110,111]⟩:ByteArray)) ?_ (C7 rfl))
  refine ch ?_
  exact(C6 e2 (Aa6 v b (by omega)))
theorem Aw4 (a:ByteArray)(hw:a.toList=[117,110,103,114,97,121]) (x l:List Int)(hx:X1 x=true)(hl:x2 l)(n0:Nat)(hn0:n0≤999999)(n1:Nat)(hn1:n1≤999999):AI1 a x l [(n0:Int),(n1:Int)]:=by
 obtain⟨v,b,hv,e1,e2⟩:=Ar8 n0 n1
 refine Z0 a x l _ hx (Y4 (Lib.decDigits v)) (b) ?_ ?_
 ·unfold E6.f
  refine ch ?_
  exact(C6 e1 (D8 (AY9 v b (by omega)) (C7 rfl)))
 ·unfold I7.f G7.f
  refine ch ?_
  refine(C6 (a:=if(b)=true then(Y4 (Lib.decDigits v))else(⟨#[110,111]⟩:ByteArray)) ?_ (C7 rfl))
  refine ch ?_
  exact(C6 e2 (Aa6 v b (by omega)))
theorem BF0 (a:ByteArray)(hw:a.toList=[109,105,120,101,100]) (x l:List Int)(hx:X1 x=true)(hl:x2 l)(n0:Nat)(hn0:n0≤999999):AI1 a x l [(n0:Int)]:=by
 obtain⟨y,b,hy,e1,e2⟩:=Az3 l n0 hl.1
 refine Z0 a x l _ hx (Y4 (x6 y)) (b) ?_ ?_
 ·unfold E6.f
  refine ch ?_
  exact(C6 e1 (C6 (AH3 y b hy) (C7 rfl)))
 ·unfold I7.f G7.f
  refine ch ?_
  refine(C6 (a:=if(b)=true then(Y4 (x6 y))else(⟨#[110,111]⟩:ByteArray)) ?_ (C7 rfl))
  refine ch ?_
  exact(C6 e2 (AE6 y b hy))
theorem Av8 (a:ByteArray)(hw:a.toList=[99,104,111,111,115,101]) (x l:List Int)(hx:X1 x=true)(hl:x2 l)(n0:Nat)(hn0:n0≤999999)(n1:Nat)(hn1:n1≤999999)(n2:Nat)(hn2:n2≤999999):AI1 a x l [(n0:Int),(n1:Int),(n2:Int)]:=by
 obtain⟨y,b,hy,e1,e2⟩:=BH7 n0 n1 n2 hn1 hn0 hn2
 refine Z0 a x l _ hx (Y4 (x6 y)) (b) ?_ ?_
 ·unfold E6.f
  refine ch ?_
  exact(C6 e1 (C6 (AH3 y b hy) (C7 rfl)))
 ·unfold I7.f G7.f
  refine ch ?_
  refine(C6 (a:=if(b)=true then(Y4 (x6 y))else(⟨#[110,111]⟩:ByteArray)) ?_ (C7 rfl))
  refine ch ?_
  exact(C6 e2 (AE6 y b hy))
theorem Ar7 (a:ByteArray)(hw:a.toList=[114,101,118,111,108,118,101]) (x l:List Int)(hx:X1 x=true)(hl:x2 l)(n0:Nat)(hn0:n0≤999999)(n1:Nat)(hn1:n1≤999999)(n2:Nat)(hn2:n2≤999999):AI1 a x l [(n0:Int),(n1:Int),(n2:Int)]:=by
 obtain⟨y,b,hy,e1,e2⟩:=BO4 n0 n1 n2 hn1 hn0 hn2
 refine Z0 a x l _ hx (Y4 (x6 y)) (b) ?_ ?_
 ·unfold E6.f
  refine ch ?_
  exact(C6 e1 (C6 (AH3 y b hy) (C7 rfl)))
 ·unfold I7.f G7.f
  refine ch ?_
  refine(C6 (a:=if(b)=true then(Y4 (x6 y))else(⟨#[110,111]⟩:ByteArray)) ?_ (C7 rfl))
  refine ch ?_
  exact(C6 e2 (AE6 y b hy))
theorem BA4 (a:ByteArray)(hw:a.toList=[103,114,111,119,116,104]) (x l:List Int)(hx:X1 x=true)(hl:x2 l)(n0:Nat)(hn0:n0≤999999)(n1:Nat)(hn1:n1≤999999):AI1 a x l [(n0:Int),(n1:Int)]:=by
 obtain⟨y,b,hy,e1,e2⟩:=Ar2 n0 n1 hn1
 refine Z0 a x l _ hx (Y4 (x6 y)) (b) ?_ ?_
 ·unfold E6.f
  refine ch ?_
  exact(C6 e1 (C6 (AH3 y b hy) (C7 rfl)))
 ·unfold I7.f G7.f
  refine ch ?_
  refine(C6 (a:=if(b)=true then(Y4 (x6 y))else(⟨#[110,111]⟩:ByteArray)) ?_ (C7 rfl))
  refine ch ?_
  exact(C6 e2 (AE6 y b hy))
theorem Ap7 (a:ByteArray)(hw:a.toList=[98,97,108,97,110,99,101,100]) (x l:List Int)(hx:X1 x=true)(hl:x2 l)(n0:Nat)(hn0:n0≤999999)(n1:Nat)(hn1:n1≤999999):AI1 a x l [(n0:Int),(n1:Int)]:=by
 obtain⟨y,b,hy,e1,e2⟩:=Ak8 n0 n1 hn1
 refine Z0 a x l _ hx (Y4 (x6 y)) (b) ?_ ?_
 ·unfold E6.f
  refine ch ?_
  exact(C6 e1 (C6 (AH3 y b hy) (C7 rfl)))
 ·unfold I7.f G7.f
  refine ch ?_
  refine(C6 (a:=if(b)=true then(Y4 (x6 y))else(⟨#[110,111]⟩:ByteArray)) ?_ (C7 rfl))
  refine ch ?_
  exact(C6 e2 (AE6 y b hy))
theorem BA0 (a:ByteArray)(hw:a.toList=[98,114,117,105,106,110]) (x l:List Int)(hx:X1 x=true)(hl:x2 l)(n0:Nat)(hn0:n0≤999999)(n1:Nat)(hn1:n1≤999999):AI1 a x l [(n0:Int),(n1:Int)]:=by
 obtain⟨y,b,hy,e1,e2⟩:=Aw6 (n0:Int) (n1:Int)
 refine Z0 a x l _ hx (Y4 (x6 y)) (b) ?_ ?_
 ·unfold E6.f
  refine ch ?_
  exact(C6 e1 (C6 (AH3 y b hy) (C7 rfl)))
 ·unfold I7.f G7.f
  refine ch ?_
  refine(C6 (a:=if(b)=true then(Y4 (x6 y))else(⟨#[110,111]⟩:ByteArray)) ?_ (C7 rfl))
  refine ch ?_
  exact(C6 e2 (AE6 y b hy))
theorem BE6 (a:ByteArray)(hw:a.toList=[112,97,105,114,115]) (x l:List Int)(hx:X1 x=true)(hl:x2 l)(n0:Nat)(hn0:n0≤999999):AI1 a x l [(n0:Int)]:=by
 obtain⟨y,b,hy,e1,e2⟩:=Af3 (n0:Int)
 refine Z0 a x l _ hx (Y4 (x6 y)) (b) ?_ ?_
 ·unfold E6.f
  refine ch ?_
  exact(C6 e1 (C6 (AH3 y b hy) (C7 rfl)))
 ·unfold I7.f G7.f
  refine ch ?_
  refine(C6 (a:=if(b)=true then(Y4 (x6 y))else(⟨#[110,111]⟩:ByteArray)) ?_ (C7 rfl))
  refine ch ?_
  exact(C6 e2 (AE6 y b hy))
theorem BE5 (a:ByteArray)(hw:a.toList=[115,117,112,101,114]) (x l:List Int)(hx:X1 x=true)(hl:x2 l)(n0:Nat)(hn0:n0≤999999):AI1 a x l [(n0:Int)]:=by
 obtain⟨y,b,hy,e1,e2⟩:=Ap5 (n0:Int)
 refine Z0 a x l _ hx (Y4 (x6 y)) (b) ?_ ?_
 ·unfold E6.f
  refine ch ?_
  exact(C6 e1 (C6 (AH3 y b hy) (C7 rfl)))
 ·unfold I7.f G7.f
  refine ch ?_
  refine(C6 (a:=if(b)=true then(Y4 (x6 y))else(⟨#[110,111]⟩:ByteArray)) ?_ (C7 rfl))
  refine ch ?_
  exact(C6 e2 (AE6 y b hy))
theorem Ax9 (a:ByteArray)(hw:a.toList=[104,97,108,118,101,115]) (x l:List Int)(hx:X1 x=true)(hl:x2 l)(n0:Nat)(hn0:n0≤999999)(n1:Nat)(hn1:n1≤999999):AI1 a x l [(n0:Int),(n1:Int)]:=by
 obtain⟨e,o,b,he,ho,e1,e2⟩:=As1 n0 n1 hn0 hn1
 have d1:=AM1 e
 have d2:=AM1 o
 have ei:=Ac8 e (by omega)
 have oi:=Ac8 o (by omega)
 have es:=AA5 e (by omega)
 have os:=AA5 o (by omega)
 have l1:(Y4 (Lib.decDigits e)).size=(Lib.decDigits e).length:=O7 _
 have l2:(Y4 (Lib.decDigits o)).size=(Lib.decDigits o).length:=O7 _
 have l3:(Y4 (Lib.decDigits e)++ (⟨#[32]⟩:ByteArray)).size=(Lib.decDigits e).length+1:=by rw[show(⟨#[32]⟩:ByteArray)=Y4 [32]from rfl,AM6,O7];simp
 refine Z0 a x l _ hx ((Y4 (Lib.decDigits e)++ (⟨#[32]⟩:ByteArray))++Y4 (Lib.decDigits o)) b ?_ ?_
 ·unfold E6.f
  refine ch ?_
  exact(C6 e1 (D8 ei (ep (D8 oi (ep (C7 rfl))))))
 ·unfold I7.f G7.f
  refine ch ?_
  refine(C6 (a:=if b=true then((Y4 (Lib.decDigits e)++ (⟨#[32]⟩:ByteArray))++Y4 (Lib.decDigits o))else(⟨#[110,111]⟩:ByteArray)) ?_ (C7 rfl))
  refine ch ?_
  refine(C6 e2 ?_)
  cases b with
  |true=>exact D9 rfl (C6 es (ep (C6 os (ep (C7 rfl)))))
  |false=>exact G8 (by simp) (C7 rfl)
def Aq3 (L:List (List Int)):List UInt8:=Lib.join (L.map x6) [124]
theorem AP7 (x:List UInt8)(r:List (List UInt8)):Lib.joinTail [124] (x::r)=[124]++x++Lib.joinTail [124] r:=by simp[Lib.joinTail]
theorem AQ9 (l:List Int)(h:x2 l):(x6 l).length≤1200000000:=by
 unfold x6
 split
 ·simp
 ·have h1:=As7 l h.2
  have h2:1000001*l.length≤1000001*1100:=Nat.mul_le_mul_left _ h.1
  omega
theorem BX4 (L:List (List Int))(h:∀l∈L,x2 l):(Lib.joinTail [124] (L.map x6)).length≤1200000001*L.length:=by
 induction L with
 |nil=>simp[Lib.joinTail]
 |cons l L ih =>
  have h1:=ih (fun l hl=>h l (by simp[hl]))
  have h2:=AQ9 l (h l (by simp))
  rw[List.map_cons,AP7]
  simp only[List.length_append,List.length_cons,List.length_nil]
  omega
theorem BN0 (L:List (List Int))(h:∀l∈L,x2 l)(hL:L.length≤24):(Aq3 L).length≤60000000000:=by
 unfold Aq3
 cases L with
 |nil=>simp[Lib.join_nil]
 |cons l L =>
  have h1:=BX4 L (fun l hl=>h l (by simp[hl]))
  have h2:=AQ9 l (h l (by simp))
  rw[List.map_cons,Lib.join_cons]
  simp only[List.length_append,List.length_cons]at hL ⊢
  omega
theorem AV0 (b:Bool)(L:List (List Int))(h:∀l∈L,x2 l)(hL:L.length≤24):∀ (d i:Nat) (s:List ByteArray),i+d=L.length→s.map (·.data.toList)=(L.take i).map x6→s.length=i→
  Ev (fun k=>E6.l0 k b s L (L.length:Int) (i:Int)) (Y4 (Aq3 L),b):=by
 intro d
 induction d with
 |zero =>
  intro i s hi hs hl
  rw[List.take_of_length_le (by omega)]at hs
  refine Ev.step (fun k=>by simp only[E6.l0];rfl) ?_
  refine en ?_
  have hj:=BN0 L h hL
  refine D8 (a:=Y4 (Aq3 L)) ?_ (C7 rfl)
  unfold s9.f
  rw[hs,if_pos ⟨by omega,by show(Aq3 L).length≤_;omega⟩]
  rfl
 |succ d ih =>
  intro i s hi hs hl
  have hlt:i<L.length:=by omega
  have hg:=h _ (e7 L i [] hlt)
  refine Ev.step (fun k=>by simp only[E6.l0];rfl) ?_
  rw[Av5,E2 (by omega)]
  refine ep (ep (ep (C6 (AL0 _ hg.1 hg.2) (ep (ih (i+1) _ (by omega) ?_ (by simp;omega))))))
  have e:L.take (i+1)=L.take i++ [L.getD i []]:=by
   rw[List.take_succ_eq_append_getElem hlt,List.getD_eq_getElem?_getD,List.getElem?_eq_getElem hlt];rfl
  rw[e,List.map_append,List.map_append,hs]
  simp[AG7]
theorem AV6 (L:List (List Int))(h:∀l∈L,x2 l)(hL:L.length≤24):∀ (d i:Nat) (s:List UInt8),i+d=L.length→0<i→s.length≤1200000002*i→
  Ev (fun k=>G7.l0 k L (Y4 s) (i:Int)) (Y4 (s++Lib.joinTail [124] ((L.drop i).map x6))):=by
 intro d
 induction d with
 |zero =>
  intro i s hi h0 hb
  rw[List.drop_eq_nil_of_le (by omega)]
  refine Ev.step (fun k=>by simp only[G7.l0];rfl) ?_
  exact en (C7 (by simp[Lib.joinTail]))
 |succ d ih =>
  intro i s hi h0 hb
  have hlt:i<L.length:=by omega
  have hg:=h _ (e7 L i [] hlt)
  have ht:=AQ9 _ hg
  refine Ev.step (fun k=>by simp only[G7.l0];rfl) ?_
  rw[Av5,E2 (by omega),show(⟨#[124]⟩:ByteArray)=Y4 [124]from rfl,AM6]
  refine ep (ep (ep (D9 (by rw[O7];omega) (C6 (AF2 _ hg.1 hg.2) ?_))))
  rw[AM6]
  refine D9 (by rw[O7,O7,List.length_append,List.length_singleton];omega) (S7 (ih (i+1) _ (by omega) (by omega) (by rw[List.length_append,List.length_append,List.length_singleton];omega)) ?_)
  rw[L9 L i [] hlt,List.map_cons,AP7]
  simp
theorem AY5 (L:List (List Int))(h:∀l∈L,x2 l)(hL:L.length≤24):Ev (fun k=>G7.l0 k L (⟨#[]⟩:ByteArray) 0) (Y4 (Aq3 L)):=by
 rw[show(⟨#[]⟩:ByteArray)=Y4 []from rfl]
 unfold Aq3
 cases L with
 |nil =>
  refine Ev.step (fun k=>by simp only[G7.l0];rfl) ?_
  exact G8 (by simp) (C7 rfl)
 |cons l L =>
  have hg:=h l (by simp)
  have ht:=AQ9 _ hg
  refine Ev.step (fun k=>by simp only[G7.l0];rfl) ?_
  rw[show k9 (l::L) 0=l from rfl,show wrap64 (0+1)=((1:Nat):Int)from by unfold wrap64;omega]
  refine D9 (by simp) (ep (en (C6 (AF2 _ hg.1 hg.2) ?_)))
  rw[AM6,List.nil_append]
  refine D9 (by rw[O7,O7];simp;omega) (S7 (AV6 (l::L) h hL L.length 1 _ (by simp;omega) (by omega) (by omega)) ?_)
  rw[List.drop_one,List.tail_cons,List.map_cons,Lib.join_cons]
theorem At2 (a:ByteArray)(hw:a.toList=[102,97,99,116,111,114,115]) (x l:List Int)(hx:X1 x=true)(hl:x2 l):AI1 a x l []:=by
 obtain⟨L,b,hL,hG,e1,e2⟩:=Ap3 l hl.1
 have hg:∀l∈L,x2 l:=fun l hl=>(hG l hl).2
 refine Z0 a x l _ hx (Y4 (Aq3 L)) b ?_ ?_
 ·unfold E6.f
  refine ch ?_
  exact(C6 e1 (AV0 b L hg hL L.length 0 [] (by omega) (by simp) rfl))
 ·unfold I7.f G7.f
  refine ch ?_
  refine(C6 (a:=if b=true then Y4 (Aq3 L)else(⟨#[110,111]⟩:ByteArray)) ?_ (C7 rfl))
  refine ch ?_
  refine(C6 e2 ?_)
  cases b with
  |true=>exact D9 rfl (AY5 L hg hL)
  |false=>exact G8 (by simp) (C7 rfl)
end Go.Proofs.YtpiogigidgejpaaGreatDoor.Pure
namespace Go.Proofs.YtpiogigidgejpaaGreatDoor.Pure
open Go.RowKit Go.Proofs.YtpiogigidgejpaaGreatDoor.PFnExactStepLine Go.Proofs.YtpiogigidgejpaaGreatDoorW.PrintWords Go.Proofs.YtpiogigidgejpaaGreatDoorW.PrintLast Go.Proofs.YtpiogigidgejpaaGreatDoor.Base
set_option maxRecDepth 10000
set_option linter.unusedVariables false
set_option linter.unusedSimpArgs false
def CW:List (List UInt8×List UInt8):=[([116,97,107,101],[108]),([102,97,99,116,111,114,115],[108]),([110,101,120,116],[]),([116,114,111,116],[]),([115,104,111,119],[]),([114,97,110,107],[]),([115,105,103,110],[]),([115,119,97,112],[110,110]),([103,114,97,121],[110,110]),([117,110,103,114,97,121],[110,110]),([104,97,108,118,101,115],[110,110]),([103,114,111,119,116,104],[110,110]),([98,97,108,97,110,99,101,100],[110,110]),([98,114,117,105,106,110],[110,110]),([114,101,118,101,114,115,101],[110]),([114,111,116,97,116,101],[110]),([112,97,105,114,115],[110]),([115,117,112,101,114],[110]),([109,105,120,101,100],[108,110]),([99,104,111,111,115,101],[110,110,110]),([114,101,118,111,108,118,101],[110,110,110])]
def AP4 (w:List UInt8):Option (List UInt8):=(CW.find? fun p=>w==p.1).map (·.2)
theorem AU0 (w s:List UInt8)(h:AP4 w=some s):(w,s)∈CW:=by
 unfold AP4 at h
 obtain⟨⟨u,v⟩,h1,rfl⟩:=Option.map_eq_some_iff.mp h
 have h2:=List.find?_some h1
 obtain rfl:w=u:=by simpa using h2
 exact List.mem_of_find?_eq_some h1
theorem Ay1 (w:List UInt8)(h:AP4 w=none):∀p∈CW,¬w=p.1:=by
 unfold AP4 at h
 have h:=List.find?_eq_none.mp (Option.map_eq_none_iff.mp h)
 exact fun p hp e=>h p hp (by simp[e])
theorem ten {α:Type} {g:Nat→Option α} {r:α} (h:∀m,g (m+10)=some r):Ev g r:=⟨10,fun k hk=>by
 obtain⟨m,rfl⟩:∃m,k=m+10:=⟨k - 10,by omega⟩
 exact h m⟩
theorem BF9 (p:List UInt8×List UInt8)(hp:p∈CW)(a:ByteArray)(h:a.toList=p.1):Ev (fun k=>G5.f k a) (Y4 p.2,true)∧Ev (fun k=>F9.f k a) (Y4 p.2):=by
 simp only[CW,List.mem_cons,List.not_mem_nil,or_false]at hp
 rcases hp with rfl|rfl|rfl|rfl|rfl|rfl|rfl|rfl|rfl|rfl|rfl|rfl|rfl|rfl|rfl|rfl|rfl|rfl|rfl|rfl|rfl<;>exact⟨ten fun m=>by simp only[G5.f,G5.j0,G5.j1,G5.j2,G5.j3,h];rfl,ten fun m=>by simp only[F9.f,F9.j0,F9.j1,F9.j2,F9.j3,h];rfl⟩
theorem BF1 (a:ByteArray)(h:AP4 a.toList=none):Ev (fun k=>G5.f k a) (Y4 [],false)∧Ev (fun k=>F9.f k a) (Y4 [63]):=by
 have h:=Ay1 _ h
 simp only[CW,List.forall_mem_cons]at h
 exact⟨ten fun m=>by simp[G5.f,G5.j0,G5.j1,G5.j2,G5.j3,h];rfl,ten fun m=>by simp[F9.f,F9.j0,F9.j1,F9.j2,F9.j3,h];rfl⟩
theorem BT3 (a:ByteArray):Ev (fun k=>G5.f k a) (match AP4 a.toList with|some s=>(Y4 s,true)|none=>(Y4 [],false))∧Ev (fun k=>F9.f k a) (match AP4 a.toList with|some s=>Y4 s|none=>Y4 [63]):=by
 cases h:AP4 a.toList with
 |none=>exact BF1 a h
 |some s=>exact BF9 _ (AU0 _ _ h) a rfl
def AN9 (a:List UInt8):Option (List Int):=if a=[45]then some []else match AM0 (AB9 44 a)with
 |none=>none
 |some ys=>if ys.length≤1100 then some ys else none
theorem toList_mk (a:List UInt8):(Y4 a).toList=a:=ByteArray.toList_mk a
theorem BL1 (a:List UInt8):Aj5 (Y4 a)=match AN9 a with|some ys=>(ys,true)|none=>([],false):=by
 unfold Aj5 AN9
 rw[toList_mk,AG7]
 by_cases h:a=[45]
 ·rw[if_pos h,if_pos h]
 ·rw[if_neg h,if_neg h]
  cases AM0 (AB9 44 a)with
  |none=>rfl
  |some ys =>
   simp only[Am3,List.nil_append]
   by_cases hy:ys.length≤1100
   ·rw[if_pos hy,if_pos hy]
   ·rw[if_neg hy,if_neg hy]
theorem Az2 (a:List UInt8):∃l,AV8 (Y4 a)=match AN9 a with|some ys=>(ys,true)|none=>(l,false):=by
 unfold AV8 AN9
 rw[toList_mk,AG7]
 by_cases h:a=[45]
 ·rw[if_pos h,if_pos h];exact⟨[],rfl⟩
 ·rw[if_neg h,if_neg h]
  cases AM0 (AB9 44 a)with
  |none=>exact⟨[],rfl⟩
  |some ys =>
   simp only[At0,List.nil_append]
   by_cases hy:ys.length≤1100
   ·rw[if_pos hy,decide_eq_true hy];exact⟨[],rfl⟩
   ·rw[if_neg hy,decide_eq_false hy];exact⟨ys,rfl⟩
theorem BK6:∀ (P:List (List UInt8)) (ys:List Int),AM0 P=some ys→∀x∈ys,0≤x∧x≤999999:=by
 intro P
 induction P with
 |nil=>intro ys h x hx;rw[AM0]at h;obtain rfl:=Option.some.inj h;cases hx
 |cons p P ih =>
  intro ys h x hx
  unfold AM0 at h
  cases hr:AF8 p with
  |none=>rw[hr]at h;cases h
  |some v =>
   rw[hr]at h
   have hv:=AW4 p v hr
   simp only at h
   cases ha:AM0 P with
   |none=>rw[ha]at h;cases h
   |some zs =>
    rw[ha]at h
    obtain rfl:=Option.some.inj h
    rcases List.mem_cons.mp hx with rfl|hx
    ·omega
    ·exact ih zs ha x hx
theorem Ax5 (a:List UInt8)(l:List Int)(h:AN9 a=some l):x2 l:=by
 unfold AN9 at h
 split at h
 ·obtain rfl:=Option.some.inj h;exact AA4
 ·split at h
  ·cases h
  ·rename_i ys hy
   split at h
   ·obtain rfl:=Option.some.inj h
    exact⟨by assumption,BK6 _ _ hy⟩
   ·cases h
def Y9:List UInt8→List (List UInt8)→List Int→List Int→Option (List Int×List Int)
 |[],[],l,n=>some (l,n)
 |c::s,p::ps,l,n=>if c=108 then(match AN9 p with|some l'=>Y9 s ps l' n|none=>none)else(match AF8 p with|some v=>Y9 s ps l (n++ [(v:Int)])|none=>none)
 |_,_,_,_=>none
theorem Ar9:∀ (s:List UInt8) (ps:List (List UInt8)) (l n l' n':List Int),x2 l→Y9 s ps l n=some (l',n')→x2 l':=by
 intro s
 induction s with
 |nil =>
  intro ps l n l' n' hg h
  cases ps with
  |nil=>rw[Y9]at h;obtain⟨rfl,_⟩:=Prod.mk.inj (Option.some.inj h);exact hg
  |cons p ps=>simp[Y9]at h
 |cons c s ih =>
  intro ps l n l' n' hg h
  cases ps with
  |nil=>simp[Y9]at h
  |cons p ps =>
   rw[Y9]at h
   split at h
   ·cases hl:AN9 p with
    |none=>rw[hl]at h;cases h
    |some y=>rw[hl]at h;exact ih ps y n l' n' (Ax5 p y hl) h
   ·cases hl:AF8 p with
    |none=>rw[hl]at h;cases h
    |some v=>rw[hl]at h;exact ih ps l _ l' n' hg h
theorem BI5 (x:List Int)(W:List ByteArray)(hW:W.length≤1048577)(ws:List (List UInt8))(hws:W=ws.map Y4)(hwl:∀p∈ws,p.length≤1048576)(s:List UInt8)(hs:∀c∈s,c=108∨c=110)(hsl:s.length+1=W.length) :
  ∀ (d p:Nat) (n l:List Int) (R:List Int×ByteArray),p+d=s.length→n.length≤1000000+p→
   (match Y9 (s.drop p) (ws.drop (p+1)) l n with|some (l',n')=>Ev (fun k=>E9.t k x W n' l') R|none=>E9.w x ⟨#[119,104,97,116]⟩=some R)→
   ∃K,∀kt,K≤kt→∀k,K≤k→E9.l0 kt x W (Y4 s) k p n l=some R:=by
 intro d
 have hwsl:ws.length=W.length:=by rw[hws,List.length_map]
 induction d with
 |zero =>
  intro p n l R h hn hR
  rw[List.drop_eq_nil_of_le (by omega),List.drop_eq_nil_of_le (by omega),Y9]at hR
  obtain⟨K,hK⟩:=hR
  refine⟨K+1,fun kt hkt k hk=>?_⟩
  obtain⟨m,rfl⟩:∃m,k=m+1:=⟨k - 1,by omega⟩
  rw[E9.l0,if_neg (by rw[O7];omega)]
  exact hK kt (by omega)
 |succ d ih =>
  intro p n l R h hn hR
  have hp:p<s.length:=by omega
  have hp2:p+1<ws.length:=by omega
  have hsd:s.drop p=s[p]::s.drop (p+1):=List.drop_eq_getElem_cons hp
  have hwd:ws.drop (p+1)=ws[p+1]::ws.drop (p+1+1):=List.drop_eq_getElem_cons hp2
  have hc:=hs s[p] (List.getElem_mem hp)
  have hpl:=hwl ws[p+1] (List.getElem_mem hp2)
  have hbt:bt (Y4 s) (p:Int)=((s[p]).toNat:Int):=by
   have:=Af1 (Y4 s) p (by rw[AG7];exact hp)
   rw[this];simp[AG7]
  have hrd:o9 ByteArray.empty W (wrap64 ((p:Int)+1))=Y4 ws[p+1]:=by
   rw[E2 (by omega),hws]
   exact Ap9 ws (p+1) hp2
  rw[hsd,hwd,Y9]at hR
  rcases hc with hc|hc
  ·rw[if_pos hc]at hR
   have hpe:Ev (fun k=>P5.f k (Y4 ws[p+1])) _:=AW8 (Y4 ws[p+1]) (by rw[O7];exact hpl)
   rw[BL1]at hpe
   obtain⟨K1,hK1⟩:=hpe
   cases hl:AN9 ws[p+1]with
   |none =>
    rw[hl]at hR hK1
    refine⟨K1+1,fun kt hkt k hk=>?_⟩
    obtain⟨m,rfl⟩:∃m,k=m+1:=⟨k - 1,by omega⟩
    have hq:P5.f m (Y4 ws[p+1])=_:=hK1 m (by omega)
    rw[E9.l0,hrd,hbt,hc,if_pos (by rw[O7];omega),if_pos (by decide),E2 (by omega),if_pos (by omega),if_pos (by omega),if_pos (by decide),hq]
    exact hR
   |some y =>
    rw[hl]at hR hK1
    obtain⟨K,hK⟩:=ih (p+1) n y R (by omega) (by omega) hR
    refine⟨K+K1+1,fun kt hkt k hk=>?_⟩
    obtain⟨m,rfl⟩:∃m,k=m+1:=⟨k - 1,by omega⟩
    have hq:P5.f m (Y4 ws[p+1])=_:=hK1 m (by omega)
    rw[E9.l0,hrd,hbt,hc,if_pos (by rw[O7];omega),if_pos (by decide),E2 (by omega),if_pos (by omega),if_pos (by omega),if_pos (by decide),hq]
    exact hK kt (by omega) m (by omega)
  ·rw[if_neg (by rw[hc];decide)]at hR
   have hpe:=AH2 ws[p+1] hpl
   unfold Al8 at hpe
   cases hl:AF8 ws[p+1]with
   |none =>
    rw[hl]at hR hpe
    refine⟨1,fun kt hkt k hk=>?_⟩
    obtain⟨m,rfl⟩:∃m,k=m+1:=⟨k - 1,by omega⟩
    rw[E9.l0,hrd,hbt,hc,if_pos (by rw[O7];omega),if_pos (by decide),E2 (by omega),if_pos (by omega),if_pos (by omega),if_neg (by decide),hpe]
    simp only[Option.bind_some]
    rw[if_pos (by omega)]
    exact hR
   |some v =>
    rw[hl]at hR hpe
    obtain⟨K,hK⟩:=ih (p+1) (n++ [(v:Int)]) l R (by omega) (by simp;omega) hR
    refine⟨K+1,fun kt hkt k hk=>?_⟩
    obtain⟨m,rfl⟩:∃m,k=m+1:=⟨k - 1,by omega⟩
    rw[E9.l0,hrd,hbt,hc,if_pos (by rw[O7];omega),if_pos (by decide),E2 (by omega),if_pos (by omega),if_pos (by omega),if_neg (by decide),hpe]
    simp only[Option.bind_some]
    rw[if_pos (by omega)]
    exact hK kt (by omega) m (by omega)
theorem BF7 (W:List ByteArray)(hW:W.length≤1048577)(ws:List (List UInt8))(hws:W=ws.map Y4)(hwl:∀p∈ws,p.length≤1048576)(s:List UInt8)(hs:∀c∈s,c=108∨c=110)(hsl:s.length+1=W.length) :
  ∀ (d p:Nat) (n l:List Int),p+d=s.length→n.length≤1000000+p→
   ∃u y z,Ev (fun k=>K5.l0 k W (Y4 s) (p:Int) l n) (match Y9 (s.drop p) (ws.drop (p+1)) l n with|some (l',n')=>(o9 ByteArray.empty W 0,l',n',true)|none=>(u,y,z,false)):=by
 intro d
 have hwsl:ws.length=W.length:=by rw[hws,List.length_map]
 have hdl:(W.drop 1).length=s.length:=by rw[List.length_drop];omega
 induction d with
 |zero =>
  intro p n l h hn
  rw[List.drop_eq_nil_of_le (by omega),List.drop_eq_nil_of_le (by omega),Y9]
  refine⟨⟨#[]⟩,[],[],?_⟩
  refine Ev.step (fun k=>by simp only[K5.l0];rfl) ?_
  exact en (C7 rfl)
 |succ d ih =>
  intro p n l h hn
  have hp:p<s.length:=by omega
  have hp2:p+1<ws.length:=by omega
  have hsd:s.drop p=s[p]::s.drop (p+1):=List.drop_eq_getElem_cons hp
  have hwd:ws.drop (p+1)=ws[p+1]::ws.drop (p+1+1):=List.drop_eq_getElem_cons hp2
  have hc:=hs s[p] (List.getElem_mem hp)
  have hpl:=hwl ws[p+1] (List.getElem_mem hp2)
  have hbt:bt (Y4 s) (p:Int)=((s[p]).toNat:Int):=by
   have:=Af1 (Y4 s) p (by rw[AG7];exact hp)
   rw[this];simp[AG7]
  have hrd:o9 ByteArray.empty (W.drop 1) (p:Int)=Y4 ws[p+1]:=by
   unfold o9
   rw[Int.toNat_natCast,hws,List.getD_eq_getElem?_getD,List.getElem?_drop,List.getElem?_map,Nat.add_comm,List.getElem?_eq_getElem hp2];rfl
  rw[hsd,hwd,Y9]
  rcases hc with hc|hc
  ·rw[if_pos hc]
   have hpe:=Ab8 (Y4 ws[p+1]) (by rw[O7];exact hpl)
   obtain⟨q,hq⟩:=Az2 ws[p+1]
   rw[hq]at hpe
   cases hl:AN9 ws[p+1]with
   |none =>
    rw[hl]at hpe
    refine⟨⟨#[]⟩,l,n,?_⟩
    refine Ev.step (fun k=>by simp only[K5.l0];rfl) ?_
    rw[hbt,hrd,hc,O7]
    exact ep (ep (ep (G8 (by decide) (D9 (by decide) (C6 hpe (G8 (by simp) (C7 rfl)))))))
   |some y =>
    rw[hl]at hpe
    obtain⟨u,y',z,hE⟩:=ih (p+1) n y (by omega) (by omega)
    refine⟨u,y',z,?_⟩
    refine Ev.step (fun k=>by simp only[K5.l0];rfl) ?_
    rw[hbt,hrd,hc,O7,E2 (by omega)]
    exact ep (ep (ep (G8 (by decide) (D9 (by decide) (C6 hpe (D9 rfl hE))))))
  ·rw[if_neg (by rw[hc];decide)]
   have hpe:=AO5 ws[p+1] hpl
   unfold AT5 at hpe
   cases hl:AF8 ws[p+1]with
   |none =>
    rw[hl]at hpe
    refine⟨⟨#[]⟩,l,n,?_⟩
    refine Ev.step (fun k=>by simp only[K5.l0];rfl) ?_
    rw[hbt,hrd,hc,O7]
    exact ep (ep (ep (D9 (by decide) (C6 hpe (D9 (by decide) (C7 rfl))))))
   |some v =>
    rw[hl]at hpe
    have hv:=AW4 _ _ hl
    obtain⟨u,y',z,hE⟩:=ih (p+1) (n++ [(v:Int)]) l (by omega) (by simp;omega)
    refine⟨u,y',z,?_⟩
    refine Ev.step (fun k=>by simp only[K5.l0];rfl) ?_
    rw[hbt,hrd,hc,O7,E2 (by omega)]
    exact ep (ep (ep (D9 (by decide) (C6 hpe (G8 (by show ¬((v:Int)<0);omega) (ep hE))))))
theorem BZ4 (ps:List (List UInt8)) (l n:List Int)(h:Y9 [108] ps [] []=some (l,n)):n=[]:=by
 cases ps with
 |nil=>simp[Y9]at h
 |cons p ps =>
  rw[Y9,if_pos rfl]at h
  cases hl:AN9 p with
  |none=>rw[hl]at h;cases h
  |some y =>
   rw[hl]at h
   cases ps with
   |nil=>simp only[Y9]at h;exact(Prod.mk.inj (Option.some.inj h)).2.symm
   |cons q ps=>simp only[Y9]at h;cases h
theorem BP9:∀ (s:List UInt8) (ps:List (List UInt8)) (l m l' n:List Int),(∀c∈s,c=110)→Y9 s ps l m=some (l',n)→l'=l∧∃vs:List Nat,vs.length=s.length∧(∀v∈vs,v≤999999)∧n=m++vs.map fun(v:Nat)=>(v:Int):=by
 intro s
 induction s with
 |nil =>
  intro ps l m l' n hs h
  cases ps with
  |nil=>rw[Y9]at h;obtain⟨rfl,rfl⟩:=Prod.mk.inj (Option.some.inj h);exact⟨rfl,[],rfl,by simp,by simp⟩
  |cons p ps=>simp[Y9]at h
 |cons c s ih =>
  intro ps l m l' n hs h
  obtain rfl:=hs c (by simp)
  cases ps with
  |nil=>simp[Y9]at h
  |cons p ps =>
   rw[Y9,if_neg (by decide)]at h
   cases hl:AF8 p with
   |none=>rw[hl]at h;cases h
   |some v =>
    rw[hl]at h
    obtain⟨h1,vs,h2,h3,h4⟩:=ih ps l _ l' n (fun c hc=>hs c (by simp[hc])) h
    have hv:=AW4 p v hl
    refine⟨h1,v::vs,by simp[h2],fun u hu=>?_,by rw[h4];simp⟩
    rcases List.mem_cons.mp hu with rfl|hu
    ·exact hv
    ·exact h3 u hu
theorem BZ2 (ps:List (List UInt8)) (l n:List Int)(h:Y9 [108,110] ps [] []=some (l,n)):∃v:Nat,v≤999999∧n=[(v:Int)]:=by
 cases ps with
 |nil=>simp[Y9]at h
 |cons p ps =>
  rw[Y9,if_pos rfl]at h
  cases hl:AN9 p with
  |none=>rw[hl]at h;cases h
  |some y =>
   rw[hl]at h
   obtain⟨_,vs,h2,h3,h4⟩:=BP9 [110] ps y [] l n (by simp) h
   match vs,h2 with
   |[v],_=>exact⟨v,h3 v (by simp),by simpa using h4⟩
theorem BC9 (ps:List (List UInt8)) (l n:List Int)(h:Y9 [110] ps [] []=some (l,n)):∃v:Nat,v≤999999∧n=[(v:Int)]:=by
 obtain⟨_,vs,h2,h3,h4⟩:=BP9 [110] ps [] [] l n (by simp) h
 match vs,h2 with
 |[v],_=>exact⟨v,h3 v (by simp),by simpa using h4⟩
theorem Ah9 (ps:List (List UInt8)) (l n:List Int)(h:Y9 [110,110] ps [] []=some (l,n)):∃v u:Nat,v≤999999∧u≤999999∧n=[(v:Int),(u:Int)]:=by
 obtain⟨_,vs,h2,h3,h4⟩:=BP9 [110,110] ps [] [] l n (by simp) h
 match vs,h2 with
 |[v,u],_=>exact⟨v,u,h3 v (by simp),h3 u (by simp),by simpa using h4⟩
theorem BU8 (ps:List (List UInt8)) (l n:List Int)(h:Y9 [110,110,110] ps [] []=some (l,n)):∃v u t:Nat,v≤999999∧u≤999999∧t≤999999∧n=[(v:Int),(u:Int),(t:Int)]:=by
 obtain⟨_,vs,h2,h3,h4⟩:=BP9 [110,110,110] ps [] [] l n (by simp) h
 match vs,h2 with
 |[v,u,t],_=>exact⟨v,u,t,h3 v (by simp),h3 u (by simp),h3 t (by simp),by simpa using h4⟩
theorem BK9 (ps:List (List UInt8)) (l n:List Int)(h:Y9 [] ps [] []=some (l,n)):n=[]:=by
 obtain⟨_,vs,h2,h3,h4⟩:=BP9 [] ps [] [] l n (by simp) h
 match vs,h2 with
 |[],_=>simpa using h4
theorem BS4 (a:ByteArray)(s:List UInt8)(hf:AP4 a.toList=some s)(ps:List (List UInt8)) (l n x:List Int)(hx:X1 x=true)(h:Y9 s ps [] []=some (l,n)):AI1 a x l n:=by
 have hl:=Ar9 s ps [] [] l n AA4 h
 have hp:=AU0 _ _ hf
 simp only[CW,List.mem_cons,List.not_mem_nil,or_false,Prod.mk.injEq]at hp
 rcases hp with⟨e,rfl⟩|⟨e,rfl⟩|⟨e,rfl⟩|⟨e,rfl⟩|⟨e,rfl⟩|⟨e,rfl⟩|⟨e,rfl⟩|⟨e,rfl⟩|⟨e,rfl⟩|⟨e,rfl⟩|⟨e,rfl⟩|⟨e,rfl⟩|⟨e,rfl⟩|⟨e,rfl⟩|⟨e,rfl⟩|⟨e,rfl⟩|⟨e,rfl⟩|⟨e,rfl⟩|⟨e,rfl⟩|⟨e,rfl⟩|⟨e,rfl⟩
 ·obtain rfl:=BZ4 ps l n h
  exact BL7 a e x l hx hl
 ·obtain rfl:=BZ4 ps l n h
  exact At2 a e x l hx hl
 ·obtain rfl:=BK9 ps l n h
  exact BO3 a e x l hx hl
 ·obtain rfl:=BK9 ps l n h
  exact BQ2 a e x l hx hl
 ·obtain rfl:=BK9 ps l n h
  exact BQ4 a e x l hx hl
 ·obtain rfl:=BK9 ps l n h
  exact BM5 a e x l hx hl
 ·obtain rfl:=BK9 ps l n h
  exact BQ5 a e x l hx hl
 ·obtain⟨v,u,h1,h2,rfl⟩:=Ah9 ps l n h
  exact BP5 a e x l hx hl v h1 u h2
 ·obtain⟨v,u,h1,h2,rfl⟩:=Ah9 ps l n h
  exact BQ3 a e x l hx hl v h1 u h2
 ·obtain⟨v,u,h1,h2,rfl⟩:=Ah9 ps l n h
  exact Aw4 a e x l hx hl v h1 u h2
 ·obtain⟨v,u,h1,h2,rfl⟩:=Ah9 ps l n h
  exact Ax9 a e x l hx hl v h1 u h2
 ·obtain⟨v,u,h1,h2,rfl⟩:=Ah9 ps l n h
  exact BA4 a e x l hx hl v h1 u h2
 ·obtain⟨v,u,h1,h2,rfl⟩:=Ah9 ps l n h
  exact Ap7 a e x l hx hl v h1 u h2
 ·obtain⟨v,u,h1,h2,rfl⟩:=Ah9 ps l n h
  exact BA0 a e x l hx hl v h1 u h2
 ·obtain⟨v,h1,rfl⟩:=BC9 ps l n h
  exact As5 a e x l hx hl v h1
 ·obtain⟨v,h1,rfl⟩:=BC9 ps l n h
  exact BA2 a e x l hx hl v h1
 ·obtain⟨v,h1,rfl⟩:=BC9 ps l n h
  exact BE6 a e x l hx hl v h1
 ·obtain⟨v,h1,rfl⟩:=BC9 ps l n h
  exact BE5 a e x l hx hl v h1
 ·obtain⟨v,h1,rfl⟩:=BZ2 ps l n h
  exact BF0 a e x l hx hl v h1
 ·obtain⟨v,u,t,h1,h2,h3,rfl⟩:=BU8 ps l n h
  exact Av8 a e x l hx hl v h1 u h2 t h3
 ·obtain⟨v,u,t,h1,h2,h3,rfl⟩:=BU8 ps l n h
  exact Ar7 a e x l hx hl v h1 u h2 t h3
theorem An4 (w s:List UInt8)(h:AP4 w=some s):(∀c∈s,c=108∨c=110)∧s.length≤3:=(by decide:∀p∈CW,(∀c∈p.2,c=108∨c=110)∧p.2.length≤3) _ (AU0 _ _ h)
theorem BH4 (x:List Int)(a:ByteArray)(hx:X1 x=true)(ha:a.size≤1048576):∃out rep,X1 out=true∧Ev (fun k=>E9.f k x a) (out,rep)∧Ev (fun k=>AA3.f k x a) (out,rep):=by
 have hg:=AR2 hx
 have hal:=AI0 a
 have hsp:=Av3 a 32 ha
 have hsl:=AG9 a 32 ha
 have hne:=BE0 32 a.data.toList
 have hlen:=BE1 32 a.data.toList
 have hea:=As0 32 a.data.toList
 generalize hws:AB9 32 a.data.toList=ws at hsp hsl hne hlen hea
 have hcop:M5.f x=some x:=m0 x (by have:=hg.1;omega)
 have hw:∀b,E9.w x b=some (x,b):=fun b=>by unfold E9.w;rw[hcop];rfl
 have hpos:0<ws.length:=List.length_pos_iff.mpr hne
 have hW0:(ws.map Y4).length=ws.length:=List.length_map ..
 obtain⟨f1,f2⟩:=BT3 (o9 ByteArray.empty (ws.map Y4) 0)
 generalize hr0:o9 ByteArray.empty (ws.map Y4) 0=w0 at f1 f2
 have what:∀ (h1:Ev (fun k=>E9.f k x a) (x,⟨#[119,104,97,116]⟩)) (u:ByteArray) (y z:List Int),Ev (fun k=>K5.f k a) (u,y,z,false)→∃out rep,X1 out=true∧Ev (fun k=>E9.f k x a) (out,rep)∧Ev (fun k=>AA3.f k x a) (out,rep):=by
  intro h1 u y z h2
  refine⟨x,_,hx,h1,?_⟩
  unfold AA3.f
  exact C6 h2 (G8 (by simp) (C7 rfl))
 cases hf:AP4 w0.toList with
 |none =>
  rw[hf]at f1 f2
  refine what ?_ ⟨#[]⟩ [] [] ?_
  ·unfold E9.f
   refine D8 hsp (ep ?_)
   rw[hr0]
   exact C6 f1 (G8 (by simp) (Ae2 (hw _)))
  ·unfold K5.f
   refine C6 hsl (ep ?_)
   rw[hr0]
   refine C6 f2 ?_
   rw[O7,E4 (by omega)]
   refine X2 (fun h=>?_) (fun h=>C7 rfl)
   refine Ev.step (fun k=>by simp only[K5.l0];rfl) ?_
   have hb:bt (Y4 [63]) 0=63:=BD9 63 []
   rw[hb,O7]
   have hd:((ws.map Y4).drop 1).length=1:=by rw[List.length_drop];simp at h;omega
   rw[hd]
   exact ep (ep (D9 (by decide) (G8 (by decide) (G8 (by decide) (C7 rfl)))))
 |some s =>
  rw[hf]at f1 f2
  obtain⟨hs1,hs2⟩:=An4 _ _ hf
  by_cases hl:s.length+1=ws.length
  ·have hI:=BI5 x (ws.map Y4) (by omega) ws rfl (fun p hp=>by have:=hea p hp;omega) s hs1 (by omega) s.length 0 [] []
   obtain⟨u,y,z,hS⟩:=BF7 (ws.map Y4) (by omega) ws rfl (fun p hp=>by have:=hea p hp;omega) s hs1 (by omega) s.length 0 [] [] (by omega) (by simp)
   rw[List.drop_zero]at hS
   have hSr:∀r,Ev (fun k=>K5.l0 k (ws.map Y4) (Y4 s) 0 [] []) r→Ev (fun k=>K5.f k a) r:=by
    intro r hr
    unfold K5.f
    refine C6 hsl (ep ?_)
    rw[hr0]
    refine C6 f2 (D9 ?_ hr)
    rw[O7,E4 (by omega)];omega
   have hIr:∀R,(∃K,∀kt,K≤kt→∀k,K≤k→E9.l0 kt x (ws.map Y4) (Y4 s) k 0 [] []=some R)→Ev (fun k=>E9.f k x a) R:=by
    rintro R ⟨K,hK⟩
    unfold E9.f
    refine D8 hsp (ep ?_)
    rw[hr0]
    refine C6 f1 (D9 rfl (D9 ?_ ⟨K,fun k hk=>hK k hk k hk⟩))
    rw[O7,E4 (by omega)];omega
   cases hA:Y9 s (ws.drop 1) [] []with
   |none =>
    rw[Nat.zero_add,hA]at hS
    refine what (hIr _ (hI _ (by omega) (by simp) ?_)) u y z (hSr _ hS)
    rw[List.drop_zero,Nat.zero_add,hA]
    exact hw _
   |some p =>
    obtain⟨l,n⟩:=p
    rw[Nat.zero_add,hA]at hS
    rw[hr0]at hS
    obtain⟨out,rep,ok,hp,e1,e2⟩:=BS4 w0 s hf (ws.drop 1) l n x hx hA
    refine⟨if ok=true then out else x,if ok=true then rep else⟨#[110,111]⟩,?_,hIr _ (hI _ (by omega) (by simp) ?_),?_⟩
    ·cases ok with
     |true=>exact hp rfl
     |false=>exact hx
    ·rw[List.drop_zero,Nat.zero_add,hA]
     show Ev (fun k=>E9.t k x (ws.map Y4) n l) _
     unfold E9.t
     rw[hr0]
     refine C6 e1 ?_
     cases ok with
     |true=>exact D9 rfl (C7 rfl)
     |false=>exact G8 (by simp) (Ae2 (hw _))
    ·unfold AA3.f
     refine C6 (hSr _ hS) (D9 rfl (C6 e2 (C7 ?_)))
     cases ok<;>rfl
  ·refine what ?_ ⟨#[]⟩ [] [] ?_
   ·unfold E9.f
    refine D8 hsp (ep ?_)
    rw[hr0]
    refine C6 f1 (D9 rfl (G8 ?_ (Ae2 (hw _))))
    rw[O7,E4 (by omega)];omega
   ·unfold K5.f
    refine C6 hsl (ep ?_)
    rw[hr0]
    refine C6 f2 (G8 ?_ (C7 rfl))
    rw[O7,E4 (by omega)];omega
end Go.Proofs.YtpiogigidgejpaaGreatDoor.Pure
namespace Go.Proofs.YtpiogigidgejpaaGreatDoor.Pure
open Go.RowKit Go.Proofs.YtpiogigidgejpaaGreatDoor.PFnExactStepLine Go.Proofs.YtpiogigidgejpaaGreatDoorW.PrintWords Go.Proofs.YtpiogigidgejpaaGreatDoorW.PrintLast Go.Proofs.YtpiogigidgejpaaGreatDoor.Base
set_option maxRecDepth 10000
set_option linter.unusedVariables false
set_option linter.unusedSimpArgs false
theorem Al0 (l:List UInt8)(c:UInt8):0≤Lib.indexByte l c↔c∈l:=by
 induction l with
 |nil=>simp[Lib.indexByte]
 |cons b l ih =>
  have hge:=Lib.indexByte_ge l c
  unfold Lib.indexByte
  by_cases h:b=c
  ·subst h;simp
  ·have h1:(b==c)=false:=beq_eq_false_iff_ne.mpr h
   rw[h1]
   by_cases h2:Lib.indexByte l c= -1
   ·rw[h2]
    have:¬c∈l:=fun e=>by have:=ih.mpr e;omega
    simp[this,Ne.symm h]
   ·have h3:(Lib.indexByte l c== -1)=false:=beq_eq_false_iff_ne.mpr h2
    rw[h3]
    have:c∈l:=ih.mp (by omega)
    simp[this];omega
theorem Ak4 (l:List Int)(a:ByteArray)(hl:l.length≤1048576)(ha:a.size≤1048576):∃x s b,x.length≤12∧Ev (fun k=>X8.f k l a) (x,s,b)∧Ev (fun k=>b7.f k l a) (x,s,b):=by
 have hII:=X0 l
 have hSS:=k5 l (by omega)
 have hno:∀b:ByteArray,b=⟨#[]⟩→True:=fun _ _=>trivial
 cases hp:X1 l with
 |false =>
  rw[hp]at hII hSS
  refine⟨[],⟨#[]⟩,false,by simp,?_,?_⟩
  ·unfold X8.f
   exact C6 hII (G8 (by simp) (C7 rfl))
  ·unfold b7.f
   exact C6 hSS (G8 (by simp) (C7 rfl))
 |true =>
  rw[hp]at hII hSS
  by_cases h3:(a.size:Int)>3000
  ·refine⟨[],⟨#[]⟩,false,by simp,?_,?_⟩
   ·unfold X8.f
    exact C6 hII (D9 rfl (D9 h3 (C7 rfl)))
   ·unfold b7.f
    exact C6 hSS (D9 rfl (D9 h3 (C7 rfl)))
  ·have hc:k7.f a (⟨#[10]⟩:ByteArray)=some (decide ((10:UInt8)∈a.data.toList)):=by
    show some (decide (0≤Lib.indexByte a.data.toList 10))=_
    congr 1
    exact decide_eq_decide.mpr (Al0 _ _)
   have hs:=AG9 a 10 ha
   have h1:=BQ8 10 a.data.toList
   by_cases hm:(10:UInt8)∈a.data.toList
   ·refine⟨[],⟨#[]⟩,false,by simp,?_,?_⟩
    ·unfold X8.f
     exact C6 hII (D9 rfl (G8 h3 (D8 hc (D9 (decide_eq_true hm) (C7 rfl)))))
    ·unfold b7.f
     refine C6 hSS (D9 rfl (G8 h3 (C6 hs (D9 ?_ (C7 rfl)))))
     have:=h1.mpr hm
     rw[List.length_map];omega
   ·obtain⟨x,s,hx,e1,e2⟩:=BH4 l a hp ha
    have hx12:=(AC1.mp hx).1
    refine⟨x,s,true,hx12,?_,?_⟩
    ·unfold X8.f
     exact C6 hII (D9 rfl (G8 h3 (D8 hc (G8 (by simpa using hm) (C6 e1 (C7 rfl))))))
    ·unfold b7.f
     refine C6 hSS (D9 rfl (G8 h3 (C6 hs (G8 ?_ (C6 e2 (D8 (b6 x (by omega)) (C7 rfl)))))))
     rw[List.length_map]
     intro e
     exact hm (h1.mp (by omega))
end Go.Proofs.YtpiogigidgejpaaGreatDoor.Pure
