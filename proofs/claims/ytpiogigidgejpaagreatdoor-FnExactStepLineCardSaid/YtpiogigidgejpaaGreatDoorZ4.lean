import Derived.Test.YtpiogigidgejpaaGreatDoorZ0
import Derived.Test.YtpiogigidgejpaaGreatDoorY0
import Derived.Test.YtpiogigidgejpaaGreatDoorZ3
import Derived.Test.YtpiogigidgejpaaGreatDoorPFnExactStepLinex15
import Derived.Test.YtpiogigidgejpaaGreatDoorPFnExactStepLinex17
namespace Go.Proofs.YtpiogigidgejpaaGreatDoor.Pure
open Go.RowKit Go.Proofs.YtpiogigidgejpaaGreatDoor.PFnExactStepLine Go.Proofs.YtpiogigidgejpaaGreatDoorW.PrintWords Go.Proofs.YtpiogigidgejpaaGreatDoorW.PrintLast Go.Proofs.YtpiogigidgejpaaGreatDoor.Base
set_option maxRecDepth 10000
set_option linter.unusedVariables false
set_option linter.unusedSimpArgs false
def Y4 (l:List UInt8):ByteArray:=⟨l.toArray⟩
theorem AM6 (a b:List UInt8):Y4 a++Y4 b=Y4 (a++b):=by
 have h:(Y4 a++Y4 b).data=(Y4 (a++b)).data:=by simp[Y4,ByteArray.data_append]
 calc Y4 a++Y4 b=⟨(Y4 a++Y4 b).data⟩:=rfl
  _=⟨(Y4 (a++b)).data⟩:=by rw[h]
  _=Y4 (a++b):=rfl
theorem O7 (a:List UInt8):(Y4 a).size=a.length:=by simp[Y4,ByteArray.size]
theorem Ar5 (a:List UInt8):(Y4 a).toList=a:=ByteArray.toList_mk a
theorem AG7 (a:List UInt8):(Y4 a).data.toList=a:=by simp[Y4]
theorem Au2 (n:Nat)(h:n<256):strOfNums ([(n:Int)])=Y4 [UInt8.ofNat n]:=rfl
theorem AZ7 {u:Nat} (h:u<10):Lib.decDigits u=[UInt8.ofNat (48+u)]:=by rw[Lib.decDigits,dif_pos h]
theorem Ao1 {u:Nat} (h:¬u<10):Lib.decDigits u=Lib.decDigits (u / 10)++ [UInt8.ofNat (48+u % 10)]:=by rw[Lib.decDigits,dif_neg h]
theorem AM1:∀ (n:Nat),(Lib.decDigits n).length≤n+1:=by
 refine AN5 (fun n ih=>?_)
 by_cases h:n<10
 ·rw[AZ7 h];simp
 ·rw[Ao1 h]
  have:=ih (n / 10) (by omega)
  simp;omega
theorem BU3:∀ (n:Nat),Lib.decDigits n≠[]:=by
 intro n
 by_cases h:n<10
 ·rw[AZ7 h];simp
 ·rw[Ao1 h];simp
theorem AA5:∀ (n:Nat),n≤1000000000→Ev (fun k=>O5.f k (n:Int)) (Y4 (Lib.decDigits n)):=by
 refine AN5 (fun n ih=>?_)
 intro hn
 refine Ev.step (fun k=>by simp only[O5.f];rfl) ?_
 by_cases h:n<10
 ·refine ep (C7 ?_)
  rw[AZ7 h,←Au2 (48+n) (by omega)]
  congr 2
  unfold wrap64;omega
 ·refine en ?_
  have hq:wrap64 (Int.tdiv (n:Int) 10)=((n / 10:Nat):Int):=by
   rw[show Int.tdiv (n:Int) 10=((n / 10:Nat):Int)from(Int.ofNat_tdiv n 10).symm,E4 (by omega)]
  rw[hq]
  refine C6 (ih (n / 10) (by omega) (by omega)) ?_
  have hr:(wrap64 (48+ (Int.tmod (n:Int) 10))) % 256=((48+n % 10:Nat):Int):=by
   rw[show Int.tmod (n:Int) 10=((n % 10:Nat):Int)from Y8 n 10];unfold wrap64;omega
  rw[hr]
  refine D8 rfl ?_
  rw[Au2 _ (by omega)]
  have hl:=AM1 (n / 10)
  refine D9 ?_ (C7 ?_)
  ·rw[O7,O7];simp;omega
  ·rw[AM6,←Ao1 h]
def AK8 (l:List Int):List (List UInt8):=l.map fun x=>Lib.decDigits x.toNat
def x6 (l:List Int):List UInt8:=if l=[]then [45]else Lib.join (AK8 l) [44]
theorem AT1 (x:List UInt8)(r:List (List UInt8)):Lib.joinTail [44] (x::r)=[44]++x++Lib.joinTail [44] r:=by simp[Lib.joinTail]
theorem BK5 (l:List Int)(hx:∀x∈l,0≤x∧x≤999999):(Lib.joinTail [44] (AK8 l)).length≤1000001*l.length:=by
 induction l with
 |nil=>simp[AK8,Lib.joinTail]
 |cons a l ih =>
  have h1:=ih (fun x h=>hx x (by simp[h]))
  have h2:=hx a (by simp)
  have h3:=AM1 a.toNat
  have e:AK8 (a::l)=Lib.decDigits a.toNat::AK8 l:=rfl
  rw[e,AT1]
  simp only[List.length_append,List.length_cons,List.length_nil]
  omega
theorem As7 (l:List Int)(hx:∀x∈l,0≤x∧x≤999999):(Lib.join (AK8 l) [44]).length≤1000001*l.length:=by
 cases l with
 |nil=>simp[AK8,Lib.join_nil]
 |cons a l =>
  have e:AK8 (a::l)=Lib.decDigits a.toNat::AK8 l:=rfl
  rw[e,Lib.join_cons]
  have h1:=BK5 l (fun x h=>hx x (by simp[h]))
  have h2:=hx a (by simp)
  have h3:=AM1 a.toNat
  simp only[List.length_append,List.length_cons]
  omega
theorem Ag4 (l:List Int)(i:Nat)(h:i<l.length):rd l (i:Int)∈l:=by rw[Ai8 l i h];exact List.getElem_mem h
theorem AZ6 (l:List Int)(hl:l.length≤1100)(hx:∀x∈l,0≤x∧x≤999999):∀ (d i:Nat) (s:List UInt8),i+d=l.length→0<i→s≠[]→s.length≤1000001*i→
  Ev (fun k=>Q2.l0 k (Y4 s) l (l.length:Int) (i:Int)) (Y4 (s++Lib.joinTail [44] (AK8 (l.drop i)))):=by
 intro d
 induction d with
 |zero =>
  intro i s h hi hs hb
  rw[List.drop_eq_nil_of_le (by omega)]
  refine Ev.step (fun k=>by simp only[Q2.l0];rfl) ?_
  refine en ?_
  refine G8 (by rw[Ar5];exact hs) (C7 ?_)
  simp[AK8,Lib.joinTail]
 |succ d ih =>
  intro i s h hi hs hb
  have hlt:i<l.length:=by omega
  refine Ev.step (fun k=>by simp only[Q2.l0];rfl) ?_
  refine ep (ep (ep (ep ?_)))
  refine D9 (by rw[O7];omega) ?_
  have hr:=hx _ (Ag4 l i hlt)
  obtain⟨n,hn⟩:∃n:Nat,rd l (i:Int)=(n:Int):=⟨(rd l (i:Int)).toNat,by omega⟩
  have hn2:n≤999999:=by omega
  have hd:=AM1 n
  rw[hn]
  refine C6 (AA5 n (by omega)) ?_
  rw[show(⟨#[44]⟩:ByteArray)=Y4 [44]from rfl]
  simp only[AM6]
  refine D9 (by rw[O7,O7];simp;omega) ?_
  rw[E2 (by omega)]
  refine S7 (ih (i+1) _ (by omega) (by omega) (by simp) (by simp;omega)) ?_
  rw[s7 l i hlt,hn]
  have e:AK8 ((n:Int)::l.drop (i+1))=Lib.decDigits n::AK8 (l.drop (i+1)):=rfl
  rw[e,AT1]
  simp
theorem AF2 (l:List Int)(hl:l.length≤1100)(hx:∀x∈l,0≤x∧x≤999999):Ev (fun k=>Q2.f k l) (Y4 (x6 l)):=by
 unfold Q2.f
 rw[show(⟨#[]⟩:ByteArray)=Y4 []from rfl]
 cases l with
 |nil =>
  refine Ev.step (fun k=>by simp only[Q2.l0];rfl) ?_
  refine G8 (by simp) ?_
  exact D9 (by rw[Ar5]) (C7 rfl)
 |cons a l =>
  refine Ev.step (fun k=>by simp only[Q2.l0];rfl) ?_
  have h2:=hx a (by simp)
  obtain⟨n,hn⟩:∃n:Nat,a=(n:Int):=⟨a.toNat,by omega⟩
  subst hn
  have hd:=AM1 n
  refine D9 (by simp) (ep (D9 (by simp) (en ?_)))
  have hr:rd ((n:Int)::l) 0=(n:Int):=rfl
  rw[hr]
  refine C6 (AA5 n (by omega)) ?_
  refine D9 (by rw[O7,O7];simp;omega) ?_
  rw[AM6,List.nil_append,show wrap64 (0+1)=((1:Nat):Int)from by unfold wrap64;omega]
  refine S7 (AZ6 ((n:Int)::l) hl hx l.length 1 _ (by simp;omega) (by omega) (by simpa using BU3 n) (by simp;omega)) ?_
  unfold x6
  rw[if_neg (by simp)]
  have e:AK8 ((n:Int)::l)=Lib.decDigits n::AK8 l:=rfl
  rw[e,Lib.join_cons]
  rfl
theorem AU4 (l:List Int)(hl:l.length≤1100)(hx:∀x∈l,0≤x∧x≤999999):∀ (d i:Nat) (s:List ByteArray),i+d=l.length→s.map (·.data.toList)=AK8 (l.take i)→s.length=i→
  Ev (fun k=>T0.l0 k s l (l.length:Int) (i:Int)) (Y4 (x6 l)):=by
 intro d
 induction d with
 |zero =>
  intro i s h hs hi
  rw[List.take_of_length_le (by omega)]at hs
  refine Ev.step (fun k=>by simp only[T0.l0];rfl) ?_
  refine en ?_
  unfold x6
  by_cases h0:l=[]
  ·subst h0
   rw[if_pos rfl]
   exact D9 (by simp at h;omega) (C7 rfl)
  ·rw[if_neg h0]
   have:l.length≠0:=by simpa using h0
   refine en ?_
   have hj:=As7 l hx
   refine D8 (a:=Y4 (Lib.join (AK8 l) [44])) ?_ (C7 rfl)
   unfold s9.f
   rw[hs,if_pos ⟨by omega,by show(Lib.join (AK8 l) [44]).length≤_;omega⟩]
   rfl
 |succ d ih =>
  intro i s h hs hi
  have hlt:i<l.length:=by omega
  refine Ev.step (fun k=>by simp only[T0.l0];rfl) ?_
  refine ep (ep (ep ?_))
  have hr:=hx _ (Ag4 l i hlt)
  refine D8 (a:=Y4 (Lib.decDigits (rd l (i:Int)).toNat)) ?_ ?_
  ·unfold S1.f
   rw[if_pos (by omega)]
   unfold Lib.itoa
   rw[if_neg (by omega)]
   rfl
  ·refine ep ?_
   rw[E2 (by omega)]
   refine ih (i+1) _ (by omega) ?_ (by simp;omega)
   rw[Ad2 l i hlt,List.map_append,hs]
   simp[AK8,AG7]
theorem AL0 (l:List Int)(hl:l.length≤1100)(hx:∀x∈l,0≤x∧x≤999999):Ev (fun k=>T0.f k l) (Y4 (x6 l)) :=
 AU4 l hl hx l.length 0 [] (by omega) (by simp[AK8]) rfl
theorem Au3 (m r:List UInt8)(h:m≠[]):(m++r).head? =m.head?:=by
 cases m with
 |nil=>exact absurd rfl h
 |cons=>rfl
def AC4 (c:UInt8):Prop:=48≤c.toNat∧c.toNat≤57
instance (c:UInt8):Decidable (AC4 c):=by unfold AC4;infer_instance
def AD7 (a:Nat)(l:List UInt8):Nat:=l.foldl (fun a c=>a*10+ (c.toNat - 48)) a
theorem AR4 (a:Nat):AD7 a []=a:=List.foldl_nil
theorem AI2 (a:Nat)(c:UInt8)(r:List UInt8):AD7 a (c::r)=AD7 (a*10+ (c.toNat - 48)) r:=List.foldl_cons ..
theorem BR0 (l:List UInt8)(c:UInt8):∀a,AD7 a (l++ [c])=AD7 a l*10+ (c.toNat - 48):=by
 induction l with
 |nil=>intro a;rw[List.nil_append,AI2,AR4,AR4]
 |cons b l ih=>intro a;rw[List.cons_append,AI2,AI2];exact ih _
theorem BW2 (l:List UInt8):∀a,a≤AD7 a l:=by
 induction l with
 |nil=>intro a;rw[AR4];exact Nat.le_refl _
 |cons b l ih=>intro a;have:=ih (a*10+ (b.toNat - 48));rw[AI2];omega
theorem AI6 {u:Nat} (h:u<10):Lib.decDigits u=[UInt8.ofNat (48+u)]:=by rw[Lib.decDigits,dif_pos h]
theorem AY0 {u:Nat} (h:¬u<10):Lib.decDigits u=Lib.decDigits (u / 10)++ [UInt8.ofNat (48+u % 10)]:=by rw[Lib.decDigits,dif_neg h]
theorem Ai3 (n:Nat)(h:n<256):(UInt8.ofNat n).toNat=n:=by rw[UInt8.toNat_ofNat'];omega
theorem BY0:∀n:Nat,∀c∈Lib.decDigits n,AC4 c:=by
 refine AN5 (fun n ih=>?_)
 intro c hc
 by_cases h:n<10
 ·rw[AI6 h]at hc
  obtain rfl:=List.mem_singleton.mp hc
  unfold AC4;rw[Ai3 _ (by omega)];omega
 ·rw[AY0 h]at hc
  rcases List.mem_append.mp hc with hc|hc
  ·exact ih (n / 10) (by omega) c hc
  ·obtain rfl:=List.mem_singleton.mp hc
   unfold AC4;rw[Ai3 _ (by omega)];omega
theorem BK7:∀n:Nat,Lib.decDigits n≠[]:=by
 intro n
 by_cases h:n<10
 ·rw[AI6 h];simp
 ·rw[AY0 h];simp
theorem BR3:∀n:Nat,1≤n→(Lib.decDigits n).head?≠some 48:=by
 refine AN5 (fun n ih=>?_)
 intro hn
 by_cases h:n<10
 ·rw[AI6 h]
  intro e
  have e2:UInt8.ofNat (48+n)=48:=Option.some.inj e
  have e3:=congrArg UInt8.toNat e2
  rw[Ai3 _ (by omega)]at e3
  have:(48:UInt8).toNat=48:=rfl
  omega
 ·rw[AY0 h,Au3 _ _ (BK7 _)]
  exact ih (n / 10) (by omega) (by omega)
theorem BN3:∀ (k n:Nat),n<10 ^ (k+1)→(Lib.decDigits n).length≤k+1:=by
 intro k
 induction k with
 |zero=>intro n h;rw[AI6 (by omega)];simp
 |succ k ih =>
  intro n h
  by_cases h2:n<10
  ·rw[AI6 h2];simp
  ·rw[AY0 h2]
   have:=ih (n / 10) (by rw[Nat.pow_succ]at h;omega)
   simp;omega
def Num (l:List UInt8):Prop:=1≤l.length∧l.length≤6∧(l.head? =some 48→l.length≤1)∧∀c∈l,AC4 c
instance (l:List UInt8):Decidable (Num l):=by unfold Num;infer_instance
def AF8 (l:List UInt8):Option Nat:=if Num l then some (AD7 0 l)else none
theorem BW5 (n:Nat)(h:n≤999999):Num (Lib.decDigits n):=by
 refine⟨?_,BN3 5 n (by omega),fun e=>?_,BY0 n⟩
 ·exact List.length_pos_iff.mpr (BK7 n)
 ·by_cases h0:n=0
  ·subst h0;rw[AI6 (by omega)];simp
  ·exact absurd e (BR3 n (by omega))
theorem At4:∀ (k:Nat) (l:List UInt8),l.length=k→1≤l.length→(l.head? =some 48→l.length≤1)→(∀c∈l,AC4 c)→Lib.decDigits (AD7 0 l)=l:=by
 intro k
 induction k with
 |zero=>intro l h h1;omega
 |succ k ih =>
  intro l h h1 h2 h3
  have hne:l≠[]:=by intro e;rw[e]at h1;simp at h1
  have hl:l.dropLast++ [l.getLast hne]=l:=List.dropLast_concat_getLast hne
  generalize l.dropLast=m at hl
  generalize l.getLast hne=c at hl
  subst hl
  have hc:AC4 c:=h3 c (by simp)
  unfold AC4 at hc
  rw[BR0]
  by_cases hm:m=[]
  ·subst hm
   rw[List.nil_append,AR4]
   rw[AI6 (by omega)]
   congr 1
   apply UInt8.toNat_inj.mp
   rw[Ai3 _ (by omega)];omega
  ·have hml:1≤m.length:=List.length_pos_iff.mpr hm
   have hh:m.head?≠some 48:=by
    intro e
    have:=h2 (by rw[Au3 _ _ hm];exact e)
    rw[List.length_append,List.length_singleton]at this;omega
   have hv:1≤AD7 0 m:=by
    cases m with
    |nil=>exact absurd rfl hm
    |cons a r =>
     have ha:AC4 a:=h3 a (by simp)
     unfold AC4 at ha
     have h48:a.toNat≠48:=fun e=>hh (by
      have:a=48:=UInt8.toNat_inj.mp e
      simp[this])
     have:=BW2 r (0*10+ (a.toNat - 48))
     rw[AI2];omega
   rw[AY0 (by omega)]
   rw[show(AD7 0 m*10+ (c.toNat - 48)) / 10=AD7 0 m by omega,show(AD7 0 m*10+ (c.toNat - 48)) % 10=c.toNat - 48 by omega]
   rw[ih m (by simp at h;omega) hml (fun e=>absurd e hh) (fun c hc=>h3 c (by simp[hc]))]
   congr 2
   apply UInt8.toNat_inj.mp
   rw[Ai3 _ (by omega)];omega
theorem BK2:∀ (l:List UInt8) (a:Nat),(∀c∈l,AC4 c)→(a+1)*10 ^ l.length≤10000000→Lib.parseUint10 a l=.ok (AD7 a l)∧AD7 a l<10000000:=by
 intro l
 induction l with
 |nil=>intro a _ h;simp at h;rw[AR4];exact⟨rfl,by omega⟩
 |cons c r ih =>
  intro a hd h
  have hc:AC4 c:=hd c (by simp)
  unfold AC4 at hc
  rw[List.length_cons,Nat.pow_succ]at h
  have h1:1≤10 ^ r.length:=Nat.one_le_pow _ _ (by decide)
  have h2:(a*10+ (c.toNat - 48)+1)*10 ^ r.length≤((a+1)*10)*10 ^ r.length:=Nat.mul_le_mul_right _ (by omega)
  have h3:(a+1)* (10 ^ r.length*10)=((a+1)*10)*10 ^ r.length:=by rw[Nat.mul_comm (10 ^ r.length) 10,Nat.mul_assoc]
  have h4:(a+1)*10*1≤((a+1)*10)*10 ^ r.length:=Nat.mul_le_mul_left _ h1
  have:=ih (a*10+ (c.toNat - 48)) (fun c hc=>hd c (by simp[hc])) (by omega)
  simp only[Lib.parseUint10,AI2]
  rw[if_pos hc,if_neg (by omega),if_neg (by omega)]
  exact this
theorem BK0 (l:List UInt8)(h:Num l):AD7 0 l≤999999:=by
 by_cases hc:AD7 0 l≤999999
 ·exact hc
 ·have hb:Lib.decDigits (AD7 0 l)=l:=At4 _ l rfl h.1 h.2.2.1 h.2.2.2
  have:∀ (k n:Nat),10 ^ k≤n→k+1≤(Lib.decDigits n).length:=by
   intro k
   induction k with
   |zero=>intro n _;exact List.length_pos_iff.mpr (BK7 n)
   |succ k ih =>
    intro n hn
    have h1:1≤10 ^ k:=Nat.one_le_pow _ _ (by decide)
    rw[Nat.pow_succ]at hn
    rw[AY0 (by omega)]
    have:=ih (n / 10) (by omega)
    simp;omega
  have h7:=this 6 (AD7 0 l) (by omega)
  rw[hb]at h7
  have:=h.2.1
  omega
theorem BM2 (l:List UInt8)(h:Num l):Lib.atoiAll l=.ok (AD7 0 l:Int):=by
 obtain⟨h1,h2,h3,h4⟩:=h
 cases l with
 |nil=>simp at h1
 |cons c r =>
  have hc:AC4 c:=h4 c (by simp)
  unfold AC4 at hc
  have hp:10 ^ (c::r).length≤10 ^ 6:=Nat.pow_le_pow_right (by decide) h2
  have hq:=BK2 (c::r) 0 h4 (by omega)
  unfold Lib.atoiAll
  simp only
  rw[if_neg (show ¬(c.toNat=43∨c.toNat=45)by omega)]
  unfold Lib.parseMag
  rw[if_neg (by simp),hq.1]
  simp only
  rw[if_neg (by omega),if_neg (by omega),if_neg (by omega)]
def AA8 (f:List UInt8→List UInt8):List (List UInt8)→List (List UInt8)
 |[]=>[]
 |h::t=>f h::t
def AB9 (s:UInt8):List UInt8→List (List UInt8)
 |[]=>[[]]
 |c::l=>if c=s then []::AB9 s l else AA8 (c::·) (AB9 s l)
def Av2 (s:UInt8)(cur:List UInt8):List UInt8→List (List UInt8)
 |[]=>[cur]
 |c::l=>if c=s then cur::Av2 s [] l else Av2 s (cur++ [c]) l
theorem BE0 (s:UInt8)(l:List UInt8):AB9 s l≠[]:=by
 induction l with
 |nil=>simp[AB9]
 |cons c l ih =>
  unfold AB9;split
  ·simp
  ·cases h:AB9 s l with
   |nil=>exact absurd h ih
   |cons=>simp[AA8]
theorem BS9 (s:UInt8)(l:List UInt8):∀cur,Av2 s cur l=AA8 (cur++·) (AB9 s l):=by
 induction l with
 |nil=>intro cur;simp[Av2,AB9,AA8]
 |cons c l ih =>
  intro cur
  unfold Av2 AB9
  split
  ·rw[ih []]
   simp only[AA8,List.append_nil]
   congr 1
   cases AB9 s l with
   |nil=>rfl
   |cons h t=>simp[AA8]
  ·rw[ih]
   cases AB9 s l with
   |nil=>rfl
   |cons h t=>simp[AA8]
theorem BE1 (s:UInt8)(l:List UInt8):(AB9 s l).length≤l.length+1:=by
 induction l with
 |nil=>simp[AB9]
 |cons c l ih =>
  unfold AB9
  split
  ·simp;omega
  ·cases h:AB9 s l with
   |nil=>simp[AA8]
   |cons a t=>rw[h]at ih;simp[AA8]at ih ⊢;omega
theorem As0 (s:UInt8)(l:List UInt8):∀p∈AB9 s l,p.length≤l.length:=by
 induction l with
 |nil=>intro p hp;simp[AB9]at hp;subst hp;simp
 |cons c l ih =>
  intro p hp
  unfold AB9 at hp
  split at hp
  ·rcases List.mem_cons.mp hp with rfl|hp
   ·simp
   ·have:=ih p hp;simp;omega
  ·cases h:AB9 s l with
   |nil=>rw[h]at hp;simp[AA8]at hp
   |cons a t =>
    rw[h]at hp ih
    simp only[AA8]at hp
    rcases List.mem_cons.mp hp with rfl|hp
    ·have:=ih a (by simp);simp;omega
    ·have:=ih p (by simp[hp]);simp;omega
theorem BQ8 (s:UInt8)(l:List UInt8):1< (AB9 s l).length↔s∈l:=by
 induction l with
 |nil=>simp[AB9]
 |cons c l ih =>
  have hn:=BE0 s l
  unfold AB9
  split
  ·rename_i e;subst e
   have:=List.length_pos_iff.mpr hn
   simp;omega
  ·rename_i e
   cases h:AB9 s l with
   |nil=>exact absurd h hn
   |cons a t =>
    rw[h]at ih
    simp only[AA8,List.length_cons,List.mem_cons]at ih ⊢
    rw[ih]
    exact⟨fun h=>.inr h,fun h=>h.resolve_left (fun e2=>e e2.symm)⟩
theorem Af8 (s:UInt8)(l:List UInt8):Lib.index (s::l) [s]=0:=by unfold Lib.index;simp
theorem BB3 (s:UInt8):Lib.index [] [s]= -1:=by unfold Lib.index;simp
theorem AZ5 (s c:UInt8)(l:List UInt8)(h:c≠s):Lib.index (c::l) [s]=if Lib.index l [s]= -1 then -1 else Lib.index l [s]+1:=by
 conv=>lhs;unfold Lib.index
 have:(List.isPrefixOf [s] (c::l))=false:=by
  simp[List.isPrefixOf];exact fun e=>h e.symm
 rw[this]
 simp
theorem As3 (s:UInt8)(k:Nat)(l:List UInt8):Lib.splitK [s] 0 (k+1) (s::l)=[]::Lib.splitK [s] 0 k l:=by
 rw[Lib.splitK,Af8];simp
theorem BA7 (s c:UInt8)(h:c≠s)(k:Nat)(l:List UInt8):Lib.splitK [s] 0 k (c::l)=AA8 (c::·) (Lib.splitK [s] 0 k l):=by
 cases k with
 |zero=>rfl
 |succ k =>
  have hge:=Lib.index_ge l [s]
  simp only[Lib.splitK]
  rw[AZ5 s c l h]
  by_cases hi:Lib.index l [s]= -1
  ·rw[if_pos hi,hi];simp[AA8]
  ·rw[if_neg hi,if_neg (by simp;omega),if_neg (by simpa using hi)]
   obtain⟨i,hi2⟩:∃i:Nat,Lib.index l [s]=(i:Int):=⟨(Lib.index l [s]).toNat,by omega⟩
   rw[hi2,show((i:Int)+1).toNat=i+1 by omega,show((i:Int)).toNat=i by omega]
   simp[AA8]
theorem Aw0 (s:UInt8):Lib.count [] [s]=0:=Lib.count_miss (BB3 s)
theorem BA6 (s:UInt8)(l:List UInt8):Lib.count (s::l) [s]=1+Lib.count l [s]:=by
 have:=Lib.count_hit (s:=s::l) (sub:=[s]) (i:=0) (by simp) (by rw[Af8];rfl)
 simpa using this
theorem BG4 (s c:UInt8)(l:List UInt8)(h:c≠s):Lib.count (c::l) [s]=Lib.count l [s]:=by
 have hge:=Lib.index_ge l [s]
 by_cases hi:Lib.index l [s]= -1
 ·rw[Lib.count_miss hi,Lib.count_miss (by rw[AZ5 s c l h,if_pos hi])]
 ·obtain⟨i,hi2⟩:∃i:Nat,Lib.index l [s]=(i:Int):=⟨(Lib.index l [s]).toNat,by omega⟩
  rw[Lib.count_hit (s:=l) (sub:=[s]) (i:=i) (by simp) hi2,Lib.count_hit (s:=c::l) (sub:=[s]) (i:=i+1) (by simp) (by rw[AZ5 s c l h,if_neg hi,hi2];rfl)]
  simp
theorem BU2 (s:UInt8)(l:List UInt8):Lib.splitK [s] 0 (Lib.count l [s]) l=AB9 s l:=by
 induction l with
 |nil=>rw[Aw0];rfl
 |cons c l ih =>
  unfold AB9
  by_cases h:c=s
  ·subst h
   rw[if_pos rfl,BA6,Nat.add_comm,As3,ih]
  ·rw[if_neg h,BG4 s c l h,BA7 s c h,ih]
theorem AI0 (s:ByteArray):s.size=s.data.toList.length:=by rw[Array.length_toList];rfl
theorem Af1 (s:ByteArray)(i:Nat)(h:i<s.data.toList.length):bt s (i:Int)=((s.data.toList[i]).toNat:Int):=by
 have h2:i<s.size:=by rw[AI0];exact h
 unfold bt
 rw[dif_pos (by rw[Int.toNat_natCast];exact h2)]
 simp only[Int.toNat_natCast]
 rfl
theorem Av1 (s:ByteArray) (a b:Nat)(h:b≤s.size):s.extract a b=Y4 ((s.data.toList.take b).drop a):=by
 have e:(s.extract a b).data.toList=(s.data.toList.take b).drop a:=by
  rw[ByteArray.data_extract,Array.toList_extract,List.drop_take]
 rw[←e];rfl
theorem BV1 (c b:UInt8):(c.toNat:Int)=(b.toNat:Int)↔c=b:=by
 constructor
 ·intro h
  apply UInt8.toNat_inj.mp
  omega
 ·rintro rfl;rfl
theorem AW2 (s:ByteArray)(b:UInt8)(hs:s.size≤1048576):∀ (d i a:Nat) (x:List ByteArray),i+d=s.size→a≤i→x.length≤i→
  Ev (fun k=>Q9.l0 k s (b.toNat:Int) x (a:Int) (i:Int)) (x++ (Av2 b ((s.data.toList.take i).drop a) (s.data.toList.drop i)).map Y4):=by
 intro d
 induction d with
 |zero =>
  intro i a x h ha hx
  have hl:=AI0 s
  rw[show s.data.toList.drop i=[]from List.drop_eq_nil_of_le (by omega)]
  refine Ev.step (fun k=>by simp only[Q9.l0];rfl) ?_
  refine en (ep (ep (ep (C7 ?_))))
  rw[Int.toNat_natCast,Av1 s a s.size (Nat.le_refl _)]
  obtain rfl:i=s.size:=by omega
  rfl
 |succ d ih =>
  intro i a x h ha hx
  have hl:=AI0 s
  have hlt:i<s.data.toList.length:=by omega
  refine Ev.step (fun k=>by simp only[Q9.l0];rfl) ?_
  refine ep (ep ?_)
  rw[Af1 s i hlt,List.drop_eq_getElem_cons hlt]
  rw[E2 (by omega)]
  refine X2 (fun hc=>?_) (fun hc=>?_)
  ·have hc:=(BV1 _ _).mp hc
   refine ep (ep (ep (ep ?_)))
   refine S7 (ih (i+1) (i+1) _ (by omega) (Nat.le_refl _) (by simp;omega)) ?_
   rw[Int.toNat_natCast,Int.toNat_natCast,Av1 s a i (by omega)]
   conv=>rhs;unfold Av2
   rw[if_pos hc,List.drop_take]
   simp
  ·have hc:¬s.data.toList[i]=b:=fun e=>hc ((BV1 _ _).mpr e)
   refine S7 (ih (i+1) a x (by omega) (by omega) (by omega)) ?_
   conv=>rhs;unfold Av2
   rw[if_neg hc,List.take_succ_eq_append_getElem hlt,List.drop_append_of_le_length (by simp;omega)]
theorem AG9 (s:ByteArray)(b:UInt8)(hs:s.size≤1048576):Ev (fun k=>Q9.f k s (b.toNat:Int)) ((AB9 b s.data.toList).map Y4):=by
 unfold Q9.f
 refine S7 (AW2 s b hs s.size 0 0 [] (by omega) (Nat.le_refl _) (Nat.le_refl _)) ?_
 simp[BS9]
 cases AB9 b s.data.toList with
 |nil=>rfl
 |cons h t=>simp[AA8]
theorem Av3 (s:ByteArray)(b:UInt8)(hs:s.size≤1048576):W5.f s (⟨#[b]⟩:ByteArray)=some ((AB9 b s.data.toList).map Y4):=by
 unfold W5.f
 rw[if_pos ⟨by omega,Nat.le_refl 1⟩]
 have h:=Lib.splitB_data (⟨#[b]⟩:ByteArray) 0 (Lib.countB s ⟨#[b]⟩) s
 rw[show Lib.countB s ⟨#[b]⟩=Lib.count s.data.toList [b]from rfl]at h ⊢
 rw[show(⟨#[b]⟩:ByteArray).data.toList=[b]from rfl,BU2]at h
 rw[←h,List.map_map]
 congr 1
 exact(List.map_id _).symm
theorem AX7 (s:ByteArray)(hs:s.size≤6):∀ (d i v:Nat),i+d=s.size→(v+1)*10 ^ d≤10000000→
  Ev (fun k=>O2.l0 k s (v:Int) (i:Int)) (if ∀c∈s.data.toList.drop i,AC4 c then(AD7 v (s.data.toList.drop i):Int)else -1):=by
 intro d
 induction d with
 |zero =>
  intro i v h hv
  have hl:=AI0 s
  rw[List.drop_eq_nil_of_le (by omega)]
  refine Ev.step (fun k=>by simp only[O2.l0];rfl) ?_
  exact en (C7 (by simp[AR4]))
 |succ d ih =>
  intro i v h hv
  have hl:=AI0 s
  have hlt:i<s.data.toList.length:=by omega
  refine Ev.step (fun k=>by simp only[O2.l0];rfl) ?_
  refine ep (ep ?_)
  rw[Af1 s i hlt,List.drop_eq_getElem_cons hlt]
  generalize hc:s.data.toList[i]=c
  refine X2 (fun h1=>C7 ?_) (fun h1=>X2 (fun h2=>C7 ?_) (fun h2=>?_))
  ·rw[if_neg (fun e=>by have:=e c (by simp);unfold AC4 at this;omega)]
  ·rw[if_neg (fun e=>by have:=e c (by simp);unfold AC4 at this;omega)]
  ·have hd:AC4 c:=by unfold AC4;omega
   unfold AC4 at hd
   have h1:1≤10 ^ d:=Nat.one_le_pow _ _ (by decide)
   rw[Nat.pow_succ]at hv
   have h3:(v+1)* (10 ^ d*10)=((v+1)*10)*10 ^ d:=by rw[Nat.mul_comm (10 ^ d) 10,Nat.mul_assoc]
   have h4:(v+1)*10*1≤((v+1)*10)*10 ^ d:=Nat.mul_le_mul_left _ h1
   have h5:(v*10+ (c.toNat - 48)+1)*10 ^ d≤((v+1)*10)*10 ^ d:=Nat.mul_le_mul_right _ (by omega)
   rw[E2 (by omega)]
   rw[show wrap64 ((wrap64 (10* (v:Int)))+ ((((c.toNat:Int)) - 48) % 256))=((v*10+ (c.toNat - 48):Nat):Int)from by
    rw[E4 (x:=10* (v:Int)) (by omega),E4 (by omega)];omega]
   refine S7 (ih (i+1) _ (by omega) (by omega)) ?_
   rw[AI2]
   have hd2:AC4 c:=hd
   simp[hd2]
theorem BD9 (c:UInt8)(r:List UInt8):bt (Y4 (c::r)) 0=(c.toNat:Int):=by
 have:=Af1 (Y4 (c::r)) 0 (by simp[Y4])
 simpa [Y4]using this
def AT5 (l:List UInt8):Int:=match AF8 l with|some v=>(v:Int)|none=> -1
theorem AN7 (l:List UInt8)(h1:1≤l.length)(h2:l.length≤6)(h3:l.head? =some 48→l.length≤1):Ev (fun k=>O2.l0 k (Y4 l) 0 0) (AT5 l):=by
 have hp:10 ^ l.length≤10 ^ 6:=Nat.pow_le_pow_right (by decide) h2
 refine S7 (AX7 (Y4 l) (by rw[O7];omega) l.length 0 0 (by rw[O7];omega) (by omega)) ?_
 rw[show(Y4 l).data.toList=l from by simp[Y4],List.drop_zero]
 unfold AT5 AF8
 by_cases h:∀c∈l,AC4 c
 ·rw[if_pos h,if_pos (show Num l from⟨h1,h2,h3,h⟩)]
 ·rw[if_neg h,if_neg (show ¬Num l from fun e=>h e.2.2.2)]
theorem AO5 (l:List UInt8)(hl:l.length≤1048576):Ev (fun k=>O2.f k (Y4 l)) (AT5 l):=by
 unfold O2.f
 refine D8 (J6 _ _ _) ?_
 refine X2 (fun h=>?_) (fun h=>?_)
 ·have h:=I3.mp h
  rw[O7]at h
  refine D9 (by rw[O7];omega) ?_
  cases l with
  |nil=>simp at h
  |cons c r =>
   rw[BD9]
   refine X2 (fun h0=>?_) (fun h0=>?_)
   ·have hc:c=48:=by
     apply UInt8.toNat_inj.mp
     have:(48:UInt8).toNat=48:=rfl
     omega
    refine Ev.step (fun k=>by simp only[O2.j0];rfl) ?_
    refine X2 (fun h1=>C7 ?_) (fun h1=>?_)
    ·have h1:=of_decide_eq_true h1
     rw[O7]at h1
     unfold AT5 AF8
     rw[if_neg (fun e:Num (c::r)=>by have:=e.2.2.1 (by rw[hc];rfl);omega)]
    ·have h1:¬(((Y4 (c::r)).size:Int)>1):=fun e=>h1 (decide_eq_true e)
     rw[O7]at h1
     exact AN7 (c::r) (by omega) (by omega) (fun _=>by omega)
   ·refine Ev.step (fun k=>by simp only[O2.j0];rfl) ?_
    refine G8 (by simp) ?_
    refine AN7 (c::r) (by omega) (by omega) (fun e=>absurd ?_ h0)
    have hc:c=48:=Option.some.inj e
    rw[hc];rfl
 ·refine Ev.step (fun k=>by simp only[O2.j0];rfl) ?_
  refine D9 trivial (C7 ?_)
  unfold AT5 AF8
  rw[if_neg (fun e:Num l=>h (I3.mpr (by rw[O7];exact⟨by have:=e.1;omega,by have:=e.2.1;omega⟩)))]
def Al8 (l:List UInt8):Int×Bool:=match AF8 l with|some v=>((v:Int),true)|none=>(0,false)
theorem AH2 (l:List UInt8)(hl:l.length≤1048576):U1.f (Y4 l)=some (Al8 l):=by
 unfold U1.f
 rw[if_pos (by rw[O7];omega)]
 have hd:(Y4 l).data.toList=l:=by simp[Y4]
 have ht:(Y4 l).toList=l:=ByteArray.toList_mk l
 by_cases h:Num l
 ·have hv:=BK0 l h
  have hn:Go.Proofs.YtpiogigidgejpaaGreatDoor.Laid.num (Y4 l)=some (AD7 0 l:Int):=by
   unfold Go.Proofs.YtpiogigidgejpaaGreatDoor.Laid.num
   rw[hd,BM2 l h]
  have hi:Lib.itoa (AD7 0 l:Int)=l:=by
   unfold Lib.itoa
   rw[if_neg (by omega),Int.toNat_natCast]
   exact At4 _ l rfl h.1 h.2.2.1 h.2.2.2
  rw[hn]
  simp only
  rw[if_pos (by omega),hi,if_pos (by rw[ht];exact ByteArray.toList_mk l)]
  unfold Al8 AF8
  rw[if_pos h]
 ·have hr:Al8 l=(0,false):=by unfold Al8 AF8;rw[if_neg h]
  rw[hr]
  cases hn:Go.Proofs.YtpiogigidgejpaaGreatDoor.Laid.num (Y4 l)with
  |none=>rfl
  |some v =>
   simp only
   by_cases hb:0≤v∧v≤999999
   ·rw[if_pos hb,if_neg]
    intro e
    rw[ht,ByteArray.toList_mk]at e
    unfold Lib.itoa at e
    rw[if_neg (by omega)]at e
    exact h (e ▸ BW5 v.toNat (by omega))
   ·rw[if_neg hb]
theorem AW4 (l:List UInt8)(v:Nat)(h:AF8 l=some v):v≤999999:=by
 unfold AF8 at h
 split at h
 ·rename_i hn
  obtain rfl:=Option.some.inj h
  exact BK0 l hn
 ·cases h
def AM0:List (List UInt8)→Option (List Int)
 |[]=>some []
 |p::ps=>match AF8 p with
  |none=>none
  |some v=>(AM0 ps).map ((v:Int)::·)
theorem Aj2 (x:List Int)(h:x.length≤1048577)(hx:∀v∈x,0≤v∧v≤999999):Ev (fun k=>AC7.f k x) (decide (x.length≤1100)):=by
 unfold AC7.f
 refine X2 (fun h1=>?_) (fun h1=>C7 (by rw[decide_eq_false (by omega)]))
 refine C6 (AJ4 0 999999 x (by omega)) (C7 ?_)
 rw[decide_eq_true (by omega)]
 exact AK4.mpr hx
theorem Ap9 (P:List (List UInt8))(i:Nat)(h:i<P.length):o9 ByteArray.empty (P.map Y4) (i:Int)=Y4 P[i]:=by
 unfold o9
 rw[Int.toNat_natCast]
 simp[List.getD_eq_getElem?_getD,List.getElem?_eq_getElem h]
def At0 (x:List Int)(o:Option (List Int)):List Int×Bool:=match o with|none=>([],false)|some ys=>(x++ys,decide ((x++ys).length≤1100))
def Am3 (x:List Int)(o:Option (List Int)):List Int×Bool:=match o with|none=>([],false)|some ys=>if(x++ys).length≤1100 then(x++ys,true)else([],false)
theorem AX3 (P:List (List UInt8))(hP:P.length≤1048577)(he:∀p∈P,p.length≤1048576):∀ (d i:Nat) (x:List Int),i+d=P.length→x.length=i→(∀v∈x,0≤v∧v≤999999)→
  Ev (fun k=>V5.l0 k x (P.map Y4) ((P.map Y4).length:Int) (i:Int)) (At0 x (AM0 (P.drop i))):=by
 intro d
 induction d with
 |zero =>
  intro i x h hx hv
  rw[List.drop_eq_nil_of_le (by omega)]
  refine Ev.step (fun k=>by simp only[V5.l0];rfl) ?_
  refine G8 (by rw[List.length_map];omega) ?_
  refine C6 (Aj2 x (by omega) hv) (C7 ?_)
  simp[At0,AM0]
 |succ d ih =>
  intro i x h hx hv
  have hlt:i<P.length:=by omega
  refine Ev.step (fun k=>by simp only[V5.l0];rfl) ?_
  refine D9 (by rw[List.length_map];omega) (ep (D9 (by rw[List.length_map];omega) ?_))
  rw[Ap9 P i hlt,List.drop_eq_getElem_cons hlt]
  generalize hp:P[i]=p
  have hpl:p.length≤1048576:=he p (hp ▸ List.getElem_mem hlt)
  refine C6 (AO5 p hpl) ?_
  unfold AM0
  cases hr:AF8 p with
  |none =>
   rw[show AT5 p= -1 from by unfold AT5;rw[hr]]
   exact ep (C7 rfl)
  |some v =>
   have hv2:=AW4 p v hr
   rw[show AT5 p=(v:Int)from by unfold AT5;rw[hr]]
   refine en (ep ?_)
   rw[E2 (by omega)]
   refine S7 (ih (i+1) _ (by omega) (by simp;omega) (fun u hu=>?_)) ?_
   ·rcases List.mem_append.mp hu with hu|hu
    ·exact hv u hu
    ·obtain rfl:=List.mem_singleton.mp hu;omega
   ·simp only
    cases AM0 (P.drop (i+1))with
    |none=>rfl
    |some ys=>simp[At0]
theorem AS4 (P:List (List UInt8))(hP:P.length≤1048577)(he:∀p∈P,p.length≤1048576):∀ (d i:Nat) (x:List Int),i+d=P.length→x.length=i→x.length≤1100→
  Ev (fun k=>P5.l0 k x (P.map Y4) ((P.map Y4).length:Int) (i:Int)) (Am3 x (AM0 (P.drop i))):=by
 intro d
 induction d with
 |zero =>
  intro i x h hx hv
  rw[List.drop_eq_nil_of_le (by omega)]
  refine Ev.step (fun k=>by simp only[P5.l0];rfl) ?_
  refine G8 (by rw[List.length_map];omega) (C7 ?_)
  simp only[Am3,AM0,List.append_nil]
  rw[if_pos hv]
 |succ d ih =>
  intro i x h hx hv
  have hlt:i<P.length:=by omega
  refine Ev.step (fun k=>by simp only[P5.l0];rfl) ?_
  refine D9 (by rw[List.length_map];omega) (ep (D9 (by rw[List.length_map];omega) ?_))
  rw[Ap9 P i hlt,List.drop_eq_getElem_cons hlt]
  generalize hp:P[i]=p
  have hpl:p.length≤1048576:=he p (hp ▸ List.getElem_mem hlt)
  refine D8 (AH2 p hpl) ?_
  unfold Al8 AM0
  cases hr:AF8 p with
  |none=>exact G8 (by simp) (C7 rfl)
  |some v =>
   refine D9 rfl ?_
   refine X2 (fun h1=>C7 ?_) (fun h1=>ep ?_)
   ·simp only
    cases AM0 (P.drop (i+1))with
    |none=>rfl
    |some ys =>
     simp only[Am3,Option.map_some]
     rw[if_neg (by simp;omega)]
   ·rw[E2 (by omega)]
    refine S7 (ih (i+1) _ (by omega) (by simp;omega) (by simp;omega)) ?_
    simp only
    cases AM0 (P.drop (i+1))with
    |none=>rfl
    |some ys=>simp[Am3]
def Aj5 (s:ByteArray):List Int×Bool:=if s.toList=[45]then([],true)else Am3 [] (AM0 (AB9 44 s.data.toList))
theorem AR8 (s:ByteArray)(hs:s.size≤1048576):(AB9 44 s.data.toList).length≤1048577∧∀p∈AB9 44 s.data.toList,p.length≤1048576:=by
 have hl:=AI0 s
 refine⟨by have:=BE1 44 s.data.toList;omega,fun p hp=>by have:=As0 44 s.data.toList p hp;omega⟩
def AV8 (s:ByteArray):List Int×Bool:=if s.toList=[45]then([],true)else At0 [] (AM0 (AB9 44 s.data.toList))
theorem Ab8 (s:ByteArray)(hs:s.size≤1048576):Ev (fun k=>V5.f k s) (AV8 s):=by
 unfold V5.f AV8
 by_cases h:s.toList=[45]
 ·rw[if_pos h]
  exact D9 h (C7 rfl)
 ·rw[if_neg h]
  refine G8 h (C6 (AG9 s 44 hs) ?_)
  exact AX3 (AB9 44 s.data.toList) (AR8 s hs).1 (AR8 s hs).2 _ 0 [] (Nat.zero_add _) rfl (by simp)
theorem AW8 (s:ByteArray)(hs:s.size≤1048576):Ev (fun k=>P5.f k s) (Aj5 s):=by
 unfold P5.f
 refine D8 rfl ?_
 refine X2 (fun h=>C7 (by unfold Aj5;rw[if_pos h])) (fun h=>?_)
 refine D8 (Av3 s 44 hs) ?_
 unfold Aj5
 rw[if_neg h]
 exact AS4 (AB9 44 s.data.toList) (AR8 s hs).1 (AR8 s hs).2 _ 0 [] (Nat.zero_add _) rfl (by simp)
end Go.Proofs.YtpiogigidgejpaaGreatDoor.Pure
namespace Go.Proofs.YtpiogigidgejpaaGreatDoor.Pure
open Go.RowKit Go.Proofs.YtpiogigidgejpaaGreatDoor.PFnExactStepLine Go.Proofs.YtpiogigidgejpaaGreatDoorW.PrintWords Go.Proofs.YtpiogigidgejpaaGreatDoorW.PrintLast Go.Proofs.YtpiogigidgejpaaGreatDoor.Base
set_option maxRecDepth 10000
set_option linter.unusedVariables false
set_option linter.unusedSimpArgs false
theorem As4 (a b:Nat)(ha:a<2 ^ 62)(hb:b<2 ^ 62):Go.bits .xor .i64 (a:Int) (b:Int)=((a ^^^ b:Nat):Int):=by
 have hx:a ^^^ b<2 ^ 62:=Nat.xor_lt_two_pow ha hb
 have e:Go.bits .xor .i64 (a:Int) (b:Int)=IntKind.i64.wrap ((BitVec.ofInt 64 (a:Int) ^^^ BitVec.ofInt 64 (b:Int)).toNat:Int):=rfl
 rw[e,P9,BitVec.toNat_xor,BitVec.ofInt_natCast,BitVec.ofInt_natCast,BitVec.toNat_ofNat,BitVec.toNat_ofNat,Nat.mod_eq_of_lt (by omega),Nat.mod_eq_of_lt (by omega),E4 (by omega)]
theorem Aq0:∀n:Nat,n≤10→shl .i64 1 (n:Int)=((2 ^ n:Nat):Int):=by
 intro n h
 have:n=0∨n=1∨n=2∨n=3∨n=4∨n=5∨n=6∨n=7∨n=8∨n=9∨n=10:=by omega
 rcases this with rfl|rfl|rfl|rfl|rfl|rfl|rfl|rfl|rfl|rfl|rfl<;>decide
theorem Af9 (n:Nat)(h:n≤10):2 ^ n≤1024:=Nat.pow_le_pow_right (by decide) h
theorem BJ4 (n:Nat)(h:n≤10):gcN n=(List.range (2 ^ n)).map AS7:=by
 have:=List.all_eq_true.mp BT1 n (by simp;omega)
 exact eq_of_beq this
theorem BS2 (n:Nat)(h:n≤10):(gcN n).length=2 ^ n:=by rw[BJ4 n h];simp
theorem Af4 (r:Nat)(h:r<1024):AN6 11 (AS7 r) 0=r∧AS7 (AN6 11 r 0)=r:=by
 have:=List.all_eq_true.mp BF2 r (by simp;omega)
 rw[Bool.and_eq_true]at this
 exact⟨eq_of_beq this.1,eq_of_beq this.2⟩
theorem BN4 (n w:Nat)(h:n≤10)(hw:w<2 ^ n):AN6 11 w 0<2 ^ n:=by
 have:=List.all_eq_true.mp (List.all_eq_true.mp BA1 n (by simp;omega)) w (by simp;omega)
 exact of_decide_eq_true this
def gcI (n:Nat):List Int:=(gcN n).map fun(x:Nat)=>(x:Int)
theorem AQ6 (n:Nat)(h:n≤10):(gcI n).length=2 ^ n:=by rw[gcI,List.length_map,BS2 n h]
theorem BC7 (r:Nat)(h:r<1024):AS7 r<1024:=by
 unfold AS7
 have:r >>> 1<2 ^ 10:=by rw[Nat.shiftRight_eq_div_pow];omega
 exact Nat.xor_lt_two_pow (n:=10) (by omega) this
theorem AV1 (n r:Nat)(h:n≤10)(hr:r<2 ^ n):(gcI n).getD r 0=((AS7 r:Nat):Int):=by
 have h1:r< (gcI n).length:=by rw[AQ6 n h];exact hr
 rw[List.getD_eq_getElem?_getD,List.getElem?_eq_getElem h1,Option.getD_some]
 simp only[gcI,List.getElem_map]
 congr 1
 simp[BJ4 n h]
theorem AQ5:∀ (n:Nat),n≤10→Ev (fun g=>N7.f g (n:Int)) (gcI n):=by
 intro n
 induction n with
 |zero=>intro _;refine Ev.step (fun k=>by simp only[N7.f];rfl) ?_;exact D9 rfl (C7 rfl)
 |succ n ih =>
  intro h
  have hp:=Af9 n (by omega)
  have hp2:2 ^ n≤512:=Nat.pow_le_pow_right (n:=2) (i:=n) (j:=9) (by decide) (by omega)
  have hl:=AQ6 n (by omega)
  refine Ev.step (fun k=>by simp only[N7.f];rfl) ?_
  refine en ?_
  rw[S9 (by omega)]
  refine C6 (ih (by omega)) ?_
  have loop:∀ (m:Nat) (acc:List Int),m≤2 ^ n→acc.length+m≤1024→Ev (fun g=>N7.l0 g ((n+1:Nat):Int) (gcI n++acc) (wrap64 ((m:Int) - 1))) (gcI n++acc++ ((gcI n).take m).reverse.map (·+ ((2 ^ n:Nat):Int))):=by
   intro m
   induction m with
   |zero =>
    intro acc _ _
    refine Ev.step (fun k=>by simp only[N7.l0];rfl) ?_
    exact G8 (by unfold wrap64;omega) (C7 (by simp))
   |succ m ihm =>
    intro acc h1 h2
    refine Ev.step (fun k=>by simp only[N7.l0];rfl) ?_
    rw[S9 (by omega),S9 (by omega)]
    have hg:rd (gcI n++acc) (m:Int)=((AS7 m:Nat):Int):=by
     rw[U0,List.getD_eq_getElem?_getD,List.getElem?_append_left (by omega),←List.getD_eq_getElem?_getD]
     exact AV1 n m (by omega) (by omega)
    have hb:=BC7 m (by omega)
    rw[hg,Aq0 n (by omega),E4 (x:=((AS7 m:Nat):Int)+ ((2 ^ n:Nat):Int)) (by omega)]
    refine ep (ep (D9 (by simp;omega) (ep (D9 (by simp;omega) ?_))))
    rw[List.append_assoc]
    refine S7 (ihm (acc++ [((AS7 m:Nat):Int)+ ((2 ^ n:Nat):Int)]) (by omega) (by simp;omega)) ?_
    have e:(gcI n).take (m+1)=(gcI n).take m++ [((AS7 m:Nat):Int)]:=by
     rw[Ad2 (gcI n) m (by omega),U0,AV1 n m (by omega) (by omega)]
    rw[e];simp
  have:=loop (2 ^ n) [] (Nat.le_refl _) (by simp;omega)
  rw[List.append_nil]at this
  rw[hl]
  refine S7 this ?_
  rw[List.take_of_length_le (by omega)]
  simp[gcI,gcN]
theorem Ab7 (L:List Int)(x:Int)(hL:L.length≤1000000000):Ev (fun g=>P6.f g L x) (if x∈L then((L.idxOf x:Nat):Int)else -1):=by
 unfold P6.f
 have:∀ (d i:Nat),i+d=L.length→Ev (fun g=>P6.l0 g x L (L.length:Int) (i:Int)) (if x∈L.drop i then((i+ (L.drop i).idxOf x:Nat):Int)else -1):=by
  intro d
  induction d with
  |zero =>
   intro i h
   rw[List.drop_eq_nil_of_le (by omega)]
   refine Ev.step (fun k=>by simp only[P6.l0];rfl) ?_
   exact en (C7 (by simp))
  |succ d ih =>
   intro i h
   have hi:i<L.length:=by omega
   refine Ev.step (fun k=>by simp only[P6.l0];rfl) ?_
   refine ep (ep (ep ?_))
   rw[U0,L9 L i 0 hi,E2 (by omega)]
   refine X2 (fun hc=>C7 ?_) (fun hc=>S7 (ih (i+1) (by omega)) ?_)
   ·rw[if_pos (List.mem_cons.mpr (.inl hc)),List.idxOf_cons,←hc];simp
   ·have hne:(L.getD i 0==x)=false:=beq_eq_false_iff_ne.mpr (fun e=>hc e.symm)
    by_cases hm:x∈L.drop (i+1)
    ·rw[if_pos hm,if_pos (List.mem_cons_of_mem _ hm),List.idxOf_cons,hne];simp;omega
    ·rw[if_neg hm,if_neg (fun e=>(List.mem_cons.mp e).elim hc hm)]
 have h:=this L.length 0 (by omega)
 simpa using h
theorem AR6 (n w:Nat):m7.f (n:Int) (w:Int)=some (decide (1≤n∧n≤10∧w<2 ^ n)):=by
 unfold m7.f AC9.f
 rw[H9]
 simp only[Option.bind_some]
 by_cases h:1≤n∧n≤10
 ·have hp:=Af9 n h.2
  have hp1:=Nat.one_le_pow n 2 (by decide)
  rw[if_pos (I3.mpr (by omega)),if_pos (by omega),H9,Option.bind_some,Aq0 n h.2,E4 (by omega)]
  congr 1
  rw[Bool.eq_iff_iff,I3,decide_eq_true_eq];omega
 ·rw[if_neg (fun e=>h (by have:=I3.mp e;omega))]
  congr 1
  rw[eq_comm,decide_eq_false_iff_not];omega
theorem AR1 (n:Nat):j9.f (n:Int)=some (decide (1≤n∧n≤10)):=by
 unfold j9.f
 rw[J6,Option.bind_some]
 congr 1
 rw[Bool.eq_iff_iff,I3,decide_eq_true_eq];omega
theorem AR5 (n w:Nat)(h:n≤10):u9.f (n:Int) (w:Int)=some (decide (w<2 ^ n)):=by
 have hp:=Af9 n h
 have hp2:1≤2 ^ n:=Nat.one_le_pow _ _ (by decide)
 unfold u9.f
 rw[if_pos (by omega),J6,Option.bind_some,Aq0 n h,E4 (by omega)]
 congr 1
 rw[Bool.eq_iff_iff,I3,decide_eq_true_eq];omega
theorem BI6 (n r:Nat):∃x:Nat,∃b,x≤999999∧Z5.f (n:Int) (r:Int)=some ((x:Int),b)∧Ev (fun g=>Z9.f g (n:Int) (r:Int)) ((x:Int),b):=by
 by_cases h:1≤n∧n≤10∧r<2 ^ n
 ·have hp:=Af9 n h.2.1
  have hb:=BC7 r (by omega)
  refine⟨AS7 r,true,by omega,?_,?_⟩
  ·unfold Z5.f
   rw[AR6,Option.bind_some,if_pos (decide_eq_true h),show(r:Int) / 2=((r / 2:Nat):Int)by omega,As4 _ _ (by omega) (by omega)]
   unfold AS7
   rw[Nat.shiftRight_eq_div_pow,Nat.pow_one]
  ·unfold Z9.f
   refine D8 (AR1 n) (D9 (decide_eq_true (by omega)) (D8 (AR5 n r h.2.1) (D9 (decide_eq_true h.2.2) (C6 (AQ5 n h.2.1) ?_))))
   rw[AQ6 n h.2.1]
   refine ep (ep (C7 ?_))
   rw[U0,AV1 n r h.2.1 h.2.2]
 ·refine⟨0,false,by omega,?_,?_⟩
  ·unfold Z5.f
   rw[AR6,Option.bind_some,if_neg (by simpa using h)];rfl
  ·unfold Z9.f
   refine D8 (AR1 n) ?_
   by_cases h1:1≤n∧n≤10
   ·exact D9 (decide_eq_true h1) (D8 (AR5 n r h1.2) (G8 (by simp;omega) (C7 rfl)))
   ·exact G8 (by simpa using h1) (C7 rfl)
theorem AK1:∀ (g w r:Nat),g≤12→w<2 ^ g→r<4096→Ev (fun q=>P0.l0 q (w:Int) (r:Int)) ((AN6 (g+1) w r:Nat):Int):=by
 intro g
 induction g with
 |zero =>
  intro w r _ hw _
  obtain rfl:w=0:=by omega
  refine Ev.step (fun k=>by simp only[P0.l0];rfl) ?_
  exact en (C7 (by rw[AN6,if_pos rfl]))
 |succ g ih =>
  intro w r hg hw hr
  have hp:2 ^ (g+1)≤2 ^ 12:=Nat.pow_le_pow_right (by decide) hg
  have hp2:(2:Nat) ^ 12=4096:=by decide
  have hx:r ^^^ w<2 ^ 12:=Nat.xor_lt_two_pow (by omega) (by omega)
  refine Ev.step (fun k=>by simp only[P0.l0];rfl) ?_
  rw[AN6]
  by_cases h0:w=0
  ·rw[if_pos h0]
   exact en (C7 rfl)
  ·rw[if_neg h0,As4 _ _ (by omega) (by omega),show(w:Int) / 2=((w / 2:Nat):Int)by omega]
   rw[Nat.pow_succ]at hw
   exact ep (ih (w / 2) (r ^^^ w) (by omega) (by omega) (by omega))
theorem Ar8 (n w:Nat):∃x:Nat,∃b,x≤999999∧Ev (fun g=>X3.f g (n:Int) (w:Int)) ((x:Int),b)∧Ev (fun g=>N4.f g (n:Int) (w:Int)) ((x:Int),b):=by
 by_cases h:1≤n∧n≤10∧w<2 ^ n
 ·have hp:=Af9 n h.2.1
  have hlt:=BN4 n w h.2.1 h.2.2
  have hrg:=(Af4 w (by omega)).2
  refine⟨AN6 11 w 0,true,by omega,?_,?_⟩
  ·unfold X3.f P0.f
   refine D8 (AR6 n w) (D9 (decide_eq_true h) (C6 (AK1 10 w 0 (by omega) (by omega) (by omega)) (C7 rfl)))
  ·unfold N4.f
   refine D8 (AR1 n) (D9 (decide_eq_true (by omega)) (D8 (AR5 n w h.2.1) ?_))
   refine Ev.step (fun k=>by simp only[N4.j0];rfl) ?_
   refine G8 (by simp;omega) (C6 (AQ5 n h.2.1) ?_)
   refine C6 (Ab7 (gcI n) (w:Int) (by rw[AQ6 n h.2.1];omega)) (C7 ?_)
   have hmem:(w:Int)∈gcI n:=by
    have:=e7 (gcI n) (AN6 11 w 0) 0 (by rw[AQ6 n h.2.1];exact hlt)
    rw[AV1 n _ h.2.1 hlt,hrg]at this
    exact this
   have hidx:(gcI n).idxOf (w:Int)< (gcI n).length:=List.idxOf_lt_length_of_mem hmem
   have hg:(gcI n).getD ((gcI n).idxOf (w:Int)) 0=(w:Int):=by
    rw[List.getD_eq_getElem?_getD,List.getElem?_eq_getElem hidx]
    exact List.getElem_idxOf hidx
   rw[AQ6 n h.2.1]at hidx
   rw[AV1 n _ h.2.1 hidx]at hg
   have hr:=(Af4 ((gcI n).idxOf (w:Int)) (by omega)).1
   rw[show AS7 ((gcI n).idxOf (w:Int))=w by omega]at hr
   rw[if_pos hmem,hr]
 ·refine⟨0,false,by omega,?_,?_⟩
  ·unfold X3.f
   exact D8 (AR6 n w) (G8 (by simpa using h) (C7 rfl))
  ·unfold N4.f
   refine D8 (AR1 n) ?_
   by_cases h1:1≤n∧n≤10
   ·refine D9 (decide_eq_true h1) (D8 (AR5 n w h1.2) ?_)
    refine Ev.step (fun k=>by simp only[N4.j0];rfl) ?_
    exact D9 (by simp;omega) (C7 rfl)
   ·refine G8 (by simpa using h1) ?_
    refine Ev.step (fun k=>by simp only[N4.j0];rfl) ?_
    exact D9 trivial (C7 rfl)
theorem BV7 (a b:Nat):mn (a:Int) (b:Int)=((min a b:Nat):Int):=by unfold mn;split<;>omega
theorem BL8 (a:Nat)(b:Int)(l:List Int):lid a (b::l)=lid (min (a*b.toNat) 1000001) l:=rfl
theorem AN3 (l:List Int)(hl:l.length≤100)(hx:∀x∈l,2≤x∧x≤12):Ev (fun g=>W4.f g l) ((lid 1 l:Nat):Int):=by
 unfold W4.f
 have:∀ (d i a:Nat),i+d=l.length→a≤1000001→Ev (fun g=>W4.l0 g (a:Int) l (l.length:Int) (i:Int)) ((lid a (l.drop i):Nat):Int):=by
  intro d
  induction d with
  |zero =>
   intro i a h ha
   rw[List.drop_eq_nil_of_le (by omega)]
   refine Ev.step (fun k=>by simp only[W4.l0];rfl) ?_
   exact en (C7 rfl)
  |succ d ih =>
   intro i a h ha
   have hi:i<l.length:=by omega
   have hm:=hx _ (e7 l i 0 hi)
   refine Ev.step (fun k=>by simp only[W4.l0];rfl) ?_
   refine ep (ep (ep ?_))
   rw[U0,L9 l i 0 hi,E2 (by omega),BL8]
   generalize l.getD i 0=b at hm ⊢
   obtain⟨n,rfl⟩:=Int.eq_ofNat_of_zero_le (show 0≤b by omega)
   have hb:a*n≤1000001*12:=Nat.mul_le_mul ha (by omega)
   rw[←Int.natCast_mul,E4 (by omega),show(1000001:Int)=((1000001:Nat):Int)from rfl,BV7,Int.toNat_natCast]
   exact ih (i+1) _ (by omega) (by omega)
 exact this l.length 0 1 (by omega) (by omega)
theorem AF3 (l:List Int)(hl:l.length≤100)(hx:∀x∈l,2≤x∧x≤12):Ev (fun g=>O0.f g l) ((As2 1 l:Nat):Int):=by
 unfold O0.f
 have:∀ (d i a:Nat),i+d=l.length→a≤1000000→Ev (fun g=>O0.l0 g (a:Int) l (l.length:Int) (i:Int)) ((As2 a (l.drop i):Nat):Int):=by
  intro d
  induction d with
  |zero =>
   intro i a h ha
   rw[List.drop_eq_nil_of_le (by omega)]
   refine Ev.step (fun k=>by simp only[O0.l0];rfl) ?_
   exact en (C7 rfl)
  |succ d ih =>
   intro i a h ha
   have hi:i<l.length:=by omega
   have hm:=hx _ (e7 l i 0 hi)
   refine Ev.step (fun k=>by simp only[O0.l0];rfl) ?_
   refine ep (ep (ep ?_))
   rw[U0,L9 l i 0 hi,E2 (by omega),As2]
   generalize l.getD i 0=b at hm ⊢
   obtain⟨n,rfl⟩:=Int.eq_ofNat_of_zero_le (show 0≤b by omega)
   have hb:a*n≤1000000*12:=Nat.mul_le_mul ha (by omega)
   rw[←Int.natCast_mul,E4 (by omega),Int.toNat_natCast]
   by_cases hc:a*n>1000000
   ·rw[if_pos hc];exact ep (C7 rfl)
   ·rw[if_neg hc];exact en (ih (i+1) _ (by omega) (by omega))
 exact this l.length 0 1 (by omega) (by omega)
def AP0 (l:List Int):Prop:=l.length≤12∧(∀x∈l,2≤x∧x≤12)∧a7 l≤1000000
instance (l:List Int):Decidable (AP0 l):=by unfold AP0;infer_instance
theorem Ae9 (l:List Int)(hx:∀x∈l,2≤x∧x≤12):lid 1 l=min (a7 l) 1000001:=by rw[BY4 l 1 (fun x h=>(hx x h).1) (by omega),Nat.one_mul]
theorem AP1 (l:List Int)(hl:l.length≤1100):Ev (fun g=>l8.f g l) (decide (AP0 l)):=by
 unfold l8.f
 by_cases h:l.length≤12
 ·refine ep (C6 (AJ2 2 12 l (by omega)) (X2 (fun h2=>?_) (fun h2=>C7 ?_)))
  ·have hx:=AK4.mp h2
   refine C6 (AN3 l (by omega) hx) (C7 ?_)
   rw[Ae9 l hx]
   exact decide_eq_decide.mpr ⟨fun e=>⟨h,hx,by omega⟩,fun e=>by have:=e.2.2;omega⟩
  ·rw[eq_comm,decide_eq_false_iff_not]
   exact fun e=>h2 (AK4.mpr e.2.1)
 ·refine en (C7 ?_)
  rw[eq_comm,decide_eq_false_iff_not]
  exact fun e=>h e.1
theorem AU1 (l:List Int)(hl:l.length≤1100):Ev (fun g=>r7.f g l) (decide (AP0 l)):=by
 unfold r7.f
 by_cases h:l.length≤12
 ·refine ep (C6 (AJ4 2 12 l (by omega)) (X2 (fun h2=>?_) (fun h2=>C7 ?_)))
  ·have hx:=AK4.mp h2
   refine C6 (AF3 l (by omega) hx) (C7 ?_)
   have hc:=(Aq5 l 1 (fun x h=>(hx x h).1) (by omega)).1
   rw[Nat.one_mul]at hc
   exact decide_eq_decide.mpr ⟨fun e=>⟨h,hx,hc.mp (by omega)⟩,fun e=>by have:=hc.mpr e.2.2;omega⟩
  ·rw[eq_comm,decide_eq_false_iff_not]
   exact fun e=>h2 (AK4.mpr e.2.1)
 ·refine en (C7 ?_)
  rw[eq_comm,decide_eq_false_iff_not]
  exact fun e=>h e.1
theorem BF4 (l:List Int)(hx:∀x∈l,2≤x∧x≤12):∀i,a7 (l.drop i)≤a7 l:=by
 induction l with
 |nil=>intro i;rw[List.drop_nil];exact Nat.le_refl _
 |cons b l ih =>
  intro i
  cases i with
  |zero=>exact Nat.le_refl _
  |succ i=>exact Nat.le_trans (ih (fun x h=>hx x (by simp[h])) i) (Am4 b l (hx b (by simp)).1)
theorem At6 (a b:Nat):Int.tdiv (a:Int) (b:Int)=((a / b:Nat):Int):=(Int.ofNat_tdiv a b).symm
theorem AW1 (l:List Int)(hB:AP0 l):∀ (d i r:Nat) (out:List Int),i+d=l.length→out.length=i→r<a7 (l.drop i)→
  Ev (fun g=>V4.l0 g l (r:Int) out l (l.length:Int) (i:Int)) (out++Ah0 (l.drop i) r):=by
 obtain⟨hl,hx,hp⟩:=hB
 intro d
 induction d with
 |zero =>
  intro i r out h ho hr
  rw[List.drop_eq_nil_of_le (by omega)]
  refine Ev.step (fun k=>by simp only[V4.l0];rfl) ?_
  exact en (C7 (by simp[Ah0]))
 |succ d ih =>
  intro i r out h ho hr
  have hi:i<l.length:=by omega
  have hm:=hx _ (e7 l i 0 hi)
  have hxd:∀x∈l.drop (i+1),2≤x∧x≤12:=fun x hm=>hx x (List.mem_of_mem_drop hm)
  have hpd:=BF4 l hx (i+1)
  have hp1:=AK3 (l.drop (i+1)) (fun x hm=>(hxd x hm).1)
  have hs:=AN3 (l.drop (i+1)) (by simp;omega) hxd
  rw[Ae9 _ hxd,Nat.min_eq_left (by omega)]at hs
  rw[L9 l i 0 hi]at hr ⊢
  have hn:=Ah1 (l.getD i 0) (l.drop (i+1)) r (fun x hm2=>by
   rcases List.mem_cons.mp hm2 with rfl|hm2
   ·exact hm.1
   ·exact(hxd x hm2).1) hr
  refine Ev.step (fun k=>by simp only[V4.l0];rfl) ?_
  refine ep (ep (ep ?_))
  rw[E2 (by omega),U0,Int.toNat_natCast]
  refine ep (ep (C6 hs (en ?_)))
  have hrl:r<1000000*12+1:=by
   rw[AH5]at hr
   have:(l.getD i 0).toNat*a7 (l.drop (i+1))≤12*1000000:=Nat.mul_le_mul (by omega) (by omega)
   omega
  have hdl:r / a7 (l.drop (i+1))≤r:=Nat.div_le_self _ _
  have hd0:(0:Int)≤((r / a7 (l.drop (i+1)):Nat):Int):=Int.natCast_nonneg _
  have hml:=Nat.mod_lt r (show 0<a7 (l.drop (i+1))by omega)
  rw[At6,Y8,E4 (x:=((r / a7 (l.drop (i+1)):Nat):Int)) (by omega)]
  have hmn:mn ((r / a7 (l.drop (i+1)):Nat):Int) (wrap64 (l.getD i 0 - 1))=((r / a7 (l.drop (i+1)):Nat):Int):=by
   rw[E4 (by omega)];unfold mn;rw[if_neg (by omega)]
  rw[hmn,show Int.tmod ((r / a7 (l.drop (i+1)):Nat):Int) 2=((r / a7 (l.drop (i+1)) % 2:Nat):Int)from Y8 _ 2]
  rw[Ah0]
  generalize r / a7 (l.drop (i+1))=q at hn hdl ⊢
  by_cases hq:q % 2=1
  ·rw[if_pos hq]at hn ⊢
   refine ep (ep ?_)
   have e:wrap64 ((wrap64 (((a7 (l.drop (i+1)):Nat):Int) - 1)) - ((r % a7 (l.drop (i+1)):Nat):Int))=((a7 (l.drop (i+1)) - 1 - r % a7 (l.drop (i+1)):Nat):Int):=by
    rw[E4 (x:=((a7 (l.drop (i+1)):Nat):Int) - 1) (by omega),E4 (by omega)];omega
   rw[e]
   exact S7 (ih (i+1) _ _ (by omega) (by simp[ho]) hn.1) (by simp)
  ·rw[if_neg hq]at hn ⊢
   exact en (ep (S7 (ih (i+1) _ _ (by omega) (by simp[ho]) hn.1) (by simp)))
theorem Ab5:∀ (l:List Int) (r:Nat),AP0 l→r<a7 l→Ev (fun g=>b9.f g l (r:Int)) (Ah0 l r):=by
 intro l
 induction l with
 |nil=>intro r _ _;refine Ev.step (fun k=>by simp only[b9.f];rfl) ?_;exact D9 rfl (C7 rfl)
 |cons b l ih =>
  intro r hB hr
  obtain⟨hl,hx,hp⟩:=hB
  have hxd:∀x∈l,2≤x∧x≤12:=fun x hm=>hx x (by simp[hm])
  have hpd:=Am4 b l (hx b (by simp)).1
  have hp1:=AK3 l (fun x hm=>(hxd x hm).1)
  have hB2:AP0 l:=⟨by simp at hl;omega,hxd,by omega⟩
  have hc:=(Aq5 l 1 (fun x h=>(hxd x h).1) (by omega)).2
  rw[Nat.one_mul]at hc
  have hs:=AF3 l (by have:=hB2.1;omega) hxd
  rw[hc (by omega)]at hs
  have hn:=Ah1 b l r (fun x hm=>(hx x hm).1) hr
  have hdl:r / a7 l≤r:=Nat.div_le_self _ _
  have hd0:(0:Int)≤((r / a7 l:Nat):Int):=Int.natCast_nonneg _
  have hml:=Nat.mod_lt r (show 0<a7 l by omega)
  have hlen:=hB2.1
  refine Ev.step (fun k=>by simp only[b9.f];rfl) ?_
  refine G8 (by rw[List.length_cons];omega) (D9 (by rw[List.length_cons];omega) ?_)
  rw[List.drop_one,List.tail_cons]
  refine C6 hs (en ?_)
  rw[At6,Y8,E4 (x:=((r / a7 l:Nat):Int)) (by omega)]
  rw[show Int.tmod ((r / a7 l:Nat):Int) 2=((r / a7 l % 2:Nat):Int)from Y8 _ 2]
  rw[Ah0]
  generalize r / a7 l=q at hn hdl ⊢
  by_cases hq:q % 2=1
  ·rw[if_pos hq]at hn ⊢
   refine ep (D8 rfl ?_)
   have e:wrap64 ((wrap64 (((a7 l:Nat):Int) - 1)) - ((r % a7 l:Nat):Int))=((a7 l - 1 - r % a7 l:Nat):Int):=by
    rw[E4 (x:=((a7 l:Nat):Int) - 1) (by omega),E4 (by omega)];omega
   rw[e]
   exact C6 (ih _ hB2 hn.1) (D9 (by rw[Ad8];simp;omega) (C7 rfl))
  ·rw[if_neg hq]at hn ⊢
   exact en (D8 rfl (C6 (ih _ hB2 hn.1) (D9 (by rw[Ad8];simp;omega) (C7 rfl))))
theorem Az3 (l:List Int)(r:Nat)(hl:l.length≤1100):∃x b,x2 x∧Ev (fun g=>s6.f g l (r:Int)) (x,b)∧Ev (fun g=>r5.f g l (r:Int)) (x,b):=by
 by_cases hB:AP0 l
 ·have hx:=hB.2.1
  have hp:=hB.2.2
  have hlen:=hB.1
  have hp1:=AK3 l (fun x hm=>(hx x hm).1)
  have hs:=AN3 l (by omega) hx
  rw[Ae9 _ hx,Nat.min_eq_left (by omega)]at hs
  have hc:=(Aq5 l 1 (fun x h=>(hx x h).1) (by omega)).2
  rw[Nat.one_mul]at hc
  have hs2:=AF3 l (by omega) hx
  rw[hc (by omega)]at hs2
  by_cases hr:r<a7 l
  ·refine⟨Ah0 l r,true,⟨by rw[Ad8];omega,fun x hm=>by have:=BP0 l r hx hr x hm;omega⟩,?_,?_⟩
   ·unfold s6.f
    refine C6 (AP1 l hl) (D9 (decide_eq_true hB) (C6 hs (D8 (H9 _ _ _) ?_)))
    rw[E4 (by omega)]
    refine D9 (I3.mpr (by omega)) (C6 ?_ (C7 rfl))
    unfold V4.f
    exact S7 (AW1 l hB l.length 0 r [] (by omega) rfl hr) (by simp)
   ·unfold r5.f
    refine C6 (AU1 l hl) (D9 (decide_eq_true hB) (C6 hs2 (D8 (J6 _ _ _) ?_)))
    rw[E4 (by omega)]
    exact D9 (I3.mpr (by omega)) (C6 (Ab5 l r hB hr) (C7 rfl))
  ·refine⟨[],false,AA4,?_,?_⟩
   ·unfold s6.f
    refine C6 (AP1 l hl) (D9 (decide_eq_true hB) (C6 hs (D8 (H9 _ _ _) ?_)))
    rw[E4 (by omega)]
    exact G8 (fun e=>by have:=I3.mp e;omega) (C7 rfl)
   ·unfold r5.f
    refine C6 (AU1 l hl) (D9 (decide_eq_true hB) (C6 hs2 (D8 (J6 _ _ _) ?_)))
    rw[E4 (by omega)]
    exact G8 (fun e=>by have:=I3.mp e;omega) (C7 rfl)
 ·refine⟨[],false,AA4,?_,?_⟩
  ·unfold s6.f
   exact C6 (AP1 l hl) (G8 (by simpa using hB) (C7 rfl))
  ·unfold r5.f
   exact C6 (AU1 l hl) (G8 (by simpa using hB) (C7 rfl))
end Go.Proofs.YtpiogigidgejpaaGreatDoor.Pure
namespace Go.Proofs.YtpiogigidgejpaaGreatDoor.Pure
open Go.RowKit Go.Proofs.YtpiogigidgejpaaGreatDoor.PFnExactStepLine Go.Proofs.YtpiogigidgejpaaGreatDoorW.PrintWords Go.Proofs.YtpiogigidgejpaaGreatDoorW.PrintLast Go.Proofs.YtpiogigidgejpaaGreatDoor.Base
set_option maxRecDepth 10000
set_option linter.unusedVariables false
set_option linter.unusedSimpArgs false
theorem m6 (l:List Int) (i j:Nat)(v:Int)(h:i<l.length):(l.set i v).getD j 0=if i=j then v else l.getD j 0:=by
 simp only[List.getD_eq_getElem?_getD,List.getElem?_set]
 split
 ·rename_i e;subst e;rfl
 ·rfl
theorem AY7:∀r m,1≤m9 m r:=by
 intro r
 induction r with
 |zero=>intro m;exact Nat.le_refl _
 |succ r ih=>intro m;rw[m9];have:=ih (m+1);omega
theorem AQ2 (k r:Nat)(h:k+r≤12):Ev (fun g=>H6.f g (k:Int) (r:Int)) ((m9 k r:Nat):Int):=by
 have main:∀ (d n:Nat) (ways:List Int),n+d=r+1→1≤n→ways.length=k+r+1→(∀j,j+n≤k+r+1→ways.getD j 0=((m9 j (n - 1):Nat):Int))→
   Ev (fun g=>H6.l1 g (k:Int) (r:Int) ways (n:Int)) ((m9 k r:Nat):Int):=by
  intro d
  induction d with
  |zero =>
   intro n ways hn h1 hl hw
   refine Ev.step (fun k=>by simp only[H6.l1];rfl) ?_
   refine en (ep (ep (C7 ?_)))
   rw[U0,hw k (by omega)]
   obtain rfl:n=r+1:=by omega
   rfl
  |succ d ih =>
   intro n ways hn h1 hl hw
   obtain⟨m,rfl⟩:∃m,n=m+1:=⟨n - 1,by omega⟩
   refine Ev.step (fun k=>by simp only[H6.l1];rfl) ?_
   refine ep ?_
   have eB:wrap64 ((wrap64 ((wrap64 ((k:Int)+ (r:Int))) - ((m+1:Nat):Int)))+1)=((k+r - m:Nat):Int):=by
    rw[E4 (x:=(k:Int)+r) (by omega),E4 (x:=(k:Int)+r - ((m+1:Nat):Int)) (by omega),E4 (by omega)];omega
   rw[eB]
   have inner:∀ (e i:Nat) (ws:List Int),i+e=k+r - m→ws.length=k+r+1→(∀j,j<i→ws.getD j 0=((m9 j (m+1):Nat):Int))→(∀j,i≤j→j+ (m+1)≤k+r+1→ws.getD j 0=((m9 j m:Nat):Int))→
     Ev (fun g=>H6.l2 g (k:Int) (r:Int) ws ((m+1:Nat):Int) ((k+r - m:Nat):Int) (i:Int)) ((m9 k r:Nat):Int):=by
    intro e
    induction e with
    |zero =>
     intro i ws hi hl2 ha hb
     refine Ev.step (fun k=>by simp only[H6.l2];rfl) ?_
     refine en ?_
     rw[E2 (by omega)]
     exact ih (m+1+1) ws (by omega) (by omega) hl2 (fun j hj=>ha j (by omega))
    |succ e ihe =>
     intro i ws hi hl2 ha hb
     refine Ev.step (fun k=>by simp only[H6.l2];rfl) ?_
     rw[E2 (by omega)]
     refine ep (ep (ep (ep (ep ?_))))
     rw[U0,U0,hb i (by omega) (by omega),hb (i+1) (by omega) (by omega)]
     have b1:=AE4 m i (by omega) (by omega)
     have b2:=AE4 m (i+1) (by omega) (by omega)
     have b3:i*m9 i m≤12*23298085122481:=Nat.mul_le_mul (by omega) b1
     rw[←Int.natCast_mul,E4 (x:=((i*m9 i m:Nat):Int)) (by omega),E4 (by omega),Int.toNat_natCast]
     have ev:((i*m9 i m:Nat):Int)+ ((m9 (i+1) m:Nat):Int)=((m9 i (m+1):Nat):Int):=by rw[m9];omega
     rw[ev]
     refine ihe (i+1) _ (by omega) (by rw[List.length_set];exact hl2) (fun j hj=>?_) (fun j h1 h2=>?_)
     ·rw[m6 _ _ _ _ (by omega)]
      split
      ·rename_i e;subst e;rfl
      ·exact ha j (by omega)
     ·rw[m6 _ _ _ _ (by omega),if_neg (by omega)]
      exact hb j (by omega) h2
   exact inner (k+r - m) 0 ways (by omega) hl (fun j hj=>by omega) (fun j _ hj=>hw j hj)
 have ones:∀ (d i:Nat) (ways:List Int),i+d=k+r+1→ways.length=k+r+1→(∀j,j<i→ways.getD j 0=1)→
   Ev (fun g=>H6.l0 g (k:Int) (r:Int) ways ((k+r+1:Nat):Int) (i:Int)) ((m9 k r:Nat):Int):=by
  intro d
  induction d with
  |zero =>
   intro i ways hi hl hw
   refine Ev.step (fun k=>by simp only[H6.l0];rfl) ?_
   exact en (main r 1 ways (by omega) (by omega) hl (fun j hj=>by rw[hw j (by omega)];rfl))
  |succ d ih =>
   intro i ways hi hl hw
   refine Ev.step (fun k=>by simp only[H6.l0];rfl) ?_
   rw[E2 (by omega),Int.toNat_natCast]
   refine ep (ep (ep (ih (i+1) _ (by omega) (by rw[List.length_set];exact hl) (fun j hj=>?_))))
   rw[m6 _ _ _ _ (by omega)]
   split
   ·rfl
   ·exact hw j (by omega)
 unfold H6.f
 have e:wrap64 ((wrap64 ((k:Int)+ (r:Int)))+1)=((k+r+1:Nat):Int):=by
  rw[E4 (x:=(k:Int)+r) (by omega),E4 (by omega)];omega
 rw[e,Int.toNat_natCast]
 refine ep (ep (D8 rfl ?_))
 rw[List.length_replicate]
 exact ones (k+r+1) 0 _ (by omega) (by simp) (fun j hj=>by omega)
theorem AP2:∀ (r m:Nat),m+r≤13→r≤12→Ev (fun g=>Z3.f g (m:Int) (r:Int)) ((m9 m r:Nat):Int):=by
 intro r
 induction r with
 |zero =>
  intro m _ _
  refine Ev.step (fun k=>by simp only[Z3.f];rfl) ?_
  exact D9 rfl (C7 rfl)
 |succ r ih =>
  intro m h hr
  refine Ev.step (fun k=>by simp only[Z3.f];rfl) ?_
  rw[S9 (by omega),E2 (by omega)]
  refine en (C6 (ih m (by omega) (by omega)) (C6 (ih (m+1) (by omega) (by omega)) (C7 ?_)))
  have b1:=AE4 r m (by omega) (by omega)
  have b2:=AE4 r (m+1) (by omega) (by omega)
  have b3:m*m9 m r≤13*23298085122481:=Nat.mul_le_mul (by omega) b1
  rw[←Int.natCast_mul,E4 (x:=((m*m9 m r:Nat):Int)) (by omega),E4 (by omega),m9];omega
def AH1:Nat→Nat→Nat→List Int
 |0,_,_=>[]
 |d+1,k,r=>((min k (r / m9 k d):Nat):Int)::AH1 d (max k (min k (r / m9 k d)+1)) (r - min k (r / m9 k d)*m9 k d)
theorem BH5:∀d k r,(AH1 d k r).length=d:=by
 intro d
 induction d with
 |zero=>intro k r;rfl
 |succ d ih=>intro k r;rw[AH1,List.length_cons,ih]
theorem BG5:∀d k r,∀x∈AH1 d k r,0≤x∧x≤((k+d:Nat):Int):=by
 intro d
 induction d with
 |zero=>intro k r x hx;cases hx
 |succ d ih =>
  intro k r x hx
  rw[AH1]at hx
  rcases List.mem_cons.mp hx with rfl|hx
  ·generalize r / m9 k d=q;omega
  ·generalize r / m9 k d=q at hx;have:=ih _ _ x hx;omega
theorem BX3 (a b:Nat):mx (a:Int) (b:Int)=((max a b:Nat):Int):=by unfold mx;split<;>omega
theorem BR9 (a b:Nat):mn (a:Int) (b:Int)=((min a b:Nat):Int):=by unfold mn;split<;>omega
theorem take_le (k r e:Nat):min k (r / e)*e≤r:=Nat.le_trans (Nat.mul_le_mul_right e (Nat.min_le_right k (r / e))) (Nat.div_mul_le_self r e)
theorem AQ3 (n:Nat)(hn:n≤12):∀ (d i k r:Nat) (out:List Int),i+d=n→k≤i→r≤1000000→out.length=i→
  Ev (fun g=>J2.l0 g (n:Int) (r:Int) out (k:Int) (n:Int) (i:Int)) (out++AH1 d k r,true):=by
 intro d
 induction d with
 |zero =>
  intro i k r out h hk hr ho
  refine Ev.step (fun k=>by simp only[J2.l0];rfl) ?_
  exact en (C7 (by simp[AH1]))
 |succ d ih =>
  intro i k r out h hk hr ho
  refine Ev.step (fun k=>by simp only[J2.l0];rfl) ?_
  have e1:wrap64 ((wrap64 ((n:Int) - (i:Int))) - 1)=(d:Int):=by rw[E4 (x:=(n:Int) - i) (by omega),E4 (by omega)];omega
  have hg:=AQ2 k d (by omega)
  have hp:=AY7 d k
  have hb:=AE4 d k (by omega) (by omega)
  rw[e1]
  refine ep (C6 hg (en (C6 hg (ep ?_))))
  have hd0:(0:Int)≤((r / m9 k d:Nat):Int):=Int.natCast_nonneg _
  have hdl:r / m9 k d≤r:=Nat.div_le_self _ _
  have ht:=take_le k r (m9 k d)
  rw[show Int.tdiv (r:Int) ((m9 k d:Nat):Int)=((r / m9 k d:Nat):Int)from(Int.ofNat_tdiv _ _).symm,E4 (x:=((r / m9 k d:Nat):Int)) (by omega),BR9,E2 (i:=min k (r / m9 k d)) (by omega),E2 (i:=i) (by omega),BX3,←Int.natCast_mul]
  rw[AH1]
  generalize hq:min k (r / m9 k d)=q at ht ⊢
  have hqk:q≤k:=by omega
  generalize hm:q*m9 k d=m at ht ⊢
  rw[E4 (x:=((m:Nat):Int)) (by omega),E4 (x:=(r:Int) - ((m:Nat):Int)) (by omega),show(r:Int) - ((m:Nat):Int)=((r - m:Nat):Int)by omega]
  exact S7 (ih (i+1) _ _ _ (by omega) (by omega) (by omega) (by simp[ho])) (by simp)
def Ax8 (l:List Int):Int:=l.foldl (fun m x=>if m>x then m else x) (-1)
theorem BG9 (l:List Int)(x:Int):Ax8 (l++ [x])=if Ax8 l>x then Ax8 l else x:=by simp[Ax8]
theorem Ah2 (a b:Int):AD1.f a b=some (if a>b then a else b):=by unfold AD1.f;split<;>rfl
theorem AY1 (a b:Nat):r6.f (a:Int) (b:Int)=some ((min a b:Nat):Int):=by
 unfold r6.f
 split
 ·congr 1;omega
 ·congr 1;omega
theorem Ak2 (l:List Int)(hl:l.length≤1000):Ev (fun g=>Z1.f g l) (Ax8 l):=by
 unfold Z1.f Ax8
 have:∀ (d i:Nat) (m:Int),i+d=l.length→Ev (fun g=>Z1.l0 g m l (l.length:Int) (i:Int)) ((l.drop i).foldl (fun m x=>if m>x then m else x) m):=by
  intro d
  induction d with
  |zero =>
   intro i m h
   rw[List.drop_eq_nil_of_le (by omega)]
   refine Ev.step (fun k=>by simp only[Z1.l0];rfl) ?_
   exact en (C7 rfl)
  |succ d ih =>
   intro i m h
   have hi:i<l.length:=by omega
   refine Ev.step (fun k=>by simp only[Z1.l0];rfl) ?_
   refine ep (ep (ep (D8 (Ah2 _ _) ?_)))
   rw[U0,E2 (by omega),L9 l i 0 hi,List.foldl_cons]
   exact ih (i+1) _ (by omega)
 exact this l.length 0 (-1) (by omega)
theorem AQ4 (n:Nat)(hn:n≤12):∀ (d i k r:Nat) (a:List Int),i+d=n→k≤i→Ax8 a=(k:Int) - 1→r≤1000000→a.length=i→
  Ev (fun g=>K2.l0 g (n:Int) (r:Int) a (i:Int)) (a++AH1 d k r,true):=by
 intro d
 induction d with
 |zero =>
  intro i k r a h hk ht hr ha
  refine Ev.step (fun k=>by simp only[K2.l0];rfl) ?_
  exact en (C7 (by simp[AH1]))
 |succ d ih =>
  intro i k r a h hk htop hr ha
  refine Ev.step (fun k=>by simp only[K2.l0];rfl) ?_
  have e1:wrap64 ((wrap64 ((n:Int) - (i:Int))) - 1)=(d:Int):=by rw[E4 (x:=(n:Int) - i) (by omega),E4 (by omega)];omega
  have hg:=AP2 d k (by omega) (by omega)
  have hp:=AY7 d k
  have hb:=AE4 d k (by omega) (by omega)
  have hts:=Ak2 a (by omega)
  rw[htop]at hts
  rw[e1]
  refine ep (C6 hts ?_)
  rw[show wrap64 (((k:Int) - 1)+1)=(k:Int)from by rw[E4 (by omega)];omega]
  refine C6 hg (en ?_)
  have hd0:(0:Int)≤((r / m9 k d:Nat):Int):=Int.natCast_nonneg _
  have hdl:r / m9 k d≤r:=Nat.div_le_self _ _
  have ht:=take_le k r (m9 k d)
  rw[show Int.tdiv (r:Int) ((m9 k d:Nat):Int)=((r / m9 k d:Nat):Int)from(Int.ofNat_tdiv _ _).symm,E4 (x:=((r / m9 k d:Nat):Int)) (by omega)]
  refine D8 (AY1 _ _) (ep ?_)
  rw[E2 (i:=i) (by omega),←Int.natCast_mul,Nat.min_comm,AH1]
  generalize hq:min k (r / m9 k d)=q at ht ⊢
  have hqk:q≤k:=by omega
  generalize hm:q*m9 k d=m at ht ⊢
  rw[E4 (x:=((m:Nat):Int)) (by omega),E4 (x:=(r:Int) - ((m:Nat):Int)) (by omega),show(r:Int) - ((m:Nat):Int)=((r - m:Nat):Int)by omega]
  refine S7 (ih (i+1) (max k (q+1)) (r - m) (a++ [(q:Int)]) (by omega) (by omega) ?_ (by omega) (by simp[ha])) (by simp)
  rw[BG9,htop]
  split<;>omega
theorem Ar2 (n r:Nat)(hr:r≤999999):∃l b,x2 l∧Ev (fun g=>J2.f g (n:Int) (r:Int)) (l,b)∧Ev (fun g=>K2.f g (n:Int) (r:Int)) (l,b):=by
 by_cases h:1≤n∧n≤12
 ·have hg:=AQ2 0 n (by omega)
  have hs:=AP2 (n - 1) 1 (by omega) (by omega)
  obtain⟨m,rfl⟩:∃m,n=m+1:=⟨n - 1,by omega⟩
  have he:m9 0 (m+1)=m9 1 m:=by rw[m9,Nat.zero_mul,Nat.zero_add]
  have hb:=AE4 m 1 (by omega) (by omega)
  have hp:=AY7 m 1
  rw[he]at hg
  rw[Nat.add_sub_cancel]at hs
  have e0:AH1 (m+1) 0 r=0::AH1 m 1 r:=by simp[AH1]
  have key:x2 (AH1 (m+1) 0 r):=⟨by rw[BH5];omega,fun x hx=>by have:=BG5 _ _ _ x hx;omega⟩
  by_cases hc:r<m9 1 m
  ·refine⟨AH1 (m+1) 0 r,true,key,?_,?_⟩
   ·unfold J2.f
    refine D8 (H9 _ _ _) (D9 (I3.mpr (by omega)) (C6 hg (D8 (H9 _ _ _) ?_)))
    rw[E4 (by omega),I3.mpr (by omega)]
    refine Ev.step (fun k=>by simp only[J2.j0];rfl) ?_
    refine G8 (by simp) (S7 (AQ3 (m+1) (by omega) (m+1) 0 0 r [] (by omega) (by omega) (by omega) rfl) (by simp))
   ·unfold K2.f
    refine D8 (J6 _ _ _) (D9 (I3.mpr (by omega)) ?_)
    rw[S9 (by omega)]
    refine C6 hs (D8 (J6 _ _ _) ?_)
    rw[E4 (by omega),I3.mpr (by omega)]
    refine Ev.step (fun k=>by simp only[K2.j0];rfl) ?_
    refine G8 (by simp) (S7 (AQ4 (m+1) (by omega) m 1 1 r [0] (by omega) (by omega) rfl (by omega) rfl) ?_)
    rw[e0];rfl
  ·refine⟨[],false,AA4,?_,?_⟩
   ·unfold J2.f
    refine D8 (H9 _ _ _) (D9 (I3.mpr (by omega)) (C6 hg (D8 (H9 _ _ _) ?_)))
    rw[E4 (by omega),AV7.mpr (by omega)]
    refine Ev.step (fun k=>by simp only[J2.j0];rfl) ?_
    exact D9 (by simp) (C7 rfl)
   ·unfold K2.f
    refine D8 (J6 _ _ _) (D9 (I3.mpr (by omega)) ?_)
    rw[S9 (by omega)]
    refine C6 hs (D8 (J6 _ _ _) ?_)
    rw[E4 (by omega),AV7.mpr (by omega)]
    refine Ev.step (fun k=>by simp only[K2.j0];rfl) ?_
    exact D9 (by simp) (C7 rfl)
 ·refine⟨[],false,AA4,?_,?_⟩
  ·unfold J2.f
   refine D8 (H9 _ _ _) (G8 (fun e=>h (by have:=I3.mp e;omega)) ?_)
   refine Ev.step (fun k=>by simp only[J2.j0];rfl) ?_
   exact D9 trivial (C7 rfl)
  ·unfold K2.f
   refine D8 (J6 _ _ _) (G8 (fun e=>h (by have:=I3.mp e;omega)) ?_)
   refine Ev.step (fun k=>by simp only[K2.j0];rfl) ?_
   exact D9 trivial (C7 rfl)
theorem Ap4 (r:Nat)(h:r≤60):2 ^ r≤1152921504606846976:=Nat.pow_le_pow_right (n:=2) (i:=r) (j:=60) (by decide) h
theorem At5 (m j:Nat):(List.replicate m (0:Int)).getD j 0=0:=by
 rw[List.getD_eq_getElem?_getD,List.getElem?_replicate];split<;>rfl
theorem AJ9 (o r:Nat)(ho:o≤24)(hr:r≤24):Ev (fun g=>H8.f g (o:Int) (r:Int)) ((wk r o:Nat):Int):=by
 have main:∀ (d n:Nat) (ways:List Int),n+d=r→ways.length=o+r+2→(∀j,j<o+r+2→ways.getD j 0=((wk n j:Nat):Int))→
   Ev (fun g=>H8.l0 g (o:Int) ways (r:Int) (n:Int)) ((wk r o:Nat):Int):=by
  intro d
  induction d with
  |zero =>
   intro n ways hn hl hw
   refine Ev.step (fun k=>by simp only[H8.l0];rfl) ?_
   refine en (ep (ep (C7 ?_)))
   rw[U0,hw o (by omega)]
   obtain rfl:n=r:=by omega
   rfl
  |succ d ih =>
   intro n ways hn hl hw
   refine Ev.step (fun k=>by simp only[H8.l0];rfl) ?_
   refine ep (ep (ep ?_))
   rw[hl,Int.toNat_natCast,show wrap64 (((o+r+2:Nat):Int) - 1)=((o+r+1:Nat):Int)from S9 (by omega)]
   have inner:∀ (e i:Nat) (next:List Int),i+e=o+r+1→next.length=o+r+2→(∀j,j<i→next.getD j 0=((wk (n+1) j:Nat):Int))→(∀j,i≤j→next.getD j 0=0)→
     Ev (fun g=>H8.l1 g (o:Int) ways next (r:Int) (n:Int) ((o+r+1:Nat):Int) (i:Int)) ((wk r o:Nat):Int):=by
    intro e
    induction e with
    |zero =>
     intro i next hi hl2 ha hb
     refine Ev.step (fun k=>by simp only[H8.l1];rfl) ?_
     rw[E2 (i:=n) (by omega)]
     refine en (ih (n+1) next (by omega) hl2 (fun j hj=>?_))
     by_cases hji:j<i
     ·exact ha j hji
     ·rw[hb j (by omega),BP6 (n+1) j (by omega)];rfl
    |succ e ihe =>
     intro i next hi hl2 ha hb
     refine Ev.step (fun k=>by simp only[H8.l1];rfl) ?_
     rw[E2 (i:=i) (by omega),U0,hw (i+1) (by omega),Int.toNat_natCast]
     refine ep (ep (ep (ep (ep (D8 rfl ?_)))))
     have b1:=BK8 n (i+1)
     have b2:=BK8 n (i - 1)
     have b3:=Ap4 n (by omega)
     by_cases h0:0<i
     ·obtain⟨p,rfl⟩:∃p,i=p+1:=⟨i - 1,by omega⟩
      rw[S9 (by omega),U0,U0,hw p (by omega),m6 _ _ _ _ (by omega),if_pos rfl]
      rw[Nat.add_sub_cancel]at b2
      have ev:wrap64 (((wk n (p+1+1):Nat):Int)+ ((wk n p:Nat):Int))=((wk (n+1) (p+1):Nat):Int):=by
       have h2:wk (n+1) (p+1)=wk n (p+1+1)+wk n p:=by rw[wk]
       rw[E4 (by omega),h2];omega
      rw[ev]
      refine ep (ep (ep (ihe (p+1+1) _ (by omega) (by simp[hl2]) (fun j hj=>?_) (fun j hj=>?_))))
      ·rw[m6 _ _ _ _ (by simp;omega)]
       split
       ·rename_i e;subst e;rfl
       ·rw[m6 _ _ _ _ (by omega),if_neg (by omega)];exact ha j (by omega)
      ·rw[m6 _ _ _ _ (by simp;omega),if_neg (by omega),m6 _ _ _ _ (by omega),if_neg (by omega)];exact hb j (by omega)
     ·obtain rfl:i=0:=by omega
      refine en (ihe (0+1) _ (by omega) (by simp[hl2]) (fun j hj=>?_) (fun j hj=>?_))
      ·obtain rfl:j=0:=by omega
       rw[m6 _ _ _ _ (by omega),if_pos rfl];rfl
      ·rw[m6 _ _ _ _ (by omega),if_neg (by omega)];exact hb j (by omega)
   exact inner (o+r+1) 0 _ (by omega) (by simp) (fun j hj=>by omega) (fun j _=>At5 _ _)
 unfold H8.f
 have e:wrap64 ((wrap64 ((o:Int)+ (r:Int)))+2)=((o+r+2:Nat):Int):=by
  rw[E4 (x:=(o:Int)+r) (by omega),E4 (by omega)];omega
 rw[e,Int.toNat_natCast]
 refine ep (ep (D8 rfl ?_))
 rw[List.length_replicate]
 refine ep (main r 0 _ (by omega) (by simp) (fun j hj=>?_))
 rw[m6 _ _ _ _ (by simp),At5]
 split
 ·rename_i e;have e:j=0:=e.symm
  subst e;rfl
 ·rename_i e;rw[wk,if_neg (fun c=>e c.symm)];rfl
theorem BN1 (n o:Nat):cl n o≤2 ^ (o+2*n):=by rw[BL9];exact BK8 _ _
theorem AL3 (o m:Nat)(ho:o≤24)(hm:m≤12):Ev (fun g=>F5.f g (o:Int) (m:Int)) ((cl m o:Nat):Int):=by
 have main:∀ (d n:Nat) (tab:List Int),n+d=m+1→1≤n→tab.length=o+m+2→(∀j,j+n≤o+m+2→tab.getD j 0=((cl (n - 1) j:Nat):Int))→
   Ev (fun g=>F5.l1 g (o:Int) (m:Int) tab (n:Int)) ((cl m o:Nat):Int):=by
  intro d
  induction d with
  |zero =>
   intro n tab hn h1 hl hw
   refine Ev.step (fun k=>by simp only[F5.l1];rfl) ?_
   refine en (ep (ep (C7 ?_)))
   rw[U0,hw o (by omega)]
   obtain rfl:n=m+1:=by omega
   rfl
  |succ d ih =>
   intro n tab hn h1 hl hw
   obtain⟨q,rfl⟩:∃q,n=q+1:=⟨n - 1,by omega⟩
   rw[Nat.add_sub_cancel]at hw
   refine Ev.step (fun k=>by simp only[F5.l1];rfl) ?_
   refine ep (ep (ep ?_))
   rw[hl,Int.toNat_natCast]
   have inner:∀ (e i:Nat) (next:List Int),i+e=o+m+1→next.length=o+m+2→(∀j,j<i→j+ (q+2)≤o+m+2→next.getD j 0=((cl (q+1) j:Nat):Int))→
     Ev (fun g=>F5.l2 g (o:Int) (m:Int) tab ((q+1:Nat):Int) next (i:Int)) ((cl m o:Nat):Int):=by
    intro e
    induction e with
    |zero =>
     intro i next hi hl2 ha
     refine Ev.step (fun k=>by simp only[F5.l2];rfl) ?_
     rw[E2 (i:=i) (by omega),E2 (i:=q+1) (by omega)]
     exact en (ih (q+1+1) next (by omega) (by omega) hl2 (fun j hj=>ha j (by omega) (by omega)))
    |succ e ihe =>
     intro i next hi hl2 ha
     refine Ev.step (fun k=>by simp only[F5.l2];rfl) ?_
     rw[E2 (i:=i) (by omega),U0,Int.toNat_natCast]
     refine ep (ep (ep (ep (D8 rfl ?_))))
     by_cases h0:0<i
     ·obtain⟨p,rfl⟩:∃p,i=p+1:=⟨i - 1,by omega⟩
      rw[S9 (by omega),U0,U0,m6 _ _ _ _ (by omega),if_pos rfl,m6 _ _ _ _ (by omega),if_neg (by omega)]
      refine ep (ep (ep (ihe (p+1+1) _ (by omega) (by simp[hl2]) (fun j hj hj2=>?_))))
      rw[m6 _ _ _ _ (by simp;omega)]
      split
      ·rename_i e;subst e
       have b1:=BN1 q (p+1+1)
       have b2:=BN1 (q+1) p
       have b3:=Ap4 (p+1+1+2*q) (by omega)
       have b4:=Ap4 (p+2* (q+1)) (by omega)
       have h2:cl (q+1) (p+1)=cl q (p+1+1)+cl (q+1) p:=by rw[cl]
       rw[hw (p+1+1) (by omega),ha p (by omega) (by omega),E4 (by omega),h2];omega
      ·rw[m6 _ _ _ _ (by omega),if_neg (by omega)];exact ha j (by omega) hj2
     ·obtain rfl:i=0:=by omega
      refine en (ihe (0+1) _ (by omega) (by simp[hl2]) (fun j hj hj2=>?_))
      obtain rfl:j=0:=by omega
      rw[m6 _ _ _ _ (by omega),if_pos rfl,hw (0+1) (by omega)]
      have h2:cl (q+1) 0=cl q (0+1):=by rw[cl]
      rw[h2]
   exact inner (o+m+1) 0 _ (by omega) (by simp) (fun j hj=>by omega)
 have ones:∀ (d i:Nat) (tab:List Int),i+d=o+m+2→tab.length=o+m+2→(∀j,j<i→tab.getD j 0=1)→
   Ev (fun g=>F5.l0 g (o:Int) (m:Int) tab ((o+m+2:Nat):Int) (i:Int)) ((cl m o:Nat):Int):=by
  intro d
  induction d with
  |zero =>
   intro i tab hi hl hw
   refine Ev.step (fun k=>by simp only[F5.l0];rfl) ?_
   exact en (main m 1 tab (by omega) (by omega) hl (fun j hj=>by rw[hw j (by omega),Nat.sub_self,cl];rfl))
  |succ d ih =>
   intro i tab hi hl hw
   refine Ev.step (fun k=>by simp only[F5.l0];rfl) ?_
   rw[E2 (by omega),Int.toNat_natCast]
   refine ep (ep (ep (ih (i+1) _ (by omega) (by rw[List.length_set];exact hl) (fun j hj=>?_))))
   rw[m6 _ _ _ _ (by omega)]
   split
   ·rfl
   ·exact hw j (by omega)
 unfold F5.f
 have e:wrap64 ((wrap64 ((o:Int)+ (m:Int)))+2)=((o+m+2:Nat):Int):=by
  rw[E4 (x:=(o:Int)+m) (by omega),E4 (by omega)];omega
 rw[e,Int.toNat_natCast]
 refine ep (ep (D8 rfl ?_))
 rw[List.length_replicate]
 exact ones (o+m+2) 0 _ (by omega) (by simp) (fun j hj=>by omega)
def AD8 (m o:Nat):Nat:=if o=0 then 0 else cl m (o - 1)
def AZ2:Nat→Nat→Nat→Nat→List Int
 |0,_,_,_=>[]
 |d+1,m,o,r=>if AD8 m o≤r then 1::AZ2 d (m - 1) (o+1) (r - AD8 m o)else 0::AZ2 d m (o - 1) r
theorem BK3:∀d m o r,(AZ2 d m o r).length=d:=by
 intro d
 induction d with
 |zero=>intro m o r;rfl
 |succ d ih=>intro m o r;rw[AZ2];split<;>rw[List.length_cons,ih]
theorem BQ0:∀d m o r,∀x∈AZ2 d m o r,0≤x∧x≤1:=by
 intro d
 induction d with
 |zero=>intro m o r x hx;cases hx
 |succ d ih =>
  intro m o r x hx
  rw[AZ2]at hx
  split at hx
  ·rcases List.mem_cons.mp hx with rfl|hx
   ·omega
   ·exact ih _ _ _ x hx
  ·rcases List.mem_cons.mp hx with rfl|hx
   ·omega
   ·exact ih _ _ _ x hx
theorem As8 (d m o r:Nat)(h:o+2*m=d+1)(hr:r<cl m o):if AD8 m o≤r then 1≤m∧r - AD8 m o<cl (m - 1) (o+1)else 1≤o∧r<cl m (o - 1):=by
 cases o with
 |zero =>
  have e0:AD8 m 0=0:=by unfold AD8;rw[if_pos rfl]
  rw[e0,if_pos (Nat.zero_le _)]
  cases m with
  |zero=>omega
  |succ m=>rw[cl]at hr;exact⟨by omega,by simpa using hr⟩
 |succ o =>
  have e0:AD8 m (o+1)=cl m o:=by unfold AD8;rw[if_neg (by omega),Nat.add_sub_cancel]
  rw[e0,Nat.add_sub_cancel]
  cases m with
  |zero =>
   have e1:cl 0 (o+1)=1:=by rw[cl]
   have e2:cl 0 o=1:=by rw[cl]
   rw[if_neg (by omega)]
   exact⟨by omega,by omega⟩
  |succ m =>
   rw[cl]at hr
   split
   ·exact⟨by omega,by show r - cl (m+1) o<cl m (o+2);omega⟩
   ·exact⟨by omega,by omega⟩
theorem Aj9 (d m o:Nat)(ho:o≤24)(hd:d≤24)(h:o+2*m=d+1):Ev (fun g=>AD0.f g (o:Int) (d:Int)) ((AD8 m o:Nat):Int):=by
 unfold AD0.f AD8
 by_cases h0:o=0
 ·rw[if_pos h0];exact ep (C7 rfl)
 ·rw[if_neg h0]
  obtain⟨p,rfl⟩:∃p,o=p+1:=⟨o - 1,by omega⟩
  rw[S9 (by omega),Nat.add_sub_cancel,BL9,show p+2*m=d by omega]
  exact en (C6 (AJ9 p d (by omega) hd) (C7 rfl))
theorem AN4 (n:Nat)(hn:n≤12):∀ (d i m o r:Nat) (out:List Int),i+d=2*n→o+2*m=d→o+m≤n→r<cl m o→r≤1000000→out.length=i→
  Ev (fun g=>H7.l0 g (n:Int) (r:Int) out (o:Int) ((2*n:Nat):Int) (i:Int)) (out++AZ2 d m o r,true):=by
 intro d
 induction d with
 |zero =>
  intro i m o r out h ho hon hr hr2 hl
  refine Ev.step (fun k=>by simp only[H7.l0];rfl) ?_
  exact en (C7 (by simp[AZ2]))
 |succ d ih =>
  intro i m o r out h ho hon hr hr2 hl
  refine Ev.step (fun k=>by simp only[H7.l0];rfl) ?_
  have e1:wrap64 ((wrap64 ((wrap64 (2* (n:Int))) - (i:Int))) - 1)=(d:Int):=by rw[E4 (x:=2* (n:Int)) (by omega),E4 (x:=2* (n:Int) - i) (by omega),E4 (by omega)];omega
  have hs:=As8 d m o r ho hr
  rw[e1,E2 (i:=i) (by omega)]
  refine ep (C6 (Aj9 d m o (by omega) (by omega) ho) ?_)
  rw[AZ2]
  by_cases hc:AD8 m o≤r
  ·rw[if_pos hc]at hs ⊢
   refine ep (ep ?_)
   rw[show wrap64 ((wrap64 ((o:Int)+2*1)) - 1)=((o+1:Nat):Int)from by rw[E4 (x:=(o:Int)+2*1) (by omega),E4 (by omega)];omega,E4 (x:=(r:Int) - ((AD8 m o:Nat):Int)) (by omega),show(r:Int) - ((AD8 m o:Nat):Int)=((r - AD8 m o:Nat):Int)by omega]
   exact S7 (ih (i+1) (m - 1) (o+1) _ _ (by omega) (by omega) (by omega) hs.2 (by omega) (by simp[hl])) (by simp)
  ·rw[if_neg hc]at hs ⊢
   refine en (ep ?_)
   rw[show wrap64 ((wrap64 ((o:Int)+2*0)) - 1)=((o - 1:Nat):Int)from by rw[E4 (x:=(o:Int)+2*0) (by omega),E4 (by omega)];omega]
   exact S7 (ih (i+1) m (o - 1) r _ (by omega) (by omega) (by omega) hs.2 hr2 (by simp[hl])) (by simp)
theorem AL6 (n:Nat)(hn:n≤12):∀ (d m o r:Nat) (out:List Int),out.length+d=2*n→o+2*m=d→o+m≤n→r<cl m o→r≤1000000→
  Ev (fun g=>G4.l0 g (n:Int) (r:Int) out (o:Int) (m:Int)) (out++AZ2 d m o r,true):=by
 intro d
 induction d with
 |zero =>
  intro m o r out h ho hon hr hr2
  refine Ev.step (fun k=>by simp only[G4.l0];rfl) ?_
  rw[E4 (x:=2* (n:Int)) (by omega)]
  exact en (C7 (by simp[AZ2]))
 |succ d ih =>
  intro m o r out h ho hon hr hr2
  refine Ev.step (fun k=>by simp only[G4.l0];rfl) ?_
  have hs:=As8 d m o r ho hr
  rw[E4 (x:=2* (n:Int)) (by omega),E2 (i:=o) (by omega),AZ2]
  refine ep ?_
  by_cases h0:o=0
  ·have hl:AD8 m o=0:=by unfold AD8;rw[if_pos h0]
   rw[hl,if_pos (Nat.zero_le _)]at hs ⊢
   rw[show wrap64 ((m:Int) - 1)=((m - 1:Nat):Int)from by rw[E4 (by omega)];omega,show wrap64 ((r:Int) - 0)=((r - 0:Nat):Int)from by rw[E4 (by omega)];omega]
   refine en (en (en (ep ?_)))
   exact S7 (ih (m - 1) (o+1) _ _ (by simp;omega) (by omega) (by omega) hs.2 (by omega)) (by simp)
  ·have hl:AD8 m o=cl m (o - 1):=by unfold AD8;rw[if_neg h0]
   have hcl:=AL3 (o - 1) m (by omega) (by omega)
   rw[show wrap64 ((o:Int) - 1)=((o - 1:Nat):Int)from by rw[E4 (by omega)];omega]
   refine ep (C6 hcl ?_)
   rw[←hl]
   by_cases hc:AD8 m o≤r
   ·rw[if_pos hc]at hs ⊢
    rw[show wrap64 ((m:Int) - 1)=((m - 1:Nat):Int)from by rw[E4 (by omega)];omega,E4 (x:=(r:Int) - ((AD8 m o:Nat):Int)) (by omega),show(r:Int) - ((AD8 m o:Nat):Int)=((r - AD8 m o:Nat):Int)by omega]
    refine en (en (ep ?_))
    exact S7 (ih (m - 1) (o+1) _ _ (by simp;omega) (by omega) (by omega) hs.2 (by omega)) (by simp)
   ·rw[if_neg hc]at hs ⊢
    refine ep (ep ?_)
    exact S7 (ih m (o - 1) r _ (by simp;omega) (by omega) (by omega) hs.2 hr2) (by simp)
theorem Ak8 (n r:Nat)(hr:r≤999999):∃l b,x2 l∧Ev (fun g=>H7.f g (n:Int) (r:Int)) (l,b)∧Ev (fun g=>G4.f g (n:Int) (r:Int)) (l,b):=by
 by_cases h:n≤12
 ·have hg:=AJ9 0 (2*n) (by omega) (by omega)
  have hs:=AL3 0 n (by omega) h
  have he:wk (2*n) 0=cl n 0:=by rw[BL9,Nat.zero_add]
  have hb:=BN1 n 0
  have hb2:=Ap4 (0+2*n) (by omega)
  have hp:=BX2 n 0
  rw[he]at hg
  have e2:wrap64 (2* (n:Int))=((2*n:Nat):Int):=by rw[E4 (by omega)];omega
  by_cases hc:r<cl n 0
  ·refine⟨AZ2 (2*n) n 0 r,true,⟨by rw[BK3];omega,fun x hx=>by have:=BQ0 _ _ _ _ x hx;omega⟩,?_,?_⟩
   ·unfold H7.f
    rw[e2]
    refine D8 (H9 _ _ _) (D9 (I3.mpr (by omega)) (C6 hg (D8 (H9 _ _ _) ?_)))
    rw[E4 (by omega),I3.mpr (by omega)]
    refine Ev.step (fun k=>by simp only[H7.j0];rfl) ?_
    rw[e2]
    refine G8 (by simp) (S7 (AN4 n h (2*n) 0 n 0 r [] (by omega) (by omega) (by omega) hc (by omega) rfl) (by simp))
   ·unfold G4.f
    refine D8 (J6 _ _ _) (D9 (I3.mpr (by omega)) (C6 hs (D8 (J6 _ _ _) ?_)))
    rw[E4 (by omega),I3.mpr (by omega)]
    refine Ev.step (fun k=>by simp only[G4.j0];rfl) ?_
    refine G8 (by simp) (S7 (AL6 n h (2*n) n 0 r [] (by simp) (by omega) (by omega) hc (by omega)) (by simp))
  ·refine⟨[],false,AA4,?_,?_⟩
   ·unfold H7.f
    rw[e2]
    refine D8 (H9 _ _ _) (D9 (I3.mpr (by omega)) (C6 hg (D8 (H9 _ _ _) ?_)))
    rw[E4 (by omega),AV7.mpr (by omega)]
    refine Ev.step (fun k=>by simp only[H7.j0];rfl) ?_
    exact D9 (by simp) (C7 rfl)
   ·unfold G4.f
    refine D8 (J6 _ _ _) (D9 (I3.mpr (by omega)) (C6 hs (D8 (J6 _ _ _) ?_)))
    rw[E4 (by omega),AV7.mpr (by omega)]
    refine Ev.step (fun k=>by simp only[G4.j0];rfl) ?_
    exact D9 (by simp) (C7 rfl)
 ·refine⟨[],false,AA4,?_,?_⟩
  ·unfold H7.f
   refine D8 (H9 _ _ _) (G8 (fun e=>h (by have:=I3.mp e;omega)) ?_)
   refine Ev.step (fun k=>by simp only[H7.j0];rfl) ?_
   exact D9 trivial (C7 rfl)
  ·unfold G4.f
   refine D8 (J6 _ _ _) (G8 (fun e=>h (by have:=I3.mp e;omega)) ?_)
   refine Ev.step (fun k=>by simp only[G4.j0];rfl) ?_
   exact D9 trivial (C7 rfl)
end Go.Proofs.YtpiogigidgejpaaGreatDoor.Pure
namespace Go.Proofs.YtpiogigidgejpaaGreatDoor.Pure
open Go.RowKit Go.Proofs.YtpiogigidgejpaaGreatDoor.PFnExactStepLine Go.Proofs.YtpiogigidgejpaaGreatDoorW.PrintWords Go.Proofs.YtpiogigidgejpaaGreatDoorW.PrintLast Go.Proofs.YtpiogigidgejpaaGreatDoor.Base
set_option maxRecDepth 10000
set_option linter.unusedVariables false
set_option linter.unusedSimpArgs false
theorem x8 (a b:List Int)(ha:a.length≤1000000000000)(hab:a.length=b.length):∀ (d i:Nat),i+d=a.length→
  Ev (fun k=>D7.l0 k a b (a.length:Int) (i:Int)) (decide (a.drop i=b.drop i)):=by
 intro d
 induction d with
 |zero =>
  intro i h
  rw[List.drop_eq_nil_of_le (by omega),List.drop_eq_nil_of_le (by omega)]
  refine Ev.step (f:=fun _=>some true) (fun k=>?_) (Ev.now _)
  simp only[D7.l0];rw[if_neg (by omega)]
 |succ d ih =>
  intro i h
  rw[s7 a i (by omega),s7 b i (by omega)]
  refine Ev.step (f:=fun k=>if rd a (i:Int)=rd b (i:Int)then D7.l0 k a b (a.length:Int) ((i+1:Nat):Int)else some false) (fun k=>?_) ?_
  ·simp only[D7.l0];rw[if_pos (by omega),if_pos (by omega),if_pos (by omega),if_pos (by omega),E2 (by omega)]
  ·exact X2 (fun e=>S7 (ih (i+1) (by omega)) (by simp[e])) (fun e=>C7 (by simp[e]))
theorem o4 (a b:List Int)(ha:a.length≤1000000000000):Ev (fun k=>D7.f k a b) (decide (a=b)):=by
 unfold D7.f
 refine X2 (fun h=>?_) (fun h=>C7 ?_)
 ·exact x8 a b ha (by omega) a.length 0 (by omega)
 ·rw[eq_comm,decide_eq_false_iff_not];intro e;exact h (by rw[e])
def AJ0 (w:List Int):Bool:=inB (w.length:Int) 1 24&&Ag2 w 0 5
theorem AE7 {w:List Int}:AJ0 w=true↔(1≤w.length∧w.length≤24)∧∀x∈w,0≤x∧x≤5:=by
 simp only[AJ0,Bool.and_eq_true,I3,AK4]
 exact and_congr ⟨fun h=>⟨by omega,by omega⟩,fun h=>⟨by omega,by omega⟩⟩ Iff.rfl
theorem AO8 (w:List Int)(hw:w.length≤1000000000000):Ev (fun q=>AB3.f q w) (AJ0 w):=by
 unfold AB3.f AJ0
 refine D8 (H9 _ _ _) (X2 (fun h=>?_) (fun h=>C7 ?_))
 ·rw[h];exact C6 (AJ2 0 5 w hw) (C7 rfl)
 ·rw[Bool.eq_false_iff.mpr h];rfl
theorem AP5 (w:List Int)(hw:w.length≤1000000000000):Ev (fun q=>AB4.f q w) (AJ0 w):=by
 unfold AB4.f AJ0
 refine D8 (J6 _ _ _) (X2 (fun h=>?_) (fun h=>C7 ?_))
 ·rw[h];exact C6 (AJ4 0 5 w hw) (C7 rfl)
 ·rw[Bool.eq_false_iff.mpr h];rfl
theorem AgG4 {w:List Int} {i:Nat} (h:i<w.length):rd w (i:Int)∈w:=by
 rw[Ai8 w i h];exact List.getElem_mem h
theorem AZ3 (w:List Int)(k:Nat)(hk:k≤w.length):win w k w.length=w.drop k++w.take k:=by
 apply List.ext_getElem
 ·rw[AA7,List.length_append,List.length_drop,List.length_take];omega
 ·intro j h1 h2
  rw[AA7]at h1
  have e:(win w k w.length)[j]=w.getD ((k+j) % w.length) 0:=by simp[win]
  rw[e,List.getElem_append]
  by_cases c:j<w.length - k
  ·rw[dif_pos (by rw[List.length_drop];omega),List.getElem_drop,Nat.mod_eq_of_lt (by omega),List.getD_eq_getElem?_getD,List.getElem?_eq_getElem (by omega)];rfl
  ·rw[dif_neg (by rw[List.length_drop];omega),List.getElem_take,List.getD_eq_getElem?_getD]
   rw[show(k+j) % w.length=j - (w.drop k).length by rw[List.length_drop,Nat.mod_eq_sub_mod (by omega),Nat.mod_eq_of_lt (by omega)];omega,List.getElem?_eq_getElem (by rw[List.length_drop];omega)];rfl
theorem AN8 (w:List Int)(by_:Nat)(hw:1≤w.length∧w.length≤24)(hb:by_<w.length):Q0.f w (by_:Int)=some (win w by_ w.length):=by
 have e:Int.tmod (wrap64 ((Int.tmod (by_:Int) (w.length:Int))+ (w.length:Int))) (w.length:Int)=((by_:Nat):Int):=by
  rw[Y8,Nat.mod_eq_of_lt hb,E4 (by omega),show(by_:Int)+ (w.length:Int)=((by_+w.length:Nat):Int)by omega,Y8,Nat.add_mod_right,Nat.mod_eq_of_lt hb]
 unfold Q0.f
 rw[if_neg (by omega),e,if_pos (by omega),if_pos (by omega),Int.toNat_natCast]
 unfold E1.f
 rw[if_pos ⟨by simp;omega,by simp⟩,AZ3 w by_ (by omega)]
 simp
theorem AD2 (w:List Int)(by_:Nat)(hw:1≤w.length∧w.length≤60)(hb:by_≤w.length):Ev (fun q=>N8.f q w (by_:Int)) (win w by_ w.length):=by
 unfold N8.f
 have:∀ (d i:Nat) (acc:List Int),i+d=w.length→acc.length=i→Ev (fun k=>N8.l0 k w (by_:Int) acc (w.length:Int) (i:Int)) (acc++ (List.range' i d).map fun j=>w.getD ((by_+j) % w.length) 0):=by
  intro d
  induction d with
  |zero =>
   intro i acc h ha
   refine Ev.step (f:=fun _=>some acc) (fun k=>?_) (C7 (by simp))
   simp only[N8.l0];rw[if_neg (by omega)]
  |succ d ih =>
   intro i acc h ha
   refine Ev.step (f:=fun k=>N8.l0 k w (by_:Int) (acc++ [w.getD ((by_+i) % w.length) 0]) (w.length:Int) ((i+1:Nat):Int)) (fun k=>?_) (S7 (ih (i+1) _ (by omega) (by simp[ha])) ?_)
   ·simp only[N8.l0]
    rw[if_pos (by omega),if_neg (by omega),E4 (x:=(i:Int)+ (by_:Int)) (by omega),show(i:Int)+ (by_:Int)=((by_+i:Nat):Int)by omega,Y8,E2 (by omega)]
    have hm:=Nat.mod_lt (by_+i) (show 0<w.length by omega)
    rw[if_pos (by omega),if_pos (by omega),if_pos (by omega),U0]
   ·simp[List.range'_succ]
 exact S7 (this w.length 0 [] (by omega) rfl) (by simp[win])
def Ak6:List Int→List Int→Int
 |a::s,b::t=>if a=b then Ak6 s t else if a<b then -1 else 1
 |_,_=>0
theorem BW9 (a b:Int):j8.f a b=some (if a=b then 0 else if a<b then -1 else 1):=by
 unfold j8.f S4.f
 simp only[Option.bind_some,bne_self_eq_false,Bool.false_eq_true,if_false]
 by_cases h1:a=b
 ·subst h1
  rw[if_neg (Int.lt_irrefl _),if_neg (Int.lt_irrefl _),if_pos rfl]
 ·by_cases h2:a<b
  ·rw[if_pos h2,if_neg h1,if_pos h2]
  ·rw[if_neg h2,if_pos (by omega),if_neg h1,if_neg h2]
theorem AX1 (a b:List Int)(hab:a.length=b.length)(ha:a.length≤1000000):Ev (fun q=>K0.f q a b) (Ak6 a b):=by
 unfold K0.f
 have:∀ (d i:Nat),i+d=a.length→Ev (fun q=>K0.l0 q a b a (a.length:Int) (i:Int)) (Ak6 (a.drop i) (b.drop i)):=by
  intro d
  induction d with
  |zero =>
   intro i h
   rw[List.drop_eq_nil_of_le (by omega),List.drop_eq_nil_of_le (by omega)]
   refine Ev.step (fun k=>by simp only[K0.l0];rfl) ?_
   exact en (en (Ev.now _))
  |succ d ih =>
   intro i h
   rw[s7 a i (by omega),s7 b i (by omega)]
   refine Ev.step (fun k=>by simp only[K0.l0];rfl) ?_
   refine ep ?_
   refine ep ?_
   refine ep ?_
   refine en ?_
   refine ep ?_
   refine D8 (BW9 _ _) ?_
   rw[E2 (by omega)]
   unfold Ak6
   by_cases h1:rd a (i:Int)=rd b (i:Int)
   ·rw[if_pos h1,if_pos h1]
    exact D9 rfl (ih (i+1) (by omega))
   ·rw[if_neg h1,if_neg h1]
    by_cases h2:rd a (i:Int)<rd b (i:Int)
    ·rw[if_pos h2];exact G8 (by decide) (Ev.now _)
    ·rw[if_neg h2];exact G8 (by decide) (Ev.now _)
 exact this a.length 0 (by omega)
theorem BC5 (x:Int):a6.f x=some (if x>0 then 1 else if x<0 then -1 else 0):=by
 unfold a6.f
 split
 ·rfl
 ·split<;>rfl
theorem AV5 (a b:List Int)(hab:a.length=b.length)(ha:a.length≤1000000)(h1:∀x∈a,0≤x∧x≤5)(h2:∀x∈b,0≤x∧x≤5):Ev (fun q=>L2.f q a b) (Ak6 a b):=by
 unfold L2.f
 have:∀ (d i:Nat),i+d=a.length→Ev (fun q=>L2.l0 q a b (i:Int)) (Ak6 (a.drop i) (b.drop i)):=by
  intro d
  induction d with
  |zero =>
   intro i h
   rw[List.drop_eq_nil_of_le (by omega),List.drop_eq_nil_of_le (by omega)]
   refine Ev.step (fun k=>by simp only[L2.l0];rfl) ?_
   refine en ?_
   refine Ev.step (fun k=>by simp only[L2.j1];rfl) ?_
   refine G8 (by decide) ?_
   rw[hab,Int.sub_self,E4 (x:=0) (by omega)]
   exact D8 (BC5 0) (Ev.now _)
  |succ d ih =>
   intro i h
   have g1:=h1 _ (AgG4 (w:=a) (i:=i) (by omega))
   have g2:=h2 _ (AgG4 (w:=b) (i:=i) (by omega))
   rw[s7 a i (by omega),s7 b i (by omega)]
   refine Ev.step (fun k=>by simp only[L2.l0];rfl) ?_
   refine ep ?_
   refine Ev.step (fun k=>by simp only[L2.j1];rfl) ?_
   refine D9 (by simp;omega) ?_
   refine ep ?_
   refine ep ?_
   refine ep ?_
   rw[E2 (by omega),E4 (x:=rd a (i:Int) - rd b (i:Int)) (by omega)]
   unfold Ak6
   by_cases c1:rd a (i:Int)=rd b (i:Int)
   ·rw[if_pos c1]
    exact D9 c1 (ih (i+1) (by omega))
   ·rw[if_neg c1]
    refine G8 c1 (D8 (BC5 _) (C7 ?_))
    by_cases c2:rd a (i:Int)<rd b (i:Int)
    ·rw[if_pos c2,if_neg (by omega),if_pos (by omega)]
    ·rw[if_neg c2,if_pos (by omega)]
 exact this a.length 0 (by omega)
def AG8 (w:List Int) (best i:Nat):Nat:=if Ak6 (win w i w.length) (win w best w.length)<0 then i else best
def AN0 (w:List Int):Nat:=(List.range' 1 (w.length - 1)).foldl (AG8 w) 0
theorem AO0 {w:List Int} (hw:AJ0 w=true):Ev (fun q=>M9.f q w) ((AN0 w:Int),win w (AN0 w) w.length):=by
 obtain⟨hl,hx⟩:=AE7.mp hw
 have hc:M5.f w=some (win w 0 w.length):=by
  unfold M5.f
  rw[Option.bind_some,if_pos (by simp;omega),AZ3 w 0 (by omega)]
  simp
 unfold M9.f
 refine D8 hc ?_
 have:∀ (d i best:Nat),i+d=w.length→best<w.length→1≤i→Ev (fun q=>M9.l0 q w (best:Int) (win w best w.length) (i:Int)) (((List.range' i d).foldl (AG8 w) best:Nat),win w ((List.range' i d).foldl (AG8 w) best) w.length):=by
  intro d
  induction d with
  |zero =>
   intro i best h hb hi
   refine Ev.step (fun k=>by simp only[M9.l0];rfl) ?_
   exact en (Ev.now _)
  |succ d ih =>
   intro i best h hb hi
   refine Ev.step (fun k=>by simp only[M9.l0];rfl) ?_
   refine ep ?_
   refine D8 (AN8 w i hl (by omega)) ?_
   refine C6 (AX1 _ _ (by rw[AA7,AA7]) (by rw[AA7];omega)) ?_
   rw[E2 (by omega),List.range'_succ,List.foldl_cons]
   by_cases c:Ak6 (win w i w.length) (win w best w.length)<0
   ·refine D9 c ?_
    rw[show AG8 w best i=i by unfold AG8;rw[if_pos c]]
    exact ih (i+1) i (by omega) (by omega) (by omega)
   ·refine G8 c ?_
    rw[show AG8 w best i=best by unfold AG8;rw[if_neg c]]
    exact ih (i+1) best (by omega) hb (by omega)
 exact this (w.length - 1) 1 0 (by omega) (by omega) (by omega)
theorem Au1 {w:List Int} (hw:AJ0 w=true) (p n:Nat):∀x∈win w p n,0≤x∧x≤5:=fun x h=>(AE7.mp hw).2 x (BS6 (by have:=(AE7.mp hw).1;omega) h)
theorem Ac6 {w:List Int} (hw:AJ0 w=true):Ev (fun q=>U4.f q w) (AN0 w:Int):=by
 obtain⟨hl,hx⟩:=AE7.mp hw
 unfold U4.f
 have:∀ (d i best:Nat),i+d=w.length→best<w.length→1≤i→Ev (fun q=>U4.l0 q w (best:Int) (i:Int)) (((List.range' i d).foldl (AG8 w) best:Nat):Int):=by
  intro d
  induction d with
  |zero =>
   intro i best h hb hi
   refine Ev.step (fun k=>by simp only[U4.l0];rfl) ?_
   exact en (Ev.now _)
  |succ d ih =>
   intro i best h hb hi
   refine Ev.step (fun k=>by simp only[U4.l0];rfl) ?_
   refine ep ?_
   refine C6 (AD2 w i ⟨by omega,by omega⟩ (by omega)) ?_
   refine C6 (AD2 w best ⟨by omega,by omega⟩ (by omega)) ?_
   refine C6 (AV5 _ _ (by rw[AA7,AA7]) (by rw[AA7];omega) (Au1 hw _ _) (Au1 hw _ _)) ?_
   rw[E2 (by omega),List.range'_succ,List.foldl_cons]
   by_cases c:Ak6 (win w i w.length) (win w best w.length)<0
   ·refine D9 c ?_
    rw[show AG8 w best i=i by unfold AG8;rw[if_pos c]]
    exact ih (i+1) i (by omega) (by omega) (by omega)
   ·refine G8 c ?_
    rw[show AG8 w best i=best by unfold AG8;rw[if_neg c]]
    exact ih (i+1) best (by omega) hb (by omega)
 exact this (w.length - 1) 1 0 (by omega) (by omega) (by omega)
theorem Aa0 (a b:List Int)(ha:a.length≤1000000000000)(hab:a.length=b.length):∀ (d i:Nat),i+d=a.length→
  Ev (fun k=>K8.l0 k a b (a.length:Int) (i:Int)) (decide (a.drop i=b.drop i)):=by
 intro d
 induction d with
 |zero =>
  intro i h
  rw[List.drop_eq_nil_of_le (by omega),List.drop_eq_nil_of_le (by omega)]
  refine Ev.step (f:=fun _=>some true) (fun k=>?_) (Ev.now _)
  simp only[K8.l0];rw[if_neg (by omega)]
 |succ d ih =>
  intro i h
  rw[s7 a i (by omega),s7 b i (by omega)]
  refine Ev.step (f:=fun k=>if rd a (i:Int)=rd b (i:Int)then K8.l0 k a b (a.length:Int) ((i+1:Nat):Int)else some false) (fun k=>?_) ?_
  ·simp only[K8.l0];rw[if_pos (by omega),if_pos (by omega),if_pos (by omega),if_pos (by omega),E2 (by omega)]
  ·exact X2 (fun e=>S7 (ih (i+1) (by omega)) (by simp[e])) (fun e=>C7 (by simp[e]))
theorem AO4 (a b:List Int)(ha:a.length≤1000000000000):Ev (fun k=>K8.f k a b) (decide (a=b)):=by
 unfold K8.f
 refine X2 (fun h=>?_) (fun h=>C7 ?_)
 ·exact Aa0 a b ha (by omega) a.length 0 (by omega)
 ·rw[eq_comm,decide_eq_false_iff_not];intro e;exact h (by rw[e])
def AL4 (w:List Int)(p:Nat):Bool:=decide (w.length % p=0)&&decide (win w p w.length=w)
def Aj4 (w:List Int):Nat→Nat→Nat
 |0,p=>p
 |d+1,p=>if AL4 w p=true then p else Aj4 w d (p+1)
def BC8 (w:List Int):Nat:=Aj4 w (w.length - 1) 1
theorem Ah4 (w:List Int):win w w.length w.length=w:=by
 rw[AZ3 w w.length (Nat.le_refl _)];simp
theorem AT8 {w:List Int} (hw:AJ0 w=true):Ev (fun q=>Q8.f q w) (BC8 w:Int):=by
 obtain⟨hl,hx⟩:=AE7.mp hw
 unfold Q8.f
 have hrot:∀p:Nat,1≤p→p≤w.length→Q0.f w (p:Int)=some (win w p w.length):=by
  intro p h1 h2
  by_cases c:p<w.length
  ·exact AN8 w p hl c
  ·obtain rfl:p=w.length:=by omega
   have e:Int.tmod (wrap64 ((Int.tmod (w.length:Int) (w.length:Int))+ (w.length:Int))) (w.length:Int)=0:=by
    rw[Y8,Nat.mod_self,E4 (by omega),show((0:Nat):Int)+ (w.length:Int)=((w.length:Nat):Int)by omega,Y8,Nat.mod_self];rfl
   unfold Q0.f
   rw[if_neg (by omega),e,if_pos (by omega),if_pos (by omega)]
   unfold E1.f
   rw[if_pos ⟨by simp;omega,by simp⟩,Ah4]
   simp
 have:∀ (d p:Nat),p+d=w.length→1≤p→Ev (fun q=>Q8.l0 q w (p:Int)) (Aj4 w d p:Int):=by
  intro d
  induction d with
  |zero =>
   intro p h hp
   obtain rfl:p=w.length:=by omega
   refine Ev.step (fun k=>by simp only[Q8.l0];rfl) ?_
   refine en ?_
   refine D9 (by simp) ?_
   refine D8 (hrot _ hp (Nat.le_refl _)) ?_
   rw[Ah4]
   refine C6 (o4 _ _ (by omega)) ?_
   exact D9 (by simp) (Ev.now _)
  |succ d ih =>
   intro p h hp
   refine Ev.step (fun k=>by simp only[Q8.l0];rfl) ?_
   refine en ?_
   rw[E2 (by omega),show((w.length:Int) % (p:Int))=((w.length % p:Nat):Int)by omega]
   unfold Aj4
   by_cases c1:w.length % p=0
   ·refine ep ?_
    refine D8 (hrot _ hp (by omega)) ?_
    refine C6 (o4 _ _ (by rw[AA7];omega)) ?_
    by_cases c2:win w p w.length=w
    ·rw[if_pos (show AL4 w p=true by unfold AL4;rw[decide_eq_true c1,decide_eq_true c2];rfl)]
     exact D9 (by rw[decide_eq_true c2]) (Ev.now _)
    ·rw[if_neg (show ¬AL4 w p=true by unfold AL4;rw[decide_eq_false c2];simp)]
     exact G8 (by rw[decide_eq_false c2];simp) (ih (p+1) (by omega) (by omega))
   ·rw[if_neg (show ¬AL4 w p=true by unfold AL4;rw[decide_eq_false c1];simp)]
    exact en (ih (p+1) (by omega) (by omega))
 exact this (w.length - 1) 1 (by omega) (by omega)
theorem Ae8 {w:List Int} (hl:1≤w.length∧w.length≤24):Ev (fun q=>W9.f q w) (BC8 w:Int):=by
 unfold W9.f
 have:∀ (d p:Nat),p+d=w.length→1≤p→Ev (fun q=>W9.l0 q w (p:Int)) (Aj4 w d p:Int):=by
  intro d
  induction d with
  |zero =>
   intro p h hp
   obtain rfl:p=w.length:=by omega
   refine Ev.step (fun k=>by simp only[W9.l0];rfl) ?_
   refine en ?_
   refine D9 (by simp) ?_
   refine C6 (AD2 w w.length ⟨by omega,by omega⟩ (Nat.le_refl _)) ?_
   rw[Ah4]
   refine C6 (AO4 _ _ (by omega)) ?_
   exact D9 (by simp) (Ev.now _)
  |succ d ih =>
   intro p h hp
   refine Ev.step (fun k=>by simp only[W9.l0];rfl) ?_
   refine en ?_
   rw[E2 (by omega),show((w.length:Int) % (p:Int))=((w.length % p:Nat):Int)by omega]
   unfold Aj4
   by_cases c1:w.length % p=0
   ·refine ep ?_
    refine C6 (AD2 w p ⟨by omega,by omega⟩ (by omega)) ?_
    refine C6 (AO4 _ _ (by rw[AA7];omega)) ?_
    by_cases c2:win w p w.length=w
    ·rw[if_pos (show AL4 w p=true by unfold AL4;rw[decide_eq_true c1,decide_eq_true c2];rfl)]
     exact D9 (by rw[decide_eq_true c2]) (Ev.now _)
    ·rw[if_neg (show ¬AL4 w p=true by unfold AL4;rw[decide_eq_false c2];simp)]
     exact G8 (by rw[decide_eq_false c2];simp) (ih (p+1) (by omega) (by omega))
   ·rw[if_neg (show ¬AL4 w p=true by unfold AL4;rw[decide_eq_false c1];simp)]
    exact en (ih (p+1) (by omega) (by omega))
 exact this (w.length - 1) 1 (by omega) (by omega)
def AH4 (w:List Int):Bool:=decide (AN0 w=0)&&decide (BC8 w=w.length)
theorem BU1 (a b:Nat):((a:Int)== (b:Int))=decide (a=b):=by
 rw[Bool.eq_iff_iff,beq_iff_eq,decide_eq_true_eq];omega
theorem AZ8 {w:List Int} (hw:AJ0 w=true):Ev (fun q=>l7.f q w) (AH4 w):=by
 unfold l7.f o7.f AH4
 refine C6 (C6 (AO0 hw) (Ev.now _)) ?_
 dsimp only
 rw[show((AN0 w:Int)==0)=decide (AN0 w=0)from BU1 _ 0]
 refine X2 (fun h=>?_) (fun h=>C7 (by rw[Bool.eq_false_iff.mpr h];rfl))
 rw[h]
 exact C6 (AT8 hw) (C7 (by rw[BU1];rfl))
theorem AY2 {w:List Int} (hw:AJ0 w=true):Ev (fun q=>x0.f q w) (AH4 w):=by
 unfold x0.f o8.f AH4
 refine C6 (C6 (Ac6 hw) (Ev.now _)) ?_
 rw[show((AN0 w:Int)==0)=decide (AN0 w=0)from BU1 _ 0]
 refine X2 (fun h=>?_) (fun h=>C7 (by rw[Bool.eq_false_iff.mpr h];rfl))
 rw[h]
 exact C6 (Ae8 (AE7.mp hw).1) (C7 (by rw[BU1];rfl))
theorem AU5 (x:Int):AH4 [x]=true:=by
 unfold AH4 AN0 BC8
 simp[Aj4]
def lpM (w:List Int):Nat→Nat
 |0=>0
 |n+1=>if AH4 (w.take (n+1))=true then n+1 else lpM w n
theorem BX1 (w:List Int):∀n,lpM w n≤n:=by
 intro n
 induction n with
 |zero=>exact Nat.le_refl _
 |succ n ih=>rw[lpM];split<;>omega
theorem BR5 (w:List Int)(h:w≠[]):∀n,1≤n→1≤lpM w n:=by
 intro n
 induction n with
 |zero=>intro h;omega
 |succ n ih =>
  intro _
  rw[lpM]
  split
  ·omega
  ·rename_i hc
   cases n with
   |zero =>
    cases w with
    |nil=>exact absurd rfl h
    |cons x w=>exact absurd (by simpa using AU5 x) hc
   |succ n=>exact ih (by omega)
def AX0:Nat→List Int→List (List Int)
 |0,_=>[]
 |f+1,w=>if w=[]then []else w.take (lpM w w.length)::AX0 f (w.drop (lpM w w.length))
theorem BM6:∀f (w:List Int),(∀x∈w,0≤x∧x≤5)→w.length≤24→∀l∈AX0 f w,l≠[]∧x2 l:=by
 intro f
 induction f with
 |zero=>intro w _ _ l hl;cases hl
 |succ f ih =>
  intro w hx hl l hm
  rw[AX0]at hm
  split at hm
  ·cases hm
  ·rename_i hne
   rcases List.mem_cons.mp hm with rfl|hm
   ·have hp:=BR5 w hne w.length (List.length_pos_iff.mpr hne)
    have hll:=BX1 w w.length
    refine⟨fun e=>?_,by rw[List.length_take];omega,fun x hm=>by have:=hx x (List.mem_of_mem_take hm);omega⟩
    have:=congrArg List.length e
    rw[List.length_take,List.length_nil]at this
    omega
   ·exact ih _ (fun x hm=>hx x (List.mem_of_mem_drop hm)) (by rw[List.length_drop];omega) l hm
theorem BO2:∀f w,(AX0 f w).length≤f:=by
 intro f
 induction f with
 |zero=>intro w;exact Nat.le_refl _
 |succ f ih =>
  intro w
  rw[AX0]
  split
  ·simp
  ·rw[List.length_cons];have:=ih (w.drop (lpM w w.length));omega
theorem Ai9 {w:List Int} (n:Nat)(h1:1≤n)(hn:n≤w.length)(hl:w.length≤24)(hx:∀x∈w,0≤x∧x≤5):AJ0 (w.take n)=true :=
 AE7.mpr ⟨by rw[List.length_take];omega,fun x hm=>hx x (List.mem_of_mem_take hm)⟩
theorem Ak1:∀ (f:Nat) (w:List Int) (acc:List (List Int)),w.length≤f→w.length≤24→(∀x∈w,0≤x∧x≤5)→acc.length+f≤100→Ev (fun g=>F3.l0 g w acc) (acc++AX0 f w,true):=by
 intro f
 induction f with
 |zero =>
  intro w acc hf hl hx ha
  refine Ev.step (fun k=>by simp only[F3.l0];rfl) ?_
  exact en (C7 (by simp[AX0]))
 |succ f ih =>
  intro w acc hf hl hx ha
  refine Ev.step (fun k=>by simp only[F3.l0];rfl) ?_
  rw[AX0]
  by_cases hw:w=[]
  ·subst hw
   rw[if_pos rfl]
   exact G8 (by simp) (C7 (by simp))
  ·have hp1:0<w.length:=List.length_pos_iff.mpr hw
   rw[if_neg hw]
   refine ep ?_
   have hall:∀n,1≤n→n≤w.length→Ev (fun g=>F3.l1 g w acc (n:Int)) (acc++ (w.take (lpM w n)::AX0 f (w.drop (lpM w n))),true):=by
    intro n
    induction n with
    |zero=>intro h;omega
    |succ n ihn =>
     intro h1 h2
     refine Ev.step (fun k=>by simp only[F3.l1];rfl) ?_
     rw[Int.toNat_natCast]
     refine ep (ep (C6 (AZ8 (Ai9 (n+1) h1 h2 hl hx)) ?_))
     by_cases hc:AH4 (w.take (n+1))=true
     ·rw[show lpM w (n+1)=n+1 from by rw[lpM,if_pos hc]]
      refine D9 hc (D8 (m0 _ (by rw[List.length_take];omega)) (ep ?_))
      exact S7 (ih (w.drop (n+1)) _ (by rw[List.length_drop];omega) (by rw[List.length_drop];omega) (fun x hm=>hx x (List.mem_of_mem_drop hm)) (by simp;omega)) (by simp)
     ·rw[show lpM w (n+1)=lpM w n from by rw[lpM,if_neg hc],S9 (by omega)]
      refine G8 hc ?_
      cases n with
      |zero =>
       cases w with
       |nil=>exact absurd rfl hw
       |cons x w=>exact absurd (by simpa using AU5 x) hc
      |succ n=>exact ihn (by omega) (by omega)
   exact hall w.length hp1 (Nat.le_refl _)
theorem Ak7 (w:List Int)(hl:w.length≤24)(hx:∀x∈w,0≤x∧x≤5):∀ (f from_:Nat) (acc:List (List Int)),from_≤w.length→w.length - from_≤f→acc.length+f≤100→Ev (fun g=>I4.l0 g w acc (from_:Int)) (acc++AX0 f (w.drop from_),true):=by
 intro f
 induction f with
 |zero =>
  intro from_ acc hf hf2 ha
  refine Ev.step (fun k=>by simp only[I4.l0];rfl) ?_
  exact en (C7 (by simp[AX0]))
 |succ f ih =>
  intro from_ acc hf hf2 ha
  refine Ev.step (fun k=>by simp only[I4.l0];rfl) ?_
  rw[AX0]
  have hdl:(w.drop from_).length=w.length - from_:=List.length_drop
  by_cases hw:w.drop from_=[]
  ·rw[if_pos hw]
   rw[hw]at hdl
   exact G8 (by simp at hdl;omega) (C7 (by simp))
  ·have hp1:0< (w.drop from_).length:=List.length_pos_iff.mpr hw
   rw[if_neg hw]
   refine ep ?_
   have hxd:∀x∈w.drop from_,0≤x∧x≤5:=fun x hm=>hx x (List.mem_of_mem_drop hm)
   have hall:∀n,1≤n→n≤(w.drop from_).length→Ev (fun g=>I4.l1 g w acc (from_:Int) ((from_+n:Nat):Int)) (acc++ ((w.drop from_).take (lpM (w.drop from_) n)::AX0 f ((w.drop from_).drop (lpM (w.drop from_) n))),true):=by
    intro n
    induction n with
    |zero=>intro h;omega
    |succ n ihn =>
     intro h1 h2
     refine Ev.step (fun k=>by simp only[I4.l1];rfl) ?_
     have e:(w.take (from_+ (n+1))).drop from_=(w.drop from_).take (n+1):=by rw[List.drop_take];congr 1;omega
     rw[Int.toNat_natCast,Int.toNat_natCast,e]
     refine ep (ep (ep (C6 (AY2 (Ai9 (n+1) h1 h2 (by omega) hxd)) ?_)))
     by_cases hc:AH4 ((w.drop from_).take (n+1))=true
     ·rw[show lpM (w.drop from_) (n+1)=n+1 from by rw[lpM,if_pos hc]]
      refine D9 hc (D8 (b6 _ (by rw[List.length_take];omega)) (ep ?_))
      refine S7 (ih (from_+ (n+1)) _ (by omega) (by omega) (by simp;omega)) ?_
      rw[List.drop_drop];simp
     ·rw[show lpM (w.drop from_) (n+1)=lpM (w.drop from_) n from by rw[lpM,if_neg hc],show((from_+ (n+1):Nat):Int)=((from_+n+1:Nat):Int)from rfl,S9 (by omega)]
      refine G8 hc ?_
      cases n with
      |zero =>
       cases hd:w.drop from_ with
       |nil=>exact absurd hd hw
       |cons x t=>rw[hd]at hc;exact absurd (by simpa using AU5 x) hc
      |succ n=>exact ihn (by omega) (by omega)
   have:=hall (w.drop from_).length hp1 (Nat.le_refl _)
   rw[show from_+ (w.drop from_).length=w.length by omega]at this
   exact this
theorem Ap3 (w:List Int)(hl:w.length≤1100):∃L b,L.length≤24∧(∀l∈L,l≠[]∧x2 l)∧Ev (fun g=>F3.f g w) (L,b)∧Ev (fun g=>I4.f g w) (L,b):=by
 by_cases h:AJ0 w=true
 ·obtain⟨h1,h2⟩:=AE7.mp h
  have hf:=BO2 w.length w
  refine⟨AX0 w.length w,true,by omega,BM6 w.length w h2 h1.2,?_,?_⟩
  ·unfold F3.f
   exact C6 (AO8 w (by omega)) (D9 h (S7 (Ak1 w.length w [] (Nat.le_refl _) h1.2 h2 (by simp;omega)) (by simp)))
  ·unfold I4.f
   exact C6 (AP5 w (by omega)) (D9 h (S7 (Ak7 w h1.2 h2 w.length 0 [] (by omega) (by omega) (by simp;omega)) (by simp)))
 ·refine⟨[],false,by simp,by simp,?_,?_⟩
  ·unfold F3.f
   exact C6 (AO8 w (by omega)) (G8 h (C7 rfl))
  ·unfold I4.f
   exact C6 (AP5 w (by omega)) (G8 h (C7 rfl))
end Go.Proofs.YtpiogigidgejpaaGreatDoor.Pure
