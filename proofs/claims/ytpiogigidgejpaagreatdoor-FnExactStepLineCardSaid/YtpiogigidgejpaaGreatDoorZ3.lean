import Derived.Test.YtpiogigidgejpaaGreatDoorZ0
import Derived.Test.YtpiogigidgejpaaGreatDoorY0
import Derived.Test.YtpiogigidgejpaaGreatDoorPFnExactStepLinex15
import Derived.Test.YtpiogigidgejpaaGreatDoorPFnExactStepLinex17
namespace Go.Proofs.YtpiogigidgejpaaGreatDoor.Pure
open Go.RowKit Go.Proofs.YtpiogigidgejpaaGreatDoorW.PrintWords Go.Proofs.YtpiogigidgejpaaGreatDoorW.PrintLast Go.Proofs.YtpiogigidgejpaaGreatDoor.Base
set_option maxRecDepth 10000
set_option linter.unusedVariables false
set_option linter.unusedSimpArgs false
def bin:Nat→Nat→Nat
 |_,0=>1
 |0,_+1=>0
 |n+1,k+1=>bin n k+bin n (k+1)
theorem AP8 (n:Nat):bin n 0=1:=by cases n<;>rfl
theorem Ao0:∀n k,n<k→bin n k=0:=by
 intro n
 induction n with
 |zero=>intro k h;cases k with
  |zero=>omega
  |succ k=>rfl
 |succ n ih=>intro k h;cases k with
  |zero=>omega
  |succ k=>rw[bin,ih k (by omega),ih (k+1) (by omega)]
theorem As6:∀n,bin n n=1:=by
 intro n
 induction n with
 |zero=>rfl
 |succ n ih=>rw[bin,ih,Ao0 n (n+1) (by omega)]
theorem BU0:∀n k,k≤n→1≤bin n k:=by
 intro n
 induction n with
 |zero =>
   intro k h;obtain rfl:k=0:=by omega
   exact Nat.le_refl _
 |succ n ih=>intro k h;cases k with
  |zero=>exact Nat.le_refl _
  |succ k=>rw[bin];have:=ih k (by omega);omega
theorem BO5:∀n,n≤12→∀i,i<n→bin n i* (n - i) / (i+1)=bin n (i+1):=by decide
theorem AE5:∀n,n≤12→∀k,k≤12→bin n k≤924:=by decide
def AC2:Nat→Nat→Nat→List (List Int)
 |_,0,_=>[[]]
 |0,_+1,_=>[]
 |d+1,k+1,f=>(AC2 d k (f+1)).map ((f:Int)::·)++AC2 d (k+1) (f+1)
theorem Aa3 (d f:Nat):AC2 d 0 f=[[]]:=by cases d<;>rfl
theorem AD9:∀d k f,(AC2 d k f).length=bin d k:=by
 intro d
 induction d with
 |zero=>intro k f;cases k<;>rfl
 |succ d ih=>intro k f;cases k with
  |zero=>rfl
  |succ k=>rw[AC2,bin,List.length_append,List.length_map,ih,ih]
theorem AV2:∀d k f l,l∈AC2 d k f→l.length=k∧∀x∈l,(f:Int)≤x∧x< ((f+d:Nat):Int):=by
 intro d
 induction d with
 |zero=>intro k f l h;cases k with
  |zero=>rw[AC2,List.mem_singleton]at h;subst h;exact⟨rfl,by simp⟩
  |succ k=>rw[AC2]at h;cases h
 |succ d ih=>intro k f l h;cases k with
  |zero=>rw[AC2,List.mem_singleton]at h;subst h;exact⟨rfl,by simp⟩
  |succ k =>
   rw[AC2,List.mem_append,List.mem_map]at h
   rcases h with⟨t,ht,rfl⟩|h
   ·have h2:=ih k (f+1) t ht
    refine⟨by simp[h2.1],fun x hx=>?_⟩
    rcases List.mem_cons.mp hx with rfl|hx
    ·omega
    ·have:=h2.2 x hx;omega
   ·have h2:=ih (k+1) (f+1) l h
    exact⟨h2.1,fun x hx=>by have:=h2.2 x hx;omega⟩
theorem e7 {α:Type} (l:List α)(i:Nat)(d:α)(h:i<l.length):l.getD i d∈l:=by
 rw[List.getD_eq_getElem?_getD,List.getElem?_eq_getElem h];exact List.getElem_mem h
theorem Av0 {α:Type} (a b:List α)(i:Nat)(d:α):(a++b).getD i d=if i<a.length then a.getD i d else b.getD (i - a.length) d:=by
 simp only[List.getD_eq_getElem?_getD,List.getElem?_append]
 split<;>rfl
theorem At1 {α β:Type} (g:α→β)(l:List α)(i:Nat)(d:α)(e:β)(h:i<l.length):(l.map g).getD i e=g (l.getD i d):=by
 simp[List.getD_eq_getElem?_getD,List.getElem?_eq_getElem h]
theorem BO6 (d k f r:Nat)(h:r<bin (d+1) (k+1)):(AC2 (d+1) (k+1) f).getD r []=if r<bin d k then(f:Int):: (AC2 d k (f+1)).getD r []else(AC2 d (k+1) (f+1)).getD (r - bin d k) []:=by
 rw[AC2,Av0,List.length_map,AD9]
 split
 ·rename_i h2
  rw[At1 _ _ _ [] _ (by rw[AD9];exact h2)]
 ·rfl
def BP2 (n:Nat):List Int:=(List.range' 0 n).map fun(j:Nat)=>(j:Int)
theorem BJ7 (n:Nat):(BP2 n).length=n:=by simp[BP2]
def AE1:Nat→Nat→List (List Int)
 |_,0=>[[]]
 |0,_+1=>[]
 |n+1,k+1=>if k=n then [BP2 (n+1)]else AE1 n (k+1)++ (AE1 n k).reverse.map (·++ [(n:Int)])
theorem An0 (n:Nat):AE1 n n=[BP2 n]:=by
 cases n with
 |zero=>rfl
 |succ n=>rw[AE1,if_pos rfl]
theorem AG6:∀n k,k≤n→(AE1 n k).length=bin n k:=by
 intro n
 induction n with
 |zero =>
     intro k h;obtain rfl:k=0:=by omega
     rfl
 |succ n ih=>intro k h;cases k with
  |zero=>rfl
  |succ k =>
   rw[AE1]
   split
   ·rename_i e;subst e;rw[As6];rfl
   ·rw[List.length_append,List.length_map,List.length_reverse,ih (k+1) (by omega),ih k (by omega),bin];omega
theorem AW6:∀n k l,l∈AE1 n k→l.length=k∧∀x∈l,(0:Int)≤x∧x< (n:Int):=by
 intro n
 induction n with
 |zero=>intro k l h;cases k with
  |zero=>rw[AE1,List.mem_singleton]at h;subst h;exact⟨rfl,by simp⟩
  |succ k=>rw[AE1]at h;cases h
 |succ n ih=>intro k l h;cases k with
  |zero=>rw[AE1,List.mem_singleton]at h;subst h;exact⟨rfl,by simp⟩
  |succ k =>
   rw[AE1]at h
   split at h
   ·rename_i e;subst e
    rw[List.mem_singleton]at h;subst h
    refine⟨BJ7 _,fun x hx=>?_⟩
    simp only[BP2,List.mem_map,List.mem_range'_1]at hx
    obtain⟨j,hj,rfl⟩:=hx
    omega
   ·rw[List.mem_append,List.mem_map]at h
    rcases h with h|⟨t,ht,rfl⟩
    ·have h2:=ih (k+1) l h
     exact⟨h2.1,fun x hx=>by have:=h2.2 x hx;omega⟩
    ·have h2:=ih k t (List.mem_reverse.mp ht)
     refine⟨by simp[h2.1],fun x hx=>?_⟩
     rcases List.mem_append.mp hx with hx|hx
     ·have:=h2.2 x hx;omega
     ·rw[List.mem_singleton]at hx;omega
theorem BL0 {α:Type} (l:List α)(i:Nat)(d:α)(h:i<l.length):l.reverse.getD i d=l.getD (l.length - 1 - i) d:=by
 rw[List.getD_eq_getElem?_getD,List.getD_eq_getElem?_getD,List.getElem?_reverse h]
theorem BO9 (n k r:Nat)(hk:k<n)(h:r<bin (n+1) (k+1)):(AE1 (n+1) (k+1)).getD r []=if r<bin n (k+1)then(AE1 n (k+1)).getD r []else(AE1 n k).getD (bin (n+1) (k+1) - 1 - r) []++ [(n:Int)]:=by
 rw[AE1,if_neg (by omega),Av0,AG6 n (k+1) (by omega)]
 split
 ·rfl
 ·rename_i h2
  have hl:=AG6 n k (by omega)
  rw[bin]at h ⊢
  rw[At1 _ _ _ [] _ (by rw[List.length_reverse,hl];omega),BL0 _ _ _ (by omega),hl]
  congr 2
  omega
def m9:Nat→Nat→Nat
 |_,0=>1
 |m,r+1=>m*m9 m r+m9 (m+1) r
theorem BS8:∀r m,m+r≤13→m9 m r≤13 ^ r:=by
 intro r
 induction r with
 |zero=>intro m _;exact Nat.le_refl _
 |succ r ih =>
  intro m h
  rw[m9,Nat.pow_succ]
  have h1:=ih m (by omega)
  have h2:=ih (m+1) (by omega)
  have h3:m*m9 m r≤12*13 ^ r:=Nat.mul_le_mul (by omega) h1
  omega
theorem AE4 (r m:Nat)(h:m+r≤13)(hr:r≤12):m9 m r≤23298085122481:=by
 have h1:=BS8 r m h
 have h2:13 ^ r≤13 ^ 12:=Nat.pow_le_pow_right (by decide) hr
 have h3:13 ^ 12=23298085122481:=by decide
 omega
def wk:Nat→Nat→Nat
 |0,o=>if o=0 then 1 else 0
 |r+1,0=>wk r 1
 |r+1,o+1=>wk r (o+2)+wk r o
def cl:Nat→Nat→Nat
 |0,_=>1
 |n+1,0=>cl n 1
 |n+1,o+1=>cl n (o+2)+cl (n+1) o
theorem BP6:∀r o,r<o→wk r o=0:=by
 intro r
 induction r with
 |zero=>intro o h;rw[wk,if_neg (by omega)]
 |succ r ih=>intro o h;cases o with
  |zero=>omega
  |succ o=>rw[wk,ih (o+2) (by omega),ih o (by omega)]
theorem BQ9:∀o,wk o o=1:=by
 intro o
 induction o with
 |zero=>rfl
 |succ o ih=>rw[wk,ih,BP6 o (o+2) (by omega)]
theorem BL9:∀n o,cl n o=wk (o+2*n) o:=by
 intro n
 induction n with
 |zero=>intro o;rw[cl,Nat.mul_zero,Nat.add_zero,BQ9]
 |succ n ih =>
  intro o
  induction o with
  |zero=>rw[cl,ih 1,show 0+2* (n+1)=(1+2*n)+1 by omega,wk]
  |succ o ih2=>rw[cl,ih (o+2),ih2,show o+1+2* (n+1)=(o+2+2*n)+1 by omega,wk,show o+2* (n+1)=o+2+2*n by omega]
theorem BK8:∀r o,wk r o≤2 ^ r:=by
 intro r
 induction r with
 |zero=>intro o;rw[wk];split<;>simp
 |succ r ih=>intro o;cases o with
  |zero=>rw[wk,Nat.pow_succ];have:=ih 1;omega
  |succ o=>rw[wk,Nat.pow_succ];have h1:=ih (o+2);have h2:=ih o;omega
theorem BX2:∀n o,1≤cl n o:=by
 intro n
 induction n with
 |zero=>intro o;rw[cl];exact Nat.le_refl _
 |succ n ih=>intro o;cases o with
  |zero=>rw[cl];exact ih 1
  |succ o=>rw[cl];have:=ih (o+2);omega
def AS7 (r:Nat):Nat:=r ^^^ (r >>> 1)
def gcN:Nat→List Nat
 |0=>[0]
 |n+1=>gcN n++ (gcN n).reverse.map (·+2 ^ n)
theorem BT1:(List.range 11).all (fun n=>gcN n== (List.range (2 ^ n)).map AS7)=true:=by decide +kernel
def AN6:Nat→Nat→Nat→Nat
 |0,_,r=>r
 |g+1,w,r=>if w=0 then r else AN6 g (w / 2) (r ^^^ w)
theorem BF2:(List.range 1024).all (fun r=>AN6 11 (AS7 r) 0==r&&AS7 (AN6 11 r 0)==r)=true:=by decide +kernel
theorem BA1:(List.range 11).all (fun n=>(List.range (2 ^ n)).all fun w=>decide (AN6 11 w 0<2 ^ n))=true:=by decide +kernel
def AC8 (n r:Nat):Nat:=if r / (n+1) % 2=0 then n - r % (n+1)else r % (n+1)
theorem An1 (n r:Nat):AC8 n r≤n:=by
 unfold AC8
 have:=Nat.mod_lt r (show 0<n+1 by omega)
 split<;>omega
def Z2:Nat→Nat→List Int
 |0,_=>[]
 |n+1,r=>(Z2 n (r / (n+1))).take (AC8 n r)++ (n:Int):: (Z2 n (r / (n+1))).drop (AC8 n r)
theorem AM9:∀n r,(Z2 n r).length=n:=by
 intro n
 induction n with
 |zero=>intro r;rfl
 |succ n ih =>
  intro r
  have h:=An1 n r
  rw[Z2,List.length_append,List.length_cons,List.length_take,List.length_drop,ih]
  omega
theorem Ae6:∀n r x,x∈Z2 n r→0≤x∧x< (n:Int):=by
 intro n
 induction n with
 |zero=>intro r x h;cases h
 |succ n ih =>
  intro r x h
  rw[Z2,List.mem_append,List.mem_cons]at h
  rcases h with h|rfl|h
  ·have:=ih _ x (List.mem_of_mem_take h);omega
  ·omega
  ·have:=ih _ x (List.mem_of_mem_drop h);omega
def V6:Nat→List Int→Nat
 |0,_=>0
 |n+1,l=>V6 n (l.take (l.idxOf (n:Int))++l.drop (l.idxOf (n:Int)+1))* (n+1)+ (if V6 n (l.take (l.idxOf (n:Int))++l.drop (l.idxOf (n:Int)+1)) % 2=0 then n - l.idxOf (n:Int)else l.idxOf (n:Int))
theorem BX0 (a b:List Int)(x:Int)(h:x ∉ a):(a++x::b).idxOf x=a.length:=by
 induction a with
 |nil=>simp
 |cons y a ih =>
  have h1:¬y=x:=fun e=>h (by simp[e])
  rw[List.cons_append,List.idxOf_cons,ih (fun e=>h (by simp[e])),beq_eq_false_iff_ne.mpr h1]
  rfl
theorem BR6:∀n r,r<k4 n→V6 n (Z2 n r)=r:=by
 intro n
 induction n with
 |zero=>intro r h;rw[k4]at h;rw[V6];omega
 |succ n ih =>
  intro r h
  have hp:=An1 n r
  have hl:=AM9 n (r / (n+1))
  have hn:(n:Int) ∉ (Z2 n (r / (n+1))).take (AC8 n r):=fun e=>by
   have:=Ae6 n _ _ (List.mem_of_mem_take e);omega
  have hi:(Z2 (n+1) r).idxOf (n:Int)=AC8 n r:=by
   rw[Z2,BX0 _ _ _ hn,List.length_take,hl];omega
  have hc:(Z2 (n+1) r).take (AC8 n r)++ (Z2 (n+1) r).drop (AC8 n r+1)=Z2 n (r / (n+1)):=by
   have ht:((Z2 n (r / (n+1))).take (AC8 n r)).length=AC8 n r:=by rw[List.length_take,hl];omega
   rw[Z2,List.take_append_of_le_length (by omega),List.take_of_length_le (by omega)]
   rw[List.drop_append,List.drop_eq_nil_of_le (by omega),ht,List.nil_append]
   rw[show AC8 n r+1 - AC8 n r=1 by omega,List.drop_succ_cons,List.drop_zero,List.take_append_drop]
  have hq:r / (n+1)<k4 n:=by
   rw[k4]at h
   exact Nat.div_lt_of_lt_mul h
  have hr:=ih (r / (n+1)) hq
  rw[V6,hi,hc,hr]
  unfold AC8
  have hm:=Nat.mod_lt r (show 0<n+1 by omega)
  have hd:=Nat.div_add_mod r (n+1)
  rw[Nat.mul_comm]at hd
  split
  ·omega
  ·omega
def IsP (n:Nat)(l:List Int):Prop:=l.length=n∧l.Nodup∧∀x∈l,0≤x∧x< (n:Int)
theorem An3 (n:Nat)(l:List Int)(h:IsP (n+1) l)(hm:(n:Int)∈l):l.idxOf (n:Int)<l.length∧IsP n (l.take (l.idxOf (n:Int))++l.drop (l.idxOf (n:Int)+1)):=by
 have hi:l.idxOf (n:Int)<l.length:=List.idxOf_lt_length_of_mem hm
 refine⟨hi,?_⟩
 obtain⟨h1,h2,h3⟩:=h
 have he:l=l.take (l.idxOf (n:Int))++ (n:Int)::l.drop (l.idxOf (n:Int)+1):=by
  conv=>lhs;rw[←List.take_append_drop (l.idxOf (n:Int)) l]
  congr 1
  rw[List.drop_eq_getElem_cons hi]
  congr 1
  exact List.getElem_idxOf hi
 generalize l.take (l.idxOf (n:Int))=a at he ⊢
 generalize l.drop (l.idxOf (n:Int)+1)=b at he ⊢
 subst he
 have hnd:(n:Int) ∉ a++b:=by
  rw[List.nodup_append]at h2
  intro e
  rcases List.mem_append.mp e with e|e
  ·exact h2.2.2 _ e _ (by simp) rfl
  ·exact(List.nodup_cons.mp h2.2.1).1 e
 refine⟨by simp at h1 ⊢;omega,?_,fun x hx=>?_⟩
 ·rw[List.nodup_append]at h2 ⊢
  exact⟨h2.1,(List.nodup_cons.mp h2.2.1).2,fun x hx y hy=>h2.2.2 x hx y (by simp[hy])⟩
 ·have h4:=h3 x (by rcases List.mem_append.mp hx with hx|hx<;>simp[hx])
  have:x≠(n:Int):=fun e=>hnd (e ▸ hx)
  omega
theorem An6:∀n l,(∀m t,IsP (m+1) t→(m:Int)∈t)→IsP n l→V6 n l<k4 n:=by
 intro n
 induction n with
 |zero=>intro l _ h;rw[V6,k4];omega
 |succ n ih =>
  intro l hm h
  obtain⟨hi,hc⟩:=An3 n l h (hm n l h)
  have hq:=ih _ hm hc
  have hl:=h.1
  rw[V6,k4]
  generalize V6 n (l.take (l.idxOf (n:Int))++l.drop (l.idxOf (n:Int)+1))=q at hq ⊢
  have:q* (n+1)+ (n+1)≤(n+1)*k4 n:=by
   calc q* (n+1)+ (n+1)=(n+1)* (q+1):=by rw[Nat.mul_comm,←Nat.mul_succ]
    _≤_:=Nat.mul_le_mul_left _ hq
  split<;>omega
def a7 (l:List Int):Nat:=l.foldr (fun b a=>b.toNat*a) 1
theorem Ar0:a7 []=1:=rfl
theorem AH5 (b:Int)(l:List Int):a7 (b::l)=b.toNat*a7 l:=rfl
theorem AK3 (l:List Int)(h:∀x∈l,2≤x):1≤a7 l:=by
 induction l with
 |nil=>exact Nat.le_refl _
 |cons b l ih =>
  have h1:=ih (fun x hx=>h x (by simp[hx]))
  have h2:=h b (by simp)
  rw[AH5]
  exact Nat.mul_pos (by omega) h1
theorem Am4 (b:Int)(l:List Int)(h:2≤b):a7 l≤a7 (b::l):=by
 rw[AH5]
 exact Nat.le_mul_of_pos_left _ (by omega)
def lid (a:Nat)(l:List Int):Nat:=l.foldl (fun o b=>min (o*b.toNat) 1000001) a
theorem BY4:∀ (l:List Int) (a:Nat),(∀x∈l,2≤x)→a≤1000001→lid a l=min (a*a7 l) 1000001:=by
 intro l
 induction l with
 |nil=>intro a _ h;simp only[lid,List.foldl_nil,Ar0,Nat.mul_one];omega
 |cons b l ih =>
  intro a hx h
  have h1:=AK3 l (fun x h=>hx x (by simp[h]))
  have h2:=ih (min (a*b.toNat) 1000001) (fun x h=>hx x (by simp[h])) (by omega)
  have e:lid a (b::l)=lid (min (a*b.toNat) 1000001) l:=rfl
  rw[e,h2,AH5,←Nat.mul_assoc]
  by_cases hc:a*b.toNat≤1000001
  ·rw[Nat.min_eq_left hc]
  ·have h3:1000001*1≤1000001*a7 l:=Nat.mul_le_mul_left _ h1
   have h4:1000001*1≤a*b.toNat*a7 l:=Nat.mul_le_mul (by omega) h1
   rw[Nat.min_eq_right (show 1000001≤a*b.toNat by omega),Nat.min_eq_right (by omega),Nat.min_eq_right (by omega)]
def As2:Nat→List Int→Nat
 |a,[]=>a
 |a,b::l=>if a*b.toNat>1000000 then a*b.toNat else As2 (a*b.toNat) l
theorem Aq5:∀ (l:List Int) (a:Nat),(∀x∈l,2≤x)→a≤1000000→(As2 a l≤1000000↔a*a7 l≤1000000)∧(a*a7 l≤1000000→As2 a l=a*a7 l):=by
 intro l
 induction l with
 |nil=>intro a _ h;simp[As2,Ar0]
 |cons b l ih =>
  intro a hx h
  have h1:=AK3 l (fun x h=>hx x (by simp[h]))
  rw[As2,AH5,←Nat.mul_assoc]
  split
  ·rename_i hc
   have h4:1000001*1≤a*b.toNat*a7 l:=Nat.mul_le_mul (by omega) h1
   exact⟨⟨fun e=>by omega,fun e=>by omega⟩,fun e=>by omega⟩
  ·exact ih _ (fun x h=>hx x (by simp[h])) (by omega)
def Ah0:List Int→Nat→List Int
 |[],_=>[]
 |_::t,r=>((r / a7 t:Nat):Int)::Ah0 t (if r / a7 t % 2=1 then a7 t - 1 - r % a7 t else r % a7 t)
theorem Ad8:∀ (l:List Int) (r:Nat),(Ah0 l r).length=l.length:=by
 intro l
 induction l with
 |nil=>intro r;rfl
 |cons b l ih=>intro r;rw[Ah0,List.length_cons,ih,List.length_cons]
theorem Ah1 (b:Int)(t:List Int)(r:Nat)(hx:∀x∈b::t,2≤x)(h:r<a7 (b::t)):(if r / a7 t % 2=1 then a7 t - 1 - r % a7 t else r % a7 t)<a7 t∧r / a7 t<b.toNat:=by
 have h1:=AK3 t (fun x h=>hx x (by simp[h]))
 have h2:=Nat.mod_lt r (show 0<a7 t by omega)
 refine⟨by split<;>omega,?_⟩
 rw[AH5,Nat.mul_comm]at h
 exact Nat.div_lt_of_lt_mul h
theorem BP0:∀ (l:List Int) (r:Nat),(∀x∈l,2≤x∧x≤12)→r<a7 l→∀x∈Ah0 l r,0≤x∧x≤11:=by
 intro l
 induction l with
 |nil=>intro r _ _ x hx;cases hx
 |cons b t ih =>
  intro r hx h x hm
  obtain⟨h1,h2⟩:=Ah1 b t r (fun x h=>(hx x h).1) h
  rw[Ah0]at hm
  rcases List.mem_cons.mp hm with rfl|hm
  ·have:=hx b (by simp);exact⟨Int.natCast_nonneg _,by omega⟩
  ·exact ih _ (fun x h=>hx x (by simp[h])) h1 x hm
end Go.Proofs.YtpiogigidgejpaaGreatDoor.Pure
namespace Go.Proofs.YtpiogigidgejpaaGreatDoor.Pure
open Go.RowKit Go.Proofs.YtpiogigidgejpaaGreatDoor.PFnExactStepLine Go.Proofs.YtpiogigidgejpaaGreatDoorW.PrintWords Go.Proofs.YtpiogigidgejpaaGreatDoorW.PrintLast Go.Proofs.YtpiogigidgejpaaGreatDoor.Base
set_option maxRecDepth 10000
set_option linter.unusedVariables false
set_option linter.unusedSimpArgs false
theorem H9 (a lo hi:Int):E3.f a lo hi=some (inB a lo hi):=by
 unfold E3.f inB
 by_cases h:a≥lo
 ·rw[if_pos h];simp[h]
 ·rw[if_neg h];simp[show ¬lo≤a from h]
theorem J6 (a lo hi:Int):G3.f a lo hi=some (inB a lo hi):=by
 unfold G3.f inB
 by_cases h:a≥lo
 ·rw[if_pos h];simp[h]
 ·rw[if_neg h];simp[show ¬lo≤a from h]
theorem AS5 (lo hi:Int)(xs:List Int)(hx:xs.length≤1000000000000):∀ (d i:Nat),i+d=xs.length→
  Ev (fun k=>Q1.l0 k lo hi xs (xs.length:Int) (i:Int)) (Ag2 (xs.drop i) lo hi):=by
 intro d
 induction d with
 |zero =>
  intro i h
  rw[List.drop_eq_nil_of_le (by omega)]
  refine Ev.step (f:=fun _=>some true) (fun k=>?_) (Ev.now _)
  simp only[Q1.l0];rw[if_neg (by omega)]
 |succ d ih =>
  intro i h
  have hlt:i<xs.length:=by omega
  rw[s7 xs i hlt]
  refine Ev.step (f:=fun k=>if inB (rd xs (i:Int)) lo hi=true then Q1.l0 k lo hi xs (xs.length:Int) ((i+1:Nat):Int)else some false) (fun k=>?_) ?_
  ·simp only[Q1.l0];rw[if_pos (by omega),if_pos (by omega),if_pos (by omega),H9,E2 (by omega)];rfl
  ·by_cases hb:inB (rd xs (i:Int)) lo hi=true
   ·exact D9 hb (S7 (ih (i+1) (by omega)) (by simp[Ag2,hb]))
   ·exact G8 hb (C7 (by simp[Ag2,Bool.eq_false_iff.mpr hb]))
theorem AJ2 (lo hi:Int)(xs:List Int)(hx:xs.length≤1000000000000):Ev (fun k=>Q1.f k xs lo hi) (Ag2 xs lo hi) :=
 AS5 lo hi xs hx xs.length 0 (by omega)
theorem Ab6 (lo hi:Int)(xs:List Int)(hx:xs.length≤1000000000000):∀ (d i:Nat),i+d=xs.length→
  Ev (fun k=>U6.l0 k lo hi xs (xs.length:Int) (i:Int)) (Ag2 (xs.drop i) lo hi):=by
 intro d
 induction d with
 |zero =>
  intro i h
  rw[List.drop_eq_nil_of_le (by omega)]
  refine Ev.step (f:=fun _=>some true) (fun k=>?_) (Ev.now _)
  simp only[U6.l0];rw[if_neg (by omega)]
 |succ d ih =>
  intro i h
  have hlt:i<xs.length:=by omega
  rw[s7 xs i hlt]
  refine Ev.step (f:=fun k=>if inB (rd xs (i:Int)) lo hi=true then U6.l0 k lo hi xs (xs.length:Int) ((i+1:Nat):Int)else some false) (fun k=>?_) ?_
  ·simp only[U6.l0];rw[if_pos (by omega),if_pos (by omega),if_pos (by omega),J6,E2 (by omega)];rfl
  ·by_cases hb:inB (rd xs (i:Int)) lo hi=true
   ·exact D9 hb (S7 (ih (i+1) (by omega)) (by simp[Ag2,hb]))
   ·exact G8 hb (C7 (by simp[Ag2,Bool.eq_false_iff.mpr hb]))
theorem AJ4 (lo hi:Int)(xs:List Int)(hx:xs.length≤1000000000000):Ev (fun k=>U6.f k xs lo hi) (Ag2 xs lo hi) :=
 Ab6 lo hi xs hx xs.length 0 (by omega)
theorem AG0 (n:Nat)(hn:n≤1000000000000):Ev (fun k=>J3.f k (n:Int)) (idl n):=by
 unfold J3.f
 refine AL8 (fun(acc:List Int) i k=>J3.l0 k acc (n:Int) (i:Int)) (fun acc i=>acc++ [(i:Int)]) (fun i acc=>acc=idl i) n ?_ n 0 [] (by omega) (by simp[idl]) ?_
 ·intro acc i hi hI
  refine⟨by rw[hI,As9],fun r k=>?_⟩
  refine Ev.step (fun k=>by simp only[J3.l0];rfl) ?_
  rw[E2 (by omega)]
  exact ep (D9 (by rw[hI,AG1];omega) k)
 ·intro h
  exact Ev.step (fun k=>by simp only[J3.l0];rfl) (en (C7 h))
theorem m0 (w:List Int)(h:w.length<17592186044416):M5.f w=some w:=by
 unfold M5.f
 rw[Option.bind_some,if_pos (by simpa using h)];simp
theorem b6 (w:List Int)(h:w.length<17592186044416):Q3.f w=some w:=by
 unfold Q3.f
 rw[Option.bind_some,if_pos (by simpa using h)];simp
theorem AF4 (n:Nat)(hn:n≤1000000000000):Ev (fun k=>K9.f k (n:Int)) (idl n):=by
 unfold K9.f
 refine AL8 (fun(acc:List Int) i k=>K9.l0 k (n:Int) acc (i:Int)) (fun acc i=>acc++ [(i:Int)]) (fun i acc=>acc=idl i) n ?_ n 0 [] (by omega) (by simp[idl]) ?_
 ·intro acc i hi hI
  refine⟨by rw[hI,As9],fun r k=>?_⟩
  refine Ev.step (fun k=>by simp only[K9.l0];rfl) ?_
  rw[E2 (by omega)]
  exact ep (D9 (by rw[hI,AG1];omega) k)
 ·intro h
  exact Ev.step (fun k=>by simp only[K9.l0];rfl) (en (C7 h))
def okL (l:List Int):Bool:=l.all fun x=>decide (0≤x)&&decide (x≤999999)
theorem Ad0 {l:List Int} (h:okL l=true):∀x∈l,0≤x∧x≤999999:=fun x hx=>by
 have:=List.all_eq_true.mp h x hx
 rw[Bool.and_eq_true,decide_eq_true_eq,decide_eq_true_eq]at this
 exact this
theorem Av5 (L:List (List Int))(i:Nat):k9 L (i:Int)=L.getD i []:=by unfold k9;rw[Int.toNat_natCast]
theorem L9 {α:Type} (l:List α)(i:Nat)(d:α)(h:i<l.length):l.drop i=l.getD i d::l.drop (i+1):=by
 rw[List.getD_eq_getElem?_getD,List.getElem?_eq_getElem h];exact List.drop_eq_getElem_cons h
def x2 (l:List Int):Prop:=l.length≤1100∧∀x∈l,0≤x∧x≤999999
theorem AA4:x2 []:=⟨by simp,by simp⟩
theorem AU6 (n:Nat)(hn:n≤12)(k:Nat)(hk:k≤n):∀ (d i:Nat),i+d=k→Ev (fun g=>I9.l0 g (n:Int) ((bin n i:Nat):Int) (k:Int) (i:Int)) ((bin n k:Nat):Int):=by
 intro d
 induction d with
 |zero =>
  intro i h
  obtain rfl:i=k:=by omega
  refine Ev.step (fun k=>by simp only[I9.l0];rfl) ?_
  exact en (Ev.now _)
 |succ d ih =>
  intro i h
  have h1:=BO5 n hn i (by omega)
  have h2:=AE5 n hn i (by omega)
  have h4:=AE5 n hn (i+1) (by omega)
  have h3:bin n i* (n - i)≤924*12:=Nat.mul_le_mul h2 (by omega)
  refine Ev.step (fun k=>by simp only[I9.l0];rfl) ?_
  rw[E2 (by omega)]
  refine ep (en ?_)
  have e1:wrap64 ((n:Int) - (i:Int))=((n - i:Nat):Int):=by rw[E4 (by omega)];omega
  have e2:wrap64 (((bin n i:Nat):Int)* ((n - i:Nat):Int))=((bin n i* (n - i):Nat):Int):=by rw[←Int.natCast_mul,E4 (by omega)]
  have e3:Int.tdiv ((bin n i* (n - i):Nat):Int) ((i+1:Nat):Int)=((bin n i* (n - i) / (i+1):Nat):Int):=(Int.ofNat_tdiv _ _).symm
  rw[e1,e2,e3,h1,E4 (by omega)]
  exact ih (i+1) (by omega)
theorem x3 (n k:Nat)(hn:n≤12)(hk:k≤12):Ev (fun g=>I9.f g (n:Int) (k:Int)) ((bin n k:Nat):Int):=by
 unfold I9.f
 refine en ?_
 refine Ev.step (fun k=>by simp only[I9.j0];rfl) ?_
 by_cases h:k>n
 ·exact D9 (decide_eq_true (by omega)) (C7 (by rw[Ao0 n k h];rfl))
 ·refine G8 (by simp;omega) ?_
  have:=AU6 n hn k (by omega) k 0 (by omega)
  rw[AP8]at this
  exact this
theorem AP3 (n k r:Nat):Ev (fun g=>m3.f g (n:Int) (k:Int) (r:Int)) (decide (n≤12∧k≤n∧r<bin n k)):=by
 unfold m3.f
 refine D8 (H9 _ _ _) (X2 (fun h=>?_) (fun h=>C7 ?_))
 ·have h:=I3.mp h
  refine D8 (H9 _ _ _) (X2 (fun h2=>?_) (fun h2=>C7 ?_))
  ·have h2:=I3.mp h2
   have hb:=AE5 n (by omega) k (by omega)
   refine C6 (x3 n k (by omega) (by omega)) (D8 (H9 _ _ _) (C7 ?_))
   rw[E4 (by omega),Bool.eq_iff_iff,I3,decide_eq_true_eq]
   omega
  ·rw[eq_comm,decide_eq_false_iff_not]
   intro e;exact h2 (I3.mpr (by omega))
 ·rw[eq_comm,decide_eq_false_iff_not]
  intro e;exact h (I3.mpr (by omega))
theorem AK9 (n k:Nat)(hn:n≤12)(hk:k≤12):∀ (d f j r:Nat) (out:List Int),f+d=n→out.length+j=k→r<bin d j→
  Ev (fun g=>M1.l0 g (n:Int) (k:Int) (r:Int) out (f:Int)) (out++ (AC2 d j f).getD r []):=by
 intro d
 induction d with
 |zero =>
  intro f j r out h1 h2 h3
  cases j with
  |zero =>
   rw[AP8]at h3
   obtain rfl:r=0:=by omega
   refine Ev.step (fun k=>by simp only[M1.l0];rfl) ?_
   refine en (C7 ?_)
   rw[Aa3];simp
  |succ j=>rw[bin]at h3;omega
 |succ d ih =>
  intro f j r out h1 h2 h3
  refine Ev.step (fun k=>by simp only[M1.l0];rfl) ?_
  cases j with
  |zero =>
   rw[AP8]at h3
   obtain rfl:r=0:=by omega
   refine en (C7 ?_)
   rw[Aa3];simp
  |succ j =>
   have hb:=AE5 d (by omega) j (by omega)
   have hb2:=AE5 (d+1) (by omega) (j+1) (by omega)
   have hb3:=AE5 d (by omega) (j+1) (by omega)
   have e1:wrap64 ((wrap64 ((n:Int) - (f:Int))) - 1)=(d:Int):=by rw[E4 (x:=(n:Int) - f) (by omega),E4 (by omega)];omega
   have e2:wrap64 ((wrap64 ((k:Int) - (out.length:Int))) - 1)=(j:Int):=by rw[E4 (x:=(k:Int) - out.length) (by omega),E4 (by omega)];omega
   rw[e1,e2,E2 (by omega),BO6 d j f r h3]
   rw[bin]at h3
   refine ep (C6 (x3 d j (by omega) (by omega)) ?_)
   by_cases hr:r<bin d j
   ·rw[if_pos hr]
    refine ep (ep (S7 (ih (f+1) j r (out++ [(f:Int)]) (by omega) (by simp;omega) hr) (by simp)))
   ·rw[if_neg hr,E4 (by omega),show(r:Int) - ((bin d j:Nat):Int)=((r - bin d j:Nat):Int)by omega]
    exact en (ih (f+1) (j+1) (r - bin d j) out (by omega) (by omega) (by omega))
theorem AF7 (n k r:Nat)(hn:n≤12)(hk:k≤12)(hr:r<bin n k):Ev (fun g=>M1.f g (n:Int) (k:Int) (r:Int)) ((AC2 n k 0).getD r []) :=
 AK9 n k hn hk n 0 k r [] (by omega) (by simp) hr
theorem x9 (a:Int):U3.f a=some (inB a 0 12):=by
 unfold U3.f;rw[J6];rfl
theorem AT2:∀ (k:Nat),k≤12→∀ (n f:Nat),n≤12→f≤n→Ev (fun g=>O9.f g (n:Int) (k:Int) (f:Int)) (AC2 (n - f) k f):=by
 intro k
 induction k with
 |zero =>
  intro _ n f _ _
  refine Ev.step (fun k=>by simp only[O9.f];rfl) ?_
  exact D9 rfl (C7 (Aa3 _ _).symm)
 |succ k ihk =>
  intro hk n f hn hf
  have inner:∀ (f:Nat) (t:List (List Int)),(∀l∈t,l.length≤12)→∀ (e i:Nat) (acc:List (List Int)),i+e=t.length→t.length≤5000→acc.length+e≤5000→∀r,Ev (fun g=>O9.l0 g (n:Int) ((k+1:Nat):Int) (acc++ (t.drop i).map ((f:Int)::·)) (wrap64 ((f:Int)+1))) r→
    Ev (fun g=>O9.l1 g (n:Int) ((k+1:Nat):Int) acc (f:Int) t (t.length:Int) (i:Int)) r:=by
   intro f t ht e
   induction e with
   |zero =>
    intro i acc h1 h0 h2 r hr
    rw[List.drop_eq_nil_of_le (by omega),List.map_nil,List.append_nil]at hr
    refine Ev.step (fun k=>by simp only[O9.l1];rfl) ?_
    exact en hr
   |succ e ih =>
    intro i acc h1 h0 h2 r hr
    have hi:i<t.length:=by omega
    refine Ev.step (fun k=>by simp only[O9.l1];rfl) ?_
    refine ep (ep (ep ?_))
    have hm:=ht _ (e7 t i [] hi)
    rw[Av5,E2 (by omega)]
    refine D8 rfl (D9 (by rw[List.length_singleton];omega) (ep (ih (i+1) _ (by omega) h0 (by simp;omega) r ?_)))
    rw[L9 t i [] hi]at hr
    simpa using hr
  have outer:∀ (d f:Nat) (acc:List (List Int)),f+d=n→acc.length+bin d (k+1)≤5000→Ev (fun g=>O9.l0 g (n:Int) ((k+1:Nat):Int) acc (f:Int)) (acc++AC2 d (k+1) f):=by
   intro d
   induction d with
   |zero =>
    intro f acc h1 h2
    refine Ev.step (fun k=>by simp only[O9.l0];rfl) ?_
    exact en (C7 (by simp[AC2]))
   |succ d ih =>
    intro f acc h1 h2
    rw[bin]at h2
    refine Ev.step (fun k=>by simp only[O9.l0];rfl) ?_
    refine ep ?_
    have hc:=ihk (by omega) n (f+1) hn (by omega)
    rw[show n - (f+1)=d by omega]at hc
    rw[E2 (by omega),S9 (by omega)]
    refine C6 hc (inner f _ (fun l hl=>by have:=(AV2 _ _ _ l hl).1;omega) _ 0 acc (Nat.zero_add _) (by rw[AD9];omega) (by rw[AD9];omega) _ ?_)
    rw[E2 (by omega),List.drop_zero]
    refine S7 (ih (f+1) _ (by omega) (by rw[List.length_append,List.length_map,AD9];omega)) ?_
    rw[AC2,List.append_assoc]
  refine Ev.step (fun k=>by simp only[O9.f];rfl) ?_
  refine en ?_
  have hb:=AE5 (n - f) (by omega) (k+1) hk
  exact S7 (outer (n - f) f [] (by omega) (by simp;omega)) (by simp)
theorem AW5 (L:List (List Int))(r:Nat)(hL:L.length≤5000)(hm:∀l∈L,l.length≤5000):AD5.f L (r:Int)=some (if r<L.length then(L.getD r [],true)else([],false)):=by
 unfold AD5.f
 rw[J6,Option.bind_some,E4 (by omega)]
 by_cases h:r<L.length
 ·have:=hm _ (e7 L r [] h)
  rw[if_pos (I3.mpr (by omega)),if_pos (by omega),if_pos (by omega),Av5,b6 _ (by omega),if_pos h];rfl
 ·rw[if_neg (fun e=>h (by have:=I3.mp e;omega)),if_neg h]
theorem BH7 (n k r:Nat)(hk:k≤999999)(hn:n≤999999)(hr:r≤999999):∃l b,x2 l∧Ev (fun g=>X4.f g (n:Int) (k:Int) (r:Int)) (l,b)∧Ev (fun g=>O3.f g (n:Int) (k:Int) (r:Int)) (l,b):=by
 have himp:Ev (fun g=>X4.f g (n:Int) (k:Int) (r:Int)) (if n≤12∧k≤n∧r<bin n k then((AC2 n k 0).getD r [],true)else([],false)):=by
  unfold X4.f
  refine C6 (AP3 n k r) ?_
  by_cases h:n≤12∧k≤n∧r<bin n k
  ·rw[if_pos h]
   exact D9 (decide_eq_true h) (C6 (AF7 n k r h.1 (by omega) h.2.2) (C7 rfl))
  ·rw[if_neg h]
   exact G8 (by simpa using h) (C7 rfl)
 have hspec:Ev (fun g=>O3.f g (n:Int) (k:Int) (r:Int)) (if n≤12∧k≤n∧r<bin n k then((AC2 n k 0).getD r [],true)else([],false)):=by
  unfold O3.f
  refine D8 (x9 _) (X2 (fun h1=>?_) (fun h1=>?_))
  ·have h1:=I3.mp h1
   refine D8 (x9 _) ?_
   refine Ev.step (fun k=>by simp only[O3.j0];rfl) ?_
   by_cases h2:k≤12
   ·refine G8 (by simp[inB];omega) ?_
    have hb:=AE5 n (by omega) k h2
    have he:=AW5 (AC2 n k 0) r (by rw[AD9];omega) (fun l hl=>by have:=(AV2 _ _ _ l hl).1;omega)
    rw[AD9]at he
    refine C6 (AT2 k h2 n 0 (by omega) (by omega)) ?_
    rw[Nat.sub_zero]
    refine D8 he (C7 ?_)
    by_cases h3:r<bin n k
    ·have h4:k≤n:=by
      by_cases h5:k≤n
      ·exact h5
      ·rw[Ao0 n k (by omega)]at h3;omega
     rw[if_pos h3,if_pos ⟨by omega,h4,h3⟩]
    ·rw[if_neg h3,if_neg (fun e=>h3 e.2.2)]
   ·refine D9 (by simp[inB];omega) (C7 ?_)
    rw[if_neg (by omega)]
  ·refine Ev.step (fun k=>by simp only[O3.j0];rfl) ?_
   refine D9 trivial (C7 ?_)
   rw[if_neg (fun e=>h1 (I3.mpr (by omega)))]
 by_cases h:n≤12∧k≤n∧r<bin n k
 ·rw[if_pos h]at himp hspec
  refine⟨_,_,?_,himp,hspec⟩
  have hm:=AV2 n k 0 _ (e7 (AC2 n k 0) r [] (by rw[AD9];exact h.2.2))
  exact⟨by omega,fun x hx=>by have:=hm.2 x hx;omega⟩
 ·rw[if_neg h]at himp hspec
  exact⟨_,_,AA4,himp,hspec⟩
theorem AS1:∀ (n k r:Nat),n≤12→k≤n→r<bin n k→Ev (fun g=>U5.f g (n:Int) (k:Int) (r:Int)) ((AE1 n k).getD r []):=by
 intro n
 induction n with
 |zero =>
  intro k r hn hk hr
  obtain rfl:k=0:=by omega
  rw[AP8]at hr
  obtain rfl:r=0:=by omega
  refine Ev.step (fun k=>by simp only[U5.f];rfl) ?_
  exact D9 rfl (C7 rfl)
 |succ n ih =>
  intro k r hn hk hr
  refine Ev.step (fun k=>by simp only[U5.f];rfl) ?_
  cases k with
  |zero =>
   rw[AP8]at hr
   obtain rfl:r=0:=by omega
   exact D9 rfl (C7 rfl)
  |succ k =>
   refine en ?_
   by_cases hkn:k=n
   ·subst hkn
    rw[As6]at hr
    obtain rfl:r=0:=by omega
    refine D9 rfl (C6 (AG0 (k+1) (by omega)) (C7 ?_))
    rw[An0];rfl
   ·refine en ?_
    have hb:=AE5 (n+1) (by omega) (k+1) (by omega)
    rw[S9 (by omega)]
    refine C6 (x3 n (k+1) (by omega) (by omega)) ?_
    rw[BO9 n k r (by omega) hr]
    by_cases h:r<bin n (k+1)
    ·rw[if_pos h]
     exact ep (C6 (ih (k+1) r (by omega) (by omega) h) (C7 rfl))
    ·rw[if_neg h]
     refine en (C6 (x3 (n+1) (k+1) (by omega) (by omega)) ?_)
     have e:wrap64 ((wrap64 (((bin (n+1) (k+1):Nat):Int) - 1)) - (r:Int))=((bin (n+1) (k+1) - 1 - r:Nat):Int):=by rw[E4 (x:=((bin (n+1) (k+1):Nat):Int) - 1) (by omega),E4 (by omega)];omega
     rw[e,S9 (by omega)]
     have hlt:bin (n+1) (k+1) - 1 - r<bin n k:=by rw[bin]at hr ⊢;omega
     have hm:=AW6 n k _ (e7 (AE1 n k) _ [] (by rw[AG6 n k (by omega)];exact hlt))
     exact C6 (ih k _ (by omega) (by omega) hlt) (ep (C7 rfl))
theorem AS3:∀ (n k:Nat),n≤12→k≤n→Ev (fun g=>I2.f g (n:Int) (k:Int)) (AE1 n k):=by
 intro n
 induction n with
 |zero =>
  intro k hn hk
  obtain rfl:k=0:=by omega
  refine Ev.step (fun k=>by simp only[I2.f];rfl) ?_
  refine D9 rfl ?_
  refine Ev.step (fun k=>by simp only[I2.j0];rfl) ?_
  exact D9 trivial (C6 (AF4 0 (by omega)) (C7 rfl))
 |succ n ih =>
  intro k hn hk
  refine Ev.step (fun k=>by simp only[I2.f];rfl) ?_
  cases k with
  |zero =>
   refine D9 rfl ?_
   refine Ev.step (fun k=>by simp only[I2.j0];rfl) ?_
   exact D9 trivial (C6 (AF4 0 (by omega)) (C7 rfl))
  |succ k =>
   refine en ?_
   refine Ev.step (fun k=>by simp only[I2.j0];rfl) ?_
   by_cases hkn:k=n
   ·subst hkn
    refine D9 (by simp) (C6 (AF4 (k+1) (by omega)) (C7 ?_))
    rw[An0];rfl
   ·refine G8 (by simp;omega) ?_
    rw[S9 (by omega),S9 (by omega)]
    refine C6 (ih (k+1) (by omega) (by omega)) (C6 (ih k (by omega) (by omega)) ?_)
    have hl:=AG6 n k (by omega)
    have hl2:=AG6 n (k+1) (by omega)
    have hb:=AE5 n (by omega) k (by omega)
    have hb2:=AE5 n (by omega) (k+1) (by omega)
    have hm:=AW6 n k
    have hp:=BU0 n k (by omega)
    have loop:∀ (m:Nat) (acc:List (List Int)),m≤(AE1 n k).length→acc.length+m≤5000→Ev (fun g=>I2.l0 g ((n+1:Nat):Int) acc (AE1 n k) (wrap64 ((m:Int) - 1))) (acc++ ((AE1 n k).take m).reverse.map (·++ [(n:Int)])):=by
     intro m
     induction m with
     |zero =>
      intro acc _ _
      refine Ev.step (fun k=>by simp only[I2.l0];rfl) ?_
      exact G8 (by unfold wrap64;omega) (C7 (by simp))
     |succ m ihm =>
      intro acc h1 h2
      refine Ev.step (fun k=>by simp only[I2.l0];rfl) ?_
      rw[S9 (by omega),S9 (by omega)]
      refine ep (ep (ep ?_))
      have hg:=hm _ (e7 (AE1 n k) m [] (by omega))
      rw[Av5]
      refine D8 (b6 _ (by omega)) (ep (ep ?_))
      refine S7 (ihm _ (by omega) (by simp;omega)) ?_
      have e:(AE1 n k).take (m+1)=(AE1 n k).take m++ [(AE1 n k).getD m []]:=by
       rw[List.take_succ_eq_append_getElem (by omega),List.getD_eq_getElem?_getD,List.getElem?_eq_getElem (by omega)];rfl
      rw[e];simp
    have:=loop (AE1 n k).length (AE1 n (k+1)) (Nat.le_refl _) (by omega)
    refine S7 this ?_
    rw[List.take_of_length_le (Nat.le_refl _)]
    conv=>rhs;rw[AE1,if_neg hkn]
theorem BO4 (n k r:Nat)(hk:k≤999999)(hn:n≤999999)(hr:r≤999999):∃l b,x2 l∧Ev (fun g=>Z6.f g (n:Int) (k:Int) (r:Int)) (l,b)∧Ev (fun g=>Z7.f g (n:Int) (k:Int) (r:Int)) (l,b):=by
 have himp:Ev (fun g=>Z6.f g (n:Int) (k:Int) (r:Int)) (if n≤12∧k≤n∧r<bin n k then((AE1 n k).getD r [],true)else([],false)):=by
  unfold Z6.f
  refine C6 (AP3 n k r) ?_
  by_cases h:n≤12∧k≤n∧r<bin n k
  ·rw[if_pos h]
   exact D9 (decide_eq_true h) (C6 (AS1 n k r h.1 h.2.1 h.2.2) (C7 rfl))
  ·rw[if_neg h]
   exact G8 (by simpa using h) (C7 rfl)
 have hspec:Ev (fun g=>Z7.f g (n:Int) (k:Int) (r:Int)) (if n≤12∧k≤n∧r<bin n k then((AE1 n k).getD r [],true)else([],false)):=by
  unfold Z7.f
  have hs:Z8.f (n:Int) (k:Int)=some (decide (n≤12∧k≤n)):=by
   unfold Z8.f
   rw[x9,Option.bind_some]
   by_cases h1:n≤12
   ·rw[if_pos (I3.mpr (by omega)),J6,Option.bind_some]
    congr 1
    rw[Bool.eq_iff_iff,I3,decide_eq_true_eq];omega
   ·rw[if_neg (fun e=>h1 (by have:=I3.mp e;omega))]
    congr 1
    rw[eq_comm,decide_eq_false_iff_not];omega
  refine D8 hs ?_
  by_cases h:n≤12∧k≤n
  ·refine D9 (decide_eq_true h) ?_
   have hb:=AE5 n (by omega) k (by omega)
   have he:=AW5 (AE1 n k) r (by rw[AG6 n k h.2];omega) (fun l hl=>by have:=(AW6 _ _ l hl).1;omega)
   rw[AG6 n k h.2]at he
   refine C6 (AS3 n k h.1 h.2) (D8 he (C7 ?_))
   by_cases h3:r<bin n k
   ·rw[if_pos h3,if_pos ⟨h.1,h.2,h3⟩]
   ·rw[if_neg h3,if_neg (fun e=>h3 e.2.2)]
  ·rw[if_neg (fun e=>h ⟨e.1,e.2.1⟩)]
   exact G8 (by simpa using h) (C7 rfl)
 by_cases h:n≤12∧k≤n∧r<bin n k
 ·rw[if_pos h]at himp hspec
  refine⟨_,_,?_,himp,hspec⟩
  have hm:=AW6 n k _ (e7 (AE1 n k) r [] (by rw[AG6 n k h.2.1];exact h.2.2))
  exact⟨by omega,fun x hx=>by have:=hm.2 x hx;omega⟩
 ·rw[if_neg h]at himp hspec
  exact⟨_,_,AA4,himp,hspec⟩
theorem Ap0 (l:List Int)(hl:l.length≤100)(hx:∀x∈l,0≤x∧x≤12):Ev (fun q=>x5.f q l) l.sum:=by
 unfold x5.f
 have:∀ (d i:Nat) (s:Int),i+d=l.length→0≤s∧s≤12*i→Ev (fun q=>x5.l0 q s l (l.length:Int) (i:Int)) (s+ (l.drop i).sum):=by
  intro d
  induction d with
  |zero =>
   intro i s h hs
   rw[List.drop_eq_nil_of_le (by omega)]
   refine Ev.step (fun k=>by simp only[x5.l0];rfl) ?_
   exact en (C7 (by simp))
  |succ d ih =>
   intro i s h hs
   have hi:i<l.length:=by omega
   have hm:=hx _ (e7 l i 0 hi)
   refine Ev.step (fun k=>by simp only[x5.l0];rfl) ?_
   refine ep (ep (ep ?_))
   rw[U0,E2 (by omega),E4 (by omega)]
   refine S7 (ih (i+1) _ (by omega) (by omega)) ?_
   rw[L9 l i 0 hi,List.sum_cons];omega
 have h:=this l.length 0 0 (by omega) (by omega)
 simpa using h
def par (l:List Int):Nat:=(l.sum % 2).toNat
def AX9 (L:List (List Int)):Nat:=(L.map par).sum
def AT3 (L:List (List Int)):Nat:=(L.map fun l=>1 - par l).sum
theorem Aw5 (l:List Int):par l≤1:=by unfold par;omega
theorem Ay8 (L:List (List Int)):AT3 L+AX9 L=L.length:=by
 induction L with
 |nil=>rfl
 |cons l L ih =>
  have:=Aw5 l
  simp only[AX9,AT3,List.map_cons,List.sum_cons,List.length_cons]at ih ⊢
  omega
theorem Am5 (l:List Int)(L:List (List Int)):AX9 (l::L)=par l+AX9 L:=by simp[AX9]
theorem Aw1 (l:List Int)(L:List (List Int)):AT3 (l::L)=(1 - par l)+AT3 L:=by simp[AT3]
theorem AK5 (n k:Nat)(hn:n≤12)(hk:k≤12):Ev (fun g=>L6.f g (n:Int) (k:Int)) (AC2 n k 0):=by
 unfold L6.f
 have hb:=AE5 n hn k hk
 have hl:=AD9 n k 0
 refine C6 (x3 n k hn hk) ?_
 have:∀ (d i:Nat) (acc:List (List Int)),i+d=bin n k→acc.length=i→Ev (fun g=>L6.l0 g (n:Int) (k:Int) acc ((bin n k:Nat):Int) (i:Int)) (acc++ (AC2 n k 0).drop i):=by
  intro d
  induction d with
  |zero =>
   intro i acc h ha
   rw[List.drop_eq_nil_of_le (by omega)]
   refine Ev.step (fun k=>by simp only[L6.l0];rfl) ?_
   exact en (C7 (by simp))
  |succ d ih =>
   intro i acc h ha
   refine Ev.step (fun k=>by simp only[L6.l0];rfl) ?_
   refine ep ?_
   refine C6 (AF7 n k i hn hk (by omega)) (ep ?_)
   rw[E2 (by omega)]
   refine S7 (ih (i+1) _ (by omega) (by simp[ha])) ?_
   rw[L9 (AC2 n k 0) i [] (by omega)];simp
 have h:=this (bin n k) 0 [] (by omega) rfl
 simpa using h
theorem BU9 (s:Int)(h:0≤s):Int.tmod s 2=(s % 2:Int):=by
 obtain⟨n,rfl⟩:=Int.eq_ofNat_of_zero_le h
 exact Y8 n 2
theorem Af0 (l:List Int)(hx:∀x∈l,0≤x∧x≤12):0≤l.sum∧l.sum≤12*l.length:=by
 induction l with
 |nil=>simp
 |cons a l ih =>
  have h1:=ih (fun x h=>hx x (by simp[h]))
  have h2:=hx a (by simp)
  rw[List.sum_cons,List.length_cons];omega
theorem AX6 (n k:Nat)(hn:n≤12)(hk:k≤12)(L:List (List Int))(hL:L.length≤1000)(hm:∀l∈L,l.length≤12∧∀x∈l,0≤x∧x≤12):∀ (d i o:Nat),i+d=L.length→o≤i→
  Ev (fun g=>L1.l0 g (n:Int) (k:Int) (o:Int) L (L.length:Int) (i:Int)) (((bin n k:Nat):Int) - ((o+AX9 (L.drop i):Nat):Int),((o+AX9 (L.drop i):Nat):Int),true):=by
 intro d
 have hb:=AE5 n hn k hk
 induction d with
 |zero =>
  intro i o h ho
  rw[List.drop_eq_nil_of_le (by omega)]
  refine Ev.step (fun k=>by simp only[L1.l0];rfl) ?_
  refine en (C6 (x3 n k hn hk) (C7 ?_))
  rw[E4 (by omega)];simp[AX9]
 |succ d ih =>
  intro i o h ho
  have hi:i<L.length:=by omega
  have hl:=hm _ (e7 L i [] hi)
  have hs:=Af0 _ hl.2
  refine Ev.step (fun k=>by simp only[L1.l0];rfl) ?_
  refine ep (ep (ep ?_))
  rw[Av5]
  refine C6 (Ap0 _ (by omega) hl.2) ?_
  have hp:=Aw5 (L.getD i [])
  have e:wrap64 ((o:Int)+Int.tmod (L.getD i []).sum 2)=((o+par (L.getD i []):Nat):Int):=by
   rw[BU9 _ hs.1,E4 (by omega)];unfold par;omega
  rw[e,E2 (by omega)]
  refine S7 (ih (i+1) _ (by omega) (by omega)) ?_
  rw[L9 L i [] hi,Am5,Nat.add_assoc]
theorem AY8 (L:List (List Int))(hL:L.length≤1000)(hm:∀l∈L,l.length≤12∧∀x∈l,0≤x∧x≤12):∀ (d i e o:Nat),i+d=L.length→e≤i→o≤i→
  Ev (fun g=>N9.l0 g (e:Int) (o:Int) L (L.length:Int) (i:Int)) (((e+AT3 (L.drop i):Nat):Int),((o+AX9 (L.drop i):Nat):Int)):=by
 intro d
 induction d with
 |zero =>
  intro i e o h he ho
  rw[List.drop_eq_nil_of_le (by omega)]
  refine Ev.step (fun k=>by simp only[N9.l0];rfl) ?_
  exact en (C7 (by simp[AX9,AT3]))
 |succ d ih =>
  intro i e o h he ho
  have hi:i<L.length:=by omega
  have hl:=hm _ (e7 L i [] hi)
  have hs:=Af0 _ hl.2
  refine Ev.step (fun k=>by simp only[N9.l0];rfl) ?_
  refine ep (ep (ep ?_))
  rw[Av5]
  have hp:=Aw5 (L.getD i [])
  rw[L9 L i [] hi,Am5,Aw1]
  generalize L.getD i []=l at hl hs hp ⊢
  have inner:∀ (c j:Nat) (s:Int),j+c=l.length→0≤s∧s≤12*j→s+ (l.drop j).sum=l.sum→
    Ev (fun g=>N9.l1 g (e:Int) (o:Int) s L (L.length:Int) (i:Int) l (l.length:Int) (j:Int)) (((e+ (1 - par l+AT3 (L.drop (i+1))):Nat):Int),((o+ (par l+AX9 (L.drop (i+1))):Nat):Int)):=by
   intro c
   induction c with
   |zero =>
    intro j s hj hs1 hs2
    rw[List.drop_eq_nil_of_le (by omega),List.sum_nil,Int.add_zero]at hs2
    subst hs2
    refine Ev.step (fun k=>by simp only[N9.l1];rfl) ?_
    refine en ?_
    rw[BU9 _ hs.1,E2 (by omega),E2 (by omega),E2 (by omega)]
    refine X2 (fun hc=>?_) (fun hc=>?_)
    ·have h0:par l=0:=by unfold par;omega
     exact S7 (ih (i+1) (e+1) o (by omega) (by omega) (by omega)) (by rw[h0];exact Prod.ext (by simp only;omega) (by simp only;omega))
    ·have h0:par l=1:=by unfold par;omega
     exact S7 (ih (i+1) e (o+1) (by omega) (by omega) (by omega)) (by rw[h0];exact Prod.ext (by simp only;omega) (by simp only;omega))
   |succ c ihc =>
    intro j s hj hs1 hs2
    have hjl:j<l.length:=by omega
    have hx:=hl.2 _ (e7 l j 0 hjl)
    refine Ev.step (fun k=>by simp only[N9.l1];rfl) ?_
    refine ep (ep (ep ?_))
    rw[U0,E2 (by omega),E4 (by omega)]
    refine ihc (j+1) _ (by omega) (by omega) ?_
    rw[L9 l j 0 hjl,List.sum_cons]at hs2
    omega
  exact inner l.length 0 0 (by omega) (by omega) (by simp)
theorem As1 (n k:Nat)(hn:n≤999999)(hk:k≤999999):∃e o:Nat,∃b,e≤1000∧o≤1000∧Ev (fun g=>L1.f g (n:Int) (k:Int)) ((e:Int),(o:Int),b)∧Ev (fun g=>W8.f g (n:Int) (k:Int)) ((e:Int),(o:Int),b):=by
 have hi:x1.f (n:Int) (k:Int)=some (decide (n≤12∧k≤n)):=by
  unfold x1.f
  rw[H9,Option.bind_some]
  by_cases h1:n≤12
  ·rw[if_pos (I3.mpr (by omega)),H9,Option.bind_some]
   congr 1
   rw[Bool.eq_iff_iff,I3,decide_eq_true_eq];omega
  ·rw[if_neg (fun e=>h1 (by have:=I3.mp e;omega))]
   congr 1
   rw[eq_comm,decide_eq_false_iff_not];omega
 have hs:Z8.f (n:Int) (k:Int)=some (decide (n≤12∧k≤n)):=by
  unfold Z8.f
  rw[x9,Option.bind_some]
  by_cases h1:n≤12
  ·rw[if_pos (I3.mpr (by omega)),J6,Option.bind_some]
   congr 1
   rw[Bool.eq_iff_iff,I3,decide_eq_true_eq];omega
  ·rw[if_neg (fun e=>h1 (by have:=I3.mp e;omega))]
   congr 1
   rw[eq_comm,decide_eq_false_iff_not];omega
 by_cases h:n≤12∧k≤n
 ·have hb:=AE5 n h.1 k (by omega)
  have hl:=AD9 n k 0
  have hm:∀l∈AC2 n k 0,l.length≤12∧∀x∈l,0≤x∧x≤12:=fun l hl=>by
   have:=AV2 n k 0 l hl
   exact⟨by omega,fun x hx=>by have:=this.2 x hx;omega⟩
  have hoe:=Ay8 (AC2 n k 0)
  refine⟨AT3 (AC2 n k 0),AX9 (AC2 n k 0),true,by omega,by omega,?_,?_⟩
  ·unfold L1.f
   refine D8 hi (D9 (decide_eq_true h) (C6 (AK5 n k h.1 (by omega)) ?_))
   refine S7 (AX6 n k h.1 (by omega) (AC2 n k 0) (by omega) hm (AC2 n k 0).length 0 0 (by omega) (by omega)) ?_
   rw[List.drop_zero,Nat.zero_add]
   congr 1
   omega
  ·unfold W8.f
   refine D8 hs (D9 (decide_eq_true h) ?_)
   refine C6 (a:=(((AT3 (AC2 n k 0):Nat):Int),((AX9 (AC2 n k 0):Nat):Int))) ?_ (C7 rfl)
   unfold N9.f
   refine C6 (AT2 k (by omega) n 0 h.1 (by omega)) ?_
   rw[Nat.sub_zero]
   refine S7 (AY8 (AC2 n k 0) (by omega) hm (AC2 n k 0).length 0 0 0 (by omega) (by omega) (by omega)) ?_
   rw[List.drop_zero,Nat.zero_add,Nat.zero_add]
 ·refine⟨0,0,false,by omega,by omega,?_,?_⟩
  ·unfold L1.f
   exact D8 hi (G8 (by simpa using h) (C7 rfl))
  ·unfold W8.f
   exact D8 hs (G8 (by simpa using h) (C7 rfl))
end Go.Proofs.YtpiogigidgejpaaGreatDoor.Pure
