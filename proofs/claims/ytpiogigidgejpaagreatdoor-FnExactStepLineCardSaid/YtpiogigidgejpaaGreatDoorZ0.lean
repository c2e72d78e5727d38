import Derived.Test.YtpiogigidgejpaaGreatDoorY0
import Derived.Test.YtpiogigidgejpaaGreatDoorY1
abbrev Go.Proofs.YtpiogigidgejpaaGreatDoor.PrintWords.sized_ints:=@Go.Proofs.YtpiogigidgejpaaGreatDoorW.PrintWords.sized_ints
namespace Go.Proofs.YtpiogigidgejpaaGreatDoor.Base
open Go.RowKit Go.Proofs.YtpiogigidgejpaaGreatDoorW.PrintWords
theorem D9 {α:Type} {c:Prop} [Decidable c] {A B:Nat→Option α} {r:α} (h:c)(k:Ev A r):Ev (fun n=>if c then A n else B n) r :=
 Ev.congr (fun _=>if_pos h) k
theorem G8 {α:Type} {c:Prop} [Decidable c] {A B:Nat→Option α} {r:α} (h:¬c)(k:Ev B r):Ev (fun n=>if c then A n else B n) r :=
 Ev.congr (fun _=>if_neg h) k
theorem ep {α:Type} {c:Prop} [Decidable c] {A B:Nat→Option α} {r:α} (k:Ev A r)(h:c:=by omega):Ev (fun n=>if c then A n else B n) r:=D9 h k
theorem en {α:Type} {c:Prop} [Decidable c] {A B:Nat→Option α} {r:α} (k:Ev B r)(h:¬c:=by omega):Ev (fun n=>if c then A n else B n) r:=G8 h k
theorem C7 {α:Type} {a r:α} (h:a=r):Ev (fun _=>some a) r:=by subst h;exact Ev.now _
theorem S7 {α:Type} {g:Nat→Option α} {a r:α} (k:Ev g a)(h:a=r):Ev g r:=h ▸ k
theorem C6 {α β:Type} {g:Nat→Option α} {f:Nat→α→Option β} {a:α} {r:β} (h:Ev g a)(k:Ev (fun n=>f n a) r):Ev (fun n=>(g n).bind (fun t=>f n t)) r:=Ev.bind h k
theorem D8 {α β:Type} {g:Option α} {f:Nat→α→Option β} {a:α} {r:β} (h:g=some a)(k:Ev (fun n=>f n a) r):Ev (fun n=>g.bind (fun t=>f n t)) r:=by
 subst h;exact k
theorem Ae2 {α:Type} {g:Option α} {a:α} (h:g=some a):Ev (fun _=>g) a:=by subst h;exact Ev.now _
theorem X2 {α:Type} {c:Prop} [Decidable c] {A B:Nat→Option α} {r:α} (h1:c→Ev A r)(h2:¬c→Ev B r):Ev (fun n=>if c then A n else B n) r:=by
 by_cases h:c
 ·exact D9 h (h1 h)
 ·exact G8 h (h2 h)
theorem AL8 {σ ρ:Type} (L:σ→Nat→Nat→Option ρ)(step:σ→Nat→σ)(I:Nat→σ→Prop)(n:Nat)
  (hs:∀s i,i<n→I i s→I (i+1) (step s i)∧∀r,Ev (L (step s i) (i+1)) r→Ev (L s i) r) {r:ρ} :
  ∀d i s,i+d=n→I i s→(I n ((List.range' i d).foldl step s)→Ev (L ((List.range' i d).foldl step s) n) r)→Ev (L s i) r:=by
 intro d
 induction d with
 |zero =>
  intro i s h hi k
  obtain rfl:i=n:=by omega
  exact k hi
 |succ d ih =>
  intro i s h hi k
  obtain⟨h1,h2⟩:=hs s i (by omega) hi
  exact h2 r (ih (i+1) _ (by omega) h1 (by simpa [List.range'_succ]using k))
theorem AN5 {P:Nat→Prop} (h:∀n,(∀m,m<n→P m)→P n)(n:Nat):P n:=Nat.strongRecOn n h
theorem BY5 (b:Bool):¬((b != b)=true):=by simp
theorem E4 {x:Int} (h: -9223372036854775808≤x∧x≤9223372036854775807):wrap64 x=x:=by unfold wrap64;omega
theorem E2 {i:Nat} (h:i<9223372036854775807):wrap64 ((i:Int)+1)=((i+1:Nat):Int):=by unfold wrap64;omega
theorem S9 {i:Nat} (h:i<9223372036854775807):wrap64 (((i+1:Nat):Int) - 1)=(i:Int):=by unfold wrap64;omega
theorem U0 (xs:List Int)(i:Nat):rd xs (i:Int)=xs.getD i 0:=by simp[rd]
theorem Ai8 (xs:List Int)(i:Nat)(h:i<xs.length):rd xs (i:Int)=xs[i]:=by simp[rd,List.getD_eq_getElem?_getD,List.getElem?_eq_getElem h]
theorem s7 (xs:List Int)(i:Nat)(h:i<xs.length):xs.drop i=rd xs (i:Int)::xs.drop (i+1):=by
 rw[Ai8 xs i h];exact List.drop_eq_getElem_cons h
theorem Ad2 (xs:List Int)(i:Nat)(h:i<xs.length):xs.take (i+1)=xs.take i++ [rd xs (i:Int)]:=by
 rw[Ai8 xs i h];exact List.take_succ_eq_append_getElem h
theorem Y8 (a b:Nat):Int.tmod (a:Int) (b:Int)=((a % b:Nat):Int):=(Int.ofNat_tmod a b).symm
def inB (a lo hi:Int):Bool:=decide (lo≤a)&&decide (a≤hi)
theorem I3 {a lo hi:Int}:inB a lo hi=true↔lo≤a∧a≤hi:=by simp[inB]
theorem AV7 {a lo hi:Int}:inB a lo hi=false↔¬(lo≤a∧a≤hi):=by
 rw[←I3];simp
def Ag2 (xs:List Int) (lo hi:Int):Bool:=xs.all fun x=>inB x lo hi
theorem AK4 {xs:List Int} {lo hi:Int}:Ag2 xs lo hi=true↔∀x∈xs,lo≤x∧x≤hi:=by
 simp[Ag2,List.all_eq_true,I3]
def win (w:List Int) (p n:Nat):List Int:=(List.range' 0 n).map fun j=>w.getD ((p+j) % w.length) 0
theorem AA7 (w:List Int) (p n:Nat):(win w p n).length=n:=by simp[win]
def AP9 (m:Int)(n:Nat):List Int:=(List.range' 0 n).map fun(j:Nat)=>m+ (j:Int)
theorem AV3 (m:Int)(n:Nat):(AP9 m n).length=n:=by simp[AP9]
theorem Ai2 (m:Int)(n:Nat):AP9 m (n+1)=m::AP9 (m+1) n:=by
 simp only[AP9,List.range'_succ,List.map_cons]
 congr 1
 ·simp
 ·rw[show 0+1=0+1 from rfl,List.range'_eq_map_range,List.range'_eq_map_range,List.map_map,List.map_map]
  apply List.map_congr_left
  intro a _
  simp;omega
def at_ (w:List Int) (p j:Nat):Int:=w.getD ((p+j) % w.length) 0
end Go.Proofs.YtpiogigidgejpaaGreatDoor.Base
namespace Go.Proofs.YtpiogigidgejpaaGreatDoor.Base
open Go.RowKit Go.Proofs.YtpiogigidgejpaaGreatDoorW.PrintWords
def srt (l:List Int):List Int:=l.mergeSort fun x y=>decide (x≤y)
theorem AO7 (l:List Int):(srt l).Perm l:=List.mergeSort_perm l _
theorem AH9 (l:List Int):(srt l).length=l.length:=(AO7 l).length_eq
theorem BB1 (l:List Int):(srt l).Pairwise (·≤·):=by
 have h:=List.pairwise_mergeSort (le:=fun x y:Int=>decide (x≤y)) (fun a b c h1 h2=>by simp at *;omega) (fun a b=>by simp;omega) l
 exact h.imp (fun h=>by simpa using h)
theorem An2 {l:List Int} (h:l.Pairwise (·≤·)):l.Pairwise (·<·)↔l.Nodup:=by
 constructor
 ·intro h2
  exact h2.imp (fun h=>Int.ne_of_lt h)
 ·intro h2
  exact(h.and h2).imp (fun h=>by omega)
def idl (n:Nat):List Int:=(List.range' 0 n).map fun(j:Nat)=>(j:Int)
theorem AG1 (n:Nat):(idl n).length=n:=by simp[idl]
theorem Ao3 {n:Nat} {x:Int}:x∈idl n↔0≤x∧x<n:=by
 simp only[idl,List.mem_map,List.mem_range'_1]
 constructor
 ·rintro⟨j,hj,rfl⟩;omega
 ·intro h;exact⟨x.toNat,by omega,by omega⟩
theorem Ae0:∀ (l:List Int) (a:Nat),l.Pairwise (·<·)→(∀x∈l,(a:Int)≤x∧x< ((a+l.length:Nat):Int))→l=(List.range' a l.length).map fun(j:Nat)=>(j:Int):=by
 intro l
 induction l with
 |nil=>intro a _ _;rfl
 |cons h t ih =>
  intro a hp hm
  have h0:=hm h (by simp)
  obtain⟨hp1,hp2⟩:=List.pairwise_cons.mp hp
  have ht:=ih (a+1) hp2 (fun x hx=>by
   have:=hm x (by simp[hx])
   have:=hp1 x hx
   simp at *
   omega)
  rw[List.length_cons,List.range'_succ,List.map_cons,←ht]
  congr 1
  cases t with
  |nil=>simp at h0;omega
  |cons b t =>
   rw[List.length_cons,List.range'_succ,List.map_cons,List.cons.injEq]at ht
   have:=hp1 b (by simp)
   omega
def X1 (l:List Int):Bool:=decide (l.length≤12)&& (decide l.Nodup&&l.all fun x=>inB x 0 ((l.length:Int) - 1))
theorem AC1 {l:List Int}:X1 l=true↔l.length≤12∧l.Nodup∧∀x∈l,0≤x∧x≤(l.length:Int) - 1:=by
 simp[X1,List.all_eq_true,I3]
theorem BD3 (l:List Int):srt l=idl l.length↔l.Nodup∧∀x∈l,0≤x∧x≤(l.length:Int) - 1:=by
 constructor
 ·intro h
  have hp:=AO7 l
  rw[h]at hp
  refine⟨hp.nodup_iff.mp ?_,fun x hx=>?_⟩
  ·unfold idl
   refine List.Pairwise.map _ (fun a b h=>?_) (List.pairwise_lt_range' (s:=0) (n:=l.length))
   omega
  ·have:=Ao3.mp (hp.mem_iff.mpr hx)
   omega
 ·rintro⟨h1,h2⟩
  have h3:=(An2 (BB1 l)).mpr ((AO7 l).nodup_iff.mpr h1)
  have h4:=Ae0 (srt l) 0 h3 (fun x hx=>by
   have:=h2 x ((AO7 l).mem_iff.mp hx)
   rw[AH9]
   omega)
  rw[h4,AH9];rfl
def k4:Nat→Nat
 |0=>1
 |n+1=>(n+1)*k4 n
theorem Af6 (n:Nat):1≤k4 n:=by
 induction n with
 |zero=>simp[k4]
 |succ n ih=>simp only[k4];exact Nat.mul_pos (by omega) ih
theorem BG1 {a b:Nat} (h:a≤b):k4 a≤k4 b:=by
 induction b with
 |zero =>
    obtain rfl:a=0:=by omega
    exact Nat.le_refl _
 |succ b ih =>
  by_cases e:a=b+1
  ·rw[e];exact Nat.le_refl _
  ·exact Nat.le_trans (ih (by omega)) (by simp only[k4];exact Nat.le_mul_of_pos_left _ (by omega))
theorem AD3 {n:Nat} (h:n≤12):k4 n≤479001600:=Nat.le_trans (BG1 h) (by decide)
def AD6:List Int→Nat
 |[]=>0
 |x::t=>t.countP (fun y=>decide (y<x))*k4 t.length+AD6 t
theorem AW3:∀l:List Int,AD6 l+1≤k4 l.length:=by
 intro l
 induction l with
 |nil=>simp[AD6,k4]
 |cons x t ih =>
  simp only[AD6,List.length_cons,k4]
  have h1:t.countP (fun y=>decide (y<x))≤t.length:=List.countP_le_length
  have h2:=Nat.mul_le_mul_right (k4 t.length) h1
  rw[Nat.add_mul,Nat.one_mul]
  omega
theorem As9 (n:Nat):idl (n+1)=idl n++ [(n:Int)]:=by
 unfold idl
 rw[←List.range'_append (s:=0) (m:=n) (n:=1) (step:=1),List.map_append]
 simp
theorem Au0 {σ:Type} (g:σ→Int→σ)(l:List Int):∀ (d i:Nat) (s:σ),i+d=l.length→(List.range' i d).foldl (fun s j=>g s (l.getD j 0)) s=(l.drop i).foldl g s:=by
 intro d
 induction d with
 |zero =>
  intro i s h
  rw[List.drop_eq_nil_of_le (by omega)];rfl
 |succ d ih =>
  intro i s h
  rw[List.range'_succ,List.foldl_cons,ih (i+1) _ (by omega),s7 l i (by omega),List.foldl_cons,U0]
theorem Aq9 (x:Int)(l:List Int):∀c:Nat,l.foldl (fun c y=>if y<x then c+1 else c) c=c+l.countP (fun y=>decide (y<x)):=by
 induction l with
 |nil=>intro c;simp
 |cons y t ih =>
  intro c
  rw[List.foldl_cons,ih,List.countP_cons]
  by_cases h:y<x
  ·simp[h];omega
  ·simp[h]
theorem Aa8 (x:Int)(l:List Int):(List.range' 0 l.length).foldl (fun c j=>if l.getD j 0<x then c+1 else c) 0=l.countP (fun y=>decide (y<x)):=by
 rw[Au0 (fun c y=>if y<x then c+1 else c) l l.length 0 0 (by omega),Aq9];simp
theorem BS6 {w:List Int} {p n:Nat} (hw:0<w.length) {x:Int} (h:x∈win w p n):x∈w:=by
 simp only[win,List.mem_map]at h
 obtain⟨j,_,rfl⟩:=h
 rw[List.getD_eq_getElem?_getD,List.getElem?_eq_getElem (Nat.mod_lt _ hw)]
 exact List.getElem_mem _
def At7 (n:Nat)(w:List Int)(out:List Int)(i:Nat):List Int :=
 if X1 ((w.take i).drop (i - n))=true then(if(AD6 ((w.take i).drop (i - n)):Int)∈out then out else out++ [(AD6 ((w.take i).drop (i - n)):Int)])else out
def Aj1 (n:Nat)(w:List Int):List Int:=(List.range' n (w.length+1 - n)).foldl (At7 n w) []
theorem An9 (n:Nat)(w:List Int)(out:List Int)(i:Nat):(At7 n w out i).length≤out.length+1:=by
 unfold At7
 split
 ·split
  ·omega
  ·simp
 ·omega
end Go.Proofs.YtpiogigidgejpaaGreatDoor.Base
