import Derived.Test.YtpiogigidgejpaaGreatDoorZ0
import Derived.Test.YtpiogigidgejpaaGreatDoorY0
import Derived.Test.YtpiogigidgejpaaGreatDoorZ3
import Derived.Test.YtpiogigidgejpaaGreatDoorPFnExactStepLinex15
import Derived.Test.YtpiogigidgejpaaGreatDoorPFnExactStepLinex17
namespace Go.Proofs.YtpiogigidgejpaaGreatDoor.Pure
open Go.RowKit Go.Proofs.YtpiogigidgejpaaGreatDoor.PFnExactStepLine Go.Proofs.YtpiogigidgejpaaGreatDoorW.PrintWords Go.Proofs.YtpiogigidgejpaaGreatDoorW.PrintLast Go.Proofs.YtpiogigidgejpaaGreatDoor.Base
set_option maxRecDepth 10000
set_option linter.unusedVariables false
set_option linter.unusedSimpArgs false
theorem x8 (a b:List Int)(ha:a.length≤1000000000000)(hab:a.length=b.length):∀ (d i:Nat),i+d=a.length→
  Ev (fun k=>D7.l0 k a b (a.length:Int) (i:Int)) (decide (a.drop i=b.drop i)):=by
 intro d
 induction d with
 |zero =>
  intro i h
  rw[List.drop_eq_nil_of_le (by omega),List.drop_eq_nil_of_le (by omega)]
  refine Ev.step (f:=fun _=>some true) (fun k=>?_) (Ev.now _)
  simp only[D7.l0];rw[if_neg (by omega)]
 |succ d ih =>
  intro i h
  rw[s7 a i (by omega),s7 b i (by omega)]
  refine Ev.step (f:=fun k=>if rd a (i:Int)=rd b (i:Int)then D7.l0 k a b (a.length:Int) ((i+1:Nat):Int)else some false) (fun k=>?_) ?_
  ·simp only[D7.l0];rw[if_pos (by omega),if_pos (by omega),if_pos (by omega),if_pos (by omega),E2 (by omega)]
  ·exact X2 (fun e=>S7 (ih (i+1) (by omega)) (by simp[e])) (fun e=>C7 (by simp[e]))
theorem o4 (a b:List Int)(ha:a.length≤1000000000000):Ev (fun k=>D7.f k a b) (decide (a=b)):=by
 unfold D7.f
 refine X2 (fun h=>?_) (fun h=>C7 ?_)
 ·exact x8 a b ha (by omega) a.length 0 (by omega)
 ·rw[eq_comm,decide_eq_false_iff_not];intro e;exact h (by rw[e])
theorem X0 (l:List Int):Ev (fun k=>F2.f k l) (X1 l):=by
 unfold F2.f
 refine X2 (fun h=>?_) (fun h=>C7 (by simp[X1,h]))
 refine C6 (AG0 l.length (by omega)) ?_
 refine S7 (o4 (srt l) (idl l.length) (by rw[AH9];omega)) ?_
 rw[Bool.eq_iff_iff,AC1,decide_eq_true_eq,BD3]
 exact⟨fun h'=>⟨h,h'⟩,fun h'=>h'.2⟩
theorem Ab9 (l:List Int)(x:Int)(hl:l.length≤1000000000000):∀ (d i:Nat),i+d=l.length→Ev (fun k=>J1.l0 k x l (l.length:Int) (i:Int)) (decide (x∈l.drop i)):=by
 intro d
 induction d with
 |zero =>
  intro i h
  rw[List.drop_eq_nil_of_le (by omega)]
  exact Ev.step (fun k=>by simp only[J1.l0];rfl) (en (C7 (by simp)))
 |succ d ih =>
  intro i h
  rw[s7 l i (by omega)]
  refine Ev.step (fun k=>by simp only[J1.l0];rfl) ?_
  rw[E2 (by omega)]
  refine ep (ep (ep ?_))
  exact X2 (fun e=>C7 (by simp[e])) (fun e=>S7 (ih (i+1) (by omega)) (by rw[decide_eq_decide,List.mem_cons];exact⟨.inr,fun h=>h.resolve_left (fun h=>e h.symm)⟩))
theorem Aj8 (l:List Int)(x:Int)(hl:l.length≤1000000000000):Ev (fun k=>J1.f k l x) (decide (x∈l)) :=
 Ab9 l x hl l.length 0 (by omega)
theorem AJ7 (l:List Int)(hl:l.length≤1000000000000):∀ (d i:Nat),i+d=l.length→i≤12→(l.take i).Nodup→(∀x∈l.take i,0≤x∧x≤(l.length:Int) - 1)→
  Ev (fun k=>E0.l0 k l l (l.length:Int) (i:Int)) (X1 l):=by
 intro d
 induction d with
 |zero =>
  intro i h1 h2 h3 h4
  rw[List.take_of_length_le (by omega)]at h3 h4
  exact Ev.step (fun k=>by simp only[E0.l0];rfl) (en (C7 (by rw[eq_comm,AC1];exact⟨by omega,h3,h4⟩)))
 |succ d ih =>
  intro i h1 h2 h3 h4
  have hmem:rd l (i:Int)∈l:=by rw[Ai8 l i (by omega)];exact List.getElem_mem _
  have ht:=Ad2 l i (by omega)
  have hsplit:l=l.take i++rd l (i:Int)::l.drop (i+1):=by rw[←s7 l i (by omega),List.take_append_drop]
  have no:∀{P:Prop},(X1 l=true→P→False)→P→false=X1 l:=fun h p=>by
   rw[eq_comm,Bool.eq_false_iff];exact fun hb=>h hb p
  refine Ev.step (fun k=>by simp only[E0.l0];rfl) ?_
  refine ep (ep (ep ?_))
  refine X2 (fun e=>C7 (no (fun hb _=>by have:=(AC1.mp hb).1;omega) trivial)) (fun e=>?_)
  rw[E4 (x:=(l.length:Int) - 1) (by omega),E2 (by omega),Int.toNat_natCast]
  refine D8 (J6 _ _ _) (X2 (fun h5=>?_) (fun h5=>C7 (no (fun hb _=>h5 (I3.mpr ((AC1.mp hb).2.2 _ hmem))) trivial)))
  refine ep (C6 (Aj8 (l.take i) (rd l (i:Int)) (by simp;omega)) (X2 (fun h6=>C7 (no (fun hb _=>?_) trivial)) (fun h6=>?_)))
  ·have hn:=(AC1.mp hb).2.1
   rw[hsplit,List.nodup_append]at hn
   exact hn.2.2 _ (by simpa using h6) (rd l (i:Int)) (by simp) rfl
  ·have hni:rd l (i:Int) ∉ l.take i:=by simpa using h6
   refine ih (i+1) (by omega) (by omega) ?_ ?_
   ·rw[ht,List.nodup_append]
    refine⟨h3,by simp,fun a ha b hb=>?_⟩
    simp only[List.mem_singleton]at hb
    rw[hb]
    intro hab
    exact hni (hab ▸ ha)
   ·intro x hx
    rw[ht,List.mem_append]at hx
    rcases hx with hx|hx
    ·exact h4 x hx
    ·simp only[List.mem_singleton]at hx
     rw[hx];exact I3.mp h5
theorem k5 (l:List Int)(hl:l.length≤1000000000000):Ev (fun k=>E0.f k l) (X1 l) :=
 AJ7 l hl l.length 0 (by omega) (by omega) (by simp) (by simp)
theorem o1 (n:Nat)(hn:n≤12):Ev (fun k=>G9.f k (n:Int)) ((k4 n:Nat):Int):=by
 have h13:n=0∨n=1∨n=2∨n=3∨n=4∨n=5∨n=6∨n=7∨n=8∨n=9∨n=10∨n=11∨n=12:=by omega
 rcases h13 with rfl|rfl|rfl|rfl|rfl|rfl|rfl|rfl|rfl|rfl|rfl|rfl|rfl<;>exact Ev.of (fun k=>G9.mono _ k) (k:=20) (by kernel_rfl)
theorem AK2 (l:List Int) (acc i:Nat)(r:Int)(hl:l.length≤12)(hi:i<l.length)
  (k:Ev (fun k=>(G9.f k (wrap64 ((wrap64 ((l.length:Int) - (i:Int))) - 1))).bind fun t=>D6.l0 k l (wrap64 ((acc:Int)+wrap64 (((((l.drop (i+1)).countP (fun y=>decide (y<rd l (i:Int)))):Nat):Int)*t))) l (l.length:Int) (wrap64 ((i:Int)+1))) r) :
  Ev (fun k=>D6.l1 k l (acc:Int) (i:Int) (rd l (i:Int)) 0 l (l.length:Int) (i:Int) (l.drop (i+1)) ((l.drop (i+1)).length:Int) 0) r:=by
 refine AL8 (fun(c:Nat) j k=>D6.l1 k l (acc:Int) (i:Int) (rd l (i:Int)) (c:Int) l (l.length:Int) (i:Int) (l.drop (i+1)) ((l.drop (i+1)).length:Int) (j:Int)) (fun c j=>if(l.drop (i+1)).getD j 0<rd l (i:Int)then c+1 else c) (fun j c=>c≤j) (l.drop (i+1)).length ?_ (l.drop (i+1)).length 0 0 (by omega) (by omega) ?_
 ·intro c j hj hI
  have hj2:j<12:=by simp at hj;omega
  refine⟨by split<;>omega,fun r k=>?_⟩
  refine Ev.step (fun k=>by simp only[D6.l1];rfl) ?_
  rw[E2 (i:=j) (by omega),U0 (l.drop (i+1)) j]
  refine ep (ep (ep ?_))
  refine X2 (fun e=>?_) (fun e=>?_)
  ·rw[E2 (i:=c) (by omega)]
   rw[if_pos e]at k;exact k
  ·rw[if_neg e]at k;exact k
 ·intro _
  refine Ev.step (fun k=>by simp only[D6.l1];rfl) (en ?_)
  rw[Aa8]
  exact k
theorem AI8 (l:List Int)(hl:l.length≤12):∀ (d i acc:Nat),i+d=l.length→acc+AD6 (l.drop i)≤1000000000→
  Ev (fun k=>D6.l0 k l (acc:Int) l (l.length:Int) (i:Int)) ((acc+AD6 (l.drop i):Nat):Int):=by
 intro d
 induction d with
 |zero =>
  intro i acc h hb
  rw[List.drop_eq_nil_of_le (by omega)]
  exact Ev.step (fun k=>by simp only[D6.l0];rfl) (en (C7 (by simp[AD6])))
 |succ d ih =>
  intro i acc h hb
  have hd:=s7 l i (by omega)
  rw[hd]at hb ⊢
  simp only[AD6,List.length_drop]at hb ⊢
  refine Ev.step (fun k=>by simp only[D6.l0];rfl) ?_
  rw[E2 (i:=i) (by omega)]
  refine ep (ep (ep (ep (ep ?_))))
  rw[Int.toNat_natCast]
  refine AK2 l acc i _ hl (by omega) ?_
  rw[E4 (x:=(l.length:Int) - (i:Int)) (by omega),E4 (x:=(l.length:Int) - (i:Int) - 1) (by omega),show(l.length:Int) - (i:Int) - 1=((l.length - (i+1):Nat):Int)by omega,E2 (i:=i) (by omega)]
  refine C6 (o1 _ (by omega)) ?_
  rw[show ∀a b:Nat,(a:Int)* (b:Int)=((a*b:Nat):Int)from fun a b=>by simp,E4 (x:=(((l.drop (i+1)).countP (fun y=>decide (y<rd l (i:Int)))*k4 (l.length - (i+1)):Nat):Int)) (by omega),show ∀a b:Nat,(a:Int)+ (b:Int)=((a+b:Nat):Int)from fun a b=>by simp,E4 (by omega)]
  exact S7 (ih (i+1) _ (by omega) (by omega)) (by rw[Nat.add_assoc])
theorem AA9 (l:List Int)(hl:l.length≤12):Ev (fun k=>D6.f k l) ((AD6 l:Nat):Int):=by
 have h1:=AW3 l
 have h2:=AD3 hl
 exact S7 (AI8 l hl l.length 0 0 (by omega) (by simp;omega)) (by simp)
theorem j7 (n:Nat)(hn:n≤12):Ev (fun k=>H3.f k (n:Int)) ((k4 n:Nat):Int):=by
 have h13:n=0∨n=1∨n=2∨n=3∨n=4∨n=5∨n=6∨n=7∨n=8∨n=9∨n=10∨n=11∨n=12:=by omega
 rcases h13 with rfl|rfl|rfl|rfl|rfl|rfl|rfl|rfl|rfl|rfl|rfl|rfl|rfl<;>exact Ev.of (fun k=>H3.mono _ k) (k:=20) (by kernel_rfl)
theorem Ag6 (l:List Int)(r:Int)(hl:l.length≤12)(h0:0<l.length)
  (k:Ev (fun k=>(H3.f k (wrap64 ((l.length:Int) - 1))).bind fun t=>(if 1≤(l.length:Int)then((F7.f k (l.drop 1)).bind fun u=>some (wrap64 ((wrap64 (((l.countP (fun y=>decide (y<rd l 0)):Nat):Int)*t))+u)))else none)) r) :
  Ev (fun k=>F7.l0 k l 0 l (l.length:Int) 0) r:=by
 refine AL8 (fun(c:Nat) j k=>F7.l0 k l (c:Int) l (l.length:Int) (j:Int)) (fun c j=>if l.getD j 0<rd l 0 then c+1 else c) (fun j c=>c≤j) l.length ?_ l.length 0 0 (by omega) (by omega) ?_
 ·intro c j hj hI
  refine⟨by split<;>omega,fun r k=>?_⟩
  refine Ev.step (fun k=>by simp only[F7.l0];rfl) ?_
  rw[E2 (i:=j) (by omega),U0 l j]
  refine ep (ep (ep (ep ?_)))
  refine X2 (fun e=>?_) (fun e=>?_)
  ·rw[E2 (i:=c) (by omega)]
   rw[if_pos e]at k;exact k
  ·rw[if_neg e]at k;exact k
 ·intro _
  refine Ev.step (fun k=>by simp only[F7.l0];rfl) (en ?_)
  rw[Aa8]
  exact k
theorem AO9:∀ (n:Nat) (l:List Int),l.length=n→n≤12→Ev (fun k=>F7.f k l) ((AD6 l:Nat):Int):=by
 intro n
 induction n with
 |zero =>
  intro l h _
  obtain rfl:=List.eq_nil_of_length_eq_zero h
  refine Ev.step (fun k=>by simp only[F7.f];rfl) ?_
  exact D9 (by simp) (Ev.now _)
 |succ n ih =>
  intro l h hn
  cases l with
  |nil=>simp at h
  |cons x t =>
  have hlt:=AW3 (x::t)
  have hf:=AD3 (n:=(x::t).length) (by omega)
  have ht:t.length=n:=by simpa using h
  refine Ev.step (fun k=>by simp only[F7.f];rfl) ?_
  refine G8 (by simp;omega) (Ag6 (x::t) _ (by omega) (by simp) ?_)
  have hx:rd (x::t) 0=x:=by simp[rd]
  have hc:(x::t).countP (fun y=>decide (y<rd (x::t) 0))=t.countP (fun y=>decide (y<x)):=by rw[hx,List.countP_cons];simp
  rw[hc,E4 (x:=(((x::t).length:Nat):Int) - 1) (by omega),show(((x::t).length:Nat):Int) - 1=((t.length:Nat):Int)by simp]
  refine C6 (j7 _ (by omega)) (D9 (by simp;omega) (C6 (ih t ht (by omega)) (C7 ?_)))
  simp only[AD6]at hlt ⊢
  rw[show ∀a b:Nat,(a:Int)* (b:Int)=((a*b:Nat):Int)from fun a b=>by simp,E4 (x:=((t.countP (fun y=>decide (y<x))*k4 t.length:Nat):Int)) (by omega),show ∀a b:Nat,(a:Int)+ (b:Int)=((a+b:Nat):Int)from fun a b=>by simp,E4 (by omega)]
theorem BM9 (a b:List Int)(hl:a.length=b.length)(h:∀j,j<a.length→a.getD j 0=b.getD j 0):a=b:=by
 apply List.ext_getElem hl
 intro j h1 h2
 have:=h j h1
 rw[List.getD_eq_getElem?_getD,List.getD_eq_getElem?_getD,List.getElem?_eq_getElem h1,List.getElem?_eq_getElem h2]at this
 exact this
theorem AK7 {l:List Int}:X1 l=true↔l.length≤12∧IsP l.length l:=by
 rw[AC1]
 unfold IsP
 constructor
 ·rintro⟨h1,h2,h3⟩
  exact⟨h1,rfl,h2,fun x hx=>by have:=h3 x hx;omega⟩
 ·rintro⟨h1,_,h2,h3⟩
  exact⟨h1,h2,fun x hx=>by have:=h3 x hx;omega⟩
theorem Au7 {n:Nat} {a b:List Int} (h:IsP n a)(hp:b.Perm a):IsP n b :=
 ⟨hp.length_eq.trans h.1,hp.nodup_iff.mpr h.2.1,fun x hx=>h.2.2 x (hp.mem_iff.mp hx)⟩
theorem BT2 (n:Nat):IsP n (idl n):=by
 refine⟨AG1 n,?_,fun x hx=>Ao3.mp hx⟩
 unfold idl
 exact List.Pairwise.map _ (fun a b h=>by omega) (List.pairwise_lt_range' (s:=0) (n:=n))
theorem Ai1 {n:Nat} {l:List Int} (hn:n≤12)(h:IsP n l):X1 l=true:=by
 have:=h.1
 subst this
 exact AK7.mpr ⟨hn,h⟩
theorem AW9 (n:Nat)(l:List Int)(h:IsP (n+1) l):(n:Int)∈l:=by
 have hs:=(BD3 l).mpr ⟨h.2.1,fun x hx=>by have:=h.2.2 x hx;have:=h.1;omega⟩
 have hm:(n:Int)∈srt l:=by rw[hs,h.1];exact Ao3.mpr (by omega)
 exact(AO7 l).mem_iff.mp hm
theorem AR2 {l:List Int} (h:X1 l=true):x2 l:=by
 have:=AC1.mp h
 exact⟨by omega,fun x hx=>by have:=this.2.2 x hx;omega⟩
theorem BN7 (l:List Int)(i:Nat)(h:i<l.length):(l.getD i 0:: (l.take i++l.drop (i+1))).Perm l:=by
 have e:l=l.take i++l.getD i 0::l.drop (i+1):=by
  conv=>lhs;rw[←List.take_append_drop i l,L9 l i 0 h]
 conv=>rhs;rw[e]
 exact List.perm_middle.symm
def AF6:Nat→List Int→Nat→List Int
 |0,_,_=>[]
 |m+1,l,r=>l.getD (r / k4 m) 0::AF6 m (l.take (r / k4 m)++l.drop (r / k4 m+1)) (r % k4 m)
theorem AI3 (l:List Int) (i m:Nat)(hl:l.length=m+1)(hi:i<m+1):(l.take i++l.drop (i+1)).length=m:=by
 rw[List.length_append,List.length_take,List.length_drop];omega
theorem Aj0 {m r:Nat} (h:r<k4 (m+1)):r / k4 m<m+1:=by
 rw[k4,Nat.mul_comm]at h
 exact Nat.div_lt_of_lt_mul h
theorem AV4:∀ (m:Nat) (l:List Int) (r:Nat),l.length=m→r<k4 m→(AF6 m l r).Perm l:=by
 intro m
 induction m with
 |zero=>intro l r hl _;rw[List.length_eq_zero_iff.mp hl];exact List.Perm.refl _
 |succ m ih =>
  intro l r hl hr
  have hq:=Aj0 hr
  have hf:=Af6 m
  rw[AF6]
  refine((ih _ _ (AI3 l _ m hl hq) (Nat.mod_lt _ (by omega))).cons _).trans (BN7 l _ (by omega))
theorem AJ8:∀ (m:Nat) (l:List Int) (r:Nat) (out:List Int),l.length=m→r<k4 m→out.length+m≤12→
  Ev (fun g=>F4.l0 g (r:Int) l out (wrap64 ((m:Int) - 1))) (out++AF6 m l r):=by
 intro m
 induction m with
 |zero =>
  intro l r out hl hr ho
  refine Ev.step (fun k=>by simp only[F4.l0];rfl) ?_
  exact G8 (by unfold wrap64;omega) (C7 (by simp[AF6]))
 |succ m ih =>
  intro l r out hl hr ho
  have hq:=Aj0 hr
  have hf:=Af6 m
  have hf2:=AD3 (n:=m+1) (by omega)
  have hf3:=AD3 (n:=m) (by omega)
  have hd0:(0:Int)≤((r / k4 m:Nat):Int):=Int.natCast_nonneg _
  refine Ev.step (fun k=>by simp only[F4.l0];rfl) ?_
  rw[S9 (by omega),AF6]
  refine ep (C6 (o1 m (by omega)) (en ?_))
  rw[show Int.tdiv (r:Int) ((k4 m:Nat):Int)=((r / k4 m:Nat):Int)from(Int.ofNat_tdiv _ _).symm,Y8]
  generalize r / k4 m=q at hq hd0 ⊢
  rw[E4 (x:=((q:Nat):Int)) (by omega),Int.toNat_natCast,U0]
  refine ep (ep (ep (ep ?_)))
  exact S7 (ih _ _ _ (AI3 l q m hl hq) (Nat.mod_lt _ (by omega)) (by simp;omega)) (by simp)
theorem AO2 (n r:Nat)(hn:n≤12)(hr:r<k4 n):Ev (fun g=>F4.f g (n:Int) (r:Int)) (AF6 n (idl n) r):=by
 unfold F4.f
 exact C6 (AG0 n (by omega)) (S7 (AJ8 n (idl n) r [] (AG1 n) hr (by simp;omega)) (by simp))
theorem AI9 (l:List Int)(i:Nat)(h:i<l.length)(hl:l.length≤1000000):O4.f l (i:Int)=some (l.take i++l.drop (i+1)):=by
 unfold O4.f
 rw[E2 (by omega),Int.toNat_natCast,Int.toNat_natCast,if_pos (by omega),if_pos (by omega),b6 _ (by simp;omega),Option.bind_some,if_pos (by omega),if_pos (by omega),if_pos (by simp;omega)]
theorem Ap1:∀ (m:Nat) (l:List Int) (r:Nat),l.length=m→m≤12→r<k4 m→Ev (fun g=>P7.f g l (r:Int)) (AF6 m l r):=by
 intro m
 induction m with
 |zero =>
  intro l r hl _ _
  refine Ev.step (fun k=>by simp only[P7.f];rfl) ?_
  exact ep (C7 rfl)
 |succ m ih =>
  intro l r hl hm hr
  have hq:=Aj0 hr
  have hf:=Af6 m
  have hf3:=AD3 (n:=m) (by omega)
  have hd0:(0:Int)≤((r / k4 m:Nat):Int):=Int.natCast_nonneg _
  refine Ev.step (fun k=>by simp only[P7.f];rfl) ?_
  rw[hl,S9 (by omega),AF6]
  refine en (C6 (j7 m (by omega)) (en ?_))
  rw[show Int.tdiv (r:Int) ((k4 m:Nat):Int)=((r / k4 m:Nat):Int)from(Int.ofNat_tdiv _ _).symm,Y8]
  have hml:=Nat.mod_lt r (show 0<k4 m by omega)
  generalize r / k4 m=q at hq hd0 ⊢
  rw[E4 (x:=((q:Nat):Int)) (by omega),U0]
  refine ep (ep (D8 rfl (D8 (AI9 l q (by omega) (by omega)) ?_)))
  have hp:=(AV4 m _ (r % k4 m) (AI3 l q m hl hq) hml).length_eq
  rw[AI3 l q m hl hq]at hp
  exact C6 (ih _ _ (AI3 l q m hl hq) (by omega) hml) (D9 (by rw[hp];simp;omega) (C7 rfl))
theorem BI0 (l:List Int)(h:X1 l=true):∃x b,(b=true→X1 x=true)∧(b=false→x=[])∧Ev (fun g=>L8.f g l) (x,b)∧Ev (fun g=>V2.f g l) (x,b):=by
 obtain⟨hn,hP⟩:=AK7.mp h
 have hr:=AW3 l
 have hf:=AD3 (n:=l.length) hn
 have hi:=AA9 l hn
 have hs:=AO9 l.length l rfl hn
 have hII:=X0 l
 have hSS:=k5 l (by omega)
 rw[h]at hII hSS
 by_cases he:AD6 l+1=k4 l.length
 ·refine⟨[],false,by simp,by simp,?_,?_⟩
  ·unfold L8.f
   refine C6 hII (D9 rfl (C6 hi (C6 (o1 l.length hn) ?_)))
   refine Ev.step (fun k=>by simp only[L8.j0];rfl) ?_
   rw[E2 (by omega),he]
   exact D9 (by simp) (C7 rfl)
  ·unfold V2.f
   refine C6 (a:=(((AD6 l:Nat):Int),true)) ?_ (D9 rfl ?_)
   ·unfold V1.f
    exact C6 hSS (D9 rfl (C6 hs (C7 rfl)))
   ·refine C6 (a:=(([]:List Int),false)) ?_ (C7 rfl)
    unfold P3.f
    rw[E2 (by omega),he]
    refine D8 (x9 _) (D9 (I3.mpr (by omega)) (C6 (j7 l.length hn) (D8 (J6 _ _ _) ?_)))
    refine Ev.step (fun k=>by simp only[P3.j0];rfl) ?_
    rw[E4 (by omega),AV7.mpr (by omega)]
    exact D9 (by simp) (C7 rfl)
 ·have hlt:AD6 l+1<k4 l.length:=by omega
  have hp:=AV4 l.length (idl l.length) (AD6 l+1) (AG1 _) hlt
  refine⟨AF6 l.length (idl l.length) (AD6 l+1),true,fun _=>Ai1 hn (Au7 (BT2 _) hp),by simp,?_,?_⟩
  ·unfold L8.f
   refine C6 hII (D9 rfl (C6 hi (C6 (o1 l.length hn) ?_)))
   refine Ev.step (fun k=>by simp only[L8.j0];rfl) ?_
   rw[E2 (by omega)]
   refine G8 (by simp;omega) (C6 hi ?_)
   rw[E2 (by omega)]
   exact C6 (AO2 l.length (AD6 l+1) hn hlt) (C7 rfl)
  ·unfold V2.f
   refine C6 (a:=(((AD6 l:Nat):Int),true)) ?_ (D9 rfl ?_)
   ·unfold V1.f
    exact C6 hSS (D9 rfl (C6 hs (C7 rfl)))
   ·refine C6 (a:=(AF6 l.length (idl l.length) (AD6 l+1),true)) ?_ (C7 rfl)
    unfold P3.f
    rw[E2 (by omega)]
    refine D8 (x9 _) (D9 (I3.mpr (by omega)) (C6 (j7 l.length hn) (D8 (J6 _ _ _) ?_)))
    refine Ev.step (fun k=>by simp only[P3.j0];rfl) ?_
    rw[E4 (by omega),I3.mpr (by omega)]
    exact G8 (by simp) (C6 (AF4 l.length (by omega)) (C6 (Ap1 l.length _ _ (AG1 _) hn hlt) (C7 rfl)))
theorem BI1 (l:List Int)(h:X1 l=true):∃r:Nat,r≤999999999∧Ev (fun g=>X5.f g l) ((r:Int),true)∧Ev (fun g=>F7.f g l) (r:Int):=by
 obtain⟨hn,hP⟩:=AK7.mp h
 have hr:=AW3 l
 have hf:=AD3 (n:=l.length) hn
 have hII:=X0 l
 rw[h]at hII
 refine⟨AD6 l,by omega,?_,AO9 l.length l rfl hn⟩
 unfold X5.f
 exact C6 hII (D9 rfl (C6 (AA9 l hn) (C7 rfl)))
theorem AK6 (L:List Int)(x:Int)(hL:L.length≤1000000000):Ev (fun g=>E5.f g L x) (if x∈L then((L.idxOf x:Nat):Int)else -1):=by
 unfold E5.f
 have:∀ (d i:Nat),i+d=L.length→Ev (fun g=>E5.l0 g L x (L.length:Int) (i:Int)) (if x∈L.drop i then((i+ (L.drop i).idxOf x:Nat):Int)else -1):=by
  intro d
  induction d with
  |zero =>
   intro i h
   rw[List.drop_eq_nil_of_le (by omega)]
   refine Ev.step (fun k=>by simp only[E5.l0];rfl) ?_
   exact en (C7 (by simp))
  |succ d ih =>
   intro i h
   have hi:i<L.length:=by omega
   refine Ev.step (fun k=>by simp only[E5.l0];rfl) ?_
   refine ep (ep (ep ?_))
   rw[U0,L9 L i 0 hi,E2 (by omega)]
   refine X2 (fun hc=>C7 ?_) (fun hc=>S7 (ih (i+1) (by omega)) ?_)
   ·rw[if_pos (List.mem_cons.mpr (.inl hc)),List.idxOf_cons,←hc];simp
   ·have hne:(L.getD i 0==x)=false:=beq_eq_false_iff_ne.mpr (fun e=>hc e.symm)
    by_cases hm:x∈L.drop (i+1)
    ·rw[if_pos hm,if_pos (List.mem_cons_of_mem _ hm),List.idxOf_cons,hne];simp;omega
    ·rw[if_neg hm,if_neg (fun e=>(List.mem_cons.mp e).elim hc hm)]
 have h:=this L.length 0 (by omega)
 simpa using h
theorem Ac1 (L:List Int)(x:Int)(hL:L.length≤1000000000):Ev (fun g=>P6.f g L x) (if x∈L then((L.idxOf x:Nat):Int)else -1):=by
 unfold P6.f
 have:∀ (d i:Nat),i+d=L.length→Ev (fun g=>P6.l0 g x L (L.length:Int) (i:Int)) (if x∈L.drop i then((i+ (L.drop i).idxOf x:Nat):Int)else -1):=by
  intro d
  induction d with
  |zero =>
   intro i h
   rw[List.drop_eq_nil_of_le (by omega)]
   refine Ev.step (fun k=>by simp only[P6.l0];rfl) ?_
   exact en (C7 (by simp))
  |succ d ih =>
   intro i h
   have hi:i<L.length:=by omega
   refine Ev.step (fun k=>by simp only[P6.l0];rfl) ?_
   refine ep (ep (ep ?_))
   rw[U0,L9 L i 0 hi,E2 (by omega)]
   refine X2 (fun hc=>C7 ?_) (fun hc=>S7 (ih (i+1) (by omega)) ?_)
   ·rw[if_pos (List.mem_cons.mpr (.inl hc)),List.idxOf_cons,←hc];simp
   ·have hne:(L.getD i 0==x)=false:=beq_eq_false_iff_ne.mpr (fun e=>hc e.symm)
    by_cases hm:x∈L.drop (i+1)
    ·rw[if_pos hm,if_pos (List.mem_cons_of_mem _ hm),List.idxOf_cons,hne];simp;omega
    ·rw[if_neg hm,if_neg (fun e=>(List.mem_cons.mp e).elim hc hm)]
 have h:=this L.length 0 (by omega)
 simpa using h
theorem Ah3 (q n p:Nat)(hq:q<k4 n)(hn:n+1≤12)(hp:p≤n):wrap64 ((wrap64 ((q:Int)* ((n+1:Nat):Int)))+ (wrap64 (((n:Nat):Int) - (p:Int))))=((q* (n+1)+ (n - p):Nat):Int)∧wrap64 ((wrap64 ((q:Int)* ((n+1:Nat):Int)))+ (p:Int))=((q* (n+1)+p:Nat):Int):=by
 have hf:=AD3 (n:=n) (by omega)
 have hb:q* (n+1)≤479001600*12:=Nat.mul_le_mul (by omega) hn
 rw[←Int.natCast_mul,E4 (x:=((q* (n+1):Nat):Int)) (by omega),E4 (x:=((n:Nat):Int) - (p:Int)) (by omega),E4 (by omega),E4 (by omega)]
 constructor<;>omega
theorem AS6:∀ (n:Nat) (l:List Int),IsP n l→n≤12→Ev (fun g=>W6.f g l) ((V6 n l:Nat):Int):=by
 intro n
 induction n with
 |zero =>
  intro l h _
  refine Ev.step (fun k=>by simp only[W6.f];rfl) ?_
  have:=h.1
  exact ep (C7 rfl)
 |succ n ih =>
  intro l h hn
  have hl:=h.1
  have hm:=AW9 n l h
  obtain⟨hi,hc⟩:=An3 n l h hm
  have hlt:=An6 n _ (fun m t ht=>AW9 m t ht) hc
  have hx:=AK6 l (n:Int) (by omega)
  rw[if_pos hm]at hx
  refine Ev.step (fun k=>by simp only[W6.f];rfl) ?_
  rw[hl,S9 (by omega),V6]
  refine en (C6 hx (D8 (m0 l (by omega)) ?_))
  rw[Int.toNat_natCast]
  refine ep (ep (ep (C6 (ih _ hc (by omega)) ?_)))
  have ha:=Ah3 _ n (l.idxOf (n:Int)) hlt hn (by omega)
  rw[ha.1,ha.2]
  generalize V6 n (l.take (l.idxOf (n:Int))++l.drop (l.idxOf (n:Int)+1))=q
  rw[show Int.tmod (q:Int) 2=((q % 2:Nat):Int)from Y8 q 2]
  by_cases hq:q % 2=0
  ·rw[if_pos hq];exact ep (C7 rfl)
  ·rw[if_neg hq];exact en (C7 rfl)
theorem AO1:∀ (n:Nat) (l:List Int),IsP n l→n≤12→Ev (fun g=>S5.f g l) ((V6 n l:Nat):Int):=by
 intro n
 induction n with
 |zero =>
  intro l h _
  refine Ev.step (fun k=>by simp only[S5.f];rfl) ?_
  have:=h.1
  exact ep (C7 rfl)
 |succ n ih =>
  intro l h hn
  have hl:=h.1
  have hm:=AW9 n l h
  obtain⟨hi,hc⟩:=An3 n l h hm
  have hlt:=An6 n _ (fun m t ht=>AW9 m t ht) hc
  have hx:=Ac1 l (n:Int) (by omega)
  rw[if_pos hm]at hx
  refine Ev.step (fun k=>by simp only[S5.f];rfl) ?_
  rw[hl,S9 (by omega),V6]
  refine en (C6 hx (D8 (AI9 l _ hi (by omega)) (C6 (ih _ hc (by omega)) ?_)))
  have ha:=Ah3 _ n (l.idxOf (n:Int)) hlt hn (by omega)
  rw[ha.1,ha.2]
  generalize V6 n (l.take (l.idxOf (n:Int))++l.drop (l.idxOf (n:Int)+1))=q
  rw[show Int.tmod (q:Int) 2=((q % 2:Nat):Int)from Y8 q 2]
  by_cases hq:q % 2=0
  ·rw[if_pos hq];exact ep (C7 rfl)
  ·rw[if_neg hq];exact en (C7 rfl)
theorem BP4 (k:Nat)(l:List Int)(p:Nat)(x:Int)(hp:p≤l.length)(hl:l.length≤1000):O1.put k l (p:Int) x=some (l.take p++x::l.drop p):=by
 unfold O1.put
 rw[Int.toNat_natCast,if_pos (by omega),if_pos hp,if_pos (by omega)]
theorem AW7:∀ (n r:Nat),n≤12→r<k4 n→Ev (fun g=>O1.f g (n:Int) (r:Int)) (Z2 n r):=by
 intro n
 induction n with
 |zero =>
  intro r _ _
  refine Ev.step (fun k=>by simp only[O1.f];rfl) ?_
  exact D9 rfl (C7 rfl)
 |succ n ih =>
  intro r hn hr
  have hf:=AD3 (n:=n+1) hn
  have hq:r / (n+1)<k4 n:=by rw[k4]at hr;exact Nat.div_lt_of_lt_mul hr
  have hf2:=AD3 (n:=n) (by omega)
  have hml:=Nat.mod_lt r (show 0<n+1 by omega)
  have hl:=AM9 n (r / (n+1))
  have hr2:=ih (r / (n+1)) (by omega) hq
  refine Ev.step (fun k=>by simp only[O1.f];rfl) ?_
  rw[show Int.tdiv (r:Int) ((n+1:Nat):Int)=((r / (n+1):Nat):Int)from(Int.ofNat_tdiv _ _).symm,Y8,S9 (by omega),Z2]
  unfold AC8
  generalize r / (n+1)=q at hq hl hr2 ⊢
  rw[E4 (x:=(q:Int)) (by omega),show Int.tmod (q:Int) 2=((q % 2:Nat):Int)from Y8 q 2]
  refine en ?_
  by_cases h2:q % 2=0
  ·rw[if_pos h2,show wrap64 ((n:Int) - ((r % (n+1):Nat):Int))=((n - r % (n+1):Nat):Int)from by rw[E4 (by omega)];omega]
   exact ep (C6 hr2 (Ev.congr (fun k=>BP4 k _ _ _ (by omega) (by omega)) (Ev.now _)))
  ·rw[if_neg h2]
   exact en (C6 hr2 (Ev.congr (fun k=>BP4 k _ _ _ (by omega) (by omega)) (Ev.now _)))
theorem AU9:∀ (n r:Nat),n≤12→r<k4 n→Ev (fun g=>Y7.f g (n:Int) (r:Int)) (Z2 n r):=by
 intro n
 induction n with
 |zero =>
  intro r _ _
  refine Ev.step (fun k=>by simp only[Y7.f];rfl) ?_
  exact D9 rfl (C7 rfl)
 |succ n ih =>
  intro r hn hr
  have hf:=AD3 (n:=n+1) hn
  have hq:r / (n+1)<k4 n:=by rw[k4]at hr;exact Nat.div_lt_of_lt_mul hr
  have hf2:=AD3 (n:=n) (by omega)
  have hml:=Nat.mod_lt r (show 0<n+1 by omega)
  have hl:=AM9 n (r / (n+1))
  have hr2:=ih (r / (n+1)) (by omega) hq
  refine Ev.step (fun k=>by simp only[Y7.f];rfl) ?_
  rw[show Int.tdiv (r:Int) ((n+1:Nat):Int)=((r / (n+1):Nat):Int)from(Int.ofNat_tdiv _ _).symm,Y8,S9 (by omega),Z2]
  unfold AC8
  generalize r / (n+1)=q at hq hl hr2 ⊢
  rw[E4 (x:=(q:Int)) (by omega),show Int.tmod (q:Int) 2=((q % 2:Nat):Int)from Y8 q 2]
  refine en (C6 hr2 ?_)
  by_cases h2:q % 2=0
  ·rw[if_pos h2,show wrap64 ((n:Int) - ((r % (n+1):Nat):Int))=((n - r % (n+1):Nat):Int)from by rw[E4 (by omega)];omega,Int.toNat_natCast]
   refine ep (ep (ep (D8 (b6 _ (by rw[List.length_take];omega)) (D9 (by rw[List.length_take];omega) (D8 rfl (D8 rfl (D9 ?_ (C7 ?_))))))))
   ·simp;omega
   ·simp
  ·rw[if_neg h2,Int.toNat_natCast]
   refine en (ep (ep (D8 (b6 _ (by rw[List.length_take];omega)) (D9 (by rw[List.length_take];omega) (D8 rfl (D8 rfl (D9 ?_ (C7 ?_))))))))
   ·simp;omega
   ·simp
theorem BC0:∀ (n r:Nat),IsP n (Z2 n r):=by
 intro n
 induction n with
 |zero=>intro r;exact⟨rfl,by simp[Z2],by simp[Z2]⟩
 |succ n ih =>
  intro r
  refine⟨AM9 _ _,?_,fun x hx=>Ae6 _ _ x hx⟩
  rw[Z2]
  have h1:=ih (r / (n+1))
  have hp:((Z2 n (r / (n+1))).take (AC8 n r)++ (n:Int):: (Z2 n (r / (n+1))).drop (AC8 n r)).Perm ((n:Int)::Z2 n (r / (n+1))):=by
   refine List.perm_middle.trans ?_
   rw[List.take_append_drop]
  rw[hp.nodup_iff,List.nodup_cons]
  exact⟨fun e=>by have:=h1.2.2 _ e;omega,h1.2.1⟩
def fdM:List Int→List Int→Nat
 |a::s,b::t=>if a=b then fdM s t+1 else 0
 |_,_=>0
theorem BV8:∀ (a b:List Int),fdM a b≤a.length:=by
 intro a
 induction a with
 |nil=>intro b;simp[fdM]
 |cons x a ih =>
  intro b
  cases b with
  |nil=>simp[fdM]
  |cons y b=>rw[fdM];have:=ih b;split<;>simp<;>omega
theorem Ac7 (l x:List Int)(hl:l.length≤100)(he:x.length=l.length):∀ (d i:Nat),i+d=l.length→l.drop i≠x.drop i→Ev (fun g=>Q5.l0 g l x (i:Int)) (x,((i+fdM (l.drop i) (x.drop i):Nat):Int),true):=by
 intro d
 induction d with
 |zero =>
  intro i h hne
  rw[List.drop_eq_nil_of_le (by omega),List.drop_eq_nil_of_le (by omega)]at hne
  exact absurd rfl hne
 |succ d ih =>
  intro i h hne
  have h1:i<l.length:=by omega
  have h2:i<x.length:=by omega
  refine Ev.step (fun k=>by simp only[Q5.l0];rfl) ?_
  rw[U0,U0,E2 (by omega)]
  rw[L9 l i 0 h1,L9 x i 0 h2]at hne ⊢
  rw[fdM]
  refine ep (ep (ep ?_))
  by_cases hc:l.getD i 0=x.getD i 0
  ·rw[if_pos hc]
   refine D9 hc (S7 (ih (i+1) (by omega) (fun e=>hne (by rw[hc,e]))) ?_)
   rw[show i+1+fdM (l.drop (i+1)) (x.drop (i+1))=i+ (fdM (l.drop (i+1)) (x.drop (i+1))+1)by omega]
  ·rw[if_neg hc];exact G8 hc (C7 rfl)
theorem Ac0 (l x:List Int)(hl:l.length≤100)(he:x.length=l.length):∀ (d i:Nat),i+d=l.length→l.drop i≠x.drop i→Ev (fun g=>Y3.l0 g x l (l.length:Int) (i:Int)) ((i+fdM (l.drop i) (x.drop i):Nat):Int):=by
 intro d
 induction d with
 |zero =>
  intro i h hne
  rw[List.drop_eq_nil_of_le (by omega),List.drop_eq_nil_of_le (by omega)]at hne
  exact absurd rfl hne
 |succ d ih =>
  intro i h hne
  have h1:i<l.length:=by omega
  have h2:i<x.length:=by omega
  refine Ev.step (fun k=>by simp only[Y3.l0];rfl) ?_
  rw[U0,U0,E2 (by omega)]
  rw[L9 l i 0 h1,L9 x i 0 h2]at hne ⊢
  rw[fdM]
  refine ep (ep (ep (ep ?_)))
  by_cases hc:l.getD i 0=x.getD i 0
  ·rw[if_pos hc]
   refine D9 hc (S7 (ih (i+1) (by omega) (fun e=>hne (by rw[hc,e]))) ?_)
   rw[show i+1+fdM (l.drop (i+1)) (x.drop (i+1))=i+ (fdM (l.drop (i+1)) (x.drop (i+1))+1)by omega]
  ·rw[if_neg hc];exact G8 hc (C7 rfl)
theorem BE3 (l:List Int)(h:X1 l=true):∃x:List Int,∃a:Nat,∃b,a≤999999∧(b=true→X1 x=true)∧(b=false→x=[])∧Ev (fun g=>Q5.f g l) (x,(a:Int),b)∧Ev (fun g=>Q4.f g l) (x,(a:Int),b):=by
 obtain⟨hn,hP⟩:=AK7.mp h
 have hr:=An6 l.length l (fun m t ht=>AW9 m t ht) hP
 have hf:=AD3 (n:=l.length) hn
 have hi:=AS6 l.length l hP hn
 have hs:=AO1 l.length l hP hn
 have hII:=X0 l
 have hSS:=k5 l (by omega)
 rw[h]at hII hSS
 have hiR:Ev (fun g=>Q7.f g l) (((V6 l.length l:Nat):Int),true):=by
  unfold Q7.f
  exact C6 hII (D9 rfl (C6 hi (C7 rfl)))
 by_cases he:V6 l.length l+1=k4 l.length
 ·refine⟨[],0,false,by omega,by simp,by simp,?_,?_⟩
  ·unfold Q5.f
   refine C6 hiR (D9 rfl ?_)
   refine C6 (a:=(([]:List Int),false)) ?_ (G8 (by simp) (C7 rfl))
   unfold V7.f
   rw[E2 (by omega),he]
   refine D8 (H9 _ _ _) (D9 (I3.mpr (by omega)) (C6 (o1 l.length hn) (D8 (H9 _ _ _) ?_)))
   rw[E4 (by omega)]
   exact G8 (fun e=>by have:=I3.mp e;omega) (C7 rfl)
  ·unfold Q4.f
   refine C6 hSS (D9 rfl (C6 hs (C6 (j7 l.length hn) ?_)))
   refine Ev.step (fun k=>by simp only[Q4.j0];rfl) ?_
   rw[E2 (by omega),he]
   exact D9 (by simp) (C7 rfl)
 ·have hlt:V6 l.length l+1<k4 l.length:=by omega
  have hx:=BC0 l.length (V6 l.length l+1)
  have hra:=BR6 l.length (V6 l.length l+1) hlt
  have hne:l≠Z2 l.length (V6 l.length l+1):=fun e=>by
   rw[←e]at hra;omega
  have hxl:=hx.1
  have hfd:=BV8 l (Z2 l.length (V6 l.length l+1))
  have h1:=Ac7 l _ (by omega) hxl l.length 0 (by omega) (by rw[List.drop_zero,List.drop_zero];exact hne)
  have h2:=Ac0 l _ (by omega) hxl l.length 0 (by omega) (by rw[List.drop_zero,List.drop_zero];exact hne)
  rw[List.drop_zero,List.drop_zero,Nat.zero_add]at h1 h2
  refine⟨Z2 l.length (V6 l.length l+1),fdM l (Z2 l.length (V6 l.length l+1)),true,by omega,fun _=>Ai1 hn hx,by simp,?_,?_⟩
  ·unfold Q5.f
   refine C6 hiR (D9 rfl ?_)
   refine C6 (a:=(Z2 l.length (V6 l.length l+1),true)) ?_ (D9 rfl h1)
   unfold V7.f
   rw[E2 (by omega)]
   refine D8 (H9 _ _ _) (D9 (I3.mpr (by omega)) (C6 (o1 l.length hn) (D8 (H9 _ _ _) ?_)))
   rw[E4 (by omega)]
   exact D9 (I3.mpr (by omega)) (C6 (AW7 l.length _ hn hlt) (C7 rfl))
  ·unfold Q4.f
   refine C6 hSS (D9 rfl (C6 hs (C6 (j7 l.length hn) ?_)))
   refine Ev.step (fun k=>by simp only[Q4.j0];rfl) ?_
   rw[E2 (by omega)]
   refine G8 (by simp;omega) (C6 hs ?_)
   rw[E2 (by omega)]
   refine C6 (AU9 l.length _ hn hlt) (C6 ?_ (C7 rfl))
   unfold Y3.f
   exact h2
def Am1 (l:List Int)(i:Nat):Int:=(((l.take i).countP (fun y=>decide (y>l.getD i 0)):Nat):Int)
def AI7 (l:List Int):List Int:=(List.range' 0 l.length).map (Am1 l)
theorem Au5 (l:List Int)(hl:l.length≤100):∀x∈AI7 l,0≤x∧x≤100:=by
 intro x hx
 simp only[AI7,List.mem_map,List.mem_range'_1]at hx
 obtain⟨i,hi,rfl⟩:=hx
 have:(l.take i).countP (fun y=>decide (y>l.getD i 0))≤(l.take i).length:=List.countP_le_length
 rw[List.length_take]at this
 unfold Am1;omega
theorem AU3 (l:List Int)(hl:l.length≤100):Ev (fun g=>K4.f g l) (AI7 l):=by
 unfold K4.f
 have:∀ (d i:Nat) (acc:List Int),i+d=l.length→acc=(List.range' 0 i).map (Am1 l)→Ev (fun g=>K4.l0 g l acc l (l.length:Int) (i:Int)) (AI7 l):=by
  intro d
  induction d with
  |zero =>
   intro i acc h ha
   refine Ev.step (fun k=>by simp only[K4.l0];rfl) ?_
   refine en (C7 ?_)
   obtain rfl:i=l.length:=by omega
   exact ha
  |succ d ih =>
   intro i acc h ha
   have hal:acc.length=i:=by rw[ha];simp
   refine Ev.step (fun k=>by simp only[K4.l0];rfl) ?_
   refine ep (ep (ep (ep ?_)))
   rw[U0,Int.toNat_natCast]
   have htl:(l.take i).length=i:=by rw[List.length_take];omega
   have inner:∀ (e j c:Nat),j+e=i→c+ ((l.take i).drop j).countP (fun y=>decide (y>l.getD i 0))=(l.take i).countP (fun y=>decide (y>l.getD i 0))→c≤j→
     Ev (fun g=>K4.l1 g l acc (l.getD i 0) (c:Int) l (l.length:Int) (i:Int) (l.take i) ((l.take i).length:Int) (j:Int)) (AI7 l):=by
    intro e
    induction e with
    |zero =>
     intro j c hj hc hcj
     rw[List.drop_eq_nil_of_le (by omega),List.countP_nil,Nat.add_zero]at hc
     refine Ev.step (fun k=>by simp only[K4.l1];rfl) ?_
     rw[E2 (i:=i) (by omega)]
     refine en (ep (ih (i+1) _ (by omega) ?_))
     rw[ha,←List.range'_append (s:=0) (m:=i) (n:=1) (step:=1),List.map_append,hc]
     simp[Am1]
    |succ e ihe =>
     intro j c hj hc hcj
     refine Ev.step (fun k=>by simp only[K4.l1];rfl) ?_
     rw[L9 (l.take i) j 0 (by omega),List.countP_cons]at hc
     rw[U0,E2 (i:=j) (by omega),E2 (i:=c) (by omega)]
     refine ep (ep (ep ?_))
     refine X2 (fun hg=>?_) (fun hg=>?_)
     ·rw[if_pos (decide_eq_true hg)]at hc
      exact ihe (j+1) (c+1) (by omega) (by omega) (by omega)
     ·rw[if_neg (by simpa using hg)]at hc
      exact ihe (j+1) c (by omega) (by omega) (by omega)
   exact inner i 0 0 (by omega) (by rw[List.drop_zero,Nat.zero_add]) (by omega)
 exact this l.length 0 [] (by omega) rfl
theorem AO6 (l:List Int)(hl:l.length≤100):Ev (fun g=>I8.f g l) (AI7 l):=by
 unfold I8.f
 have:∀ (d i:Nat) (acc:List Int),i+d=l.length→acc=(List.range' 0 i).map (Am1 l)→Ev (fun g=>I8.l0 g l acc l (l.length:Int) (i:Int)) (AI7 l):=by
  intro d
  induction d with
  |zero =>
   intro i acc h ha
   refine Ev.step (fun k=>by simp only[I8.l0];rfl) ?_
   refine en (C7 ?_)
   obtain rfl:i=l.length:=by omega
   exact ha
  |succ d ih =>
   intro i acc h ha
   have hal:acc.length=i:=by rw[ha];simp
   refine Ev.step (fun k=>by simp only[I8.l0];rfl) ?_
   refine ep (ep (ep (ep ?_)))
   rw[U0,Int.toNat_natCast]
   have htl:(l.take i).length=i:=by rw[List.length_take];omega
   have inner:∀ (e j c:Nat),j+e=i→c+ ((l.take i).drop j).countP (fun y=>decide (y>l.getD i 0))=(l.take i).countP (fun y=>decide (y>l.getD i 0))→c≤j→
     Ev (fun g=>I8.l1 g l acc (l.getD i 0) (c:Int) l (l.length:Int) (i:Int) (l.take i) ((l.take i).length:Int) (j:Int)) (AI7 l):=by
    intro e
    induction e with
    |zero =>
     intro j c hj hc hcj
     rw[List.drop_eq_nil_of_le (by omega),List.countP_nil,Nat.add_zero]at hc
     refine Ev.step (fun k=>by simp only[I8.l1];rfl) ?_
     rw[E2 (i:=i) (by omega)]
     refine en (ep (ih (i+1) _ (by omega) ?_))
     rw[ha,←List.range'_append (s:=0) (m:=i) (n:=1) (step:=1),List.map_append,hc]
     simp[Am1]
    |succ e ihe =>
     intro j c hj hc hcj
     refine Ev.step (fun k=>by simp only[I8.l1];rfl) ?_
     rw[L9 (l.take i) j 0 (by omega),List.countP_cons]at hc
     rw[U0,E2 (i:=j) (by omega),E2 (i:=c) (by omega)]
     refine ep (ep (ep ?_))
     refine X2 (fun hg=>?_) (fun hg=>?_)
     ·rw[if_pos (decide_eq_true hg)]at hc
      exact ihe (j+1) (c+1) (by omega) (by omega) (by omega)
     ·rw[if_neg (by simpa using hg)]at hc
      exact ihe (j+1) c (by omega) (by omega) (by omega)
   exact inner i 0 0 (by omega) (by rw[List.drop_zero,Nat.zero_add]) (by omega)
 exact this l.length 0 [] (by omega) rfl
def Ab0 (l:List Int):Int:=if((AI7 l).sum % 2)=1 then -1 else 1
theorem Ai0 (l:List Int)(hx:∀x∈l,0≤x∧x≤100):0≤l.sum:=by
 induction l with
 |nil=>simp
 |cons a l ih =>
  have h1:=ih (fun x h=>hx x (by simp[h]))
  have h2:=hx a (by simp)
  rw[List.sum_cons];omega
theorem Au4 (L:Nat→Int→Int→Option Int)(l:List Int)(r:Int)(hl:l.length≤100)(hx:∀x∈l,0≤x∧x≤100)
  (hs:∀ (i:Nat) (s r:Int),i<l.length→0≤s∧s≤100*i→Ev (fun g=>L g (s+l.getD i 0) ((i+1:Nat):Int)) r→Ev (fun g=>L g s (i:Int)) r) (he:Ev (fun g=>L g l.sum (l.length:Int)) r):Ev (fun g=>L g 0 0) r:=by
 have:∀ (d i:Nat) (s:Int),i+d=l.length→0≤s∧s≤100*i→s+ (l.drop i).sum=l.sum→Ev (fun g=>L g s (i:Int)) r:=by
  intro d
  induction d with
  |zero =>
   intro i s h h1 h2
   rw[List.drop_eq_nil_of_le (by omega),List.sum_nil,Int.add_zero]at h2
   obtain rfl:i=l.length:=by omega
   rw[h2];exact he
  |succ d ih =>
   intro i s h h1 h2
   have hm:=hx _ (e7 l i 0 (by omega))
   refine hs i s r (by omega) h1 (ih (i+1) _ (by omega) (by omega) ?_)
   rw[L9 l i 0 (by omega),List.sum_cons]at h2
   omega
 exact this l.length 0 0 (by omega) (by omega) (by simp)
theorem BL3 (s:Int)(h:0≤s):Int.tmod s 2=(s % 2:Int):=by
 obtain⟨n,rfl⟩:=Int.eq_ofNat_of_zero_le h
 exact Y8 n 2
theorem Ap8 (l:List Int)(hl:l.length≤100):Ev (fun g=>i8.f g l) (Ab0 l):=by
 unfold i8.f
 have hx:=Au5 l hl
 have hil:(AI7 l).length=l.length:=by simp[AI7]
 have h0:=Ai0 _ hx
 refine C6 (AU3 l hl) (Au4 (fun g s i=>i8.l0 g s (AI7 l) ((AI7 l).length:Int) i) (AI7 l) _ (by omega) hx (fun i s r hi hs k=>?_) ?_)
 ·have hm:=hx _ (e7 (AI7 l) i 0 hi)
  refine Ev.step (fun k=>by simp only[i8.l0];rfl) ?_
  rw[U0,E2 (by omega),E4 (by omega)]
  exact ep (ep (ep k))
 ·refine Ev.step (fun k=>by simp only[i8.l0];rfl) ?_
  refine en (C7 ?_)
  rw[BL3 _ h0]
  unfold Ab0
  rw[E4 (x:=2* ((AI7 l).sum % 2)) (by omega),E4 (by omega)]
  split<;>omega
theorem Ai7 (l:List Int)(hl:l.length≤100):Ev (fun g=>W7.f g l) (Ab0 l):=by
 unfold W7.f
 have hx:=Au5 l hl
 have hil:(AI7 l).length=l.length:=by simp[AI7]
 have h0:=Ai0 _ hx
 refine C6 (AO6 l hl) (Au4 (fun g s i=>W7.l0 g s (AI7 l) ((AI7 l).length:Int) i) (AI7 l) _ (by omega) hx (fun i s r hi hs k=>?_) ?_)
 ·have hm:=hx _ (e7 (AI7 l) i 0 hi)
  refine Ev.step (fun k=>by simp only[W7.l0];rfl) ?_
  rw[U0,E2 (by omega),E4 (by omega)]
  exact ep (ep (ep k))
 ·refine Ev.step (fun k=>by simp only[W7.l0];rfl) ?_
  refine en ?_
  rw[BL3 _ h0]
  unfold Ab0
  exact X2 (fun h=>C7 (by rw[if_pos h])) (fun h=>C7 (by rw[if_neg h]))
theorem BI8 (l:List Int) (i j:Nat)(v:Int)(h:i<l.length):(l.set i v).getD j 0=if i=j then v else l.getD j 0:=by
 simp only[List.getD_eq_getElem?_getD,List.getElem?_set]
 split
 ·rename_i e;subst e;rfl
 ·rfl
theorem Am8 (L:Nat→List Int→Int→Option (List Int))(l:List Int)(n:Nat)(v:Nat→Int)(hn:n≤l.length)
  (hs:∀ (i:Nat) (x r:List Int),i<n→x.length=l.length→Ev (fun g=>L g (x.set i (v i)) ((i+1:Nat):Int)) r→Ev (fun g=>L g x (i:Int)) r)
  (he:∀x:List Int,Ev (fun g=>L g x (n:Int)) x) (R:List Int) (hR:R.length=l.length) (hv:∀j,j<l.length→R.getD j 0=if j<n then v j else l.getD j 0):Ev (fun g=>L g l 0) R:=by
 have:∀ (d i:Nat) (x:List Int),i+d=n→x.length=l.length→(∀j,j<l.length→x.getD j 0=if j<i then v j else l.getD j 0)→Ev (fun g=>L g x (i:Int)) R:=by
  intro d
  induction d with
  |zero =>
   intro i x h hx hj
   obtain rfl:i=n:=by omega
   have:x=R:=BM9 x R (by omega) (fun j h1=>by rw[hj j (by omega),hv j (by omega)])
   rw[←this];exact he x
  |succ d ih =>
   intro i x h hx hj
   refine hs i x R (by omega) hx (ih (i+1) _ (by omega) (by rw[List.length_set];exact hx) (fun j h1=>?_))
   rw[BI8 _ _ _ _ (by omega)]
   by_cases e:i=j
   ·subst e;rw[if_pos rfl,if_pos (by omega)]
   ·rw[if_neg e,hj j h1]
    by_cases e2:j<i
    ·rw[if_pos e2,if_pos (by omega)]
    ·rw[if_neg e2,if_neg (by omega)]
 exact this n 0 l (by omega) rfl (fun j _=>by rw[if_neg (by omega)])
theorem BE7 (l:List Int)(i:Nat)(h:i<l.length):l.reverse.getD i 0=l.getD (l.length - 1 - i) 0:=by
 rw[List.getD_eq_getElem?_getD,List.getD_eq_getElem?_getD,List.getElem?_reverse h]
theorem Am0 (a b:List Int)(i:Nat):(a++b).getD i 0=if i<a.length then a.getD i 0 else b.getD (i - a.length) 0:=by
 simp only[List.getD_eq_getElem?_getD,List.getElem?_append]
 split<;>rfl
theorem Ae4 (l:List Int) (n i:Nat)(h:i<n):(l.take n).getD i 0=l.getD i 0:=by
 rw[List.getD_eq_getElem?_getD,List.getElem?_take_of_lt h,←List.getD_eq_getElem?_getD]
theorem AU7 (l:List Int) (n i:Nat):(l.drop n).getD i 0=l.getD (n+i) 0:=by
 rw[List.getD_eq_getElem?_getD,List.getElem?_drop,←List.getD_eq_getElem?_getD]
def BI4 (l:List Int)(n:Nat):List Int:=(l.take n).reverse++l.drop n
def Ax3 (l:List Int)(n:Nat):List Int:=(l.take n).drop 1++l.getD 0 0::l.drop n
theorem Am9 (l:List Int)(n:Nat):(BI4 l n).Perm l:=by
 unfold BI4
 refine((List.reverse_perm _).append_right _).trans ?_
 rw[List.take_append_drop]
theorem Al6 (l:List Int)(n:Nat)(h:1≤n)(hn:n≤l.length):(Ax3 l n).Perm l:=by
 unfold Ax3
 refine List.perm_middle.trans ?_
 cases l with
 |nil=>simp at hn;omega
 |cons a l =>
  obtain⟨m,rfl⟩:∃m,n=m+1:=⟨n - 1,by omega⟩
  simp
theorem Ac4 (l:List Int)(n:Nat)(hn:n≤l.length)(hl:l.length≤100):Ev (fun g=>H4.l0 g l l 0 1 (n:Int) 0) (BI4 l n):=by
 refine Am8 (fun g x i=>H4.l0 g l x i 1 (n:Int) 0) l n (fun i=>l.getD (n - 1 - i) 0) hn (fun i x r hi hx k=>?_) (fun x=>?_) (BI4 l n) (Am9 l n).length_eq (fun j hj=>?_)
 ·refine Ev.step (fun k=>by simp only[H4.l0];rfl) ?_
  have e:wrap64 ((wrap64 ((n:Int) - 1)) - (i:Int))=((n - 1 - i:Nat):Int):=by rw[E4 (x:=(n:Int) - 1) (by omega),E4 (by omega)];omega
  rw[e,U0,E2 (by omega),Int.toNat_natCast]
  exact ep (ep (ep (ep (ep k))))
 ·refine Ev.step (fun k=>by simp only[H4.l0];rfl) ?_
  exact en (C7 rfl)
 ·have htl:(l.take n).length=n:=by rw[List.length_take];omega
  unfold BI4
  rw[Am0,List.length_reverse,htl]
  by_cases h:j<n
  ·rw[if_pos h,if_pos h,BE7 _ _ (by omega),htl,Ae4 _ _ _ (by omega)]
  ·rw[if_neg h,if_neg h,AU7,show n+ (j - n)=j by omega]
theorem Ae1 (l:List Int)(n:Nat)(h1:2≤n)(hn:n≤l.length)(hl:l.length≤100):Ev (fun g=>H4.l1 g l l 0 2 (n:Int) 0) (Ax3 l n):=by
 refine Am8 (fun g x i=>H4.l1 g l x i 2 (n:Int) 0) l n (fun i=>l.getD ((i+1) % n) 0) hn (fun i x r hi hx k=>?_) (fun x=>?_) (Ax3 l n) (Al6 l n (by omega) hn).length_eq (fun j hj=>?_)
 ·refine Ev.step (fun k=>by simp only[H4.l1];rfl) ?_
  have hm:=Nat.mod_lt (i+1) (show 0<n by omega)
  rw[E2 (by omega),Y8,U0,Int.toNat_natCast]
  exact ep (en (ep (ep (ep (ep k)))))
 ·refine Ev.step (fun k=>by simp only[H4.l1];rfl) ?_
  exact en (C7 rfl)
 ·have htl:((l.take n).drop 1).length=n - 1:=by rw[List.length_drop,List.length_take];omega
  unfold Ax3
  rw[Am0,htl]
  by_cases h:j<n - 1
  ·rw[if_pos h,if_pos (by omega),AU7,Ae4 _ _ _ (by omega),Nat.mod_eq_of_lt (by omega),Nat.add_comm]
  ·rw[if_neg h]
   by_cases h2:j<n
   ·obtain rfl:j=n - 1:=by omega
    rw[if_pos h2,show n - 1+1=n by omega,Nat.mod_self,Nat.sub_self];rfl
   ·rw[if_neg h2,show j - (n - 1)=(j - n)+1 by omega,List.getD_cons_succ,AU7,show n+ (j - n)=j by omega]
def AL2 (n k i j:Nat):Bool:=if k=0 then decide (i<j∧j<n)else decide (2≤i∧i≤n)
theorem BG2 (n:Nat) (k i j:Nat)(hk:k≤2)(hn:n≤12)(hi:i≤999999)(hj:j≤999999)(hj0:k≠0→j=0):AB1.f (n:Int) (k:Int) (i:Int) (j:Int)=some (AL2 n k i j)∧AB2.f (n:Int) (k:Int) (i:Int) (j:Int)=some (AL2 n k i j):=by
 have hk3:k=0∨k=1∨k=2:=by omega
 have g0:AL2 n 0 i j=decide (i<j∧j<n):=rfl
 have g1:AL2 n 1 i 0=decide (2≤i∧i≤n):=rfl
 have g2:AL2 n 2 i 0=decide (2≤i∧i≤n):=rfl
 constructor
 ·unfold AB1.f
  rcases hk3 with rfl|rfl|rfl
  ·rw[if_pos (by omega),if_pos (by omega),g0]
   by_cases h:i<j
   ·rw[if_pos (by omega)];congr 1;exact decide_eq_decide.mpr (by omega)
   ·rw[if_neg (by omega)];congr 1;rw[eq_comm,decide_eq_false_iff_not];omega
  ·obtain rfl:=hj0 (by omega)
   rw[if_neg (by omega),if_pos (by omega),H9,Option.bind_some,g1]
   by_cases h:2≤i∧i≤n
   ·rw[if_pos (I3.mpr (by omega)),decide_eq_true h];rfl
   ·rw[if_neg (fun e=>h (by have:=I3.mp e;omega)),decide_eq_false h]
  ·obtain rfl:=hj0 (by omega)
   rw[if_neg (by omega),if_neg (by omega),if_pos (by omega),H9,Option.bind_some,g2]
   by_cases h:2≤i∧i≤n
   ·rw[if_pos (I3.mpr (by omega)),decide_eq_true h];rfl
   ·rw[if_neg (fun e=>h (by have:=I3.mp e;omega)),decide_eq_false h]
 ·unfold AB2.f
  rcases hk3 with rfl|rfl|rfl
  ·rw[if_pos (by omega),J6,Option.bind_some,E4 (by omega),g0]
   by_cases h:1≤j∧j<n
   ·rw[if_pos (I3.mpr (by omega)),J6,Option.bind_some,E4 (by omega)]
    congr 1
    rw[Bool.eq_iff_iff,I3,decide_eq_true_eq];omega
   ·rw[if_neg (fun e=>h (by have:=I3.mp e;omega))]
    congr 1;rw[eq_comm,decide_eq_false_iff_not];omega
  ·obtain rfl:=hj0 (by omega)
   rw[if_neg (by omega),if_pos (by omega),J6,Option.bind_some,g1]
   by_cases h:2≤i∧i≤n
   ·rw[if_pos (I3.mpr (by omega)),decide_eq_true h];rfl
   ·rw[if_neg (fun e=>h (by have:=I3.mp e;omega)),decide_eq_false h]
  ·obtain rfl:=hj0 (by omega)
   rw[if_neg (by omega),if_neg (by omega),if_pos (by omega),J6,Option.bind_some,g2]
   by_cases h:2≤i∧i≤n
   ·rw[if_pos (I3.mpr (by omega)),decide_eq_true h];rfl
   ·rw[if_neg (fun e=>h (by have:=I3.mp e;omega)),decide_eq_false h]
theorem BG3 (l:List Int) (i j:Nat)(hi:i<l.length)(hj:j<l.length):((l.set i (l.getD j 0)).set j (l.getD i 0)).Perm l:=by
 have e1:l.getD j 0=l[j]:=by rw[List.getD_eq_getElem?_getD,List.getElem?_eq_getElem hj];rfl
 have e2:l.getD i 0=l[i]:=by rw[List.getD_eq_getElem?_getD,List.getElem?_eq_getElem hi];rfl
 rw[e1,e2]
 exact List.set_set_perm hi hj
theorem AZ1 (l:List Int) (k i j:Nat)(h:X1 l=true)(hk:k≤2)(hi:i≤999999)(hj:j≤999999)(hj0:k≠0→j=0):∃x b,(b=true→X1 x=true)∧(b=false→x=[])∧Ev (fun g=>V8.f g l (k:Int) (i:Int) (j:Int)) (x,b)∧Ev (fun g=>V9.f g l (k:Int) (i:Int) (j:Int)) (x,b):=by
 obtain⟨hn,hP⟩:=AK7.mp h
 obtain⟨m1,m2⟩:=BG2 l.length k i j hk hn hi hj hj0
 have hII:=X0 l
 have hSS:=k5 l (by omega)
 rw[h]at hII hSS
 by_cases hc:AL2 l.length k i j=true
 ·have key:∃x:List Int,x.Perm l∧AB8.f l (k:Int) (i:Int) (j:Int)=some x∧Ev (fun g=>H4.f g l (k:Int) (i:Int) (j:Int)) x:=by
   have hk3:k=0∨k=1∨k=2:=by omega
   rcases hk3 with rfl|rfl|rfl
   ·have hc:i<j∧j<l.length:=of_decide_eq_true hc
    refine⟨(l.set i (l.getD j 0)).set j (l.getD i 0),BG3 l i j (by omega) (by omega),?_,?_⟩
    ·unfold AB8.f
     rw[m0 l (by omega),Option.bind_some,if_pos (by omega),if_pos (by omega),U0,U0,Int.toNat_natCast,Int.toNat_natCast]
    ·unfold H4.f
     refine D8 (b6 l (by omega)) (D9 rfl (ep (ep (ep (ep (ep (ep (C7 ?_))))))))
     rw[U0,U0,Int.toNat_natCast,Int.toNat_natCast]
   ·obtain rfl:=hj0 (by omega)
    have hc:2≤i∧i≤l.length:=of_decide_eq_true hc
    refine⟨BI4 l i,Am9 l i,?_,?_⟩
    ·unfold AB8.f
     rw[m0 l (by omega),Option.bind_some,if_neg (by omega),if_pos (by omega),if_pos (by omega),Int.toNat_natCast];rfl
    ·unfold H4.f
     exact D8 (b6 l (by omega)) (en (D9 rfl (Ac4 l i (by omega) (by omega))))
   ·obtain rfl:=hj0 (by omega)
    have hc:2≤i∧i≤l.length:=of_decide_eq_true hc
    refine⟨Ax3 l i,Al6 l i (by omega) (by omega),?_,?_⟩
    ·unfold AB8.f
     rw[m0 l (by omega),Option.bind_some,if_neg (by omega),if_neg (by omega),if_pos (by omega),if_pos (by omega),Int.toNat_natCast]
     congr 1
     unfold Ax3
     have htl:((l.take i).drop 1).length=i - 1:=by rw[List.length_drop,List.length_take];omega
     rw[List.set_append_right _ _ (by omega),htl,Nat.sub_self,L9 l (i - 1) 0 (by omega),List.set_cons_zero,show i - 1+1=i by omega];rfl
    ·unfold H4.f
     exact D8 (b6 l (by omega)) (en (en (Ae1 l i hc.1 hc.2 (by omega))))
  obtain⟨x,hp,e1,e2⟩:=key
  refine⟨x,true,fun _=>Ai1 hn (Au7 hP hp),by simp,?_,?_⟩
  ·unfold V8.f
   exact C6 hII (D9 rfl (D8 m1 (D9 hc (D8 e1 (C7 rfl)))))
  ·unfold V9.f
   exact C6 hSS (D9 rfl (D8 m2 (D9 hc (C6 e2 (C7 rfl)))))
 ·refine⟨[],false,by simp,by simp,?_,?_⟩
  ·unfold V8.f
   exact C6 hII (D9 rfl (D8 m1 (G8 hc (C7 rfl))))
  ·unfold V9.f
   exact C6 hSS (D9 rfl (D8 m2 (G8 hc (C7 rfl))))
end Go.Proofs.YtpiogigidgejpaaGreatDoor.Pure
