import Derived.Test.YtpiogigidgejpaaGreatDoorY0
import Derived.Test.YtpiogigidgejpaaGreatDoorY1
namespace Go.Proofs.YtpiogigidgejpaaGreatDoor.Sq
open Go Go.RowKit Go.Proofs.YtpiogigidgejpaaGreatDoorW.PrintWords Go.Proofs.YtpiogigidgejpaaGreatDoorW.PrintLast Go.Proofs.YtpiogigidgejpaaGreatDoorW.PrintMore
set_option linter.unusedVariables false
def lb (n m:Nat):Array Bool:=((List.range n).map fun i=>m.testBit i).toArray
theorem am {P:Prop} (h:P):Aside0 P:=⟨h⟩
theorem od {p:Prop} [Decidable p] (h:decide p=true:=by first|(with_reducible assumption)|assumption):p:=of_decide_eq_true h
theorem ex {α:Type} (a:α):∃j,a=j:=⟨a,rfl⟩
theorem ey {α:Type} (a:α):∃y,Aside0 (y=a):=⟨a,⟨rfl⟩⟩
theorem jt {c:Prop} [Decidable c] {α:Type} {a:Option α} {r:α} (h:(if c then a else none)=some r):c∧a=some r:=by
 by_cases k:c
 ·exact⟨k,by rwa [if_pos k]at h⟩
 ·rw[if_neg k]at h;exact absurd h (by simp)
theorem je {c:Prop} [Decidable c] {α:Type} {a:Option α} {r:α} (h:(if c then none else a)=some r):¬c∧a=some r:=by
 by_cases k:c
 ·rw[if_pos k]at h;exact absurd h (by simp)
 ·exact⟨k,by rwa [if_neg k]at h⟩
theorem jo {c:Prop} [Decidable c] {α:Type} {a b:Option α} {r:α} (h:(if c then a else b)=some r):(c∧a=some r)∨(¬c∧b=some r):=by
 by_cases k:c
 ·exact .inl ⟨k,by rwa [if_pos k]at h⟩
 ·exact .inr ⟨k,by rwa [if_neg k]at h⟩
theorem jb {t:Bool} {α:Type} {a b:Option α} {r:α} (h:(if t=true then a else b)=some r):(t=true∧a=some r)∨(t=false∧b=some r):=by
 cases t
 ·exact .inr ⟨rfl,by rwa [if_neg (by decide)]at h⟩
 ·exact .inl ⟨rfl,by rwa [if_pos rfl]at h⟩
theorem bi {α β:Type} {o:Option α} {f:α→Option β} {r:β} (h:o.bind f=some r):∃t,Aside0 (o=some t)∧f t=some r:=by
 obtain⟨t,h1,h2⟩:=Option.bind_eq_some_iff.mp h
 exact⟨t,⟨h1⟩,h2⟩
theorem bn {α β:Type} {a:α} {f:α→Option β} {r:β} (h:(some a).bind f=some r):∃t,Aside0 (t=a)∧f t=some r:=⟨a,⟨rfl⟩,h⟩
theorem fz {P:Prop} (h:P:=by first|rfl|(simp;done)|(simp[*];done)):P:=h
theorem fe {P:Prop} (h:P:=by first|rfl|(simp[M7,M6]<;>rfl)|(simp[*,M7,M6]<;>rfl)):P:=h
theorem dz {P:Prop} (h:P:=by repeat(first|exact Drawn0.refl _|apply Drawn0.step)):P:=h
theorem dd' {P:Prop} (h:P:=by first|exact⟨rfl,_,World.drewN_drewN _ _ _⟩|exact⟨rfl,_,Eq.trans (World.drewN_drewN _ _ _) (congrArg (World.drewN _) (Nat.add_assoc _ _ _))⟩):P:=h
theorem nz {P:Prop} (h:P:=by first|exact Kd.R_nil _ _ _ _ _|exact Kd.N_nil _ _ _ _ _|exact Kd.V_nil _ _ _ _ _|exact Kd.Q_nil _ _ _ _ _|exact Kd.S_nil _ _ _ _ _):P:=h
theorem bz {P:Prop} (h:P:=by repeat(first|(with_reducible first|exact HB.out|apply R2|apply J8|apply F8)|exact HB.out)):P:=h
theorem bs {P E:Prop} (e:E)(h:E→P:=by intro e_;repeat(first|(with_reducible first|exact HB.out|apply R2|apply J8|apply F8|refine S0 ?_ e_)|exact HB.out)):P:=h e
theorem kk' {P:Prop} (h:P:=by repeat(first|(with_reducible first|exact HK.out|apply AB0.alloc|apply AB0.drewN|apply AB0.drew)|exact HK.out)):P:=h
theorem rR {P Q:Prop} (h:Aside0 P)(f:P→Q:=by intro h_;(with_reducible repeat(first|apply Kd.R_alloc|apply Kd.R_drewN|apply Kd.R_drew));exact h_):Q:=f h.out
theorem rS {P Q:Prop} (h:Aside0 P)(f:P→Q:=by intro h_;(with_reducible repeat(first|apply Kd.S_alloc|apply Kd.S_drewN|apply Kd.S_drew));exact h_):Q:=f h.out
theorem rN {P Q:Prop} (h:Aside0 P)(f:P→Q:=by intro h_;(with_reducible repeat(first|apply Kd.N_alloc|apply Kd.N_drewN|apply Kd.N_drew));exact h_):Q:=f h.out
theorem rV {P Q:Prop} (h:Aside0 P)(f:P→Q:=by intro h_;(with_reducible repeat(first|apply Kd.V_alloc|apply Kd.V_drewN|apply Kd.V_drew));exact h_):Q:=f h.out
theorem M8 {P Q:Prop} (h:P)(f:P→Q:=by intro h_;repeat(first|exact h_|(with_reducible refine Kd.C_alloc ?_ _)|(with_reducible refine Kd.C_drewN ?_ _)|(with_reducible refine Kd.C_drew ?_))):Q:=f h
theorem s2 {α β:Type} {a c:α} {b d:β} (h:some (a,b)=some (c,d)):a=c∧b=d:=by
 simp only[Option.some.injEq,Prod.mk.injEq]at h;exact h
theorem s3 {α β γ:Type} {a c:α} {b d:β} {x y:γ} (h:some (a,b,x)=some (c,d,y)):a=c∧b=d∧x=y:=by
 simp only[Option.some.injEq,Prod.mk.injEq]at h;exact h
theorem ml {P:Prop} (h:P:=by first|(simp only[List.length_drop,List.length_take];rfl)|(simp only[List.length_drop,List.length_take];rw[(fun(x:Int)(n:Nat)(h:(x≤(n:Int))=True)=>Nat.min_eq_left (by have:=of_eq_true h;omega):∀ (x:Int)(n:Nat),(x≤(n:Int))=True→min x.toNat n=x.toNat) _ _ (by assumption)];rfl)):P:=h
section
variable {P:Program} {ops:Array Oper} {Q:Exit→Act→World→Prop}
theorem gl' {rest:List Oper} {oi:Oper} {a:Act} {w:World} (N:Tmp) {f:FuncId} {fn:Func} (hf:P.funcs[f]? =some fn)(args:Array Value) {as:Array Operand} {ts:Array TypeId}
  (h:Calls P f args w fun e w'=>∃v,e=.returned v∧wpList P ops Q rest (a.put (some N) v) w')
  (hd:oi.dst=some N:=by rfl) (hg:oi.guard=none:=by rfl) (hname:(fn.name== "runtime.NumGoroutine")=false:=by kernel_rfl) (hb:fn.body.isSome=true:=by rfl)
  (hop:oi.op=.call { callee:=.value (.func f),args:=as,argTypes:=ts }:=by rfl)
  (hargs:as.map a.eval=args:=by(try simp only[List.map_toArray,List.map_cons,List.map_nil]);first|done|rfl|(simp only[List.length_drop,List.length_take];rfl)):wpList P ops Q (oi::rest) a w :=
 BP7 (some N) hd hg hf hname hb args hop hargs h
theorem gs' {oi:Oper} {N:Option Tmp} {a:Act} {w:World} {K:Act→World→Prop} {f:FuncId} {fn:Func} (hf:P.funcs[f]? =some fn)(args:Array Value) {as:Array Operand} {ts:Array TypeId}
  (h:Calls P f args w fun e w'=>∃v,e=.returned v∧K (a.put N v) w')
  (hname:(fn.name== "runtime.NumGoroutine")=false:=by kernel_rfl) (hb:fn.body.isSome=true:=by rfl)
  (hw:Region.wanted oi (yielded ops a.tmps)=true:=by rfl) (hN:oi.dst=N:=by rfl) (hop:oi.op=.call { callee:=.value (.func f),args:=as,argTypes:=ts }:=by rfl)
  (hargs:as.map a.eval=args:=by(try simp only[List.map_toArray,List.map_cons,List.map_nil]);first|done|rfl|(simp only[List.length_drop,List.length_take];rfl)):if Region.wanted oi (yielded ops a.tmps)=true then Oper.wp P oi a w K Q else K (a.put N undef) w :=
 AS9 hf hname hb args hw hN hop hargs h
end
section
variable {P:Program} {ops:Array Oper} {Q:Exit→Act→World→Prop} {rest:List Oper} {oi:Oper} {a:Act} {w:World} {f:FuncId} {fn:Func} {as:Array Operand} {ts:Array TypeId} {args:Array Value} {N:Tmp}
theorem ga (f:FuncId) {Q':Exit→Act→World→Prop} (h:wpList P ops Q' (oi::rest) a w)(_ho:oi.op=.call { callee:=.value (.func f),args:=as,argTypes:=ts }:=by with_reducible rfl):wpList P ops Q' (oi::rest) a w:=h
theorem gx {R:Ending→World→Prop} (hf:P.funcs[f]? =some fn)(h:Calls P f args w R)(k:∀e w',R e w'→∃v,e=.returned v∧wpList P ops Q rest (a.put (some N) v) w')
  (hd:oi.dst=some N:=by rfl) (hg:oi.guard=none:=by rfl) (hname:(fn.name== "runtime.NumGoroutine")=false:=by kernel_rfl) (hb:fn.body.isSome=true:=by rfl)
  (hop:oi.op=.call { callee:=.value (.func f),args:=as,argTypes:=ts }:=by with_reducible rfl)
  (hargs:as.map a.eval=args:=by(try simp only[List.map_toArray,List.map_cons,List.map_nil]);first|done|rfl|(simp only[List.length_drop,List.length_take];rfl)|(simp only[List.length_drop,List.length_take];rw[(fun(x:Int) (n:Nat) (h:(x≤(n:Int))=True)=>Nat.min_eq_left (by have:=of_eq_true h;omega):∀ (x:Int) (n:Nat),(x≤(n:Int))=True→min x.toNat n=x.toNat) _ _ (by assumption)];rfl)):wpList P ops Q (oi::rest) a w :=
 BP7 (some N) hd hg hf hname hb args hop hargs (h.mono k)
theorem ge {S:World→Prop} {v:Value} (hf:P.funcs[f]? =some fn)(h:Calls P f args w fun e w'=>e=.returned v∧S w')(k:∀w',S w'→wpList P ops Q rest (a.put (some N) v) w')
  (hd:oi.dst=some N:=by rfl) (hg:oi.guard=none:=by rfl) (hname:(fn.name== "runtime.NumGoroutine")=false:=by kernel_rfl) (hb:fn.body.isSome=true:=by rfl)
  (hop:oi.op=.call { callee:=.value (.func f),args:=as,argTypes:=ts }:=by with_reducible rfl)
  (hargs:as.map a.eval=args:=by(try simp only[List.map_toArray,List.map_cons,List.map_nil]);first|done|rfl|(simp only[List.length_drop,List.length_take];rfl)|(simp only[List.length_drop,List.length_take];rw[(fun(x:Int) (n:Nat) (h:(x≤(n:Int))=True)=>Nat.min_eq_left (by have:=of_eq_true h;omega):∀ (x:Int) (n:Nat),(x≤(n:Int))=True→min x.toNat n=x.toNat) _ _ (by assumption)];rfl)):wpList P ops Q (oi::rest) a w :=
 gx hf h (fun _ w' r=>⟨v,r.1,k w' r.2⟩) hd hg hname hb hop hargs
theorem gp {v:Value} (hf:P.funcs[f]? =some fn)(h:Calls P f args w fun e w'=>e=.returned v∧Drawn0 w w')(k:∀nd,wpList P ops Q rest (a.put (some N) v) (w.drewN nd))
  (hd:oi.dst=some N:=by rfl) (hg:oi.guard=none:=by rfl) (hname:(fn.name== "runtime.NumGoroutine")=false:=by kernel_rfl) (hb:fn.body.isSome=true:=by rfl)
  (hop:oi.op=.call { callee:=.value (.func f),args:=as,argTypes:=ts }:=by with_reducible rfl)
  (hargs:as.map a.eval=args:=by(try simp only[List.map_toArray,List.map_cons,List.map_nil]);first|done|rfl|(simp only[List.length_drop,List.length_take];rfl)|(simp only[List.length_drop,List.length_take];rw[(fun(x:Int) (n:Nat) (h:(x≤(n:Int))=True)=>Nat.min_eq_left (by have:=of_eq_true h;omega):∀ (x:Int) (n:Nat),(x≤(n:Int))=True→min x.toNat n=x.toNat) _ _ (by assumption)];rfl)):wpList P ops Q (oi::rest) a w :=
 ge hf h (fun w' r=>by obtain⟨n,rfl⟩:=r;exact k n) hd hg hname hb hop hargs
theorem gs {S:Value→World→Prop} {F:Value→Value} (hf:P.funcs[f]? =some fn)(h:Calls P f args w fun e w'=>∃v,e=.returned (F v)∧S v w')(k:∀v w',S v w'→wpList P ops Q rest (a.put (some N) (F v)) w')
  (hd:oi.dst=some N:=by rfl) (hg:oi.guard=none:=by rfl) (hname:(fn.name== "runtime.NumGoroutine")=false:=by kernel_rfl) (hb:fn.body.isSome=true:=by rfl)
  (hop:oi.op=.call { callee:=.value (.func f),args:=as,argTypes:=ts }:=by with_reducible rfl)
  (hargs:as.map a.eval=args:=by(try simp only[List.map_toArray,List.map_cons,List.map_nil]);first|done|rfl|(simp only[List.length_drop,List.length_take];rfl)|(simp only[List.length_drop,List.length_take];rw[(fun(x:Int) (n:Nat) (h:(x≤(n:Int))=True)=>Nat.min_eq_left (by have:=of_eq_true h;omega):∀ (x:Int) (n:Nat),(x≤(n:Int))=True→min x.toNat n=x.toNat) _ _ (by assumption)];rfl)):wpList P ops Q (oi::rest) a w :=
 gx hf h (fun _ w' ⟨v,r,s⟩=>⟨F v,r,k v w' s⟩) hd hg hname hb hop hargs
theorem gB {v:Value} {w0:World} (hf:P.funcs[f]? =some fn)(h:Calls P f args w fun e w'=>e=.returned v∧Below w.heap.size w w')(HB:Below w0.heap.size w0 w)(k:∀w',Aside0 (Below w0.heap.size w0 w')→wpList P ops Q rest (a.put (some N) v) w')
  (hd:oi.dst=some N:=by rfl) (hg:oi.guard=none:=by rfl) (hname:(fn.name== "runtime.NumGoroutine")=false:=by kernel_rfl) (hb:fn.body.isSome=true:=by rfl)
  (hop:oi.op=.call { callee:=.value (.func f),args:=as,argTypes:=ts }:=by with_reducible rfl)
  (hargs:as.map a.eval=args:=by(try simp only[List.map_toArray,List.map_cons,List.map_nil]);first|done|rfl|(simp only[List.length_drop,List.length_take];rfl)|(simp only[List.length_drop,List.length_take];rw[(fun(x:Int) (n:Nat) (h:(x≤(n:Int))=True)=>Nat.min_eq_left (by have:=of_eq_true h;omega):∀ (x:Int) (n:Nat),(x≤(n:Int))=True→min x.toNat n=x.toNat) _ _ (by assumption)];rfl)):wpList P ops Q (oi::rest) a w :=
 ge hf h (fun w' r=>k w' ⟨E8 HB r⟩) hd hg hname hb hop hargs
theorem gR {α:Type} {d:Kd α} {t:Nat} {ok:Nat→Prop} {xs:List α} {F:Value→Value} {w0:World} (hf:P.funcs[f]? =some fn)(h:Calls P f args w fun e w'=>∃v,e=.returned (F v)∧d.R t w' w.heap.size ok v xs∧Below w.heap.size w w')(HB:Below w0.heap.size w0 w)
  (k:∀v w',Aside0 (d.R t w' w0.heap.size ok v xs)→Aside0 (Below w0.heap.size w0 w')→wpList P ops Q rest (a.put (some N) (F v)) w')
  (hd:oi.dst=some N:=by rfl) (hg:oi.guard=none:=by rfl) (hname:(fn.name== "runtime.NumGoroutine")=false:=by kernel_rfl) (hb:fn.body.isSome=true:=by rfl)
  (hop:oi.op=.call { callee:=.value (.func f),args:=as,argTypes:=ts }:=by with_reducible rfl)
  (hargs:as.map a.eval=args:=by(try simp only[List.map_toArray,List.map_cons,List.map_nil]);first|done|rfl|(simp only[List.length_drop,List.length_take];rfl)|(simp only[List.length_drop,List.length_take];rw[(fun(x:Int) (n:Nat) (h:(x≤(n:Int))=True)=>Nat.min_eq_left (by have:=of_eq_true h;omega):∀ (x:Int) (n:Nat),(x≤(n:Int))=True→min x.toNat n=x.toNat) _ _ (by assumption)];rfl)):wpList P ops Q (oi::rest) a w :=
 gs hf h (fun v w' r=>k v w' ⟨Kd.R_lower r.1 (C5 HB)⟩ ⟨E8 HB r.2⟩) hd hg hname hb hop hargs
end
section
variable {P:Program} {f:FuncId} {args:Array Value} {w:World} {R':Ending→World→Prop}
theorem qp {v:Value} (h:Calls P f args w fun e w'=>e=.returned v∧Drawn0 w w')(k:∀nd,R' (.returned v) (w.drewN nd)):Calls P f args w R' :=
 h.mono fun e w' ⟨r,s⟩=>by obtain⟨n,rfl⟩:=s;subst r;exact k n
end
theorem lz {Q:Prop} (h:Q:=by first|exact HL_.out|exact HL_.out.drewN _|exact HL_.out.below HB.out|(refine HL_.out.below ?_;repeat(first|(with_reducible first|exact HB.out|apply R2|apply J8|apply F8)|exact HB.out))|(refine HL_.out.below ?_;repeat(first|(with_reducible first|exact Below.refl _ _|apply R2|apply J8|apply F8)|exact Below.refl _ _))):Q:=h
theorem rM {α:Type} {d:Kd α} {t:Nat} {w:World} {B:Nat} {ok ok':Nat→Prop} {v:Value} {xs:List α} {Q:Prop} (h:Aside0 (d.R t w B ok v xs))(hm:∀k,ok k→ok' k)(f:d.R t w B ok' v xs→Q:=by intro h_;(with_reducible repeat(first|apply Kd.R_alloc|apply Kd.R_drewN|apply Kd.R_drew));exact h_):Q:=f (Kd.R_mono h.out hm)
section
variable {α β:Type} {r:α} {a b:Option α} {G:Prop} {c:Prop} [Decidable c]
theorem it (k:c→a=some r→G):(if c then a else none)=some r→G:=fun h=>k (jt h).1 (jt h).2
theorem U9 (k:decide c=true→a=some r→G):(if c then a else none)=some r→G:=fun h=>k (decide_eq_true (jt h).1) (jt h).2
theorem if' (k:c=True→decide c=true→a=some r→G):(if c then a else none)=some r→G:=fun h=>k (eq_true (jt h).1) (decide_eq_true (jt h).1) (jt h).2
theorem il (k:Aside0 c→a=some r→G):(if c then a else none)=some r→G:=fun h=>k ⟨(jt h).1⟩ (jt h).2
theorem ie (k:¬c→a=some r→G):(if c then none else a)=some r→G:=fun h=>k (je h).1 (je h).2
theorem io (k:c→a=some r→G)(l:¬c→b=some r→G):(if c then a else b)=some r→G:=fun h=>(jo h).elim (fun h=>k h.1 h.2) (fun h=>l h.1 h.2)
theorem iD (k:decide c=true→a=some r→G)(l:decide c=false→b=some r→G):(if c then a else b)=some r→G:=io (fun h=>k (decide_eq_true h)) (fun h=>l (decide_eq_false h))
theorem iE {τ:Type} [BEq τ] [LawfulBEq τ] {x y:τ} [Decidable (x=y)] (k:(x==y)=true→(x != y)=false→a=some r→G)(l:¬x=y→(x==y)=false→(x != y)=true→b=some r→G):(if x=y then a else b)=some r→G :=
 io (fun h=>k (beq_iff_eq.mpr h) (bne_eq_false_iff_eq.mpr h)) (fun h=>l h (beq_eq_false_iff_ne.mpr h) (bne_iff_ne.mpr h))
theorem iN {τ:Type} [BEq τ] [LawfulBEq τ] {x y:τ} [Decidable (x=y)] (l:¬x=y→(x==y)=false→(x != y)=true→b=some r→G):(if x=y then none else b)=some r→G :=
 ie (fun h=>l h (beq_eq_false_iff_ne.mpr h) (bne_iff_ne.mpr h))
theorem iB {t:Bool} (k:t=true→a=some r→G)(l:t=false→b=some r→G):(if t=true then a else b)=some r→G:=fun h=>(jb h).elim (fun h=>k h.1 h.2) (fun h=>l h.1 h.2)
theorem ib {o:Option β} {f:β→Option α} (k:∀t,Aside0 (o=some t)→f t=some r→G):o.bind f=some r→G:=fun h=>by obtain⟨t,h1,h2⟩:=bi h;exact k t h1 h2
theorem iy {x:β} {f:β→Option α} (k:∀t,Aside0 (t=x)→f t=some r→G):(some x).bind f=some r→G:=fun h=>k x ⟨rfl⟩ h
theorem ia (k:Aside0 (a=some r)→G):a=some r→G:=fun h=>k ⟨h⟩
theorem i1 {x:α} (k:x=r→G):some x=some r→G:=fun h=>k (Option.some.inj h)
end
theorem i2 {α β:Type} {a c:α} {b d:β} {G:Prop} (k:a=c→b=d→G):some (a,b)=some (c,d)→G:=fun h=>k (s2 h).1 (s2 h).2
theorem i3 {α β γ:Type} {a c:α} {b d:β} {x y:γ} {G:Prop} (k:a=c→b=d→x=y→G):some (a,b,x)=some (c,d,y)→G:=fun h=>k (s3 h).1 (s3 h).2.1 (s3 h).2.2
section
variable {P:Program} {ops:Array Oper} {Q:Exit→Act→World→Prop} {rest:List Oper} {o:Oper} {a:Act} {w0 W:World}
theorem gd (N:Tmp)(h:wpList P ops Q (o::rest) a W)(_h:o.dst=some N:=by with_reducible rfl):wpList P ops Q (o::rest) a W:=h
theorem gb (i j:Tmp) {ts:Array TypeId} (h:wpList P ops Q (o::rest) a W)(_h:o.op=.call { callee:=.builtin .append,args:=#[.tmp i,.tmp j],argTypes:=ts }:=by with_reducible rfl):wpList P ops Q (o::rest) a W:=h
theorem gt (t:TypeId)(p:Tmp) {v:Operand} (h:wpList P ops Q (o::rest) a W)(_h:o.op=.store t (.tmp p) v:=by with_reducible rfl):wpList P ops Q (o::rest) a W:=h
theorem rl {α:Type} (d:Kd α)(e:Nat) {N:Tmp} (xs:List α)(inner:List Value)(hrep:J7 (d.M W W.heap.size fun _=>True) d.sz xs inner)
  (h:∀v1 w1,d.R e w1 W.heap.size (fun _=>True) v1 xs→Below W.heap.size W w1→wpList P ops Q rest (a.put o.dst v1) w1)
  (hg:o.guard=none:=by rfl) (hd:o.dst=some N:=by rfl)
  (hr:(execOp a.eval o).run P W=.ok (.value (.slice (some ⟨W.heap.size,0,none⟩) xs.length xs.length)) (W.alloc (.cells inner.toArray e)):=by first|(go_simp;done)|(go_simp;rfl))
  (hm:xs.length≤9223372036854775807:=by simp):wpList P ops Q (o::rest) a W :=
 Kd.R_lit d W.heap.size e hg hd hr hrep (fun _ h=>h) trivial (Below.refl _ _) (Nat.le_refl _) hm fun v w r b _ _=>h v w r b
theorem ra {α:Type} (d:Kd α) {t e:Nat} {s x:Operand} {z:Value} {bytes:Nat} (ht:P.underlying t=some (.slice e))(hinfo:(P.info? e).map (fun i=>(i.zero,i.size,i.bytes))=some (some z,d.sz,bytes))
  (v:Value) (xs:List α) (p:α) (cs:List Value) (ok:Nat→Prop) (hp:d.M W w0.heap.size (fun _=>False) p cs) (hfresh:∀k,W.heap.size≤k→ok k)
  (HO:d.R e W w0.heap.size ok v xs) (HB:Below w0.heap.size w0 W) (hl:(xs.length+1)*bytes≤140737488355328)
  (h:∀v1 w1,d.R e w1 w0.heap.size ok v1 (xs++ [p])→Below w0.heap.size w0 w1→W.grownBy w1 v.ownBlock→(v1.ownBlock=v.ownBlock∨∃b,v1.ownBlock=some b∧W.heap.size≤b)→wpList P ops Q rest (a.put o.dst v1) w1)
  (hgd:o.guard=none:=by rfl) (ho:o.op=.call { callee:=.builtin .append,args:=#[s,x],argTypes:=#[t,t] }:=by rfl)
  (hz:z.cells.size=d.sz:=by rfl) (hs0:0<d.sz:=by decide) (hb0:0<bytes:=by omega) (hs:a.eval s=v:=by rfl) (hx:a.eval x=.slice (some ⟨W.heap.size,0,none⟩) 1 1:=by rfl) :
  wpList P ops Q (o::rest) a (W.alloc (.cells cs.toArray e)) :=
 Kd.R_append d w0.heap.size hgd s x t e z bytes ho ht hinfo hz hs0 hb0 v xs p cs ok _ hs hx hp (fun _ hk=>hk.elim) hfresh HO HB (C5 HB) hl h
theorem rq {α:Type} (d:Kd α) {Rr:α→List Value→Prop} {t e:Nat} {s x:Operand} {z:Value} {bytes:Nat} (ht:P.underlying t=some (.slice e))(hinfo:(P.info? e).map (fun i=>(i.zero,i.size,i.bytes))=some (some z,d.sz,bytes))
  (v:Value) (xs ys:List α) {A:Option Addr} {m c:Nat} (ok:Nat→Prop) (HR:m5 Rr d.sz W A m ys) (hfresh:∀k,W.heap.size≤k→ok k)
  (HO:d.R e W w0.heap.size ok v xs) (HB:Below w0.heap.size w0 W) (hl:(xs.length+m)*bytes≤140737488355328)
  (h:∀v1 w1,d.R e w1 w0.heap.size ok v1 (xs++ys)→Below w0.heap.size w0 w1→W.grownBy w1 v.ownBlock→(v1.ownBlock=v.ownBlock∨∃b,v1.ownBlock=some b∧W.heap.size≤b)→wpList P ops Q rest (a.put o.dst v1) w1)
  (hKM:∀x cs,Rr x cs→d.M W w0.heap.size (fun _=>False) x cs:=by exact fun _ _ h=>h)
  (hgd:o.guard=none:=by rfl) (ho:o.op=.call { callee:=.builtin .append,args:=#[s,x],argTypes:=#[t,t] }:=by rfl)
  (hz:z.cells.size=d.sz:=by rfl) (hs0:0<d.sz:=by decide) (hb0:0<bytes:=by omega) (hs:a.eval s=v:=by rfl) (hx:a.eval x=.slice A m c:=by rfl) :
  wpList P ops Q (o::rest) a W :=
 Kd.R_append_rows d w0.heap.size hgd s x t e z bytes ho ht hinfo hz hs0 hb0 v xs ys A m c ok _ hs hx HO HR hKM (fun _ hk=>hk.elim) hfresh HB (C5 HB) hl h
theorem be (cs:Array Value)(t:TypeId) {N:Tmp} (HB:Below w0.heap.size w0 W)
  (h:∀g w1,Aside0 (w1.heap[g]? =some (.cells cs t (0,0)))→Aside0 (w0.heap.size≤g)→Aside0 (w0.heap.size≤g)→Aside0 (Below w0.heap.size w0 w1)→wpList P ops Q rest (a.put o.dst (.pointer (some ⟨g,0,none⟩))) w1)
  (hgd:o.guard=none:=by rfl) (hd:o.dst=some N:=by rfl)
  (hr:(execOp a.eval o).run P W=.ok (.value (.pointer (some ⟨W.heap.size,0,none⟩))) (W.alloc (.cells cs t (0,0))):=by first|(go_simp;done)|(go_simp;rfl)):wpList P ops Q (o::rest) a W :=
 j6 hgd hd hr fun g hg w1 hb b=>h g w1 ⟨hb⟩ ⟨by rw[hg];exact C5 HB⟩ ⟨by rw[hg];exact C5 HB⟩ ⟨E8 HB b⟩
theorem se (t:TypeId)(p:Tmp) {v:Operand} (w1:World)(h:∀w',w'=w1→wpList P ops Q rest a w')(hg:o.guard=none:=by rfl)(ho:o.op=.store t (.tmp p) v:=by rfl)(hn:o.dst=none:=by rfl)
 (hr:(execOp a.eval o).run P W=.ok .skip w1:=by first|(go_simp;done)|(go_simp;rfl)):wpList P ops Q (o::rest) a W:=Ab2 hg ho hn hr h
end
theorem bq {w:World} {g:Nat} {cs:Array Value} {t:TypeId} (h:Aside0 (w.heap[g]? =some (.cells cs t (0,0))))(i:Nat)(v:Value)(hv:cs[i]? =some v:=by rfl):w.cell? ⟨g,i,none⟩=some v:=(I5 h.out i).trans hv
theorem lm {p q:Prop} (h:Aside0 p)(f:p→q:=by intro h_;omega):q:=f h.out
section
variable {P:Program} {ops:Array Oper} {Q:Exit→Act→World→Prop} {md:Region.Mode} {S:World→Prop} {ds:List Nat}
theorem nm (N:Nat) {v:Value} {fuel:Nat} {l:Array Bool} {a a':Act} {w:World} (h:I6 P md ops Q S ds fuel l a' w)
 (ha:a.put (some N) v=a':=by simp only[Act.put,List.setIfInBounds_toArray,List.set_cons_zero,List.set_cons_succ,P9,i6];rfl):I6 P md ops Q S ds fuel l (a.put (some N) v) w:=AX2 ha h
end
theorem ai {k:IntKind} {w:World} {A:Option Addr} {n:Nat} {xs:List Int} (h:(Kd.int k).C w A n xs)(i:Int)(h0:0≤i:=by first|exact od|omega)(h1:i<n:=by exact od) :
 (0≤i)=True∧(i<n)=True∧∃ad,A=some ad∧w.cell? (ad.add i.toNat)=some (.int k (rd xs i)):=⟨eq_true h0,eq_true h1,Kd.at_int h i h0 h1⟩
theorem cl {w w1:World} {ad:Addr} {v:Value} (h:w.cell? ad=some v)(b:Below w.heap.size w w1:=by exact HB.out):w1.cell? ad=some v:=(b.cell (World.block_lt_of_cell? w _ h)).trans h
theorem rE {α β:Type} {d:Kd α} {d':Kd β} {e e' base:Nat} {W W' w1 w2:World} {ok ok':Nat→Prop} {u v:Value} {xs:List α} {ys:List β} (h:Aside0 (d.R e W' base ok u xs))(hv:d'.R e' w2 W.heap.size ok' v ys)(hb:Below W.heap.size W w1)
  (f:d.R e W' base ok u xs→d.R e W base ok u xs:=by intro h_;(with_reducible repeat(first|apply Kd.R_alloc|apply Kd.R_drewN|apply Kd.R_drew));exact h_):Aside0 (d.R e w1 base (fun k=>ok k∧some k≠v.ownBlock) u xs) :=
 ⟨Kd.R_elder' (f h.out) (Kd.R_base hv) hb⟩
theorem bR (w:World):Aside0 (Below w.heap.size w w):=⟨Below.refl _ _⟩
theorem bS {w0 w1 w2:World} (hb:Below w1.heap.size w1 w2)(h:Below w0.heap.size w0 w1:=by exact bz):Aside0 (Below w0.heap.size w0 w2):=⟨E8 h hb⟩
theorem cd {P Q:Prop} (h:Aside0 P)(f:P→Q:=by intro h_;repeat(first|(with_reducible exact h_)|(with_reducible refine Kd.C_alloc ?_ _)|(with_reducible refine Kd.C_drewN ?_ _)|(with_reducible refine Kd.C_drew ?_)|exact h_)):Q:=f h.out
end Go.Proofs.YtpiogigidgejpaaGreatDoor.Sq
namespace Go.Proofs.YtpiogigidgejpaaGreatDoor.Sq
open Go Go.RowKit Go.Proofs.YtpiogigidgejpaaGreatDoorW.PrintWords Go.Proofs.YtpiogigidgejpaaGreatDoorW.PrintLast Go.Proofs.YtpiogigidgejpaaGreatDoorW.PrintMore
set_option linter.unusedVariables false
set_option linter.unusedSimpArgs false
abbrev KI:Kd Int:=Kd.int .i64
abbrev KS:Kd (List Int):=Kd.slice 3 (Kd.int .i64)
theorem lr {n:Nat}:Aside0 (n≤n):=⟨Nat.le_refl n⟩
theorem lo {P:Prop} (h:P:=by first|omega|exact Nat.le_refl _):Aside0 P:=⟨h⟩
theorem la {p q:Prop} (h:Aside0 p)(f:p→q:=by intro h_;omega):Aside0 q:=⟨f h.out⟩
theorem lu {p q r:Prop} (h:Aside0 p)(k:Aside0 q)(f:p→q→r:=by intro h_ k_;omega):r:=f h.out k.out
theorem lv {p q r:Prop} (h:Aside0 p)(k:Aside0 q)(f:p→q→r:=by intro h_ k_;omega):Aside0 r:=⟨f h.out k.out⟩
theorem lx {p q r s:Prop} (h:Aside0 p)(k:Aside0 q)(l:Aside0 r)(f:p→q→r→s:=by intro h_ k_ l_;omega):s:=f h.out k.out l.out
theorem ly {p q r s:Prop} (h:Aside0 p)(k:Aside0 q)(l:Aside0 r)(f:p→q→r→s:=by intro h_ k_ l_;omega):Aside0 s:=⟨f h.out k.out l.out⟩
theorem bk {P Q:Prop} (h:Aside0 P)(f:P→Q:=by intro h_;(with_reducible repeat(first|refine AG2 ?_ _|refine m4 ?_|refine Aa2 ?_ _));exact h_):Q:=f h.out
theorem rX {x y:Nat} {P Q:Prop} (e:x=y)(h:Aside0 P)(f:x=y→P→Q:=by intro e_ h_;(try simp only[e_]);(with_reducible repeat(first|apply Kd.R_alloc|apply Kd.R_drewN|apply Kd.R_drew));exact h_):Q:=f e h.out
theorem rY {x y x' y':Nat} {P Q:Prop} (e:x=y)(e':x'=y')(h:Aside0 P)(f:x=y→x'=y'→P→Q:=by intro e_ e1_ h_;(try simp only[e_]);(try simp only[e1_]);(with_reducible repeat(first|apply Kd.R_alloc|apply Kd.R_drewN|apply Kd.R_drew));exact h_):Q:=f e e' h.out
theorem pa {p q G:Prop} (k:Aside0 p→Aside0 q→G):p→q→G:=fun a b=>k ⟨a⟩ ⟨b⟩
theorem pc {p G:Prop} (k:Aside0 p→G):p→G:=fun a=>k ⟨a⟩
abbrev pD (w:World)(v:Value)(e:Ending)(w':World):Prop:=e=.returned v∧Drawn0 w w'
abbrev pB (w:World)(v:Value)(e:Ending)(w':World):Prop:=e=.returned v∧Below w.heap.size w w'
abbrev pR {α:Type} (w:World)(d:Kd α)(t:Nat)(r:List α)(e:Ending)(w':World):Prop:=∃v0_:Value,e=.returned v0_∧d.R t w' w.heap.size (fun _=>True) v0_ r∧Below w.heap.size w w'
abbrev pT {α:Type} (w:World)(d:Kd α)(t:Nat)(r:List α)(b:Bool)(e:Ending)(w':World):Prop:=∃v0_:Value,e=.returned (.tuple #[v0_,.bool b])∧d.R t w' w.heap.size (fun _=>True) v0_ r∧Below w.heap.size w w'
section
variable {P:Program} {ops:Array Oper} {Q:Exit→Act→World→Prop} {md:Region.Mode} {S:World→Prop} {ds:List Nat} {oi:Oper} {n m:Nat} {fuel:Nat} {a a':Act} {w w1:World}
theorem pw (i:Nat) {N:Tmp} {v:Value} (h:I6 P md ops Q S ds fuel (lb n (m+2 ^ i)) a' w)(hi:ops[i]? =some oi:=by rfl)(hN:oi.dst=some N:=by rfl)
  (hc:BH3 md ops (lb n m) (lb n (m+2 ^ i)) i=true:=by first|exact BN2 HT_.out (by kernel_rfl)|kernel_rfl)
  (hQ:∀c a w,Q (.panic c) (a.put oi.dst v) w→Q (.panic c) a w:=by exact fun _ _ _ h=>h) (hw:Region.wanted oi (yielded ops a.tmps)=true:=by rfl)
  (hy:∀w,(execOp a.eval oi).run P w=.ok (.value v) w:=by intro w';go_simp;with_reducible rfl)
  (ha:a.put (some N) v=a':=by simp only[Act.put,List.setIfInBounds_toArray,List.set_cons_zero,List.set_cons_succ,P9,i6];rfl):I6 P md ops Q S ds (fuel+1) (lb n m) a w :=
 Al5 (lb n (m+2 ^ i)) hi hN hc hQ (Or.inl ⟨hw,hy⟩) ha h
theorem tw (i:Nat) {N:Tmp} {v:Value} (hS:S w)(h:I6 P md ops Q S ds fuel (lb n (m+2 ^ i)) a' w)(hi:ops[i]? =some oi:=by rfl)(hN:oi.dst=some N:=by rfl)
  (hc:Ag9 md ops ds (lb n m) (lb n (m+2 ^ i)) i=true:=by first|exact Au9 HT_.out HW_.out (by kernel_rfl)|kernel_rfl)
  (hQ:∀c a w,Q (.panic c) (a.put oi.dst v) w→Q (.panic c) a w:=by exact fun _ _ _ h=>h) (hw:Region.wanted oi (yielded ops a.tmps)=true:=by rfl)
  (hy:∀w,S w→(execOp a.eval oi).run P w=.ok (.value v) w:=by intro w' s_;first|(go_simp;with_reducible rfl)|(obtain⟨s0_,s1_⟩:=s_;go_simp;with_reducible rfl)|(obtain⟨s0_,s1_,s2_⟩:=s_;go_simp;with_reducible rfl)|(obtain⟨s0_,s1_,s2_,s3_⟩:=s_;go_simp;with_reducible rfl))
  (ha:a.put (some N) v=a':=by simp only[Act.put,List.setIfInBounds_toArray,List.set_cons_zero,List.set_cons_succ,P9,i6];rfl):I6 P md ops Q S ds (fuel+1) (lb n m) a w :=
 take_ (lb n (m+2 ^ i)) hi hN hc hQ (Or.inl ⟨hw,hy⟩) hS ha h
theorem ls (i:Nat)(h:Q .normal a w1)(hi:ops[i]? =some oi:=by rfl)(hN:oi.dst=none:=by rfl)(hw:Region.wanted oi (yielded ops a.tmps)=true:=by rfl)
  (hr:(execOp a.eval oi).run P w=.ok .skip w1:=by first|(go_simp;rfl)|(go_simp;done))
  (hc:AM7 md ops (lb n m) (lb n (m+2 ^ i)) i=true:=by first|exact g6 HT_.out (by kernel_rfl)|kernel_rfl) (hd:i∈ds:=by decide)
  (he:(Region.ready md ops (lb n (m+2 ^ i))== [])=true:=by first|exact BD8 HT_.out (by kernel_rfl)|kernel_rfl):I6 P md ops Q S ds (fuel+1) (lb n m) a w :=
 AF0 (lb n (m+2 ^ i)) hi hN hc hd fun _ hK=>AS8 hw hN hr (hK.out _ _ (BV6 he h))
theorem oc (i:Nat) {R:Ending→World→Prop} {f:FuncId} {fn:Func} {as:Array Operand} {ts:Array TypeId} {args:Array Value} {N:Tmp} (hf:P.funcs[f]? =some fn)(h:Calls P f args w R)
  (k:∀e w',R e w'→∃v,e=.returned v∧S w'∧(S w'→I6 P md ops Q S ds fuel (lb n (m+2 ^ i)) (a.put (some N) v) w')) (hi:ops[i]? =some oi:=by rfl) (hN:oi.dst=some N:=by rfl)
  (hc:AM7 md ops (lb n m) (lb n (m+2 ^ i)) i=true:=by first|exact g6 HT_.out (by kernel_rfl)|kernel_rfl) (hd:i ∉ ds:=by decide)
  (hname:(fn.name== "runtime.NumGoroutine")=false:=by kernel_rfl) (hb:fn.body.isSome=true:=by rfl) (hw:Region.wanted oi (yielded ops a.tmps)=true:=by rfl)
  (hop:oi.op=.call { callee:=.value (.func f),args:=as,argTypes:=ts }:=by rfl)
  (hargs:as.map a.eval=args:=by(try simp only[List.map_toArray,List.map_cons,List.map_nil]);first|done|rfl|(simp only[List.length_drop,List.length_take];rfl)):I6 P md ops Q S ds (fuel+1) (lb n m) a w :=
 AD4 (lb n (m+2 ^ i)) hi hN hc hd fun _ hK=>AS9 hf hname hb args hw hN hop hargs (h.mono fun e w' r=>by obtain⟨v,e1,e2,e3⟩:=k e w' r;exact⟨v,e1,hK.out _ _ e2 e3⟩)
theorem ol (i:Nat) {R:Ending→World→Prop} {f:FuncId} {fn:Func} {as:Array Operand} {ts:Array TypeId} {args:Array Value} {N:Tmp} (hf:P.funcs[f]? =some fn)(h:Calls P f args w R)
  (k:∀e w',R e w'→∃v,e=.returned v∧I6 P md ops Q S ds fuel (lb n (m+2 ^ i)) (a.put (some N) v) w') (hi:ops[i]? =some oi:=by rfl) (hN:oi.dst=some N:=by rfl)
  (hc:AM7 md ops (lb n m) (lb n (m+2 ^ i)) i=true:=by first|exact g6 HT_.out (by kernel_rfl)|kernel_rfl) (hd:i∈ds:=by decide)
  (hname:(fn.name== "runtime.NumGoroutine")=false:=by kernel_rfl) (hb:fn.body.isSome=true:=by rfl) (hw:Region.wanted oi (yielded ops a.tmps)=true:=by rfl)
  (hop:oi.op=.call { callee:=.value (.func f),args:=as,argTypes:=ts }:=by rfl)
  (hargs:as.map a.eval=args:=by(try simp only[List.map_toArray,List.map_cons,List.map_nil]);first|done|rfl|(simp only[List.length_drop,List.length_take];rfl)):I6 P md ops Q S ds (fuel+1) (lb n m) a w :=
 AF0 (lb n (m+2 ^ i)) hi hN hc hd fun _ hK=>AS9 hf hname hb args hw hN hop hargs (h.mono fun e w' r=>by obtain⟨v,e1,e2⟩:=k e w' r;exact⟨v,e1,hK.out _ _ e2⟩)
theorem dn (h:Q .normal a w)(hr:(Region.ready md ops (lb n m)== [])=true:=by first|exact BD8 HT_.out (by kernel_rfl)|kernel_rfl):I6 P md ops Q S ds fuel (lb n m) a w:=BV6 hr h
end
section
variable {α:Type} {r:α} {a:Option α} {G:Prop} {p q:Prop} [Decidable p] [Decidable q]
theorem iw (q:Prop) [Decidable q] (k:decide p=true→decide q=true→a=some r→G)(h:p→q:=by intro h_;omega):(if p then a else none)=some r→G:=fun H=>k (decide_eq_true (jt H).1) (decide_eq_true (h (jt H).1)) (jt H).2
end
section
variable {k:IntKind} {w:World} {A:Option Addr} {ad:Addr} {n:Nat} {xs:List Int}
theorem k0 (h:(Kd.int k).C w A n xs)(hn:0<n):(0≤(0:Int))=True∧((0:Int)< (n:Int))=True∧(0<n)=True∧∃ad,A=some ad∧w.cell? ad=some (.int k (rd xs 0)):=by
 obtain⟨ad,e,c⟩:=Kd.at_int h 0 (by omega) (by omega)
 rw[show(0:Int).toNat=0 from rfl,Addr.add_zero']at c
 exact⟨by simp,eq_true (by omega),eq_true hn,ad,e,c⟩
theorem k1 (h:(Kd.int k).C w (some ad) n xs)(hn:1<n):(0≤(1:Int))=True∧((1:Int)< (n:Int))=True∧(1<n)=True∧w.cell? ⟨ad.block,ad.off+1,none⟩=some (.int k (rd xs 1)):=by
 obtain⟨ad',e,c⟩:=Kd.at_int h 1 (by omega) (by omega)
 obtain rfl:ad=ad':=by injection e
 simp only[show(1:Int).toNat=1 from rfl,Nat.reduceMul,Nat.reduceEqDiff,Go.Addr.add,↓reduceIte]at c
 exact⟨by simp,eq_true (by omega),eq_true hn,c⟩
theorem k2 (h:(Kd.int k).C w (some ad) n xs)(hn:2<n):(0≤(2:Int))=True∧((2:Int)< (n:Int))=True∧(2<n)=True∧w.cell? ⟨ad.block,ad.off+2,none⟩=some (.int k (rd xs 2)):=by
 obtain⟨ad',e,c⟩:=Kd.at_int h 2 (by omega) (by omega)
 obtain rfl:ad=ad':=by injection e
 simp only[show(2:Int).toNat=2 from rfl,Nat.reduceMul,Nat.reduceEqDiff,Go.Addr.add,↓reduceIte]at c
 exact⟨by simp,eq_true (by omega),eq_true hn,c⟩
end
theorem sl {b s:Int} (h:shl .i64 1 b=s):IntKind.i64.wrap (1*2 ^ min b.toNat 64)=s∧(b≤64→IntKind.i64.wrap (1*2 ^ b.toNat)=s)∧IntKind.i64.wrap (2 ^ min b.toNat 64)=s∧(b≤64→IntKind.i64.wrap (2 ^ b.toNat)=s)∧wrap64 (1*2 ^ min b.toNat 64)=s∧(b≤64→wrap64 (1*2 ^ b.toNat)=s):=by
 have h1:IntKind.i64.wrap (1*2 ^ min b.toNat 64)=s:=h
 have h2:b≤64→IntKind.i64.wrap (1*2 ^ b.toNat)=s:=BH0 h
 exact⟨h1,h2,by rw[Int.one_mul]at h1;exact h1,fun l=>by have:=h2 l;rw[Int.one_mul]at this;exact this,(P9 _).symm.trans h1,fun l=>(P9 _).symm.trans (h2 l)⟩
theorem mo {P:Prop} (h:P:=by with_reducible repeat' first|apply ih|apply ih0|apply ih1|apply ih2|apply ih3|apply e0|apply e1|apply e2|apply e3|exact S6.refl _|exact S6.none _|refine S6.ite ?_ ?_|refine S6.bind ?_ (fun _=>?_)):P:=h
structure Todo (L:List Nat) (P:Prop):Prop where
 out:P
section
variable {P:Program} {ops:Array Oper} {Q:Exit→Act→World→Prop} {md:Region.Mode} {S:World→Prop} {ds:List Nat} {oi:Oper} {n m:Nat} {fuel:Nat} {a a':Act} {w:World} {L:List Nat}
theorem pK {i:Nat} {N:Tmp} {v:Value} (h:Todo L (I6 P md ops Q S ds fuel (lb n (m+2 ^ i)) a' w))(hi:ops[i]? =some oi:=by rfl)(hN:oi.dst=some N:=by rfl)
  (hc:BH3 md ops (lb n m) (lb n (m+2 ^ i)) i=true:=by first|exact BN2 HT_.out (by kernel_rfl)|kernel_rfl)
  (hQ:∀c a w,Q (.panic c) (a.put oi.dst v) w→Q (.panic c) a w:=by exact fun _ _ _ h=>h) (hw:Region.wanted oi (yielded ops a.tmps)=true:=by rfl)
  (hy:∀w,(execOp a.eval oi).run P w=.ok (.value v) w:=by intro w';go_simp;with_reducible rfl)
  (ha:a.put (some N) v=a':=by simp only[Act.put,List.setIfInBounds_toArray,List.set_cons_zero,List.set_cons_succ,P9,i6];rfl):Todo (i::L) (I6 P md ops Q S ds (fuel+1) (lb n m) a w) :=
 ⟨pw i h.out hi hN hc hQ hw hy ha⟩
theorem tK {i:Nat} {N:Tmp} {v:Value} (h:Todo L (I6 P md ops Q S ds fuel (lb n (m+2 ^ i)) a' w))(hS:S w:=by exact hHeld)(hi:ops[i]? =some oi:=by rfl)(hN:oi.dst=some N:=by rfl)
  (hc:Ag9 md ops ds (lb n m) (lb n (m+2 ^ i)) i=true:=by first|exact Au9 HT_.out HW_.out (by kernel_rfl)|kernel_rfl)
  (hQ:∀c a w,Q (.panic c) (a.put oi.dst v) w→Q (.panic c) a w:=by exact fun _ _ _ h=>h) (hw:Region.wanted oi (yielded ops a.tmps)=true:=by rfl)
  (hy:∀w,S w→(execOp a.eval oi).run P w=.ok (.value v) w:=by intro w' s_;first|(go_simp;with_reducible rfl)|(obtain⟨s0_,s1_⟩:=s_;go_simp;with_reducible rfl)|(obtain⟨s0_,s1_,s2_⟩:=s_;go_simp;with_reducible rfl)|(obtain⟨s0_,s1_,s2_,s3_⟩:=s_;go_simp;with_reducible rfl))
  (ha:a.put (some N) v=a':=by simp only[Act.put,List.setIfInBounds_toArray,List.set_cons_zero,List.set_cons_succ,P9,i6];rfl):Todo (i::L) (I6 P md ops Q S ds (fuel+1) (lb n m) a w) :=
 ⟨tw i hS h.out hi hN hc hQ hw hy ha⟩
theorem eT {P:Prop} (h:P):Todo [] P:=⟨h⟩
theorem rg (L:List Nat) {G:Prop} {F:Prop} (h:F)(f:Aside0 F→Todo L G:=by intro h_;(repeat(first|refine pK ?_|refine tK ?_));exact eT h_.out):G:=(f ⟨h⟩).out
theorem sr {id:Nat} (n:Nat)(S:World→Prop)(ds:List Nat)(hS:S w.drew)(h:S w.drew→I6 P .any ops Q S ds n (lb n 0) a w.drew)(hm:P.follows .mixedOrders=true:=by kernel_rfl)(hn:ops.size=n:=by rfl)(hl:Array.replicate n false=lb n 0:=by rfl):(Code.region id ops true).wp P Q a w:=BL5 (lb n 0) hm hn hl hS h
theorem sq {id:Nat} {T:Bool×List (List Nat×List Nat)} {B:List Nat} (n:Nat)(S:World→Prop)(ds:List Nat)(hT:AA0 .any ops=T)(hB:l6 T.2 B=true)(hS:S w.drew)(h:S w.drew→Aside0 (AA0 .any ops=T)→Aside0 (l6 T.2 B=true)→I6 P .any ops Q S ds n (lb n 0) a w.drew)(hm:P.follows .mixedOrders=true:=by kernel_rfl)(hn:ops.size=n:=by rfl)(hl:Array.replicate n false=lb n 0:=by rfl):(Code.region id ops true).wp P Q a w:=BL5 (lb n 0) hm hn hl hS fun hs=>h hs ⟨hT⟩ ⟨hB⟩
end
theorem cz {w w1:World} {ad:Addr} {v:Value} (h:w.cell? ad=some v)(b:Below w.heap.size w w1:=by first|exact HB.out|(repeat(first|(with_reducible first|exact HB.out|apply R2|apply J8|apply F8)|exact HB.out))):w1.cell? ad=some v:=(b.cell (World.block_lt_of_cell? w _ h)).trans h
end Go.Proofs.YtpiogigidgejpaaGreatDoor.Sq
