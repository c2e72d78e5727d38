import Derived.Test.YtpiogigidgejpaaGreatDoorPFnExactStepLinex18
import Derived.Test.YtpiogigidgejpaaGreatDoorZ0
import Derived.Test.YtpiogigidgejpaaGreatDoorZ5
namespace Go.Proofs.YtpiogigidgejpaaGreatDoor.Pure
open Go.RowKit Go.Proofs.YtpiogigidgejpaaGreatDoor.PFnExactStepLine Go.Proofs.YtpiogigidgejpaaGreatDoorW.PrintWords Go.Proofs.YtpiogigidgejpaaGreatDoorW.PrintLast Go.Proofs.YtpiogigidgejpaaGreatDoor.Base
set_option maxRecDepth 10000
set_option linter.unusedVariables false
set_option linter.unusedSimpArgs false
theorem AX8 (l:List Int)(hl:l.length≤35184372088832):∀ (d i:Nat),i+d=l.length→Ev (fun k=>N5.l0 k l l (i:Int)) true:=by
 intro d
 induction d with
 |zero =>
  intro i h
  refine Ev.step (f:=fun _=>some true) (fun k=>?_) (Ev.now _)
  simp only[N5.l0];rw[if_neg (by omega)]
 |succ d ih =>
  intro i h
  refine Ev.step (f:=fun k=>N5.l0 k l l ((i+1:Nat):Int)) (fun k=>?_) (ih (i+1) (by omega))
  simp only[N5.l0];rw[if_pos (by omega),if_pos (by omega),if_pos (by omega),if_pos trivial,E2 (by omega)]
theorem Ag1 (l:List Int)(hl:l.length≤35184372088832):Ev (fun k=>N5.f k l l) true:=by
 unfold N5.f
 exact D9 rfl (AX8 l hl l.length 0 (by omega))
theorem AU2:∀ (d i:Nat) (ys:List Int) (m:Int),i+d=ys.length→0≤m→m+d≤1000000000000000→ys.length≤35184372088832→
  Ev (fun k=>R1.l0 k ys m (i:Int)) (m+ (d:Int),ys.take i++AP9 m d):=by
 intro d
 induction d with
 |zero =>
  intro i ys m h1 h2 h3 h4
  refine Ev.step (f:=fun _=>some (m,ys)) (fun k=>?_) (C7 ?_)
  ·simp only[R1.l0];rw[if_neg (by omega)]
  ·rw[List.take_of_length_le (by omega)];simp[AP9]
 |succ d ih =>
  intro i ys m h1 h2 h3 h4
  refine Ev.step (f:=fun k=>R1.l0 k (ys.set i m) (m+1) ((i+1:Nat):Int)) (fun k=>?_) (S7 (ih (i+1) _ (m+1) (by simp;omega) (by omega) (by omega) (by simpa using h4)) ?_)
  ·simp only[R1.l0];rw[if_pos (by omega),if_pos (by omega),E2 (by omega),E4 (by omega),Int.toNat_natCast]
  ·rw[Ai2,List.take_succ_eq_append_getElem (by simp;omega),List.take_set,List.set_eq_of_length_le (by simp;omega)]
   refine Prod.ext (by simp;omega) ?_
   simp
theorem AY6 (l:List Int)(m:Int)(h2:0≤m)(h3:m≤900000000000000)(h4:l.length≤35184372088832):Ev (fun k=>R1.f k l m) (m+ (l.length:Int),AP9 m l.length) :=
 S7 (AU2 l.length 0 l m (by omega) h2 (by omega) h4) (by simp)
theorem AT7 (zs:List Int)(hz:zs.length≤35184372088832):∀ (d i:Nat) (m:Int),i+d=zs.length→0≤m→m+d≤1000000000000000→zs.drop i=AP9 m d→
  Ev (fun k=>O8.l0 k zs m (i:Int)) (m+ (d:Int)):=by
 intro d
 induction d with
 |zero =>
  intro i m h1 h2 h3 h4
  refine Ev.step (f:=fun _=>some m) (fun k=>?_) (C7 (by simp))
  simp only[O8.l0];rw[if_neg (by omega)]
 |succ d ih =>
  intro i m h1 h2 h3 h4
  rw[s7 zs i (by omega),Ai2,List.cons.injEq]at h4
  refine Ev.step (f:=fun k=>O8.l0 k zs (m+1) ((i+1:Nat):Int)) (fun k=>?_) (S7 (ih (i+1) (m+1) (by omega) (by omega) (by omega) h4.2) (by omega))
  simp only[O8.l0];rw[if_pos (by omega),if_pos (by omega),if_pos h4.1,E2 (by omega),E4 (by omega)]
theorem AZ0 (m:Int)(n:Nat)(h2:0≤m)(h3:m≤900000000000000)(h4:n≤35184372088832):Ev (fun k=>O8.f k (AP9 m n) m) (m+ (n:Int)) :=
 AT7 (AP9 m n) (by simpa [AV3]using h4) n 0 m (by simp[AV3]) h2 (by omega) rfl
theorem Aa5 (l:List Int)(hl:l.length≤35184372088832):∀ (d i:Nat) (ys:List Int),i+d=l.length→ys.length=l.length→ys.take i=l.take i→
  Ev (fun k=>R7.l0 k l ys (i:Int)) l:=by
 intro d
 induction d with
 |zero =>
  intro i ys h1 h2 h3
  refine Ev.step (f:=fun _=>some ys) (fun k=>?_) (C7 ?_)
  ·simp only[R7.l0];rw[if_neg (by omega)]
  ·rw[List.take_of_length_le (by omega),List.take_of_length_le (by omega)]at h3
   exact h3
 |succ d ih =>
  intro i ys h1 h2 h3
  have hi:i<l.length:=by omega
  refine Ev.step (f:=fun k=>R7.l0 k l (ys.set i (rd l (i:Int))) ((i+1:Nat):Int)) (fun k=>?_) (ih (i+1) _ (by omega) (by simp[h2]) ?_)
  ·simp only[R7.l0];rw[if_pos (by omega),if_pos (by omega),if_pos (by omega),E2 (by omega),Int.toNat_natCast]
  ·rw[Ad2 l i hi,List.take_succ_eq_append_getElem (by simp;omega)]
   rw[List.take_set,h3,List.set_eq_of_length_le (by simp;omega)];simp
theorem Af5 (l:List Int)(hl:l.length≤35184372088832):Ev (fun k=>R7.f k l) l:=by
 unfold R7.f
 refine D9 (by omega) (D9 (by omega) ?_)
 exact Aa5 l hl l.length 0 _ (by omega) (by simp) rfl
theorem FnExactStepLine:laws_FnExactStepLine.Pure:=by
 intro l a h1 h2 h3 h4
 refine Ev.rounds (r:=true) ?_
 unfold laws_FnExactStepLine.f
 refine X2 (fun _=>Ev.now _) (fun hb=>X2 (fun _=>Ev.now _) (fun hc=>?_))
 have hl:l.length≤1048576:=by omega
 have ha:a.size≤1048576:=by omega
 clear h1 h2 h3 h4 hb hc
 obtain⟨x,s,b,hx,I_,S_⟩:=Ak4 l a hl ha
 repeat(first
  |exact Ev.now _
  |refine C6 (Af5 l (by omega)) ?_
  |(refine C6 S_ ?_;try dsimp only)
  |(refine C6 I_ ?_;try dsimp only)
  |refine C6 (Ag1 _ (by first|assumption|omega)) ?_
  |(refine C6 (AY6 _ _ (by omega) (by omega) (by omega)) ?_;dsimp only)
  |refine C6 (AZ0 _ _ (by omega) (by omega) (by omega)) ?_
  |refine D9 rfl ?_
  |refine D9 trivial ?_
  |refine G8 (BY5 _) ?_
  |refine G8 (by omega) ?_
  |refine Ev.step (fun k=>by simp only[laws_FnExactStepLine.j0];rfl) ?_
  |refine Ev.step (fun k=>by simp only[laws_FnExactStepLine.j1];rfl) ?_
  |refine Ev.step (fun k=>by simp only[laws_FnExactStepLine.j2];rfl) ?_)
end Go.Proofs.YtpiogigidgejpaaGreatDoor.Pure
