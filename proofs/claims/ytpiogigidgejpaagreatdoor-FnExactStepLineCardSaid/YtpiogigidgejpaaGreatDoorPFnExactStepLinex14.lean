import Derived.Test.YtpiogigidgejpaaGreatDoorPFnExactStepLinex13
namespace Go.Proofs.YtpiogigidgejpaaGreatDoor.PFnExactStepLine
open Go.RowKit Go.Proofs.YtpiogigidgejpaaGreatDoorW.PrintWords Go.Proofs.YtpiogigidgejpaaGreatDoorW.PrintLast Go.Proofs.YtpiogigidgejpaaGreatDoorW.PrintMore Go.Proofs.YtpiogigidgejpaaGreatDoor.Sq Tryz
attribute [local go_sem] g8 g9 s8 q8 Y0 X9 b8 e6
set_option maxHeartbeats 8000000
set_option maxRecDepth 100000
set_option linter.unusedVariables false
set_option linter.unusedSimpArgs false
def R9.f (k:Nat)(a:Int):Option (List Int×Bool):=(X6.f a).bind fun b=>(if b=true then(if(Int.tmod a 2)=0 then(some (([]:List Int),false))else((E7.f k a).bind fun c=>(some (c,true))))else(some (([]:List Int),false)))
theorem R9.mono:∀a0 k,S6 (R9.f k a0) (R9.f (k+1) a0):=by
 intro a0 k
 unfold R9.f
 have e0:=E7.mono;exact mo
theorem R9.calls (k a0 r1 r2 w):R9.f k a0=some (r1,r2)→
 Calls prog 162 #[.int .i64 a0] w (pT w KI 3 r1 r2):=by
 have HB:=bR w
 unfold R9.f
 refine ib fun aE A2=>iB ?_ ?_<;>rintro rfl
 ·refine iE (fun aC aD=>?_) fun c4 aC aD=>?_
  ·refine i2 ?_;rintro rfl rfl
   go_in
   go_wp2_with ((with_reducible refine ga 241 ?_);refine gp func241 (X6.calls a0 true _ A2.1) fun nd=>?_)
   go_ret2
   exact⟨_,fe,nz,bz⟩
  refine ib fun aB A5=>i2 ?_;rintro rfl rfl
  go_in
  go_wp2_with (first|((with_reducible refine ga 241 ?_);refine gp func241 (X6.calls a0 true _ A2.1) fun nd=>?_)|((with_reducible refine ga 242 ?_);refine gR func242 (E7.calls k a0 aB _ A5.1) bz ?_;clear HB;intro aF w6 aA HB))
  go_ret2
  exact⟨_,fe,rR aA,bz⟩
 refine i2 ?_;rintro rfl rfl
 go_in
 go_wp2_with ((with_reducible refine ga 241 ?_);refine gp func241 (X6.calls a0 false _ A2.1) fun nd=>?_)
 go_ret2
 exact⟨_,fe,nz,bz⟩
def AB5.f (a:Int):Option (Bool):=(G3.f a 1 5).bind fun b=>(some b)
theorem AB5.calls (a0 r w):AB5.f a0=some r→
 Calls prog 243 #[.int .i64 a0] w (pD w (.bool r)):=by
 unfold AB5.f
 refine ib fun aA A2=>i1 ?_;rintro rfl
 go_in
 go_wp2_with ((with_reducible refine ga 78 ?_);refine gp func78 (G3.calls a0 1 5 aA _ A2.1) fun nd=>?_)
 go_ret
 exact⟨fz,dz⟩
def M3.l0:Nat→Int→List Int→List Int→Int→Int→Option (List Int×Int)
 |0,_,_,_,_,_=>none
 |k+1,b,c,d,e,a=>if a< (c.length:Int)then(if 0≤(wrap64 ((wrap64 (a - b))+1))then(if(wrap64 ((wrap64 (a - b))+1))≤(wrap64 (a+1))then(if(wrap64 (a+1))≤(c.length:Int)then((E0.f k ((c.take ((wrap64 (a+1)):Int).toNat).drop ((wrap64 ((wrap64 (a - b))+1)):Int).toNat)).bind fun f=>(if f=true then((F7.f k ((c.take ((wrap64 (a+1)):Int).toNat).drop ((wrap64 ((wrap64 (a - b))+1)):Int).toNat)).bind fun g=>((J1.f k d g).bind fun h=>(if h=true then(M3.l0 k b c d (wrap64 (e+1)) (wrap64 (a+1)))else((F7.f k ((c.take ((wrap64 (a+1)):Int).toNat).drop ((wrap64 ((wrap64 (a - b))+1)):Int).toNat)).bind fun i=>(if d.length<17592186044416 then(M3.l0 k b c (d++ [i]) e (wrap64 (a+1)))else(none))))))else(M3.l0 k b c d (wrap64 (e+1)) (wrap64 (a+1)))))else(none))else(none))else(none))else(some (d,e))
def M3.f (k:Nat)(a:Int)(b:List Int):Option (List Int×Int):=M3.l0 k a b ([]:List Int) 0 (wrap64 (a - 1))
theorem M3.mono_l:∀k,(∀y0 y1 y2 y3 y4,S6 (M3.l0 k y0 y1 y2 y3 y4) (M3.l0 (k+1) y0 y1 y2 y3 y4))
 |0=>fun _ _ _ _ _ r h=>by simp[M3.l0]at h
 |k+1=>by
  have ih0:=M3.mono_l k
  ·intro y0 y1 y2 y3 y4
   unfold M3.l0
   have e0:=J1.mono;have e1:=E0.mono;have e2:=F7.mono;exact mo
theorem M3.mono:∀a0 a1 k,S6 (M3.f k a0 a1) (M3.f (k+1) a0 a1):=by
 intro a0 a1 k
 have ih0:=M3.mono_l k
 unfold M3.f
 have e0:=J1.mono;have e1:=E0.mono;have e2:=F7.mono;exact mo
theorem M3.calls (k a0 A1 c1 l1 r1 r2 w):Kd.C KI w A1 l1.length l1→l1.length≤c1→M3.f k a0 l1=some (r1,r2)→
 Calls prog 278 #[.int .i64 a0,.slice A1 l1.length c1] w fun e w'=>∃v0_:Value,e=.returned (.tuple #[v0_,.int .i64 r2])∧Kd.R KI 3 w' w.heap.size (fun _=>True) v0_ r1∧Below w.heap.size w w':=by
 have HB:=bR w
 refine pa fun aT aU=>?_
 unfold M3.f
 refine ia fun H'=>?_
 go_in
 go_wp2
 go_loopg [6,7,8] k (fun kq v6 v7 v8 w'=>∃ (aF:List Int) (aJ aA:Int),v7=.int .i64 aJ∧v8=.int .i64 aA∧Aside0 (M3.l0 kq a0 l1 aF aJ aA=some (r1,r2))∧Aside0 (kq≤k)∧Aside0 (Kd.R KI 3 w' w.heap.size (fun _=>True) v6 aF)∧Aside0 (Below w.heap.size w w'))
 case atStart=>exact⟨_,_,_,fz,fz,H',lr,⟨nz⟩,⟨bz⟩⟩
 case round =>
 obtain⟨aF,aJ,aA,rfl,rfl,⟨H⟩,aL,aB,HB⟩:=hrel
 cases gk with
 |zero=>cases H
 |succ k1 =>
 simp only[M3.l0]at H
 revert H
 refine iD ?_ ?_<;>intro c3b0
 ·generalize hji4:(wrap64 ((wrap64 (aA - a0))+1))=aE
  have bH:=(P9 _).trans hji4
  refine if' fun c5b0 c5b1=>it fun c6=>?_
  have c6b0:=eq_true c6
  have c6b1:=decide_eq_true c6
  refine it fun c7=>?_
  have c7b0:=eq_true c7
  have c7b1:=decide_eq_true c7
  refine ib fun bI A8=>iB ?_ ?_<;>rintro rfl
  ·refine ib fun aH bJ=>ib fun bK bL=>iB ?_ ?_<;>rintro rfl
   ·refine ia fun H'=>?_
    obtain⟨i013,aM,_,aN,_⟩:=info_parts J9
    obtain⟨bM,aV,aW,aX⟩:=l5 (P:=prog) (Value.int .i64) 0 22 3 .i64 .i64 underlying22 aM aN A1 c1 l1 (aE) (wrap64 (aA+1)) (od) (by first|omega|exact od) (od) aU.1
    have aC:=am (Kd.C_of_reads (h1:=fun _=>rfl) (aW _ (Kd.reads_of_C aT.1)))
    have aD:=am aX
    go_wp2_with (first|((with_reducible refine ga 45 ?_);refine gp func45 (E0.calls k1 bM (c1 - (aE).toNat) ((l1.take ((wrap64 (aA+1)):Int).toNat).drop ((aE):Int).toNat) true _ (M8 (Kd.C_below aC.1 HB.1)) aD.1 A8.1) (fun nd=>?_) (hargs:=by(try simp only[List.map_toArray,List.map_cons,List.map_nil]);first|done|(rw[show((l1.take ((wrap64 (aA+1)):Int).toNat).drop ((aE):Int).toNat).length=((wrap64 (aA+1)).toNat - (aE).toNat)from(by rw[List.length_drop,List.length_take];have h_:((wrap64 (aA+1)):Int)≤(l1.length:Int):=od;omega)]<;>rfl)|(simp only[hji4];rfl)|rfl|exact ml))|(go_at_call 106;refine AE2 (args':=#[.slice bM ((l1.take ((wrap64 (aA+1)):Int).toNat).drop ((aE):Int).toNat).length (c1 - (aE).toNat)]) (by first|(rw[show((l1.take ((wrap64 (aA+1)):Int).toNat).drop ((aE):Int).toNat).length=((wrap64 (aA+1)).toNat - (aE).toNat)from(by rw[List.length_drop,List.length_take];have h_:((wrap64 (aA+1)):Int)≤(l1.length:Int):=od;omega)]<;>rfl)|rfl) ?_;(with_reducible refine(F7.calls k1 _ _ ((l1.take ((wrap64 (aA+1)):Int).toNat).drop ((aE):Int).toNat) aH _ ?side1 ?side2 bJ.1).mono ?_);(case side1=>repeat(first|exact(Kd.C_below aC.1 bz)|(with_reducible refine Kd.C_alloc ?_ _)|(with_reducible refine Kd.C_drewN ?_ _)|(with_reducible refine Kd.C_drew ?_)));(case side2=>exact aD.1);rintro e w14 ⟨rfl,hb⟩;replace aB:=am (Kd.R_below (rR aB) hb);replace HB:=bS hb;clear hb;obtain⟨Ao15,co15,rfl⟩:=Kd.R_slice aB.1)|(go_at_call 79;(with_reducible refine qp (J1.calls k1 _ _ aF aH true _ (M8 (Kd.R_reads' aB.1).2.2) ((Kd.R_reads' aB.1).2.1) bL.1) fun nd=>?_)))
    go_roundg k1
    case measure=>exact lm aL
    case rel=>exact⟨_,_,_,fz,fz,H',la aL,⟨rR aB⟩,⟨bz⟩⟩
   refine ib fun aI A16=>il fun aO=>?_
   generalize aG:(aF++ [aI])=y1027
   replace aG:=am aG.symm
   refine ia fun H'=>?_
   obtain⟨i018,aP,_,aQ,_⟩:=info_parts J9
   obtain⟨aY,aZ,bA,bB⟩:=l5 (P:=prog) (Value.int .i64) 0 22 3 .i64 .i64 underlying22 aP aQ A1 c1 l1 (aE) (wrap64 (aA+1)) (od) (by first|omega|exact od) (od) aU.1
   have aC:=am (Kd.C_of_reads (h1:=fun _=>rfl) (bA _ (Kd.reads_of_C aT.1)))
   have aD:=am bB
   go_wp2_with (first|((with_reducible refine ga 45 ?_);refine gp func45 (E0.calls k1 aY (c1 - (aE).toNat) ((l1.take ((wrap64 (aA+1)):Int).toNat).drop ((aE):Int).toNat) true _ (M8 (Kd.C_below aC.1 HB.1)) aD.1 A8.1) (fun nd=>?_) (hargs:=by(try simp only[List.map_toArray,List.map_cons,List.map_nil]);first|done|(rw[show((l1.take ((wrap64 (aA+1)):Int).toNat).drop ((aE):Int).toNat).length=((wrap64 (aA+1)).toNat - (aE).toNat)from(by rw[List.length_drop,List.length_take];have h_:((wrap64 (aA+1)):Int)≤(l1.length:Int):=od;omega)]<;>rfl)|(simp only[hji4];rfl)|rfl|exact ml))|(go_at_call 106;refine AE2 (args':=#[.slice aY ((l1.take ((wrap64 (aA+1)):Int).toNat).drop ((aE):Int).toNat).length (c1 - (aE).toNat)]) (by first|(rw[show((l1.take ((wrap64 (aA+1)):Int).toNat).drop ((aE):Int).toNat).length=((wrap64 (aA+1)).toNat - (aE).toNat)from(by rw[List.length_drop,List.length_take];have h_:((wrap64 (aA+1)):Int)≤(l1.length:Int):=od;omega)]<;>rfl)|rfl) ?_;(with_reducible refine(F7.calls k1 _ _ ((l1.take ((wrap64 (aA+1)):Int).toNat).drop ((aE):Int).toNat) aH _ ?side1 ?side2 bJ.1).mono ?_);(case side1=>repeat(first|exact(Kd.C_below aC.1 bz)|(with_reducible refine Kd.C_alloc ?_ _)|(with_reducible refine Kd.C_drewN ?_ _)|(with_reducible refine Kd.C_drew ?_)));(case side2=>exact aD.1);rintro e w19 ⟨rfl,hb⟩;replace aB:=am (Kd.R_below (rR aB) hb);replace HB:=bS hb;clear hb;obtain⟨bC,bD,rfl⟩:=Kd.R_slice aB.1)|(go_at_call 79;(with_reducible refine qp (J1.calls k1 _ _ aF aH false _ (M8 (Kd.R_reads' aB.1).2.2) ((Kd.R_reads' aB.1).2.1) bL.1) fun nd=>?_))|((with_reducible refine ga 106 ?_);refine ge func106 (F7.calls k1 aY (c1 - (aE).toNat) ((l1.take ((wrap64 (aA+1)):Int).toNat).drop ((aE):Int).toNat) aI _ (by repeat(first|exact(Kd.C_below aC.1 bz)|(with_reducible refine Kd.C_alloc ?_ _)|(with_reducible refine Kd.C_drewN ?_ _)|(with_reducible refine Kd.C_drew ?_))) aD.1 A16.1) ?_ (hargs:=by(try simp only[List.map_toArray,List.map_cons,List.map_nil]);first|done|(rw[show((l1.take ((wrap64 (aA+1)):Int).toNat).drop ((aE):Int).toNat).length=((wrap64 (aA+1)).toNat - (aE).toNat)from(by rw[List.length_drop,List.length_take];have h_:((wrap64 (aA+1)):Int)≤(l1.length:Int):=od;omega)]<;>rfl)|(simp only[hji4];rfl)|rfl|exact ml);rintro w21 hb;replace aB:=am (Kd.R_below (rR aB) hb);replace HB:=bS hb;clear hb)|((with_reducible refine gb 35 38 ?_);at_builtin;refine ra KI underlying22 J9 (.slice bC aF.length bD) aF aI [.int .i64 aI] (fun _=>True) rfl (fun _ _=>trivial) (rR aB) bz (lm aO) ?_;intro bN w22 ho hb hg hat;rw[←aG.1]at ho;replace HB:=am (hb);have aK:=am (ho);clear aB ho hb hg hat))
   go_roundg k1
   case measure=>exact lm aL
   case rel=>exact⟨_,_,_,fz,fz,H',la aL,⟨rR aK⟩,⟨bz⟩⟩
  refine ia fun H'=>?_
  obtain⟨i023,aR,_,aS,_⟩:=info_parts J9
  obtain⟨A23,bE,bF,bG⟩:=l5 (P:=prog) (Value.int .i64) 0 22 3 .i64 .i64 underlying22 aR aS A1 c1 l1 (aE) (wrap64 (aA+1)) (od) (by first|omega|exact od) (od) aU.1
  have aC:=am (Kd.C_of_reads (h1:=fun _=>rfl) (bF _ (Kd.reads_of_C aT.1)))
  have aD:=am bG
  go_wp2_with ((with_reducible refine ga 45 ?_);refine gp func45 (E0.calls k1 A23 (c1 - (aE).toNat) ((l1.take ((wrap64 (aA+1)):Int).toNat).drop ((aE):Int).toNat) false _ (M8 (Kd.C_below aC.1 HB.1)) aD.1 A8.1) (fun nd=>?_) (hargs:=by(try simp only[List.map_toArray,List.map_cons,List.map_nil]);first|done|(rw[show((l1.take ((wrap64 (aA+1)):Int).toNat).drop ((aE):Int).toNat).length=((wrap64 (aA+1)).toNat - (aE).toNat)from(by rw[List.length_drop,List.length_take];have h_:((wrap64 (aA+1)):Int)≤(l1.length:Int):=od;omega)]<;>rfl)|(simp only[hji4];rfl)|rfl|exact ml))
  go_roundg k1
  case measure=>exact lm aL
  case rel=>exact⟨_,_,_,fz,fz,H',la aL,⟨rR aB⟩,⟨bz⟩⟩
 refine i2 ?_;rintro rfl rfl
 go_wp2
 go_ret2
 exact⟨_,fe,rR aB,bz⟩
def K8.l0:Nat→List Int→List Int→Int→Int→Option (Bool)
 |0,_,_,_,_=>none
 |k+1,b,c,d,a=>if a<d then(if 0≤a then(if a< (b.length:Int)then(if a< (c.length:Int)then(if(rd b a)=(rd c a)then(K8.l0 k b c d (wrap64 (a+1)))else(some false))else(none))else(none))else(none))else(some true)
def K8.f (k:Nat)(a b:List Int):Option (Bool):=if(a.length:Int)=(b.length:Int)then(K8.l0 k a b (a.length:Int) 0)else(some false)
theorem K8.mono_l:∀k,(∀y0 y1 y2 y3,S6 (K8.l0 k y0 y1 y2 y3) (K8.l0 (k+1) y0 y1 y2 y3))
 |0=>fun _ _ _ _ r h=>by simp[K8.l0]at h
 |k+1=>by
  have ih0:=K8.mono_l k
  ·intro y0 y1 y2 y3
   unfold K8.l0
   exact mo
theorem K8.mono:∀a0 a1 k,S6 (K8.f k a0 a1) (K8.f (k+1) a0 a1):=by
 intro a0 a1 k
 have ih0:=K8.mono_l k
 unfold K8.f
 exact mo
theorem K8.calls (k A0 c0 l0 A1 c1 l1 r w):Kd.C KI w A0 l0.length l0→l0.length≤c0→Kd.C KI w A1 l1.length l1→l1.length≤c1→K8.f k l0 l1=some r→
 Calls prog 292 #[.slice A0 l0.length c0,.slice A1 l1.length c1] w (pD w (.bool r)):=by
 refine pa fun aO HC0=>pa fun aP HC1=>?_
 unfold K8.f
 refine io ?_ ?_<;>intro c3
 ·have aJ:=beq_iff_eq.mpr c3
  have aK:=bne_eq_false_iff_eq.mpr c3
  have aL:(l0.length==l1.length)=true:=by first|simpa using c3|(simp at c3 ⊢;omega)
  clear c3
  refine ia fun H'=>?_
  go_in
  go_wp2
  repeat(go_quiet (fail);try go_wp2)
  go_loopg [13] k (fun kq v13 w'=>∃ (aA:Int),v13=.int .i64 aA∧Aside0 (K8.l0 kq l0 l1 (l0.length:Int) aA=some r)∧Aside0 (kq≤k)∧Drawn0 w w')
  case atStart=>exact⟨_,fz,H',lr,dz⟩
  case round =>
  obtain⟨aA,rfl,⟨H⟩,aQ,⟨m1,rfl⟩⟩:=hrel
  cases gk with
  |zero=>cases H
  |succ k1 =>
  simp only[K8.l0]at H
  revert H
  refine iD ?_ ?_<;>intro c4b0
  ·refine U9 fun c5b0=>U9 fun c6b0=>U9 fun c7b0=>iE (fun aM aN=>?_) fun c8 aM aN=>?_
   ·refine ia fun H'=>?_
    obtain⟨aF,aG,aD,rfl,aB⟩:=ai aO.1 aA
    obtain⟨aH,aI,aE,rfl,aC⟩:=ai aP.1 aA
    go_wp2
    repeat(go_quiet (fail);try go_wp2)
    go_roundg k1
    case measure=>exact lm aQ
    case rel=>exact⟨_,fz,H',la aQ,dz⟩
   refine i1 ?_;rintro rfl
   obtain⟨aF,aG,aD,rfl,aB⟩:=ai aO.1 aA
   obtain⟨aH,aI,aE,rfl,aC⟩:=ai aP.1 aA
   go_wp2
   repeat(go_quiet (fail);try go_wp2)
   go_ret
   exact⟨fz,dz⟩
  refine i1 ?_;rintro rfl
  go_wp2
  repeat(go_quiet (fail);try go_wp2)
  go_ret
  exact⟨fz,dz⟩
 have aJ:=beq_eq_false_iff_ne.mpr c3
 have aK:=bne_iff_ne.mpr c3
 have aL:(l0.length==l1.length)=false:=by first|simpa using c3|(simp at c3 ⊢;omega)
 refine i1 ?_;rintro rfl
 go_in
 go_wp2
 repeat(go_quiet (fail);try go_wp2)
 go_ret
 exact⟨fz,dz⟩
def M4.l0:Nat→List Int→List Int→Int→Option (List Int)
 |0,_,_,_=>none
 |k+1,b,c,a=>if 0≤(wrap64 ((b.length:Int) - a))then(if(wrap64 ((b.length:Int) - a))≤(b.length:Int)then(if 0≤a then(if a≤(c.length:Int)then((K8.f k (b.drop ((wrap64 ((b.length:Int) - a)):Int).toNat) (c.take (a:Int).toNat)).bind fun e=>(if e=true then((Q3.f b).bind fun d=>(if d.length+ (c.drop (a:Int).toNat).length<17592186044416 then(some (d++ (c.drop (a:Int).toNat)))else(none)))else(M4.l0 k b c (wrap64 (a - 1)))))else(none))else(none))else(none))else(none)
def M4.f (k:Nat)(a b:List Int):Option (List Int):=(r6.f (a.length:Int) (b.length:Int)).bind fun c=>(M4.l0 k a b c)
theorem M4.mono_l:∀k,(∀y0 y1 y2,S6 (M4.l0 k y0 y1 y2) (M4.l0 (k+1) y0 y1 y2))
 |0=>fun _ _ _ r h=>by simp[M4.l0]at h
 |k+1=>by
  have ih0:=M4.mono_l k
  ·intro y0 y1 y2
   unfold M4.l0
   have e0:=K8.mono;exact mo
theorem M4.mono:∀a0 a1 k,S6 (M4.f k a0 a1) (M4.f (k+1) a0 a1):=by
 intro a0 a1 k
 have ih0:=M4.mono_l k
 unfold M4.f
 have e0:=K8.mono;exact mo
def M4.T2:Bool×List (List Nat×List Nat):=(true,[([],[]),([],[]),([1],[1]),([],[]),([2,3],[2,3]),([0,4],[0,4]),([],[]),([],[]),([6,7],[6,7]),([5,8],[5,8]),([9],[9])])
def M4.B2:List Nat:=[0,0,2,0,14,31,0,0,192,511,1023]
theorem M4.tab2:AA0 .any (AC6 f279 2)=M4.T2:=by kernel_rfl
theorem M4.bits2:l6 M4.T2.2 M4.B2=true:=by kernel_rfl
theorem M4.calls (k A0 c0 l0 A1 c1 l1 r w):Kd.C KI w A0 l0.length l0→l0.length≤c0→Kd.C KI w A1 l1.length l1→l1.length≤c1→M4.f k l0 l1=some r→
 Calls prog 279 #[.slice A0 l0.length c0,.slice A1 l1.length c1] w (pR w KI 3 r):=by
 have HB:=bR w
 refine pa fun bF bG=>pa fun bH bI=>?_
 unfold M4.f
 refine ib fun aQ A3=>ia fun H'=>?_
 go_in
 go_wp2_with ((with_reducible refine ga 67 ?_);refine gp func67 (r6.calls (l0.length:Int) (l1.length:Int) aQ _ A3.1) fun nd=>?_)
 go_loopg [5] k (fun kq v5 w'=>∃ (aA:Int),v5=.int .i64 aA∧Aside0 (M4.l0 kq l0 l1 aA=some r)∧Aside0 (kq≤k)∧Aside0 (Below w.heap.size w w'))
 case atStart=>exact⟨_,fz,H',lr,⟨bz⟩⟩
 case round =>
 obtain⟨aA,rfl,⟨H⟩,cB,HB⟩:=hrel
 cases gk with
 |zero=>cases H
 |succ k1 =>
 simp only[M4.l0]at H
 obtain⟨aJ,aK⟩:=ex (wrap64 ((l0.length:Int) - aA):Int)
 first|rw[aK]at H|simp only[aK]at H
 have cC:(IntKind.i64.wrap ((l0.length:Int) - aA))=aJ:=(P9 _).trans aK
 revert H
 refine if' fun c5b0 c5b1=>if' fun c6b0 c6b1=>if' fun c7b0 c7b1=>if' fun c8b0 c8b1=>ib fun cD A9=>iB ?_ ?_<;>rintro rfl
 ·refine ib fun aM A11=>?_
  have cE:=eq_true (od:0≤aA)
  have cF:=eq_true (od:aA≤(l1.length:Int))
  refine il fun aT=>?_
  generalize aE:(aM++ (l1.drop (aA:Int).toNat))=y1040
  replace aE:=am aE.symm
  refine i1 ?_;rintro rfl
  try go_wp2
  replace HB:=am (F8 HB.1)
  obtain⟨i016,aU,_,aV,_⟩:=info_parts J9
  obtain⟨A16,bJ,bK,bL⟩:=X7 (P:=prog) (Value.int .i64) 0 22 3 .i64 underlying22 aU aV A0 c0 l0 (aJ) (od) (od) bG.1
  have aC:=am (Kd.C_of_reads (h1:=fun _=>rfl) (bK _ (Kd.reads_of_C bF.1)))
  have aG:=am bL
  obtain⟨i017,aW,_,aX,_⟩:=info_parts J9
  obtain⟨bM,bN,bO⟩:=AA6 (P:=prog) (Value.int .i64) 0 22 3 .i64 underlying22 aW aX A1 c1 l1 aA (od) (od) bI.1
  have hl17:(l1.take (aA:Int).toNat).length=(aA:Int).toNat:=by rw[List.length_take];have h_:aA≤(l1.length:Int):=od;omega
  have aD:=am (Kd.C_of_reads (h1:=fun _=>rfl) (bN _ (Kd.reads_of_C bH.1)))
  have aH:=am bO
  refine sq 11 (fun w'=>True) [] M4.tab2 M4.bits2 trivial fun hHeld HT_ HW_=>?_
  generalize wr.drew=w15 at HB aC aD hHeld ⊢
  refine rg [0,1,2,3,4,5,6,7,8] ?_
  refine AD4 (i:=9) (N:=some 20) (lb 11 1023) rfl rfl (g6 HT_.1 (by kernel_rfl)) (by decide) (fun K hK=>?_)
  refine AS9 func292 (by kernel_rfl) rfl #[.slice A16 (l0.drop ((aJ):Int).toNat).length (c0 - (aJ).toNat),.slice A1 (l1.take (aA:Int).toNat).length c1] (by rfl) rfl rfl (by(try simp only[List.map_toArray,List.map_cons,List.map_nil]);first|done|(rw[show(l0.drop ((aJ):Int).toNat).length=(l0.length - (aJ).toNat)from List.length_drop]<;>rfl)|(rw[show(l1.take (aA:Int).toNat).length=aA.toNat from(by rw[List.length_take];have h_:(aA:Int)≤(l1.length:Int):=od;omega)]<;>rfl)|(simp only[aK];rfl)|rfl|(simp only[List.length_drop,List.length_take];rfl)|(simp only[List.length_drop,List.length_take];rw[(fun(x:Int) (n:Nat) (h:(x≤(n:Int))=True)=>Nat.min_eq_left (by have:=of_eq_true h;omega):∀ (x:Int) (n:Nat),(x≤(n:Int))=True→min x.toNat n=x.toNat) _ _ (by assumption)];rfl)) ?_
  with_reducible refine(K8.calls k1 _ _ (l0.drop ((aJ):Int).toNat) _ _ (l1.take (aA:Int).toNat) true _ ?side1 ?side2 ?side3 ?side4 A9.1).mono ?_
  (case side1=>exact M8 (Kd.C_below aC.1 HB.1))
  (case side2=>exact aG.1)
  (case side3=>exact M8 (Kd.C_below aD.1 HB.1))
  (case side4=>exact aH.1)
  rintro e w' ⟨rfl,⟨nd,rfl⟩⟩
  refine⟨_,rfl,?_⟩
  refine hK.out _ _ trivial (fun hHeld=>?_)
  refine nm 20 ?_
  refine pw 10 ?_
  refine dn ?_
  try go_wp2
  (try (rw[Ae3 w15];generalize hq_:World.drewN w15 _=w15;have cG:Aside0 (Below w.heap.size w w15):=⟨by rw[←hq_];exact bz⟩;clear HB hq_;have HB:=cG;clear cG))
  replace HB:=am (F8 HB.1)
  obtain⟨i019,aY,_,aZ,_⟩:=info_parts J9
  obtain⟨A19,bP,bQ,bT⟩:=X7 (P:=prog) (Value.int .i64) 0 22 3 .i64 underlying22 aY aZ A1 c1 l1 aA (od) (od) bI.1
  have aI:=am (Kd.C_of_reads (h1:=fun _=>rfl) (bQ _ (Kd.reads_of_C bH.1)))
  have bU:=am bT
  refine sr 7 (fun w'=>True) [] trivial fun hHeld=>?_
  generalize w15.drew=w18 at HB aI hHeld ⊢
  refine rg [0,2,3,4] ?_
  refine AD4 (i:=1) (N:=some 25) (lb 7 31) rfl rfl (by kernel_rfl) (by decide) (fun K hK=>?_)
  refine AS9 func48 (by kernel_rfl) rfl #[.slice A0 l0.length c0] (by rfl) rfl rfl (by(try simp only[List.map_toArray,List.map_cons,List.map_nil]);first|done|rfl|(simp only[List.length_drop,List.length_take];rfl)|(simp only[List.length_drop,List.length_take];rw[(fun(x:Int) (n:Nat) (h:(x≤(n:Int))=True)=>Nat.min_eq_left (by have:=of_eq_true h;omega):∀ (x:Int) (n:Nat),(x≤(n:Int))=True→min x.toNat n=x.toNat) _ _ (by assumption)];rfl)) ?_
  with_reducible refine(Q3.calls _ _ l0 aM _ ?side1 ?side2 A11.1).mono ?_
  (case side1=>exact M8 (Kd.C_below bF.1 HB.1))
  (case side2=>exact bG.1)
  rintro e w20 ⟨bA,rfl,ho0,hb⟩
  refine⟨_,rfl,?_⟩
  have aN:=am (Kd.R_lower ho0 (C5 bz))
  replace HB:=bS hb
  refine hK.out _ _ trivial (fun hHeld=>?_)
  refine nm 25 ?_
  refine AD4 (i:=5) (N:=some 29) (lb 7 63) rfl rfl (by kernel_rfl) (by decide) (fun K hK=>?_)
  refine Kd.R_append_rows_step KI (w0:=w) w.heap.size (by rfl) (.tmp 25) (.tmp 28) 22 3 (.int .i64 0) 8 rfl underlying22 J9 rfl (by decide) (by omega) bA aM (l1.drop (aA:Int).toNat) _ _ _ (fun _=>True) (fun _=>False) rfl rfl ?aO ?aR (fun _ _ h=>h) (fun _ h=>h.elim) ?aF ?aB ?aS ?aL ?_
  (case aR=>first|(rw[←show(l1.drop (aA:Int).toNat).length=(l1.length - aA.toNat)from List.length_drop];repeat(first|exact(Kd.C_below aI.1 HB.1)|(with_reducible refine Kd.C_alloc ?_ _)|(with_reducible refine Kd.C_drewN ?_ _)|(with_reducible refine Kd.C_drew ?_)))|(repeat(first|exact(Kd.C_below aI.1 HB.1)|(with_reducible refine Kd.C_alloc ?_ _)|(with_reducible refine Kd.C_drewN ?_ _)|(with_reducible refine Kd.C_drew ?_))))
  (case aB=>exact bz)
  (case aF=>exact(fun _ _=>trivial))
  (case aO=>exact(rR aN))
  (case aS=>exact(C5 bz))
  (case aL=>have:=aT.1;have hlx_:=(show(l1.drop (aA:Int).toNat).length=(l1.length - aA.toNat)from List.length_drop);omega)
  intro cH w21 ho hb hg hat
  rw[←aE.1]at ho
  replace HB:=am (hb)
  have aP:=am (ho)
  refine hK.out _ _ trivial (fun hHeld=>?_)
  refine nm 29 ?_
  refine pw 6 ?_
  refine dn ?_
  try go_wp2
  go_ret
  exact⟨_,by first|rfl|(simp[M7,M6]<;>rfl)|(simp only[←aK];first|rfl|(simp[M7,M6]<;>rfl))|(simp[*,M7,M6]<;>rfl),rR aP,bz⟩
 refine ia fun H'=>?_
 try go_wp2
 replace HB:=am (F8 HB.1)
 obtain⟨i023,bB,_,bC,_⟩:=info_parts J9
 obtain⟨A23,bV,bW,bX⟩:=X7 (P:=prog) (Value.int .i64) 0 22 3 .i64 underlying22 bB bC A0 c0 l0 (aJ) (od) (od) bG.1
 have aC:=am (Kd.C_of_reads (h1:=fun _=>rfl) (bW _ (Kd.reads_of_C bF.1)))
 have aG:=am bX
 obtain⟨i024,bD,_,bE,_⟩:=info_parts J9
 obtain⟨bY,bZ,cA⟩:=AA6 (P:=prog) (Value.int .i64) 0 22 3 .i64 underlying22 bD bE A1 c1 l1 aA (od) (od) bI.1
 have hl24:(l1.take (aA:Int).toNat).length=(aA:Int).toNat:=by rw[List.length_take];have h_:aA≤(l1.length:Int):=od;omega
 have aD:=am (Kd.C_of_reads (h1:=fun _=>rfl) (bZ _ (Kd.reads_of_C bH.1)))
 have aH:=am cA
 refine sq 11 (fun w'=>True) [] M4.tab2 M4.bits2 trivial fun hHeld HT_ HW_=>?_
 generalize wr.drew=w22 at HB aC aD hHeld ⊢
 refine rg [0,1,2,3,4,5,6,7,8] ?_
 refine AD4 (i:=9) (N:=some 20) (lb 11 1023) rfl rfl (g6 HT_.1 (by kernel_rfl)) (by decide) (fun K hK=>?_)
 refine AS9 func292 (by kernel_rfl) rfl #[.slice A23 (l0.drop ((aJ):Int).toNat).length (c0 - (aJ).toNat),.slice A1 (l1.take (aA:Int).toNat).length c1] (by rfl) rfl rfl (by(try simp only[List.map_toArray,List.map_cons,List.map_nil]);first|done|(rw[show(l0.drop ((aJ):Int).toNat).length=(l0.length - (aJ).toNat)from List.length_drop]<;>rfl)|(rw[show(l1.take (aA:Int).toNat).length=aA.toNat from(by rw[List.length_take];have h_:(aA:Int)≤(l1.length:Int):=od;omega)]<;>rfl)|(simp only[aK];rfl)|rfl|(simp only[List.length_drop,List.length_take];rfl)|(simp only[List.length_drop,List.length_take];rw[(fun(x:Int) (n:Nat) (h:(x≤(n:Int))=True)=>Nat.min_eq_left (by have:=of_eq_true h;omega):∀ (x:Int) (n:Nat),(x≤(n:Int))=True→min x.toNat n=x.toNat) _ _ (by assumption)];rfl)) ?_
 with_reducible refine(K8.calls k1 _ _ (l0.drop ((aJ):Int).toNat) _ _ (l1.take (aA:Int).toNat) false _ ?side1 ?side2 ?side3 ?side4 A9.1).mono ?_
 (case side1=>exact M8 (Kd.C_below aC.1 HB.1))
 (case side2=>exact aG.1)
 (case side3=>exact M8 (Kd.C_below aD.1 HB.1))
 (case side4=>exact aH.1)
 rintro e w' ⟨rfl,⟨nd,rfl⟩⟩
 refine⟨_,rfl,?_⟩
 refine hK.out _ _ trivial (fun hHeld=>?_)
 refine nm 20 ?_
 refine pw 10 ?_
 refine dn ?_
 try go_wp2
 go_roundg k1
 case measure=>exact lm cB
 case rel=>exact⟨_,fz,H',la cB,⟨bz⟩⟩
mutual
def J4.l0:Nat→Int→List Int→List Int→Int→Int→Option (List Int)
 |0,_,_,_,_,_=>none
 |k+1,c,g,d,f,a=>if a<f then(if 0≤a then(if a< (d.length:Int)then((K9.f k (wrap64 (c - 1))).bind fun i=>((P7.f k i (rd d a)).bind fun b=>((Q3.f b).bind fun e=>(if e.length<17592186044416 then((some (e++ [wrap64 (c - 1)]:List Int)).bind fun h=>(if h.length+b.length<17592186044416 then((M4.f k g (h++b)).bind fun j=>(J4.l0 k c j d f (wrap64 (a+1))))else(none)))else(none)))))else(none))else(none))else(some g)
def J4.f:Nat→Int→Option (List Int)
 |0,_=>none
 |k+1,a=>if a=1 then(some (([0]:List Int)))else((J4.f k (wrap64 (a - 1))).bind fun c=>((M3.f k (wrap64 (a - 1)) c).bind fun b=>(J4.l0 k a ([]:List Int) b.1 (b.1.length:Int) 0)))
end
theorem J4.mono_l:∀k,(∀y0,S6 (J4.f k y0) (J4.f (k+1) y0))∧(∀y0 y1 y2 y3 y4,S6 (J4.l0 k y0 y1 y2 y3 y4) (J4.l0 (k+1) y0 y1 y2 y3 y4))
 |0=>⟨fun _ r h=>by simp[J4.f]at h,fun _ _ _ _ _ r h=>by simp[J4.l0]at h⟩
 |k+1=>by
  obtain⟨ih0,ih1⟩:=J4.mono_l k
  refine⟨?_,?_⟩
  ·intro y0
   unfold J4.f
   have e0:=P7.mono;have e1:=K9.mono;have e2:=M3.mono;have e3:=M4.mono;exact mo
  ·intro y0 y1 y2 y3 y4
   unfold J4.l0
   have e0:=P7.mono;have e1:=K9.mono;have e2:=M3.mono;have e3:=M4.mono;exact mo
theorem J4.mono:∀a0 k,S6 (J4.f k a0) (J4.f (k+1) a0):=by
 intro a0 k
 obtain⟨ih0,ih1⟩:=J4.mono_l k
 exact ih0 a0
theorem J4.calls (k:Nat):∀ (a0:Int) (r:List Int) (w:World) (h:J4.f k a0=some r),
 Calls prog 244 #[.int .i64 a0] w (pR w KI 3 r):=by
 induction k using Nat.strongRecOn with
 |_ k ih =>
 intro a0 r w h
 cases k with
 |zero=>exact absurd h (by simp[J4.f])
 |succ k =>
 simp only[J4.f]at h
 have HB:=bR w
 have H:=h
 revert H
 refine iE (fun bM bN=>?_) fun c2 bM bN=>?_
 ·generalize aM:([0]:List Int)=y1043
  replace aM:=am aM.symm
  refine i1 ?_;rintro rfl
  go_in
  go_wp2_with ((with_reducible refine gd 13 ?_);refine rl KI 3 ([0]:List Int) [.int .i64 0] (J7.one (show Kd.M KI _ _ _ 0 [.int .i64 0]from rfl) (J7.none _ _)) ?_;intro bU w3 bD hb;(first|rw[←aM.1]at bD|(simp only[Int.reduceToNat]at bD;rw[←aM.1]at bD));have bA:=am (Kd.R_lower bD (C5 bz));replace HB:=bS hb;clear hb bD)
  go_ret
  exact⟨_,fe,rR bA,bz⟩
 refine ib fun aX A5=>?_
 refine ib ?_;rintro⟨aD,bE⟩ A6
 refine ia fun H'=>?_
 go_in
 go_wp2_with (first|((with_reducible refine ga 244 ?_);refine gR func244 (ih k (by omega) (wrap64 (a0 - 1)) aX _ A5.1) bz ?_;clear HB;intro bV w7 aJ HB;obtain⟨Ao8,co8,rfl⟩:=Kd.R_slice aJ.1)|((with_reducible refine ga 278 ?_);refine gs func278 (M3.calls k (wrap64 (a0 - 1)) Ao8 co8 aX aD bE _ (M8 (Kd.R_reads' aJ.1).2.2) ((Kd.R_reads' aJ.1).2.1) A6.1) ?_;rintro bW w9 ⟨aI,hb⟩;have aT:=am (Kd.R_lower (Kd.R_new' aI (Kd.R_lt (rR aJ))) (C5 bz));replace aJ:=rE aJ aI hb;replace HB:=bS hb;clear hb aI;obtain⟨bF,aL,rfl⟩:=Kd.R_slice aT.1))
 go_loopg [6,26] k (fun kq v6 v26 w'=>∃ (aW:List Int) (aR:Int),v26=.int .i64 aR∧Aside0 (J4.l0 kq a0 aW aD (aD.length:Int) aR=some r)∧Aside0 (kq≤k)∧Aside0 (Kd.R KI 3 w' w.heap.size (fun k_=>some k_≠((.slice bF aD.length aL):Value).ownBlock) v6 aW)∧Aside0 (Kd.R KI 3 w' w.heap.size (fun k_=>some k_≠(v6:Value).ownBlock) (.slice bF aD.length aL) aD)∧Aside0 (Below w.heap.size w w'))
 case atStart=>exact⟨_,_,fz,H',lr,⟨nz⟩,⟨by(with_reducible repeat(first|apply Kd.R_alloc|apply Kd.R_drewN|apply Kd.R_drew));exact Kd.R_mono aT.1 (fun _ hk=>(by simp[Value.ownBlock]))⟩,⟨bz⟩⟩
 case round =>
 obtain⟨aW,aR,rfl,⟨H⟩,bX,aE,aC,HB⟩:=hrel
 cases gk with
 |zero=>cases H
 |succ k1 =>
 simp only[J4.l0]at H
 revert H
 refine iD ?_ ?_<;>intro bY
 ·refine U9 fun bZ=>U9 fun cA=>ib fun aH A14=>ib fun aF A15=>ib fun aY A16=>il fun bG=>iy fun aZ bB=>il fun bH=>?_
  generalize aS:(aZ++aF)=y1066
  replace aS:=am aS.symm
  refine ib fun bI A19=>ia fun H'=>?_
  obtain⟨cB,cC,aG,rfl,bJ⟩:=ai (Kd.R_reads' aC.1).2.2 aR
  go_wp2_with (first|((with_reducible refine ga 273 ?_);refine gs func273 (K9.calls k1 (wrap64 (a0 - 1)) aH _ A14.1) ?_;rintro cD w20 ⟨aI,hb⟩;have aA:=am (Kd.R_lower (Kd.R_new' (Kd.R_new' aI (Kd.R_lt (rR aE))) (Kd.R_lt (rR aC))) (C5 bz));replace aE:=rE aE aI hb;replace aC:=rE aC aI hb;replace HB:=bS hb;clear hb aI;obtain⟨aN,aO,rfl⟩:=Kd.R_slice aA.1)|((with_reducible refine ga 272 ?_);refine gs func272 (P7.calls k1 aN aO aH (rd aD aR) aF _ (M8 (Kd.R_reads' aA.1).2.2) ((Kd.R_reads' aA.1).2.1) A15.1) ?_;rintro cE w22 ⟨aI,hb⟩;have aB:=am (Kd.R_lower (Kd.R_new' (Kd.R_new' (Kd.R_new' aI (Kd.R_lt (rR aE))) (Kd.R_lt (rR aC))) (Kd.R_lt (rR aA))) (C5 bz));replace aE:=rE aE aI hb;replace aC:=rE aC aI hb;replace aA:=rE aA aI hb;replace HB:=bS hb;clear hb aI;obtain⟨aP,aQ,rfl⟩:=Kd.R_slice aB.1)|((with_reducible refine ga 48 ?_);refine gs func48 (Q3.calls aP aQ aF aY _ (M8 (Kd.R_reads' aB.1).2.2) ((Kd.R_reads' aB.1).2.1) A16.1) ?_;rintro bK w24 ⟨aI,hb⟩;have aU:=am (Kd.R_lower (Kd.R_new' (Kd.R_new' (Kd.R_new' (Kd.R_new' aI (Kd.R_lt (rR aE))) (Kd.R_lt (rR aC))) (Kd.R_lt (rR aA))) (Kd.R_lt (rR aB))) (C5 bz));replace aE:=rE aE aI hb;replace aC:=rE aC aI hb;replace aA:=rE aA aI hb;replace aB:=rE aB aI hb;replace HB:=bS hb;clear hb aI)|((with_reducible refine gb 36 39 ?_);at_builtin;refine ra KI underlying22 J9 bK aY (wrap64 (a0 - 1)) [.int .i64 (wrap64 (a0 - 1))] (fun k_=>some k_≠(u6:Value).ownBlock∧some k_≠(.slice (some aG) aD.length aL:Value).ownBlock∧some k_≠(.slice aN aH.length aO:Value).ownBlock∧some k_≠(.slice aP aF.length aQ:Value).ownBlock) rfl (fun k_ hk=>⟨Kd.fresh' (Kd.R_lt (rR aE)) k_ hk,Kd.fresh' (Kd.R_lt (rR aC)) k_ hk,Kd.fresh' (Kd.R_lt (rR aA)) k_ hk,Kd.fresh' (Kd.R_lt (rR aB)) k_ hk⟩) (rM aU (fun _ hk=>(And.intro hk.1.1.1.2 (And.intro hk.1.1.2 (And.intro hk.1.2 hk.2))))) bz (lm bG) ?_;intro bL w25 ho hb hg hat;rw[←bB.1]at ho;replace aE:=am (Kd.R_after (ok:=(fun k_=>some k_≠(.slice (some aG) aD.length aL:Value).ownBlock∧some k_≠(.slice aN aH.length aO:Value).ownBlock∧some k_≠(.slice aP aF.length aQ:Value).ownBlock)) (rM aE (fun _ hk=>(And.intro (And.intro hk.1.1.1 (And.intro hk.1.1.2 hk.1.2)) hk.2))) hg hat);replace aC:=am (Kd.R_after (ok:=(fun k_=>some k_≠(u6:Value).ownBlock∧some k_≠(.slice aN aH.length aO:Value).ownBlock∧some k_≠(.slice aP aF.length aQ:Value).ownBlock)) (rM aC (fun _ hk=>(And.intro (And.intro hk.1.1.1 (And.intro hk.1.1.2 hk.1.2)) hk.2))) hg hat);replace aA:=am (Kd.R_after (ok:=(fun k_=>some k_≠(u6:Value).ownBlock∧some k_≠(.slice (some aG) aD.length aL:Value).ownBlock∧some k_≠(.slice aP aF.length aQ:Value).ownBlock)) (rM aA (fun _ hk=>(And.intro (And.intro hk.1.1.1.2 (And.intro hk.1.1.2 hk.1.2)) hk.2))) hg hat);replace aB:=am (Kd.R_after (ok:=(fun k_=>some k_≠(u6:Value).ownBlock∧some k_≠(.slice (some aG) aD.length aL:Value).ownBlock∧some k_≠(.slice aN aH.length aO:Value).ownBlock)) (rM aB (fun _ hk=>(And.intro (And.intro hk.1.1.1.2 (And.intro hk.1.1.2 hk.1.2)) hk.2))) hg hat);replace HB:=am (hb);have aV:=am (ho);clear aU ho hb hg hat)|((with_reducible refine gb 40 41 ?_);at_builtin;refine rq KI underlying22 J9 bL aZ aF (fun k_=>some k_≠(u6:Value).ownBlock∧some k_≠(.slice (some aG) aD.length aL:Value).ownBlock∧some k_≠(.slice aN aH.length aO:Value).ownBlock∧some k_≠(.slice aP aF.length aQ:Value).ownBlock) (by repeat(first|exact(Kd.R_reads' aB.1).2.2|(with_reducible refine Kd.C_alloc ?_ _)|(with_reducible refine Kd.C_drewN ?_ _)|(with_reducible refine Kd.C_drew ?_))) (fun k_ hk=>⟨Kd.fresh' (Kd.R_lt (rR aE)) k_ hk,Kd.fresh' (Kd.R_lt (rR aC)) k_ hk,Kd.fresh' (Kd.R_lt (rR aA)) k_ hk,Kd.fresh' (Kd.R_lt (rR aB)) k_ hk⟩) (rR aV) bz (lm bH) ?_;intro cF w26 ho hb hg hat;rw[←aS.1]at ho;replace aE:=am (Kd.R_after (ok:=(fun k_=>some k_≠(.slice (some aG) aD.length aL:Value).ownBlock∧some k_≠(.slice aN aH.length aO:Value).ownBlock∧some k_≠(.slice aP aF.length aQ:Value).ownBlock)) (rR aE) hg hat);replace aC:=am (Kd.R_after (ok:=(fun k_=>some k_≠(u6:Value).ownBlock∧some k_≠(.slice aN aH.length aO:Value).ownBlock∧some k_≠(.slice aP aF.length aQ:Value).ownBlock)) (rR aC) hg hat);replace aA:=am (Kd.R_after (ok:=(fun k_=>some k_≠(u6:Value).ownBlock∧some k_≠(.slice (some aG) aD.length aL:Value).ownBlock∧some k_≠(.slice aP aF.length aQ:Value).ownBlock)) (rR aA) hg hat);replace aB:=am (Kd.R_after (ok:=(fun k_=>some k_≠(u6:Value).ownBlock∧some k_≠(.slice (some aG) aD.length aL:Value).ownBlock∧some k_≠(.slice aN aH.length aO:Value).ownBlock)) (rR aB) hg hat);replace HB:=am (hb);have aK:=am (ho);clear aV ho hb hg hat;obtain⟨bO,bP,rfl⟩:=Kd.R_slice aE.1;obtain⟨bQ,bT,rfl⟩:=Kd.R_slice aK.1)|((with_reducible refine ga 279 ?_);refine gs func279 (M4.calls k1 bO bP aW bQ bT y1066 bI _ (M8 (Kd.R_reads' aE.1).2.2) ((Kd.R_reads' aE.1).2.1) (M8 (Kd.R_reads' aK.1).2.2) ((Kd.R_reads' aK.1).2.1) A19.1) ?_;rintro cG w29 ⟨aI,hb⟩;have bC:=am (Kd.R_lower (Kd.R_new' (Kd.R_new' (Kd.R_new' (Kd.R_new' (Kd.R_new' aI (Kd.R_lt (rR aE))) (Kd.R_lt (rR aC))) (Kd.R_lt (rR aA))) (Kd.R_lt (rR aB))) (Kd.R_lt (rR aK))) (C5 bz));replace aE:=rE aE aI hb;replace aC:=rE aC aI hb;replace aA:=rE aA aI hb;replace aB:=rE aB aI hb;replace aK:=rE aK aI hb;replace HB:=bS hb;clear hb aI))
  go_roundg k1
  case measure=>exact lm bX
  case rel=>exact⟨_,_,fz,H',la bX,⟨rM bC (fun _ hk=>hk.1.1.1.2)⟩,⟨rM aC (fun _ hk=>hk.2)⟩,⟨bz⟩⟩
 refine i1 ?_;rintro rfl
 go_wp2
 go_ret
 exact⟨_,fe,rM aE (fun _ hk=>trivial),bz⟩
def AA1.f (k:Nat)(a:Int):Option (List Int×Bool):=(AB5.f a).bind fun b=>(if b=true then((J4.f k a).bind fun c=>(some (c,true)))else(some (([]:List Int),false)))
theorem AA1.calls (k a0 r1 r2 w):AA1.f k a0=some (r1,r2)→
 Calls prog 163 #[.int .i64 a0] w (pT w KI 3 r1 r2):=by
 have HB:=bR w
 unfold AA1.f
 refine ib fun aC A2=>iB ?_ ?_<;>rintro rfl
 ·refine ib fun aB A4=>i2 ?_;rintro rfl rfl
  go_in
  go_wp2_with (first|((with_reducible refine ga 243 ?_);refine gp func243 (AB5.calls a0 true _ A2.1) fun nd=>?_)|((with_reducible refine ga 244 ?_);refine gR func244 (J4.calls k a0 aB _ A4.1) bz ?_;clear HB;intro aD w5 aA HB))
  go_ret2
  exact⟨_,fe,rR aA,bz⟩
 refine i2 ?_;rintro rfl rfl
 go_in
 go_wp2_with ((with_reducible refine ga 243 ?_);refine gp func243 (AB5.calls a0 false _ A2.1) fun nd=>?_)
 go_ret2
 exact⟨_,fe,nz,bz⟩
mutual
def N9.l0:Nat→Int→Int→List (List Int)→Int→Int→Option (Int×Int)
 |0,_,_,_,_,_=>none
 |k+1,d,e,b,c,a=>if a<c then(if 0≤a then(if a< (b.length:Int)then(N9.l1 k d e 0 b c a (k9 b a) ((k9 b a).length:Int) 0)else(none))else(none))else(some (d,e))
def N9.l1:Nat→Int→Int→Int→List (List Int)→Int→Int→List Int→Int→Int→Option (Int×Int)
 |0,_,_,_,_,_,_,_,_,_=>none
 |k+1,f,g,h,b,c,d,e,i,a=>if a<i then(if 0≤a then(if a< (e.length:Int)then(N9.l1 k f g (wrap64 (h+ (rd e a))) b c d e i (wrap64 (a+1)))else(none))else(none))else(if(Int.tmod h 2)=0 then(N9.l0 k (wrap64 (f+1)) g b c (wrap64 (d+1)))else(N9.l0 k f (wrap64 (g+1)) b c (wrap64 (d+1))))
end
def N9.f (k:Nat)(b c:Int):Option (Int×Int):=(O9.f k b c 0).bind fun a=>(N9.l0 k 0 0 a (a.length:Int) 0)
theorem N9.calls (k a0 a1 r1 r2 w):N9.f k a0 a1=some (r1,r2)→
 Calls prog 245 #[.int .i64 a0,.int .i64 a1] w (pB w (.tuple #[.int .i64 r1,.int .i64 r2])):=by
 have HB:=bR w
 unfold N9.f
 refine ib fun aA A3=>ia fun H'=>?_
 go_in
 go_wp2_with ((with_reducible refine ga 233 ?_);refine gs func233 (O9.calls k a0 a1 0 aA _ A3.1) ?_;rintro bK w4 ⟨bL,hb⟩;have aK:=am (Kd.S_lower bL (C5 bz));replace HB:=bS hb;clear hb bL;obtain⟨Ao5,bM,rfl⟩:=Kd.S_slice aK.1)
 go_loopg [6,7,17] k (fun kq v6 v7 v17 w'=>∃ (aR aS aB:Int),v6=.int .i64 aR∧v7=.int .i64 aS∧v17=.int .i64 aB∧Aside0 (N9.l0 kq aR aS aA (aA.length:Int) aB=some (r1,r2))∧Aside0 (kq≤k)∧Aside0 (Kd.S KS 22 w' w.heap.size (fun _=>True) (.slice Ao5 aA.length bM) aA)∧Aside0 (Below w.heap.size w w'))
 case atStart=>exact⟨_,_,_,fz,fz,fz,H',lr,⟨rS aK⟩,⟨bz⟩⟩
 case round =>
 obtain⟨aR,aS,aB,rfl,rfl,rfl,⟨H⟩,aX,aE,HB⟩:=hrel
 cases gk with
 |zero=>cases H
 |succ k1 =>
 simp only[N9.l0]at H
 revert H
 refine iD ?_ ?_<;>intro c6b0
 ·refine U9 fun c7b0=>U9 fun c8b0=>ia fun H'=>?_
  have aI:0≤(aB:Int):=od
  have aJ:aB< (aA.length:Int):=od
  obtain⟨aW,aT,bG,aZ,aL,aM,aN⟩:=Ai5 (Kd.S_reads' aE.1).2.2 aB aI aJ
  cases aZ
  obtain⟨bI,bH,aU,aV⟩:=Kd.S_get aE.1 [] aB aI (by first|exact aJ|exact od|(have e_:=(Kd.S_reads' aE.1).1;omega))
  obtain⟨bA,rfl,aG⟩:=aU
  have aD:=aV 0 _ rfl
  rw[Nat.add_zero,show(KS).sz=1 from rfl,Nat.mul_one]at aD
  replace aD:=Option.some.inj (aD.symm.trans aL)
  rw[aD]at aG
  have bB:=am (show Kd.R KI 3 _ _ _ _ (k9 aA aB)from aG)
  have aC:=am aN
  have bC:=am aM
  replace aI:=eq_true aI
  replace aJ:=eq_true aJ
  go_wp2
  go_loopg [10,23] k1 (fun kq v10 v23 w'=>∃ (aO aF:Int),v10=.int .i64 aO∧v23=.int .i64 aF∧Aside0 (N9.l1 kq aR aS aO aA (aA.length:Int) aB (k9 aA aB) ((k9 aA aB).length:Int) aF=some (r1,r2))∧Aside0 (kq≤k1)∧Aside0 (Kd.S KS 22 w' w.heap.size (fun _=>True) (.slice (some aW) aA.length bM) aA)∧Aside0 (Kd.C KI w' aT (k9 aA aB).length (k9 aA aB))∧Aside0 (Below w.heap.size w w'))
  case atStart=>exact⟨_,_,fz,fz,H',lr,⟨rS aE⟩,⟨by repeat(first|(with_reducible exact aC.1)|(with_reducible refine Kd.C_alloc ?_ _)|(with_reducible refine Kd.C_drewN ?_ _)|(with_reducible refine Kd.C_drew ?_)|exact aC.1)⟩,⟨bz⟩⟩
  case round =>
  obtain⟨aO,aF,rfl,rfl,⟨H⟩,aY,aE,aC,HB⟩:=hrel
  cases gk with
  |zero=>cases H
  |succ k2 =>
  simp only[N9.l1]at H
  revert H
  refine iD ?_ ?_<;>intro c9b0
  ·refine U9 fun bN=>U9 fun bO=>ia fun H'=>?_
   have aP:0≤(aF:Int):=od
   have aQ:aF< ((k9 aA aB).length:Int):=od
   obtain⟨bJ,bD,aH⟩:=Kd.at_int aC.1 aF aP aQ
   cases bD
   (try replace aH:=cl aH)
   replace aP:=eq_true aP
   replace aQ:=eq_true aQ
   go_wp2
   go_roundg k2
   case measure=>exact lu aX aY
   case rel=>exact⟨_,_,fz,fz,H',lv aX aY,⟨rS aE⟩,⟨by repeat(first|(with_reducible exact aC.1)|(with_reducible refine Kd.C_alloc ?_ _)|(with_reducible refine Kd.C_drewN ?_ _)|(with_reducible refine Kd.C_drew ?_)|exact aC.1)⟩,⟨bz⟩⟩
  refine iE (fun bE bF=>?_) fun c12 bE bF=>?_
  ·refine ia fun H'=>?_
   go_wp2
   go_roundg k2
   case measure=>exact lu aX aY
   case rel=>exact⟨_,_,_,fz,fz,fz,H',lv aX aY,⟨rS aE⟩,⟨bz⟩⟩
  refine ia fun H'=>?_
  go_wp2
  go_roundg k2
  case measure=>exact lu aX aY
  case rel=>exact⟨_,_,_,fz,fz,fz,H',lv aX aY,⟨rS aE⟩,⟨bz⟩⟩
 refine i2 ?_;rintro rfl rfl
 go_wp2
 go_ret2
 exact⟨fe,bz⟩
def W8.f (k:Nat)(a b:Int):Option (Int×Int×Bool):=(Z8.f a b).bind fun d=>(if d=true then((N9.f k a b).bind fun c=>(some (c.1,c.2,true)))else(some (0,0,false)))
theorem W8.calls (k a0 a1 r1 r2 r3 w):W8.f k a0 a1=some (r1,r2,r3)→
 Calls prog 164 #[.int .i64 a0,.int .i64 a1] w (pB w (.tuple #[.int .i64 r1,.int .i64 r2,.bool r3])):=by
 have HB:=bR w
 unfold W8.f
 refine ib fun aC A3=>iB ?_ ?_<;>rintro rfl
 ·refine ib ?_;rintro⟨aA,aB⟩ A5
  refine i3 ?_;rintro rfl rfl rfl
  go_in
  go_wp2_with (first|((with_reducible refine ga 234 ?_);refine gp func234 (Z8.calls a0 a1 true _ A3.1) fun nd=>?_)|((with_reducible refine ga 245 ?_);refine gB func245 (N9.calls k a0 a1 aA aB _ A5.1) bz ?_;clear HB;intro w6 HB))
  go_ret3
  exact⟨fe,bz⟩
 refine i3 ?_;rintro rfl rfl rfl
 go_in
 go_wp2_with ((with_reducible refine ga 234 ?_);refine gp func234 (Z8.calls a0 a1 false _ A3.1) fun nd=>?_)
 go_ret3
 exact⟨fe,bz⟩
def AB4.f (k:Nat)(a:List Int):Option (Bool):=(G3.f (a.length:Int) 1 24).bind fun b=>(if b=true then((U6.f k a 0 5).bind fun c=>(some c))else(some false))
theorem AB4.calls (k A0 c0 l0 r w):Kd.C KI w A0 l0.length l0→l0.length≤c0→AB4.f k l0=some r→
 Calls prog 246 #[.slice A0 l0.length c0] w (pD w (.bool r)):=by
 refine pa fun HR0 HC0=>?_
 unfold AB4.f
 refine ib fun aB A2=>iB ?_ ?_<;>rintro rfl
 ·refine ib fun aA A4=>i1 ?_;rintro rfl
  go_in
  go_wp2_with (first|((with_reducible refine ga 78 ?_);refine gp func78 (G3.calls (l0.length:Int) 1 24 true _ A2.1) fun nd=>?_)|(go_at_call 89;(with_reducible refine qp (U6.calls k _ _ l0 0 5 aA _ (M8 HR0.1) HC0.1 A4.1) fun nd=>?_)))
  go_ret
  exact⟨fz,dz⟩
 refine i1 ?_;rintro rfl
 go_in
 go_wp2_with ((with_reducible refine ga 78 ?_);refine gp func78 (G3.calls (l0.length:Int) 1 24 false _ A2.1) fun nd=>?_)
 go_ret
 exact⟨fz,dz⟩
def N8.l0:Nat→List Int→Int→List Int→Int→Int→Option (List Int)
 |0,_,_,_,_,_=>none
 |k+1,a,c,d,e,b=>if b<e then(if(a.length:Int)=0 then(none)else(if 0≤(Int.tmod (wrap64 (b+c)) (a.length:Int))then(if(Int.tmod (wrap64 (b+c)) (a.length:Int))< (a.length:Int)then(if d.length<17592186044416 then(N8.l0 k a c (d++ [rd a (Int.tmod (wrap64 (b+c)) (a.length:Int))]) e (wrap64 (b+1)))else(none))else(none))else(none)))else(some d)
def N8.f (k:Nat)(a:List Int)(b:Int):Option (List Int):=N8.l0 k a b ([]:List Int) (a.length:Int) 0
theorem N8.calls (k A0 c0 l0 a1 r w):Kd.C KI w A0 l0.length l0→l0.length≤c0→N8.f k l0 a1=some r→
 Calls prog 294 #[.slice A0 l0.length c0,.int .i64 a1] w (pR w KI 3 r):=by
 have HB:=bR w
 refine pa fun HR0 HC0=>?_
 unfold N8.f
 refine ia fun H'=>?_
 go_in
 go_wp2
 go_loopg [5,9] k (fun kq v5 v9 w'=>∃ (aC:List Int) (aD:Int),v9=.int .i64 aD∧Aside0 (N8.l0 kq l0 a1 aC (l0.length:Int) aD=some r)∧Aside0 (kq≤k)∧Aside0 (Kd.R KI 3 w' w.heap.size (fun _=>True) v5 aC)∧Aside0 (Below w.heap.size w w'))
 case atStart=>exact⟨_,_,fz,H',lr,⟨nz⟩,⟨bz⟩⟩
 case round =>
 obtain⟨aC,aD,rfl,⟨H⟩,aI,aE,HB⟩:=hrel
 cases gk with
 |zero=>cases H
 |succ k1 =>
 simp only[N8.l0]at H
 revert H
 refine iD ?_ ?_<;>intro c3b0
 ·refine iN fun c4 c4b0 c4b1=>?_
  have c4b2:¬(l0=[]):=fun h_=>c4 (by rw[h_];rfl)
  generalize hji5:(Int.tmod (wrap64 (aD+a1)) (l0.length:Int))=ji5
  refine U9 fun c6b0=>U9 fun c7b0=>il fun aG=>?_
  generalize aB:(aC++ [rd l0 (ji5)])=y1087
  replace aB:=am aB.symm
  refine ia fun H'=>?_
  obtain⟨aJ,aK,aH,rfl,aA⟩:=ai HR0.1 (ji5)
  replace aA:=cl aA
  go_wp2_with ((with_reducible refine gb 12 22 ?_);at_builtin;refine ra KI underlying22 J9 u5 aC (rd l0 (ji5)) [.int .i64 (rd l0 (ji5))] (fun _=>True) rfl (fun _ _=>trivial) (rR aE) bz (lm aG) ?_;intro aL w9 ho hb hg hat;rw[←aB.1]at ho;replace HB:=am (hb);have aF:=am (ho);clear aE ho hb hg hat)
  go_roundg k1
  case measure=>exact lm aI
  case rel=>exact⟨_,_,fz,H',la aI,⟨rR aF⟩,⟨bz⟩⟩
 refine i1 ?_;rintro rfl
 go_wp2
 go_ret
 exact⟨_,fe,rR aE,bz⟩
def a6.f (a:Int):Option (Int):=if a>0 then(some 1)else(if a<0 then(some (-1))else(some 0))
theorem a6.calls (a0 r w):a6.f a0=some r→
 Calls prog 300 #[.int .i64 a0] w (pD w (.int .i64 r)):=by
 unfold a6.f
 refine iD (fun aA=>?_) fun aA=>?_
 ·refine i1 ?_;rintro rfl
  go_in
  go_wp2
  go_ret
  exact⟨fz,dz⟩
 refine iD ?_ ?_<;>intro c3b0
 ·refine i1 ?_;rintro rfl
  go_in
  go_wp2
  go_ret
  exact⟨fz,dz⟩
 refine i1 ?_;rintro rfl
 go_in
 go_wp2
 go_ret
 exact⟨fz,dz⟩
mutual
def L2.l0:Nat→List Int→List Int→Int→Option (Int)
 |0,_,_,_=>none
 |k+1,b,c,a=>if a< (b.length:Int)then(L2.j1 k b c a (decide (a< (c.length:Int))))else(L2.j1 k b c a false)
def L2.j1:Nat→List Int→List Int→Int→Bool→Option (Int)
 |0,_,_,_,_=>none
 |k+1,b,c,a,f=>if f=true then(if 0≤a then(if a< (b.length:Int)then(if a< (c.length:Int)then(if(rd b a)=(rd c a)then(L2.l0 k b c (wrap64 (a+1)))else((a6.f (wrap64 ((rd b a) - (rd c a)))).bind fun d=>(some d)))else(none))else(none))else(none))else((a6.f (wrap64 ((b.length:Int) - (c.length:Int)))).bind fun e=>(some e))
end
def L2.f (k:Nat)(a b:List Int):Option (Int):=L2.l0 k a b 0
theorem L2.calls (k A0 c0 l0 A1 c1 l1 r w):Kd.C KI w A0 l0.length l0→l0.length≤c0→Kd.C KI w A1 l1.length l1→l1.length≤c1→L2.f k l0 l1=some r→
 Calls prog 298 #[.slice A0 l0.length c0,.slice A1 l1.length c1] w (pD w (.int .i64 r)):=by
 refine pa fun aY HC0=>pa fun aZ HC1=>?_
 unfold L2.f
 refine ia fun H'=>?_
 go_in
 go_wp2
 repeat(go_quiet (fail);try go_wp2)
 go_loopg [5] k (fun kq v5 w'=>∃ (aA:Int),v5=.int .i64 aA∧Aside0 (L2.l0 kq l0 l1 aA=some r)∧Aside0 (kq≤k)∧Drawn0 w w')
 case atStart=>exact⟨_,fz,H',lr,dz⟩
 case round =>
 obtain⟨aA,rfl,⟨H⟩,aX,⟨m1,rfl⟩⟩:=hrel
 cases gk with
 |zero=>cases H
 |succ k1 =>
 simp only[L2.l0]at H
 have HC3:=am H
 go_upto_region 2 with(fail)
 repeat(go_quiet (fail);go_upto_region 2 with(fail))
 go_cut [15] (fun v15 wc=>∃ (kq:Nat) (aB:Bool),v15=.bool aB∧Aside0 (L2.j1 kq l0 l1 aA aB=some r)∧Aside0 (kq≤k1)∧Drawn0 w wc)
 case first =>
  have H:=HC3.1
  revert H
  refine iD ?_ ?_<;>intro aM
  ·(first|rw[aM]|(simp only[P9,i6];rw[aM])|skip)
   refine ia fun H'=>?_
   go_wp2
   repeat(go_quiet (fail);try go_wp2)
   go_meet
   case rel=>exact⟨_,(decide (aA< (l1.length:Int))),fz,H',⟨by have:=aX.1;first|omega|exact Nat.le_refl _⟩,dz⟩
  (first|rw[aM]|(simp only[P9,i6];rw[aM])|skip)
  refine ia fun H'=>?_
  go_wp2
  repeat(go_quiet (fail);try go_wp2)
  go_meet
  case rel=>exact⟨_,(false),fz,H',⟨by have:=aX.1;first|omega|exact Nat.le_refl _⟩,dz⟩
 case rest =>
 obtain⟨kq,aB,rfl,⟨H⟩,bE,⟨mc2,rfl⟩⟩:=hcut
 cases kq with
 |zero=>cases H
 |succ kj2 =>
 simp only[L2.j1]at H
 revert H
 refine iB ?_ ?_<;>rintro rfl
 ·refine U9 fun c6b0=>U9 fun c7b0=>U9 fun c8b0=>iE (fun bA bB=>?_) fun c9 bA bB=>?_
  ·refine ia fun H'=>?_
   obtain⟨aP,aQ,aC,rfl,aD⟩:=ai aY.1 aA
   obtain⟨aR,aS,aE,rfl,aF⟩:=ai aZ.1 aA
   go_wp2
   repeat(go_quiet (fail);try go_wp2)
   go_roundg kj2
   case measure=>exact lu aX bE
   case rel=>exact⟨_,fz,H',lv aX bE,dz⟩
  refine ib fun aG bC=>i1 ?_;rintro rfl
  obtain⟨aP,aQ,aC,rfl,aD⟩:=ai aY.1 aA
  obtain⟨aR,aS,aE,rfl,aF⟩:=ai aZ.1 aA
  have aH:0≤(aA:Int):=od
  have aI:aA< (l0.length:Int):=od
  obtain⟨aN,aT,aU⟩:=Kd.at_int aY.1 aA aH aI
  obtain rfl:aC=aN:=(by injection aT)
  replace aH:=eq_true aH
  replace aI:=eq_true aI
  have aJ:0≤(aA:Int):=od
  have aK:aA< (l1.length:Int):=od
  obtain⟨aO,aV,aW⟩:=Kd.at_int aZ.1 aA aJ aK
  obtain rfl:aE=aO:=(by injection aV)
  replace aJ:=eq_true aJ
  replace aK:=eq_true aK
  go_wp2_with (go_at_call 300;(with_reducible refine qp (a6.calls (wrap64 ((rd l0 aA) - (rd l1 aA))) aG _ bC.1) fun nd=>?_);(try exact dd'))
  repeat(go_quiet (first|(go_at_call 300;(with_reducible refine qp (a6.calls (wrap64 ((rd l0 aA) - (rd l1 aA))) aG _ bC.1) fun nd=>?_);(try exact dd')));try go_wp2_with (go_at_call 300;(with_reducible refine qp (a6.calls (wrap64 ((rd l0 aA) - (rd l1 aA))) aG _ bC.1) fun nd=>?_);(try exact dd')))
  go_ret
  exact⟨fz,dz⟩
 refine ib fun aL bD=>i1 ?_;rintro rfl
 go_wp2_with (go_at_call 300;(with_reducible refine qp (a6.calls (wrap64 ((l0.length:Int) - (l1.length:Int))) aL _ bD.1) fun nd=>?_);(try exact dd'))
 repeat(go_quiet (first|(go_at_call 300;(with_reducible refine qp (a6.calls (wrap64 ((l0.length:Int) - (l1.length:Int))) aL _ bD.1) fun nd=>?_);(try exact dd')));try go_wp2_with (go_at_call 300;(with_reducible refine qp (a6.calls (wrap64 ((l0.length:Int) - (l1.length:Int))) aL _ bD.1) fun nd=>?_);(try exact dd')))
 go_ret
 exact⟨fz,dz⟩
def U4.l0:Nat→List Int→Int→Int→Option (Int)
 |0,_,_,_=>none
 |k+1,a,c,b=>if b< (a.length:Int)then((N8.f k a b).bind fun d=>((N8.f k a c).bind fun e=>((L2.f k d e).bind fun f=>(if f<0 then(U4.l0 k a b (wrap64 (b+1)))else(U4.l0 k a c (wrap64 (b+1)))))))else(some c)
def U4.f (k:Nat)(a:List Int):Option (Int):=U4.l0 k a 0 1
theorem U4.calls (k A0 c0 l0 r w):Kd.C KI w A0 l0.length l0→l0.length≤c0→U4.f k l0=some r→
 Calls prog 293 #[.slice A0 l0.length c0] w (pB w (.int .i64 r)):=by
 have HB:=bR w
 refine pa fun aK aL=>?_
 unfold U4.f
 refine ia fun H'=>?_
 go_in
 go_wp2
 go_loopg [3,4] k (fun kq v3 v4 w'=>∃ (aE aF:Int),v3=.int .i64 aE∧v4=.int .i64 aF∧Aside0 (U4.l0 kq l0 aE aF=some r)∧Aside0 (kq≤k)∧Aside0 (Below w.heap.size w w'))
 case atStart=>exact⟨_,_,fz,fz,H',lr,⟨bz⟩⟩
 case round =>
 obtain⟨aE,aF,rfl,rfl,⟨H⟩,aM,HB⟩:=hrel
 cases gk with
 |zero=>cases H
 |succ k1 =>
 simp only[U4.l0]at H
 revert H
 refine iD ?_ ?_<;>intro c2b0
 ·refine ib fun aC A3=>ib fun aD A4=>ib fun aG A5=>iD ?_ ?_<;>intro c6b0
  ·refine ia fun H'=>?_
   go_wp2_with (first|((with_reducible refine ga 294 ?_);refine gR func294 (N8.calls k1 A0 c0 l0 aF aC _ (M8 (Kd.C_below aK.1 HB.1)) aL.1 A3.1) bz ?_;clear HB;intro aI w7 aA HB)|((with_reducible refine ga 294 ?_);refine gs func294 (N8.calls k1 A0 c0 l0 aE aD _ (M8 (Kd.C_below aK.1 HB.1)) aL.1 A4.1) ?_;rintro aJ w8 ⟨aH,hb⟩;have aB:=am (Kd.R_lower (Kd.R_new' aH (Kd.R_lt (rR aA))) (C5 bz));replace aA:=rE aA aH hb;replace HB:=bS hb;clear hb aH;obtain⟨Ao9,co9,rfl⟩:=Kd.R_slice aA.1;obtain⟨aN,aO,rfl⟩:=Kd.R_slice aB.1)|((with_reducible refine ga 298 ?_);refine gp func298 (L2.calls k1 Ao9 co9 aC aN aO aD aG _ (M8 (Kd.R_reads' aA.1).2.2) ((Kd.R_reads' aA.1).2.1) (M8 (Kd.R_reads' aB.1).2.2) ((Kd.R_reads' aB.1).2.1) A5.1) fun nd=>?_))
   go_roundg k1
   case measure=>exact lm aM
   case rel=>exact⟨_,_,fz,fz,H',la aM,⟨bz⟩⟩
  refine ia fun H'=>?_
  go_wp2_with (first|((with_reducible refine ga 294 ?_);refine gR func294 (N8.calls k1 A0 c0 l0 aF aC _ (M8 (Kd.C_below aK.1 HB.1)) aL.1 A3.1) bz ?_;clear HB;intro aI w11 aA HB)|((with_reducible refine ga 294 ?_);refine gs func294 (N8.calls k1 A0 c0 l0 aE aD _ (M8 (Kd.C_below aK.1 HB.1)) aL.1 A4.1) ?_;rintro aJ w12 ⟨aH,hb⟩;have aB:=am (Kd.R_lower (Kd.R_new' aH (Kd.R_lt (rR aA))) (C5 bz));replace aA:=rE aA aH hb;replace HB:=bS hb;clear hb aH;obtain⟨aP,aQ,rfl⟩:=Kd.R_slice aA.1;obtain⟨aR,aS,rfl⟩:=Kd.R_slice aB.1)|((with_reducible refine ga 298 ?_);refine gp func298 (L2.calls k1 aP aQ aC aR aS aD aG _ (M8 (Kd.R_reads' aA.1).2.2) ((Kd.R_reads' aA.1).2.1) (M8 (Kd.R_reads' aB.1).2.2) ((Kd.R_reads' aB.1).2.1) A5.1) fun nd=>?_))
  go_roundg k1
  case measure=>exact lm aM
  case rel=>exact⟨_,_,fz,fz,H',la aM,⟨bz⟩⟩
 refine i1 ?_;rintro rfl
 go_wp2
 go_ret
 exact⟨fe,bz⟩
def o8.f (k:Nat)(a:List Int):Option (Bool):=(U4.f k a).bind fun b=>(some (b==0))
theorem o8.calls (k A0 c0 l0 r w):Kd.C KI w A0 l0.length l0→l0.length≤c0→o8.f k l0=some r→
 Calls prog 280 #[.slice A0 l0.length c0] w (pB w (.bool r)):=by
 have HB:=bR w
 refine pa fun HR0 HC0=>?_
 unfold o8.f
 refine ib fun aA A2=>i1 ?_;rintro rfl
 go_in
 go_wp2_with ((with_reducible refine ga 293 ?_);refine gB func293 (U4.calls k A0 c0 l0 aA _ (M8 HR0.1) HC0.1 A2.1) bz ?_;clear HB;intro w3 HB)
 go_ret
 exact⟨fe,bz⟩
def W9.l0:Nat→List Int→Int→Option (Int)
 |0,_,_=>none
 |k+1,b,a=>if a=0 then(none)else(if((b.length:Int) % a)=0 then((N8.f k b a).bind fun c=>((K8.f k c b).bind fun d=>(if d=true then(some a)else(W9.l0 k b (wrap64 (a+1))))))else(W9.l0 k b (wrap64 (a+1))))
def W9.f (k:Nat)(a:List Int):Option (Int):=W9.l0 k a 1
theorem W9.calls (k A0 c0 l0 r w):Kd.C KI w A0 l0.length l0→l0.length≤c0→W9.f k l0=some r→
 Calls prog 281 #[.slice A0 l0.length c0] w (pB w (.int .i64 r)):=by
 have HB:=bR w
 refine pa fun aF aG=>?_
 unfold W9.f
 refine ia fun H'=>?_
 go_in
 go_wp2
 go_loopg [3] k (fun kq v3 w'=>∃ (aC:Int),v3=.int .i64 aC∧Aside0 (W9.l0 kq l0 aC=some r)∧Aside0 (kq≤k)∧Aside0 (Below w.heap.size w w'))
 case atStart=>exact⟨_,fz,H',lr,⟨bz⟩⟩
 case round =>
 obtain⟨aC,rfl,⟨H⟩,aH,HB⟩:=hrel
 cases gk with
 |zero=>cases H
 |succ k1 =>
 simp only[W9.l0]at H
 revert H
 refine iN fun c2 c2b0 c2b1=>iE (fun aI aJ=>?_) fun c3 aI aJ=>?_
 ·refine ib fun aB A4=>ib fun aK A5=>iB ?_ ?_<;>rintro rfl
  ·refine i1 ?_;rintro rfl
   go_wp2_with (first|(go_at_call 294;(with_reducible refine(N8.calls k1 _ _ l0 aC aB _ ?side1 ?side2 A4.1).mono ?_);(case side1=>exact M8 (Kd.C_below aF.1 HB.1));(case side2=>exact aG.1);rintro e w7 ⟨aD,rfl,aE,hb⟩;have aA:=am (Kd.R_lower aE (C5 bz));replace HB:=bS hb;clear hb aE;obtain⟨Ao8,co8,rfl⟩:=Kd.R_slice aA.1)|(go_at_call 292;(with_reducible refine qp (K8.calls k1 _ _ aB _ _ l0 true _ (M8 (Kd.R_reads' aA.1).2.2) ((Kd.R_reads' aA.1).2.1) (M8 (Kd.C_below aF.1 HB.1)) aG.1 A5.1) fun nd=>?_)))
   go_ret
   exact⟨fe,bz⟩
  refine ia fun H'=>?_
  go_wp2_with (first|(go_at_call 294;(with_reducible refine(N8.calls k1 _ _ l0 aC aB _ ?side1 ?side2 A4.1).mono ?_);(case side1=>exact M8 (Kd.C_below aF.1 HB.1));(case side2=>exact aG.1);rintro e w9 ⟨aD,rfl,aE,hb⟩;have aA:=am (Kd.R_lower aE (C5 bz));replace HB:=bS hb;clear hb aE;obtain⟨Ao10,co10,rfl⟩:=Kd.R_slice aA.1)|(go_at_call 292;(with_reducible refine qp (K8.calls k1 _ _ aB _ _ l0 false _ (M8 (Kd.R_reads' aA.1).2.2) ((Kd.R_reads' aA.1).2.1) (M8 (Kd.C_below aF.1 HB.1)) aG.1 A5.1) fun nd=>?_)))
  go_roundg k1
  case measure=>exact lm aH
  case rel=>exact⟨_,fz,H',la aH,⟨bz⟩⟩
 refine ia fun H'=>?_
 go_wp2
 go_roundg k1
 case measure=>exact lm aH
 case rel=>exact⟨_,fz,H',la aH,⟨bz⟩⟩
def x0.f (k:Nat)(a:List Int):Option (Bool):=(o8.f k a).bind fun b=>(if b=true then((W9.f k a).bind fun c=>(some (c== (a.length:Int))))else(some false))
theorem x0.calls (k A0 c0 l0 r w):Kd.C KI w A0 l0.length l0→l0.length≤c0→x0.f k l0=some r→
 Calls prog 247 #[.slice A0 l0.length c0] w (pB w (.bool r)):=by
 have HB:=bR w
 refine pa fun aB aC=>?_
 unfold x0.f
 refine ib fun aD A2=>iB ?_ ?_<;>rintro rfl
 ·refine ib fun aA A4=>i1 ?_;rintro rfl
  go_in
  go_wp2_with (first|((with_reducible refine ga 280 ?_);refine gB func280 (o8.calls k A0 c0 l0 true _ (M8 aB.1) aC.1 A2.1) bz ?_;clear HB;intro w5 HB)|(go_at_call 281;(with_reducible refine(W9.calls k _ _ l0 aA _ ?side1 ?side2 A4.1).mono ?_);(case side1=>exact M8 (Kd.C_below aB.1 HB.1));(case side2=>exact aC.1);rintro e w6 ⟨rfl,hb⟩;replace HB:=bS hb;clear hb))
  go_ret
  exact⟨fe,bz⟩
 refine i1 ?_;rintro rfl
 go_in
 go_wp2_with ((with_reducible refine ga 280 ?_);refine gB func280 (o8.calls k A0 c0 l0 false _ (M8 aB.1) aC.1 A2.1) bz ?_;clear HB;intro w7 HB)
 go_ret
 exact⟨fe,bz⟩
end Go.Proofs.YtpiogigidgejpaaGreatDoor.PFnExactStepLine
