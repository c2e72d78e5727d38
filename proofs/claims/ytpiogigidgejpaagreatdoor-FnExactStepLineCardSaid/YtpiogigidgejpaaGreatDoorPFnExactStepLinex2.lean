import Derived.Test.YtpiogigidgejpaaGreatDoorPFnExactStepLinex1
namespace Go.Proofs.YtpiogigidgejpaaGreatDoor.PFnExactStepLine
open Go.RowKit Go.Proofs.YtpiogigidgejpaaGreatDoorW.PrintWords Go.Proofs.YtpiogigidgejpaaGreatDoorW.PrintLast Go.Proofs.YtpiogigidgejpaaGreatDoorW.PrintMore Go.Proofs.YtpiogigidgejpaaGreatDoor.Sq Tryz
attribute [local go_sem] g8 g9 s8 q8 Y0 X9 b8 e6
set_option maxHeartbeats 8000000
set_option maxRecDepth 100000
set_option linter.unusedVariables false
set_option linter.unusedSimpArgs false
def V7.f (k:Nat)(a b:Int):Option (List Int×Bool):=(E3.f a 0 12).bind fun c=>(if c=true then((G9.f k a).bind fun d=>((E3.f b 0 (wrap64 (d - 1))).bind fun e=>(if e=true then((O1.f k a b).bind fun f=>(some (f,true)))else(some (([]:List Int),false)))))else(some (([]:List Int),false)))
theorem V7.calls (k a0 a1 r1 r2 w):V7.f k a0 a1=some (r1,r2)→
 Calls prog 50 #[.int .i64 a0,.int .i64 a1] w (pT w KI 3 r1 r2):=by
 have HB:=bR w
 unfold V7.f
 refine ib fun t134 A3=>iB ?_ ?_<;>rintro rfl
 ·refine ib fun aA A5=>ib fun t136 A6=>iB ?_ ?_<;>rintro rfl
  ·refine ib fun aC A8=>i2 ?_;rintro rfl rfl
   go_in
   go_wp2_with (first|((with_reducible refine ga 83 ?_);refine gp func83 (E3.calls a0 0 12 true _ A3.1) fun nd=>?_)|(go_at_call 84;(with_reducible refine qp (G9.calls k a0 aA _ A5.1) fun nd=>?_))|(go_at_call 83;(with_reducible refine qp (E3.calls a1 0 (wrap64 (aA - 1)) true _ A6.1) fun nd=>?_))|((with_reducible refine ga 85 ?_);refine gR func85 (O1.calls k a0 a1 aC _ A8.1) bz ?_;clear HB;intro v138 w9 aB HB))
   go_ret2
   exact⟨_,fe,rR aB,bz⟩
  refine i2 ?_;rintro rfl rfl
  go_in
  go_wp2_with (first|((with_reducible refine ga 83 ?_);refine gp func83 (E3.calls a0 0 12 true _ A3.1) fun nd=>?_)|(go_at_call 84;(with_reducible refine qp (G9.calls k a0 aA _ A5.1) fun nd=>?_))|(go_at_call 83;(with_reducible refine qp (E3.calls a1 0 (wrap64 (aA - 1)) false _ A6.1) fun nd=>?_)))
  go_ret2
  exact⟨_,fe,nz,bz⟩
 refine i2 ?_;rintro rfl rfl
 go_in
 go_wp2_with ((with_reducible refine ga 83 ?_);refine gp func83 (E3.calls a0 0 12 false _ A3.1) fun nd=>?_)
 go_ret2
 exact⟨_,fe,nz,bz⟩
def Q5.l0:Nat→List Int→List Int→Int→Option (List Int×Int×Bool)
 |0,_,_,_=>none
 |k+1,c,b,a=>if 0≤a then(if a< (c.length:Int)then(if a< (b.length:Int)then(if(rd c a)=(rd b a)then(Q5.l0 k c b (wrap64 (a+1)))else(some (b,a,true)))else(none))else(none))else(none)
def Q5.f (k:Nat)(a:List Int):Option (List Int×Int×Bool):=(Q7.f k a).bind fun b=>(if b.2=true then((V7.f k (a.length:Int) (wrap64 (b.1+1))).bind fun c=>(if c.2=true then(Q5.l0 k a c.1 0)else(some (([]:List Int),0,false))))else(some (([]:List Int),0,false)))
theorem Q5.calls (k A0 c0 l0 r1 r2 r3 w):Kd.C KI w A0 l0.length l0→l0.length≤c0→Q5.f k l0=some (r1,r2,r3)→
 Calls prog 19 #[.slice A0 l0.length c0] w fun e w'=>∃v0_:Value,e=.returned (.tuple #[v0_,.int .i64 r2,.bool r3])∧Kd.R KI 3 w' w.heap.size (fun _=>True) v0_ r1∧Below w.heap.size w w':=by
 have HB:=bR w
 refine pa fun aI aJ=>?_
 unfold Q5.f
 refine ib ?_;rintro⟨aA,t141⟩ A2
 refine iB ?_ ?_<;>rintro rfl
 ·refine ib ?_;rintro⟨aD,t143⟩ A4
  refine iB ?_ ?_<;>rintro rfl
  ·refine ia fun H'=>?_
   go_in
   go_wp2_with (first|(go_at_call 49;(with_reducible refine(Q7.calls k _ _ l0 aA true _ ?side1 ?side2 A2.1).mono ?_);(case side1=>exact M8 aI.1);(case side2=>exact aJ.1);rintro e w6 ⟨rfl,hb⟩;replace HB:=bS hb;clear hb)|(go_at_call 50;(with_reducible refine(V7.calls k (l0.length:Int) (wrap64 (aA+1)) aD true _ A4.1).mono ?_);rintro e w7 ⟨aG,rfl,aE,hb⟩;have aC:=am (Kd.R_lower aE (C5 bz));replace HB:=bS hb;clear hb aE))
   repeat(go_quiet (first|(go_at_call 49;(with_reducible refine(Q7.calls k _ _ l0 aA true _ ?side1 ?side2 A2.1).mono ?_);(case side1=>exact M8 aI.1);(case side2=>exact aJ.1);rintro e w6 ⟨rfl,hb⟩;replace HB:=bS hb;clear hb)|(go_at_call 50;(with_reducible refine(V7.calls k (l0.length:Int) (wrap64 (aA+1)) aD true _ A4.1).mono ?_);rintro e w7 ⟨aG,rfl,aE,hb⟩;have aC:=am (Kd.R_lower aE (C5 bz));replace HB:=bS hb;clear hb aE));try go_wp2_with (first|(go_at_call 49;(with_reducible refine(Q7.calls k _ _ l0 aA true _ ?side1 ?side2 A2.1).mono ?_);(case side1=>exact M8 aI.1);(case side2=>exact aJ.1);rintro e w6 ⟨rfl,hb⟩;replace HB:=bS hb;clear hb)|(go_at_call 50;(with_reducible refine(V7.calls k (l0.length:Int) (wrap64 (aA+1)) aD true _ A4.1).mono ?_);rintro e w7 ⟨aG,rfl,aE,hb⟩;have aC:=am (Kd.R_lower aE (C5 bz));replace HB:=bS hb;clear hb aE)))
   go_loopg [9] k (fun kq v9 w'=>∃ (aF:Int),v9=.int .i64 aF∧Aside0 (Q5.l0 kq l0 aD aF=some (r1,r2,r3))∧Aside0 (kq≤k)∧Aside0 (Kd.R KI 3 w' w.heap.size (fun _=>True) aG aD)∧Aside0 (Below w.heap.size w w'))
   case atStart=>exact⟨_,fz,H',lr,⟨rR aC⟩,⟨bz⟩⟩
   case round =>
   obtain⟨aF,rfl,⟨H⟩,aT,aH,HB⟩:=hrel
   cases gk with
   |zero=>cases H
   |succ k1 =>
   simp only[Q5.l0]at H
   revert H
   refine U9 fun c8b0=>U9 fun c9b0=>U9 fun aU=>iE (fun aL aM=>?_) fun c11 aL aM=>?_
   ·refine ia fun H'=>?_
    obtain⟨aP,aQ,aN,rfl,aB⟩:=ai aI.1 aF
    replace aB:=cl aB
    obtain⟨Ao12,co12,rfl⟩:=Kd.R_slice aH.1
    obtain⟨aR,aS,aO,rfl,aK⟩:=ai (Kd.R_reads' aH.1).2.2 aF
    go_wp2
    repeat(go_quiet (fail);try go_wp2)
    go_roundg k1
    case measure=>exact lm aT
    case rel=>exact⟨_,fz,H',la aT,⟨rR aH⟩,⟨bz⟩⟩
   refine i3 ?_;rintro rfl rfl rfl
   obtain⟨aP,aQ,aN,rfl,aB⟩:=ai aI.1 aF
   replace aB:=cl aB
   obtain⟨Ao13,co13,rfl⟩:=Kd.R_slice aH.1
   obtain⟨aR,aS,aO,rfl,aK⟩:=ai (Kd.R_reads' aH.1).2.2 aF
   go_wp2
   repeat(go_quiet (fail);try go_wp2)
   go_ret3
   exact⟨_,fe,rR aH,bz⟩
  refine i3 ?_;rintro rfl rfl rfl
  go_in
  go_wp2_with (first|(go_at_call 49;(with_reducible refine(Q7.calls k _ _ l0 aA true _ ?side1 ?side2 A2.1).mono ?_);(case side1=>exact M8 aI.1);(case side2=>exact aJ.1);rintro e aV ⟨rfl,hb⟩;replace HB:=bS hb;clear hb)|(go_at_call 50;(with_reducible refine(V7.calls k (l0.length:Int) (wrap64 (aA+1)) aD false _ A4.1).mono ?_);rintro e aW ⟨aG,rfl,aE,hb⟩;have aC:=am (Kd.R_lower aE (C5 bz));replace HB:=bS hb;clear hb aE))
  repeat(go_quiet (first|(go_at_call 49;(with_reducible refine(Q7.calls k _ _ l0 aA true _ ?side1 ?side2 A2.1).mono ?_);(case side1=>exact M8 aI.1);(case side2=>exact aJ.1);rintro e aV ⟨rfl,hb⟩;replace HB:=bS hb;clear hb)|(go_at_call 50;(with_reducible refine(V7.calls k (l0.length:Int) (wrap64 (aA+1)) aD false _ A4.1).mono ?_);rintro e aW ⟨aG,rfl,aE,hb⟩;have aC:=am (Kd.R_lower aE (C5 bz));replace HB:=bS hb;clear hb aE));try go_wp2_with (first|(go_at_call 49;(with_reducible refine(Q7.calls k _ _ l0 aA true _ ?side1 ?side2 A2.1).mono ?_);(case side1=>exact M8 aI.1);(case side2=>exact aJ.1);rintro e aV ⟨rfl,hb⟩;replace HB:=bS hb;clear hb)|(go_at_call 50;(with_reducible refine(V7.calls k (l0.length:Int) (wrap64 (aA+1)) aD false _ A4.1).mono ?_);rintro e aW ⟨aG,rfl,aE,hb⟩;have aC:=am (Kd.R_lower aE (C5 bz));replace HB:=bS hb;clear hb aE)))
  go_ret3
  exact⟨_,fe,nz,bz⟩
 refine i3 ?_;rintro rfl rfl rfl
 go_in
 go_wp2_with (go_at_call 49;(with_reducible refine(Q7.calls k _ _ l0 aA false _ ?side1 ?side2 A2.1).mono ?_);(case side1=>exact M8 aI.1);(case side2=>exact aJ.1);rintro e aX ⟨rfl,hb⟩;replace HB:=bS hb;clear hb)
 repeat(go_quiet (first|(go_at_call 49;(with_reducible refine(Q7.calls k _ _ l0 aA false _ ?side1 ?side2 A2.1).mono ?_);(case side1=>exact M8 aI.1);(case side2=>exact aJ.1);rintro e aX ⟨rfl,hb⟩;replace HB:=bS hb;clear hb));try go_wp2_with (go_at_call 49;(with_reducible refine(Q7.calls k _ _ l0 aA false _ ?side1 ?side2 A2.1).mono ?_);(case side1=>exact M8 aI.1);(case side2=>exact aJ.1);rintro e aX ⟨rfl,hb⟩;replace HB:=bS hb;clear hb))
 go_ret3
 exact⟨_,fe,nz,bz⟩
mutual
def D6.l0:Nat→List Int→Int→List Int→Int→Int→Option (Int)
 |0,_,_,_,_,_=>none
 |k+1,b,e,c,d,a=>if a<d then(if 0≤a then(if a< (c.length:Int)then(if 0≤(wrap64 (a+1))then(if(wrap64 (a+1))≤(b.length:Int)then(D6.l1 k b e a (rd c a) 0 c d a (b.drop ((wrap64 (a+1)):Int).toNat) ((b.drop ((wrap64 (a+1)):Int).toNat).length:Int) 0)else(none))else(none))else(none))else(none))else(some e)
def D6.l1:Nat→List Int→Int→Int→Int→Int→List Int→Int→Int→List Int→Int→Int→Option (Int)
 |0,_,_,_,_,_,_,_,_,_,_,_=>none
 |k+1,b,g,h,i,j,l,d,e,c,f,a=>if a<f then(if 0≤a then(if a< (c.length:Int)then(if(rd c a)<i then(D6.l1 k b g h i (wrap64 (j+1)) l d e c f (wrap64 (a+1)))else(D6.l1 k b g h i j l d e c f (wrap64 (a+1))))else(none))else(none))else((G9.f k (wrap64 ((wrap64 ((b.length:Int) - h)) - 1))).bind fun m=>(D6.l0 k b (wrap64 (g+ (wrap64 (j*m)))) l d (wrap64 (e+1))))
end
def D6.f (k:Nat)(a:List Int):Option (Int):=D6.l0 k a 0 a (a.length:Int) 0
theorem D6.mono_l:∀k,(∀y0 y1 y2 y3 y4,S6 (D6.l0 k y0 y1 y2 y3 y4) (D6.l0 (k+1) y0 y1 y2 y3 y4))∧(∀y0 y1 y2 y3 y4 y5 y6 y7 y8 y9 y10,S6 (D6.l1 k y0 y1 y2 y3 y4 y5 y6 y7 y8 y9 y10) (D6.l1 (k+1) y0 y1 y2 y3 y4 y5 y6 y7 y8 y9 y10))
 |0=>⟨fun _ _ _ _ _ r h=>by simp[D6.l0]at h,fun _ _ _ _ _ _ _ _ _ _ _ r h=>by simp[D6.l1]at h⟩
 |k+1=>by
  obtain⟨ih0,ih1⟩:=D6.mono_l k
  refine⟨?_,?_⟩
  ·intro y0 y1 y2 y3 y4
   unfold D6.l0
   have e0:=G9.mono;exact mo
  ·intro y0 y1 y2 y3 y4 y5 y6 y7 y8 y9 y10
   unfold D6.l1
   have e0:=G9.mono;exact mo
theorem D6.mono:∀a0 k,S6 (D6.f k a0) (D6.f (k+1) a0):=by
 intro a0 k
 obtain⟨ih0,ih1⟩:=D6.mono_l k
 unfold D6.f
 have e0:=G9.mono;exact mo
theorem D6.calls (k A0 c0 l0 r w):Kd.C KI w A0 l0.length l0→l0.length≤c0→D6.f k l0=some r→
 Calls prog 126 #[.slice A0 l0.length c0] w (pD w (.int .i64 r)):=by
 refine pa fun aY HC0=>?_
 unfold D6.f
 refine ia fun H'=>?_
 go_in
 go_wp2
 go_loopg [3,11] k (fun kq v3 v11 w'=>∃ (aH aA:Int),v3=.int .i64 aH∧v11=.int .i64 aA∧Aside0 (D6.l0 kq l0 aH l0 (l0.length:Int) aA=some r)∧Aside0 (kq≤k)∧Drawn0 w w')
 case atStart=>exact⟨_,_,fz,fz,H',lr,dz⟩
 case round =>
 obtain⟨aH,aA,rfl,rfl,⟨H⟩,aO,⟨m1,rfl⟩⟩:=hrel
 cases gk with
 |zero=>cases H
 |succ k1 =>
 simp only[D6.l0]at H
 revert H
 refine iD ?_ ?_<;>intro c2b0
 ·refine U9 fun c3b0=>U9 fun c4b0=>?_
  generalize hji5:(wrap64 (aA+1))=ji5
  have aZ:=(P9 _).trans hji5
  refine if' fun c6b0 c6b1=>if' fun c7b0 c7b1=>ia fun H'=>?_
  obtain⟨p148,q148,aQ,rfl,aU⟩:=ai aY.1 aA
  obtain⟨i08,aV,_,aW,_⟩:=info_parts J9
  obtain⟨A8,bA,hA8,hC8⟩:=X7 (P:=prog) (Value.int .i64) 0 22 3 .i64 underlying22 aV aW (some aQ) c0 l0 (ji5) (od) (od) HC0.1
  have aJ:=am (Kd.C_of_reads (h1:=fun _=>rfl) (hA8 _ (Kd.reads_of_C aY.1)))
  have bB:=am hC8
  go_wp2
  go_loopg [6,21] k1 (fun kq v6 v21 w'=>∃ (aK aB:Int),v6=.int .i64 aK∧v21=.int .i64 aB∧Aside0 (D6.l1 kq l0 aH aA (rd l0 aA) aK l0 (l0.length:Int) aA (l0.drop ((ji5):Int).toNat) ((l0.drop ((ji5):Int).toNat).length:Int) aB=some r)∧Aside0 (kq≤k1)∧Drawn0 w w')
  case atStart=>exact⟨_,_,fz,fz,H',lr,dz⟩
  case round =>
  obtain⟨aK,aB,rfl,rfl,⟨H⟩,aP,⟨m2,rfl⟩⟩:=hrel
  cases gk with
  |zero=>cases H
  |succ k2 =>
  simp only[D6.l1]at H
  revert H
  refine iD (fun aL=>?_) fun aL=>?_
  ·(try (have aM:=aL;simp only[List.length_drop]at aM))
   refine U9 fun bC=>it fun c11=>?_
   have aR:=decide_eq_true c11
   (try (have aS:=aR;simp only[List.length_drop]at aS))
   refine iD (fun aE=>?_) fun aE=>?_
   ·(try (have aF:=aE;simp only[List.length_drop]at aF))
    refine ia fun H'=>?_
    have aD:0≤(aB:Int):=od
    have aC:aB< ((l0.drop ((ji5):Int).toNat).length:Int):=od
    obtain⟨aT,aN,aI⟩:=Kd.at_int aJ.1 aB aD aC
    cases aN
    (try (have aG:=eq_true aC;simp only[List.length_drop]at aG))
    replace aD:=eq_true aD
    replace aC:=eq_true aC
    go_wp2
    go_roundg k2
    case measure=>exact lu aO aP
    case rel=>exact⟨_,_,fz,fz,H',lv aO aP,dz⟩
   (try (have aF:=aE;simp only[List.length_drop]at aF))
   refine ia fun H'=>?_
   have aD:0≤(aB:Int):=od
   have aC:aB< ((l0.drop ((ji5):Int).toNat).length:Int):=od
   obtain⟨aT,aN,aI⟩:=Kd.at_int aJ.1 aB aD aC
   cases aN
   (try (have aG:=eq_true aC;simp only[List.length_drop]at aG))
   replace aD:=eq_true aD
   replace aC:=eq_true aC
   go_wp2
   go_roundg k2
   case measure=>exact lu aO aP
   case rel=>exact⟨_,_,fz,fz,H',lv aO aP,dz⟩
  (try (have aM:=aL;simp only[List.length_drop]at aM))
  refine ib fun aX A13=>ia fun H'=>?_
  go_wp2_with ((with_reducible refine ga 84 ?_);refine gp func84 (G9.calls k2 (wrap64 ((wrap64 ((l0.length:Int) - aA)) - 1)) aX _ A13.1) fun nd=>?_)
  go_roundg k2
  case measure=>exact lu aO aP
  case rel=>exact⟨_,_,fz,fz,H',lv aO aP,dz⟩
 refine i1 ?_;rintro rfl
 go_wp2
 go_ret
 exact⟨fz,dz⟩
def F4.l0:Nat→Int→List Int→List Int→Int→Option (List Int)
 |0,_,_,_,_=>none
 |k+1,r,left,out,i=>if 0≤i then((G9.f k i).bind fun u=>(if u=0 then none else(if 0≤wrap64 (Int.tdiv r u)then(if(wrap64 (Int.tdiv r u)).toNat+1≤left.length then(if wrap64 (Int.tdiv r u)<1000000000000 then(if out.length<17592186044416 then F4.l0 k (Int.tmod r u) (left.take (wrap64 (Int.tdiv r u)).toNat++left.drop ((wrap64 (Int.tdiv r u)).toNat+1)) (out++ [rd left (wrap64 (Int.tdiv r u))]) (wrap64 (i - 1))else none)else none)else none)else none)))else some out
def F4.f (k:Nat) (a b:Int):Option (List Int):=(J3.f k a).bind fun l=>F4.l0 k b l [] (wrap64 (a - 1))
theorem F4.mono_l:∀k,(∀y0 y1 y2 y3,S6 (F4.l0 k y0 y1 y2 y3) (F4.l0 (k+1) y0 y1 y2 y3))
 |0=>fun _ _ _ _ r h=>by simp[F4.l0]at h
 |k+1=>by
  have ih:=F4.mono_l k
  intro y0 y1 y2 y3
  unfold F4.l0
  exact S6.ite (S6.bind (G9.mono _ _) (fun _=>S6.ite (S6.refl _) (S6.ite (S6.ite (S6.ite (S6.ite (ih _ _ _ _) (S6.refl _)) (S6.refl _)) (S6.refl _)) (S6.refl _)))) (S6.refl _)
theorem F4.mono:∀a0 a1 k,S6 (F4.f k a0 a1) (F4.f (k+1) a0 a1):=fun a0 a1 k =>
 S6.bind (J3.mono _ _) (fun _=>F4.mono_l k _ _ _ _)
theorem F4.calls (k:Nat) (a0 a1:Int)(r:List Int)(w:World)(h:F4.f k a0 a1=some r) :
 Calls prog 127 #[.int .i64 a0,.int .i64 a1] w fun e w'=>∃v0_:Value,e=.returned v0_∧Kd.R KI 3 w' w.heap.size (fun _=>True) v0_ r∧Below w.heap.size w w':=by
 have HB:=bR w
 unfold F4.f at h
 obtain⟨l,hl,H⟩:=Option.bind_eq_some_iff.mp h
 have A0:=am hl
 have H':=am H
 clear h hl H
 go_in
 go_wp2_with (first
  |((with_reducible refine J0 (f:=63) rfl ?_);refine gl' 10 func63 #[.int .i64 a0] ?_;(with_reducible refine(J3.calls k a0 l _ A0.1).mono ?_);rintro e w10 ⟨v10,rfl,ho,hb⟩;refine⟨_,rfl,?_⟩;have aA:=am (Kd.R_lower ho (C5 bz));have aB:=am (E8 bz hb);clear HB ho hb;have HL:=aA;have HB:=aB;clear aA aB)
  |((with_reducible refine gd 11 ?_);refine rl KI 3 ([]:List Int) [] (J7.none _ _) ?_;intro v11 w11 ho hb;have aC:=am (Kd.R_below (rR HL) hb);have aA:=am (Kd.R_lower (Kd.R_mono (ok':=fun k_=>some k_≠(v10:Value).ownBlock) (Kd.R_new' ho (Kd.R_lt (rR HL))) (fun _ hk=>hk.2)) (C5 bz));have aB:=am (E8 bz hb);clear HB HL ho hb;have HL:=aC;have HO:=aA;have HB:=aB;clear aA aB aC))
 go_loopg [1,5,6,7] k (fun kq v1 v5 v6 v7 w'=>∃ (rr:Int) (left out:List Int) (i:Int),v1=.int .i64 rr∧v7=.int .i64 i∧Aside0 (F4.l0 kq rr left out i=some r)∧Aside0 (kq≤k)∧Aside0 (Kd.R KI 3 w' w.heap.size (fun _=>True) v5 left)∧Aside0 (Kd.R KI 3 w' w.heap.size (fun k_=>some k_≠(v5:Value).ownBlock) v6 out)∧Aside0 (Below w.heap.size w w'))
 case atStart=>exact⟨a1,l,[],wrap64 (a0 - 1),(by first|rfl|(simp;done)),(by first|rfl|(simp;done)),H',lr,⟨(rR HL)⟩,⟨(rR HO)⟩,⟨bz⟩⟩
 case round =>
 clear H' HB HL HO
 obtain⟨rr,left,out,i,rfl,rfl,⟨H⟩,aD,HL,HO,HB⟩:=hrel
 cases gk with
 |zero=>cases H
 |succ k1 =>
 simp only[F4.l0]at H
 revert H;refine io ?_ ?_<;>intro c1 H
 ·have c1b:=decide_eq_true c1
  clear c1
  obtain⟨u,hu,H⟩:=Option.bind_eq_some_iff.mp H
  have A1:=am hu
  clear hu
  by_cases c2:u=0
  ·rw[if_pos c2]at H;exact absurd H (by simp)
  ·rw[if_neg c2]at H
   have c2b:=beq_eq_false_iff_ne.mpr c2
   have c2c:(u=0)=False:=eq_false c2
   clear c2
   obtain⟨kk,hkk⟩:∃kk,wrap64 (Int.tdiv rr u)=kk:=⟨_,rfl⟩
   rw[hkk]at H
   by_cases c3:0≤kk
   ·rw[if_pos c3]at H
    obtain⟨q,rfl⟩:=Int.eq_ofNat_of_zero_le c3
    rw[Int.toNat_natCast]at H
    by_cases c4:q+1≤left.length
    ·rw[if_pos c4]at H
     by_cases c5:(q:Int)<1000000000000
     ·rw[if_pos c5]at H
      by_cases c6:out.length<17592186044416
      ·rw[if_pos c6]at H
       have CL:=am c6
       have C1:=am c4
       have hq1:wrap64 ((q:Int)+1)=((q+1:Nat):Int):=by unfold wrap64;omega
       obtain⟨x,hx⟩:∃x,x=rd left (q:Int):=⟨_,rfl⟩
       rw[←hx]at H
       obtain⟨y,hy⟩:∃y:List Int,y=out++ [x]:=⟨_,rfl⟩
       rw[←hy]at H
       have Ny:=am hy
       have H':=am H
       clear H hy c6 c5
       obtain⟨g,cl,el,gb,gl,_,_⟩:=Kd.R_form HL.1 (by omega)
       subst el
       clear gb gl
       have hcell:wr.cell? ⟨g,q,none⟩=some (.int .i64 x):=by
        have:=(Kd.R_celln (enc:=Value.int .i64) (h1:=fun _=>rfl) 0 HL.1 (q:Int) (by omega) (by omega)).1
        rw[Int.toNat_natCast]at this
        rw[hx];exact this
       clear hx
       have p1:(0≤(q:Int))=True:=eq_true (by omega)
       have p2:((q:Int)< (left.length:Int))=True:=eq_true (by omega)
       have p3:(q<left.length)=True:=eq_true (by omega)
       have p4:decide ((q:Int)< (left.length:Int))=true:=decide_eq_true (by omega)
       clear c4 c3
       go_wp2_with (first
        |((with_reducible refine J0 (f:=84) rfl ?_);refine gl' 20 func84 #[.int .i64 i] ?_;(with_reducible refine(G9.calls k1 i u _ A1.1).mono ?_);rintro e w20 ⟨rfl,⟨nd20,rfl⟩⟩;refine⟨_,rfl,?_⟩)
        |((with_reducible refine J0 (f:=84) rfl ?_);refine gl' 24 func84 #[.int .i64 i] ?_;(with_reducible refine(G9.calls k1 i u _ A1.1).mono ?_);rintro e w24 ⟨rfl,⟨nd24,rfl⟩⟩;refine⟨_,rfl,?_⟩)
        |((with_reducible refine gb 26 31 ?_);at_builtin;refine ra KI underlying22 J9 u6 out x [.int .i64 x] (fun k_=>some k_≠(.slice (some ⟨g,0,none⟩) left.length cl:Value).ownBlock) rfl (fun k_ hk=>Kd.fresh' (Kd.R_lt (rR HL)) k_ hk) (rR HO) bz (lm CL) ?_;intro v32 w32 ho hb hg hat;rw[←Ny.1]at ho;have aC:=am (Kd.R_grown2 (rR HL) rfl hg (fun k_ hk_=>HO.1.1 k_ hk_));have aA:=am ho;have aB:=am hb;clear HB HO HL ho hb hg hat;have HL:=aC;have HO:=aA;have HB:=aB;clear aA aB aC)
        |((with_reducible refine J0 (f:=110) rfl ?_);refine gl' 37 func110 #[.slice (some ⟨g,0,none⟩) left.length cl,.int .i64 (q:Nat),.int .i64 ((q+1:Nat):Int)] ?_ (hargs:=by(try simp only[List.map_toArray,List.map_cons,List.map_nil]);first|done|rfl|(simp only[hq1];rfl));refine(Go.Proofs.YtpiogigidgejpaaGreatDoor.Dels.delete_own2 q (q+1) (rR HL) (by omega) C1.1).mono ?_;rintro e w37 ⟨g',hgg,hg,rfl,hR,hbl,hkk⟩;injection hgg with hgg;injection hgg with hgg _ _;subst hgg;refine⟨_,rfl,?_⟩;have aC:=am (Kd.R_move (ok:=fun k_=>some k_≠(.slice (some ⟨g,0,none⟩) left.length cl:Value).ownBlock) (rR HO) (fun k_ hk_=>hkk k_ (fun e_=>hk_ (by rw[e_];rfl))));have aA:=am hR;have aB:=am (Below.trans bz (hbl _ hg));clear HB HO HL hR hbl hg hkk;have HL:=aA;have HO:=aC;have HB:=aB;clear aA aB aC))
       go_roundg k1
       case measure=>exact lm aD
       case rel=>exact⟨Int.tmod rr u,left.take q++left.drop (q+1),y,wrap64 (i - 1),(by first|rfl|(simp;done)),(by first|rfl|(simp;done)),H',la aD,⟨by have hl_:=HL.1;have hc_:=C1.1;rw[show left.length - (q+1 - q)=left.length - 1 by omega]at hl_;exact hl_⟩,⟨(rR HO)⟩,⟨bz⟩⟩
      ·rw[if_neg c6]at H;exact absurd H (by simp)
     ·rw[if_neg c5]at H;exact absurd H (by simp)
    ·rw[if_neg c4]at H;exact absurd H (by simp)
   ·rw[if_neg c3]at H;exact absurd H (by simp)
 have c1b:=decide_eq_false c1
 clear c1
 obtain rfl:=Option.some.inj H
 clear H
 go_wp2
 go_ret
 exact⟨_,rfl,Kd.R_mono (rR HO) (fun _ _=>trivial),bz⟩
def L8.j0:Nat→List Int→Bool→Option (List Int×Bool)
 |0,_,_=>none
 |k+1,a,d=>if d=true then(some (([]:List Int),false))else((D6.f k a).bind fun b=>((F4.f k (a.length:Int) (wrap64 (b+1))).bind fun c=>(some (c,true))))
def L8.f (k:Nat)(a:List Int):Option (List Int×Bool):=(F2.f k a).bind fun b=>(if b=true then((D6.f k a).bind fun c=>((G9.f k (a.length:Int)).bind fun d=>(L8.j0 k a ((wrap64 (c+1))==d))))else(L8.j0 k a true))
theorem L8.calls (k A0 c0 l0 r1 r2 w):Kd.C KI w A0 l0.length l0→l0.length≤c0→L8.f k l0=some (r1,r2)→
 Calls prog 101 #[.slice A0 l0.length c0] w (pT w KI 3 r1 r2):=by
 have HB:=bR w
 refine pa fun aF aG=>?_
 unfold L8.f
 refine ia fun HC2=>?_
 go_in
 go_upto_region 1 with(fail)
 go_cut [15] (fun v15 wc=>∃ (kq:Nat) (aA:Bool),v15=.bool aA∧Aside0 (L8.j0 kq l0 aA=some (r1,r2))∧Aside0 (kq≤k)∧Aside0 (Below w.heap.size w wc))
 case first =>
  have H:=HC2.1
  revert H
  refine ib fun t152 A3=>iB ?_ ?_<;>rintro rfl
  ·refine ib fun aB A5=>ib fun aC A6=>ia fun H'=>?_
   go_wp2_with (first|((with_reducible refine ga 42 ?_);refine gB func42 (F2.calls k A0 c0 l0 true _ (M8 (Kd.C_below aF.1 HB.1)) aG.1 A3.1) bz ?_;clear HB;intro w7 HB)|(go_at_call 126;(with_reducible refine qp (D6.calls k _ _ l0 aB _ (M8 (Kd.C_below aF.1 HB.1)) aG.1 A5.1) fun nd=>?_))|(go_at_call 84;(with_reducible refine qp (G9.calls k (l0.length:Int) aC _ A6.1) fun nd=>?_)))
   go_meet
   case rel=>exact⟨_,(((wrap64 (aB+1))==aC)),fz,H',lo,⟨bz⟩⟩
  refine ia fun H'=>?_
  go_wp2_with ((with_reducible refine ga 42 ?_);refine gB func42 (F2.calls k A0 c0 l0 false _ (M8 (Kd.C_below aF.1 HB.1)) aG.1 A3.1) bz ?_;clear HB;intro w8 HB)
  go_meet
  case rel=>exact⟨_,(true),fz,H',lo,⟨bz⟩⟩
 case rest =>
 obtain⟨kq,aA,rfl,⟨H⟩,HJ1,HB⟩:=hcut
 cases kq with
 |zero=>cases H
 |succ aI =>
 simp only[L8.j0]at H
 revert H
 refine iB ?_ ?_<;>rintro rfl
 ·refine i2 ?_;rintro rfl rfl
  go_wp2
  go_ret2
  exact⟨_,fe,nz,bz⟩
 refine ib fun aD A10=>ib fun aH A11=>i2 ?_;rintro rfl rfl
 go_wp2_with (first|((with_reducible refine ga 126 ?_);refine gp func126 (D6.calls aI A0 c0 l0 aD _ (M8 (Kd.C_below aF.1 HB.1)) aG.1 A10.1) fun nd=>?_)|((with_reducible refine ga 127 ?_);refine gR func127 (F4.calls aI (l0.length:Int) (wrap64 (aD+1)) aH _ A11.1) bz ?_;clear HB;intro v157 w12 aE HB))
 go_ret2
 exact⟨_,fe,rR aE,bz⟩
def AB1.f (c d a b:Int):Option (Bool):=if d=0 then(if 0≤a then(if a<b then(some (decide (b<c)))else(some false))else(some false))else(if d=1 then((E3.f a 2 c).bind fun e=>(if e=true then(some (b==0))else(some false)))else(if d=2 then((E3.f a 2 c).bind fun f=>(if f=true then(some (b==0))else(some false)))else(some false)))
theorem AB1.calls (a0 a1_0 a1_1 a1_2 r w):AB1.f a0 a1_0 a1_1 a1_2=some r→
 Calls prog 128 #[.int .i64 a0,.agg #[.int .i64 a1_0,.int .i64 a1_1,.int .i64 a1_2]] w (pB w (.bool r)):=by
 have cI:=underlying103
 have HB:=bR w
 unfold AB1.f
 refine iE (fun bU bV=>?_) fun c3 bU bV=>?_
 ·refine iD ?_ ?_<;>intro c4b0
  ·refine iD ?_ ?_<;>intro c5b0
   ·refine i1 ?_;rintro rfl
    go_in
    go_wp2_with ((with_reducible refine gd 3 ?_);refine be #[.int .i64 a1_0,.int .i64 a1_1,.int .i64 a1_2] 103 bz ?_;clear HB;intro aC w6 aA aD aB HB;have bW:=bq aA 0 (.int .i64 a1_0);have bX:=bq aA 1 (.int .i64 a1_1);have bY:=bq aA 2 (.int .i64 a1_2);have bZ:=C9 aA.1 0;have cA:=C9 aA.1 1;have cB:=C9 aA.1 2)
    go_ret
    exact⟨fe,bs aB.1⟩
   refine i1 ?_;rintro rfl
   go_in
   go_wp2_with ((with_reducible refine gd 3 ?_);refine be #[.int .i64 a1_0,.int .i64 a1_1,.int .i64 a1_2] 103 bz ?_;clear HB;intro aC w8 aA aD aB HB;have cC:=bq aA 0 (.int .i64 a1_0);have cD:=bq aA 1 (.int .i64 a1_1);have cE:=bq aA 2 (.int .i64 a1_2);have cF:=C9 aA.1 0;have cG:=C9 aA.1 1;have cH:=C9 aA.1 2)
   go_ret
   exact⟨fe,bs aB.1⟩
  refine i1 ?_;rintro rfl
  go_in
  go_wp2_with ((with_reducible refine gd 3 ?_);refine be #[.int .i64 a1_0,.int .i64 a1_1,.int .i64 a1_2] 103 bz ?_;clear HB;intro aC w10 aA aD aB HB;have aI:=bq aA 0 (.int .i64 a1_0);have aJ:=bq aA 1 (.int .i64 a1_1);have aK:=bq aA 2 (.int .i64 a1_2);have aL:=C9 aA.1 0;have aM:=C9 aA.1 1;have aN:=C9 aA.1 2)
  go_ret
  exact⟨fe,bs aB.1⟩
 refine iE (fun aE aF=>?_) fun c12 aE aF=>?_
 ·refine ib fun t160 cJ=>iB ?_ ?_<;>rintro rfl
  ·refine i1 ?_;rintro rfl
   go_in
   go_wp2_with (first|((with_reducible refine gd 3 ?_);refine be #[.int .i64 a1_0,.int .i64 a1_1,.int .i64 a1_2] 103 bz ?_;clear HB;intro aC w15 aA aD aB HB;have aO:=bq aA 0 (.int .i64 a1_0);have aP:=bq aA 1 (.int .i64 a1_1);have aQ:=bq aA 2 (.int .i64 a1_2);have aR:=C9 aA.1 0;have aS:=C9 aA.1 1;have aT:=C9 aA.1 2)|((with_reducible refine ga 83 ?_);refine gp func83 (E3.calls a1_1 2 a0 true _ cJ.1) fun nd=>?_))
   go_ret
   exact⟨fe,bs aB.1⟩
  refine i1 ?_;rintro rfl
  go_in
  go_wp2_with (first|((with_reducible refine gd 3 ?_);refine be #[.int .i64 a1_0,.int .i64 a1_1,.int .i64 a1_2] 103 bz ?_;clear HB;intro aC w17 aA aD aB HB;have aU:=bq aA 0 (.int .i64 a1_0);have aV:=bq aA 1 (.int .i64 a1_1);have aW:=bq aA 2 (.int .i64 a1_2);have aX:=C9 aA.1 0;have aY:=C9 aA.1 1;have aZ:=C9 aA.1 2)|((with_reducible refine ga 83 ?_);refine gp func83 (E3.calls a1_1 2 a0 false _ cJ.1) fun nd=>?_))
  go_ret
  exact⟨fe,bs aB.1⟩
 refine iE (fun aG aH=>?_) fun c19 aG aH=>?_
 ·refine ib fun t161 cK=>iB ?_ ?_<;>rintro rfl
  ·refine i1 ?_;rintro rfl
   go_in
   go_wp2_with (first|((with_reducible refine gd 3 ?_);refine be #[.int .i64 a1_0,.int .i64 a1_1,.int .i64 a1_2] 103 bz ?_;clear HB;intro aC w22 aA aD aB HB;have bA:=bq aA 0 (.int .i64 a1_0);have bB:=bq aA 1 (.int .i64 a1_1);have bC:=bq aA 2 (.int .i64 a1_2);have bD:=C9 aA.1 0;have bE:=C9 aA.1 1;have bF:=C9 aA.1 2)|((with_reducible refine ga 83 ?_);refine gp func83 (E3.calls a1_1 2 a0 true _ cK.1) fun nd=>?_))
   go_ret
   exact⟨fe,bs aB.1⟩
  refine i1 ?_;rintro rfl
  go_in
  go_wp2_with (first|((with_reducible refine gd 3 ?_);refine be #[.int .i64 a1_0,.int .i64 a1_1,.int .i64 a1_2] 103 bz ?_;clear HB;intro aC w24 aA aD aB HB;have bG:=bq aA 0 (.int .i64 a1_0);have bH:=bq aA 1 (.int .i64 a1_1);have bI:=bq aA 2 (.int .i64 a1_2);have bJ:=C9 aA.1 0;have bK:=C9 aA.1 1;have bL:=C9 aA.1 2)|((with_reducible refine ga 83 ?_);refine gp func83 (E3.calls a1_1 2 a0 false _ cK.1) fun nd=>?_))
  go_ret
  exact⟨fe,bs aB.1⟩
 refine i1 ?_;rintro rfl
 go_in
 go_wp2_with ((with_reducible refine gd 3 ?_);refine be #[.int .i64 a1_0,.int .i64 a1_1,.int .i64 a1_2] 103 bz ?_;clear HB;intro aC w26 aA aD aB HB;have bM:=bq aA 0 (.int .i64 a1_0);have bN:=bq aA 1 (.int .i64 a1_1);have bO:=bq aA 2 (.int .i64 a1_2);have bP:=C9 aA.1 0;have bQ:=C9 aA.1 1;have bT:=C9 aA.1 2)
 go_ret
 exact⟨fe,bs aB.1⟩
def AB8.f (l:List Int) (d a b:Int):Option (List Int):=(M5.f l).bind fun c=>(if d=0 then(if(0≤b∧b< (c.length:Int))∧(0≤a∧a< (c.length:Int))then some ((c.set a.toNat (rd c b)).set b.toNat (rd c a))else none)else(if d=1 then(if 1≤a∧a≤(c.length:Int)then some ((c.take a.toNat).reverse++c.drop a.toNat)else none)else(if d=2 then(if(1≤a∧a≤(l.length:Int))∧c.length=l.length∧a<1000000000000 then some ((((l.take a.toNat).drop 1)++c.drop (a.toNat - 1)).set (a.toNat - 1) (rd l 0))else none)else some c)))
theorem AB8.calls (A0 c0 l0 a1_0 a1_1 a1_2 r w):Kd.C KI w A0 l0.length l0→l0.length≤c0→AB8.f l0 a1_0 a1_1 a1_2=some r→
 Calls prog 129 #[.slice A0 l0.length c0,.agg #[.int .i64 a1_0,.int .i64 a1_1,.int .i64 a1_2]] w (pR w KI 3 r):=by
 have aX:=underlying103
 have HB:=bR w
 refine pa fun aR aY=>?_
 unfold AB8.f
 intro H
 replace H:=bi H;obtain⟨c,A3,H⟩:=H
 have H':=am H
 clear H
 go_in
 go_upto_if 10 with(first
  |((with_reducible refine P8 (N:=3) rfl ?_);refine j6 ?hg (N:=3) ?hd (cs:=#[.int .i64 a1_0,.int .i64 a1_1,.int .i64 a1_2]) (t:=103) ?hr ?_;(case hd=>rfl);(case hg=>rfl);(case hr=>first|(go_simp;done)|(go_simp;rfl));intro gb hg w13 hbox hb;have BK:=am (hbox);have GE:=am ((by rw[hg];exact(C5 bz):w.heap.size≤gb));replace HB:=bS hb;clear hb hbox hg)
  |((with_reducible refine J0 (f:=76) rfl ?_);refine gl' 7 func76 #[.slice A0 l0.length c0] ?_;(with_reducible refine(M5.calls _ _ l0 c _ ?side1 ?side2 A3.1).mono ?_);(case side1=>exact M8 (Kd.C_below aR.1 HB.1));(case side2=>exact aY.1);rintro e aJ ⟨v14,rfl,aZ,hb⟩;refine⟨_,rfl,?_⟩;have HO:=am (Kd.R_lower aZ (C5 (bs GE.1)));replace BK:=am (Y2 (g:=gb) (o:=.cells #[.int .i64 a1_0,.int .i64 a1_1,.int .i64 a1_2] 103 (0,0)) (bk BK) hb);replace HB:=am (E8 (bs GE.1) hb);clear hb aZ;have aB:=bq BK 0 (.int .i64 a1_0);have aA:=bq BK 1 (.int .i64 a1_1);have aC:=bq BK 2 (.int .i64 a1_2)))
 have H:=H'.1
 revert H;refine io ?_ ?_<;>intro c4 H
 ·have aF:=beq_iff_eq.mpr c4
  clear c4
  replace H:=jt H;obtain⟨⟨⟨d1,d2⟩,d3,d4⟩,H⟩:=H
  obtain⟨y1,aG⟩:=ey (c.set a1_1.toNat (rd c a1_2):List Int)
  rw[←aG.1]at H
  obtain⟨y2,aM⟩:=ey (y1.set a1_2.toNat (rd c a1_1):List Int)
  rw[←aM.1]at H
  obtain rfl:=Option.some.inj H
  clear H
  try go_wp2
  replace HO:=am (Kd.R_drew HO.1)
  replace BK:=am (m4 BK.1)
  replace HB:=am (F8 HB.1)
  replace aB:aJ.drew.cell? ⟨gb,0,none⟩=some (.int .i64 a1_0):=(I5 BK.1 0).trans rfl
  replace aA:aJ.drew.cell? ⟨gb,1,none⟩=some (.int .i64 a1_1):=(I5 BK.1 1).trans rfl
  replace aC:aJ.drew.cell? ⟨gb,2,none⟩=some (.int .i64 a1_2):=(I5 BK.1 2).trans rfl
  replace HO:=am (Kd.R_types HO.1 BK.1 (by decide))
  obtain⟨go,co,eo,gb_,gl_,cl_,HG⟩:=Kd.R_form HO.1 (by omega)
  cases eo
  have GB:=am gb_
  have HNE:=am (HO.1.1 _ rfl).2
  clear gb_ gl_ cl_ HG
  obtain⟨aK,aQ⟩:=Kd.R_celln 0 HO.1 a1_1 d3 d4
  obtain⟨aS,hf2⟩:=Kd.R_celln 0 HO.1 a1_2 d1 d2
  replace aK:aJ.drew.cell? ⟨go,a1_1.toNat,none⟩=some (.int .i64 (rd c a1_1)):=aK
  replace aS:aJ.drew.cell? ⟨go,a1_2.toNat,none⟩=some (.int .i64 (rd c a1_2)):=aS
  have aH:=Kd.R_putn HO.1 a1_1 (rd c a1_2)
  rw[←aG.1]at aH
  have aL:=am aH
  clear aH
  have hl1:y1.length=c.length:=by rw[aG.1,List.length_set]
  obtain⟨hx3,hf3⟩:=Kd.R_celln 0 aL.1 a1_2 d1 d2
  have aT:=Kd.R_putn aL.1 a1_2 (rd c a1_1)
  rw[←aM.1]at aT
  have aU:=am aT
  clear aT
  have e1:=decide_eq_true d1
  have e2:=decide_eq_true d2
  have e3:=decide_eq_true d3
  have e4:=decide_eq_true d4
  replace d1:=eq_true d1
  replace d2:=eq_true d2
  replace d3:=eq_true d3
  replace d4:=eq_true d4
  refine sr 20 (fun w'=>w'.cell? ⟨gb,0,none⟩=some (.int .i64 a1_0)∧w'.cell? ⟨gb,1,none⟩=some (.int .i64 a1_1)∧w'.cell? ⟨gb,2,none⟩=some (.int .i64 a1_2)) [] ⟨aB,aA,aC⟩ fun hHeld=>?_
  generalize aJ.drew=w16 at HO BK HB aL aU aK aS hx3 aQ hf2 hf3 aB aA aC hHeld ⊢
  refine rg [0,1,2,3,4,5,6,7,8,9,11,12,13,14] ?_
  refine BM8 (i:=10) (j:=15) (Ni:=some 22) (Nj:=some 27) (lb 20 32767) (lb 20 64511) rfl rfl rfl rfl (by kernel_rfl) (by decide) (by decide) (fun K hK=>?_) (fun K hK=>?_)
  ·refine AL9 (w1:=?_) (v:=?_) (by rfl) rfl ?_ ?_
   rotate_left 2
   ·go_simp
    constructor
    ·rfl
    ·rfl
   refine hK.out _ _ hHeld (fun hHeld=>?_)
   clear hK K
   refine nm 22 ?_
   refine AD4 (i:=15) (N:=some 27) (lb 20 65535) rfl rfl (by kernel_rfl) (by decide) (fun K hK=>?_)
   refine AL9 (w1:=?_) (v:=?_) (by rfl) rfl ?_ ?_
   rotate_left 2
   ·go_simp
    constructor
    ·rfl
    ·rfl
   refine hK.out _ _ hHeld (fun hHeld=>?_)
   clear hK K
   refine nm 27 ?_
   refine pw 16 ?_
   refine AD4 (i:=17) (N:=none) (lb 20 262143) rfl rfl (by kernel_rfl) (by decide) (fun K hK=>?_)
   refine AS8 (w1:=?_) (by rfl) rfl ?_ ?_
   rotate_left
   ·go_simp
    rfl
   have aD:=am (AG3 BK.1 (p:=⟨go,a1_1.toNat,none⟩) (Ne.symm HNE.1) (.int .i64 (rd c a1_2)))
   refine hK.out _ _ ⟨(I5 aD.1 0).trans rfl,(I5 aD.1 1).trans rfl,(I5 aD.1 2).trans rfl⟩ (fun hHeld=>?_)
   clear hK K
   refine pw 18 ?_
   refine AD4 (i:=19) (N:=none) (lb 20 1048575) rfl rfl (by kernel_rfl) (by decide) (fun K hK=>?_)
   refine AS8 (w1:=?_) (by rfl) rfl ?_ ?_
   rotate_left
   ·go_simp
    rfl
   have aI:=am (AG3 aD.1 (p:=⟨go,a1_2.toNat,none⟩) (Ne.symm HNE.1) (.int .i64 (rd c a1_1)))
   refine hK.out _ _ ⟨(I5 aI.1 0).trans rfl,(I5 aI.1 1).trans rfl,(I5 aI.1 2).trans rfl⟩ (fun hHeld=>?_)
   clear hK K
   refine dn ?_
   go_wp2
   go_ret
   exact⟨_,fe,Kd.R_mono aU.1 (fun _ _=>trivial),bs GB.1⟩
  ·refine AL9 (w1:=?_) (v:=?_) (by rfl) rfl ?_ ?_
   rotate_left 2
   ·go_simp
    constructor
    ·rfl
    ·rfl
   refine hK.out _ _ hHeld (fun hHeld=>?_)
   clear hK K
   refine nm 27 ?_
   refine AD4 (i:=10) (N:=some 22) (lb 20 65535) rfl rfl (by kernel_rfl) (by decide) (fun K hK=>?_)
   refine AL9 (w1:=?_) (v:=?_) (by rfl) rfl ?_ ?_
   rotate_left 2
   ·go_simp
    constructor
    ·rfl
    ·rfl
   refine hK.out _ _ hHeld (fun hHeld=>?_)
   clear hK K
   refine nm 22 ?_
   refine pw 16 ?_
   refine AD4 (i:=17) (N:=none) (lb 20 262143) rfl rfl (by kernel_rfl) (by decide) (fun K hK=>?_)
   refine AS8 (w1:=?_) (by rfl) rfl ?_ ?_
   rotate_left
   ·go_simp
    rfl
   have aD:=am (AG3 BK.1 (p:=⟨go,a1_1.toNat,none⟩) (Ne.symm HNE.1) (.int .i64 (rd c a1_2)))
   refine hK.out _ _ ⟨(I5 aD.1 0).trans rfl,(I5 aD.1 1).trans rfl,(I5 aD.1 2).trans rfl⟩ (fun hHeld=>?_)
   clear hK K
   refine pw 18 ?_
   refine AD4 (i:=19) (N:=none) (lb 20 1048575) rfl rfl (by kernel_rfl) (by decide) (fun K hK=>?_)
   refine AS8 (w1:=?_) (by rfl) rfl ?_ ?_
   rotate_left
   ·go_simp
    rfl
   have aI:=am (AG3 aD.1 (p:=⟨go,a1_2.toNat,none⟩) (Ne.symm HNE.1) (.int .i64 (rd c a1_1)))
   refine hK.out _ _ ⟨(I5 aI.1 0).trans rfl,(I5 aI.1 1).trans rfl,(I5 aI.1 2).trans rfl⟩ (fun hHeld=>?_)
   clear hK K
   refine dn ?_
   go_wp2
   go_ret
   exact⟨_,fe,Kd.R_mono aU.1 (fun _ _=>trivial),bs GB.1⟩
 revert H;refine io ?_ ?_<;>intro c5 H
 ·have aF:=beq_eq_false_iff_ne.mpr c4
  have aN:=beq_iff_eq.mpr c5
  clear c4 c5
  replace H:=jt H;obtain⟨⟨d1,d2⟩,H⟩:=H
  obtain⟨i,rfl⟩:=Int.eq_ofNat_of_zero_le (show 0≤a1_1 by omega)
  rw[Int.toNat_natCast]at H
  have C1:Aside0 (1≤i):=⟨by omega⟩
  have C2:Aside0 (i≤c.length):=⟨by omega⟩
  obtain rfl:=Option.some.inj H
  clear H
  obtain⟨Ao,co,rfl⟩:=Kd.R_slice HO.1
  obtain⟨i9,aO,_,aE,_⟩:=info_parts J9
  have hcut:=AF9 (P:=prog) 22 3 .i64 underlying22 aO Ao c.length co (i:Int) (by omega) d2 (Kd.R_reads' HO.1).2.1
  rw[Int.toNat_natCast]at hcut
  replace d1:=eq_true d1
  replace d2:=eq_true d2
  have e1:(0≤(i:Int))=True:=eq_true (by omega)
  go_wp2_with ((with_reducible refine ga 190 ?_);refine gx func190 (Go.Proofs.YtpiogigidgejpaaGreatDoor.Dels.reverse_own i (rR HO) C1.1 C2.1) ?_;rintro e w36 ⟨g,eg,hbg,rfl,ho,hb,_⟩;refine⟨_,rfl,?_⟩;replace HO:=am ho;replace HB:=am (Below.trans (bs GE.1) (hb w.heap.size hbg));clear hb ho hbg eg)
  go_ret
  exact⟨_,fe,rR HO,bs GE.1⟩
 revert H;refine io ?_ ?_<;>intro c6 H
 ·have aF:=beq_eq_false_iff_ne.mpr c4
  have aN:=beq_eq_false_iff_ne.mpr c5
  have aV:=beq_iff_eq.mpr c6
  clear c4 c5 c6
  replace H:=jt H;obtain⟨⟨⟨d1,d2⟩,d3,d4⟩,H⟩:=H
  obtain⟨i,rfl⟩:=Int.eq_ofNat_of_zero_le (show 0≤a1_1 by omega)
  rw[Int.toNat_natCast]at H
  obtain⟨y1,aG⟩:=ey (((l0.take i).drop 1)++c.drop (i - 1):List Int)
  rw[←aG.1]at H
  obtain⟨y2,aM⟩:=ey (y1.set (i - 1) (rd l0 0):List Int)
  rw[←aM.1]at H
  obtain rfl:=Option.some.inj H
  clear H
  replace HO:=am (Kd.R_types HO.1 BK.1 (by decide))
  obtain⟨i9,aO,_,aE,_⟩:=info_parts J9
  obtain⟨A9,hcut,bA,hC9⟩:=l5 (P:=prog) (Value.int .i64) 0 22 3 .i64 .i64 underlying22 aO aE A0 c0 l0 1 (i:Int) (by omega) d1 d2 aY.1
  have aW:=am (Kd.C_of_reads (h1:=fun _=>rfl) (bA _ (Kd.reads_of_C aR.1)))
  have hinf:(prog.info? 3).map (·.size)=some 1:=by rw[aO];exact congrArg some aE
  clear bA hC9 aO aE
  rw[Int.toNat_natCast]at hcut aW
  have hlm:((l0.take i).drop (1:Int).toNat).length=i - 1:=by rw[List.length_drop,List.length_take];show min i l0.length - 1=i - 1;omega
  rw[hlm]at hcut aW
  have hwi:wrap64 ((i:Int) - 1)=((i - 1:Nat):Int):=by unfold wrap64;omega
  have hwiw:IntKind.i64.wrap ((i:Int) - 1)=((i - 1:Nat):Int):=(P9 _).trans hwi
  obtain⟨ad,ead,aP⟩:=Kd.at_int aR.1 0 (by omega) (by omega)
  cases ead
  have CI:Aside0 (1≤i∧i≤c.length∧c.length=l0.length):=⟨by omega,by omega,d3⟩
  have p1:((i - 1:Nat):Int)< (l0.length:Int):=by omega
  have e1:(0≤(i:Int))=True:=eq_true (by omega)
  have e2:((1:Int)≤(i:Int))=True:=eq_true d1
  have e3:((i:Int)≤(l0.length:Int))=True:=eq_true d2
  clear d1 d2 d4
  go_wp2_with ((with_reducible refine Y1 (b:=.copy) (xs:=#[.tmp 39,.tmp 43]) rfl ?_);refine Kd.R_copy (enc:=Value.int .i64) (h1:=fun _=>rfl) (0:Int) (w0:=w) w.heap.size rfl (.tmp 39) (.tmp 43) 22 22 3 rfl underlying22 hinf v14 c ((l0.take i).drop (1:Int).toNat) A9 (i - 1) (c0 - 1) _ rfl ?hx HO.1 ?hr (bs GE.1) (C5 (bs GE.1)) ?_;(case hx=>first|rfl|(simp only[hlm];rfl));(case hr=>exact M8 (Kd.C_below aW.1 HB.1));intro w44 ho hb hg;replace BK:=am (AL1 (g:=gb) BK.1 hg (fun h_=>(HO.1.1 _ h_.symm).2 rfl));replace HO:=am ho;replace HB:=am hb;clear ho hb hg)
  replace HO:=am (Kd.R_drew HO.1)
  replace BK:=am (m4 BK.1)
  replace HB:=am (F8 HB.1)
  clear aB aA aC
  have aA:=(I5 BK.1 1).trans rfl
  rw[show((0:Int)).toNat=0 from rfl,Addr.add_zero']at aP
  replace aP:=cl aP
  have hy_:(((l0.take i).drop (1:Int).toNat).take (min (i - 1) c.length)++c.drop (min (i - 1) c.length))=y1:=by rw[aG.1,Nat.min_eq_left (lm CI),List.take_of_length_le (by rw[hlm];exact Nat.le_refl _)];rfl
  rw[hy_]at HO
  clear hy_
  have hly:y1.length=c.length:=by rw[aG.1,List.length_append,List.length_drop,List.length_drop,List.length_take];have:=CI.1;omega
  obtain⟨go,co,eo,gb_,gl_,cl_,HG⟩:=Kd.R_form HO.1 (lm CI)
  subst eo
  have GB:=am gb_
  have HNE:=am (HO.1.1 _ rfl).2
  clear gb_ gl_ cl_ HG
  have q1:(0:Int)≤((i - 1:Nat):Int):=by omega
  have q2:((i - 1:Nat):Int)< (y1.length:Int):=by rw[hly];have:=CI.1;omega
  obtain⟨aK,aQ⟩:=Kd.R_celln 0 HO.1 ((i - 1:Nat):Int) q1 q2
  rw[Int.toNat_natCast]at aK aQ
  have aH:=Kd.R_putn HO.1 ((i - 1:Nat):Int) (rd l0 0)
  rw[Int.toNat_natCast,←aM.1]at aH
  have aL:=am aH
  clear aH
  rw[hly]at q2
  have f0:(0<l0.length)=True:=eq_true (lm CI)
  have f1:=eq_true q1
  have f2:=eq_true q2
  have f3:((0:Int)< (l0.length:Int))=True:=eq_true (lm CI)
  have f4:(i - 1<c.length)=True:=eq_true (lm CI)
  skip
  refine sr 9 (fun w'=>w'.cell? ⟨gb,1,none⟩=some (.int .i64 (i:Int))∧w'.cell? ad=some (.int .i64 (rd l0 0))) [8] ⟨aA,aP⟩ fun hHeld=>?_
  generalize w44.drew=w45 at HO BK HB aL aP aK aQ aA hHeld ⊢
  refine rg [0,1,2,3,4,5,6,7] ?_
  refine ls 8 ?_
  go_wp2
  go_ret
  exact⟨_,fe,Kd.R_mono aL.1 (fun _ _=>trivial),bs GB.1⟩
 have aF:=beq_eq_false_iff_ne.mpr c4
 have aN:=beq_eq_false_iff_ne.mpr c5
 have aV:=beq_eq_false_iff_ne.mpr c6
 obtain rfl:=Option.some.inj H
 clear H
 go_wp2
 go_ret
 exact⟨_,fe,rR HO,bs GE.1⟩
def V8.f (k:Nat)(a:List Int)(b c d:Int):Option (List Int×Bool):=(F2.f k a).bind fun e=>(if e=true then((AB1.f (a.length:Int) b c d).bind fun f=>(if f=true then((AB8.f a b c d).bind fun g=>(some (g,true)))else(some (([]:List Int),false))))else(some (([]:List Int),false)))
theorem V8.calls (k A0 c0 l0 a1_0 a1_1 a1_2 r1 r2 w):Kd.C KI w A0 l0.length l0→l0.length≤c0→V8.f k l0 a1_0 a1_1 a1_2=some (r1,r2)→
 Calls prog 102 #[.slice A0 l0.length c0,.agg #[.int .i64 a1_0,.int .i64 a1_1,.int .i64 a1_2]] w (pT w KI 3 r1 r2):=by
 have bA:=underlying103
 have HB:=bR w
 refine pa fun aF aG=>?_
 unfold V8.f
 refine ib fun t163 A3=>iB ?_ ?_<;>rintro rfl
 ·refine ib fun t164 A5=>iB ?_ ?_<;>rintro rfl
  ·refine ib fun aZ A7=>i2 ?_;rintro rfl rfl
   go_in
   go_wp2_with (first|((with_reducible refine P8 (N:=3) rfl ?_);(try (refine V3 (by rfl) ?_;dsimp only));refine j6 ?hg (N:=3) ?hd (cs:=#[.int .i64 a1_0,.int .i64 a1_1,.int .i64 a1_2]) (t:=103) ?hr ?_;(case hd=>rfl);(case hg=>rfl);(case hr=>first|(go_simp;done)|(go_simp;rfl));intro aB hg w8 hbox hb;have aA:=am (hbox);have aD:=am ((by rw[hg];exact(C5 bz):w.heap.size≤aB));have aC:=am ((by rw[hg];exact(C5 bz):w.heap.size≤aB));replace HB:=bS hb;clear hb hbox hg)|((with_reducible refine ga 42 ?_);refine ge func42 (F2.calls k A0 c0 l0 true _ (M8 (Kd.C_below aF.1 HB.1)) aG.1 A3.1) ?_;rintro w9 hb;replace aA:=am (Y2 (g:=aB) (o:=.cells #[.int .i64 a1_0,.int .i64 a1_1,.int .i64 a1_2] 103 (0,0)) (bk aA) hb);replace HB:=am (E8 (bs aC.1) hb);clear hb;have aH:=bq aA 0 (.int .i64 a1_0);have aI:=bq aA 1 (.int .i64 a1_1);have aJ:=bq aA 2 (.int .i64 a1_2);have aK:=C9 aA.1 0;have aL:=C9 aA.1 1;have aM:=C9 aA.1 2)|(go_at_call 128;(with_reducible refine(AB1.calls (l0.length:Int) a1_0 a1_1 a1_2 true _ A5.1).mono ?_);rintro e w11 ⟨rfl,hb⟩;replace aA:=am (Y2 (g:=aB) (o:=.cells #[.int .i64 a1_0,.int .i64 a1_1,.int .i64 a1_2] 103 (0,0)) (bk aA) hb);replace HB:=am (E8 (bs aC.1) hb);clear hb;have aN:=bq aA 0 (.int .i64 a1_0);have aO:=bq aA 1 (.int .i64 a1_1);have aP:=bq aA 2 (.int .i64 a1_2);have aQ:=C9 aA.1 0;have aR:=C9 aA.1 1;have aS:=C9 aA.1 2)|((with_reducible refine ga 129 ?_);refine gs func129 (AB8.calls A0 c0 l0 a1_0 a1_1 a1_2 aZ _ (M8 (Kd.C_below aF.1 HB.1)) aG.1 A7.1) ?_;rintro v166 w13 ⟨bB,hb⟩;have aE:=am (Kd.R_lower bB (C5 (bs aC.1)));replace aA:=am (Y2 (g:=aB) (o:=.cells #[.int .i64 a1_0,.int .i64 a1_1,.int .i64 a1_2] 103 (0,0)) (bk aA) hb);replace HB:=am (E8 (bs aC.1) hb);clear hb bB))
   go_ret2
   exact⟨_,fe,rR aE,bs aC.1⟩
  refine i2 ?_;rintro rfl rfl
  go_in
  go_wp2_with (first|((with_reducible refine P8 (N:=3) rfl ?_);(try (refine V3 (by rfl) ?_;dsimp only));refine j6 ?hg (N:=3) ?hd (cs:=#[.int .i64 a1_0,.int .i64 a1_1,.int .i64 a1_2]) (t:=103) ?hr ?_;(case hd=>rfl);(case hg=>rfl);(case hr=>first|(go_simp;done)|(go_simp;rfl));intro aB hg w14 hbox hb;have aA:=am (hbox);have aD:=am ((by rw[hg];exact(C5 bz):w.heap.size≤aB));have aC:=am ((by rw[hg];exact(C5 bz):w.heap.size≤aB));replace HB:=bS hb;clear hb hbox hg)|((with_reducible refine ga 42 ?_);refine ge func42 (F2.calls k A0 c0 l0 true _ (M8 (Kd.C_below aF.1 HB.1)) aG.1 A3.1) ?_;rintro w15 hb;replace aA:=am (Y2 (g:=aB) (o:=.cells #[.int .i64 a1_0,.int .i64 a1_1,.int .i64 a1_2] 103 (0,0)) (bk aA) hb);replace HB:=am (E8 (bs aC.1) hb);clear hb;have aT:=bq aA 0 (.int .i64 a1_0);have aU:=bq aA 1 (.int .i64 a1_1);have aV:=bq aA 2 (.int .i64 a1_2);have aW:=C9 aA.1 0;have aX:=C9 aA.1 1;have aY:=C9 aA.1 2)|(go_at_call 128;(with_reducible refine(AB1.calls (l0.length:Int) a1_0 a1_1 a1_2 false _ A5.1).mono ?_);rintro e w17 ⟨rfl,hb⟩;replace aA:=am (Y2 (g:=aB) (o:=.cells #[.int .i64 a1_0,.int .i64 a1_1,.int .i64 a1_2] 103 (0,0)) (bk aA) hb);replace HB:=am (E8 (bs aC.1) hb);clear hb))
  go_ret2
  exact⟨_,fe,nz,bs aC.1⟩
 refine i2 ?_;rintro rfl rfl
 go_in
 go_wp2_with (first|((with_reducible refine P8 (N:=3) rfl ?_);(try (refine V3 (by rfl) ?_;dsimp only));refine j6 ?hg (N:=3) ?hd (cs:=#[.int .i64 a1_0,.int .i64 a1_1,.int .i64 a1_2]) (t:=103) ?hr ?_;(case hd=>rfl);(case hg=>rfl);(case hr=>first|(go_simp;done)|(go_simp;rfl));intro aB hg w18 hbox hb;have aA:=am (hbox);have aD:=am ((by rw[hg];exact(C5 bz):w.heap.size≤aB));have aC:=am ((by rw[hg];exact(C5 bz):w.heap.size≤aB));replace HB:=bS hb;clear hb hbox hg)|((with_reducible refine ga 42 ?_);refine ge func42 (F2.calls k A0 c0 l0 false _ (M8 (Kd.C_below aF.1 HB.1)) aG.1 A3.1) ?_;rintro w19 hb;replace aA:=am (Y2 (g:=aB) (o:=.cells #[.int .i64 a1_0,.int .i64 a1_1,.int .i64 a1_2] 103 (0,0)) (bk aA) hb);replace HB:=am (E8 (bs aC.1) hb);clear hb))
 go_ret2
 exact⟨_,fe,nz,bs aC.1⟩
def s9.f (a:List ByteArray)(b:ByteArray):Option ByteArray:=if a.length≤140737488355328∧(Lib.join (a.map (·.data.toList)) b.data.toList).length≤140737488355328 then some ⟨(Lib.join (a.map (·.data.toList)) b.data.toList).toArray⟩else none
theorem s9.calls (A0:Option Addr)(c0:Nat)(l0:List ByteArray)(a1 r:ByteArray)(w:World)(hr0:Kd.C Kd.string w A0 l0.length l0)(hc0:l0.length≤c0)(h:s9.f l0 a1=some r) :
 Calls prog 87 #[.slice A0 l0.length c0,.string a1] w (pB w (.string r)):=by
 unfold s9.f at h
 split at h
 ·rename_i hb
  obtain rfl:=Option.some.inj h
  rcases Nat.eq_zero_or_pos l0.length with e0|e0
  ·obtain rfl:=List.length_eq_zero_iff.mp e0
   exact(Tryz.strings_Join_none A0 c0 a1 w).mono fun e w' hh=>⟨hh.1,hh.2 ▸ Below.refl _ _⟩
  ·obtain⟨ad,c,rfl,_,hK,hc⟩:=Kd.C_get hr0 (⟨#[]⟩:ByteArray) 0 (by omega) (by omega)
   have hz:=hc 0 _ (by rw[show c=[Value.string (l0.getD (0:Int).toNat ⟨#[]⟩)]from hK];rfl)
   rw[show((0:Int).toNat*Kd.string.sz+0)=0 from rfl,show ad.add 0=ad by simp[Addr.add]]at hz
   obtain⟨bk,o,sp⟩:=ad
   cases sp with
   |some s=>unfold World.cell? at hz;split at hz<;>simp at hz
   |none =>
    have hlt:bk<w.heap.size:=World.block_lt_of_cell? _ _ hz
    refine Tryz.strings_Join bk o c0 l0 a1 w (fun j x hj=>?_) hlt hb.1 hc0 hb.2
    obtain⟨hjl,hjx⟩:=List.getElem?_eq_some_iff.1 hj
    obtain⟨ad',c',e',_,hK',hc'⟩:=Kd.C_get hr0 (⟨#[]⟩:ByteArray) (j:Int) (by omega) (by omega)
    injection e' with e'
    subst e'
    have hq:=hc' 0 _ (by rw[show c'=[Value.string (l0.getD (j:Int).toNat ⟨#[]⟩)]from hK'];rfl)
    rw[show((j:Int).toNat*Kd.string.sz+0)=j by rw[show Kd.string.sz=1 from rfl];simp,AZ9,Int.toNat_natCast,List.getD_eq_getElem?_getD,hj]at hq
    exact hq
 ·cases h
def T0.l0:Nat→List ByteArray→List Int→Int→Int→Option (ByteArray)
 |0,_,_,_,_=>none
 |k+1,b,c,d,a=>if a<d then(if 0≤a then(if a< (c.length:Int)then((S1.f (rd c a)).bind fun e=>(if b.length<8796093022208 then(T0.l0 k (b++ [e]) c d (wrap64 (a+1)))else(none)))else(none))else(none))else(if(b.length:Int)=0 then(some (⟨#[45]⟩:ByteArray))else((s9.f b (⟨#[44]⟩:ByteArray)).bind fun f=>(some f)))
def T0.f (k:Nat)(a:List Int):Option (ByteArray):=T0.l0 k (([]:List ByteArray)) a (a.length:Int) 0
theorem T0.calls (k A0 c0 l0 r w):Kd.C KI w A0 l0.length l0→l0.length≤c0→T0.f k l0=some r→Go.Proofs.YtpiogigidgejpaaGreatDoor.Laid.T w→
 Calls prog 52 #[.slice A0 l0.length c0] w (pB w (.string r)):=by
 have HB:=bR w
 refine pa fun HR0 HC0=>?_
 intro H
 refine pc fun HL_=>?_
 unfold T0.f at H
 obtain⟨y168,aD⟩:=ey (([]:List ByteArray):List ByteArray)
 rw[←aD.1]at H
 revert H
 refine ia fun H'=>?_
 go_in
 go_wp2_with ((with_reducible refine gd 6 ?_);refine rl Kd.string 9 ([]:List ByteArray) [] (J7.none _ _) ?_;intro v169 w2 aH hb;(first|rw[←aD.1]at aH|(simp only[Int.reduceToNat]at aH;rw[←aD.1]at aH));have aI:=am (Kd.R_lower aH (C5 bz));replace HB:=bS hb;clear hb aH)
 go_loopg [3,9] k (fun kq v3 v9 w'=>∃ (aB:List ByteArray) (aE:Int),v9=.int .i64 aE∧Aside0 (T0.l0 kq aB l0 (l0.length:Int) aE=some r)∧Aside0 (kq≤k)∧Aside0 (Kd.R Kd.string 9 w' w.heap.size (fun _=>True) v3 aB)∧Aside0 (Below w.heap.size w w'))
 case atStart=>exact⟨_,_,fz,H',lr,⟨rR aI⟩,⟨bz⟩⟩
 case round =>
 obtain⟨aB,aE,rfl,⟨H⟩,aQ,aA,HB⟩:=hrel
 cases gk with
 |zero=>cases H
 |succ k1 =>
 simp only[T0.l0]at H
 revert H
 refine iD ?_ ?_<;>intro c4b0
 ·refine U9 fun c5b0=>U9 fun c6b0=>ib fun aG A7=>il fun aM=>?_
  generalize aF:(aB++ [aG])=y173
  replace aF:=am aF.symm
  refine ia fun H'=>?_
  obtain⟨p171,q171,aR,rfl,aC⟩:=ai HR0.1 aE
  replace aC:=cl aC
  go_wp2_with (first|((with_reducible refine ga 86 ?_);refine ge func86 (S1.calls (rd l0 aE) aG _ A7.1 lz) ?_;rintro w9 hb;replace aA:=am (Kd.R_below (rR aA) hb);replace HB:=bS hb;clear hb)|((with_reducible refine gb 13 16 ?_);at_builtin;refine ra Kd.string underlying40 Ar6 u3 aB aG [.string aG] (fun _=>True) rfl (fun _ _=>trivial) (rR aA) bz (lm aM) ?_;intro v174 w10 ho hb hg hat;rw[←aF.1]at ho;replace HB:=am (hb);have aJ:=am (ho);clear aA ho hb hg hat))
  go_roundg k1
  case measure=>exact lm aQ
  case rel=>exact⟨_,_,fz,H',la aQ,⟨rR aJ⟩,⟨bz⟩⟩
 refine iE (fun aK aL=>?_) fun c11 aK aL=>?_
 ·refine i1 ?_;rintro rfl
  obtain⟨Ao12,co12,rfl⟩:=Kd.R_slice aA.1
  go_wp2
  go_ret
  exact⟨fe,bz⟩
 have aS:¬(aB=[]):=fun h_=>c11 (by rw[h_];rfl)
 refine ib fun aN A13=>i1 ?_;rintro rfl
 obtain⟨aO,aP,rfl⟩:=Kd.R_slice aA.1
 go_wp2_with ((with_reducible refine ga 87 ?_);refine ge func87 (s9.calls aO aP aB (⟨#[44]⟩:ByteArray) aN _ (M8 (Kd.R_reads' aA.1).2.2) ((Kd.R_reads' aA.1).2.1) A13.1) ?_;rintro w15 hb;replace aA:=am (Kd.R_below (rR aA) hb);replace HB:=bS hb;clear hb)
 go_ret
 exact⟨fe,bz⟩
def U7.f (k:Nat)(b:List Int)(a:Bool):Option (ByteArray×Bool):=(T0.f k b).bind fun c=>(some (c,a))
theorem U7.calls (k A0 c0 l0 a1 r1 r2 w):Kd.C KI w A0 l0.length l0→l0.length≤c0→U7.f k l0 a1=some (r1,r2)→Go.Proofs.YtpiogigidgejpaaGreatDoor.Laid.T w→
 Calls prog 130 #[.slice A0 l0.length c0,.bool a1] w (pB w (.tuple #[.string r1,.bool r2])):=by
 have HB:=bR w
 refine pa fun HR0 HC0=>?_
 intro H
 refine pc fun HL_=>?_
 unfold U7.f at H
 revert H
 refine ib fun aA A3=>i2 ?_;rintro rfl rfl
 go_in
 go_wp2_with ((with_reducible refine ga 52 ?_);refine gB func52 (T0.calls k A0 c0 l0 aA _ (M8 HR0.1) HC0.1 A3.1 lz) bz ?_;clear HB;intro w4 HB)
 go_ret2
 exact⟨fe,bz⟩
def m8.f (a:Int)(b:Bool):Option (ByteArray×Bool):=(S1.f a).bind fun c=>(some (c,b))
theorem m8.calls (a0 a1 r1 r2 w):m8.f a0 a1=some (r1,r2)→Go.Proofs.YtpiogigidgejpaaGreatDoor.Laid.T w→
 Calls prog 131 #[.int .i64 a0,.bool a1] w (pB w (.tuple #[.string r1,.bool r2])):=by
 have HB:=bR w
 intro H
 refine pc fun HL_=>?_
 unfold m8.f at H
 revert H
 refine ib fun aA A3=>i2 ?_;rintro rfl rfl
 go_in
 go_wp2_with ((with_reducible refine ga 86 ?_);refine gB func86 (S1.calls a0 aA _ A3.1 lz) bz ?_;clear HB;intro w4 HB)
 go_ret2
 exact⟨fe,bz⟩
def X5.f (k:Nat)(a:List Int):Option (Int×Bool):=(F2.f k a).bind fun b=>(if b=true then((D6.f k a).bind fun c=>(some (c,true)))else(some (0,false)))
theorem X5.calls (k A0 c0 l0 r1 r2 w):Kd.C KI w A0 l0.length l0→l0.length≤c0→X5.f k l0=some (r1,r2)→
 Calls prog 132 #[.slice A0 l0.length c0] w (pB w (.tuple #[.int .i64 r1,.bool r2])):=by
 have HB:=bR w
 refine pa fun aA aB=>?_
 unfold X5.f
 refine ib fun t179 A2=>iB ?_ ?_<;>rintro rfl
 ·refine ib fun aC A4=>i2 ?_;rintro rfl rfl
  go_in
  go_wp2_with (first|((with_reducible refine ga 42 ?_);refine gB func42 (F2.calls k A0 c0 l0 true _ (M8 aA.1) aB.1 A2.1) bz ?_;clear HB;intro w5 HB)|((with_reducible refine ga 126 ?_);refine gp func126 (D6.calls k A0 c0 l0 aC _ (M8 (Kd.C_below aA.1 HB.1)) aB.1 A4.1) fun nd=>?_))
  go_ret2
  exact⟨fe,bz⟩
 refine i2 ?_;rintro rfl rfl
 go_in
 go_wp2_with ((with_reducible refine ga 42 ?_);refine gB func42 (F2.calls k A0 c0 l0 false _ (M8 aA.1) aB.1 A2.1) bz ?_;clear HB;intro w6 HB)
 go_ret2
 exact⟨fe,bz⟩
mutual
def K4.l0:Nat→List Int→List Int→List Int→Int→Int→Option (List Int)
 |0,_,_,_,_,_=>none
 |k+1,b,e,c,d,a=>if a<d then(if 0≤a then(if a< (c.length:Int)then(if a≤(b.length:Int)then(K4.l1 k b e (rd c a) 0 c d a (b.take (a:Int).toNat) ((b.take (a:Int).toNat).length:Int) 0)else(none))else(none))else(none))else(some e)
def K4.l1:Nat→List Int→List Int→Int→Int→List Int→Int→Int→List Int→Int→Int→Option (List Int)
 |0,_,_,_,_,_,_,_,_,_,_=>none
 |k+1,d,c,i,j,e,f,g,b,h,a=>if a<h then(if 0≤a then(if a< (b.length:Int)then(if(rd b a)>i then(K4.l1 k d c i (wrap64 (j+1)) e f g b h (wrap64 (a+1)))else(K4.l1 k d c i j e f g b h (wrap64 (a+1))))else(none))else(none))else(if c.length<17592186044416 then(K4.l0 k d (c++ [j]) e f (wrap64 (g+1)))else(none))
end
def K4.f (k:Nat)(a:List Int):Option (List Int):=K4.l0 k a (([]:List Int)) a (a.length:Int) 0
theorem K4.calls (k A0 c0 l0 r w):Kd.C KI w A0 l0.length l0→l0.length≤c0→K4.f k l0=some r→
 Calls prog 191 #[.slice A0 l0.length c0] w (pR w KI 3 r):=by
 have HB:=bR w
 refine pa fun bD HC0=>?_
 unfold K4.f
 intro H
 obtain⟨y181,aK⟩:=ey (([]:List Int):List Int)
 rw[←aK.1]at H
 revert H
 refine ia fun H'=>?_
 go_in
 go_wp2_with ((with_reducible refine gd 9 ?_);refine rl KI 3 ([]:List Int) [] (J7.none _ _) ?_;intro v182 w2 aV hb;(first|rw[←aK.1]at aV|(simp only[Int.reduceToNat]at aV;rw[←aK.1]at aV));have aW:=am (Kd.R_lower aV (C5 bz));replace HB:=bS hb;clear hb aV)
 go_loopg [3,12] k (fun kq v3 v12 w'=>∃ (aE:List Int) (aA:Int),v12=.int .i64 aA∧Aside0 (K4.l0 kq l0 aE l0 (l0.length:Int) aA=some r)∧Aside0 (kq≤k)∧Aside0 (Kd.R KI 3 w' w.heap.size (fun _=>True) v3 aE)∧Aside0 (Below w.heap.size w w'))
 case atStart=>exact⟨_,_,fz,H',lr,⟨rR aW⟩,⟨bz⟩⟩
 case round =>
 obtain⟨aE,aA,rfl,⟨H⟩,aS,aF,HB⟩:=hrel
 cases gk with
 |zero=>cases H
 |succ k1 =>
 simp only[K4.l0]at H
 revert H
 refine iD ?_ ?_<;>intro c4b0
 ·refine U9 fun c5b0=>U9 fun c6b0=>?_
  have c7b0:=eq_true (od:0≤aA)
  refine if' fun c8b0 c8b1=>ia fun H'=>?_
  obtain⟨p184,q184,aL,rfl,aI⟩:=ai bD.1 aA
  replace aI:=cl aI
  obtain⟨i09,bB,_,bC,_⟩:=info_parts J9
  obtain⟨bE,hA9,hC9⟩:=AA6 (P:=prog) (Value.int .i64) 0 22 3 .i64 underlying22 bB bC (some aL) c0 l0 aA (od) (od) HC0.1
  have aT:(l0.take (aA:Int).toNat).length=(aA:Int).toNat:=by rw[List.length_take];have h_:aA≤(l0.length:Int):=od;omega
  have aQ:=am (Kd.C_of_reads (h1:=fun _=>rfl) (hA9 _ (Kd.reads_of_C bD.1)))
  have bF:=am hC9
  go_wp2
  go_loopg [6,21] k1 (fun kq v6 v21 w'=>∃ (aJ aB:Int),v6=.int .i64 aJ∧v21=.int .i64 aB∧Aside0 (K4.l1 kq l0 aE (rd l0 aA) aJ l0 (l0.length:Int) aA (l0.take (aA:Int).toNat) ((l0.take (aA:Int).toNat).length:Int) aB=some r)∧Aside0 (kq≤k1)∧Aside0 (Kd.R KI 3 w' w.heap.size (fun _=>True) u3 aE)∧Aside0 (Below w.heap.size w w'))
  case atStart=>exact⟨_,_,fz,fz,H',lr,⟨rR aF⟩,⟨bz⟩⟩
  case round =>
  obtain⟨aJ,aB,rfl,rfl,⟨H⟩,aU,aF,HB⟩:=hrel
  cases gk with
  |zero=>cases H
  |succ k2 =>
  simp only[K4.l1]at H
  revert H
  refine iD (fun aM=>?_) fun aM=>?_
  ·(try (have aD:=aM;first|rw[aT,Int.ofNat_toNat]at aD|rw[aT]at aD));(try have bG:=eq_true (of_decide_eq_true aD))
   refine U9 fun bH=>it fun c12=>?_
   have aX:=decide_eq_true c12
   (try (have aN:=aX;first|rw[aT,Int.ofNat_toNat]at aN|rw[aT]at aN));(try have bI:=eq_true (of_decide_eq_true aN))
   refine iD (fun aY=>?_) fun aY=>?_
   ·refine ia fun H'=>?_
    have aG:0≤(aB:Int):=od
    have aH:aB< ((l0.take (aA:Int).toNat).length:Int):=od
    obtain⟨aO,aR,aC⟩:=Kd.at_int aQ.1 aB aG aH
    obtain rfl:aL=aO:=(by injection aR)
    replace aC:=cl aC
    replace aG:=eq_true aG
    replace aH:=eq_true aH
    go_wp2
    go_roundg k2
    case measure=>exact lu aS aU
    case rel=>exact⟨_,_,fz,fz,H',lv aS aU,⟨rR aF⟩,⟨bz⟩⟩
   refine ia fun H'=>?_
   have aG:0≤(aB:Int):=od
   have aH:aB< ((l0.take (aA:Int).toNat).length:Int):=od
   obtain⟨aO,aR,aC⟩:=Kd.at_int aQ.1 aB aG aH
   obtain rfl:aL=aO:=(by injection aR)
   replace aC:=cl aC
   replace aG:=eq_true aG
   replace aH:=eq_true aH
   go_wp2
   go_roundg k2
   case measure=>exact lu aS aU
   case rel=>exact⟨_,_,fz,fz,H',lv aS aU,⟨rR aF⟩,⟨bz⟩⟩
  (try (have aD:=aM;first|rw[aT,Int.ofNat_toNat]at aD|rw[aT]at aD))
  refine il fun aZ=>?_
  generalize aP:(aE++ [aJ])=y187
  replace aP:=am aP.symm
  refine ia fun H'=>?_
  go_wp2_with ((with_reducible refine gb 31 33 ?_);at_builtin;refine ra KI underlying22 J9 u3 aE aJ [.int .i64 aJ] (fun _=>True) rfl (fun _ _=>trivial) (rR aF) bz (lm aZ) ?_;intro v188 w15 ho hb hg hat;rw[←aP.1]at ho;replace HB:=am (hb);have bA:=am (ho);clear aF ho hb hg hat)
  go_roundg k2
  case measure=>exact lu aS aU
  case rel=>exact⟨_,_,fz,H',lv aS aU,⟨rR bA⟩,⟨bz⟩⟩
 refine i1 ?_;rintro rfl
 go_wp2
 go_ret
 exact⟨_,fe,rR aF,bz⟩
def i8.l0:Nat→Int→List Int→Int→Int→Option (Int)
 |0,_,_,_,_=>none
 |k+1,c,b,d,a=>if a<d then(if 0≤a then(if a< (b.length:Int)then(i8.l0 k (wrap64 (c+ (rd b a))) b d (wrap64 (a+1)))else(none))else(none))else(some (wrap64 (1 - (wrap64 (2* (Int.tmod c 2))))))
def i8.f (k:Nat)(b:List Int):Option (Int):=(K4.f k b).bind fun a=>(i8.l0 k 0 a (a.length:Int) 0)
theorem i8.calls (k A0 c0 l0 r w):Kd.C KI w A0 l0.length l0→l0.length≤c0→i8.f k l0=some r→
 Calls prog 133 #[.slice A0 l0.length c0] w (pB w (.int .i64 r)):=by
 have HB:=bR w
 refine pa fun HR0 HC0=>?_
 unfold i8.f
 refine ib fun aA A2=>ia fun H'=>?_
 go_in
 go_wp2_with ((with_reducible refine ga 191 ?_);refine gR func191 (K4.calls k A0 c0 l0 aA _ (M8 HR0.1) HC0.1 A2.1) bz ?_;clear HB;intro v191 w3 aC HB;obtain⟨Ao4,co4,rfl⟩:=Kd.R_slice aC.1)
 go_loopg [3,9] k (fun kq v3 v9 w'=>∃ (aD aB:Int),v3=.int .i64 aD∧v9=.int .i64 aB∧Aside0 (i8.l0 kq aD aA (aA.length:Int) aB=some r)∧Aside0 (kq≤k)∧Aside0 (Kd.R KI 3 w' w.heap.size (fun _=>True) (.slice Ao4 aA.length co4) aA)∧Aside0 (Below w.heap.size w w'))
 case atStart=>exact⟨_,_,fz,fz,H',lr,⟨rR aC⟩,⟨bz⟩⟩
 case round =>
 obtain⟨aD,aB,rfl,rfl,⟨H⟩,aG,aE,HB⟩:=hrel
 cases gk with
 |zero=>cases H
 |succ k1 =>
 simp only[i8.l0]at H
 revert H
 refine iD ?_ ?_<;>intro c5b0
 ·refine U9 fun c6b0=>U9 fun c7b0=>ia fun H'=>?_
  obtain⟨p193,q193,aH,rfl,aF⟩:=ai (Kd.R_reads' aE.1).2.2 aB
  go_wp2
  go_roundg k1
  case measure=>exact lm aG
  case rel=>exact⟨_,_,fz,fz,H',la aG,⟨rR aE⟩,⟨bz⟩⟩
 refine i1 ?_;rintro rfl
 go_wp2
 go_ret
 exact⟨fe,bz⟩
end Go.Proofs.YtpiogigidgejpaaGreatDoor.PFnExactStepLine
