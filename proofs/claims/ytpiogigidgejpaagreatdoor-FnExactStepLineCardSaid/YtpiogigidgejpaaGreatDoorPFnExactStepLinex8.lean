import Derived.Test.YtpiogigidgejpaaGreatDoorPFnExactStepLinex5
import Derived.Test.YtpiogigidgejpaaGreatDoorPFnExactStepLinex7
namespace Go.Proofs.YtpiogigidgejpaaGreatDoor.PFnExactStepLine
open Go.RowKit Go.Proofs.YtpiogigidgejpaaGreatDoorW.PrintWords Go.Proofs.YtpiogigidgejpaaGreatDoorW.PrintLast Go.Proofs.YtpiogigidgejpaaGreatDoorW.PrintMore Go.Proofs.YtpiogigidgejpaaGreatDoor.Sq Tryz
attribute [local go_sem] g8 g9 s8 q8 Y0 X9 b8 e6
set_option maxHeartbeats 8000000
set_option maxRecDepth 100000
set_option linter.unusedVariables false
set_option linter.unusedSimpArgs false
def E6.l0:Nat→Bool→List ByteArray→List (List Int)→Int→Int→Option (ByteArray×Bool)
 |0,_,_,_,_,_=>none
 |k+1,d,b,c,e,a=>if a<e then(if 0≤a then(if a< (c.length:Int)then((T0.f k (k9 c a)).bind fun f=>(if b.length<8796093022208 then(E6.l0 k d (b++ [f]) c e (wrap64 (a+1)))else(none)))else(none))else(none))else((s9.f b (⟨#[124]⟩:ByteArray)).bind fun g=>(some (g,d)))
def E6.f (k:Nat)(e:List Int)(b:ByteArray)(a E:List Int):Option (ByteArray×Bool):=if b.toList=([115,104,111,119]:List UInt8)then((U7.f k e true).bind fun g=>(some (g.1,g.2)))else(if b.toList=([114,97,110,107]:List UInt8)then((X5.f k e).bind fun h=>((m8.f h.1 h.2).bind fun i=>(some (i.1,i.2))))else(if b.toList=([115,105,103,110]:List UInt8)then((i8.f k e).bind fun G=>(if G=1 then(some ((⟨#[101,118,101,110]⟩:ByteArray),true))else(some ((⟨#[111,100,100]⟩:ByteArray),true))))else(if b.toList=([103,114,97,121]:List UInt8)then(if 0< (a.length:Int)then(if 1< (a.length:Int)then((Z5.f (rd a 0) (rd a 1)).bind fun j=>((m8.f j.1 j.2).bind fun l=>(some (l.1,l.2))))else(none))else(none))else(if b.toList=([117,110,103,114,97,121]:List UInt8)then(if 0< (a.length:Int)then(if 1< (a.length:Int)then((X3.f k (rd a 0) (rd a 1)).bind fun m=>((m8.f m.1 m.2).bind fun n=>(some (n.1,n.2))))else(none))else(none))else(if b.toList=([109,105,120,101,100]:List UInt8)then(if 0< (a.length:Int)then((s6.f k E (rd a 0)).bind fun o=>((U7.f k o.1 o.2).bind fun p=>(some (p.1,p.2))))else(none))else(if b.toList=([99,104,111,111,115,101]:List UInt8)then(if 0< (a.length:Int)then(if 1< (a.length:Int)then(if 2< (a.length:Int)then((X4.f k (rd a 0) (rd a 1) (rd a 2)).bind fun q=>((U7.f k q.1 q.2).bind fun r=>(some (r.1,r.2))))else(none))else(none))else(none))else(if b.toList=([114,101,118,111,108,118,101]:List UInt8)then(if 0< (a.length:Int)then(if 1< (a.length:Int)then(if 2< (a.length:Int)then((Z6.f k (rd a 0) (rd a 1) (rd a 2)).bind fun s=>((U7.f k s.1 s.2).bind fun t=>(some (t.1,t.2))))else(none))else(none))else(none))else(if b.toList=([104,97,108,118,101,115]:List UInt8)then(if 0< (a.length:Int)then(if 1< (a.length:Int)then((L1.f k (rd a 0) (rd a 1)).bind fun c=>((S1.f c.1).bind fun f=>(if f.size+1≤9223372036854775807 then((S1.f c.2.1).bind fun F=>(if(f++ (⟨#[32]⟩:ByteArray)).size+F.size≤9223372036854775807 then(some ((f++ (⟨#[32]⟩:ByteArray))++F,c.2.2))else(none)))else(none))))else(none))else(none))else(if b.toList=([103,114,111,119,116,104]:List UInt8)then(if 0< (a.length:Int)then(if 1< (a.length:Int)then((J2.f k (rd a 0) (rd a 1)).bind fun u=>((U7.f k u.1 u.2).bind fun v=>(some (v.1,v.2))))else(none))else(none))else(if b.toList=([98,97,108,97,110,99,101,100]:List UInt8)then(if 0< (a.length:Int)then(if 1< (a.length:Int)then((H7.f k (rd a 0) (rd a 1)).bind fun w=>((U7.f k w.1 w.2).bind fun x=>(some (x.1,x.2))))else(none))else(none))else(if b.toList=([102,97,99,116,111,114,115]:List UInt8)then((F3.f k E).bind fun d=>(E6.l0 k d.2 (([]:List ByteArray)) d.1 (d.1.length:Int) 0))else(if b.toList=([98,114,117,105,106,110]:List UInt8)then(if 0< (a.length:Int)then(if 1< (a.length:Int)then((L0.f k (rd a 0) (rd a 1)).bind fun y=>((U7.f k y.1 y.2).bind fun z=>(some (z.1,z.2))))else(none))else(none))else(if b.toList=([112,97,105,114,115]:List UInt8)then(if 0< (a.length:Int)then((C0.f k (rd a 0)).bind fun A=>((U7.f k A.1 A.2).bind fun B=>(some (B.1,B.2))))else(none))else(if b.toList=([115,117,112,101,114]:List UInt8)then(if 0< (a.length:Int)then((AA2.f k (rd a 0)).bind fun C=>((U7.f k C.1 C.2).bind fun D=>(some (D.1,D.2))))else(none))else(some ((⟨#[]⟩:ByteArray),false))))))))))))))))
def E6.T11:Bool×List (List Nat×List Nat):=(true,[([],[]),([0],[0]),([1],[1]),([],[]),([3],[3]),([4],[4]),([2,5],[2,5]),([6],[6]),([6],[6]),([7,8,6],[7,8]),([9],[9]),([9],[9]),([10,9,0,1,2,3,4,5,6,7,8,9,10,11],[10]),([11,12,0,1,2,3,4,5,6,7,8,9,10,11,12],[11])])
def E6.B11:List Nat:=[0,1,3,0,8,24,63,127,127,511,1023,1023,4095,8191]
theorem E6.tab11:AA0 .any (AC6 f103 11)=E6.T11:=by kernel_rfl
theorem E6.bits11:l6 E6.T11.2 E6.B11=true:=by kernel_rfl
theorem E6.tab13:AA0 .any (AC6 f103 13)=E6.T11:=by kernel_rfl
def E6.T17:Bool×List (List Nat×List Nat):=(true,[([],[]),([0],[0]),([1],[1]),([],[]),([3],[3]),([4],[4]),([],[]),([6],[6]),([7],[7]),([2,5,8],[2,5,8]),([9],[9]),([9],[9]),([10,11,9],[10,11]),([12],[12]),([12],[12]),([13,12,0,1,2,3,4,5,6,7,8,9,10,11,12,13,14],[13]),([14,15,0,1,2,3,4,5,6,7,8,9,10,11,12,13,14,15],[14])])
def E6.B17:List Nat:=[0,1,3,0,8,24,0,64,192,511,1023,1023,4095,8191,8191,32767,65535]
theorem E6.tab17:AA0 .any (AC6 f103 17)=E6.T17:=by kernel_rfl
theorem E6.bits17:l6 E6.T17.2 E6.B17=true:=by kernel_rfl
theorem E6.tab19:AA0 .any (AC6 f103 19)=E6.T17:=by kernel_rfl
def E6.T21:Bool×List (List Nat×List Nat):=(true,[([],[]),([0],[0]),([1],[1]),([],[]),([3],[3]),([4],[4]),([2,5],[2,5]),([6],[6]),([7],[7]),([7],[7]),([7],[7]),([8,6,0,1,2,3,4,5,6,7,8],[8]),([9,11,0,1,2,3,4,5,6,7,8,9,11],[9]),([10,12,0,1,2,3,4,5,6,7,8,9,10,11,12],[10])])
def E6.B21:List Nat:=[0,1,3,0,8,24,63,127,255,255,255,511,3071,8191]
theorem E6.tab21:AA0 .any (AC6 f103 21)=E6.T21:=by kernel_rfl
theorem E6.bits21:l6 E6.T21.2 E6.B21=true:=by kernel_rfl
theorem E6.tab24:AA0 .any (AC6 f103 24)=E6.T11:=by kernel_rfl
theorem E6.tab26:AA0 .any (AC6 f103 26)=E6.T11:=by kernel_rfl
theorem E6.tab37:AA0 .any (AC6 f103 37)=E6.T11:=by kernel_rfl
theorem E6.calls (k A0 c0 l0 a1 A2 c2 l2 A3 c3 l3 r1 r2 w):Kd.C KI w A0 l0.length l0→l0.length≤c0→Kd.C KI w A2 l2.length l2→l2.length≤c2→Kd.C KI w A3 l3.length l3→l3.length≤c3→E6.f k l0 a1 l2 l3=some (r1,r2)→Go.Proofs.YtpiogigidgejpaaGreatDoor.Laid.T w→
 Calls prog 103 #[.slice A0 l0.length c0,.string a1,.slice A2 l2.length c2,.slice A3 l3.length c3] w (pB w (.tuple #[.string r1,.bool r2])):=by
 have HB:=bR w
 refine pa fun gN gO=>pa fun aV HC2=>pa fun jM jN=>?_
 intro H
 refine pc fun HL_=>?_
 unfold E6.f at H
 revert H
 refine iE (fun gS gT=>?_) fun c5 gS gT=>?_
 ·refine ib ?_;rintro⟨gU,gV⟩ A6
  refine i2 ?_;rintro rfl rfl
  go_in
  go_wp2_with ((with_reducible refine ga 130 ?_);refine gB func130 (U7.calls k A0 c0 l0 true gU gV _ (M8 gN.1) gO.1 A6.1 lz) bz ?_;clear HB;intro w7 HB)
  go_ret2
  exact⟨fe,bz⟩
 refine iE (fun gW gX=>?_) fun c8 gW gX=>?_
 ·refine ib ?_;rintro⟨eJ,eK⟩ A9
  refine ib ?_;rintro⟨gY,gZ⟩ A10
  refine i2 ?_;rintro rfl rfl
  go_in
  go_wp2_with (first|((with_reducible refine ga 132 ?_);refine gB func132 (X5.calls k A0 c0 l0 eJ eK _ (M8 gN.1) gO.1 A9.1) bz ?_;clear HB;intro w11 HB)|((with_reducible refine ga 131 ?_);refine gB func131 (m8.calls eJ eK gY gZ _ A10.1 lz) bz ?_;clear HB;intro w12 HB))
  go_ret2
  exact⟨fe,bz⟩
 refine iE (fun eL eM=>?_) fun c13 eL eM=>?_
 ·refine ib fun eN jO=>iE (fun eO eP=>?_) fun c15 eO eP=>?_
  ·refine i2 ?_;rintro rfl rfl
   go_in
   go_wp2_with ((with_reducible refine ga 133 ?_);refine gB func133 (i8.calls k A0 c0 l0 eN _ (M8 gN.1) gO.1 jO.1) bz ?_;clear HB;intro w16 HB)
   go_ret2
   exact⟨fe,bz⟩
  refine i2 ?_;rintro rfl rfl
  go_in
  go_wp2_with ((with_reducible refine ga 133 ?_);refine gB func133 (i8.calls k A0 c0 l0 eN _ (M8 gN.1) gO.1 jO.1) bz ?_;clear HB;intro w17 HB)
  go_ret2
  exact⟨fe,bz⟩
 refine iE (fun eQ eR=>?_) fun c18 eQ eR=>?_
 ·refine iw (0<l2.length) fun jP jQ=>?_
  refine iw (1<l2.length) fun jR jS=>?_
  refine ib ?_;rintro⟨eS,eU⟩ A21
  refine ib ?_;rintro⟨hA,hB⟩ A22
  refine i2 ?_;rintro rfl rfl
  go_in
  try go_wp2
  replace HB:=am (F8 HB.1)
  obtain⟨p474,q474,jU,bW,rfl,aD⟩:=k0 aV.1 od
  have cF:=cl aD
  obtain⟨p475,q475,jV,aE⟩:=k1 aV.1 od
  have cG:=cl aE
  refine sq 14 (fun w'=>w'.cell? bW=some (.int .i64 (rd l2 0))∧w'.cell? ⟨bW.block,bW.off+1,none⟩=some (.int .i64 (rd l2 1))) [] E6.tab11 E6.bits11 ⟨(cz aD),(cz aE)⟩ fun hHeld HT_ HW_=>?_
  generalize w.drew=w23 at HB cF cG hHeld ⊢
  refine rg [0,1,3,4,2,5] ?_
  refine oc 6 func134 (Z5.calls (rd l2 0) (rd l2 1) eS eU _ A21.1) ?_
  rintro e w' ⟨rfl,⟨nd,rfl⟩⟩
  refine⟨_,rfl,⟨(cz aD),(cz aE)⟩,fun hHeld=>nm 47 ?_⟩
  refine rg [7,8] ?_
  refine oc 9 func131 (m8.calls eS eU hA hB _ A22.1 lz) ?_
  rintro e w24 ⟨rfl,hb⟩
  replace HB:=bS hb
  refine⟨_,rfl,⟨(cz aD),(cz aE)⟩,fun hHeld=>nm 50 ?_⟩
  refine rg [10,11,12,13] ?_
  refine dn ?_
  try go_wp2
  go_ret2
  exact⟨fe,bz⟩
 refine iE (fun eV eW=>?_) fun c25 eV eW=>?_
 ·refine iw (0<l2.length) fun jW jX=>?_
  refine iw (1<l2.length) fun jY jZ=>?_
  refine ib ?_;rintro⟨eX,eY⟩ A28
  refine ib ?_;rintro⟨hC,hD⟩ A29
  refine i2 ?_;rintro rfl rfl
  go_in
  try go_wp2
  replace HB:=am (F8 HB.1)
  obtain⟨p480,q480,kA,bX,rfl,aF⟩:=k0 aV.1 od
  have cH:=cl aF
  obtain⟨p481,q481,kB,aG⟩:=k1 aV.1 od
  have cI:=cl aG
  refine sq 14 (fun w'=>w'.cell? bX=some (.int .i64 (rd l2 0))∧w'.cell? ⟨bX.block,bX.off+1,none⟩=some (.int .i64 (rd l2 1))) [] E6.tab13 E6.bits11 ⟨(cz aF),(cz aG)⟩ fun hHeld HT_ HW_=>?_
  generalize w.drew=w30 at HB cH cI hHeld ⊢
  refine rg [0,1,3,4,2,5] ?_
  refine oc 6 func135 (X3.calls k (rd l2 0) (rd l2 1) eX eY _ A28.1) ?_
  rintro e w' ⟨rfl,⟨nd,rfl⟩⟩
  refine⟨_,rfl,⟨(cz aF),(cz aG)⟩,fun hHeld=>nm 61 ?_⟩
  refine rg [7,8] ?_
  refine oc 9 func131 (m8.calls eX eY hC hD _ A29.1 lz) ?_
  rintro e w31 ⟨rfl,hb⟩
  replace HB:=bS hb
  refine⟨_,rfl,⟨(cz aF),(cz aG)⟩,fun hHeld=>nm 64 ?_⟩
  refine rg [10,11,12,13] ?_
  refine dn ?_
  try go_wp2
  go_ret2
  exact⟨fe,bz⟩
 refine iE (fun eZ fA=>?_) fun c32 eZ fA=>?_
 ·refine iw (0<l2.length) fun kC kD=>?_
  refine ib ?_;rintro⟨fB,fC⟩ A34
  refine ib ?_;rintro⟨hE,hF⟩ A35
  refine i2 ?_;rintro rfl rfl
  have dJ:0≤(0:Int):=(by omega)
  have dK:0< (l2.length:Int):=od
  obtain⟨kE,hG,bL⟩:=Kd.at_int aV.1 0 dJ dK
  cases hG
  have kF:(0<l2.length)=True:=eq_true (by omega)
  (try rw[show((0:Int)).toNat=0 from rfl]at bL)
  (try rw[Addr.add_zero']at bL)
  replace dJ:=eq_true dJ
  replace dK:=eq_true dK
  go_in
  go_wp2_with (first|((with_reducible refine ga 136 ?_);refine gR func136 (s6.calls k A3 c3 l3 (rd l2 0) fB fC _ (M8 jM.1) jN.1 A34.1) bz ?_;clear HB;intro v489 w36 bA HB;obtain⟨hH,hI,rfl⟩:=Kd.R_slice bA.1)|((with_reducible refine ga 130 ?_);refine ge func130 (U7.calls k hH hI fB fC hE hF _ (M8 (Kd.R_reads' bA.1).2.2) ((Kd.R_reads' bA.1).2.1) A35.1 lz) ?_;rintro w38 hb;replace bA:=am (Kd.R_below (rR bA) hb);replace HB:=bS hb;clear hb))
  go_ret2
  exact⟨fe,bz⟩
 refine iE (fun fD fE=>?_) fun c39 fD fE=>?_
 ·refine iw (0<l2.length) fun kG kH=>?_
  refine iw (1<l2.length) fun kI kJ=>?_
  refine iw (2<l2.length) fun kK kL=>?_
  refine ib ?_;rintro⟨dL,dM⟩ A43
  refine ib ?_;rintro⟨hJ,hL⟩ A44
  refine i2 ?_;rintro rfl rfl
  go_in
  try go_wp2
  replace HB:=am (F8 HB.1)
  obtain⟨p493,q493,kM,bB,rfl,aH⟩:=k0 aV.1 od
  have cJ:=cl aH
  obtain⟨p494,q494,kN,aI⟩:=k1 aV.1 od
  have cK:=cl aI
  obtain⟨p495,q495,kO,aJ⟩:=k2 aV.1 od
  have cL:=cl aJ
  refine sq 17 (fun w'=>w'.cell? bB=some (.int .i64 (rd l2 0))∧w'.cell? ⟨bB.block,bB.off+1,none⟩=some (.int .i64 (rd l2 1))∧w'.cell? ⟨bB.block,bB.off+2,none⟩=some (.int .i64 (rd l2 2))) [] E6.tab17 E6.bits17 ⟨(cz aH),(cz aI),(cz aJ)⟩ fun hHeld HT_ HW_=>?_
  generalize w.drew=w45 at HB cJ cK cL hHeld ⊢
  refine rg [0,1,3,4,6,7,2,5,8] ?_
  refine oc 9 func137 (X4.calls k (rd l2 0) (rd l2 1) (rd l2 2) dL dM _ A43.1) ?_
  rintro e w46 ⟨v498,rfl,bV,hb⟩
  have bC:=am (Kd.R_lower bV (C5 bz))
  replace HB:=bS hb
  obtain⟨hM,hN,fF⟩:=Kd.R_slice bC.1
  (first|subst fF|(injection fF with bM cM bN;have cN:=bM.symm;have cO:=bN.symm;clear bM cM bN;subst cN;subst cO))
  refine⟨_,rfl,⟨(cz aH),(cz aI),(cz aJ)⟩,fun hHeld=>nm 90 ?_⟩
  refine rg [10,11] ?_
  refine AD4 (i:=12) (N:=some 93) (lb 17 8191) rfl rfl (g6 HT_.1 (by kernel_rfl)) (by decide) (fun K hK=>?_)
  refine gs' func130 #[.slice hM dL.length hN,.bool dM] ?_
  with_reducible refine(U7.calls k _ _ dL dM hJ hL _ ?side1 ?side2 A44.1 lz).mono ?_
  (case side1=>exact M8 (Kd.R_reads' bC.1).2.2)
  (case side2=>exact(Kd.R_reads' bC.1).2.1)
  rintro e w48 ⟨rfl,hb⟩
  refine⟨_,rfl,?_⟩
  replace bC:=am (Kd.R_below (rR bC) hb)
  replace HB:=bS hb
  refine hK.out _ _ ⟨(cz aH),(cz aI),(cz aJ)⟩ (fun hHeld=>?_)
  refine nm 93 ?_
  refine rg [13,14,15,16] ?_
  refine dn ?_
  try go_wp2
  go_ret2
  exact⟨fe,bz⟩
 refine iE (fun fG fH=>?_) fun c49 fG fH=>?_
 ·refine iw (0<l2.length) fun kP kQ=>?_
  refine iw (1<l2.length) fun kR kS=>?_
  refine iw (2<l2.length) fun kT kU=>?_
  refine ib ?_;rintro⟨dN,dO⟩ A53
  refine ib ?_;rintro⟨hO,hP⟩ A54
  refine i2 ?_;rintro rfl rfl
  go_in
  try go_wp2
  replace HB:=am (F8 HB.1)
  obtain⟨p502,q502,kV,bD,rfl,aK⟩:=k0 aV.1 od
  have cP:=cl aK
  obtain⟨p503,q503,kW,aL⟩:=k1 aV.1 od
  have cQ:=cl aL
  obtain⟨p504,q504,kX,aM⟩:=k2 aV.1 od
  have cR:=cl aM
  refine sq 17 (fun w'=>w'.cell? bD=some (.int .i64 (rd l2 0))∧w'.cell? ⟨bD.block,bD.off+1,none⟩=some (.int .i64 (rd l2 1))∧w'.cell? ⟨bD.block,bD.off+2,none⟩=some (.int .i64 (rd l2 2))) [] E6.tab19 E6.bits17 ⟨(cz aK),(cz aL),(cz aM)⟩ fun hHeld HT_ HW_=>?_
  generalize w.drew=w55 at HB cP cQ cR hHeld ⊢
  refine rg [0,1,3,4,6,7,2,5,8] ?_
  refine oc 9 func138 (Z6.calls k (rd l2 0) (rd l2 1) (rd l2 2) dN dO _ A53.1) ?_
  rintro e w56 ⟨v507,rfl,bV,hb⟩
  have bE:=am (Kd.R_lower bV (C5 bz))
  replace HB:=bS hb
  obtain⟨hQ,hR,fI⟩:=Kd.R_slice bE.1
  (first|subst fI|(injection fI with bM cM bN;have cN:=bM.symm;have cO:=bN.symm;clear bM cM bN;subst cN;subst cO))
  refine⟨_,rfl,⟨(cz aK),(cz aL),(cz aM)⟩,fun hHeld=>nm 107 ?_⟩
  refine rg [10,11] ?_
  refine AD4 (i:=12) (N:=some 110) (lb 17 8191) rfl rfl (g6 HT_.1 (by kernel_rfl)) (by decide) (fun K hK=>?_)
  refine gs' func130 #[.slice hQ dN.length hR,.bool dO] ?_
  with_reducible refine(U7.calls k _ _ dN dO hO hP _ ?side1 ?side2 A54.1 lz).mono ?_
  (case side1=>exact M8 (Kd.R_reads' bE.1).2.2)
  (case side2=>exact(Kd.R_reads' bE.1).2.1)
  rintro e w58 ⟨rfl,hb⟩
  refine⟨_,rfl,?_⟩
  replace bE:=am (Kd.R_below (rR bE) hb)
  replace HB:=bS hb
  refine hK.out _ _ ⟨(cz aK),(cz aL),(cz aM)⟩ (fun hHeld=>?_)
  refine nm 110 ?_
  refine rg [13,14,15,16] ?_
  refine dn ?_
  try go_wp2
  go_ret2
  exact⟨fe,bz⟩
 refine iE (fun fJ fK=>?_) fun c59 fJ fK=>?_
 ·refine iw (0<l2.length) fun kY kZ=>?_
  refine iw (1<l2.length) fun lA lB=>?_
  refine ib ?_;rintro⟨fL,fM,hS⟩ A62
  refine ib fun bY A63=>it fun hT=>?_
  have lC:=eq_true hT
  have lD:=decide_eq_true hT
  try have lE:(9223372036854775807<bY.size+1)=False:=eq_false (Nat.not_lt.2 hT)
  refine ib fun cS A65=>it fun gP=>?_
  have lF:=eq_true gP
  have lG:=decide_eq_true gP
  try have lH:(9223372036854775807< (bY++ (⟨#[32]⟩:ByteArray)).size+cS.size)=False:=eq_false (Nat.not_lt.2 gP)
  have fN:bY.size+1+cS.size≤9223372036854775807:=by have h_:=gP;simp only[ByteArray.size_append]at h_;exact h_
  have lI:=eq_true fN
  have lJ:(9223372036854775807<bY.size+1+cS.size)=False:=eq_false (Nat.not_lt.2 fN)
  refine i2 ?_;rintro rfl rfl
  go_in
  try go_wp2
  replace HB:=am (F8 HB.1)
  obtain⟨p511,q511,lK,bZ,rfl,aX⟩:=k0 aV.1 od
  have cT:=cl aX
  obtain⟨p512,q512,lL,aY⟩:=k1 aV.1 od
  have cU:=cl aY
  refine sq 14 (fun w'=>w'.cell? bZ=some (.int .i64 (rd l2 0))∧w'.cell? ⟨bZ.block,bZ.off+1,none⟩=some (.int .i64 (rd l2 1))) [] E6.tab21 E6.bits21 ⟨(cz aX),(cz aY)⟩ fun hHeld HT_ HW_=>?_
  generalize w.drew=w67 at HB cT cU hHeld ⊢
  refine rg [0,1,3,4,2,5] ?_
  refine oc 6 func139 (L1.calls k (rd l2 0) (rd l2 1) fL fM hS _ A62.1) ?_
  rintro e w68 ⟨rfl,hb⟩
  replace HB:=bS hb
  refine⟨_,rfl,⟨(cz aX),(cz aY)⟩,fun hHeld=>nm 122 ?_⟩
  refine rg [7,8,9,10,11,12,13] ?_
  refine dn ?_
  try go_wp2_with (first|((with_reducible refine ga 86 ?_);refine gB func86 (S1.calls fL bY _ A63.1 lz) bz ?_;clear HB;intro w69 HB)|((with_reducible refine ga 86 ?_);refine gB func86 (S1.calls fM cS _ A65.1 lz) bz ?_;clear HB;intro w70 HB))
  go_ret2
  exact⟨fe,bz⟩
 refine iE (fun fO fP=>?_) fun c71 fO fP=>?_
 ·refine iw (0<l2.length) fun lM lN=>?_
  refine iw (1<l2.length) fun lO lP=>?_
  refine ib ?_;rintro⟨dP,dQ⟩ A74
  refine ib ?_;rintro⟨hU,hV⟩ A75
  refine i2 ?_;rintro rfl rfl
  go_in
  try go_wp2
  replace HB:=am (F8 HB.1)
  obtain⟨p518,q518,lQ,cA,rfl,aN⟩:=k0 aV.1 od
  have cV:=cl aN
  obtain⟨p519,q519,lR,aO⟩:=k1 aV.1 od
  have cW:=cl aO
  refine sq 14 (fun w'=>w'.cell? cA=some (.int .i64 (rd l2 0))∧w'.cell? ⟨cA.block,cA.off+1,none⟩=some (.int .i64 (rd l2 1))) [] E6.tab24 E6.bits11 ⟨(cz aN),(cz aO)⟩ fun hHeld HT_ HW_=>?_
  generalize w.drew=w76 at HB cV cW hHeld ⊢
  refine rg [0,1,3,4,2,5] ?_
  refine oc 6 func140 (J2.calls k (rd l2 0) (rd l2 1) dP dQ _ A74.1) ?_
  rintro e w77 ⟨v522,rfl,bV,hb⟩
  have bF:=am (Kd.R_lower bV (C5 bz))
  replace HB:=bS hb
  obtain⟨hW,hX,fQ⟩:=Kd.R_slice bF.1
  (first|subst fQ|(injection fQ with bM cM bN;have cN:=bM.symm;have cO:=bN.symm;clear bM cM bN;subst cN;subst cO))
  refine⟨_,rfl,⟨(cz aN),(cz aO)⟩,fun hHeld=>nm 141 ?_⟩
  refine rg [7,8] ?_
  refine AD4 (i:=9) (N:=some 144) (lb 14 1023) rfl rfl (g6 HT_.1 (by kernel_rfl)) (by decide) (fun K hK=>?_)
  refine gs' func130 #[.slice hW dP.length hX,.bool dQ] ?_
  with_reducible refine(U7.calls k _ _ dP dQ hU hV _ ?side1 ?side2 A75.1 lz).mono ?_
  (case side1=>exact M8 (Kd.R_reads' bF.1).2.2)
  (case side2=>exact(Kd.R_reads' bF.1).2.1)
  rintro e w79 ⟨rfl,hb⟩
  refine⟨_,rfl,?_⟩
  replace bF:=am (Kd.R_below (rR bF) hb)
  replace HB:=bS hb
  refine hK.out _ _ ⟨(cz aN),(cz aO)⟩ (fun hHeld=>?_)
  refine nm 144 ?_
  refine rg [10,11,12,13] ?_
  refine dn ?_
  try go_wp2
  go_ret2
  exact⟨fe,bz⟩
 refine iE (fun fR fS=>?_) fun c80 fR fS=>?_
 ·refine iw (0<l2.length) fun lS lT=>?_
  refine iw (1<l2.length) fun lU lV=>?_
  refine ib ?_;rintro⟨dR,dS⟩ A83
  refine ib ?_;rintro⟨hY,hZ⟩ A84
  refine i2 ?_;rintro rfl rfl
  go_in
  try go_wp2
  replace HB:=am (F8 HB.1)
  obtain⟨p526,q526,lW,cB,rfl,aP⟩:=k0 aV.1 od
  have cX:=cl aP
  obtain⟨p527,q527,lX,aQ⟩:=k1 aV.1 od
  have cY:=cl aQ
  refine sq 14 (fun w'=>w'.cell? cB=some (.int .i64 (rd l2 0))∧w'.cell? ⟨cB.block,cB.off+1,none⟩=some (.int .i64 (rd l2 1))) [] E6.tab26 E6.bits11 ⟨(cz aP),(cz aQ)⟩ fun hHeld HT_ HW_=>?_
  generalize w.drew=w85 at HB cX cY hHeld ⊢
  refine rg [0,1,3,4,2,5] ?_
  refine oc 6 func141 (H7.calls k (rd l2 0) (rd l2 1) dR dS _ A83.1) ?_
  rintro e w86 ⟨v530,rfl,bV,hb⟩
  have bG:=am (Kd.R_lower bV (C5 bz))
  replace HB:=bS hb
  obtain⟨iA,iC,fT⟩:=Kd.R_slice bG.1
  (first|subst fT|(injection fT with bM cM bN;have cN:=bM.symm;have cO:=bN.symm;clear bM cM bN;subst cN;subst cO))
  refine⟨_,rfl,⟨(cz aP),(cz aQ)⟩,fun hHeld=>nm 155 ?_⟩
  refine rg [7,8] ?_
  refine AD4 (i:=9) (N:=some 158) (lb 14 1023) rfl rfl (g6 HT_.1 (by kernel_rfl)) (by decide) (fun K hK=>?_)
  refine gs' func130 #[.slice iA dR.length iC,.bool dS] ?_
  with_reducible refine(U7.calls k _ _ dR dS hY hZ _ ?side1 ?side2 A84.1 lz).mono ?_
  (case side1=>exact M8 (Kd.R_reads' bG.1).2.2)
  (case side2=>exact(Kd.R_reads' bG.1).2.1)
  rintro e w88 ⟨rfl,hb⟩
  refine⟨_,rfl,?_⟩
  replace bG:=am (Kd.R_below (rR bG) hb)
  replace HB:=bS hb
  refine hK.out _ _ ⟨(cz aP),(cz aQ)⟩ (fun hHeld=>?_)
  refine nm 158 ?_
  refine rg [10,11,12,13] ?_
  refine dn ?_
  try go_wp2
  go_ret2
  exact⟨fe,bz⟩
 refine iE (fun fU fV=>?_) fun c89 fU fV=>?_
 ·refine ib ?_;rintro⟨bH,fW⟩ A90
  generalize bO:([]:List ByteArray)=y538
  replace bO:=am bO.symm
  refine ia fun H'=>?_
  go_in
  go_wp2_with (first|((with_reducible refine ga 142 ?_);refine gs func142 (F3.calls k (fun k_=>k_<w.heap.size) A3 c3 l3 bH fW _ (Kd.V_mk jN.1 (Kd.F_below (Kd.C_F (Kd.heap_int .i64) jM.1) bz)) A90.1) ?_;rintro v535 w91 ⟨bV,hb⟩;have bP:=am (Kd.S_lower (Kd.S_mono (ok':=fun k_=>True) bV (fun _ hk_=>trivial)) (C5 bz));replace HB:=bS hb;clear hb bV)|((with_reducible refine gd 168 ?_);refine rl Kd.string 9 ([]:List ByteArray) [] (J7.none _ _) ?_;intro v539 w92 cC hb;(first|rw[←bO.1]at cC|(simp only[Int.reduceToNat]at cC;rw[←bO.1]at cC));replace bP:=am (Kd.S_below (rS bP) hb);have fX:=am (Kd.R_lower cC (C5 bz));replace HB:=bS hb;clear hb cC;obtain⟨iG,iH,rfl⟩:=Kd.S_slice bP.1))
  go_loopg [15,171] k (fun kq v15 iI w'=>∃ (aW:List ByteArray) (aB:Int),iI=.int .i64 aB∧Aside0 (E6.l0 kq fW aW bH (bH.length:Int) aB=some (r1,r2))∧Aside0 (kq≤k)∧Aside0 (Kd.R Kd.string 9 w' w.heap.size (fun _=>True) v15 aW)∧Aside0 (Kd.S KS 22 w' w.heap.size (fun _=>True) (.slice iG bH.length iH) bH)∧Aside0 (Below w.heap.size w w'))
  case atStart=>exact⟨_,_,fz,H',lr,⟨rR fX⟩,⟨rS bP⟩,⟨bz⟩⟩
  case round =>
  obtain⟨aW,aB,rfl,⟨H⟩,lY,aC,aA,HB⟩:=hrel
  cases gk with
  |zero=>cases H
  |succ k1 =>
  simp only[E6.l0]at H
  revert H
  refine iD ?_ ?_<;>intro lZ
  ·refine U9 fun mA=>U9 fun mB=>ib fun cZ A98=>il fun fY=>?_
   generalize cD:(aW++ [cZ])=y543
   replace cD:=am cD.symm
   refine ia fun H'=>?_
   have dA:0≤(aB:Int):=od
   have dB:aB< (bH.length:Int):=od
   obtain⟨mC,dT,dU,iJ,dC,dD,dE⟩:=Ai5 (Kd.S_reads' aA.1).2.2 aB dA dB
   cases iJ
   obtain⟨mD,iK,dV,dW⟩:=Kd.S_get aA.1 [] aB dA (by first|exact dB|exact od|(have e_:=(Kd.S_reads' aA.1).1;omega))
   obtain⟨gQ,rfl,bQ⟩:=dV
   have aR:=dW 0 _ rfl
   rw[Nat.add_zero,show(KS).sz=1 from rfl,Nat.mul_one]at aR
   replace aR:=Option.some.inj (aR.symm.trans dC)
   rw[aR]at bQ
   have aS:=am (show Kd.R KI 3 _ _ _ _ (k9 bH aB)from bQ)
   have aZ:=am dE
   have dF:=am dD
   replace dA:=eq_true dA
   replace dB:=eq_true dB
   go_wp2_with (first|((with_reducible refine ga 52 ?_);refine ge func52 (T0.calls k1 dT dU (k9 bH aB) cZ _ (cd aZ) dF.1 A98.1 lz) ?_;rintro w100 hb;replace aC:=am (Kd.R_below (rR aC) hb);replace aA:=am (Kd.S_below (rS aA) hb);replace aS:=am (Kd.R_below (rR aS) hb);replace aZ:=am (Kd.C_below (cd aZ) hb);replace HB:=bS hb;clear hb)|((with_reducible refine gb 175 178 ?_);at_builtin;refine ra Kd.string underlying40 Ar6 u15 aW cZ [.string cZ] (fun _=>True) rfl (fun _ _=>trivial) (rR aC) bz (lm fY) ?_;intro v544 w101 ho hb hg hat;rw[←cD.1]at ho;replace aA:=am (Kd.S_over' (rS aA) (Kd.R_typed (rR aC)) (by decide) hg);replace aS:=am (Kd.R_over' (rR aS) (Kd.R_typed (rR aC)) (by decide) hg);replace HB:=am (hb);have fZ:=am (ho);clear aC ho hb hg hat))
   go_roundg k1
   case measure=>exact lm lY
   case rel=>exact⟨_,_,fz,H',la lY,⟨rR fZ⟩,⟨rS aA⟩,⟨bz⟩⟩
  refine ib fun iL iM=>i2 ?_;rintro rfl rfl
  obtain⟨gA,gC,rfl⟩:=Kd.R_slice aC.1
  go_wp2_with ((with_reducible refine ga 87 ?_);refine ge func87 (s9.calls gA gC aW (⟨#[124]⟩:ByteArray) iL _ (M8 (Kd.R_reads' aC.1).2.2) ((Kd.R_reads' aC.1).2.1) iM.1) ?_;rintro w104 hb;replace aC:=am (Kd.R_below (rR aC) hb);replace aA:=am (Kd.S_below (rS aA) hb);replace HB:=bS hb;clear hb)
  go_ret2
  exact⟨fe,bz⟩
 refine iE (fun dX dY=>?_) fun c105 dX dY=>?_
 ·refine iw (0<l2.length) fun iO iP=>?_
  refine iw (1<l2.length) fun iQ iR=>?_
  refine ib ?_;rintro⟨dZ,eA⟩ iS
  refine ib ?_;rintro⟨iU,iV⟩ iW
  refine i2 ?_;rintro rfl rfl
  go_in
  try go_wp2
  replace HB:=am (F8 HB.1)
  obtain⟨p547,q547,mE,cE,rfl,aT⟩:=k0 aV.1 od
  have dG:=cl aT
  obtain⟨p548,q548,mF,aU⟩:=k1 aV.1 od
  have dH:=cl aU
  refine sq 14 (fun w'=>w'.cell? cE=some (.int .i64 (rd l2 0))∧w'.cell? ⟨cE.block,cE.off+1,none⟩=some (.int .i64 (rd l2 1))) [] E6.tab37 E6.bits11 ⟨(cz aT),(cz aU)⟩ fun hHeld HT_ HW_=>?_
  generalize w.drew=w110 at HB dG dH hHeld ⊢
  refine rg [0,1,3,4,2,5] ?_
  refine oc 6 func143 (L0.calls k (rd l2 0) (rd l2 1) dZ eA _ iS.1) ?_
  rintro e w111 ⟨v551,rfl,bV,hb⟩
  have bI:=am (Kd.R_lower bV (C5 bz))
  replace HB:=bS hb
  obtain⟨gD,gE,dI⟩:=Kd.R_slice bI.1
  (first|subst dI|(injection dI with bM cM bN;have cN:=bM.symm;have cO:=bN.symm;clear bM cM bN;subst cN;subst cO))
  refine⟨_,rfl,⟨(cz aT),(cz aU)⟩,fun hHeld=>nm 192 ?_⟩
  refine rg [7,8] ?_
  refine AD4 (i:=9) (N:=some 195) (lb 14 1023) rfl rfl (g6 HT_.1 (by kernel_rfl)) (by decide) (fun K hK=>?_)
  refine gs' func130 #[.slice gD dZ.length gE,.bool eA] ?_
  with_reducible refine(U7.calls k _ _ dZ eA iU iV _ ?side1 ?side2 iW.1 lz).mono ?_
  (case side1=>exact M8 (Kd.R_reads' bI.1).2.2)
  (case side2=>exact(Kd.R_reads' bI.1).2.1)
  rintro e w113 ⟨rfl,hb⟩
  refine⟨_,rfl,?_⟩
  replace bI:=am (Kd.R_below (rR bI) hb)
  replace HB:=bS hb
  refine hK.out _ _ ⟨(cz aT),(cz aU)⟩ (fun hHeld=>?_)
  refine nm 195 ?_
  refine rg [10,11,12,13] ?_
  refine dn ?_
  try go_wp2
  go_ret2
  exact⟨fe,bz⟩
 refine iE (fun eB eC=>?_) fun c114 eB eC=>?_
 ·refine iw (0<l2.length) fun iX iY=>?_
  refine ib ?_;rintro⟨gF,gG⟩ iZ
  refine ib ?_;rintro⟨jA,jB⟩ jC
  refine i2 ?_;rintro rfl rfl
  have eD:0≤(0:Int):=(by omega)
  have eE:0< (l2.length:Int):=od
  obtain⟨mG,jD,bT⟩:=Kd.at_int aV.1 0 eD eE
  cases jD
  have mH:(0<l2.length)=True:=eq_true (by omega)
  (try rw[show((0:Int)).toNat=0 from rfl]at bT)
  (try rw[Addr.add_zero']at bT)
  replace eD:=eq_true eD
  replace eE:=eq_true eE
  go_in
  go_wp2_with (first|((with_reducible refine ga 144 ?_);refine gR func144 (C0.calls k (rd l2 0) gF gG _ iZ.1) bz ?_;clear HB;intro v558 w118 bJ HB;obtain⟨gH,gI,rfl⟩:=Kd.R_slice bJ.1)|((with_reducible refine ga 130 ?_);refine ge func130 (U7.calls k gH gI gF gG jA jB _ (M8 (Kd.R_reads' bJ.1).2.2) ((Kd.R_reads' bJ.1).2.1) jC.1 lz) ?_;rintro w120 hb;replace bJ:=am (Kd.R_below (rR bJ) hb);replace HB:=bS hb;clear hb))
  go_ret2
  exact⟨fe,bz⟩
 refine iE (fun eF eG=>?_) fun c121 eF eG=>?_
 ·refine iw (0<l2.length) fun jE jG=>?_
  refine ib ?_;rintro⟨gJ,gK⟩ jH
  refine ib ?_;rintro⟨jI,jJ⟩ jK
  refine i2 ?_;rintro rfl rfl
  have eH:0≤(0:Int):=(by omega)
  have eI:0< (l2.length:Int):=od
  obtain⟨mI,jL,bU⟩:=Kd.at_int aV.1 0 eH eI
  cases jL
  have mJ:(0<l2.length)=True:=eq_true (by omega)
  (try rw[show((0:Int)).toNat=0 from rfl]at bU)
  (try rw[Addr.add_zero']at bU)
  replace eH:=eq_true eH
  replace eI:=eq_true eI
  go_in
  go_wp2_with (first|((with_reducible refine ga 145 ?_);refine gR func145 (AA2.calls k (rd l2 0) gJ gK _ jH.1) bz ?_;clear HB;intro v565 w125 bK HB;obtain⟨gL,gM,rfl⟩:=Kd.R_slice bK.1)|((with_reducible refine ga 130 ?_);refine ge func130 (U7.calls k gL gM gJ gK jI jJ _ (M8 (Kd.R_reads' bK.1).2.2) ((Kd.R_reads' bK.1).2.1) jK.1 lz) ?_;rintro w127 hb;replace bK:=am (Kd.R_below (rR bK) hb);replace HB:=bS hb;clear hb))
  go_ret2
  exact⟨fe,bz⟩
 refine i2 ?_;rintro rfl rfl
 go_in
 go_wp2
 go_ret2
 exact⟨fe,bz⟩
def P4.f (k:Nat)(c:List Int)(b:ByteArray)(a e:List Int):Option (List Int×ByteArray×Bool):=if b.toList=([116,97,107,101]:List UInt8)then((M5.f e).bind fun l=>((F2.f k e).bind fun m=>(some (l,(⟨#[111,107]⟩:ByteArray),m))))else(if b.toList=([110,101,120,116]:List UInt8)then((L8.f k c).bind fun f=>(some (f.1,(⟨#[111,107]⟩:ByteArray),f.2)))else(if b.toList=([116,114,111,116]:List UInt8)then((Q5.f k c).bind fun d=>((S1.f d.2.1).bind fun n=>(some (d.1,n,d.2.2))))else(if b.toList=([115,119,97,112]:List UInt8)then(if 0< (a.length:Int)then(if 1< (a.length:Int)then((V8.f k c 0 (rd a 0) (rd a 1)).bind fun g=>(some (g.1,(⟨#[111,107]⟩:ByteArray),g.2)))else(none))else(none))else(if b.toList=([114,101,118,101,114,115,101]:List UInt8)then(if 0< (a.length:Int)then((V8.f k c 1 (rd a 0) 0).bind fun h=>(some (h.1,(⟨#[111,107]⟩:ByteArray),h.2)))else(none))else(if b.toList=([114,111,116,97,116,101]:List UInt8)then(if 0< (a.length:Int)then((V8.f k c 2 (rd a 0) 0).bind fun i=>(some (i.1,(⟨#[111,107]⟩:ByteArray),i.2)))else(none))else((E6.f k c b a e).bind fun j=>((M5.f c).bind fun o=>(some (o,j.1,j.2)))))))))
def P4.T13:Bool×List (List Nat×List Nat):=(true,[([],[]),([],[]),([1],[1]),([2],[2]),([],[]),([4],[4]),([5],[5]),([3,6],[3,6]),([0,7],[0,7]),([8],[8]),([9],[9]),([9],[9]),([10,8,0,1,2,3,4,5,6,7,8,9,10],[10]),([11,12,0,1,2,3,4,5,6,7,8,9,10,11,12],[11])])
def P4.B13:List Nat:=[0,0,2,6,0,16,48,126,255,511,1023,1023,2047,8191]
theorem P4.tab13:AA0 .any (AC6 f77 13)=P4.T13:=by kernel_rfl
theorem P4.bits13:l6 P4.T13.2 P4.B13=true:=by kernel_rfl
theorem P4.calls (k A0 c0 l0 a1 A2 c2 l2 A3 c3 l3 r1 r2 r3 w):Kd.C KI w A0 l0.length l0→l0.length≤c0→Kd.C KI w A2 l2.length l2→l2.length≤c2→Kd.C KI w A3 l3.length l3→l3.length≤c3→P4.f k l0 a1 l2 l3=some (r1,r2,r3)→Go.Proofs.YtpiogigidgejpaaGreatDoor.Laid.T w→
 Calls prog 77 #[.slice A0 l0.length c0,.string a1,.slice A2 l2.length c2,.slice A3 l3.length c3] w fun e w'=>∃v0_:Value,e=.returned (.tuple #[v0_,.string r2,.bool r3])∧Kd.R KI 3 w' w.heap.size (fun _=>True) v0_ r1∧Below w.heap.size w w':=by
 have cE:=underlying103
 have HB:=bR w
 refine pa fun aJ aK=>pa fun aP HC2=>pa fun bG bH=>?_
 intro H
 refine pc fun HL_=>?_
 unfold P4.f at H
 revert H
 refine iE (fun bI bJ=>?_) fun c5 bI bJ=>?_
 ·refine ib fun bK A6=>ib fun bL A7=>i3 ?_;rintro rfl rfl rfl
  go_in
  go_wp2_with (first|((with_reducible refine ga 76 ?_);refine gR func76 (M5.calls A3 c3 l3 bK _ (M8 bG.1) bH.1 A6.1) bz ?_;clear HB;intro v570 w8 aE HB)|((with_reducible refine ga 42 ?_);refine ge func42 (F2.calls k A3 c3 l3 bL _ (M8 (Kd.C_below bG.1 HB.1)) bH.1 A7.1) ?_;rintro w9 hb;replace aE:=am (Kd.R_below (rR aE) hb);replace HB:=bS hb;clear hb))
  go_ret3
  exact⟨_,fe,rR aE,bz⟩
 refine iE (fun aQ aR=>?_) fun c10 aQ aR=>?_
 ·refine ib ?_;rintro⟨bM,bN⟩ A11
  refine i3 ?_;rintro rfl rfl rfl
  go_in
  go_wp2_with ((with_reducible refine ga 101 ?_);refine gR func101 (L8.calls k A0 c0 l0 bM bN _ (M8 aJ.1) aK.1 A11.1) bz ?_;clear HB;intro v575 w12 aS HB)
  go_ret3
  exact⟨_,fe,rR aS,bz⟩
 refine iE (fun aT aU=>?_) fun c13 aT aU=>?_
 ·refine ib ?_;rintro⟨bO,aV,bP⟩ A14
  refine ib fun bQ A15=>i3 ?_;rintro rfl rfl rfl
  go_in
  go_wp2_with (first|((with_reducible refine ga 19 ?_);refine gR func19 (Q5.calls k A0 c0 l0 bO aV bP _ (M8 aJ.1) aK.1 A14.1) bz ?_;clear HB;intro v580 w16 aF HB)|((with_reducible refine ga 86 ?_);refine ge func86 (S1.calls aV bQ _ A15.1 lz) ?_;rintro w17 hb;replace aF:=am (Kd.R_below (rR aF) hb);replace HB:=bS hb;clear hb))
  go_ret3
  exact⟨_,fe,rR aF,bz⟩
 refine iE (fun aW aX=>?_) fun c18 aW aX=>?_
 ·refine iw (0<l2.length) fun cF cG=>?_
  refine iw (1<l2.length) fun cH cI=>?_
  refine ib ?_;rintro⟨bT,bU⟩ A21
  refine i3 ?_;rintro rfl rfl rfl
  go_in
  try go_wp2
  replace HB:=am (F8 HB.1)
  obtain⟨p583,q583,cJ,aG,rfl,aA⟩:=k0 aP.1 od
  have aH:=cl aA
  obtain⟨p584,q584,cK,aB⟩:=k1 aP.1 od
  have aI:=cl aB
  refine sq 14 (fun w'=>w'.cell? aG=some (.int .i64 (rd l2 0))∧w'.cell? ⟨aG.block,aG.off+1,none⟩=some (.int .i64 (rd l2 1))) [] P4.tab13 P4.bits13 ⟨(cz aA),(cz aB)⟩ fun hHeld HT_ HW_=>?_
  generalize w.drew=w22 at HB aH aI hHeld ⊢
  refine rg [0,1,2,4,5,3,6,7] ?_
  refine AD4 (i:=8) (N:=some 67) (lb 14 511) rfl rfl (g6 HT_.1 (by kernel_rfl)) (by decide) (fun K hK=>?_)
  refine gs' func102 #[.slice A0 l0.length c0,.agg #[.int .i64 0,.int .i64 (rd l2 0),.int .i64 (rd l2 1)]] ?_
  with_reducible refine(V8.calls k _ _ l0 0 (rd l2 0) (rd l2 1) bT bU _ ?side1 ?side2 A21.1).mono ?_
  (case side1=>exact M8 (Kd.C_below aJ.1 HB.1))
  (case side2=>exact aK.1)
  rintro e w23 ⟨v586,rfl,ho0,hb⟩
  refine⟨_,rfl,?_⟩
  have aY:=am (Kd.R_lower ho0 (C5 bz))
  replace HB:=bS hb
  refine hK.out _ _ ⟨(cz aA),(cz aB)⟩ (fun hHeld=>?_)
  refine nm 67 ?_
  refine rg [9,10,11,12,13] ?_
  refine dn ?_
  try go_wp2
  go_ret3
  exact⟨_,fe,rR aY,bz⟩
 refine iE (fun aZ bA=>?_) fun c24 aZ bA=>?_
 ·refine iw (0<l2.length) fun cL cM=>?_
  refine ib ?_;rintro⟨bV,bW⟩ A26
  refine i3 ?_;rintro rfl rfl rfl
  have aL:0≤(0:Int):=(by omega)
  have aM:0< (l2.length:Int):=od
  obtain⟨cN,bX,aC⟩:=Kd.at_int aP.1 0 aL aM
  cases bX
  have cO:(0<l2.length)=True:=eq_true (by omega)
  (try rw[show((0:Int)).toNat=0 from rfl]at aC)
  (try rw[Addr.add_zero']at aC)
  replace aL:=eq_true aL
  replace aM:=eq_true aM
  go_in
  go_wp2_with ((with_reducible refine ga 102 ?_);refine gR func102 (V8.calls k A0 c0 l0 1 (rd l2 0) 0 bV bW _ (M8 aJ.1) aK.1 A26.1) bz ?_;clear HB;intro v591 w27 bB HB)
  go_ret3
  exact⟨_,fe,rR bB,bz⟩
 refine iE (fun bC bD=>?_) fun c28 bC bD=>?_
 ·refine iw (0<l2.length) fun cP cQ=>?_
  refine ib ?_;rintro⟨bY,bZ⟩ A30
  refine i3 ?_;rintro rfl rfl rfl
  have aN:0≤(0:Int):=(by omega)
  have aO:0< (l2.length:Int):=od
  obtain⟨cR,cA,aD⟩:=Kd.at_int aP.1 0 aN aO
  cases cA
  have cS:(0<l2.length)=True:=eq_true (by omega)
  (try rw[show((0:Int)).toNat=0 from rfl]at aD)
  (try rw[Addr.add_zero']at aD)
  replace aN:=eq_true aN
  replace aO:=eq_true aO
  go_in
  go_wp2_with ((with_reducible refine ga 102 ?_);refine gR func102 (V8.calls k A0 c0 l0 2 (rd l2 0) 0 bY bZ _ (M8 aJ.1) aK.1 A30.1) bz ?_;clear HB;intro v596 w31 bE HB)
  go_ret3
  exact⟨_,fe,rR bE,bz⟩
 refine ib ?_;rintro⟨cB,cC⟩ A32
 refine ib fun cD A33=>i3 ?_;rintro rfl rfl rfl
 go_in
 go_wp2_with (first|((with_reducible refine ga 103 ?_);refine gB func103 (E6.calls k A0 c0 l0 a1 A2 c2 l2 A3 c3 l3 cB cC _ (M8 aJ.1) aK.1 (M8 aP.1) HC2.1 (M8 bG.1) bH.1 A32.1 lz) bz ?_;clear HB;intro w34 HB)|((with_reducible refine ga 76 ?_);refine gR func76 (M5.calls A0 c0 l0 cD _ (M8 (Kd.C_below aJ.1 HB.1)) aK.1 A33.1) bz ?_;clear HB;intro v602 w35 bF HB))
 go_ret3
 exact⟨_,fe,rR bF,bz⟩
def G3.f (a b c:Int):Option (Bool):=if a≥b then(some (decide (a≤c)))else(some false)
theorem G3.calls (a0 a1 a2 r w):G3.f a0 a1 a2=some r→
 Calls prog 78 #[.int .i64 a0,.int .i64 a1,.int .i64 a2] w (pD w (.bool r)):=by
 unfold G3.f
 refine iD (fun aA=>?_) fun aA=>?_
 ·refine i1 ?_;rintro rfl
  go_in
  go_wp2
  go_ret
  exact⟨fz,dz⟩
 refine i1 ?_;rintro rfl
 go_in
 go_wp2
 go_ret
 exact⟨fz,dz⟩
def J1.l0:Nat→Int→List Int→Int→Int→Option (Bool)
 |0,_,_,_,_=>none
 |k+1,c,b,d,a=>if a<d then(if 0≤a then(if a< (b.length:Int)then(if(rd b a)=c then(some true)else(J1.l0 k c b d (wrap64 (a+1))))else(none))else(none))else(some false)
def J1.f (k:Nat)(a:List Int)(b:Int):Option (Bool):=J1.l0 k b a (a.length:Int) 0
theorem J1.mono_l:∀k,(∀y0 y1 y2 y3,S6 (J1.l0 k y0 y1 y2 y3) (J1.l0 (k+1) y0 y1 y2 y3))
 |0=>fun _ _ _ _ r h=>by simp[J1.l0]at h
 |k+1=>by
  have ih0:=J1.mono_l k
  ·intro y0 y1 y2 y3
   unfold J1.l0
   exact mo
theorem J1.mono:∀a0 a1 k,S6 (J1.f k a0 a1) (J1.f (k+1) a0 a1):=by
 intro a0 a1 k
 have ih0:=J1.mono_l k
 unfold J1.f
 exact mo
theorem J1.calls (k A0 c0 l0 a1 r w):Kd.C KI w A0 l0.length l0→l0.length≤c0→J1.f k l0 a1=some r→
 Calls prog 79 #[.slice A0 l0.length c0,.int .i64 a1] w (pD w (.bool r)):=by
 refine pa fun aH HC0=>?_
 unfold J1.f
 refine ia fun H'=>?_
 go_in
 go_wp2
 go_loopg [9] k (fun kq v9 w'=>∃ (aA:Int),v9=.int .i64 aA∧Aside0 (J1.l0 kq a1 l0 (l0.length:Int) aA=some r)∧Aside0 (kq≤k)∧Drawn0 w w')
 case atStart=>exact⟨_,fz,H',lr,dz⟩
 case round =>
 obtain⟨aA,rfl,⟨H⟩,aI,⟨m1,rfl⟩⟩:=hrel
 cases gk with
 |zero=>cases H
 |succ k1 =>
 simp only[J1.l0]at H
 revert H
 refine iD ?_ ?_<;>intro c3b0
 ·refine U9 fun c4b0=>U9 fun c5b0=>iE (fun aD aE=>?_) fun c6 aD aE=>?_
  ·refine i1 ?_;rintro rfl
   obtain⟨aF,aG,aC,rfl,aB⟩:=ai aH.1 aA
   go_wp2
   go_ret
   exact⟨fz,dz⟩
  refine ia fun H'=>?_
  obtain⟨aF,aG,aC,rfl,aB⟩:=ai aH.1 aA
  go_wp2
  go_roundg k1
  case measure=>exact lm aI
  case rel=>exact⟨_,fz,H',la aI,dz⟩
 refine i1 ?_;rintro rfl
 go_wp2
 go_ret
 exact⟨fz,dz⟩
def E0.l0:Nat→List Int→List Int→Int→Int→Option (Bool)
 |0,_,_,_,_=>none
 |k+1,b,c,d,a=>if a<d then(if 0≤a then(if a< (c.length:Int)then(if a≥12 then(some false)else((G3.f (rd c a) 0 (wrap64 ((b.length:Int) - 1))).bind fun e=>(if e=true then(if a≤(b.length:Int)then((J1.f k (b.take (a:Int).toNat) (rd c a)).bind fun f=>(if f=true then(some false)else(E0.l0 k b c d (wrap64 (a+1)))))else(none))else(some false))))else(none))else(none))else(some true)
def E0.f (k:Nat)(a:List Int):Option (Bool):=E0.l0 k a a (a.length:Int) 0
theorem E0.mono_l:∀k,(∀y0 y1 y2 y3,S6 (E0.l0 k y0 y1 y2 y3) (E0.l0 (k+1) y0 y1 y2 y3))
 |0=>fun _ _ _ _ r h=>by simp[E0.l0]at h
 |k+1=>by
  have ih0:=E0.mono_l k
  ·intro y0 y1 y2 y3
   unfold E0.l0
   have e0:=J1.mono;exact mo
theorem E0.mono:∀a0 k,S6 (E0.f k a0) (E0.f (k+1) a0):=by
 intro a0 k
 have ih0:=E0.mono_l k
 unfold E0.f
 have e0:=J1.mono;exact mo
theorem E0.calls (k A0 c0 l0 r w):Kd.C KI w A0 l0.length l0→l0.length≤c0→E0.f k l0=some r→
 Calls prog 45 #[.slice A0 l0.length c0] w (pD w (.bool r)):=by
 refine pa fun aL aT=>?_
 unfold E0.f
 refine ia fun H'=>?_
 go_in
 go_wp2
 go_loopg [7] k (fun kq v7 w'=>∃ (aA:Int),v7=.int .i64 aA∧Aside0 (E0.l0 kq l0 l0 (l0.length:Int) aA=some r)∧Aside0 (kq≤k)∧Drawn0 w w')
 case atStart=>exact⟨_,fz,H',lr,dz⟩
 case round =>
 obtain⟨aA,rfl,⟨H⟩,aU,⟨m1,rfl⟩⟩:=hrel
 cases gk with
 |zero=>cases H
 |succ k1 =>
 simp only[E0.l0]at H
 revert H
 refine iD ?_ ?_<;>intro c2b0
 ·refine U9 fun c3b0=>U9 fun c4b0=>io ?_ ?_<;>intro c5
  ·have aQ:decide (12≤aA)=true:=(decide_eq_true c5)
   refine i1 ?_;rintro rfl
   obtain⟨aJ,aK,aB,rfl,aC⟩:=ai aL.1 aA
   go_wp2
   go_ret
   exact⟨fz,dz⟩
  have aQ:decide (12≤aA)=false:=(decide_eq_false c5)
  refine ib fun t612 A6=>iB ?_ ?_<;>rintro rfl
  ·have c8b0:=eq_true (od:0≤aA)
   refine if' fun c9b0 c9b1=>ib fun t614 aV=>iB ?_ ?_<;>rintro rfl
   ·refine i1 ?_;rintro rfl
    obtain⟨aJ,aK,aB,rfl,aC⟩:=ai aL.1 aA
    go_wp2_with (first|(go_at_call 78;(with_reducible refine qp (G3.calls (rd l0 aA) 0 (wrap64 ((l0.length:Int) - 1)) true _ A6.1) fun nd=>?_);obtain⟨i012,aF,_,aG,_⟩:=info_parts J9;obtain⟨aR,aM,aN⟩:=AA6 (P:=prog) (Value.int .i64) 0 22 3 .i64 underlying22 aF aG (some aB) c0 l0 aA (od) (od) aT.1;have aD:=am (Kd.C_of_reads (h1:=fun _=>rfl) (aM _ (Kd.reads_of_C aL.1)));have aE:=am aN;clear aM aN aF aG)|(go_at_call 79;refine AE2 (args':=#[.slice (some aB) (l0.take (aA:Int).toNat).length c0,.int .i64 (rd l0 aA)]) (by first|(rw[show(l0.take (aA:Int).toNat).length=aA.toNat from(by rw[List.length_take];have h_:(aA:Int)≤(l0.length:Int):=od;omega)]<;>rfl)|rfl) ?_;(with_reducible refine(J1.calls k1 _ _ (l0.take (aA:Int).toNat) (rd l0 aA) true _ ?side1 ?side2 aV.1).mono ?_);(case side1=>exact M8 aD.1);(case side2=>exact aE.1);rintro e w' ⟨rfl,⟨nd,rfl⟩⟩))
    have hl12:(l0.take (aA:Int).toNat).length=(aA:Int).toNat:=by rw[List.length_take];have h_:aA≤(l0.length:Int):=od;omega
    go_ret
    exact⟨fz,dz⟩
   refine ia fun H'=>?_
   obtain⟨aJ,aK,aB,rfl,aC⟩:=ai aL.1 aA
   go_wp2_with (first|(go_at_call 78;(with_reducible refine qp (G3.calls (rd l0 aA) 0 (wrap64 ((l0.length:Int) - 1)) true _ A6.1) fun nd=>?_);obtain⟨i013,aH,_,aI,_⟩:=info_parts J9;obtain⟨aS,aO,aP⟩:=AA6 (P:=prog) (Value.int .i64) 0 22 3 .i64 underlying22 aH aI (some aB) c0 l0 aA (od) (od) aT.1;have aD:=am (Kd.C_of_reads (h1:=fun _=>rfl) (aO _ (Kd.reads_of_C aL.1)));have aE:=am aP;clear aO aP aH aI)|(go_at_call 79;refine AE2 (args':=#[.slice (some aB) (l0.take (aA:Int).toNat).length c0,.int .i64 (rd l0 aA)]) (by first|(rw[show(l0.take (aA:Int).toNat).length=aA.toNat from(by rw[List.length_take];have h_:(aA:Int)≤(l0.length:Int):=od;omega)]<;>rfl)|rfl) ?_;(with_reducible refine(J1.calls k1 _ _ (l0.take (aA:Int).toNat) (rd l0 aA) false _ ?side1 ?side2 aV.1).mono ?_);(case side1=>exact M8 aD.1);(case side2=>exact aE.1);rintro e w' ⟨rfl,⟨nd,rfl⟩⟩))
   have hl13:(l0.take (aA:Int).toNat).length=(aA:Int).toNat:=by rw[List.length_take];have h_:aA≤(l0.length:Int):=od;omega
   go_roundg k1
   case measure=>exact lm aU
   case rel=>exact⟨_,fz,H',la aU,dz⟩
  refine i1 ?_;rintro rfl
  obtain⟨aJ,aK,aB,rfl,aC⟩:=ai aL.1 aA
  go_wp2_with (go_at_call 78;(with_reducible refine qp (G3.calls (rd l0 aA) 0 (wrap64 ((l0.length:Int) - 1)) false _ A6.1) fun nd=>?_))
  go_ret
  exact⟨fz,dz⟩
 refine i1 ?_;rintro rfl
 go_wp2
 go_ret
 exact⟨fz,dz⟩
def Q9.l0:Nat→ByteArray→Int→List ByteArray→Int→Int→Option (List ByteArray)
 |0,_,_,_,_,_=>none
 |k+1,a,e,d,c,b=>if b< (a.size:Int)then(if 0≤b then(if(bt a b)=e then(if 0≤c then(if c≤b then(if b≤(a.size:Int)then(if d.length<8796093022208 then(Q9.l0 k a e (d++ [a.extract (c:Int).toNat (b:Int).toNat]) (wrap64 (b+1)) (wrap64 (b+1)))else(none))else(none))else(none))else(none))else(Q9.l0 k a e d c (wrap64 (b+1))))else(none))else(if 0≤c then(if c≤(a.size:Int)then(if d.length<8796093022208 then(some (d++ [a.extract (c:Int).toNat a.size]))else(none))else(none))else(none))
def Q9.f (k:Nat)(a:ByteArray)(b:Int):Option (List ByteArray):=Q9.l0 k a b ([]:List ByteArray) 0 0
theorem Q9.calls (k a0 a1 r w):Q9.f k a0 a1=some r→
 Calls prog 46 #[.string a0,.int .u8 a1] w (pR w Kd.string 9 r):=by
 have HB:=bR w
 unfold Q9.f
 refine ia fun H'=>?_
 go_in
 go_wp2
 go_loopg [5,6,7] k (fun kq v5 v6 v7 w'=>∃ (aC:List ByteArray) (aB aA:Int),v6=.int .i64 aB∧v7=.int .i64 aA∧Aside0 (Q9.l0 kq a0 a1 aC aB aA=some r)∧Aside0 (kq≤k)∧Aside0 (Kd.R Kd.string 9 w' w.heap.size (fun _=>True) v5 aC)∧Aside0 (Below w.heap.size w w'))
 case atStart=>exact⟨_,_,_,fz,fz,H',lr,⟨nz⟩,⟨bz⟩⟩
 case round =>
 obtain⟨aC,aB,aA,rfl,rfl,⟨H⟩,aK,aD,HB⟩:=hrel
 cases gk with
 |zero=>cases H
 |succ k1 =>
 simp only[Q9.l0]at H
 revert H
 refine iD ?_ ?_<;>intro c3b0
 ·refine U9 fun c4b0=>iE (fun aL aM=>?_) fun c6 aL aM=>?_
  ·refine if' fun c7b0 c7b1=>if' fun c8b0 c8b1=>if' fun c9b0 c9b1=>il fun aG=>?_
   generalize aE:(aC++ [a0.extract (aB:Int).toNat (aA:Int).toNat])=y615
   replace aE:=am aE.symm
   refine ia fun H'=>?_
   have p5:0≤(aA:Int):=od
   have q5:aA< (a0.size:Int):=od
   have hx5:=AP6 a0 aA
   replace p5:=eq_true p5
   replace q5:=eq_true q5
   go_wp2_with ((with_reducible refine gb 19 24 ?_);at_builtin;refine ra Kd.string underlying40 Ar6 u5 aC (a0.extract (aB:Int).toNat (aA:Int).toNat) [.string (a0.extract (aB:Int).toNat (aA:Int).toNat)] (fun _=>True) rfl (fun _ _=>trivial) (rR aD) bz (lm aG) ?_;intro v616 w11 ho hb hg hat;rw[←aE.1]at ho;replace HB:=am (hb);have aH:=am (ho);clear aD ho hb hg hat)
   go_roundg k1
   case measure=>exact lm aK
   case rel=>exact⟨_,_,_,fz,fz,H',la aK,⟨rR aH⟩,⟨bz⟩⟩
  refine ia fun H'=>?_
  have p5:0≤(aA:Int):=od
  have q5:aA< (a0.size:Int):=od
  have hx5:=AP6 a0 aA
  replace p5:=eq_true p5
  replace q5:=eq_true q5
  go_wp2
  go_roundg k1
  case measure=>exact lm aK
  case rel=>exact⟨_,_,_,fz,fz,H',la aK,⟨rR aD⟩,⟨bz⟩⟩
 refine if' fun aN aO=>if' fun aP aQ=>il fun aI=>?_
 generalize aF:(aC++ [a0.extract (aB:Int).toNat a0.size])=y618
 replace aF:=am aF.symm
 refine i1 ?_;rintro rfl
 go_wp2_with ((with_reducible refine gb 28 32 ?_);at_builtin;refine ra Kd.string underlying40 Ar6 u5 aC (a0.extract (aB:Int).toNat a0.size) [.string (a0.extract (aB:Int).toNat a0.size)] (fun _=>True) rfl (fun _ _=>trivial) (rR aD) bz (lm aI) ?_;intro v619 w15 ho hb hg hat;rw[←aF.1]at ho;replace HB:=am (hb);have aJ:=am (ho);clear aD ho hb hg hat)
 go_ret
 exact⟨_,fe,rR aJ,bz⟩
def U6.l0:Nat→Int→Int→List Int→Int→Int→Option (Bool)
 |0,_,_,_,_,_=>none
 |k+1,c,e,b,d,a=>if a<d then(if 0≤a then(if a< (b.length:Int)then((G3.f (rd b a) c e).bind fun f=>(if f=true then(U6.l0 k c e b d (wrap64 (a+1)))else(some false)))else(none))else(none))else(some true)
def U6.f (k:Nat)(a:List Int)(b c:Int):Option (Bool):=U6.l0 k b c a (a.length:Int) 0
theorem U6.calls (k A0 c0 l0 a1 a2 r w):Kd.C KI w A0 l0.length l0→l0.length≤c0→U6.f k l0 a1 a2=some r→
 Calls prog 89 #[.slice A0 l0.length c0,.int .i64 a1,.int .i64 a2] w (pD w (.bool r)):=by
 refine pa fun aF HC0=>?_
 unfold U6.f
 refine ia fun H'=>?_
 go_in
 go_wp2
 go_loopg [11] k (fun kq v11 w'=>∃ (aA:Int),v11=.int .i64 aA∧Aside0 (U6.l0 kq a1 a2 l0 (l0.length:Int) aA=some r)∧Aside0 (kq≤k)∧Drawn0 w w')
 case atStart=>exact⟨_,fz,H',lr,dz⟩
 case round =>
 obtain⟨aA,rfl,⟨H⟩,aG,⟨m1,rfl⟩⟩:=hrel
 cases gk with
 |zero=>cases H
 |succ k1 =>
 simp only[U6.l0]at H
 revert H
 refine iD ?_ ?_<;>intro c4b0
 ·refine U9 fun c5b0=>U9 fun c6b0=>ib fun t622 A7=>iB ?_ ?_<;>rintro rfl
  ·refine ia fun H'=>?_
   obtain⟨aD,aE,aC,rfl,aB⟩:=ai aF.1 aA
   go_wp2_with ((with_reducible refine ga 78 ?_);refine gp func78 (G3.calls (rd l0 aA) a1 a2 true _ A7.1) fun nd=>?_)
   go_roundg k1
   case measure=>exact lm aG
   case rel=>exact⟨_,fz,H',la aG,dz⟩
  refine i1 ?_;rintro rfl
  obtain⟨aD,aE,aC,rfl,aB⟩:=ai aF.1 aA
  go_wp2_with ((with_reducible refine ga 78 ?_);refine gp func78 (G3.calls (rd l0 aA) a1 a2 false _ A7.1) fun nd=>?_)
  go_ret
  exact⟨fz,dz⟩
 refine i1 ?_;rintro rfl
 go_wp2
 go_ret
 exact⟨fz,dz⟩
def AC7.f (k:Nat)(a:List Int):Option (Bool):=if(a.length:Int)≤1100 then((U6.f k a 0 999999).bind fun b=>(some b))else(some false)
theorem AC7.calls (k A0 c0 l0 r w):Kd.C KI w A0 l0.length l0→l0.length≤c0→AC7.f k l0=some r→
 Calls prog 55 #[.slice A0 l0.length c0] w (pD w (.bool r)):=by
 refine pa fun HR0 HC0=>?_
 unfold AC7.f
 refine io ?_ ?_<;>intro c2
 ·have aA:=decide_eq_true c2
  have aB:decide (l0.length≤1100)=true:=decide_eq_true (by omega)
  refine ib fun aC A3=>i1 ?_;rintro rfl
  go_in
  go_wp2_with (go_at_call 89;(with_reducible refine qp (U6.calls k _ _ l0 0 999999 aC _ (M8 HR0.1) HC0.1 A3.1) fun nd=>?_))
  go_ret
  exact⟨fz,dz⟩
 have aA:=decide_eq_false c2
 have aB:decide (l0.length≤1100)=false:=decide_eq_false (by omega)
 refine i1 ?_;rintro rfl
 go_in
 go_wp2
 go_ret
 exact⟨fz,dz⟩
mutual
def O2.j0:Nat→ByteArray→Bool→Option (Int)
 |0,_,_=>none
 |k+1,a,b=>if b=true then(some (-1))else(O2.l0 k a 0 0)
def O2.l0:Nat→ByteArray→Int→Int→Option (Int)
 |0,_,_,_=>none
 |k+1,b,c,a=>if a< (b.size:Int)then(if 0≤a then(if(bt b a)<48 then(some (-1))else(if(bt b a)>57 then(some (-1))else(O2.l0 k b (wrap64 ((wrap64 (10*c))+ (((bt b a) - 48) % 256))) (wrap64 (a+1)))))else(none))else(some c)
end
def O2.f (k:Nat)(a:ByteArray):Option (Int):=(G3.f (a.size:Int) 1 6).bind fun b=>(if b=true then(if 0< (a.size:Int)then(if(bt a 0)=48 then(O2.j0 k a (decide ((a.size:Int)>1)))else(O2.j0 k a false))else(none))else(O2.j0 k a true))
theorem O2.calls (k a0 r w):O2.f k a0=some r→
 Calls prog 92 #[.string a0] w (pD w (.int .i64 r)):=by
 unfold O2.f
 refine ia fun HC2=>?_
 go_in
 go_upto_region 1 with(fail)
 go_cut [18] (fun v18 wc=>∃ (kq:Nat) (aB:Bool),v18=.bool aB∧Aside0 (O2.j0 kq a0 aB=some r)∧Aside0 (kq≤k)∧Drawn0 w wc)
 case first =>
  have H:=HC2.1
  revert H
  refine ib fun t624 A3=>iB ?_ ?_<;>rintro rfl
  ·refine iw (0<a0.size) fun aF c5b1=>?_
   (first|rw[aF]|(simp only[P9,i6];rw[aF])|skip)
   refine iE (fun aK aL=>?_) fun c7 aK aL=>?_
   ·refine ia fun H'=>?_
    go_wp2_with ((with_reducible refine ga 78 ?_);refine gp func78 (G3.calls (a0.size:Int) 1 6 true _ A3.1) fun nd=>?_;have p6:0≤(0:Int):=(by omega);have q6:0<a0.size:=(by have:(0:Int)< (a0.size:Int):=od;omega);have hx6:∀h:0<a0.size,((a0[0]'h).toNat:Int)=bt a0 0:=AP6 a0 0;clear p6;have qi6:(0< (a0.size:Int))=True:=eq_true (od);replace q6:=eq_true q6)
    go_meet
    case rel=>exact⟨_,(decide ((a0.size:Int)>1)),fz,H',lo,dz⟩
   refine ia fun H'=>?_
   go_wp2_with ((with_reducible refine ga 78 ?_);refine gp func78 (G3.calls (a0.size:Int) 1 6 true _ A3.1) fun nd=>?_;have p6:0≤(0:Int):=(by omega);have q6:0<a0.size:=(by have:(0:Int)< (a0.size:Int):=od;omega);have hx6:∀h:0<a0.size,((a0[0]'h).toNat:Int)=bt a0 0:=AP6 a0 0;clear p6;have qi6:(0< (a0.size:Int))=True:=eq_true (od);replace q6:=eq_true q6)
   go_meet
   case rel=>exact⟨_,(false),fz,H',lo,dz⟩
  refine ia fun H'=>?_
  go_wp2_with ((with_reducible refine ga 78 ?_);refine gp func78 (G3.calls (a0.size:Int) 1 6 false _ A3.1) fun nd=>?_)
  go_meet
  case rel=>exact⟨_,(true),fz,H',lo,dz⟩
 case rest =>
 obtain⟨kq,aB,rfl,⟨H⟩,aN,⟨mc1,rfl⟩⟩:=hcut
 cases kq with
 |zero=>cases H
 |succ aO =>
 simp only[O2.j0]at H
 revert H
 refine iB ?_ ?_<;>rintro rfl
 ·refine i1 ?_;rintro rfl
  go_wp2
  go_ret
  exact⟨fz,dz⟩
 refine ia fun H'=>?_
 go_wp2
 go_loopg [3,4] aO (fun kq v3 v4 w'=>∃ (aE aA:Int),v3=.int .i64 aE∧v4=.int .i64 aA∧Aside0 (O2.l0 kq a0 aE aA=some r)∧Aside0 (kq≤aO)∧Drawn0 w w')
 case atStart=>exact⟨_,_,fz,fz,H',lr,dz⟩
 case round =>
 obtain⟨aE,aA,rfl,rfl,⟨H⟩,aP,⟨m2,rfl⟩⟩:=hrel
 cases gk with
 |zero=>cases H
 |succ k2 =>
 simp only[O2.l0]at H
 revert H
 refine iD ?_ ?_<;>intro c9b0
 ·refine U9 fun aQ=>iD ?_ ?_<;>intro aR
  ·refine i1 ?_;rintro rfl
   have aC:0≤(aA:Int):=od
   have aD:aA< (a0.size:Int):=od
   have aG:=AP6 a0 aA
   replace aC:=eq_true aC
   replace aD:=eq_true aD
   go_wp2
   go_ret
   exact⟨fz,dz⟩
  refine iD (fun aH=>?_) fun aH=>?_
  ·refine i1 ?_;rintro rfl
   have aC:0≤(aA:Int):=od
   have aD:aA< (a0.size:Int):=od
   have aG:=AP6 a0 aA
   replace aC:=eq_true aC
   replace aD:=eq_true aD
   have aI:0≤(aA:Int):=od
   have aJ:aA< (a0.size:Int):=od
   have aM:=AP6 a0 aA
   replace aI:=eq_true aI
   replace aJ:=eq_true aJ
   go_wp2
   go_ret
   exact⟨fz,dz⟩
  refine ia fun H'=>?_
  have aC:0≤(aA:Int):=od
  have aD:aA< (a0.size:Int):=od
  have aG:=AP6 a0 aA
  replace aC:=eq_true aC
  replace aD:=eq_true aD
  have aI:0≤(aA:Int):=od
  have aJ:aA< (a0.size:Int):=od
  have aM:=AP6 a0 aA
  replace aI:=eq_true aI
  replace aJ:=eq_true aJ
  have aS:0≤(aA:Int):=od
  have aT:aA< (a0.size:Int):=od
  have hx15:=AP6 a0 aA
  replace aS:=eq_true aS
  replace aT:=eq_true aT
  go_wp2
  go_roundg k2
  case measure=>exact lu aN aP
  case rel=>exact⟨_,_,fz,fz,H',lv aN aP,dz⟩
 refine i1 ?_;rintro rfl
 go_wp2
 go_ret
 exact⟨fz,dz⟩
def V5.l0:Nat→List Int→List ByteArray→Int→Int→Option (List Int×Bool)
 |0,_,_,_,_=>none
 |k+1,b,c,e,a=>if a<e then(if 0≤a then(if a< (c.length:Int)then((O2.f k (o9 ByteArray.empty c a)).bind fun d=>(if d<0 then(some (([]:List Int),false))else(if b.length<17592186044416 then(V5.l0 k (b++ [d]) c e (wrap64 (a+1)))else(none))))else(none))else(none))else((AC7.f k b).bind fun f=>(some (b,f)))
def V5.f (k:Nat)(a:ByteArray):Option (List Int×Bool):=if a.toList=([45]:List UInt8)then(some (([]:List Int),true))else((Q9.f k a 44).bind fun b=>(V5.l0 k ([]:List Int) b (b.length:Int) 0))
theorem V5.calls (k a0 r1 r2 w):V5.f k a0=some (r1,r2)→
 Calls prog 60 #[.string a0] w (pT w KI 3 r1 r2):=by
 have HB:=bR w
 unfold V5.f
 refine iE (fun aP aQ=>?_) fun c2 aP aQ=>?_
 ·refine i2 ?_;rintro rfl rfl
  go_in
  go_wp2
  go_ret2
  exact⟨_,fe,nz,bz⟩
 refine ib fun aB A3=>ia fun H'=>?_
 go_in
 go_wp2_with ((with_reducible refine ga 46 ?_);refine gR func46 (Q9.calls k a0 44 aB _ A3.1) bz ?_;clear HB;intro v626 w4 aK HB;obtain⟨Ao5,co5,rfl⟩:=Kd.R_slice aK.1)
 go_loopg [4,13] k (fun kq v4 v13 w'=>∃ (aG:List Int) (aA:Int),v13=.int .i64 aA∧Aside0 (V5.l0 kq aG aB (aB.length:Int) aA=some (r1,r2))∧Aside0 (kq≤k)∧Aside0 (Kd.R KI 3 w' w.heap.size (fun _=>True) v4 aG)∧Aside0 (Kd.R Kd.string 9 w' w.heap.size (fun _=>True) (.slice Ao5 aB.length co5) aB)∧Aside0 (Below w.heap.size w w'))
 case atStart=>exact⟨_,_,fz,H',lr,⟨nz⟩,⟨rR aK⟩,⟨bz⟩⟩
 case round =>
 obtain⟨aG,aA,rfl,⟨H⟩,aU,aD,aC,HB⟩:=hrel
 cases gk with
 |zero=>cases H
 |succ k1 =>
 simp only[V5.l0]at H
 revert H
 refine iD ?_ ?_<;>intro c6b0
 ·refine U9 fun c7b0=>U9 fun c8b0=>ib fun aH A9=>iD ?_ ?_<;>intro aV
  ·refine i2 ?_;rintro rfl rfl
   have aE:0≤(aA:Int):=od
   have aF:aA< (aB.length:Int):=od
   obtain⟨aM,aL,aJ⟩:=Kd.at_string (Kd.R_reads' aC.1).2.2 aA aE aF
   cases aL
   replace aE:=eq_true aE
   replace aF:=eq_true aF
   go_wp2_with ((with_reducible refine ga 92 ?_);refine gp func92 (O2.calls k1 (o9 ByteArray.empty aB aA) aH _ A9.1) fun nd=>?_)
   go_ret2
   exact⟨_,fe,nz,bz⟩
  refine il fun aN=>?_
  generalize aI:(aG++ [aH])=y630
  replace aI:=am aI.symm
  refine ia fun H'=>?_
  have aE:0≤(aA:Int):=od
  have aF:aA< (aB.length:Int):=od
  obtain⟨aM,aL,aJ⟩:=Kd.at_string (Kd.R_reads' aC.1).2.2 aA aE aF
  cases aL
  replace aE:=eq_true aE
  replace aF:=eq_true aF
  go_wp2_with (first|((with_reducible refine ga 92 ?_);refine gp func92 (O2.calls k1 (o9 ByteArray.empty aB aA) aH _ A9.1) fun nd=>?_)|((with_reducible refine gb 21 23 ?_);at_builtin;refine ra KI underlying22 J9 u4 aG aH [.int .i64 aH] (fun _=>True) rfl (fun _ _=>trivial) (rR aD) bz (lm aN) ?_;intro v631 w12 ho hb hg hat;rw[←aI.1]at ho;replace aC:=am (Kd.R_over' (rR aC) (Kd.R_typed (rR aD)) (by decide) hg);replace HB:=am (hb);have aO:=am (ho);clear aD ho hb hg hat))
  go_roundg k1
  case measure=>exact lm aU
  case rel=>exact⟨_,_,fz,H',la aU,⟨rR aO⟩,⟨rR aC⟩,⟨bz⟩⟩
 refine ib fun aR A13=>i2 ?_;rintro rfl rfl
 obtain⟨aS,aT,rfl⟩:=Kd.R_slice aD.1
 go_wp2_with ((with_reducible refine ga 55 ?_);refine gp func55 (AC7.calls k1 aS aT aG aR _ (M8 (Kd.R_reads' aD.1).2.2) ((Kd.R_reads' aD.1).2.1) A13.1) fun nd=>?_)
 go_ret2
 exact⟨_,fe,rR aD,bz⟩
end Go.Proofs.YtpiogigidgejpaaGreatDoor.PFnExactStepLine
