import Derived.Test.YtpiogigidgejpaaGreatDoorPFnExactStepLinex14
namespace Go.Proofs.YtpiogigidgejpaaGreatDoor.PFnExactStepLine
open Go.RowKit Go.Proofs.YtpiogigidgejpaaGreatDoorW.PrintWords Go.Proofs.YtpiogigidgejpaaGreatDoorW.PrintLast Go.Proofs.YtpiogigidgejpaaGreatDoorW.PrintMore Go.Proofs.YtpiogigidgejpaaGreatDoor.Sq Tryz
attribute [local go_sem] g8 g9 s8 q8 Y0 X9 b8 e6
set_option maxHeartbeats 8000000
set_option maxRecDepth 100000
set_option linter.unusedVariables false
set_option linter.unusedSimpArgs false
mutual
def I4.l0:Nat→List Int→List (List Int)→Int→Option ((List (List Int))×Bool)
 |0,_,_,_=>none
 |k+1,a,b,c=>if c< (a.length:Int)then(I4.l1 k a b c (a.length:Int))else(some (b,true))
def I4.l1:Nat→List Int→List (List Int)→Int→Int→Option ((List (List Int))×Bool)
 |0,_,_,_,_=>none
 |k+1,b,d,c,a=>if 0≤c then(if c≤a then(if a≤(b.length:Int)then((x0.f k ((b.take (a:Int).toNat).drop (c:Int).toNat)).bind fun e=>(if e=true then((Q3.f ((b.take (a:Int).toNat).drop (c:Int).toNat)).bind fun f=>(if d.length<5864062014805 then(I4.l0 k b (d++ [f]) a)else(none)))else(I4.l1 k b d c (wrap64 (a - 1)))))else(none))else(none))else(none)
end
def I4.f (k:Nat)(a:List Int):Option ((List (List Int))×Bool):=(AB4.f k a).bind fun b=>(if b=true then(I4.l0 k a ([]:List (List Int)) 0)else(some (([]:List (List Int)),false)))
theorem I4.calls (k A0 c0 l0 r1 r2 w):Kd.C KI w A0 l0.length l0→l0.length≤c0→I4.f k l0=some (r1,r2)→
 Calls prog 165 #[.slice A0 l0.length c0] w fun e w'=>∃v0_:Value,e=.returned (.tuple #[v0_,.bool r2])∧Kd.S KS 22 w' w.heap.size (fun _=>True) v0_ r1∧Below w.heap.size w w':=by
 have HB:=bR w
 refine pa fun aV aW=>?_
 unfold I4.f
 refine ib fun bP A2=>iB ?_ ?_<;>rintro rfl
 ·refine ia fun H'=>?_
  go_in
  go_wp2_with ((with_reducible refine ga 246 ?_);refine gp func246 (AB4.calls k A0 c0 l0 true _ (M8 aV.1) aW.1 A2.1) fun nd=>?_)
  go_loopg [4,5] k (fun kq v4 v5 w'=>∃ (aH:List (List Int)) (aA:Int),v5=.int .i64 aA∧Aside0 (I4.l0 kq l0 aH aA=some (r1,r2))∧Aside0 (kq≤k)∧Aside0 (Kd.S KS 22 w' w.heap.size (fun _=>True) v4 aH)∧Aside0 (Below w.heap.size w w'))
  case atStart=>exact⟨_,_,fz,H',lr,⟨by first|exact Kd.S_nil _ _ _ _ _|exact Kd.N_nil _ _ _ _ _|exact Kd.V_nil _ _ _ _ _|exact Kd.Q_nil _ _ _ _ _|exact Kd.R_nil _ _ _ _ _⟩,⟨bz⟩⟩
  case round =>
  obtain⟨aH,aA,rfl,⟨H⟩,bG,aD,HB⟩:=hrel
  cases gk with
  |zero=>cases H
  |succ k1 =>
  simp only[I4.l0]at H
  revert H
  refine iD ?_ ?_<;>intro c4b0
  ·refine ia fun H'=>?_
   go_wp2
   go_loopg [6] k1 (fun kq v6 w'=>∃ (aC:Int),v6=.int .i64 aC∧Aside0 (I4.l1 kq l0 aH aA aC=some (r1,r2))∧Aside0 (kq≤k1)∧Aside0 (Kd.S KS 22 w' w.heap.size (fun _=>True) u4 aH)∧Aside0 (Below w.heap.size w w'))
   case atStart=>exact⟨_,fz,H',lr,⟨rS aD⟩,⟨bz⟩⟩
   case round =>
   obtain⟨aC,rfl,⟨H⟩,bH,aD,HB⟩:=hrel
   cases gk with
   |zero=>cases H
   |succ k2 =>
   simp only[I4.l1]at H
   revert H
   refine if' fun c5b0 c5b1=>if' fun c6b0 c6b1=>if' fun c7b0 c7b1=>ib fun bQ A8=>iB ?_ ?_<;>rintro rfl
   ·have bT:=eq_true (od:0≤aA)
    have bU:=eq_true (od:aA≤aC)
    have bV:=eq_true (od:aC≤(l0.length:Int))
    refine ib fun aG A13=>il fun aX=>?_
    generalize aI:(aH++ [aG])=y1117
    replace aI:=am aI.symm
    refine ia fun H'=>?_
    obtain⟨i015,aY,_,aZ,_⟩:=info_parts J9
    obtain⟨A15,aQ,bI,bJ⟩:=l5 (P:=prog) (Value.int .i64) 0 22 3 .i64 .i64 underlying22 aY aZ A0 c0 l0 aA aC (od) (by first|omega|exact od) (od) aW.1
    have aJ:=am (Kd.C_of_reads (h1:=fun _=>rfl) (bI _ (Kd.reads_of_C aV.1)))
    have aK:=am bJ
    go_wp2_with (first|((with_reducible refine ga 247 ?_);refine ge func247 (x0.calls k2 A15 (c0 - aA.toNat) ((l0.take (aC:Int).toNat).drop (aA:Int).toNat) true _ (M8 (Kd.C_below aJ.1 HB.1)) aK.1 A8.1) ?_ (hargs:=by(try simp only[List.map_toArray,List.map_cons,List.map_nil]);first|done|(rw[show((l0.take (aC:Int).toNat).drop (aA:Int).toNat).length=(aC.toNat - aA.toNat)from(by rw[List.length_drop,List.length_take];have h_:(aC:Int)≤(l0.length:Int):=od;omega)]<;>rfl)|rfl|(simp only[List.length_drop,List.length_take];rfl));rintro w16 hb;replace aD:=am (Kd.S_below (rS aD) hb);replace HB:=bS hb;clear hb;obtain⟨i017,aM,_,aN,_⟩:=info_parts J9;clear aQ;obtain⟨A17,bK,bA,bB⟩:=l5 (P:=prog) (Value.int .i64) 0 22 3 .i64 .i64 underlying22 aM aN A0 c0 l0 aA aC (od) (by first|omega|exact od) (od) aW.1;have aR:=am (Kd.C_of_reads (h1:=fun _=>rfl) (bA _ (Kd.reads_of_C aV.1)));have aT:=am bB;clear bA bB aM aN)|((with_reducible refine ga 48 ?_);refine gs func48 (Q3.calls A17 (c0 - aA.toNat) ((l0.take (aC:Int).toNat).drop (aA:Int).toNat) aG _ (M8 (Kd.C_below aR.1 HB.1)) aT.1 A13.1) ?_ (hargs:=by(try simp only[List.map_toArray,List.map_cons,List.map_nil]);first|done|(rw[show((l0.take (aC:Int).toNat).drop (aA:Int).toNat).length=(aC.toNat - aA.toNat)from(by rw[List.length_drop,List.length_take];have h_:(aC:Int)≤(l0.length:Int):=od;omega)]<;>rfl)|rfl|(simp only[List.length_drop,List.length_take];rfl));rintro bW w18 ⟨bL,hb⟩;replace aD:=am (Kd.S_elder' (rS aD) (Kd.R_base bL) hb);have aE:=am (Kd.R_lower bL (C5 bz));replace HB:=bS hb;clear hb bL;obtain⟨bC,bD,rfl⟩:=Kd.R_slice aE.1)|((with_reducible refine Y1 (b:=.append) (xs:=#[.tmp 24,.tmp 30]) rfl ?_);at_builtin;refine Kd.S_append KS (w0:=w) w.heap.size rfl (.tmp 24) (.tmp 30) 127 22 (.slice none 0 0) 24 rfl underlying127 Ae5 rfl (by decide) (by omega) u4 aH aG [.slice bC aG.length bD] (fun _=>True) (fun k_=>some k_=(.slice bC aG.length bD:Value).ownBlock) rfl rfl ?aP (fun k_ hk_=>((Kd.R_mono (ok':=fun k_=>((fun _=>True)) k_∧some k_≠(u4:Value).ownBlock) (Kd.R_apart' (aE.1) (Kd.S_typed aD.1) (by decide)) (fun k_ hk=>⟨trivial,hk.2⟩))).1 k_ hk_.symm) ?aF ?aO ?aB ?aS ?aL ?_;(case aP=>exact Kd.M_row (Kd.R_mono (Kd.R_tight rfl (Kd.R_mono (ok':=fun k_=>((fun _=>True)) k_∧some k_≠(u4:Value).ownBlock) (Kd.R_apart' (aE.1) (Kd.S_typed aD.1) (by decide)) (fun k_ hk=>⟨trivial,hk.2⟩))) (fun _ h_=>h_)));(case aB=>exact bz);(case aF=>exact(fun _ _=>trivial));(case aO=>exact(by(with_reducible repeat(first|apply Kd.S_alloc|apply Kd.S_drewN|apply Kd.S_drew));exact Kd.S_mono aD.1 (fun k_ hk=>⟨trivial,fun e_=>hk.2 e_⟩)));(case aS=>exact(C5 bz));(case aL=>have:=aX.1;omega);intro bX w19 ho hb hg hat;rw[←aI.1]at ho;replace HB:=am (hb);have aU:=am (ho);clear aD aE;clear ho hb hg hat))
    go_roundg k2
    case measure=>exact lu bG bH
    case rel=>exact⟨_,_,fz,H',lv bG bH,⟨rS aU⟩,⟨bz⟩⟩
   refine ia fun H'=>?_
   obtain⟨i021,bE,_,bF,_⟩:=info_parts J9
   obtain⟨A21,bM,bN,bO⟩:=l5 (P:=prog) (Value.int .i64) 0 22 3 .i64 .i64 underlying22 bE bF A0 c0 l0 aA aC (od) (by first|omega|exact od) (od) aW.1
   have aJ:=am (Kd.C_of_reads (h1:=fun _=>rfl) (bN _ (Kd.reads_of_C aV.1)))
   have aK:=am bO
   go_wp2_with ((with_reducible refine ga 247 ?_);refine ge func247 (x0.calls k2 A21 (c0 - aA.toNat) ((l0.take (aC:Int).toNat).drop (aA:Int).toNat) false _ (M8 (Kd.C_below aJ.1 HB.1)) aK.1 A8.1) ?_ (hargs:=by(try simp only[List.map_toArray,List.map_cons,List.map_nil]);first|done|(rw[show((l0.take (aC:Int).toNat).drop (aA:Int).toNat).length=(aC.toNat - aA.toNat)from(by rw[List.length_drop,List.length_take];have h_:(aC:Int)≤(l0.length:Int):=od;omega)]<;>rfl)|rfl|(simp only[List.length_drop,List.length_take];rfl));rintro w22 hb;replace aD:=am (Kd.S_below (rS aD) hb);replace HB:=bS hb;clear hb)
   go_roundg k2
   case measure=>exact lu bG bH
   case rel=>exact⟨_,fz,H',lv bG bH,⟨rS aD⟩,⟨bz⟩⟩
  refine i2 ?_;rintro rfl rfl
  go_wp2
  go_ret2
  exact⟨_,fe,rS aD,bz⟩
 refine i2 ?_;rintro rfl rfl
 go_in
 go_wp2_with ((with_reducible refine ga 246 ?_);refine gp func246 (AB4.calls k A0 c0 l0 false _ (M8 aV.1) aW.1 A2.1) fun nd=>?_)
 go_ret2
 exact⟨_,fe,by first|exact Kd.S_nil _ _ _ _ _|exact Kd.N_nil _ _ _ _ _|exact Kd.V_nil _ _ _ _ _|exact Kd.Q_nil _ _ _ _ _|exact Kd.R_nil _ _ _ _ _,bz⟩
def G7.l0:Nat→List (List Int)→ByteArray→Int→Option ByteArray
 |0,_,_,_=>none
 |k+1,l,s,i=>if i< (l.length:Int)then(if 0≤i then(if i>0 then(if s.size+1≤9223372036854775807 then((Q2.f k (k9 l i)).bind fun u=>(if(s++ (⟨#[124]⟩:ByteArray)).size+u.size≤9223372036854775807 then G7.l0 k l ((s++ (⟨#[124]⟩:ByteArray))++u) (wrap64 (i+1))else none))else none)else((Q2.f k (k9 l i)).bind fun u=>(if s.size+u.size≤9223372036854775807 then G7.l0 k l (s++u) (wrap64 (i+1))else none)))else none)else some s
def G7.f (k:Nat) (y z:List Int)(a:ByteArray):Option ByteArray:=if a.toList=([103,114,97,121]:List UInt8)then(if 2≤z.length then((Z9.f k (rd z 0) (rd z 1)).bind fun t=>l9.f k t.1 t.2)else none)else(if a.toList=([117,110,103,114,97,121]:List UInt8)then(if 2≤z.length then((N4.f k (rd z 0) (rd z 1)).bind fun t=>l9.f k t.1 t.2)else none)else(if a.toList=([109,105,120,101,100]:List UInt8)then(if 1≤z.length then((r5.f k y (rd z 0)).bind fun t=>S8.f k t.1 t.2)else none)else(if a.toList=([99,104,111,111,115,101]:List UInt8)then(if 3≤z.length then((O3.f k (rd z 0) (rd z 1) (rd z 2)).bind fun t=>S8.f k t.1 t.2)else none)else(if a.toList=([114,101,118,111,108,118,101]:List UInt8)then(if 3≤z.length then((Z7.f k (rd z 0) (rd z 1) (rd z 2)).bind fun t=>S8.f k t.1 t.2)else none)else(if a.toList=([103,114,111,119,116,104]:List UInt8)then(if 2≤z.length then((K2.f k (rd z 0) (rd z 1)).bind fun t=>S8.f k t.1 t.2)else none)else(if a.toList=([98,97,108,97,110,99,101,100]:List UInt8)then(if 2≤z.length then((G4.f k (rd z 0) (rd z 1)).bind fun t=>S8.f k t.1 t.2)else none)else(if a.toList=([98,114,117,105,106,110]:List UInt8)then(if 2≤z.length then((I0.f k (rd z 0) (rd z 1)).bind fun t=>S8.f k t.1 t.2)else none)else(if a.toList=([112,97,105,114,115]:List UInt8)then(if 1≤z.length then((R9.f k (rd z 0)).bind fun t=>S8.f k t.1 t.2)else none)else(if a.toList=([115,117,112,101,114]:List UInt8)then(if 1≤z.length then((AA1.f k (rd z 0)).bind fun t=>S8.f k t.1 t.2)else none)else(if a.toList=([104,97,108,118,101,115]:List UInt8)then(if 2≤z.length then((W8.f k (rd z 0) (rd z 1)).bind fun t=>(if t.2.2=true then((O5.f k t.1).bind fun s=>(if s.size+1≤9223372036854775807 then((O5.f k t.2.1).bind fun u=>(if(s++ (⟨#[32]⟩:ByteArray)).size+u.size≤9223372036854775807 then some ((s++ (⟨#[32]⟩:ByteArray))++u)else none))else none))else some (⟨#[110,111]⟩:ByteArray)))else none)else((I4.f k y).bind fun t=>(if t.2=true then G7.l0 k t.1 (⟨#[]⟩:ByteArray) 0 else some (⟨#[110,111]⟩:ByteArray)))))))))))))
theorem G7.calls (k g:Nat) (x y z:List Int)(a r:ByteArray)(w:World)(hco:H2.Co w g x y z)(h:G7.f k y z a=some r) :
 Calls prog 108 #[.pointer (some ⟨g,0,none⟩),.string a] w (pB w (.string r)):=by
 have HB:=bR w
 have hu_:=underlying86
 obtain⟨A0,c0,A1,c1,A2,c2,h1,h2,h3,h4⟩:=hco
 have HY:=am h3
 have HZ:=am h4
 clear h2 h3 h4
 have bK:w.cell? ⟨g,1,none⟩=some (.slice A1 y.length c1):=(I5 h1 1).trans rfl
 have aA:w.cell? ⟨g,2,none⟩=some (.slice A2 z.length c2):=(I5 h1 2).trans rfl
 clear h1
 have H:=h
 clear h
 unfold G7.f at H
 revert H;refine io ?_ ?_<;>intro aF H
 ·have aG:=beq_iff_eq.mpr aF
  replace H:=jt H;obtain⟨dz,H⟩:=H
  obtain⟨ad,ead,aB⟩:=H2.at0 HZ.1.1 (by omega)
  cases ead
  have aC:=H2.at1 HZ.1.1 (by omega)
  have q0:(0<z.length)=True:=eq_true (by omega)
  have s0:((0:Int)< (z.length:Int))=True:=eq_true (by omega)
  have q1:(1<z.length)=True:=eq_true (by omega)
  have s1:((1:Int)< (z.length:Int))=True:=eq_true (by omega)
  replace H:=bi H;obtain⟨⟨t1,t2⟩,A5,H⟩:=H
  have A6:=am H
  clear H
  go_in
  try go_wp2
  replace HB:=am (F8 HB.1)
  refine sr 17 (fun w'=>w'.cell? ⟨g,2,none⟩=some (.slice (some ad) z.length c2)∧w'.cell? ad=some (.int .i64 (rd z 0))∧w'.cell? ⟨ad.block,ad.off+1,none⟩=some (.int .i64 (rd z 1))) [12,15] ⟨aA,aB,aC⟩ fun hHeld=>?_
  generalize hw1:w.drew=w1 at HB hHeld ⊢
  refine rg [0,1,2,3,4,5,6,7,8,9,10,11] ?_
  refine ol 12 func153 (Z9.calls k (rd z 0) (rd z 1) t1 t2 _ A5.1) ?_
  rintro e w6 ⟨rfl,hb⟩
  replace HB:=am (E8 HB.1 hb)
  clear hb
  refine⟨_,rfl,nm 28 ?_⟩
  refine rg [13,14] ?_
  refine ol 15 func152 (l9.calls k t1 t2 r _ A6.1) ?_
  rintro e w7 ⟨rfl,hb⟩
  replace HB:=am (E8 HB.1 hb)
  clear hb
  refine⟨_,rfl,nm 31 ?_⟩
  refine pw 16 ?_
  refine dn ?_
  go_wp2
  go_ret
  exact⟨rfl,HB.1⟩
 have aG:=beq_eq_false_iff_ne.mpr aF
 revert H;refine io ?_ ?_<;>intro aH H
 ·have aI:=beq_iff_eq.mpr aH
  replace H:=jt H;obtain⟨dz,H⟩:=H
  obtain⟨ad,ead,aB⟩:=H2.at0 HZ.1.1 (by omega)
  cases ead
  have aC:=H2.at1 HZ.1.1 (by omega)
  have q0:(0<z.length)=True:=eq_true (by omega)
  have s0:((0:Int)< (z.length:Int))=True:=eq_true (by omega)
  have q1:(1<z.length)=True:=eq_true (by omega)
  have s1:((1:Int)< (z.length:Int))=True:=eq_true (by omega)
  replace H:=bi H;obtain⟨⟨t1,t2⟩,A5,H⟩:=H
  have A6:=am H
  clear H
  go_in
  try go_wp2
  replace HB:=am (F8 HB.1)
  refine sr 17 (fun w'=>w'.cell? ⟨g,2,none⟩=some (.slice (some ad) z.length c2)∧w'.cell? ad=some (.int .i64 (rd z 0))∧w'.cell? ⟨ad.block,ad.off+1,none⟩=some (.int .i64 (rd z 1))) [12,15] ⟨aA,aB,aC⟩ fun hHeld=>?_
  generalize hw1:w.drew=w1 at HB hHeld ⊢
  refine rg [0,1,2,3,4,5,6,7,8,9,10,11] ?_
  refine ol 12 func154 (N4.calls k (rd z 0) (rd z 1) t1 t2 _ A5.1) ?_
  rintro e w6 ⟨rfl,hb⟩
  replace HB:=am (E8 HB.1 hb)
  clear hb
  refine⟨_,rfl,nm 46 ?_⟩
  refine rg [13,14] ?_
  refine ol 15 func152 (l9.calls k t1 t2 r _ A6.1) ?_
  rintro e w7 ⟨rfl,hb⟩
  replace HB:=am (E8 HB.1 hb)
  clear hb
  refine⟨_,rfl,nm 49 ?_⟩
  refine pw 16 ?_
  refine dn ?_
  go_wp2
  go_ret
  exact⟨rfl,HB.1⟩
 have aI:=beq_eq_false_iff_ne.mpr aH
 revert H;refine io ?_ ?_<;>intro aJ H
 ·have aK:=beq_iff_eq.mpr aJ
  replace H:=jt H;obtain⟨dz,H⟩:=H
  obtain⟨ad,ead,aB⟩:=H2.at0 HZ.1.1 (by omega)
  cases ead
  have q0:(0<z.length)=True:=eq_true (by omega)
  have s0:((0:Int)< (z.length:Int))=True:=eq_true (by omega)
  replace H:=bi H;obtain⟨⟨t1,t2⟩,A5,H⟩:=H
  have A6:=am H
  clear H
  go_in
  try go_wp2
  replace HB:=am (F8 HB.1)
  refine sr 15 (fun w'=>w'.cell? ⟨g,1,none⟩=some (.slice A1 y.length c1)∧w'.cell? ⟨g,2,none⟩=some (.slice (some ad) z.length c2)∧w'.cell? ad=some (.int .i64 (rd z 0))) [10,13] ⟨bK,aA,aB⟩ fun hHeld=>?_
  generalize hw1:w.drew=w1 at HB hHeld ⊢
  refine rg [0,1,2,3,4,5,6,7,8,9] ?_
  refine AF0 (i:=10) (N:=some 62) (lb 15 2047) rfl rfl (by kernel_rfl) (by decide) (fun K hK=>?_)
  refine gs' func156 #[.slice A1 y.length c1,.int .i64 (rd z 0)] ?_
  with_reducible refine(r5.calls k _ _ y (rd z 0) t1 t2 _ ?side1 ?side2 A5.1).mono ?_
  case side1=>exact Kd.C_below HY.1.1 HB.1
  case side2=>exact HY.1.2
  rintro e w6 ⟨v6,rfl,ho,hb⟩
  refine⟨_,rfl,?_⟩
  replace HB:=am (E8 HB.1 hb)
  have HO:=am ho
  clear ho hb
  obtain⟨Ao,co,rfl⟩:=Kd.R_slice HO.1
  refine hK.out _ _ ?_
  clear hK K
  refine nm 62 ?_
  refine rg [11,12] ?_
  refine AF0 (i:=13) (N:=some 65) (lb 15 16383) rfl rfl (by kernel_rfl) (by decide) (fun K hK=>?_)
  refine gs' func155 #[.slice Ao t1.length co,.bool t2] ?_
  with_reducible refine(S8.calls k _ _ t1 t2 r _ ?side1 ?side2 A6.1).mono ?_
  case side1=>exact(Kd.R_reads' HO.1).2.2
  case side2=>exact(Kd.R_reads' HO.1).2.1
  rintro e w7 ⟨rfl,hb⟩
  refine⟨_,rfl,?_⟩
  replace HB:=am (E8 HB.1 hb)
  clear hb
  refine hK.out _ _ ?_
  clear hK K
  refine nm 65 ?_
  refine pw 14 ?_
  refine dn ?_
  go_wp2
  go_ret
  exact⟨rfl,HB.1⟩
 have aK:=beq_eq_false_iff_ne.mpr aJ
 revert H;refine io ?_ ?_<;>intro aL H
 ·have aM:=beq_iff_eq.mpr aL
  replace H:=jt H;obtain⟨dz,H⟩:=H
  obtain⟨ad,ead,aB⟩:=H2.at0 HZ.1.1 (by omega)
  cases ead
  have aC:=H2.at1 HZ.1.1 (by omega)
  have bL:=H2.at2 HZ.1.1 (by omega)
  have q0:(0<z.length)=True:=eq_true (by omega)
  have s0:((0:Int)< (z.length:Int))=True:=eq_true (by omega)
  have q1:(1<z.length)=True:=eq_true (by omega)
  have s1:((1:Int)< (z.length:Int))=True:=eq_true (by omega)
  have q2:(2<z.length)=True:=eq_true (by omega)
  have s2:((2:Int)< (z.length:Int))=True:=eq_true (by omega)
  replace H:=bi H;obtain⟨⟨t1,t2⟩,A5,H⟩:=H
  have A6:=am H
  clear H
  go_in
  try go_wp2
  replace HB:=am (F8 HB.1)
  refine sr 23 (fun w'=>w'.cell? ⟨g,2,none⟩=some (.slice (some ad) z.length c2)∧w'.cell? ad=some (.int .i64 (rd z 0))∧w'.cell? ⟨ad.block,ad.off+1,none⟩=some (.int .i64 (rd z 1))∧w'.cell? ⟨ad.block,ad.off+2,none⟩=some (.int .i64 (rd z 2))) [18,21] ⟨aA,aB,aC,bL⟩ fun hHeld=>?_
  generalize hw1:w.drew=w1 at HB hHeld ⊢
  refine rg [0,1,2,3,4,5,6,7,8,9,10,11,12,13,14,15,16,17] ?_
  refine ol 18 func157 (O3.calls k (rd z 0) (rd z 1) (rd z 2) t1 t2 _ A5.1) ?_
  rintro e w6 ⟨v6,rfl,ho,hb⟩
  replace HB:=am (E8 HB.1 hb)
  have HO:=am ho
  clear ho hb
  obtain⟨Ao,co,rfl⟩:=Kd.R_slice HO.1
  refine⟨_,rfl,nm 86 ?_⟩
  refine rg [19,20] ?_
  refine AF0 (i:=21) (N:=some 89) (lb 23 4194303) rfl rfl (by kernel_rfl) (by decide) (fun K hK=>?_)
  refine gs' func155 #[.slice Ao t1.length co,.bool t2] ?_
  with_reducible refine(S8.calls k _ _ t1 t2 r _ ?side1 ?side2 A6.1).mono ?_
  case side1=>exact(Kd.R_reads' HO.1).2.2
  case side2=>exact(Kd.R_reads' HO.1).2.1
  rintro e w7 ⟨rfl,hb⟩
  refine⟨_,rfl,?_⟩
  replace HB:=am (E8 HB.1 hb)
  clear hb
  refine hK.out _ _ ?_
  clear hK K
  refine nm 89 ?_
  refine pw 22 ?_
  refine dn ?_
  go_wp2
  go_ret
  exact⟨rfl,HB.1⟩
 have aM:=beq_eq_false_iff_ne.mpr aL
 revert H;refine io ?_ ?_<;>intro aN H
 ·have aO:=beq_iff_eq.mpr aN
  replace H:=jt H;obtain⟨dz,H⟩:=H
  obtain⟨ad,ead,aB⟩:=H2.at0 HZ.1.1 (by omega)
  cases ead
  have aC:=H2.at1 HZ.1.1 (by omega)
  have bL:=H2.at2 HZ.1.1 (by omega)
  have q0:(0<z.length)=True:=eq_true (by omega)
  have s0:((0:Int)< (z.length:Int))=True:=eq_true (by omega)
  have q1:(1<z.length)=True:=eq_true (by omega)
  have s1:((1:Int)< (z.length:Int))=True:=eq_true (by omega)
  have q2:(2<z.length)=True:=eq_true (by omega)
  have s2:((2:Int)< (z.length:Int))=True:=eq_true (by omega)
  replace H:=bi H;obtain⟨⟨t1,t2⟩,A5,H⟩:=H
  have A6:=am H
  clear H
  go_in
  try go_wp2
  replace HB:=am (F8 HB.1)
  refine sr 23 (fun w'=>w'.cell? ⟨g,2,none⟩=some (.slice (some ad) z.length c2)∧w'.cell? ad=some (.int .i64 (rd z 0))∧w'.cell? ⟨ad.block,ad.off+1,none⟩=some (.int .i64 (rd z 1))∧w'.cell? ⟨ad.block,ad.off+2,none⟩=some (.int .i64 (rd z 2))) [18,21] ⟨aA,aB,aC,bL⟩ fun hHeld=>?_
  generalize hw1:w.drew=w1 at HB hHeld ⊢
  refine rg [0,1,2,3,4,5,6,7,8,9,10,11,12,13,14,15,16,17] ?_
  refine ol 18 func158 (Z7.calls k (rd z 0) (rd z 1) (rd z 2) t1 t2 _ A5.1) ?_
  rintro e w6 ⟨v6,rfl,ho,hb⟩
  replace HB:=am (E8 HB.1 hb)
  have HO:=am ho
  clear ho hb
  obtain⟨Ao,co,rfl⟩:=Kd.R_slice HO.1
  refine⟨_,rfl,nm 110 ?_⟩
  refine rg [19,20] ?_
  refine AF0 (i:=21) (N:=some 113) (lb 23 4194303) rfl rfl (by kernel_rfl) (by decide) (fun K hK=>?_)
  refine gs' func155 #[.slice Ao t1.length co,.bool t2] ?_
  with_reducible refine(S8.calls k _ _ t1 t2 r _ ?side1 ?side2 A6.1).mono ?_
  case side1=>exact(Kd.R_reads' HO.1).2.2
  case side2=>exact(Kd.R_reads' HO.1).2.1
  rintro e w7 ⟨rfl,hb⟩
  refine⟨_,rfl,?_⟩
  replace HB:=am (E8 HB.1 hb)
  clear hb
  refine hK.out _ _ ?_
  clear hK K
  refine nm 113 ?_
  refine pw 22 ?_
  refine dn ?_
  go_wp2
  go_ret
  exact⟨rfl,HB.1⟩
 have aO:=beq_eq_false_iff_ne.mpr aN
 revert H;refine io ?_ ?_<;>intro aP H
 ·have aQ:=beq_iff_eq.mpr aP
  replace H:=jt H;obtain⟨dz,H⟩:=H
  obtain⟨ad,ead,aB⟩:=H2.at0 HZ.1.1 (by omega)
  cases ead
  have aC:=H2.at1 HZ.1.1 (by omega)
  have q0:(0<z.length)=True:=eq_true (by omega)
  have s0:((0:Int)< (z.length:Int))=True:=eq_true (by omega)
  have q1:(1<z.length)=True:=eq_true (by omega)
  have s1:((1:Int)< (z.length:Int))=True:=eq_true (by omega)
  replace H:=bi H;obtain⟨⟨t1,t2⟩,A5,H⟩:=H
  have A6:=am H
  clear H
  go_in
  try go_wp2
  replace HB:=am (F8 HB.1)
  refine sr 17 (fun w'=>w'.cell? ⟨g,2,none⟩=some (.slice (some ad) z.length c2)∧w'.cell? ad=some (.int .i64 (rd z 0))∧w'.cell? ⟨ad.block,ad.off+1,none⟩=some (.int .i64 (rd z 1))) [12,15] ⟨aA,aB,aC⟩ fun hHeld=>?_
  generalize hw1:w.drew=w1 at HB hHeld ⊢
  refine rg [0,1,2,3,4,5,6,7,8,9,10,11] ?_
  refine ol 12 func159 (K2.calls k (rd z 0) (rd z 1) t1 t2 _ A5.1) ?_
  rintro e w6 ⟨v6,rfl,ho,hb⟩
  replace HB:=am (E8 HB.1 hb)
  have HO:=am ho
  clear ho hb
  obtain⟨Ao,co,rfl⟩:=Kd.R_slice HO.1
  refine⟨_,rfl,nm 128 ?_⟩
  refine rg [13,14] ?_
  refine AF0 (i:=15) (N:=some 131) (lb 17 65535) rfl rfl (by kernel_rfl) (by decide) (fun K hK=>?_)
  refine gs' func155 #[.slice Ao t1.length co,.bool t2] ?_
  with_reducible refine(S8.calls k _ _ t1 t2 r _ ?side1 ?side2 A6.1).mono ?_
  case side1=>exact(Kd.R_reads' HO.1).2.2
  case side2=>exact(Kd.R_reads' HO.1).2.1
  rintro e w7 ⟨rfl,hb⟩
  refine⟨_,rfl,?_⟩
  replace HB:=am (E8 HB.1 hb)
  clear hb
  refine hK.out _ _ ?_
  clear hK K
  refine nm 131 ?_
  refine pw 16 ?_
  refine dn ?_
  go_wp2
  go_ret
  exact⟨rfl,HB.1⟩
 have aQ:=beq_eq_false_iff_ne.mpr aP
 revert H;refine io ?_ ?_<;>intro aR H
 ·have aS:=beq_iff_eq.mpr aR
  replace H:=jt H;obtain⟨dz,H⟩:=H
  obtain⟨ad,ead,aB⟩:=H2.at0 HZ.1.1 (by omega)
  cases ead
  have aC:=H2.at1 HZ.1.1 (by omega)
  have q0:(0<z.length)=True:=eq_true (by omega)
  have s0:((0:Int)< (z.length:Int))=True:=eq_true (by omega)
  have q1:(1<z.length)=True:=eq_true (by omega)
  have s1:((1:Int)< (z.length:Int))=True:=eq_true (by omega)
  replace H:=bi H;obtain⟨⟨t1,t2⟩,A5,H⟩:=H
  have A6:=am H
  clear H
  go_in
  try go_wp2
  replace HB:=am (F8 HB.1)
  refine sr 17 (fun w'=>w'.cell? ⟨g,2,none⟩=some (.slice (some ad) z.length c2)∧w'.cell? ad=some (.int .i64 (rd z 0))∧w'.cell? ⟨ad.block,ad.off+1,none⟩=some (.int .i64 (rd z 1))) [12,15] ⟨aA,aB,aC⟩ fun hHeld=>?_
  generalize hw1:w.drew=w1 at HB hHeld ⊢
  refine rg [0,1,2,3,4,5,6,7,8,9,10,11] ?_
  refine ol 12 func160 (G4.calls k (rd z 0) (rd z 1) t1 t2 _ A5.1) ?_
  rintro e w6 ⟨v6,rfl,ho,hb⟩
  replace HB:=am (E8 HB.1 hb)
  have HO:=am ho
  clear ho hb
  obtain⟨Ao,co,rfl⟩:=Kd.R_slice HO.1
  refine⟨_,rfl,nm 146 ?_⟩
  refine rg [13,14] ?_
  refine AF0 (i:=15) (N:=some 149) (lb 17 65535) rfl rfl (by kernel_rfl) (by decide) (fun K hK=>?_)
  refine gs' func155 #[.slice Ao t1.length co,.bool t2] ?_
  with_reducible refine(S8.calls k _ _ t1 t2 r _ ?side1 ?side2 A6.1).mono ?_
  case side1=>exact(Kd.R_reads' HO.1).2.2
  case side2=>exact(Kd.R_reads' HO.1).2.1
  rintro e w7 ⟨rfl,hb⟩
  refine⟨_,rfl,?_⟩
  replace HB:=am (E8 HB.1 hb)
  clear hb
  refine hK.out _ _ ?_
  clear hK K
  refine nm 149 ?_
  refine pw 16 ?_
  refine dn ?_
  go_wp2
  go_ret
  exact⟨rfl,HB.1⟩
 have aS:=beq_eq_false_iff_ne.mpr aR
 revert H;refine io ?_ ?_<;>intro aT H
 ·have aU:=beq_iff_eq.mpr aT
  replace H:=jt H;obtain⟨dz,H⟩:=H
  obtain⟨ad,ead,aB⟩:=H2.at0 HZ.1.1 (by omega)
  cases ead
  have aC:=H2.at1 HZ.1.1 (by omega)
  have q0:(0<z.length)=True:=eq_true (by omega)
  have s0:((0:Int)< (z.length:Int))=True:=eq_true (by omega)
  have q1:(1<z.length)=True:=eq_true (by omega)
  have s1:((1:Int)< (z.length:Int))=True:=eq_true (by omega)
  replace H:=bi H;obtain⟨⟨t1,t2⟩,A5,H⟩:=H
  have A6:=am H
  clear H
  go_in
  try go_wp2
  replace HB:=am (F8 HB.1)
  refine sr 17 (fun w'=>w'.cell? ⟨g,2,none⟩=some (.slice (some ad) z.length c2)∧w'.cell? ad=some (.int .i64 (rd z 0))∧w'.cell? ⟨ad.block,ad.off+1,none⟩=some (.int .i64 (rd z 1))) [12,15] ⟨aA,aB,aC⟩ fun hHeld=>?_
  generalize hw1:w.drew=w1 at HB hHeld ⊢
  refine rg [0,1,2,3,4,5,6,7,8,9,10,11] ?_
  refine ol 12 func161 (I0.calls k (rd z 0) (rd z 1) t1 t2 _ A5.1) ?_
  rintro e w6 ⟨v6,rfl,ho,hb⟩
  replace HB:=am (E8 HB.1 hb)
  have HO:=am ho
  clear ho hb
  obtain⟨Ao,co,rfl⟩:=Kd.R_slice HO.1
  refine⟨_,rfl,nm 164 ?_⟩
  refine rg [13,14] ?_
  refine AF0 (i:=15) (N:=some 167) (lb 17 65535) rfl rfl (by kernel_rfl) (by decide) (fun K hK=>?_)
  refine gs' func155 #[.slice Ao t1.length co,.bool t2] ?_
  with_reducible refine(S8.calls k _ _ t1 t2 r _ ?side1 ?side2 A6.1).mono ?_
  case side1=>exact(Kd.R_reads' HO.1).2.2
  case side2=>exact(Kd.R_reads' HO.1).2.1
  rintro e w7 ⟨rfl,hb⟩
  refine⟨_,rfl,?_⟩
  replace HB:=am (E8 HB.1 hb)
  clear hb
  refine hK.out _ _ ?_
  clear hK K
  refine nm 167 ?_
  refine pw 16 ?_
  refine dn ?_
  go_wp2
  go_ret
  exact⟨rfl,HB.1⟩
 have aU:=beq_eq_false_iff_ne.mpr aT
 revert H;refine io ?_ ?_<;>intro aV H
 ·have aW:=beq_iff_eq.mpr aV
  replace H:=jt H;obtain⟨dz,H⟩:=H
  obtain⟨ad,ead,aB⟩:=H2.at0 HZ.1.1 (by omega)
  cases ead
  have q0:(0<z.length)=True:=eq_true (by omega)
  have s0:((0:Int)< (z.length:Int))=True:=eq_true (by omega)
  replace H:=bi H;obtain⟨⟨t1,t2⟩,A5,H⟩:=H
  have A6:=am H
  clear H
  go_in
  go_wp2_with (first|((with_reducible refine ga 162 ?_);refine gs func162 (R9.calls k (rd z 0) t1 t2 _ A5.1) ?_;rintro v6 w6 ⟨ho,hb⟩;replace HB:=am (E8 HB.1 hb);have HO:=am ho;clear ho hb;obtain⟨Ao,co,rfl⟩:=Kd.R_slice HO.1)|((with_reducible refine ga 155 ?_);refine ge func155 (S8.calls k Ao co t1 t2 r _ ((Kd.R_reads' HO.1).2.2) ((Kd.R_reads' HO.1).2.1) A6.1) ?_;rintro w7 hb;replace HB:=am (E8 HB.1 hb);clear hb))
  go_ret
  exact⟨rfl,HB.1⟩
 have aW:=beq_eq_false_iff_ne.mpr aV
 revert H;refine io ?_ ?_<;>intro aX H
 ·have aY:=beq_iff_eq.mpr aX
  replace H:=jt H;obtain⟨dz,H⟩:=H
  obtain⟨ad,ead,aB⟩:=H2.at0 HZ.1.1 (by omega)
  cases ead
  have q0:(0<z.length)=True:=eq_true (by omega)
  have s0:((0:Int)< (z.length:Int))=True:=eq_true (by omega)
  replace H:=bi H;obtain⟨⟨t1,t2⟩,A5,H⟩:=H
  have A6:=am H
  clear H
  go_in
  go_wp2_with (first|((with_reducible refine ga 163 ?_);refine gs func163 (AA1.calls k (rd z 0) t1 t2 _ A5.1) ?_;rintro v6 w6 ⟨ho,hb⟩;replace HB:=am (E8 HB.1 hb);have HO:=am ho;clear ho hb;obtain⟨Ao,co,rfl⟩:=Kd.R_slice HO.1)|((with_reducible refine ga 155 ?_);refine ge func155 (S8.calls k Ao co t1 t2 r _ ((Kd.R_reads' HO.1).2.2) ((Kd.R_reads' HO.1).2.1) A6.1) ?_;rintro w7 hb;replace HB:=am (E8 HB.1 hb);clear hb))
  go_ret
  exact⟨rfl,HB.1⟩
 have aY:=beq_eq_false_iff_ne.mpr aX
 revert H;refine io ?_ ?_<;>intro aZ H
 ·have bA:=beq_iff_eq.mpr aZ
  replace H:=jt H;obtain⟨dz,H⟩:=H
  obtain⟨ad,ead,aB⟩:=H2.at0 HZ.1.1 (by omega)
  cases ead
  have aC:=H2.at1 HZ.1.1 (by omega)
  have q0:(0<z.length)=True:=eq_true (by omega)
  have s0:((0:Int)< (z.length:Int))=True:=eq_true (by omega)
  have q1:(1<z.length)=True:=eq_true (by omega)
  have s1:((1:Int)< (z.length:Int))=True:=eq_true (by omega)
  replace H:=bi H;obtain⟨⟨t1,t2,t3⟩,A5,H⟩:=H
  have H':=am H
  clear H
  go_in
  try go_wp2
  replace HB:=am (F8 HB.1)
  refine sr 20 (fun w'=>w'.cell? ⟨g,2,none⟩=some (.slice (some ad) z.length c2)∧w'.cell? ad=some (.int .i64 (rd z 0))∧w'.cell? ⟨ad.block,ad.off+1,none⟩=some (.int .i64 (rd z 1))) [12] ⟨aA,aB,aC⟩ fun hHeld=>?_
  generalize hw1:w.drew=w1 at HB hHeld ⊢
  refine rg [0,1,2,3,4,5,6,7,8,9,10,11] ?_
  refine ol 12 func164 (W8.calls k (rd z 0) (rd z 1) t1 t2 t3 _ A5.1) ?_
  rintro e w6 ⟨rfl,hb⟩
  replace HB:=am (E8 HB.1 hb)
  clear hb
  refine⟨_,rfl,nm 207 ?_⟩
  refine rg [13,14,15,16,17,18,19] ?_
  refine dn ?_
  have H:=H'.1
  replace H:=jb H;rcases H with⟨rfl,H⟩|⟨rfl,H⟩
  ·replace H:=bi H;obtain⟨s,A6,H⟩:=H
   replace H:=jt H;obtain⟨bM,H⟩:=H
   have bQ:=eq_true bM
   have bT:=decide_eq_true bM
   try have bU:(9223372036854775807<s.size+1)=False:=eq_false (Nat.not_lt.2 bM)
   replace H:=bi H;obtain⟨u,A7,H⟩:=H
   replace H:=jt H;obtain⟨bB,H⟩:=H
   have bV:=eq_true bB
   have bW:=decide_eq_true bB
   try have bX:(9223372036854775807< (s++ (⟨#[32]⟩:ByteArray)).size+u.size)=False:=eq_false (Nat.not_lt.2 bB)
   have aD:s.size+1+u.size≤9223372036854775807:=by have h_:=bB;simp only[ByteArray.size_append]at h_;exact h_
   have bC:=eq_true aD
   have bD:(9223372036854775807<s.size+1+u.size)=False:=eq_false (Nat.not_lt.2 aD)
   have aD:s.size+1+u.size≤9223372036854775807:=by have h_:=bB;simp only[ByteArray.size_append]at h_;exact h_
   have bC:=eq_true aD
   have bD:(9223372036854775807<s.size+1+u.size)=False:=eq_false (Nat.not_lt.2 aD)
   obtain rfl:=Option.some.inj H
   clear H
   go_wp2_with (first|((with_reducible refine ga 68 ?_);refine ge func68 (O5.calls k t1 s _ A6.1) ?_;rintro w7 hb;replace HB:=am (E8 HB.1 hb);clear hb)|((with_reducible refine ga 68 ?_);refine ge func68 (O5.calls k t2 u _ A7.1) ?_;rintro w8 hb;replace HB:=am (E8 HB.1 hb);clear hb))
   go_ret
   exact⟨fe,HB.1⟩
  obtain rfl:=Option.some.inj H
  clear H
  go_wp2
  go_ret
  exact⟨fe,HB.1⟩
 have bA:=beq_eq_false_iff_ne.mpr aZ
 replace H:=bi H;obtain⟨⟨t1,t2⟩,A5,H⟩:=H
 have H':=am H
 clear H
 go_in
 go_upto_region 28 with(first|((with_reducible refine ga 165 ?_);refine gs func165 (I4.calls k A1 c1 y t1 t2 _ HY.1.1 HY.1.2 A5.1) ?_;rintro v6 w6 ⟨ho,hb⟩;have HO:=am (Kd.S_lower ho (C5 bz));replace HB:=am (E8 HB.1 hb);clear ho hb;obtain⟨Ao,co,rfl⟩:=Kd.S_slice HO.1))
 have H:=H'.1
 replace H:=(jb H).symm;rcases H with⟨rfl,H⟩|⟨rfl,H⟩
 ·obtain rfl:=Option.some.inj H
  clear H
  go_wp2
  go_ret
  exact⟨fe,HB.1⟩
 have H':=am H
 clear H
 go_wp2
 go_loopg [10,231] k (fun kq v10 bN w'=>∃ (s:ByteArray) (i:Int),v10=.string s∧bN=.int .i64 i∧Aside0 (G7.l0 kq t1 s i=some r)∧Aside0 (kq≤k)∧Aside0 (Kd.S KS 22 w' w.heap.size (fun _=>True) (.slice Ao t1.length co) t1)∧Aside0 (Below w.heap.size w w'))
 case atStart=>exact⟨(⟨#[]⟩:ByteArray),0,fz,fz,H',lr,⟨rS HO⟩,⟨bz⟩⟩
 case round =>
 clear H' HO HB
 obtain⟨s,i,rfl,rfl,⟨H⟩,bJ,HO,HB⟩:=hrel
 cases gk with
 |zero=>cases H
 |succ k1 =>
 simp only[G7.l0]at H
 revert H;refine io ?_ ?_<;>intro c6 H
 ·have bO:=decide_eq_true c6
  have q1:i< (t1.length:Int):=c6
  clear c6
  replace H:=jt H;obtain⟨c7,H⟩:=H
  have c7b0:=decide_eq_true c7
  have p1:=c7
  obtain⟨ad,Ae,ce,ead,hx,hl,hi⟩:=Ai5 (Kd.S_reads' HO.1).2.2 i p1 q1
  cases ead
  have HE:=am hi
  have HEL:=am hl
  clear hi hl
  have p2:=eq_true p1
  have q2:=eq_true q1
  clear p1 q1 c7
  revert H;refine io ?_ ?_<;>intro c8 H
  ·have bP:decide (0<i)=true:=(decide_eq_true c8)
   clear c8
   replace H:=jt H;obtain⟨c9,H⟩:=H
   have c9b0:=eq_true c9
   have c9b1:=decide_eq_true c9
   try have c9b2:(9223372036854775807<s.size+1)=False:=eq_false (Nat.not_lt.2 c9)
   replace H:=bi H;obtain⟨u,A7,H⟩:=H
   replace H:=jt H;obtain⟨c10,H⟩:=H
   have bE:=eq_true c10
   have bF:=decide_eq_true c10
   try have bG:(9223372036854775807< (s++ (⟨#[124]⟩:ByteArray)).size+u.size)=False:=eq_false (Nat.not_lt.2 c10)
   have aE:s.size+1+u.size≤9223372036854775807:=by have h_:=c10;simp only[ByteArray.size_append]at h_;exact h_
   have bH:=eq_true aE
   have bI:(9223372036854775807<s.size+1+u.size)=False:=eq_false (Nat.not_lt.2 aE)
   have aE:s.size+1+u.size≤9223372036854775807:=by have h_:=c10;simp only[ByteArray.size_append]at h_;exact h_
   have bH:=eq_true aE
   have bI:(9223372036854775807<s.size+1+u.size)=False:=eq_false (Nat.not_lt.2 aE)
   have H':=am H
   clear H
   go_wp2_with ((with_reducible refine ga 56 ?_);refine ge func56 (Q2.calls k1 Ae ce (k9 t1 i) u _ (M8 HE.1) HEL.1 A7.1) ?_;rintro w9 hb;replace HO:=am (Kd.S_below (rS HO) hb);replace HB:=bS hb;clear hb)
   go_roundg k1
   case measure=>exact lm bJ
   case rel=>exact⟨_,_,fz,fz,H',la bJ,⟨rS HO⟩,⟨bz⟩⟩
  have bP:decide (0<i)=false:=(decide_eq_false c8)
  clear c8
  replace H:=bi H;obtain⟨u,A7,H⟩:=H
  replace H:=jt H;obtain⟨c10,H⟩:=H
  have bE:=eq_true c10
  have bF:=decide_eq_true c10
  try have bG:(9223372036854775807<s.size+u.size)=False:=eq_false (Nat.not_lt.2 c10)
  have H':=am H
  clear H
  go_wp2_with ((with_reducible refine ga 56 ?_);refine ge func56 (Q2.calls k1 Ae ce (k9 t1 i) u _ (M8 HE.1) HEL.1 A7.1) ?_;rintro w9 hb;replace HO:=am (Kd.S_below (rS HO) hb);replace HB:=bS hb;clear hb)
  go_roundg k1
  case measure=>exact lm bJ
  case rel=>exact⟨_,_,fz,fz,H',la bJ,⟨rS HO⟩,⟨bz⟩⟩
 have bO:=decide_eq_false c6
 clear c6
 obtain rfl:=Option.some.inj H
 clear H
 go_wp2
 go_ret
 exact⟨fe,bz⟩
def I7.f (k:Nat) (x y z:List Int)(a:ByteArray):Option (ByteArray×List Int):=if a.toList=([116,97,107,101]:List UInt8)then(K3.f k x y z a)else(if a.toList=([110,101,120,116]:List UInt8)then(K3.f k x y z a)else(if a.toList=([116,114,111,116]:List UInt8)then(K3.f k x y z a)else(if a.toList=([115,119,97,112]:List UInt8)then(K3.f k x y z a)else(if a.toList=([114,101,118,101,114,115,101]:List UInt8)then(K3.f k x y z a)else(if a.toList=([114,111,116,97,116,101]:List UInt8)then(K3.f k x y z a)else(if a.toList=([115,104,111,119]:List UInt8)then((Q2.f k x).bind fun s=>some (s,x))else(if a.toList=([114,97,110,107]:List UInt8)then((F7.f k x).bind fun v=>((O5.f k v).bind fun s=>some (s,x)))else(if a.toList=([115,105,103,110]:List UInt8)then((W7.f k x).bind fun v=>some ((if v>0 then(⟨#[101,118,101,110]⟩:ByteArray)else(⟨#[111,100,100]⟩:ByteArray)),x))else((G7.f k y z a).bind fun s=>some (s,x))))))))))
theorem I7.calls (k g:Nat) (x y z:List Int)(a r1:ByteArray)(r2:List Int)(B:Nat)(w:World)(hco:H2.Co w g x y z)(hB:B≤g)(h:I7.f k x y z a=some (r1,r2)) :
 Calls prog 81 #[.pointer (some ⟨g,0,none⟩),.string a] w fun e w'=>e=.returned (.string r1)∧H2.Co w' g r2 y z∧Below B w w':=by
 have HCO:=am hco
 have HB:Aside0 (Below B w w):=am (Below.refl _ _)
 have hu_:=underlying86
 obtain⟨A0,c0,A1,c1,A2,c2,h1,h2,h3,h4⟩:=hco
 have HBL:Aside0 (B≤w.heap.size):=am (Nat.le_trans hB (Nat.le_of_lt (AT9 h1)))
 have HX:=am h2
 have hcz0:w.cell? ⟨g,0,none⟩=some (.slice A0 x.length c0):=(I5 h1 0).trans rfl
 clear h1 h2 h3 h4
 have H:=h
 clear h
 unfold I7.f at H
 revert H;refine io ?_ ?_<;>intro aM H
 ·have aC:=beq_iff_eq.mpr aM
  have H':=am H
  clear H
  go_in
  go_wp2_with ((with_reducible refine ga 105 ?_);refine ge func105 (K3.calls k g x y z a r1 r2 B _ HCO.1 hB H'.1) ?_;rintro w9 ⟨aA,aB⟩)
  go_ret
  exact⟨rfl,aA,aB⟩
 have aC:=beq_eq_false_iff_ne.mpr aM
 revert H;refine io ?_ ?_<;>intro aN H
 ·have aD:=beq_iff_eq.mpr aN
  have H':=am H
  clear H
  go_in
  go_wp2_with ((with_reducible refine ga 105 ?_);refine ge func105 (K3.calls k g x y z a r1 r2 B _ HCO.1 hB H'.1) ?_;rintro w9 ⟨aA,aB⟩)
  go_ret
  exact⟨rfl,aA,aB⟩
 have aD:=beq_eq_false_iff_ne.mpr aN
 revert H;refine io ?_ ?_<;>intro aO H
 ·have aE:=beq_iff_eq.mpr aO
  have H':=am H
  clear H
  go_in
  go_wp2_with ((with_reducible refine ga 105 ?_);refine ge func105 (K3.calls k g x y z a r1 r2 B _ HCO.1 hB H'.1) ?_;rintro w9 ⟨aA,aB⟩)
  go_ret
  exact⟨rfl,aA,aB⟩
 have aE:=beq_eq_false_iff_ne.mpr aO
 revert H;refine io ?_ ?_<;>intro aP H
 ·have aF:=beq_iff_eq.mpr aP
  have H':=am H
  clear H
  go_in
  go_wp2_with ((with_reducible refine ga 105 ?_);refine ge func105 (K3.calls k g x y z a r1 r2 B _ HCO.1 hB H'.1) ?_;rintro w9 ⟨aA,aB⟩)
  go_ret
  exact⟨rfl,aA,aB⟩
 have aF:=beq_eq_false_iff_ne.mpr aP
 revert H;refine io ?_ ?_<;>intro aQ H
 ·have aG:=beq_iff_eq.mpr aQ
  have H':=am H
  clear H
  go_in
  go_wp2_with ((with_reducible refine ga 105 ?_);refine ge func105 (K3.calls k g x y z a r1 r2 B _ HCO.1 hB H'.1) ?_;rintro w9 ⟨aA,aB⟩)
  go_ret
  exact⟨rfl,aA,aB⟩
 have aG:=beq_eq_false_iff_ne.mpr aQ
 revert H;refine io ?_ ?_<;>intro aR H
 ·have aH:=beq_iff_eq.mpr aR
  have H':=am H
  clear H
  go_in
  go_wp2_with ((with_reducible refine ga 105 ?_);refine ge func105 (K3.calls k g x y z a r1 r2 B _ HCO.1 hB H'.1) ?_;rintro w9 ⟨aA,aB⟩)
  go_ret
  exact⟨rfl,aA,aB⟩
 have aH:=beq_eq_false_iff_ne.mpr aR
 revert H;refine io ?_ ?_<;>intro aS H
 ·have aI:=beq_iff_eq.mpr aS
  replace H:=bi H;obtain⟨s,A5,H⟩:=H
  obtain⟨rfl,rfl⟩:=Prod.mk.inj (Option.some.inj H)
  clear H
  go_in
  go_wp2_with ((with_reducible refine ga 56 ?_);refine ge func56 (Q2.calls k A0 c0 x s _ HX.1.1 HX.1.2 A5.1) ?_;rintro w2 hb;replace HCO:=am (HCO.1.below hb);replace HB:=am (HB.1.trans (hb.mono (Nat.le_trans HBL.1 HB.1.size)));clear hb)
  go_ret
  exact⟨rfl,HCO.1,HB.1⟩
 have aI:=beq_eq_false_iff_ne.mpr aS
 revert H;refine io ?_ ?_<;>intro aT H
 ·have aJ:=beq_iff_eq.mpr aT
  replace H:=bi H;obtain⟨v,A5,H⟩:=H
  replace H:=bi H;obtain⟨s,A6,H⟩:=H
  obtain⟨rfl,rfl⟩:=Prod.mk.inj (Option.some.inj H)
  clear H
  go_in
  go_wp2_with (first|((with_reducible refine ga 106 ?_);refine ge func106 (F7.calls k A0 c0 x v _ HX.1.1 HX.1.2 A5.1) ?_;rintro w2 hb;replace HCO:=am (HCO.1.below hb);replace HB:=am (HB.1.trans (hb.mono (Nat.le_trans HBL.1 HB.1.size)));clear hb)|((with_reducible refine ga 68 ?_);refine ge func68 (O5.calls k v s _ A6.1) ?_;rintro w3 hb;replace HCO:=am (HCO.1.below hb);replace HB:=am (HB.1.trans (hb.mono (Nat.le_trans HBL.1 HB.1.size)));clear hb))
  go_ret
  exact⟨rfl,HCO.1,HB.1⟩
 have aJ:=beq_eq_false_iff_ne.mpr aT
 revert H;refine io ?_ ?_<;>intro aU H
 ·have aK:=beq_iff_eq.mpr aU
  replace H:=bi H;obtain⟨v,A5,H⟩:=H
  obtain⟨rfl,rfl⟩:=Prod.mk.inj (Option.some.inj H)
  clear H
  by_cases c10:v>0
  ·have aL:decide (0<v)=true:=decide_eq_true c10
   rw[if_pos c10]
   clear c10
   go_in
   go_wp2_with ((with_reducible refine ga 107 ?_);refine ge func107 (W7.calls k A0 c0 x v _ HX.1.1 HX.1.2 A5.1) ?_;rintro w2 hb;replace HCO:=am (HCO.1.below hb);replace HB:=am (HB.1.trans (hb.mono (Nat.le_trans HBL.1 HB.1.size)));clear hb)
   go_ret
   exact⟨rfl,HCO.1,HB.1⟩
  ·have aL:decide (0<v)=false:=decide_eq_false c10
   rw[if_neg c10]
   clear c10
   go_in
   go_wp2_with ((with_reducible refine ga 107 ?_);refine ge func107 (W7.calls k A0 c0 x v _ HX.1.1 HX.1.2 A5.1) ?_;rintro w2 hb;replace HCO:=am (HCO.1.below hb);replace HB:=am (HB.1.trans (hb.mono (Nat.le_trans HBL.1 HB.1.size)));clear hb)
   go_ret
   exact⟨rfl,HCO.1,HB.1⟩
 have aK:=beq_eq_false_iff_ne.mpr aU
 replace H:=bi H;obtain⟨s,A5,H⟩:=H
 obtain⟨rfl,rfl⟩:=Prod.mk.inj (Option.some.inj H)
 clear H
 go_in
 go_wp2_with ((with_reducible refine ga 108 ?_);refine ge func108 (G7.calls k g x y z a s _ HCO.1 A5.1) ?_;rintro w2 hb;replace HCO:=am (HCO.1.below hb);replace HB:=am (HB.1.trans (hb.mono (Nat.le_trans HBL.1 HB.1.size)));clear hb)
 go_ret
 exact⟨rfl,HCO.1,HB.1⟩
def AA3.f (k:Nat)(x:List Int)(a:ByteArray):Option (List Int×ByteArray):=(K5.f k a).bind fun t=>(if t.2.2.2=true then((I7.f k x t.2.1 t.2.2.1 t.1).bind fun u=>some (u.2,u.1))else some (x,(⟨#[119,104,97,116]⟩:ByteArray)))
theorem AA3.calls (k:Nat)(A0:Option Addr)(c0:Nat)(l0:List Int)(a:ByteArray)(r1:List Int)(r2:ByteArray)(w:World)(hr0:Kd.C KI w A0 l0.length l0)(hc0:l0.length≤c0)(h:AA3.f k l0 a=some (r1,r2)) :
 Calls prog 47 #[.slice A0 l0.length c0,.string a] w fun e w'=>∃A1 c1,e=.returned (.tuple #[.slice A1 r1.length c1,.string r2])∧(Kd.C KI w' A1 r1.length r1∧r1.length≤c1)∧Below w.heap.size w w':=by
 have hu_:=underlying86
 have aB:=am hr0
 have HB:=bR w
 clear hr0
 have H:=h
 clear h
 unfold AA3.f at H
 replace H:=bi H;obtain⟨⟨t1,y,z,ok⟩,A3,H⟩:=H
 have H':=am H
 clear H
 go_in
 go_upto_if 18 with(first|((with_reducible refine ga 80 ?_);refine gx func80 (K5.calls k A0 c0 l0 a t1 y z ok _ aB.1 hc0 A3.1) ?_;rintro e w2 ⟨A1,c1,A2,c2,rfl,hy,hz,hb⟩;refine⟨_,rfl,?_⟩;have HY:=am hy;have HZ:=am hz;replace HB:=bS hb;clear hy hz hb)|((with_reducible refine P8 (N:=7) rfl ?_);refine j6 ?hg (N:=7) ?hd (cs:=#[.slice none 0 0,.slice none 0 0,.slice none 0 0]) (t:=86) ?hr ?_;(case hd=>rfl);(case hg=>rfl);(case hr=>first|(go_simp;done)|(go_simp;rfl));intro g hg w3 hbox hb;have Gg:=am ((by rw[hg];exact C5 bz:w.heap.size≤g));have G2:=am ((by rw[hg];exact Nat.le_refl _:w2.heap.size≤g));have aA:=am hb;replace HB:=bS hb;have Bg:=am hbox;have hz0:=bq Bg 0 (.slice none 0 0);have hz1:=bq Bg 1 (.slice none 0 0);have hz2:=bq Bg 2 (.slice none 0 0);have hf0:=C9 Bg.1 0;have hf1:=C9 Bg.1 1;have hf2:=C9 Bg.1 2;clear hb hbox hg))
 obtain⟨w4,hw4⟩:∃w4,w4=(((w3.setCell ⟨g,0,none⟩ (.slice A0 l0.length c0)).setCell ⟨g,1,none⟩ (.slice A1 y.length c1)).setCell ⟨g,2,none⟩ (.slice A2 z.length c2)):=⟨_,rfl⟩
 rw[←hw4]
 replace Bg:Aside0 (w4.heap[g]? =some (.cells #[.slice A0 l0.length c0,.slice A1 y.length c1,.slice A2 z.length c2] 86 (0,0))):=⟨by rw[hw4];exact U2 (U2 (U2 Bg.1 0 _) 1 _) 2 _⟩
 replace HB:Aside0 (Below w.heap.size w w4):=⟨by rw[hw4];exact((HB.1.setCell Gg.1 _).setCell Gg.1 _).setCell Gg.1 _⟩
 replace aA:Aside0 (Below w2.heap.size w2 w4):=⟨by rw[hw4];exact((aA.1.setCell G2.1 _).setCell G2.1 _).setCell G2.1 _⟩
 have HCO:=am (show H2.Co w4 g l0 y z from⟨A0,c0,A1,c1,A2,c2,Bg.1,⟨Kd.C_below aB.1 HB.1,hc0⟩,⟨Kd.C_below HY.1.1 aA.1,HY.1.2⟩,⟨Kd.C_below HZ.1.1 aA.1,HZ.1.2⟩⟩)
 clear hz0 hz1 hz2 hf0 hf1 hf2 hw4 HY HZ aA
 have H:=H'.1
 replace H:=(jb H).symm;rcases H with⟨rfl,H⟩|⟨rfl,H⟩
 ·replace H:=s2 H;obtain⟨rfl,rfl⟩:=H
  go_wp2
  go_ret2
  exact⟨A0,c0,fe,⟨Kd.C_below aB.1 HB.1,hc0⟩,HB.1⟩
 replace H:=bi H;obtain⟨⟨u1,u2⟩,A5,H⟩:=H
 replace H:=s2 H;obtain⟨rfl,rfl⟩:=H
 clear Bg
 go_wp2_with ((with_reducible refine ga 81 ?_);refine ge func81 (I7.calls k g l0 y z t1 u1 u2 w.heap.size _ HCO.1 Gg.1 A5.1) ?_;rintro w9 ⟨aC,aD⟩;replace HB:=am (HB.1.trans aD);clear HCO aD;obtain⟨aE,aF,A6_,c6_,A7_,c7_,aG,aH,_⟩:=aC;have HX:=am aH;have hcz0:w9.cell? ⟨g,0,none⟩=some (.slice aE u2.length aF):=(I5 aG 0).trans rfl;clear aG aH)
 go_ret2
 exact⟨aE,aF,fe,HX.1,HB.1⟩
def b7.f (k:Nat)(x:List Int)(a:ByteArray):Option (List Int×ByteArray×Bool):=(E0.f k x).bind fun b=>(if b=true then(if(a.size:Int)>3000 then some (([]:List Int),(⟨#[]⟩:ByteArray),false)else((Q9.f k a 10).bind fun W=>(if(W.length:Int)>1 then some (([]:List Int),(⟨#[]⟩:ByteArray),false)else((AA3.f k x a).bind fun t=>((Q3.f t.1).bind fun l=>some (l,t.2,true))))))else some (([]:List Int),(⟨#[]⟩:ByteArray),false))
theorem b7.calls (k:Nat)(A0:Option Addr)(c0:Nat)(l0:List Int)(a1:ByteArray)(r1:List Int)(r2:ByteArray)(r3:Bool)(w:World)(hr0:Kd.C KI w A0 l0.length l0)(hc0:l0.length≤c0)(h:b7.f k l0 a1=some (r1,r2,r3)) :
 Calls prog 17 #[.slice A0 l0.length c0,.string a1] w fun e w'=>∃v0_:Value,e=.returned (.tuple #[v0_,.string r2,.bool r3])∧Kd.R KI 3 w' w.heap.size (fun _=>True) v0_ r1∧Below w.heap.size w w':=by
 have aA:=am hr0
 have HB:=bR w
 clear hr0
 have H:=h
 clear h
 unfold b7.f at H
 replace H:=bi H;obtain⟨b,A3,H⟩:=H
 replace H:=(jb H).symm;rcases H with⟨rfl,H⟩|⟨rfl,H⟩
 ·replace H:=s3 H;obtain⟨rfl,rfl,rfl⟩:=H
  go_in
  go_wp2_with ((with_reducible refine ga 45 ?_);refine gp func45 (E0.calls k A0 c0 l0 false _ aA.1 hc0 A3.1) fun nd=>?_)
  go_ret3
  exact⟨_,fe,Kd.R_nil _ _ _ _ _,bz⟩
 revert H;refine io ?_ ?_<;>intro c4 H
 ·have c4b:decide (3000< (a1.size:Int))=true:=decide_eq_true c4
  replace H:=s3 H;obtain⟨rfl,rfl,rfl⟩:=H
  have c4c:=eq_true c4
  clear c4
  go_in
  go_wp2_with ((with_reducible refine ga 45 ?_);refine gp func45 (E0.calls k A0 c0 l0 true _ aA.1 hc0 A3.1) fun nd=>?_)
  go_ret3
  exact⟨_,fe,Kd.R_nil _ _ _ _ _,bz⟩
 have c4b:=decide_eq_false c4
 have c4c:=eq_false c4
 clear c4
 replace H:=bi H;obtain⟨W,A4,H⟩:=H
 revert H;refine io ?_ ?_<;>intro c6 H
 ·have c6b:decide (1< (W.length:Int))=true:=decide_eq_true c6
  replace H:=s3 H;obtain⟨rfl,rfl,rfl⟩:=H
  clear c6
  go_in
  go_wp2_with (first|((with_reducible refine ga 45 ?_);refine gp func45 (E0.calls k A0 c0 l0 true _ aA.1 hc0 A3.1) fun nd=>?_)|((with_reducible refine J0 (f:=46) rfl ?_);(try (refine V3 (by rfl) ?_;dsimp only));refine gl' 19 func46 #[.string a1,.int .u8 10] ?_;(with_reducible refine(Q9.calls k a1 10 W _ A4.1).mono ?_);rintro e w5 ⟨v5,rfl,ho,hb⟩;refine⟨_,rfl,?_⟩;replace HB:=bS hb;obtain⟨A5,c5,e5⟩:=Kd.R_slice ho;subst e5;clear hb ho))
  go_ret3
  exact⟨_,fe,Kd.R_nil _ _ _ _ _,bz⟩
 have c6b:=decide_eq_false c6
 clear c6
 replace H:=bi H;obtain⟨⟨t1,t2⟩,A7,H⟩:=H
 replace H:=bi H;obtain⟨l,A8,H⟩:=H
 replace H:=s3 H;obtain⟨rfl,rfl,rfl⟩:=H
 go_in
 go_wp2_with (first|((with_reducible refine ga 45 ?_);refine gp func45 (E0.calls k A0 c0 l0 true _ aA.1 hc0 A3.1) fun nd=>?_)|((with_reducible refine J0 (f:=46) rfl ?_);(try (refine V3 (by rfl) ?_;dsimp only));refine gl' 19 func46 #[.string a1,.int .u8 10] ?_;(with_reducible refine(Q9.calls k a1 10 W _ A4.1).mono ?_);rintro e w5 ⟨v5,rfl,ho,hb⟩;refine⟨_,rfl,?_⟩;replace HB:=bS hb;obtain⟨A5,c5,e5⟩:=Kd.R_slice ho;subst e5;clear hb ho)|((with_reducible refine ga 47 ?_);refine gx func47 (AA3.calls k A0 c0 l0 a1 t1 t2 _ (M8 (Kd.C_below aA.1 HB.1)) hc0 A7.1) ?_;rintro e w6 ⟨A6,c6,rfl,hx,hb⟩;refine⟨_,rfl,?_⟩;have HX:=am hx;replace HB:=bS hb;clear hx hb)|((with_reducible refine ga 48 ?_);refine gs func48 (Q3.calls A6 c6 t1 l _ (M8 HX.1.1) HX.1.2 A8.1) ?_;rintro v7 w7 ⟨ho,hb⟩;have HO:=am (Kd.R_lower ho (C5 bz));replace HB:=bS hb;clear ho hb))
 go_ret3
 exact⟨_,fe,rR HO,bz⟩
def R7.l0:Nat→List Int→List Int→Int→Option (List Int)
 |0,_,_,_=>none
 |k+1,b,c,a=>if a< (b.length:Int)then(if 0≤a then(if a< (c.length:Int)then(R7.l0 k b (c.set (a:Int).toNat (rd b a)) (wrap64 (a+1)))else(none))else(none))else(some c)
def R7.f (k:Nat)(a:List Int):Option (List Int):=if 0≤(a.length:Int)then(if((a.length:Int):Int).toNat≤35184372088832 then(R7.l0 k a (List.replicate ((a.length:Int):Int).toNat 0) 0)else(none))else(none)
theorem R7.calls (k A0 c0 l0 r w):Kd.C KI w A0 l0.length l0→l0.length≤c0→R7.f k l0=some r→
 Calls prog 31 #[.slice A0 l0.length c0] w (pR w KI 3 r):=by
 have HB:=bR w
 refine pa fun HR0 HC0=>?_
 unfold R7.f
 refine if' fun c2b0 c2b1=>if' fun c3b0 c3b1=>?_
 obtain⟨aJ,aC⟩:=ey (List.replicate ((l0.length:Int):Int).toNat 0:List Int)
 intro H
 rw[←aC.1]at H
 revert H
 refine ia fun H'=>?_
 go_in
 go_wp2_with ((with_reducible refine P8 (N:=7) rfl ?_);refine Kd.R_make KI _ 3 rfl (N:=7) rfl 22 _ _ rfl (l0.length:Int) rfl rfl underlying22 (.int .i64 0) 8 J9 rfl (by decide) (by omega) 0 (ok:=fun _=>True) (okp:=fun _=>True) rfl (fun _ hk=>hk) trivial (od) (Nat.le_trans (Nat.mul_le_mul_right _ (od:(l0.length:Int).toNat≤35184372088832)) (by omega)) (Below.refl _ _) (Nat.le_refl _) ?_;intro aK w4 aL hb hg_ hnew_;clear hg_ hnew_;(first|rw[←aC.1]at aL|(simp only[Int.reduceToNat]at aL;rw[←aC.1]at aL));have aH:=am (Kd.R_lower aL (C5 bz));replace HB:=bS hb;clear hb aL)
 go_loopg [4] k (fun kq v4 w'=>∃ (aD:List Int) (aA:Int),v4=.int .i64 aA∧Aside0 (R7.l0 kq l0 aD aA=some r)∧Aside0 (kq≤k)∧Aside0 (Kd.R KI 3 w' w.heap.size (fun _=>True) aK aD)∧Aside0 (Below w.heap.size w w'))
 case atStart=>exact⟨(aJ),(0),fz,H',lr,⟨rR aH⟩,⟨bz⟩⟩
 case round =>
 obtain⟨aD,aA,rfl,⟨H⟩,aP,aE,HB⟩:=hrel
 cases gk with
 |zero=>cases H
 |succ k1 =>
 simp only[R7.l0]at H
 revert H
 refine iD ?_ ?_<;>intro c6b0
 ·refine U9 fun c7b0=>U9 fun c8b0=>?_
  obtain⟨aG,aF⟩:=ey (aD.set (aA:Int).toNat (rd l0 aA):List Int)
  intro H
  rw[←aF.1]at H
  revert H
  refine ia fun H'=>?_
  obtain⟨aQ,aR,aM,rfl,aB⟩:=ai HR0.1 aA
  replace aB:=cl aB
  have p9:0≤(aA:Int):=od
  have q9:(aA:Int)< ((aD.length:Int):Int):=od
  obtain⟨aN,co9,eo9,aS,gl9,cl9,aT⟩:=Kd.R_form aE.1 (by omega)
  cases eo9
  have GB9:=am aS
  have GG9:=am aT
  clear aS gl9 aT
  obtain⟨aU,aV⟩:=Kd.R_celln 0 aE.1 (aA:Int) p9 q9
  replace p9:=eq_true p9
  replace q9:=eq_true q9
  have aI:=Kd.R_putg aE.1 (aA:Int) (rd l0 aA)
  go_wp2_with ((with_reducible refine gt 3 20 ?_);refine se 3 20 (wr.setCell ⟨aN,(aA:Int).toNat,none⟩ (.int .i64 (rd l0 aA))) ?_;intro aO hw;have hg:wr.grownBy aO (some aN):=(by rw[hw];exact aI.2);have hp_:Kd.R KI 3 aO w.heap.size (fun _=>True) (.slice (some ⟨aN,0,none⟩) aD.length co9) aG:=(by rw[hw,aF.1];exact aI.1);clear aI;replace aE:=am (hp_);replace HB:=am ((by rw[hw];exact S0 (HB.1) GB9.1:Below w.heap.size w aO));clear hg hw hp_)
  go_roundg k1
  case measure=>exact lm aP
  case rel=>exact⟨(aG),(wrap64 (aA+1)),fz,H',la aP,⟨rR aE⟩,⟨bz⟩⟩
 refine i1 ?_;rintro rfl
 go_wp2
 go_ret
 exact⟨_,fe,rR aE,bz⟩
end Go.Proofs.YtpiogigidgejpaaGreatDoor.PFnExactStepLine
