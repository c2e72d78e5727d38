import Derived.Test.YtpiogigidgejpaaGreatDoorPFnExactStepLinex0
namespace Go.Proofs.YtpiogigidgejpaaGreatDoor.PFnExactStepLine
open Go.RowKit Go.Proofs.YtpiogigidgejpaaGreatDoorW.PrintWords Go.Proofs.YtpiogigidgejpaaGreatDoorW.PrintLast Go.Proofs.YtpiogigidgejpaaGreatDoorW.PrintMore Go.Proofs.YtpiogigidgejpaaGreatDoor.Sq Tryz
attribute [local go_sem] g8 g9 s8 q8 Y0 X9 b8 e6
set_option maxHeartbeats 8000000
set_option maxRecDepth 100000
set_option linter.unusedVariables false
set_option linter.unusedSimpArgs false
def N5.l0:Nat→List Int→List Int→Int→Option (Bool)
 |0,_,_,_=>none
 |k+1,b,c,a=>if a< (b.length:Int)then(if 0≤a then(if a< (c.length:Int)then(if(rd b a)=(rd c a)then(N5.l0 k b c (wrap64 (a+1)))else(some false))else(none))else(none))else(some true)
def N5.f (k:Nat)(a b:List Int):Option (Bool):=if(a.length:Int)=(b.length:Int)then(N5.l0 k a b 0)else(some false)
theorem N5.calls (k A0 c0 l0 A1 c1 l1 r w):Kd.C KI w A0 l0.length l0→l0.length≤c0→Kd.C KI w A1 l1.length l1→l1.length≤c1→N5.f k l0 l1=some r→
 Calls prog 11 #[.slice A0 l0.length c0,.slice A1 l1.length c1] w (pD w (.bool r)):=by
 refine pa fun aO HC0=>pa fun aP HC1=>?_
 unfold N5.f
 refine io ?_ ?_<;>intro c3
 ·have aF:=beq_iff_eq.mpr c3
  have aG:=bne_eq_false_iff_eq.mpr c3
  have aH:(l0.length==l1.length)=true:=by first|simpa using c3|(simp at c3 ⊢;omega)
  clear c3
  refine ia fun H'=>?_
  go_in
  go_wp2
  repeat(go_quiet (fail);try go_wp2)
  go_loopg [5] k (fun kq v5 w'=>∃ (aA:Int),v5=.int .i64 aA∧Aside0 (N5.l0 kq l0 l1 aA=some r)∧Aside0 (kq≤k)∧Drawn0 w w')
  case atStart=>exact⟨_,fz,H',lr,dz⟩
  case round =>
  obtain⟨aA,rfl,⟨H⟩,aQ,⟨m1,rfl⟩⟩:=hrel
  cases gk with
  |zero=>cases H
  |succ k1 =>
  simp only[N5.l0]at H
  revert H
  refine iD ?_ ?_<;>intro c4b0
  ·refine U9 fun c5b0=>U9 fun c6b0=>iE (fun aI aJ=>?_) fun c7 aI aJ=>?_
   ·refine ia fun H'=>?_
    obtain⟨aK,aL,aD,rfl,aB⟩:=ai aO.1 aA
    obtain⟨aM,aN,aE,rfl,aC⟩:=ai aP.1 aA
    go_wp2
    repeat(go_quiet (fail);try go_wp2)
    go_roundg k1
    case measure=>exact lm aQ
    case rel=>exact⟨_,fz,H',la aQ,dz⟩
   refine i1 ?_;rintro rfl
   obtain⟨aK,aL,aD,rfl,aB⟩:=ai aO.1 aA
   obtain⟨aM,aN,aE,rfl,aC⟩:=ai aP.1 aA
   go_wp2
   repeat(go_quiet (fail);try go_wp2)
   go_ret
   exact⟨fz,dz⟩
  refine i1 ?_;rintro rfl
  go_wp2
  repeat(go_quiet (fail);try go_wp2)
  go_ret
  exact⟨fz,dz⟩
 have aF:=beq_eq_false_iff_ne.mpr c3
 have aG:=bne_iff_ne.mpr c3
 have aH:(l0.length==l1.length)=false:=by first|simpa using c3|(simp at c3 ⊢;omega)
 refine i1 ?_;rintro rfl
 go_in
 go_wp2
 repeat(go_quiet (fail);try go_wp2)
 go_ret
 exact⟨fz,dz⟩
def R1.l0:Nat→List Int→Int→Int→Option (Int×List Int)
 |0,_,_,_=>none
 |k+1,b,c,a=>if a< (b.length:Int)then(if 0≤a then(R1.l0 k (b.set (a:Int).toNat c) (wrap64 (c+1)) (wrap64 (a+1)))else(none))else(some (c,b))
def R1.f (k:Nat)(b:List Int)(a:Int):Option (Int×List Int):=R1.l0 k b a 0
theorem R1.calls (k:Nat)(P0_:Nat→Prop)(u9000_:Value)(l0:List Int)(a1 r1:Int)(r2:List Int) (w0 w:World)(hB:Below w0.heap.size w0 w)(ho0:Kd.R KI 3 w w0.heap.size P0_ u9000_ l0)(h:R1.f k l0 a1=some (r1,r2)) :
 Calls prog 12 #[u9000_,.int .i64 a1] w fun e w'=>e=.returned (.int .i64 r1)∧Kd.R KI 3 w' w0.heap.size (fun k_=>(P0_ k_∨w.heap.size≤k_)) u9000_ r2∧Below w0.heap.size w0 w'∧AB0 w w' (fun k_=>P0_ k_):=by
 have HO0:=am (show Kd.R KI 3 w w0.heap.size (fun k_=>(P0_ k_∨w.heap.size≤k_)) u9000_ l0 from Kd.R_mono ho0 (fun k_ hk=>(.inl hk)))
 have HK:=am (AB0.refl w (fun k_=>P0_ k_))
 have HW0:=am hB.size
 have HB:=am hB
 have H:=h
 unfold R1.f at H
 revert H
 refine ia fun H'=>?_
 go_in
 go_wp2
 go_loopg [1,5] k (fun kq v1 v5 w'=>∃ (aC:List Int) (aD aB:Int),v1=.int .i64 aD∧v5=.int .i64 aB∧Aside0 (R1.l0 kq aC aD aB=some (r1,r2))∧Aside0 (kq≤k)∧Aside0 (Kd.R KI 3 w' w0.heap.size (fun k_=>(P0_ k_∨w.heap.size≤k_)) u9000_ aC)∧Aside0 (AB0 w w' (fun k_=>P0_ k_))∧Aside0 (Below w0.heap.size w0 w'))
 case atStart=>exact⟨_,_,_,fz,fz,H',lr,⟨rR HO0⟩,⟨kk'⟩,⟨bz⟩⟩
 case round =>
 obtain⟨aC,aD,aB,rfl,rfl,⟨H⟩,aH,aA,HK,HB⟩:=hrel
 cases gk with
 |zero=>cases H
 |succ k1 =>
 simp only[R1.l0]at H
 revert H
 refine iD ?_ ?_<;>intro c3b0
 ·refine U9 fun c4b0=>?_
  generalize aE:(aC.set (aB:Int).toNat aD)=y103
  replace aE:=am aE.symm
  refine ia fun H'=>?_
  obtain⟨Ao6,co6,rfl⟩:=Kd.R_slice aA.1
  have p5:0≤(aB:Int):=od
  have q5:(aB:Int)< ((aC.length:Int):Int):=od
  obtain⟨aF,co5,eo5,gb5,gl5,cl5,HG5⟩:=Kd.R_form aA.1 (by omega)
  cases eo5
  have GB5:=am gb5
  have GG5:=am HG5
  have aI:=am (show(P0_ aF∨w.heap.size≤aF)from(aA.1.1 _ rfl))
  obtain⟨aJ,aK⟩:=Kd.R_celln 0 aA.1 (aB:Int) p5 q5
  replace p5:=eq_true p5
  replace q5:=eq_true q5
  have aG:=Kd.R_putg aA.1 (aB:Int) aD
  go_wp2_with ((with_reducible refine gt 3 15 ?_);refine se 3 15 (wr.setCell ⟨aF,(aB:Int).toNat,none⟩ (.int .i64 aD)) ?_;intro w8 hw;have hg:wr.grownBy w8 (some aF):=(by rw[hw];exact aG.2);have hp_:Kd.R KI 3 w8 w0.heap.size (fun k_=>(P0_ k_∨w.heap.size≤k_)) (.slice (some ⟨aF,0,none⟩) aC.length co6) y103:=(by rw[hw,aE.1];exact aG.1);clear aG;replace HB:=am ((by rw[hw];exact S0 (HB.1) GB5.1:Below w0.heap.size w0 w8));replace HK:=am (AB0.of_grown (S:=(fun k_=>P0_ k_)) hg kk' (fun k_ e_=>(aA.1.1 k_ e_)));replace aA:=am (hp_);clear hg hw hp_)
  go_roundg k1
  case measure=>exact lm aH
  case rel=>exact⟨_,_,_,fz,fz,H',la aH,⟨rR aA⟩,⟨kk'⟩,⟨bz⟩⟩
 refine i2 ?_;rintro rfl rfl
 obtain⟨Ao9,co9,rfl⟩:=Kd.R_slice aA.1
 go_wp2
 go_ret
 exact⟨fe,rR aA,bz,kk'⟩
def O8.l0:Nat→List Int→Int→Int→Option (Int)
 |0,_,_,_=>none
 |k+1,b,c,a=>if a< (b.length:Int)then(if 0≤a then(if(rd b a)=c then(O8.l0 k b (wrap64 (c+1)) (wrap64 (a+1)))else(some (-1)))else(none))else(some c)
def O8.f (k:Nat)(b:List Int)(a:Int):Option (Int):=O8.l0 k b a 0
theorem O8.calls (k A0 c0 l0 a1 r w):Kd.C KI w A0 l0.length l0→l0.length≤c0→O8.f k l0 a1=some r→
 Calls prog 13 #[.slice A0 l0.length c0,.int .i64 a1] w (pD w (.int .i64 r)):=by
 refine pa fun aI HC0=>?_
 unfold O8.f
 refine ia fun H'=>?_
 go_in
 go_wp2
 go_loopg [1,5] k (fun kq v1 v5 w'=>∃ (aC aA:Int),v1=.int .i64 aC∧v5=.int .i64 aA∧Aside0 (O8.l0 kq l0 aC aA=some r)∧Aside0 (kq≤k)∧Drawn0 w w')
 case atStart=>exact⟨_,_,fz,fz,H',lr,dz⟩
 case round =>
 obtain⟨aC,aA,rfl,rfl,⟨H⟩,aJ,⟨m1,rfl⟩⟩:=hrel
 cases gk with
 |zero=>cases H
 |succ k1 =>
 simp only[O8.l0]at H
 revert H
 refine iD ?_ ?_<;>intro c3b0
 ·refine U9 fun c4b0=>iE (fun aE aF=>?_) fun c5 aE aF=>?_
  ·refine ia fun H'=>?_
   obtain⟨aG,aH,aD,rfl,aB⟩:=ai aI.1 aA
   go_wp2
   go_roundg k1
   case measure=>exact lm aJ
   case rel=>exact⟨_,_,fz,fz,H',la aJ,dz⟩
  refine i1 ?_;rintro rfl
  obtain⟨aG,aH,aD,rfl,aB⟩:=ai aI.1 aA
  go_wp2
  go_ret
  exact⟨fz,dz⟩
 refine i1 ?_;rintro rfl
 go_wp2
 go_ret
 exact⟨fz,dz⟩
def J3.l0:Nat→List Int→Int→Int→Option (List Int)
 |0,_,_,_=>none
 |k+1,a,c,b=>if b<c then(if a.length<17592186044416 then(J3.l0 k (a++ [b]) c (wrap64 (b+1)))else(none))else(some a)
def J3.f (k:Nat)(a:Int):Option (List Int):=J3.l0 k (([]:List Int)) a 0
theorem J3.mono_l:∀k,(∀y0 y1 y2,S6 (J3.l0 k y0 y1 y2) (J3.l0 (k+1) y0 y1 y2))
 |0=>fun _ _ _ r h=>by simp[J3.l0]at h
 |k+1=>by
  have ih0:=J3.mono_l k
  ·intro y0 y1 y2
   unfold J3.l0
   exact mo
theorem J3.mono:∀a0 k,S6 (J3.f k a0) (J3.f (k+1) a0):=by
 intro a0 k
 have ih0:=J3.mono_l k
 unfold J3.f
 exact mo
theorem J3.calls (k a0 r w):J3.f k a0=some r→
 Calls prog 63 #[.int .i64 a0] w (pR w KI 3 r):=by
 have HB:=bR w
 unfold J3.f
 intro H
 obtain⟨y105,aB⟩:=ey (([]:List Int):List Int)
 rw[←aB.1]at H
 revert H
 refine ia fun H'=>?_
 go_in
 go_wp2_with ((with_reducible refine gd 5 ?_);refine rl KI 3 ([]:List Int) [] (J7.none _ _) ?_;intro v106 w2 aF hb;(first|rw[←aB.1]at aF|(simp only[Int.reduceToNat]at aF;rw[←aB.1]at aF));have aG:=am (Kd.R_lower aF (C5 bz));replace HB:=bS hb;clear hb aF)
 go_loopg [3,7] k (fun kq v3 v7 w'=>∃ (aC:List Int) (aA:Int),v7=.int .i64 aA∧Aside0 (J3.l0 kq aC a0 aA=some r)∧Aside0 (kq≤k)∧Aside0 (Kd.R KI 3 w' w.heap.size (fun _=>True) v3 aC)∧Aside0 (Below w.heap.size w w'))
 case atStart=>exact⟨_,_,fz,H',lr,⟨rR aG⟩,⟨bz⟩⟩
 case round =>
 obtain⟨aC,aA,rfl,⟨H⟩,aJ,aE,HB⟩:=hrel
 cases gk with
 |zero=>cases H
 |succ k1 =>
 simp only[J3.l0]at H
 revert H
 refine iD ?_ ?_<;>intro c4b0
 ·refine il fun aI=>?_
  generalize aD:(aC++ [aA])=y108
  replace aD:=am aD.symm
  refine ia fun H'=>?_
  go_wp2_with ((with_reducible refine gb 10 12 ?_);at_builtin;refine ra KI underlying22 J9 u3 aC aA [.int .i64 aA] (fun _=>True) rfl (fun _ _=>trivial) (rR aE) bz (lm aI) ?_;intro v109 w6 ho hb hg hat;rw[←aD.1]at ho;replace HB:=am (hb);have aH:=am (ho);clear aE ho hb hg hat)
  go_roundg k1
  case measure=>exact lm aJ
  case rel=>exact⟨_,_,fz,H',la aJ,⟨rR aH⟩,⟨bz⟩⟩
 refine i1 ?_;rintro rfl
 go_wp2
 go_ret
 exact⟨_,fe,rR aE,bz⟩
def D7.l0:Nat→List Int→List Int→Int→Int→Option (Bool)
 |0,_,_,_,_=>none
 |k+1,b,c,d,a=>if a<d then(if 0≤a then(if a< (b.length:Int)then(if a< (c.length:Int)then(if(rd b a)=(rd c a)then(D7.l0 k b c d (wrap64 (a+1)))else(some false))else(none))else(none))else(none))else(some true)
def D7.f (k:Nat)(a b:List Int):Option (Bool):=if(a.length:Int)=(b.length:Int)then(D7.l0 k a b (a.length:Int) 0)else(some false)
theorem D7.mono_l:∀k,(∀y0 y1 y2 y3,S6 (D7.l0 k y0 y1 y2 y3) (D7.l0 (k+1) y0 y1 y2 y3))
 |0=>fun _ _ _ _ r h=>by simp[D7.l0]at h
 |k+1=>by
  have ih0:=D7.mono_l k
  ·intro y0 y1 y2 y3
   unfold D7.l0
   exact mo
theorem D7.mono:∀a0 a1 k,S6 (D7.f k a0 a1) (D7.f (k+1) a0 a1):=by
 intro a0 a1 k
 have ih0:=D7.mono_l k
 unfold D7.f
 exact mo
theorem D7.calls (k A0 c0 l0 A1 c1 l1 r w):Kd.C KI w A0 l0.length l0→l0.length≤c0→Kd.C KI w A1 l1.length l1→l1.length≤c1→D7.f k l0 l1=some r→
 Calls prog 71 #[.slice A0 l0.length c0,.slice A1 l1.length c1] w (pD w (.bool r)):=by
 refine pa fun aO HC0=>pa fun aP HC1=>?_
 unfold D7.f
 refine io ?_ ?_<;>intro c3
 ·have aF:=beq_iff_eq.mpr c3
  have aG:=bne_eq_false_iff_eq.mpr c3
  have aH:(l0.length==l1.length)=true:=by first|simpa using c3|(simp at c3 ⊢;omega)
  clear c3
  refine ia fun H'=>?_
  go_in
  go_wp2
  repeat(go_quiet (fail);try go_wp2)
  go_loopg [13] k (fun kq v13 w'=>∃ (aA:Int),v13=.int .i64 aA∧Aside0 (D7.l0 kq l0 l1 (l0.length:Int) aA=some r)∧Aside0 (kq≤k)∧Drawn0 w w')
  case atStart=>exact⟨_,fz,H',lr,dz⟩
  case round =>
  obtain⟨aA,rfl,⟨H⟩,aQ,⟨m1,rfl⟩⟩:=hrel
  cases gk with
  |zero=>cases H
  |succ k1 =>
  simp only[D7.l0]at H
  revert H
  refine iD ?_ ?_<;>intro c4b0
  ·refine U9 fun c5b0=>U9 fun c6b0=>U9 fun c7b0=>iE (fun aI aJ=>?_) fun c8 aI aJ=>?_
   ·refine ia fun H'=>?_
    obtain⟨aK,aL,aD,rfl,aB⟩:=ai aO.1 aA
    obtain⟨aM,aN,aE,rfl,aC⟩:=ai aP.1 aA
    go_wp2
    repeat(go_quiet (fail);try go_wp2)
    go_roundg k1
    case measure=>exact lm aQ
    case rel=>exact⟨_,fz,H',la aQ,dz⟩
   refine i1 ?_;rintro rfl
   obtain⟨aK,aL,aD,rfl,aB⟩:=ai aO.1 aA
   obtain⟨aM,aN,aE,rfl,aC⟩:=ai aP.1 aA
   go_wp2
   repeat(go_quiet (fail);try go_wp2)
   go_ret
   exact⟨fz,dz⟩
  refine i1 ?_;rintro rfl
  go_wp2
  repeat(go_quiet (fail);try go_wp2)
  go_ret
  exact⟨fz,dz⟩
 have aF:=beq_eq_false_iff_ne.mpr c3
 have aG:=bne_iff_ne.mpr c3
 have aH:(l0.length==l1.length)=false:=by first|simpa using c3|(simp at c3 ⊢;omega)
 refine i1 ?_;rintro rfl
 go_in
 go_wp2
 repeat(go_quiet (fail);try go_wp2)
 go_ret
 exact⟨fz,dz⟩
def F2.f (k:Nat)(a:List Int):Option Bool:=if a.length≤12 then((J3.f k (a.length:Int)).bind fun t=>(D7.f k (Go.Proofs.YtpiogigidgejpaaGreatDoor.Sorts.srt a) t))else some false
theorem F2.mono:∀a0 k,S6 (F2.f k a0) (F2.f (k+1) a0):=by
 intro a0 k
 unfold F2.f
 refine S6.ite (S6.bind (J3.mono _ _) (fun _=>D7.mono _ _ _)) (S6.refl _)
theorem F2.calls (k:Nat)(A0:Option Addr)(c0:Nat)(l0:List Int)(r:Bool)(w:World)(hr0:Kd.C KI w A0 l0.length l0)(hc0:l0.length≤c0)(h:F2.f k l0=some r) :
 Calls prog 42 #[.slice A0 l0.length c0] w (pB w (.bool r)):=by
 unfold F2.f at h
 by_cases c2:l0.length≤12
 ·rw[if_pos c2]at h
  obtain⟨t,ht,h⟩:=Option.bind_eq_some_iff.mp h
  have HS:=am (Go.Proofs.YtpiogigidgejpaaGreatDoor.Sorts.sorted_slice A0 c0 l0 w hr0 (by omega))
  have HT:=am ht
  have HH:=am h
  have cb:decide ((l0.length:Int)≤12)=true:=decide_eq_true (by omega)
  have cc:=decide_eq_true c2
  clear hr0 hc0 h ht c2
  go_in
  go_wp2_with (first
   |(go_at_call 73;refine(Go.Proofs.YtpiogigidgejpaaGreatDoor.Sorts.values_call _ _ _ _).mono ?_;rintro e w' ⟨rfl,rfl⟩)
   |(go_at_call 72;refine HS.1.mono ?_;rintro e w1 ⟨A1,c1,rfl,aB,aC,hb⟩;have HC1:=am aC;have Hc1:=am aB;have HB:=am hb;clear aC aB hb HS)
   |(go_at_call 63;refine(J3.calls k _ t _ HT.1).mono ?_;rintro e w2 ⟨v,rfl,hR,aD⟩;obtain⟨A2,c2,rfl,aE,aF⟩:=Kd.R_reads hR;have HC2:=am aF;have Hc2:=am aE;have aA:=am aD;clear hR aF aE aD)
   |(go_at_call 71;refine(D7.calls k _ _ _ _ _ _ r _ (Kd.C_below HC1.1 aA.1) Hc1.1 HC2.1 Hc2.1 HH.1).mono ?_;rintro e w3 ⟨rfl,hd⟩;have HD:=am hd;clear hd))
  go_ret
  exact⟨rfl,(HB.1.trans (aA.1.mono HB.1.size)).trans (HD.1.below.mono (Nat.le_trans HB.1.size aA.1.size))⟩
 ·rw[if_neg c2]at h
  obtain rfl:=Option.some.inj h
  have cb:decide ((l0.length:Int)≤12)=false:=decide_eq_false (by omega)
  have cc:=decide_eq_false c2
  clear hr0 hc0 h c2
  go_in
  go_wp2
  go_ret
  exact⟨rfl,Below.refl _ _⟩
def k7.f (a b:ByteArray):Option Bool:=match b.data.toList with|[c]=>some (decide (0≤Lib.indexByte a.data.toList c))|_=>none
theorem k7.calls (a0 a1:ByteArray)(r:Bool)(w:World)(h:k7.f a0 a1=some r) :
 Calls prog 43 #[.string a0,.string a1] w (pD w (.bool r)):=by
 unfold k7.f at h
 split at h
 ·rename_i c hc
  obtain rfl:=Option.some.inj h
  obtain⟨⟨l⟩⟩:=a1
  cases hc
  refine(Tryz.strings_Contains_one a0 c w).mono fun e w' hh=>?_
  obtain⟨he,rfl⟩:=hh
  exact⟨he,Drawn0.refl _⟩
 ·cases h
def W5.f (a b:ByteArray):Option (List ByteArray):=if a.size<4294967281∧1≤b.size then some (Lib.splitB b 0 (Lib.countB a b) a)else none
theorem W5.own (W:World)(e:Nat)(xs:List ByteArray)(hm:xs.length≤9223372036854775807):Kd.R Kd.string e (W.alloc (.cells (xs.map Value.string).toArray e)) W.heap.size (fun _=>True) (.slice (some ⟨W.heap.size,0,none⟩) xs.length xs.length) xs:=by
 refine⟨fun _ _=>trivial,xs.map Value.string,?_,by simp[Kd.string,Kd.scalar],fun i p hp=>?_⟩
 ·have h2:=World.ownsRow_lit (base:=W.heap.size) (e:=e) (size:=1) W (xs.map Value.string).toArray xs.length (Nat.le_refl _) (by simpa [maxLen]using hm) (by simp)
  rw[show Kd.string.sz=1 from rfl];simpa using h2
 ·obtain⟨hl,hx⟩:=List.getElem?_eq_some_iff.1 hp
  show((xs.map Value.string).drop (i*1)).take 1=[Value.string p]
  rw[Nat.mul_one,List.drop_eq_getElem_cons (by simpa using hl)]
  simp[hx]
theorem W5.calls (a0 a1:ByteArray)(r:List ByteArray)(w:World)(h:W5.f a0 a1=some r)(hL_:Go.Proofs.YtpiogigidgejpaaGreatDoor.Laid.A w) :
 Calls prog 57 #[.string a0,.string a1] w fun e w'=>∃v0_:Value,e=.returned v0_∧Kd.R Kd.string 9 w' w.heap.size (fun _=>True) v0_ r∧Below w.heap.size w w':=by
 unfold W5.f at h
 split at h
 ·rename_i hb
  obtain rfl:=Option.some.inj h
  obtain⟨_,⟨m,hm⟩,_⟩:=hL_
  refine(Tryz.strings_Split a0 a1 m w hb.1 hm hb.2).mono fun e w' hh=>?_
  obtain⟨he,hw⟩:=hh
  have hl:(Lib.splitB a1 0 (Lib.countB a0 a1) a0).length=Lib.countB a0 a1+1:=Lib.splitB_all a1 hb.2 0 _ a0 rfl
  refine⟨_,he,?_,?_⟩
  ·rw[hw,←hl]
   exact W5.own w _ _ (by rw[hl];have:=Lib.countB_le a1 hb.2 a0.size a0 (Nat.le_refl _);omega)
  ·rw[hw]
   exact R2 (Below.refl _ _) _
 ·cases h
def E3.f (a b c:Int):Option (Bool):=if a≥b then(some (decide (a≤c)))else(some false)
theorem E3.calls (a0 a1 a2 r w):E3.f a0 a1 a2=some r→
 Calls prog 83 #[.int .i64 a0,.int .i64 a1,.int .i64 a2] w (pD w (.bool r)):=by
 unfold E3.f
 refine iD (fun aA=>?_) fun aA=>?_
 ·refine i1 ?_;rintro rfl
  go_in
  go_wp2
  go_ret
  exact⟨fz,dz⟩
 refine i1 ?_;rintro rfl
 go_in
 go_wp2
 go_ret
 exact⟨fz,dz⟩
def S1.f (a:Int):Option ByteArray:=if -9223372036854775808≤a∧a≤9223372036854775807 then some ⟨(Lib.itoa a).toArray⟩else none
theorem S1.calls (a0:Int)(r:ByteArray)(w:World)(h:S1.f a0=some r)(hL_:Go.Proofs.YtpiogigidgejpaaGreatDoor.Laid.T w) :
 Calls prog 86 #[.int .i64 a0] w (pB w (.string r)):=by
 unfold S1.f at h
 split at h
 ·rename_i hb
  obtain rfl:=Option.some.inj h
  exact Go.Proofs.YtpiogigidgejpaaGreatDoor.Laid.itoa a0 hb.1 hb.2 w hL_
 ·cases h
def U1.f (a:ByteArray):Option (Int×Bool):=if a.size≤281474976710656 then(match Go.Proofs.YtpiogigidgejpaaGreatDoor.Laid.num a with
 |none=>some (0,false)
 |some v=>if 0≤v∧v≤999999 then(if(⟨(Lib.itoa v).toArray⟩:ByteArray).toList=a.toList then some (v,true)else some (0,false))else some (0,false))else none
theorem U1.calls (a0:ByteArray)(r1:Int)(r2:Bool)(w:World)(h:U1.f a0=some (r1,r2))(hL_:Go.Proofs.YtpiogigidgejpaaGreatDoor.Laid.A w) :
 Calls prog 58 #[.string a0] w (pB w (.tuple #[.int .i64 r1,.bool r2])):=by
 unfold U1.f at h
 by_cases hs:a0.size≤281474976710656
 ·rw[if_pos hs]at h
  have hA:=Go.Proofs.YtpiogigidgejpaaGreatDoor.Laid.atoi a0 hs w hL_
  have HL:=am hL_
  clear hL_
  cases hn:Go.Proofs.YtpiogigidgejpaaGreatDoor.Laid.num a0 with
  |none =>
   rw[hn]at h
   simp only[Option.some.injEq,Prod.mk.injEq]at h
   obtain⟨rfl,rfl⟩:=h
   have hB:=hA.mono (R':=fun e w'=>(∃ (v:Int) (t:Nat) (p:Value),e=.returned (.tuple #[.int .i64 v,.iface t p]))∧Below w.heap.size w w') (fun e w' hh=>⟨hh.1.elim (fun⟨v,hv,_⟩=>by rw[hn]at hv;cases hv) (fun hq=>hq.2),hh.2⟩)
   clear hA
   go_in
   go_wp2_with (first
    |((with_reducible refine J0 (f:=91) rfl ?_);refine gl' 8 func91 #[.string a0] ?_;refine hB.mono ?_;rintro e w1 ⟨⟨v,t,p,rfl⟩,hb⟩;refine⟨_,rfl,?_⟩;have HB:=am hb;clear hb))
   go_ret2
   exact⟨rfl,HB.1⟩
  |some v =>
   rw[hn]at h
   have hB:=hA.mono (R':=fun e w'=>e=.returned (.tuple #[.int .i64 v,.nilIface])∧Below w.heap.size w w') (fun e w' hh=>⟨hh.1.elim (fun⟨v',hv,he⟩=>by rw[hn]at hv;injection hv with hv;subst hv;exact he) (fun hq=>by rw[hn]at hq;cases hq.1),hh.2⟩)
   clear hA
   by_cases hr:0≤v∧v≤999999
   ·replace h:=(if_pos hr).symm.trans h
    have W1:E3.f v 0 999999=some true:=by unfold E3.f;simp[hr.1,hr.2]
    have I1:S1.f v=some ⟨(Lib.itoa v).toArray⟩:=by unfold S1.f;rw[if_pos (by omega)]
    have P1:=am W1
    have P2:=am I1
    clear W1 I1
    generalize hT:(⟨(Lib.itoa v).toArray⟩:ByteArray)=tt at h P2
    by_cases hq:tt.toList=a0.toList
    ·rw[if_pos hq]at h
     simp only[Option.some.injEq,Prod.mk.injEq]at h
     obtain⟨rfl,rfl⟩:=h
     have hqb:=beq_iff_eq.mpr hq
     go_in
     go_wp2_with (first
      |((with_reducible refine J0 (f:=91) rfl ?_);refine gl' 8 func91 #[.string a0] ?_;refine hB.mono ?_;rintro e w1 ⟨rfl,hb⟩;refine⟨_,rfl,?_⟩;have HB:=am hb;clear hb)
      |((with_reducible refine J0 (f:=83) rfl ?_);refine V3 (by rfl) ?_;refine gl' 15 func83 #[.int .i64 v,.int .i64 0,.int .i64 999999] ?_ (hargs:=by(try simp only[List.map_toArray,List.map_cons,List.map_nil]);first|done|rfl);refine(E3.calls v 0 999999 true _ P1.1).mono ?_;rintro e w2 ⟨rfl,hd⟩;refine⟨_,rfl,?_⟩;obtain⟨nd_,hnd_⟩:=hd;have aA:=am (show Below w.heap.size w w2 by rw[hnd_];exact J8 HB.1 _);clear HB hnd_ nd_;have HB:=aA;clear aA)
      |((with_reducible refine J0 (f:=86) rfl ?_);refine V3 (by rfl) ?_;refine gl' 20 func86 #[.int .i64 v] ?_ (hargs:=by(try simp only[List.map_toArray,List.map_cons,List.map_nil]);first|done|rfl);refine(S1.calls v tt _ P2.1 (HL.1.tab.below HB.1)).mono ?_;rintro e w3 ⟨rfl,hb⟩;refine⟨_,rfl,?_⟩;have aA:=am (E8 HB.1 hb);clear HB hb;have HB:=aA;clear aA))
     go_ret2
     exact⟨rfl,HB.1⟩
    ·rw[if_neg hq]at h
     simp only[Option.some.injEq,Prod.mk.injEq]at h
     obtain⟨rfl,rfl⟩:=h
     have hqb:=beq_eq_false_iff_ne.mpr hq
     go_in
     go_wp2_with (first
      |((with_reducible refine J0 (f:=91) rfl ?_);refine gl' 8 func91 #[.string a0] ?_;refine hB.mono ?_;rintro e w1 ⟨rfl,hb⟩;refine⟨_,rfl,?_⟩;have HB:=am hb;clear hb)
      |((with_reducible refine J0 (f:=83) rfl ?_);refine V3 (by rfl) ?_;refine gl' 15 func83 #[.int .i64 v,.int .i64 0,.int .i64 999999] ?_ (hargs:=by(try simp only[List.map_toArray,List.map_cons,List.map_nil]);first|done|rfl);refine(E3.calls v 0 999999 true _ P1.1).mono ?_;rintro e w2 ⟨rfl,hd⟩;refine⟨_,rfl,?_⟩;obtain⟨nd_,hnd_⟩:=hd;have aA:=am (show Below w.heap.size w w2 by rw[hnd_];exact J8 HB.1 _);clear HB hnd_ nd_;have HB:=aA;clear aA)
      |((with_reducible refine J0 (f:=86) rfl ?_);refine V3 (by rfl) ?_;refine gl' 20 func86 #[.int .i64 v] ?_ (hargs:=by(try simp only[List.map_toArray,List.map_cons,List.map_nil]);first|done|rfl);refine(S1.calls v tt _ P2.1 (HL.1.tab.below HB.1)).mono ?_;rintro e w3 ⟨rfl,hb⟩;refine⟨_,rfl,?_⟩;have aA:=am (E8 HB.1 hb);clear HB hb;have HB:=aA;clear aA))
     go_ret2
     exact⟨rfl,HB.1⟩
   ·replace h:=(if_neg hr).symm.trans h
    simp only[Option.some.injEq,Prod.mk.injEq]at h
    obtain⟨rfl,rfl⟩:=h
    have W1:E3.f v 0 999999=some false:=by unfold E3.f;simp;omega
    have P1:=am W1
    clear W1
    go_in
    go_wp2_with (first
     |((with_reducible refine J0 (f:=91) rfl ?_);refine gl' 8 func91 #[.string a0] ?_;refine hB.mono ?_;rintro e w1 ⟨rfl,hb⟩;refine⟨_,rfl,?_⟩;have HB:=am hb;clear hb)
     |((with_reducible refine J0 (f:=83) rfl ?_);refine V3 (by rfl) ?_;refine gl' 15 func83 #[.int .i64 v,.int .i64 0,.int .i64 999999] ?_ (hargs:=by(try simp only[List.map_toArray,List.map_cons,List.map_nil]);first|done|rfl);refine(E3.calls v 0 999999 false _ P1.1).mono ?_;rintro e w2 ⟨rfl,hd⟩;refine⟨_,rfl,?_⟩;obtain⟨nd_,hnd_⟩:=hd;have aA:=am (show Below w.heap.size w w2 by rw[hnd_];exact J8 HB.1 _);clear HB hnd_ nd_;have HB:=aA;clear aA))
    go_ret2
    exact⟨rfl,HB.1⟩
 ·rw[if_neg hs]at h;cases h
def P5.l0:Nat→List Int→List ByteArray→Int→Int→Option (List Int×Bool)
 |0,_,_,_,_=>none
 |k+1,b,c,e,a=>if a<e then(if 0≤a then(if a< (c.length:Int)then((U1.f (o9 ByteArray.empty c a)).bind fun d=>(if d.2=true then(if(b.length:Int)=1100 then(some (([]:List Int),false))else(if b.length<17592186044416 then(P5.l0 k (b++ [d.1]) c e (wrap64 (a+1)))else(none)))else(some (([]:List Int),false))))else(none))else(none))else(some (b,true))
def P5.f (k:Nat)(a:ByteArray):Option (List Int×Bool):=(some (([]:List Int):List Int)).bind fun c=>(if a.toList=([45]:List UInt8)then(some (c,true))else((W5.f a (⟨#[44]⟩:ByteArray)).bind fun b=>(P5.l0 k c b (b.length:Int) 0)))
theorem P5.calls (k a0 r1 r2 w):P5.f k a0=some (r1,r2)→Go.Proofs.YtpiogigidgejpaaGreatDoor.Laid.A w→
 Calls prog 23 #[.string a0] w (pT w KI 3 r1 r2):=by
 have HB:=bR w
 intro H
 refine pc fun HL_=>?_
 unfold P5.f at H
 revert H
 refine iy fun y113 aJ=>iE (fun bB bC=>?_) fun c2 bB bC=>?_
 ·refine i2 ?_;rintro rfl rfl
  go_in
  go_wp2_with ((with_reducible refine P8 (N:=9) rfl ?_);(try (refine V3 (by rfl) ?_;dsimp only));refine Kd.R_lit KI _ 3 ?hg (N:=9) ?hd (xs:=([]:List Int)) (inner:=[]) (ok:=fun _=>True) (okp:=fun _=>True) ?hr ?hp (fun _ hk=>hk) trivial (Below.refl _ _) (Nat.le_refl _) (by simp) ?_;(case hd=>rfl);(case hg=>rfl);(case hr=>first|(go_simp;done)|(go_simp;rfl));(case hp=>exact(J7.none _ _));intro bD w3 aV hb hg_ hnew_;clear hg_ hnew_;(first|rw[←aJ.1]at aV|(simp only[Int.reduceToNat]at aV;rw[←aJ.1]at aV));have aI:=am (Kd.R_lower aV (C5 bz));replace HB:=bS hb;clear hb aV)
  go_ret2
  exact⟨_,fe,rR aI,bz⟩
 refine ib fun aE A5=>ia fun H'=>?_
 go_in
 go_wp2_with (first|((with_reducible refine P8 (N:=9) rfl ?_);(try (refine V3 (by rfl) ?_;dsimp only));refine Kd.R_lit KI _ 3 ?hg (N:=9) ?hd (xs:=([]:List Int)) (inner:=[]) (ok:=fun _=>True) (okp:=fun _=>True) ?hr ?hp (fun _ hk=>hk) trivial (Below.refl _ _) (Nat.le_refl _) (by simp) ?_;(case hd=>rfl);(case hg=>rfl);(case hr=>first|(go_simp;done)|(go_simp;rfl));(case hp=>exact(J7.none _ _));intro bD w6 aW hb hg_ hnew_;clear hg_ hnew_;(first|rw[←aJ.1]at aW|(simp only[Int.reduceToNat]at aW;rw[←aJ.1]at aW));have aI:=am (Kd.R_lower aW (C5 bz));replace HB:=bS hb;clear hb aW)|((with_reducible refine ga 57 ?_);refine gs func57 (W5.calls a0 (⟨#[44]⟩:ByteArray) aE _ A5.1 lz) ?_;rintro v117 w8 ⟨bH,hb⟩;replace aI:=am (Kd.R_below (rR aI) hb);have aT:=am (Kd.R_lower bH (C5 bz));replace HB:=bS hb;clear hb bH;obtain⟨Ao9,co9,rfl⟩:=Kd.R_slice aT.1))
 go_loopg [4,16] k (fun kq v4 v16 w'=>∃ (aM:List Int) (aA:Int),v16=.int .i64 aA∧Aside0 (P5.l0 kq aM aE (aE.length:Int) aA=some (r1,r2))∧Aside0 (kq≤k)∧Aside0 (Kd.R KI 3 w' w.heap.size (fun _=>True) v4 aM)∧Aside0 (Kd.R Kd.string 9 w' w.heap.size (fun _=>True) (.slice Ao9 aE.length co9) aE)∧Aside0 (Below w.heap.size w w'))
 case atStart=>exact⟨_,_,fz,H',lr,⟨rR aI⟩,⟨rR aT⟩,⟨bz⟩⟩
 case round =>
 obtain⟨aM,aA,rfl,⟨H⟩,bI,aD,aC,HB⟩:=hrel
 cases gk with
 |zero=>cases H
 |succ k1 =>
 simp only[P5.l0]at H
 revert H
 refine iD ?_ ?_<;>intro bJ
 ·refine U9 fun bK=>U9 fun bL=>?_
  refine ib ?_;rintro⟨aN,t121⟩ bE
  refine iB ?_ ?_<;>rintro rfl
  ·refine iE (fun aX aY=>?_) fun c15 aX aY=>?_
   ·refine i2 ?_;rintro rfl rfl
    have aG:0≤(aA:Int):=od
    have aH:aA< (aE.length:Int):=od
    obtain⟨aU,aQ,aK⟩:=Kd.at_string (Kd.R_reads' aC.1).2.2 aA aG aH
    cases aQ
    replace aG:=eq_true aG
    replace aH:=eq_true aH
    go_wp2_with ((with_reducible refine ga 58 ?_);refine ge func58 (U1.calls (o9 ByteArray.empty aE aA) aN true _ bE.1 lz) ?_;rintro w16 hb;replace aD:=am (Kd.R_below (rR aD) hb);replace aC:=am (Kd.R_below (rR aC) hb);replace HB:=bS hb;clear hb;obtain⟨Ao17,co17,rfl⟩:=Kd.R_slice aD.1)
    go_ret2
    exact⟨_,fe,nz,bz⟩
   refine il fun aZ=>?_
   generalize aR:(aM++ [aN])=y122
   replace aR:=am aR.symm
   refine ia fun H'=>?_
   have aG:0≤(aA:Int):=od
   have aH:aA< (aE.length:Int):=od
   obtain⟨aU,aQ,aK⟩:=Kd.at_string (Kd.R_reads' aC.1).2.2 aA aG aH
   cases aQ
   replace aG:=eq_true aG
   replace aH:=eq_true aH
   go_wp2_with (first|((with_reducible refine ga 58 ?_);refine ge func58 (U1.calls (o9 ByteArray.empty aE aA) aN true _ bE.1 lz) ?_;rintro w19 hb;replace aD:=am (Kd.R_below (rR aD) hb);replace aC:=am (Kd.R_below (rR aC) hb);replace HB:=bS hb;clear hb;obtain⟨bF,bG,rfl⟩:=Kd.R_slice aD.1)|((with_reducible refine Y1 (b:=.append) (xs:=#[.tmp 32,.tmp 34]) rfl ?_);(try (refine V3 (by rfl) ?_;dsimp only));at_builtin;refine Kd.R_append KI (w0:=w) w.heap.size rfl (.tmp 32) (.tmp 34) 22 3 (.int .i64 0) 8 rfl underlying22 J9 rfl (by decide) (by omega) (.slice bF aM.length bG) aM aN [.int .i64 aN] (fun _=>True) (fun _=>False) rfl rfl ?aP (fun _ hk=>hk.elim) ?aF ?aO ?aB ?aS ?aL ?_;(case aP=>exact rfl);(case aB=>exact bz);(case aF=>exact(fun _ _=>trivial));(case aO=>exact(rR aD));(case aS=>exact(C5 bz));(case aL=>have:=aZ.1;omega);intro v123 w21 ho hb hg hat;rw[←aR.1]at ho;replace aC:=am (Kd.R_over' (rR aC) (Kd.R_typed (rR aD)) (by decide) hg);replace HB:=am (hb);have bA:=am (ho);clear aD ho hb hg hat))
   go_roundg k1
   case measure=>exact lm bI
   case rel=>exact⟨_,_,fz,H',la bI,⟨rR bA⟩,⟨rR aC⟩,⟨bz⟩⟩
  refine i2 ?_;rintro rfl rfl
  have aG:0≤(aA:Int):=od
  have aH:aA< (aE.length:Int):=od
  obtain⟨aU,aQ,aK⟩:=Kd.at_string (Kd.R_reads' aC.1).2.2 aA aG aH
  cases aQ
  replace aG:=eq_true aG
  replace aH:=eq_true aH
  go_wp2_with ((with_reducible refine ga 58 ?_);refine ge func58 (U1.calls (o9 ByteArray.empty aE aA) aN false _ bE.1 lz) ?_;rintro w22 hb;replace aD:=am (Kd.R_below (rR aD) hb);replace aC:=am (Kd.R_below (rR aC) hb);replace HB:=bS hb;clear hb)
  go_ret2
  exact⟨_,fe,nz,bz⟩
 refine i2 ?_;rintro rfl rfl
 go_wp2
 go_ret2
 exact⟨_,fe,rR aD,bz⟩
mutual
def G5.j0:Nat→ByteArray→Bool→Option (ByteArray×Bool)
 |0,_,_=>none
 |k+1,a,b=>if b=true then(some ((⟨#[108]⟩:ByteArray),true))else(if a.toList=([110,101,120,116]:List UInt8)then(G5.j1 k a (a.toList== ([110,101,120,116]:List UInt8)))else(if a.toList=([116,114,111,116]:List UInt8)then(G5.j1 k a (a.toList== ([116,114,111,116]:List UInt8)))else(if a.toList=([115,104,111,119]:List UInt8)then(G5.j1 k a (a.toList== ([115,104,111,119]:List UInt8)))else(if a.toList=([114,97,110,107]:List UInt8)then(G5.j1 k a (a.toList== ([114,97,110,107]:List UInt8)))else(G5.j1 k a (a.toList== ([115,105,103,110]:List UInt8)))))))
def G5.j1:Nat→ByteArray→Bool→Option (ByteArray×Bool)
 |0,_,_=>none
 |k+1,a,b=>if b=true then(some ((⟨#[]⟩:ByteArray),true))else(if a.toList=([115,119,97,112]:List UInt8)then(G5.j2 k a (a.toList== ([115,119,97,112]:List UInt8)))else(if a.toList=([103,114,97,121]:List UInt8)then(G5.j2 k a (a.toList== ([103,114,97,121]:List UInt8)))else(if a.toList=([117,110,103,114,97,121]:List UInt8)then(G5.j2 k a (a.toList== ([117,110,103,114,97,121]:List UInt8)))else(if a.toList=([104,97,108,118,101,115]:List UInt8)then(G5.j2 k a (a.toList== ([104,97,108,118,101,115]:List UInt8)))else(if a.toList=([103,114,111,119,116,104]:List UInt8)then(G5.j2 k a (a.toList== ([103,114,111,119,116,104]:List UInt8)))else(if a.toList=([98,97,108,97,110,99,101,100]:List UInt8)then(G5.j2 k a (a.toList== ([98,97,108,97,110,99,101,100]:List UInt8)))else(G5.j2 k a (a.toList== ([98,114,117,105,106,110]:List UInt8)))))))))
def G5.j2:Nat→ByteArray→Bool→Option (ByteArray×Bool)
 |0,_,_=>none
 |k+1,a,b=>if b=true then(some ((⟨#[110,110]⟩:ByteArray),true))else(if a.toList=([114,101,118,101,114,115,101]:List UInt8)then(G5.j3 k a (a.toList== ([114,101,118,101,114,115,101]:List UInt8)))else(if a.toList=([114,111,116,97,116,101]:List UInt8)then(G5.j3 k a (a.toList== ([114,111,116,97,116,101]:List UInt8)))else(if a.toList=([112,97,105,114,115]:List UInt8)then(G5.j3 k a (a.toList== ([112,97,105,114,115]:List UInt8)))else(G5.j3 k a (a.toList== ([115,117,112,101,114]:List UInt8))))))
def G5.j3:Nat→ByteArray→Bool→Option (ByteArray×Bool)
 |0,_,_=>none
 |k+1,a,b=>if b=true then(some ((⟨#[110]⟩:ByteArray),true))else(if a.toList=([109,105,120,101,100]:List UInt8)then(some ((⟨#[108,110]⟩:ByteArray),true))else(if a.toList=([99,104,111,111,115,101]:List UInt8)then(some ((⟨#[110,110,110]⟩:ByteArray),true))else(if a.toList=([114,101,118,111,108,118,101]:List UInt8)then(some ((⟨#[110,110,110]⟩:ByteArray),true))else(some ((⟨#[]⟩:ByteArray),false)))))
end
def G5.f (k:Nat)(a:ByteArray):Option (ByteArray×Bool):=if a.toList=([116,97,107,101]:List UInt8)then(G5.j0 k a (a.toList== ([116,97,107,101]:List UInt8)))else(G5.j0 k a (a.toList== ([102,97,99,116,111,114,115]:List UInt8)))
theorem G5.calls (k a0 r1 r2 w):G5.f k a0=some (r1,r2)→
 Calls prog 75 #[.string a0] w (pD w (.tuple #[.string r1,.bool r2])):=by
 unfold G5.f
 refine ia fun bX=>?_
 go_in
 go_upto_if 5 with(fail)
 go_cut [5] (fun v5 wc=>∃ (kq:Nat) (aJ:Bool),v5=.bool aJ∧Aside0 (G5.j0 kq a0 aJ=some (r1,r2))∧Aside0 (kq≤k)∧Drawn0 w wc)
 case first =>
  have H:=bX.1
  clear bX
  revert H;refine io ?_ ?_<;>intro c3 H
  ·have aF:=beq_iff_eq.mpr c3
   have bY:=bne_eq_false_iff_eq.mpr c3
   clear c3
   (first|rw[aF]|(simp only[P9,i6];rw[aF])|skip)
   have H':=am H
   clear H
   go_wp2
   go_meet
   case rel=>exact⟨_,((a0.toList== ([116,97,107,101]:List UInt8))),fz,H',lo,dz⟩
  have aF:=beq_eq_false_iff_ne.mpr c3
  have bY:=bne_iff_ne.mpr c3
  (first|rw[aF]|(simp only[P9,i6];rw[aF])|skip)
  have H':=am H
  clear H
  go_wp2
  go_meet
  case rel=>exact⟨_,((a0.toList== ([102,97,99,116,111,114,115]:List UInt8))),fz,H',lo,dz⟩
 case rest =>
 clear bX
 obtain⟨kq,aJ,rfl,⟨H⟩,aC,⟨mc1,rfl⟩⟩:=hcut
 cases kq with
 |zero=>cases H
 |succ kj1 =>
 simp only[G5.j0]at H
 replace H:=jb H;rcases H with⟨rfl,H⟩|⟨rfl,H⟩
 ·replace H:=s2 H;obtain⟨rfl,rfl⟩:=H
  go_wp2
  go_ret2
  exact⟨fz,dz⟩
 have bZ:=am H
 clear H
 go_upto_if 8 with(fail)
 go_cut [8] (fun v8 wc=>∃ (kq:Nat) (aK:Bool),v8=.bool aK∧Aside0 (G5.j1 kq a0 aK=some (r1,r2))∧Aside0 (kq≤kj1)∧Drawn0 w wc)
 case first =>
  have H:=bZ.1
  clear bZ
  revert H;refine io ?_ ?_<;>intro c6 H
  ·have aG:=beq_iff_eq.mpr c6
   have cA:=bne_eq_false_iff_eq.mpr c6
   clear c6
   (first|rw[aG]|(simp only[P9,i6];rw[aG])|skip)
   have H':=am H
   clear H
   go_wp2
   go_meet
   case rel=>exact⟨_,((a0.toList== ([110,101,120,116]:List UInt8))),fz,H',⟨by have:=aC.1;first|omega|exact Nat.le_refl _⟩,dz⟩
  have aG:=beq_eq_false_iff_ne.mpr c6
  have cA:=bne_iff_ne.mpr c6
  (first|rw[aG]|(simp only[P9,i6];rw[aG])|skip)
  revert H;refine io ?_ ?_<;>intro c7 H
  ·have cB:=beq_iff_eq.mpr c7
   have cC:=bne_eq_false_iff_eq.mpr c7
   clear c7
   have H':=am H
   clear H
   go_wp2
   go_meet
   case rel=>exact⟨_,((a0.toList== ([116,114,111,116]:List UInt8))),fz,H',⟨by have:=aC.1;first|omega|exact Nat.le_refl _⟩,dz⟩
  have cB:=beq_eq_false_iff_ne.mpr c7
  have cC:=bne_iff_ne.mpr c7
  revert H;refine io ?_ ?_<;>intro c8 H
  ·have cD:=beq_iff_eq.mpr c8
   have cE:=bne_eq_false_iff_eq.mpr c8
   clear c8
   have H':=am H
   clear H
   go_wp2
   go_meet
   case rel=>exact⟨_,((a0.toList== ([115,104,111,119]:List UInt8))),fz,H',⟨by have:=aC.1;first|omega|exact Nat.le_refl _⟩,dz⟩
  have cD:=beq_eq_false_iff_ne.mpr c8
  have cE:=bne_iff_ne.mpr c8
  revert H;refine io ?_ ?_<;>intro c9 H
  ·have cF:=beq_iff_eq.mpr c9
   have cG:=bne_eq_false_iff_eq.mpr c9
   clear c9
   have H':=am H
   clear H
   go_wp2
   go_meet
   case rel=>exact⟨_,((a0.toList== ([114,97,110,107]:List UInt8))),fz,H',⟨by have:=aC.1;first|omega|exact Nat.le_refl _⟩,dz⟩
  have cF:=beq_eq_false_iff_ne.mpr c9
  have cG:=bne_iff_ne.mpr c9
  have H':=am H
  clear H
  go_wp2
  go_meet
  case rel=>exact⟨_,((a0.toList== ([115,105,103,110]:List UInt8))),fz,H',⟨by have:=aC.1;first|omega|exact Nat.le_refl _⟩,dz⟩
 case rest =>
 clear bZ
 obtain⟨kq,aK,rfl,⟨H⟩,aH,⟨mc4,rfl⟩⟩:=hcut
 cases kq with
 |zero=>cases H
 |succ kj4 =>
 simp only[G5.j1]at H
 replace H:=jb H;rcases H with⟨rfl,H⟩|⟨rfl,H⟩
 ·replace H:=s2 H;obtain⟨rfl,rfl⟩:=H
  go_wp2
  go_ret2
  exact⟨fz,dz⟩
 have aL:=am H
 clear H
 go_upto_if 14 with(fail)
 go_cut [14] (fun v14 wc=>∃ (kq:Nat) (aD:Bool),v14=.bool aD∧Aside0 (G5.j2 kq a0 aD=some (r1,r2))∧Aside0 (kq≤kj4)∧Drawn0 w wc)
 case first =>
  have H:=aL.1
  clear aL
  revert H;refine io ?_ ?_<;>intro aN H
  ·have aA:=beq_iff_eq.mpr aN
   have aO:=bne_eq_false_iff_eq.mpr aN
   clear aN
   (first|rw[aA]|(simp only[P9,i6];rw[aA])|skip)
   have H':=am H
   clear H
   go_wp2
   go_meet
   case rel=>exact⟨_,((a0.toList== ([115,119,97,112]:List UInt8))),fz,H',⟨by have:=aC.1;have:=aH.1;first|omega|exact Nat.le_refl _⟩,dz⟩
  have aA:=beq_eq_false_iff_ne.mpr aN
  have aO:=bne_iff_ne.mpr aN
  (first|rw[aA]|(simp only[P9,i6];rw[aA])|skip)
  revert H;refine io ?_ ?_<;>intro aP H
  ·have aQ:=beq_iff_eq.mpr aP
   have aR:=bne_eq_false_iff_eq.mpr aP
   clear aP
   have H':=am H
   clear H
   go_wp2
   go_meet
   case rel=>exact⟨_,((a0.toList== ([103,114,97,121]:List UInt8))),fz,H',⟨by have:=aC.1;have:=aH.1;first|omega|exact Nat.le_refl _⟩,dz⟩
  have aQ:=beq_eq_false_iff_ne.mpr aP
  have aR:=bne_iff_ne.mpr aP
  revert H;refine io ?_ ?_<;>intro aS H
  ·have aT:=beq_iff_eq.mpr aS
   have aU:=bne_eq_false_iff_eq.mpr aS
   clear aS
   have H':=am H
   clear H
   go_wp2
   go_meet
   case rel=>exact⟨_,((a0.toList== ([117,110,103,114,97,121]:List UInt8))),fz,H',⟨by have:=aC.1;have:=aH.1;first|omega|exact Nat.le_refl _⟩,dz⟩
  have aT:=beq_eq_false_iff_ne.mpr aS
  have aU:=bne_iff_ne.mpr aS
  revert H;refine io ?_ ?_<;>intro aV H
  ·have aW:=beq_iff_eq.mpr aV
   have aX:=bne_eq_false_iff_eq.mpr aV
   clear aV
   have H':=am H
   clear H
   go_wp2
   go_meet
   case rel=>exact⟨_,((a0.toList== ([104,97,108,118,101,115]:List UInt8))),fz,H',⟨by have:=aC.1;have:=aH.1;first|omega|exact Nat.le_refl _⟩,dz⟩
  have aW:=beq_eq_false_iff_ne.mpr aV
  have aX:=bne_iff_ne.mpr aV
  revert H;refine io ?_ ?_<;>intro aY H
  ·have aZ:=beq_iff_eq.mpr aY
   have bA:=bne_eq_false_iff_eq.mpr aY
   clear aY
   have H':=am H
   clear H
   go_wp2
   go_meet
   case rel=>exact⟨_,((a0.toList== ([103,114,111,119,116,104]:List UInt8))),fz,H',⟨by have:=aC.1;have:=aH.1;first|omega|exact Nat.le_refl _⟩,dz⟩
  have aZ:=beq_eq_false_iff_ne.mpr aY
  have bA:=bne_iff_ne.mpr aY
  revert H;refine io ?_ ?_<;>intro bB H
  ·have bC:=beq_iff_eq.mpr bB
   have bD:=bne_eq_false_iff_eq.mpr bB
   clear bB
   have H':=am H
   clear H
   go_wp2
   go_meet
   case rel=>exact⟨_,((a0.toList== ([98,97,108,97,110,99,101,100]:List UInt8))),fz,H',⟨by have:=aC.1;have:=aH.1;first|omega|exact Nat.le_refl _⟩,dz⟩
  have bC:=beq_eq_false_iff_ne.mpr bB
  have bD:=bne_iff_ne.mpr bB
  have H':=am H
  clear H
  go_wp2
  go_meet
  case rel=>exact⟨_,((a0.toList== ([98,114,117,105,106,110]:List UInt8))),fz,H',⟨by have:=aC.1;have:=aH.1;first|omega|exact Nat.le_refl _⟩,dz⟩
 case rest =>
 clear aL
 obtain⟨kq,aD,rfl,⟨H⟩,aI,⟨mc10,rfl⟩⟩:=hcut
 cases kq with
 |zero=>cases H
 |succ cH =>
 simp only[G5.j2]at H
 replace H:=jb H;rcases H with⟨rfl,H⟩|⟨rfl,H⟩
 ·replace H:=s2 H;obtain⟨rfl,rfl⟩:=H
  go_wp2
  go_ret2
  exact⟨fz,dz⟩
 have aM:=am H
 clear H
 go_upto_if 22 with(fail)
 go_cut [22] (fun v22 wc=>∃ (kq:Nat) (aE:Bool),v22=.bool aE∧Aside0 (G5.j3 kq a0 aE=some (r1,r2))∧Aside0 (kq≤cH)∧Drawn0 w wc)
 case first =>
  have H:=aM.1
  clear aM
  revert H;refine io ?_ ?_<;>intro bE H
  ·have aB:=beq_iff_eq.mpr bE
   have bF:=bne_eq_false_iff_eq.mpr bE
   clear bE
   (first|rw[aB]|(simp only[P9,i6];rw[aB])|skip)
   have H':=am H
   clear H
   go_wp2
   go_meet
   case rel=>exact⟨_,((a0.toList== ([114,101,118,101,114,115,101]:List UInt8))),fz,H',⟨by have:=aC.1;have:=aH.1;have:=aI.1;first|omega|exact Nat.le_refl _⟩,dz⟩
  have aB:=beq_eq_false_iff_ne.mpr bE
  have bF:=bne_iff_ne.mpr bE
  (first|rw[aB]|(simp only[P9,i6];rw[aB])|skip)
  revert H;refine io ?_ ?_<;>intro bG H
  ·have bH:=beq_iff_eq.mpr bG
   have bI:=bne_eq_false_iff_eq.mpr bG
   clear bG
   have H':=am H
   clear H
   go_wp2
   go_meet
   case rel=>exact⟨_,((a0.toList== ([114,111,116,97,116,101]:List UInt8))),fz,H',⟨by have:=aC.1;have:=aH.1;have:=aI.1;first|omega|exact Nat.le_refl _⟩,dz⟩
  have bH:=beq_eq_false_iff_ne.mpr bG
  have bI:=bne_iff_ne.mpr bG
  revert H;refine io ?_ ?_<;>intro bJ H
  ·have bK:=beq_iff_eq.mpr bJ
   have bL:=bne_eq_false_iff_eq.mpr bJ
   clear bJ
   have H':=am H
   clear H
   go_wp2
   go_meet
   case rel=>exact⟨_,((a0.toList== ([112,97,105,114,115]:List UInt8))),fz,H',⟨by have:=aC.1;have:=aH.1;have:=aI.1;first|omega|exact Nat.le_refl _⟩,dz⟩
  have bK:=beq_eq_false_iff_ne.mpr bJ
  have bL:=bne_iff_ne.mpr bJ
  have H':=am H
  clear H
  go_wp2
  go_meet
  case rel=>exact⟨_,((a0.toList== ([115,117,112,101,114]:List UInt8))),fz,H',⟨by have:=aC.1;have:=aH.1;have:=aI.1;first|omega|exact Nat.le_refl _⟩,dz⟩
 case rest =>
 clear aM
 obtain⟨kq,aE,rfl,⟨H⟩,HJ18,⟨mc18,rfl⟩⟩:=hcut
 cases kq with
 |zero=>cases H
 |succ kj18 =>
 simp only[G5.j3]at H
 replace H:=jb H;rcases H with⟨rfl,H⟩|⟨rfl,H⟩
 ·replace H:=s2 H;obtain⟨rfl,rfl⟩:=H
  go_wp2
  go_ret2
  exact⟨fz,dz⟩
 revert H;refine io ?_ ?_<;>intro bM H
 ·have bN:=beq_iff_eq.mpr bM
  have bO:=bne_eq_false_iff_eq.mpr bM
  clear bM
  replace H:=s2 H;obtain⟨rfl,rfl⟩:=H
  go_wp2
  go_ret2
  exact⟨fz,dz⟩
 have bN:=beq_eq_false_iff_ne.mpr bM
 have bO:=bne_iff_ne.mpr bM
 revert H;refine io ?_ ?_<;>intro bP H
 ·have bQ:=beq_iff_eq.mpr bP
  have bT:=bne_eq_false_iff_eq.mpr bP
  clear bP
  replace H:=s2 H;obtain⟨rfl,rfl⟩:=H
  go_wp2
  go_ret2
  exact⟨fz,dz⟩
 have bQ:=beq_eq_false_iff_ne.mpr bP
 have bT:=bne_iff_ne.mpr bP
 revert H;refine io ?_ ?_<;>intro bU H
 ·have bV:=beq_iff_eq.mpr bU
  have bW:=bne_eq_false_iff_eq.mpr bU
  clear bU
  replace H:=s2 H;obtain⟨rfl,rfl⟩:=H
  go_wp2
  go_ret2
  exact⟨fz,dz⟩
 have bV:=beq_eq_false_iff_ne.mpr bU
 have bW:=bne_iff_ne.mpr bU
 replace H:=s2 H;obtain⟨rfl,rfl⟩:=H
 go_wp2
 go_ret2
 exact⟨fz,dz⟩
def M5.f (a:List Int):Option (List Int):=(some (([]:List Int):List Int)).bind fun b=>(if b.length+a.length<17592186044416 then(some (b++a))else(none))
theorem M5.calls (A0 c0 l0 r w):Kd.C KI w A0 l0.length l0→l0.length≤c0→M5.f l0=some r→
 Calls prog 76 #[.slice A0 l0.length c0] w (pR w KI 3 r):=by
 have HB:=bR w
 refine pa fun HR0 HC0=>?_
 unfold M5.f
 refine iy fun aD aB=>il fun aG=>?_
 generalize aA:(aD++l0)=y128
 replace aA:=am aA.symm
 refine i1 ?_;rintro rfl
 go_in
 go_wp2_with (first|((with_reducible refine gd 3 ?_);refine rl KI 3 ([]:List Int) [] (J7.none _ _) ?_;intro aH w3 aE hb;(first|rw[←aB.1]at aE|(simp only[Int.reduceToNat]at aE;rw[←aB.1]at aE));have aC:=am (Kd.R_lower aE (C5 bz));replace HB:=bS hb;clear hb aE)|((with_reducible refine gb 3 4 ?_);at_builtin;refine rq KI underlying22 J9 aH aD l0 (fun _=>True) (by repeat(first|exact(Kd.C_below HR0.1 HB.1)|(with_reducible refine Kd.C_alloc ?_ _)|(with_reducible refine Kd.C_drewN ?_ _)|(with_reducible refine Kd.C_drew ?_))) (fun _ _=>trivial) (rR aC) bz (lm aG) ?_;intro v129 w5 ho hb hg hat;rw[←aA.1]at ho;replace HB:=am (hb);have aF:=am (ho);clear aC ho hb hg hat))
 go_ret
 exact⟨_,fe,rR aF,bz⟩
def E5.l0:Nat→List Int→Int→Int→Int→Option (Int)
 |0,_,_,_,_=>none
 |k+1,b,c,d,a=>if a<d then(if 0≤a then(if a< (b.length:Int)then(if c=(rd b a)then(some a)else(E5.l0 k b c d (wrap64 (a+1))))else(none))else(none))else(some (-1))
def E5.f (k:Nat)(a:List Int)(b:Int):Option (Int):=E5.l0 k a b (a.length:Int) 0
theorem E5.mono_l:∀k,(∀y0 y1 y2 y3,S6 (E5.l0 k y0 y1 y2 y3) (E5.l0 (k+1) y0 y1 y2 y3))
 |0=>fun _ _ _ _ r h=>by simp[E5.l0]at h
 |k+1=>by
  have ih0:=E5.mono_l k
  ·intro y0 y1 y2 y3
   unfold E5.l0
   exact mo
theorem E5.mono:∀a0 a1 k,S6 (E5.f k a0 a1) (E5.f (k+1) a0 a1):=by
 intro a0 a1 k
 have ih0:=E5.mono_l k
 unfold E5.f
 exact mo
theorem E5.calls (k A0 c0 l0 a1 r w):Kd.C KI w A0 l0.length l0→l0.length≤c0→E5.f k l0 a1=some r→
 Calls prog 109 #[.slice A0 l0.length c0,.int .i64 a1] w (pD w (.int .i64 r)):=by
 refine pa fun aH HC0=>?_
 unfold E5.f
 refine ia fun H'=>?_
 go_in
 go_wp2
 go_loopg [8] k (fun kq v8 w'=>∃ (aA:Int),v8=.int .i64 aA∧Aside0 (E5.l0 kq l0 a1 (l0.length:Int) aA=some r)∧Aside0 (kq≤k)∧Drawn0 w w')
 case atStart=>exact⟨_,fz,H',lr,dz⟩
 case round =>
 obtain⟨aA,rfl,⟨H⟩,aI,⟨m1,rfl⟩⟩:=hrel
 cases gk with
 |zero=>cases H
 |succ k1 =>
 simp only[E5.l0]at H
 revert H
 refine iD ?_ ?_<;>intro c3b0
 ·refine U9 fun c4b0=>U9 fun c5b0=>iE (fun aD aE=>?_) fun c6 aD aE=>?_
  ·refine i1 ?_;rintro rfl
   obtain⟨aF,aG,aC,rfl,aB⟩:=ai aH.1 aA
   go_wp2
   go_ret
   exact⟨fz,dz⟩
  refine ia fun H'=>?_
  obtain⟨aF,aG,aC,rfl,aB⟩:=ai aH.1 aA
  go_wp2
  go_roundg k1
  case measure=>exact lm aI
  case rel=>exact⟨_,fz,H',la aI,dz⟩
 refine i1 ?_;rintro rfl
 go_wp2
 go_ret
 exact⟨fz,dz⟩
def W6.f:Nat→List Int→Option Int
 |0,_=>none
 |k+1,l=>if(l.length:Int)=0 then some 0 else((E5.f k l (wrap64 ((l.length:Int) - 1))).bind fun p=>((M5.f l).bind fun c=>(if 0≤p then(if p.toNat+1≤c.length then(if p<1000000000000 then((W6.f k (c.take p.toNat++c.drop (p.toNat+1))).bind fun q=>(if Int.tmod q 2=0 then some (wrap64 ((wrap64 (q* (l.length:Int)))+ (wrap64 ((wrap64 ((l.length:Int) - 1)) - p))))else some (wrap64 ((wrap64 (q* (l.length:Int)))+p))))else none)else none)else none)))
theorem W6.calls (k:Nat):∀ (A0:Option Addr) (c0:Nat) (l0:List Int) (r:Int) (w:World) (hr0:Kd.C KI w A0 l0.length l0) (hc0:l0.length≤c0) (h:W6.f k l0=some r),
 Calls prog 82 #[.slice A0 l0.length c0] w (pB w (.int .i64 r)):=by
 induction k using Nat.strongRecOn with
 |_ k ih =>
 intro A0 c0 l0 r w hr0 hc0 h
 cases k with
 |zero=>exact absurd h (by simp[W6.f])
 |succ k =>
 have H:=h
 simp only[W6.f]at H
 clear h
 have aB:=am hr0
 have aC:=am hc0
 clear hr0 hc0
 have HB:=bR w
 revert H;refine io ?_ ?_<;>intro c1 H
 ·have c1b:=beq_iff_eq.mpr c1
  clear c1
  obtain rfl:=Option.some.inj H
  clear H
  go_in
  go_wp2
  go_ret
  exact⟨rfl,HB.1⟩
 have c1b:=beq_eq_false_iff_ne.mpr c1
 have c1c:¬(l0=[]):=fun h_=>c1 (by rw[h_];rfl)
 clear c1
 obtain⟨p,A1,H⟩:=Option.bind_eq_some_iff.mp H
 replace A1:=am A1
 obtain⟨c,A2,H⟩:=Option.bind_eq_some_iff.mp H
 replace A2:=am A2
 by_cases c3:0≤p
 ·rw[if_pos c3]at H
  obtain⟨i,rfl⟩:=Int.eq_ofNat_of_zero_le c3
  rw[Int.toNat_natCast]at H
  by_cases c4:i+1≤c.length
  ·rw[if_pos c4]at H
   by_cases c5:(i:Int)<1000000000000
   ·rw[if_pos c5]at H
    have hq1:wrap64 ((i:Int)+1)=((i+1:Nat):Int):=by unfold wrap64;omega
    have C1:=am c4
    clear c3 c4 c5
    obtain⟨q,A3,H⟩:=Option.bind_eq_some_iff.mp H
    replace A3:=am A3
    have H':=am H
    clear H
    go_in
    go_upto_if 23 with(first
     |((with_reducible refine J0 (f:=109) rfl ?_);refine gl' 13 func109 #[.slice A0 l0.length c0,.int .i64 (wrap64 ((l0.length:Int) - 1))] ?_;(with_reducible refine(E5.calls k _ _ l0 (wrap64 ((l0.length:Int) - 1)) (i:Int) _ ?side1 ?side2 A1.1).mono ?_);(case side1=>exact M8 aB.1);(case side2=>exact aC.1);rintro e w' ⟨rfl,⟨nd,rfl⟩⟩;refine⟨_,rfl,?_⟩)
     |((with_reducible refine J0 (f:=76) rfl ?_);refine gl' 15 func76 #[.slice A0 l0.length c0] ?_;(with_reducible refine(M5.calls _ _ l0 c _ ?side1 ?side2 A2.1).mono ?_);(case side1=>exact M8 aB.1);(case side2=>exact aC.1);rintro e w15 ⟨v15,rfl,ho,hb⟩;refine⟨_,rfl,?_⟩;have aD:=am (Kd.R_lower ho (C5 bz));have aA:=am (E8 bz hb);clear HB;have HL:=aD;have HB:=aA;clear aD aA hb ho;obtain⟨AL,cL,rfl⟩:=Kd.R_slice HL.1)
     |((with_reducible refine J0 (f:=110) rfl ?_);refine gl' 19 func110 #[.slice AL c.length cL,.int .i64 (i:Nat),.int .i64 ((i+1:Nat):Int)] ?_ (hargs:=by(try simp only[List.map_toArray,List.map_cons,List.map_nil]);first|done|rfl|(simp only[hq1];rfl)|(simp only[Int.natCast_add];rfl)|(simp;done));refine(Go.Proofs.YtpiogigidgejpaaGreatDoor.Dels.delete_own2 i (i+1) (rR HL) (by omega) C1.1).mono ?_;rintro e w19 ⟨g,eg,hbg,rfl,ho,hb,_⟩;refine⟨_,rfl,?_⟩;have aA:=am (Below.trans bz (hb w.heap.size hbg));clear HB HL;have HL:=am ho;have HB:=aA;clear aA hb ho hbg eg;obtain⟨m,em,HM⟩:∃m,m=c.length - (i+1 - i)∧m=(c.take i++c.drop (i+1)).length:=⟨_,rfl,by have:=C1.1;rw[List.length_append,List.length_take,List.length_drop];omega⟩;rw[←em]at HL ⊢;clear em;subst HM)
     |((with_reducible refine J0 (f:=82) rfl ?_);refine gl' 20 func82 #[.slice AL (c.take i++c.drop (i+1)).length cL] ?_;(with_reducible refine(ih k (Nat.lt_succ_self k) _ _ (c.take i++c.drop (i+1)) q _ ?side1 ?side2 A3.1).mono ?_);(case side1=>exact M8 (Kd.R_reads' HL.1).2.2);(case side2=>exact(Kd.R_reads' HL.1).2.1);rintro e w20 ⟨rfl,hb⟩;refine⟨_,rfl,?_⟩;have aA:=am (E8 bz hb);clear HB HL;have HB:=aA;clear aA hb))
    have H:=H'.1
    revert H;refine io ?_ ?_<;>intro c6 H
    ·have c6b:=beq_iff_eq.mpr c6
     have c6c:(Int.tmod q 2=0)=True:=eq_true c6
     clear c6
     obtain rfl:=Option.some.inj H
     clear H
     go_wp2
     go_ret
     exact⟨fz,bz⟩
    have c6b:=beq_eq_false_iff_ne.mpr c6
    have c6c:(Int.tmod q 2=0)=False:=eq_false c6
    clear c6
    obtain rfl:=Option.some.inj H
    clear H
    go_wp2
    go_ret
    exact⟨fz,bz⟩
   ·rw[if_neg c5]at H;exact absurd H (by simp)
  ·rw[if_neg c4]at H;exact absurd H (by simp)
 ·rw[if_neg c3]at H;exact absurd H (by simp)
def Q7.f (k:Nat)(a:List Int):Option (Int×Bool):=(F2.f k a).bind fun b=>(if b=true then((W6.f k a).bind fun c=>(some (c,true)))else(some (0,false)))
theorem Q7.calls (k A0 c0 l0 r1 r2 w):Kd.C KI w A0 l0.length l0→l0.length≤c0→Q7.f k l0=some (r1,r2)→
 Calls prog 49 #[.slice A0 l0.length c0] w (pB w (.tuple #[.int .i64 r1,.bool r2])):=by
 have HB:=bR w
 refine pa fun aA aB=>?_
 unfold Q7.f
 refine ib fun t132 A2=>iB ?_ ?_<;>rintro rfl
 ·refine ib fun aC A4=>i2 ?_;rintro rfl rfl
  go_in
  go_wp2_with (first|((with_reducible refine ga 42 ?_);refine gB func42 (F2.calls k A0 c0 l0 true _ (M8 aA.1) aB.1 A2.1) bz ?_;clear HB;intro w5 HB)|((with_reducible refine ga 82 ?_);refine gB func82 (W6.calls k A0 c0 l0 aC _ (M8 (Kd.C_below aA.1 HB.1)) aB.1 A4.1) bz ?_;clear HB;intro w6 HB))
  go_ret2
  exact⟨fe,bz⟩
 refine i2 ?_;rintro rfl rfl
 go_in
 go_wp2_with ((with_reducible refine ga 42 ?_);refine gB func42 (F2.calls k A0 c0 l0 false _ (M8 aA.1) aB.1 A2.1) bz ?_;clear HB;intro w7 HB)
 go_ret2
 exact⟨fe,bz⟩
def G9.l0:Nat→Int→Int→Int→Option (Int)
 |0,_,_,_=>none
 |k+1,b,c,a=>if a≤b then(G9.l0 k b (wrap64 (c*a)) (wrap64 (a+1)))else(some c)
def G9.f (k:Nat)(a:Int):Option (Int):=G9.l0 k a 1 2
theorem G9.mono_l:∀k,(∀y0 y1 y2,S6 (G9.l0 k y0 y1 y2) (G9.l0 (k+1) y0 y1 y2))
 |0=>fun _ _ _ r h=>by simp[G9.l0]at h
 |k+1=>by
  have ih0:=G9.mono_l k
  ·intro y0 y1 y2
   unfold G9.l0
   exact mo
theorem G9.mono:∀a0 k,S6 (G9.f k a0) (G9.f (k+1) a0):=by
 intro a0 k
 have ih0:=G9.mono_l k
 unfold G9.f
 exact mo
theorem G9.calls (k a0 r w):G9.f k a0=some r→
 Calls prog 84 #[.int .i64 a0] w (pD w (.int .i64 r)):=by
 unfold G9.f
 refine ia fun H'=>?_
 go_in
 go_wp2
 go_loopg [3,4] k (fun kq v3 v4 w'=>∃ (aA aB:Int),v3=.int .i64 aA∧v4=.int .i64 aB∧Aside0 (G9.l0 kq a0 aA aB=some r)∧Aside0 (kq≤k)∧Drawn0 w w')
 case atStart=>exact⟨_,_,fz,fz,H',lr,dz⟩
 case round =>
 obtain⟨aA,aB,rfl,rfl,⟨H⟩,aC,⟨m1,rfl⟩⟩:=hrel
 cases gk with
 |zero=>cases H
 |succ k1 =>
 simp only[G9.l0]at H
 revert H
 refine iD ?_ ?_<;>intro c2b0
 ·refine ia fun H'=>?_
  go_wp2
  go_roundg k1
  case measure=>exact lm aC
  case rel=>exact⟨_,_,fz,fz,H',la aC,dz⟩
 refine i1 ?_;rintro rfl
 go_wp2
 go_ret
 exact⟨fz,dz⟩
def O1.put (k:Nat)(l:List Int) (p x:Int):Option (List Int):=if 0≤p then(if p.toNat≤l.length then(if l.length≤1000000000000 then some (l.take p.toNat++x::l.drop p.toNat)else none)else none)else none
def O1.f:Nat→Int→Int→Option (List Int)
 |0,_,_=>none
 |k+1,n,r=>if n=0 then some ([]:List Int)else(if Int.tmod (wrap64 (Int.tdiv r n)) 2=0 then((O1.f k (wrap64 (n - 1)) (wrap64 (Int.tdiv r n))).bind fun l=>O1.put k l (wrap64 ((wrap64 (n - 1)) - (Int.tmod r n))) (wrap64 (n - 1)))else((O1.f k (wrap64 (n - 1)) (wrap64 (Int.tdiv r n))).bind fun l=>O1.put k l (Int.tmod r n) (wrap64 (n - 1))))
theorem O1.put_some {k:Nat} {l:List Int} {p x:Int} {r:List Int} (h:O1.put k l p x=some r):∃i:Nat,p=(i:Int)∧i≤l.length∧l.length≤1000000000000∧r=l.take i++x::l.drop i:=by
 unfold O1.put at h
 by_cases c1:0≤p
 ·rw[if_pos c1]at h
  obtain⟨i,rfl⟩:=Int.eq_ofNat_of_zero_le c1
  rw[Int.toNat_natCast]at h
  by_cases c2:i≤l.length
  ·rw[if_pos c2]at h
   by_cases c3:l.length≤1000000000000
   ·rw[if_pos c3]at h;exact⟨i,rfl,c2,c3,(Option.some.inj h).symm⟩
   ·rw[if_neg c3]at h;exact absurd h (by simp)
  ·rw[if_neg c2]at h;exact absurd h (by simp)
 ·rw[if_neg c1]at h;exact absurd h (by simp)
theorem O1.calls (k:Nat):∀ (a0 a1:Int) (r:List Int) (w:World) (h:O1.f k a0 a1=some r),
 Calls prog 85 #[.int .i64 a0,.int .i64 a1] w fun e w'=>∃v0_:Value,e=.returned v0_∧Kd.R KI 3 w' w.heap.size (fun _=>True) v0_ r∧Below w.heap.size w w':=by
 induction k using Nat.strongRecOn with
 |_ k ih =>
 intro a0 a1 r w h
 cases k with
 |zero=>exact absurd h (by simp[O1.f])
 |succ k =>
 have H:=h
 simp only[O1.f]at H
 clear h
 have HB:=bR w
 revert H;refine io ?_ ?_<;>intro c1 H
 ·have c1b:=beq_iff_eq.mpr c1
  obtain⟨y,hy⟩:∃y:List Int,y=[]:=⟨_,rfl⟩
  rw[←hy]at H
  obtain rfl:=Option.some.inj H
  clear H
  go_in
  go_wp2_with ((with_reducible refine gd 10 ?_);refine rl KI 3 ([]:List Int) [] (J7.none _ _) ?_;intro v10 w10 ho hb;rw[←hy]at ho;have HO:=am (Kd.R_lower ho (C5 bz));have aA:=am (E8 bz hb);clear HB hb ho;have HB:=aA;clear aA)
  go_ret
  exact⟨_,fz,(rR HO),bz⟩
 have c1b:=beq_eq_false_iff_ne.mpr c1
 have c1c:(a0=0)=False:=eq_false c1
 clear c1
 obtain⟨q,hq⟩:∃q,wrap64 (Int.tdiv a1 a0)=q:=⟨_,rfl⟩
 rw[hq]at H
 have hqw:(IntKind.i64.wrap (Int.tdiv a1 a0))=q:=(P9 _).trans hq
 have H':=am H
 clear H
 go_in
 try go_wp2
 refine sr 8 (fun w'=>True) [] trivial fun hHeld=>?_
 refine rg [0,1,2,3,4,5,6,7] ?_
 refine dn ?_
 go_upto_if 20 with(fail)
 have H:=H'.1
 revert H;refine io ?_ ?_<;>intro c2 H
 ·have c2b:=beq_iff_eq.mpr c2
  have c2c:(Int.tmod q 2=0)=True:=eq_true c2
  clear c2
  obtain⟨l,A1,H⟩:=Option.bind_eq_some_iff.mp H
  replace A1:=am A1
  obtain⟨pl,hpl⟩:∃pl,(wrap64 ((wrap64 (a0 - 1)) - (Int.tmod a1 a0)))=pl:=⟨_,rfl⟩
  rw[hpl]at H
  have hplw:IntKind.i64.wrap (wrap64 (a0 - 1) - Int.tmod a1 a0)=pl:=(P9 _).trans hpl
  obtain⟨i,hi,D1,D2,D3⟩:=O1.put_some H
  subst D3
  rw[hi]at hpl hplw
  clear hi H
  have C1:=am D1
  have C2:=am D2
  clear D1 D2
  go_wp2_with (first
   |((with_reducible refine J0 (f:=85) rfl ?_);refine gl' 28 func85 #[.int .i64 (wrap64 (a0 - 1)),.int .i64 q] ?_;(with_reducible refine(ih k (Nat.lt_succ_self k) (wrap64 (a0 - 1)) q l _ A1.1).mono ?_);rintro e w28 ⟨v28,rfl,ho,hb⟩;refine⟨_,rfl,?_⟩;have HO:=am (Kd.R_lower ho (C5 bz));have aA:=am (E8 bz hb);clear HB hb ho;have HB:=aA;clear aA;obtain⟨Ao,co,rfl⟩:=Kd.R_slice HO.1)
   |((with_reducible refine P8 (N:=32) rfl ?_);refine Kd.R_lit KI _ 3 ?hg (N:=32) ?hd (xs:=([wrap64 (a0 - 1)]:List Int)) (inner:=[.int .i64 (wrap64 (a0 - 1))]) (ok:=fun _=>True) (okp:=fun _=>True) ?hr ?hp (fun _ hk=>hk) trivial (Below.refl _ _) (Nat.le_refl _) (by simp) ?_;(case hd=>rfl);(case hg=>rfl);(case hr=>first|(go_simp;done)|(go_simp;rfl));(case hp=>exact(J7.one (show Kd.M KI _ _ _ (wrap64 (a0 - 1)) [.int .i64 (wrap64 (a0 - 1))]from rfl) (J7.none _ _)));intro v32 w32 ho hb hg_ hnew_;clear hg_;have hlt_:=Kd.R_lt HO.1;have aB:=am (Kd.R_below (rR HO) hb);have aA:=am (E8 bz hb);clear HB HO hb;have HO:=aB;have HB:=aA;clear aB aA;obtain⟨Ae,ce,ee⟩:=Kd.R_slice ho;subst ee;have HE:=am ho;have HNE:Aside0 (∀a b,Ao=some a→Ae=some b→b.block≠a.block):=⟨fun a b ha hb e=>by subst ha hb;obtain⟨z,hz,hz2⟩:=hnew_;simp[Value.ownBlock]at hz;have:=hlt_ a.block rfl;omega⟩;clear ho hnew_ hlt_)
   |((with_reducible refine J0 (f:=111) rfl ?_);refine gl' 33 func111 #[.slice Ao l.length co,.int .i64 (i:Nat),.slice Ae 1 ce] ?_ (hargs:=by(try simp only[List.map_toArray,List.map_cons,List.map_nil]);first|done|rfl|(simp only[hpl];rfl));refine(Go.Proofs.YtpiogigidgejpaaGreatDoor.Dels.insert_own i (rR HO) C1.1 C2.1 (rR HE) HNE.1 (C5 bz)).mono ?_;rintro e w33 ⟨v33,rfl,hR,hbl⟩;refine⟨_,rfl,?_⟩;have aB:=am hR;have aA:=am (Below.trans bz hbl);clear HB HO hR hbl;have HO:=aB;have HB:=aA;clear aB aA))
  go_ret
  exact⟨_,fz,(rR HO),bz⟩
 have c2b:=beq_eq_false_iff_ne.mpr c2
 have c2c:(Int.tmod q 2=0)=False:=eq_false c2
 clear c2
 obtain⟨l,A1,H⟩:=Option.bind_eq_some_iff.mp H
 replace A1:=am A1
 obtain⟨pl,hpl⟩:∃pl,(Int.tmod a1 a0)=pl:=⟨_,rfl⟩
 rw[hpl]at H
 obtain⟨i,hi,D1,D2,D3⟩:=O1.put_some H
 subst D3
 rw[hi]at hpl
 clear hi H
 have C1:=am D1
 have C2:=am D2
 clear D1 D2
 go_wp2_with (first
  |((with_reducible refine J0 (f:=85) rfl ?_);refine gl' 28 func85 #[.int .i64 (wrap64 (a0 - 1)),.int .i64 q] ?_;(with_reducible refine(ih k (Nat.lt_succ_self k) (wrap64 (a0 - 1)) q l _ A1.1).mono ?_);rintro e w28 ⟨v28,rfl,ho,hb⟩;refine⟨_,rfl,?_⟩;have HO:=am (Kd.R_lower ho (C5 bz));have aA:=am (E8 bz hb);clear HB hb ho;have HB:=aA;clear aA;obtain⟨Ao,co,rfl⟩:=Kd.R_slice HO.1)
  |((with_reducible refine P8 (N:=32) rfl ?_);refine Kd.R_lit KI _ 3 ?hg (N:=32) ?hd (xs:=([wrap64 (a0 - 1)]:List Int)) (inner:=[.int .i64 (wrap64 (a0 - 1))]) (ok:=fun _=>True) (okp:=fun _=>True) ?hr ?hp (fun _ hk=>hk) trivial (Below.refl _ _) (Nat.le_refl _) (by simp) ?_;(case hd=>rfl);(case hg=>rfl);(case hr=>first|(go_simp;done)|(go_simp;rfl));(case hp=>exact(J7.one (show Kd.M KI _ _ _ (wrap64 (a0 - 1)) [.int .i64 (wrap64 (a0 - 1))]from rfl) (J7.none _ _)));intro v32 w32 ho hb hg_ hnew_;clear hg_;have hlt_:=Kd.R_lt HO.1;have aB:=am (Kd.R_below (rR HO) hb);have aA:=am (E8 bz hb);clear HB HO hb;have HO:=aB;have HB:=aA;clear aB aA;obtain⟨Ae,ce,ee⟩:=Kd.R_slice ho;subst ee;have HE:=am ho;have HNE:Aside0 (∀a b,Ao=some a→Ae=some b→b.block≠a.block):=⟨fun a b ha hb e=>by subst ha hb;obtain⟨z,hz,hz2⟩:=hnew_;simp[Value.ownBlock]at hz;have:=hlt_ a.block rfl;omega⟩;clear ho hnew_ hlt_)
  |((with_reducible refine J0 (f:=111) rfl ?_);refine gl' 33 func111 #[.slice Ao l.length co,.int .i64 (i:Nat),.slice Ae 1 ce] ?_ (hargs:=by(try simp only[List.map_toArray,List.map_cons,List.map_nil]);first|done|rfl|(simp only[hpl];rfl));refine(Go.Proofs.YtpiogigidgejpaaGreatDoor.Dels.insert_own i (rR HO) C1.1 C2.1 (rR HE) HNE.1 (C5 bz)).mono ?_;rintro e w33 ⟨v33,rfl,hR,hbl⟩;refine⟨_,rfl,?_⟩;have aB:=am hR;have aA:=am (Below.trans bz hbl);clear HB HO hR hbl;have HO:=aB;have HB:=aA;clear aB aA))
 go_ret
 exact⟨_,fz,(rR HO),bz⟩
end Go.Proofs.YtpiogigidgejpaaGreatDoor.PFnExactStepLine
