import Derived.Test.YtpiogigidgejpaaGreatDoorPFnExactStepLinex12
namespace Go.Proofs.YtpiogigidgejpaaGreatDoor.PFnExactStepLine
open Go.RowKit Go.Proofs.YtpiogigidgejpaaGreatDoorW.PrintWords Go.Proofs.YtpiogigidgejpaaGreatDoorW.PrintLast Go.Proofs.YtpiogigidgejpaaGreatDoorW.PrintMore Go.Proofs.YtpiogigidgejpaaGreatDoor.Sq Tryz
attribute [local go_sem] g8 g9 s8 q8 Y0 X9 b8 e6
set_option maxHeartbeats 8000000
set_option maxRecDepth 100000
set_option linter.unusedVariables false
set_option linter.unusedSimpArgs false
mutual
def G4.j0:Nat→Int→Int→Bool→Option (List Int×Bool)
 |0,_,_,_=>none
 |k+1,a,b,c=>if c=true then(some (([]:List Int),false))else(G4.l0 k a b ([]:List Int) 0 a)
def G4.l0:Nat→Int→Int→List Int→Int→Int→Option (List Int×Bool)
 |0,_,_,_,_,_=>none
 |k+1,e,c,a,d,b=>if(a.length:Int)< (wrap64 (2*e))then(if d>0 then((F5.f k (wrap64 (d - 1)) b).bind fun f=>(if c<f then(if a.length<17592186044416 then(G4.l0 k e c (a++ [0]) (wrap64 (d - 1)) b)else(none))else(if b=0 then(if a.length<17592186044416 then(G4.l0 k e c (a++ [0]) (wrap64 (d - 1)) b)else(none))else(if a.length<17592186044416 then(G4.l0 k e (wrap64 (c - f)) (a++ [1]) (wrap64 (d+1)) (wrap64 (b - 1)))else(none)))))else(if c<0 then(if a.length<17592186044416 then(G4.l0 k e c (a++ [0]) (wrap64 (d - 1)) b)else(none))else(if b=0 then(if a.length<17592186044416 then(G4.l0 k e c (a++ [0]) (wrap64 (d - 1)) b)else(none))else(if a.length<17592186044416 then(G4.l0 k e (wrap64 (c - 0)) (a++ [1]) (wrap64 (d+1)) (wrap64 (b - 1)))else(none)))))else(some (a,true))
end
def G4.f (k:Nat)(a b:Int):Option (List Int×Bool):=(G3.f a 0 12).bind fun c=>(if c=true then((F5.f k 0 a).bind fun d=>((G3.f b 0 (wrap64 (d - 1))).bind fun e=>(G4.j0 k a b (!e))))else(G4.j0 k a b true))
theorem G4.calls (k a0 a1 r1 r2 w):G4.f k a0 a1=some (r1,r2)→
 Calls prog 160 #[.int .i64 a0,.int .i64 a1] w (pT w KI 3 r1 r2):=by
 have HB:=bR w
 unfold G4.f
 refine ia fun HC3=>?_
 go_in
 go_upto_region 1 with(fail)
 go_cut [20] (fun v20 wc=>∃ (kq:Nat) (aG:Bool),v20=.bool aG∧Aside0 (G4.j0 kq a0 a1 aG=some (r1,r2))∧Aside0 (kq≤k)∧Aside0 (Below w.heap.size w wc))
 case first =>
  have H:=HC3.1
  revert H
  refine ib fun t933 A4=>iB ?_ ?_<;>rintro rfl
  ·refine ib fun aP A6=>ib fun aQ A7=>ia fun H'=>?_
   go_wp2_with (first|((with_reducible refine ga 78 ?_);refine gp func78 (G3.calls a0 0 12 true _ A4.1) fun nd=>?_)|(go_at_call 238;(with_reducible refine(F5.calls k 0 a0 aP _ A6.1).mono ?_);rintro e w8 ⟨rfl,hb⟩;replace HB:=bS hb;clear hb)|(go_at_call 78;(with_reducible refine qp (G3.calls a1 0 (wrap64 (aP - 1)) aQ _ A7.1) fun nd=>?_)))
   go_meet
   case rel=>exact⟨_,(!aQ),fz,H',lo,⟨bz⟩⟩
  refine ia fun H'=>?_
  go_wp2_with ((with_reducible refine ga 78 ?_);refine gp func78 (G3.calls a0 0 12 false _ A4.1) fun nd=>?_)
  go_meet
  case rel=>exact⟨_,(true),fz,H',lo,⟨bz⟩⟩
 case rest =>
 obtain⟨kq,aG,rfl,⟨H⟩,aE,HB⟩:=hcut
 cases kq with
 |zero=>cases H
 |succ bX =>
 simp only[G4.j0]at H
 revert H
 refine iB ?_ ?_<;>rintro rfl
 ·refine i2 ?_;rintro rfl rfl
  go_wp2
  go_ret2
  exact⟨_,fe,nz,bz⟩
 refine ia fun H'=>?_
 go_wp2
 go_loopg [1,6,7,8] bX (fun kq v1 v6 v7 v8 w'=>∃ (aN:Int) (aB:List Int) (aC aD:Int),v1=.int .i64 aN∧v7=.int .i64 aC∧v8=.int .i64 aD∧Aside0 (G4.l0 kq a0 aN aB aC aD=some (r1,r2))∧Aside0 (kq≤bX)∧Aside0 (Kd.R KI 3 w' w.heap.size (fun _=>True) v6 aB)∧Aside0 (Below w.heap.size w w'))
 case atStart=>exact⟨_,_,_,_,fz,fz,fz,H',lr,⟨nz⟩,⟨bz⟩⟩
 case round =>
 obtain⟨aN,aB,aC,aD,rfl,rfl,rfl,⟨H⟩,aF,aA,HB⟩:=hrel
 cases gk with
 |zero=>cases H
 |succ k2 =>
 simp only[G4.l0]at H
 revert H
 refine iD ?_ ?_<;>intro bY
 ·refine iD (fun aR=>?_) fun aR=>?_
  ·refine ib fun aO bI=>iD ?_ ?_<;>intro bZ
   ·refine il fun aS=>?_
    generalize aH:(aB++ [0])=y937
    replace aH:=am aH.symm
    refine ia fun H'=>?_
    obtain⟨bJ,bK,rfl⟩:=Kd.R_slice aA.1
    go_wp2_with (first|((with_reducible refine ga 238 ?_);refine ge func238 (F5.calls k2 (wrap64 (aC - 1)) aD aO _ bI.1) ?_;rintro w16 hb;replace aA:=am (Kd.R_below (rR aA) hb);replace HB:=bS hb;clear hb)|((with_reducible refine gb 40 41 ?_);at_builtin;refine ra KI underlying22 J9 (.slice bJ aB.length bK) aB 0 [.int .i64 0] (fun _=>True) rfl (fun _ _=>trivial) (rR aA) bz (lm aS) ?_;intro v938 w17 ho hb hg hat;rw[←aH.1]at ho;replace HB:=am (hb);have aT:=am (ho);clear aA ho hb hg hat))
    go_roundg k2
    case measure=>exact lu aE aF
    case rel=>exact⟨_,_,_,_,fz,fz,fz,H',lv aE aF,⟨rR aT⟩,⟨bz⟩⟩
   refine iE (fun aU aV=>?_) fun c18 aU aV=>?_
   ·refine il fun aW=>?_
    generalize aI:(aB++ [0])=y940
    replace aI:=am aI.symm
    refine ia fun H'=>?_
    obtain⟨bL,bM,rfl⟩:=Kd.R_slice aA.1
    go_wp2_with (first|((with_reducible refine ga 238 ?_);refine ge func238 (F5.calls k2 (wrap64 (aC - 1)) aD aO _ bI.1) ?_;rintro w21 hb;replace aA:=am (Kd.R_below (rR aA) hb);replace HB:=bS hb;clear hb)|((with_reducible refine gb 40 41 ?_);at_builtin;refine ra KI underlying22 J9 (.slice bL aB.length bM) aB 0 [.int .i64 0] (fun _=>True) rfl (fun _ _=>trivial) (rR aA) bz (lm aW) ?_;intro v941 w22 ho hb hg hat;rw[←aI.1]at ho;replace HB:=am (hb);have aX:=am (ho);clear aA ho hb hg hat))
    go_roundg k2
    case measure=>exact lu aE aF
    case rel=>exact⟨_,_,_,_,fz,fz,fz,H',lv aE aF,⟨rR aX⟩,⟨bz⟩⟩
   refine il fun aY=>?_
   generalize aJ:(aB++ [1])=y943
   replace aJ:=am aJ.symm
   refine ia fun H'=>?_
   obtain⟨bN,bO,rfl⟩:=Kd.R_slice aA.1
   go_wp2_with (first|((with_reducible refine ga 238 ?_);refine ge func238 (F5.calls k2 (wrap64 (aC - 1)) aD aO _ bI.1) ?_;rintro w25 hb;replace aA:=am (Kd.R_below (rR aA) hb);replace HB:=bS hb;clear hb)|((with_reducible refine gb 48 49 ?_);at_builtin;refine ra KI underlying22 J9 (.slice bN aB.length bO) aB 1 [.int .i64 1] (fun _=>True) rfl (fun _ _=>trivial) (rR aA) bz (lm aY) ?_;intro v944 w26 ho hb hg hat;rw[←aJ.1]at ho;replace HB:=am (hb);have aZ:=am (ho);clear aA ho hb hg hat))
   go_roundg k2
   case measure=>exact lu aE aF
   case rel=>exact⟨_,_,_,_,fz,fz,fz,H',lv aE aF,⟨rR aZ⟩,⟨bz⟩⟩
  refine iD ?_ ?_<;>intro cA
  ·refine il fun bA=>?_
   generalize aK:(aB++ [0])=y946
   replace aK:=am aK.symm
   refine ia fun H'=>?_
   obtain⟨bP,bQ,rfl⟩:=Kd.R_slice aA.1
   go_wp2_with ((with_reducible refine gb 40 41 ?_);at_builtin;refine ra KI underlying22 J9 (.slice bP aB.length bQ) aB 0 [.int .i64 0] (fun _=>True) rfl (fun _ _=>trivial) (rR aA) bz (lm bA) ?_;intro v947 w30 ho hb hg hat;rw[←aK.1]at ho;replace HB:=am (hb);have bB:=am (ho);clear aA ho hb hg hat)
   go_roundg k2
   case measure=>exact lu aE aF
   case rel=>exact⟨_,_,_,_,fz,fz,fz,H',lv aE aF,⟨rR bB⟩,⟨bz⟩⟩
  refine iE (fun bC bD=>?_) fun c31 bC bD=>?_
  ·refine il fun bE=>?_
   generalize aL:(aB++ [0])=y949
   replace aL:=am aL.symm
   refine ia fun H'=>?_
   obtain⟨bT,bU,rfl⟩:=Kd.R_slice aA.1
   go_wp2_with ((with_reducible refine gb 40 41 ?_);at_builtin;refine ra KI underlying22 J9 (.slice bT aB.length bU) aB 0 [.int .i64 0] (fun _=>True) rfl (fun _ _=>trivial) (rR aA) bz (lm bE) ?_;intro v950 w34 ho hb hg hat;rw[←aL.1]at ho;replace HB:=am (hb);have bF:=am (ho);clear aA ho hb hg hat)
   go_roundg k2
   case measure=>exact lu aE aF
   case rel=>exact⟨_,_,_,_,fz,fz,fz,H',lv aE aF,⟨rR bF⟩,⟨bz⟩⟩
  refine il fun bG=>?_
  generalize aM:(aB++ [1])=y952
  replace aM:=am aM.symm
  refine ia fun H'=>?_
  obtain⟨bV,bW,rfl⟩:=Kd.R_slice aA.1
  go_wp2_with ((with_reducible refine gb 48 49 ?_);at_builtin;refine ra KI underlying22 J9 (.slice bV aB.length bW) aB 1 [.int .i64 1] (fun _=>True) rfl (fun _ _=>trivial) (rR aA) bz (lm bG) ?_;intro v953 w37 ho hb hg hat;rw[←aM.1]at ho;replace HB:=am (hb);have bH:=am (ho);clear aA ho hb hg hat)
  go_roundg k2
  case measure=>exact lu aE aF
  case rel=>exact⟨_,_,_,_,fz,fz,fz,H',lv aE aF,⟨rR bH⟩,⟨bz⟩⟩
 refine i2 ?_;rintro rfl rfl
 obtain⟨Ao38,co38,rfl⟩:=Kd.R_slice aA.1
 go_wp2
 go_ret2
 exact⟨_,fe,rR aA,bz⟩
def N6.l0:Nat→Int→Int→Int→Option (Int)
 |0,_,_,_=>none
 |k+1,a,b,c=>if b>0 then(N6.l0 k a (wrap64 (b - 1)) (wrap64 (c*a)))else(some c)
def N6.f (k:Nat)(a b:Int):Option (Int):=N6.l0 k a b 1
theorem N6.mono_l:∀k,(∀y0 y1 y2,S6 (N6.l0 k y0 y1 y2) (N6.l0 (k+1) y0 y1 y2))
 |0=>fun _ _ _ r h=>by simp[N6.l0]at h
 |k+1=>by
  have ih0:=N6.mono_l k
  ·intro y0 y1 y2
   unfold N6.l0
   exact mo
theorem N6.mono:∀a0 a1 k,S6 (N6.f k a0 a1) (N6.f (k+1) a0 a1):=by
 intro a0 a1 k
 have ih0:=N6.mono_l k
 unfold N6.f
 exact mo
theorem N6.calls (k a0 a1 r w):N6.f k a0 a1=some r→
 Calls prog 276 #[.int .i64 a0,.int .i64 a1] w (pD w (.int .i64 r)):=by
 unfold N6.f
 refine ia fun H'=>?_
 go_in
 go_wp2
 go_loopg [1,5] k (fun kq v1 v5 w'=>∃ (aA aB:Int),v1=.int .i64 aA∧v5=.int .i64 aB∧Aside0 (N6.l0 kq a0 aA aB=some r)∧Aside0 (kq≤k)∧Drawn0 w w')
 case atStart=>exact⟨_,_,fz,fz,H',lr,dz⟩
 case round =>
 obtain⟨aA,aB,rfl,rfl,⟨H⟩,aD,⟨m1,rfl⟩⟩:=hrel
 cases gk with
 |zero=>cases H
 |succ k1 =>
 simp only[N6.l0]at H
 revert H
 refine iD (fun aC=>?_) fun aC=>?_
 ·refine ia fun H'=>?_
  go_wp2
  go_roundg k1
  case measure=>exact lm aD
  case rel=>exact⟨_,_,fz,fz,H',la aD,dz⟩
 refine i1 ?_;rintro rfl
 go_wp2
 go_ret
 exact⟨fz,dz⟩
def Y5.f (k:Nat)(a b:Int):Option (Bool):=(G3.f a 1 10).bind fun c=>(if c=true then((G3.f b 2 6).bind fun d=>(if d=true then((N6.f k b a).bind fun e=>(some (decide (e≤1024))))else(some false)))else(some false))
theorem Y5.mono:∀a0 a1 k,S6 (Y5.f k a0 a1) (Y5.f (k+1) a0 a1):=by
 intro a0 a1 k
 unfold Y5.f
 have e0:=N6.mono;exact mo
theorem Y5.calls (k a0 a1 r w):Y5.f k a0 a1=some r→
 Calls prog 239 #[.int .i64 a0,.int .i64 a1] w (pD w (.bool r)):=by
 unfold Y5.f
 refine ib fun t955 A3=>iB ?_ ?_<;>rintro rfl
 ·refine ib fun t956 A5=>iB ?_ ?_<;>rintro rfl
  ·refine ib fun aA A7=>i1 ?_;rintro rfl
   go_in
   go_wp2_with (first|((with_reducible refine ga 78 ?_);refine gp func78 (G3.calls a0 1 10 true _ A3.1) fun nd=>?_)|(go_at_call 78;(with_reducible refine qp (G3.calls a1 2 6 true _ A5.1) fun nd=>?_))|(go_at_call 276;(with_reducible refine qp (N6.calls k a1 a0 aA _ A7.1) fun nd=>?_)))
   go_ret
   exact⟨fz,dz⟩
  refine i1 ?_;rintro rfl
  go_in
  go_wp2_with (first|((with_reducible refine ga 78 ?_);refine gp func78 (G3.calls a0 1 10 true _ A3.1) fun nd=>?_)|(go_at_call 78;(with_reducible refine qp (G3.calls a1 2 6 false _ A5.1) fun nd=>?_)))
  go_ret
  exact⟨fz,dz⟩
 refine i1 ?_;rintro rfl
 go_in
 go_wp2_with ((with_reducible refine ga 78 ?_);refine gp func78 (G3.calls a0 1 10 false _ A3.1) fun nd=>?_)
 go_ret
 exact⟨fz,dz⟩
mutual
def K6.l0:Nat→List Int→Int→Int→List Int→Option (List Int)
 |0,_,_,_,_=>none
 |k+1,a,c,d,b=>if(b.length:Int)<c then(if(a.length:Int)=0 then(none)else(if 0≤((b.length:Int) % (a.length:Int))then(if((b.length:Int) % (a.length:Int))< (a.length:Int)then(if b.length<17592186044416 then(K6.l0 k a c d (b++ [rd a ((b.length:Int) % (a.length:Int))]))else(none))else(none))else(none)))else(K6.l1 k d b)
def K6.l1:Nat→Int→List Int→Option (List Int)
 |0,_,_=>none
 |k+1,b,a=>if(a.length:Int)>0 then(if 0≤(wrap64 ((a.length:Int) - 1))then(if(wrap64 ((a.length:Int) - 1))< (a.length:Int)then(if(rd a (wrap64 ((a.length:Int) - 1)))=(wrap64 (b - 1))then(if(wrap64 ((a.length:Int) - 1))≤(a.length:Int)then(K6.l1 k b (a.take ((wrap64 ((a.length:Int) - 1)):Int).toNat))else(none))else(some (a.set ((wrap64 ((a.length:Int) - 1)):Int).toNat (wrap64 ((rd a (wrap64 ((a.length:Int) - 1)))+1)))))else(none))else(none))else(some a)
end
def K6.f (k:Nat)(c:List Int)(a b:Int):Option (List Int):=K6.l0 k c a b ([]:List Int)
theorem K6.mono_l:∀k,(∀y0 y1 y2 y3,S6 (K6.l0 k y0 y1 y2 y3) (K6.l0 (k+1) y0 y1 y2 y3))∧(∀y0 y1,S6 (K6.l1 k y0 y1) (K6.l1 (k+1) y0 y1))
 |0=>⟨fun _ _ _ _ r h=>by simp[K6.l0]at h,fun _ _ r h=>by simp[K6.l1]at h⟩
 |k+1=>by
  obtain⟨ih0,ih1⟩:=K6.mono_l k
  refine⟨?_,?_⟩
  ·intro y0 y1 y2 y3
   unfold K6.l0
   exact mo
  ·intro y0 y1
   unfold K6.l1
   exact mo
theorem K6.mono:∀a0 a1 a2 k,S6 (K6.f k a0 a1 a2) (K6.f (k+1) a0 a1 a2):=by
 intro a0 a1 a2 k
 obtain⟨ih0,ih1⟩:=K6.mono_l k
 unfold K6.f
 exact mo
theorem K6.calls (k A0 c0 l0 a1 a2 r w):Kd.C KI w A0 l0.length l0→l0.length≤c0→K6.f k l0 a1 a2=some r→
 Calls prog 240 #[.slice A0 l0.length c0,.int .i64 a1,.int .i64 a2] w (pR w KI 3 r):=by
 have HB:=bR w
 refine pa fun HR0 HC0=>?_
 unfold K6.f
 refine ia fun H'=>?_
 go_in
 go_wp2
 go_loopg [7] k (fun kq v7 w'=>∃ (aD:List Int),Aside0 (K6.l0 kq l0 a1 a2 aD=some r)∧Aside0 (kq≤k)∧Aside0 (Kd.R KI 3 w' w.heap.size (fun _=>True) v7 aD)∧Aside0 (Below w.heap.size w w'))
 case atStart=>exact⟨_,H',lr,⟨nz⟩,⟨bz⟩⟩
 case round =>
 obtain⟨aD,⟨H⟩,bI,aA,HB⟩:=hrel
 cases gk with
 |zero=>cases H
 |succ k1 =>
 simp only[K6.l0]at H
 revert H
 refine iD ?_ ?_<;>intro c4b0
 ·refine iN fun c5 c5b0 c5b1=>?_
  have c5b2:¬(l0=[]):=fun h_=>c5 (by rw[h_];rfl)
  generalize hji6:((aD.length:Int) % (l0.length:Int))=ji6
  refine U9 fun c7b0=>U9 fun c8b0=>il fun bK=>?_
  generalize aI:(aD++ [rd l0 (ji6)])=y959
  replace aI:=am aI.symm
  refine ia fun H'=>?_
  obtain⟨bL,bM,rfl⟩:=Kd.R_slice aA.1
  obtain⟨p958,q958,cE,rfl,aE⟩:=ai HR0.1 (ji6)
  replace aE:=cl aE
  go_wp2_with ((with_reducible refine Y1 (b:=.append) (xs:=#[.tmp 12,.tmp 21]) rfl ?_);(try (refine V3 (by rfl) ?_;dsimp only));at_builtin;refine Kd.R_append KI (w0:=w) w.heap.size rfl (.tmp 12) (.tmp 21) 22 3 (.int .i64 0) 8 rfl underlying22 J9 rfl (by decide) (by omega) (.slice bL aD.length bM) aD (rd l0 (ji6)) [.int .i64 (rd l0 (ji6))] (fun _=>True) (fun _=>False) rfl rfl ?aP (fun _ hk=>hk.elim) ?aF ?aO ?aB ?aS ?aL ?_;(case aP=>exact rfl);(case aB=>exact bz);(case aF=>exact(fun _ _=>trivial));(case aO=>exact(rR aA));(case aS=>exact(C5 bz));(case aL=>have:=bK.1;omega);intro v960 w11 ho hb hg hat;rw[←aI.1]at ho;replace HB:=am (hb);have aX:=am (ho);clear aA ho hb hg hat)
  go_roundg k1
  case measure=>exact lm bI
  case rel=>exact⟨_,H',la bI,⟨rR aX⟩,⟨bz⟩⟩
 refine ia fun H'=>?_
 obtain⟨Ao12,co12,rfl⟩:=Kd.R_slice aA.1
 go_wp2
 go_loopg [7] k1 (fun kq v7 w'=>∃ (aC:List Int),Aside0 (K6.l1 kq a2 aC=some r)∧Aside0 (kq≤k1)∧Aside0 (Kd.R KI 3 w' w.heap.size (fun _=>True) v7 aC)∧Aside0 (Below w.heap.size w w'))
 case atStart=>exact⟨_,H',lr,⟨rR aA⟩,⟨bz⟩⟩
 case round =>
 obtain⟨aC,⟨H⟩,cF,aA,HB⟩:=hrel
 cases gk with
 |zero=>cases H
 |succ k2 =>
 simp only[K6.l1]at H
 revert H
 refine io ?_ ?_<;>intro bJ
 ·have aY:decide (0< (aC.length:Int))=true:=(decide_eq_true bJ)
  have aZ:decide (0<aC.length)=true:=decide_eq_true (by omega)
  clear bJ
  generalize hji14:(wrap64 ((aC.length:Int) - 1))=ji14
  have bN:=(P9 _).trans hji14
  refine U9 fun cG=>U9 fun cH=>iE (fun bA bB=>?_) fun c17 bA bB=>?_
  ·refine if' fun cI cJ=>?_
   generalize aG:(aC.take ((ji14):Int).toNat)=y963
   replace aG:=am aG.symm
   refine ia fun H'=>?_
   obtain⟨Ao19,bO,rfl⟩:=Kd.R_slice aA.1
   obtain⟨bP,bQ,aJ,rfl,aH⟩:=ai (Kd.R_reads' aA.1).2.2 (ji14)
   have bT:((ji14):Int)≤((aC.length:Int):Int):=od
   obtain⟨i020,aQ,_,bC,_⟩:=info_parts J9
   have aR:=AF9 (P:=prog) 22 3 .i64 underlying22 aQ (some aJ) aC.length bO (ji14) (od) bT (Kd.R_reads' aA.1).2.1
   have aM:=Kd.R_take (m:=((ji14):Int).toNat) aA.1 (by omega)
   have bD:y963.length=((ji14):Int).toNat:=(by rw[aG.1,List.length_take];omega)
   rw[←aG.1]at aM
   rw[←bD]at aM aR
   clear bD aQ bC aA
   have bE:=am aM
   clear aM
   replace bT:=eq_true bT
   go_wp2
   go_roundg k2
   case measure=>exact lu bI cF
   case rel=>exact⟨_,H',lv bI cF,⟨rR bE⟩,⟨bz⟩⟩
  generalize aK:(aC.set ((ji14):Int).toNat (wrap64 ((rd aC (ji14))+1)))=y967
  replace aK:=am aK.symm
  refine i1 ?_;rintro rfl
  obtain⟨Ao22,bU,rfl⟩:=Kd.R_slice aA.1
  obtain⟨bP,bQ,aJ,rfl,aH⟩:=ai (Kd.R_reads' aA.1).2.2 (ji14)
  have aT:0≤((ji14):Int):=od
  have aU:(ji14)< (aC.length:Int):=od
  obtain⟨bF,bV,aN⟩:=Kd.at_int (Kd.R_reads' aA.1).2.2 (ji14) aT aU
  obtain rfl:aJ=bF:=(by injection bV)
  replace aT:=eq_true aT
  replace aU:=eq_true aU
  have bW:0≤((ji14):Int):=od
  have bX:((ji14):Int)< ((aC.length:Int):Int):=od
  obtain⟨aV,co21,bY,bG,bZ,cl21,bH⟩:=Kd.R_form aA.1 (by omega)
  cases bY
  have cA:=am bG
  have GG21:=am bH
  clear bG bZ bH
  (first|simp only[k6]at aH|skip)
  (first|simp only[k6]at aN|skip)
  obtain⟨cB,cC⟩:=Kd.R_celln 0 aA.1 ((ji14):Int) bW bX
  replace bW:=eq_true bW
  replace bX:=eq_true bX
  have aW:=Kd.R_putg aA.1 ((ji14):Int) (wrap64 ((rd aC (ji14))+1))
  go_wp2_with ((with_reducible refine gt 3 52 ?_);refine se 3 52 (wr.setCell ⟨aV,((ji14):Int).toNat,none⟩ (.int .i64 (wrap64 ((rd aC (ji14))+1)))) ?_;intro cD hw;have hg:wr.grownBy cD (some aV):=(by rw[hw];exact aW.2);have hp_:Kd.R KI 3 cD w.heap.size (fun _=>True) (.slice (some ⟨aV,0,none⟩) aC.length bU) y967:=(by rw[hw,aK.1];exact aW.1);clear aW;replace aA:=am (hp_);replace HB:=am ((by rw[hw];exact S0 (HB.1) cA.1:Below w.heap.size w cD));clear hg hw hp_)
  go_ret
  exact⟨_,by first|rfl|(simp[M7,M6]<;>rfl)|(simp only[←hji14];first|rfl|(simp[M7,M6]<;>rfl))|(simp[*,M7,M6]<;>rfl),rR aA,bz⟩
 have aY:decide (0< (aC.length:Int))=false:=(decide_eq_false bJ)
 have aZ:decide (0<aC.length)=false:=decide_eq_false (by omega)
 clear bJ
 refine i1 ?_;rintro rfl
 obtain⟨Ao25,co25,rfl⟩:=Kd.R_slice aA.1
 go_wp2
 go_ret
 exact⟨_,fe,rR aA,bz⟩
def I0.l0:Nat→Int→Int→List Int→List Int→Option (List Int×Bool)
 |0,_,_,_,_=>none
 |k+1,b,c,d,a=>if(a.length:Int)>0 then(if(a.length:Int)=0 then(none)else(if(Int.tmod b (a.length:Int))=0 then(if d.length+a.length<17592186044416 then((K6.f k a b c).bind fun e=>(I0.l0 k b c (d++a) e))else(none))else((K6.f k a b c).bind fun f=>(I0.l0 k b c d f))))else(some (d,true))
def I0.f (k:Nat)(a b:Int):Option (List Int×Bool):=(Y5.f k a b).bind fun c=>(if c=true then(I0.l0 k a b ([]:List Int) (([0]:List Int)))else(some (([]:List Int),false)))
theorem I0.mono_l:∀k,(∀y0 y1 y2 y3,S6 (I0.l0 k y0 y1 y2 y3) (I0.l0 (k+1) y0 y1 y2 y3))
 |0=>fun _ _ _ _ r h=>by simp[I0.l0]at h
 |k+1=>by
  have ih0:=I0.mono_l k
  ·intro y0 y1 y2 y3
   unfold I0.l0
   have e0:=Y5.mono;have e1:=K6.mono;exact mo
theorem I0.mono:∀a0 a1 k,S6 (I0.f k a0 a1) (I0.f (k+1) a0 a1):=by
 intro a0 a1 k
 have ih0:=I0.mono_l k
 unfold I0.f
 have e0:=Y5.mono;have e1:=K6.mono;exact mo
theorem I0.calls (k a0 a1 r1 r2 w):I0.f k a0 a1=some (r1,r2)→
 Calls prog 161 #[.int .i64 a0,.int .i64 a1] w (pT w KI 3 r1 r2):=by
 have HB:=bR w
 unfold I0.f
 refine ib fun t968 A3=>iB ?_ ?_<;>rintro rfl
 ·generalize aD:([0]:List Int)=y969
  replace aD:=am aD.symm
  refine ia fun H'=>?_
  go_in
  go_wp2_with (first|((with_reducible refine ga 239 ?_);refine gp func239 (Y5.calls k a0 a1 true _ A3.1) fun nd=>?_)|((with_reducible refine gd 12 ?_);refine rl KI 3 ([0]:List Int) [.int .i64 0] (J7.one (show Kd.M KI _ _ _ 0 [.int .i64 0]from rfl) (J7.none _ _)) ?_;intro v970 w5 aI hb;(first|rw[←aD.1]at aI|(simp only[Int.reduceToNat]at aI;rw[←aD.1]at aI));have aJ:=am (Kd.R_lower aI (C5 bz));replace HB:=bS hb;clear hb aI))
  go_loopg [6,7] k (fun kq v6 v7 w'=>∃ (aF aB:List Int),Aside0 (I0.l0 kq a0 a1 aF aB=some (r1,r2))∧Aside0 (kq≤k)∧Aside0 (Kd.R KI 3 w' w.heap.size (fun k_=>some k_≠(v7:Value).ownBlock) v6 aF)∧Aside0 (Kd.R KI 3 w' w.heap.size (fun k_=>some k_≠(v6:Value).ownBlock) v7 aB)∧Aside0 (Below w.heap.size w w'))
  case atStart=>exact⟨_,_,H',lr,⟨nz⟩,⟨by(with_reducible repeat(first|apply Kd.R_alloc|apply Kd.R_drewN|apply Kd.R_drew));exact Kd.R_mono aJ.1 (fun _ hk=>(by simp[Value.ownBlock]))⟩,⟨bz⟩⟩
  case round =>
  obtain⟨aF,aB,⟨H⟩,aP,aC,aA,HB⟩:=hrel
  cases gk with
  |zero=>cases H
  |succ k1 =>
  simp only[I0.l0]at H
  revert H
  refine io ?_ ?_<;>intro c7
  ·have aQ:decide (0< (aB.length:Int))=true:=(decide_eq_true c7)
   have aR:decide (0<aB.length)=true:=decide_eq_true (by omega)
   refine iN fun c8 c8b0 c8b1=>?_
   have c8b2:¬(aB=[]):=fun h_=>c8 (by rw[h_];rfl)
   refine iE (fun aS aT=>?_) fun c9 aS aT=>?_
   ·refine il fun aK=>?_
    generalize aG:(aF++aB)=y972
    replace aG:=am aG.symm
    refine ib fun aU A11=>ia fun H'=>?_
    obtain⟨aL,aM,rfl⟩:=Kd.R_slice aA.1
    go_wp2_with (first|((with_reducible refine gb 25 26 ?_);at_builtin;refine rq KI underlying22 J9 u6 aF aB (fun k_=>some k_≠(.slice aL aB.length aM:Value).ownBlock) (by repeat(first|exact(Kd.R_reads' aA.1).2.2|(with_reducible refine Kd.C_alloc ?_ _)|(with_reducible refine Kd.C_drewN ?_ _)|(with_reducible refine Kd.C_drew ?_))) (fun k_ hk=>Kd.fresh' (Kd.R_lt (rR aA)) k_ hk) (rR aC) bz (lm aK) ?_;intro v973 w13 ho hb hg hat;rw[←aG.1]at ho;replace aA:=am (Kd.R_after (ok:=(fun _=>True)) (rM aA (fun _ hk=>(And.intro trivial hk))) hg hat);replace HB:=am (hb);have aE:=am (ho);clear aC ho hb hg hat)|((with_reducible refine ga 240 ?_);refine gs func240 (K6.calls k1 aL aM aB a0 a1 aU _ (M8 (Kd.R_reads' aA.1).2.2) ((Kd.R_reads' aA.1).2.1) A11.1) ?_;rintro v976 w14 ⟨aH,hb⟩;have aN:=am (Kd.R_lower (Kd.R_new' (Kd.R_new' aH (Kd.R_lt (rR aA))) (Kd.R_lt (rR aE))) (C5 bz));replace aA:=rE aA aH hb;replace aE:=rE aE aH hb;replace HB:=bS hb;clear hb aH))
    go_roundg k1
    case measure=>exact lm aP
    case rel=>exact⟨_,_,H',la aP,⟨rM aE (fun _ hk=>hk.2)⟩,⟨rM aN (fun _ hk=>hk.2)⟩,⟨bz⟩⟩
   refine ib fun aV A15=>ia fun H'=>?_
   obtain⟨aW,aX,rfl⟩:=Kd.R_slice aA.1
   go_wp2_with ((with_reducible refine ga 240 ?_);refine gs func240 (K6.calls k1 aW aX aB a0 a1 aV _ (M8 (Kd.R_reads' aA.1).2.2) ((Kd.R_reads' aA.1).2.1) A15.1) ?_;rintro v979 w17 ⟨aH,hb⟩;have aO:=am (Kd.R_lower (Kd.R_new' (Kd.R_new' aH (Kd.R_lt (rR aC))) (Kd.R_lt (rR aA))) (C5 bz));replace aC:=rE aC aH hb;replace aA:=rE aA aH hb;replace HB:=bS hb;clear hb aH)
   go_roundg k1
   case measure=>exact lm aP
   case rel=>exact⟨_,_,H',la aP,⟨rM aC (fun _ hk=>hk.2)⟩,⟨rM aO (fun _ hk=>hk.1.2)⟩,⟨bz⟩⟩
  have aQ:decide (0< (aB.length:Int))=false:=(decide_eq_false c7)
  have aR:decide (0<aB.length)=false:=decide_eq_false (by omega)
  refine i2 ?_;rintro rfl rfl
  obtain⟨Ao18,co18,rfl⟩:=Kd.R_slice aA.1
  go_wp2
  go_ret2
  exact⟨_,fe,rM aC (fun _ hk=>trivial),bz⟩
 refine i2 ?_;rintro rfl rfl
 go_in
 go_wp2_with ((with_reducible refine ga 239 ?_);refine gp func239 (Y5.calls k a0 a1 false _ A3.1) fun nd=>?_)
 go_ret2
 exact⟨_,fe,nz,bz⟩
def X6.f (a:Int):Option (Bool):=(G3.f a 2 11).bind fun b=>(some b)
theorem X6.calls (a0 r w):X6.f a0=some r→
 Calls prog 241 #[.int .i64 a0] w (pD w (.bool r)):=by
 unfold X6.f
 refine ib fun aA A2=>i1 ?_;rintro rfl
 go_in
 go_wp2_with ((with_reducible refine ga 78 ?_);refine gp func78 (G3.calls a0 2 11 aA _ A2.1) fun nd=>?_)
 go_ret
 exact⟨fz,dz⟩
mutual
def F6.l0:Nat→Int→List Bool→List Int→Int→Option (Bool)
 |0,_,_,_,_=>none
 |k+1,c,a,b,d=>if d< (b.length:Int)then(F6.l1 k c a b d 0)else(F6.l2 k c b a (a.length:Int) 0)
def F6.l1:Nat→Int→List Bool→List Int→Int→Int→Option (Bool)
 |0,_,_,_,_,_=>none
 |k+1,d,e,a,b,c=>if c<d then(if 0≤b then(if b< (a.length:Int)then(if 0≤(wrap64 ((wrap64 ((rd a b)*d))+c))then(if(wrap64 ((wrap64 ((rd a b)*d))+c))< (e.length:Int)then(if o9 false e (wrap64 ((wrap64 ((rd a b)*d))+c))=true then((J1.f k a c).bind fun f=>(if f=true then(F6.l1 k d e a b (wrap64 (c+1)))else(if a.length<17592186044416 then(F6.l1 k d e (a++ [c]) b (wrap64 (c+1)))else(none))))else(F6.l1 k d e a b (wrap64 (c+1))))else(none))else(none))else(none))else(none))else(F6.l0 k d e a (wrap64 (b+1)))
def F6.l2:Nat→Int→List Int→List Bool→Int→Int→Option (Bool)
 |0,_,_,_,_,_=>none
 |k+1,b,e,c,d,a=>if a<d then(if 0≤a then(if a< (c.length:Int)then(if o9 false c a=true then(if b=0 then(none)else((J1.f k e (wrap64 (Int.tdiv a b))).bind fun f=>(if f=true then(F6.l2 k b e c d (wrap64 (a+1)))else(some false))))else(F6.l2 k b e c d (wrap64 (a+1))))else(none))else(none))else(some true)
end
def F6.f (k:Nat)(a:Int)(c:List Bool)(b:Int):Option (Bool):=F6.l0 k a c (([b]:List Int)) 0
theorem F6.mono_l:∀k,(∀y0 y1 y2 y3,S6 (F6.l0 k y0 y1 y2 y3) (F6.l0 (k+1) y0 y1 y2 y3))∧(∀y0 y1 y2 y3 y4,S6 (F6.l1 k y0 y1 y2 y3 y4) (F6.l1 (k+1) y0 y1 y2 y3 y4))∧(∀y0 y1 y2 y3 y4,S6 (F6.l2 k y0 y1 y2 y3 y4) (F6.l2 (k+1) y0 y1 y2 y3 y4))
 |0=>⟨fun _ _ _ _ r h=>by simp[F6.l0]at h,fun _ _ _ _ _ r h=>by simp[F6.l1]at h,fun _ _ _ _ _ r h=>by simp[F6.l2]at h⟩
 |k+1=>by
  obtain⟨ih0,ih1,ih2⟩:=F6.mono_l k
  refine⟨?_,?_,?_⟩
  ·intro y0 y1 y2 y3
   unfold F6.l0
   have e0:=J1.mono;exact mo
  ·intro y0 y1 y2 y3 y4
   unfold F6.l1
   have e0:=J1.mono;exact mo
  ·intro y0 y1 y2 y3 y4
   unfold F6.l2
   have e0:=J1.mono;exact mo
theorem F6.mono:∀a0 a1 a2 k,S6 (F6.f k a0 a1 a2) (F6.f (k+1) a0 a1 a2):=by
 intro a0 a1 a2 k
 obtain⟨ih0,ih1,ih2⟩:=F6.mono_l k
 unfold F6.f
 have e0:=J1.mono;exact mo
theorem F6.calls (k a0 A1 c1 l1 a2 r w):Kd.C Kd.bool w A1 l1.length l1→l1.length≤c1→F6.f k a0 l1 a2=some r→
 Calls prog 277 #[.int .i64 a0,.slice A1 l1.length c1,.int .i64 a2] w (pB w (.bool r)):=by
 have HB:=bR w
 refine pa fun aY HC1=>?_
 unfold F6.f
 intro H
 obtain⟨y982,aP⟩:=ey (([a2]:List Int):List Int)
 rw[←aP.1]at H
 revert H
 refine ia fun H'=>?_
 go_in
 go_wp2_with ((with_reducible refine gd 13 ?_);refine rl KI 3 ([a2]:List Int) [.int .i64 a2] (J7.one (show Kd.M KI _ _ _ a2 [.int .i64 a2]from rfl) (J7.none _ _)) ?_;intro v983 w4 aZ hb;(first|rw[←aP.1]at aZ|(simp only[Int.reduceToNat]at aZ;rw[←aP.1]at aZ));have bA:=am (Kd.R_lower aZ (C5 bz));replace HB:=bS hb;clear hb aZ)
 go_loopg [7,8] k (fun kq v7 v8 w'=>∃ (aG:List Int) (aH:Int),v8=.int .i64 aH∧Aside0 (F6.l0 kq a0 l1 aG aH=some r)∧Aside0 (kq≤k)∧Aside0 (Kd.R KI 3 w' w.heap.size (fun _=>True) v7 aG)∧Aside0 (Below w.heap.size w w'))
 case atStart=>exact⟨_,_,fz,H',lr,⟨rR bA⟩,⟨bz⟩⟩
 case round =>
 obtain⟨aG,aH,rfl,⟨H⟩,aO,aD,HB⟩:=hrel
 cases gk with
 |zero=>cases H
 |succ k1 =>
 simp only[F6.l0]at H
 revert H
 refine iD ?_ ?_<;>intro c6b0
 ·refine ia fun H'=>?_
  obtain⟨Ao7,co7,rfl⟩:=Kd.R_slice aD.1
  go_wp2
  go_loopg [7,9] k1 (fun kq v7 v9 w'=>∃ (aE:List Int) (aF:Int),v9=.int .i64 aF∧Aside0 (F6.l1 kq a0 l1 aE aH aF=some r)∧Aside0 (kq≤k1)∧Aside0 (Kd.R KI 3 w' w.heap.size (fun _=>True) v7 aE)∧Aside0 (Below w.heap.size w w'))
  case atStart=>exact⟨_,_,fz,H',lr,⟨rR aD⟩,⟨bz⟩⟩
  case round =>
  obtain⟨aE,aF,rfl,⟨H⟩,aN,aD,HB⟩:=hrel
  cases gk with
  |zero=>cases H
  |succ k2 =>
  simp only[F6.l1]at H
  revert H
  refine iD ?_ ?_<;>intro c8b0
  ·refine U9 fun c9b0=>U9 fun bL=>?_
   generalize hji11:(wrap64 ((wrap64 ((rd aE aH)*a0))+aF))=ji11
   have bH:=(P9 _).trans hji11
   refine U9 fun bM=>U9 fun bN=>?_
   obtain⟨bq14,hbq14⟩:∃b_:Bool,b_=(o9 false l1 (ji11)):=⟨_,rfl⟩
   intro H
   replace H:(if bq14=true then((J1.f k2 aE aF).bind fun bB=>(if bB=true then(F6.l1 k2 a0 l1 aE aH (wrap64 (aF+1)))else(if aE.length<17592186044416 then(F6.l1 k2 a0 l1 (aE++ [aF]) aH (wrap64 (aF+1)))else(none))))else(F6.l1 k2 a0 l1 aE aH (wrap64 (aF+1))))=some r:=by rw[←hbq14]at H;exact H
   have aQ:=am hbq14
   clear hbq14
   revert H
   refine iB ?_ ?_<;>rintro rfl
   ·refine ib fun bB bO=>iB ?_ ?_<;>rintro rfl
    ·refine ia fun H'=>?_
     obtain⟨Ao18,co18,rfl⟩:=Kd.R_slice aD.1
     obtain⟨bC,bD,aR,rfl,aM⟩:=ai (Kd.R_reads' aD.1).2.2 aH
     have aI:0≤((ji11):Int):=od
     have aJ:(ji11)< (l1.length:Int):=od
     obtain⟨aW,aS,aA⟩:=Kd.at_bool aY.1 (ji11) aI aJ
     (try rw[←aQ.1]at aA)
     cases aS
     replace aA:=cl aA
     replace aI:=eq_true aI
     replace aJ:=eq_true aJ
     go_wp2_with (go_at_call 79;(with_reducible refine qp (J1.calls k2 _ _ aE aF true _ (M8 (Kd.R_reads' aD.1).2.2) ((Kd.R_reads' aD.1).2.1) bO.1) fun nd=>?_))
     go_roundg k2
     case measure=>exact lu aO aN
     case rel=>exact⟨_,_,fz,H',lv aO aN,⟨rR aD⟩,⟨bz⟩⟩
    refine il fun bE=>?_
    generalize aT:(aE++ [aF])=y988
    replace aT:=am aT.symm
    refine ia fun H'=>?_
    obtain⟨Ao20,bI,rfl⟩:=Kd.R_slice aD.1
    obtain⟨bC,bD,aR,rfl,aM⟩:=ai (Kd.R_reads' aD.1).2.2 aH
    have aI:0≤((ji11):Int):=od
    have aJ:(ji11)< (l1.length:Int):=od
    obtain⟨aW,aS,aA⟩:=Kd.at_bool aY.1 (ji11) aI aJ
    (try rw[←aQ.1]at aA)
    cases aS
    replace aA:=cl aA
    replace aI:=eq_true aI
    replace aJ:=eq_true aJ
    go_wp2_with (first|(go_at_call 79;(with_reducible refine qp (J1.calls k2 _ _ aE aF false _ (M8 (Kd.R_reads' aD.1).2.2) ((Kd.R_reads' aD.1).2.1) bO.1) fun nd=>?_))|((with_reducible refine gb 42 44 ?_);at_builtin;refine ra KI underlying22 J9 (.slice (some aR) aE.length bI) aE aF [.int .i64 aF] (fun _=>True) rfl (fun _ _=>trivial) (rR aD) bz (lm bE) ?_;intro v989 w21 ho hb hg hat;rw[←aT.1]at ho;replace HB:=am (hb);have bF:=am (ho);clear aD ho hb hg hat))
    go_roundg k2
    case measure=>exact lu aO aN
    case rel=>exact⟨_,_,fz,H',lv aO aN,⟨rR bF⟩,⟨bz⟩⟩
   refine ia fun H'=>?_
   obtain⟨Ao22,co22,rfl⟩:=Kd.R_slice aD.1
   obtain⟨bC,bD,aR,rfl,aM⟩:=ai (Kd.R_reads' aD.1).2.2 aH
   have aI:0≤((ji11):Int):=od
   have aJ:(ji11)< (l1.length:Int):=od
   obtain⟨aW,aS,aA⟩:=Kd.at_bool aY.1 (ji11) aI aJ
   (try rw[←aQ.1]at aA)
   cases aS
   replace aA:=cl aA
   replace aI:=eq_true aI
   replace aJ:=eq_true aJ
   go_wp2
   go_roundg k2
   case measure=>exact lu aO aN
   case rel=>exact⟨_,_,fz,H',lv aO aN,⟨rR aD⟩,⟨bz⟩⟩
  refine ia fun H'=>?_
  go_wp2
  go_roundg k2
  case measure=>exact lu aO aN
  case rel=>exact⟨_,_,fz,H',lv aO aN,⟨rR aD⟩,⟨bz⟩⟩
 refine ia fun H'=>?_
 obtain⟨bJ,bK,rfl⟩:=Kd.R_slice aD.1
 go_wp2
 go_loopg [48] k1 (fun kq v48 w'=>∃ (aC:Int),v48=.int .i64 aC∧Aside0 (F6.l2 kq a0 aG l1 (l1.length:Int) aC=some r)∧Aside0 (kq≤k1)∧Aside0 (Kd.R KI 3 w' w.heap.size (fun _=>True) (.slice bJ aG.length bK) aG)∧Aside0 (Below w.heap.size w w'))
 case atStart=>exact⟨_,fz,H',lr,⟨rR aD⟩,⟨bz⟩⟩
 case round =>
 obtain⟨aC,rfl,⟨H⟩,aN,aD,HB⟩:=hrel
 cases gk with
 |zero=>cases H
 |succ k2 =>
 simp only[F6.l2]at H
 revert H
 refine iD ?_ ?_<;>intro bP
 ·refine U9 fun bQ=>U9 fun bT=>?_
  obtain⟨bq27,hbq27⟩:∃b_:Bool,b_=(o9 false l1 aC):=⟨_,rfl⟩
  intro H
  replace H:(if bq27=true then(if a0=0 then(none)else((J1.f k2 aG (wrap64 (Int.tdiv aC a0))).bind fun bG=>(if bG=true then(F6.l2 k2 a0 aG l1 (l1.length:Int) (wrap64 (aC+1)))else(some false))))else(F6.l2 k2 a0 aG l1 (l1.length:Int) (wrap64 (aC+1))))=some r:=by rw[←hbq27]at H;exact H
  have aU:=am hbq27
  clear hbq27
  revert H
  refine iB ?_ ?_<;>rintro rfl
  ·refine iN fun c29 bU bV=>ib fun bG bW=>iB ?_ ?_<;>rintro rfl
   ·refine ia fun H'=>?_
    have aK:0≤(aC:Int):=od
    have aL:aC< (l1.length:Int):=od
    obtain⟨aX,aV,aB⟩:=Kd.at_bool aY.1 aC aK aL
    (try rw[←aU.1]at aB)
    cases aV
    replace aB:=cl aB
    replace aK:=eq_true aK
    replace aL:=eq_true aL
    go_wp2_with (go_at_call 79;(with_reducible refine qp (J1.calls k2 _ _ aG (wrap64 (Int.tdiv aC a0)) true _ (M8 (Kd.R_reads' aD.1).2.2) ((Kd.R_reads' aD.1).2.1) bW.1) fun nd=>?_))
    go_roundg k2
    case measure=>exact lu aO aN
    case rel=>exact⟨_,fz,H',lv aO aN,⟨rR aD⟩,⟨bz⟩⟩
   refine i1 ?_;rintro rfl
   have aK:0≤(aC:Int):=od
   have aL:aC< (l1.length:Int):=od
   obtain⟨aX,aV,aB⟩:=Kd.at_bool aY.1 aC aK aL
   (try rw[←aU.1]at aB)
   cases aV
   replace aB:=cl aB
   replace aK:=eq_true aK
   replace aL:=eq_true aL
   go_wp2_with (go_at_call 79;(with_reducible refine qp (J1.calls k2 _ _ aG (wrap64 (Int.tdiv aC a0)) false _ (M8 (Kd.R_reads' aD.1).2.2) ((Kd.R_reads' aD.1).2.1) bW.1) fun nd=>?_))
   go_ret
   exact⟨fe,bz⟩
  refine ia fun H'=>?_
  have aK:0≤(aC:Int):=od
  have aL:aC< (l1.length:Int):=od
  obtain⟨aX,aV,aB⟩:=Kd.at_bool aY.1 aC aK aL
  (try rw[←aU.1]at aB)
  cases aV
  replace aB:=cl aB
  replace aK:=eq_true aK
  replace aL:=eq_true aL
  go_wp2
  go_roundg k2
  case measure=>exact lu aO aN
  case rel=>exact⟨_,fz,H',lv aO aN,⟨rR aD⟩,⟨bz⟩⟩
 refine i1 ?_;rintro rfl
 go_wp2
 go_ret
 exact⟨fe,bz⟩
mutual
def E7.l0:Nat→Int→List Bool→Int→Int→Option (List Int)
 |0,_,_,_,_=>none
 |k+1,b,c,d,a=>if a<d then(if b=0 then(none)else(if 0≤a then(if a< (c.length:Int)then(E7.l0 k b (c.set (a:Int).toNat ((wrap64 (Int.tdiv a b)) != (Int.tmod a b))) d (wrap64 (a+1)))else(none))else(none)))else(E7.l1 k b c (([0]:List Int)))
def E7.l1:Nat→Int→List Bool→List Int→Option (List Int)
 |0,_,_,_=>none
 |k+1,b,c,a=>if(a.length:Int)≤(wrap64 (Int.tdiv (wrap64 (b* (wrap64 (b - 1)))) 2))then(if 0≤(wrap64 ((a.length:Int) - 1))then(if(wrap64 ((a.length:Int) - 1))< (a.length:Int)then(E7.l2 k b c a (rd a (wrap64 ((a.length:Int) - 1))) (-1) (wrap64 (b - 1)))else(none))else(none))else(if 0≤(wrap64 ((a.length:Int) - 1))then(if(wrap64 ((a.length:Int) - 1))≤(a.length:Int)then(some (a.take ((wrap64 ((a.length:Int) - 1)):Int).toNat))else(none))else(none))
def E7.l2:Nat→Int→List Bool→List Int→Int→Int→Int→Option (List Int)
 |0,_,_,_,_,_,_=>none
 |k+1,a,e,f,b,d,c=>if c≥0 then(if 0≤(wrap64 ((wrap64 (b*a))+c))then(if(wrap64 ((wrap64 (b*a))+c))< (e.length:Int)then(if(o9 false e (wrap64 ((wrap64 (b*a))+c))=true)then(if 0≤(wrap64 ((wrap64 (c*a))+b))then(if(wrap64 ((wrap64 (c*a))+b))< (e.length:Int)then((some ((e.set ((wrap64 ((wrap64 (b*a))+c)):Int).toNat false).set ((wrap64 ((wrap64 (c*a))+b)):Int).toNat false:List Bool)).bind fun g=>((F6.f k a g c).bind fun h=>(if h=true then(E7.l2 k a ((g.set ((wrap64 ((wrap64 (b*a))+c)):Int).toNat true).set ((wrap64 ((wrap64 (c*a))+b)):Int).toNat true) f b c (wrap64 (c - 1)))else(E7.l2 k a ((g.set ((wrap64 ((wrap64 (b*a))+c)):Int).toNat true).set ((wrap64 ((wrap64 (c*a))+b)):Int).toNat true) f b d (wrap64 (c - 1))))))else(none))else(none))else(E7.l2 k a e f b d (wrap64 (c - 1))))else(none))else(none))else(if 0≤(wrap64 ((wrap64 (b*a))+d))then(if(wrap64 ((wrap64 (b*a))+d))< (e.length:Int)then(if 0≤(wrap64 ((wrap64 (d*a))+b))then(if(wrap64 ((wrap64 (d*a))+b))< (e.length:Int)then(if f.length<17592186044416 then(E7.l1 k a ((e.set ((wrap64 ((wrap64 (b*a))+d)):Int).toNat false).set ((wrap64 ((wrap64 (d*a))+b)):Int).toNat false) (f++ [d]))else(none))else(none))else(none))else(none))else(none))
end
def E7.f (k:Nat)(a:Int):Option (List Int):=if 0≤(wrap64 (a*a))then(if(wrap64 (a*a):Int).toNat≤281474976710656 then((some (List.replicate (wrap64 (a*a):Int).toNat false:List Bool)).bind fun b=>(E7.l0 k a b (b.length:Int) 0))else(none))else(none)
theorem E7.mono_l:∀k,(∀y0 y1 y2 y3,S6 (E7.l0 k y0 y1 y2 y3) (E7.l0 (k+1) y0 y1 y2 y3))∧(∀y0 y1 y2,S6 (E7.l1 k y0 y1 y2) (E7.l1 (k+1) y0 y1 y2))∧(∀y0 y1 y2 y3 y4 y5,S6 (E7.l2 k y0 y1 y2 y3 y4 y5) (E7.l2 (k+1) y0 y1 y2 y3 y4 y5))
 |0=>⟨fun _ _ _ _ r h=>by simp[E7.l0]at h,fun _ _ _ r h=>by simp[E7.l1]at h,fun _ _ _ _ _ _ r h=>by simp[E7.l2]at h⟩
 |k+1=>by
  obtain⟨ih0,ih1,ih2⟩:=E7.mono_l k
  refine⟨?_,?_,?_⟩
  ·intro y0 y1 y2 y3
   unfold E7.l0
   have e0:=F6.mono;exact mo
  ·intro y0 y1 y2
   unfold E7.l1
   have e0:=F6.mono;exact mo
  ·intro y0 y1 y2 y3 y4 y5
   unfold E7.l2
   have e0:=F6.mono;exact mo
theorem E7.mono:∀a0 k,S6 (E7.f k a0) (E7.f (k+1) a0):=by
 intro a0 k
 obtain⟨ih0,ih1,ih2⟩:=E7.mono_l k
 unfold E7.f
 have e0:=F6.mono;exact mo
def E7.T5:Bool×List (List Nat×List Nat):=(true,[([],[]),([],[]),([],[]),([],[]),([2,3],[2,3]),([],[]),([],[]),([5,6],[5,6]),([4,7],[4,7]),([0,1,0,1,2,3,4,5,6,7,8],[0,1]),([9,8,0,1,2,3,4,5,6,7,8],[8,9])])
def E7.B5:List Nat:=[0,0,0,0,12,0,0,96,252,511,1023]
theorem E7.tab5:AA0 .any (AC6 f242 5)=E7.T5:=by kernel_rfl
theorem E7.bits5:l6 E7.T5.2 E7.B5=true:=by kernel_rfl
theorem E7.calls (k a0 r w):E7.f k a0=some r→
 Calls prog 242 #[.int .i64 a0] w (pR w KI 3 r):=by
 have HB:=bR w
 unfold E7.f
 intro H
 obtain⟨dT,bN⟩:=ex (wrap64 (a0*a0):Int)
 first|rw[bN]at H|simp only[bN]at H
 have fT:(IntKind.i64.wrap (a0*a0))=dT:=(P9 _).trans bN
 revert H
 refine if' fun c3b0 c3b1=>if' fun c4b0 c4b1=>iy fun cY bQ=>ia fun H'=>?_
 go_in
 go_wp2_with ((with_reducible refine P8 (N:=12) rfl ?_);refine Kd.R_make Kd.bool _ 4 rfl (N:=12) rfl 187 _ _ rfl dT rfl rfl underlying187 (.bool false) 1 BZ6 rfl (by decide) (by omega) false (ok:=fun _=>True) (okp:=fun _=>True) rfl (fun _ hk=>hk) trivial (od) (Nat.le_trans (Nat.mul_le_mul_right _ (od:dT.toNat≤281474976710656)) (by omega)) (Below.refl _ _) (Nat.le_refl _) ?_;intro v994 w5 cZ hb hg_ hnew_;clear hg_ hnew_;(first|rw[←bQ.1]at cZ|(simp only[Int.reduceToNat]at cZ;rw[←bQ.1]at cZ));have bT:=am (Kd.R_lower cZ (C5 bz));replace HB:=bS hb;clear hb cZ;obtain⟨dU,aO,rfl⟩:=Kd.R_slice bT.1)
 go_loopg [15] k (fun kq v15 w'=>∃ (aV:List Bool) (aK:Int),v15=.int .i64 aK∧Aside0 (E7.l0 kq a0 aV (cY.length:Int) aK=some r)∧Aside0 (kq≤k)∧Aside0 (Kd.R Kd.bool 4 w' w.heap.size (fun _=>True) (.slice dU cY.length aO) aV)∧Aside0 (Below w.heap.size w w'))
 case atStart=>exact⟨_,_,fz,H',lr,⟨rR bT⟩,⟨bz⟩⟩
 case round =>
 obtain⟨aV,aK,rfl,⟨H⟩,bM,aA,HB⟩:=hrel
 have aF:=(Kd.R_reads' aA.1).1
 rw[aF]at aA
 (try simp only[aF])
 cases gk with
 |zero=>cases H
 |succ k1 =>
 simp only[E7.l0]at H
 revert H
 refine iD (fun dA=>?_) fun dA=>?_
 ·refine iN fun c9 c9b0 c9b1=>U9 fun fU=>U9 fun fV=>?_
  generalize bE:(aV.set (aK:Int).toNat ((wrap64 (Int.tdiv aK a0)) != (Int.tmod aK a0)))=y996
  replace bE:=am bE.symm
  refine ia fun H'=>?_
  try go_wp2
  replace aA:=am (Kd.R_drew aA.1)
  replace HB:=am (F8 HB.1)
  have dV:0≤(aK:Int):=od
  have dW:(aK:Int)< ((aV.length:Int):Int):=od
  obtain⟨go12,co12,dX,dB,dY,cl12,dC⟩:=Kd.R_form aA.1 (by omega)
  cases dX
  have dZ:=am dB
  have eA:=am dC
  clear dB dY dC
  obtain⟨bY,bZ⟩:=Kd.R_celln false aA.1 (aK:Int) dV dW
  replace dV:=eq_true dV
  replace dW:=eq_true dW
  have cA:=Kd.R_putn aA.1 (aK:Int) ((wrap64 (Int.tdiv aK a0)) != (Int.tmod aK a0))
  rw[←bE.1]at cA
  have dD:=am cA
  clear cA
  refine sq 11 (fun w'=>True) [10] E7.tab5 E7.bits5 trivial fun hHeld HT_ HW_=>?_
  generalize wr.drew=w13 at aA HB eA dD bZ bY hHeld ⊢
  refine rg [0,1,2,3,4,5,6,7,8,9] ?_
  refine ls 10 ?_
  try go_wp2
  (try simp only[←aF])
  go_roundg k1
  case measure=>exact lm bM
  case rel=>exact⟨_,_,fz,H',la bM,⟨rX aF dD⟩,⟨bs dZ.1⟩⟩
 (try (have c8bn:decide (aK< (aV.length:Int))=false:=by rw[←aF];exact dA))
 generalize bD:([0]:List Int)=y997
 replace bD:=am bD.symm
 refine ia fun H'=>?_
 go_wp2_with ((with_reducible refine gd 29 ?_);refine rl KI 3 ([0]:List Int) [.int .i64 0] (J7.one (show Kd.M KI _ _ _ 0 [.int .i64 0]from rfl) (J7.none _ _)) ?_;intro v998 w15 bF hb;(first|rw[←bD.1]at bF|(simp only[Int.reduceToNat]at bF;rw[←bD.1]at bF));replace aA:=am (Kd.R_below (rR aA) hb);have dE:=am (Kd.R_lower bF (C5 bz));replace HB:=bS hb;clear hb bF)
 go_loopg [5] k1 (fun kq v5 w'=>∃ (bO:List Bool) (aE:List Int),Aside0 (E7.l1 kq a0 bO aE=some r)∧Aside0 (kq≤k1)∧Aside0 (Kd.R Kd.bool 4 w' w.heap.size (fun _=>True) (.slice dU aV.length aO) bO)∧Aside0 (Kd.R KI 3 w' w.heap.size (fun _=>True) v5 aE)∧Aside0 (Below w.heap.size w w'))
 case atStart=>exact⟨_,_,H',lr,⟨rX aF aA⟩,⟨rX aF dE⟩,⟨bz⟩⟩
 case round =>
 obtain⟨bO,aE,⟨H⟩,bU,aA,aC,HB⟩:=hrel
 have aI:=(Kd.R_reads' aA.1).1
 rw[aI]at aA
 (try simp only[aI])
 (try simp only[aI]at aC)
 cases gk with
 |zero=>cases H
 |succ k2 =>
 simp only[E7.l1]at H
 revert H
 refine iD ?_ ?_<;>intro fW
 ·generalize hji18:(wrap64 ((aE.length:Int) - 1))=ji18
  have eB:=(P9 _).trans hji18
  refine U9 fun fX=>U9 fun fY=>ia fun H'=>?_
  obtain⟨Ao21,dF,rfl⟩:=Kd.R_slice aC.1
  obtain⟨fZ,gA,bG,rfl,dG⟩:=ai (Kd.R_reads' aC.1).2.2 (ji18)
  go_wp2
  go_loopg [7,8] k2 (fun kq v7 v8 w'=>∃ (aB:List Bool) (aP aL:Int),v7=.int .i64 aP∧v8=.int .i64 aL∧Aside0 (E7.l2 kq a0 aB aE (rd aE (ji18)) aP aL=some r)∧Aside0 (kq≤k2)∧Aside0 (Kd.R Kd.bool 4 w' w.heap.size (fun _=>True) (.slice dU bO.length aO) aB)∧Aside0 (Kd.R KI 3 w' w.heap.size (fun _=>True) (.slice (some bG) aE.length dF) aE)∧Aside0 (Below w.heap.size w w'))
  case atStart=>exact⟨_,_,_,fz,fz,H',lr,⟨rY aF aI aA⟩,⟨rY aF aI aC⟩,⟨bz⟩⟩
  case round =>
  obtain⟨aB,aP,aL,rfl,rfl,⟨H⟩,bV,aA,aC,HB⟩:=hrel
  have aG:=(Kd.R_reads' aA.1).1
  rw[aG]at aA
  (try simp only[aG])
  (try simp only[aG]at aC)
  cases gk with
  |zero=>cases H
  |succ k3 =>
  simp only[E7.l2]at H
  revert H
  refine iD (fun dH=>?_) fun dH=>?_
  ·generalize hji23:(wrap64 ((wrap64 ((rd aE (ji18))*a0))+aL))=ji23
   have eC:=(P9 _).trans hji23
   refine U9 fun gC=>U9 fun gD=>?_
   obtain⟨bq26,hbq26⟩:∃b_:Bool,b_=(o9 false aB (ji23)):=⟨_,rfl⟩
   intro H
   replace H:(if(bq26=true)then(if 0≤(wrap64 ((wrap64 (aL*a0))+ (rd aE (ji18))))then(if(wrap64 ((wrap64 (aL*a0))+ (rd aE (ji18))))< (aB.length:Int)then((some ((aB.set ((ji23):Int).toNat false).set ((wrap64 ((wrap64 (aL*a0))+ (rd aE (ji18)))):Int).toNat false:List Bool)).bind fun aJ=>((F6.f k3 a0 aJ aL).bind fun bW=>(if bW=true then(E7.l2 k3 a0 ((aJ.set ((ji23):Int).toNat true).set ((wrap64 ((wrap64 (aL*a0))+ (rd aE (ji18)))):Int).toNat true) aE (rd aE (ji18)) aL (wrap64 (aL - 1)))else(E7.l2 k3 a0 ((aJ.set ((ji23):Int).toNat true).set ((wrap64 ((wrap64 (aL*a0))+ (rd aE (ji18)))):Int).toNat true) aE (rd aE (ji18)) aP (wrap64 (aL - 1))))))else(none))else(none))else(E7.l2 k3 a0 aB aE (rd aE (ji18)) aP (wrap64 (aL - 1))))=some r:=by rw[←hbq26]at H;exact H
   have bH:=am hbq26
   clear hbq26
   revert H
   refine iB ?_ ?_<;>rintro rfl
   ·generalize aQ:(aB.set ((ji23):Int).toNat false)=y1010
    replace aQ:=am aQ.symm
    generalize hji29:(wrap64 ((wrap64 (aL*a0))+ (rd aE (ji18))))=ji29
    have eD:=(P9 _).trans hji29
    refine U9 fun gE=>U9 fun gF=>iy fun aJ bI=>ib fun bW gG=>iB ?_ ?_<;>rintro rfl
    ·generalize aW:(aJ.set ((ji23):Int).toNat true)=y1013
     replace aW:=am aW.symm
     generalize aX:(y1013.set ((ji29):Int).toNat true)=y1014
     replace aX:=am aX.symm
     refine ia fun H'=>?_
     have aM:0≤((ji23):Int):=od
     have aN:(ji23)< (aB.length:Int):=od
     obtain⟨bJ,aT,aH⟩:=Kd.at_bool (Kd.R_reads' aA.1).2.2 (ji23) aM aN
     (try rw[←bH.1]at aH)
     cases aT
     replace aM:=eq_true aM
     replace aN:=eq_true aN
     have cB:0≤((ji23):Int):=od
     have cC:((ji23):Int)< ((aB.length:Int):Int):=od
     obtain⟨aD,eE,cD,bK,cE,eF,bL⟩:=Kd.R_form aA.1 (by omega)
     cases cD
     have aR:=am bK
     have eG:=am bL
     clear bK cE bL
     (first|simp only[k6]at aH|skip)
     obtain⟨cF,cG⟩:=Kd.R_celln false aA.1 ((ji23):Int) cB cC
     replace cB:=eq_true cB
     replace cC:=eq_true cC
     have cH:=Kd.R_putg aA.1 ((ji23):Int) false
     go_wp2_with (first|((with_reducible refine gt 4 65 ?_);refine se 4 65 (wr.setCell ⟨aD,((ji23):Int).toNat,none⟩ (.bool false)) ?_;intro dI hw;have hg:wr.grownBy dI (some aD):=(by rw[hw];exact cH.2);have hp_:Kd.R Kd.bool 4 dI w.heap.size (fun _=>True) (.slice (some ⟨aD,0,none⟩) aB.length aO) y1010:=(by rw[hw,aQ.1];exact cH.1);clear cH;replace aC:=am (Kd.R_over' (v:=(.slice (some ⟨aD,0,none⟩) aB.length aO)) (rR aC) (Kd.R_typed aA.1) (by decide) hg);replace aA:=am (hp_);replace HB:=am ((by rw[hw];exact S0 (HB.1) aR.1:Below w.heap.size w dI));clear hg hw hp_;have cI:0≤((ji29):Int):=od;have cJ:((ji29):Int)< ((aB.length:Int):Int):=od;obtain⟨cK,cL⟩:=Kd.R_celln false aA.1 ((ji29):Int) cI cJ;replace cI:=eq_true cI;replace cJ:=eq_true cJ;obtain⟨gH,gI⟩:=Kd.R_celln false aA.1 ((ji29):Int) (od) (od);have cM:=Kd.R_putg aA.1 ((ji29):Int) false)|((with_reducible refine gt 4 72 ?_);refine se 4 72 (dI.setCell ⟨aD,((ji29):Int).toNat,none⟩ (.bool false)) ?_;intro eH hw;have hg:dI.grownBy eH (some aD):=(by rw[hw];exact cM.2);have hp_:Kd.R Kd.bool 4 eH w.heap.size (fun _=>True) (.slice (some ⟨aD,0,none⟩) aB.length aO) aJ:=(by rw[hw,bI.1];exact cM.1);clear cM;replace aC:=am (Kd.R_over' (v:=(.slice (some ⟨aD,0,none⟩) aB.length aO)) (rR aC) (Kd.R_typed aA.1) (by decide) hg);replace aA:=am (hp_);replace HB:=am ((by rw[hw];exact S0 (HB.1) aR.1:Below w.heap.size w eH));clear hg hw hp_)|((with_reducible refine ga 277 ?_);refine ge func277 (F6.calls k3 a0 (some ⟨aD,0,none⟩) aO aJ aL true _ (M8 (Kd.R_reads' aA.1).2.2) (by rw[show aJ.length=aB.length from(Kd.R_reads' aA.1).1.symm];exact(Kd.R_reads' aA.1).2.1) gG.1) ?_ (hargs:=by(try simp only[List.map_toArray,List.map_cons,List.map_nil]);first|done|(rw[show aJ.length=aB.length from(Kd.R_reads' aA.1).1.symm]<;>rfl)|rfl|(simp only[List.length_drop,List.length_take];rfl));rintro gJ hb;replace aA:=am (Kd.R_below (rR aA) hb);replace aC:=am (Kd.R_below (rR aC) hb);replace HB:=bS hb;clear hb;have eI:0≤((ji23):Int):=od;have eJ:((ji23):Int)< ((aB.length:Int):Int):=od;obtain⟨eK,eL⟩:=Kd.R_celln false aA.1 ((ji23):Int) eI eJ;replace eI:=eq_true eI;replace eJ:=eq_true eJ;obtain⟨gK,gL⟩:=Kd.R_celln false aA.1 ((ji23):Int) (od) (od);have cN:=Kd.R_putg aA.1 ((ji23):Int) true)|((with_reducible refine gt 4 84 ?_);refine se 4 84 (gJ.setCell ⟨aD,((ji23):Int).toNat,none⟩ (.bool true)) ?_;intro dJ hw;have hg:gJ.grownBy dJ (some aD):=(by rw[hw];exact cN.2);have hp_:Kd.R Kd.bool 4 dJ w.heap.size (fun _=>True) (.slice (some ⟨aD,0,none⟩) aB.length aO) y1013:=(by rw[hw,aW.1];exact cN.1);clear cN;replace aC:=am (Kd.R_over' (v:=(.slice (some ⟨aD,0,none⟩) aB.length aO)) (rR aC) (Kd.R_typed aA.1) (by decide) hg);replace aA:=am (hp_);replace HB:=am ((by rw[hw];exact S0 (HB.1) aR.1:Below w.heap.size w dJ));clear hg hw hp_;have eM:0≤((ji29):Int):=od;have eN:((ji29):Int)< ((aB.length:Int):Int):=od;obtain⟨eO,eP⟩:=Kd.R_celln false aA.1 ((ji29):Int) eM eN;replace eM:=eq_true eM;replace eN:=eq_true eN;obtain⟨gM,gN⟩:=Kd.R_celln false aA.1 ((ji29):Int) (od) (od);have cO:=Kd.R_putg aA.1 ((ji29):Int) true)|((with_reducible refine gt 4 91 ?_);refine se 4 91 (dJ.setCell ⟨aD,((ji29):Int).toNat,none⟩ (.bool true)) ?_;intro eQ hw;have hg:dJ.grownBy eQ (some aD):=(by rw[hw];exact cO.2);have hp_:Kd.R Kd.bool 4 eQ w.heap.size (fun _=>True) (.slice (some ⟨aD,0,none⟩) aB.length aO) y1014:=(by rw[hw,aX.1];exact cO.1);clear cO;replace aC:=am (Kd.R_over' (v:=(.slice (some ⟨aD,0,none⟩) aB.length aO)) (rR aC) (Kd.R_typed aA.1) (by decide) hg);replace aA:=am (hp_);replace HB:=am ((by rw[hw];exact S0 (HB.1) aR.1:Below w.heap.size w eQ));clear hg hw hp_))
     (try simp only[←aG])
     go_roundg k3
     case measure=>exact lx bM bU bV
     case rel=>exact⟨_,_,_,fz,fz,H',ly bM bU bV,⟨by(try simp only[aF]);(try simp only[aI]);(try simp only[aG]);(with_reducible repeat(first|apply Kd.R_alloc|apply Kd.R_drewN|apply Kd.R_drew));exact aA.1⟩,⟨by(try simp only[aF]);(try simp only[aI]);(try simp only[aG]);(with_reducible repeat(first|apply Kd.R_alloc|apply Kd.R_drewN|apply Kd.R_drew));exact aC.1⟩,⟨bz⟩⟩
    generalize aY:(aJ.set ((ji23):Int).toNat true)=y1015
    replace aY:=am aY.symm
    generalize aZ:(y1015.set ((ji29):Int).toNat true)=y1016
    replace aZ:=am aZ.symm
    refine ia fun H'=>?_
    have aM:0≤((ji23):Int):=od
    have aN:(ji23)< (aB.length:Int):=od
    obtain⟨bJ,aT,aH⟩:=Kd.at_bool (Kd.R_reads' aA.1).2.2 (ji23) aM aN
    (try rw[←bH.1]at aH)
    cases aT
    replace aM:=eq_true aM
    replace aN:=eq_true aN
    have cB:0≤((ji23):Int):=od
    have cC:((ji23):Int)< ((aB.length:Int):Int):=od
    obtain⟨aD,eE,cD,bK,cE,eF,bL⟩:=Kd.R_form aA.1 (by omega)
    cases cD
    have aR:=am bK
    have eG:=am bL
    clear bK cE bL
    (first|simp only[k6]at aH|skip)
    obtain⟨cF,cG⟩:=Kd.R_celln false aA.1 ((ji23):Int) cB cC
    replace cB:=eq_true cB
    replace cC:=eq_true cC
    have cP:=Kd.R_putg aA.1 ((ji23):Int) false
    go_wp2_with (first|((with_reducible refine gt 4 65 ?_);refine se 4 65 (wr.setCell ⟨aD,((ji23):Int).toNat,none⟩ (.bool false)) ?_;intro dK hw;have hg:wr.grownBy dK (some aD):=(by rw[hw];exact cP.2);have hp_:Kd.R Kd.bool 4 dK w.heap.size (fun _=>True) (.slice (some ⟨aD,0,none⟩) aB.length aO) y1010:=(by rw[hw,aQ.1];exact cP.1);clear cP;replace aC:=am (Kd.R_over' (v:=(.slice (some ⟨aD,0,none⟩) aB.length aO)) (rR aC) (Kd.R_typed aA.1) (by decide) hg);replace aA:=am (hp_);replace HB:=am ((by rw[hw];exact S0 (HB.1) aR.1:Below w.heap.size w dK));clear hg hw hp_;have cI:0≤((ji29):Int):=od;have cJ:((ji29):Int)< ((aB.length:Int):Int):=od;obtain⟨cK,cL⟩:=Kd.R_celln false aA.1 ((ji29):Int) cI cJ;replace cI:=eq_true cI;replace cJ:=eq_true cJ;obtain⟨gO,gP⟩:=Kd.R_celln false aA.1 ((ji29):Int) (od) (od);have cQ:=Kd.R_putg aA.1 ((ji29):Int) false)|((with_reducible refine gt 4 72 ?_);refine se 4 72 (dK.setCell ⟨aD,((ji29):Int).toNat,none⟩ (.bool false)) ?_;intro eR hw;have hg:dK.grownBy eR (some aD):=(by rw[hw];exact cQ.2);have hp_:Kd.R Kd.bool 4 eR w.heap.size (fun _=>True) (.slice (some ⟨aD,0,none⟩) aB.length aO) aJ:=(by rw[hw,bI.1];exact cQ.1);clear cQ;replace aC:=am (Kd.R_over' (v:=(.slice (some ⟨aD,0,none⟩) aB.length aO)) (rR aC) (Kd.R_typed aA.1) (by decide) hg);replace aA:=am (hp_);replace HB:=am ((by rw[hw];exact S0 (HB.1) aR.1:Below w.heap.size w eR));clear hg hw hp_)|((with_reducible refine ga 277 ?_);refine ge func277 (F6.calls k3 a0 (some ⟨aD,0,none⟩) aO aJ aL false _ (M8 (Kd.R_reads' aA.1).2.2) (by rw[show aJ.length=aB.length from(Kd.R_reads' aA.1).1.symm];exact(Kd.R_reads' aA.1).2.1) gG.1) ?_ (hargs:=by(try simp only[List.map_toArray,List.map_cons,List.map_nil]);first|done|(rw[show aJ.length=aB.length from(Kd.R_reads' aA.1).1.symm]<;>rfl)|rfl|(simp only[List.length_drop,List.length_take];rfl));rintro gQ hb;replace aA:=am (Kd.R_below (rR aA) hb);replace aC:=am (Kd.R_below (rR aC) hb);replace HB:=bS hb;clear hb;have eS:0≤((ji23):Int):=od;have eU:((ji23):Int)< ((aB.length:Int):Int):=od;obtain⟨eV,eW⟩:=Kd.R_celln false aA.1 ((ji23):Int) eS eU;replace eS:=eq_true eS;replace eU:=eq_true eU;obtain⟨gS,gT⟩:=Kd.R_celln false aA.1 ((ji23):Int) (od) (od);have cR:=Kd.R_putg aA.1 ((ji23):Int) true)|((with_reducible refine gt 4 84 ?_);refine se 4 84 (gQ.setCell ⟨aD,((ji23):Int).toNat,none⟩ (.bool true)) ?_;intro dL hw;have hg:gQ.grownBy dL (some aD):=(by rw[hw];exact cR.2);have hp_:Kd.R Kd.bool 4 dL w.heap.size (fun _=>True) (.slice (some ⟨aD,0,none⟩) aB.length aO) y1015:=(by rw[hw,aY.1];exact cR.1);clear cR;replace aC:=am (Kd.R_over' (v:=(.slice (some ⟨aD,0,none⟩) aB.length aO)) (rR aC) (Kd.R_typed aA.1) (by decide) hg);replace aA:=am (hp_);replace HB:=am ((by rw[hw];exact S0 (HB.1) aR.1:Below w.heap.size w dL));clear hg hw hp_;have eX:0≤((ji29):Int):=od;have eY:((ji29):Int)< ((aB.length:Int):Int):=od;obtain⟨eZ,fA⟩:=Kd.R_celln false aA.1 ((ji29):Int) eX eY;replace eX:=eq_true eX;replace eY:=eq_true eY;obtain⟨gU,gV⟩:=Kd.R_celln false aA.1 ((ji29):Int) (od) (od);have cS:=Kd.R_putg aA.1 ((ji29):Int) true)|((with_reducible refine gt 4 91 ?_);refine se 4 91 (dL.setCell ⟨aD,((ji29):Int).toNat,none⟩ (.bool true)) ?_;intro fB hw;have hg:dL.grownBy fB (some aD):=(by rw[hw];exact cS.2);have hp_:Kd.R Kd.bool 4 fB w.heap.size (fun _=>True) (.slice (some ⟨aD,0,none⟩) aB.length aO) y1016:=(by rw[hw,aZ.1];exact cS.1);clear cS;replace aC:=am (Kd.R_over' (v:=(.slice (some ⟨aD,0,none⟩) aB.length aO)) (rR aC) (Kd.R_typed aA.1) (by decide) hg);replace aA:=am (hp_);replace HB:=am ((by rw[hw];exact S0 (HB.1) aR.1:Below w.heap.size w fB));clear hg hw hp_))
    (try simp only[←aG])
    go_roundg k3
    case measure=>exact lx bM bU bV
    case rel=>exact⟨_,_,_,fz,fz,H',ly bM bU bV,⟨by(try simp only[aF]);(try simp only[aI]);(try simp only[aG]);(with_reducible repeat(first|apply Kd.R_alloc|apply Kd.R_drewN|apply Kd.R_drew));exact aA.1⟩,⟨by(try simp only[aF]);(try simp only[aI]);(try simp only[aG]);(with_reducible repeat(first|apply Kd.R_alloc|apply Kd.R_drewN|apply Kd.R_drew));exact aC.1⟩,⟨bz⟩⟩
   refine ia fun H'=>?_
   have aM:0≤((ji23):Int):=od
   have aN:(ji23)< (aB.length:Int):=od
   obtain⟨bJ,aT,aH⟩:=Kd.at_bool (Kd.R_reads' aA.1).2.2 (ji23) aM aN
   (try rw[←bH.1]at aH)
   cases aT
   replace aM:=eq_true aM
   replace aN:=eq_true aN
   go_wp2
   (try simp only[←aG])
   go_roundg k3
   case measure=>exact lx bM bU bV
   case rel=>exact⟨_,_,_,fz,fz,H',ly bM bU bV,⟨by(try simp only[aF]);(try simp only[aI]);(try simp only[aG]);(with_reducible repeat(first|apply Kd.R_alloc|apply Kd.R_drewN|apply Kd.R_drew));exact aA.1⟩,⟨by(try simp only[aF]);(try simp only[aI]);(try simp only[aG]);(with_reducible repeat(first|apply Kd.R_alloc|apply Kd.R_drewN|apply Kd.R_drew));exact aC.1⟩,⟨bz⟩⟩
  generalize hji57:(wrap64 ((wrap64 ((rd aE (ji18))*a0))+aP))=ji57
  have fC:=(P9 _).trans hji57
  refine U9 fun gW=>U9 fun gX=>?_
  generalize bA:(aB.set ((ji57):Int).toNat false)=y1004
  replace bA:=am bA.symm
  generalize hji61:(wrap64 ((wrap64 (aP*a0))+ (rd aE (ji18))))=ji61
  have fD:=(P9 _).trans hji61
  refine U9 fun gY=>U9 fun gZ=>?_
  generalize bB:(y1004.set ((ji61):Int).toNat false)=y1005
  replace bB:=am bB.symm
  refine il fun dM=>?_
  generalize bC:(aE++ [aP])=y1006
  replace bC:=am bC.symm
  refine ia fun H'=>?_
  have fE:0≤((ji57):Int):=od
  have fF:((ji57):Int)< ((aB.length:Int):Int):=od
  obtain⟨aU,co60,fG,dN,fH,cl60,dO⟩:=Kd.R_form aA.1 (by omega)
  cases fG
  have dP:=am dN
  have GG60:=am dO
  clear dN fH dO
  obtain⟨fI,fJ⟩:=Kd.R_celln false aA.1 ((ji57):Int) fE fF
  replace fE:=eq_true fE
  replace fF:=eq_true fF
  have cT:=Kd.R_putg aA.1 ((ji57):Int) false
  go_wp2_with (first|((with_reducible refine gt 4 98 ?_);refine se 4 98 (wr.setCell ⟨aU,((ji57):Int).toNat,none⟩ (.bool false)) ?_;intro dQ hw;have hg:wr.grownBy dQ (some aU):=(by rw[hw];exact cT.2);have hp_:Kd.R Kd.bool 4 dQ w.heap.size (fun _=>True) (.slice (some ⟨aU,0,none⟩) aB.length aO) y1004:=(by rw[hw,bA.1];exact cT.1);clear cT;replace aC:=am (Kd.R_over' (v:=(.slice (some ⟨aU,0,none⟩) aB.length aO)) (rR aC) (Kd.R_typed aA.1) (by decide) hg);replace aA:=am (hp_);replace HB:=am ((by rw[hw];exact S0 (HB.1) dP.1:Below w.heap.size w dQ));clear hg hw hp_;have fK:0≤((ji61):Int):=od;have fL:((ji61):Int)< ((aB.length:Int):Int):=od;obtain⟨fM,fN⟩:=Kd.R_celln false aA.1 ((ji61):Int) fK fL;replace fK:=eq_true fK;replace fL:=eq_true fL;obtain⟨hA,hB⟩:=Kd.R_celln false aA.1 ((ji61):Int) (od) (od);have cU:=Kd.R_putg aA.1 ((ji61):Int) false)|((with_reducible refine gt 4 105 ?_);refine se 4 105 (dQ.setCell ⟨aU,((ji61):Int).toNat,none⟩ (.bool false)) ?_;intro fO hw;have hg:dQ.grownBy fO (some aU):=(by rw[hw];exact cU.2);have hp_:Kd.R Kd.bool 4 fO w.heap.size (fun _=>True) (.slice (some ⟨aU,0,none⟩) aB.length aO) y1005:=(by rw[hw,bB.1];exact cU.1);clear cU;replace aC:=am (Kd.R_over' (v:=(.slice (some ⟨aU,0,none⟩) aB.length aO)) (rR aC) (Kd.R_typed aA.1) (by decide) hg);replace aA:=am (hp_);replace HB:=am ((by rw[hw];exact S0 (HB.1) dP.1:Below w.heap.size w fO));clear hg hw hp_)|((with_reducible refine gb 106 108 ?_);at_builtin;refine ra KI underlying22 J9 (.slice (some bG) aE.length dF) aE aP [.int .i64 aP] (fun _=>True) rfl (fun _ _=>trivial) (rR aC) bz (lm dM) ?_;intro hC w70 ho hb hg hat;rw[←bC.1]at ho;replace aA:=am (Kd.R_over' (rR aA) (Kd.R_typed (rR aC)) (by decide) hg);replace HB:=am (hb);have cV:=am (ho);clear aC ho hb hg hat))
  (try simp only[←aI,←aG])
  go_roundg k3
  case measure=>exact lx bM bU bV
  case rel=>exact⟨_,_,H',ly bM bU bV,⟨by(try simp only[aF]);(try simp only[aI]);(try simp only[aG]);(with_reducible repeat(first|apply Kd.R_alloc|apply Kd.R_drewN|apply Kd.R_drew));exact aA.1⟩,⟨by(try simp only[aF]);(try simp only[aI]);(try simp only[aG]);(with_reducible repeat(first|apply Kd.R_alloc|apply Kd.R_drewN|apply Kd.R_drew));exact cV.1⟩,⟨bz⟩⟩
 generalize hji71:(wrap64 ((aE.length:Int) - 1))=ji71
 have fP:=(P9 _).trans hji71
 refine if' fun hD hE=>if' fun hF hG=>?_
 generalize aS:(aE.take ((ji71):Int).toNat)=y1000
 replace aS:=am aS.symm
 refine i1 ?_;rintro rfl
 obtain⟨fQ,fR,rfl⟩:=Kd.R_slice aC.1
 have fS:((ji71):Int)≤((aE.length:Int):Int):=od
 obtain⟨i075,bX,_,dR,_⟩:=info_parts J9
 have cW:=AF9 (P:=prog) 22 3 .i64 underlying22 bX fQ aE.length fR (ji71) (od) fS (Kd.R_reads' aC.1).2.1
 have bP:=Kd.R_take (m:=((ji71):Int).toNat) aC.1 (by omega)
 have dS:y1000.length=((ji71):Int).toNat:=(by rw[aS.1,List.length_take];omega)
 rw[←aS.1]at bP
 rw[←dS]at bP cW
 clear dS bX dR aC
 have cX:=am bP
 clear bP
 replace fS:=eq_true fS
 go_wp2
 go_ret
 exact⟨_,by first|rfl|(simp[M7,M6]<;>rfl)|(simp only[←bN,←hji71];first|rfl|(simp[M7,M6]<;>rfl))|(simp[*,M7,M6]<;>rfl),rR cX,bz⟩
end Go.Proofs.YtpiogigidgejpaaGreatDoor.PFnExactStepLine
