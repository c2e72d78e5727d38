import Derived.Test.YtpiogigidgejpaaGreatDoorPFnExactStepLinex8
namespace Go.Proofs.YtpiogigidgejpaaGreatDoor.PFnExactStepLine
open Go.RowKit Go.Proofs.YtpiogigidgejpaaGreatDoorW.PrintWords Go.Proofs.YtpiogigidgejpaaGreatDoorW.PrintLast Go.Proofs.YtpiogigidgejpaaGreatDoorW.PrintMore Go.Proofs.YtpiogigidgejpaaGreatDoor.Sq Tryz
attribute [local go_sem] g8 g9 s8 q8 Y0 X9 b8 e6
set_option maxHeartbeats 8000000
set_option maxRecDepth 100000
set_option linter.unusedVariables false
set_option linter.unusedSimpArgs false
mutual
def F9.j0:Nat→ByteArray→Bool→Option (ByteArray)
 |0,_,_=>none
 |k+1,a,b=>if b=true then(some (⟨#[]⟩:ByteArray))else(if a.toList=([114,101,118,101,114,115,101]:List UInt8)then(F9.j1 k a (a.toList== ([114,101,118,101,114,115,101]:List UInt8)))else(if a.toList=([114,111,116,97,116,101]:List UInt8)then(F9.j1 k a (a.toList== ([114,111,116,97,116,101]:List UInt8)))else(if a.toList=([112,97,105,114,115]:List UInt8)then(F9.j1 k a (a.toList== ([112,97,105,114,115]:List UInt8)))else(F9.j1 k a (a.toList== ([115,117,112,101,114]:List UInt8))))))
def F9.j1:Nat→ByteArray→Bool→Option (ByteArray)
 |0,_,_=>none
 |k+1,a,b=>if b=true then(some (⟨#[110]⟩:ByteArray))else(if a.toList=([116,97,107,101]:List UInt8)then(F9.j2 k a (a.toList== ([116,97,107,101]:List UInt8)))else(F9.j2 k a (a.toList== ([102,97,99,116,111,114,115]:List UInt8))))
def F9.j2:Nat→ByteArray→Bool→Option (ByteArray)
 |0,_,_=>none
 |k+1,a,b=>if b=true then(some (⟨#[108]⟩:ByteArray))else(if a.toList=([115,119,97,112]:List UInt8)then(F9.j3 k a (a.toList== ([115,119,97,112]:List UInt8)))else(if a.toList=([103,114,97,121]:List UInt8)then(F9.j3 k a (a.toList== ([103,114,97,121]:List UInt8)))else(if a.toList=([117,110,103,114,97,121]:List UInt8)then(F9.j3 k a (a.toList== ([117,110,103,114,97,121]:List UInt8)))else(if a.toList=([104,97,108,118,101,115]:List UInt8)then(F9.j3 k a (a.toList== ([104,97,108,118,101,115]:List UInt8)))else(if a.toList=([103,114,111,119,116,104]:List UInt8)then(F9.j3 k a (a.toList== ([103,114,111,119,116,104]:List UInt8)))else(if a.toList=([98,97,108,97,110,99,101,100]:List UInt8)then(F9.j3 k a (a.toList== ([98,97,108,97,110,99,101,100]:List UInt8)))else(F9.j3 k a (a.toList== ([98,114,117,105,106,110]:List UInt8)))))))))
def F9.j3:Nat→ByteArray→Bool→Option (ByteArray)
 |0,_,_=>none
 |k+1,a,b=>if b=true then(some (⟨#[110,110]⟩:ByteArray))else(if a.toList=([109,105,120,101,100]:List UInt8)then(some (⟨#[108,110]⟩:ByteArray))else(if a.toList=([99,104,111,111,115,101]:List UInt8)then(some (⟨#[110,110,110]⟩:ByteArray))else(if a.toList=([114,101,118,111,108,118,101]:List UInt8)then(some (⟨#[110,110,110]⟩:ByteArray))else(some (⟨#[63]⟩:ByteArray)))))
end
def F9.f (k:Nat)(a:ByteArray):Option (ByteArray):=if a.toList=([110,101,120,116]:List UInt8)then(F9.j0 k a (a.toList== ([110,101,120,116]:List UInt8)))else(if a.toList=([116,114,111,116]:List UInt8)then(F9.j0 k a (a.toList== ([116,114,111,116]:List UInt8)))else(if a.toList=([115,104,111,119]:List UInt8)then(F9.j0 k a (a.toList== ([115,104,111,119]:List UInt8)))else(if a.toList=([114,97,110,107]:List UInt8)then(F9.j0 k a (a.toList== ([114,97,110,107]:List UInt8)))else(F9.j0 k a (a.toList== ([115,105,103,110]:List UInt8))))))
theorem F9.calls (k a0 r w):F9.f k a0=some r→
 Calls prog 104 #[.string a0] w (pD w (.string r)):=by
 unfold F9.f
 refine ia fun HC2=>?_
 go_in
 go_upto_if 4 with(fail)
 go_cut [4] (fun v4 wc=>∃ (kq:Nat) (aK:Bool),v4=.bool aK∧Aside0 (F9.j0 kq a0 aK=some r)∧Aside0 (kq≤k)∧Drawn0 w wc)
 case first =>
  have H:=HC2.1
  revert H
  refine iE (fun aG bH=>?_) fun c3 aG bH=>?_
  ·(first|rw[aG]|(simp only[P9,i6];rw[aG])|skip)
   refine ia fun H'=>?_
   go_wp2
   go_meet
   case rel=>exact⟨_,_,fz,H',lo,dz⟩
  (first|rw[aG]|(simp only[P9,i6];rw[aG])|skip)
  refine iE (fun bI bJ=>?_) fun c4 bI bJ=>?_
  ·refine ia fun H'=>?_
   go_wp2
   go_meet
   case rel=>exact⟨_,_,fz,H',lo,dz⟩
  refine iE (fun bK bL=>?_) fun c5 bK bL=>?_
  ·refine ia fun H'=>?_
   go_wp2
   go_meet
   case rel=>exact⟨_,_,fz,H',lo,dz⟩
  refine iE (fun bM bN=>?_) fun c6 bM bN=>?_
  ·refine ia fun H'=>?_
   go_wp2
   go_meet
   case rel=>exact⟨_,_,fz,H',lo,dz⟩
  refine ia fun H'=>?_
  go_wp2
  go_meet
  case rel=>exact⟨_,_,fz,H',lo,dz⟩
 case rest =>
 obtain⟨kq,aK,rfl,⟨H⟩,aF,⟨mc1,rfl⟩⟩:=hcut
 cases kq with
 |zero=>cases H
 |succ kj1 =>
 simp only[F9.j0]at H
 revert H
 refine iB ?_ ?_<;>rintro rfl
 ·refine i1 ?_;rintro rfl
  go_wp2
  go_ret
  exact⟨fz,dz⟩
 intro H
 have HC8:=am H
 go_upto_if 10 with(fail)
 go_cut [10] (fun v10 wc=>∃ (kq:Nat) (aH:Bool),v10=.bool aH∧Aside0 (F9.j1 kq a0 aH=some r)∧Aside0 (kq≤kj1)∧Drawn0 w wc)
 case first =>
  have H:=HC8.1
  revert H
  refine iE (fun aI bO=>?_) fun c9 aI bO=>?_
  ·(first|rw[aI]|(simp only[P9,i6];rw[aI])|skip)
   refine ia fun H'=>?_
   go_wp2
   go_meet
   case rel=>exact⟨_,_,fz,H',⟨by have:=aF.1;first|omega|exact Nat.le_refl _⟩,dz⟩
  (first|rw[aI]|(simp only[P9,i6];rw[aI])|skip)
  refine iE (fun aL aM=>?_) fun c10 aL aM=>?_
  ·refine ia fun H'=>?_
   go_wp2
   go_meet
   case rel=>exact⟨_,_,fz,H',⟨by have:=aF.1;first|omega|exact Nat.le_refl _⟩,dz⟩
  refine iE (fun aN aO=>?_) fun c11 aN aO=>?_
  ·refine ia fun H'=>?_
   go_wp2
   go_meet
   case rel=>exact⟨_,_,fz,H',⟨by have:=aF.1;first|omega|exact Nat.le_refl _⟩,dz⟩
  refine ia fun H'=>?_
  go_wp2
  go_meet
  case rel=>exact⟨_,_,fz,H',⟨by have:=aF.1;first|omega|exact Nat.le_refl _⟩,dz⟩
 case rest =>
 obtain⟨kq,aH,rfl,⟨H⟩,aJ,⟨mc7,rfl⟩⟩:=hcut
 cases kq with
 |zero=>cases H
 |succ kj7 =>
 simp only[F9.j1]at H
 revert H
 refine iB ?_ ?_<;>rintro rfl
 ·refine i1 ?_;rintro rfl
  go_wp2
  go_ret
  exact⟨fz,dz⟩
 intro H
 have bP:=am H
 go_upto_if 15 with(fail)
 go_cut [15] (fun v15 wc=>∃ (kq:Nat) (aC:Bool),v15=.bool aC∧Aside0 (F9.j2 kq a0 aC=some r)∧Aside0 (kq≤kj7)∧Drawn0 w wc)
 case first =>
  have H:=bP.1
  revert H
  refine iE (fun aA aP=>?_) fun c14 aA aP=>?_
  ·(first|rw[aA]|(simp only[P9,i6];rw[aA])|skip)
   refine ia fun H'=>?_
   go_wp2
   go_meet
   case rel=>exact⟨_,_,fz,H',⟨by have:=aF.1;have:=aJ.1;first|omega|exact Nat.le_refl _⟩,dz⟩
  (first|rw[aA]|(simp only[P9,i6];rw[aA])|skip)
  refine ia fun H'=>?_
  go_wp2
  go_meet
  case rel=>exact⟨_,_,fz,H',⟨by have:=aF.1;have:=aJ.1;first|omega|exact Nat.le_refl _⟩,dz⟩
 case rest =>
 obtain⟨kq,aC,rfl,⟨H⟩,aD,⟨mc12,rfl⟩⟩:=hcut
 cases kq with
 |zero=>cases H
 |succ bQ =>
 simp only[F9.j2]at H
 revert H
 refine iB ?_ ?_<;>rintro rfl
 ·refine i1 ?_;rintro rfl
  go_wp2
  go_ret
  exact⟨fz,dz⟩
 intro H
 have bT:=am H
 go_upto_if 18 with(fail)
 go_cut [18] (fun v18 wc=>∃ (kq:Nat) (aE:Bool),v18=.bool aE∧Aside0 (F9.j3 kq a0 aE=some r)∧Aside0 (kq≤bQ)∧Drawn0 w wc)
 case first =>
  have H:=bT.1
  revert H
  refine iE (fun aB aQ=>?_) fun c17 aB aQ=>?_
  ·(first|rw[aB]|(simp only[P9,i6];rw[aB])|skip)
   refine ia fun H'=>?_
   go_wp2
   go_meet
   case rel=>exact⟨_,_,fz,H',⟨by have:=aF.1;have:=aJ.1;have:=aD.1;first|omega|exact Nat.le_refl _⟩,dz⟩
  (first|rw[aB]|(simp only[P9,i6];rw[aB])|skip)
  refine iE (fun aR aS=>?_) fun c18 aR aS=>?_
  ·refine ia fun H'=>?_
   go_wp2
   go_meet
   case rel=>exact⟨_,_,fz,H',⟨by have:=aF.1;have:=aJ.1;have:=aD.1;first|omega|exact Nat.le_refl _⟩,dz⟩
  refine iE (fun aT aU=>?_) fun c19 aT aU=>?_
  ·refine ia fun H'=>?_
   go_wp2
   go_meet
   case rel=>exact⟨_,_,fz,H',⟨by have:=aF.1;have:=aJ.1;have:=aD.1;first|omega|exact Nat.le_refl _⟩,dz⟩
  refine iE (fun aV aW=>?_) fun c20 aV aW=>?_
  ·refine ia fun H'=>?_
   go_wp2
   go_meet
   case rel=>exact⟨_,_,fz,H',⟨by have:=aF.1;have:=aJ.1;have:=aD.1;first|omega|exact Nat.le_refl _⟩,dz⟩
  refine iE (fun aX aY=>?_) fun c21 aX aY=>?_
  ·refine ia fun H'=>?_
   go_wp2
   go_meet
   case rel=>exact⟨_,_,fz,H',⟨by have:=aF.1;have:=aJ.1;have:=aD.1;first|omega|exact Nat.le_refl _⟩,dz⟩
  refine iE (fun aZ bA=>?_) fun c22 aZ bA=>?_
  ·refine ia fun H'=>?_
   go_wp2
   go_meet
   case rel=>exact⟨_,_,fz,H',⟨by have:=aF.1;have:=aJ.1;have:=aD.1;first|omega|exact Nat.le_refl _⟩,dz⟩
  refine ia fun H'=>?_
  go_wp2
  go_meet
  case rel=>exact⟨_,_,fz,H',⟨by have:=aF.1;have:=aJ.1;have:=aD.1;first|omega|exact Nat.le_refl _⟩,dz⟩
 case rest =>
 obtain⟨kq,aE,rfl,⟨H⟩,HJ15,⟨mc15,rfl⟩⟩:=hcut
 cases kq with
 |zero=>cases H
 |succ kj15 =>
 simp only[F9.j3]at H
 revert H
 refine iB ?_ ?_<;>rintro rfl
 ·refine i1 ?_;rintro rfl
  go_wp2
  go_ret
  exact⟨fz,dz⟩
 refine iE (fun bB bC=>?_) fun c24 bB bC=>?_
 ·refine i1 ?_;rintro rfl
  go_wp2
  go_ret
  exact⟨fz,dz⟩
 refine iE (fun bD bE=>?_) fun c25 bD bE=>?_
 ·refine i1 ?_;rintro rfl
  go_wp2
  go_ret
  exact⟨fz,dz⟩
 refine iE (fun bF bG=>?_) fun c26 bF bG=>?_
 ·refine i1 ?_;rintro rfl
  go_wp2
  go_ret
  exact⟨fz,dz⟩
 refine i1 ?_;rintro rfl
 go_wp2
 go_ret
 exact⟨fz,dz⟩
def H2.Co (w:World)(g:Nat) (x y z:List Int):Prop:=∃A0 c0 A1 c1 A2 c2,w.heap[g]? =some (.cells #[.slice A0 x.length c0,.slice A1 y.length c1,.slice A2 z.length c2] 86 (0,0))∧(Kd.C KI w A0 x.length x∧x.length≤c0)∧(Kd.C KI w A1 y.length y∧y.length≤c1)∧(Kd.C KI w A2 z.length z∧z.length≤c2)
theorem H2.Co.below {w w':World} {g:Nat} {x y z:List Int} (h:H2.Co w g x y z)(hb:Below w.heap.size w w'):H2.Co w' g x y z:=by
 obtain⟨A0,c0,A1,c1,A2,c2,h1,h2,h3,h4⟩:=h
 exact⟨A0,c0,A1,c1,A2,c2,Y2 h1 hb,⟨Kd.C_below h2.1 hb,h2.2⟩,⟨Kd.C_below h3.1 hb,h3.2⟩,⟨Kd.C_below h4.1 hb,h4.2⟩⟩
theorem H2.C_set {w:World} {p:Addr} {u v:Value} {A:Option Addr} {n:Nat} {xs:List Int} (hp:w.cell? p=some u)(hu:∀i,u≠.int .i64 i)(h:Kd.C KI w A n xs):Kd.C KI (w.setCell p v) A n xs:=by
 have hr:=Kd.reads_of_C (d:=(0:Int)) (enc:=Value.int .i64) (h1:=fun _=>rfl) h
 refine Kd.C_of_reads (d:=(0:Int)) (enc:=Value.int .i64) (h1:=fun _=>rfl) ⟨hr.1,hr.2.1,fun hn=>?_⟩
 obtain⟨ad,e,hc⟩:=hr.2.2 hn
 refine⟨ad,e,fun j hj=>?_⟩
 have hne:p≠ad.add j:=fun e_=>by have h_:=hc j hj;rw[←e_,hp]at h_;exact hu _ (Option.some.inj h_)
 have h_:=World.cell?_setCell_other w p (ad.add j) v hne
 rw[h_];exact hc j hj
theorem H2.Co.put {w:World} {g:Nat} {x y z l:List Int} {A:Option Addr} {c:Nat} (h:H2.Co w g x y z)(hr:Kd.C KI w A l.length l)(hc:l.length≤c):H2.Co (w.setCell ⟨g,0,none⟩ (.slice A l.length c)) g l y z:=by
 obtain⟨A0,c0,A1,c1,A2,c2,h1,h2,h3,h4⟩:=h
 have hp:w.cell? ⟨g,0,none⟩=some (.slice A0 x.length c0):=(I5 h1 0).trans rfl
 have hu:∀i,(Value.slice A0 x.length c0)≠.int .i64 i:=fun i e=>by cases e
 exact⟨A,c,A1,c1,A2,c2,U2 h1 0 _,⟨H2.C_set hp hu hr,hc⟩,⟨H2.C_set hp hu h3.1,h3.2⟩,⟨H2.C_set hp hu h4.1,h4.2⟩⟩
theorem H2.at0 {w:World} {A:Option Addr} {xs:List Int} (h:Kd.C KI w A xs.length xs)(hn:0<xs.length):∃ad,A=some ad∧w.cell? ad=some (.int .i64 (rd xs 0)):=by
 obtain⟨ad,e,h_⟩:=Kd.at_int h 0 (by omega) (by omega)
 rw[show((0:Int)).toNat=0 from rfl,Addr.add_zero']at h_
 exact⟨ad,e,h_⟩
theorem H2.at1 {w:World} {ad:Addr} {xs:List Int} (h:Kd.C KI w (some ad) xs.length xs)(hn:1<xs.length):w.cell? ⟨ad.block,ad.off+1,none⟩=some (.int .i64 (rd xs 1)):=by
 obtain⟨ad',e,h_⟩:=Kd.at_int h 1 (by omega) (by omega)
 cases e
 simp only[show(1:Int).toNat=1 from rfl,Nat.reduceMul,Nat.reduceEqDiff,Go.Addr.add,↓reduceIte]at h_
 exact h_
theorem H2.at2 {w:World} {ad:Addr} {xs:List Int} (h:Kd.C KI w (some ad) xs.length xs)(hn:2<xs.length):w.cell? ⟨ad.block,ad.off+2,none⟩=some (.int .i64 (rd xs 2)):=by
 obtain⟨ad',e,h_⟩:=Kd.at_int h 2 (by omega) (by omega)
 cases e
 simp only[show(2:Int).toNat=2 from rfl,Nat.reduceMul,Nat.reduceEqDiff,Go.Addr.add,↓reduceIte]at h_
 exact h_
def H5.f (x l:List Int)(ok:Bool)(s:ByteArray):ByteArray×List Int:=if ok=true then(s,l)else((⟨#[110,111]⟩:ByteArray),x)
theorem H5.calls (g:Nat) (x y z l:List Int)(A:Option Addr)(c:Nat)(ok:Bool)(s:ByteArray)(B:Nat)(w:World)(hco:H2.Co w g x y z)(hr:Kd.C KI w A l.length l)(hc:l.length≤c)(hB:B≤g) :
 Calls prog 146 #[.pointer (some ⟨g,0,none⟩),.slice A l.length c,.bool ok,.string s] w fun e w'=>e=.returned (.string (H5.f x l ok s).1)∧H2.Co w' g (H5.f x l ok s).2 y z∧Below B w w':=by
 have HCO:=am hco
 have HR:=am hr
 have hu_:=underlying86
 obtain⟨A0,c0,A1,c1,A2,c2,h1,_⟩:=hco
 have hcz0:w.cell? ⟨g,0,none⟩=some (.slice A0 x.length c0):=(I5 h1 0).trans rfl
 have hfz0:=C9 h1 0
 clear h1 hr
 cases ok
 ·go_in
  go_wp2
  go_ret
  exact⟨rfl,HCO.1,Below.refl _ _⟩
 ·go_in
  go_wp2_with ((with_reducible refine gt 22 14 ?_);refine se 22 14 (w.setCell ⟨g,0,none⟩ (.slice A l.length c)) ?_;intro w1 hw)
  go_ret
  exact⟨rfl,by rw[hw];exact H2.Co.put HCO.1 HR.1 hc,by rw[hw];exact(Below.refl _ _).setCell hB _⟩
def K5.l0:Nat→List ByteArray→ByteArray→Int→List Int→List Int→Option (ByteArray×List Int×List Int×Bool)
 |0,_,_,_,_,_=>none
 |k+1,W,s,i,y,z=>if i< ((W.drop 1).length:Int)then(if 0≤i then(if i< (s.size:Int)then(if(bt s i)=110 then((O2.f k (o9 ByteArray.empty (W.drop 1) i)).bind fun v=>(if v<0 then some ((⟨#[]⟩:ByteArray),y,z,false)else(if z.length<17592186044416 then K5.l0 k W s (wrap64 (i+1)) y (z++ [v])else none)))else(if(bt s i)=108 then((V5.f k (o9 ByteArray.empty (W.drop 1) i)).bind fun t=>(if t.2=true then K5.l0 k W s (wrap64 (i+1)) t.1 z else some ((⟨#[]⟩:ByteArray),y,z,false)))else some ((⟨#[]⟩:ByteArray),y,z,false)))else none)else none)else some (o9 ByteArray.empty W 0,y,z,true)
def K5.f (k:Nat)(a:ByteArray):Option (ByteArray×List Int×List Int×Bool):=(Q9.f k a 32).bind fun W=>(if 0<W.length then((F9.f k (o9 ByteArray.empty W 0)).bind fun s=>(if(s.size:Int)=(wrap64 ((W.length:Int) - 1))then K5.l0 k W s 0 ([]:List Int) ([]:List Int)else some ((⟨#[]⟩:ByteArray),([]:List Int),([]:List Int),false)))else none)
theorem K5.keep {w:World} {g:Nat} {A:Option Addr} {n:Nat} {xs:List Int} (h0:w.heap[g]? =some (.cells #[.slice none 0 0,.slice none 0 0,.slice none 0 0] 86 (0,0)))(hc:Kd.C KI w A n xs) {b0 b1:Value} (B0 B1 B2:Option Addr) (n0 k0 n1 k1 n2 k2:Nat)(hb0:b0=.slice B0 n0 k0)(hb1:b1=.slice B1 n1 k1):Kd.C KI (((w.setCell ⟨g,0,none⟩ b0).setCell ⟨g,1,none⟩ b1).setCell ⟨g,2,none⟩ (.slice B2 n2 k2)) A n xs:=by
 subst hb0 hb1
 have h1:=U2 h0 0 (.slice B0 n0 k0)
 have h2:=U2 h1 1 (.slice B1 n1 k1)
 have hp0:w.cell? ⟨g,0,none⟩=some (.slice none 0 0):=(I5 h0 0).trans rfl
 have hp1:(w.setCell ⟨g,0,none⟩ (.slice B0 n0 k0)).cell? ⟨g,1,none⟩=some (.slice none 0 0):=(I5 h1 1).trans rfl
 have hp2:((w.setCell ⟨g,0,none⟩ (.slice B0 n0 k0)).setCell ⟨g,1,none⟩ (.slice B1 n1 k1)).cell? ⟨g,2,none⟩=some (.slice none 0 0):=(I5 h2 2).trans rfl
 exact H2.C_set hp2 (fun i e=>by cases e) (H2.C_set hp1 (fun i e=>by cases e) (H2.C_set hp0 (fun i e=>by cases e) hc))
theorem K5.calls (k:Nat)(A0:Option Addr)(c0:Nat)(l0:List Int)(a r1:ByteArray) (r2 r3:List Int)(r4:Bool)(w:World)(hr0:Kd.C KI w A0 l0.length l0)(hc0:l0.length≤c0)(h:K5.f k a=some (r1,r2,r3,r4)) :
 Calls prog 80 #[.slice A0 l0.length c0,.string a] w fun e w'=>∃A1 c1 A2 c2,e=.returned (.tuple #[.string r1,.agg #[.slice A0 l0.length c0,.slice A1 r2.length c1,.slice A2 r3.length c2],.bool r4])∧(Kd.C KI w' A1 r2.length r2∧r2.length≤c1)∧(Kd.C KI w' A2 r3.length r3∧r3.length≤c2)∧Below w.heap.size w w':=by
 have hu_:=underlying86
 have HR0:=am hr0
 have HB:=bR w
 clear hr0
 have H:=h
 clear h
 unfold K5.f at H
 replace H:=bi H;obtain⟨W,A3,H⟩:=H
 replace H:=jt H;obtain⟨aS,H⟩:=H
 replace H:=bi H;obtain⟨s,A4,H⟩:=H
 have H':=am H
 clear H
 go_in
 go_upto_region 2 with(first|((with_reducible refine P8 (N:=5) rfl ?_);refine j6 ?hg (N:=5) ?hd (cs:=#[.slice none 0 0,.slice none 0 0,.slice none 0 0]) (t:=86) ?hr ?_;(case hd=>rfl);(case hg=>rfl);(case hr=>first|(go_simp;done)|(go_simp;rfl));intro g5 hg w5 hbox hb;have aC:=am ((by rw[hg];exact C5 bz:w.heap.size≤g5));replace HB:=bS hb;have aA:=am hbox;clear hb hbox hg)|((with_reducible refine P8 (N:=7) rfl ?_);refine j6 ?hg (N:=7) ?hd (cs:=#[.slice none 0 0,.slice none 0 0,.slice none 0 0]) (t:=86) ?hr ?_;(case hd=>rfl);(case hg=>rfl);(case hr=>first|(go_simp;done)|(go_simp;rfl));intro g7 hg w7 hbox hb;have aI:=am ((by rw[hg];exact C5 bz:w.heap.size≤g7));have aJ:=am ((by rw[hg];exact Nat.ne_of_lt (AT9 aA.1):g5≠g7));replace aA:=am (Y2 aA.1 hb);replace HB:=bS hb;have aB:=am hbox;clear hb hbox hg;have hz0:=bq aB 0 (.slice none 0 0);have aU:=bq aB 1 (.slice none 0 0);have aL:=bq aB 2 (.slice none 0 0);have aH:=C9 aB.1 0;have aE:=C9 aB.1 1;have aF:=C9 aB.1 2))
 obtain⟨w8,hw8⟩:∃w8,w8=(((w7.setCell ⟨g7,0,none⟩ (.slice A0 l0.length c0)).setCell ⟨g7,1,none⟩ (.slice none 0 0)).setCell ⟨g7,2,none⟩ (.slice none 0 0)):=⟨_,rfl⟩
 rw[←hw8]
 replace aB:Aside0 (w8.heap[g7]? =some (.cells #[.slice A0 l0.length c0,.slice none 0 0,.slice none 0 0] 86 (0,0))):=⟨by rw[hw8];exact U2 (U2 (U2 aB.1 0 _) 1 _) 2 _⟩
 replace aA:Aside0 (w8.heap[g5]? =some (.cells #[.slice none 0 0,.slice none 0 0,.slice none 0 0] 86 (0,0))):=⟨by rw[hw8];exact AG3 (AG3 (AG3 aA.1 aJ.1 _) aJ.1 _) aJ.1 _⟩
 replace HB:Aside0 (Below w.heap.size w w8):=⟨by rw[hw8];exact((HB.1.setCell aI.1 _).setCell aI.1 _).setCell aI.1 _⟩
 clear hz0 aU aL aH aE aF hw8
 go_upto_region 3 with(first|((with_reducible refine ga 46 ?_);refine gs func46 (Q9.calls k a 32 W _ A3.1) ?_;rintro v9 w9 ⟨ho,hb⟩;have HW:=am (Kd.R_lower ho (C5 bz));replace aA:=am (Y2 aA.1 hb);replace aB:=am (Y2 aB.1 hb);replace HB:=bS hb;clear hb ho))
 obtain⟨AW,cW,rfl⟩:=Kd.R_slice HW.1
 obtain⟨ad,ead,aD⟩:=Kd.at_string (Kd.R_reads' HW.1).2.2 0 (by omega) (by omega)
 cases ead
 rw[show((0:Int)).toNat=0 from rfl,Addr.add_zero']at aD
 have q0:(0<W.length)=True:=eq_true (by omega)
 have q1:((0:Int)< (W.length:Int))=True:=eq_true (by omega)
 go_upto_if 28 with(first|((with_reducible refine ga 104 ?_);refine gp func104 (F9.calls k (o9 ByteArray.empty W 0) s _ A4.1) fun nd=>?_))
 have H:=H'.1
 replace HW:=am (Kd.R_drewN HW.1 nd)
 replace aA:=am (AG2 aA.1 nd)
 replace aB:=am (AG2 aB.1 nd)
 replace HB:=am (J8 HB.1 nd)
 clear aD
 generalize w9.drewN nd=w10 at HW aA aB HB ⊢
 replace H:=(jo H).symm;rcases H with⟨aM,H⟩|⟨aM,H⟩
 ·have aN:=bne_iff_ne.mpr aM
  rw[aN]
  simp only[Option.some.injEq,Prod.mk.injEq]at H
  obtain⟨rfl,rfl,rfl,rfl⟩:=H
  go_wp2
  have HY:=am (Kd.C_nil KI w10)
  have HZ:=am (Kd.C_nil KI w10)
  replace aA:=am (m4 aA.1)
  replace aB:=am (m4 aB.1)
  replace HB:=am (F8 HB.1)
  replace HY:=am (Kd.C_drew HY.1)
  replace HZ:=am (Kd.C_drew HZ.1)
  refine sr 4 (fun w'=>w'.cell? ⟨g7,0,none⟩=some (.slice A0 l0.length c0)∧w'.cell? ⟨g7,1,none⟩=some (.slice none 0 0)∧w'.cell? ⟨g7,2,none⟩=some (.slice none 0 0)) [2] ⟨(I5 aB.1 0).trans rfl,(I5 aB.1 1).trans rfl,(I5 aB.1 2).trans rfl⟩ fun hHeld=>?_
  generalize hw_:w10.drew=w90 at aA aB HB HY HZ hHeld ⊢
  refine rg [0,1] ?_
  have aO:=bq aA 0 (.slice none 0 0)
  have aP:=bq aA 1 (.slice none 0 0)
  have aQ:=bq aA 2 (.slice none 0 0)
  have aH:=C9 aA.1 0
  have aE:=C9 aA.1 1
  have aF:=C9 aA.1 2
  refine AF0 (i:=2) (N:=none) (lb 4 7) rfl rfl (by kernel_rfl) (by decide) (fun K hK=>?_)
  refine AS8 (w1:=?_) (by rfl) rfl ?_ ?_
  rotate_left
  ·go_simp
   rfl
  refine hK.out _ _ ?_
  clear hK K
  refine pw 3 ?_
  refine dn ?_
  try go_wp2
  refine bodyPost_ret (AE9 (rs:=[.tmp 4,.cell 5 86,.tmp 6]) rfl (by simp) (.tmp (.cell g5 86 #[.slice A0 l0.length c0,.slice none 0 0,.slice none 0 0] (0,0) _ rfl (U2 (U2 (U2 aA.1 0 (.slice A0 l0.length c0)) 1 (.slice none 0 0)) 2 (.slice none 0 0)) underlying86 rfl (by kernel_rfl) (.tmp .nil)))) rfl ?_
  exact⟨_,_,_,_,fe,⟨K5.keep aA.1 HY.1 _ _ _ _ _ _ _ _ _ rfl rfl,(Nat.le_refl _)⟩,⟨K5.keep aA.1 HZ.1 _ _ _ _ _ _ _ _ _ rfl rfl,(Nat.le_refl _)⟩,((HB.1.setCell aC.1 _).setCell aC.1 _).setCell aC.1 _⟩
 have aN:=bne_eq_false_iff_eq.mpr aM
 rw[aN]
 obtain⟨Y,NY⟩:=ey (W.drop 1:List ByteArray)
 have hY:Y.length=W.length - 1:=by rw[NY.1,List.length_drop]
 obtain⟨i9,aV,_,aK,_⟩:=info_parts Ar6
 have hroom:W.length≤cW:=(Kd.R_reads' HW.1).2.1
 have hcut:=AE0 (P:=prog) 40 9 .i64 underlying40 aV 1 aK (some ad) W.length cW 1 (by omega) (by omega)
 obtain⟨AY,hAY⟩:∃A1,A1=(if cW=(1:Int).toNat then(some ad)else((some ad):Option Addr).map (·.add ((1:Int).toNat*1))):=⟨_,rfl⟩
 obtain⟨cY,hcY⟩:∃c1,c1=cW - (1:Int).toNat:=⟨_,rfl⟩
 rw[show W.length - (1:Int).toNat=Y.length from hY.symm,←hAY,←hcY]at hcut
 have KA:=am hAY
 clear hAY hcY aV aK
 have KR:Aside0 (∀w':World,Kd.C Kd.string w' (some ad) W.length W→Kd.C Kd.string w' AY Y.length Y):=⟨fun w' h_=>by have aW:=Kd.C_drop (m:=(1:Int).toNat) (c:=cW) h_ (by show 1≤W.length;omega) hroom;rw[show W.drop (1:Int).toNat=Y from NY.1.symm]at aW;rw[KA.1];exact aW⟩
 have HC1:=am aS
 have H':=am H
 clear H q1 q0 hY hroom aM
 have d1:((1:Int)≤(W.length:Int))=True:=eq_true (by omega)
 clear aS
 go_wp2
 clear hcut d1 aN
 go_loopg [33] k (fun kq v33 w'=>∃ (i:Int) (y z:List Int) (vy vz:Value),v33=.int .i64 i∧Aside0 (K5.l0 kq W s i y z=some (r1,r2,r3,r4))∧Aside0 (kq≤k)∧Aside0 (Kd.R Kd.string 9 w' w.heap.size (fun k_=>some k_≠(vz:Value).ownBlock) (.slice (some ad) W.length cW) W)∧Aside0 (Kd.R KI 3 w' w.heap.size (fun k_=>some k_≠(vz:Value).ownBlock) vy y)∧Aside0 (Kd.R KI 3 w' w.heap.size (fun k_=>some k_≠(.slice (some ad) W.length cW:Value).ownBlock∧some k_≠(vy:Value).ownBlock) vz z)∧Aside0 (w'.heap[g5]? =some (.cells #[.slice none 0 0,.slice none 0 0,.slice none 0 0] 86 (0,0)))∧Aside0 (w'.heap[g7]? =some (.cells #[.slice A0 l0.length c0,vy,vz] 86 (0,0)))∧Aside0 (Below w.heap.size w w'))
 case atStart=>exact⟨0,[],[],.slice none 0 0,.slice none 0 0,fz,H',lr,⟨Kd.R_mono HW.1 (fun _ _=>by simp[Value.ownBlock])⟩,⟨nz⟩,⟨nz⟩,aA,aB,HB⟩
 case round =>
 clear H' HW aA aB HB
 obtain⟨i,y,z,vy,vz,rfl,⟨H⟩,aR,HW,HRY,HRZ,aA,aB,HB⟩:=hrel
 obtain⟨Ay,cy,rfl⟩:=Kd.R_slice HRY.1
 obtain⟨Az,cz,rfl⟩:=Kd.R_slice HRZ.1
 have hly:=(Kd.R_reads' HRY.1).2.1
 have hlz:=(Kd.R_reads' HRZ.1).2.1
 cases gk with
 |zero=>cases H
 |succ k1 =>
 simp only[K5.l0]at H
 rw[←NY.1]at H
 revert H;refine io ?_ ?_<;>intro c3 H
 ·have c3b:=decide_eq_true c3
  replace H:=jt H;obtain⟨c4,H⟩:=H
  replace H:=jt H;obtain⟨c5,H⟩:=H
  have c4b:=decide_eq_true c4
  have c5b:=decide_eq_true c5
  obtain⟨a31,e31,aG⟩:=Kd.at_string (KR.1 _ (Kd.R_reads' HW.1).2.2) i c4 c3
  cases e31
  have hx20:=AP6 s i
  replace c3:=eq_true c3
  replace c4:=eq_true c4
  replace c5:=eq_true c5
  revert H;refine io ?_ ?_<;>intro c6 H
  ·have c6b:=beq_iff_eq.mpr c6
   clear c6
   replace H:=bi H;obtain⟨v,A22,H⟩:=H
   have H':=am H
   clear H
   go_upto_if 47 with(first|((with_reducible refine ga 92 ?_);refine gp func92 (O2.calls k1 (o9 ByteArray.empty Y i) v _ A22.1) fun nd=>?_))
   replace HW:=am (Kd.R_drewN HW.1 nd)
   replace HRY:=am (Kd.R_drewN HRY.1 nd)
   replace HRZ:=am (Kd.R_drewN HRZ.1 nd)
   replace aA:=am (AG2 aA.1 nd)
   replace aB:=am (AG2 aB.1 nd)
   replace HB:=am (J8 HB.1 nd)
   clear aG
   generalize wr.drewN nd=w20 at HW HRY HRZ aA aB HB ⊢
   have H:=H'.1
   revert H;refine io ?_ ?_<;>intro c7 H
   ·have aT:=decide_eq_true c7
    rw[aT]
    simp only[Option.some.injEq,Prod.mk.injEq]at H
    obtain⟨rfl,rfl,rfl,rfl⟩:=H
    go_wp2
    have HY:=am (Kd.R_reads' HRY.1).2.2
    have HZ:=am (Kd.R_reads' HRZ.1).2.2
    clear HRY HRZ HW
    replace aA:=am (m4 aA.1)
    replace aB:=am (m4 aB.1)
    replace HB:=am (F8 HB.1)
    replace HY:=am (Kd.C_drew HY.1)
    replace HZ:=am (Kd.C_drew HZ.1)
    refine sr 4 (fun w'=>w'.cell? ⟨g7,0,none⟩=some (.slice A0 l0.length c0)∧w'.cell? ⟨g7,1,none⟩=some (.slice Ay y.length cy)∧w'.cell? ⟨g7,2,none⟩=some (.slice Az z.length cz)) [2] ⟨(I5 aB.1 0).trans rfl,(I5 aB.1 1).trans rfl,(I5 aB.1 2).trans rfl⟩ fun hHeld=>?_
    generalize hw_:w20.drew=w90 at aA aB HB HY HZ hHeld ⊢
    refine rg [0,1] ?_
    have aO:=bq aA 0 (.slice none 0 0)
    have aP:=bq aA 1 (.slice none 0 0)
    have aQ:=bq aA 2 (.slice none 0 0)
    have aH:=C9 aA.1 0
    have aE:=C9 aA.1 1
    have aF:=C9 aA.1 2
    refine AF0 (i:=2) (N:=none) (lb 4 7) rfl rfl (by kernel_rfl) (by decide) (fun K hK=>?_)
    refine AS8 (w1:=?_) (by rfl) rfl ?_ ?_
    rotate_left
    ·go_simp
     rfl
    refine hK.out _ _ ?_
    clear hK K
    refine pw 3 ?_
    refine dn ?_
    try go_wp2
    refine bodyPost_ret (AE9 (rs:=[.tmp 4,.cell 5 86,.tmp 6]) rfl (by simp) (.tmp (.cell g5 86 #[.slice A0 l0.length c0,.slice Ay y.length cy,.slice Az z.length cz] (0,0) _ rfl (U2 (U2 (U2 aA.1 0 (.slice A0 l0.length c0)) 1 (.slice Ay y.length cy)) 2 (.slice Az z.length cz)) underlying86 rfl (by kernel_rfl) (.tmp .nil)))) rfl ?_
    exact⟨_,_,_,_,fe,⟨K5.keep aA.1 HY.1 _ _ _ _ _ _ _ _ _ rfl rfl,hly⟩,⟨K5.keep aA.1 HZ.1 _ _ _ _ _ _ _ _ _ rfl rfl,hlz⟩,((HB.1.setCell aC.1 _).setCell aC.1 _).setCell aC.1 _⟩
   have aT:=decide_eq_false c7
   rw[aT]
   clear c7
   replace H:=jt H;obtain⟨c8,H⟩:=H
   obtain⟨y1,aX⟩:=ey (z++ [v]:List Int)
   rw[←aX.1]at H
   have LM:=am c8
   clear c8
   have H':=am H
   clear H
   have aL:=bq aB 2 (.slice Az z.length cz)
   go_wp2_with ((with_reducible refine gb 50 52 ?_);at_builtin;refine ra KI underlying22 J9 (.slice Az z.length cz) z v [.int .i64 v] (fun k_=>some k_≠(.slice (some ad) W.length cW:Value).ownBlock∧some k_≠(.slice Ay y.length cy:Value).ownBlock) rfl (fun k_ hk=>⟨Kd.fresh' (Kd.R_lt (rR HW)) k_ hk,Kd.fresh' (Kd.R_lt (rR HRY)) k_ hk⟩) (rR HRZ) bz (lm LM) ?_;intro v15 w15 ho hb hg hat;rw[←aX.1]at ho;replace HW:=am (Kd.R_mono (Kd.R_after (ok:=fun _=>True) (rM HW (fun _ hk=>(And.intro trivial hk))) hg hat) (fun _ hk=>hk.2));replace HRY:=am (Kd.R_mono (Kd.R_after (ok:=fun _=>True) (rM HRY (fun _ hk=>(And.intro trivial hk))) hg hat) (fun _ hk=>hk.2));replace aA:=am (AL1 (bk aA) hg (fun h_=>((Kd.R_types HRZ.1 aA.1 (by decide)).1 _ h_.symm).2 rfl));replace aB:=am (AL1 (bk aB) hg (fun h_=>((Kd.R_types HRZ.1 aB.1 (by decide)).1 _ h_.symm).2 rfl));replace HB:=am hb;clear HRZ;have HRZ:=am ho;clear ho hb hg hat aL;obtain⟨A15,c15,rfl⟩:=Kd.R_slice HRZ.1;have aL:=bq aB 2 (.slice Az z.length cz);have aF:=C9 aB.1 2)
   go_roundg k1
   case measure=>exact lm aR
   case rel=>exact⟨wrap64 (i+1),y,y1,.slice Ay y.length cy,.slice A15 y1.length c15,fz,H',la aR,⟨(Kd.R_mono (Kd.R_far (p:=⟨g7,2,none⟩) (Kd.R_types HW.1 aB.1 (by decide)) (fun _ hk=>hk.2) _) (fun _ hk=>hk.1))⟩,⟨(Kd.R_mono (Kd.R_far (p:=⟨g7,2,none⟩) (Kd.R_types HRY.1 aB.1 (by decide)) (fun _ hk=>hk.2) _) (fun _ hk=>hk.1))⟩,⟨(Kd.R_mono (Kd.R_far (p:=⟨g7,2,none⟩) (Kd.R_types HRZ.1 aB.1 (by decide)) (fun _ hk=>hk.2) _) (fun _ hk=>hk.1))⟩,⟨AG3 aA.1 aJ.1 _⟩,⟨U2 aB.1 2 _⟩,⟨HB.1.setCell aI.1 _⟩⟩
  have c6b:=beq_eq_false_iff_ne.mpr c6
  revert H;refine io ?_ ?_<;>intro c9 H
  ·have c9b:=beq_iff_eq.mpr c9
   clear c6 c9
   replace H:=bi H;obtain⟨⟨t1,t2⟩,A37,H⟩:=H
   have H':=am H
   clear H
   go_upto_if 63 with(first|((with_reducible refine ga 60 ?_);refine gs func60 (V5.calls k1 (o9 ByteArray.empty Y i) t1 t2 _ A37.1) ?_;rintro v39 w39 ⟨ho,hb⟩;have HT:=am (Kd.R_lower (Kd.R_new' ho (Kd.R_lt HRZ.1)) (C5 bz));replace HW:=am (Kd.R_elder' HW.1 (Kd.R_base ho) hb);replace HRY:=am (Kd.R_elder' HRY.1 (Kd.R_base ho) hb);replace HRZ:=am (Kd.R_elder' HRZ.1 (Kd.R_base ho) hb);replace aA:=am (Y2 aA.1 hb);replace aB:=am (Y2 aB.1 hb);replace HB:=bS hb;clear ho hb aG;obtain⟨At,ct,rfl⟩:=Kd.R_slice HT.1))
   have H:=H'.1
   replace H:=jb H;rcases H with⟨rfl,H⟩|⟨rfl,H⟩
   ·have H':=am H
    clear H
    have aU:=bq aB 1 (.slice Ay y.length cy)
    have aE:=C9 aB.1 1
    go_wp2
    go_roundg k1
    case measure=>exact lm aR
    case rel=>exact⟨wrap64 (i+1),t1,z,.slice At t1.length ct,.slice Az z.length cz,fz,H',la aR,⟨Kd.R_mono ((Kd.R_mono (Kd.R_far (p:=⟨g7,1,none⟩) (Kd.R_types HW.1 aB.1 (by decide)) (fun _ hk=>hk.2) _) (fun _ hk=>hk.1))) (fun _ hk=>hk.1)⟩,⟨Kd.R_mono ((Kd.R_mono (Kd.R_far (p:=⟨g7,1,none⟩) (Kd.R_types HT.1 aB.1 (by decide)) (fun _ hk=>hk.2) _) (fun _ hk=>hk.1))) (fun _ hk=>hk.2)⟩,⟨Kd.R_mono ((Kd.R_mono (Kd.R_far (p:=⟨g7,1,none⟩) (Kd.R_types HRZ.1 aB.1 (by decide)) (fun _ hk=>hk.2) _) (fun _ hk=>hk.1))) (fun _ hk=>⟨hk.1.1,hk.2⟩)⟩,⟨AG3 aA.1 aJ.1 _⟩,⟨U2 aB.1 1 _⟩,⟨HB.1.setCell aI.1 _⟩⟩
   simp only[Option.some.injEq,Prod.mk.injEq]at H
   obtain⟨rfl,rfl,rfl,rfl⟩:=H
   go_wp2
   have HY:=am (Kd.R_reads' HRY.1).2.2
   have HZ:=am (Kd.R_reads' HRZ.1).2.2
   clear HRY HRZ HW
   clear HT
   replace aA:=am (m4 aA.1)
   replace aB:=am (m4 aB.1)
   replace HB:=am (F8 HB.1)
   replace HY:=am (Kd.C_drew HY.1)
   replace HZ:=am (Kd.C_drew HZ.1)
   refine sr 4 (fun w'=>w'.cell? ⟨g7,0,none⟩=some (.slice A0 l0.length c0)∧w'.cell? ⟨g7,1,none⟩=some (.slice Ay y.length cy)∧w'.cell? ⟨g7,2,none⟩=some (.slice Az z.length cz)) [2] ⟨(I5 aB.1 0).trans rfl,(I5 aB.1 1).trans rfl,(I5 aB.1 2).trans rfl⟩ fun hHeld=>?_
   generalize hw_:w39.drew=w90 at aA aB HB HY HZ hHeld ⊢
   refine rg [0,1] ?_
   have aO:=bq aA 0 (.slice none 0 0)
   have aP:=bq aA 1 (.slice none 0 0)
   have aQ:=bq aA 2 (.slice none 0 0)
   have aH:=C9 aA.1 0
   have aE:=C9 aA.1 1
   have aF:=C9 aA.1 2
   refine AF0 (i:=2) (N:=none) (lb 4 7) rfl rfl (by kernel_rfl) (by decide) (fun K hK=>?_)
   refine AS8 (w1:=?_) (by rfl) rfl ?_ ?_
   rotate_left
   ·go_simp
    rfl
   refine hK.out _ _ ?_
   clear hK K
   refine pw 3 ?_
   refine dn ?_
   try go_wp2
   refine bodyPost_ret (AE9 (rs:=[.tmp 4,.cell 5 86,.tmp 6]) rfl (by simp) (.tmp (.cell g5 86 #[.slice A0 l0.length c0,.slice Ay y.length cy,.slice Az z.length cz] (0,0) _ rfl (U2 (U2 (U2 aA.1 0 (.slice A0 l0.length c0)) 1 (.slice Ay y.length cy)) 2 (.slice Az z.length cz)) underlying86 rfl (by kernel_rfl) (.tmp .nil)))) rfl ?_
   exact⟨_,_,_,_,fe,⟨K5.keep aA.1 HY.1 _ _ _ _ _ _ _ _ _ rfl rfl,hly⟩,⟨K5.keep aA.1 HZ.1 _ _ _ _ _ _ _ _ _ rfl rfl,hlz⟩,((HB.1.setCell aC.1 _).setCell aC.1 _).setCell aC.1 _⟩
  have c9b:=beq_eq_false_iff_ne.mpr c9
  simp only[Option.some.injEq,Prod.mk.injEq]at H
  obtain⟨rfl,rfl,rfl,rfl⟩:=H
  clear c6 c9
  go_wp2
  clear aG
  have HY:=am (Kd.R_reads' HRY.1).2.2
  have HZ:=am (Kd.R_reads' HRZ.1).2.2
  clear HRY HRZ HW
  replace aA:=am (m4 aA.1)
  replace aB:=am (m4 aB.1)
  replace HB:=am (F8 HB.1)
  replace HY:=am (Kd.C_drew HY.1)
  replace HZ:=am (Kd.C_drew HZ.1)
  refine sr 4 (fun w'=>w'.cell? ⟨g7,0,none⟩=some (.slice A0 l0.length c0)∧w'.cell? ⟨g7,1,none⟩=some (.slice Ay y.length cy)∧w'.cell? ⟨g7,2,none⟩=some (.slice Az z.length cz)) [2] ⟨(I5 aB.1 0).trans rfl,(I5 aB.1 1).trans rfl,(I5 aB.1 2).trans rfl⟩ fun hHeld=>?_
  generalize hw_:wr.drew=w90 at aA aB HB HY HZ hHeld ⊢
  refine rg [0,1] ?_
  have aO:=bq aA 0 (.slice none 0 0)
  have aP:=bq aA 1 (.slice none 0 0)
  have aQ:=bq aA 2 (.slice none 0 0)
  have aH:=C9 aA.1 0
  have aE:=C9 aA.1 1
  have aF:=C9 aA.1 2
  refine AF0 (i:=2) (N:=none) (lb 4 7) rfl rfl (by kernel_rfl) (by decide) (fun K hK=>?_)
  refine AS8 (w1:=?_) (by rfl) rfl ?_ ?_
  rotate_left
  ·go_simp
   rfl
  refine hK.out _ _ ?_
  clear hK K
  refine pw 3 ?_
  refine dn ?_
  try go_wp2
  refine bodyPost_ret (AE9 (rs:=[.tmp 4,.cell 5 86,.tmp 6]) rfl (by simp) (.tmp (.cell g5 86 #[.slice A0 l0.length c0,.slice Ay y.length cy,.slice Az z.length cz] (0,0) _ rfl (U2 (U2 (U2 aA.1 0 (.slice A0 l0.length c0)) 1 (.slice Ay y.length cy)) 2 (.slice Az z.length cz)) underlying86 rfl (by kernel_rfl) (.tmp .nil)))) rfl ?_
  exact⟨_,_,_,_,fe,⟨K5.keep aA.1 HY.1 _ _ _ _ _ _ _ _ _ rfl rfl,hly⟩,⟨K5.keep aA.1 HZ.1 _ _ _ _ _ _ _ _ _ rfl rfl,hlz⟩,((HB.1.setCell aC.1 _).setCell aC.1 _).setCell aC.1 _⟩
 have c3b:=decide_eq_false c3
 have aS:=HC1.1
 obtain⟨ad_,ead,aD⟩:=Kd.at_string (Kd.R_reads' HW.1).2.2 0 (by omega) (by omega)
 cases ead
 rw[show((0:Int)).toNat=0 from rfl,Addr.add_zero']at aD
 have q0:(0<W.length)=True:=eq_true (by omega)
 have q1:((0:Int)< (W.length:Int))=True:=eq_true (by omega)
 replace aD:wr.drew.cell? ad=some (.string (o9 ByteArray.empty W 0)):=aD
 simp only[Option.some.injEq,Prod.mk.injEq]at H
 obtain⟨rfl,rfl,rfl,rfl⟩:=H
 clear c3
 go_wp2
 have HY:=am (Kd.R_reads' HRY.1).2.2
 have HZ:=am (Kd.R_reads' HRZ.1).2.2
 clear HRY HRZ HW
 replace aA:=am (m4 aA.1)
 replace aB:=am (m4 aB.1)
 replace HB:=am (F8 HB.1)
 replace HY:=am (Kd.C_drew HY.1)
 replace HZ:=am (Kd.C_drew HZ.1)
 refine sr 7 (fun w'=>w'.cell? ⟨g7,0,none⟩=some (.slice A0 l0.length c0)∧w'.cell? ⟨g7,1,none⟩=some (.slice Ay y.length cy)∧w'.cell? ⟨g7,2,none⟩=some (.slice Az z.length cz)∧w'.cell? ad=some (.string (o9 ByteArray.empty W 0))) [5] ⟨(I5 aB.1 0).trans rfl,(I5 aB.1 1).trans rfl,(I5 aB.1 2).trans rfl,aD⟩ fun hHeld=>?_
 generalize hw_:wr.drew=w90 at aA aB HB HY HZ aD hHeld ⊢
 refine rg [0,1,2,3,4] ?_
 have aO:=bq aA 0 (.slice none 0 0)
 have aP:=bq aA 1 (.slice none 0 0)
 have aQ:=bq aA 2 (.slice none 0 0)
 have aH:=C9 aA.1 0
 have aE:=C9 aA.1 1
 have aF:=C9 aA.1 2
 refine AF0 (i:=5) (N:=none) (lb 7 63) rfl rfl (by kernel_rfl) (by decide) (fun K hK=>?_)
 refine AS8 (w1:=?_) (by rfl) rfl ?_ ?_
 rotate_left
 ·go_simp
  rfl
 refine hK.out _ _ ?_
 clear hK K
 refine pw 6 ?_
 refine dn ?_
 try go_wp2
 refine bodyPost_ret (AE9 (rs:=[.tmp 4,.cell 5 86,.tmp 6]) rfl (by simp) (.tmp (.cell g5 86 #[.slice A0 l0.length c0,.slice Ay y.length cy,.slice Az z.length cz] (0,0) _ rfl (U2 (U2 (U2 aA.1 0 (.slice A0 l0.length c0)) 1 (.slice Ay y.length cy)) 2 (.slice Az z.length cz)) underlying86 rfl (by kernel_rfl) (.tmp .nil)))) rfl ?_
 exact⟨_,_,_,_,fe,⟨K5.keep aA.1 HY.1 _ _ _ _ _ _ _ _ _ rfl rfl,hly⟩,⟨K5.keep aA.1 HZ.1 _ _ _ _ _ _ _ _ _ rfl rfl,hlz⟩,((HB.1.setCell aC.1 _).setCell aC.1 _).setCell aC.1 _⟩
def O5.f:Nat→Int→Option (ByteArray)
 |0,_=>none
 |k+1,a=>if a<10 then(some (strOfNums (([(wrap64 (48+a)) % 256]:List Int))))else((O5.f k (wrap64 (Int.tdiv a 10))).bind fun b=>((some (([(wrap64 (48+ (Int.tmod a 10))) % 256]:List Int):List Int)).bind fun c=>(if b.size+ (strOfNums c).size≤9223372036854775807 then(some (b++ (strOfNums c)))else(none))))
def O5.T3:Bool×List (List Nat×List Nat):=(true,[([],[]),([0],[0]),([1],[1]),([],[]),([3],[3]),([4],[4]),([5],[5]),([6],[6]),([7],[7]),([2,8],[2,8]),([9,2,0,1,2,3,4,5,6,7,8,9],[9])])
def O5.B3:List Nat:=[0,1,3,0,8,24,56,120,248,511,1023]
theorem O5.tab3:AA0 .any (AC6 f68 3)=O5.T3:=by kernel_rfl
theorem O5.bits3:l6 O5.T3.2 O5.B3=true:=by kernel_rfl
theorem O5.calls (k:Nat):∀ (a0:Int) (r:ByteArray) (w:World) (h:O5.f k a0=some r),
 Calls prog 68 #[.int .i64 a0] w (pB w (.string r)):=by
 induction k using Nat.strongRecOn with
 |_ k ih =>
 intro a0 r w h
 cases k with
 |zero=>exact absurd h (by simp[O5.f])
 |succ k =>
 simp only[O5.f]at h
 have HB:=bR w
 have H:=h
 revert H
 refine iD ?_ ?_<;>intro c2b0
 ·generalize aB:([(wrap64 (48+a0)) % 256]:List Int)=y634
  replace aB:=am aB.symm
  refine i1 ?_;rintro rfl
  go_in
  go_wp2_with ((with_reducible refine gd 8 ?_);refine rl (Kd.int .u8) 5 ([(wrap64 (48+a0)) % 256]:List Int) [.int .u8 ((wrap64 (48+a0)) % 256)] (J7.one (show Kd.M (Kd.int .u8) _ _ _ ((wrap64 (48+a0)) % 256) [.int .u8 ((wrap64 (48+a0)) % 256)]from rfl) (J7.none _ _)) ?_;intro v635 w3 aI hb;(first|rw[←aB.1]at aI|(simp only[Int.reduceToNat]at aI;rw[←aB.1]at aI));have aJ:=am (Kd.R_lower aI (C5 bz));replace HB:=bS hb;clear hb aI;have hcv5:=AM8 (P:=prog) underlying28 underlying5 underlying9 (Kd.own_of_R aJ.1))
  go_ret
  exact⟨fe,bz⟩
 refine ib fun aE A6=>iy fun aF aC=>it fun c7=>?_
 have c7b0:=eq_true c7
 have c7b1:=decide_eq_true c7
 try have c7b2:(9223372036854775807<aE.size+ (strOfNums aF).size)=False:=eq_false (Nat.not_lt.2 c7)
 refine i1 ?_;rintro rfl
 go_in
 try go_wp2
 replace HB:=am (F8 HB.1)
 refine sq 11 (fun w'=>True) [] O5.tab3 O5.bits3 trivial fun hHeld HT_ HW_=>?_
 generalize w.drew=w8 at HB hHeld ⊢
 refine rg [0,1,3,4,5,6] ?_
 refine BV4 (σ:=Value) 2 (lb 11 511) (fun s_=>[(12,.string aE),(17,s_),(18,.string (strOfNums aF))]) (fun s_ w'=>(Kd.R (Kd.int .u8) 5 w' w.heap.size (fun _=>True) s_ aF)∧(Below w.heap.size w w')) ?_ ?_
 rotate_left
 ·intro hCont
  refine BM8 (i:=2) (j:=7) (Ni:=some 12) (Nj:=some 17) (lb 11 127) (lb 11 251) rfl rfl rfl rfl (Aq4 HT_.1 (by kernel_rfl)) (by decide) (by decide) (fun K hK=>?_) (fun K hK=>?_)
  ·skip
   refine gs' func68 #[.int .i64 (wrap64 (Int.tdiv a0 10))] ?_
   with_reducible refine(ih k (by omega) (wrap64 (Int.tdiv a0 10)) aE _ A6.1).mono ?_
   rintro e w9 ⟨rfl,hb⟩
   refine⟨_,rfl,?_⟩
   replace HB:=bS hb
   refine hK.out _ _ trivial (fun hHeld=>?_)
   refine nm 12 ?_
   refine AD4 (i:=7) (N:=some 17) (lb 11 255) rfl rfl (g6 HT_.1 (by kernel_rfl)) (by decide) (fun K hK=>?_)
   refine Kd.R_lit_step (Kd.int .u8) _ 5 ?hg (N:=17) ?hd (xs:=([(wrap64 (48+ (Int.tmod a0 10))) % 256]:List Int)) (inner:=[.int .u8 ((wrap64 (48+ (Int.tmod a0 10))) % 256)]) (ok:=fun _=>True) (okp:=fun _=>True) ?hr ?hp (fun _ hk=>hk) trivial (Below.refl _ _) (Nat.le_refl _) (by simp) ?_;(case hd=>rfl);(case hg=>rfl);(case hr=>first|(go_simp;done)|(go_simp;rfl));(case hp=>exact(J7.one (show Kd.M (Kd.int .u8) _ _ _ ((wrap64 (48+ (Int.tmod a0 10))) % 256) [.int .u8 ((wrap64 (48+ (Int.tmod a0 10))) % 256)]from rfl) (J7.none _ _)))
   intro aD w10 aG hb hg_ hnew_
   (first|rw[←aC.1]at aG|(simp only[Int.reduceToNat]at aG;rw[←aC.1]at aG))
   have aA:=am (Kd.R_lower aG (C5 bz))
   replace HB:=bS hb
   refine hK.out _ _ trivial (fun hHeld=>?_)
   refine nm 17 ?_
   refine AD4 (i:=8) (N:=some 18) (lb 11 511) rfl rfl (g6 HT_.1 (by kernel_rfl)) (by decide) (fun K hK=>?_)
   have aK:=AM8 (P:=prog) underlying28 underlying5 underlying9 (Kd.own_of_R aA.1)
   refine AL9 (w1:=?_) (v:=?_) (by rfl) rfl ?_ ?_
   rotate_left 2
   ·go_simp
    constructor
    ·rfl
    ·rfl
   refine hK.out _ _ trivial (fun hHeld=>?_)
   refine nm 18 ?_
   exact AX2 (by simp only[AI5,Act.put,List.setIfInBounds_toArray,List.set_cons_zero,List.set_cons_succ]) (hCont (aD) _ ⟨(rR aA),bz⟩)
  ·skip
   refine Kd.R_lit_step (Kd.int .u8) _ 5 ?hg (N:=17) ?hd (xs:=([(wrap64 (48+ (Int.tmod a0 10))) % 256]:List Int)) (inner:=[.int .u8 ((wrap64 (48+ (Int.tmod a0 10))) % 256)]) (ok:=fun _=>True) (okp:=fun _=>True) ?hr ?hp (fun _ hk=>hk) trivial (Below.refl _ _) (Nat.le_refl _) (by simp) ?_;(case hd=>rfl);(case hg=>rfl);(case hr=>first|(go_simp;done)|(go_simp;rfl));(case hp=>exact(J7.one (show Kd.M (Kd.int .u8) _ _ _ ((wrap64 (48+ (Int.tmod a0 10))) % 256) [.int .u8 ((wrap64 (48+ (Int.tmod a0 10))) % 256)]from rfl) (J7.none _ _)))
   intro aD w9 aH hb hg_ hnew_
   (first|rw[←aC.1]at aH|(simp only[Int.reduceToNat]at aH;rw[←aC.1]at aH))
   have aA:=am (Kd.R_lower aH (C5 bz))
   replace HB:=bS hb
   refine hK.out _ _ trivial (fun hHeld=>?_)
   refine nm 17 ?_
   refine BM8 (i:=2) (j:=8) (Ni:=some 12) (Nj:=some 18) (lb 11 255) (lb 11 507) rfl rfl rfl rfl (Aq4 HT_.1 (by kernel_rfl)) (by decide) (by decide) (fun K hK=>?_) (fun K hK=>?_)
   ·skip
    refine gs' func68 #[.int .i64 (wrap64 (Int.tdiv a0 10))] ?_
    with_reducible refine(ih k (by omega) (wrap64 (Int.tdiv a0 10)) aE _ A6.1).mono ?_
    rintro e w11 ⟨rfl,hb⟩
    refine⟨_,rfl,?_⟩
    replace aA:=am (Kd.R_below (rR aA) hb)
    replace HB:=bS hb
    refine hK.out _ _ trivial (fun hHeld=>?_)
    refine nm 12 ?_
    refine AD4 (i:=8) (N:=some 18) (lb 11 511) rfl rfl (g6 HT_.1 (by kernel_rfl)) (by decide) (fun K hK=>?_)
    have aK:=AM8 (P:=prog) underlying28 underlying5 underlying9 (Kd.own_of_R aA.1)
    refine AL9 (w1:=?_) (v:=?_) (by rfl) rfl ?_ ?_
    rotate_left 2
    ·go_simp
     constructor
     ·rfl
     ·rfl
    refine hK.out _ _ trivial (fun hHeld=>?_)
    refine nm 18 ?_
    exact AX2 (by simp only[AI5,Act.put,List.setIfInBounds_toArray,List.set_cons_zero,List.set_cons_succ]) (hCont (aD) _ ⟨(rR aA),bz⟩)
   ·skip
    have aL:=AM8 (P:=prog) underlying28 underlying5 underlying9 (Kd.own_of_R aA.1)
    refine AL9 (w1:=?_) (v:=?_) (by rfl) rfl ?_ ?_
    rotate_left 2
    ·go_simp
     constructor
     ·rfl
     ·rfl
    refine hK.out _ _ trivial (fun hHeld=>?_)
    refine nm 18 ?_
    refine oc 2 func68 (ih k (by omega) (wrap64 (Int.tdiv a0 10)) aE _ A6.1) ?_
    rintro e w12 ⟨rfl,hb⟩
    replace aA:=am (Kd.R_below (rR aA) hb)
    replace HB:=bS hb
    refine⟨_,rfl,trivial,fun hHeld=>nm 12 ?_⟩
    exact AX2 (by simp only[AI5,Act.put,List.setIfInBounds_toArray,List.set_cons_zero,List.set_cons_succ]) (hCont (aD) _ ⟨(rR aA),bz⟩)
 rintro aD aM ⟨h0_,h1_⟩
 have n0_:Aside0 (Kd.R (Kd.int .u8) 5 aM w.heap.size (fun _=>True) aD aF):=⟨h0_⟩
 have n1_:Aside0 (Below w.heap.size w aM):=⟨h1_⟩
 have aA:=n0_
 have HB:=n1_
 have hHeld:=trivial
 refine AX2 (a':=?_) ?_ ?_
 rotate_left
 ·simp only[AI5,Act.put,List.setIfInBounds_toArray,List.set_cons_zero,List.set_cons_succ]
  rfl
 refine rg [9,10] ?_
 refine dn ?_
 try go_wp2
 go_ret
 exact⟨fe,bz⟩
def Q2.l0:Nat→ByteArray→List Int→Int→Int→Option (ByteArray)
 |0,_,_,_,_=>none
 |k+1,b,c,d,a=>if a<d then(if 0≤a then(if a< (c.length:Int)then(if a>0 then(if b.size+1≤9223372036854775807 then((O5.f k (rd c a)).bind fun e=>(if(b++ (⟨#[44]⟩:ByteArray)).size+e.size≤9223372036854775807 then(Q2.l0 k ((b++ (⟨#[44]⟩:ByteArray))++e) c d (wrap64 (a+1)))else(none)))else(none))else((O5.f k (rd c a)).bind fun f=>(if b.size+f.size≤9223372036854775807 then(Q2.l0 k (b++f) c d (wrap64 (a+1)))else(none))))else(none))else(none))else(if b.toList=([]:List UInt8)then(some (⟨#[45]⟩:ByteArray))else(some b))
def Q2.f (k:Nat)(a:List Int):Option (ByteArray):=Q2.l0 k (⟨#[]⟩:ByteArray) a (a.length:Int) 0
theorem Q2.calls (k A0 c0 l0 r w):Kd.C KI w A0 l0.length l0→l0.length≤c0→Q2.f k l0=some r→
 Calls prog 56 #[.slice A0 l0.length c0] w (pB w (.string r)):=by
 have HB:=bR w
 refine pa fun aN HC0=>?_
 unfold Q2.f
 refine ia fun H'=>?_
 go_in
 go_wp2
 go_loopg [3,8] k (fun kq v3 v8 w'=>∃ (aC:ByteArray) (aB:Int),v3=.string aC∧v8=.int .i64 aB∧Aside0 (Q2.l0 kq aC l0 (l0.length:Int) aB=some r)∧Aside0 (kq≤k)∧Aside0 (Below w.heap.size w w'))
 case atStart=>exact⟨_,_,fz,fz,H',lr,⟨bz⟩⟩
 case round =>
 obtain⟨aC,aB,rfl,rfl,⟨H⟩,aI,HB⟩:=hrel
 cases gk with
 |zero=>cases H
 |succ k1 =>
 simp only[Q2.l0]at H
 revert H
 refine iD ?_ ?_<;>intro c2b0
 ·refine U9 fun c3b0=>U9 fun c4b0=>io ?_ ?_<;>intro c5
  ·have aJ:decide (0<aB)=true:=(decide_eq_true c5)
   refine it fun c6=>?_
   have c6b0:=eq_true c6
   have c6b1:=decide_eq_true c6
   try have c6b2:(9223372036854775807<aC.size+1)=False:=eq_false (Nat.not_lt.2 c6)
   refine ib fun aD A7=>it fun c8=>?_
   have c8b0:=eq_true c8
   have c8b1:=decide_eq_true c8
   try have c8b2:(9223372036854775807< (aC++ (⟨#[44]⟩:ByteArray)).size+aD.size)=False:=eq_false (Nat.not_lt.2 c8)
   have aO:aC.size+1+aD.size≤9223372036854775807:=by have h_:=c8;simp only[ByteArray.size_append]at h_;exact h_
   have c8b3:=eq_true aO
   have c8b4:(9223372036854775807<aC.size+1+aD.size)=False:=eq_false (Nat.not_lt.2 aO)
   refine ia fun H'=>?_
   obtain⟨aK,aL,aE,rfl,aA⟩:=ai aN.1 aB
   replace aA:=cl aA
   go_wp2_with ((with_reducible refine ga 68 ?_);refine gB func68 (O5.calls k1 (rd l0 aB) aD _ A7.1) bz ?_;clear HB;intro w9 HB)
   go_roundg k1
   case measure=>exact lm aI
   case rel=>exact⟨_,_,fz,fz,H',la aI,⟨bz⟩⟩
  have aJ:decide (0<aB)=false:=(decide_eq_false c5)
  refine ib fun aF A10=>it fun aM=>?_
  have aP:=eq_true aM
  have aQ:=decide_eq_true aM
  try have aR:(9223372036854775807<aC.size+aF.size)=False:=eq_false (Nat.not_lt.2 aM)
  refine ia fun H'=>?_
  obtain⟨aK,aL,aE,rfl,aA⟩:=ai aN.1 aB
  replace aA:=cl aA
  go_wp2_with ((with_reducible refine ga 68 ?_);refine gB func68 (O5.calls k1 (rd l0 aB) aF _ A10.1) bz ?_;clear HB;intro w12 HB)
  go_roundg k1
  case measure=>exact lm aI
  case rel=>exact⟨_,_,fz,fz,H',la aI,⟨bz⟩⟩
 refine iE (fun aG aH=>?_) fun c13 aG aH=>?_
 ·refine i1 ?_;rintro rfl
  go_wp2
  go_ret
  exact⟨fe,bz⟩
 refine i1 ?_;rintro rfl
 go_wp2
 go_ret
 exact⟨fe,bz⟩
def H3.f:Nat→Int→Option (Int)
 |0,_=>none
 |k+1,a=>if a=0 then(some 1)else((H3.f k (wrap64 (a - 1))).bind fun b=>(some (wrap64 (a*b))))
theorem H3.mono_l:∀k,(∀y0,S6 (H3.f k y0) (H3.f (k+1) y0))
 |0=>fun _ r h=>by simp[H3.f]at h
 |k+1=>by
  have ih0:=H3.mono_l k
  ·intro y0
   unfold H3.f
   exact mo
theorem H3.mono:∀a0 k,S6 (H3.f k a0) (H3.f (k+1) a0):=by
 intro a0 k
 have ih0:=H3.mono_l k
 exact ih0 a0
theorem H3.calls (k:Nat):∀ (a0 r:Int) (w:World) (h:H3.f k a0=some r),
 Calls prog 150 #[.int .i64 a0] w (pD w (.int .i64 r)):=by
 induction k using Nat.strongRecOn with
 |_ k ih =>
 intro a0 r w h
 cases k with
 |zero=>exact absurd h (by simp[H3.f])
 |succ k =>
 simp only[H3.f]at h
 have H:=h
 revert H
 refine iE (fun aA aB=>?_) fun c2 aA aB=>?_
 ·refine i1 ?_;rintro rfl
  go_in
  go_wp2
  go_ret
  exact⟨fz,dz⟩
 refine ib fun aC A3=>i1 ?_;rintro rfl
 go_in
 go_wp2_with ((with_reducible refine ga 150 ?_);refine gp func150 (ih k (by omega) (wrap64 (a0 - 1)) aC _ A3.1) fun nd=>?_)
 go_ret
 exact⟨fz,dz⟩
mutual
def F7.l0:Nat→List Int→Int→List Int→Int→Int→Option (Int)
 |0,_,_,_,_,_=>none
 |k+1,a,e,c,d,b=>if b<d then(if 0≤b then(if b< (c.length:Int)then(if 0< (a.length:Int)then(if(rd c b)< (rd a 0)then(F7.l0 k a (wrap64 (e+1)) c d (wrap64 (b+1)))else(F7.l0 k a e c d (wrap64 (b+1))))else(none))else(none))else(none))else((H3.f k (wrap64 ((a.length:Int) - 1))).bind fun f=>(if 1≤(a.length:Int)then((F7.f k (a.drop 1)).bind fun g=>(some (wrap64 ((wrap64 (e*f))+g))))else(none)))
def F7.f:Nat→List Int→Option (Int)
 |0,_=>none
 |k+1,a=>if(a.length:Int)=0 then(some 0)else(F7.l0 k a 0 a (a.length:Int) 0)
end
theorem F7.mono_l:∀k,(∀y0,S6 (F7.f k y0) (F7.f (k+1) y0))∧(∀y0 y1 y2 y3 y4,S6 (F7.l0 k y0 y1 y2 y3 y4) (F7.l0 (k+1) y0 y1 y2 y3 y4))
 |0=>⟨fun _ r h=>by simp[F7.f]at h,fun _ _ _ _ _ r h=>by simp[F7.l0]at h⟩
 |k+1=>by
  obtain⟨ih0,ih1⟩:=F7.mono_l k
  refine⟨?_,?_⟩
  ·intro y0
   unfold F7.f
   have e0:=H3.mono;exact mo
  ·intro y0 y1 y2 y3 y4
   unfold F7.l0
   have e0:=H3.mono;exact mo
theorem F7.mono:∀a0 k,S6 (F7.f k a0) (F7.f (k+1) a0):=by
 intro a0 k
 obtain⟨ih0,ih1⟩:=F7.mono_l k
 exact ih0 a0
def F7.T10:Bool×List (List Nat×List Nat):=(true,[([],[]),([],[]),([1],[1]),([2],[2]),([3],[3]),([0,4],[0,4]),([],[]),([6],[6]),([7,4],[7]),([5,8],[5,8]),([9,8,0,1,2,3,4,5,6,7,8,9],[9])])
def F7.B10:List Nat:=[0,0,2,6,14,31,0,64,222,511,1023]
theorem F7.tab10:AA0 .any (AC6 f106 10)=F7.T10:=by kernel_rfl
theorem F7.bits10:l6 F7.T10.2 F7.B10=true:=by kernel_rfl
theorem F7.calls (k:Nat):∀ (A0:Option Addr) (c0:Nat) (l0:List Int) (r:Int) (w:World) (hr0:Kd.C KI w A0 l0.length l0) (hc0:l0.length≤c0) (h:F7.f k l0=some r),
 Calls prog 106 #[.slice A0 l0.length c0] w (pB w (.int .i64 r)):=by
 induction k using Nat.strongRecOn with
 |_ k ih =>
 intro A0 c0 l0 r w hr0 hc0 h
 cases k with
 |zero=>exact absurd h (by simp[F7.f])
 |succ k =>
 simp only[F7.f]at h
 have aK:=am hr0
 have HC0:=am hc0
 have HB:=bR w
 have H:=h
 revert H
 refine iE (fun aQ aR=>?_) fun c2 aQ aR=>?_
 ·refine i1 ?_;rintro rfl
  go_in
  go_wp2
  go_ret
  exact⟨fe,bz⟩
 have c2b2:¬(l0=[]):=fun h_=>c2 (by rw[h_];rfl)
 refine ia fun H'=>?_
 go_in
 go_wp2
 go_loopg [3,11] k (fun kq v3 v11 w'=>∃ (aI aC:Int),v3=.int .i64 aI∧v11=.int .i64 aC∧Aside0 (F7.l0 kq l0 aI l0 (l0.length:Int) aC=some r)∧Aside0 (kq≤k)∧Aside0 (Below w.heap.size w w'))
 case atStart=>exact⟨_,_,fz,fz,H',lr,⟨bz⟩⟩
 case round =>
 obtain⟨aI,aC,rfl,rfl,⟨H⟩,aL,HB⟩:=hrel
 cases gk with
 |zero=>cases H
 |succ k1 =>
 simp only[F7.l0]at H
 revert H
 refine iD ?_ ?_<;>intro c3b0
 ·refine U9 fun c4b0=>U9 fun c5b0=>it fun c6=>?_
  have c6b0:=decide_eq_true c6
  have c6b1:decide (0<l0.length)=true:=decide_eq_true (by omega)
  refine iD ?_ ?_<;>intro c7b0
  ·refine ia fun H'=>?_
   obtain⟨aS,aT,aF,rfl,aB⟩:=ai aK.1 aC
   replace aB:=cl aB
   have aD:0≤(0:Int):=(by omega)
   have aE:0< (l0.length:Int):=od
   obtain⟨aG,aJ,aA⟩:=Kd.at_int aK.1 0 aD aE
   obtain rfl:aF=aG:=(by injection aJ)
   have aM:(0<l0.length)=True:=eq_true (by omega)
   (try rw[show((0:Int)).toNat=0 from rfl]at aA)
   (try rw[Addr.add_zero']at aA)
   replace aA:=cl aA
   replace aD:=eq_true aD
   replace aE:=eq_true aE
   go_wp2
   go_roundg k1
   case measure=>exact lm aL
   case rel=>exact⟨_,_,fz,fz,H',la aL,⟨bz⟩⟩
  refine ia fun H'=>?_
  obtain⟨aS,aT,aF,rfl,aB⟩:=ai aK.1 aC
  replace aB:=cl aB
  have aD:0≤(0:Int):=(by omega)
  have aE:0< (l0.length:Int):=od
  obtain⟨aG,aJ,aA⟩:=Kd.at_int aK.1 0 aD aE
  obtain rfl:aF=aG:=(by injection aJ)
  have aM:(0<l0.length)=True:=eq_true (by omega)
  (try rw[show((0:Int)).toNat=0 from rfl]at aA)
  (try rw[Addr.add_zero']at aA)
  replace aA:=cl aA
  replace aD:=eq_true aD
  replace aE:=eq_true aE
  go_wp2
  go_roundg k1
  case measure=>exact lm aL
  case rel=>exact⟨_,_,fz,fz,H',la aL,⟨bz⟩⟩
 refine ib fun aU A8=>if' fun c9b0 c9b1=>ib fun aV A10=>i1 ?_;rintro rfl
 try go_wp2
 replace HB:=am (F8 HB.1)
 obtain⟨i012,aN,_,aO,_⟩:=info_parts J9
 obtain⟨A12,aW,aX,aY⟩:=X7 (P:=prog) (Value.int .i64) 0 22 3 .i64 underlying22 aN aO A0 c0 l0 1 (by omega) (od) HC0.1
 have aH:=am (Kd.C_of_reads (h1:=fun _=>rfl) (aX _ (Kd.reads_of_C aK.1)))
 have aP:=am aY
 refine sq 11 (fun w'=>True) [] F7.tab10 F7.bits10 trivial fun hHeld HT_ HW_=>?_
 generalize wr.drew=w11 at HB aH hHeld ⊢
 refine rg [0,1,2,3,6,7] ?_
 refine oc 4 func150 (H3.calls k1 (wrap64 ((l0.length:Int) - 1)) aU _ A8.1) ?_
 rintro e w' ⟨rfl,⟨nd,rfl⟩⟩
 refine⟨_,rfl,trivial,fun hHeld=>nm 27 ?_⟩
 refine pw 5 ?_
 refine AD4 (i:=8) (N:=some 31) (lb 11 511) rfl rfl (g6 HT_.1 (by kernel_rfl)) (by decide) (fun K hK=>?_)
 refine AS9 func106 (by kernel_rfl) rfl #[.slice A12 (l0.drop 1).length (c0 - 1)] (by rfl) rfl rfl (by(try simp only[List.map_toArray,List.map_cons,List.map_nil]);first|done|(rw[show(l0.drop 1).length=(l0.length - 1)from List.length_drop]<;>rfl)|rfl|(simp only[List.length_drop,List.length_take];rfl)) ?_
 with_reducible refine(ih k1 (lm aL) _ _ (l0.drop 1) aV _ ?side1 ?side2 A10.1).mono ?_
 (case side1=>repeat(first|exact(Kd.C_below aH.1 bz)|(with_reducible refine Kd.C_alloc ?_ _)|(with_reducible refine Kd.C_drewN ?_ _)|(with_reducible refine Kd.C_drew ?_)))
 (case side2=>exact aP.1)
 rintro e w13 ⟨rfl,hb⟩
 refine⟨_,rfl,?_⟩
 replace HB:=bS hb
 refine hK.out _ _ trivial (fun hHeld=>?_)
 refine nm 31 ?_
 refine rg [9,10] ?_
 refine dn ?_
 try go_wp2
 go_ret
 exact⟨fe,bz⟩
def V1.f (k:Nat)(a:List Int):Option (Int×Bool):=(E0.f k a).bind fun b=>(if b=true then((F7.f k a).bind fun c=>(some (c,true)))else(some (0,false)))
theorem V1.calls (k A0 c0 l0 r1 r2 w):Kd.C KI w A0 l0.length l0→l0.length≤c0→V1.f k l0=some (r1,r2)→
 Calls prog 217 #[.slice A0 l0.length c0] w (pB w (.tuple #[.int .i64 r1,.bool r2])):=by
 have HB:=bR w
 refine pa fun aA aB=>?_
 unfold V1.f
 refine ib fun t650 A2=>iB ?_ ?_<;>rintro rfl
 ·refine ib fun aC A4=>i2 ?_;rintro rfl rfl
  go_in
  go_wp2_with (first|((with_reducible refine ga 45 ?_);refine gp func45 (E0.calls k A0 c0 l0 true _ (M8 aA.1) aB.1 A2.1) fun nd=>?_)|((with_reducible refine ga 106 ?_);refine gB func106 (F7.calls k A0 c0 l0 aC _ (M8 aA.1) aB.1 A4.1) bz ?_;clear HB;intro w5 HB))
  go_ret2
  exact⟨fe,bz⟩
 refine i2 ?_;rintro rfl rfl
 go_in
 go_wp2_with ((with_reducible refine ga 45 ?_);refine gp func45 (E0.calls k A0 c0 l0 false _ (M8 aA.1) aB.1 A2.1) fun nd=>?_)
 go_ret2
 exact⟨fe,bz⟩
def U3.f (a:Int):Option (Bool):=(G3.f a 0 12).bind fun b=>(some b)
theorem U3.calls (a0 r w):U3.f a0=some r→
 Calls prog 231 #[.int .i64 a0] w (pD w (.bool r)):=by
 unfold U3.f
 refine ib fun aA A2=>i1 ?_;rintro rfl
 go_in
 go_wp2_with ((with_reducible refine ga 78 ?_);refine gp func78 (G3.calls a0 0 12 aA _ A2.1) fun nd=>?_)
 go_ret
 exact⟨fz,dz⟩
def Q3.f (a:List Int):Option (List Int):=(some (([]:List Int):List Int)).bind fun b=>(if b.length+a.length<17592186044416 then(some (b++a))else(none))
theorem Q3.calls (A0 c0 l0 r w):Kd.C KI w A0 l0.length l0→l0.length≤c0→Q3.f l0=some r→
 Calls prog 48 #[.slice A0 l0.length c0] w (pR w KI 3 r):=by
 have HB:=bR w
 refine pa fun HR0 HC0=>?_
 unfold Q3.f
 refine iy fun aD aB=>il fun aG=>?_
 generalize aA:(aD++l0)=y656
 replace aA:=am aA.symm
 refine i1 ?_;rintro rfl
 go_in
 go_wp2_with (first|((with_reducible refine gd 3 ?_);refine rl KI 3 ([]:List Int) [] (J7.none _ _) ?_;intro aH w3 aE hb;(first|rw[←aB.1]at aE|(simp only[Int.reduceToNat]at aE;rw[←aB.1]at aE));have aC:=am (Kd.R_lower aE (C5 bz));replace HB:=bS hb;clear hb aE)|((with_reducible refine gb 3 4 ?_);at_builtin;refine rq KI underlying22 J9 aH aD l0 (fun _=>True) (by repeat(first|exact(Kd.C_below HR0.1 HB.1)|(with_reducible refine Kd.C_alloc ?_ _)|(with_reducible refine Kd.C_drewN ?_ _)|(with_reducible refine Kd.C_drew ?_))) (fun _ _=>trivial) (rR aC) bz (lm aG) ?_;intro v657 w5 ho hb hg hat;rw[←aA.1]at ho;replace HB:=am (hb);have aF:=am (ho);clear aC ho hb hg hat))
 go_ret
 exact⟨_,fe,rR aF,bz⟩
end Go.Proofs.YtpiogigidgejpaaGreatDoor.PFnExactStepLine
