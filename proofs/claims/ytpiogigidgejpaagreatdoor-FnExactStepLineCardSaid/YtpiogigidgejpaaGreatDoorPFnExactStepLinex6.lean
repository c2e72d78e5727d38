import Derived.Test.YtpiogigidgejpaaGreatDoorPFnExactStepLinex2
namespace Go.Proofs.YtpiogigidgejpaaGreatDoor.PFnExactStepLine
open Go.RowKit Go.Proofs.YtpiogigidgejpaaGreatDoorW.PrintWords Go.Proofs.YtpiogigidgejpaaGreatDoorW.PrintLast Go.Proofs.YtpiogigidgejpaaGreatDoorW.PrintMore Go.Proofs.YtpiogigidgejpaaGreatDoor.Sq Tryz
attribute [local go_sem] g8 g9 s8 q8 Y0 X9 b8 e6
set_option maxHeartbeats 8000000
set_option maxRecDepth 100000
set_option linter.unusedVariables false
set_option linter.unusedSimpArgs false
def C0.half (l:List Int) (a b:Int):List Int:=l.set a.toNat (Go.bits .xor .i64 (rd l a) (shl .i64 1 b))
def C0.turn (l:List Int) (a b:Int):List Int:=C0.half (C0.half l a b) b a
theorem C0.grown_trans {a b c:World} {row:Option Nat} (h:a.grownBy b row)(k:b.grownBy c row):a.grownBy c row:=⟨k.os.trans h.os,k.tape.trans h.tape,k.output.trans h.output,Nat.le_trans h.size k.size,fun i hi hn=>(k.block i (Nat.lt_of_lt_of_le hi h.size) hn).trans (h.block i hi hn)⟩
theorem C0.turn_calls (l:List Int) (a b:Int) (bl g c m B:Nat)(w:World)(hm:l.length=m)(hc:w.cell? ⟨bl,0,none⟩=some (.slice (some ⟨g,0,none⟩) m c))(hR:Kd.R KI 3 w B (fun _=>True) (.slice (some ⟨g,0,none⟩) m c) l)(ha0:0≤a)(ha1:a< (l.length:Int))(hb0:0≤b)(hb1:b< (l.length:Int))(hne:bl≠g) :
 Calls prog 213 #[.int .i64 a,.int .i64 b,.pointer (some ⟨bl,0,none⟩)] w fun e w'=>e=.returned (.tuple #[])∧Kd.R KI 3 w' B (fun _=>True) (.slice (some ⟨g,0,none⟩) m c) (C0.turn l a b)∧w.grownBy w' (some g):=by
 subst hm
 have a0b:=decide_eq_true ha0
 have a1b:=decide_eq_true ha1
 have b0b:=decide_eq_true hb0
 have b1b:=decide_eq_true hb1
 obtain⟨y1,hy1⟩:∃y:List Int,y=C0.half l a b:=⟨_,rfl⟩
 obtain⟨y2,hy2⟩:∃y:List Int,y=C0.half y1 b a:=⟨_,rfl⟩
 have hy:C0.turn l a b=y2:=by rw[hy2,hy1];rfl
 have hl1:y1.length=l.length:=by rw[hy1];unfold C0.half;rw[List.length_set]
 rw[hy]
 clear hy
 unfold C0.half at hy1 hy2
 obtain⟨s1,hs1⟩:∃s:Int,shl .i64 1 b=s:=⟨_,rfl⟩
 obtain⟨s2,hs2⟩:∃s:Int,shl .i64 1 a=s:=⟨_,rfl⟩
 rw[hs1]at hy1
 rw[hs2]at hy2
 obtain⟨hs1_,hs1z,hs1u,hs1v,hs1y,hs1x⟩:=sl hs1
 obtain⟨hs2_,hs2z,hs2u,hs2v,hs2y,hs2x⟩:=sl hs2
 have n1:=am hy1
 have n2:=am hy2
 clear hy1 hy2
 have aA:=Kd.R_drew hR
 have aB:w.drew.cell? ⟨bl,0,none⟩=some (.slice (some ⟨g,0,none⟩) l.length c):=hc
 have aC:w.grownBy w.drew (some g):=⟨rfl,rfl,rfl,Nat.le_refl _,fun _ _ _=>rfl⟩
 obtain⟨hx1,hf1⟩:w.drew.cell? ⟨g,a.toNat,none⟩=some (.int .i64 (rd l a))∧w.drew.frozen? ⟨g,a.toNat,none⟩=false:=Kd.R_celln 0 aA a ha0 ha1
 have e0:(0≤a)=True:=eq_true ha0
 have e1:(a< (l.length:Int))=True:=eq_true ha1
 have e2:(0≤b)=True:=eq_true hb0
 have e3:(b< (l.length:Int))=True:=eq_true hb1
 go_in
 try go_wp2
 refine sr 9 (fun w'=>w'.cell? ⟨bl,0,none⟩=some (.slice (some ⟨g,0,none⟩) l.length c)∧w'.cell? ⟨g,a.toNat,none⟩=some (.int .i64 (rd l a))∧w'.frozen? ⟨g,a.toNat,none⟩=false) [8] ⟨aB,hx1,hf1⟩ fun hHeld=>?_
 generalize w.drew=w13 at aA aB aC hx1 hf1 hHeld ⊢
 refine rg [1,4,5,0,2,3,6,7] ?_
 refine ls 8 ?_
 have HP:=Kd.R_putg aA a (Go.bits .xor .i64 (rd l a) s1)
 rw[←n1.1]at HP
 generalize hw:w13.setCell ⟨g,a.toNat,none⟩ (.int .i64 (Go.bits .xor .i64 (rd l a) s1))=w14 at HP ⊢
 have aE:w14.cell? ⟨bl,0,none⟩=some (.slice (some ⟨g,0,none⟩) l.length c):=HP.2.cell aB (by simpa using hne)
 have aF:=C0.grown_trans aC HP.2
 have aD:=Kd.R_drew HP.1
 have aG:w14.drew.cell? ⟨bl,0,none⟩=some (.slice (some ⟨g,0,none⟩) l.length c):=aE
 have aH:w.grownBy w14.drew (some g):=C0.grown_trans aF ⟨rfl,rfl,rfl,Nat.le_refl _,fun _ _ _=>rfl⟩
 obtain⟨hx3,hf3⟩:w14.drew.cell? ⟨g,b.toNat,none⟩=some (.int .i64 (rd y1 b))∧w14.drew.frozen? ⟨g,b.toNat,none⟩=false:=Kd.R_celln 0 aD b hb0 hb1
 clear aA aB aC hx1 hf1 HP aE aF
 try go_wp2
 refine sr 9 (fun w'=>w'.cell? ⟨bl,0,none⟩=some (.slice (some ⟨g,0,none⟩) l.length c)∧w'.cell? ⟨g,b.toNat,none⟩=some (.int .i64 (rd y1 b))∧w'.frozen? ⟨g,b.toNat,none⟩=false) [8] ⟨aG,hx3,hf3⟩ fun hHeld=>?_
 generalize w14.drew=w15 at aD aG aH hx3 hf3 hHeld ⊢
 refine rg [1,4,5,0,2,3,6,7] ?_
 refine ls 8 ?_
 have HP:=Kd.R_putg aD b (Go.bits .xor .i64 (rd y1 b) s2)
 rw[←n2.1]at HP
 try go_wp2
 first|go_end0|((try simp only[Exit.inBlock,Exit.then]);refine bodyPost_ret (results_none rfl _ _ _) rfl ?_)
 exact⟨rfl,HP.1,C0.grown_trans aH HP.2⟩
def C0.in0:Nat→List Int→Int→Int→Int→List Int→Int→Option (Int×List Int)
 |0,_,_,_,_,_,_=>none
 |k+1,l,n,i,s,q,b=>if b<n then(if 0≤b then(if rd q i< (l.length:Int)then(if 0≤rd q i then(if Go.bits .and .i64 (shr .i64 (rd l (rd q i)) b) 1=1 then(if Go.bits .and .i64 (shr .i64 s b) 1=0 then(if q.length<1000 then(C0.in0 k l n i (Go.bits .or .i64 s (shl .i64 1 b)) (q++ [b]) (wrap64 (b+1)))else none)else(C0.in0 k l n i s q (wrap64 (b+1))))else(C0.in0 k l n i s q (wrap64 (b+1))))else none)else none)else none)else some (s,q)
def C0.l4:Nat→List Int→Int→Int→Option Bool
 |0,_,_,_=>none
 |k+1,l,s,a=>if a< (l.length:Int)then(if 0≤a then(if rd l a=0 then(C0.l4 k l s (wrap64 (a+1)))else(if Go.bits .and .i64 (shr .i64 s a) 1=0 then some false else(C0.l4 k l s (wrap64 (a+1)))))else none)else some true
def C0.l0:Nat→List Int→Int→Int→Int→List Int→Option Bool
 |0,_,_,_,_,_=>none
 |k+1,l,n,i,s,q=>if i< (q.length:Int)then(if 0≤i then((C0.in0 k l n i s q 0).bind fun z=>C0.l0 k l n (wrap64 (i+1)) z.1 z.2)else none)else(C0.l4 k l s 0)
def C0.whole (k:Nat)(l:List Int) (n a:Int):Option Bool:=if 0≤a then C0.l0 k l n 0 (shl .i64 1 a) [a]else none
theorem C0.whole_calls (k:Nat)(l:List Int) (n b0:Int)(r:Bool) (bn bl g c m B:Nat)(w:World)(hn:w.cell? ⟨bn,0,none⟩=some (.int .i64 n))(hm:l.length=m)(hc:w.cell? ⟨bl,0,none⟩=some (.slice (some ⟨g,0,none⟩) m c))(hR:Kd.R KI 3 w B (fun _=>True) (.slice (some ⟨g,0,none⟩) m c) l)(h:C0.whole k l n b0=some r) :
 Calls prog 214 #[.int .i64 b0,.pointer (some ⟨bn,0,none⟩),.pointer (some ⟨bl,0,none⟩)] w (pB w (.bool r)):=by
 subst hm
 have HB:=bR w
 have HN:=am hn
 have HC:=am hc
 have aJ:=am hR
 have HNL:=am (World.block_lt_of_cell? _ _ hn)
 have HCL:=am (World.block_lt_of_cell? _ _ hc)
 clear hn hc hR
 unfold C0.whole at h
 by_cases c0:0≤b0
 ·rw[if_pos c0]at h
  have c0b:=decide_eq_true c0
  have c0e:=eq_true c0
  clear c0
  obtain⟨s0,hs0⟩:∃s:Int,shl .i64 1 b0=s:=⟨_,rfl⟩
  rw[hs0]at h
  obtain⟨hs0_,hs0z,hs0u,hs0v,hs0y,hs0x⟩:=sl hs0
  obtain⟨y0,hy0⟩:∃y:List Int,y=[b0]:=⟨_,rfl⟩
  rw[←hy0]at h
  have Ny:=am hy0
  have H':=am h
  clear h hy0
  go_in
  go_wp2_with (first
   |((with_reducible refine gd 14 ?_);refine rl KI 3 ([b0]:List Int) [.int .i64 b0] (J7.one (show Kd.M KI _ _ _ b0 [.int .i64 b0]from rfl) (J7.none _ _)) ?_;intro v14 w14 ho hb;rw[←Ny.1]at ho;have aK:=am (Kd.R_lower ho (C5 bz));have aL:=am (E8 bz hb);clear HB ho hb;have HO:=aK;have HB:=aL;clear aK aL))
  go_loopg [5,6,7] k (fun kq v5 v6 v7 w'=>∃ (s:Int) (q:List Int) (i:Int),v5=.int .i64 s∧v7=.int .i64 i∧Aside0 (C0.l0 kq l n i s q=some r)∧Aside0 (kq≤k)∧Aside0 (Kd.R KI 3 w' w.heap.size (fun _=>True) v6 q)∧Aside0 (Below w.heap.size w w'))
  case atStart=>exact⟨s0,y0,0,fz,fz,H',lr,⟨(rR HO)⟩,⟨bz⟩⟩
  case round =>
  clear H' HO HB
  obtain⟨s,q,i,rfl,rfl,⟨H⟩,aM,HO,HB⟩:=hrel
  cases gk with
  |zero=>cases H
  |succ k1 =>
  simp only[C0.l0]at H
  have hnr:wr.cell? ⟨bn,0,none⟩=some (.int .i64 n):=(HB.1.cell HNL.1).trans HN.1
  have hcr:wr.cell? ⟨bl,0,none⟩=some (.slice (some ⟨g,0,none⟩) l.length c):=(HB.1.cell HCL.1).trans HC.1
  obtain⟨Aq,cq,rfl⟩:=Kd.R_slice HO.1
  revert H;refine io ?_ ?_<;>intro c1 H
  ·have aN:=decide_eq_true c1
   have C1:=am c1
   clear c1
   by_cases c2:0≤i
   ·rw[if_pos c2]at H
    have c2b:=decide_eq_true c2
    have C2:=am c2
    have c2e:=eq_true c2
    clear c2
    obtain⟨⟨s',q'⟩,hin,H⟩:=Option.bind_eq_some_iff.mp H
    have A2:=am hin
    have HH:=am H
    clear hin H
    go_wp2
    go_loopg [5,6,22] k1 (fun kq v5 v6 v22 w'=>∃ (s:Int) (qu:List Int) (b:Int),v5=.int .i64 s∧v22=.int .i64 b∧Aside0 (C0.in0 kq l n i s qu b=some (s',q'))∧Aside0 (kq≤k1)∧Aside0 (i< (qu.length:Int))∧Aside0 (Kd.R KI 3 w' w.heap.size (fun _=>True) v6 qu)∧Aside0 (Below w.heap.size w w'))
    case atStart=>exact⟨s,q,0,fz,fz,A2,lr,C1,⟨(rR HO)⟩,⟨bz⟩⟩
    case round =>
    clear A2 HO HB hnr hcr aN C1
    obtain⟨s,qu,b,rfl,rfl,HI,aA,HQ,HO,HB⟩:=hrel
    cases gk with
    |zero=>exact absurd HI.1 (by simp[C0.in0])
    |succ k2 =>
    have H:=HI.1
    clear HI
    simp only[C0.in0]at H
    revert H;refine io ?_ ?_<;>intro d1 H
    ·have aE:=decide_eq_true d1
     clear d1
     by_cases d2:0≤b
     ·rw[if_pos d2]at H
      have d2b:=decide_eq_true d2
      have d2e:=eq_true d2
      clear d2
      obtain⟨q,hq⟩:∃q:Int,rd qu i=q:=⟨_,rfl⟩
      rw[hq]at H
      by_cases d3:q< (l.length:Int)
      ·rw[if_pos d3]at H
       have d3b:=decide_eq_true d3
       by_cases d4:0≤q
       ·rw[if_pos d4]at H
        have d4b:=decide_eq_true d4
        obtain⟨v,hv⟩:∃v:Int,rd l q=v:=⟨_,rfl⟩
        rw[hv]at H
        obtain⟨r1,hr1⟩:∃s:Int,shr .i64 v b=s:=⟨_,rfl⟩
        obtain⟨r2,hr2⟩:∃z:Int,shr .i64 s b=z:=⟨_,rfl⟩
        obtain⟨s1,hs1⟩:∃z:Int,shl .i64 1 b=z:=⟨_,rfl⟩
        rw[hr1,hr2,hs1]at H
        have hr1_:(v / 2 ^ min (b).toNat 64)=r1:=hr1
        have hr1z:(b)≤64→(v / 2 ^ (b).toNat)=r1:=AR0 hr1
        have aF:(s / 2 ^ min (b).toNat 64)=r2:=hr2
        have aG:(b)≤64→(s / 2 ^ (b).toNat)=r2:=AR0 hr2
        obtain⟨hs1_,hs1z,hs1u,hs1v,hs1y,hs1x⟩:=sl hs1
        obtain⟨gq,cq,eq,_,_,_,_⟩:=Kd.R_form HO.1 (lu HQ C2)
        subst eq
        have nO:=am (Kd.R_drew HO.1)
        have nB:=am (F8 HB.1)
        have aO:=Kd.R_drew (Kd.R_below aJ.1 HB.1)
        have aC:wr.drew.cell? ⟨bl,0,none⟩=some (.slice (some ⟨g,0,none⟩) l.length c):=(HB.1.cell HCL.1).trans HC.1
        clear HO HB
        have HO:=nO
        have HB:=nB
        clear nO nB
        have aD:wr.drew.cell? ⟨gq,i.toNat,none⟩=some (.int .i64 q):=by rw[←hq];exact(Kd.R_celln 0 HO.1 i C2.1 HQ.1).1
        have aB:wr.drew.cell? ⟨g,q.toNat,none⟩=some (.int .i64 v):=by rw[←hv];exact(Kd.R_celln 0 aO q d4 d3).1
        have d3e:=eq_true d3
        have d4e:=eq_true d4
        have cqb:decide (i< (qu.length:Int))=true:=decide_eq_true HQ.1
        have cqe:=eq_true HQ.1
        clear d3 d4 aO hq hv
        revert H;refine io ?_ ?_<;>intro e1 H
        ·have aH:=beq_iff_eq.mpr e1
         clear e1
         revert H;refine io ?_ ?_<;>intro e2 H
         ·have aI:=beq_iff_eq.mpr e2
          clear e2
          by_cases e3:qu.length<1000
          ·rw[if_pos e3]at H
           have CL:=am e3
           clear e3
           obtain⟨y,hy⟩:∃y_:List Int,y_=qu++ [b]:=⟨_,rfl⟩
           rw[←hy]at H
           have aP:=am hy
           have H':=am H
           clear hy H
           try go_wp2
           refine sr 18 (fun w'=>w'.cell? ⟨bl,0,none⟩=some (.slice (some ⟨g,0,none⟩) l.length c)∧w'.cell? ⟨gq,i.toNat,none⟩=some (.int .i64 q)∧w'.cell? ⟨g,q.toNat,none⟩=some (.int .i64 v)) [] ⟨aC,aD,aB⟩ fun hHeld=>?_
           generalize wr.drew=w13 at HO HB aC aD aB hHeld ⊢
           refine rg [1,2,3,7,0,4,5,6,8,9,10,11,12,13,14,15,16,17] ?_
           refine dn ?_
           go_wp2_with (first
            |((with_reducible refine gb 47 49 ?_);at_builtin;refine ra KI underlying22 J9 (.slice (some ⟨gq,0,none⟩) qu.length cq) qu b [.int .i64 b] (fun _=>True) rfl (fun _ _=>trivial) (rR HO) bz (lm CL) ?_;intro v6 w6 ho hb hg hat;rw[←aP.1]at ho))
           have hlen:y.length=qu.length+1:=by rw[aP.1];simp
           go_roundg k2
           case measure=>exact lm aA
           case rel=>exact⟨Go.bits .or .i64 s s1,y,wrap64 (b+1),fz,fz,H',la aA,la HQ,⟨ho⟩,⟨hb⟩⟩
          ·rw[if_neg e3]at H;exact absurd H (by simp)
         have aI:=beq_eq_false_iff_ne.mpr e2
         clear e2
         have H':=am H
         clear H
         try go_wp2
         refine sr 18 (fun w'=>w'.cell? ⟨bl,0,none⟩=some (.slice (some ⟨g,0,none⟩) l.length c)∧w'.cell? ⟨gq,i.toNat,none⟩=some (.int .i64 q)∧w'.cell? ⟨g,q.toNat,none⟩=some (.int .i64 v)) [] ⟨aC,aD,aB⟩ fun hHeld=>?_
         generalize wr.drew=w13 at HO HB aC aD aB hHeld ⊢
         refine rg [1,2,3,7,0,4,5,6,8,9,10,11,12,13,14,15,16,17] ?_
         refine dn ?_
         try go_wp2
         go_roundg k2
         case measure=>exact lm aA
         case rel=>exact⟨s,qu,wrap64 (b+1),fz,fz,H',la aA,HQ,⟨(rR HO)⟩,⟨bz⟩⟩
        have aH:=beq_eq_false_iff_ne.mpr e1
        clear e1
        have H':=am H
        clear H
        try go_wp2
        refine sr 18 (fun w'=>w'.cell? ⟨bl,0,none⟩=some (.slice (some ⟨g,0,none⟩) l.length c)∧w'.cell? ⟨gq,i.toNat,none⟩=some (.int .i64 q)∧w'.cell? ⟨g,q.toNat,none⟩=some (.int .i64 v)) [] ⟨aC,aD,aB⟩ fun hHeld=>?_
        generalize wr.drew=w13 at HO HB aC aD aB hHeld ⊢
        refine rg [1,2,3,7,0,4,5,6,8,9,10,11] ?_
        refine Al5 (i:=12) (N:=some 37) (v:=undef) (a':=?_) (lb 18 8191) rfl rfl (by kernel_rfl) (fun _ _ _ h=>h) (Or.inr ⟨by rfl,rfl⟩) ?_ ?_
        rotate_left
        ·simp only[Act.put,List.setIfInBounds_toArray,List.set_cons_zero,List.set_cons_succ,P9,i6]
         rfl
        refine Al5 (i:=13) (N:=some 38) (v:=undef) (a':=?_) (lb 18 16383) rfl rfl (by kernel_rfl) (fun _ _ _ h=>h) (Or.inr ⟨by rfl,rfl⟩) ?_ ?_
        rotate_left
        ·simp only[Act.put,List.setIfInBounds_toArray,List.set_cons_zero,List.set_cons_succ,P9,i6]
         rfl
        refine Al5 (i:=14) (N:=some 39) (v:=undef) (a':=?_) (lb 18 32767) rfl rfl (by kernel_rfl) (fun _ _ _ h=>h) (Or.inr ⟨by rfl,rfl⟩) ?_ ?_
        rotate_left
        ·simp only[Act.put,List.setIfInBounds_toArray,List.set_cons_zero,List.set_cons_succ,P9,i6]
         rfl
        refine Al5 (i:=15) (N:=some 40) (v:=undef) (a':=?_) (lb 18 65535) rfl rfl (by kernel_rfl) (fun _ _ _ h=>h) (Or.inr ⟨by rfl,rfl⟩) ?_ ?_
        rotate_left
        ·simp only[Act.put,List.setIfInBounds_toArray,List.set_cons_zero,List.set_cons_succ,P9,i6]
         rfl
        refine Al5 (i:=16) (N:=some 41) (v:=undef) (a':=?_) (lb 18 131071) rfl rfl (by kernel_rfl) (fun _ _ _ h=>h) (Or.inr ⟨by rfl,rfl⟩) ?_ ?_
        rotate_left
        ·simp only[Act.put,List.setIfInBounds_toArray,List.set_cons_zero,List.set_cons_succ,P9,i6]
         rfl
        refine pw 17 ?_
        refine dn ?_
        try go_wp2
        go_roundg k2
        case measure=>exact lm aA
        case rel=>exact⟨s,qu,wrap64 (b+1),fz,fz,H',la aA,HQ,⟨(rR HO)⟩,⟨bz⟩⟩
       ·rw[if_neg d4]at H;exact absurd H (by simp)
      ·rw[if_neg d3]at H;exact absurd H (by simp)
     ·rw[if_neg d2]at H;exact absurd H (by simp)
    have aE:=decide_eq_false d1
    clear d1
    replace H:=s2 H;obtain⟨rfl,rfl⟩:=H
    go_wp2
    go_roundg k1
    case measure=>exact lm aM
    case rel=>exact⟨s,qu,wrap64 (i+1),fz,fz,HH,la aM,⟨(rR HO)⟩,⟨bz⟩⟩
   ·rw[if_neg c2]at H;exact absurd H (by simp)
  have aN:=decide_eq_false c1
  clear c1
  have H':=am H
  clear H
  go_wp2
  go_loopg [54] k1 (fun kq v54 w'=>∃ (a:Int),v54=.int .i64 a∧Aside0 (C0.l4 kq l s a=some r)∧Aside0 (kq≤k1)∧Aside0 (Below w.heap.size w w'))
  case atStart=>exact⟨0,fz,H',lr,⟨bz⟩⟩
  case round =>
  clear H' HB HO hnr hcr
  obtain⟨a,rfl,HI,aA,HB⟩:=hrel
  cases gk with
  |zero=>exact absurd HI.1 (by simp[C0.l4])
  |succ k2 =>
  have H:=HI.1
  clear HI
  simp only[C0.l4]at H
  revert H;refine io ?_ ?_<;>intro d1 H
  ·have aE:=decide_eq_true d1
   by_cases d2:0≤a
   ·rw[if_pos d2]at H
    have d2b:=decide_eq_true d2
    obtain⟨v,hv⟩:∃v:Int,rd l a=v:=⟨_,rfl⟩
    rw[hv]at H
    have aB:wr.cell? ⟨g,a.toNat,none⟩=some (.int .i64 v):=by rw[←hv];exact(Kd.R_celln 0 (Kd.R_below aJ.1 HB.1) a d2 d1).1
    have d1e:=eq_true d1
    have d2e:=eq_true d2
    clear d1 d2 hv
    obtain⟨r2,hr2⟩:∃z:Int,shr .i64 s a=z:=⟨_,rfl⟩
    rw[hr2]at H
    have aF:(s / 2 ^ min (a).toNat 64)=r2:=hr2
    have aG:(a)≤64→(s / 2 ^ (a).toNat)=r2:=AR0 hr2
    revert H;refine io ?_ ?_<;>intro e1 H
    ·have aH:(v != 0)=false:=by rw[e1];rfl
     clear e1
     have H':=am H
     clear H
     go_wp2
     go_roundg k2
     case measure=>exact lm aA
     case rel=>exact⟨wrap64 (a+1),fz,H',la aA,⟨bz⟩⟩
    have aH:=bne_iff_ne.mpr e1
    clear e1
    revert H;refine io ?_ ?_<;>intro e2 H
    ·have aI:=beq_iff_eq.mpr e2
     clear e2
     obtain rfl:=Option.some.inj H
     clear H
     go_wp2
     go_ret
     exact⟨rfl,bz⟩
    have aI:=beq_eq_false_iff_ne.mpr e2
    clear e2
    have H':=am H
    clear H
    go_wp2
    go_roundg k2
    case measure=>exact lm aA
    case rel=>exact⟨wrap64 (a+1),fz,H',la aA,⟨bz⟩⟩
   ·rw[if_neg d2]at H;exact absurd H (by simp)
  have aE:=decide_eq_false d1
  clear d1
  obtain rfl:=Option.some.inj H
  clear H
  go_wp2
  go_ret
  exact⟨rfl,bz⟩
 ·rw[if_neg c0]at h;exact absurd h (by simp)
def C0.l1:Nat→Int→List Int→Int→Option (List Int)
 |0,_,_,_=>none
 |k+1,n,l,i=>if i< (l.length:Int)then(if 0≤i then(C0.l1 k n (l.set i.toNat (Go.bits .andNot .i64 (wrap64 (shl .i64 1 n - 1)) (shl .i64 1 i))) (wrap64 (i+1)))else none)else some l
def C0.in1:Nat→Int→Int→List Int→List Int→Int→Option (List Int×List Int)
 |0,_,_,_,_,_=>none
 |k+1,n,a,l,o,b=>if b<n then(if 0≤b then(if b< (l.length:Int)then(if 0≤a then(if a< (l.length:Int)then(if Go.bits .and .i64 (shr .i64 (rd l a) b) 1=0 then(C0.in1 k n a l o (wrap64 (b+1)))else((C0.whole k (C0.turn l a b) n b).bind fun t=>(if t=true then(if o.length<1000 then some (C0.turn l a b,o++ [b])else none)else(C0.in1 k n a (C0.turn (C0.turn l a b) a b) o (wrap64 (b+1))))))else none)else none)else none)else none)else some (l,o)
def C0.l2:Nat→Int→List Int→List Int→Option (List Int)
 |0,_,_,_=>none
 |k+1,n,l,o=>if(o.length:Int)<wrap64 (Int.tdiv (wrap64 (n*wrap64 (n - 1))) 2)then(if 0<o.length then((C0.in1 k n (rd o (wrap64 ((o.length:Int) - 1))) l o 0).bind fun z=>C0.l2 k n z.1 z.2)else none)else some o
def C0.f (k:Nat)(a:Int):Option (List Int×Bool):=(E3.f a 2 11).bind fun b=>(if b=true then(if Int.tmod a 2=0 then some (([]:List Int),false)else(if 0<a then(if a.toNat≤1000 then((C0.l1 k a (List.replicate a.toNat 0) 0).bind fun l=>((C0.l2 k a l [0]).bind fun o=>some (o,true)))else none)else none))else some (([]:List Int),false))
theorem C0.mono_in0:∀k,(∀y0 y1 y2 y3 y4 y5,S6 (C0.in0 k y0 y1 y2 y3 y4 y5) (C0.in0 (k+1) y0 y1 y2 y3 y4 y5))
 |0=>fun _ _ _ _ _ _ r h=>by simp[C0.in0]at h
 |k+1=>by
  have ih:=C0.mono_in0 k
  intro y0 y1 y2 y3 y4 y5
  unfold C0.in0
  exact S6.ite (S6.ite (S6.ite (S6.ite (S6.ite (S6.ite (S6.ite (ih _ _ _ _ _ _) (S6.refl _)) (ih _ _ _ _ _ _)) (ih _ _ _ _ _ _)) (S6.refl _)) (S6.refl _)) (S6.refl _)) (S6.refl _)
theorem C0.mono_l4:∀k,(∀y0 y1 y2,S6 (C0.l4 k y0 y1 y2) (C0.l4 (k+1) y0 y1 y2))
 |0=>fun _ _ _ r h=>by simp[C0.l4]at h
 |k+1=>by
  have ih:=C0.mono_l4 k
  intro y0 y1 y2
  unfold C0.l4
  exact S6.ite (S6.ite (S6.ite (ih _ _ _) (S6.ite (S6.refl _) (ih _ _ _))) (S6.refl _)) (S6.refl _)
theorem C0.mono_l0:∀k,(∀y0 y1 y2 y3 y4,S6 (C0.l0 k y0 y1 y2 y3 y4) (C0.l0 (k+1) y0 y1 y2 y3 y4))
 |0=>fun _ _ _ _ _ r h=>by simp[C0.l0]at h
 |k+1=>by
  have ih:=C0.mono_l0 k
  intro y0 y1 y2 y3 y4
  unfold C0.l0
  exact S6.ite (S6.ite (S6.bind (C0.mono_in0 k _ _ _ _ _ _) (fun _=>ih _ _ _ _ _)) (S6.refl _)) (C0.mono_l4 k _ _ _)
theorem C0.mono_whole (k:Nat)(l:List Int) (n b:Int):S6 (C0.whole k l n b) (C0.whole (k+1) l n b):=S6.ite (C0.mono_l0 k _ _ _ _ _) (S6.refl _)
theorem C0.mono_l1:∀k,(∀y0 y1 y2,S6 (C0.l1 k y0 y1 y2) (C0.l1 (k+1) y0 y1 y2))
 |0=>fun _ _ _ r h=>by simp[C0.l1]at h
 |k+1=>by
  have ih:=C0.mono_l1 k
  intro y0 y1 y2
  unfold C0.l1
  exact S6.ite (S6.ite (ih _ _ _) (S6.refl _)) (S6.refl _)
theorem C0.mono_in1:∀k,(∀y0 y1 y2 y3 y4,S6 (C0.in1 k y0 y1 y2 y3 y4) (C0.in1 (k+1) y0 y1 y2 y3 y4))
 |0=>fun _ _ _ _ _ r h=>by simp[C0.in1]at h
 |k+1=>by
  have ih:=C0.mono_in1 k
  intro y0 y1 y2 y3 y4
  unfold C0.in1
  exact S6.ite (S6.ite (S6.ite (S6.ite (S6.ite (S6.ite (ih _ _ _ _ _) (S6.bind (C0.mono_whole k _ _ _) (fun _=>S6.ite (S6.refl _) (ih _ _ _ _ _)))) (S6.refl _)) (S6.refl _)) (S6.refl _)) (S6.refl _)) (S6.refl _)
theorem C0.mono_l2:∀k,(∀y0 y1 y2,S6 (C0.l2 k y0 y1 y2) (C0.l2 (k+1) y0 y1 y2))
 |0=>fun _ _ _ r h=>by simp[C0.l2]at h
 |k+1=>by
  have ih:=C0.mono_l2 k
  intro y0 y1 y2
  unfold C0.l2
  exact S6.ite (S6.ite (S6.bind (C0.mono_in1 k _ _ _ _ _) (fun _=>ih _ _ _)) (S6.refl _)) (S6.refl _)
theorem C0.mono:∀a0 k,S6 (C0.f k a0) (C0.f (k+1) a0):=fun a0 k =>
 S6.bind (S6.refl _) (fun _=>S6.ite (S6.ite (S6.refl _) (S6.ite (S6.ite (S6.bind (C0.mono_l1 k _ _ _) (fun _=>S6.bind (C0.mono_l2 k _ _ _) (fun _=>S6.refl _))) (S6.refl _)) (S6.refl _))) (S6.refl _))
theorem C0.turn_length (l:List Int) (a b:Int):(C0.turn l a b).length=l.length:=by unfold C0.turn C0.half;rw[List.length_set,List.length_set]
section
variable {P:Program} {ops:Array Oper} {Q:Exit→Act→World→Prop}
theorem C0.gate_tmp {rest:List Oper} {o:Oper} {a:Act} {W:World} {t:Tmp} {xs:Array Operand} {ts:Array TypeId} (_ho:o.op=.call { callee:=.value (.tmp t),args:=xs,argTypes:=ts })(h:wpList P ops Q (o::rest) a W):wpList P ops Q (o::rest) a W:=h
theorem C0.goesV {rest:List Oper} {oi:Oper} {a:Act} {w:World} (N:Option Tmp)(hd:oi.dst=N)(hg:oi.guard=none) {t:Tmp} {f:FuncId} {fn:Func} {cap:Array Value} {xs:Array Operand} {ts:Array TypeId} (hf:P.funcs[f]? =some fn)(hname:(fn.name== "runtime.NumGoroutine")=false) (hb:fn.body.isSome=true) (args:Array Value)
 (hop:oi.op=.call { callee:=.value (.tmp t),args:=xs,argTypes:=ts }) (hv:a.eval (.tmp t)=.func (.func f) #[] cap) (hargs:xs.map a.eval++cap=args)
 (h:Calls P f args w fun e w'=>∃v,e=.returned v∧wpList P ops Q rest (a.put N v) w'):wpList P ops Q (oi::rest) a w:=by
 refine wpList_plain hg fun K hK=>?_
 have he:=Ad4 hf hname hb args w
 have hrun:(execOp a.eval oi).run P w=.ok (.enter f args) w:=by
  unfold execOp
  simp[hop,resolve,Deferred.ofValue,invoke,hv,hargs,he]
 unfold Oper.wp
 rw[hrun,Oper.upon_enter]
 refine h.mono fun e w'' hh=>?_
 obtain⟨v,rfl,hk⟩:=hh
 subst hd
 exact hK _ _ hk
end
def C0.Inv (w w':World)(n:Int) (bn bl g c m:Nat)(l:List Int):Prop :=
 w'.cell? ⟨bn,0,none⟩=some (.int .i64 n)∧w'.cell? ⟨bl,0,none⟩=some (.slice (some ⟨g,0,none⟩) m c)∧l.length=m∧Kd.R KI 3 w' w.heap.size (fun _=>True) (.slice (some ⟨g,0,none⟩) m c) l∧Below w.heap.size w w'∧w.heap.size≤g∧bn≠g∧bl≠g∧g<w'.heap.size
theorem C0.inv_drew {w w':World} {n:Int} {bn bl g c m:Nat} {l:List Int} (h:C0.Inv w w' n bn bl g c m l):C0.Inv w w'.drew n bn bl g c m l:=by
 obtain⟨h1,h2,h3,h4,h5,h6,h7,h8,h9⟩:=h
 exact⟨h1,h2,h3,Kd.R_drew h4,F8 h5,h6,h7,h8,h9⟩
theorem C0.inv_below {w w' w1:World} {n:Int} {bn bl g c m:Nat} {l:List Int} (h:C0.Inv w w' n bn bl g c m l)(hb:Below w'.heap.size w' w1):C0.Inv w w1 n bn bl g c m l:=by
 obtain⟨h1,h2,h3,h4,h5,h6,h7,h8,h9⟩:=h
 exact⟨(hb.cell (World.block_lt_of_cell? _ _ h1)).trans h1,(hb.cell (World.block_lt_of_cell? _ _ h2)).trans h2,h3,Kd.R_below h4 hb,E8 h5 hb,h6,h7,h8,Nat.lt_of_lt_of_le h9 hb.size⟩
theorem C0.inv_put {w w' w1:World} {n:Int} {bn bl g c m:Nat} {l l':List Int} (h:C0.Inv w w' n bn bl g c m l)(hg:w'.grownBy w1 (some g))(hR:Kd.R KI 3 w1 w.heap.size (fun _=>True) (.slice (some ⟨g,0,none⟩) m c) l')(hl:l'.length=l.length):C0.Inv w w1 n bn bl g c m l':=by
 obtain⟨h1,h2,h3,h4,h5,h6,h7,h8,h9⟩:=h
 exact⟨AM3 hg h1 (by simpa using h7),AM3 hg h2 (by simpa using h8),hl.trans h3,hR,h5.grown hg h5.size (fun k hk=>by cases hk;exact h6),h6,h7,h8,Nat.lt_of_lt_of_le h9 hg.size⟩
theorem C0.inv_row {w w' w1:World} {n:Int} {bn bl g c m:Nat} {l:List Int} {row:Option Nat} (h:C0.Inv w w' n bn bl g c m l)(hg:w'.grownBy w1 row)(hr:∀k,row=some k→k≠bn∧k≠bl∧k≠g)(hB:Below w.heap.size w w1):C0.Inv w w1 n bn bl g c m l:=by
 obtain⟨h1,h2,h3,h4,h5,h6,h7,h8,h9⟩:=h
 refine⟨AM3 hg h1 (fun e=>(hr _ e.symm).1 rfl),AM3 hg h2 (fun e=>(hr _ e.symm).2.1 rfl),h3,Kd.R_grown2 h4 rfl hg (fun k hk e=>?_),hB,h6,h7,h8,Nat.lt_of_lt_of_le h9 hg.size⟩
 have:=(hr k hk).2.2
 simp[Value.ownBlock]at e
 exact this e
theorem C0.inv_new {w w':World} {n:Int} {bn bl g c m:Nat} {l:List Int} (h:C0.Inv w w' n bn bl g c m l)(k:Nat)(hk:w'.heap.size≤k):k≠bn∧k≠bl∧k≠g:=by
 obtain⟨h1,h2,h3,h4,h5,h6,h7,h8,h9⟩:=h
 have q1:=World.block_lt_of_cell? _ _ h1
 have q2:=World.block_lt_of_cell? _ _ h2
 exact⟨by rintro rfl;exact absurd q1 (Nat.not_lt.mpr hk),by rintro rfl;exact absurd q2 (Nat.not_lt.mpr hk),by omega⟩
theorem C0.set_grown (W:World)(b:Nat)(v:Value):W.grownBy (W.setCell ⟨b,0,none⟩ v) (some b):=⟨rfl,rfl,rfl,by simp[World.setCell],fun k _ hk=>Below.heap_setCell W ⟨b,0,none⟩ v k (fun e=>hk (by rw[e]))⟩
theorem C0.len_lt {e base:Nat} {ok:Nat→Prop} {W:World} {v:Value} {xs:List Int} (h:Kd.R KI e W base ok v xs):xs.length≤maxLen:=by
 obtain⟨_,ho⟩:=Kd.own_of_R h
 rcases ho with⟨_,hn⟩|⟨g,cap,cur,_,_,_,h2,h3,_,_⟩
 ·omega
 ·omega
theorem C0.wrap64_sub1 {n:Nat} (h:0<n)(hn:n≤maxLen):wrap64 ((n:Int) - 1)=(n:Int) - 1:=by
 unfold maxLen at hn
 unfold wrap64
 omega
theorem C0.calls (k:Nat)(a0:Int)(r1:List Int)(r2:Bool)(w:World)(h:C0.f k a0=some (r1,r2)) :
 Calls prog 144 #[.int .i64 a0] w (pT w KI 3 r1 r2):=by
 have HB:=bR w
 have hmf:∀ (fn:Fn) (first cap:Array Value) (w:World),(Instr.makeFunc fn first cap).run prog w=.ok (.func fn first cap) w:=fun _ _ _ _=>rfl
 unfold C0.f at h
 obtain⟨b,hb,H⟩:=Option.bind_eq_some_iff.mp h
 have A1:=am hb
 clear h hb
 by_cases c1:b=true
 ·subst c1
  replace H:=(if_pos rfl).symm.trans H
  revert H;refine io ?_ ?_<;>intro c2 H
  ·have c2b:=beq_iff_eq.mpr c2
   clear c2
   replace H:=s2 H;obtain⟨rfl,rfl⟩:=H
   go_in
   go_wp2_with (first
    |((with_reducible refine P8 (N:=1) rfl ?_);refine j6 ?hg (N:=1) ?hd (cs:=#[.int .i64 a0]) (t:=3) ?hr ?_;(case hd=>rfl);(case hg=>rfl);(case hr=>first|(go_simp;done)|(go_simp;rfl));intro bn hbn w1 hbox hb;replace HB:=bS hb;have hcz:w1.cell? ⟨bn,0,none⟩=some (.int .i64 a0):=(I5 hbox 0).trans rfl;clear hbox hb hbn)
    |((with_reducible refine J0 (f:=83) rfl ?_);refine gl' 12 func83 #[.int .i64 a0,.int .i64 2,.int .i64 11] ?_;(with_reducible refine(E3.calls a0 2 11 true _ A1.1).mono ?_);rintro e w2 ⟨rfl,⟨aJ,rfl⟩⟩;refine⟨_,rfl,?_⟩;have aD:(w1.drewN aJ).cell? ⟨bn,0,none⟩=some (.int .i64 a0):=hcz))
   go_ret2
   exact⟨_,rfl,Kd.R_nil _ _ _ _ _,bz⟩
  have c2b:=beq_eq_false_iff_ne.mpr c2
  clear c2
  by_cases c3:0<a0
  ·rw[if_pos c3]at H
   have C3:=am c3
   have c3b:decide (0≤a0)=true:=decide_eq_true (by omega)
   have c3e:(0≤a0)=True:=eq_true (by omega)
   clear c3
   by_cases c4:a0.toNat≤1000
   ·rw[if_pos c4]at H
    have C4:=am c4
    clear c4
    obtain⟨left,aN,H⟩:=Option.bind_eq_some_iff.mp H
    obtain⟨oF,aX,H⟩:=Option.bind_eq_some_iff.mp H
    replace H:=s2 H;obtain⟨rfl,rfl⟩:=H
    obtain⟨y0,hy0⟩:∃y:List Int,y=List.replicate a0.toNat 0:=⟨_,rfl⟩
    rw[←hy0]at aN
    have Ny:=am hy0
    have A2:=am aN
    have A3:=am aX
    clear aN aX hy0
    obtain⟨yo,hyo⟩:∃y:List Int,y=[0]:=⟨_,rfl⟩
    rw[←hyo]at A3
    have Nyo:=am hyo
    clear hyo
    go_in
    go_wp2_with (first
     |((with_reducible refine P8 (N:=1) rfl ?_);refine j6 ?hg (N:=1) ?hd (cs:=#[.int .i64 a0]) (t:=3) ?hr ?_;(case hd=>rfl);(case hg=>rfl);(case hr=>first|(go_simp;done)|(go_simp;rfl));intro bn hbn w1 hbox hb;replace HB:=bS hb;have hcz:w1.cell? ⟨bn,0,none⟩=some (.int .i64 a0):=(I5 hbox 0).trans rfl;clear hbox hb hbn)
     |((with_reducible refine J0 (f:=83) rfl ?_);refine gl' 12 func83 #[.int .i64 a0,.int .i64 2,.int .i64 11] ?_;(with_reducible refine(E3.calls a0 2 11 true _ A1.1).mono ?_);rintro e w2 ⟨rfl,⟨aJ,rfl⟩⟩;refine⟨_,rfl,?_⟩;have aD:(w1.drewN aJ).cell? ⟨bn,0,none⟩=some (.int .i64 a0):=hcz)
     |((with_reducible refine P8 (N:=20) rfl ?_);refine Kd.R_make KI _ 3 rfl (N:=20) rfl 22 _ _ rfl a0 rfl rfl underlying22 (.int .i64 0) 8 J9 rfl (by decide) (by omega) 0 (ok:=fun _=>True) (okp:=fun _=>True) rfl (fun _ hk=>hk) trivial (lm C3) (Nat.le_trans (Nat.mul_le_mul_right _ C4.1) (by omega)) (Below.refl _ _) (Nat.le_refl _) ?_;intro v20 w3 ho hb hg_ hnew_;clear hg_ hnew_;rw[←Ny.1]at ho;obtain⟨g,c,eo,gb,gl,_,_⟩:=Kd.R_form ho (by rw[Ny.1,List.length_replicate];have:=C3.1;omega);subst eo;have aQ:w3.cell? ⟨bn,0,none⟩=some (.int .i64 a0):=(hb.cell (World.block_lt_of_cell? _ _ aD)).trans aD;have N1:Aside0 (bn≠g):=⟨fun e_=>by have:=World.block_lt_of_cell? _ _ aD;rw[e_]at this;exact absurd gb (Nat.not_le.mpr this)⟩;have GG:=am (Nat.le_trans (C5 bz) gb);have GL:=am gl;have HR:=am (Kd.R_lower ho (C5 bz));have aA:=am (E8 bz hb);clear HB ho hb gb gl;have HB:=aA;clear aA)
     |((with_reducible refine P8 (N:=4) rfl ?_);refine j6 ?hg (N:=4) ?hd (cs:=#[.slice none 0 0]) (t:=22) ?hr ?_;(case hd=>rfl);(case hg=>rfl);(case hr=>first|(go_simp;done)|(go_simp;rfl));intro bl hbl w4 hbox hb;have hn4:w4.cell? ⟨bn,0,none⟩=some (.int .i64 a0):=(hb.cell (World.block_lt_of_cell? _ _ aQ)).trans aQ;have N2:Aside0 (bl≠g):=⟨fun e_=>by have:=GL.1;omega⟩;have N3:Aside0 (bl≠bn):=⟨fun e_=>by have:=World.block_lt_of_cell? _ _ aQ;rw[←e_,hbl]at this;exact absurd this (Nat.lt_irrefl _)⟩;have GEl:=am (show w.heap.size≤bl by rw[hbl];exact C5 bz);have aC:=am (Kd.R_below HR.1 hb);have aA:=am (E8 bz hb);have aY:=am (Nat.lt_of_lt_of_le GL.1 hb.size);have hcz4:w4.cell? ⟨bl,0,none⟩=some (.slice none 0 0):=(I5 hbox 0).trans rfl;have hfz4:=C9 hbox 0;have BKl:=am hbox;clear HB HR GL hb hbl hbox;have HR:=aC;have HB:=aA;have GL:=aY;clear aC aA aY)
     |((with_reducible refine BA9 (t:=22) (p:=4) rfl ?_);refine Ab2 (t:=22) (p:=4) (v:=.tmp 20) (w1:=(w4.setCell ⟨bl,0,none⟩ (.slice (some ⟨g,0,none⟩) y0.length c))) ?hg ?ho ?hn ?hr ?_;(case ho=>rfl);(case hg=>rfl);(case hn=>rfl);(case hr=>first|(go_simp;done)|(go_simp;rfl));intro w5 hw;have aK:w5.cell? ⟨bl,0,none⟩=some (.slice (some ⟨g,0,none⟩) y0.length c):=(by rw[hw];simp[World.cell?,World.setCell,Array.getElem?_modify,BKl.1]);have HI:Aside0 (C0.Inv w w5 a0 bn bl g c y0.length y0):=⟨⟨by rw[hw,World.cell?_setCell_far _ _ _ _ N3.1];exact hn4,aK,rfl,by rw[hw];exact Kd.R_grown2 HR.1 rfl (C0.set_grown w4 bl _) (fun k hk e_=>by cases hk;simp[Value.ownBlock]at e_;exact N2.1 e_),by rw[hw];exact S0 HB.1 GEl.1,GG.1,N1.1,N2.1,by rw[hw];simpa [World.setCell]using GL.1⟩⟩;clear hw))
    go_loopg [23] k (fun kq v23 w'=>∃ (y:List Int) (i:Int),v23=.int .i64 i∧Aside0 (C0.l1 kq a0 y i=some left)∧Aside0 (kq≤k)∧Aside0 (C0.Inv w w' a0 bn bl g c y0.length y))
    case atStart=>exact⟨y0,0,fz,A2,lr,HI⟩
    case round =>
    clear A2 HI aK
    obtain⟨y,i,rfl,⟨H⟩,aG,HI⟩:=hrel
    cases gk with
    |zero=>cases H
    |succ k1 =>
    simp only[C0.l1]at H
    have hm:y.length=y0.length:=HI.1.2.2.1
    revert H;refine io ?_ ?_<;>intro d1 H
    ·have d1':i< (y0.length:Int):=by omega
     have aR:decide (i< (y0.length:Int))=true:=decide_eq_true d1'
     by_cases d2:0≤i
     ·rw[if_pos d2]at H
      have d2b:=decide_eq_true d2
      obtain⟨sn,hsn⟩:∃s:Int,shl .i64 1 a0=s:=⟨_,rfl⟩
      obtain⟨si,hsi⟩:∃s:Int,shl .i64 1 i=s:=⟨_,rfl⟩
      rw[hsn,hsi]at H
      obtain⟨hsn_,hsnz,hsnu,hsnv,hsny,hsnx⟩:=sl hsn
      obtain⟨hsi_,hsiz,hsiu,hsiv,hsiy,hsix⟩:=sl hsi
      obtain⟨y2,hy2⟩:∃y_:List Int,y_=y.set i.toNat (Go.bits .andNot .i64 (wrap64 (sn - 1)) si):=⟨_,rfl⟩
      rw[←hy2]at H
      have aZ:=am hy2
      have H':=am H
      clear hy2 H
      have HJ:=am (C0.inv_drew HI.1)
      have bA:wr.drew.cell? ⟨bn,0,none⟩=some (.int .i64 a0):=HJ.1.1
      have bB:wr.drew.cell? ⟨bl,0,none⟩=some (.slice (some ⟨g,0,none⟩) y0.length c):=HJ.1.2.1
      obtain⟨hx1,hf1⟩:wr.drew.cell? ⟨g,i.toNat,none⟩=some (.int .i64 (rd y i))∧wr.drew.frozen? ⟨g,i.toNat,none⟩=false:=Kd.R_celln 0 HJ.1.2.2.2.1 i d2 d1'
      have d1e:=eq_true d1'
      have d2e:=eq_true d2
      clear d1 d2 d1' HI hm
      try go_wp2
      refine sr 10 (fun w'=>w'.cell? ⟨bl,0,none⟩=some (.slice (some ⟨g,0,none⟩) y0.length c)∧w'.cell? ⟨bn,0,none⟩=some (.int .i64 a0)∧w'.cell? ⟨g,i.toNat,none⟩=some (.int .i64 (rd y i))∧w'.frozen? ⟨g,i.toNat,none⟩=false) [9] ⟨bB,bA,hx1,hf1⟩ fun hHeld=>?_
      generalize wr.drew=w13 at HJ bB bA hx1 hf1 hHeld ⊢
      refine rg [1,5,6,0,2,3,4,7,8] ?_
      refine ls 9 ?_
      have HP:=Kd.R_putg HJ.1.2.2.2.1 i (Go.bits .andNot .i64 (wrap64 (sn - 1)) si)
      rw[←aZ.1]at HP
      have HI:=am (C0.inv_put HJ.1 HP.2 HP.1 (by rw[aZ.1,List.length_set]))
      try go_wp2
      go_roundg k1
      case measure=>exact lm aG
      case rel=>exact⟨y2,wrap64 (i+1),fz,H',la aG,HI⟩
     ·rw[if_neg d2]at H;exact absurd H (by simp)
    have aR:decide (i< (y0.length:Int))=false:=decide_eq_false (by omega)
    clear d1 hm
    obtain rfl:=Option.some.inj H
    clear H
    have hnr:wr.cell? ⟨bn,0,none⟩=some (.int .i64 a0):=HI.1.1
    go_wp2_with (first
     |((with_reducible refine P8 (N:=38) rfl ?_);refine Kd.R_lit KI _ 3 ?hg (N:=38) ?hd (xs:=([0]:List Int)) (inner:=[.int .i64 0]) (ok:=(fun k_=>k_≠bn∧k_≠bl∧k_≠g)) (okp:=fun _=>False) ?hr ?hp (fun _ hk=>hk.elim) (C0.inv_new HI.1 _ (Nat.le_refl _)) (Below.refl _ _) (Nat.le_refl _) (by simp) ?_;(case hd=>rfl);(case hg=>rfl);(case hr=>first|(go_simp;done)|(go_simp;rfl));(case hp=>exact(J7.one (show Kd.M KI _ _ _ 0 [.int .i64 0]from rfl) (J7.none _ _)));intro v38 w38 ho hb hg_ hnew_;clear hg_ hnew_;rw[←Nyo.1]at ho;have aC:=am (Kd.R_lower ho (C5 HI.1.2.2.2.2.1));have aA:=am (C0.inv_below HI.1 hb);clear HI ho hb;have HO:=aC;have HI:=aA;clear aC aA))
    clear hnr
    go_loopg [8] k (fun kq v8 w'=>∃ (l o:List Int),Aside0 (C0.l2 kq a0 l o=some oF)∧Aside0 (kq≤k)∧Aside0 (C0.Inv w w' a0 bn bl g c y0.length l)∧Aside0 (Kd.R KI 3 w' w.heap.size (fun k_=>k_≠bn∧k_≠bl∧k_≠g) v8 o))
    case atStart=>exact⟨y,yo,A3,lr,HI,HO⟩
    case round =>
    clear A3 HI HO aG
    obtain⟨l,o,⟨H⟩,aG,HI,HO⟩:=hrel
    cases gk with
    |zero=>cases H
    |succ k1 =>
    simp only[C0.l2]at H
    have hnr:wr.cell? ⟨bn,0,none⟩=some (.int .i64 a0):=HI.1.1
    have hcr:wr.cell? ⟨bl,0,none⟩=some (.slice (some ⟨g,0,none⟩) y0.length c):=HI.1.2.1
    revert H;refine io ?_ ?_<;>intro e1 H
    ·have e1b:=decide_eq_true e1
     clear e1
     by_cases e2:0<o.length
     ·rw[if_pos e2]at H
      obtain⟨go,co,eo,_,_,_,_⟩:=Kd.R_form HO.1 e2
      subst eo
      have hco:=(Kd.R_reads' HO.1).2.1
      obtain⟨j,hj⟩:∃j:Int,wrap64 ((o.length:Int) - 1)=j:=⟨_,rfl⟩
      rw[hj]at H
      obtain⟨hj1,hj2,hj3⟩:(o.length:Int) - 1=j∧0≤j∧j< (o.length:Int):=by
       have hlen:=C0.len_lt HO.1
       rw[C0.wrap64_sub1 e2 hlen]at hj
       omega
      have hjk:wrap64 j=j:=by rw[hj1]at hj;exact hj
      have hjw:IntKind.i64.wrap j=j:=(P9 _).trans hjk
      obtain⟨a,ha⟩:∃a:Int,rd o j=a:=⟨_,rfl⟩
      rw[ha]at H
      have hx:wr.cell? ⟨go,j.toNat,none⟩=some (.int .i64 a):=by rw[←ha];exact(Kd.R_celln 0 HO.1 j hj2 hj3).1
      have aT:=decide_eq_true hj2
      have aU:=decide_eq_true hj3
      have aV:=eq_true hj2
      have aW:=eq_true hj3
      clear hj2 hj3
      obtain⟨⟨z1,z2⟩,hin,H⟩:=Option.bind_eq_some_iff.mp H
      have A4:=am hin
      have HH:=am H
      clear hin H
      go_wp2
      go_loopg [8,54] k1 (fun kq v8 v54 w'=>∃ (l:List Int) (b:Int),v8=.slice (some ⟨go,0,none⟩) o.length co∧v54=.int .i64 b∧Aside0 (C0.in1 kq a0 a l o b=some (z1,z2))∧Aside0 (kq≤k1)∧Aside0 (C0.Inv w w' a0 bn bl g c y0.length l)∧Aside0 (Kd.R KI 3 w' w.heap.size (fun k_=>k_≠bn∧k_≠bl∧k_≠g) (.slice (some ⟨go,0,none⟩) o.length co) o))
      case atStart=>exact⟨l,0,fz,fz,A4,lr,HI,HO⟩
      case round =>
      clear A4 HI HO hnr hcr hx hj hj1 hjw hjk aT aU aV aW
      obtain⟨l,b,rfl,rfl,HIN,aM,HI,HO⟩:=hrel
      cases gk with
      |zero=>exact absurd HIN.1 (by simp[C0.in1])
      |succ k2 =>
      have H:=HIN.1
      clear HIN
      simp only[C0.in1]at H
      have hm:l.length=y0.length:=HI.1.2.2.1
      revert H;refine io ?_ ?_<;>intro d1 H
      ·have aR:=decide_eq_true d1
       clear d1
       by_cases d2:0≤b
       ·rw[if_pos d2]at H
        have D2:=am d2
        by_cases d3:b< (l.length:Int)
        ·rw[if_pos d3]at H
         have D3:=am d3
         by_cases d4:0≤a
         ·rw[if_pos d4]at H
          have D4:=am d4
          by_cases d5:a< (l.length:Int)
          ·rw[if_pos d5]at H
           have D5:=am d5
           have d5':a< (y0.length:Int):=by omega
           have hcr:wr.cell? ⟨bl,0,none⟩=some (.slice (some ⟨g,0,none⟩) y0.length c):=HI.1.2.1
           obtain⟨v,hv⟩:∃v:Int,rd l a=v:=⟨_,rfl⟩
           rw[hv]at H
           have hx:wr.cell? ⟨g,a.toNat,none⟩=some (.int .i64 v):=by rw[←hv];exact(Kd.R_celln 0 HI.1.2.2.2.1 a d4 d5').1
           have d2b:=decide_eq_true d2
           have d4b:=decide_eq_true d4
           have d5b:decide (a< (y0.length:Int))=true:=decide_eq_true d5'
           have d2e:=eq_true d2
           have d4e:=eq_true d4
           have d5e:=eq_true d5'
           clear d2 d3 d4 d5 d5' hv hm
           obtain⟨rr1,hrr1⟩:∃z:Int,shr .i64 v b=z:=⟨_,rfl⟩
           rw[hrr1]at H
           have bC:(v / 2 ^ min (b).toNat 64)=rr1:=hrr1
           have bD:(b)≤64→(v / 2 ^ (b).toNat)=rr1:=AR0 hrr1
           revert H;refine io ?_ ?_<;>intro f1 H
           ·have f1b:=beq_iff_eq.mpr f1
            clear f1
            have H':=am H
            clear H
            go_wp2
            go_roundg k2
            case measure=>exact lm aM
            case rel=>exact⟨l,wrap64 (b+1),fz,fz,H',la aM,HI,HO⟩
           have f1b:=beq_eq_false_iff_ne.mpr f1
           clear f1
           obtain⟨t,ht,H⟩:=Option.bind_eq_some_iff.mp H
           have A5:=am ht
           clear ht
           by_cases f2:t=true
           ·subst f2
            replace H:=(if_pos rfl).symm.trans H
            by_cases f3:o.length<1000
            ·rw[if_pos f3]at H
             have CL:=am f3
             clear f3
             replace H:=s2 H;obtain⟨rfl,bE⟩:=H
             have Nz:=am bE.symm
             clear bE
             go_wp2_with (first
              |((with_reducible refine C0.gate_tmp (t:=65) rfl ?_);refine C0.goesV (some 68) rfl rfl func213 (by kernel_rfl) rfl #[.int .i64 a,.int .i64 b,.pointer (some ⟨bl,0,none⟩)] rfl rfl (by(try simp only[List.map_toArray,List.map_cons,List.map_nil]);first|done|rfl|(simp;done)) ?_;refine(C0.turn_calls l a b bl g c y0.length w.heap.size _ HI.1.2.2.1 HI.1.2.1 HI.1.2.2.2.1 D4.1 (by have:=D5.1;simpa [C0.turn_length]using this) D2.1 (by have:=D3.1;simpa [C0.turn_length]using this) HI.1.2.2.2.2.2.2.2.1).mono ?_;rintro e w7 ⟨rfl,aH,aE⟩;refine⟨_,rfl,?_⟩;have aC:=am (C0.inv_put HI.1 aE aH (C0.turn_length _ _ _));have aA:=am (Kd.R_grown HO.1 aE (fun k_ hk_ e_=>by cases e_;exact hk_.2.2 rfl));clear HI HO aH aE;have HI:=aC;have HO:=aA;clear aC aA)
              |((with_reducible refine C0.gate_tmp (t:=69) rfl ?_);refine C0.goesV (some 71) rfl rfl func214 (by kernel_rfl) rfl #[.int .i64 b,.pointer (some ⟨bn,0,none⟩),.pointer (some ⟨bl,0,none⟩)] rfl rfl (by(try simp only[List.map_toArray,List.map_cons,List.map_nil]);first|done|rfl|(simp;done)) ?_;refine(C0.whole_calls k2 (C0.turn l a b) a0 b true bn bl g c y0.length w.heap.size _ HI.1.1 HI.1.2.2.1 HI.1.2.1 HI.1.2.2.2.1 A5.1).mono ?_;rintro e w8 ⟨rfl,aI⟩;refine⟨_,rfl,?_⟩;have aC:=am (C0.inv_below HI.1 aI);have aA:=am (Kd.R_below HO.1 aI);clear HI HO aI;have HI:=aC;have HO:=aA;clear aC aA)
              |((with_reducible refine Y1 (b:=.append) (xs:=#[.tmp 72,.tmp 74]) rfl ?_);at_builtin;refine Kd.R_append KI (w0:=w) w.heap.size rfl (.tmp 72) (.tmp 74) 22 3 (.int .i64 0) 8 rfl underlying22 J9 rfl (by decide) (by omega) (.slice (some ⟨go,0,none⟩) o.length co) o b [.int .i64 b] (fun k_=>k_≠bn∧k_≠bl∧k_≠g) (fun _=>False) rfl rfl ?aP (fun _ hk=>hk.elim) ?aF ?aO ?aB ?aS ?aL ?_;(case aP=>exact rfl);(case aB=>exact HI.1.2.2.2.2.1);(case aF=>exact fun k_ hk_=>C0.inv_new HI.1 k_ hk_);(case aO=>exact(rR HO));(case aS=>exact(C5 HI.1.2.2.2.2.1));(case aL=>have:=CL.1;omega);intro v6 w6 ho hb hg hat;have HI9:=am (C0.inv_row HI.1 hg (fun k_ hk_=>HO.1.1 k_ hk_) hb);rw[←Nz.1]at ho))
             go_roundg k1
             case measure=>exact lm aG
             case rel=>exact⟨_,z2,HH,la aG,HI9,⟨ho⟩⟩
            ·rw[if_neg f3]at H;exact absurd H (by simp)
           ·rw[if_neg f2]at H
            obtain rfl:=Bool.eq_false_iff.mpr f2
            clear f2
            have H':=am H
            clear H
            go_wp2_with (first
             |((with_reducible refine C0.gate_tmp (t:=65) rfl ?_);refine C0.goesV (some 68) rfl rfl func213 (by kernel_rfl) rfl #[.int .i64 a,.int .i64 b,.pointer (some ⟨bl,0,none⟩)] rfl rfl (by(try simp only[List.map_toArray,List.map_cons,List.map_nil]);first|done|rfl|(simp;done)) ?_;refine(C0.turn_calls l a b bl g c y0.length w.heap.size _ HI.1.2.2.1 HI.1.2.1 HI.1.2.2.2.1 D4.1 (by have:=D5.1;simpa [C0.turn_length]using this) D2.1 (by have:=D3.1;simpa [C0.turn_length]using this) HI.1.2.2.2.2.2.2.2.1).mono ?_;rintro e w7 ⟨rfl,aH,aE⟩;refine⟨_,rfl,?_⟩;have aC:=am (C0.inv_put HI.1 aE aH (C0.turn_length _ _ _));have aA:=am (Kd.R_grown HO.1 aE (fun k_ hk_ e_=>by cases e_;exact hk_.2.2 rfl));clear HI HO aH aE;have HI:=aC;have HO:=aA;clear aC aA)
             |((with_reducible refine C0.gate_tmp (t:=69) rfl ?_);refine C0.goesV (some 71) rfl rfl func214 (by kernel_rfl) rfl #[.int .i64 b,.pointer (some ⟨bn,0,none⟩),.pointer (some ⟨bl,0,none⟩)] rfl rfl (by(try simp only[List.map_toArray,List.map_cons,List.map_nil]);first|done|rfl|(simp;done)) ?_;refine(C0.whole_calls k2 (C0.turn l a b) a0 b false bn bl g c y0.length w.heap.size _ HI.1.1 HI.1.2.2.1 HI.1.2.1 HI.1.2.2.2.1 A5.1).mono ?_;rintro e w8 ⟨rfl,aI⟩;refine⟨_,rfl,?_⟩;have aC:=am (C0.inv_below HI.1 aI);have aA:=am (Kd.R_below HO.1 aI);clear HI HO aI;have HI:=aC;have HO:=aA;clear aC aA)
             |((with_reducible refine C0.gate_tmp (t:=76) rfl ?_);refine C0.goesV (some 79) rfl rfl func213 (by kernel_rfl) rfl #[.int .i64 a,.int .i64 b,.pointer (some ⟨bl,0,none⟩)] rfl rfl (by(try simp only[List.map_toArray,List.map_cons,List.map_nil]);first|done|rfl|(simp;done)) ?_;refine(C0.turn_calls (C0.turn l a b) a b bl g c y0.length w.heap.size _ HI.1.2.2.1 HI.1.2.1 HI.1.2.2.2.1 D4.1 (by have:=D5.1;simpa [C0.turn_length]using this) D2.1 (by have:=D3.1;simpa [C0.turn_length]using this) HI.1.2.2.2.2.2.2.2.1).mono ?_;rintro e w7 ⟨rfl,aH,aE⟩;refine⟨_,rfl,?_⟩;have aC:=am (C0.inv_put HI.1 aE aH (C0.turn_length _ _ _));have aA:=am (Kd.R_grown HO.1 aE (fun k_ hk_ e_=>by cases e_;exact hk_.2.2 rfl));clear HI HO aH aE;have HI:=aC;have HO:=aA;clear aC aA))
            go_roundg k2
            case measure=>exact lm aM
            case rel=>exact⟨_,wrap64 (b+1),fz,fz,H',la aM,HI,HO⟩
          ·rw[if_neg d5]at H;exact absurd H (by simp)
         ·rw[if_neg d4]at H;exact absurd H (by simp)
        ·rw[if_neg d3]at H;exact absurd H (by simp)
       ·rw[if_neg d2]at H;exact absurd H (by simp)
      have aR:=decide_eq_false d1
      clear d1
      replace H:=s2 H;obtain⟨rfl,rfl⟩:=H
      go_wp2
      go_roundg k1
      case measure=>exact lm aG
      case rel=>exact⟨l,o,HH,la aG,HI,HO⟩
     ·rw[if_neg e2]at H;exact absurd H (by simp)
    have e1b:=decide_eq_false e1
    clear e1
    obtain rfl:=Option.some.inj H
    clear H
    obtain⟨Ao,co,rfl⟩:=Kd.R_slice HO.1
    go_wp2
    go_ret2
    exact⟨_,rfl,Kd.R_mono HO.1 (fun _ _=>trivial),HI.1.2.2.2.2.1⟩
   ·rw[if_neg c4]at H;exact absurd H (by simp)
  ·rw[if_neg c3]at H;exact absurd H (by simp)
 ·rw[if_neg c1]at H
  obtain rfl:=Bool.eq_false_iff.mpr c1
  replace H:=s2 H;obtain⟨rfl,rfl⟩:=H
  go_in
  go_wp2_with (first
   |((with_reducible refine P8 (N:=1) rfl ?_);refine j6 ?hg (N:=1) ?hd (cs:=#[.int .i64 a0]) (t:=3) ?hr ?_;(case hd=>rfl);(case hg=>rfl);(case hr=>first|(go_simp;done)|(go_simp;rfl));intro bn hbn w1 hbox hb;replace HB:=bS hb;have hcz:w1.cell? ⟨bn,0,none⟩=some (.int .i64 a0):=(I5 hbox 0).trans rfl;clear hbox hb hbn)
   |((with_reducible refine J0 (f:=83) rfl ?_);refine gl' 12 func83 #[.int .i64 a0,.int .i64 2,.int .i64 11] ?_;(with_reducible refine(E3.calls a0 2 11 false _ A1.1).mono ?_);rintro e w2 ⟨rfl,⟨aJ,rfl⟩⟩;refine⟨_,rfl,?_⟩;have aD:(w1.drewN aJ).cell? ⟨bn,0,none⟩=some (.int .i64 a0):=hcz))
  go_ret2
  exact⟨_,rfl,Kd.R_nil _ _ _ _ _,bz⟩
def Z4.f (a:Int):Option (Bool):=(E3.f a 1 5).bind fun b=>(some b)
theorem Z4.calls (a0 r w):Z4.f a0=some r→
 Calls prog 215 #[.int .i64 a0] w (pD w (.bool r)):=by
 unfold Z4.f
 refine ib fun aA A2=>i1 ?_;rintro rfl
 go_in
 go_wp2_with ((with_reducible refine ga 83 ?_);refine gp func83 (E3.calls a0 1 5 aA _ A2.1) fun nd=>?_)
 go_ret
 exact⟨fz,dz⟩
def K7.f (k:Nat)(b:List Int)(a:Int):Option (Bool):=(E5.f k b a).bind fun c=>(some (decide (c≥0)))
theorem K7.mono:∀a0 a1 k,S6 (K7.f k a0 a1) (K7.f (k+1) a0 a1):=by
 intro a0 a1 k
 unfold K7.f
 have e0:=E5.mono;exact mo
theorem K7.calls (k A0 c0 l0 a1 r w):Kd.C KI w A0 l0.length l0→l0.length≤c0→K7.f k l0 a1=some r→
 Calls prog 291 #[.slice A0 l0.length c0,.int .i64 a1] w (pD w (.bool r)):=by
 refine pa fun HR0 HC0=>?_
 unfold K7.f
 refine ib fun aA A3=>i1 ?_;rintro rfl
 go_in
 go_wp2_with ((with_reducible refine ga 109 ?_);refine gp func109 (E5.calls k A0 c0 l0 a1 aA _ (M8 HR0.1) HC0.1 A3.1) fun nd=>?_)
 go_ret
 exact⟨fz,dz⟩
def J5.l0:Nat→Int→List Int→List Int→Int→Option (List Int)
 |0,_,_,_,_=>none
 |k+1,b,c,d,a=>if a≤(c.length:Int)then(if 0≤(wrap64 (a - b))then(if(wrap64 (a - b))≤a then((F2.f k ((c.take (a:Int).toNat).drop ((wrap64 (a - b)):Int).toNat)).bind fun f=>(if f=true then((D6.f k ((c.take (a:Int).toNat).drop ((wrap64 (a - b)):Int).toNat)).bind fun e=>((K7.f k d e).bind fun g=>(if g=true then(J5.l0 k b c d (wrap64 (a+1)))else(if d.length<17592186044416 then(J5.l0 k b c (d++ [e]) (wrap64 (a+1)))else(none)))))else(J5.l0 k b c d (wrap64 (a+1)))))else(none))else(none))else(some d)
def J5.f (k:Nat)(a:Int)(b:List Int):Option (List Int):=J5.l0 k a b (([]:List Int)) a
theorem J5.mono_l:∀k,(∀y0 y1 y2 y3,S6 (J5.l0 k y0 y1 y2 y3) (J5.l0 (k+1) y0 y1 y2 y3))
 |0=>fun _ _ _ _ r h=>by simp[J5.l0]at h
 |k+1=>by
  have ih0:=J5.mono_l k
  ·intro y0 y1 y2 y3
   unfold J5.l0
   have e0:=F2.mono;have e1:=D6.mono;have e2:=K7.mono;exact mo
theorem J5.mono:∀a0 a1 k,S6 (J5.f k a0 a1) (J5.f (k+1) a0 a1):=by
 intro a0 a1 k
 have ih0:=J5.mono_l k
 unfold J5.f
 have e0:=F2.mono;have e1:=D6.mono;have e2:=K7.mono;exact mo
theorem J5.calls (k a0 A1 c1 l1 r w):Kd.C KI w A1 l1.length l1→l1.length≤c1→J5.f k a0 l1=some r→
 Calls prog 271 #[.int .i64 a0,.slice A1 l1.length c1] w (pR w KI 3 r):=by
 have HB:=bR w
 refine pa fun aV aW=>?_
 unfold J5.f
 intro H
 obtain⟨y409,aG⟩:=ey (([]:List Int):List Int)
 rw[←aG.1]at H
 revert H
 refine ia fun H'=>?_
 go_in
 go_wp2_with ((with_reducible refine gd 9 ?_);refine rl KI 3 ([]:List Int) [] (J7.none _ _) ?_;intro v410 w3 aJ hb;(first|rw[←aG.1]at aJ|(simp only[Int.reduceToNat]at aJ;rw[←aG.1]at aJ));have aK:=am (Kd.R_lower aJ (C5 bz));replace HB:=bS hb;clear hb aJ)
 go_loopg [5,6] k (fun kq v5 v6 w'=>∃ (aE:List Int) (aA:Int),v6=.int .i64 aA∧Aside0 (J5.l0 kq a0 l1 aE aA=some r)∧Aside0 (kq≤k)∧Aside0 (Kd.R KI 3 w' w.heap.size (fun _=>True) v5 aE)∧Aside0 (Below w.heap.size w w'))
 case atStart=>exact⟨_,_,fz,H',lr,⟨rR aK⟩,⟨bz⟩⟩
 case round =>
 obtain⟨aE,aA,rfl,⟨H⟩,aI,aB,HB⟩:=hrel
 cases gk with
 |zero=>cases H
 |succ k1 =>
 simp only[J5.l0]at H
 revert H
 refine iD ?_ ?_<;>intro c5b0
 ·generalize hji6:(wrap64 (aA - a0))=ji6
  have bJ:=(P9 _).trans hji6
  refine if' fun c7b0 c7b1=>if' fun c8b0 c8b1=>?_
  have c9b0:=eq_true (od:aA≤(l1.length:Int))
  refine ib fun t413 aX=>iB ?_ ?_<;>rintro rfl
  ·refine ib fun aF bK=>ib fun t415 bL=>iB ?_ ?_<;>rintro rfl
   ·refine ia fun H'=>?_
    obtain⟨i015,aL,_,aM,_⟩:=info_parts J9
    obtain⟨bM,aY,aZ,bA⟩:=l5 (P:=prog) (Value.int .i64) 0 22 3 .i64 .i64 underlying22 aL aM A1 c1 l1 (ji6) aA (od) (by first|omega|exact od) (od) aW.1
    have aC:=am (Kd.C_of_reads (h1:=fun _=>rfl) (aZ _ (Kd.reads_of_C aV.1)))
    have aD:=am bA
    go_wp2_with (first|((with_reducible refine ga 42 ?_);refine ge func42 (F2.calls k1 bM (c1 - (ji6).toNat) ((l1.take (aA:Int).toNat).drop ((ji6):Int).toNat) true _ (M8 (Kd.C_below aC.1 HB.1)) aD.1 aX.1) ?_ (hargs:=by(try simp only[List.map_toArray,List.map_cons,List.map_nil]);first|done|(rw[show((l1.take (aA:Int).toNat).drop ((ji6):Int).toNat).length=(aA.toNat - (ji6).toNat)from(by rw[List.length_drop,List.length_take];have h_:(aA:Int)≤(l1.length:Int):=od;omega)]<;>rfl)|(simp only[hji6];rfl)|rfl|exact ml);rintro w16 hb;replace aB:=am (Kd.R_below (rR aB) hb);replace HB:=bS hb;clear hb)|((with_reducible refine ga 126 ?_);refine gp func126 (D6.calls k1 bM (c1 - (ji6).toNat) ((l1.take (aA:Int).toNat).drop ((ji6):Int).toNat) aF _ (M8 (Kd.C_below aC.1 HB.1)) aD.1 bK.1) (fun nd=>?_) (hargs:=by(try simp only[List.map_toArray,List.map_cons,List.map_nil]);first|done|(rw[show((l1.take (aA:Int).toNat).drop ((ji6):Int).toNat).length=(aA.toNat - (ji6).toNat)from(by rw[List.length_drop,List.length_take];have h_:(aA:Int)≤(l1.length:Int):=od;omega)]<;>rfl)|(simp only[hji6];rfl)|rfl|exact ml);obtain⟨bB,bC,rfl⟩:=Kd.R_slice aB.1)|((with_reducible refine ga 291 ?_);refine gp func291 (K7.calls k1 bB bC aE aF true _ (M8 (Kd.R_reads' aB.1).2.2) ((Kd.R_reads' aB.1).2.1) bL.1) fun nd=>?_))
    go_roundg k1
    case measure=>exact lm aI
    case rel=>exact⟨_,_,fz,H',la aI,⟨rR aB⟩,⟨bz⟩⟩
   refine il fun aN=>?_
   generalize aH:(aE++ [aF])=y416
   replace aH:=am aH.symm
   refine ia fun H'=>?_
   obtain⟨i019,aO,_,aP,_⟩:=info_parts J9
   obtain⟨bN,bD,bE,bF⟩:=l5 (P:=prog) (Value.int .i64) 0 22 3 .i64 .i64 underlying22 aO aP A1 c1 l1 (ji6) aA (od) (by first|omega|exact od) (od) aW.1
   have aC:=am (Kd.C_of_reads (h1:=fun _=>rfl) (bE _ (Kd.reads_of_C aV.1)))
   have aD:=am bF
   go_wp2_with (first|((with_reducible refine ga 42 ?_);refine ge func42 (F2.calls k1 bN (c1 - (ji6).toNat) ((l1.take (aA:Int).toNat).drop ((ji6):Int).toNat) true _ (M8 (Kd.C_below aC.1 HB.1)) aD.1 aX.1) ?_ (hargs:=by(try simp only[List.map_toArray,List.map_cons,List.map_nil]);first|done|(rw[show((l1.take (aA:Int).toNat).drop ((ji6):Int).toNat).length=(aA.toNat - (ji6).toNat)from(by rw[List.length_drop,List.length_take];have h_:(aA:Int)≤(l1.length:Int):=od;omega)]<;>rfl)|(simp only[hji6];rfl)|rfl|exact ml);rintro w20 hb;replace aB:=am (Kd.R_below (rR aB) hb);replace HB:=bS hb;clear hb)|((with_reducible refine ga 126 ?_);refine gp func126 (D6.calls k1 bN (c1 - (ji6).toNat) ((l1.take (aA:Int).toNat).drop ((ji6):Int).toNat) aF _ (M8 (Kd.C_below aC.1 HB.1)) aD.1 bK.1) (fun nd=>?_) (hargs:=by(try simp only[List.map_toArray,List.map_cons,List.map_nil]);first|done|(rw[show((l1.take (aA:Int).toNat).drop ((ji6):Int).toNat).length=(aA.toNat - (ji6).toNat)from(by rw[List.length_drop,List.length_take];have h_:(aA:Int)≤(l1.length:Int):=od;omega)]<;>rfl)|(simp only[hji6];rfl)|rfl|exact ml);obtain⟨aQ,aR,rfl⟩:=Kd.R_slice aB.1)|((with_reducible refine ga 291 ?_);refine gp func291 (K7.calls k1 aQ aR aE aF false _ (M8 (Kd.R_reads' aB.1).2.2) ((Kd.R_reads' aB.1).2.1) bL.1) fun nd=>?_)|((with_reducible refine gb 32 34 ?_);at_builtin;refine ra KI underlying22 J9 (.slice aQ aE.length aR) aE aF [.int .i64 aF] (fun _=>True) rfl (fun _ _=>trivial) (rR aB) bz (lm aN) ?_;intro v417 w22 ho hb hg hat;rw[←aH.1]at ho;replace HB:=am (hb);have aS:=am (ho);clear aB ho hb hg hat))
   go_roundg k1
   case measure=>exact lm aI
   case rel=>exact⟨_,_,fz,H',la aI,⟨rR aS⟩,⟨bz⟩⟩
  refine ia fun H'=>?_
  obtain⟨i023,aT,_,aU,_⟩:=info_parts J9
  obtain⟨A23,bG,bH,bI⟩:=l5 (P:=prog) (Value.int .i64) 0 22 3 .i64 .i64 underlying22 aT aU A1 c1 l1 (ji6) aA (od) (by first|omega|exact od) (od) aW.1
  have aC:=am (Kd.C_of_reads (h1:=fun _=>rfl) (bH _ (Kd.reads_of_C aV.1)))
  have aD:=am bI
  go_wp2_with ((with_reducible refine ga 42 ?_);refine ge func42 (F2.calls k1 A23 (c1 - (ji6).toNat) ((l1.take (aA:Int).toNat).drop ((ji6):Int).toNat) false _ (M8 (Kd.C_below aC.1 HB.1)) aD.1 aX.1) ?_ (hargs:=by(try simp only[List.map_toArray,List.map_cons,List.map_nil]);first|done|(rw[show((l1.take (aA:Int).toNat).drop ((ji6):Int).toNat).length=(aA.toNat - (ji6).toNat)from(by rw[List.length_drop,List.length_take];have h_:(aA:Int)≤(l1.length:Int):=od;omega)]<;>rfl)|(simp only[hji6];rfl)|rfl|exact ml);rintro w24 hb;replace aB:=am (Kd.R_below (rR aB) hb);replace HB:=bS hb;clear hb)
  go_roundg k1
  case measure=>exact lm aI
  case rel=>exact⟨_,_,fz,H',la aI,⟨rR aB⟩,⟨bz⟩⟩
 refine i1 ?_;rintro rfl
 go_wp2
 go_ret
 exact⟨_,fe,rR aB,bz⟩
end Go.Proofs.YtpiogigidgejpaaGreatDoor.PFnExactStepLine
