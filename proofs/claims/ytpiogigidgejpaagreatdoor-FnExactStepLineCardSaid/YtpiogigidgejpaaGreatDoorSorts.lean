import Derived.Test.YtpiogigidgejpaaGreatDoorProg
import Derived.Test.YtpiogigidgejpaaGreatDoorZ2
import Derived.RangeFuncBox
import Derived.RangeFuncLeaves
import Derived.Shelf.Abstract
import Derived.WalkKit
import Derived.OwnWalkIn
import Derived.TacticsInMore
import Derived.LoopNIn
import Derived.LoopIn
import Derived.Shelf.SlIterI.Sorted
import Derived.Shelf.SortM.Plain
import Derived.Shelf.SortM.SortNone
import Derived.Test.YtpiogigidgejpaaGreatDoorY0
namespace Go.Proofs.YtpiogigidgejpaaGreatDoor.Sorts
open Go Go.Proofs Go.RowKit Go.Shelf Go.Maps Go.Sort
attribute [local go_sem] Oper.semAt_some
def It.upto {α:Type} (f:Nat→α)(k:Nat):List α:=(List.range k).map f
theorem It.upto_succ {α:Type} (f:Nat→α)(k:Nat):It.upto f (k+1)=It.upto f k++ [f k]:=by simp[It.upto,List.range_succ]
theorem It.upto_length {α:Type} (f:Nat→α)(k:Nat):(It.upto f k).length=k:=by simp[It.upto]
theorem It.upto_all (zs:List Int):It.upto (fun j=>zs[j]?.getD 0) zs.length=zs:=by
 apply List.ext_getElem
 ·simp[It.upto]
 ·intro i h1 h2
  simp[It.upto,h2]
set_option maxRecDepth 100000 in
set_option maxHeartbeats 2000000 in
theorem It.values1_in (F:Fence)(n:Nat)(h7:F.fn 99)(hro:F.round=none)(hn:1≤n) (l Bs n₀ b off len cap:Nat)(zs:List Int)(hreach:len*8≤140737488351232)(hb:b<n₀) (J Jx:List Int→World→Prop)
  (hY:∀pre x W,J pre W→pre.length<len→YieldAt F (n - 1) Tryz.prog l #[.int .i64 x] W fun e W' =>
   (e=.returned (.bool true)∧J (pre++ [x]) W'∧Below n₀ W W')∨(e=.returned (.bool false)∧Jx (pre++ [x]) W'))
  (W:World) (hBs:W.cell? ⟨Bs,0,none⟩=some (.slice (some ⟨b,off,none⟩) len cap)) (hc:∀j,j<len→W.cell? ⟨b,off+j,none⟩=some (.int .i64 (zs[j]?.getD 0))) (h0:J [] W) :
  CallsIn F n Tryz.prog 99 #[.func (.yield l) #[] #[],.pointer (some ⟨Bs,0,none⟩)] W fun e W'=>(∃v,e=.returned v)∧
   ((∃ys,ys=It.upto (fun j=>zs[j]?.getD 0) len∧J ys W')∨(∃pre,(∃k,k≤len∧pre=It.upto (fun j=>zs[j]?.getD 0) k)∧Jx pre W')):=by
 refine callsIn_of_wp Tryz.func99 rfl h7 ?_ hro
 simp only[Tryz.ntmps99,List.size_toArray,List.length_cons,List.length_nil,Nat.reduceAdd,Nat.reduceSub,Array.replicate_succ,Array.replicate_zero,List.push_toArray,List.append_toArray,List.nil_append,List.cons_append]
 gi_wp2
 gi_loopw [7] (fun i wr=>∃k:Nat,k≤len∧i=.int .i64 k∧J (It.upto (fun j=>zs[j]?.getD 0) k) wr∧Below n₀ W wr)
  (fun i _=>len - (intOf i).toNat)
 case atStart=>exact⟨0,Nat.zero_le _,rfl,h0,Below.refl _ _⟩
 case round =>
  obtain⟨k,hk,rfl,hJs,hnx⟩:=hrel
  have hcx:k<len→wr.cell? ⟨b,off+k,none⟩=some (.int .i64 (zs[k]?.getD 0)):=fun h=>(hnx.cell (p:=⟨b,off+k,none⟩) hb).trans (hc k h)
  by_cases hlt:k<len
  ·obtain⟨fn,tmps,assign,body,hy,hR⟩:=hY _ (zs[k]?.getD 0) wr hJs (by rw[It.upto_length];exact hlt)
   have hcx':=hcx hlt
   gi_wp2
   refine hR.mono ?_
   rintro e W3 (⟨rfl,hJ3,hk3⟩|⟨rfl,hJx3⟩)
   ·
     gi_wp2
     go_roundw
     case rel=>exact⟨k+1,by omega,by simp,by rw[It.upto_succ];exact hJ3,hnx.trans hk3⟩
     case measure=>simp[intOf];omega
   · gi_wp2
     refine bodyPost_ret (results_none rfl _ _ _) rfl ?_
     exact⟨⟨_,rfl⟩,.inr ⟨_,⟨k+1,by omega,(It.upto_succ _ _).symm⟩,hJx3⟩⟩
  ·obtain rfl:k=len:=by omega
   gi_wp2
   go_end0
   exact⟨⟨_,rfl⟩,.inl ⟨_,rfl,hJs⟩⟩
def It.Ints (n₀:Nat)(W:World)(sv:Value)(zs:List Int):Prop :=
 (∃a cap,sv=.slice a 0 cap∧zs=[])∨∃b off cap,sv=.slice (some ⟨b,off,none⟩) zs.length cap∧b<n₀∧∀j,j<zs.length→W.cell? ⟨b,off+j,none⟩=some (.int .i64 (zs[j]?.getD 0))
theorem It.Ints.below {n₀:Nat} {A B:World} (h:Below n₀ A B) {sv:Value} {zs:List Int}:It.Ints n₀ A sv zs→It.Ints n₀ B sv zs
 |.inl e=>.inl e
 |.inr ⟨b,off,cap,e,hb,hc⟩=>.inr ⟨b,off,cap,e,hb,fun j hj=>(h.cell (p:=⟨b,off+j,none⟩) hb).trans (hc j hj)⟩
set_option maxRecDepth 100000 in
set_option maxHeartbeats 1000000 in
theorem It.values1_nil_in (F:Fence)(n:Nat)(h7:F.fn 99)(hro:F.round=none) (l Bs:Nat)(a0:Option Addr)(cap0:Nat)(J:List Int→World→Prop)(W:World)(hBs:W.cell? ⟨Bs,0,none⟩=some (.slice a0 0 cap0))(h0:J [] W) :
  CallsIn F n Tryz.prog 99 #[.func (.yield l) #[] #[],.pointer (some ⟨Bs,0,none⟩)] W fun e W'=>(∃v,e=.returned v)∧J [] W':=by
 refine callsIn_of_wp Tryz.func99 rfl h7 ?_ hro
 simp only[Tryz.ntmps99,List.size_toArray,List.length_cons,List.length_nil,Nat.reduceAdd,Nat.reduceSub,Array.replicate_succ,Array.replicate_zero,List.push_toArray,List.append_toArray,List.nil_append,List.cons_append]
 gi_wp2
 gi_loopw [7] (fun i wr=>i=.int .i64 0∧J [] wr) (fun _ _=>0)
 case atStart=>exact⟨rfl,h0⟩
 case round =>
  obtain⟨rfl,hJs⟩:=hrel
  gi_wp2
  go_end0
  exact⟨⟨_,rfl⟩,hJs⟩
set_option maxHeartbeats 1000000 in
theorem It.values_in (F:Fence)(n:Nat)(h5:F.fn 73)(hro:F.round=none)(a:Option Addr) (len cap:Nat)(w:World) :
  CallsIn F n Tryz.prog 73 #[.slice a len cap] w fun e w'=>e=.returned (.func (.func 99) #[] #[.pointer (some ⟨w.heap.size,0,none⟩)])∧w'=w.alloc (.cells #[.slice a len cap] 22):=by
 refine callsIn_of_wp Tryz.func73 rfl h5 ?_ hro
 simp only[Tryz.ntmps73,List.size_toArray,List.length_cons,List.length_nil,Nat.reduceAdd,Nat.reduceSub,Array.replicate_succ,Array.replicate_zero,List.push_toArray,List.append_toArray,List.nil_append,List.cons_append]
 gi_wp2
 go_ret
 exact⟨rfl,rfl⟩
def AM5 (F:Fence)(n:Nat)(P:Program)(g:Nat)(lb:Array Value)(S:List Int→Prop)(N:Nat)(w:World):Prop :=
 ∀ (l:Nat) (J:List Int→World→Prop) (W:World),Below w.heap.size w W→AbidesFrom W.heap.size J→
  (∀pre x W1,J pre W1→pre.length<N→YieldAt F (n - 1) P l #[encZ x] W1 fun e W'=>e=.returned (.bool true)∧J (pre++ [x]) W'∧KeepsWalks W1 W')→
  (∀pre W1,J pre W1→Below w.heap.size w W1)→J [] W→
  CallsIn F n P g (#[.func (.yield l) #[] #[]]++lb) W fun e W'=>(∃v,e=.returned v)∧∃xs,S xs∧J xs W'
theorem Ak0 {B:Nat} {w W W':World} (h:Below B w W)(h':Below B w W')(hs:W.heap.size≤W'.heap.size):Below B W W' :=
 ⟨h'.os.trans h.os.symm,h'.tape.trans h.tape.symm,h'.output.trans h.output.symm,hs,fun k hk=>(h'.block k hk).trans (h.block k hk).symm⟩
theorem Ap6 (F:Fence)(n:Nat)(h7:F.fn 99)(hro:F.round=none)(hn:1≤n)(Bs:Nat)(sv:Value)(zs:List Int)(hreach:zs.length*8≤140737488351232) (w0 w:World)(hBs:Bs<w.heap.size)(hb:Below w0.heap.size w0 w)
  (hc:w.cell? ⟨Bs,0,none⟩=some sv) (hI:It.Ints w0.heap.size w0 sv zs) :
  AM5 F n Tryz.prog 99 #[.pointer (some ⟨Bs,0,none⟩)] (fun ys=>ys=zs) zs.length w:=fun l J W hW _ hY hJ h0=>by
 have hc':=(hW.cell (p:=⟨Bs,0,none⟩) hBs).trans hc
 have hb2:Below w0.heap.size w0 W:=hb.trans (hW.mono hb.size)
 rcases hI.below hb2 with⟨a0,cap0,rfl,rfl⟩|⟨b,off,cap,rfl,hbl,hcs⟩
 ·exact(It.values1_nil_in F n h7 hro l Bs a0 cap0 J W hc' h0).mono fun e W' ⟨he,hj⟩=>⟨he,⟨_,rfl,hj⟩⟩
 ·refine(It.values1_in F n h7 hro hn l Bs w0.heap.size b off zs.length cap zs hreach hbl J (fun _ _=>False) (fun pre x W1 h1 hl=>(hY pre x W1 h1 hl).mono ?_) W hc' hcs h0).mono ?_
  ·rintro e W' ⟨rfl,hj,hk⟩
   exact .inl ⟨rfl,hj,(Ak0 (hJ _ _ h1) (hJ _ _ hj) hk.size).mono hb.size⟩
  ·rintro e W' ⟨he,⟨ys,rfl,hj⟩|⟨pre,_,hj⟩⟩
   ·exact⟨he,⟨_,It.upto_all zs,hj⟩⟩
   ·exact hj.elim
section
variable {P:Program}
set_option maxRecDepth 100000 in
set_option maxHeartbeats 2000000 in
theorem Aq1 {ρ:Ren} (L:SlLaysZI.n11 P ρ)(F:Fence)(n:Nat)(h11:F.fn (ρ.f 11))(hro:F.round=none)(hn:2≤n)(g:Nat)(lb:Array Value)(hFg:F.fn g)(eg:∀args w,(callFunc g args).run P w=.ok (.enter g args) w)
  (S:List Int→Prop) (N:Nat) (hN:N≤maxLen) (hNb:N*8≤140737488355328) (w:World) (hseq:AM5 F (n - 1) P g lb S N w) :
  CallsIn F n P (ρ.f 11) #[.slice none 0 0,.func (.func g) #[] lb] w fun e w'=>∃ (v:Value) (ss:List Int),e=.returned v∧S ss∧w'.ownsRow w.heap.size (ρ.t 26) 1 v ss.length (ss.map encZ)∧(v=.slice none 0 0↔ss=[])∧Below w.heap.size w w':=by
 have h1:1≤n:=by omega
 have mixed:=L.mixed;have t0:=L.t0;have a0:=L.a0;have z0:=L.z0;have v0:=L.v0;have t24:=L.t24;have a24:=L.a24;have z24:=L.z24;have v24:=L.v24;have t26:=L.t26;have a26:=L.a26;have z26:=L.z26;have v26:=L.v26;have t28:=L.t28;have a28:=L.a28;have z28:=L.z28;have v28:=L.v28
 have hne:ρ.t 24≠ρ.t 26:=fun e=>by have h:=L.t24;rw[e,L.t26]at h;cases h
 have u0:=run_underlying L.t0;have u24:=run_underlying L.t24;have u26:=run_underlying L.t26;have u28:=run_underlying L.t28
 obtain⟨_,_,FG⟩:=L.f11
 refine callsIn_of_wp_marks FG rfl h11 ?_ hro
 simp only[SlBodyZ.n11_ntmps ρ,List.size_toArray,List.length_cons,List.length_nil,Nat.reduceAdd,Nat.reduceSub,Array.replicate_succ,Array.replicate_zero,List.push_toArray,List.append_toArray,List.nil_append,List.cons_append]
 gi_wp2
 refine wpIn_rangeFunc ?_
 intro fn hfn
 rw[hro]
 obtain⟨W0,hW0⟩:∃W0,w.alloc (.cells #[.slice none 0 0] (ρ.t 24))=W0:=⟨_,rfl⟩
 have hs0:W0.heap.size=w.heap.size+1:=by rw[←hW0];simp
 have hv0:W0.heap[w.heap.size]? =some (.cells #[.slice none 0 0] (ρ.t 24) (0,0)):=by rw[←hW0];exact World.alloc_heap_new w _
 have hb0:Below w.heap.size w W0:=by rw[←hW0];exact(Below.refl _ w).alloc (Nat.le_refl _) _
 rw[hW0]
 obtain⟨W1,hW1⟩:∃W1,(W0.alloc (.deferred (some []))).alloc (.loop (AnyZI.apRec ρ fn (.func (.func g) #[] lb) w.heap.size W0.heap.size .ready none))=W1:=⟨_,rfl⟩
 have hold:∀k,k<W0.heap.size→W1.heap[k]? =W0.heap[k]?:=fun k hk=>by
  rw[←hW1];exact(Below.heap_alloc _ _ k (by simp;omega)).trans (Below.heap_alloc _ _ k hk)
 have hb1:Below w.heap.size w W1:=by rw[←hW1];exact(hb0.alloc hb0.size _).alloc (by have:=hb0.size;simp;omega) _
 have hs1:W1.heap.size=W0.heap.size+2:=by rw[←hW1];simp
 have hM:AnyZI.ApAt ρ w fn (.func (.func g) #[] lb) w.heap.size (W0.heap.size+1) W0.heap.size [] W1 :=
  ⟨⟨_,(hold w.heap.size (by omega)).trans hv0,⟨rfl,.inl ⟨rfl,rfl⟩⟩,by simp⟩,
   by rw[←hW1];have:=World.alloc_heap_new (W0.alloc (.deferred (some []))) (.loop (AnyZI.apRec ρ fn (.func (.func g) #[] lb) w.heap.size W0.heap.size .ready none));rwa [World.size_alloc]at this,
   by rw[←hW1];exact(Below.heap_alloc _ _ _ (by simp)).trans (World.alloc_heap_new W0 _),hb1⟩
 refine⟨W0.heap.size+1,[{ target:=.collected W0.heap.size,args:=#[] }],W1,{ target:=.fn (.func g) lb,args:=#[.func (.yield (W0.heap.size+1)) #[] #[]] },W1,g,
  #[.func (.yield (W0.heap.size+1)) #[] #[]]++lb,W1,?_,?_,?_,?_,fun _=>h1,?_⟩
 ·rw[←hW1];exact run_enterLoop_outer _ _ _ _ _
 ·simp[resolve,go_sem]
 ·intro f' hf';simp[Target.leads]at hf';subst hf';exact hFg
 ·simp[invoke,go_sem,eg]
 ·refine(hseq (W0.heap.size+1) (AnyZI.ApAt ρ w fn (.func (.func g) #[] lb) w.heap.size (W0.heap.size+1) W0.heap.size) W1 hb1 (AnyZI.ap_abides ρ _ _ _ _ _ _ _ hb1.size)
    (fun pre x W hJ hl=>AnyZI.apYield { L with } F (n - 1 - 1) w fn hfn _ w.heap.size (W0.heap.size+1) W0.heap.size (by omega) (by omega) (by omega) (Nat.le_refl _) (by omega) N hN hNb pre x W hJ hl) (fun _ _ h=>h.below) hM).mono ?_
  rintro e W2 ⟨⟨v0,rfl⟩,ss,hS,h2⟩
  obtain⟨v,hv,hrow,hnil⟩:=h2.box
  have hend:=run_endLoop (P:=P) h2.L (by simp[AnyZI.apRec])
  obtain⟨W3,hW3⟩:∃W3,W2.putObj (W0.heap.size+1) (.loop { AnyZI.apRec ρ fn (.func (.func g) #[] lb) w.heap.size W0.heap.size .ready none with state:=.exhausted })=W3:=⟨_,rfl⟩
  rw[hW3]at hend
  have hg3:W2.grownBy W3 (some (W0.heap.size+1)):=by rw[←hW3];exact grownBy_putObj_a _ _ _
  have hv3:W3.heap[w.heap.size]? =some (.cells #[v] (ρ.t 24) (0,0)):=by rw[←hW3];exact(World.putObj_heap_other (by omega)).trans hv
  have hK3:W3.heap[W0.heap.size]? =some (.deferred (some [])):=by rw[←hW3];exact(World.putObj_heap_other (by omega)).trans h2.K
  have hrow3:=hrow.kept hg3 (ownsRow_ne_a hrow h2.L (fun cur e=>by first|cases e|exact hne (Obj.cells.inj e).2.1))
  have hb3:Below w.heap.size w W3:=h2.below.grown hg3 h2.below.size (fun k e=>by cases e;omega)
  obtain⟨hc3,hf3⟩:=cell_of_box_a hv3
  clear hW3
  refine⟨none,W3,hend,?_⟩
  gi_wp2
  rw[←hs0]
  refine⟨by simp,.inl ⟨_,_,rfl,run_takeDeferred hK3,?_⟩⟩
  exact⟨_,results_tmp rfl _ _ _,v,ss,rfl,hS,hrow3.kept (grownBy_putObj_a _ _ _) (ownsRow_ne_a hrow3 hK3 (fun cur e=>by first|cases e|exact hne (Obj.cells.inj e).2.1)),hnil,hb3.grown (grownBy_putObj_a _ _ _) hb3.size (fun k e=>by cases e;omega)⟩
set_option maxHeartbeats 1000000 in
theorem BB6 {ρ:Ren} (L:SlLaysZI.n8 P ρ)(F:Fence)(n:Nat)(h8:F.fn (ρ.f 8))(h11:F.fn (ρ.f 11))(hro:F.round=none)(hn:3≤n)(g:Nat)(lb:Array Value)(hFg:F.fn g)(eg:∀args w,(callFunc g args).run P w=.ok (.enter g args) w)
  (S:List Int→Prop) (N:Nat) (hN:N≤maxLen) (hNb:N*8≤140737488355328) (w:World) (hseq:AM5 F (n - 1 - 1) P g lb S N w) :
  CallsIn F n P (ρ.f 8) #[.func (.func g) #[] lb] w fun e w'=>∃ (v:Value) (ss:List Int),e=.returned v∧S ss∧w'.ownsRow w.heap.size (ρ.t 26) 1 v ss.length (ss.map encZ)∧(v=.slice none 0 0↔ss=[])∧Below w.heap.size w w':=by
 have h1:1≤n:=by omega
 have e11:∀args w,(callFunc (ρ.f 11) args).run P w=.ok (.enter (ρ.f 11) args) w:=L.f11.enters rfl
 have mixed:=L.mixed;have t0:=L.t0;have a0:=L.a0;have z0:=L.z0;have v0:=L.v0;have t24:=L.t24;have a24:=L.a24;have z24:=L.z24;have v24:=L.v24;have t26:=L.t26;have a26:=L.a26;have z26:=L.z26;have v26:=L.v26;have t28:=L.t28;have a28:=L.a28;have z28:=L.z28;have v28:=L.v28
 have u0:=run_underlying L.t0;have u24:=run_underlying L.t24;have u26:=run_underlying L.t26;have u28:=run_underlying L.t28
 obtain⟨_,_,FG⟩:=L.f8
 refine callsIn_of_wp FG rfl h8 ?_ hro
 simp only[SlBodyZ.n8_ntmps ρ,List.size_toArray,List.length_cons,List.length_nil,Nat.reduceAdd,Nat.reduceSub,Array.replicate_succ,Array.replicate_zero,List.push_toArray,List.append_toArray,List.nil_append,List.cons_append]
 gi_wp2_with (gi_at_fn (ρ.f 11);refine(Aq1 { L with } F (n - 1) h11 hro (by omega) g lb hFg eg S N hN hNb _ hseq).mono ?_;rintro e w' ⟨v,ss,rfl,hS,hrow,hnil,hb⟩)
 go_ret
 exact⟨v,ss,rfl,hS,hrow,hnil,hb⟩
set_option maxRecDepth 100000 in
set_option maxHeartbeats 2000000 in
theorem BE8 {ρ:Ren} (L:SlLaysZI.n6 P ρ)(F:Fence)(n:Nat)(h6:F.fn (ρ.f 6))(h8:F.fn (ρ.f 8))(h9:F.fn (ρ.f 9))(h11:F.fn (ρ.f 11))(hro:F.round=none)(hn:4≤n)(hsort:AnyZI.SortsIn P ρ F (n - 1))(e9:∀args w,(callFunc (ρ.f 9) args).run P w=.ok (.enter (ρ.f 9) args) w)(g:Nat)(lb:Array Value)(hFg:F.fn g)(eg:∀args w,(callFunc g args).run P w=.ok (.enter g args) w)
   (S:List Int→Prop) (N:Nat) (hN:N≤maxLen) (hNb:N*8≤140737488355328) (w:World) (hSN:∀xs,S xs→xs.length≤N) (hseq:AM5 F (n - 1 - 1 - 1) P g lb S N w) :
   CallsIn F n P (ρ.f 6) #[.func (.func g) #[] lb] w fun e w'=>∃ (v:Value) (ss:List Int),e=.returned v∧S ss∧
    w'.ownsRow w.heap.size (ρ.t 26) 1 v ss.length ((ss.mergeSort (fun x y=>decide (x≤y))).map encZ)∧(v=.slice none 0 0↔ss=[])∧Below w.heap.size w w':=by
 have h1:1≤n:=by omega
 have e8:∀args w,(callFunc (ρ.f 8) args).run P w=.ok (.enter (ρ.f 8) args) w:=L.f8.enters rfl
 have mixed:=L.mixed;have t0:=L.t0;have a0:=L.a0;have z0:=L.z0;have v0:=L.v0;have t24:=L.t24;have a24:=L.a24;have z24:=L.z24;have v24:=L.v24;have t26:=L.t26;have a26:=L.a26;have z26:=L.z26;have v26:=L.v26;have t28:=L.t28;have a28:=L.a28;have z28:=L.z28;have v28:=L.v28
 have u0:=run_underlying L.t0;have u24:=run_underlying L.t24;have u26:=run_underlying L.t26;have u28:=run_underlying L.t28
 obtain⟨_,_,FG⟩:=L.f6
 refine callsIn_of_wp FG rfl h6 ?_ hro
 simp only[SlBodyZ.n6_ntmps ρ,List.size_toArray,List.length_cons,List.length_nil,Nat.reduceAdd,Nat.reduceSub,Array.replicate_succ,Array.replicate_zero,List.push_toArray,List.append_toArray,List.nil_append,List.cons_append]
 gi_wp2_with (gi_at_fn (ρ.f 8);refine(BB6 { L with } F (n - 1) h8 h11 hro (by omega) g lb hFg eg _ N hN hNb _ hseq).mono ?_;rintro e W ⟨v,ss,rfl,hS,hrow,hnil,hb⟩)
 have hlen:=hSN ss hS
 rcases hrow.2 with⟨rfl,hz⟩|⟨gb,cap,cur,rfl,hbase,hgb,r1,r2,r3,r4⟩
 ·
   have hss:ss=[]:=List.eq_nil_of_length_eq_zero hz
   subst hss
   gi_wp2_with (gi_at_fn (ρ.f 9);refine(hsort.2 none 0 W).mono ?_;rintro e w' ⟨rfl,rfl⟩)
   go_ret
   exact⟨.slice none 0 0,[],rfl,hS,by simpa using hrow,by simp,hb⟩
 · have hH:Holds encZ W gb 0 ss.toArray:=holds_of_block_i hgb (by simpa using r4)
   have hgl:gb<W.heap.size:=(Array.getElem?_eq_some_iff.1 hgb).1
   have hsz:ss.length<4611686018427387904:=by omega
   have cS:=hsort.1 gb 0 cap ss W hH hgl hsz
   gi_wp2_with (gi_at_fn (ρ.f 9);refine cS.mono ?_;rintro e w' ⟨rfl,nn,os,rfl⟩)
   go_ret
   exact⟨_,ss,rfl,hS,ownsRow_sorted_i (by simp) hbase hgb r1 r2 r3,hnil,hb.grown (grownBy_sorted_i _) hb.size (fun j hj=>by cases hj;exact hbase)⟩
end
theorem Aw3 (m:Nat):AnyZI.SortsIn Tryz.prog Tryz.sortedA_ren Fence.wide m :=
 ⟨fun blk off cap ss W hH hblk hsz=>callsIn_wide.2 (AnyM.slices_Sort_int Tryz.sortA blk off cap ss W hH hblk hsz),
  fun p cap W=>callsIn_wide.2 (AnyM.slices_Sort_int_none Tryz.sortA p cap W)⟩
theorem values_call (a:Option Addr) (len cap:Nat)(w:World) :
  Calls Tryz.prog 73 #[.slice a len cap] w fun e w'=>e=.returned (.func (.func 99) #[] #[.pointer (some ⟨w.heap.size,0,none⟩)])∧w'=w.alloc (.cells #[.slice a len cap] 22) :=
 (callsIn_wide (n:=6)).1 (It.values_in Fence.wide 6 trivial rfl a len cap w)
theorem Au8 (a:Option Addr)(cap:Nat)(zs:List Int)(hreach:zs.length*8≤140737488351232)(w:World)(hI:It.Ints w.heap.size w (.slice a zs.length cap) zs) :
  Calls Tryz.prog 72 #[.func (.func 99) #[] #[.pointer (some ⟨w.heap.size,0,none⟩)]] (w.alloc (.cells #[.slice a zs.length cap] 22)) fun e w' =>
   ∃v,e=.returned v∧w'.ownsRow w.heap.size 3 1 v zs.length ((zs.mergeSort (fun x y=>decide (x≤y))).map (Value.int .i64))∧Below w.heap.size w w':=by
 have hB0:Below w.heap.size w (w.alloc (.cells #[.slice a zs.length cap] 22)):=(Below.refl _ w).alloc (Nat.le_refl _) _
 have bN:=Boxed.new w 22 (.slice a zs.length cap)
 have hg:=Ap6 Fence.wide 3 trivial rfl (by omega) w.heap.size _ zs hreach w (w.alloc (.cells #[.slice a zs.length cap] 22)) (by simp) hB0 bN.cell hI
 have hs:=BE8 Tryz.sortedA Fence.wide 6 trivial trivial trivial trivial rfl (by omega) (Aw3 _) (enters_of Tryz.func98 (by kernel_rfl) rfl) 99 #[.pointer (some ⟨w.heap.size,0,none⟩)] trivial (enters_of Tryz.func99 (by kernel_rfl) rfl)
  (fun ys=>ys=zs) zs.length (by unfold maxLen;omega) (by omega) _ (fun xs e=>by rw[e];exact Nat.le_refl _) hg
 refine((callsIn_wide (n:=6)).1 hs).mono ?_
 rintro e w' ⟨v,ss,rfl,rfl,hrow,_,hb⟩
 refine⟨v,rfl,?_,hB0.trans (hb.mono (by simp))⟩
 refine ownsRow_base_a hrow (by simp)
open Go.Proofs.YtpiogigidgejpaaGreatDoorW.PrintWords
def srt (l:List Int):List Int:=l.mergeSort fun x y=>decide (x≤y)
theorem AH9 (l:List Int):(srt l).length=l.length:=List.length_mergeSort l
theorem BR4 {w:World} {A:Option Addr} {l:List Int} {c:Nat} (h:Kd.C (Kd.int .i64) w A l.length l):It.Ints w.heap.size w (.slice A l.length c) l:=by
 rcases Nat.eq_zero_or_pos l.length with h0|h0
 ·rw[h0];exact .inl ⟨_,_,rfl,List.eq_nil_of_length_eq_zero h0⟩
 ·obtain⟨ad,rfl,h1⟩:=Kd.at_int h 0 (by omega) (by omega)
  have hlt:=World.block_lt_of_cell? w _ h1
  have hs:ad.spot=none:=by
   have h2:w.cell? ad=some (.int .i64 (rd l 0)):=by simpa [Addr.add]using h1
   unfold World.cell? at h2
   split at h2
   ·split at h2
    ·cases h2
    ·rename_i hn;simpa using hn
   ·cases h2
  obtain⟨b,off,sp⟩:=ad
  obtain rfl:sp=none:=hs
  refine .inr ⟨b,off,c,rfl,by simpa [Addr.add]using hlt,fun j hj=>?_⟩
  obtain⟨ad2,e2,h2⟩:=Kd.at_int h (j:Int) (by omega) (by omega)
  obtain rfl:=Option.some.inj e2
  have e3:(⟨b,off,none⟩:Addr).add (j:Int).toNat=⟨b,off+j,none⟩:=by unfold Addr.add;split<;>simp_all
  rw[e3]at h2
  rw[h2]
  simp[Go.Proofs.YtpiogigidgejpaaGreatDoorW.PrintWords.rd,List.getD_eq_getElem?_getD]
theorem Av9 (A:Option Addr)(c:Nat)(l:List Int)(w:World)(hr:Kd.C (Kd.int .i64) w A l.length l)(hreach:l.length≤17592186043904) :
  Calls Tryz.prog 72 #[.func (.func 99) #[] #[.pointer (some ⟨w.heap.size,0,none⟩)]] (w.alloc (.cells #[.slice A l.length c] 22)) fun e w' =>
   ∃v,e=.returned v∧Kd.R (Kd.int .i64) 3 w' w.heap.size (fun _=>True) v (srt l)∧Below w.heap.size w w':=by
 refine(Au8 A c l (by omega) w (BR4 hr)).mono ?_
 rintro e w' ⟨v,rfl,hrow,hb⟩
 refine⟨v,rfl,Kd.R_of_own ?_ (fun _ _=>trivial),hb⟩
 rw[AH9]
 exact hrow
theorem sorted_slice (A:Option Addr)(c:Nat)(l:List Int)(w:World)(hr:Kd.C (Kd.int .i64) w A l.length l)(hreach:l.length≤17592186043904) :
  Calls Tryz.prog 72 #[.func (.func 99) #[] #[.pointer (some ⟨w.heap.size,0,none⟩)]] (w.alloc (.cells #[.slice A l.length c] 22)) fun e w' =>
   ∃A1 c1,e=.returned (.slice A1 (srt l).length c1)∧(srt l).length≤c1∧Kd.C (Kd.int .i64) w' A1 (srt l).length (srt l)∧Below w.heap.size w w':=by
 refine(Av9 A c l w hr hreach).mono ?_
 rintro e w' ⟨v,rfl,hR,hb⟩
 obtain⟨A1,c1,rfl,hc,hC⟩:=Kd.R_reads hR
 exact⟨A1,c1,rfl,hc,hC,hb⟩
end Go.Proofs.YtpiogigidgejpaaGreatDoor.Sorts
