import Derived.Test.YtpiogigidgejpaaGreatDoorProg
import Derived.Test.YtpiogigidgejpaaGreatDoorZ2
import Derived.Shelf.Spec.SlicesInsertGrow
import Derived.Lib.LazyBuf
import Derived.Test.YtpiogigidgejpaaGreatDoorY0
namespace Go.Proofs.YtpiogigidgejpaaGreatDoor.Dels
open Go Go.Proofs Go.RowKit Go.Shelf Go.Sort Go.Proofs.YtpiogigidgejpaaGreatDoorW.PrintWords
theorem Ag8 (l:List Int):AC5 (Value.int .i64) l=l.map (Value.int .i64):=by
 induction l with
 |nil=>rfl
 |cons x l ih=>simp_all [AC5]
theorem AF5 {w:World} {g e base n c:Nat} {f:Nat→Value} {ok:Nat→Prop} {l:List Int} (hr:w.rowIs g e c f)(hb:base≤g)(hn:l.length=n)(hc:n≤c)(hm:c≤maxLen)(hf:∀j,(h:j<l.length)→f j=.int .i64 l[j])(hok:ok g) :
  (Kd.int .i64).R e w base ok (.slice (some ⟨g,0,none⟩) n c) l:=by
 subst hn
 obtain⟨cur,h1,h2,h3⟩:=hr
 refine Kd.R_of_own ⟨by rw[Ag8];simp,.inr ⟨g,c,cur,rfl,hb,h1,hc,hm,by omega,?_⟩⟩ (fun k hk=>by cases hk;exact hok)
 rw[Ag8]
 apply List.ext_getElem?
 intro j
 rw[Nat.mul_one,List.getElem?_take]
 by_cases hj:j<l.length
 ·rw[if_pos hj,Array.getElem?_toList,h3 j (by omega),hf j hj]
  simp[hj]
 ·rw[if_neg hj,List.getElem?_eq_none (by simp;omega)]
theorem BD1 (l:List Int)(i:Nat)(x:Int)(hi:i≤l.length)(j:Nat)(h:j< (l.take i++x::l.drop i).length):(l.take i++x::l.drop i)[j]=if j<i then l.getD j 0 else if j=i then x else l.getD (j - 1) 0:=by
 rw[List.length_append,List.length_take,List.length_cons,List.length_drop,Nat.min_eq_left hi]at h
 by_cases c1:j<i
 ·rw[if_pos c1,List.getElem_append_left (by rw[List.length_take];omega),List.getElem_take,List.getD_eq_getElem?_getD,List.getElem?_eq_getElem (by omega),Option.getD_some]
 ·rw[if_neg c1,List.getElem_append_right (by rw[List.length_take];omega)]
  by_cases c2:j=i
  ·subst c2
   rw[if_pos rfl]
   simp[hi]
  ·rw[if_neg c2]
   obtain⟨d,rfl⟩:∃d,j=i+1+d:=⟨j - i - 1,by omega⟩
   simp[List.length_take,Nat.min_eq_left hi,List.getD_eq_getElem?_getD,List.getElem?_eq_getElem (show i+d<l.length by omega),show i+1+d - i=d+1 by omega,show i+1+d - 1=i+d by omega]
theorem Aa4 {cur:Nat→Value} (l:List Int) (i m:Nat)(x:Int)(hi:i≤l.length)(hm:m=i+1)(hcur:∀j,j<i→cur j=.int .i64 (l.getD j 0))(j:Nat)(h:j< (l.take i++x::l.drop i).length) :
  (if i≤j∧j<i+ [Value.int .i64 x].length then [Value.int .i64 x][j - i]?.getD default else(if m≤j∧j<m+ ((l.map (Value.int .i64)).drop i).length then((l.map (Value.int .i64)).drop i)[j - m]?.getD default else cur j))=.int .i64 (l.take i++x::l.drop i)[j]:=by
 subst hm
 rw[BD1 l i x hi j h]
 rw[List.length_append,List.length_take,List.length_cons,List.length_drop,Nat.min_eq_left hi]at h
 have hdl:((l.map (Value.int .i64)).drop i).length=l.length - i:=by simp
 rw[hdl,List.length_singleton]
 by_cases c1:j<i
 ·rw[if_neg (by omega),if_neg (by omega),if_pos c1,hcur j c1]
 ·by_cases c2:j=i
  ·subst c2
   rw[if_pos (by omega),if_neg (by omega),if_pos rfl,Nat.sub_self]
   rfl
  ·rw[if_neg (by omega),if_pos (by omega),if_neg c1,if_neg c2,List.getElem?_drop,List.getElem?_map,show i+ (j - (i+1))=j - 1 by omega,List.getElem?_eq_getElem (by omega),List.getD_eq_getElem?_getD,List.getElem?_eq_getElem (by omega)]
   rfl
theorem BJ0 (a b c:Array Value) (n m k:Nat)(ha:a.size=n)(hb:b.size=m)(hc:c.size=k)(q:Nat)(hq:n+m+k=q):(a++b++c).size=q:=by
 rw[Array.size_append,Array.size_append,ha,hb,hc,hq]
theorem AM4 {w:World} (c:Array Value)(t:TypeId)(n:Nat)(hn:c.size=n):(w.alloc (.cells c t)).rowIs w.heap.size t n (fun j=>c[j]?.getD default):=by
 subst hn
 exact World.rowIs_alloc w c t _ (fun i hi=>by rw[Array.getElem?_eq_getElem hi];rfl)
set_option maxHeartbeats 4000000 in
set_option maxRecDepth 100000 in
theorem insert_own {base bv:Nat} {ok okv:Nat→Prop} {A:Option Addr} {c vc:Nat} {vA:Option Addr} {l:List Int} {x:Int} {w:World} (i:Nat)(h:(Kd.int .i64).R 3 w base ok (.slice A l.length c) l)(hi:i≤l.length)(hbig:l.length≤1000000000000)(hv:(Kd.int .i64).R 3 w bv okv (.slice vA 1 vc) [x])(hne:∀a b,A=some a→vA=some b→b.block≠a.block)(hbase:base≤w.heap.size) :
  Calls Tryz.prog 111 #[.slice A l.length c,.int .i64 i,.slice vA 1 vc] w fun e W'=>∃v',e=.returned v'∧(Kd.int .i64).R 3 W' base (fun _=>True) v' (l.take i++x::l.drop i)∧Below base w W':=by
 obtain⟨vg,vcap,veq,_,hvlt,_⟩:=Kd.R_form hv (by simp)
 injection veq with e1 e2 e3
 subst e1
 have ho:=Kd.own_of_R h
 have hov:=Kd.own_of_R hv
 have hlen:(l.take i++x::l.drop i).length=l.length+1:=by simp;omega
 rw[Ag8]at ho hov
 obtain⟨hvl,hov⟩:=hov
 have hvrow:∃cur,w.heap[vg]? =some (.cells cur 3 (0,0))∧cur.size≠0∧cur[0]? =some (.int .i64 x):=by
  rcases hov with⟨he,_⟩|⟨g,cap,cur,he,_,h1,h2,h3,h4,h5⟩
  ·cases he
  ·injection he with q1 q2 q3
   injection q1 with q1
   injection q1 with q1
   subst q1
   refine⟨cur,h1,by simp at h2;omega,?_⟩
   have:=congrArg (fun z=>z[0]?) h5
   simpa using this
 obtain⟨vcur,hvb,hvs,hvx⟩:=hvrow
 have hvcell:w.cell? ⟨vg,0,none⟩=some (.int .i64 x):=by simp[World.cell?,hvb,hvx]
 have hvv:∀j v,[Value.int .i64 x][j]? =some v→w.cell? ⟨vg,0+j,none⟩=some v:=fun j v hj=>by
  cases j with
  |zero=>simp at hj;subst hj;exact hvcell
  |succ j=>simp at hj
 have h1v:∀v∈[Value.int .i64 x],v.oneCell'=true:=fun v hv=>by simp at hv;subst hv;rfl
 have h1c:∀v∈l.map (Value.int .i64),v.oneCell'=true:=fun v hv=>by
  obtain⟨y,_,rfl⟩:=List.mem_map.mp hv
  rfl
 have hz:∀k,(Builtin.zeroCells (Value.int .i64 0).cells k).size=k:=fun k=>by rw[size_zeroCells];exact Nat.mul_one k
 obtain⟨_,ho⟩:=ho
 rcases ho with⟨he,hn⟩|⟨g,cap,cur,he,hbg,h1,h2,h3,h4,h5⟩
 ·injection he with q1 q2 q3
  obtain rfl:=List.eq_nil_of_length_eq_zero hn
  obtain rfl:i=0:=by simpa using hi
  rw[q1,q3]
  refine(Any2.slices_Insert_int_end_grow Tryz.insA none 0 0 vg 0 1 vc [] [Value.int .i64 x] w (by omega) (by omega) (by omega) (by omega) rfl rfl (fun _=>rfl) (fun a ha=>by cases ha) hvv h1v).mono ?_
  rintro e w' ⟨rfl,rfl⟩
  have hge:=grownCap_ge w (0+1) 0 3
  have hge':0+1≤grownCap w (0+1) 0 (Tryz.insA_ren.t 3):=hge
  have hle:=grownCap_le_maxLen w (0+1) 0 3 (by unfold maxLen;omega)
  refine⟨_,rfl,?_,((Below.refl base w).drew).alloc hbase _⟩
  refine AF5 (AM4 _ _ _ (by rw[Array.size_append,hz,List.size_toArray];exact Nat.add_sub_cancel' hge')) hbase rfl hge hle (fun j hj=>?_) trivial
  obtain rfl:j=0:=by simpa using hj
  rw[Array.getElem?_append_left (by simp)]
  rfl
 ·injection he with q1 q2 q3
  subst q3
  rw[q1]
  have hcur:∀j,(hj:j<l.length)→cur[j]? =some (.int .i64 l[j]):=fun j hj=>by
   have:=congrArg (fun z=>z[j]?) h5
   rw[Nat.mul_one,List.getElem?_take,if_pos hj,Array.getElem?_toList]at this
   rw[this]
   simp[hj]
  have hcurD:∀j,j<l.length→cur[j]?.getD default=.int .i64 (l.getD j 0):=fun j hj=>by
   rw[hcur j hj,List.getD_eq_getElem?_getD,List.getElem?_eq_getElem hj]
   rfl
  have hrow:w.rowIs g 3 c (fun j=>cur[j]?.getD default):=⟨cur,h1,by omega,fun i hi=>by show cur[i]? =some (cur[i]?.getD default);rw[Array.getElem?_eq_getElem (by omega)];rfl⟩
  have hcell:∀j,j<c→w.cell? ⟨g,j,none⟩=cur[j]?:=fun j _=>by simp[World.cell?,h1]
  have hfz:∀j,w.frozen? ⟨g,j,none⟩=false:=fun j=>by simp[World.frozen?,h1]
  have hvg:vg≠g:=hne _ _ q1 rfl
  have hcs:∀j v,(l.map (Value.int .i64))[j]? =some v→w.cell? ⟨g,0+j,none⟩=some v:=fun j v hj=>by
   rw[List.getElem?_map]at hj
   obtain⟨y,hy,rfl⟩:=Option.map_eq_some_iff.mp hj
   obtain⟨hl,rfl⟩:=List.getElem?_eq_some_iff.mp hy
   rw[Nat.zero_add,hcell j (by omega),hcur j hl]
  have hml:(l.map (Value.int .i64)).length=l.length:=by simp
  by_cases c1:i<l.length
  ·by_cases c2:l.length+1≤c
   ·refine(Any2.slices_Insert_int_shift Tryz.insA g 0 l.length c i vg 0 1 vc (l.map (Value.int .i64)) [Value.int .i64 x] w c1 (by omega) c2 (by unfold maxLen at h3;omega) hvg hml rfl hcs
     (fun j hj=>by rw[Nat.zero_add,hcell j (by omega),Array.getElem?_eq_getElem (by omega)];rfl) (fun j _=>hfz _) hvv h1c h1v 3 3 vcur.size cur.size (by simp[World.shape?,hvb]) (by simp[World.shape?,h1]) (by omega) (by simp[World.frozen?,hvb]) (by simp[World.frozen?,hvb])).mono ?_
    rintro e w' ⟨rfl,rfl⟩
    have r1:=rowIs_setCells ((l.map (Value.int .i64)).drop i) (0+ (i+1)) w.drew _ hrow
    have r2:=rowIs_setCells [Value.int .i64 x] (0+i) _ _ r1
    refine⟨_,rfl,AF5 r2 hbg hlen c2 h3 (fun j hj=>?_) trivial,below_setCells hbg _ _ _ (below_setCells hbg _ _ _ (Below.refl base w).drew)⟩
    rw[Nat.zero_add,Nat.zero_add]
    exact Aa4 l i (i+1) x hi rfl (fun j hj=>hcurD j (by omega)) j hj
   ·refine(Any2.slices_Insert_int_grow Tryz.insA g 0 l.length c i vg 0 1 vc (l.map (Value.int .i64)) [Value.int .i64 x] w c1 (by omega) h2 (by omega) (by omega) hml rfl hcs hvv h1c h1v).mono ?_
    rintro e w' ⟨rfl,rfl⟩
    have hge:=grownCap_ge w (l.length+1) c 3
    have hle:=grownCap_le_maxLen w (l.length+1) c 3 (by unfold maxLen;omega)
    have r0:=AM4 (w:=w) (((l.map (Value.int .i64)).take i).toArray++Builtin.zeroCells (Value.int .i64 0).cells (l.length+1 - i)++Builtin.zeroCells (Value.int .i64 0).cells (grownCap w (l.length+1) c 3 - (l.length+1))) 3 (grownCap w (l.length+1) c 3)
     (BJ0 _ _ _ i _ _ (by simp;omega) (hz _) (hz _) _ (by omega))
    have r1:=rowIs_setCells [Value.int .i64 x] i _ _ r0.drew
    have r2:=rowIs_setCells ((l.map (Value.int .i64)).drop i) (i+1) _ _ r1.drew
    refine⟨_,rfl,AF5 r2 hbase hlen hge hle (fun j hj=>?_) trivial,below_setCells hbase _ _ _ ((below_setCells hbase _ _ _ (((Below.refl base w).alloc hbase _).drew)).drew)⟩
    rw[←Aa4 l i (i+1) x hi rfl (cur:=fun j=>(((l.map (Value.int .i64)).take i).toArray++Builtin.zeroCells (Value.int .i64 0).cells (l.length+1 - i)++Builtin.zeroCells (Value.int .i64 0).cells (grownCap w (l.length+1) c 3 - (l.length+1)))[j]?.getD default) (fun j hj=>?_) j hj]
    ·have hdl:((l.map (Value.int .i64)).drop i).length=l.length - i:=by simp
     by_cases d1:i+1≤j
     ·have e1:¬(i≤j∧j<i+ [Value.int IntKind.i64 x].length):=by rw[List.length_singleton];omega
      simp only[if_neg e1]
     ·have e2:¬(i+1≤j∧j<i+1+ ((l.map (Value.int .i64)).drop i).length):=by omega
      simp only[if_neg e2]
    ·have hs:((l.map (Value.int .i64)).take i).toArray.size=i:=by simp;omega
     rw[Array.append_assoc,Array.getElem?_append_left (by omega),List.getElem?_toArray,List.getElem?_take,if_pos hj,List.getElem?_map,List.getElem?_eq_getElem (by omega),List.getD_eq_getElem?_getD,List.getElem?_eq_getElem (by omega)]
     rfl
  ·obtain rfl:i=l.length:=by omega
   by_cases c2:l.length+1≤c
   ·refine(Any2.slices_Insert_int_end_room Tryz.insA g 0 l.length c vg 0 1 vc [Value.int .i64 x] w (by omega) c2 (by unfold maxLen at h3;omega) rfl
     (fun j hj=>by rw[hcell _ (by omega),Array.getElem?_eq_getElem (by omega)];rfl) (fun j _=>hfz _) hvv h1v).mono ?_
    rintro e w' ⟨rfl,rfl⟩
    have r2:=rowIs_setCells [Value.int .i64 x] (0+l.length) _ _ hrow
    refine⟨_,rfl,AF5 r2 hbg hlen c2 h3 (fun j hj=>?_) trivial,below_setCells hbg _ _ _ (Below.refl _ _)⟩
    rw[←Aa4 l l.length (l.length+1) x hi rfl (cur:=fun j=>cur[j]?.getD default) (fun j hj=>hcurD j (by omega)) j hj]
    rw[Nat.zero_add,hlen]at *
    rw[List.length_singleton]
    split
    ·rfl
    ·rw[if_neg (by omega)]
   ·refine(Any2.slices_Insert_int_end_grow Tryz.insA (some ⟨g,0,none⟩) l.length c vg 0 1 vc (l.map (Value.int .i64)) [Value.int .i64 x] w (by omega) h2 (by omega) (by omega) hml rfl (fun h=>by cases h) (fun a ha j v hj=>by cases ha;rw[Addr.add_lit];exact hcs j v hj) hvv h1v).mono ?_
    rintro e w' ⟨rfl,rfl⟩
    have hge:=grownCap_ge w (l.length+1) c 3
    have hge':l.length+1≤grownCap w (l.length+1) c (Tryz.insA_ren.t 3):=hge
    clear hlen
    have hlen:(l.take l.length++x::l.drop l.length).length=l.length+1:=by simp
    have hle:=grownCap_le_maxLen w (l.length+1) c 3 (by unfold maxLen;omega)
    refine⟨_,rfl,?_,((Below.refl base w).drew).alloc hbase _⟩
    refine AF5 (AM4 _ _ _ (by rw[Array.size_append,hz];simp;omega)) hbase hlen hge hle (fun j hj=>?_) trivial
    have hj':=hj
    rw[hlen]at hj'
    rw[BD1 l l.length x hi j hj,Array.getElem?_append_left (by simp;omega),List.getElem?_toArray]
    by_cases d1:j<l.length
    ·rw[if_pos d1,List.getElem?_append_left (by simp;omega),List.getElem?_map,List.getElem?_eq_getElem d1,List.getD_eq_getElem?_getD,List.getElem?_eq_getElem d1]
     rfl
    ·obtain rfl:j=l.length:=by omega
     rw[if_neg d1,if_pos rfl,List.getElem?_append_right (by simp)]
     simp
end Go.Proofs.YtpiogigidgejpaaGreatDoor.Dels
