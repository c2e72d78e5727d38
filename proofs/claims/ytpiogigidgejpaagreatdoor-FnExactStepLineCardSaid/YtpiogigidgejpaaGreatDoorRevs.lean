import Derived.Test.YtpiogigidgejpaaGreatDoorProg
import Derived.Test.YtpiogigidgejpaaGreatDoorZ2
import Derived.Test.YtpiogigidgejpaaGreatDoorDels
import Derived.Shelf.Slices.Reverse
namespace Go.Proofs.YtpiogigidgejpaaGreatDoor.Dels
open Go Go.Proofs Go.RowKit Go.Shelf Go.Sort Go.Proofs.YtpiogigidgejpaaGreatDoorW.PrintWords
theorem Al7 {w:World} {g c e base:Nat} {ok:Nat→Prop} {l:List Int} (h:(Kd.int .i64).R e w base ok (.slice (some ⟨g,0,none⟩) l.length c) l)(i:Nat):Holds (Value.int .i64) w g 0 (l.take i).toArray:=by
 intro j hj
 rw[List.size_toArray,List.length_take]at hj
 have:=Af2 h j (by rw[List.size_toArray];omega)
 rw[getElem!_pos l.toArray j (by simp;omega)]at this
 rw[getElem!_pos (l.take i).toArray j (by simp;omega)]
 simpa using this
theorem BR7 {w:World} {g c e base:Nat} {ok:Nat→Prop} {l l':List Int} (h:(Kd.int .i64).R e w base ok (.slice (some ⟨g,0,none⟩) l.length c) l)(i:Nat)(hi:i≤l.length)(hl:l'.length=l.length):∀m,m≤i→
  (Kd.int .i64).R e (putRow (Value.int .i64) w g 0 (l'.take m++ (l.take i).drop m).toArray) base ok (.slice (some ⟨g,0,none⟩) l.length c) (l'.take m++l.drop m)∧(∀B,B≤g→Below B w (putRow (Value.int .i64) w g 0 (l'.take m++ (l.take i).drop m).toArray))∧∀k,k≠g→(putRow (Value.int .i64) w g 0 (l'.take m++ (l.take i).drop m).toArray).heap[k]? =w.heap[k]?:=by
 intro m
 induction m with
 |zero =>
  intro _
  simp only[List.take_zero,List.nil_append,List.drop_zero]
  rw[putRow_self _ _ _ _ _ (Al7 h i)]
  exact⟨h,fun B _=>Below.refl _ _,fun k _=>rfl⟩
 |succ m ih =>
  intro hm
  obtain⟨h1,h2,h6⟩:=ih (by omega)
  have hset:∀t:List Int,m<t.length→(l'.take m++t.drop m).set m (l'[m]'(by omega))=l'.take (m+1)++t.drop (m+1):=by
   intro t ht
   rw[List.drop_eq_getElem_cons ht,List.set_append_right _ _ (by rw[List.length_take];omega),List.length_take,Nat.min_eq_left (by omega),Nat.sub_self,List.set_cons_zero,List.take_succ_eq_append_getElem (show m<l'.length by omega),List.append_assoc]
   rfl
  have hlen:(l'.take m++l.drop m).length=l.length:=by rw[List.length_append,List.length_take,List.length_drop];omega
  have h3:=Kd.R_putg (enc:=Value.int .i64) (h1:=fun _=>rfl) h1 (m:Int) (l'[m]'(by omega))
  have h4:=putRow_set (Value.int .i64) w g 0 (l'.take m++ (l.take i).drop m).toArray m (l'[m]'(by omega)) (by rw[List.size_toArray,List.length_append,List.length_take,List.length_drop,List.length_take];omega)
  rw[Nat.zero_add]at h4
  rw[Int.toNat_natCast,hset l (by omega),h4]at h3
  have h5:(l'.take m++ (l.take i).drop m).toArray.setIfInBounds m (l'[m]'(by omega))=(l'.take (m+1)++ (l.take i).drop (m+1)).toArray:=by rw[←hset (l.take i) (by rw[List.length_take];omega)];simp
  rw[h5]at h3 h4
  exact⟨h3.1,fun B hB=>by rw[←h4];exact(h2 B hB).setCell hB _,fun k hk=>by rw[←h4,Below.heap_setCell _ _ _ _ hk];exact h6 k hk⟩
theorem reverse_own {base:Nat} {ok:Nat→Prop} {A:Option Addr} {c:Nat} {l:List Int} {w:World} (i:Nat)(h:(Kd.int .i64).R 3 w base ok (.slice A l.length c) l)(hp:1≤i)(hi:i≤l.length) :
  Calls Tryz.prog 190 #[.slice A i c] w fun e W'=>∃g,A=some ⟨g,0,none⟩∧base≤g∧e=.returned (.tuple #[])∧(Kd.int .i64).R 3 W' base ok (.slice A l.length c) ((l.take i).reverse++l.drop i)∧(∀B,B≤g→Below B w W')∧∀k,k≠g→W'.heap[k]? =w.heap[k]?:=by
 obtain⟨g,cap,eq,hb,_,_⟩:=Kd.R_form h (by omega)
 injection eq with e1 e2 e3
 subst e1
 have hm:l.length≤9223372036854775807:=by
  obtain⟨inner,ho⟩:=Kd.R_own h
  have hc:=(Kd.R_reads' h).2.1
  rcases ho.2 with⟨he,_⟩|⟨g',cap',cur,he,_,_,_,hcap,_⟩
  ·cases he
  ·injection he with _ _ h3
   subst h3
   exact Nat.le_trans hc (Nat.le_trans hcap (by unfold maxLen;omega))
 have hlt:(l.take i).length=i:=by rw[List.length_take];omega
 have hcall:=Any.slices_Reverse_int Tryz.revA g 0 c (l.take i) w (Al7 h i) (by omega)
 rw[hlt]at hcall
 refine hcall.mono ?_
 rintro e w' ⟨rfl,q,rfl⟩
 have hR:(Kd.int .i64).R 3 (Sort.ahead w q) base ok (.slice (some ⟨g,0,none⟩) l.length c) l:=Kd.R_drewN h q
 obtain⟨r1,r2,r3⟩:=BR7 (l':=(l.take i).reverse++l.drop i) hR i hi (by simp;omega) i (Nat.le_refl _)
 have ht:((l.take i).reverse++l.drop i).take i=(l.take i).reverse:=by rw[List.take_append_of_le_length (by simp;omega),List.take_of_length_le (by simp;omega)]
 rw[ht,List.drop_eq_nil_of_le (by omega),List.append_nil]at r1 r2 r3
 exact⟨g,rfl,hb,rfl,r1,fun B hB=>(J8 (Below.refl _ _) q).trans (r2 B hB),fun k hk=>r3 k hk⟩
end Go.Proofs.YtpiogigidgejpaaGreatDoor.Dels
