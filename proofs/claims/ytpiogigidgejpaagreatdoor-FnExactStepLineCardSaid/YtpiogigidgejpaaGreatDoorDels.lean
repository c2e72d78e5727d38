import Derived.Test.YtpiogigidgejpaaGreatDoorProg
import Derived.Test.YtpiogigidgejpaaGreatDoorZ2
import Derived.Shelf.Slices.Delete
import Derived.Test.YtpiogigidgejpaaGreatDoorY0
namespace Go.Proofs.YtpiogigidgejpaaGreatDoor.Dels
open Go Go.Proofs Go.RowKit Go.Shelf Go.Sort Go.Proofs.YtpiogigidgejpaaGreatDoorW.PrintWords
theorem Af2 {w:World} {g c e base:Nat} {ok:Nat→Prop} {l:List Int} (h:(Kd.int .i64).R e w base ok (.slice (some ⟨g,0,none⟩) l.length c) l):Holds (Value.int .i64) w g 0 l.toArray:=by
 intro j hj
 rw[List.size_toArray]at hj
 have:=Kd.R_celln (enc:=Value.int .i64) (h1:=fun _=>rfl) 0 h (j:Int) (by omega) (by omega)
 rw[Int.toNat_natCast]at this
 rw[Nat.zero_add]
 refine⟨this.1.trans ?_,this.2⟩
 have e1:o9 0 l (j:Int)=l[j]:=by simp[o9,List.getD_eq_getElem?_getD,List.getElem?_eq_getElem hj]
 rw[e1,getElem!_pos l.toArray j (by simpa using hj)]
 simp
theorem put_some {w:World} {g c e base:Nat} {ok:Nat→Prop} {l l':List Int} (h:(Kd.int .i64).R e w base ok (.slice (some ⟨g,0,none⟩) l.length c) l)(hl:l'.length=l.length):∀m,m≤l.length→
  (Kd.int .i64).R e (putRow (Value.int .i64) w g 0 (l'.take m++l.drop m).toArray) base ok (.slice (some ⟨g,0,none⟩) l.length c) (l'.take m++l.drop m)∧(∀B,B≤g→Below B w (putRow (Value.int .i64) w g 0 (l'.take m++l.drop m).toArray))∧∀k,k≠g→(putRow (Value.int .i64) w g 0 (l'.take m++l.drop m).toArray).heap[k]? =w.heap[k]?:=by
 intro m
 induction m with
 |zero =>
  intro _
  simp only[List.take_zero,List.nil_append,List.drop_zero]
  rw[putRow_self _ _ _ _ _ (Af2 h)]
  exact⟨h,fun B _=>Below.refl _ _,fun k _=>rfl⟩
 |succ m ih =>
  intro hm
  obtain⟨h1,h2,h6⟩:=ih (by omega)
  have hlen:(l'.take m++l.drop m).length=l.length:=by rw[List.length_append,List.length_take,List.length_drop];omega
  have hset:(l'.take m++l.drop m).set m (l'[m]'(by omega))=l'.take (m+1)++l.drop (m+1):=by
   rw[List.drop_eq_getElem_cons (show m<l.length by omega),List.set_append_right _ _ (by rw[List.length_take];omega),List.length_take,Nat.min_eq_left (by omega),Nat.sub_self,List.set_cons_zero,List.take_succ_eq_append_getElem (show m<l'.length by omega),List.append_assoc]
   rfl
  have h3:=Kd.R_putg (enc:=Value.int .i64) (h1:=fun _=>rfl) h1 (m:Int) (l'[m]'(by omega))
  have h4:=putRow_set (Value.int .i64) w g 0 (l'.take m++l.drop m).toArray m (l'[m]'(by omega)) (by rw[List.size_toArray,hlen];omega)
  rw[Nat.zero_add]at h4
  rw[Int.toNat_natCast,hset,h4]at h3
  have h5:(l'.take m++l.drop m).toArray.setIfInBounds m (l'[m]'(by omega))=(l'.take (m+1)++l.drop (m+1)).toArray:=by rw[←hset];simp
  rw[h5]at h3 h4
  exact⟨h3.1,fun B hB=>by rw[←h4];exact(h2 B hB).setCell hB _,fun k hk=>by rw[←h4,Below.heap_setCell _ _ _ _ hk];exact h6 k hk⟩
theorem delete_own2 {base:Nat} {ok:Nat→Prop} {A:Option Addr} {c:Nat} {l:List Int} {w:World} (i j:Nat)(h:(Kd.int .i64).R 3 w base ok (.slice A l.length c) l)(hij:i<j)(hj:j≤l.length) :
  Calls Tryz.prog 110 #[.slice A l.length c,.int .i64 i,.int .i64 j] w fun e W'=>∃g,A=some ⟨g,0,none⟩∧base≤g∧e=.returned (.slice A (l.length - (j - i)) c)∧(Kd.int .i64).R 3 W' base ok (.slice A (l.length - (j - i)) c) (l.take i++l.drop j)∧(∀B,B≤g→Below B w W')∧∀k,k≠g→W'.heap[k]? =w.heap[k]?:=by
 obtain⟨g,cap,eq,hb,_,_⟩:=Kd.R_form h (by omega)
 injection eq with e1 e2 e3
 subst e1
 have hc:=(Kd.R_reads' h).2.1
 have hm:c≤9223372036854775807:=by
  obtain⟨inner,ho⟩:=Kd.R_own h
  rcases ho.2 with⟨he,_⟩|⟨g',cap',cur,he,_,_,_,hcap,_⟩
  ·cases he
  ·injection he with _ _ h3
   subst h3
   exact Nat.le_trans hcap (by unfold maxLen;omega)
 refine(Any.slices_Delete_int Tryz.delA g 0 c i j l w (Af2 h) hc hm (by omega) hj).mono ?_
 rintro e w' ⟨rfl,q,rfl⟩
 have hR:(Kd.int .i64).R 3 (Sort.ahead w q) base ok (.slice (some ⟨g,0,none⟩) l.length c) l:=Kd.R_drewN h q
 have hl2:(l.take i++l.drop j++List.replicate (j - i) 0).length=l.length:=by simp;omega
 obtain⟨r1,r2,r3⟩:=put_some hR hl2 l.length (Nat.le_refl _)
 rw[List.take_of_length_le (by omega),List.drop_eq_nil_of_le (Nat.le_refl _),List.append_nil]at r1 r2 r3
 refine⟨g,rfl,hb,rfl,?_,fun B hB=>(J8 (Below.refl _ _) q).trans (r2 B hB),fun k hk=>r3 k hk⟩
 have ht:(l.take i++l.drop j++List.replicate (j - i) 0).take (l.length - (j - i))=l.take i++l.drop j:=by
  rw[List.take_append_of_le_length (by simp;omega),List.take_of_length_le (by simp;omega)]
 have hn:l.length=(l.take i++l.drop j++List.replicate (j - i) 0).length:=hl2.symm
 have:=Kd.R_take (m:=l.length - (j - i)) r1 (by omega)
 rw[ht]at this
 exact this
end Go.Proofs.YtpiogigidgejpaaGreatDoor.Dels
