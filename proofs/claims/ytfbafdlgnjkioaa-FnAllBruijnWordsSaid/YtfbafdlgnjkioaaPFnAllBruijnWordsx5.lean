-- Written for this claim by a copy of the print that meets some functions by contracts of this session.
import Derived.Test.YtfbafdlgnjkioaaPFnAllBruijnWordsx0
import Derived.Test.YtfbafdlgnjkioaaPFnAllBruijnWordsx3
import Derived.Test.YtfbafdlgnjkioaaPFnAllBruijnWordsx4
namespace Go.Proofs.Ytfbafdlgnjkioaa.PFnAllBruijnWords
open Go.RowKit Go.Proofs.YtfbafdlgnjkioaaW.PrintWords Go.Proofs.YtfbafdlgnjkioaaW.PrintLast Go.Proofs.YtfbafdlgnjkioaaW.PrintMore
attribute [local go_sem] max2_int min2_int max_two min_two max_three min_three max_four min_four   -- for this text's walks alone
set_option linter.unusedVariables false
set_option linter.unusedSimpArgs false

/-! ### impl_AllBruijn: function 52 (a contract of this session's own) -/
def impl_AllBruijn.next (kk size code x : Int) : Int := Int.tmod (wrap64 (wrap64 (code * kk) + x)) size
mutual
def impl_AllBruijn.ext : Nat → Int → Int → Int → Int → List Int → List (List Int) → Nat → Option (List (List Int))
  | 0, _, _, _, _, _, _, _ => none
  | q + 1, sz, n, kk, code, xs, ys, m => if (xs.length : Int) = sz then ((impl_isBruijn.f q xs n kk).bind fun b => (if b = true then ((impl_copied.f xs).bind fun c => (if ys.length < 5864062014805 then some (ys ++ [c]) else none)) else some ys)) else impl_AllBruijn.lp q sz n kk code xs ys m 0
def impl_AllBruijn.lp : Nat → Int → Int → Int → Int → List Int → List (List Int) → Nat → Int → Option (List (List Int))
  | 0, _, _, _, _, _, _, _, _ => none
  | q + 1, sz, n, kk, code, xs, ys, m, x => if x < kk then (if sz = 0 then none else (if 0 ≤ impl_AllBruijn.next kk sz code x then (if m.testBit (impl_AllBruijn.next kk sz code x).toNat = true then impl_AllBruijn.lp q sz n kk code xs ys m (wrap64 (x + 1)) else (if xs.length < 17592186044416 then ((impl_AllBruijn.ext q sz n kk (impl_AllBruijn.next kk sz code x) (xs ++ [x]) ys (m ||| (1 <<< (impl_AllBruijn.next kk sz code x).toNat))).bind fun ys' => impl_AllBruijn.lp q sz n kk code xs ys' m (wrap64 (x + 1))) else none)) else none)) else some ys
end
theorem impl_AllBruijn.mono_e : ∀ q, (∀ y0 y1 y2 y3 y4 y5 y6, LeO (impl_AllBruijn.ext q y0 y1 y2 y3 y4 y5 y6) (impl_AllBruijn.ext (q + 1) y0 y1 y2 y3 y4 y5 y6)) ∧ (∀ y0 y1 y2 y3 y4 y5 y6 y7, LeO (impl_AllBruijn.lp q y0 y1 y2 y3 y4 y5 y6 y7) (impl_AllBruijn.lp (q + 1) y0 y1 y2 y3 y4 y5 y6 y7))
  | 0 => ⟨fun _ _ _ _ _ _ _ r h => by simp [impl_AllBruijn.ext] at h, fun _ _ _ _ _ _ _ _ r h => by simp [impl_AllBruijn.lp] at h⟩
  | q + 1 => by
    obtain ⟨ih0, ih1⟩ := impl_AllBruijn.mono_e q
    refine ⟨?_, ?_⟩
    · intro y0 y1 y2 y3 y4 y5 y6
      unfold impl_AllBruijn.ext
      exact LeO.ite (LeO.bind (impl_isBruijn.mono _ _ _ _) (fun _ => LeO.ite (LeO.refl _) (LeO.refl _))) (ih1 _ _ _ _ _ _ _ _)
    · intro y0 y1 y2 y3 y4 y5 y6 y7
      unfold impl_AllBruijn.lp
      exact LeO.ite (LeO.ite (LeO.refl _) (LeO.ite (LeO.ite (ih1 _ _ _ _ _ _ _ _) (LeO.ite (LeO.bind (ih0 _ _ _ _ _ _ _) (fun _ => ih1 _ _ _ _ _ _ _ _)) (LeO.refl _))) (LeO.refl _))) (LeO.refl _)
def impl_AllBruijn.f (k : Nat) (a0 a1 : Int) : Option (List (List Int) × Bool) := (impl_isBruijnSize.f k a0 a1).bind fun b => (if b = true then ((impl_countBruijn.f k a0 a1).bind fun c => ((impl_within.f c 0 40).bind fun d => (if d = true then ((impl_power.f k a1 a0).bind fun sz => (if 0 < a0 then (if a0.toNat ≤ 35184372088832 then ((impl_AllBruijn.ext k sz a0 a1 0 (List.replicate a0.toNat 0) [] 1).bind fun ys => some (ys, true)) else none) else none)) else some (([] : List (List Int)), false)))) else some (([] : List (List Int)), false))
theorem impl_AllBruijn.mono : ∀ a0 a1 k, LeO (impl_AllBruijn.f k a0 a1) (impl_AllBruijn.f (k + 1) a0 a1) := fun a0 a1 k =>
  LeO.bind (impl_isBruijnSize.mono _ _ _) (fun _ => LeO.ite (LeO.bind (impl_countBruijn.mono _ _ _) (fun _ => LeO.bind (LeO.refl _) (fun _ => LeO.ite (LeO.bind (impl_power.mono _ _ _) (fun _ => LeO.ite (LeO.ite (LeO.bind ((impl_AllBruijn.mono_e k).1 _ _ _ _ _ _ _) (fun _ => LeO.refl _)) (LeO.refl _)) (LeO.refl _))) (LeO.refl _)))) (LeO.refl _))
theorem impl_AllBruijn.infoS : (Try.prog.info? 44).map (fun i => (i.zero, i.size, i.bytes)) = some (some (.slice none 0 0), 1, 24) := by kernel_rfl
/-! The state: the boxes of what the function shares with itself, and what lies behind them. -/
structure impl_AllBruijn.Bx where
  (w sz n k o m x b : Nat)
  (S N K : Int)
def impl_AllBruijn.okB (B : impl_AllBruijn.Bx) (i : Nat) : Prop := (i ≠ B.w ∧ i ≠ B.sz ∧ i ≠ B.n ∧ i ≠ B.k) ∧ (i ≠ B.o ∧ i ≠ B.m ∧ i ≠ B.x ∧ i ≠ B.b)
def impl_AllBruijn.Dis (n0 : Nat) (B : impl_AllBruijn.Bx) : Prop := (B.w ≠ B.sz ∧ B.w ≠ B.n ∧ B.w ≠ B.k ∧ B.w ≠ B.o ∧ B.w ≠ B.m ∧ B.w ≠ B.x ∧ B.w ≠ B.b) ∧ (B.o ≠ B.sz ∧ B.o ≠ B.n ∧ B.o ≠ B.k ∧ B.o ≠ B.m ∧ B.o ≠ B.x ∧ B.o ≠ B.b) ∧ (B.b ≠ B.sz ∧ B.b ≠ B.n ∧ B.b ≠ B.k ∧ B.b ≠ B.m ∧ B.b ≠ B.x) ∧ (n0 ≤ B.w ∧ n0 ≤ B.o ∧ n0 ≤ B.b)
def impl_AllBruijn.fnV (B : impl_AllBruijn.Bx) : Value := .func (.func 125) #[] #[.pointer (some ⟨B.w, 0, none⟩), .pointer (some ⟨B.sz, 0, none⟩), .pointer (some ⟨B.n, 0, none⟩), .pointer (some ⟨B.k, 0, none⟩), .pointer (some ⟨B.o, 0, none⟩), .pointer (some ⟨B.m, 0, none⟩), .pointer (some ⟨B.x, 0, none⟩)]
open Go.Proofs.Ytfbafdlgnjkioaa.MapSets in
/-- The map: what is in it, as the bits of m; at most c things. -/
def impl_AllBruijn.BS (W : World) (b c m : Nat) : Prop := ∃ (S : Lit → Bool) (z : Nat), KSet Try.prog 3 4 W b z S z ∧ z ≤ c ∧ ∀ d : Int, S (.int .i64 d) = (decide (0 ≤ d) && m.testBit d.toNat)
def impl_AllBruijn.Boxes (W : World) (B : impl_AllBruijn.Bx) (vw vo : Value) : Prop :=
  W.heap[B.w]? = some (.cells #[vw] 44 (0, 0)) ∧ W.heap[B.o]? = some (.cells #[vo] 22 (0, 0)) ∧ W.heap[B.sz]? = some (.cells #[.int .i64 B.S] 3 (0, 0)) ∧ W.heap[B.n]? = some (.cells #[.int .i64 B.N] 3 (0, 0)) ∧ W.heap[B.k]? = some (.cells #[.int .i64 B.K] 3 (0, 0)) ∧ W.heap[B.m]? = some (.cells #[.map (some B.b)] 107 (0, 0)) ∧ W.heap[B.x]? = some (.cells #[impl_AllBruijn.fnV B] 108 (0, 0))
def impl_AllBruijn.St (w0 W : World) (B : impl_AllBruijn.Bx) (vw vo : Value) (xs : List Int) (ys : List (List Int)) (c m : Nat) : Prop :=
  impl_AllBruijn.Boxes W B vw vo ∧ Kd.R (Kd.int .i64) 3 W w0.heap.size (impl_AllBruijn.okB B) vw xs ∧ Kd.S (Kd.slice 3 (Kd.int .i64)) 44 W w0.heap.size (fun k_ => impl_AllBruijn.okB B k_ ∧ some k_ ≠ vw.ownBlock) vo ys ∧ impl_AllBruijn.BS W B.b c m
section
open Go.Proofs.Ytfbafdlgnjkioaa.MapSets Go.Maps
variable {w0 W W1 : World} {B : impl_AllBruijn.Bx} {vw vo v1 : Value} {xs zs : List Int} {ys : List (List Int)} {c m b : Nat}
theorem impl_AllBruijn.BS.same (h : impl_AllBruijn.BS W b c m) (e : W1.heap[b]? = W.heap[b]?) : impl_AllBruijn.BS W1 b c m := by
  obtain ⟨S, z, ⟨D, ⟨es, clock, h0, r⟩, h2⟩, h3⟩ := h
  exact ⟨S, z, ⟨D, ⟨es, clock, e.trans h0, r⟩, h2⟩, h3⟩
theorem impl_AllBruijn.BS.lt (h : impl_AllBruijn.BS W b c m) : b < W.heap.size := by obtain ⟨S, z, h, _⟩ := h; exact h.lt
theorem impl_AllBruijn.KSet.tight {S : Lit → Bool} {n z : Nat} (h : KSet Try.prog 3 4 W b n S z) : KSet Try.prog 3 4 W b z S z := by
  obtain ⟨D, h1, h2, h3, h4⟩ := h
  refine ⟨D, ?_, h2, h3, h4⟩
  subst h4
  obtain ⟨es, clock, hb, F, hs, rfl⟩ := h1
  exact ⟨es, clock, hb, F, by simp [Maps.size, length_sorted], rfl⟩
theorem impl_AllBruijn.Boxes.kept {row : Option Nat} (h : impl_AllBruijn.Boxes W B vw vo) (hg : W.grownBy W1 row) (hn : ∀ i, some i = row → i ≠ B.w ∧ i ≠ B.o ∧ i ≠ B.sz ∧ i ≠ B.n ∧ i ≠ B.k ∧ i ≠ B.m ∧ i ≠ B.x) : impl_AllBruijn.Boxes W1 B vw vo := by
  obtain ⟨h1, h2, h3, h4, h5, h6, h7⟩ := h
  exact ⟨blk_grown h1 hg (fun e => (hn _ e).1 rfl), blk_grown h2 hg (fun e => (hn _ e).2.1 rfl), blk_grown h3 hg (fun e => (hn _ e).2.2.1 rfl), blk_grown h4 hg (fun e => (hn _ e).2.2.2.1 rfl), blk_grown h5 hg (fun e => (hn _ e).2.2.2.2.1 rfl), blk_grown h6 hg (fun e => (hn _ e).2.2.2.2.2.1 rfl), blk_grown h7 hg (fun e => (hn _ e).2.2.2.2.2.2 rfl)⟩
theorem impl_AllBruijn.Boxes.below (h : impl_AllBruijn.Boxes W B vw vo) (hb : Below W.heap.size W W1) : impl_AllBruijn.Boxes W1 B vw vo := by
  obtain ⟨h1, h2, h3, h4, h5, h6, h7⟩ := h
  exact ⟨blk_below h1 hb, blk_below h2 hb, blk_below h3 hb, blk_below h4 hb, blk_below h5 hb, blk_below h6 hb, blk_below h7 hb⟩
theorem impl_AllBruijn.St.below (h : impl_AllBruijn.St w0 W B vw vo xs ys c m) (hb : Below W.heap.size W W1) : impl_AllBruijn.St w0 W1 B vw vo xs ys c m := by
  obtain ⟨h1, h2, h3, h4⟩ := h
  exact ⟨h1.below hb, Kd.R_below h2 hb, Kd.S_below h3 hb, h4.same (hb.block _ h4.lt)⟩
/-- The map was written. -/
theorem impl_AllBruijn.St.mapped {c' m' : Nat} (h : impl_AllBruijn.St w0 W B vw vo xs ys c m) (hD : impl_AllBruijn.Dis w0.heap.size B) (hg : W.grownBy W1 (some B.b)) (hs : impl_AllBruijn.BS W1 B.b c' m') : impl_AllBruijn.St w0 W1 B vw vo xs ys c' m' := by
  obtain ⟨h1, h2, h3, _⟩ := h
  obtain ⟨d1, d2, d3, _⟩ := hD
  refine ⟨h1.kept hg (fun i hi => ?_), Kd.R_grown h2 hg (fun k hk e => ?_), Kd.S_grown h3 hg (fun k hk e => ?_), hs⟩
  · injection hi with hi
    subst hi
    exact ⟨fun e => d1.2.2.2.2.2.2 e.symm, fun e => d2.2.2.2.2.2 e.symm, d3.1, d3.2.1, d3.2.2.1, d3.2.2.2.1, d3.2.2.2.2⟩
  · injection e with e; exact hk.2.2.2.2 e
  · injection e with e; exact hk.1.2.2.2.2 e
/-- The word's row was put into, and the box holds the new one. -/
theorem impl_AllBruijn.St.put (h : impl_AllBruijn.St w0 W B vw vo xs ys c m) (hD : impl_AllBruijn.Dis w0.heap.size B) (hg : W.grownBy W1 vw.ownBlock) (hat : v1.ownBlock = vw.ownBlock ∨ ∃ q, v1.ownBlock = some q ∧ W.heap.size ≤ q) (ho : Kd.R (Kd.int .i64) 3 W1 w0.heap.size (impl_AllBruijn.okB B) v1 zs) : impl_AllBruijn.St w0 (W1.setCell ⟨B.w, 0, none⟩ v1) B v1 vo zs ys c m := by
  obtain ⟨h1, h2, h3, h4⟩ := h
  obtain ⟨d1, d2, d3, _⟩ := hD
  have hne : ∀ i, some i = vw.ownBlock → impl_AllBruijn.okB B i := fun i e => h2.1 i e.symm
  obtain ⟨g1, g2, g3, g4, g5, g6, g7⟩ := h1.kept hg (fun i e => by
    obtain ⟨⟨a1, a2, a3, a4⟩, a5, a6, a7, a8⟩ := hne i e
    exact ⟨a1, a5, a2, a3, a4, a6, a7⟩)
  refine ⟨⟨blk_put (cs := #[vw]) g1 0 _ rfl, blk_far g2 (fun e => d1.2.2.2.1 e.symm) _, blk_far g3 (fun e => d1.1 e.symm) _, blk_far g4 (fun e => d1.2.1 e.symm) _, blk_far g5 (fun e => d1.2.2.1 e.symm) _, blk_far g6 (fun e => d1.2.2.2.2.1 e.symm) _, blk_far g7 (fun e => d1.2.2.2.2.2.1 e.symm) _⟩, Kd.R_far ho (fun k hk => hk.1.1) _, Kd.S_far (Kd.S_after h3 hg hat) (fun k hk => hk.1.1.1) _, h4.same ?_⟩
  exact (Below.heap_setCell W1 ⟨B.w, 0, none⟩ v1 B.b (fun e => d1.2.2.2.2.2.2 e.symm)).trans (hg.block B.b h4.lt (fun e => (hne _ e).2.2.2.2 rfl))
theorem impl_AllBruijn.below_put (hB : Below w0.heap.size w0 W) (h : impl_AllBruijn.St w0 W B vw vo xs ys c m) (hD : impl_AllBruijn.Dis w0.heap.size B) (hb : Below w0.heap.size w0 W1) (v : Value) : Below w0.heap.size w0 (W1.setCell ⟨B.w, 0, none⟩ v) := below_set hb hD.2.2.2.1
/-- The word is cut by one letter, and the box holds what is left. -/
theorem impl_AllBruijn.St.cut {A : Option Addr} {n cap : Nat} {x : Int} (h : impl_AllBruijn.St w0 W B (.slice A n cap) vo (xs ++ [x]) ys c m) (hD : impl_AllBruijn.Dis w0.heap.size B) : impl_AllBruijn.St w0 (W.setCell ⟨B.w, 0, none⟩ (.slice A xs.length cap)) B (.slice A xs.length cap) vo xs ys c m := by
  have h2 := h.2.1
  have h3 := Kd.R_take h2 (m := xs.length) (by simp)
  rw [List.take_left] at h3
  refine impl_AllBruijn.St.put h hD (World.grownBy.refl _ _) (.inl (by cases A <;> rfl)) h3
theorem impl_AllBruijn.BS.add (h : impl_AllBruijn.BS W B.b c m) {d : Int} (hd : 0 ≤ d) (hm : m.testBit d.toNat = false) {S : Lit → Bool} {z : Nat} (hs : KSet Try.prog 3 4 W1 B.b (z + 1) (addS S (.int .i64 d)) (if S (.int .i64 d) then z else z + 1)) (hz : z ≤ c) (hS : ∀ d : Int, S (.int .i64 d) = (decide (0 ≤ d) && m.testBit d.toNat)) : impl_AllBruijn.BS W1 B.b (c + 1) (m ||| (1 <<< d.toNat)) := by
  have e : S (.int .i64 d) = false := by rw [hS d, hm, Bool.and_false]
  rw [e, if_neg (by decide)] at hs
  exact ⟨_, z + 1, hs, by omega, bset_add hS hd⟩
open Classical in
theorem impl_AllBruijn.BS.del {d : Int} (hd : 0 ≤ d) (hm : m.testBit d.toNat = false) {D : DataW Unit} {S : Lit → Bool} {z : Nat} (h2 : ∀ kl, D.atKey kl (.lit (.bool false)) = .lit (.bool (S kl))) (h3 : ∀ kl, has D kl = S kl) (h4 : Maps.size D = z) (hT : Tidy D) (hS : ∀ e : Int, S (.int .i64 e) = (decide (0 ≤ e) && (m ||| (1 <<< d.toNat)).testBit e.toNat)) (hz : z ≤ c + 1) {n : Nat} (h1 : W1.ownsMap Try.prog 3 (plainElem Try.prog 4) b n (D.del (.int .i64 d))) : impl_AllBruijn.BS W1 b c m := by
  have hin : S (.int .i64 d) = true := by
    rw [hS d, Nat.testBit_or, Nat.testBit_shiftLeft]
    simp [hd]
  have hsz : Maps.size (D.del (.int .i64 d)) + 1 = z := by
    have := size_del hT (k := .int .i64 d)
    rw [h3, hin, if_pos rfl, h4] at this
    exact this
  have hK : KSet Try.prog 3 4 W1 b n (fun l => if l = .int .i64 d then false else S l) (Maps.size (D.del (.int .i64 d))) := by
    refine ⟨D.del (.int .i64 d), h1, fun l => ?_, fun l => ?_, rfl⟩
    · by_cases hl : l = .int .i64 d
      · subst hl; rw [atKey_del_same]; simp
      · rw [atKey_del_other hl, h2 l]; simp [hl]
    · by_cases hl : l = .int .i64 d
      · subst hl; rw [has_del_same]; simp
      · rw [has_del_other hl, h3 l]; simp [hl]
  refine ⟨_, _, impl_AllBruijn.KSet.tight hK, by omega, fun e => ?_⟩
  show (if Lit.int .i64 e = Lit.int .i64 d then false else S (.int .i64 e)) = _
  by_cases he : e = d
  · subst he
    rw [if_pos rfl, hm, Bool.and_false]
  · rw [if_neg (by simpa using he), hS e]
    by_cases h0 : 0 ≤ e
    · have h1 : (m ||| (1 <<< d.toNat)).testBit e.toNat = m.testBit e.toNat := by
        rw [Nat.testBit_or, Nat.one_shiftLeft, Nat.testBit_two_pow, decide_eq_false (by omega), Bool.or_false]
      rw [h1]
    · rw [decide_eq_false h0, Bool.false_and, Bool.false_and]
end
section
variable {w0 W W1 : World} {B : impl_AllBruijn.Bx} {vw vo : Value} {xs : List Int} {ys : List (List Int)} {c m : Nat}
theorem impl_AllBruijn.St.fresh (h : impl_AllBruijn.St w0 W B vw vo xs ys c m) : ∀ k, W.heap.size ≤ k → impl_AllBruijn.okB B k := by
  obtain ⟨⟨h1, h2, h3, h4, h5, h6, h7⟩, _, _, h8⟩ := h
  have b1 := blk_lt h1
  have b2 := blk_lt h2
  have b3 := blk_lt h3
  have b4 := blk_lt h4
  have b5 := blk_lt h5
  have b6 := blk_lt h6
  have b7 := blk_lt h7
  have b8 := h8.lt
  intro k hk
  exact ⟨⟨by omega, by omega, by omega, by omega⟩, by omega, by omega, by omega, by omega⟩
theorem impl_AllBruijn.Boxes.cells (h : impl_AllBruijn.Boxes W B vw vo) : W.cell? ⟨B.w, 0, none⟩ = some vw ∧ W.frozen? ⟨B.w, 0, none⟩ = false ∧ W.cell? ⟨B.o, 0, none⟩ = some vo ∧ W.frozen? ⟨B.o, 0, none⟩ = false ∧ W.cell? ⟨B.sz, 0, none⟩ = some (.int .i64 B.S) ∧ W.cell? ⟨B.n, 0, none⟩ = some (.int .i64 B.N) ∧ W.cell? ⟨B.k, 0, none⟩ = some (.int .i64 B.K) ∧ W.cell? ⟨B.m, 0, none⟩ = some (.map (some B.b)) ∧ W.cell? ⟨B.x, 0, none⟩ = some (impl_AllBruijn.fnV B) := by
  obtain ⟨h1, h2, h3, h4, h5, h6, h7⟩ := h
  exact ⟨(blk_cell h1 0).trans rfl, blk_frozen h1 0, (blk_cell h2 0).trans rfl, blk_frozen h2 0, (blk_cell h3 0).trans rfl, (blk_cell h4 0).trans rfl, (blk_cell h5 0).trans rfl, (blk_cell h6 0).trans rfl, (blk_cell h7 0).trans rfl⟩
theorem impl_AllBruijn.St.grow (h : impl_AllBruijn.St w0 W B vw vo xs ys c m) (hg : W.grownBy W1 vw.ownBlock) : impl_AllBruijn.Boxes W1 B vw vo :=
  h.1.kept hg (fun i e => by
    obtain ⟨⟨a1, a2, a3, a4⟩, a5, a6, a7, a8⟩ := h.2.1.1 i e.symm
    exact ⟨a1, a5, a2, a3, a4, a6, a7⟩)
theorem impl_AllBruijn.St.copied {W2 : World} {v3 : Value} {zs : List Int} (h : impl_AllBruijn.St w0 W B vw vo xs ys c m) (hb : Below W.heap.size W W2) (hv : Kd.R (Kd.int .i64) 3 W2 W.heap.size (fun _ => True) v3 zs) : (∀ k, some k = v3.ownBlock → (impl_AllBruijn.okB B k ∧ some k ≠ vw.ownBlock) ∧ some k ≠ vo.ownBlock) ∧ Kd.S (Kd.slice 3 (Kd.int .i64)) 44 W2 w0.heap.size (fun k_ => (impl_AllBruijn.okB B k_ ∧ some k_ ≠ vw.ownBlock) ∧ ¬ (some k_ = v3.ownBlock)) vo ys ∧ (∀ k, W2.heap.size ≤ k → impl_AllBruijn.okB B k ∧ some k ≠ vw.ownBlock) := by
  have h1 := Kd.R_lt h.2.1
  have h2 := Kd.S_lt h.2.2.1
  have h3 := Kd.R_base hv
  have hs := hb.size
  refine ⟨fun k hk => ?_, Kd.S_mono (Kd.S_old h.2.2.1 hb) (fun k hk => ⟨hk.1, fun e => ?_⟩), fun k hk => ⟨h.fresh k (by omega), fun e => ?_⟩⟩
  · have := h3 k hk.symm
    exact ⟨⟨h.fresh k this, fun e => by have := h1 k e.symm; omega⟩, fun e => by have := h2 k e.symm; omega⟩
  · have := h3 k e.symm
    have := hk.2
    omega
  · have := h1 k e.symm
    omega
theorem impl_AllBruijn.St.pushed {v4 : Value} {zs : List (List Int)} (h : impl_AllBruijn.St w0 W B vw vo xs ys c m) (hD : impl_AllBruijn.Dis w0.heap.size B) (hg : W.grownBy W1 vo.ownBlock) (ho : Kd.S (Kd.slice 3 (Kd.int .i64)) 44 W1 w0.heap.size (fun k_ => impl_AllBruijn.okB B k_ ∧ some k_ ≠ vw.ownBlock) v4 zs) : impl_AllBruijn.St w0 (W1.setCell ⟨B.o, 0, none⟩ v4) B vw v4 xs zs c m := by
  obtain ⟨h1, h2, h3, h4⟩ := h
  obtain ⟨d1, d2, d3, _⟩ := hD
  have hne : ∀ i, some i = vo.ownBlock → impl_AllBruijn.okB B i ∧ some i ≠ vw.ownBlock := fun i e => (Kd.S_R h3).1 i e.symm
  obtain ⟨g1, g2, g3, g4, g5, g6, g7⟩ := h1.kept hg (fun i e => by
    obtain ⟨⟨a1, a2, a3, a4⟩, a5, a6, a7, a8⟩ := (hne i e).1
    exact ⟨a1, a5, a2, a3, a4, a6, a7⟩)
  refine ⟨⟨blk_far g1 d1.2.2.2.1 _, blk_put (cs := #[vo]) g2 0 _ rfl, blk_far g3 (fun e => d2.1 e.symm) _, blk_far g4 (fun e => d2.2.1 e.symm) _, blk_far g5 (fun e => d2.2.2.1 e.symm) _, blk_far g6 (fun e => d2.2.2.2.1 e.symm) _, blk_far g7 (fun e => d2.2.2.2.2.1 e.symm) _⟩, Kd.R_far (Kd.R_grown2 h2 rfl hg (fun k hk => (hne k hk.symm).2)) (fun k hk => hk.2.1) _, Kd.S_far ho (fun k hk => hk.1.2.1) _, h4.same ?_⟩
  exact (Below.heap_setCell W1 ⟨B.o, 0, none⟩ v4 B.b (fun e => d2.2.2.2.2.2 e.symm)).trans (hg.block B.b h4.lt (fun e => (hne _ e).1.2.2.2.2 rfl))
theorem impl_AllBruijn.St.growO (h : impl_AllBruijn.St w0 W B vw vo xs ys c m) (hg : W.grownBy W1 vo.ownBlock) : impl_AllBruijn.Boxes W1 B vw vo :=
  h.1.kept hg (fun i e => by
    obtain ⟨⟨a1, a2, a3, a4⟩, a5, a6, a7, a8⟩ := ((Kd.S_R h.2.2.1).1 i e.symm).1
    exact ⟨a1, a5, a2, a3, a4, a6, a7⟩)
theorem impl_AllBruijn.St.count {c' : Nat} (h : impl_AllBruijn.St w0 W B vw vo xs ys c m) (e : c = c') : impl_AllBruijn.St w0 W B vw vo xs ys c' m := e ▸ h
end
section
variable {P : Program} {ops : Array Oper} {Q : Exit → Act → World → Prop}
theorem impl_AllBruijn.gate_tmp {rest : List Oper} {o : Oper} {a : Act} {W : World} {t : Tmp} {xs : Array Operand} {ts : Array TypeId} (_ho : o.op = .call { callee := .value (.tmp t), args := xs, argTypes := ts }) (h : wpList P ops Q (o :: rest) a W) : wpList P ops Q (o :: rest) a W := h
theorem impl_AllBruijn.goesV {rest : List Oper} {oi : Oper} {a : Act} {w : World} (N : Option Tmp) (hd : oi.dst = N) (hg : oi.guard = none) {t : Tmp} {f : FuncId} {fn : Func} {cap : Array Value} {xs : Array Operand} {ts : Array TypeId} (hf : P.funcs[f]? = some fn) (hname : (fn.name == "runtime.NumGoroutine") = false) (hb : fn.body.isSome = true) (args : Array Value)
    (hop : oi.op = .call { callee := .value (.tmp t), args := xs, argTypes := ts }) (hv : a.eval (.tmp t) = .func (.func f) #[] cap) (hargs : xs.map a.eval ++ cap = args)
    (h : Calls P f args w fun e w' => ∃ v, e = .returned v ∧ wpList P ops Q rest (a.put N v) w') : wpList P ops Q (oi :: rest) a w := by
  refine wpList_plain hg fun K hK => ?_
  have he := enters_ hf hname hb args w
  have hrun : (execOp a.eval oi).run P w = .ok (.enter f args) w := by
    unfold execOp
    simp [hop, resolve, Deferred.ofValue, invoke, hv, hargs, he]
  unfold Oper.wp
  rw [hrun, Oper.upon_enter]
  refine h.mono fun e w'' hh => ?_
  obtain ⟨v, rfl, hk⟩ := hh
  subst hd
  exact hK _ _ hk
end
theorem impl_AllBruijn.cutrun {w0 W : World} {ok : Nat → Prop} (A : Option Addr) (cap : Nat) (zs xs : List Int) (x : Int) (e : zs = xs ++ [x]) (hR : Kd.R (Kd.int .i64) 3 W w0.heap.size ok (.slice A zs.length cap) zs) : ∀ W' : World, (Instr.slice 44 (.slice A zs.length cap) none (some (.int .i64 (xs.length : Int))) none).run Try.prog W' = .ok (.slice A xs.length cap) W' := by
  obtain ⟨i0_, hi0_, _, hsz_, _⟩ := info_parts info3
  have hl : zs.length = xs.length + 1 := by rw [e]; simp
  have h := (print_take_of (P := Try.prog) (Value.int .i64) 0 44 3 .i64 Try.underlying44 hi0_ hsz_ A cap zs (xs.length : Int) (by omega) (by omega) (Kd.R_reads' hR).2.1).1
  have hl2 : (zs.take ((xs.length : Nat) : Int).toNat).length = xs.length := by rw [List.length_take, Int.toNat_natCast]; omega
  rw [hl2] at h
  exact h
theorem impl_AllBruijn.St.alloced {w0 W : World} {B : impl_AllBruijn.Bx} {vw vo : Value} {xs : List Int} {ys : List (List Int)} {c m : Nat} (h : impl_AllBruijn.St w0 W B vw vo xs ys c m) (o : Obj) : (W.alloc o).cell? ⟨B.o, 0, none⟩ = some vo ∧ (W.alloc o).cell? ⟨B.w, 0, none⟩ = some vw := by
  have h_ := (h.below (below_alloc (Below.refl _ _) o)).1.cells
  exact ⟨h_.2.2.1, h_.1⟩
def impl_AllBruijn.args (B : impl_AllBruijn.Bx) (code : Int) : Array Value := #[.int .i64 code, .pointer (some ⟨B.w, 0, none⟩), .pointer (some ⟨B.sz, 0, none⟩), .pointer (some ⟨B.n, 0, none⟩), .pointer (some ⟨B.k, 0, none⟩), .pointer (some ⟨B.o, 0, none⟩), .pointer (some ⟨B.m, 0, none⟩), .pointer (some ⟨B.x, 0, none⟩)]
open Go.Proofs.Ytfbafdlgnjkioaa.MapSets in
theorem impl_AllBruijn.zeroB (w : World) : (zeroValue 4).run Try.prog w = .ok (.bool false) w := by kernel_rfl
open Go.Proofs.Ytfbafdlgnjkioaa.MapSets in
set_option maxHeartbeats 32000000 in
set_option maxRecDepth 100000 in
theorem impl_AllBruijn.ext_calls (w0 : World) (B : impl_AllBruijn.Bx) (hD : impl_AllBruijn.Dis w0.heap.size B) : ∀ (q : Nat) (code : Int) (xs : List Int) (ys : List (List Int)) (m : Nat) (ys' : List (List Int)) (vw vo : Value) (W : World), impl_AllBruijn.St w0 W B vw vo xs ys (xs.length + 1) m → Below w0.heap.size w0 W → impl_AllBruijn.ext q B.S B.N B.K code xs ys m = some ys' →
    Calls Try.prog 125 (impl_AllBruijn.args B code) W fun e W' => e = .returned (.tuple #[]) ∧ (∃ vw' vo' : Value, impl_AllBruijn.St w0 W' B vw' vo' xs ys' (xs.length + 1) m) ∧ Below w0.heap.size w0 W' := by
  have DD := Aside0.mk hD
  clear hD
  intro q
  induction q using Nat.strongRecOn with
  | _ q ih =>
    intro code xs ys m ys' vw vo W hst hb0 h
    cases q with
    | zero => exact absurd h (by simp [impl_AllBruijn.ext])
    | succ q1 =>
      have IH := Aside0.mk ih
      clear ih
      have HB := Aside0.mk hb0
      clear hb0
      obtain ⟨A, cap, e⟩ := Kd.R_slice hst.2.1
      subst e
      have HST := Aside0.mk hst
      have H := h
      clear h
      simp only [impl_AllBruijn.ext] at H
      obtain ⟨hcw, hfw, hco, hfo, hcs, hcn, hck, hcm, hcx⟩ := hst.1.cells
      clear hst
      unfold impl_AllBruijn.args
      by_cases c1 : (xs.length : Int) = B.S
      · rw [if_pos c1] at H
        have c1b : ((xs.length : Int) == B.S) = true := beq_iff_eq.mpr c1
        have HC1 := Aside0.mk c1
        clear c1
        obtain ⟨b, hb, H⟩ := Option.bind_eq_some_iff.mp H
        have A1 := Aside0.mk hb
        clear hb
        by_cases c2 : b = true
        · subst c2
          rw [if_pos rfl] at H
          obtain ⟨cpy, hcpy, H⟩ := Option.bind_eq_some_iff.mp H
          have A3 := Aside0.mk hcpy
          clear hcpy
          by_cases c3 : ys.length < 5864062014805
          · rw [if_pos c3] at H
            have HL := Aside0.mk c3
            clear c3
            obtain rfl := Option.some.inj H
            clear H
            go_enter Try.func125, Try.ntmps125
            go_wp2_with (first
              | ((with_reducible refine gate_callee (f := 126) rfl ?_); refine goesL_ (some 18) rfl rfl Try.func126 (by kernel_rfl) rfl #[.slice A xs.length cap, .int .i64 B.N, .int .i64 B.K] rfl (by (try simp only [List.map_toArray, List.map_cons, List.map_nil]); first | done | rfl) ?_; (with_reducible refine (impl_isBruijn.calls q1 _ _ xs B.N B.K true _ ?side1 ?side2 A1.out).mono ?_); (case side1 => exact (Kd.R_reads' HST.out.2.1).2.2); (case side2 => exact (Kd.R_reads' HST.out.2.1).2.1); rintro e w1 ⟨rfl, hb⟩; refine ⟨_, rfl, ?_⟩; have n0_ := Aside0.mk (HST.out.below hb); have n1_ := Aside0.mk (below_step HB.out hb); clear HST HB hb; have HST := n0_; have HB0 := n1_; clear n0_ n1_))
            refine start_ (n := 6) (S := fun w' => w'.cell? ⟨B.o, 0, none⟩ = some vo ∧ w'.cell? ⟨B.w, 0, none⟩ = some (.slice A xs.length cap)) (ds := [5]) #[false, false, false, false, false, false] (by kernel_rfl) rfl rfl ⟨(by have h_ := HST.out.1.cells; first | exact h_.2.2.1 | go_simp), (by have h_ := HST.out.1.cells; first | exact h_.1 | go_simp)⟩ (fun hHeld => ?_)
            refine take_ (i := 0) (N := some 19) (v := ?_) (a' := ?_) #[true, false, false, false, false, false] rfl rfl (by kernel_rfl) (fun _ _ _ h => h) (Or.inl ⟨by rfl, ?_⟩) hHeld ?_ ?_
            rotate_left
            · rintro w' ⟨s0, s1⟩
              go_simp
              with_reducible rfl
            rotate_left
            · simp only [Act.put, List.setIfInBounds_toArray, List.set_cons_zero, List.set_cons_succ, i64_w, i32_w]
              rfl
            refine take_ (i := 1) (N := some 20) (v := ?_) (a' := ?_) #[true, true, false, false, false, false] rfl rfl (by kernel_rfl) (fun _ _ _ h => h) (Or.inl ⟨by rfl, ?_⟩) hHeld ?_ ?_
            rotate_left
            · rintro w' ⟨s0, s1⟩
              go_simp
              with_reducible rfl
            rotate_left
            · simp only [Act.put, List.setIfInBounds_toArray, List.set_cons_zero, List.set_cons_succ, i64_w, i32_w]
              rfl
            refine one_ (i := 2) (N := some 21) #[true, true, true, false, false, false] rfl rfl (by kernel_rfl) (by decide) (fun K hK => ?_)
            refine goes_ Try.func90 (by kernel_rfl) rfl #[.slice A xs.length cap] (by rfl) rfl rfl (by simp only [List.map_toArray, List.map_cons, List.map_nil]; rfl) ?_
            with_reducible refine (impl_copied.calls _ _ xs cpy _ ?side1 ?side2 A3.out).mono ?_
            case side1 => exact Kd.C_below (Kd.R_reads' HST.out.2.1).2.2 (by repeat (first | (with_reducible first | exact Below.refl _ _ | apply below_alloc | apply pw_below_drewN | apply below_drew1) | exact Below.refl _ _))
            case side2 => exact (Kd.R_reads' HST.out.2.1).2.1
            rintro e w2 ⟨v21, rfl, ho0, hb⟩
            refine ⟨_, rfl, ?_⟩
            obtain ⟨Ac, cc, ec⟩ := Kd.R_slice ho0
            subst ec
            have n0_ : Aside0 (Kd.R (Kd.int .i64) 3 w2 w1.heap.size (fun _ => True) (.slice Ac cpy.length cc) cpy) := ⟨Kd.R_lower ho0 (below_size (by repeat (first | (with_reducible first | exact Below.refl _ _ | apply below_alloc | apply pw_below_drewN | apply below_drew1) | exact Below.refl _ _)))⟩
            have n1_ : Aside0 (Below w1.heap.size w1 w2) := ⟨below_step (by repeat (first | (with_reducible first | exact Below.refl _ _ | apply below_alloc | apply pw_below_drewN | apply below_drew1) | exact Below.refl _ _)) hb⟩
            clear ho0 hb; have HC := n0_; have HB2 := n1_; clear n0_ n1_
            have HST1 := Aside0.mk (HST.out.below HB2.out)
            have HN := Aside0.mk (HST.out.copied HB2.out HC.out)
            refine hK.out _ _ ⟨(by have h_ := HST1.out.1.cells; exact h_.2.2.1), (by have h_ := HST1.out.1.cells; exact h_.1)⟩ (fun hHeld => ?_)
            clear hK K
            refine norm_ (a' := ?_) ?_ ?_
            rotate_left
            · show Act.put _ (some 21) _ = _
              simp only [Act.put, List.setIfInBounds_toArray, List.set_cons_zero, List.set_cons_succ, i64_w, i32_w]
              rfl
            refine one_ (i := 3) (N := some 22) #[true, true, true, true, false, false] rfl rfl (by kernel_rfl) (by decide) (fun K hK => ?_)
            refine value_ (w1 := ?_) (v := ?_) (by rfl) rfl ?_ ?_
            rotate_left 2
            · go_simp
              constructor
              · rfl
              · rfl
            refine hK.out _ _ ⟨(HST1.out.alloced _).1, (HST1.out.alloced _).2⟩ (fun hHeld => ?_)
            clear hK K
            refine norm_ (a' := ?_) ?_ ?_
            rotate_left
            · show Act.put _ (some 22) _ = _
              simp only [Act.put, List.setIfInBounds_toArray, List.set_cons_zero, List.set_cons_succ, i64_w, i32_w]
              rfl
            refine one_ (i := 4) (N := some 23) #[true, true, true, true, true, false] rfl rfl (by kernel_rfl) (by decide) (fun K hK => ?_)
            refine Kd.S_append_step (Kd.slice 3 (Kd.int .i64)) (w0 := w0) w0.heap.size (by rfl) (.tmp 19) (.tmp 22) 22 44 (.slice none 0 0) 24 rfl Try.underlying22 impl_AllBruijn.infoS rfl (by decide) (by omega) vo ys cpy [.slice Ac cpy.length cc] (fun k_ => impl_AllBruijn.okB B k_ ∧ some k_ ≠ (Value.slice A xs.length cap).ownBlock) (fun k_ => some k_ = (Value.slice Ac cpy.length cc).ownBlock) rfl rfl ?aP ?aK ?aF ?aO ?aB ?aS ?aL ?_
            case aP => exact Kd.M_row (Kd.R_tight rfl (Kd.R_lower HC.out HB0.out.size))
            case aK => exact HN.out.1
            case aF => exact HN.out.2.2
            case aO => exact HN.out.2.1
            case aB => exact below_step HB0.out HB2.out
            case aS => exact (below_step HB0.out HB2.out).size
            case aL => have := HL.out; omega
            intro v23 w3 ho hb hg hat
            obtain ⟨A3_, c3_, e3_⟩ := Kd.S_slice ho
            subst e3_
            have HO3 := Aside0.mk ho; have HB3 := Aside0.mk hb; have HG3 := Aside0.mk hg
            clear ho hb hg hat
            have HX3 := Aside0.mk (HST1.out.growO HG3.out).cells
            refine hK.out _ _ ⟨HX3.out.2.2.1, HX3.out.1⟩ (fun hHeld => ?_)
            clear hK K
            refine norm_ (a' := ?_) ?_ ?_
            rotate_left
            · show Act.put _ (some 23) _ = _
              simp only [Act.put, List.setIfInBounds_toArray, List.set_cons_zero, List.set_cons_succ, i64_w, i32_w]
              rfl
            refine last_ (i := 5) (N := none) #[true, true, true, true, true, true] rfl rfl (by kernel_rfl) (by decide) (fun K hK => ?_)
            have hfo3 := HX3.out.2.2.2.1
            have hco3 := HX3.out.2.2.1
            refine skip_ (w1 := ?_) (by rfl) rfl ?_ ?_
            rotate_left
            · go_simp
              rfl
            refine hK.out _ _ ?_
            clear hK K
            refine done_ (by kernel_rfl) ?_
            
            try go_wp2
            first | go_end0 | ((try simp only [Exit.inBlock, Exit.then]); refine bodyPost_ret (results_none rfl _ _ _) rfl ?_)
            have hl_ : (ys ++ [cpy]).length = ys.length + 1 := by simp
            have ho3_ := HO3.out
            rw [hl_] at ho3_
            exact ⟨rfl, ⟨_, _, HST1.out.pushed DD.out HG3.out ho3_⟩, below_set HB3.out DD.out.2.2.2.2.1⟩
          · rw [if_neg c3] at H; exact absurd H (by simp)
        · rw [if_neg c2] at H
          replace c2 := Bool.eq_false_iff.mpr c2
          subst c2
          obtain rfl := Option.some.inj H
          clear H
          go_enter Try.func125, Try.ntmps125
          go_wp2_with (first
            | ((with_reducible refine gate_callee (f := 126) rfl ?_); refine goesL_ (some 18) rfl rfl Try.func126 (by kernel_rfl) rfl #[.slice A xs.length cap, .int .i64 B.N, .int .i64 B.K] rfl (by (try simp only [List.map_toArray, List.map_cons, List.map_nil]); first | done | rfl) ?_; (with_reducible refine (impl_isBruijn.calls q1 _ _ xs B.N B.K false _ ?side1 ?side2 A1.out).mono ?_); (case side1 => exact (Kd.R_reads' HST.out.2.1).2.2); (case side2 => exact (Kd.R_reads' HST.out.2.1).2.1); rintro e w1 ⟨rfl, hb⟩; refine ⟨_, rfl, ?_⟩; have n0_ := Aside0.mk (HST.out.below hb); have n1_ := Aside0.mk (below_step HB.out hb); clear HST HB hb; have HST := n0_; have HB := n1_; clear n0_ n1_))
          first | go_end0 | ((try simp only [Exit.inBlock, Exit.then]); refine bodyPost_ret (results_none rfl _ _ _) rfl ?_)
          exact ⟨rfl, ⟨_, _, HST.out⟩, HB.out⟩
      · rw [if_neg c1] at H
        have c1b : ((xs.length : Int) == B.S) = false := beq_eq_false_iff_ne.mpr c1
        clear c1
        have H' := Aside0.mk H
        clear H
        go_enter Try.func125, Try.ntmps125
        go_wp2
        go_loopg [25] q1 (fun kq v25 W' => ∃ (x : Int) (vw vo : Value) (ys1 : List (List Int)), v25 = .int .i64 x ∧ Aside0 (impl_AllBruijn.lp kq B.S B.N B.K code xs ys1 m x = some ys') ∧ Aside0 (kq ≤ q1) ∧ Aside0 (impl_AllBruijn.St w0 W' B vw vo xs ys1 (xs.length + 1) m) ∧ Aside0 (Below w0.heap.size w0 W'))
        case atStart => exact ⟨0, _, _, ys, (by first | rfl | (simp; done) | (simp [*]; done)), H', ⟨Nat.le_refl _⟩, HST, HB⟩
        case round =>
          clear H' HST HB
          clear hcw hfw hco hfo hcs hcn hck hcm hcx
          obtain ⟨x, vw, vo, ys1, rfl, HA, HK1, HST, HB⟩ := hrel
          cases gk with
          | zero => exact absurd HA.out (by simp [impl_AllBruijn.lp])
          | succ k1 =>
            have H := HA.out
            clear HA
            simp only [impl_AllBruijn.lp] at H
            by_cases c2 : x < B.K
            · rw [if_pos c2] at H
              have c2b : decide (x < B.K) = true := decide_eq_true c2
              clear c2
              by_cases c3 : B.S = 0
              · rw [if_pos c3] at H; exact absurd H (by simp)
              · rw [if_neg c3] at H
                have c3b : (B.S == 0) = false := beq_eq_false_iff_ne.mpr c3
                have c3c : (B.S = 0) = False := eq_false c3
                clear c3
                by_cases c4 : 0 ≤ impl_AllBruijn.next B.K B.S code x
                · rw [if_pos c4] at H
                  have C4 := Aside0.mk c4
                  clear c4
                  have hwf : Aside0 ((Lit.int .i64 (impl_AllBruijn.next B.K B.S code x)).wf = true) := ⟨tmod_wf (wrap64_wf _)⟩
                  obtain ⟨S, z, hK, hz, hS⟩ := HST.out.2.2.2
                  have HKS := Aside0.mk hK
                  have HSS := Aside0.mk hS
                  have HZZ := Aside0.mk hz
                  clear hK hS hz
                  obtain ⟨A, cap, e⟩ := Kd.R_slice HST.out.2.1
                  subst e
                  obtain ⟨hcw, hfw, hco, hfo, hcs, hcn, hck, hcm, hcx⟩ := HST.out.1.cells
                  by_cases c5 : m.testBit (impl_AllBruijn.next B.K B.S code x).toNat = true
                  · rw [if_pos c5] at H
                    have H' := Aside0.mk H
                    clear H
                    have hval : S (.int .i64 (impl_AllBruijn.next B.K B.S code x)) = true := (HSS.out _).trans (by rw [decide_eq_true C4.out, c5]; rfl)
                    clear c5
                    go_wp2_with (first
                      | ((with_reducible refine gate_lookup (t := 107) (m := .tmp 35) rfl ?_); refine lookup_op (t := 107) (k := 3) (e := 4) rfl _ _ rfl (Go.Maps.int_keyed Try.underlying3) Try.underlying107 Try.underlying4 (impl_AllBruijn.zeroB _) rfl HKS.out _ (.int .i64 (impl_AllBruijn.next B.K B.S code x)) rfl (Go.Maps.keyOf_int_mk Try.underlying3 hwf.out) ?_; rw [hval]))
                    go_roundg k1
                    case measure => have := HK1.out; omega
                    case rel => exact ⟨wrap64 (x + 1), _, _, ys1, (by first | rfl | (simp; done) | (simp [*]; done)), H', ⟨by have := HK1.out; omega⟩, HST, HB⟩
                  · rw [if_neg c5] at H
                    replace c5 := Bool.eq_false_iff.mpr c5
                    have C5 := Aside0.mk c5
                    have hval : S (.int .i64 (impl_AllBruijn.next B.K B.S code x)) = false := (HSS.out _).trans (by rw [c5, Bool.and_false])
                    clear c5
                    by_cases c6 : xs.length < 17592186044416
                    · rw [if_pos c6] at H
                      have C6 := Aside0.mk c6
                      clear c6
                      replace H := Option.bind_eq_some_iff.mp H
                      obtain ⟨ys2, h2, H⟩ := H
                      have A2 := Aside0.mk h2
                      have H' := Aside0.mk H
                      clear h2 H
                      obtain ⟨zs, hzs⟩ : ∃ z_ : List Int, z_ = xs ++ [x] := ⟨_, rfl⟩
                      rw [← hzs] at A2
                      have NZ := Aside0.mk hzs
                      have hzl : IntKind.i64.wrap ((zs.length : Int) - 1) = (xs.length : Int) := by rw [hzs]; rw [i64_w]; unfold wrap64; rw [List.length_append, List.length_singleton]; have := C6.out; omega
                      clear hzs
                      go_wp2_with (first
                        | ((with_reducible refine gate_lookup (t := 107) (m := .tmp 35) rfl ?_); refine lookup_op (t := 107) (k := 3) (e := 4) rfl _ _ rfl (Go.Maps.int_keyed Try.underlying3) Try.underlying107 Try.underlying4 (impl_AllBruijn.zeroB _) rfl HKS.out _ (.int .i64 (impl_AllBruijn.next B.K B.S code x)) rfl (Go.Maps.keyOf_int_mk Try.underlying3 hwf.out) ?_; rw [hval])
                        | ((with_reducible refine gate_update (t := 107) (m := .tmp 38) rfl ?_); refine update_op (t := 107) (k := 3) (e := 4) rfl _ _ _ (.inl rfl) (Go.Maps.int_keyed Try.underlying3) Try.underlying107 Try.underlying4 rfl HKS.out (by have := C6.out; have := HZZ.out; unfold maxLen; omega) _ (.int .i64 (impl_AllBruijn.next B.K B.S code x)) rfl rfl (Go.Maps.keyOf_int_mk Try.underlying3 hwf.out) ?_; intro w5 hs5 hg5; have n0_ := Aside0.mk (HST.out.mapped DD.out hg5 (impl_AllBruijn.BS.add HST.out.2.2.2 C4.out C5.out hs5 HZZ.out HSS.out)); have n1_ : Aside0 (Below w0.heap.size w0 w5) := ⟨HB.out.grown hg5 HB.out.size (fun j hj => by cases hj; exact DD.out.2.2.2.2.2)⟩; clear HST HB hs5 hg5 HKS HSS HZZ; have HST := n0_; have HB := n1_; clear n0_ n1_; obtain ⟨hcw5, hfw5, hco5, hfo5, hcs5, hcn5, hck5, hcm5, hcx5⟩ := HST.out.1.cells)
                        | ((with_reducible refine gate_builtin (b := .append) (xs := #[.tmp 40, .tmp 42]) rfl ?_); at_builtin; refine Kd.R_append (Kd.int .i64) (w0 := w0) w0.heap.size rfl (.tmp 40) (.tmp 42) 44 3 (.int .i64 0) 8 rfl Try.underlying44 info3 rfl (by decide) (by omega) (.slice A xs.length cap) xs x [.int .i64 x] (impl_AllBruijn.okB B) (fun _ => False) rfl rfl ?aP (fun _ hk => hk.elim) ?aF ?aO ?aB ?aS ?aL ?_; (case aP => exact rfl); (case aB => exact HB.out); (case aF => exact HST.out.fresh); (case aO => exact HST.out.2.1); (case aS => exact HB.out.size); (case aL => have := C6.out; omega); intro v6 w6 ho hb hg hat; rw [← NZ.out] at ho; have HO6 := Aside0.mk ho; have HB6 := Aside0.mk hb; have HG6 := Aside0.mk hg; have HA6 := Aside0.mk hat; clear ho hb hg hat; obtain ⟨hcw6, hfw6, hco6, hfo6, hcs6, hcn6, hck6, hcm6, hcx6⟩ := (HST.out.grow HG6.out).cells; obtain ⟨A6, cap6, e6⟩ := Kd.R_slice HO6.out; subst e6)
                        | ((with_reducible refine gate_store (t := 44) (p := 1) rfl ?_); refine store_event (t := 44) (p := 1) (v := ?vo_w7) (w1 := (w6.setCell ⟨B.w, 0, none⟩ (.slice A6 zs.length cap6))) ?hg ?ho ?hn ?hr ?_; (case ho => rfl); (case hg => rfl); (case hn => rfl); (case hr => first | (go_simp; done) | (go_simp; rfl)); intro w7 hw; have n0_ : Aside0 (impl_AllBruijn.St w0 w7 B (.slice A6 zs.length cap6) vo zs ys1 (xs.length + 1 + 1) (m ||| (1 <<< (impl_AllBruijn.next B.K B.S code x).toNat))) := ⟨by rw [hw]; exact HST.out.put DD.out HG6.out HA6.out HO6.out⟩; have n1_ : Aside0 (Below w0.heap.size w0 w7) := ⟨by rw [hw]; exact below_set HB6.out DD.out.2.2.2.1⟩; clear HST HB HB6 HO6 HG6 HA6 hw; have HST := n0_; have HB := n1_; clear n0_ n1_; obtain ⟨hcw7, hfw7, hco7, hfo7, hcs7, hcn7, hck7, hcm7, hcx7⟩ := HST.out.1.cells)
                        | ((with_reducible refine impl_AllBruijn.gate_tmp (t := 44) rfl ?_); refine impl_AllBruijn.goesV (some 46) rfl rfl (f := 125) Try.func125 (by kernel_rfl) rfl (impl_AllBruijn.args B (impl_AllBruijn.next B.K B.S code x)) rfl rfl (by (try simp only [List.map_toArray, List.map_cons, List.map_nil]); first | done | rfl) ?_; refine (IH.out k1 (by have := HK1.out; omega) (impl_AllBruijn.next B.K B.S code x) zs ys1 (m ||| (1 <<< (impl_AllBruijn.next B.K B.S code x).toNat)) ys2 _ _ _ (HST.out.count (by rw [NZ.out]; simp)) HB.out A2.out).mono ?_; rintro e w8 ⟨rfl, ⟨vw8, vo8, hst8⟩, hb8⟩; refine ⟨_, rfl, ?_⟩; obtain ⟨A8, cap8, e8⟩ := Kd.R_slice hst8.2.1; subst e8; have n0_ := Aside0.mk (hst8.count (c' := xs.length + 1 + 1) (by rw [NZ.out]; simp)); have n1_ := Aside0.mk hb8; clear HST HB hst8 hb8; have HST := n0_; have HB := n1_; clear n0_ n1_; obtain ⟨hcw8, hfw8, hco8, hfo8, hcs8, hcn8, hck8, hcm8, hcx8⟩ := HST.out.1.cells; have hcut := impl_AllBruijn.cutrun A8 cap8 zs xs x NZ.out HST.out.2.1)
                        | ((with_reducible refine gate_store (t := 44) (p := 1) rfl ?_); refine store_event (t := 44) (p := 1) (v := ?vo_w9) (w1 := (w8.setCell ⟨B.w, 0, none⟩ (.slice A8 xs.length cap8))) ?hg ?ho ?hn ?hr ?_; (case ho => rfl); (case hg => rfl); (case hn => rfl); (case hr => first | (go_simp; done) | (go_simp; rfl)); intro w9 hw; have n0_ : Aside0 (impl_AllBruijn.St w0 w9 B (.slice A8 xs.length cap8) vo8 xs ys2 (xs.length + 1 + 1) (m ||| (1 <<< (impl_AllBruijn.next B.K B.S code x).toNat))) := ⟨by rw [hw]; exact impl_AllBruijn.St.cut (x := x) (by have h_ := HST.out; rw [NZ.out] at h_; exact h_) DD.out⟩; have n1_ : Aside0 (Below w0.heap.size w0 w9) := ⟨by rw [hw]; exact below_set HB.out DD.out.2.2.2.1⟩; clear HST HB hw; have HST := n0_; have HB := n1_; clear n0_ n1_; obtain ⟨hcw9, hfw9, hco9, hfo9, hcs9, hcn9, hck9, hcm9, hcx9⟩ := HST.out.1.cells; obtain ⟨S9, z9, ⟨D9, d1, d2, d3, d4⟩, hz9, hS9⟩ := HST.out.2.2.2; have D1 := Aside0.mk d1; have D2 := Aside0.mk d2; have D3 := Aside0.mk d3; have D4 := Aside0.mk d4; have Z9 := Aside0.mk hz9; have SS9 := Aside0.mk hS9; clear d1 d2 d3 d4 hz9 hS9)
                        | ((with_reducible refine gate_builtin (b := .delete) (xs := #[.tmp 52, .tmp 53]) rfl ?_); refine wpList_delete_own _ rfl (.tmp 52) (.tmp 53) 107 3 rfl 4 (Go.Maps.int_keyed Try.underlying3) Try.underlying107 _ B.b z9 D9 rfl D1.out _ (.int .i64 (impl_AllBruijn.next B.K B.S code x)) rfl (Go.Maps.keyOf_int_mk Try.underlying3 hwf.out) ?_; intro w10 hown hturn; have n0_ := Aside0.mk (HST.out.mapped DD.out hturn.grown (impl_AllBruijn.BS.del C4.out C5.out D2.out D3.out D4.out (D1.out.tidy (Go.Maps.int_keyed Try.underlying3)) SS9.out Z9.out hown)); have n1_ : Aside0 (Below w0.heap.size w0 w10) := ⟨HB.out.grown hturn.grown HB.out.size (fun j hj => by cases hj; exact DD.out.2.2.2.2.2)⟩; clear HST HB hown hturn; have HST := n0_; have HB := n1_; clear n0_ n1_))
                      go_roundg k1
                      case measure => have := HK1.out; omega
                      case rel => exact ⟨wrap64 (x + 1), _, _, ys2, (by first | rfl | (simp; done) | (simp [*]; done)), H', ⟨by have := HK1.out; omega⟩, HST, HB⟩
                    · rw [if_neg c6] at H; exact absurd H (by simp)
                · rw [if_neg c4] at H; exact absurd H (by simp)
            · rw [if_neg c2] at H
              have c2b : decide (x < B.K) = false := decide_eq_false c2
              clear c2
              obtain rfl := Option.some.inj H
              clear H
              go_wp2
              first | go_end0 | ((try simp only [Exit.inBlock, Exit.then]); refine bodyPost_ret (results_none rfl _ _ _) rfl ?_)
              exact ⟨rfl, ⟨_, _, HST.out⟩, HB.out⟩
/-! The four blocks that are made in open order: the list's row (i), the word's row (g), the list's box (b), the word's box (d). -/
def impl_AllBruijn.R4 (W0 W : World) (y : List Int) (f0 f2 f3 f4 f5 : Bool) (A : Option Addr) (c0 i g c b d : Nat) : Prop :=
  Below W0.heap.size W0 W ∧ (f0 = true → Kd.S (Kd.slice 3 (Kd.int .i64)) 44 W W0.heap.size (fun k => k = i) (.slice A 0 c0) [] ∧ W0.heap.size ≤ i ∧ i < W.heap.size) ∧ (f2 = true → Kd.R (Kd.int .i64) 3 W W0.heap.size (fun k => k = g) (.slice (some ⟨g, 0, none⟩) y.length c) y ∧ W0.heap.size ≤ g ∧ g < W.heap.size) ∧ (f3 = true → W.heap[b]? = some (.cells #[if f5 = true then .slice A 0 c0 else .slice none 0 0] 22 (0, 0)) ∧ W0.heap.size ≤ b) ∧ (f4 = true → W.heap[d]? = some (.cells #[.slice none 0 0] 44 (0, 0)) ∧ W0.heap.size ≤ d) ∧ (f0 = true → f2 = true → i ≠ g) ∧ (f0 = true → f3 = true → i ≠ b) ∧ (f0 = true → f4 = true → i ≠ d) ∧ (f2 = true → f3 = true → g ≠ b) ∧ (f2 = true → f4 = true → g ≠ d) ∧ (f3 = true → f4 = true → b ≠ d)
section
variable {W0 W W1 : World} {y : List Int} {f0 f2 f3 f4 f5 : Bool} {A : Option Addr} {c0 i g c b d : Nat}
theorem impl_AllBruijn.R4.start (W0 : World) (y : List Int) : impl_AllBruijn.R4 W0 W0.drew y false false false false false none 0 0 0 0 0 0 :=
  by refine ⟨below_drew (Below.refl _ _), ?_⟩; simp
theorem impl_AllBruijn.R4.move (h : impl_AllBruijn.R4 W0 W y f0 f2 f3 f4 f5 A c0 i g c b d) (hb : Below W.heap.size W W1) : impl_AllBruijn.R4 W0 W1 y f0 f2 f3 f4 f5 A c0 i g c b d := by
  obtain ⟨h0, h1, h2, h3, h4, h5⟩ := h
  have hs := hb.size
  exact ⟨below_step h0 hb, fun e => ⟨Kd.S_below (h1 e).1 hb, (h1 e).2.1, by have := (h1 e).2.2; omega⟩, fun e => ⟨Kd.R_below (h2 e).1 hb, (h2 e).2.1, by have := (h2 e).2.2; omega⟩, fun e => ⟨blk_below (h3 e).1 hb, (h3 e).2⟩, fun e => ⟨blk_below (h4 e).1 hb, (h4 e).2⟩, h5⟩
theorem impl_AllBruijn.R4.cell {n : Nat} {v : Value} (h : impl_AllBruijn.R4 W0 W y f0 f2 f3 f4 f5 A c0 i g c b d) (hc : W0.cell? ⟨n, 0, none⟩ = some v) : W.cell? ⟨n, 0, none⟩ = some v := (h.1.cell (World.block_lt_of_cell? _ _ hc)).trans hc
theorem impl_AllBruijn.R4.list {A1 : Option Addr} {c1 : Nat} (h : impl_AllBruijn.R4 W0 W y false f2 f3 f4 false A c0 i g c b d) (hb : Below W.heap.size W W1) (hS : Kd.S (Kd.slice 3 (Kd.int .i64)) 44 W1 W0.heap.size (fun k => k = W.heap.size) (.slice A1 0 c1) []) (hl : ∃ k, (Value.slice A1 0 c1).ownBlock = some k ∧ W.heap.size ≤ k) : impl_AllBruijn.R4 W0 W1 y true f2 f3 f4 false A1 c1 W.heap.size g c b d := by
  have hlt : W.heap.size < W1.heap.size := by
    obtain ⟨k, hk, hk2⟩ := hl
    have := Kd.S_lt hS k hk
    omega
  have hs := h.1.size
  obtain ⟨h0, h1, h2, h3, h4, h5, h6, h7, h8, h9, h10⟩ := h.move hb
  obtain ⟨_, _, g2, g3, g4, _⟩ := h
  refine ⟨h0, fun _ => ⟨hS, hs, hlt⟩, h2, h3, h4, fun _ e => ?_, fun _ e => ?_, fun _ e => ?_, h8, h9, h10⟩
  · have := (g2 e).2.2; omega
  · have := blk_lt (g3 e).1; omega
  · have := blk_lt (g4 e).1; omega
theorem impl_AllBruijn.R4.word {g1 c1 : Nat} (h : impl_AllBruijn.R4 W0 W y f0 false f3 f4 f5 A c0 i g c b d) (hb : Below W.heap.size W W1) (hR : Kd.R (Kd.int .i64) 3 W1 W0.heap.size (fun _ => True) (.slice (some ⟨g1, 0, none⟩) y.length c1) y) (hl : ∃ k, (Value.slice (some ⟨g1, 0, none⟩) y.length c1).ownBlock = some k ∧ W.heap.size ≤ k) : impl_AllBruijn.R4 W0 W1 y f0 true f3 f4 f5 A c0 i g1 c1 b d := by
  have hk : W.heap.size ≤ g1 := by
    obtain ⟨k, hk, hk2⟩ := hl
    simp [Value.ownBlock] at hk
    omega
  have hs := h.1.size
  obtain ⟨h0, h1, h2, h3, h4, h5, h6, h7, h8, h9, h10⟩ := h.move hb
  obtain ⟨_, g1_, _, g3, g4, _⟩ := h
  refine ⟨h0, h1, fun _ => ⟨Kd.R_mono (Kd.R_tight rfl hR) (fun k hk => by simpa [Value.ownBlock] using hk), by omega, Kd.R_lt hR _ rfl⟩, h3, h4, fun e _ => ?_, h6, h7, fun _ e => ?_, fun _ e => ?_, h10⟩
  · have := (g1_ e).2.2; omega
  · have := blk_lt (g3 e).1; omega
  · have := blk_lt (g4 e).1; omega
theorem impl_AllBruijn.R4.listBox (h : impl_AllBruijn.R4 W0 W y f0 f2 false f4 false A c0 i g c b d) : impl_AllBruijn.R4 W0 (W.alloc (.cells #[.slice none 0 0] 22)) y f0 f2 true f4 false A c0 i g c W.heap.size d := by
  have hs := h.1.size
  obtain ⟨h0, h1, h2, h3, h4, h5, h6, h7, h8, h9, h10⟩ := h.move (below_alloc (Below.refl _ _) (.cells #[.slice none 0 0] 22))
  obtain ⟨_, g1, g2, _, g4, _⟩ := h
  refine ⟨h0, h1, h2, fun _ => ⟨blk_new _ _, hs⟩, h4, h5, fun e _ => ?_, h7, fun e _ => ?_, h9, fun _ e => ?_⟩
  · have := (g1 e).2.2; omega
  · have := (g2 e).2.2; omega
  · have := blk_lt (g4 e).1; omega
theorem impl_AllBruijn.R4.wordBox (h : impl_AllBruijn.R4 W0 W y f0 f2 f3 false f5 A c0 i g c b d) : impl_AllBruijn.R4 W0 (W.alloc (.cells #[.slice none 0 0] 44)) y f0 f2 f3 true f5 A c0 i g c b W.heap.size := by
  have hs := h.1.size
  obtain ⟨h0, h1, h2, h3, h4, h5, h6, h7, h8, h9, h10⟩ := h.move (below_alloc (Below.refl _ _) (.cells #[.slice none 0 0] 44))
  obtain ⟨_, g1, g2, g3, _, _⟩ := h
  refine ⟨h0, h1, h2, h3, fun _ => ⟨blk_new _ _, hs⟩, h5, h6, fun e _ => ?_, h8, fun e _ => ?_, fun e _ => ?_⟩
  · have := (g1 e).2.2; omega
  · have := (g2 e).2.2; omega
  · have := blk_lt (g3 e).1; omega
theorem impl_AllBruijn.R4.put (h : impl_AllBruijn.R4 W0 W y true f2 true f4 false A c0 i g c b d) : impl_AllBruijn.R4 W0 (W.setCell ⟨b, 0, none⟩ (.slice A 0 c0)) y true f2 true f4 true A c0 i g c b d := by
  obtain ⟨h0, h1, h2, h3, h4, h5, h6, h7, h8, h9, h10⟩ := h
  have e : (W.setCell ⟨b, 0, none⟩ (.slice A 0 c0)).heap.size = W.heap.size := by simp [World.setCell]
  refine ⟨below_set h0 (h3 rfl).2, fun _ => ⟨Kd.S_far (h1 rfl).1 (fun k hk => by rw [hk]; exact h6 rfl rfl) _, (h1 rfl).2.1, by rw [e]; exact (h1 rfl).2.2⟩, fun e2 => ⟨Kd.R_far (h2 e2).1 (fun k hk => by rw [hk]; exact h8 e2 rfl) _, (h2 e2).2.1, by rw [e]; exact (h2 e2).2.2⟩, fun _ => ⟨blk_put (h3 rfl).1 0 _ rfl, (h3 rfl).2⟩, fun e2 => ⟨blk_far (h4 e2).1 (fun e3 => h10 rfl e2 e3.symm) _, (h4 e2).2⟩, h5, h6, h7, h8, h9, h10⟩
end
theorem impl_AllBruijn.gb {W W1 : World} (hg : W.grownBy W1 none) : Below W.heap.size W W1 := (Below.refl W.heap.size W).grown hg (Nat.le_refl _) (fun j hj => by cases hj)
def impl_AllBruijn.Tail (w W : World) (a0 a1 sz : Int) (bn bk bs : Nat) (y : List Int) (A : Option Addr) (c0 i g c b d : Nat) : Prop :=
  Below w.heap.size w W ∧ (W.heap[bn]? = some (.cells #[.int .i64 a0] 3 (0, 0)) ∧ W.heap[bk]? = some (.cells #[.int .i64 a1] 3 (0, 0)) ∧ W.heap[bs]? = some (.cells #[.int .i64 sz] 3 (0, 0)) ∧ W.heap[b]? = some (.cells #[.slice A 0 c0] 22 (0, 0)) ∧ W.heap[d]? = some (.cells #[.slice (some ⟨g, 0, none⟩) y.length c] 44 (0, 0))) ∧ Kd.S (Kd.slice 3 (Kd.int .i64)) 44 W w.heap.size (fun k => k = i) (.slice A 0 c0) [] ∧ Kd.R (Kd.int .i64) 3 W w.heap.size (fun k => k = g) (.slice (some ⟨g, 0, none⟩) y.length c) y ∧ (w.heap.size ≤ bn ∧ bn < bk ∧ bk < bs) ∧ (bs < i ∧ bs < g ∧ bs < b ∧ bs < d) ∧ (i ≠ g ∧ i ≠ b ∧ i ≠ d ∧ g ≠ b ∧ g ≠ d ∧ b ≠ d) ∧ i < W.heap.size ∧ g < W.heap.size
section
variable {w W W1 W0 : World} {a0 a1 sz : Int} {bn bk bs : Nat} {y : List Int} {A : Option Addr} {c0 i g c b d b0 bm bx : Nat}
theorem impl_AllBruijn.R4.tail (h : impl_AllBruijn.R4 W0 W y true true true true true A c0 i g c b d) (hB : Below w.heap.size w W0) (hn : W0.heap[bn]? = some (.cells #[.int .i64 a0] 3 (0, 0))) (hk : W0.heap[bk]? = some (.cells #[.int .i64 a1] 3 (0, 0))) (hs : W0.heap[bs]? = some (.cells #[.int .i64 sz] 3 (0, 0))) (o1 : w.heap.size ≤ bn) (o2 : bn < bk) (o3 : bk < bs) : impl_AllBruijn.Tail w (W.setCell ⟨d, 0, none⟩ (.slice (some ⟨g, 0, none⟩) y.length c)) a0 a1 sz bn bk bs y A c0 i g c b d := by
  obtain ⟨h0, h1, h2, h3, h4, h5, h6, h7, h8, h9, h10⟩ := h
  have l3 := blk_lt hs
  have e : (W.setCell ⟨d, 0, none⟩ (.slice (some ⟨g, 0, none⟩) y.length c)).heap.size = W.heap.size := by simp [World.setCell]
  have q1 := (h1 rfl).2.1
  have q2 := (h2 rfl).2.1
  have q3 := (h3 rfl).2
  have q4 := (h4 rfl).2
  have hz := hB.size
  have hb := below_set (j := 0) (v := .slice (some ⟨g, 0, none⟩) y.length c) h0 q4
  refine ⟨below_step hB hb, ⟨blk_below hn hb, blk_below hk hb, blk_below hs hb, blk_far (h3 rfl).1 (h10 rfl rfl) _, blk_put (h4 rfl).1 0 _ rfl⟩, Kd.S_far (Kd.S_lower (h1 rfl).1 hz) (fun k hk => by rw [hk]; exact h7 rfl rfl) _, Kd.R_far (Kd.R_lower (h2 rfl).1 hz) (fun k hk => by rw [hk]; exact h9 rfl rfl) _, ⟨o1, o2, o3⟩, ⟨by omega, by omega, by omega, by omega⟩, ⟨h5 rfl rfl, h6 rfl rfl, h7 rfl rfl, h8 rfl rfl, h9 rfl rfl, h10 rfl rfl⟩, by rw [e]; exact (h1 rfl).2.2, by rw [e]; exact (h2 rfl).2.2⟩
theorem impl_AllBruijn.Tail.move (h : impl_AllBruijn.Tail w W a0 a1 sz bn bk bs y A c0 i g c b d) (hb : Below W.heap.size W W1) : impl_AllBruijn.Tail w W1 a0 a1 sz bn bk bs y A c0 i g c b d := by
  obtain ⟨h0, ⟨h1, h2, h3, h4, h5⟩, h6, h7, h8, h9, h10, h11, h12⟩ := h
  have hs := hb.size
  exact ⟨below_step h0 hb, ⟨blk_below h1 hb, blk_below h2 hb, blk_below h3 hb, blk_below h4 hb, blk_below h5 hb⟩, Kd.S_below h6 hb, Kd.R_below h7 hb, h8, h9, h10, by omega, by omega⟩
theorem impl_AllBruijn.Tail.lts (h : impl_AllBruijn.Tail w W a0 a1 sz bn bk bs y A c0 i g c b d) (e : b0 = W.heap.size) : i < b0 ∧ g < b0 ∧ b < b0 ∧ d < b0 := by
  obtain ⟨h0, ⟨h1, h2, h3, h4, h5⟩, h6, h7, h8, h9, h10, h11, h12⟩ := h
  have := blk_lt h4
  have := blk_lt h5
  omega
theorem impl_AllBruijn.Tail.set {q : Nat} (h : impl_AllBruijn.Tail w W a0 a1 sz bn bk bs y A c0 i g c b d) (hq : w.heap.size ≤ q) (hl : i < q ∧ g < q ∧ b < q ∧ d < q) (v : Value) : impl_AllBruijn.Tail w (W.setCell ⟨q, 0, none⟩ v) a0 a1 sz bn bk bs y A c0 i g c b d := by
  obtain ⟨h0, ⟨h1, h2, h3, h4, h5⟩, h6, h7, h8, h9, h10, h11, h12⟩ := h
  have e : (W.setCell ⟨q, 0, none⟩ v).heap.size = W.heap.size := by simp [World.setCell]
  obtain ⟨l1, l2, l3, l4⟩ := hl
  obtain ⟨o1, o2, o3⟩ := h8
  exact ⟨below_set h0 hq, ⟨blk_far h1 (show bn ≠ q by omega) _, blk_far h2 (show bk ≠ q by omega) _, blk_far h3 (show bs ≠ q by omega) _, blk_far h4 (show b ≠ q by omega) _, blk_far h5 (show d ≠ q by omega) _⟩, Kd.S_far h6 (fun k hk => by rw [hk]; exact Nat.ne_of_lt l1) _, Kd.R_far h7 (fun k hk => by rw [hk]; exact Nat.ne_of_lt l2) _, ⟨o1, o2, o3⟩, h9, h10, by rw [e]; exact h11, by rw [e]; exact h12⟩
theorem impl_AllBruijn.Tail.st (h : impl_AllBruijn.Tail w W a0 a1 sz bn bk bs y A c0 i g c b d) (hS : impl_AllBruijn.BS W b0 (y.length + 1) 1) (hm : W.heap[bm]? = some (.cells #[.map (some b0)] 107 (0, 0))) (hx : W.heap[bx]? = some (.cells #[impl_AllBruijn.fnV ⟨d, bs, bn, bk, b, bm, bx, b0, sz, a0, a1⟩] 108 (0, 0))) (hl : i < b0 ∧ g < b0 ∧ b < b0 ∧ d < b0) (hbm : b0 < bm) (hbx : bm < bx) : impl_AllBruijn.Dis w.heap.size ⟨d, bs, bn, bk, b, bm, bx, b0, sz, a0, a1⟩ ∧ impl_AllBruijn.St w W ⟨d, bs, bn, bk, b, bm, bx, b0, sz, a0, a1⟩ (.slice (some ⟨g, 0, none⟩) y.length c) (.slice A 0 c0) y [] (y.length + 1) 1 := by
  obtain ⟨h0, ⟨h1, h2, h3, h4, h5⟩, h6, h7, ⟨p1, p2, p3⟩, ⟨q1, q2, q3, q4⟩, ⟨r1, r2, r3, r4, r5, r6⟩, h11, h12⟩ := h
  obtain ⟨l1, l2, l3, l4⟩ := hl
  have ok1 : impl_AllBruijn.okB ⟨d, bs, bn, bk, b, bm, bx, b0, sz, a0, a1⟩ g := by
    refine ⟨⟨?_, ?_, ?_, ?_⟩, ?_, ?_, ?_, ?_⟩ <;> (dsimp only; omega)
  have ok2 : impl_AllBruijn.okB ⟨d, bs, bn, bk, b, bm, bx, b0, sz, a0, a1⟩ i := by
    refine ⟨⟨?_, ?_, ?_, ?_⟩, ?_, ?_, ?_, ?_⟩ <;> (dsimp only; omega)
  refine ⟨?_, ⟨h5, h4, h3, h1, h2, hm, hx⟩, Kd.R_mono h7 (fun k hk => by rw [hk]; exact ok1), Kd.S_mono h6 (fun k hk => by rw [hk]; exact ⟨ok2, fun e => by simp [Value.ownBlock] at e; omega⟩), hS⟩
  refine ⟨⟨?_, ?_, ?_, ?_, ?_, ?_, ?_⟩, ⟨?_, ?_, ?_, ?_, ?_, ?_⟩, ⟨?_, ?_, ?_, ?_, ?_⟩, ?_, ?_, ?_⟩ <;> (dsimp only; omega)
end
open Go.Proofs.Ytfbafdlgnjkioaa.MapSets Go.Maps in
set_option maxHeartbeats 32000000 in
set_option maxRecDepth 100000 in
theorem impl_AllBruijn.calls (k : Nat) (a0 a1 : Int) (r1 : List (List Int)) (r2 : Bool) (w : World) (h : impl_AllBruijn.f k a0 a1 = some (r1, r2)) :
    Calls Try.prog 52 #[.int .i64 a0, .int .i64 a1] w fun e w' => ∃ v0_ : Value, e = .returned (.tuple #[v0_, .bool r2]) ∧ Kd.S (Kd.slice 3 (Kd.int .i64)) 44 w' w.heap.size (fun _ => True) v0_ r1 ∧ Below w.heap.size w w' := by
  have HB := Aside0.mk (Below.refl w.heap.size w)
  have hmf : ∀ (fn : Fn) (first cap : Array Value) (w : World), (Instr.makeFunc fn first cap).run Try.prog w = .ok (.func fn first cap) w := fun _ _ _ _ => rfl
  have hmm := @run_makeMap Try.prog
  have hsf : ∀ (a : Addr) (m : Mode) (fn : Fn) (first cap : Array Value) (w : World), (store a (.func fn first cap) m).run Try.prog w = stored Try.prog w a (.func fn first cap) m := fun a m fn first cap w => run_store _ w a _ m rfl
  unfold impl_AllBruijn.f at h
  obtain ⟨b, hb, H⟩ := Option.bind_eq_some_iff.mp h
  have A1 := Aside0.mk hb
  clear h hb
  by_cases c1 : b = true
  · subst c1
    replace H := (if_pos rfl).symm.trans H
    obtain ⟨cn, hcn_, H⟩ := Option.bind_eq_some_iff.mp H
    obtain ⟨dd, hd_, H⟩ := Option.bind_eq_some_iff.mp H
    have A2 := Aside0.mk hcn_
    have A3 := Aside0.mk hd_
    clear hcn_ hd_
    by_cases c2 : dd = true
    · subst c2
      replace H := (if_pos rfl).symm.trans H
      obtain ⟨sz, hsz, H⟩ := Option.bind_eq_some_iff.mp H
      have A4 := Aside0.mk hsz
      clear hsz
      by_cases c3 : 0 < a0
      · rw [if_pos c3] at H
        by_cases c4 : a0.toNat ≤ 35184372088832
        · rw [if_pos c4] at H
          have C3 := Aside0.mk c3
          have C4 := Aside0.mk c4
          clear c3 c4
          obtain ⟨ys, hys, H⟩ := Option.bind_eq_some_iff.mp H
          simp only [Option.some.injEq, Prod.mk.injEq] at H
          obtain ⟨rfl, rfl⟩ := H
          obtain ⟨y0, hy0⟩ : ∃ y : List Int, y = List.replicate a0.toNat 0 := ⟨_, rfl⟩
          rw [← hy0] at hys
          have Ny := Aside0.mk hy0
          have A5 := Aside0.mk hys
          clear hy0 hys
          go_enter Try.func52, Try.ntmps52
          go_wp2_with (first
            | ((with_reducible refine gate_dst (N := 2) rfl ?_); refine box_event ?hg (N := 2) ?hd (cs := #[.int .i64 a0]) (t := 3) ?hr ?_; (case hd => rfl); (case hg => rfl); (case hr => first | (go_simp; done) | (go_simp; rfl)); intro bn hbn w1 hbox hb; have n0_ := Aside0.mk (below_step HB.out hb); have EN := Aside0.mk (show w.heap.size ≤ bn by rw [hbn]; exact HB.out.size); have BN1 := Aside0.mk hbox; have hcn1 : w1.cell? ⟨bn, 0, none⟩ = some (.int .i64 a0) := (blk_cell hbox 0).trans rfl; clear HB hbox hb hbn; have HB := n0_; clear n0_)
            | ((with_reducible refine gate_dst (N := 3) rfl ?_); refine box_event ?hg (N := 3) ?hd (cs := #[.int .i64 a1]) (t := 3) ?hr ?_; (case hd => rfl); (case hg => rfl); (case hr => first | (go_simp; done) | (go_simp; rfl)); intro bk hbk w2 hbox hb; have n0_ := Aside0.mk (below_step HB.out hb); have NK := Aside0.mk (show bn < bk by rw [hbk]; exact blk_lt BN1.out); have BK2 := Aside0.mk hbox; have BN2 := Aside0.mk (blk_below BN1.out hb); have hck2 : w2.cell? ⟨bk, 0, none⟩ = some (.int .i64 a1) := (blk_cell hbox 0).trans rfl; have hcn2 : w2.cell? ⟨bn, 0, none⟩ = some (.int .i64 a0) := (blk_cell BN2.out 0).trans rfl; clear HB hbox hb hbk BN1 hcn1; have HB := n0_; clear n0_)
            | ((with_reducible refine gate_callee (f := 123) rfl ?_); (try (refine gate_guard (by rfl) ?_; dsimp only)); refine goesL_ (some 13) rfl rfl Try.func123 (by kernel_rfl) rfl #[.int .i64 a0, .int .i64 a1] rfl (by (try simp only [List.map_toArray, List.map_cons, List.map_nil]); first | done | rfl) ?_; (with_reducible refine (impl_isBruijnSize.calls k a0 a1 true _ A1.out).mono ?_); rintro e w3 ⟨rfl, ⟨nd3, rfl⟩⟩; refine ⟨_, rfl, ?_⟩; have hcn3 : (w2.drewN nd3).cell? ⟨bn, 0, none⟩ = some (.int .i64 a0) := hcn2; have hck3 : (w2.drewN nd3).cell? ⟨bk, 0, none⟩ = some (.int .i64 a1) := hck2)
            | ((with_reducible refine gate_callee (f := 124) rfl ?_); (try (refine gate_guard (by rfl) ?_; dsimp only)); refine goesL_ (some 18) rfl rfl Try.func124 (by kernel_rfl) rfl #[.int .i64 a0, .int .i64 a1] rfl (by (try simp only [List.map_toArray, List.map_cons, List.map_nil]); first | done | rfl) ?_; (with_reducible refine (impl_countBruijn.calls k a0 a1 cn _ A2.out).mono ?_); rintro e w4 ⟨rfl, hb⟩; refine ⟨_, rfl, ?_⟩; have n0_ : Aside0 (Below w.heap.size w w4) := ⟨below_step (pw_below_drewN HB.out _) hb⟩; have BN4 := Aside0.mk (blk_below (blk_drewN BN2.out nd3) hb); have BK4 := Aside0.mk (blk_below (blk_drewN BK2.out nd3) hb); have hcn4 : w4.cell? ⟨bn, 0, none⟩ = some (.int .i64 a0) := (blk_cell BN4.out 0).trans rfl; have hck4 : w4.cell? ⟨bk, 0, none⟩ = some (.int .i64 a1) := (blk_cell BK4.out 0).trans rfl; clear HB hb hcn3 hck3 hcn2 hck2 BN2 BK2; have HB := n0_; clear n0_)
            | ((with_reducible refine gate_callee (f := 68) rfl ?_); (try (refine gate_guard (by rfl) ?_; dsimp only)); refine goesL_ (some 19) rfl rfl Try.func68 (by kernel_rfl) rfl #[.int .i64 cn, .int .i64 0, .int .i64 40] rfl (by (try simp only [List.map_toArray, List.map_cons, List.map_nil]); first | done | rfl) ?_; (with_reducible refine (impl_within.calls cn 0 40 true _ A3.out).mono ?_); rintro e w5 ⟨rfl, ⟨nd5, rfl⟩⟩; refine ⟨_, rfl, ?_⟩; have hcn5 : (w4.drewN nd5).cell? ⟨bn, 0, none⟩ = some (.int .i64 a0) := hcn4; have hck5 : (w4.drewN nd5).cell? ⟨bk, 0, none⟩ = some (.int .i64 a1) := hck4)
            | ((with_reducible refine gate_callee (f := 94) rfl ?_); (try (refine gate_guard (by rfl) ?_; dsimp only)); refine goesL_ (some 24) rfl rfl Try.func94 (by kernel_rfl) rfl #[.int .i64 a1, .int .i64 a0] rfl (by (try simp only [List.map_toArray, List.map_cons, List.map_nil]); first | done | rfl) ?_; (with_reducible refine (impl_power.calls k a1 a0 sz _ A4.out).mono ?_); rintro e w6 ⟨rfl, ⟨nd6, rfl⟩⟩; refine ⟨_, rfl, ?_⟩)
            | ((with_reducible refine gate_dst (N := 6) rfl ?_); refine box_event ?hg (N := 6) ?hd (cs := #[.int .i64 0]) (t := 3) ?hr ?_; (case hd => rfl); (case hg => rfl); (case hr => first | (go_simp; done) | (go_simp; rfl)); intro bs hbs w7 hbox hb; have n0_ : Aside0 (Below w.heap.size w w7) := ⟨below_step (pw_below_drewN (pw_below_drewN HB.out _) _) hb⟩; have BN7 := Aside0.mk (blk_below (blk_drewN (blk_drewN BN4.out nd5) nd6) hb); have BK7 := Aside0.mk (blk_below (blk_drewN (blk_drewN BK4.out nd5) nd6) hb); have KS := Aside0.mk (show bk < bs by rw [hbs]; exact blk_lt BK4.out); have GS := Aside0.mk (show w.heap.size ≤ bs by have := EN.out; have := NK.out; have := KS.out; omega); have BS7 := Aside0.mk hbox; have hcs7 : w7.cell? ⟨bs, 0, none⟩ = some (.int .i64 0) := (blk_cell hbox 0).trans rfl; have hfs7 := blk_frozen hbox 0; clear HB hb hbs hbox hcn4 hck4 hcn5 hck5 BN4 BK4; have HB := n0_; clear n0_)
            | ((with_reducible refine gate_store (t := 3) (p := 6) rfl ?_); refine store_event (t := 3) (p := 6) (v := .tmp 24) (w1 := (w7.setCell ⟨bs, 0, none⟩ (.int .i64 sz))) ?hg ?ho ?hn ?hr ?_; (case ho => rfl); (case hg => rfl); (case hn => rfl); (case hr => first | (go_simp; done) | (go_simp; rfl)); intro w9 hw; have n0_ : Aside0 (Below w.heap.size w w9) := ⟨by rw [hw]; exact below_set HB.out GS.out⟩; have BN := Aside0.mk (show w9.heap[bn]? = some (.cells #[.int .i64 a0] 3 (0, 0)) by rw [hw]; exact blk_far BN7.out (show bn ≠ bs by have := NK.out; have := KS.out; omega) _); have BK := Aside0.mk (show w9.heap[bk]? = some (.cells #[.int .i64 a1] 3 (0, 0)) by rw [hw]; exact blk_far BK7.out (show bk ≠ bs by have := KS.out; omega) _); have BSZ := Aside0.mk (show w9.heap[bs]? = some (.cells #[.int .i64 sz] 3 (0, 0)) by rw [hw]; exact blk_put BS7.out 0 _ rfl); clear HB hw BN7 BK7 BS7 hcs7 hfs7; have HB := n0_; clear n0_; have hcn : w9.cell? ⟨bn, 0, none⟩ = some (.int .i64 a0) := (blk_cell BN.out 0).trans rfl; have hcd : w9.drew.cell? ⟨bn, 0, none⟩ = some (.int .i64 a0) := hcn; have HR := Aside0.mk (impl_AllBruijn.R4.start w9 y0)))
          refine start_ (n := 7) (S := fun w' => w'.cell? ⟨bn, 0, none⟩ = some (.int .i64 a0)) (ds := [6]) #[false, false, false, false, false, false, false] (by kernel_rfl) rfl rfl (hcd) (fun hHeld => ?_)
          refine take_ (i := 1) (N := some 26) (v := ?_) (a' := ?_) #[false, true, false, false, false, false, false] rfl rfl (by kernel_rfl) (fun _ _ _ h => h) (Or.inl ⟨by rfl, ?_⟩) hHeld ?_ ?_
          rotate_left
          · intro w' s0
            go_simp
            with_reducible rfl
          rotate_left
          · simp only [Act.put, List.setIfInBounds_toArray, List.set_cons_zero, List.set_cons_succ, i64_w, i32_w]
            rfl
          refine join_ (σ := Option Addr × Nat × Nat × Nat × Nat × Nat × Nat) 1 #[true, true, true, true, true, true, false] (fun s => [(25, .slice s.1 0 s.2.1), (27, .slice (some ⟨s.2.2.2.1, 0, none⟩) y0.length s.2.2.2.2.1), (7, .pointer (some ⟨s.2.2.2.2.2.1, 0, none⟩)), (8, .pointer (some ⟨s.2.2.2.2.2.2, 0, none⟩))]) (fun s w' => impl_AllBruijn.R4 w9 w' y0 true true true true true s.1 s.2.1 s.2.2.1 s.2.2.2.1 s.2.2.2.2.1 s.2.2.2.2.2.1 s.2.2.2.2.2.2) ?_ ?_
          rotate_left
          · intro hJ0_2_3_4_5
            refine join_ (σ := Option Addr × Nat × Nat × Nat × Nat × Nat × Nat) 2 #[true, true, true, true, true, false, false] (fun s => [(25, .slice s.1 0 s.2.1), (27, .slice (some ⟨s.2.2.2.1, 0, none⟩) y0.length s.2.2.2.2.1), (7, .pointer (some ⟨s.2.2.2.2.2.1, 0, none⟩)), (8, .pointer (some ⟨s.2.2.2.2.2.2, 0, none⟩))]) (fun s w' => impl_AllBruijn.R4 w9 w' y0 true true true true false s.1 s.2.1 s.2.2.1 s.2.2.2.1 s.2.2.2.2.1 s.2.2.2.2.2.1 s.2.2.2.2.2.2) ?_ ?_
            rotate_left
            · intro hJ0_2_3_4
              refine join_ (σ := Option Addr × Nat × Nat × Nat × Nat × Nat × Nat) 2 #[true, true, false, true, true, true, false] (fun s => [(25, .slice s.1 0 s.2.1), (7, .pointer (some ⟨s.2.2.2.2.2.1, 0, none⟩)), (8, .pointer (some ⟨s.2.2.2.2.2.2, 0, none⟩))]) (fun s w' => impl_AllBruijn.R4 w9 w' y0 true false true true true s.1 s.2.1 s.2.2.1 s.2.2.2.1 s.2.2.2.2.1 s.2.2.2.2.2.1 s.2.2.2.2.2.2) ?_ ?_
              rotate_left
              · intro hJ0_3_4_5
                refine join_ (σ := Option Addr × Nat × Nat × Nat × Nat × Nat × Nat) 3 #[true, true, true, true, false, false, false] (fun s => [(25, .slice s.1 0 s.2.1), (27, .slice (some ⟨s.2.2.2.1, 0, none⟩) y0.length s.2.2.2.2.1), (7, .pointer (some ⟨s.2.2.2.2.2.1, 0, none⟩))]) (fun s w' => impl_AllBruijn.R4 w9 w' y0 true true true false false s.1 s.2.1 s.2.2.1 s.2.2.2.1 s.2.2.2.2.1 s.2.2.2.2.2.1 s.2.2.2.2.2.2) ?_ ?_
                rotate_left
                · intro hJ0_2_3
                  refine join_ (σ := Option Addr × Nat × Nat × Nat × Nat × Nat × Nat) 3 #[true, true, true, false, true, false, false] (fun s => [(25, .slice s.1 0 s.2.1), (27, .slice (some ⟨s.2.2.2.1, 0, none⟩) y0.length s.2.2.2.2.1), (8, .pointer (some ⟨s.2.2.2.2.2.2, 0, none⟩))]) (fun s w' => impl_AllBruijn.R4 w9 w' y0 true true false true false s.1 s.2.1 s.2.2.1 s.2.2.2.1 s.2.2.2.2.1 s.2.2.2.2.2.1 s.2.2.2.2.2.2) ?_ ?_
                  rotate_left
                  · intro hJ0_2_4
                    refine join_ (σ := Option Addr × Nat × Nat × Nat × Nat × Nat × Nat) 3 #[true, true, false, true, true, false, false] (fun s => [(25, .slice s.1 0 s.2.1), (7, .pointer (some ⟨s.2.2.2.2.2.1, 0, none⟩)), (8, .pointer (some ⟨s.2.2.2.2.2.2, 0, none⟩))]) (fun s w' => impl_AllBruijn.R4 w9 w' y0 true false true true false s.1 s.2.1 s.2.2.1 s.2.2.2.1 s.2.2.2.2.1 s.2.2.2.2.2.1 s.2.2.2.2.2.2) ?_ ?_
                    rotate_left
                    · intro hJ0_3_4
                      refine join_ (σ := Option Addr × Nat × Nat × Nat × Nat × Nat × Nat) 3 #[false, true, true, true, true, false, false] (fun s => [(27, .slice (some ⟨s.2.2.2.1, 0, none⟩) y0.length s.2.2.2.2.1), (7, .pointer (some ⟨s.2.2.2.2.2.1, 0, none⟩)), (8, .pointer (some ⟨s.2.2.2.2.2.2, 0, none⟩))]) (fun s w' => impl_AllBruijn.R4 w9 w' y0 false true true true false s.1 s.2.1 s.2.2.1 s.2.2.2.1 s.2.2.2.2.1 s.2.2.2.2.2.1 s.2.2.2.2.2.2) ?_ ?_
                      rotate_left
                      · intro hJ2_3_4
                        refine join_ (σ := Option Addr × Nat × Nat × Nat × Nat × Nat × Nat) 4 #[true, true, true, false, false, false, false] (fun s => [(25, .slice s.1 0 s.2.1), (27, .slice (some ⟨s.2.2.2.1, 0, none⟩) y0.length s.2.2.2.2.1)]) (fun s w' => impl_AllBruijn.R4 w9 w' y0 true true false false false s.1 s.2.1 s.2.2.1 s.2.2.2.1 s.2.2.2.2.1 s.2.2.2.2.2.1 s.2.2.2.2.2.2) ?_ ?_
                        rotate_left
                        · intro hJ0_2
                          refine join_ (σ := Option Addr × Nat × Nat × Nat × Nat × Nat × Nat) 4 #[true, true, false, true, false, false, false] (fun s => [(25, .slice s.1 0 s.2.1), (7, .pointer (some ⟨s.2.2.2.2.2.1, 0, none⟩))]) (fun s w' => impl_AllBruijn.R4 w9 w' y0 true false true false false s.1 s.2.1 s.2.2.1 s.2.2.2.1 s.2.2.2.2.1 s.2.2.2.2.2.1 s.2.2.2.2.2.2) ?_ ?_
                          rotate_left
                          · intro hJ0_3
                            refine join_ (σ := Option Addr × Nat × Nat × Nat × Nat × Nat × Nat) 4 #[true, true, false, false, true, false, false] (fun s => [(25, .slice s.1 0 s.2.1), (8, .pointer (some ⟨s.2.2.2.2.2.2, 0, none⟩))]) (fun s w' => impl_AllBruijn.R4 w9 w' y0 true false false true false s.1 s.2.1 s.2.2.1 s.2.2.2.1 s.2.2.2.2.1 s.2.2.2.2.2.1 s.2.2.2.2.2.2) ?_ ?_
                            rotate_left
                            · intro hJ0_4
                              refine join_ (σ := Option Addr × Nat × Nat × Nat × Nat × Nat × Nat) 4 #[false, true, true, true, false, false, false] (fun s => [(27, .slice (some ⟨s.2.2.2.1, 0, none⟩) y0.length s.2.2.2.2.1), (7, .pointer (some ⟨s.2.2.2.2.2.1, 0, none⟩))]) (fun s w' => impl_AllBruijn.R4 w9 w' y0 false true true false false s.1 s.2.1 s.2.2.1 s.2.2.2.1 s.2.2.2.2.1 s.2.2.2.2.2.1 s.2.2.2.2.2.2) ?_ ?_
                              rotate_left
                              · intro hJ2_3
                                refine join_ (σ := Option Addr × Nat × Nat × Nat × Nat × Nat × Nat) 4 #[false, true, true, false, true, false, false] (fun s => [(27, .slice (some ⟨s.2.2.2.1, 0, none⟩) y0.length s.2.2.2.2.1), (8, .pointer (some ⟨s.2.2.2.2.2.2, 0, none⟩))]) (fun s w' => impl_AllBruijn.R4 w9 w' y0 false true false true false s.1 s.2.1 s.2.2.1 s.2.2.2.1 s.2.2.2.2.1 s.2.2.2.2.2.1 s.2.2.2.2.2.2) ?_ ?_
                                rotate_left
                                · intro hJ2_4
                                  refine join_ (σ := Option Addr × Nat × Nat × Nat × Nat × Nat × Nat) 4 #[false, true, false, true, true, false, false] (fun s => [(7, .pointer (some ⟨s.2.2.2.2.2.1, 0, none⟩)), (8, .pointer (some ⟨s.2.2.2.2.2.2, 0, none⟩))]) (fun s w' => impl_AllBruijn.R4 w9 w' y0 false false true true false s.1 s.2.1 s.2.2.1 s.2.2.2.1 s.2.2.2.2.1 s.2.2.2.2.2.1 s.2.2.2.2.2.2) ?_ ?_
                                  rotate_left
                                  · intro hJ3_4
                                    refine join_ (σ := Option Addr × Nat × Nat × Nat × Nat × Nat × Nat) 5 #[true, true, false, false, false, false, false] (fun s => [(25, .slice s.1 0 s.2.1)]) (fun s w' => impl_AllBruijn.R4 w9 w' y0 true false false false false s.1 s.2.1 s.2.2.1 s.2.2.2.1 s.2.2.2.2.1 s.2.2.2.2.2.1 s.2.2.2.2.2.2) ?_ ?_
                                    rotate_left
                                    · intro hJ0
                                      refine join_ (σ := Option Addr × Nat × Nat × Nat × Nat × Nat × Nat) 5 #[false, true, true, false, false, false, false] (fun s => [(27, .slice (some ⟨s.2.2.2.1, 0, none⟩) y0.length s.2.2.2.2.1)]) (fun s w' => impl_AllBruijn.R4 w9 w' y0 false true false false false s.1 s.2.1 s.2.2.1 s.2.2.2.1 s.2.2.2.2.1 s.2.2.2.2.2.1 s.2.2.2.2.2.2) ?_ ?_
                                      rotate_left
                                      · intro hJ2
                                        refine join_ (σ := Option Addr × Nat × Nat × Nat × Nat × Nat × Nat) 5 #[false, true, false, true, false, false, false] (fun s => [(7, .pointer (some ⟨s.2.2.2.2.2.1, 0, none⟩))]) (fun s w' => impl_AllBruijn.R4 w9 w' y0 false false true false false s.1 s.2.1 s.2.2.1 s.2.2.2.1 s.2.2.2.2.1 s.2.2.2.2.2.1 s.2.2.2.2.2.2) ?_ ?_
                                        rotate_left
                                        · intro hJ3
                                          refine join_ (σ := Option Addr × Nat × Nat × Nat × Nat × Nat × Nat) 5 #[false, true, false, false, true, false, false] (fun s => [(8, .pointer (some ⟨s.2.2.2.2.2.2, 0, none⟩))]) (fun s w' => impl_AllBruijn.R4 w9 w' y0 false false false true false s.1 s.2.1 s.2.2.1 s.2.2.2.1 s.2.2.2.2.1 s.2.2.2.2.2.1 s.2.2.2.2.2.2) ?_ ?_
                                          rotate_left
                                          · intro hJ4
                                            refine four_ (i := 0) (j := 2) (k := 3) (m := 4) (Ni := some 25) (Nj := some 27) (Nk := some 7) (Nm := some 8) #[true, true, false, false, false, false, false] #[false, true, true, false, false, false, false] #[false, true, false, true, false, false, false] #[false, true, false, false, true, false, false] rfl rfl rfl rfl rfl rfl rfl rfl (by kernel_rfl) (by decide) (by decide) (by decide) (by decide) (fun K hK => ?_) (fun K hK => ?_) (fun K hK => ?_) (fun K hK => ?_)
                                            · skip
                                              refine Kd.S_lits_step (Kd.slice 3 (Kd.int .i64)) (w0 := w9) w9.heap.size 44 (by rfl) (N := 25) rfl (xs := ([] : List (List Int))) (inner := []) (ok := fun k => k = (w9.drew).heap.size) (fun _ _ => False) ?hr rfl ?hv ?hp ?hq rfl HR.out.1 HR.out.1.size (by simp) ?_
                                              case hr => first | (go_simp; done) | (go_simp; rfl)
                                              case hv => intro j x hx; simp at hx
                                              case hp => intro p_ q_ k hp hq; exact hp.elim
                                              case hq => intro j k hk; exact hk.elim
                                              intro v25 w1 ho hb hg hnew
                                              obtain ⟨A1, c1, e1⟩ := Kd.S_slice ho
                                              subst e1
                                              have hr1_ := Aside0.mk (HR.out.list (impl_AllBruijn.gb hg) ho hnew)
                                              refine hK.out _ _ ((hr1_.out).cell hcn) (fun hHeld => ?_)
                                              clear hK K
                                              refine norm_ (a' := ?_) ?_ ?_
                                              rotate_left
                                              · show Act.put _ (some 25) _ = _
                                                simp only [Act.put, List.setIfInBounds_toArray, List.set_cons_zero, List.set_cons_succ, i64_w, i32_w]
                                                rfl
                                              exact norm_ (by first | (simp only [putAll, Act.put, List.setIfInBounds_toArray, List.set_cons_zero, List.set_cons_succ]; done) | (simp only [putAll, Act.put, List.setIfInBounds_toArray, List.set_cons_zero, List.set_cons_succ]; rfl)) (hJ0 ⟨A1, c1, (w9.drew).heap.size, 0, 0, 0, 0⟩ _ hr1_.out)
                                            · skip
                                              refine Kd.R_make_step (Kd.int .i64) (w0 := w9) w9.heap.size 3 (by rfl) (N := 27) rfl 44 _ _ rfl a0 rfl rfl Try.underlying44 (.int .i64 0) 8 info3 rfl (by decide) (by omega) 0 (ok := fun _ => True) (okp := fun _ => True) rfl (fun _ hk => hk) trivial (by have := C3.out; omega) (Nat.le_trans (Nat.mul_le_mul_right _ C4.out) (by omega)) HR.out.1 HR.out.1.size ?_
                                              intro v27 w1 ho hb hg hnew
                                              rw [← Ny.out] at ho
                                              obtain ⟨g1, c1, e1, _⟩ := Kd.R_form ho (by rw [Ny.out, List.length_replicate]; have := C3.out; omega)
                                              subst e1
                                              have hr1_ := Aside0.mk (HR.out.word (impl_AllBruijn.gb hg) ho hnew)
                                              refine hK.out _ _ ((hr1_.out).cell hcn) (fun hHeld => ?_)
                                              clear hK K
                                              refine norm_ (a' := ?_) ?_ ?_
                                              rotate_left
                                              · show Act.put _ (some 27) _ = _
                                                simp only [Act.put, List.setIfInBounds_toArray, List.set_cons_zero, List.set_cons_succ, i64_w, i32_w]
                                                rfl
                                              exact norm_ (by first | (simp only [putAll, Act.put, List.setIfInBounds_toArray, List.set_cons_zero, List.set_cons_succ]; done) | (simp only [putAll, Act.put, List.setIfInBounds_toArray, List.set_cons_zero, List.set_cons_succ]; rfl)) (hJ2 ⟨none, 0, 0, g1, c1, 0, 0⟩ _ hr1_.out)
                                            · skip
                                              refine value_ (w1 := ?_) (v := ?_) (by rfl) rfl ?_ ?_
                                              rotate_left 2
                                              · go_simp
                                                constructor
                                                · rfl
                                                · rfl
                                              refine hK.out _ _ ((HR.out.listBox).cell hcn) (fun hHeld => ?_)
                                              clear hK K
                                              refine norm_ (a' := ?_) ?_ ?_
                                              rotate_left
                                              · show Act.put _ (some 7) _ = _
                                                simp only [Act.put, List.setIfInBounds_toArray, List.set_cons_zero, List.set_cons_succ, i64_w, i32_w]
                                                rfl
                                              exact norm_ (by first | (simp only [putAll, Act.put, List.setIfInBounds_toArray, List.set_cons_zero, List.set_cons_succ]; done) | (simp only [putAll, Act.put, List.setIfInBounds_toArray, List.set_cons_zero, List.set_cons_succ]; rfl)) (hJ3 ⟨none, 0, 0, 0, 0, (w9.drew).heap.size, 0⟩ _ HR.out.listBox)
                                            · skip
                                              refine value_ (w1 := ?_) (v := ?_) (by rfl) rfl ?_ ?_
                                              rotate_left 2
                                              · go_simp
                                                constructor
                                                · rfl
                                                · rfl
                                              refine hK.out _ _ ((HR.out.wordBox).cell hcn) (fun hHeld => ?_)
                                              clear hK K
                                              refine norm_ (a' := ?_) ?_ ?_
                                              rotate_left
                                              · show Act.put _ (some 8) _ = _
                                                simp only [Act.put, List.setIfInBounds_toArray, List.set_cons_zero, List.set_cons_succ, i64_w, i32_w]
                                                rfl
                                              exact norm_ (by first | (simp only [putAll, Act.put, List.setIfInBounds_toArray, List.set_cons_zero, List.set_cons_succ]; done) | (simp only [putAll, Act.put, List.setIfInBounds_toArray, List.set_cons_zero, List.set_cons_succ]; rfl)) (hJ4 ⟨none, 0, 0, 0, 0, 0, (w9.drew).heap.size⟩ _ HR.out.wordBox)
                                          · skip
                                            rintro ⟨A0, c0, i0, g, c, b7, b8⟩ wx hr_
                                            have HR : Aside0 (impl_AllBruijn.R4 w9 wx y0 false false false true false A0 c0 i0 g c b7 b8) := ⟨hr_⟩
                                            clear hr_
                                            have hHeld : wx.cell? ⟨bn, 0, none⟩ = some (.int .i64 a0) := HR.out.cell hcn
                                            refine norm_ (a' := ?_) ?_ ?_
                                            rotate_left
                                            · simp only [putAll, Act.put, List.setIfInBounds_toArray, List.set_cons_zero, List.set_cons_succ]
                                              rfl
                                            refine three_ (i := 0) (j := 2) (k := 3) (Ni := some 25) (Nj := some 27) (Nk := some 7) #[true, true, false, false, true, false, false] #[false, true, true, false, true, false, false] #[false, true, false, true, true, false, false] rfl rfl rfl rfl rfl rfl (by kernel_rfl) (by decide) (by decide) (by decide) (fun K hK => ?_) (fun K hK => ?_) (fun K hK => ?_)
                                            · skip
                                              refine Kd.S_lits_step (Kd.slice 3 (Kd.int .i64)) (w0 := w9) w9.heap.size 44 (by rfl) (N := 25) rfl (xs := ([] : List (List Int))) (inner := []) (ok := fun k => k = (wx).heap.size) (fun _ _ => False) ?hr rfl ?hv ?hp ?hq rfl HR.out.1 HR.out.1.size (by simp) ?_
                                              case hr => first | (go_simp; done) | (go_simp; rfl)
                                              case hv => intro j x hx; simp at hx
                                              case hp => intro p_ q_ k hp hq; exact hp.elim
                                              case hq => intro j k hk; exact hk.elim
                                              intro v25 w1 ho hb hg hnew
                                              obtain ⟨A1, c1, e1⟩ := Kd.S_slice ho
                                              subst e1
                                              have hr1_ := Aside0.mk (HR.out.list (impl_AllBruijn.gb hg) ho hnew)
                                              refine hK.out _ _ ((hr1_.out).cell hcn) (fun hHeld => ?_)
                                              clear hK K
                                              refine norm_ (a' := ?_) ?_ ?_
                                              rotate_left
                                              · show Act.put _ (some 25) _ = _
                                                simp only [Act.put, List.setIfInBounds_toArray, List.set_cons_zero, List.set_cons_succ, i64_w, i32_w]
                                                rfl
                                              exact norm_ (by first | (simp only [putAll, Act.put, List.setIfInBounds_toArray, List.set_cons_zero, List.set_cons_succ]; done) | (simp only [putAll, Act.put, List.setIfInBounds_toArray, List.set_cons_zero, List.set_cons_succ]; rfl)) (hJ0_4 ⟨A1, c1, (wx).heap.size, g, c, b7, b8⟩ _ hr1_.out)
                                            · skip
                                              refine Kd.R_make_step (Kd.int .i64) (w0 := w9) w9.heap.size 3 (by rfl) (N := 27) rfl 44 _ _ rfl a0 rfl rfl Try.underlying44 (.int .i64 0) 8 info3 rfl (by decide) (by omega) 0 (ok := fun _ => True) (okp := fun _ => True) rfl (fun _ hk => hk) trivial (by have := C3.out; omega) (Nat.le_trans (Nat.mul_le_mul_right _ C4.out) (by omega)) HR.out.1 HR.out.1.size ?_
                                              intro v27 w1 ho hb hg hnew
                                              rw [← Ny.out] at ho
                                              obtain ⟨g1, c1, e1, _⟩ := Kd.R_form ho (by rw [Ny.out, List.length_replicate]; have := C3.out; omega)
                                              subst e1
                                              have hr1_ := Aside0.mk (HR.out.word (impl_AllBruijn.gb hg) ho hnew)
                                              refine hK.out _ _ ((hr1_.out).cell hcn) (fun hHeld => ?_)
                                              clear hK K
                                              refine norm_ (a' := ?_) ?_ ?_
                                              rotate_left
                                              · show Act.put _ (some 27) _ = _
                                                simp only [Act.put, List.setIfInBounds_toArray, List.set_cons_zero, List.set_cons_succ, i64_w, i32_w]
                                                rfl
                                              exact norm_ (by first | (simp only [putAll, Act.put, List.setIfInBounds_toArray, List.set_cons_zero, List.set_cons_succ]; done) | (simp only [putAll, Act.put, List.setIfInBounds_toArray, List.set_cons_zero, List.set_cons_succ]; rfl)) (hJ2_4 ⟨A0, c0, i0, g1, c1, b7, b8⟩ _ hr1_.out)
                                            · skip
                                              refine value_ (w1 := ?_) (v := ?_) (by rfl) rfl ?_ ?_
                                              rotate_left 2
                                              · go_simp
                                                constructor
                                                · rfl
                                                · rfl
                                              refine hK.out _ _ ((HR.out.listBox).cell hcn) (fun hHeld => ?_)
                                              clear hK K
                                              refine norm_ (a' := ?_) ?_ ?_
                                              rotate_left
                                              · show Act.put _ (some 7) _ = _
                                                simp only [Act.put, List.setIfInBounds_toArray, List.set_cons_zero, List.set_cons_succ, i64_w, i32_w]
                                                rfl
                                              exact norm_ (by first | (simp only [putAll, Act.put, List.setIfInBounds_toArray, List.set_cons_zero, List.set_cons_succ]; done) | (simp only [putAll, Act.put, List.setIfInBounds_toArray, List.set_cons_zero, List.set_cons_succ]; rfl)) (hJ3_4 ⟨A0, c0, i0, g, c, (wx).heap.size, b8⟩ _ HR.out.listBox)
                                        · skip
                                          rintro ⟨A0, c0, i0, g, c, b7, b8⟩ wx hr_
                                          have HR : Aside0 (impl_AllBruijn.R4 w9 wx y0 false false true false false A0 c0 i0 g c b7 b8) := ⟨hr_⟩
                                          clear hr_
                                          have hHeld : wx.cell? ⟨bn, 0, none⟩ = some (.int .i64 a0) := HR.out.cell hcn
                                          refine norm_ (a' := ?_) ?_ ?_
                                          rotate_left
                                          · simp only [putAll, Act.put, List.setIfInBounds_toArray, List.set_cons_zero, List.set_cons_succ]
                                            rfl
                                          refine three_ (i := 0) (j := 2) (k := 4) (Ni := some 25) (Nj := some 27) (Nk := some 8) #[true, true, false, true, false, false, false] #[false, true, true, true, false, false, false] #[false, true, false, true, true, false, false] rfl rfl rfl rfl rfl rfl (by kernel_rfl) (by decide) (by decide) (by decide) (fun K hK => ?_) (fun K hK => ?_) (fun K hK => ?_)
                                          · skip
                                            refine Kd.S_lits_step (Kd.slice 3 (Kd.int .i64)) (w0 := w9) w9.heap.size 44 (by rfl) (N := 25) rfl (xs := ([] : List (List Int))) (inner := []) (ok := fun k => k = (wx).heap.size) (fun _ _ => False) ?hr rfl ?hv ?hp ?hq rfl HR.out.1 HR.out.1.size (by simp) ?_
                                            case hr => first | (go_simp; done) | (go_simp; rfl)
                                            case hv => intro j x hx; simp at hx
                                            case hp => intro p_ q_ k hp hq; exact hp.elim
                                            case hq => intro j k hk; exact hk.elim
                                            intro v25 w1 ho hb hg hnew
                                            obtain ⟨A1, c1, e1⟩ := Kd.S_slice ho
                                            subst e1
                                            have hr1_ := Aside0.mk (HR.out.list (impl_AllBruijn.gb hg) ho hnew)
                                            refine hK.out _ _ ((hr1_.out).cell hcn) (fun hHeld => ?_)
                                            clear hK K
                                            refine norm_ (a' := ?_) ?_ ?_
                                            rotate_left
                                            · show Act.put _ (some 25) _ = _
                                              simp only [Act.put, List.setIfInBounds_toArray, List.set_cons_zero, List.set_cons_succ, i64_w, i32_w]
                                              rfl
                                            exact norm_ (by first | (simp only [putAll, Act.put, List.setIfInBounds_toArray, List.set_cons_zero, List.set_cons_succ]; done) | (simp only [putAll, Act.put, List.setIfInBounds_toArray, List.set_cons_zero, List.set_cons_succ]; rfl)) (hJ0_3 ⟨A1, c1, (wx).heap.size, g, c, b7, b8⟩ _ hr1_.out)
                                          · skip
                                            refine Kd.R_make_step (Kd.int .i64) (w0 := w9) w9.heap.size 3 (by rfl) (N := 27) rfl 44 _ _ rfl a0 rfl rfl Try.underlying44 (.int .i64 0) 8 info3 rfl (by decide) (by omega) 0 (ok := fun _ => True) (okp := fun _ => True) rfl (fun _ hk => hk) trivial (by have := C3.out; omega) (Nat.le_trans (Nat.mul_le_mul_right _ C4.out) (by omega)) HR.out.1 HR.out.1.size ?_
                                            intro v27 w1 ho hb hg hnew
                                            rw [← Ny.out] at ho
                                            obtain ⟨g1, c1, e1, _⟩ := Kd.R_form ho (by rw [Ny.out, List.length_replicate]; have := C3.out; omega)
                                            subst e1
                                            have hr1_ := Aside0.mk (HR.out.word (impl_AllBruijn.gb hg) ho hnew)
                                            refine hK.out _ _ ((hr1_.out).cell hcn) (fun hHeld => ?_)
                                            clear hK K
                                            refine norm_ (a' := ?_) ?_ ?_
                                            rotate_left
                                            · show Act.put _ (some 27) _ = _
                                              simp only [Act.put, List.setIfInBounds_toArray, List.set_cons_zero, List.set_cons_succ, i64_w, i32_w]
                                              rfl
                                            exact norm_ (by first | (simp only [putAll, Act.put, List.setIfInBounds_toArray, List.set_cons_zero, List.set_cons_succ]; done) | (simp only [putAll, Act.put, List.setIfInBounds_toArray, List.set_cons_zero, List.set_cons_succ]; rfl)) (hJ2_3 ⟨A0, c0, i0, g1, c1, b7, b8⟩ _ hr1_.out)
                                          · skip
                                            refine value_ (w1 := ?_) (v := ?_) (by rfl) rfl ?_ ?_
                                            rotate_left 2
                                            · go_simp
                                              constructor
                                              · rfl
                                              · rfl
                                            refine hK.out _ _ ((HR.out.wordBox).cell hcn) (fun hHeld => ?_)
                                            clear hK K
                                            refine norm_ (a' := ?_) ?_ ?_
                                            rotate_left
                                            · show Act.put _ (some 8) _ = _
                                              simp only [Act.put, List.setIfInBounds_toArray, List.set_cons_zero, List.set_cons_succ, i64_w, i32_w]
                                              rfl
                                            exact norm_ (by first | (simp only [putAll, Act.put, List.setIfInBounds_toArray, List.set_cons_zero, List.set_cons_succ]; done) | (simp only [putAll, Act.put, List.setIfInBounds_toArray, List.set_cons_zero, List.set_cons_succ]; rfl)) (hJ3_4 ⟨A0, c0, i0, g, c, b7, (wx).heap.size⟩ _ HR.out.wordBox)
                                      · skip
                                        rintro ⟨A0, c0, i0, g, c, b7, b8⟩ wx hr_
                                        have HR : Aside0 (impl_AllBruijn.R4 w9 wx y0 false true false false false A0 c0 i0 g c b7 b8) := ⟨hr_⟩
                                        clear hr_
                                        have hHeld : wx.cell? ⟨bn, 0, none⟩ = some (.int .i64 a0) := HR.out.cell hcn
                                        refine norm_ (a' := ?_) ?_ ?_
                                        rotate_left
                                        · simp only [putAll, Act.put, List.setIfInBounds_toArray, List.set_cons_zero, List.set_cons_succ]
                                          rfl
                                        refine three_ (i := 0) (j := 3) (k := 4) (Ni := some 25) (Nj := some 7) (Nk := some 8) #[true, true, true, false, false, false, false] #[false, true, true, true, false, false, false] #[false, true, true, false, true, false, false] rfl rfl rfl rfl rfl rfl (by kernel_rfl) (by decide) (by decide) (by decide) (fun K hK => ?_) (fun K hK => ?_) (fun K hK => ?_)
                                        · skip
                                          refine Kd.S_lits_step (Kd.slice 3 (Kd.int .i64)) (w0 := w9) w9.heap.size 44 (by rfl) (N := 25) rfl (xs := ([] : List (List Int))) (inner := []) (ok := fun k => k = (wx).heap.size) (fun _ _ => False) ?hr rfl ?hv ?hp ?hq rfl HR.out.1 HR.out.1.size (by simp) ?_
                                          case hr => first | (go_simp; done) | (go_simp; rfl)
                                          case hv => intro j x hx; simp at hx
                                          case hp => intro p_ q_ k hp hq; exact hp.elim
                                          case hq => intro j k hk; exact hk.elim
                                          intro v25 w1 ho hb hg hnew
                                          obtain ⟨A1, c1, e1⟩ := Kd.S_slice ho
                                          subst e1
                                          have hr1_ := Aside0.mk (HR.out.list (impl_AllBruijn.gb hg) ho hnew)
                                          refine hK.out _ _ ((hr1_.out).cell hcn) (fun hHeld => ?_)
                                          clear hK K
                                          refine norm_ (a' := ?_) ?_ ?_
                                          rotate_left
                                          · show Act.put _ (some 25) _ = _
                                            simp only [Act.put, List.setIfInBounds_toArray, List.set_cons_zero, List.set_cons_succ, i64_w, i32_w]
                                            rfl
                                          exact norm_ (by first | (simp only [putAll, Act.put, List.setIfInBounds_toArray, List.set_cons_zero, List.set_cons_succ]; done) | (simp only [putAll, Act.put, List.setIfInBounds_toArray, List.set_cons_zero, List.set_cons_succ]; rfl)) (hJ0_2 ⟨A1, c1, (wx).heap.size, g, c, b7, b8⟩ _ hr1_.out)
                                        · skip
                                          refine value_ (w1 := ?_) (v := ?_) (by rfl) rfl ?_ ?_
                                          rotate_left 2
                                          · go_simp
                                            constructor
                                            · rfl
                                            · rfl
                                          refine hK.out _ _ ((HR.out.listBox).cell hcn) (fun hHeld => ?_)
                                          clear hK K
                                          refine norm_ (a' := ?_) ?_ ?_
                                          rotate_left
                                          · show Act.put _ (some 7) _ = _
                                            simp only [Act.put, List.setIfInBounds_toArray, List.set_cons_zero, List.set_cons_succ, i64_w, i32_w]
                                            rfl
                                          exact norm_ (by first | (simp only [putAll, Act.put, List.setIfInBounds_toArray, List.set_cons_zero, List.set_cons_succ]; done) | (simp only [putAll, Act.put, List.setIfInBounds_toArray, List.set_cons_zero, List.set_cons_succ]; rfl)) (hJ2_3 ⟨A0, c0, i0, g, c, (wx).heap.size, b8⟩ _ HR.out.listBox)
                                        · skip
                                          refine value_ (w1 := ?_) (v := ?_) (by rfl) rfl ?_ ?_
                                          rotate_left 2
                                          · go_simp
                                            constructor
                                            · rfl
                                            · rfl
                                          refine hK.out _ _ ((HR.out.wordBox).cell hcn) (fun hHeld => ?_)
                                          clear hK K
                                          refine norm_ (a' := ?_) ?_ ?_
                                          rotate_left
                                          · show Act.put _ (some 8) _ = _
                                            simp only [Act.put, List.setIfInBounds_toArray, List.set_cons_zero, List.set_cons_succ, i64_w, i32_w]
                                            rfl
                                          exact norm_ (by first | (simp only [putAll, Act.put, List.setIfInBounds_toArray, List.set_cons_zero, List.set_cons_succ]; done) | (simp only [putAll, Act.put, List.setIfInBounds_toArray, List.set_cons_zero, List.set_cons_succ]; rfl)) (hJ2_4 ⟨A0, c0, i0, g, c, b7, (wx).heap.size⟩ _ HR.out.wordBox)
                                    · skip
                                      rintro ⟨A0, c0, i0, g, c, b7, b8⟩ wx hr_
                                      have HR : Aside0 (impl_AllBruijn.R4 w9 wx y0 true false false false false A0 c0 i0 g c b7 b8) := ⟨hr_⟩
                                      clear hr_
                                      have hHeld : wx.cell? ⟨bn, 0, none⟩ = some (.int .i64 a0) := HR.out.cell hcn
                                      refine norm_ (a' := ?_) ?_ ?_
                                      rotate_left
                                      · simp only [putAll, Act.put, List.setIfInBounds_toArray, List.set_cons_zero, List.set_cons_succ]
                                        rfl
                                      refine three_ (i := 2) (j := 3) (k := 4) (Ni := some 27) (Nj := some 7) (Nk := some 8) #[true, true, true, false, false, false, false] #[true, true, false, true, false, false, false] #[true, true, false, false, true, false, false] rfl rfl rfl rfl rfl rfl (by kernel_rfl) (by decide) (by decide) (by decide) (fun K hK => ?_) (fun K hK => ?_) (fun K hK => ?_)
                                      · skip
                                        refine Kd.R_make_step (Kd.int .i64) (w0 := w9) w9.heap.size 3 (by rfl) (N := 27) rfl 44 _ _ rfl a0 rfl rfl Try.underlying44 (.int .i64 0) 8 info3 rfl (by decide) (by omega) 0 (ok := fun _ => True) (okp := fun _ => True) rfl (fun _ hk => hk) trivial (by have := C3.out; omega) (Nat.le_trans (Nat.mul_le_mul_right _ C4.out) (by omega)) HR.out.1 HR.out.1.size ?_
                                        intro v27 w1 ho hb hg hnew
                                        rw [← Ny.out] at ho
                                        obtain ⟨g1, c1, e1, _⟩ := Kd.R_form ho (by rw [Ny.out, List.length_replicate]; have := C3.out; omega)
                                        subst e1
                                        have hr1_ := Aside0.mk (HR.out.word (impl_AllBruijn.gb hg) ho hnew)
                                        refine hK.out _ _ ((hr1_.out).cell hcn) (fun hHeld => ?_)
                                        clear hK K
                                        refine norm_ (a' := ?_) ?_ ?_
                                        rotate_left
                                        · show Act.put _ (some 27) _ = _
                                          simp only [Act.put, List.setIfInBounds_toArray, List.set_cons_zero, List.set_cons_succ, i64_w, i32_w]
                                          rfl
                                        exact norm_ (by first | (simp only [putAll, Act.put, List.setIfInBounds_toArray, List.set_cons_zero, List.set_cons_succ]; done) | (simp only [putAll, Act.put, List.setIfInBounds_toArray, List.set_cons_zero, List.set_cons_succ]; rfl)) (hJ0_2 ⟨A0, c0, i0, g1, c1, b7, b8⟩ _ hr1_.out)
                                      · skip
                                        refine value_ (w1 := ?_) (v := ?_) (by rfl) rfl ?_ ?_
                                        rotate_left 2
                                        · go_simp
                                          constructor
                                          · rfl
                                          · rfl
                                        refine hK.out _ _ ((HR.out.listBox).cell hcn) (fun hHeld => ?_)
                                        clear hK K
                                        refine norm_ (a' := ?_) ?_ ?_
                                        rotate_left
                                        · show Act.put _ (some 7) _ = _
                                          simp only [Act.put, List.setIfInBounds_toArray, List.set_cons_zero, List.set_cons_succ, i64_w, i32_w]
                                          rfl
                                        exact norm_ (by first | (simp only [putAll, Act.put, List.setIfInBounds_toArray, List.set_cons_zero, List.set_cons_succ]; done) | (simp only [putAll, Act.put, List.setIfInBounds_toArray, List.set_cons_zero, List.set_cons_succ]; rfl)) (hJ0_3 ⟨A0, c0, i0, g, c, (wx).heap.size, b8⟩ _ HR.out.listBox)
                                      · skip
                                        refine value_ (w1 := ?_) (v := ?_) (by rfl) rfl ?_ ?_
                                        rotate_left 2
                                        · go_simp
                                          constructor
                                          · rfl
                                          · rfl
                                        refine hK.out _ _ ((HR.out.wordBox).cell hcn) (fun hHeld => ?_)
                                        clear hK K
                                        refine norm_ (a' := ?_) ?_ ?_
                                        rotate_left
                                        · show Act.put _ (some 8) _ = _
                                          simp only [Act.put, List.setIfInBounds_toArray, List.set_cons_zero, List.set_cons_succ, i64_w, i32_w]
                                          rfl
                                        exact norm_ (by first | (simp only [putAll, Act.put, List.setIfInBounds_toArray, List.set_cons_zero, List.set_cons_succ]; done) | (simp only [putAll, Act.put, List.setIfInBounds_toArray, List.set_cons_zero, List.set_cons_succ]; rfl)) (hJ0_4 ⟨A0, c0, i0, g, c, b7, (wx).heap.size⟩ _ HR.out.wordBox)
                                  · skip
                                    rintro ⟨A0, c0, i0, g, c, b7, b8⟩ wx hr_
                                    have HR : Aside0 (impl_AllBruijn.R4 w9 wx y0 false false true true false A0 c0 i0 g c b7 b8) := ⟨hr_⟩
                                    clear hr_
                                    have hHeld : wx.cell? ⟨bn, 0, none⟩ = some (.int .i64 a0) := HR.out.cell hcn
                                    refine norm_ (a' := ?_) ?_ ?_
                                    rotate_left
                                    · simp only [putAll, Act.put, List.setIfInBounds_toArray, List.set_cons_zero, List.set_cons_succ]
                                      rfl
                                    refine two_ (i := 0) (j := 2) (Ni := some 25) (Nj := some 27) #[true, true, false, true, true, false, false] #[false, true, true, true, true, false, false] rfl rfl rfl rfl (by kernel_rfl) (by decide) (by decide) (fun K hK => ?_) (fun K hK => ?_)
                                    · skip
                                      refine Kd.S_lits_step (Kd.slice 3 (Kd.int .i64)) (w0 := w9) w9.heap.size 44 (by rfl) (N := 25) rfl (xs := ([] : List (List Int))) (inner := []) (ok := fun k => k = (wx).heap.size) (fun _ _ => False) ?hr rfl ?hv ?hp ?hq rfl HR.out.1 HR.out.1.size (by simp) ?_
                                      case hr => first | (go_simp; done) | (go_simp; rfl)
                                      case hv => intro j x hx; simp at hx
                                      case hp => intro p_ q_ k hp hq; exact hp.elim
                                      case hq => intro j k hk; exact hk.elim
                                      intro v25 w1 ho hb hg hnew
                                      obtain ⟨A1, c1, e1⟩ := Kd.S_slice ho
                                      subst e1
                                      have hr1_ := Aside0.mk (HR.out.list (impl_AllBruijn.gb hg) ho hnew)
                                      refine hK.out _ _ ((hr1_.out).cell hcn) (fun hHeld => ?_)
                                      clear hK K
                                      refine norm_ (a' := ?_) ?_ ?_
                                      rotate_left
                                      · show Act.put _ (some 25) _ = _
                                        simp only [Act.put, List.setIfInBounds_toArray, List.set_cons_zero, List.set_cons_succ, i64_w, i32_w]
                                        rfl
                                      exact norm_ (by first | (simp only [putAll, Act.put, List.setIfInBounds_toArray, List.set_cons_zero, List.set_cons_succ]; done) | (simp only [putAll, Act.put, List.setIfInBounds_toArray, List.set_cons_zero, List.set_cons_succ]; rfl)) (hJ0_3_4 ⟨A1, c1, (wx).heap.size, g, c, b7, b8⟩ _ hr1_.out)
                                    · skip
                                      refine Kd.R_make_step (Kd.int .i64) (w0 := w9) w9.heap.size 3 (by rfl) (N := 27) rfl 44 _ _ rfl a0 rfl rfl Try.underlying44 (.int .i64 0) 8 info3 rfl (by decide) (by omega) 0 (ok := fun _ => True) (okp := fun _ => True) rfl (fun _ hk => hk) trivial (by have := C3.out; omega) (Nat.le_trans (Nat.mul_le_mul_right _ C4.out) (by omega)) HR.out.1 HR.out.1.size ?_
                                      intro v27 w1 ho hb hg hnew
                                      rw [← Ny.out] at ho
                                      obtain ⟨g1, c1, e1, _⟩ := Kd.R_form ho (by rw [Ny.out, List.length_replicate]; have := C3.out; omega)
                                      subst e1
                                      have hr1_ := Aside0.mk (HR.out.word (impl_AllBruijn.gb hg) ho hnew)
                                      refine hK.out _ _ ((hr1_.out).cell hcn) (fun hHeld => ?_)
                                      clear hK K
                                      refine norm_ (a' := ?_) ?_ ?_
                                      rotate_left
                                      · show Act.put _ (some 27) _ = _
                                        simp only [Act.put, List.setIfInBounds_toArray, List.set_cons_zero, List.set_cons_succ, i64_w, i32_w]
                                        rfl
                                      exact norm_ (by first | (simp only [putAll, Act.put, List.setIfInBounds_toArray, List.set_cons_zero, List.set_cons_succ]; done) | (simp only [putAll, Act.put, List.setIfInBounds_toArray, List.set_cons_zero, List.set_cons_succ]; rfl)) (hJ2_3_4 ⟨A0, c0, i0, g1, c1, b7, b8⟩ _ hr1_.out)
                                · skip
                                  rintro ⟨A0, c0, i0, g, c, b7, b8⟩ wx hr_
                                  have HR : Aside0 (impl_AllBruijn.R4 w9 wx y0 false true false true false A0 c0 i0 g c b7 b8) := ⟨hr_⟩
                                  clear hr_
                                  have hHeld : wx.cell? ⟨bn, 0, none⟩ = some (.int .i64 a0) := HR.out.cell hcn
                                  refine norm_ (a' := ?_) ?_ ?_
                                  rotate_left
                                  · simp only [putAll, Act.put, List.setIfInBounds_toArray, List.set_cons_zero, List.set_cons_succ]
                                    rfl
                                  refine two_ (i := 0) (j := 3) (Ni := some 25) (Nj := some 7) #[true, true, true, false, true, false, false] #[false, true, true, true, true, false, false] rfl rfl rfl rfl (by kernel_rfl) (by decide) (by decide) (fun K hK => ?_) (fun K hK => ?_)
                                  · skip
                                    refine Kd.S_lits_step (Kd.slice 3 (Kd.int .i64)) (w0 := w9) w9.heap.size 44 (by rfl) (N := 25) rfl (xs := ([] : List (List Int))) (inner := []) (ok := fun k => k = (wx).heap.size) (fun _ _ => False) ?hr rfl ?hv ?hp ?hq rfl HR.out.1 HR.out.1.size (by simp) ?_
                                    case hr => first | (go_simp; done) | (go_simp; rfl)
                                    case hv => intro j x hx; simp at hx
                                    case hp => intro p_ q_ k hp hq; exact hp.elim
                                    case hq => intro j k hk; exact hk.elim
                                    intro v25 w1 ho hb hg hnew
                                    obtain ⟨A1, c1, e1⟩ := Kd.S_slice ho
                                    subst e1
                                    have hr1_ := Aside0.mk (HR.out.list (impl_AllBruijn.gb hg) ho hnew)
                                    refine hK.out _ _ ((hr1_.out).cell hcn) (fun hHeld => ?_)
                                    clear hK K
                                    refine norm_ (a' := ?_) ?_ ?_
                                    rotate_left
                                    · show Act.put _ (some 25) _ = _
                                      simp only [Act.put, List.setIfInBounds_toArray, List.set_cons_zero, List.set_cons_succ, i64_w, i32_w]
                                      rfl
                                    exact norm_ (by first | (simp only [putAll, Act.put, List.setIfInBounds_toArray, List.set_cons_zero, List.set_cons_succ]; done) | (simp only [putAll, Act.put, List.setIfInBounds_toArray, List.set_cons_zero, List.set_cons_succ]; rfl)) (hJ0_2_4 ⟨A1, c1, (wx).heap.size, g, c, b7, b8⟩ _ hr1_.out)
                                  · skip
                                    refine value_ (w1 := ?_) (v := ?_) (by rfl) rfl ?_ ?_
                                    rotate_left 2
                                    · go_simp
                                      constructor
                                      · rfl
                                      · rfl
                                    refine hK.out _ _ ((HR.out.listBox).cell hcn) (fun hHeld => ?_)
                                    clear hK K
                                    refine norm_ (a' := ?_) ?_ ?_
                                    rotate_left
                                    · show Act.put _ (some 7) _ = _
                                      simp only [Act.put, List.setIfInBounds_toArray, List.set_cons_zero, List.set_cons_succ, i64_w, i32_w]
                                      rfl
                                    exact norm_ (by first | (simp only [putAll, Act.put, List.setIfInBounds_toArray, List.set_cons_zero, List.set_cons_succ]; done) | (simp only [putAll, Act.put, List.setIfInBounds_toArray, List.set_cons_zero, List.set_cons_succ]; rfl)) (hJ2_3_4 ⟨A0, c0, i0, g, c, (wx).heap.size, b8⟩ _ HR.out.listBox)
                              · skip
                                rintro ⟨A0, c0, i0, g, c, b7, b8⟩ wx hr_
                                have HR : Aside0 (impl_AllBruijn.R4 w9 wx y0 false true true false false A0 c0 i0 g c b7 b8) := ⟨hr_⟩
                                clear hr_
                                have hHeld : wx.cell? ⟨bn, 0, none⟩ = some (.int .i64 a0) := HR.out.cell hcn
                                refine norm_ (a' := ?_) ?_ ?_
                                rotate_left
                                · simp only [putAll, Act.put, List.setIfInBounds_toArray, List.set_cons_zero, List.set_cons_succ]
                                  rfl
                                refine two_ (i := 0) (j := 4) (Ni := some 25) (Nj := some 8) #[true, true, true, true, false, false, false] #[false, true, true, true, true, false, false] rfl rfl rfl rfl (by kernel_rfl) (by decide) (by decide) (fun K hK => ?_) (fun K hK => ?_)
                                · skip
                                  refine Kd.S_lits_step (Kd.slice 3 (Kd.int .i64)) (w0 := w9) w9.heap.size 44 (by rfl) (N := 25) rfl (xs := ([] : List (List Int))) (inner := []) (ok := fun k => k = (wx).heap.size) (fun _ _ => False) ?hr rfl ?hv ?hp ?hq rfl HR.out.1 HR.out.1.size (by simp) ?_
                                  case hr => first | (go_simp; done) | (go_simp; rfl)
                                  case hv => intro j x hx; simp at hx
                                  case hp => intro p_ q_ k hp hq; exact hp.elim
                                  case hq => intro j k hk; exact hk.elim
                                  intro v25 w1 ho hb hg hnew
                                  obtain ⟨A1, c1, e1⟩ := Kd.S_slice ho
                                  subst e1
                                  have hr1_ := Aside0.mk (HR.out.list (impl_AllBruijn.gb hg) ho hnew)
                                  refine hK.out _ _ ((hr1_.out).cell hcn) (fun hHeld => ?_)
                                  clear hK K
                                  refine norm_ (a' := ?_) ?_ ?_
                                  rotate_left
                                  · show Act.put _ (some 25) _ = _
                                    simp only [Act.put, List.setIfInBounds_toArray, List.set_cons_zero, List.set_cons_succ, i64_w, i32_w]
                                    rfl
                                  exact norm_ (by first | (simp only [putAll, Act.put, List.setIfInBounds_toArray, List.set_cons_zero, List.set_cons_succ]; done) | (simp only [putAll, Act.put, List.setIfInBounds_toArray, List.set_cons_zero, List.set_cons_succ]; rfl)) (hJ0_2_3 ⟨A1, c1, (wx).heap.size, g, c, b7, b8⟩ _ hr1_.out)
                                · skip
                                  refine value_ (w1 := ?_) (v := ?_) (by rfl) rfl ?_ ?_
                                  rotate_left 2
                                  · go_simp
                                    constructor
                                    · rfl
                                    · rfl
                                  refine hK.out _ _ ((HR.out.wordBox).cell hcn) (fun hHeld => ?_)
                                  clear hK K
                                  refine norm_ (a' := ?_) ?_ ?_
                                  rotate_left
                                  · show Act.put _ (some 8) _ = _
                                    simp only [Act.put, List.setIfInBounds_toArray, List.set_cons_zero, List.set_cons_succ, i64_w, i32_w]
                                    rfl
                                  exact norm_ (by first | (simp only [putAll, Act.put, List.setIfInBounds_toArray, List.set_cons_zero, List.set_cons_succ]; done) | (simp only [putAll, Act.put, List.setIfInBounds_toArray, List.set_cons_zero, List.set_cons_succ]; rfl)) (hJ2_3_4 ⟨A0, c0, i0, g, c, b7, (wx).heap.size⟩ _ HR.out.wordBox)
                            · skip
                              rintro ⟨A0, c0, i0, g, c, b7, b8⟩ wx hr_
                              have HR : Aside0 (impl_AllBruijn.R4 w9 wx y0 true false false true false A0 c0 i0 g c b7 b8) := ⟨hr_⟩
                              clear hr_
                              have hHeld : wx.cell? ⟨bn, 0, none⟩ = some (.int .i64 a0) := HR.out.cell hcn
                              refine norm_ (a' := ?_) ?_ ?_
                              rotate_left
                              · simp only [putAll, Act.put, List.setIfInBounds_toArray, List.set_cons_zero, List.set_cons_succ]
                                rfl
                              refine two_ (i := 2) (j := 3) (Ni := some 27) (Nj := some 7) #[true, true, true, false, true, false, false] #[true, true, false, true, true, false, false] rfl rfl rfl rfl (by kernel_rfl) (by decide) (by decide) (fun K hK => ?_) (fun K hK => ?_)
                              · skip
                                refine Kd.R_make_step (Kd.int .i64) (w0 := w9) w9.heap.size 3 (by rfl) (N := 27) rfl 44 _ _ rfl a0 rfl rfl Try.underlying44 (.int .i64 0) 8 info3 rfl (by decide) (by omega) 0 (ok := fun _ => True) (okp := fun _ => True) rfl (fun _ hk => hk) trivial (by have := C3.out; omega) (Nat.le_trans (Nat.mul_le_mul_right _ C4.out) (by omega)) HR.out.1 HR.out.1.size ?_
                                intro v27 w1 ho hb hg hnew
                                rw [← Ny.out] at ho
                                obtain ⟨g1, c1, e1, _⟩ := Kd.R_form ho (by rw [Ny.out, List.length_replicate]; have := C3.out; omega)
                                subst e1
                                have hr1_ := Aside0.mk (HR.out.word (impl_AllBruijn.gb hg) ho hnew)
                                refine hK.out _ _ ((hr1_.out).cell hcn) (fun hHeld => ?_)
                                clear hK K
                                refine norm_ (a' := ?_) ?_ ?_
                                rotate_left
                                · show Act.put _ (some 27) _ = _
                                  simp only [Act.put, List.setIfInBounds_toArray, List.set_cons_zero, List.set_cons_succ, i64_w, i32_w]
                                  rfl
                                exact norm_ (by first | (simp only [putAll, Act.put, List.setIfInBounds_toArray, List.set_cons_zero, List.set_cons_succ]; done) | (simp only [putAll, Act.put, List.setIfInBounds_toArray, List.set_cons_zero, List.set_cons_succ]; rfl)) (hJ0_2_4 ⟨A0, c0, i0, g1, c1, b7, b8⟩ _ hr1_.out)
                              · skip
                                refine value_ (w1 := ?_) (v := ?_) (by rfl) rfl ?_ ?_
                                rotate_left 2
                                · go_simp
                                  constructor
                                  · rfl
                                  · rfl
                                refine hK.out _ _ ((HR.out.listBox).cell hcn) (fun hHeld => ?_)
                                clear hK K
                                refine norm_ (a' := ?_) ?_ ?_
                                rotate_left
                                · show Act.put _ (some 7) _ = _
                                  simp only [Act.put, List.setIfInBounds_toArray, List.set_cons_zero, List.set_cons_succ, i64_w, i32_w]
                                  rfl
                                exact norm_ (by first | (simp only [putAll, Act.put, List.setIfInBounds_toArray, List.set_cons_zero, List.set_cons_succ]; done) | (simp only [putAll, Act.put, List.setIfInBounds_toArray, List.set_cons_zero, List.set_cons_succ]; rfl)) (hJ0_3_4 ⟨A0, c0, i0, g, c, (wx).heap.size, b8⟩ _ HR.out.listBox)
                          · skip
                            rintro ⟨A0, c0, i0, g, c, b7, b8⟩ wx hr_
                            have HR : Aside0 (impl_AllBruijn.R4 w9 wx y0 true false true false false A0 c0 i0 g c b7 b8) := ⟨hr_⟩
                            clear hr_
                            have hHeld : wx.cell? ⟨bn, 0, none⟩ = some (.int .i64 a0) := HR.out.cell hcn
                            refine norm_ (a' := ?_) ?_ ?_
                            rotate_left
                            · simp only [putAll, Act.put, List.setIfInBounds_toArray, List.set_cons_zero, List.set_cons_succ]
                              rfl
                            refine two_ (i := 2) (j := 4) (Ni := some 27) (Nj := some 8) #[true, true, true, true, false, false, false] #[true, true, false, true, true, false, false] rfl rfl rfl rfl (by kernel_rfl) (by decide) (by decide) (fun K hK => ?_) (fun K hK => ?_)
                            · skip
                              refine Kd.R_make_step (Kd.int .i64) (w0 := w9) w9.heap.size 3 (by rfl) (N := 27) rfl 44 _ _ rfl a0 rfl rfl Try.underlying44 (.int .i64 0) 8 info3 rfl (by decide) (by omega) 0 (ok := fun _ => True) (okp := fun _ => True) rfl (fun _ hk => hk) trivial (by have := C3.out; omega) (Nat.le_trans (Nat.mul_le_mul_right _ C4.out) (by omega)) HR.out.1 HR.out.1.size ?_
                              intro v27 w1 ho hb hg hnew
                              rw [← Ny.out] at ho
                              obtain ⟨g1, c1, e1, _⟩ := Kd.R_form ho (by rw [Ny.out, List.length_replicate]; have := C3.out; omega)
                              subst e1
                              have hr1_ := Aside0.mk (HR.out.word (impl_AllBruijn.gb hg) ho hnew)
                              refine hK.out _ _ ((hr1_.out).cell hcn) (fun hHeld => ?_)
                              clear hK K
                              refine norm_ (a' := ?_) ?_ ?_
                              rotate_left
                              · show Act.put _ (some 27) _ = _
                                simp only [Act.put, List.setIfInBounds_toArray, List.set_cons_zero, List.set_cons_succ, i64_w, i32_w]
                                rfl
                              exact norm_ (by first | (simp only [putAll, Act.put, List.setIfInBounds_toArray, List.set_cons_zero, List.set_cons_succ]; done) | (simp only [putAll, Act.put, List.setIfInBounds_toArray, List.set_cons_zero, List.set_cons_succ]; rfl)) (hJ0_2_3 ⟨A0, c0, i0, g1, c1, b7, b8⟩ _ hr1_.out)
                            · skip
                              refine value_ (w1 := ?_) (v := ?_) (by rfl) rfl ?_ ?_
                              rotate_left 2
                              · go_simp
                                constructor
                                · rfl
                                · rfl
                              refine hK.out _ _ ((HR.out.wordBox).cell hcn) (fun hHeld => ?_)
                              clear hK K
                              refine norm_ (a' := ?_) ?_ ?_
                              rotate_left
                              · show Act.put _ (some 8) _ = _
                                simp only [Act.put, List.setIfInBounds_toArray, List.set_cons_zero, List.set_cons_succ, i64_w, i32_w]
                                rfl
                              exact norm_ (by first | (simp only [putAll, Act.put, List.setIfInBounds_toArray, List.set_cons_zero, List.set_cons_succ]; done) | (simp only [putAll, Act.put, List.setIfInBounds_toArray, List.set_cons_zero, List.set_cons_succ]; rfl)) (hJ0_3_4 ⟨A0, c0, i0, g, c, b7, (wx).heap.size⟩ _ HR.out.wordBox)
                        · skip
                          rintro ⟨A0, c0, i0, g, c, b7, b8⟩ wx hr_
                          have HR : Aside0 (impl_AllBruijn.R4 w9 wx y0 true true false false false A0 c0 i0 g c b7 b8) := ⟨hr_⟩
                          clear hr_
                          have hHeld : wx.cell? ⟨bn, 0, none⟩ = some (.int .i64 a0) := HR.out.cell hcn
                          refine norm_ (a' := ?_) ?_ ?_
                          rotate_left
                          · simp only [putAll, Act.put, List.setIfInBounds_toArray, List.set_cons_zero, List.set_cons_succ]
                            rfl
                          refine two_ (i := 3) (j := 4) (Ni := some 7) (Nj := some 8) #[true, true, true, true, false, false, false] #[true, true, true, false, true, false, false] rfl rfl rfl rfl (by kernel_rfl) (by decide) (by decide) (fun K hK => ?_) (fun K hK => ?_)
                          · skip
                            refine value_ (w1 := ?_) (v := ?_) (by rfl) rfl ?_ ?_
                            rotate_left 2
                            · go_simp
                              constructor
                              · rfl
                              · rfl
                            refine hK.out _ _ ((HR.out.listBox).cell hcn) (fun hHeld => ?_)
                            clear hK K
                            refine norm_ (a' := ?_) ?_ ?_
                            rotate_left
                            · show Act.put _ (some 7) _ = _
                              simp only [Act.put, List.setIfInBounds_toArray, List.set_cons_zero, List.set_cons_succ, i64_w, i32_w]
                              rfl
                            exact norm_ (by first | (simp only [putAll, Act.put, List.setIfInBounds_toArray, List.set_cons_zero, List.set_cons_succ]; done) | (simp only [putAll, Act.put, List.setIfInBounds_toArray, List.set_cons_zero, List.set_cons_succ]; rfl)) (hJ0_2_3 ⟨A0, c0, i0, g, c, (wx).heap.size, b8⟩ _ HR.out.listBox)
                          · skip
                            refine value_ (w1 := ?_) (v := ?_) (by rfl) rfl ?_ ?_
                            rotate_left 2
                            · go_simp
                              constructor
                              · rfl
                              · rfl
                            refine hK.out _ _ ((HR.out.wordBox).cell hcn) (fun hHeld => ?_)
                            clear hK K
                            refine norm_ (a' := ?_) ?_ ?_
                            rotate_left
                            · show Act.put _ (some 8) _ = _
                              simp only [Act.put, List.setIfInBounds_toArray, List.set_cons_zero, List.set_cons_succ, i64_w, i32_w]
                              rfl
                            exact norm_ (by first | (simp only [putAll, Act.put, List.setIfInBounds_toArray, List.set_cons_zero, List.set_cons_succ]; done) | (simp only [putAll, Act.put, List.setIfInBounds_toArray, List.set_cons_zero, List.set_cons_succ]; rfl)) (hJ0_2_4 ⟨A0, c0, i0, g, c, b7, (wx).heap.size⟩ _ HR.out.wordBox)
                      · skip
                        rintro ⟨A0, c0, i0, g, c, b7, b8⟩ wx hr_
                        have HR : Aside0 (impl_AllBruijn.R4 w9 wx y0 false true true true false A0 c0 i0 g c b7 b8) := ⟨hr_⟩
                        clear hr_
                        have hHeld : wx.cell? ⟨bn, 0, none⟩ = some (.int .i64 a0) := HR.out.cell hcn
                        refine norm_ (a' := ?_) ?_ ?_
                        rotate_left
                        · simp only [putAll, Act.put, List.setIfInBounds_toArray, List.set_cons_zero, List.set_cons_succ]
                          rfl
                        refine one_ (i := 0) (N := some 25) #[true, true, true, true, true, false, false] rfl rfl (by kernel_rfl) (by decide) (fun K hK => ?_)
                        refine Kd.S_lits_step (Kd.slice 3 (Kd.int .i64)) (w0 := w9) w9.heap.size 44 (by rfl) (N := 25) rfl (xs := ([] : List (List Int))) (inner := []) (ok := fun k => k = (wx).heap.size) (fun _ _ => False) ?hr rfl ?hv ?hp ?hq rfl HR.out.1 HR.out.1.size (by simp) ?_
                        case hr => first | (go_simp; done) | (go_simp; rfl)
                        case hv => intro j x hx; simp at hx
                        case hp => intro p_ q_ k hp hq; exact hp.elim
                        case hq => intro j k hk; exact hk.elim
                        intro v25 w1 ho hb hg hnew
                        obtain ⟨A1, c1, e1⟩ := Kd.S_slice ho
                        subst e1
                        have hr1_ := Aside0.mk (HR.out.list (impl_AllBruijn.gb hg) ho hnew)
                        refine hK.out _ _ ((hr1_.out).cell hcn) (fun hHeld => ?_)
                        clear hK K
                        refine norm_ (a' := ?_) ?_ ?_
                        rotate_left
                        · show Act.put _ (some 25) _ = _
                          simp only [Act.put, List.setIfInBounds_toArray, List.set_cons_zero, List.set_cons_succ, i64_w, i32_w]
                          rfl
                        exact norm_ (by first | (simp only [putAll, Act.put, List.setIfInBounds_toArray, List.set_cons_zero, List.set_cons_succ]; done) | (simp only [putAll, Act.put, List.setIfInBounds_toArray, List.set_cons_zero, List.set_cons_succ]; rfl)) (hJ0_2_3_4 ⟨A1, c1, (wx).heap.size, g, c, b7, b8⟩ _ hr1_.out)
                    · skip
                      rintro ⟨A0, c0, i0, g, c, b7, b8⟩ wx hr_
                      have HR : Aside0 (impl_AllBruijn.R4 w9 wx y0 true false true true false A0 c0 i0 g c b7 b8) := ⟨hr_⟩
                      clear hr_
                      have hHeld : wx.cell? ⟨bn, 0, none⟩ = some (.int .i64 a0) := HR.out.cell hcn
                      have hc7 : wx.cell? ⟨b7, 0, none⟩ = some (.slice none 0 0) := (blk_cell (HR.out.2.2.2.1 rfl).1 0).trans rfl
                      have hf7 : wx.frozen? ⟨b7, 0, none⟩ = false := blk_frozen (HR.out.2.2.2.1 rfl).1 0
                      refine norm_ (a' := ?_) ?_ ?_
                      rotate_left
                      · simp only [putAll, Act.put, List.setIfInBounds_toArray, List.set_cons_zero, List.set_cons_succ]
                        rfl
                      refine two_ (i := 2) (j := 5) (Ni := some 27) (Nj := none) #[true, true, true, true, true, false, false] #[true, true, false, true, true, true, false] rfl rfl rfl rfl (by kernel_rfl) (by decide) (by decide) (fun K hK => ?_) (fun K hK => ?_)
                      · skip
                        refine Kd.R_make_step (Kd.int .i64) (w0 := w9) w9.heap.size 3 (by rfl) (N := 27) rfl 44 _ _ rfl a0 rfl rfl Try.underlying44 (.int .i64 0) 8 info3 rfl (by decide) (by omega) 0 (ok := fun _ => True) (okp := fun _ => True) rfl (fun _ hk => hk) trivial (by have := C3.out; omega) (Nat.le_trans (Nat.mul_le_mul_right _ C4.out) (by omega)) HR.out.1 HR.out.1.size ?_
                        intro v27 w1 ho hb hg hnew
                        rw [← Ny.out] at ho
                        obtain ⟨g1, c1, e1, _⟩ := Kd.R_form ho (by rw [Ny.out, List.length_replicate]; have := C3.out; omega)
                        subst e1
                        have hr1_ := Aside0.mk (HR.out.word (impl_AllBruijn.gb hg) ho hnew)
                        refine hK.out _ _ ((hr1_.out).cell hcn) (fun hHeld => ?_)
                        clear hK K
                        refine norm_ (a' := ?_) ?_ ?_
                        rotate_left
                        · show Act.put _ (some 27) _ = _
                          simp only [Act.put, List.setIfInBounds_toArray, List.set_cons_zero, List.set_cons_succ, i64_w, i32_w]
                          rfl
                        exact norm_ (by first | (simp only [putAll, Act.put, List.setIfInBounds_toArray, List.set_cons_zero, List.set_cons_succ]; done) | (simp only [putAll, Act.put, List.setIfInBounds_toArray, List.set_cons_zero, List.set_cons_succ]; rfl)) (hJ0_2_3_4 ⟨A0, c0, i0, g1, c1, b7, b8⟩ _ hr1_.out)
                      · skip
                        refine skip_ (w1 := ?_) (by rfl) rfl ?_ ?_
                        rotate_left
                        · go_simp
                          rfl
                        refine hK.out _ _ ((HR.out.put).cell hcn) (fun hHeld => ?_)
                        clear hK K
                        exact norm_ (by first | (simp only [putAll, Act.put, List.setIfInBounds_toArray, List.set_cons_zero, List.set_cons_succ]; done) | (simp only [putAll, Act.put, List.setIfInBounds_toArray, List.set_cons_zero, List.set_cons_succ]; rfl)) (hJ0_3_4_5 ⟨A0, c0, i0, g, c, b7, b8⟩ _ HR.out.put)
                  · skip
                    rintro ⟨A0, c0, i0, g, c, b7, b8⟩ wx hr_
                    have HR : Aside0 (impl_AllBruijn.R4 w9 wx y0 true true false true false A0 c0 i0 g c b7 b8) := ⟨hr_⟩
                    clear hr_
                    have hHeld : wx.cell? ⟨bn, 0, none⟩ = some (.int .i64 a0) := HR.out.cell hcn
                    refine norm_ (a' := ?_) ?_ ?_
                    rotate_left
                    · simp only [putAll, Act.put, List.setIfInBounds_toArray, List.set_cons_zero, List.set_cons_succ]
                      rfl
                    refine one_ (i := 3) (N := some 7) #[true, true, true, true, true, false, false] rfl rfl (by kernel_rfl) (by decide) (fun K hK => ?_)
                    refine value_ (w1 := ?_) (v := ?_) (by rfl) rfl ?_ ?_
                    rotate_left 2
                    · go_simp
                      constructor
                      · rfl
                      · rfl
                    refine hK.out _ _ ((HR.out.listBox).cell hcn) (fun hHeld => ?_)
                    clear hK K
                    refine norm_ (a' := ?_) ?_ ?_
                    rotate_left
                    · show Act.put _ (some 7) _ = _
                      simp only [Act.put, List.setIfInBounds_toArray, List.set_cons_zero, List.set_cons_succ, i64_w, i32_w]
                      rfl
                    exact norm_ (by first | (simp only [putAll, Act.put, List.setIfInBounds_toArray, List.set_cons_zero, List.set_cons_succ]; done) | (simp only [putAll, Act.put, List.setIfInBounds_toArray, List.set_cons_zero, List.set_cons_succ]; rfl)) (hJ0_2_3_4 ⟨A0, c0, i0, g, c, (wx).heap.size, b8⟩ _ HR.out.listBox)
                · skip
                  rintro ⟨A0, c0, i0, g, c, b7, b8⟩ wx hr_
                  have HR : Aside0 (impl_AllBruijn.R4 w9 wx y0 true true true false false A0 c0 i0 g c b7 b8) := ⟨hr_⟩
                  clear hr_
                  have hHeld : wx.cell? ⟨bn, 0, none⟩ = some (.int .i64 a0) := HR.out.cell hcn
                  refine norm_ (a' := ?_) ?_ ?_
                  rotate_left
                  · simp only [putAll, Act.put, List.setIfInBounds_toArray, List.set_cons_zero, List.set_cons_succ]
                    rfl
                  refine one_ (i := 4) (N := some 8) #[true, true, true, true, true, false, false] rfl rfl (by kernel_rfl) (by decide) (fun K hK => ?_)
                  refine value_ (w1 := ?_) (v := ?_) (by rfl) rfl ?_ ?_
                  rotate_left 2
                  · go_simp
                    constructor
                    · rfl
                    · rfl
                  refine hK.out _ _ ((HR.out.wordBox).cell hcn) (fun hHeld => ?_)
                  clear hK K
                  refine norm_ (a' := ?_) ?_ ?_
                  rotate_left
                  · show Act.put _ (some 8) _ = _
                    simp only [Act.put, List.setIfInBounds_toArray, List.set_cons_zero, List.set_cons_succ, i64_w, i32_w]
                    rfl
                  exact norm_ (by first | (simp only [putAll, Act.put, List.setIfInBounds_toArray, List.set_cons_zero, List.set_cons_succ]; done) | (simp only [putAll, Act.put, List.setIfInBounds_toArray, List.set_cons_zero, List.set_cons_succ]; rfl)) (hJ0_2_3_4 ⟨A0, c0, i0, g, c, b7, (wx).heap.size⟩ _ HR.out.wordBox)
              · skip
                rintro ⟨A0, c0, i0, g, c, b7, b8⟩ wx hr_
                have HR : Aside0 (impl_AllBruijn.R4 w9 wx y0 true false true true true A0 c0 i0 g c b7 b8) := ⟨hr_⟩
                clear hr_
                have hHeld : wx.cell? ⟨bn, 0, none⟩ = some (.int .i64 a0) := HR.out.cell hcn
                refine norm_ (a' := ?_) ?_ ?_
                rotate_left
                · simp only [putAll, Act.put, List.setIfInBounds_toArray, List.set_cons_zero, List.set_cons_succ]
                  rfl
                refine one_ (i := 2) (N := some 27) #[true, true, true, true, true, true, false] rfl rfl (by kernel_rfl) (by decide) (fun K hK => ?_)
                refine Kd.R_make_step (Kd.int .i64) (w0 := w9) w9.heap.size 3 (by rfl) (N := 27) rfl 44 _ _ rfl a0 rfl rfl Try.underlying44 (.int .i64 0) 8 info3 rfl (by decide) (by omega) 0 (ok := fun _ => True) (okp := fun _ => True) rfl (fun _ hk => hk) trivial (by have := C3.out; omega) (Nat.le_trans (Nat.mul_le_mul_right _ C4.out) (by omega)) HR.out.1 HR.out.1.size ?_
                intro v27 w1 ho hb hg hnew
                rw [← Ny.out] at ho
                obtain ⟨g1, c1, e1, _⟩ := Kd.R_form ho (by rw [Ny.out, List.length_replicate]; have := C3.out; omega)
                subst e1
                have hr1_ := Aside0.mk (HR.out.word (impl_AllBruijn.gb hg) ho hnew)
                refine hK.out _ _ ((hr1_.out).cell hcn) (fun hHeld => ?_)
                clear hK K
                refine norm_ (a' := ?_) ?_ ?_
                rotate_left
                · show Act.put _ (some 27) _ = _
                  simp only [Act.put, List.setIfInBounds_toArray, List.set_cons_zero, List.set_cons_succ, i64_w, i32_w]
                  rfl
                exact norm_ (by first | (simp only [putAll, Act.put, List.setIfInBounds_toArray, List.set_cons_zero, List.set_cons_succ]; done) | (simp only [putAll, Act.put, List.setIfInBounds_toArray, List.set_cons_zero, List.set_cons_succ]; rfl)) (hJ0_2_3_4_5 ⟨A0, c0, i0, g1, c1, b7, b8⟩ _ hr1_.out)
            · skip
              rintro ⟨A0, c0, i0, g, c, b7, b8⟩ wx hr_
              have HR : Aside0 (impl_AllBruijn.R4 w9 wx y0 true true true true false A0 c0 i0 g c b7 b8) := ⟨hr_⟩
              clear hr_
              have hHeld : wx.cell? ⟨bn, 0, none⟩ = some (.int .i64 a0) := HR.out.cell hcn
              have hc7 : wx.cell? ⟨b7, 0, none⟩ = some (.slice none 0 0) := (blk_cell (HR.out.2.2.2.1 rfl).1 0).trans rfl
              have hf7 : wx.frozen? ⟨b7, 0, none⟩ = false := blk_frozen (HR.out.2.2.2.1 rfl).1 0
              refine norm_ (a' := ?_) ?_ ?_
              rotate_left
              · simp only [putAll, Act.put, List.setIfInBounds_toArray, List.set_cons_zero, List.set_cons_succ]
                rfl
              refine one_ (i := 5) (N := none) #[true, true, true, true, true, true, false] rfl rfl (by kernel_rfl) (by decide) (fun K hK => ?_)
              refine skip_ (w1 := ?_) (by rfl) rfl ?_ ?_
              rotate_left
              · go_simp
                rfl
              refine hK.out _ _ ((HR.out.put).cell hcn) (fun hHeld => ?_)
              clear hK K
              exact norm_ (by first | (simp only [putAll, Act.put, List.setIfInBounds_toArray, List.set_cons_zero, List.set_cons_succ]; done) | (simp only [putAll, Act.put, List.setIfInBounds_toArray, List.set_cons_zero, List.set_cons_succ]; rfl)) (hJ0_2_3_4_5 ⟨A0, c0, i0, g, c, b7, b8⟩ _ HR.out.put)
          rintro ⟨A0, c0, i0, g, c, b7, b8⟩ wx hr_
          have HR : Aside0 (impl_AllBruijn.R4 w9 wx y0 true true true true true A0 c0 i0 g c b7 b8) := ⟨hr_⟩
          clear hr_
          have hHeld : wx.cell? ⟨bn, 0, none⟩ = some (.int .i64 a0) := HR.out.cell hcn
          refine norm_ (a' := ?_) ?_ ?_
          rotate_left
          · simp only [putAll, Act.put, List.setIfInBounds_toArray, List.set_cons_zero, List.set_cons_succ]
            rfl
          refine last_ (i := 6) (N := none) #[true, true, true, true, true, true, true] rfl rfl (by kernel_rfl) (by decide) (fun K hK => ?_)
          have hc8 : wx.cell? ⟨b8, 0, none⟩ = some (.slice none 0 0) := (blk_cell (HR.out.2.2.2.2.1 rfl).1 0).trans rfl
          have hf8 : wx.frozen? ⟨b8, 0, none⟩ = false := blk_frozen (HR.out.2.2.2.2.1 rfl).1 0
          refine skip_ (w1 := ?_) (by rfl) rfl ?_ ?_
          rotate_left
          · go_simp
            rfl
          refine hK.out _ _ ?_
          clear hK K
          refine done_ (by kernel_rfl) ?_
          
          generalize hw10 : World.setCell wx ⟨b8, 0, none⟩ (.slice (some ⟨g, 0, none⟩) y0.length c) = w10
          have HT := Aside0.mk (HR.out.tail HB.out BN.out BK.out BSZ.out EN.out NK.out KS.out)
          rw [hw10] at HT
          clear hw10 HR hHeld hc8 hf8 hcn hcd BN BK BSZ HB
          (try clear hc7)
          (try clear hf7)
          go_wp2_with (first
            | ((with_reducible refine gate_insert (t := 107) (m := .tmp 28) rfl ?_); refine update_op (t := 107) (k := 3) (e := 4) rfl _ _ _ (.inr rfl) (Go.Maps.int_keyed Try.underlying3) Try.underlying107 Try.underlying4 rfl (KSet.made _) (by unfold maxLen; omega) _ (.int .i64 0) rfl rfl (Go.Maps.keyOf_int_mk Try.underlying3 (by decide)) ?_; intro w11 hs4 hg4; simp only [Bool.false_eq_true, if_false] at hs4; obtain ⟨b0, hb0⟩ : ∃ b, b = w10.heap.size := ⟨_, rfl⟩; rw [← hb0] at hs4 hg4 ⊢; have AB := Aside0.mk (HT.out.lts hb0); have hb_ : Below w10.heap.size w10 w11 := (below_alloc (Below.refl _ _) _).grown hg4 (below_alloc (Below.refl _ _) _).size (fun j hj => by cases hj; omega); have MS := Aside0.mk (show impl_AllBruijn.BS w11 b0 (y0.length + 1) 1 from ⟨_, _, hs4, by omega, fun c => by simpa using bset_add (m := 0) (S := fun _ => false) (by simp) (c := 0) (by omega) c⟩); have n0_ := Aside0.mk (HT.out.move hb_); clear HT hb_ hs4 hg4 hb0; have HT := n0_; clear n0_)
            | ((with_reducible refine gate_dst (N := 9) rfl ?_); refine box_event ?hg (N := 9) ?hd (cs := #[.map none]) (t := 107) ?hr ?_; (case hd => rfl); (case hg => rfl); (case hr => first | (go_simp; done) | (go_simp; rfl)); intro bm hbm w12 hbox hb; have n0_ := Aside0.mk (HT.out.move hb); have n1_ := Aside0.mk (MS.out.same (hb.block _ MS.out.lt)); have BMB := Aside0.mk (show b0 < bm by rw [hbm]; exact MS.out.lt); have GM := Aside0.mk (show w.heap.size ≤ bm by rw [hbm]; exact HT.out.1.size); have BM12 := Aside0.mk hbox; have hcm12 : w12.cell? ⟨bm, 0, none⟩ = some (.map none) := (blk_cell hbox 0).trans rfl; have hfm12 := blk_frozen hbox 0; have GMB := Aside0.mk (show b8 < bm ∧ g < bm ∧ i0 < bm ∧ b7 < bm by have := AB.out; have := BMB.out; omega); clear HT MS hbox hb hbm; have HT := n0_; have MS := n1_; clear n0_ n1_)
            | ((with_reducible refine gate_store (t := 107) (p := 9) rfl ?_); refine store_event (t := 107) (p := 9) (v := .tmp 29) (w1 := (w12.setCell ⟨bm, 0, none⟩ (.map (some b0)))) ?hg ?ho ?hn ?hr ?_; (case ho => rfl); (case hg => rfl); (case hn => rfl); (case hr => first | (go_simp; done) | (go_simp; rfl)); intro w13 hw; have HT13 : Aside0 (impl_AllBruijn.Tail w w13 a0 a1 sz bn bk bs y0 A0 c0 i0 g c b7 b8) := ⟨by rw [hw]; exact HT.out.set GM.out (by have := AB.out; have := BMB.out; omega) _⟩; have MS13 : Aside0 (impl_AllBruijn.BS w13 b0 (y0.length + 1) 1) := ⟨by rw [hw]; exact MS.out.same (Below.heap_setCell w12 ⟨bm, 0, none⟩ _ b0 (Nat.ne_of_lt BMB.out))⟩; have BM13 : Aside0 (w13.heap[bm]? = some (.cells #[.map (some b0)] 107 (0, 0))) := ⟨by rw [hw]; exact blk_put BM12.out 0 _ rfl⟩; clear HT MS hw BM12 hcm12 hfm12)
            | ((with_reducible refine gate_dst (N := 10) rfl ?_); refine box_event ?hg (N := 10) ?hd (cs := #[.nilFunc]) (t := 108) ?hr ?_; (case hd => rfl); (case hg => rfl); (case hr => first | (go_simp; done) | (go_simp; rfl)); intro bx hbx w14 hbox hb; have HT14 := Aside0.mk (HT13.out.move hb); have MS14 := Aside0.mk (MS13.out.same (hb.block _ MS13.out.lt)); have BM14 := Aside0.mk (blk_below BM13.out hb); have BXB := Aside0.mk (show bm < bx by rw [hbx]; exact blk_lt BM13.out); have BX14 := Aside0.mk hbox; have hcx14 : w14.cell? ⟨bx, 0, none⟩ = some .nilFunc := (blk_cell hbox 0).trans rfl; have hfx14 := blk_frozen hbox 0; clear HT13 MS13 BM13 hbox hb hbx)
            | ((with_reducible refine gate_dst (N := 30) rfl ?_); refine Kd.event_run (w1 := w14) (v := (.func (.func 125) #[] #[.pointer (some ⟨b8, 0, none⟩), .pointer (some ⟨bs, 0, none⟩), .pointer (some ⟨bn, 0, none⟩), .pointer (some ⟨bk, 0, none⟩), .pointer (some ⟨b7, 0, none⟩), .pointer (some ⟨bm, 0, none⟩), .pointer (some ⟨bx, 0, none⟩)])) ?hg ?hr ?_; (case hg => rfl); (case hr => first | (go_simp; done) | (go_simp; rfl)))
            | ((with_reducible refine gate_store (t := 108) (p := 10) rfl ?_); refine store_event (t := 108) (p := 10) (v := .tmp 30) (w1 := (w14.setCell ⟨bx, 0, none⟩ (.func (.func 125) #[] #[.pointer (some ⟨b8, 0, none⟩), .pointer (some ⟨bs, 0, none⟩), .pointer (some ⟨bn, 0, none⟩), .pointer (some ⟨bk, 0, none⟩), .pointer (some ⟨b7, 0, none⟩), .pointer (some ⟨bm, 0, none⟩), .pointer (some ⟨bx, 0, none⟩)]))) ?hg ?ho ?hn ?hr ?_; (case ho => rfl); (case hg => rfl); (case hn => rfl); (case hr => first | (go_simp; done) | (go_simp; rfl)); intro w15 hw; have HT15 : Aside0 (impl_AllBruijn.Tail w w15 a0 a1 sz bn bk bs y0 A0 c0 i0 g c b7 b8) := ⟨by rw [hw]; exact HT14.out.set (by have := GM.out; have := BXB.out; omega) (by have := AB.out; have := BMB.out; have := BXB.out; omega) _⟩; have MS15 : Aside0 (impl_AllBruijn.BS w15 b0 (y0.length + 1) 1) := ⟨by rw [hw]; exact MS14.out.same (Below.heap_setCell w14 ⟨bx, 0, none⟩ _ b0 (by have := BMB.out; have := BXB.out; show b0 ≠ bx; omega))⟩; have BM15 : Aside0 (w15.heap[bm]? = some (.cells #[.map (some b0)] 107 (0, 0))) := ⟨by rw [hw]; exact blk_far BM14.out (Nat.ne_of_lt BXB.out) _⟩; have BX15 : Aside0 (w15.heap[bx]? = some (.cells #[impl_AllBruijn.fnV ⟨b8, bs, bn, bk, b7, bm, bx, b0, sz, a0, a1⟩] 108 (0, 0))) := ⟨by rw [hw]; exact blk_put BX14.out 0 _ rfl⟩; clear HT14 MS14 BM14 BX14 hcx14 hfx14 hw; have hcx15 : w15.cell? ⟨bx, 0, none⟩ = some (impl_AllBruijn.fnV ⟨b8, bs, bn, bk, b7, bm, bx, b0, sz, a0, a1⟩) := (blk_cell BX15.out 0).trans rfl; have HF := Aside0.mk (HT15.out.st MS15.out BM15.out BX15.out AB.out BMB.out BXB.out))
            | ((with_reducible refine impl_AllBruijn.gate_tmp (t := 31) rfl ?_); refine impl_AllBruijn.goesV (some 32) rfl rfl (f := 125) Try.func125 (by kernel_rfl) rfl (impl_AllBruijn.args ⟨b8, bs, bn, bk, b7, bm, bx, b0, sz, a0, a1⟩ 0) rfl rfl (by (try simp only [List.map_toArray, List.map_cons, List.map_nil]); first | done | rfl) ?_; refine (impl_AllBruijn.ext_calls w ⟨b8, bs, bn, bk, b7, bm, bx, b0, sz, a0, a1⟩ HF.out.1 k 0 y0 [] 1 ys _ _ _ HF.out.2 HT15.out.1 A5.out).mono ?_; rintro e w16 ⟨rfl, ⟨vw16, vo16, hst16⟩, hb16⟩; refine ⟨_, rfl, ?_⟩; have HST := Aside0.mk hst16; have HB16 := Aside0.mk hb16; clear hst16 hb16; have hco16 : w16.cell? ⟨b7, 0, none⟩ = some vo16 := HST.out.1.cells.2.2.1))
          go_ret2
          exact ⟨_, rfl, Kd.S_mono HST.out.2.2.1 (fun _ _ => trivial), HB16.out⟩
        · rw [if_neg c4] at H; exact absurd H (by simp)
      · rw [if_neg c3] at H; exact absurd H (by simp)
    · rw [if_neg c2] at H
      replace c2 := Bool.eq_false_iff.mpr c2
      subst c2
      simp only [Option.some.injEq, Prod.mk.injEq] at H
      obtain ⟨rfl, rfl⟩ := H
      go_enter Try.func52, Try.ntmps52
      go_wp2_with (first
        | ((with_reducible refine gate_dst (N := 2) rfl ?_); refine box_event ?hg (N := 2) ?hd (cs := #[.int .i64 a0]) (t := 3) ?hr ?_; (case hd => rfl); (case hg => rfl); (case hr => first | (go_simp; done) | (go_simp; rfl)); intro bn hbn w1 hbox hb; have n0_ := Aside0.mk (below_step HB.out hb); have EN := Aside0.mk (show w.heap.size ≤ bn by rw [hbn]; exact HB.out.size); have BN1 := Aside0.mk hbox; have hcn1 : w1.cell? ⟨bn, 0, none⟩ = some (.int .i64 a0) := (blk_cell hbox 0).trans rfl; clear HB hbox hb hbn; have HB := n0_; clear n0_)
        | ((with_reducible refine gate_dst (N := 3) rfl ?_); refine box_event ?hg (N := 3) ?hd (cs := #[.int .i64 a1]) (t := 3) ?hr ?_; (case hd => rfl); (case hg => rfl); (case hr => first | (go_simp; done) | (go_simp; rfl)); intro bk hbk w2 hbox hb; have n0_ := Aside0.mk (below_step HB.out hb); have NK := Aside0.mk (show bn < bk by rw [hbk]; exact blk_lt BN1.out); have BK2 := Aside0.mk hbox; have BN2 := Aside0.mk (blk_below BN1.out hb); have hck2 : w2.cell? ⟨bk, 0, none⟩ = some (.int .i64 a1) := (blk_cell hbox 0).trans rfl; have hcn2 : w2.cell? ⟨bn, 0, none⟩ = some (.int .i64 a0) := (blk_cell BN2.out 0).trans rfl; clear HB hbox hb hbk BN1 hcn1; have HB := n0_; clear n0_)
        | ((with_reducible refine gate_callee (f := 123) rfl ?_); (try (refine gate_guard (by rfl) ?_; dsimp only)); refine goesL_ (some 13) rfl rfl Try.func123 (by kernel_rfl) rfl #[.int .i64 a0, .int .i64 a1] rfl (by (try simp only [List.map_toArray, List.map_cons, List.map_nil]); first | done | rfl) ?_; (with_reducible refine (impl_isBruijnSize.calls k a0 a1 true _ A1.out).mono ?_); rintro e w3 ⟨rfl, ⟨nd3, rfl⟩⟩; refine ⟨_, rfl, ?_⟩; have hcn3 : (w2.drewN nd3).cell? ⟨bn, 0, none⟩ = some (.int .i64 a0) := hcn2; have hck3 : (w2.drewN nd3).cell? ⟨bk, 0, none⟩ = some (.int .i64 a1) := hck2)
        | ((with_reducible refine gate_callee (f := 124) rfl ?_); (try (refine gate_guard (by rfl) ?_; dsimp only)); refine goesL_ (some 18) rfl rfl Try.func124 (by kernel_rfl) rfl #[.int .i64 a0, .int .i64 a1] rfl (by (try simp only [List.map_toArray, List.map_cons, List.map_nil]); first | done | rfl) ?_; (with_reducible refine (impl_countBruijn.calls k a0 a1 cn _ A2.out).mono ?_); rintro e w4 ⟨rfl, hb⟩; refine ⟨_, rfl, ?_⟩; have n0_ : Aside0 (Below w.heap.size w w4) := ⟨below_step (pw_below_drewN HB.out _) hb⟩; have BN4 := Aside0.mk (blk_below (blk_drewN BN2.out nd3) hb); have BK4 := Aside0.mk (blk_below (blk_drewN BK2.out nd3) hb); have hcn4 : w4.cell? ⟨bn, 0, none⟩ = some (.int .i64 a0) := (blk_cell BN4.out 0).trans rfl; have hck4 : w4.cell? ⟨bk, 0, none⟩ = some (.int .i64 a1) := (blk_cell BK4.out 0).trans rfl; clear HB hb hcn3 hck3 hcn2 hck2 BN2 BK2; have HB := n0_; clear n0_)
        | ((with_reducible refine gate_callee (f := 68) rfl ?_); (try (refine gate_guard (by rfl) ?_; dsimp only)); refine goesL_ (some 19) rfl rfl Try.func68 (by kernel_rfl) rfl #[.int .i64 cn, .int .i64 0, .int .i64 40] rfl (by (try simp only [List.map_toArray, List.map_cons, List.map_nil]); first | done | rfl) ?_; (with_reducible refine (impl_within.calls cn 0 40 false _ A3.out).mono ?_); rintro e w5 ⟨rfl, ⟨nd5, rfl⟩⟩; refine ⟨_, rfl, ?_⟩; have hcn5 : (w4.drewN nd5).cell? ⟨bn, 0, none⟩ = some (.int .i64 a0) := hcn4; have hck5 : (w4.drewN nd5).cell? ⟨bk, 0, none⟩ = some (.int .i64 a1) := hck4))
      go_ret2
      exact ⟨_, rfl, Kd.S_nil _ _ _ _ _, (by repeat (first | (with_reducible first | exact HB.out | apply below_alloc | apply pw_below_drewN | apply below_drew1) | exact HB.out))⟩
  · rw [if_neg c1] at H
    replace c1 := Bool.eq_false_iff.mpr c1
    subst c1
    simp only [Option.some.injEq, Prod.mk.injEq] at H
    obtain ⟨rfl, rfl⟩ := H
    go_enter Try.func52, Try.ntmps52
    go_wp2_with (first
      | ((with_reducible refine gate_dst (N := 2) rfl ?_); refine box_event ?hg (N := 2) ?hd (cs := #[.int .i64 a0]) (t := 3) ?hr ?_; (case hd => rfl); (case hg => rfl); (case hr => first | (go_simp; done) | (go_simp; rfl)); intro bn hbn w1 hbox hb; have n0_ := Aside0.mk (below_step HB.out hb); have EN := Aside0.mk (show w.heap.size ≤ bn by rw [hbn]; exact HB.out.size); have BN1 := Aside0.mk hbox; have hcn1 : w1.cell? ⟨bn, 0, none⟩ = some (.int .i64 a0) := (blk_cell hbox 0).trans rfl; clear HB hbox hb hbn; have HB := n0_; clear n0_)
      | ((with_reducible refine gate_dst (N := 3) rfl ?_); refine box_event ?hg (N := 3) ?hd (cs := #[.int .i64 a1]) (t := 3) ?hr ?_; (case hd => rfl); (case hg => rfl); (case hr => first | (go_simp; done) | (go_simp; rfl)); intro bk hbk w2 hbox hb; have n0_ := Aside0.mk (below_step HB.out hb); have NK := Aside0.mk (show bn < bk by rw [hbk]; exact blk_lt BN1.out); have BK2 := Aside0.mk hbox; have BN2 := Aside0.mk (blk_below BN1.out hb); have hck2 : w2.cell? ⟨bk, 0, none⟩ = some (.int .i64 a1) := (blk_cell hbox 0).trans rfl; have hcn2 : w2.cell? ⟨bn, 0, none⟩ = some (.int .i64 a0) := (blk_cell BN2.out 0).trans rfl; clear HB hbox hb hbk BN1 hcn1; have HB := n0_; clear n0_)
      | ((with_reducible refine gate_callee (f := 123) rfl ?_); (try (refine gate_guard (by rfl) ?_; dsimp only)); refine goesL_ (some 13) rfl rfl Try.func123 (by kernel_rfl) rfl #[.int .i64 a0, .int .i64 a1] rfl (by (try simp only [List.map_toArray, List.map_cons, List.map_nil]); first | done | rfl) ?_; (with_reducible refine (impl_isBruijnSize.calls k a0 a1 false _ A1.out).mono ?_); rintro e w3 ⟨rfl, ⟨nd3, rfl⟩⟩; refine ⟨_, rfl, ?_⟩; have hcn3 : (w2.drewN nd3).cell? ⟨bn, 0, none⟩ = some (.int .i64 a0) := hcn2; have hck3 : (w2.drewN nd3).cell? ⟨bk, 0, none⟩ = some (.int .i64 a1) := hck2))
    go_ret2
    exact ⟨_, rfl, Kd.S_nil _ _ _ _ _, (by repeat (first | (with_reducible first | exact HB.out | apply below_alloc | apply pw_below_drewN | apply below_drew1) | exact HB.out))⟩

end Go.Proofs.Ytfbafdlgnjkioaa.PFnAllBruijnWords
