-- Written for this claim by a copy of the print that meets some functions by contracts of this session.
import Derived.Test.YtnbflbkneeageaaPFnTorix0
import Derived.Test.YtnbflbkneeageaaPFnTorix1
import Derived.Test.YtnbflbkneeageaaPFnTorix8
namespace Go.Proofs.Ytnbflbkneeageaa.PFnTori
open Go.RowKit Go.Proofs.YtnbflbkneeageaaW.PrintWords Go.Proofs.YtnbflbkneeageaaW.PrintLast Go.Proofs.YtnbflbkneeageaaW.PrintMore
attribute [local go_sem] max2_int min2_int max_two min_two max_three min_three max_four min_four   -- for this text's walks alone
set_option linter.unusedVariables false
set_option linter.unusedSimpArgs false

/-! ### spec_l1Cur_torus: function 29 (a contract of this session's own) -/
def spec_l1Cur_torus.row : Nat → Int → List Int → List Int → Int → Int → Option (List Int × Int × Int)
  | 0, _, _, _, _, _ => none
  | q + 1, rows, row, d, a, s => if rows = 0 then none else (if (row.length : Int) < wrap64 (Int.tdiv 16 rows) then ((spec_l1Cur_pick.f d a s 2).bind fun c => (if row.length < 17592186044416 then spec_l1Cur_torus.row q rows (row ++ [c.1]) d c.2.1 c.2.2 else none)) else some (row, a, s))
def spec_l1Cur_torus.rows : Nat → Int → Int → List (List Int) → List Int → Int → Int → Option (List (List Int) × Int × Int)
  | 0, _, _, _, _, _, _ => none
  | q + 1, rows, i, ys, d, a, s => if i < rows then ((spec_l1Cur_torus.row q rows [] d a s).bind fun r => (if ys.length < 5864062014805 then spec_l1Cur_torus.rows q rows (wrap64 (i + 1)) (ys ++ [r.1]) d r.2.1 r.2.2 else none)) else some (ys, a, s)
def spec_l1Cur_torus.last (ys : List (List Int)) (d : List Int) (a s : Int) : Option (List (List Int) × Int × Int) := (spec_l1Cur_pick.f d a s 16).bind fun c => (if c.1 = 0 then ((spec_l1Cur_pick.f d c.2.1 c.2.2 (ys.length : Int)).bind fun p => (if 0 ≤ p.1 then (if p.1 < (ys.length : Int) then ((spec_l1Cur_among.f d p.2.1 p.2.2 [0, 1, 2, -1]).bind fun v => (if 0 < (ys.getD p.1.toNat []).length then some (ys.set p.1.toNat ((ys.getD p.1.toNat []).set 0 v.1), v.2.1, v.2.2) else none)) else none) else none)) else (if c.1 = 1 then (if 1 ≤ ys.length then some (ys.drop 1, c.2.1, c.2.2) else none) else (if c.1 = 2 then (if 0 < ys.length then (if (ys.getD 0 []).length < 17592186044416 then some (ys.set 0 (ys.getD 0 [] ++ [1]), c.2.1, c.2.2) else none) else none) else some (ys, c.2.1, c.2.2))))
def spec_l1Cur_torus.lit : List (List Int) := [[0, 0, 0, 1], [0, 0, 1, 0], [1, 0, 1, 1], [0, 1, 1, 1]]
def spec_l1Cur_torus.drawn (k : Nat) (n : Int) (d : List Int) (a s : Int) : Option (List (List Int) × Int × Int) := (spec_l1Cur_torus.rows k n 0 [] d a s).bind fun r => spec_l1Cur_torus.last r.1 d r.2.1 r.2.2
def spec_l1Cur_torus.f (k : Nat) (d : List Int) (a s : Int) : Option (List (List Int) × Int × Int) := (spec_l1Cur_among.f d a s [1, 2, 4, 4, 4, 8, 16]).bind fun r => (if r.1 = 4 then ((spec_l1Cur_one.f d r.2.1 r.2.2 4).bind fun b => (if b.1 = true then spec_l1Cur_torus.drawn k r.1 d b.2.1 b.2.2 else ((spec_l1Cur_one.f d b.2.1 b.2.2 2).bind fun e => (if e.1 = true then ((spec_l1Cur_pick.f d e.2.1 e.2.2 4).bind fun x => ((spec_l1Cur_pick.f d x.2.1 x.2.2 4).bind fun y => ((spec_TurnTorus.f k spec_l1Cur_torus.lit x.1 y.1).bind fun t => spec_l1Cur_torus.last t.1 d y.2.1 y.2.2))) else spec_l1Cur_torus.last spec_l1Cur_torus.lit d e.2.1 e.2.2)))) else spec_l1Cur_torus.drawn k r.1 d r.2.1 r.2.2)
theorem spec_l1Cur_torus.mono_r : ∀ k, (∀ y0 y1 y2 y3 y4, LeO (spec_l1Cur_torus.row k y0 y1 y2 y3 y4) (spec_l1Cur_torus.row (k + 1) y0 y1 y2 y3 y4))
  | 0 => fun _ _ _ _ _ r h => by simp [spec_l1Cur_torus.row] at h
  | k + 1 => by
    have ih := spec_l1Cur_torus.mono_r k
    intro y0 y1 y2 y3 y4
    unfold spec_l1Cur_torus.row
    exact LeO.ite (LeO.refl _) (LeO.ite (LeO.bind (LeO.refl _) (fun _ => LeO.ite (ih _ _ _ _ _) (LeO.refl _))) (LeO.refl _))
theorem spec_l1Cur_torus.mono_s : ∀ k, (∀ y0 y1 y2 y3 y4 y5, LeO (spec_l1Cur_torus.rows k y0 y1 y2 y3 y4 y5) (spec_l1Cur_torus.rows (k + 1) y0 y1 y2 y3 y4 y5))
  | 0 => fun _ _ _ _ _ _ r h => by simp [spec_l1Cur_torus.rows] at h
  | k + 1 => by
    have ih := spec_l1Cur_torus.mono_s k
    intro y0 y1 y2 y3 y4 y5
    unfold spec_l1Cur_torus.rows
    exact LeO.ite (LeO.bind (spec_l1Cur_torus.mono_r _ _ _ _ _ _) (fun _ => LeO.ite (ih _ _ _ _ _ _) (LeO.refl _))) (LeO.refl _)
theorem spec_l1Cur_torus.mono_d (k : Nat) (n : Int) (d : List Int) (a s : Int) : LeO (spec_l1Cur_torus.drawn k n d a s) (spec_l1Cur_torus.drawn (k + 1) n d a s) := LeO.bind (spec_l1Cur_torus.mono_s _ _ _ _ _ _ _) (fun _ => LeO.refl _)
theorem spec_l1Cur_torus.mono : ∀ d a s k, LeO (spec_l1Cur_torus.f k d a s) (spec_l1Cur_torus.f (k + 1) d a s) := fun d a s k =>
  LeO.bind (LeO.refl _) (fun _ => LeO.ite (LeO.bind (LeO.refl _) (fun _ => LeO.ite (spec_l1Cur_torus.mono_d _ _ _ _ _) (LeO.bind (LeO.refl _) (fun _ => LeO.ite (LeO.bind (LeO.refl _) (fun _ => LeO.bind (LeO.refl _) (fun _ => LeO.bind (spec_TurnTorus.mono _ _ _ _) (fun _ => LeO.refl _)))) (LeO.refl _))))) (spec_l1Cur_torus.mono_d _ _ _ _ _))
def spec_l1Cur_torus.Inv (w0 w W : World) (g : Nat) (d : List Int) (a s : Int) : Prop := IsS44 w0 W g d a s ∧ Below w0.heap.size w0 W ∧ KeepBut w W g none ∧ g < w.heap.size ∧ w0.heap.size ≤ w.heap.size
theorem spec_l1Cur_torus.keep {w0 w W W' : World} {g : Nat} {d : List Int} {a s a' s' : Int} (h : spec_l1Cur_torus.Inv w0 w W g d a s) (h1 : IsS44 w0 W' g d a' s') (h2 : Below w0.heap.size w0 W') (h3 : KeepBut W W' g none) : spec_l1Cur_torus.Inv w0 w W' g d a' s' :=
  ⟨h1, h2, KeepBut.trans h.2.2.1 h3 (.inl rfl), h.2.2.2.1, h.2.2.2.2⟩
theorem spec_l1Cur_torus.put {w0 w W W' : World} {g : Nat} {d : List Int} {a s : Int} (h : spec_l1Cur_torus.Inv w0 w W g d a s) (h2 : Below w0.heap.size w0 W') (hK : Kept W W' (fun k_ => w.heap.size ≤ k_)) : spec_l1Cur_torus.Inv w0 w W' g d a s := by
  obtain ⟨h1, _, h3, h4, h5⟩ := h
  exact ⟨h1.kept hK (Nat.not_le.mpr h4), h2, ⟨Nat.le_trans h3.1 hK.1, fun i hi hn hq => (hK.2 i (Nat.lt_of_lt_of_le hi h3.1) (Nat.not_le.mpr hi)).trans (h3.2 i hi hn hq)⟩, h4, h5⟩
theorem spec_l1Cur_torus.kgrown {W W' : World} {n : Nat} {row : Option Nat} (hg : W.grownBy W' row) (hr : ∀ k, row = some k → n ≤ k) : Kept W W' (fun k_ => n ≤ k_) :=
  ⟨hg.size, fun i hi hn => hg.block i hi (fun e => hn (hr i e.symm))⟩
theorem spec_l1Cur_torus.grown {w0 w W W' : World} {g : Nat} {d : List Int} {a s : Int} {row : Option Nat} (h : spec_l1Cur_torus.Inv w0 w W g d a s) (hg : W.grownBy W' row) (hr : ∀ k, row = some k → w.heap.size ≤ k) : spec_l1Cur_torus.Inv w0 w W' g d a s :=
  spec_l1Cur_torus.put h (h.2.1.grown hg h.2.1.size (fun k hk => Nat.le_trans h.2.2.2.2 (hr k hk))) (spec_l1Cur_torus.kgrown hg hr)
theorem spec_l1Cur_torus.kset (W : World) (p : Addr) (v : Value) {n : Nat} (hp : n ≤ p.block) : Kept W (W.setCell p v) (fun k => n ≤ k) :=
  ⟨by simp, fun i _ hn => Below.heap_setCell W p v i (fun e => hn (e ▸ hp))⟩
theorem spec_l1Cur_torus.set {w0 w W : World} {g : Nat} {d : List Int} {a s : Int} (h : spec_l1Cur_torus.Inv w0 w W g d a s) {q j : Nat} (v : Value) (hp : w.heap.size ≤ q) : spec_l1Cur_torus.Inv w0 w (W.setCell ⟨q, j, none⟩ v) g d a s :=
  spec_l1Cur_torus.put h (below_set h.2.1 (Nat.le_trans h.2.2.2.2 hp)) (spec_l1Cur_torus.kset W ⟨q, j, none⟩ v hp)
def spec_l1Cur_torus.Box (W : World) (g : Nat) (v : Value) : Prop := W.heap[g]? = some (.cells #[v] 27 (0, 0))
def spec_l1Cur_torus.St (w0 w W : World) (g g2 g4 : Nat) (d : List Int) (a s : Int) (ok : Nat → Prop) (v : Value) (ys : List (List Int)) : Prop :=
  spec_l1Cur_torus.Inv w0 w W g d a s ∧ spec_l1Cur_torus.Box W g2 (.slice none 0 0) ∧ spec_l1Cur_torus.Box W g4 v ∧ (w.heap.size ≤ g2 ∧ w.heap.size ≤ g4 ∧ g2 ≠ g4) ∧ Kd.S (Kd.slice 3 (Kd.int .i64)) 36 W w.heap.size ok v ys
theorem spec_l1Cur_torus.above {W : World} {b : Nat} {ok : Nat → Prop} {v : Value} {ys : List (List Int)} (h : Kd.S (Kd.slice 3 (Kd.int .i64)) 36 W b ok v ys) {g : Nat} (hg : g < b) : Kd.S (Kd.slice 3 (Kd.int .i64)) 36 W b (fun k => ok k ∧ k ≠ g) v ys :=
  Kd.S_mono (Kd.S_bound h) (fun k hk => ⟨hk.1, fun e => by have := hk.2.1; omega⟩)
theorem spec_l1Cur_torus.rkeep {w W W' : World} {g : Nat} {u : Value} {row : List Int} (h : Kd.R (Kd.int .i64) 3 W w.heap.size (fun _ => True) u row) (hg : g < w.heap.size) (hk : KeepBut W W' g none) : Kd.R (Kd.int .i64) 3 W' w.heap.size (fun _ => True) u row :=
  Kd.R_mono (Kd.R_keep (Kd.R_bound h) hk (fun k hk1 e => by have := hk1.2.1; omega)) (fun _ _ => trivial)
theorem spec_l1Cur_torus.St.call {w0 w W W' : World} {g g2 g4 : Nat} {d : List Int} {a s a' s' : Int} {ok : Nat → Prop} {v : Value} {ys : List (List Int)} (h : spec_l1Cur_torus.St w0 w W g g2 g4 d a s ok v ys) (h1 : IsS44 w0 W' g d a' s') (h2 : Below w0.heap.size w0 W') (h3 : KeepBut W W' g none) : spec_l1Cur_torus.St w0 w W' g g2 g4 d a' s' ok v ys := by
  obtain ⟨hi, b2, b4, hge, hs⟩ := h
  have hg := hi.2.2.2.1
  refine ⟨spec_l1Cur_torus.keep hi h1 h2 h3, KeepBut.blk h3 b2 (by omega) (by simp), KeepBut.blk h3 b4 (by omega) (by simp), hge, ?_⟩
  exact Kd.S_mono (Kd.S_keep (spec_l1Cur_torus.above hs hg) h3 (fun _ hk => hk.2)) (fun _ hk => hk.1)
theorem spec_l1Cur_torus.St.grown {w0 w W W' : World} {g g2 g4 : Nat} {d : List Int} {a s : Int} {ok : Nat → Prop} {v : Value} {ys : List (List Int)} (h : spec_l1Cur_torus.St w0 w W g g2 g4 d a s ok v ys) {row : Option Nat} (hg : W.grownBy W' row) (hr : ∀ k, row = some k → w.heap.size ≤ k ∧ k ≠ g2 ∧ k ≠ g4) (hok : ∀ k, ok k → some k ≠ row) : spec_l1Cur_torus.St w0 w W' g g2 g4 d a s ok v ys := by
  obtain ⟨hi, b2, b4, hge, hs⟩ := h
  exact ⟨spec_l1Cur_torus.grown hi hg (fun k hk => (hr k hk).1), blk_grown b2 hg (fun e => (hr g2 e.symm).2.1 rfl), blk_grown b4 hg (fun e => (hr g4 e.symm).2.2 rfl), hge, Kd.S_grown hs hg hok⟩
theorem spec_l1Cur_torus.St.fresh {w0 w W W' : World} {g g2 g4 : Nat} {d : List Int} {a s : Int} {ok : Nat → Prop} {v : Value} {ys : List (List Int)} (h : spec_l1Cur_torus.St w0 w W g g2 g4 d a s ok v ys) (hg : W.grownBy W' none) : spec_l1Cur_torus.St w0 w W' g g2 g4 d a s ok v ys :=
  h.grown hg (fun k hk => by cases hk) (fun k _ => by simp)
theorem spec_l1Cur_torus.St.below {w0 w W W' : World} {g g2 g4 : Nat} {d : List Int} {a s : Int} {ok : Nat → Prop} {v : Value} {ys : List (List Int)} (h : spec_l1Cur_torus.St w0 w W g g2 g4 d a s ok v ys) (hb : Below W.heap.size W W') : spec_l1Cur_torus.St w0 w W' g g2 g4 d a s ok v ys :=
  h.fresh (grown_of_below hb none)
theorem spec_l1Cur_torus.typ : ∀ q, q ∈ 36 :: ((Kd.slice 3 (Kd.int .i64))).E → q ≠ 27 := by decide
theorem spec_l1Cur_torus.St.store {w0 w W : World} {g g2 g4 : Nat} {d : List Int} {a s : Int} {ok ok' : Nat → Prop} {v v' : Value} {ys ys' : List (List Int)} (h : spec_l1Cur_torus.St w0 w W g g2 g4 d a s ok v ys) (hs : Kd.S (Kd.slice 3 (Kd.int .i64)) 36 W w.heap.size ok' v' ys') : spec_l1Cur_torus.St w0 w (W.setCell ⟨g4, 0, none⟩ v') g g2 g4 d a s ok' v' ys' := by
  obtain ⟨hi, b2, b4, hge, _⟩ := h
  exact ⟨spec_l1Cur_torus.set hi v' hge.2.1, blk_far b2 hge.2.2 _, blk_put (cs := #[v]) b4 0 _ rfl, hge, Kd.S_set hs b4 spec_l1Cur_torus.typ 0 v'⟩
theorem spec_l1Cur_torus.St.mono {w0 w W : World} {g g2 g4 : Nat} {d : List Int} {a s : Int} {ok ok' : Nat → Prop} {v : Value} {ys : List (List Int)} (h : spec_l1Cur_torus.St w0 w W g g2 g4 d a s ok v ys) (hok : ∀ k, ok k → ok' k) : spec_l1Cur_torus.St w0 w W g g2 g4 d a s ok' v ys :=
  ⟨h.1, h.2.1, h.2.2.1, h.2.2.2.1, Kd.S_mono h.2.2.2.2 hok⟩
theorem spec_l1Cur_torus.St.is {w0 w W : World} {g g2 g4 : Nat} {d : List Int} {a s : Int} {ok : Nat → Prop} {v : Value} {ys : List (List Int)} (h : spec_l1Cur_torus.St w0 w W g g2 g4 d a s ok v ys) : IsS44 w0 W g d a s := h.1.1
theorem spec_l1Cur_torus.St.bel {w0 w W : World} {g g2 g4 : Nat} {d : List Int} {a s : Int} {ok : Nat → Prop} {v : Value} {ys : List (List Int)} (h : spec_l1Cur_torus.St w0 w W g g2 g4 d a s ok v ys) : Below w0.heap.size w0 W := h.1.2.1
theorem spec_l1Cur_torus.St.glt {w0 w W : World} {g g2 g4 : Nat} {d : List Int} {a s : Int} {ok : Nat → Prop} {v : Value} {ys : List (List Int)} (h : spec_l1Cur_torus.St w0 w W g g2 g4 d a s ok v ys) : g < w.heap.size := h.1.2.2.2.1
theorem spec_l1Cur_torus.St.size {w0 w W : World} {g g2 g4 : Nat} {d : List Int} {a s : Int} {ok : Nat → Prop} {v : Value} {ys : List (List Int)} (h : spec_l1Cur_torus.St w0 w W g g2 g4 d a s ok v ys) : w.heap.size ≤ W.heap.size := h.1.2.2.1.1
theorem spec_l1Cur_torus.St.rows {w0 w W : World} {g g2 g4 : Nat} {d : List Int} {a s : Int} {ok : Nat → Prop} {v : Value} {ys : List (List Int)} (h : spec_l1Cur_torus.St w0 w W g g2 g4 d a s ok v ys) : Kd.S (Kd.slice 3 (Kd.int .i64)) 36 W w.heap.size ok v ys := h.2.2.2.2
theorem spec_l1Cur_torus.St.c4 {w0 w W : World} {g g2 g4 : Nat} {d : List Int} {a s : Int} {ok : Nat → Prop} {v : Value} {ys : List (List Int)} (h : spec_l1Cur_torus.St w0 w W g g2 g4 d a s ok v ys) : W.cell? ⟨g4, 0, none⟩ = some v ∧ W.frozen? ⟨g4, 0, none⟩ = false := ⟨(blk_cell h.2.2.1 0).trans rfl, blk_frozen h.2.2.1 0⟩
theorem spec_l1Cur_torus.St.c2 {w0 w W : World} {g g2 g4 : Nat} {d : List Int} {a s : Int} {ok : Nat → Prop} {v : Value} {ys : List (List Int)} (h : spec_l1Cur_torus.St w0 w W g g2 g4 d a s ok v ys) : W.cell? ⟨g2, 0, none⟩ = some (.slice none 0 0) ∧ W.frozen? ⟨g2, 0, none⟩ = false := ⟨(blk_cell h.2.1 0).trans rfl, blk_frozen h.2.1 0⟩
/-- At the end: the rows are only read. -/
def spec_l1Cur_torus.End (w0 w W : World) (g g2 g4 : Nat) (d : List Int) (a s : Int) (v : Value) (ys : List (List Int)) : Prop :=
  spec_l1Cur_torus.Inv w0 w W g d a s ∧ spec_l1Cur_torus.Box W g2 (.slice none 0 0) ∧ spec_l1Cur_torus.Box W g4 v ∧ (w.heap.size ≤ g2 ∧ w.heap.size ≤ g4 ∧ g2 ≠ g4) ∧ Kd.V (Kd.slice 3 (Kd.int .i64)) 36 W w.heap.size (fun k => w.heap.size ≤ k ∧ k ≠ g2) v ys
theorem spec_l1Cur_torus.typed {W : World} {b : Nat} {ok : Nat → Prop} {v : Value} {ys : List (List Int)} (h : Kd.S (Kd.slice 3 (Kd.int .i64)) 36 W b ok v ys) {g2 : Nat} {u : Value} (hb : spec_l1Cur_torus.Box W g2 u) : Kd.S (Kd.slice 3 (Kd.int .i64)) 36 W b (fun k => b ≤ k ∧ k ≠ g2) v ys :=
  Kd.S_mono (Kd.S_bound (Kd.S_types h hb spec_l1Cur_torus.typ)) (fun k hk => ⟨hk.2.1, hk.1.2⟩)
theorem spec_l1Cur_torus.St.end_ {w0 w W : World} {g g2 g4 : Nat} {d : List Int} {a s : Int} {ok : Nat → Prop} {v : Value} {ys : List (List Int)} (h : spec_l1Cur_torus.St w0 w W g g2 g4 d a s ok v ys) : spec_l1Cur_torus.End w0 w W g g2 g4 d a s v ys :=
  ⟨h.1, h.2.1, h.2.2.1, h.2.2.2.1, Kd.S_V (spec_l1Cur_torus.typed h.2.2.2.2 h.2.1)⟩
/-- The cut: t.Rows = t.Rows[1:]. -/
theorem spec_l1Cur_torus.St.cut {w0 w W : World} {g g2 g4 : Nat} {d : List Int} {a s : Int} {ok : Nat → Prop} {A : Option Addr} {n c : Nat} {ys : List (List Int)} (h : spec_l1Cur_torus.St w0 w W g g2 g4 d a s ok (.slice A n c) ys) (hl : 1 ≤ ys.length) {v' : Value} (hv : Value.slice (if c = 1 then A else A.map (·.add (1 * 1))) (n - 1) (c - 1) = v') : spec_l1Cur_torus.End w0 w (W.setCell ⟨g4, 0, none⟩ v') g g2 g4 d a s v' (ys.drop 1) := by
  obtain ⟨hi, b2, b4, hge, hs⟩ := h
  refine ⟨spec_l1Cur_torus.set hi v' hge.2.1, blk_far b2 hge.2.2 _, blk_put (cs := #[.slice A n c]) b4 0 _ rfl, hge, ?_⟩
  have h1 := Kd.S_types (spec_l1Cur_torus.typed hs b2) b4 spec_l1Cur_torus.typ
  have h2 := Kd.Q_V (base' := w.heap.size) (Kd.Q_drop (Kd.Q_of_R (Kd.S_R h1)) hl)
  rw [show (Kd.slice 3 (Kd.int .i64)).sz = 1 from rfl, hv] at h2
  exact Kd.V_mono (Kd.V_far h2 (p := ⟨g4, 0, none⟩) (fun k hk => hk.2) v') (fun k hk => hk.1)
theorem spec_l1Cur_torus.ne_box {W : World} {b : Nat} {ok : Nat → Prop} {u : Value} {row : List Int} (h : Kd.R (Kd.int .i64) 3 W b ok u row) {g : Nat} {v : Value} (hb : spec_l1Cur_torus.Box W g v) : some g ≠ u.ownBlock := Kd.R_ne h hb (by decide)
theorem spec_l1Cur_torus.apart {W : World} {b b' : Nat} {ok ok' : Nat → Prop} {u v : Value} {row : List Int} {ys : List (List Int)} (hs : Kd.S (Kd.slice 3 (Kd.int .i64)) 36 W b ok v ys) (h : Kd.R (Kd.int .i64) 3 W b' ok' u row) : ∀ k, some k = u.ownBlock → some k ≠ v.ownBlock := by
  intro k hk
  obtain ⟨cells, hc⟩ := Kd.R_typed h k hk.symm
  exact Kd.S_ne hs hc (by decide)
/-- An append to the row that is being made. -/
theorem spec_l1Cur_torus.St.append {w0 w W W' : World} {g g2 g4 : Nat} {d : List Int} {a s : Int} {u u1 v : Value} {row : List Int} {ys : List (List Int)} (h : spec_l1Cur_torus.St w0 w W g g2 g4 d a s (fun k => some k ≠ u.ownBlock) v ys) (hu : Kd.R (Kd.int .i64) 3 W w.heap.size (fun _ => True) u row) (hg : W.grownBy W' u.ownBlock) (hat : u1.ownBlock = u.ownBlock ∨ ∃ b, u1.ownBlock = some b ∧ W.heap.size ≤ b) : spec_l1Cur_torus.St w0 w W' g g2 g4 d a s (fun k => some k ≠ u1.ownBlock) v ys := by
  obtain ⟨hi, b2, b4, hge, hs⟩ := h
  exact ⟨spec_l1Cur_torus.grown hi hg (fun k hk => Kd.R_base hu k hk), blk_grown b2 hg (spec_l1Cur_torus.ne_box hu b2), blk_grown b4 hg (spec_l1Cur_torus.ne_box hu b4), hge, Kd.S_mono (Kd.S_after (ok := (fun _ => True)) (Kd.S_mono hs (fun k hk => ⟨trivial, hk⟩)) hg hat) (fun k hk => hk.2)⟩
/-- An append to the rows, and its store into the box. -/
theorem spec_l1Cur_torus.St.push {w0 w W W' : World} {g g2 g4 : Nat} {d : List Int} {a s : Int} {ok ok' : Nat → Prop} {v v' : Value} {ys ys' : List (List Int)} (h : spec_l1Cur_torus.St w0 w W g g2 g4 d a s ok v ys) (hg : W.grownBy W' v.ownBlock) (hs' : Kd.S (Kd.slice 3 (Kd.int .i64)) 36 W' w.heap.size ok' v' ys') : spec_l1Cur_torus.St w0 w (W'.setCell ⟨g4, 0, none⟩ v') g g2 g4 d a s ok' v' ys' := by
  obtain ⟨hi, b2, b4, hge, hs⟩ := h
  have hi' := spec_l1Cur_torus.grown hi hg (fun k hk => Kd.S_base hs k hk)
  have b2' := blk_grown b2 hg (Kd.S_ne hs b2 (by decide))
  have b4' := blk_grown b4 hg (Kd.S_ne hs b4 (by decide))
  exact ⟨spec_l1Cur_torus.set hi' v' hge.2.1, blk_far b2' hge.2.2 _, blk_put (cs := #[v]) b4' 0 _ rfl, hge, Kd.S_set hs' b4' spec_l1Cur_torus.typ 0 v'⟩
theorem spec_l1Cur_torus.St.c4' {w0 w W W' : World} {g g2 g4 : Nat} {d : List Int} {a s : Int} {ok : Nat → Prop} {v : Value} {ys : List (List Int)} (h : spec_l1Cur_torus.St w0 w W g g2 g4 d a s ok v ys) (hg : W.grownBy W' v.ownBlock) : W'.cell? ⟨g4, 0, none⟩ = some v ∧ W'.frozen? ⟨g4, 0, none⟩ = false := by
  obtain ⟨hi, b2, b4, hge, hs⟩ := h
  have b4' := blk_grown b4 hg (Kd.S_ne hs b4 (by decide))
  exact ⟨(blk_cell b4' 0).trans rfl, blk_frozen b4' 0⟩
/-- What is held of one element's row and its first cell. -/
def spec_l1Cur_torus.Held (w W : World) (gr ge i : Nat) (ve : Value) (x : Int) : Prop := ∃ cs1 cs2, W.heap[gr]? = some (.cells cs1 36 (0, 0)) ∧ W.heap[ge]? = some (.cells cs2 3 (0, 0)) ∧ cs1[i]? = some ve ∧ cs2[0]? = some (.int .i64 x) ∧ w.heap.size ≤ gr ∧ w.heap.size ≤ ge
theorem spec_l1Cur_torus.Held.cells {w W : World} {gr ge i : Nat} {ve : Value} {x : Int} (h : spec_l1Cur_torus.Held w W gr ge i ve x) : W.cell? ⟨gr, i, none⟩ = some ve ∧ W.cell? ⟨ge, 0, none⟩ = some (.int .i64 x) ∧ W.frozen? ⟨ge, 0, none⟩ = false := by
  obtain ⟨cs1, cs2, h1, h2, h3, h4, _⟩ := h
  exact ⟨(blk_cell h1 i).trans h3, (blk_cell h2 0).trans h4, blk_frozen h2 0⟩
theorem spec_l1Cur_torus.Held.keep {w W W' : World} {gr ge i g : Nat} {ve : Value} {x : Int} (h : spec_l1Cur_torus.Held w W gr ge i ve x) (hk : KeepBut W W' g none) (hg : g < w.heap.size) : spec_l1Cur_torus.Held w W' gr ge i ve x := by
  obtain ⟨cs1, cs2, h1, h2, h3, h4, h5, h6⟩ := h
  exact ⟨cs1, cs2, KeepBut.blk hk h1 (by omega) (by simp), KeepBut.blk hk h2 (by omega) (by simp), h3, h4, h5, h6⟩
theorem spec_l1Cur_torus.Held.fresh {w W W' : World} {gr ge i : Nat} {ve : Value} {x : Int} (h : spec_l1Cur_torus.Held w W gr ge i ve x) (hg : W.grownBy W' none) : spec_l1Cur_torus.Held w W' gr ge i ve x := by
  obtain ⟨cs1, cs2, h1, h2, h3, h4, h5, h6⟩ := h
  exact ⟨cs1, cs2, blk_grown h1 hg (by simp), blk_grown h2 hg (by simp), h3, h4, h5, h6⟩
theorem spec_l1Cur_torus.lend {W : World} {b : Nat} {gr n c : Nat} {ys : List (List Int)} (hs : Kd.S (Kd.slice 3 (Kd.int .i64)) 36 W b (fun _ => True) (.slice (some ⟨gr, 0, none⟩) n c) ys) (i : Int) (h0 : 0 ≤ i) (h1 : i < n) :
    ∃ (oki : Nat → Prop) (ve : Value), Kd.R (Kd.int .i64) 3 W b oki ve (ys.getD i.toNat []) ∧ W.cell? ⟨gr, i.toNat, none⟩ = some ve ∧ W.frozen? ⟨gr, i.toNat, none⟩ = false ∧ (∀ k, oki k → k ≠ gr) ∧ Kd.H (Kd.slice 3 (Kd.int .i64)) 36 W b (fun _ => True) (.slice (some ⟨gr, 0, none⟩) n c) ys i oki [ve] := by
  obtain ⟨oki, cc, hcl, hM, hcells, hfr, hoki, hH⟩ := Kd.S_elem hs [] i h0 h1
  obtain ⟨ve, rfl, ge⟩ := hM
  have hx := hcells 0 ve rfl
  have hf := hfr 0
  rw [show ((Kd.slice 3 (Kd.int .i64))).sz = 1 from rfl, Nat.mul_one, Nat.add_zero] at hx hf
  exact ⟨oki, ve, ge, hx, hf, fun k hk => (hoki k hk).2, hH⟩
theorem spec_l1Cur_torus.hold {w W : World} {gr n c : Nat} {ys : List (List Int)} (hs : Kd.S (Kd.slice 3 (Kd.int .i64)) 36 W w.heap.size (fun _ => True) (.slice (some ⟨gr, 0, none⟩) n c) ys) (i : Int) (h0 : 0 ≤ i) (h1 : i < n) (hl : 0 < (ys.getD i.toNat []).length) :
    ∃ ge cc x, spec_l1Cur_torus.Held w W gr ge i.toNat (.slice (some ⟨ge, 0, none⟩) (ys.getD i.toNat []).length cc) x := by
  obtain ⟨oki, ve, hR, hx, hf, hk, hH⟩ := spec_l1Cur_torus.lend hs i h0 h1
  obtain ⟨ge, cc, rfl, hge, _, cs2, h2⟩ := Kd.R_form hR hl
  obtain ⟨cs1, hc1⟩ := Kd.S_typed hs gr (by simp [Value.ownBlock])
  have hcell := (Kd.R_cell 0 hR 0 (by omega) (by omega)).1
  exact ⟨ge, cc, _, cs1, cs2, hc1, h2, (blk_cell hc1 _).symm.trans hx, (blk_cell h2 0).symm.trans hcell, Kd.S_base hs gr (by simp [Value.ownBlock]), hge⟩
/-- A store into the first cell of an element's row. -/
theorem spec_l1Cur_torus.St.poke {w0 w W : World} {g g2 g4 gr n c ge m cc : Nat} {d : List Int} {a s : Int} {ys : List (List Int)} (h : spec_l1Cur_torus.St w0 w W g g2 g4 d a s (fun _ => True) (.slice (some ⟨gr, 0, none⟩) n c) ys) (i : Int) (h0 : 0 ≤ i) (h1 : i < n) (hc : W.cell? ⟨gr, i.toNat, none⟩ = some (.slice (some ⟨ge, 0, none⟩) m cc)) (x : Int) :
    spec_l1Cur_torus.End w0 w (W.setCell ⟨ge, 0, none⟩ (.int .i64 x)) g g2 g4 d a s (.slice (some ⟨gr, 0, none⟩) n c) (ys.set i.toNat ((ys.getD i.toNat []).set 0 x)) := by
  obtain ⟨hi, b2, b4, hge, hs⟩ := h
  obtain ⟨oki, ve, hR, hx, hf, hk, hH⟩ := spec_l1Cur_torus.lend hs i h0 h1
  obtain rfl := Option.some.inj (hx.symm.trans hc)
  obtain ⟨hR', hg⟩ := Kd.R_putg hR 0 x
  have hown : (Value.slice (some ⟨ge, 0, none⟩) m cc).ownBlock = some ge := by simp [Value.ownBlock]
  have hs' := Kd.H_back (Kd.H_grown hH hg (fun k hk => by injection hk with hk; exact hR.1 k (by rw [hown, hk]))) (Kd.M_row hR') (fun _ hk => hk)
  exact spec_l1Cur_torus.St.end_ ⟨spec_l1Cur_torus.set hi _ (Kd.R_base hR ge hown), blk_grown b2 hg (by rw [← hown]; exact spec_l1Cur_torus.ne_box hR b2), blk_grown b4 hg (by rw [← hown]; exact spec_l1Cur_torus.ne_box hR b4), hge, hs'⟩
/-- An append to an element's row, its slice stored back. -/
theorem spec_l1Cur_torus.St.swap {w0 w W W' : World} {g g2 g4 gr n c : Nat} {d : List Int} {a s : Int} {ys : List (List Int)} (h : spec_l1Cur_torus.St w0 w W g g2 g4 d a s (fun _ => True) (.slice (some ⟨gr, 0, none⟩) n c) ys) (i : Int) (h0 : 0 ≤ i) (h1 : i < n) {oki : Nat → Prop} {ve v' : Value} {l' : List Int}
    (hR : Kd.R (Kd.int .i64) 3 W w.heap.size oki ve (ys.getD i.toNat [])) (hk : ∀ k, oki k → k ≠ gr) (hH : Kd.H (Kd.slice 3 (Kd.int .i64)) 36 W w.heap.size (fun _ => True) (.slice (some ⟨gr, 0, none⟩) n c) ys i oki [ve]) (hg : W.grownBy W' ve.ownBlock) (hR' : Kd.R (Kd.int .i64) 3 W' w.heap.size (fun k => oki k ∨ W.heap.size ≤ k) v' l') :
    spec_l1Cur_torus.End w0 w (W'.setCell ⟨gr, i.toNat, none⟩ v') g g2 g4 d a s (.slice (some ⟨gr, 0, none⟩) n c) (ys.set i.toNat l') := by
  obtain ⟨hi, b2, b4, hge, hs⟩ := h
  have hown : (Value.slice (some ⟨gr, 0, none⟩) n c).ownBlock = some gr := by simp [Value.ownBlock]
  have hlt := Kd.S_lt hs gr hown
  have b2' := blk_grown b2 hg (spec_l1Cur_torus.ne_box hR b2)
  have b4' := blk_grown b4 hg (spec_l1Cur_torus.ne_box hR b4)
  have hH1 := Kd.H_step (Kd.H_widen hH) (w1 := W') (fun k _ hn hl => hg.block k hl (fun e => hn (.inl (hR.1 k e.symm))))
  obtain ⟨hH2, hg2⟩ := Kd.H_seg hH1 h0 h1 (seg := [v']) (j := 0) (Nat.le_refl 1) (fun q hq => by
    rw [List.mem_singleton.1 hq]
    obtain ⟨A, cc, rfl⟩ := Kd.R_slice hR'
    rfl)
  have hR2 := Kd.R_grown hR' hg2 (fun k hk2 e => by
    injection e with e
    subst e
    rcases hk2 with hk2 | hk2
    · exact hk k hk2 rfl
    · omega)
  have hs' := Kd.H_back hH2 (x' := l') (okp := fun k => oki k ∨ W.heap.size ≤ k) (Kd.M_row hR2) (fun k hk => hk.imp id (fun h => ⟨trivial, h⟩))
  rw [show i.toNat * ((Kd.slice 3 (Kd.int .i64))).sz + 0 = i.toNat by rw [show ((Kd.slice 3 (Kd.int .i64))).sz = 1 from rfl, Nat.mul_one, Nat.add_zero]] at hs' hg2
  have e1 : W'.setCells gr i.toNat [v'] = W'.setCell ⟨gr, i.toNat, none⟩ v' := rfl
  rw [e1] at hs' hg2
  exact spec_l1Cur_torus.St.end_ ⟨spec_l1Cur_torus.set (spec_l1Cur_torus.grown hi hg (fun k hk => Kd.R_base hR k hk)) _ (Kd.S_base hs gr hown), blk_grown b2' hg2 (by rw [← hown]; exact Kd.S_ne hs b2 (by decide)), blk_grown b4' hg2 (by rw [← hown]; exact Kd.S_ne hs b4 (by decide)), hge, hs'⟩
theorem spec_l1Cur_torus.St.c4r {w0 w W W' : World} {g g2 g4 gr n c : Nat} {d : List Int} {a s : Int} {ok : Nat → Prop} {ys : List (List Int)} (h : spec_l1Cur_torus.St w0 w W g g2 g4 d a s (fun _ => True) (.slice (some ⟨gr, 0, none⟩) n c) ys) {ve : Value} {row : List Int} (hR : Kd.R (Kd.int .i64) 3 W w.heap.size ok ve row) (hg : W.grownBy W' ve.ownBlock) {j : Nat} (hc : W.cell? ⟨gr, j, none⟩ = some ve) :
    W'.cell? ⟨g4, 0, none⟩ = some (.slice (some ⟨gr, 0, none⟩) n c) ∧ W'.cell? ⟨gr, j, none⟩ = some ve ∧ W'.frozen? ⟨gr, j, none⟩ = false := by
  obtain ⟨hi, b2, b4, hge, hs⟩ := h
  have b4' := blk_grown b4 hg (spec_l1Cur_torus.ne_box hR b4)
  obtain ⟨cs1, hc1⟩ := Kd.S_typed hs gr (by simp [Value.ownBlock])
  have h1 := blk_grown hc1 hg (fun e => spec_l1Cur_torus.apart hs hR gr e (by simp [Value.ownBlock]))
  exact ⟨(blk_cell b4' 0).trans rfl, (blk_cell h1 j).trans ((blk_cell hc1 j).symm.trans hc), blk_frozen h1 j⟩
theorem spec_l1Cur_torus.St.frz {w0 w W W' : World} {g g2 g4 gr n c : Nat} {d : List Int} {a s : Int} {ys : List (List Int)} (h : spec_l1Cur_torus.St w0 w W g g2 g4 d a s (fun _ => True) (.slice (some ⟨gr, 0, none⟩) n c) ys) (hb : Below W.heap.size W W') (j : Nat) : W'.frozen? ⟨gr, j, none⟩ = false := by
  obtain ⟨cs1, hc1⟩ := Kd.S_typed h.2.2.2.2 gr (by simp [Value.ownBlock])
  exact blk_frozen (blk_below hc1 hb) j
theorem spec_l1Cur_torus.End.c4 {w0 w W : World} {g g2 g4 : Nat} {d : List Int} {a s : Int} {v : Value} {ys : List (List Int)} (h : spec_l1Cur_torus.End w0 w W g g2 g4 d a s v ys) : (W.cell? ⟨g4, 0, none⟩ = some v ∧ W.frozen? ⟨g4, 0, none⟩ = false) ∧ W.cell? ⟨g2, 0, none⟩ = some (.slice none 0 0) ∧ W.frozen? ⟨g2, 0, none⟩ = false := ⟨⟨(blk_cell h.2.2.1 0).trans rfl, blk_frozen h.2.2.1 0⟩, (blk_cell h.2.1 0).trans rfl, blk_frozen h.2.1 0⟩
theorem spec_l1Cur_torus.End.out {w0 w W : World} {g g2 g4 : Nat} {d : List Int} {a s : Int} {v : Value} {ys : List (List Int)} (h : spec_l1Cur_torus.End w0 w W g g2 g4 d a s v ys) : spec_l1Cur_torus.Box (W.setCell ⟨g2, 0, none⟩ v) g2 v ∧ Kd.V (Kd.slice 3 (Kd.int .i64)) 36 (W.setCell ⟨g2, 0, none⟩ v) w.heap.size (fun k_ => w.heap.size ≤ k_) v ys ∧ spec_l1Cur_torus.Inv w0 w (W.setCell ⟨g2, 0, none⟩ v) g d a s := by
  obtain ⟨hi, b2, b4, hge, hv⟩ := h
  exact ⟨blk_put (cs := #[.slice none 0 0]) b2 0 _ rfl, Kd.V_mono (Kd.V_far hv (p := ⟨g2, 0, none⟩) (fun k hk => hk.2) v) (fun k hk => hk.1), spec_l1Cur_torus.set hi v hge.1⟩
set_option maxHeartbeats 16000000 in
set_option maxRecDepth 100000 in
theorem spec_l1Cur_torus.calls (k : Nat) (g : Nat) (d : List Int) (a0 : Int) (s0 : Int) (r1 : List (List Int)) (r2 : Int) (r3 : Int) (w0 w : World) (hI : IsS44 w0 w g d a0 s0) (hB : Below w0.heap.size w0 w) (h : spec_l1Cur_torus.f k d a0 s0 = some (r1, r2, r3)) :
    Calls Try.prog 29 #[.pointer (some ⟨g, 0, none⟩)] w fun e w' => ∃ v0_ : Value, e = .returned (.agg #[v0_]) ∧ Kd.V (Kd.slice 3 (Kd.int .i64)) 36 w' w.heap.size (fun k_ => w.heap.size ≤ k_) v0_ r1 ∧ IsS44 w0 w' g d r2 r3 ∧ Below w0.heap.size w0 w' ∧ KeepBut w w' g none := by
  have hu27 := Try.underlying27
  have HI : Aside0 (spec_l1Cur_torus.Inv w0 w w g d a0 s0) := ⟨hI, hB, KeepBut.refl w g none, hI.lt, hB.size⟩
  clear hI hB
  unfold spec_l1Cur_torus.f at h
  obtain ⟨⟨rr, ra, rs⟩, hr, H⟩ := Option.bind_eq_some_iff.mp h
  have A1 := Aside0.mk hr
  clear h hr
  dsimp only at H
  by_cases c0 : rr = 4
  · subst c0
    replace H := (if_pos rfl).symm.trans H
    obtain ⟨⟨b1, ba, bs⟩, h_, H⟩ := Option.bind_eq_some_iff.mp H
    have A2 := Aside0.mk h_
    clear h_
    (try dsimp only at H)
    have HL0 := Aside0.mk H
    clear H
    go_enter Try.func29, Try.ntmps29
    go_upto_if 17 with (first
      | ((with_reducible refine gate_dst (N := 2) rfl ?_); refine box_event ?hg (N := 2) ?hd (cs := #[.slice none 0 0]) (t := 27) ?hr ?_; (case hd => rfl); (case hg => rfl); (case hr => first | (go_simp; done) | (go_simp; rfl)); intro g2 hg w_1 hbox hb; have n0_ := Aside0.mk (spec_l1Cur_torus.grown HI.out (grown_of_below hb none) (fun k hk => by cases hk)); have BX2 := Aside0.mk (show spec_l1Cur_torus.Box w_1 g2 (.slice none 0 0) from hbox); have GE2 : Aside0 (w.heap.size ≤ g2) := ⟨by rw [hg]; exact HI.out.2.2.1.1⟩; clear HI hb hbox hg; have HI := n0_; clear n0_)
      | ((with_reducible refine gate_dst (N := 8) rfl ?_); refine Kd.R_lit (Kd.int .i64) w.heap.size 3 ?hg (N := 8) ?hd (xs := ([1, 2, 4, 4, 4, 8, 16] : List Int)) (inner := [.int .i64 1, .int .i64 2, .int .i64 4, .int .i64 4, .int .i64 4, .int .i64 8, .int .i64 16]) (ok := (fun _ => True)) (okp := fun _ => False) ?hr ?hp (fun _ hk => hk.elim) trivial (Below.refl _ _) HI.out.2.2.1.1 (by simp) ?_; (case hd => rfl); (case hg => rfl); (case hr => first | (go_simp; done) | (go_simp; rfl)); (case hp => exact ⟨rfl, fun i p hp => by match i, hp with | 0, hp => cases hp; rfl | 1, hp => cases hp; rfl | 2, hp => cases hp; rfl | 3, hp => cases hp; rfl | 4, hp => cases hp; rfl | 5, hp => cases hp; rfl | 6, hp => cases hp; rfl⟩); intro v8 w8 ho hb hg_ hnew_; have n0_ := Aside0.mk (spec_l1Cur_torus.grown HI.out hg_ (fun k hk => by cases hk)); have n1_ := Aside0.mk (show spec_l1Cur_torus.Box w8 g2 (.slice none 0 0) from blk_grown BX2.out hg_ (by simp)); obtain ⟨A8, c8, e8⟩ := Kd.R_slice ho; subst e8; have HL := Aside0.mk (Kd.R_lower (base' := w.heap.size) ho (Nat.le_refl _)); clear HI BX2 ho hb hg_ hnew_; have HI := n0_; have BX2 := n1_; clear n0_ n1_)
      | ((with_reducible refine gate_callee (f := 17) rfl ?_); refine goesL_ (some 9) rfl rfl Try.func17 (by kernel_rfl) rfl #[.pointer (some ⟨g, 0, none⟩), .slice A8 7 c8] rfl (by (try simp only [List.map_toArray, List.map_cons, List.map_nil]); first | done | rfl) ?_; refine (spec_l1Cur_among.calls g d a0 s0 A8 c8 [1, 2, 4, 4, 4, 8, 16] 4 ra rs w0 _ HI.out.1 HI.out.2.1 (Kd.R_reads' HL.out).2.2 (Kd.R_reads' HL.out).2.1 (fun ad had _ e_ => by subst had; have h8_ := Kd.R_base HL.out ad.block rfl; have h9_ := HI.out.2.2.2.1; rw [← e_] at h9_; exact absurd h9_ (Nat.not_lt.mpr h8_)) A1.out).mono ?_; rintro e w_3 ⟨rfl, hi_, hb_, hk_⟩; refine ⟨_, rfl, ?_⟩; have n0_ := Aside0.mk (spec_l1Cur_torus.keep HI.out hi_ hb_ hk_); have n1_ := Aside0.mk (show spec_l1Cur_torus.Box w_3 g2 (.slice none 0 0) from KeepBut.blk hk_ BX2.out (fun e_ => by have := GE2.out; have := HI.out.2.2.2.1; omega) (by simp)); clear HI HL BX2 hi_ hb_ hk_; have HI := n0_; have BX2 := n1_; clear n0_ n1_)
      | ((with_reducible refine gate_dst (N := 4) rfl ?_); refine box_event ?hg (N := 4) ?hd (cs := #[.slice none 0 0]) (t := 27) ?hr ?_; (case hd => rfl); (case hg => rfl); (case hr => first | (go_simp; done) | (go_simp; rfl)); intro g4 hg w_4 hbox hb; have HS : Aside0 (spec_l1Cur_torus.St w0 w w_4 g g2 g4 d ra rs (fun _ => True) (.slice none 0 0) []) := ⟨⟨spec_l1Cur_torus.grown HI.out (grown_of_below hb none) (fun k hk => by cases hk), blk_below BX2.out hb, hbox, ⟨GE2.out, by rw [hg]; exact HI.out.2.2.1.1, by rw [hg]; exact Nat.ne_of_lt (blk_lt BX2.out)⟩, Kd.S_nil _ _ _ _ _⟩⟩; clear HI BX2 GE2 hb hbox hg; have hc4 := HS.out.c4.1; have hf4 := HS.out.c4.2)
      | ((with_reducible refine gate_store (t := 27) (p := 4) rfl ?_); refine store_event (t := 27) (p := 4) (v := ?vo_s0) (w1 := (w_4.setCell ⟨g4, 0, none⟩ (.slice none 0 0))) ?hg ?ho ?hn ?hr ?_; (case ho => rfl); (case hg => rfl); (case hn => rfl); (case hr => first | (go_simp; done) | (go_simp; rfl)); intro w_5 hw; have n0_ : Aside0 (spec_l1Cur_torus.St w0 w w_5 g g2 g4 d ra rs (fun _ => True) (.slice none 0 0) ([])) := ⟨by rw [hw]; exact HS.out.store (Kd.S_nil _ _ _ _ _)⟩; clear HS hw; have HS := n0_; clear n0_; (try clear hc4); (try clear hf4); have hc4 := HS.out.c4.1; have hf4 := HS.out.c4.2)
      | ((with_reducible refine gate_callee (f := 34) rfl ?_); refine gate_guard (by rfl) ?_; refine goesL_ (some 15) rfl rfl Try.func34 (by kernel_rfl) rfl #[.pointer (some ⟨g, 0, none⟩), .int .i64 4] rfl (by (try simp only [List.map_toArray, List.map_cons, List.map_nil]); first | done | rfl) ?_; refine (spec_l1Cur_one.calls g d ra rs 4 b1 ba bs w0 _ HS.out.is HS.out.bel A2.out).mono ?_; rintro e w_0 ⟨rfl, hi_, hb_, hk_⟩; refine ⟨_, rfl, ?_⟩; have n0_ := Aside0.mk (HS.out.call hi_ hb_ hk_); clear HS hi_ hb_ hk_; have HS := n0_; clear n0_; (try clear hc4); (try clear hf4); have hc4 := HS.out.c4.1; have hf4 := HS.out.c4.2))
    (try simp only [Act.put, List.setIfInBounds_toArray, List.set_cons_zero, List.set_cons_succ])
    go_cut [] from 5 (fun wc => ∃ (ys : List (List Int)) (ax sx : Int) (v : Value), Aside0 (spec_l1Cur_torus.last ys d ax sx = some (r1, r2, r3)) ∧ Aside0 (spec_l1Cur_torus.St w0 w wc g g2 g4 d ax sx (fun _ => True) v ys))
    case first =>
      have H := HL0.out
      clear HL0
      cases b1 with
      | true =>
        replace H := (if_pos rfl).symm.trans H
        replace H := (show (spec_l1Cur_torus.drawn k 4 d ba bs) = some (r1, r2, r3) from H)
        unfold spec_l1Cur_torus.drawn at H
        have H' : Aside0 ((spec_l1Cur_torus.rows k (4 : Int) 0 [] d ba bs).bind (fun r => spec_l1Cur_torus.last r.1 d r.2.1 r.2.2) = some (r1, r2, r3)) := ⟨H⟩
        clear H
        go_wp2
        go_loopg [5] k (fun kq v5 w' => ∃ (i ax sx : Int) (ys : List (List Int)) (v : Value), v5 = .int .i64 i ∧ Aside0 ((spec_l1Cur_torus.rows kq (4 : Int) i ys d ax sx).bind (fun r => spec_l1Cur_torus.last r.1 d r.2.1 r.2.2) = some (r1, r2, r3)) ∧ Aside0 (kq ≤ k) ∧ Aside0 (spec_l1Cur_torus.St w0 w w' g g2 g4 d ax sx (fun _ => True) v ys))
        case atStart => exact ⟨0, ba, bs, [], .slice none 0 0, (by first | rfl | (simp; done) | (simp [*]; done)), H', ⟨Nat.le_refl _⟩, HS⟩
        case round =>
          clear H' HS
          (try clear hc4); (try clear hf4)
          obtain ⟨i, ax, sx, ys, v, rfl, HA, HK1, HS⟩ := hrel
          have hc4 := HS.out.c4.1
          have hf4 := HS.out.c4.2
          cases gk with
          | zero => exact absurd HA.out (by simp [spec_l1Cur_torus.rows])
          | succ k1 =>
            have H := HA.out
            clear HA
            simp only [spec_l1Cur_torus.rows] at H
            by_cases c1 : i < (4 : Int)
            · rw [if_pos c1] at H
              have c1b : decide (i < (4 : Int)) = true := decide_eq_true c1
              clear c1
              obtain ⟨q0, hq, H⟩ := Option.bind_eq_some_iff.mp H
              obtain ⟨rw_, hrow, hq⟩ := Option.bind_eq_some_iff.mp hq
              by_cases c2 : ys.length < 5864062014805
              · rw [if_pos c2] at hq
                have CL2 := Aside0.mk c2
                clear c2
                have H' : Aside0 ((spec_l1Cur_torus.rows k1 (4 : Int) (wrap64 (i + 1)) (ys ++ [rw_.1]) d rw_.2.1 rw_.2.2).bind (fun r => spec_l1Cur_torus.last r.1 d r.2.1 r.2.2) = some (r1, r2, r3)) := ⟨Option.bind_eq_some_iff.mpr ⟨q0, hq, H⟩⟩
                have R' := Aside0.mk hrow
                clear hq H hrow
                go_wp2
                go_loopg [6] k1 (fun kq v6 w' => ∃ (row : List Int) (a2 s2 : Int), Aside0 (spec_l1Cur_torus.row kq (4 : Int) row d a2 s2 = some rw_) ∧ Aside0 (kq ≤ k1) ∧ Aside0 (spec_l1Cur_torus.St w0 w w' g g2 g4 d a2 s2 (fun k_ => some k_ ≠ v6.ownBlock) v ys) ∧ Aside0 (Kd.R (Kd.int .i64) 3 w' w.heap.size (fun _ => True) v6 row))
                case atStart => exact ⟨[], ax, sx, R', ⟨Nat.le_refl _⟩, ⟨HS.out.mono (fun k _ => by simp [Value.ownBlock])⟩, ⟨Kd.R_nil _ _ _ _ _⟩⟩
                case round =>
                  clear R' HS
                  (try clear hc4); (try clear hf4)
                  obtain ⟨row, a2, s2, HA, HK2, HS, HR⟩ := hrel
                  have hc4 := HS.out.c4.1
                  have hf4 := HS.out.c4.2
                  cases gk with
                  | zero => exact absurd HA.out (by simp [spec_l1Cur_torus.row])
                  | succ k2 =>
                    have HQ := HA.out
                    clear HA
                    simp only [spec_l1Cur_torus.row] at HQ
                    by_cases z : (4 : Int) = 0
                    · rw [if_pos z] at HQ; exact absurd HQ (by simp)
                    rw [if_neg z] at HQ
                    have z0 : ((4 : Int) == 0) = false := beq_eq_false_iff_ne.mpr z
                    have z1 : ((4 : Int) != 0) = true := bne_iff_ne.mpr z
                    obtain ⟨A6, c6, e6⟩ := Kd.R_slice HR.out
                    subst e6
                    rw [show wrap64 (Int.tdiv 16 (4 : Int)) = 4 by rw [show Int.tdiv 16 (4 : Int) = 4 from rfl]; unfold wrap64; omega] at HQ
                    by_cases c3 : (row.length : Int) < 4
                    · rw [if_pos c3] at HQ
                      have c3b : decide ((row.length : Int) < 4) = true := decide_eq_true c3
                      clear c3
                      obtain ⟨⟨p1, pa, ps⟩, h_, HQ⟩ := Option.bind_eq_some_iff.mp HQ
                      have D1 := Aside0.mk h_
                      clear h_
                      (try dsimp only at HQ)
                      by_cases c4 : row.length < 17592186044416
                      · rw [if_pos c4] at HQ
                        have CL := Aside0.mk c4
                        clear c4
                        have HQ' := Aside0.mk HQ
                        clear HQ
                        go_wp2_with (first
                          | ((with_reducible refine gate_callee (f := 36) rfl ?_); refine goesL_ (some 47) rfl rfl Try.func36 (by kernel_rfl) rfl #[.pointer (some ⟨g, 0, none⟩), .int .i64 2] rfl (by (try simp only [List.map_toArray, List.map_cons, List.map_nil]); first | done | rfl) ?_; refine (spec_l1Cur_pick.calls g d a2 s2 2 p1 pa ps w0 _ HS.out.is HS.out.bel D1.out).mono ?_; rintro e wp ⟨rfl, hi_, hb_, hk_⟩; refine ⟨_, rfl, ?_⟩; have n1_ := Aside0.mk (spec_l1Cur_torus.rkeep HR.out HS.out.glt hk_); clear HR; have HR := n1_; clear n1_; have n0_ := Aside0.mk (HS.out.call hi_ hb_ hk_); clear HS hi_ hb_ hk_; have HS := n0_; clear n0_; (try clear hc4); (try clear hf4); have hc4 := HS.out.c4.1; have hf4 := HS.out.c4.2)
                          | ((with_reducible refine gate_builtin (b := .append) (xs := #[.tmp 45, .tmp 48]) rfl ?_); at_builtin; refine Kd.R_append (Kd.int .i64) (w0 := wp) w.heap.size rfl (.tmp 45) (.tmp 48) 36 3 (.int .i64 0) 8 rfl Try.underlying36 info3 rfl (by decide) (by omega) (.slice A6 row.length c6) row p1 [.int .i64 p1] (fun _ => True) (fun _ => False) rfl rfl ?aP (fun _ hk => hk.elim) ?aF ?aO ?aB ?aS ?aL ?_; (case aP => exact rfl); (case aB => exact Below.refl _ _); (case aF => exact fun _ _ => trivial); (case aO => exact HR.out); (case aS => exact HS.out.size); (case aL => have := CL.out; omega); intro v49 w49 ho hb hg hat; have n0_ := Aside0.mk (HS.out.append HR.out hg hat); have n1_ := Aside0.mk ho; clear HS HR ho hb hg hat; have HS := n0_; have HR := n1_; clear n0_ n1_; (try clear hc4); (try clear hf4); have hc4 := HS.out.c4.1; have hf4 := HS.out.c4.2))
                        go_roundg k2
                        case measure => have := HK2.out; omega
                        case rel => exact ⟨row ++ [p1], pa, ps, HQ', ⟨by have := HK2.out; omega⟩, HS, HR⟩
                      · rw [if_neg c4] at HQ; exact absurd HQ (by simp)
                    · rw [if_neg c3] at HQ
                      have c3b : decide ((row.length : Int) < 4) = false := decide_eq_false c3
                      clear c3
                      obtain rfl := Option.some.inj HQ
                      clear HQ
                      (try dsimp only at H')
                      go_wp2_with (first
                        | ((with_reducible refine gate_builtin (b := .append) (xs := #[.tmp 51, .tmp 53]) rfl ?_); at_builtin; refine Kd.S_append (Kd.slice 3 (Kd.int .i64)) (w0 := wr) w.heap.size rfl (.tmp 51) (.tmp 53) 25 36 (.slice none 0 0) 24 rfl Try.underlying25 info36 rfl (by decide) (by decide) v ys row [.slice A6 row.length c6] (fun _ => True) (fun k => some k = (.slice A6 row.length c6 : Value).ownBlock) rfl rfl ?bP ?bK ?bF ?bO ?bB ?bS ?bL ?_; (case bP => exact Kd.M_row (Kd.R_tight rfl HR.out)); (case bK => exact fun k hk => ⟨trivial, spec_l1Cur_torus.apart HS.out.rows HR.out k hk⟩); (case bF => exact fun _ _ => trivial); (case bO => exact Kd.S_mono HS.out.rows (fun k hk => ⟨trivial, hk⟩)); (case bB => exact Below.refl _ _); (case bS => exact HS.out.size); (case bL => have := CL2.out; omega); intro v54 w54 ho hb hg hat; obtain ⟨A54, c54, e54⟩ := Kd.S_slice ho; subst e54; clear hc4 hf4; have hc4 := (HS.out.c4' hg).1; have hf4 := (HS.out.c4' hg).2; have HG := Aside0.mk hg; have HT := Aside0.mk ho; clear ho hb hg hat)
                        | ((with_reducible refine gate_store (t := 25) (p := 55) rfl ?_); refine store_event (t := 25) (p := 55) (v := ?vo_s55) (w1 := (w54.setCell ⟨g4, 0, none⟩ (.slice A54 (ys ++ [row]).length c54))) ?hg ?ho ?hn ?hr ?_; (case ho => rfl); (case hg => rfl); (case hn => rfl); (case hr => first | (go_simp; done) | (go_simp; rfl)); intro w_55 hw; have n0_ : Aside0 (spec_l1Cur_torus.St w0 w w_55 g g2 g4 d a2 s2 (fun _ => True) (.slice A54 (ys ++ [row]).length c54) (ys ++ [row])) := ⟨by rw [hw]; exact HS.out.push HG.out HT.out⟩; clear HS HG HT hw; have HS := n0_; clear n0_; (try clear hc4); (try clear hf4); have hc4 := HS.out.c4.1; have hf4 := HS.out.c4.2))
                      go_roundg k1
                      case measure => have := HK1.out; omega
                      case rel => exact ⟨wrap64 (i + 1), a2, s2, ys ++ [row], _, (by first | rfl | (simp; done) | (simp [*]; done)), H', ⟨by have := HK1.out; omega⟩, HS⟩
              · rw [if_neg c2] at hq; exact absurd hq (by simp)
            · rw [if_neg c1] at H
              have c1b : decide (i < (4 : Int)) = false := decide_eq_false c1
              clear c1
              replace H : spec_l1Cur_torus.last ys d ax sx = some (r1, r2, r3) := H
              go_wp2
              go_meet
              case rel => exact ⟨ys, ax, sx, v, ⟨H⟩, ⟨HS.out⟩⟩
      | false =>
        replace H := (if_neg (by simp)).symm.trans H
        obtain ⟨⟨e1, ea, es⟩, h_, H⟩ := Option.bind_eq_some_iff.mp H
        have B0 := Aside0.mk h_
        clear h_
        (try dsimp only at H)
        go_upto_if 25 with (first
  | ((with_reducible refine gate_dst (N := 18) rfl ?_); refine Kd.R_lit (Kd.int .i64) w.heap.size 3 ?hg (N := 18) ?hd (xs := ([0, 0, 0, 1] : List Int)) (inner := [.int .i64 0, .int .i64 0, .int .i64 0, .int .i64 1]) (ok := (fun k => w_0.heap.size ≤ k)) (okp := fun _ => False) ?hr ?hp (fun _ hk => hk.elim) (Nat.le_refl _) (Below.refl _ _) HS.out.size (by simp) ?_; (case hd => rfl); (case hg => rfl); (case hr => first | (go_simp; done) | (go_simp; rfl)); (case hp => exact ⟨rfl, fun i p hp => by match i, hp with | 0, hp => cases hp; rfl | 1, hp => cases hp; rfl | 2, hp => cases hp; rfl | 3, hp => cases hp; rfl⟩); intro v18 w18 ho hb hg_ hnew_; obtain ⟨A18, c18, e18⟩ := Kd.R_slice ho; subst e18; have SZ18 := Aside0.mk hg_.size; have n0_ := Aside0.mk (HS.out.fresh hg_); have HA18 := Aside0.mk (Kd.R_mono (ok' := fun k => w_0.heap.size ≤ k ∧ k < w18.heap.size) (Kd.R_bound ho) (fun k hk => ⟨hk.1, hk.2.2.1⟩)); clear HS ho hb hg_ hnew_; have HS := n0_; clear n0_; (try clear hc4); (try clear hf4); have hc4 := HS.out.c4.1; have hf4 := HS.out.c4.2)
  | ((with_reducible refine gate_dst (N := 19) rfl ?_); refine Kd.R_lit (Kd.int .i64) w.heap.size 3 ?hg (N := 19) ?hd (xs := ([0, 0, 1, 0] : List Int)) (inner := [.int .i64 0, .int .i64 0, .int .i64 1, .int .i64 0]) (ok := (fun k => w18.heap.size ≤ k)) (okp := fun _ => False) ?hr ?hp (fun _ hk => hk.elim) (Nat.le_refl _) (Below.refl _ _) HS.out.size (by simp) ?_; (case hd => rfl); (case hg => rfl); (case hr => first | (go_simp; done) | (go_simp; rfl)); (case hp => exact ⟨rfl, fun i p hp => by match i, hp with | 0, hp => cases hp; rfl | 1, hp => cases hp; rfl | 2, hp => cases hp; rfl | 3, hp => cases hp; rfl⟩); intro v19 w19 ho hb hg_ hnew_; obtain ⟨A19, c19, e19⟩ := Kd.R_slice ho; subst e19; have SZ19 := Aside0.mk hg_.size; have n0_ := Aside0.mk (HS.out.fresh hg_); have m0_ := Aside0.mk (Kd.R_grown HA18.out hg_ (fun k _ => by simp)); have HA19 := Aside0.mk (Kd.R_mono (ok' := fun k => w18.heap.size ≤ k ∧ k < w19.heap.size) (Kd.R_bound ho) (fun k hk => ⟨hk.1, hk.2.2.1⟩)); clear HS ho hb hg_ hnew_ HA18; have HS := n0_; clear n0_; have HA18 := m0_; clear m0_; (try clear hc4); (try clear hf4); have hc4 := HS.out.c4.1; have hf4 := HS.out.c4.2)
  | ((with_reducible refine gate_dst (N := 20) rfl ?_); refine Kd.R_lit (Kd.int .i64) w.heap.size 3 ?hg (N := 20) ?hd (xs := ([1, 0, 1, 1] : List Int)) (inner := [.int .i64 1, .int .i64 0, .int .i64 1, .int .i64 1]) (ok := (fun k => w19.heap.size ≤ k)) (okp := fun _ => False) ?hr ?hp (fun _ hk => hk.elim) (Nat.le_refl _) (Below.refl _ _) HS.out.size (by simp) ?_; (case hd => rfl); (case hg => rfl); (case hr => first | (go_simp; done) | (go_simp; rfl)); (case hp => exact ⟨rfl, fun i p hp => by match i, hp with | 0, hp => cases hp; rfl | 1, hp => cases hp; rfl | 2, hp => cases hp; rfl | 3, hp => cases hp; rfl⟩); intro v20 w20 ho hb hg_ hnew_; obtain ⟨A20, c20, e20⟩ := Kd.R_slice ho; subst e20; have SZ20 := Aside0.mk hg_.size; have n0_ := Aside0.mk (HS.out.fresh hg_); have m0_ := Aside0.mk (Kd.R_grown HA18.out hg_ (fun k _ => by simp)); have m1_ := Aside0.mk (Kd.R_grown HA19.out hg_ (fun k _ => by simp)); have HA20 := Aside0.mk (Kd.R_mono (ok' := fun k => w19.heap.size ≤ k ∧ k < w20.heap.size) (Kd.R_bound ho) (fun k hk => ⟨hk.1, hk.2.2.1⟩)); clear HS ho hb hg_ hnew_ HA18 HA19; have HS := n0_; clear n0_; have HA18 := m0_; clear m0_; have HA19 := m1_; clear m1_; (try clear hc4); (try clear hf4); have hc4 := HS.out.c4.1; have hf4 := HS.out.c4.2)
  | ((with_reducible refine gate_dst (N := 21) rfl ?_); refine Kd.R_lit (Kd.int .i64) w.heap.size 3 ?hg (N := 21) ?hd (xs := ([0, 1, 1, 1] : List Int)) (inner := [.int .i64 0, .int .i64 1, .int .i64 1, .int .i64 1]) (ok := (fun k => w20.heap.size ≤ k)) (okp := fun _ => False) ?hr ?hp (fun _ hk => hk.elim) (Nat.le_refl _) (Below.refl _ _) HS.out.size (by simp) ?_; (case hd => rfl); (case hg => rfl); (case hr => first | (go_simp; done) | (go_simp; rfl)); (case hp => exact ⟨rfl, fun i p hp => by match i, hp with | 0, hp => cases hp; rfl | 1, hp => cases hp; rfl | 2, hp => cases hp; rfl | 3, hp => cases hp; rfl⟩); intro v21 w21 ho hb hg_ hnew_; obtain ⟨A21, c21, e21⟩ := Kd.R_slice ho; subst e21; have SZ21 := Aside0.mk hg_.size; have n0_ := Aside0.mk (HS.out.fresh hg_); have m0_ := Aside0.mk (Kd.R_grown HA18.out hg_ (fun k _ => by simp)); have m1_ := Aside0.mk (Kd.R_grown HA19.out hg_ (fun k _ => by simp)); have m2_ := Aside0.mk (Kd.R_grown HA20.out hg_ (fun k _ => by simp)); have HA21 := Aside0.mk (Kd.R_mono (ok' := fun k => w20.heap.size ≤ k ∧ k < w21.heap.size) (Kd.R_bound ho) (fun k hk => ⟨hk.1, hk.2.2.1⟩)); clear HS ho hb hg_ hnew_ HA18 HA19 HA20; have HS := n0_; clear n0_; have HA18 := m0_; clear m0_; have HA19 := m1_; clear m1_; have HA20 := m2_; clear m2_; (try clear hc4); (try clear hf4); have hc4 := HS.out.c4.1; have hf4 := HS.out.c4.2)
  | ((with_reducible refine gate_dst (N := 22) rfl ?_); refine Kd.S_lits (Kd.slice 3 (Kd.int .i64)) w.heap.size 36 ?hg (N := 22) ?hd (xs := spec_l1Cur_torus.lit) (inner := [.slice A18 4 c18, .slice A19 4 c19, .slice A20 4 c20, .slice A21 4 c21]) (ok := (fun _ => True)) (fun j k => (j = 0 ∧ w_0.heap.size ≤ k ∧ k < w18.heap.size) ∨ (j = 1 ∧ w18.heap.size ≤ k ∧ k < w19.heap.size) ∨ (j = 2 ∧ w19.heap.size ≤ k ∧ k < w20.heap.size) ∨ (j = 3 ∧ w20.heap.size ≤ k ∧ k < w21.heap.size)) ?hr rfl ?hrep ?hap (fun _ _ _ => trivial) trivial (Below.refl _ _) HS.out.size (by decide) ?_; (case hd => rfl); (case hg => rfl); (case hr => first | (go_simp; done) | (go_simp; rfl)); (case hrep => intro j_ x_ hx; match j_, hx with | 0, hx => cases hx; exact ⟨_, rfl, Kd.R_mono HA18.out (fun k hk => .inl ⟨rfl, hk⟩)⟩ | 1, hx => cases hx; exact ⟨_, rfl, Kd.R_mono HA19.out (fun k hk => .inr (.inl ⟨rfl, hk⟩))⟩ | 2, hx => cases hx; exact ⟨_, rfl, Kd.R_mono HA20.out (fun k hk => .inr (.inr (.inl ⟨rfl, hk⟩)))⟩ | 3, hx => cases hx; exact ⟨_, rfl, Kd.R_mono HA21.out (fun k hk => .inr (.inr (.inr (⟨rfl, hk⟩))))⟩ | (n_ + 4), hx => cases hx); (case hap => intro i_ j_ k_ h1_ h2_; have := SZ18.out; have := SZ19.out; have := SZ20.out; have := SZ21.out; (try dsimp only at h1_ h2_); omega); intro v22 w22 ho hb hg_ hnew_; have n0_ := Aside0.mk (HS.out.fresh hg_); obtain ⟨A22, c22, e22⟩ := Kd.S_slice ho; subst e22; have HT := Aside0.mk ho; clear HS HA18 HA19 HA20 HA21 ho hb hg_ hnew_; have HS := n0_; clear n0_; (try clear hc4); (try clear hf4); have hc4 := HS.out.c4.1; have hf4 := HS.out.c4.2)
  | ((with_reducible refine gate_store (t := 25) (p := 23) rfl ?_); refine store_event (t := 25) (p := 23) (v := ?vo_s22) (w1 := (w22.setCell ⟨g4, 0, none⟩ (.slice A22 (spec_l1Cur_torus.lit).length c22))) ?hg ?ho ?hn ?hr ?_; (case ho => rfl); (case hg => rfl); (case hn => rfl); (case hr => first | (go_simp; done) | (go_simp; rfl)); intro w_23 hw; have n0_ : Aside0 (spec_l1Cur_torus.St w0 w w_23 g g2 g4 d ba bs (fun _ => True) (.slice A22 (spec_l1Cur_torus.lit).length c22) (spec_l1Cur_torus.lit)) := ⟨by rw [hw]; exact HS.out.store (HT.out)⟩; clear HS hw; have HS := n0_; clear n0_; (try clear hc4); (try clear hf4); have hc4 := HS.out.c4.1; have hf4 := HS.out.c4.2)
  | ((with_reducible refine gate_callee (f := 34) rfl ?_); refine goesL_ (some 25) rfl rfl Try.func34 (by kernel_rfl) rfl #[.pointer (some ⟨g, 0, none⟩), .int .i64 2] rfl (by (try simp only [List.map_toArray, List.map_cons, List.map_nil]); first | done | rfl) ?_; refine (spec_l1Cur_one.calls g d ba bs 2 e1 ea es w0 _ HS.out.is HS.out.bel B0.out).mono ?_; rintro e w_25 ⟨rfl, hi_, hb_, hk_⟩; refine ⟨_, rfl, ?_⟩; have n0_ := Aside0.mk (HS.out.call hi_ hb_ hk_); clear HS hi_ hb_ hk_; have HS := n0_; clear n0_; (try clear hc4); (try clear hf4); have hc4 := HS.out.c4.1; have hf4 := HS.out.c4.2))
        cases e1 with
        | true =>
          replace H := (if_pos rfl).symm.trans H
          obtain ⟨⟨x1, xa, xs⟩, h_, H⟩ := Option.bind_eq_some_iff.mp H
          have B1 := Aside0.mk h_
          clear h_
          (try dsimp only at H)
          obtain ⟨⟨y1, ya, ys_⟩, h_, H⟩ := Option.bind_eq_some_iff.mp H
          have B2 := Aside0.mk h_
          clear h_
          (try dsimp only at H)
          obtain ⟨⟨t1, t2⟩, h_, H⟩ := Option.bind_eq_some_iff.mp H
          have B3 := Aside0.mk h_
          clear h_
          (try dsimp only at H)
          go_wp2
          have n0_ := Aside0.mk (HS.out.below (below_drew (Below.refl _ _)))
          (try clear hc4); (try clear hf4)
          clear HS; have HS := n0_; clear n0_
          refine start_ (n := 10) (S := fun w' => w'.cell? ⟨g4, 0, none⟩ = some (.slice A22 (spec_l1Cur_torus.lit).length c22) ∧ w'.frozen? ⟨g4, 0, none⟩ = false) (ds := [9]) #[false, false, false, false, false, false, false, false, false, false] (by kernel_rfl) rfl rfl ⟨HS.out.c4.1, HS.out.c4.2⟩ (fun hHeld => ?_)
          generalize w_25.drew = w_d at HS hHeld ⊢
          refine pure_ (i := 1) (N := some 28) (v := ?_) (a' := ?_) #[false, true, false, false, false, false, false, false, false, false] rfl rfl (by kernel_rfl) (fun _ _ _ h => h) (Or.inl ⟨by rfl, ?_⟩) ?_ ?_
          rotate_left
          · intro w'
            go_simp
            with_reducible rfl
          rotate_left
          · simp only [Act.put, List.setIfInBounds_toArray, List.set_cons_zero, List.set_cons_succ, i64_w, i32_w]
            rfl
          refine pure_ (i := 3) (N := some 30) (v := ?_) (a' := ?_) #[false, true, false, true, false, false, false, false, false, false] rfl rfl (by kernel_rfl) (fun _ _ _ h => h) (Or.inl ⟨by rfl, ?_⟩) ?_ ?_
          rotate_left
          · intro w'
            go_simp
            with_reducible rfl
          rotate_left
          · simp only [Act.put, List.setIfInBounds_toArray, List.set_cons_zero, List.set_cons_succ, i64_w, i32_w]
            rfl
          refine take_ (i := 0) (N := some 27) (v := ?_) (a' := ?_) #[true, true, false, true, false, false, false, false, false, false] rfl rfl (by kernel_rfl) (fun _ _ _ h => h) (Or.inl ⟨by rfl, ?_⟩) hHeld ?_ ?_
          rotate_left
          · rintro w' ⟨s0, s1⟩
            go_simp
            with_reducible rfl
          rotate_left
          · simp only [Act.put, List.setIfInBounds_toArray, List.set_cons_zero, List.set_cons_succ, i64_w, i32_w]
            rfl
          refine one_ (i := 2) (N := some 29) #[true, true, true, true, false, false, false, false, false, false] rfl rfl (by kernel_rfl) (by decide) (fun K hK => ?_)
          refine goes_ Try.func36 (by kernel_rfl) rfl #[.pointer (some ⟨g, 0, none⟩), .int .i64 4] (by rfl) rfl rfl (by (try simp only [List.map_toArray, List.map_cons, List.map_nil]); first | done | rfl) ?_
          with_reducible refine (spec_l1Cur_pick.calls g d ea es 4 x1 xa xs w0 _ HS.out.is HS.out.bel B1.out).mono ?_
          rintro e w_6 ⟨rfl, hi_, hb_, hk_⟩
          refine ⟨_, rfl, ?_⟩
          have n0_ := Aside0.mk (HS.out.call hi_ hb_ hk_)
          clear HS hi_ hb_ hk_
          have HS := n0_
          clear n0_
          refine hK.out _ _ ⟨HS.out.c4.1, HS.out.c4.2⟩ (fun hHeld => ?_)
          clear hK K
          refine norm_ (a' := ?_) ?_ ?_
          rotate_left
          · show Act.put _ (some 29) _ = _
            simp only [Act.put, List.setIfInBounds_toArray, List.set_cons_zero, List.set_cons_succ, i64_w, i32_w]
            rfl
          refine one_ (i := 4) (N := some 31) #[true, true, true, true, true, false, false, false, false, false] rfl rfl (by kernel_rfl) (by decide) (fun K hK => ?_)
          refine goes_ Try.func36 (by kernel_rfl) rfl #[.pointer (some ⟨g, 0, none⟩), .int .i64 4] (by rfl) rfl rfl (by (try simp only [List.map_toArray, List.map_cons, List.map_nil]); first | done | rfl) ?_
          with_reducible refine (spec_l1Cur_pick.calls g d xa xs 4 y1 ya ys_ w0 _ HS.out.is HS.out.bel B2.out).mono ?_
          rintro e w_7 ⟨rfl, hi_, hb_, hk_⟩
          refine ⟨_, rfl, ?_⟩
          have n0_ := Aside0.mk (HS.out.call hi_ hb_ hk_)
          clear HS hi_ hb_ hk_
          have HS := n0_
          clear n0_
          refine hK.out _ _ ⟨HS.out.c4.1, HS.out.c4.2⟩ (fun hHeld => ?_)
          clear hK K
          refine norm_ (a' := ?_) ?_ ?_
          rotate_left
          · show Act.put _ (some 31) _ = _
            simp only [Act.put, List.setIfInBounds_toArray, List.set_cons_zero, List.set_cons_succ, i64_w, i32_w]
            rfl
          refine one_ (i := 5) (N := some 32) #[true, true, true, true, true, true, false, false, false, false] rfl rfl (by kernel_rfl) (by decide) (fun K hK => ?_)
          refine goes_ Try.func12 (by kernel_rfl) rfl #[.agg #[.slice A22 (spec_l1Cur_torus.lit).length c22], .int .i64 x1, .int .i64 y1] (by rfl) rfl rfl (by (try simp only [List.map_toArray, List.map_cons, List.map_nil]); first | done | rfl) ?_
          with_reducible refine (spec_TurnTorus.calls k A22 c22 spec_l1Cur_torus.lit x1 y1 t1 t2 _ (Kd.S_reads' HS.out.rows).2.2 (Kd.S_reads' HS.out.rows).2.1 B3.out).mono ?_
          rintro e w_8 ⟨v32, rfl, ho, hb⟩
          refine ⟨_, rfl, ?_⟩
          obtain ⟨A32, c32, e32⟩ := Kd.S_slice ho
          subst e32
          have HT := Aside0.mk (Kd.S_lower (base' := w.heap.size) ho HS.out.size)
          have n0_ := Aside0.mk (HS.out.below hb)
          clear HS ho hb
          have HS := n0_
          clear n0_
          refine hK.out _ _ ⟨HS.out.c4.1, HS.out.c4.2⟩ (fun hHeld => ?_)
          clear hK K
          refine norm_ (a' := ?_) ?_ ?_
          rotate_left
          · show Act.put _ (some 32) _ = _
            simp only [Act.put, List.setIfInBounds_toArray, List.set_cons_zero, List.set_cons_succ, i64_w, i32_w]
            rfl
          refine pure_ (i := 6) (N := some 26) (v := ?_) (a' := ?_) #[true, true, true, true, true, true, true, false, false, false] rfl rfl (by kernel_rfl) (fun _ _ _ h => h) (Or.inl ⟨by rfl, ?_⟩) ?_ ?_
          rotate_left
          · intro w'
            go_simp
            with_reducible rfl
          rotate_left
          · simp only [Act.put, List.setIfInBounds_toArray, List.set_cons_zero, List.set_cons_succ, i64_w, i32_w]
            rfl
          refine pure_ (i := 7) (N := some 33) (v := ?_) (a' := ?_) #[true, true, true, true, true, true, true, true, false, false] rfl rfl (by kernel_rfl) (fun _ _ _ h => h) (Or.inl ⟨by rfl, ?_⟩) ?_ ?_
          rotate_left
          · intro w'
            go_simp
            with_reducible rfl
          rotate_left
          · simp only [Act.put, List.setIfInBounds_toArray, List.set_cons_zero, List.set_cons_succ, i64_w, i32_w]
            rfl
          refine pure_ (i := 8) (N := some 34) (v := ?_) (a' := ?_) #[true, true, true, true, true, true, true, true, true, false] rfl rfl (by kernel_rfl) (fun _ _ _ h => h) (Or.inl ⟨by rfl, ?_⟩) ?_ ?_
          rotate_left
          · intro w'
            go_simp
            with_reducible rfl
          rotate_left
          · simp only [Act.put, List.setIfInBounds_toArray, List.set_cons_zero, List.set_cons_succ, i64_w, i32_w]
            rfl
          refine last_ (i := 9) (N := none) #[true, true, true, true, true, true, true, true, true, true] rfl rfl (by kernel_rfl) (by decide) (fun K hK => ?_)
          refine skip_ (w1 := ?_) (by rfl) rfl ?_ ?_
          rotate_left
          · go_simp
            rfl
          refine hK.out _ _ ?_
          clear hK K
          refine done_ (by kernel_rfl) ?_
          (try go_wp2)
          go_meet
          case rel => exact ⟨t1, ya, ys_, _, ⟨H⟩, ⟨HS.out.store HT.out⟩⟩
        | false =>
          replace H := (if_neg (by simp)).symm.trans H
          go_wp2
          go_meet
          case rel => exact ⟨spec_l1Cur_torus.lit, ea, es, _, ⟨H⟩, ⟨HS.out⟩⟩
    case rest =>
      clear HL0
      obtain ⟨ys, ax, sx, v, HL, HS⟩ := hcut
      have H := HL.out
      clear HL
      unfold spec_l1Cur_torus.last at H
      obtain ⟨⟨c1, ca, cs⟩, h_, H⟩ := Option.bind_eq_some_iff.mp H
      have C1 := Aside0.mk h_
      clear h_
      (try dsimp only at H)
      have hc4 := HS.out.c4.1
      have hf4 := HS.out.c4.2
      by_cases e0 : c1 = 0
      · rw [if_pos e0] at H
        have e0b : (c1 == 0) = true := beq_iff_eq.mpr e0
        clear e0
        obtain ⟨⟨p1, pa, ps⟩, h_, H⟩ := Option.bind_eq_some_iff.mp H
        have D1 := Aside0.mk h_
        clear h_
        (try dsimp only at H)
        by_cases z0 : ¬ (0 ≤ p1)
        · rw [if_neg z0] at H; exact absurd H (by simp)
        replace z0 := Decidable.not_not.mp z0
        rw [if_pos z0] at H
        by_cases z1 : ¬ (p1 < (ys.length : Int))
        · rw [if_neg z1] at H; exact absurd H (by simp)
        replace z1 := Decidable.not_not.mp z1
        rw [if_pos z1] at H
        obtain ⟨⟨x1, xa, xs⟩, h_, H⟩ := Option.bind_eq_some_iff.mp H
        have D2 := Aside0.mk h_
        clear h_
        (try dsimp only at H)
        obtain ⟨el, hel⟩ : ∃ l : List Int, l = ys.getD p1.toNat [] := ⟨_, rfl⟩
        rw [← hel] at H
        have HEL := Aside0.mk hel
        clear hel
        by_cases z2 : ¬ (0 < el.length)
        · rw [if_neg z2] at H; exact absurd H (by simp)
        replace z2 := Decidable.not_not.mp z2
        rw [if_pos z2] at H
        simp only [Option.some.injEq, Prod.mk.injEq] at H
        obtain ⟨rfl, rfl, rfl⟩ := H
        obtain ⟨gr, cr, ev, _, _, _⟩ := Kd.S_form HS.out.rows (by omega)
        subst ev
        go_wp2_with (first
  | ((with_reducible refine gate_callee (f := 36) rfl ?_); refine goesL_ (some 57) rfl rfl Try.func36 (by kernel_rfl) rfl #[.pointer (some ⟨g, 0, none⟩), .int .i64 16] rfl (by (try simp only [List.map_toArray, List.map_cons, List.map_nil]); first | done | rfl) ?_; refine (spec_l1Cur_pick.calls g d ax sx 16 c1 ca cs w0 _ HS.out.is HS.out.bel C1.out).mono ?_; rintro e w_57 ⟨rfl, hi_, hb_, hk_⟩; refine ⟨_, rfl, ?_⟩; have n0_ := Aside0.mk (HS.out.call hi_ hb_ hk_); clear HS hi_ hb_ hk_; have HS := n0_; clear n0_; (try clear hc4); (try clear hf4); have hc4 := HS.out.c4.1; have hf4 := HS.out.c4.2))
        obtain ⟨ge, cc, x0, hh⟩ := spec_l1Cur_torus.hold HS.out.rows p1 z0 z1 (by rw [← HEL.out]; exact z2)
        rw [← HEL.out] at hh
        obtain ⟨m_, hm_⟩ : ∃ m : Nat, el.length = m := ⟨_, rfl⟩
        rw [hm_] at z2 hh
        clear hm_
        have HE := Aside0.mk hh
        clear hh
        have n0_ := Aside0.mk (HS.out.below (below_drew (Below.refl _ _)))
        (try clear hc4); (try clear hf4)
        have n1_ := Aside0.mk (HE.out.fresh (grown_of_below (below_drew (Below.refl _ _)) none))
        clear HE
        have HE := n1_
        clear n1_
        clear HS
        have HS := n0_
        clear n0_
        refine start_ (n := 14) (S := fun w' => w'.cell? ⟨g4, 0, none⟩ = some (.slice (some ⟨gr, 0, none⟩) ys.length cr) ∧ w'.cell? ⟨gr, p1.toNat, none⟩ = some (.slice (some ⟨ge, 0, none⟩) m_ cc) ∧ w'.cell? ⟨ge, 0, none⟩ = some (.int .i64 x0) ∧ w'.frozen? ⟨ge, 0, none⟩ = false) (ds := [13]) #[false, false, false, false, false, false, false, false, false, false, false, false, false, false] (by kernel_rfl) rfl rfl ⟨HS.out.c4.1, HE.out.cells.1, HE.out.cells.2.1, HE.out.cells.2.2⟩ (fun hHeld => ?_)
        generalize w_57.drew = w_d at HS HE hHeld ⊢
        refine pure_ (i := 0) (N := some 60) (v := ?_) (a' := ?_) #[true, false, false, false, false, false, false, false, false, false, false, false, false, false] rfl rfl (by kernel_rfl) (fun _ _ _ h => h) (Or.inl ⟨by rfl, ?_⟩) ?_ ?_
        rotate_left
        · intro w'
          go_simp
          with_reducible rfl
        rotate_left
        · simp only [Act.put, List.setIfInBounds_toArray, List.set_cons_zero, List.set_cons_succ, i64_w, i32_w]
          rfl
        refine pure_ (i := 2) (N := some 62) (v := ?_) (a' := ?_) #[true, false, true, false, false, false, false, false, false, false, false, false, false, false] rfl rfl (by kernel_rfl) (fun _ _ _ h => h) (Or.inl ⟨by rfl, ?_⟩) ?_ ?_
        rotate_left
        · intro w'
          go_simp
          with_reducible rfl
        rotate_left
        · simp only [Act.put, List.setIfInBounds_toArray, List.set_cons_zero, List.set_cons_succ, i64_w, i32_w]
          rfl
        refine pure_ (i := 3) (N := some 63) (v := ?_) (a' := ?_) #[true, false, true, true, false, false, false, false, false, false, false, false, false, false] rfl rfl (by kernel_rfl) (fun _ _ _ h => h) (Or.inl ⟨by rfl, ?_⟩) ?_ ?_
        rotate_left
        · intro w'
          go_simp
          with_reducible rfl
        rotate_left
        · simp only [Act.put, List.setIfInBounds_toArray, List.set_cons_zero, List.set_cons_succ, i64_w, i32_w]
          rfl
        refine pure_ (i := 9) (N := some 69) (v := ?_) (a' := ?_) #[true, false, true, true, false, false, false, false, false, true, false, false, false, false] rfl rfl (by kernel_rfl) (fun _ _ _ h => h) (Or.inl ⟨by rfl, ?_⟩) ?_ ?_
        rotate_left
        · intro w'
          go_simp
          with_reducible rfl
        rotate_left
        · simp only [Act.put, List.setIfInBounds_toArray, List.set_cons_zero, List.set_cons_succ, i64_w, i32_w]
          rfl
        refine take_ (i := 1) (N := some 61) (v := ?_) (a' := ?_) #[true, true, true, true, false, false, false, false, false, true, false, false, false, false] rfl rfl (by kernel_rfl) (fun _ _ _ h => h) (Or.inl ⟨by rfl, ?_⟩) hHeld ?_ ?_
        rotate_left
        · rintro w' ⟨s0, s1, s2, s3⟩
          go_simp
          with_reducible rfl
        rotate_left
        · simp only [Act.put, List.setIfInBounds_toArray, List.set_cons_zero, List.set_cons_succ, i64_w, i32_w]
          rfl
        refine take_ (i := 4) (N := some 64) (v := ?_) (a' := ?_) #[true, true, true, true, true, false, false, false, false, true, false, false, false, false] rfl rfl (by kernel_rfl) (fun _ _ _ h => h) (Or.inl ⟨by rfl, ?_⟩) hHeld ?_ ?_
        rotate_left
        · rintro w' ⟨s0, s1, s2, s3⟩
          go_simp
          with_reducible rfl
        rotate_left
        · simp only [Act.put, List.setIfInBounds_toArray, List.set_cons_zero, List.set_cons_succ, i64_w, i32_w]
          rfl
        refine pure_ (i := 5) (N := some 65) (v := ?_) (a' := ?_) #[true, true, true, true, true, true, false, false, false, true, false, false, false, false] rfl rfl (by kernel_rfl) (fun _ _ _ h => h) (Or.inl ⟨by rfl, ?_⟩) ?_ ?_
        rotate_left
        · intro w'
          go_simp
          with_reducible rfl
        rotate_left
        · simp only [Act.put, List.setIfInBounds_toArray, List.set_cons_zero, List.set_cons_succ, i64_w, i32_w]
          rfl
        refine join_ (σ := Option Addr × Nat) 3 #[true, true, true, true, true, true, true, true, true, true, true, false, false, false] (fun s => [(66, .int .i64 p1), (67, .pointer (some ⟨gr, p1.toNat, none⟩)), (68, .slice (some ⟨ge, 0, none⟩) m_ cc), (70, .slice s.1 ([0, 1, 2, -1] : List Int).length s.2)]) (fun s w' => spec_l1Cur_torus.St w0 w w' g g2 g4 d pa ps (fun _ => True) (.slice (some ⟨gr, 0, none⟩) ys.length cr) ys ∧ spec_l1Cur_torus.Held w w' gr ge p1.toNat (.slice (some ⟨ge, 0, none⟩) m_ cc) x0 ∧ Kd.R (Kd.int .i64) 3 w' w.heap.size (fun _ => True) (.slice s.1 ([0, 1, 2, -1] : List Int).length s.2) [0, 1, 2, -1]) ?_ ?_
        rotate_left
        · intro hCont
          refine two_ (i := 6) (j := 10) (Ni := some 66) (Nj := some 70) #[true, true, true, true, true, true, true, false, false, true, false, false, false, false] #[true, true, true, true, true, true, false, false, false, true, true, false, false, false] rfl rfl rfl rfl (by kernel_rfl) (by decide) (by decide) (fun K hK => ?_) (fun K hK => ?_)
          · skip
            refine goes_ Try.func36 (by kernel_rfl) rfl #[.pointer (some ⟨g, 0, none⟩), .int .i64 (ys.length : Int)] (by rfl) rfl rfl (by (try simp only [List.map_toArray, List.map_cons, List.map_nil]); first | done | rfl) ?_
            with_reducible refine (spec_l1Cur_pick.calls g d ca cs (ys.length : Int) p1 pa ps w0 _ HS.out.is HS.out.bel D1.out).mono ?_
            rintro e w_66 ⟨rfl, hi_, hb_, hk_⟩
            refine ⟨_, rfl, ?_⟩
            have n1_ := Aside0.mk (HE.out.keep hk_ HS.out.glt)
            clear HE
            have HE := n1_
            clear n1_
            have n0_ := Aside0.mk (HS.out.call hi_ hb_ hk_)
            clear HS hi_ hb_ hk_
            have HS := n0_
            clear n0_
            refine hK.out _ _ ⟨HS.out.c4.1, HE.out.cells.1, HE.out.cells.2.1, HE.out.cells.2.2⟩ (fun hHeld => ?_)
            clear hK K
            refine norm_ (a' := ?_) ?_ ?_
            rotate_left
            · show Act.put _ (some 66) _ = _
              simp only [Act.put, List.setIfInBounds_toArray, List.set_cons_zero, List.set_cons_succ, i64_w, i32_w]
              rfl
            refine pure_ (i := 7) (N := some 67) (v := ?_) (a' := ?_) #[true, true, true, true, true, true, true, true, false, true, false, false, false, false] rfl rfl (by kernel_rfl) (fun _ _ _ h => h) (Or.inl ⟨by rfl, ?_⟩) ?_ ?_
            rotate_left
            · intro w'
              go_simp
              with_reducible rfl
            rotate_left
            · simp only [Act.put, List.setIfInBounds_toArray, List.set_cons_zero, List.set_cons_succ, i64_w, i32_w]
              rfl
            refine take_ (i := 8) (N := some 68) (v := ?_) (a' := ?_) #[true, true, true, true, true, true, true, true, true, true, false, false, false, false] rfl rfl (by kernel_rfl) (fun _ _ _ h => h) (Or.inl ⟨by rfl, ?_⟩) hHeld ?_ ?_
            rotate_left
            · rintro w' ⟨s0, s1, s2, s3⟩
              go_simp
              with_reducible rfl
            rotate_left
            · simp only [Act.put, List.setIfInBounds_toArray, List.set_cons_zero, List.set_cons_succ, i64_w, i32_w]
              rfl
            refine one_ (i := 10) (N := some 70) #[true, true, true, true, true, true, true, true, true, true, true, false, false, false] rfl rfl (by kernel_rfl) (by decide) (fun K hK => ?_)
            refine Kd.R_lit_step (Kd.int .i64) w.heap.size 3 ?hg (N := 70) ?hd (xs := ([0, 1, 2, -1] : List Int)) (inner := [.int .i64 0, .int .i64 1, .int .i64 2, .int .i64 (-1)]) (ok := (fun _ => True)) (okp := fun _ => False) ?hr ?hp (fun _ hk => hk.elim) trivial (Below.refl _ _) HS.out.size (by simp) ?_
            (case hd => rfl)
            (case hg => rfl)
            (case hr => first | (go_simp; done) | (go_simp; rfl))
            (case hp => exact ⟨rfl, fun i p hp => by match i, hp with | 0, hp => cases hp; rfl | 1, hp => cases hp; rfl | 2, hp => cases hp; rfl | 3, hp => cases hp; rfl⟩)
            intro v70 w70 ho hb hg_ hnew_
            obtain ⟨A70, c70, e70⟩ := Kd.R_slice ho
            subst e70
            have HL := Aside0.mk ho
            have n0_ := Aside0.mk (HS.out.fresh hg_)
            have n1_ := Aside0.mk (HE.out.fresh hg_)
            clear HS HE ho hb hg_ hnew_
            have HS := n0_
            have HE := n1_
            clear n0_ n1_
            refine hK.out _ _ ⟨HS.out.c4.1, HE.out.cells.1, HE.out.cells.2.1, HE.out.cells.2.2⟩ (fun hHeld => ?_)
            clear hK K
            refine norm_ (a' := ?_) ?_ ?_
            rotate_left
            · show Act.put _ (some 70) _ = _
              simp only [Act.put, List.setIfInBounds_toArray, List.set_cons_zero, List.set_cons_succ, i64_w, i32_w]
              rfl
            exact norm_ (by first | (simp only [putAll, Act.put, List.setIfInBounds_toArray, List.set_cons_zero, List.set_cons_succ]; done) | (simp only [putAll, Act.put, List.setIfInBounds_toArray, List.set_cons_zero, List.set_cons_succ]; rfl)) (hCont (A70, c70) _ ⟨HS.out, HE.out, HL.out⟩)
          · skip
            refine Kd.R_lit_step (Kd.int .i64) w.heap.size 3 ?hg (N := 70) ?hd (xs := ([0, 1, 2, -1] : List Int)) (inner := [.int .i64 0, .int .i64 1, .int .i64 2, .int .i64 (-1)]) (ok := (fun _ => True)) (okp := fun _ => False) ?hr ?hp (fun _ hk => hk.elim) trivial (Below.refl _ _) HS.out.size (by simp) ?_
            (case hd => rfl)
            (case hg => rfl)
            (case hr => first | (go_simp; done) | (go_simp; rfl))
            (case hp => exact ⟨rfl, fun i p hp => by match i, hp with | 0, hp => cases hp; rfl | 1, hp => cases hp; rfl | 2, hp => cases hp; rfl | 3, hp => cases hp; rfl⟩)
            intro v70 w70 ho hb hg_ hnew_
            obtain ⟨A70, c70, e70⟩ := Kd.R_slice ho
            subst e70
            have HL := Aside0.mk ho
            have n0_ := Aside0.mk (HS.out.fresh hg_)
            have n1_ := Aside0.mk (HE.out.fresh hg_)
            clear HS HE ho hb hg_ hnew_
            have HS := n0_
            have HE := n1_
            clear n0_ n1_
            refine hK.out _ _ ⟨HS.out.c4.1, HE.out.cells.1, HE.out.cells.2.1, HE.out.cells.2.2⟩ (fun hHeld => ?_)
            clear hK K
            refine norm_ (a' := ?_) ?_ ?_
            rotate_left
            · show Act.put _ (some 70) _ = _
              simp only [Act.put, List.setIfInBounds_toArray, List.set_cons_zero, List.set_cons_succ, i64_w, i32_w]
              rfl
            refine one_ (i := 6) (N := some 66) #[true, true, true, true, true, true, true, false, false, true, true, false, false, false] rfl rfl (by kernel_rfl) (by decide) (fun K hK => ?_)
            refine goes_ Try.func36 (by kernel_rfl) rfl #[.pointer (some ⟨g, 0, none⟩), .int .i64 (ys.length : Int)] (by rfl) rfl rfl (by (try simp only [List.map_toArray, List.map_cons, List.map_nil]); first | done | rfl) ?_
            with_reducible refine (spec_l1Cur_pick.calls g d ca cs (ys.length : Int) p1 pa ps w0 _ HS.out.is HS.out.bel D1.out).mono ?_
            rintro e w_66 ⟨rfl, hi_, hb_, hk_⟩
            refine ⟨_, rfl, ?_⟩
            have n1_ := Aside0.mk (HE.out.keep hk_ HS.out.glt)
            clear HE
            have HE := n1_
            clear n1_
            have n2_ := Aside0.mk (spec_l1Cur_torus.rkeep HL.out HS.out.glt hk_)
            clear HL
            have HL := n2_
            clear n2_
            have n0_ := Aside0.mk (HS.out.call hi_ hb_ hk_)
            clear HS hi_ hb_ hk_
            have HS := n0_
            clear n0_
            refine hK.out _ _ ⟨HS.out.c4.1, HE.out.cells.1, HE.out.cells.2.1, HE.out.cells.2.2⟩ (fun hHeld => ?_)
            clear hK K
            refine norm_ (a' := ?_) ?_ ?_
            rotate_left
            · show Act.put _ (some 66) _ = _
              simp only [Act.put, List.setIfInBounds_toArray, List.set_cons_zero, List.set_cons_succ, i64_w, i32_w]
              rfl
            refine pure_ (i := 7) (N := some 67) (v := ?_) (a' := ?_) #[true, true, true, true, true, true, true, true, false, true, true, false, false, false] rfl rfl (by kernel_rfl) (fun _ _ _ h => h) (Or.inl ⟨by rfl, ?_⟩) ?_ ?_
            rotate_left
            · intro w'
              go_simp
              with_reducible rfl
            rotate_left
            · simp only [Act.put, List.setIfInBounds_toArray, List.set_cons_zero, List.set_cons_succ, i64_w, i32_w]
              rfl
            refine take_ (i := 8) (N := some 68) (v := ?_) (a' := ?_) #[true, true, true, true, true, true, true, true, true, true, true, false, false, false] rfl rfl (by kernel_rfl) (fun _ _ _ h => h) (Or.inl ⟨by rfl, ?_⟩) hHeld ?_ ?_
            rotate_left
            · rintro w' ⟨s0, s1, s2, s3⟩
              go_simp
              with_reducible rfl
            rotate_left
            · simp only [Act.put, List.setIfInBounds_toArray, List.set_cons_zero, List.set_cons_succ, i64_w, i32_w]
              rfl
            exact norm_ (by first | (simp only [putAll, Act.put, List.setIfInBounds_toArray, List.set_cons_zero, List.set_cons_succ]; done) | (simp only [putAll, Act.put, List.setIfInBounds_toArray, List.set_cons_zero, List.set_cons_succ]; rfl)) (hCont (A70, c70) _ ⟨HS.out, HE.out, HL.out⟩)
        rintro ⟨A70, c70⟩ w_f ⟨n0_, n1_, n2_⟩
        clear HS HE hHeld
        have HS := Aside0.mk n0_
        have HE := Aside0.mk n1_
        have HL := Aside0.mk (show Kd.R (Kd.int .i64) 3 w_f w.heap.size (fun _ => True) (.slice A70 ([0, 1, 2, -1] : List Int).length c70) [0, 1, 2, -1] from n2_)
        clear n0_ n1_ n2_
        have hHeld := (show (fun w' => w'.cell? ⟨g4, 0, none⟩ = some (.slice (some ⟨gr, 0, none⟩) ys.length cr) ∧ w'.cell? ⟨gr, p1.toNat, none⟩ = some (.slice (some ⟨ge, 0, none⟩) m_ cc) ∧ w'.cell? ⟨ge, 0, none⟩ = some (.int .i64 x0) ∧ w'.frozen? ⟨ge, 0, none⟩ = false) w_f from ⟨HS.out.c4.1, HE.out.cells.1, HE.out.cells.2.1, HE.out.cells.2.2⟩)
        refine norm_ (a' := ?_) ?_ ?_
        rotate_left
        · simp only [putAll, Act.put, List.setIfInBounds_toArray, List.set_cons_zero, List.set_cons_succ]
          rfl
        refine one_ (i := 11) (N := some 71) #[true, true, true, true, true, true, true, true, true, true, true, true, false, false] rfl rfl (by kernel_rfl) (by decide) (fun K hK => ?_)
        refine goes_ Try.func17 (by kernel_rfl) rfl #[.pointer (some ⟨g, 0, none⟩), .slice A70 ([0, 1, 2, -1] : List Int).length c70] (by rfl) rfl rfl (by (try simp only [List.map_toArray, List.map_cons, List.map_nil]); first | done | rfl) ?_
        with_reducible refine (spec_l1Cur_among.calls g d pa ps A70 c70 [0, 1, 2, -1] x1 xa xs w0 _ HS.out.is HS.out.bel (Kd.R_reads' HL.out).2.2 (Kd.R_reads' HL.out).2.1 (fun ad had _ e_ => by subst had; have h8_ := Kd.R_base HL.out ad.block rfl; have h9_ := HS.out.glt; rw [← e_] at h9_; exact absurd h9_ (Nat.not_lt.mpr h8_)) D2.out).mono ?_
        rintro e w_71 ⟨rfl, hi_, hb_, hk_⟩
        refine ⟨_, rfl, ?_⟩
        have n1_ := Aside0.mk (HE.out.keep hk_ HS.out.glt)
        have n0_ := Aside0.mk (HS.out.call hi_ hb_ hk_)
        clear HS HE HL hi_ hb_ hk_
        have HS := n0_
        have HE := n1_
        clear n0_ n1_
        refine hK.out _ _ ⟨HS.out.c4.1, HE.out.cells.1, HE.out.cells.2.1, HE.out.cells.2.2⟩ (fun hHeld => ?_)
        clear hK K
        refine norm_ (a' := ?_) ?_ ?_
        rotate_left
        · show Act.put _ (some 71) _ = _
          simp only [Act.put, List.setIfInBounds_toArray, List.set_cons_zero, List.set_cons_succ, i64_w, i32_w]
          rfl
        refine pure_ (i := 12) (N := some 72) (v := ?_) (a' := ?_) #[true, true, true, true, true, true, true, true, true, true, true, true, true, false] rfl rfl (by kernel_rfl) (fun _ _ _ h => h) (Or.inl ⟨by rfl, ?_⟩) ?_ ?_
        rotate_left
        · intro w'
          go_simp
          with_reducible rfl
        rotate_left
        · simp only [Act.put, List.setIfInBounds_toArray, List.set_cons_zero, List.set_cons_succ, i64_w, i32_w]
          rfl
        refine last_ (i := 13) (N := none) #[true, true, true, true, true, true, true, true, true, true, true, true, true, true] rfl rfl (by kernel_rfl) (by decide) (fun K hK => ?_)
        refine skip_ (w1 := ?_) (by rfl) rfl ?_ ?_
        rotate_left
        · go_simp
          rfl
        refine hK.out _ _ ?_
        clear hK K
        refine done_ (by kernel_rfl) ?_
        have hx_ := HS.out.poke p1 z0 z1 HE.out.cells.1 x1
        rw [← HEL.out] at hx_
        obtain ⟨w_y, hwy⟩ : ∃ W_, W_ = w_71.setCell ⟨ge, 0, none⟩ (.int .i64 x1) := ⟨_, rfl⟩
        rw [← hwy] at hx_ ⊢
        have HX := Aside0.mk hx_
        clear hx_ hwy HS HE hHeld
        have hc4 := HX.out.c4.1.1
        have hf4 := HX.out.c4.1.2
        have hc2 := HX.out.c4.2.1
        have hf2 := HX.out.c4.2.2
        go_wp2
        refine bodyPost_ret (results_cell_row rfl _ _ g2 27 #[.slice (some ⟨gr, 0, none⟩) ys.length cr] (0, 0) _ rfl HX.out.out.1 hu27 rfl (by kernel_rfl)) rfl ?_
        exact ⟨_, rfl, HX.out.out.2.1, HX.out.out.2.2.1, HX.out.out.2.2.2.1, HX.out.out.2.2.2.2.1⟩
      · rw [if_neg e0] at H
        have e0b : (c1 == 0) = false := beq_eq_false_iff_ne.mpr e0
        clear e0
        by_cases e1 : c1 = 1
        · rw [if_pos e1] at H
          have e1b : (c1 == 1) = true := beq_iff_eq.mpr e1
          clear e1
          by_cases z0 : ¬ (1 ≤ ys.length)
          · rw [if_neg z0] at H; exact absurd H (by simp)
          replace z0 := Decidable.not_not.mp z0
          rw [if_pos z0] at H
          simp only [Option.some.injEq, Prod.mk.injEq] at H
          obtain ⟨rfl, rfl, rfl⟩ := H
          obtain ⟨Ao, co, eo⟩ := Kd.S_slice HS.out.rows
          subst eo
          have hlc := (Kd.S_reads' HS.out.rows).2.1
          obtain ⟨i0, hi0, _, hsz, _⟩ := info_parts info36
          have hcut0 := cut_from (P := Try.prog) 25 36 .i64 Try.underlying25 hi0 1 hsz Ao ys.length co 1 (by omega) (by omega)
          clear hi0 hsz
          obtain ⟨Aq, hAq⟩ : ∃ A_ : Option Addr, (if co = 1 then Ao else Ao.map (·.add (1 * 1))) = A_ := ⟨_, rfl⟩
          have hcut2 : ∀ W : World, (Instr.slice 25 (.slice Ao ys.length co) (some (.int .i64 1)) none none).run Try.prog W = .ok (.slice Aq (ys.length - 1) (co - 1)) W := fun W => by rw [hcut0 W, ← hAq]; rfl
          clear hcut0
          have HV := Aside0.mk (show Value.slice (if co = 1 then Ao else Ao.map (·.add (1 * 1))) (ys.length - 1) (co - 1) = .slice Aq (ys.length - 1) (co - 1) by rw [hAq])
          clear hAq
          go_wp2_with (first
    | ((with_reducible refine gate_callee (f := 36) rfl ?_); refine goesL_ (some 57) rfl rfl Try.func36 (by kernel_rfl) rfl #[.pointer (some ⟨g, 0, none⟩), .int .i64 16] rfl (by (try simp only [List.map_toArray, List.map_cons, List.map_nil]); first | done | rfl) ?_; refine (spec_l1Cur_pick.calls g d ax sx 16 c1 ca cs w0 _ HS.out.is HS.out.bel C1.out).mono ?_; rintro e w_57 ⟨rfl, hi_, hb_, hk_⟩; refine ⟨_, rfl, ?_⟩; have n0_ := Aside0.mk (HS.out.call hi_ hb_ hk_); clear HS hi_ hb_ hk_; have HS := n0_; clear n0_; (try clear hc4); (try clear hf4); have hc4 := HS.out.c4.1; have hf4 := HS.out.c4.2)
    | ((with_reducible refine gate_store (t := 25) (p := 78) rfl ?_); refine store_event (t := 25) (p := 78) (v := ?vo_s78) (w1 := (w_57.setCell ⟨g4, 0, none⟩ (.slice Aq (ys.length - 1) (co - 1)))) ?hg ?ho ?hn ?hr ?_; (case ho => rfl); (case hg => rfl); (case hn => rfl); (case hr => first | (go_simp; done) | (go_simp; rfl)); intro w_78 hw; have HX : Aside0 (spec_l1Cur_torus.End w0 w w_78 g g2 g4 d ca cs (.slice Aq (ys.length - 1) (co - 1)) (ys.drop 1)) := ⟨by rw [hw]; exact HS.out.cut z0 HV.out⟩; clear HS hw hc4 hf4; have hc4 := HX.out.c4.1.1; have hf4 := HX.out.c4.1.2; have hc2 := HX.out.c4.2.1; have hf2 := HX.out.c4.2.2))
          refine bodyPost_ret (results_cell_row rfl _ _ g2 27 #[.slice Aq (ys.length - 1) (co - 1)] (0, 0) _ rfl HX.out.out.1 hu27 rfl (by kernel_rfl)) rfl ?_
          exact ⟨_, rfl, HX.out.out.2.1, HX.out.out.2.2.1, HX.out.out.2.2.2.1, HX.out.out.2.2.2.2.1⟩
        · rw [if_neg e1] at H
          have e1b : (c1 == 1) = false := beq_eq_false_iff_ne.mpr e1
          clear e1
          by_cases e2 : c1 = 2
          · rw [if_pos e2] at H
            have e2b : (c1 == 2) = true := beq_iff_eq.mpr e2
            clear e2
            by_cases z0 : ¬ (0 < ys.length)
            · rw [if_neg z0] at H; exact absurd H (by simp)
            replace z0 := Decidable.not_not.mp z0
            rw [if_pos z0] at H
            obtain ⟨el, hel⟩ : ∃ l : List Int, l = ys.getD 0 [] := ⟨_, rfl⟩
            rw [← hel] at H
            have HEL := Aside0.mk hel
            clear hel
            by_cases z1 : ¬ (el.length < 17592186044416)
            · rw [if_neg z1] at H; exact absurd H (by simp)
            replace z1 := Decidable.not_not.mp z1
            rw [if_pos z1] at H
            have CL := Aside0.mk z1
            clear z1
            simp only [Option.some.injEq, Prod.mk.injEq] at H
            obtain ⟨rfl, rfl, rfl⟩ := H
            obtain ⟨gr, cr, ev, _, _, _⟩ := Kd.S_form HS.out.rows z0
            subst ev
            go_wp2_with (first
      | ((with_reducible refine gate_callee (f := 36) rfl ?_); refine goesL_ (some 57) rfl rfl Try.func36 (by kernel_rfl) rfl #[.pointer (some ⟨g, 0, none⟩), .int .i64 16] rfl (by (try simp only [List.map_toArray, List.map_cons, List.map_nil]); first | done | rfl) ?_; refine (spec_l1Cur_pick.calls g d ax sx 16 c1 ca cs w0 _ HS.out.is HS.out.bel C1.out).mono ?_; rintro e w_57 ⟨rfl, hi_, hb_, hk_⟩; refine ⟨_, rfl, ?_⟩; have n0_ := Aside0.mk (HS.out.call hi_ hb_ hk_); clear HS hi_ hb_ hk_; have HS := n0_; clear n0_; (try clear hc4); (try clear hf4); have hc4 := HS.out.c4.1; have hf4 := HS.out.c4.2))
            have n0_ := Aside0.mk (HS.out.below (below_drew (Below.refl _ _)))
            (try clear hc4); (try clear hf4)
            clear HS
            have HS := n0_
            clear n0_
            obtain ⟨oki, ve, hR, hx, hf, hk, hH⟩ := spec_l1Cur_torus.lend HS.out.rows 0 (by omega) (by omega)
            have LD : Aside0 (Kd.R (Kd.int .i64) 3 w_57.drew w.heap.size oki ve el ∧ w_57.drew.cell? ⟨gr, 0, none⟩ = some ve ∧ w_57.drew.frozen? ⟨gr, 0, none⟩ = false ∧ (∀ k, oki k → k ≠ gr) ∧ Kd.H (Kd.slice 3 (Kd.int .i64)) 36 w_57.drew w.heap.size (fun _ => True) (.slice (some ⟨gr, 0, none⟩) ys.length cr) ys 0 oki [ve]) := ⟨by rw [HEL.out]; exact hR, hx, hf, hk, hH⟩
            clear hR hx hf hk hH
            refine start_ (n := 10) (S := fun w' => w'.cell? ⟨g4, 0, none⟩ = some (.slice (some ⟨gr, 0, none⟩) ys.length cr) ∧ w'.cell? ⟨gr, 0, none⟩ = some ve ∧ w'.frozen? ⟨gr, 0, none⟩ = false) (ds := [9]) #[false, false, false, false, false, false, false, false, false, false] (by kernel_rfl) rfl rfl ⟨HS.out.c4.1, LD.out.2.1, LD.out.2.2.1⟩ (fun hHeld => ?_)
            generalize w_57.drew = w_d at HS LD hHeld ⊢
            refine pure_ (i := 0) (N := some 81) (v := ?_) (a' := ?_) #[true, false, false, false, false, false, false, false, false, false] rfl rfl (by kernel_rfl) (fun _ _ _ h => h) (Or.inl ⟨by rfl, ?_⟩) ?_ ?_
            rotate_left
            · intro w'
              go_simp
              with_reducible rfl
            rotate_left
            · simp only [Act.put, List.setIfInBounds_toArray, List.set_cons_zero, List.set_cons_succ, i64_w, i32_w]
              rfl
            refine pure_ (i := 2) (N := some 83) (v := ?_) (a' := ?_) #[true, false, true, false, false, false, false, false, false, false] rfl rfl (by kernel_rfl) (fun _ _ _ h => h) (Or.inl ⟨by rfl, ?_⟩) ?_ ?_
            rotate_left
            · intro w'
              go_simp
              with_reducible rfl
            rotate_left
            · simp only [Act.put, List.setIfInBounds_toArray, List.set_cons_zero, List.set_cons_succ, i64_w, i32_w]
              rfl
            refine take_ (i := 1) (N := some 82) (v := ?_) (a' := ?_) #[true, true, true, false, false, false, false, false, false, false] rfl rfl (by kernel_rfl) (fun _ _ _ h => h) (Or.inl ⟨by rfl, ?_⟩) hHeld ?_ ?_
            rotate_left
            · rintro w' ⟨s0, s1, s2⟩
              go_simp
              with_reducible rfl
            rotate_left
            · simp only [Act.put, List.setIfInBounds_toArray, List.set_cons_zero, List.set_cons_succ, i64_w, i32_w]
              rfl
            refine take_ (i := 3) (N := some 84) (v := ?_) (a' := ?_) #[true, true, true, true, false, false, false, false, false, false] rfl rfl (by kernel_rfl) (fun _ _ _ h => h) (Or.inl ⟨by rfl, ?_⟩) hHeld ?_ ?_
            rotate_left
            · rintro w' ⟨s0, s1, s2⟩
              go_simp
              with_reducible rfl
            rotate_left
            · simp only [Act.put, List.setIfInBounds_toArray, List.set_cons_zero, List.set_cons_succ, i64_w, i32_w]
              rfl
            refine pure_ (i := 4) (N := some 85) (v := ?_) (a' := ?_) #[true, true, true, true, true, false, false, false, false, false] rfl rfl (by kernel_rfl) (fun _ _ _ h => h) (Or.inl ⟨by rfl, ?_⟩) ?_ ?_
            rotate_left
            · intro w'
              go_simp
              with_reducible rfl
            rotate_left
            · simp only [Act.put, List.setIfInBounds_toArray, List.set_cons_zero, List.set_cons_succ, i64_w, i32_w]
              rfl
            refine take_ (i := 5) (N := some 86) (v := ?_) (a' := ?_) #[true, true, true, true, true, true, false, false, false, false] rfl rfl (by kernel_rfl) (fun _ _ _ h => h) (Or.inl ⟨by rfl, ?_⟩) hHeld ?_ ?_
            rotate_left
            · rintro w' ⟨s0, s1, s2⟩
              go_simp
              with_reducible rfl
            rotate_left
            · simp only [Act.put, List.setIfInBounds_toArray, List.set_cons_zero, List.set_cons_succ, i64_w, i32_w]
              rfl
            refine one_ (i := 6) (N := some 87) #[true, true, true, true, true, true, true, false, false, false] rfl rfl (by kernel_rfl) (by decide) (fun K hK => ?_)
            refine value_ (w1 := ?_) (v := ?_) (by rfl) rfl ?_ ?_
            rotate_left 2
            · go_simp
              constructor
              · rfl
              · rfl
            refine hK.out _ _ ⟨(Below.cell (below_alloc (Below.refl _ _) _) (World.block_lt_of_cell? _ _ hHeld.1)).trans hHeld.1, (Below.cell (below_alloc (Below.refl _ _) _) (World.block_lt_of_cell? _ _ hHeld.2.1)).trans hHeld.2.1, HS.out.frz (below_alloc (Below.refl _ _) _) 0⟩ (fun hHeld => ?_)
            clear hK K
            refine norm_ (a' := ?_) ?_ ?_
            rotate_left
            · show Act.put _ (some 87) _ = _
              simp only [Act.put, List.setIfInBounds_toArray, List.set_cons_zero, List.set_cons_succ, i64_w, i32_w]
              rfl
            refine one_ (i := 7) (N := some 88) #[true, true, true, true, true, true, true, true, false, false] rfl rfl (by kernel_rfl) (by decide) (fun K hK => ?_)
            refine Kd.R_append_step (Kd.int .i64) (w0 := w_d) w.heap.size (by rfl) (.tmp 86) (.tmp 87) 36 3 (.int .i64 0) 8 rfl Try.underlying36 info3 rfl (by decide) (by omega) ve el 1 [.int .i64 1] (fun k => oki k ∨ w_d.heap.size ≤ k) (fun _ => False) rfl rfl ?aP (fun _ hk => hk.elim) ?aF ?aO ?aB ?aS ?aL ?_
            (case aP => exact rfl)
            (case aB => exact Below.refl _ _)
            (case aF => exact fun k hk => .inr hk)
            (case aO => exact Kd.R_mono LD.out.1 (fun k hk => .inl hk))
            (case aS => exact HS.out.size)
            (case aL => have := CL.out; omega)
            intro v88 w88 ho hb hg hat
            obtain ⟨A88, c88, e88⟩ := Kd.R_slice ho
            subst e88
            have HR2 := Aside0.mk ho
            have HG := Aside0.mk hg
            clear ho hb hg hat
            refine hK.out _ _ ⟨(HS.out.c4r LD.out.1 HG.out LD.out.2.1).1, (HS.out.c4r LD.out.1 HG.out LD.out.2.1).2.1, (HS.out.c4r LD.out.1 HG.out LD.out.2.1).2.2⟩ (fun hHeld => ?_)
            clear hK K
            refine norm_ (a' := ?_) ?_ ?_
            rotate_left
            · show Act.put _ (some 88) _ = _
              simp only [Act.put, List.setIfInBounds_toArray, List.set_cons_zero, List.set_cons_succ, i64_w, i32_w]
              rfl
            refine pure_ (i := 8) (N := some 89) (v := ?_) (a' := ?_) #[true, true, true, true, true, true, true, true, true, false] rfl rfl (by kernel_rfl) (fun _ _ _ h => h) (Or.inl ⟨by rfl, ?_⟩) ?_ ?_
            rotate_left
            · intro w'
              go_simp
              with_reducible rfl
            rotate_left
            · simp only [Act.put, List.setIfInBounds_toArray, List.set_cons_zero, List.set_cons_succ, i64_w, i32_w]
              rfl
            refine last_ (i := 9) (N := none) #[true, true, true, true, true, true, true, true, true, true] rfl rfl (by kernel_rfl) (by decide) (fun K hK => ?_)
            refine skip_ (w1 := ?_) (by rfl) rfl ?_ ?_
            rotate_left
            · go_simp
              rfl
            refine hK.out _ _ ?_
            clear hK K
            refine done_ (by kernel_rfl) ?_
            have hx_ := HS.out.swap 0 (by omega) (by omega) (show Kd.R (Kd.int .i64) 3 w_d w.heap.size oki ve (ys.getD 0 []) from by rw [← HEL.out]; exact LD.out.1) LD.out.2.2.2.1 LD.out.2.2.2.2 HG.out HR2.out
            obtain ⟨w_y, hwy⟩ : ∃ W_, W_ = w88.setCell ⟨gr, 0, none⟩ (.slice A88 (el.length + 1) c88) := ⟨_, rfl⟩
            have HX : Aside0 (spec_l1Cur_torus.End w0 w w_y g g2 g4 d ca cs (.slice (some ⟨gr, 0, none⟩) ys.length cr) (ys.set 0 (el ++ [1]))) := ⟨by rw [hwy, ← (show (el ++ [1]).length = el.length + 1 by simp)]; exact hx_⟩
            rw [← hwy]
            clear hx_ hwy HS LD HG HR2 hHeld
            have hc4 := HX.out.c4.1.1
            have hf4 := HX.out.c4.1.2
            have hc2 := HX.out.c4.2.1
            have hf2 := HX.out.c4.2.2
            go_wp2
            refine bodyPost_ret (results_cell_row rfl _ _ g2 27 #[.slice (some ⟨gr, 0, none⟩) ys.length cr] (0, 0) _ rfl HX.out.out.1 hu27 rfl (by kernel_rfl)) rfl ?_
            exact ⟨_, rfl, HX.out.out.2.1, HX.out.out.2.2.1, HX.out.out.2.2.2.1, HX.out.out.2.2.2.2.1⟩
          · rw [if_neg e2] at H
            have e2b : (c1 == 2) = false := beq_eq_false_iff_ne.mpr e2
            clear e2
            simp only [Option.some.injEq, Prod.mk.injEq] at H
            obtain ⟨rfl, rfl, rfl⟩ := H
            obtain ⟨Ao, co, eo⟩ := Kd.S_slice HS.out.rows
            subst eo
            have hc2 := HS.out.c2.1
            have hf2 := HS.out.c2.2
            go_wp2_with (first
      | ((with_reducible refine gate_callee (f := 36) rfl ?_); refine goesL_ (some 57) rfl rfl Try.func36 (by kernel_rfl) rfl #[.pointer (some ⟨g, 0, none⟩), .int .i64 16] rfl (by (try simp only [List.map_toArray, List.map_cons, List.map_nil]); first | done | rfl) ?_; refine (spec_l1Cur_pick.calls g d ax sx 16 c1 ca cs w0 _ HS.out.is HS.out.bel C1.out).mono ?_; rintro e w_57 ⟨rfl, hi_, hb_, hk_⟩; refine ⟨_, rfl, ?_⟩; have n0_ := Aside0.mk (HS.out.call hi_ hb_ hk_); clear HS hi_ hb_ hk_; have HS := n0_; clear n0_; (try clear hc4); (try clear hf4); have hc4 := HS.out.c4.1; have hf4 := HS.out.c4.2; (try clear hc2); (try clear hf2); have hc2 := HS.out.c2.1; have hf2 := HS.out.c2.2))
            have HX := Aside0.mk HS.out.end_
            refine bodyPost_ret (results_cell_row rfl _ _ g2 27 #[.slice Ao ys.length co] (0, 0) _ rfl HX.out.out.1 hu27 rfl (by kernel_rfl)) rfl ?_
            exact ⟨_, rfl, HX.out.out.2.1, HX.out.out.2.2.1, HX.out.out.2.2.2.1, HX.out.out.2.2.2.2.1⟩
  · rw [if_neg c0] at H
    have c0b : (rr == 4) = false := beq_eq_false_iff_ne.mpr c0
    clear c0
    have HL0 := Aside0.mk H
    clear H
    go_enter Try.func29, Try.ntmps29
    go_upto_if 17 with (first
      | ((with_reducible refine gate_dst (N := 2) rfl ?_); refine box_event ?hg (N := 2) ?hd (cs := #[.slice none 0 0]) (t := 27) ?hr ?_; (case hd => rfl); (case hg => rfl); (case hr => first | (go_simp; done) | (go_simp; rfl)); intro g2 hg w_1 hbox hb; have n0_ := Aside0.mk (spec_l1Cur_torus.grown HI.out (grown_of_below hb none) (fun k hk => by cases hk)); have BX2 := Aside0.mk (show spec_l1Cur_torus.Box w_1 g2 (.slice none 0 0) from hbox); have GE2 : Aside0 (w.heap.size ≤ g2) := ⟨by rw [hg]; exact HI.out.2.2.1.1⟩; clear HI hb hbox hg; have HI := n0_; clear n0_)
      | ((with_reducible refine gate_dst (N := 8) rfl ?_); refine Kd.R_lit (Kd.int .i64) w.heap.size 3 ?hg (N := 8) ?hd (xs := ([1, 2, 4, 4, 4, 8, 16] : List Int)) (inner := [.int .i64 1, .int .i64 2, .int .i64 4, .int .i64 4, .int .i64 4, .int .i64 8, .int .i64 16]) (ok := (fun _ => True)) (okp := fun _ => False) ?hr ?hp (fun _ hk => hk.elim) trivial (Below.refl _ _) HI.out.2.2.1.1 (by simp) ?_; (case hd => rfl); (case hg => rfl); (case hr => first | (go_simp; done) | (go_simp; rfl)); (case hp => exact ⟨rfl, fun i p hp => by match i, hp with | 0, hp => cases hp; rfl | 1, hp => cases hp; rfl | 2, hp => cases hp; rfl | 3, hp => cases hp; rfl | 4, hp => cases hp; rfl | 5, hp => cases hp; rfl | 6, hp => cases hp; rfl⟩); intro v8 w8 ho hb hg_ hnew_; have n0_ := Aside0.mk (spec_l1Cur_torus.grown HI.out hg_ (fun k hk => by cases hk)); have n1_ := Aside0.mk (show spec_l1Cur_torus.Box w8 g2 (.slice none 0 0) from blk_grown BX2.out hg_ (by simp)); obtain ⟨A8, c8, e8⟩ := Kd.R_slice ho; subst e8; have HL := Aside0.mk (Kd.R_lower (base' := w.heap.size) ho (Nat.le_refl _)); clear HI BX2 ho hb hg_ hnew_; have HI := n0_; have BX2 := n1_; clear n0_ n1_)
      | ((with_reducible refine gate_callee (f := 17) rfl ?_); refine goesL_ (some 9) rfl rfl Try.func17 (by kernel_rfl) rfl #[.pointer (some ⟨g, 0, none⟩), .slice A8 7 c8] rfl (by (try simp only [List.map_toArray, List.map_cons, List.map_nil]); first | done | rfl) ?_; refine (spec_l1Cur_among.calls g d a0 s0 A8 c8 [1, 2, 4, 4, 4, 8, 16] rr ra rs w0 _ HI.out.1 HI.out.2.1 (Kd.R_reads' HL.out).2.2 (Kd.R_reads' HL.out).2.1 (fun ad had _ e_ => by subst had; have h8_ := Kd.R_base HL.out ad.block rfl; have h9_ := HI.out.2.2.2.1; rw [← e_] at h9_; exact absurd h9_ (Nat.not_lt.mpr h8_)) A1.out).mono ?_; rintro e w_3 ⟨rfl, hi_, hb_, hk_⟩; refine ⟨_, rfl, ?_⟩; have n0_ := Aside0.mk (spec_l1Cur_torus.keep HI.out hi_ hb_ hk_); have n1_ := Aside0.mk (show spec_l1Cur_torus.Box w_3 g2 (.slice none 0 0) from KeepBut.blk hk_ BX2.out (fun e_ => by have := GE2.out; have := HI.out.2.2.2.1; omega) (by simp)); clear HI HL BX2 hi_ hb_ hk_; have HI := n0_; have BX2 := n1_; clear n0_ n1_)
      | ((with_reducible refine gate_dst (N := 4) rfl ?_); refine box_event ?hg (N := 4) ?hd (cs := #[.slice none 0 0]) (t := 27) ?hr ?_; (case hd => rfl); (case hg => rfl); (case hr => first | (go_simp; done) | (go_simp; rfl)); intro g4 hg w_4 hbox hb; have HS : Aside0 (spec_l1Cur_torus.St w0 w w_4 g g2 g4 d ra rs (fun _ => True) (.slice none 0 0) []) := ⟨⟨spec_l1Cur_torus.grown HI.out (grown_of_below hb none) (fun k hk => by cases hk), blk_below BX2.out hb, hbox, ⟨GE2.out, by rw [hg]; exact HI.out.2.2.1.1, by rw [hg]; exact Nat.ne_of_lt (blk_lt BX2.out)⟩, Kd.S_nil _ _ _ _ _⟩⟩; clear HI BX2 GE2 hb hbox hg; have hc4 := HS.out.c4.1; have hf4 := HS.out.c4.2)
      | ((with_reducible refine gate_store (t := 27) (p := 4) rfl ?_); refine store_event (t := 27) (p := 4) (v := ?vo_s0) (w1 := (w_4.setCell ⟨g4, 0, none⟩ (.slice none 0 0))) ?hg ?ho ?hn ?hr ?_; (case ho => rfl); (case hg => rfl); (case hn => rfl); (case hr => first | (go_simp; done) | (go_simp; rfl)); intro w_5 hw; have n0_ : Aside0 (spec_l1Cur_torus.St w0 w w_5 g g2 g4 d ra rs (fun _ => True) (.slice none 0 0) ([])) := ⟨by rw [hw]; exact HS.out.store (Kd.S_nil _ _ _ _ _)⟩; clear HS hw; have HS := n0_; clear n0_; (try clear hc4); (try clear hf4); have hc4 := HS.out.c4.1; have hf4 := HS.out.c4.2))
    (try simp only [Act.put, List.setIfInBounds_toArray, List.set_cons_zero, List.set_cons_succ])
    go_cut [] from 5 (fun wc => ∃ (ys : List (List Int)) (ax sx : Int) (v : Value), Aside0 (spec_l1Cur_torus.last ys d ax sx = some (r1, r2, r3)) ∧ Aside0 (spec_l1Cur_torus.St w0 w wc g g2 g4 d ax sx (fun _ => True) v ys))
    case first =>
      have H := HL0.out
      clear HL0
      unfold spec_l1Cur_torus.drawn at H
      have H' : Aside0 ((spec_l1Cur_torus.rows k rr 0 [] d ra rs).bind (fun r => spec_l1Cur_torus.last r.1 d r.2.1 r.2.2) = some (r1, r2, r3)) := ⟨H⟩
      clear H
      go_wp2
      go_loopg [5] k (fun kq v5 w' => ∃ (i ax sx : Int) (ys : List (List Int)) (v : Value), v5 = .int .i64 i ∧ Aside0 ((spec_l1Cur_torus.rows kq rr i ys d ax sx).bind (fun r => spec_l1Cur_torus.last r.1 d r.2.1 r.2.2) = some (r1, r2, r3)) ∧ Aside0 (kq ≤ k) ∧ Aside0 (spec_l1Cur_torus.St w0 w w' g g2 g4 d ax sx (fun _ => True) v ys))
      case atStart => exact ⟨0, ra, rs, [], .slice none 0 0, (by first | rfl | (simp; done) | (simp [*]; done)), H', ⟨Nat.le_refl _⟩, HS⟩
      case round =>
        clear H' HS
        (try clear hc4); (try clear hf4)
        obtain ⟨i, ax, sx, ys, v, rfl, HA, HK1, HS⟩ := hrel
        have hc4 := HS.out.c4.1
        have hf4 := HS.out.c4.2
        cases gk with
        | zero => exact absurd HA.out (by simp [spec_l1Cur_torus.rows])
        | succ k1 =>
          have H := HA.out
          clear HA
          simp only [spec_l1Cur_torus.rows] at H
          by_cases c1 : i < rr
          · rw [if_pos c1] at H
            have c1b : decide (i < rr) = true := decide_eq_true c1
            clear c1
            obtain ⟨q0, hq, H⟩ := Option.bind_eq_some_iff.mp H
            obtain ⟨rw_, hrow, hq⟩ := Option.bind_eq_some_iff.mp hq
            by_cases c2 : ys.length < 5864062014805
            · rw [if_pos c2] at hq
              have CL2 := Aside0.mk c2
              clear c2
              have H' : Aside0 ((spec_l1Cur_torus.rows k1 rr (wrap64 (i + 1)) (ys ++ [rw_.1]) d rw_.2.1 rw_.2.2).bind (fun r => spec_l1Cur_torus.last r.1 d r.2.1 r.2.2) = some (r1, r2, r3)) := ⟨Option.bind_eq_some_iff.mpr ⟨q0, hq, H⟩⟩
              have R' := Aside0.mk hrow
              clear hq H hrow
              go_wp2
              go_loopg [6] k1 (fun kq v6 w' => ∃ (row : List Int) (a2 s2 : Int), Aside0 (spec_l1Cur_torus.row kq rr row d a2 s2 = some rw_) ∧ Aside0 (kq ≤ k1) ∧ Aside0 (spec_l1Cur_torus.St w0 w w' g g2 g4 d a2 s2 (fun k_ => some k_ ≠ v6.ownBlock) v ys) ∧ Aside0 (Kd.R (Kd.int .i64) 3 w' w.heap.size (fun _ => True) v6 row))
              case atStart => exact ⟨[], ax, sx, R', ⟨Nat.le_refl _⟩, ⟨HS.out.mono (fun k _ => by simp [Value.ownBlock])⟩, ⟨Kd.R_nil _ _ _ _ _⟩⟩
              case round =>
                clear R' HS
                (try clear hc4); (try clear hf4)
                obtain ⟨row, a2, s2, HA, HK2, HS, HR⟩ := hrel
                have hc4 := HS.out.c4.1
                have hf4 := HS.out.c4.2
                cases gk with
                | zero => exact absurd HA.out (by simp [spec_l1Cur_torus.row])
                | succ k2 =>
                  have HQ := HA.out
                  clear HA
                  simp only [spec_l1Cur_torus.row] at HQ
                  by_cases z : rr = 0
                  · rw [if_pos z] at HQ; exact absurd HQ (by simp)
                  rw [if_neg z] at HQ
                  have z0 : (rr == 0) = false := beq_eq_false_iff_ne.mpr z
                  have z1 : (rr != 0) = true := bne_iff_ne.mpr z
                  obtain ⟨A6, c6, e6⟩ := Kd.R_slice HR.out
                  subst e6
                  obtain ⟨qu, hqu⟩ : ∃ q : Int, wrap64 (Int.tdiv 16 rr) = q := ⟨_, rfl⟩
                  rw [hqu] at HQ
                  have hquw : (IntKind.i64.wrap (Int.tdiv 16 rr)) = qu := (i64_w _).trans hqu
                  by_cases c3 : (row.length : Int) < qu
                  · rw [if_pos c3] at HQ
                    have c3b : decide ((row.length : Int) < qu) = true := decide_eq_true c3
                    clear c3
                    obtain ⟨⟨p1, pa, ps⟩, h_, HQ⟩ := Option.bind_eq_some_iff.mp HQ
                    have D1 := Aside0.mk h_
                    clear h_
                    (try dsimp only at HQ)
                    by_cases c4 : row.length < 17592186044416
                    · rw [if_pos c4] at HQ
                      have CL := Aside0.mk c4
                      clear c4
                      have HQ' := Aside0.mk HQ
                      clear HQ
                      go_wp2_with (first
                        | ((with_reducible refine gate_callee (f := 36) rfl ?_); refine goesL_ (some 47) rfl rfl Try.func36 (by kernel_rfl) rfl #[.pointer (some ⟨g, 0, none⟩), .int .i64 2] rfl (by (try simp only [List.map_toArray, List.map_cons, List.map_nil]); first | done | rfl) ?_; refine (spec_l1Cur_pick.calls g d a2 s2 2 p1 pa ps w0 _ HS.out.is HS.out.bel D1.out).mono ?_; rintro e wp ⟨rfl, hi_, hb_, hk_⟩; refine ⟨_, rfl, ?_⟩; have n1_ := Aside0.mk (spec_l1Cur_torus.rkeep HR.out HS.out.glt hk_); clear HR; have HR := n1_; clear n1_; have n0_ := Aside0.mk (HS.out.call hi_ hb_ hk_); clear HS hi_ hb_ hk_; have HS := n0_; clear n0_; (try clear hc4); (try clear hf4); have hc4 := HS.out.c4.1; have hf4 := HS.out.c4.2)
                        | ((with_reducible refine gate_builtin (b := .append) (xs := #[.tmp 45, .tmp 48]) rfl ?_); at_builtin; refine Kd.R_append (Kd.int .i64) (w0 := wp) w.heap.size rfl (.tmp 45) (.tmp 48) 36 3 (.int .i64 0) 8 rfl Try.underlying36 info3 rfl (by decide) (by omega) (.slice A6 row.length c6) row p1 [.int .i64 p1] (fun _ => True) (fun _ => False) rfl rfl ?aP (fun _ hk => hk.elim) ?aF ?aO ?aB ?aS ?aL ?_; (case aP => exact rfl); (case aB => exact Below.refl _ _); (case aF => exact fun _ _ => trivial); (case aO => exact HR.out); (case aS => exact HS.out.size); (case aL => have := CL.out; omega); intro v49 w49 ho hb hg hat; have n0_ := Aside0.mk (HS.out.append HR.out hg hat); have n1_ := Aside0.mk ho; clear HS HR ho hb hg hat; have HS := n0_; have HR := n1_; clear n0_ n1_; (try clear hc4); (try clear hf4); have hc4 := HS.out.c4.1; have hf4 := HS.out.c4.2))
                      go_roundg k2
                      case measure => have := HK2.out; omega
                      case rel => exact ⟨row ++ [p1], pa, ps, HQ', ⟨by have := HK2.out; omega⟩, HS, HR⟩
                    · rw [if_neg c4] at HQ; exact absurd HQ (by simp)
                  · rw [if_neg c3] at HQ
                    have c3b : decide ((row.length : Int) < qu) = false := decide_eq_false c3
                    clear c3
                    obtain rfl := Option.some.inj HQ
                    clear HQ
                    (try dsimp only at H')
                    go_wp2_with (first
                      | ((with_reducible refine gate_builtin (b := .append) (xs := #[.tmp 51, .tmp 53]) rfl ?_); at_builtin; refine Kd.S_append (Kd.slice 3 (Kd.int .i64)) (w0 := wr) w.heap.size rfl (.tmp 51) (.tmp 53) 25 36 (.slice none 0 0) 24 rfl Try.underlying25 info36 rfl (by decide) (by decide) v ys row [.slice A6 row.length c6] (fun _ => True) (fun k => some k = (.slice A6 row.length c6 : Value).ownBlock) rfl rfl ?bP ?bK ?bF ?bO ?bB ?bS ?bL ?_; (case bP => exact Kd.M_row (Kd.R_tight rfl HR.out)); (case bK => exact fun k hk => ⟨trivial, spec_l1Cur_torus.apart HS.out.rows HR.out k hk⟩); (case bF => exact fun _ _ => trivial); (case bO => exact Kd.S_mono HS.out.rows (fun k hk => ⟨trivial, hk⟩)); (case bB => exact Below.refl _ _); (case bS => exact HS.out.size); (case bL => have := CL2.out; omega); intro v54 w54 ho hb hg hat; obtain ⟨A54, c54, e54⟩ := Kd.S_slice ho; subst e54; clear hc4 hf4; have hc4 := (HS.out.c4' hg).1; have hf4 := (HS.out.c4' hg).2; have HG := Aside0.mk hg; have HT := Aside0.mk ho; clear ho hb hg hat)
                      | ((with_reducible refine gate_store (t := 25) (p := 55) rfl ?_); refine store_event (t := 25) (p := 55) (v := ?vo_s55) (w1 := (w54.setCell ⟨g4, 0, none⟩ (.slice A54 (ys ++ [row]).length c54))) ?hg ?ho ?hn ?hr ?_; (case ho => rfl); (case hg => rfl); (case hn => rfl); (case hr => first | (go_simp; done) | (go_simp; rfl)); intro w_55 hw; have n0_ : Aside0 (spec_l1Cur_torus.St w0 w w_55 g g2 g4 d a2 s2 (fun _ => True) (.slice A54 (ys ++ [row]).length c54) (ys ++ [row])) := ⟨by rw [hw]; exact HS.out.push HG.out HT.out⟩; clear HS HG HT hw; have HS := n0_; clear n0_; (try clear hc4); (try clear hf4); have hc4 := HS.out.c4.1; have hf4 := HS.out.c4.2))
                    go_roundg k1
                    case measure => have := HK1.out; omega
                    case rel => exact ⟨wrap64 (i + 1), a2, s2, ys ++ [row], _, (by first | rfl | (simp; done) | (simp [*]; done)), H', ⟨by have := HK1.out; omega⟩, HS⟩
            · rw [if_neg c2] at hq; exact absurd hq (by simp)
          · rw [if_neg c1] at H
            have c1b : decide (i < rr) = false := decide_eq_false c1
            clear c1
            replace H : spec_l1Cur_torus.last ys d ax sx = some (r1, r2, r3) := H
            go_wp2
            go_meet
            case rel => exact ⟨ys, ax, sx, v, ⟨H⟩, ⟨HS.out⟩⟩
    case rest =>
      clear HL0
      obtain ⟨ys, ax, sx, v, HL, HS⟩ := hcut
      have H := HL.out
      clear HL
      unfold spec_l1Cur_torus.last at H
      obtain ⟨⟨c1, ca, cs⟩, h_, H⟩ := Option.bind_eq_some_iff.mp H
      have C1 := Aside0.mk h_
      clear h_
      (try dsimp only at H)
      have hc4 := HS.out.c4.1
      have hf4 := HS.out.c4.2
      by_cases e0 : c1 = 0
      · rw [if_pos e0] at H
        have e0b : (c1 == 0) = true := beq_iff_eq.mpr e0
        clear e0
        obtain ⟨⟨p1, pa, ps⟩, h_, H⟩ := Option.bind_eq_some_iff.mp H
        have D1 := Aside0.mk h_
        clear h_
        (try dsimp only at H)
        by_cases z0 : ¬ (0 ≤ p1)
        · rw [if_neg z0] at H; exact absurd H (by simp)
        replace z0 := Decidable.not_not.mp z0
        rw [if_pos z0] at H
        by_cases z1 : ¬ (p1 < (ys.length : Int))
        · rw [if_neg z1] at H; exact absurd H (by simp)
        replace z1 := Decidable.not_not.mp z1
        rw [if_pos z1] at H
        obtain ⟨⟨x1, xa, xs⟩, h_, H⟩ := Option.bind_eq_some_iff.mp H
        have D2 := Aside0.mk h_
        clear h_
        (try dsimp only at H)
        obtain ⟨el, hel⟩ : ∃ l : List Int, l = ys.getD p1.toNat [] := ⟨_, rfl⟩
        rw [← hel] at H
        have HEL := Aside0.mk hel
        clear hel
        by_cases z2 : ¬ (0 < el.length)
        · rw [if_neg z2] at H; exact absurd H (by simp)
        replace z2 := Decidable.not_not.mp z2
        rw [if_pos z2] at H
        simp only [Option.some.injEq, Prod.mk.injEq] at H
        obtain ⟨rfl, rfl, rfl⟩ := H
        obtain ⟨gr, cr, ev, _, _, _⟩ := Kd.S_form HS.out.rows (by omega)
        subst ev
        go_wp2_with (first
  | ((with_reducible refine gate_callee (f := 36) rfl ?_); refine goesL_ (some 57) rfl rfl Try.func36 (by kernel_rfl) rfl #[.pointer (some ⟨g, 0, none⟩), .int .i64 16] rfl (by (try simp only [List.map_toArray, List.map_cons, List.map_nil]); first | done | rfl) ?_; refine (spec_l1Cur_pick.calls g d ax sx 16 c1 ca cs w0 _ HS.out.is HS.out.bel C1.out).mono ?_; rintro e w_57 ⟨rfl, hi_, hb_, hk_⟩; refine ⟨_, rfl, ?_⟩; have n0_ := Aside0.mk (HS.out.call hi_ hb_ hk_); clear HS hi_ hb_ hk_; have HS := n0_; clear n0_; (try clear hc4); (try clear hf4); have hc4 := HS.out.c4.1; have hf4 := HS.out.c4.2))
        obtain ⟨ge, cc, x0, hh⟩ := spec_l1Cur_torus.hold HS.out.rows p1 z0 z1 (by rw [← HEL.out]; exact z2)
        rw [← HEL.out] at hh
        obtain ⟨m_, hm_⟩ : ∃ m : Nat, el.length = m := ⟨_, rfl⟩
        rw [hm_] at z2 hh
        clear hm_
        have HE := Aside0.mk hh
        clear hh
        have n0_ := Aside0.mk (HS.out.below (below_drew (Below.refl _ _)))
        (try clear hc4); (try clear hf4)
        have n1_ := Aside0.mk (HE.out.fresh (grown_of_below (below_drew (Below.refl _ _)) none))
        clear HE
        have HE := n1_
        clear n1_
        clear HS
        have HS := n0_
        clear n0_
        refine start_ (n := 14) (S := fun w' => w'.cell? ⟨g4, 0, none⟩ = some (.slice (some ⟨gr, 0, none⟩) ys.length cr) ∧ w'.cell? ⟨gr, p1.toNat, none⟩ = some (.slice (some ⟨ge, 0, none⟩) m_ cc) ∧ w'.cell? ⟨ge, 0, none⟩ = some (.int .i64 x0) ∧ w'.frozen? ⟨ge, 0, none⟩ = false) (ds := [13]) #[false, false, false, false, false, false, false, false, false, false, false, false, false, false] (by kernel_rfl) rfl rfl ⟨HS.out.c4.1, HE.out.cells.1, HE.out.cells.2.1, HE.out.cells.2.2⟩ (fun hHeld => ?_)
        generalize w_57.drew = w_d at HS HE hHeld ⊢
        refine pure_ (i := 0) (N := some 60) (v := ?_) (a' := ?_) #[true, false, false, false, false, false, false, false, false, false, false, false, false, false] rfl rfl (by kernel_rfl) (fun _ _ _ h => h) (Or.inl ⟨by rfl, ?_⟩) ?_ ?_
        rotate_left
        · intro w'
          go_simp
          with_reducible rfl
        rotate_left
        · simp only [Act.put, List.setIfInBounds_toArray, List.set_cons_zero, List.set_cons_succ, i64_w, i32_w]
          rfl
        refine pure_ (i := 2) (N := some 62) (v := ?_) (a' := ?_) #[true, false, true, false, false, false, false, false, false, false, false, false, false, false] rfl rfl (by kernel_rfl) (fun _ _ _ h => h) (Or.inl ⟨by rfl, ?_⟩) ?_ ?_
        rotate_left
        · intro w'
          go_simp
          with_reducible rfl
        rotate_left
        · simp only [Act.put, List.setIfInBounds_toArray, List.set_cons_zero, List.set_cons_succ, i64_w, i32_w]
          rfl
        refine pure_ (i := 3) (N := some 63) (v := ?_) (a' := ?_) #[true, false, true, true, false, false, false, false, false, false, false, false, false, false] rfl rfl (by kernel_rfl) (fun _ _ _ h => h) (Or.inl ⟨by rfl, ?_⟩) ?_ ?_
        rotate_left
        · intro w'
          go_simp
          with_reducible rfl
        rotate_left
        · simp only [Act.put, List.setIfInBounds_toArray, List.set_cons_zero, List.set_cons_succ, i64_w, i32_w]
          rfl
        refine pure_ (i := 9) (N := some 69) (v := ?_) (a' := ?_) #[true, false, true, true, false, false, false, false, false, true, false, false, false, false] rfl rfl (by kernel_rfl) (fun _ _ _ h => h) (Or.inl ⟨by rfl, ?_⟩) ?_ ?_
        rotate_left
        · intro w'
          go_simp
          with_reducible rfl
        rotate_left
        · simp only [Act.put, List.setIfInBounds_toArray, List.set_cons_zero, List.set_cons_succ, i64_w, i32_w]
          rfl
        refine take_ (i := 1) (N := some 61) (v := ?_) (a' := ?_) #[true, true, true, true, false, false, false, false, false, true, false, false, false, false] rfl rfl (by kernel_rfl) (fun _ _ _ h => h) (Or.inl ⟨by rfl, ?_⟩) hHeld ?_ ?_
        rotate_left
        · rintro w' ⟨s0, s1, s2, s3⟩
          go_simp
          with_reducible rfl
        rotate_left
        · simp only [Act.put, List.setIfInBounds_toArray, List.set_cons_zero, List.set_cons_succ, i64_w, i32_w]
          rfl
        refine take_ (i := 4) (N := some 64) (v := ?_) (a' := ?_) #[true, true, true, true, true, false, false, false, false, true, false, false, false, false] rfl rfl (by kernel_rfl) (fun _ _ _ h => h) (Or.inl ⟨by rfl, ?_⟩) hHeld ?_ ?_
        rotate_left
        · rintro w' ⟨s0, s1, s2, s3⟩
          go_simp
          with_reducible rfl
        rotate_left
        · simp only [Act.put, List.setIfInBounds_toArray, List.set_cons_zero, List.set_cons_succ, i64_w, i32_w]
          rfl
        refine pure_ (i := 5) (N := some 65) (v := ?_) (a' := ?_) #[true, true, true, true, true, true, false, false, false, true, false, false, false, false] rfl rfl (by kernel_rfl) (fun _ _ _ h => h) (Or.inl ⟨by rfl, ?_⟩) ?_ ?_
        rotate_left
        · intro w'
          go_simp
          with_reducible rfl
        rotate_left
        · simp only [Act.put, List.setIfInBounds_toArray, List.set_cons_zero, List.set_cons_succ, i64_w, i32_w]
          rfl
        refine join_ (σ := Option Addr × Nat) 3 #[true, true, true, true, true, true, true, true, true, true, true, false, false, false] (fun s => [(66, .int .i64 p1), (67, .pointer (some ⟨gr, p1.toNat, none⟩)), (68, .slice (some ⟨ge, 0, none⟩) m_ cc), (70, .slice s.1 ([0, 1, 2, -1] : List Int).length s.2)]) (fun s w' => spec_l1Cur_torus.St w0 w w' g g2 g4 d pa ps (fun _ => True) (.slice (some ⟨gr, 0, none⟩) ys.length cr) ys ∧ spec_l1Cur_torus.Held w w' gr ge p1.toNat (.slice (some ⟨ge, 0, none⟩) m_ cc) x0 ∧ Kd.R (Kd.int .i64) 3 w' w.heap.size (fun _ => True) (.slice s.1 ([0, 1, 2, -1] : List Int).length s.2) [0, 1, 2, -1]) ?_ ?_
        rotate_left
        · intro hCont
          refine two_ (i := 6) (j := 10) (Ni := some 66) (Nj := some 70) #[true, true, true, true, true, true, true, false, false, true, false, false, false, false] #[true, true, true, true, true, true, false, false, false, true, true, false, false, false] rfl rfl rfl rfl (by kernel_rfl) (by decide) (by decide) (fun K hK => ?_) (fun K hK => ?_)
          · skip
            refine goes_ Try.func36 (by kernel_rfl) rfl #[.pointer (some ⟨g, 0, none⟩), .int .i64 (ys.length : Int)] (by rfl) rfl rfl (by (try simp only [List.map_toArray, List.map_cons, List.map_nil]); first | done | rfl) ?_
            with_reducible refine (spec_l1Cur_pick.calls g d ca cs (ys.length : Int) p1 pa ps w0 _ HS.out.is HS.out.bel D1.out).mono ?_
            rintro e w_66 ⟨rfl, hi_, hb_, hk_⟩
            refine ⟨_, rfl, ?_⟩
            have n1_ := Aside0.mk (HE.out.keep hk_ HS.out.glt)
            clear HE
            have HE := n1_
            clear n1_
            have n0_ := Aside0.mk (HS.out.call hi_ hb_ hk_)
            clear HS hi_ hb_ hk_
            have HS := n0_
            clear n0_
            refine hK.out _ _ ⟨HS.out.c4.1, HE.out.cells.1, HE.out.cells.2.1, HE.out.cells.2.2⟩ (fun hHeld => ?_)
            clear hK K
            refine norm_ (a' := ?_) ?_ ?_
            rotate_left
            · show Act.put _ (some 66) _ = _
              simp only [Act.put, List.setIfInBounds_toArray, List.set_cons_zero, List.set_cons_succ, i64_w, i32_w]
              rfl
            refine pure_ (i := 7) (N := some 67) (v := ?_) (a' := ?_) #[true, true, true, true, true, true, true, true, false, true, false, false, false, false] rfl rfl (by kernel_rfl) (fun _ _ _ h => h) (Or.inl ⟨by rfl, ?_⟩) ?_ ?_
            rotate_left
            · intro w'
              go_simp
              with_reducible rfl
            rotate_left
            · simp only [Act.put, List.setIfInBounds_toArray, List.set_cons_zero, List.set_cons_succ, i64_w, i32_w]
              rfl
            refine take_ (i := 8) (N := some 68) (v := ?_) (a' := ?_) #[true, true, true, true, true, true, true, true, true, true, false, false, false, false] rfl rfl (by kernel_rfl) (fun _ _ _ h => h) (Or.inl ⟨by rfl, ?_⟩) hHeld ?_ ?_
            rotate_left
            · rintro w' ⟨s0, s1, s2, s3⟩
              go_simp
              with_reducible rfl
            rotate_left
            · simp only [Act.put, List.setIfInBounds_toArray, List.set_cons_zero, List.set_cons_succ, i64_w, i32_w]
              rfl
            refine one_ (i := 10) (N := some 70) #[true, true, true, true, true, true, true, true, true, true, true, false, false, false] rfl rfl (by kernel_rfl) (by decide) (fun K hK => ?_)
            refine Kd.R_lit_step (Kd.int .i64) w.heap.size 3 ?hg (N := 70) ?hd (xs := ([0, 1, 2, -1] : List Int)) (inner := [.int .i64 0, .int .i64 1, .int .i64 2, .int .i64 (-1)]) (ok := (fun _ => True)) (okp := fun _ => False) ?hr ?hp (fun _ hk => hk.elim) trivial (Below.refl _ _) HS.out.size (by simp) ?_
            (case hd => rfl)
            (case hg => rfl)
            (case hr => first | (go_simp; done) | (go_simp; rfl))
            (case hp => exact ⟨rfl, fun i p hp => by match i, hp with | 0, hp => cases hp; rfl | 1, hp => cases hp; rfl | 2, hp => cases hp; rfl | 3, hp => cases hp; rfl⟩)
            intro v70 w70 ho hb hg_ hnew_
            obtain ⟨A70, c70, e70⟩ := Kd.R_slice ho
            subst e70
            have HL := Aside0.mk ho
            have n0_ := Aside0.mk (HS.out.fresh hg_)
            have n1_ := Aside0.mk (HE.out.fresh hg_)
            clear HS HE ho hb hg_ hnew_
            have HS := n0_
            have HE := n1_
            clear n0_ n1_
            refine hK.out _ _ ⟨HS.out.c4.1, HE.out.cells.1, HE.out.cells.2.1, HE.out.cells.2.2⟩ (fun hHeld => ?_)
            clear hK K
            refine norm_ (a' := ?_) ?_ ?_
            rotate_left
            · show Act.put _ (some 70) _ = _
              simp only [Act.put, List.setIfInBounds_toArray, List.set_cons_zero, List.set_cons_succ, i64_w, i32_w]
              rfl
            exact norm_ (by first | (simp only [putAll, Act.put, List.setIfInBounds_toArray, List.set_cons_zero, List.set_cons_succ]; done) | (simp only [putAll, Act.put, List.setIfInBounds_toArray, List.set_cons_zero, List.set_cons_succ]; rfl)) (hCont (A70, c70) _ ⟨HS.out, HE.out, HL.out⟩)
          · skip
            refine Kd.R_lit_step (Kd.int .i64) w.heap.size 3 ?hg (N := 70) ?hd (xs := ([0, 1, 2, -1] : List Int)) (inner := [.int .i64 0, .int .i64 1, .int .i64 2, .int .i64 (-1)]) (ok := (fun _ => True)) (okp := fun _ => False) ?hr ?hp (fun _ hk => hk.elim) trivial (Below.refl _ _) HS.out.size (by simp) ?_
            (case hd => rfl)
            (case hg => rfl)
            (case hr => first | (go_simp; done) | (go_simp; rfl))
            (case hp => exact ⟨rfl, fun i p hp => by match i, hp with | 0, hp => cases hp; rfl | 1, hp => cases hp; rfl | 2, hp => cases hp; rfl | 3, hp => cases hp; rfl⟩)
            intro v70 w70 ho hb hg_ hnew_
            obtain ⟨A70, c70, e70⟩ := Kd.R_slice ho
            subst e70
            have HL := Aside0.mk ho
            have n0_ := Aside0.mk (HS.out.fresh hg_)
            have n1_ := Aside0.mk (HE.out.fresh hg_)
            clear HS HE ho hb hg_ hnew_
            have HS := n0_
            have HE := n1_
            clear n0_ n1_
            refine hK.out _ _ ⟨HS.out.c4.1, HE.out.cells.1, HE.out.cells.2.1, HE.out.cells.2.2⟩ (fun hHeld => ?_)
            clear hK K
            refine norm_ (a' := ?_) ?_ ?_
            rotate_left
            · show Act.put _ (some 70) _ = _
              simp only [Act.put, List.setIfInBounds_toArray, List.set_cons_zero, List.set_cons_succ, i64_w, i32_w]
              rfl
            refine one_ (i := 6) (N := some 66) #[true, true, true, true, true, true, true, false, false, true, true, false, false, false] rfl rfl (by kernel_rfl) (by decide) (fun K hK => ?_)
            refine goes_ Try.func36 (by kernel_rfl) rfl #[.pointer (some ⟨g, 0, none⟩), .int .i64 (ys.length : Int)] (by rfl) rfl rfl (by (try simp only [List.map_toArray, List.map_cons, List.map_nil]); first | done | rfl) ?_
            with_reducible refine (spec_l1Cur_pick.calls g d ca cs (ys.length : Int) p1 pa ps w0 _ HS.out.is HS.out.bel D1.out).mono ?_
            rintro e w_66 ⟨rfl, hi_, hb_, hk_⟩
            refine ⟨_, rfl, ?_⟩
            have n1_ := Aside0.mk (HE.out.keep hk_ HS.out.glt)
            clear HE
            have HE := n1_
            clear n1_
            have n2_ := Aside0.mk (spec_l1Cur_torus.rkeep HL.out HS.out.glt hk_)
            clear HL
            have HL := n2_
            clear n2_
            have n0_ := Aside0.mk (HS.out.call hi_ hb_ hk_)
            clear HS hi_ hb_ hk_
            have HS := n0_
            clear n0_
            refine hK.out _ _ ⟨HS.out.c4.1, HE.out.cells.1, HE.out.cells.2.1, HE.out.cells.2.2⟩ (fun hHeld => ?_)
            clear hK K
            refine norm_ (a' := ?_) ?_ ?_
            rotate_left
            · show Act.put _ (some 66) _ = _
              simp only [Act.put, List.setIfInBounds_toArray, List.set_cons_zero, List.set_cons_succ, i64_w, i32_w]
              rfl
            refine pure_ (i := 7) (N := some 67) (v := ?_) (a' := ?_) #[true, true, true, true, true, true, true, true, false, true, true, false, false, false] rfl rfl (by kernel_rfl) (fun _ _ _ h => h) (Or.inl ⟨by rfl, ?_⟩) ?_ ?_
            rotate_left
            · intro w'
              go_simp
              with_reducible rfl
            rotate_left
            · simp only [Act.put, List.setIfInBounds_toArray, List.set_cons_zero, List.set_cons_succ, i64_w, i32_w]
              rfl
            refine take_ (i := 8) (N := some 68) (v := ?_) (a' := ?_) #[true, true, true, true, true, true, true, true, true, true, true, false, false, false] rfl rfl (by kernel_rfl) (fun _ _ _ h => h) (Or.inl ⟨by rfl, ?_⟩) hHeld ?_ ?_
            rotate_left
            · rintro w' ⟨s0, s1, s2, s3⟩
              go_simp
              with_reducible rfl
            rotate_left
            · simp only [Act.put, List.setIfInBounds_toArray, List.set_cons_zero, List.set_cons_succ, i64_w, i32_w]
              rfl
            exact norm_ (by first | (simp only [putAll, Act.put, List.setIfInBounds_toArray, List.set_cons_zero, List.set_cons_succ]; done) | (simp only [putAll, Act.put, List.setIfInBounds_toArray, List.set_cons_zero, List.set_cons_succ]; rfl)) (hCont (A70, c70) _ ⟨HS.out, HE.out, HL.out⟩)
        rintro ⟨A70, c70⟩ w_f ⟨n0_, n1_, n2_⟩
        clear HS HE hHeld
        have HS := Aside0.mk n0_
        have HE := Aside0.mk n1_
        have HL := Aside0.mk (show Kd.R (Kd.int .i64) 3 w_f w.heap.size (fun _ => True) (.slice A70 ([0, 1, 2, -1] : List Int).length c70) [0, 1, 2, -1] from n2_)
        clear n0_ n1_ n2_
        have hHeld := (show (fun w' => w'.cell? ⟨g4, 0, none⟩ = some (.slice (some ⟨gr, 0, none⟩) ys.length cr) ∧ w'.cell? ⟨gr, p1.toNat, none⟩ = some (.slice (some ⟨ge, 0, none⟩) m_ cc) ∧ w'.cell? ⟨ge, 0, none⟩ = some (.int .i64 x0) ∧ w'.frozen? ⟨ge, 0, none⟩ = false) w_f from ⟨HS.out.c4.1, HE.out.cells.1, HE.out.cells.2.1, HE.out.cells.2.2⟩)
        refine norm_ (a' := ?_) ?_ ?_
        rotate_left
        · simp only [putAll, Act.put, List.setIfInBounds_toArray, List.set_cons_zero, List.set_cons_succ]
          rfl
        refine one_ (i := 11) (N := some 71) #[true, true, true, true, true, true, true, true, true, true, true, true, false, false] rfl rfl (by kernel_rfl) (by decide) (fun K hK => ?_)
        refine goes_ Try.func17 (by kernel_rfl) rfl #[.pointer (some ⟨g, 0, none⟩), .slice A70 ([0, 1, 2, -1] : List Int).length c70] (by rfl) rfl rfl (by (try simp only [List.map_toArray, List.map_cons, List.map_nil]); first | done | rfl) ?_
        with_reducible refine (spec_l1Cur_among.calls g d pa ps A70 c70 [0, 1, 2, -1] x1 xa xs w0 _ HS.out.is HS.out.bel (Kd.R_reads' HL.out).2.2 (Kd.R_reads' HL.out).2.1 (fun ad had _ e_ => by subst had; have h8_ := Kd.R_base HL.out ad.block rfl; have h9_ := HS.out.glt; rw [← e_] at h9_; exact absurd h9_ (Nat.not_lt.mpr h8_)) D2.out).mono ?_
        rintro e w_71 ⟨rfl, hi_, hb_, hk_⟩
        refine ⟨_, rfl, ?_⟩
        have n1_ := Aside0.mk (HE.out.keep hk_ HS.out.glt)
        have n0_ := Aside0.mk (HS.out.call hi_ hb_ hk_)
        clear HS HE HL hi_ hb_ hk_
        have HS := n0_
        have HE := n1_
        clear n0_ n1_
        refine hK.out _ _ ⟨HS.out.c4.1, HE.out.cells.1, HE.out.cells.2.1, HE.out.cells.2.2⟩ (fun hHeld => ?_)
        clear hK K
        refine norm_ (a' := ?_) ?_ ?_
        rotate_left
        · show Act.put _ (some 71) _ = _
          simp only [Act.put, List.setIfInBounds_toArray, List.set_cons_zero, List.set_cons_succ, i64_w, i32_w]
          rfl
        refine pure_ (i := 12) (N := some 72) (v := ?_) (a' := ?_) #[true, true, true, true, true, true, true, true, true, true, true, true, true, false] rfl rfl (by kernel_rfl) (fun _ _ _ h => h) (Or.inl ⟨by rfl, ?_⟩) ?_ ?_
        rotate_left
        · intro w'
          go_simp
          with_reducible rfl
        rotate_left
        · simp only [Act.put, List.setIfInBounds_toArray, List.set_cons_zero, List.set_cons_succ, i64_w, i32_w]
          rfl
        refine last_ (i := 13) (N := none) #[true, true, true, true, true, true, true, true, true, true, true, true, true, true] rfl rfl (by kernel_rfl) (by decide) (fun K hK => ?_)
        refine skip_ (w1 := ?_) (by rfl) rfl ?_ ?_
        rotate_left
        · go_simp
          rfl
        refine hK.out _ _ ?_
        clear hK K
        refine done_ (by kernel_rfl) ?_
        have hx_ := HS.out.poke p1 z0 z1 HE.out.cells.1 x1
        rw [← HEL.out] at hx_
        obtain ⟨w_y, hwy⟩ : ∃ W_, W_ = w_71.setCell ⟨ge, 0, none⟩ (.int .i64 x1) := ⟨_, rfl⟩
        rw [← hwy] at hx_ ⊢
        have HX := Aside0.mk hx_
        clear hx_ hwy HS HE hHeld
        have hc4 := HX.out.c4.1.1
        have hf4 := HX.out.c4.1.2
        have hc2 := HX.out.c4.2.1
        have hf2 := HX.out.c4.2.2
        go_wp2
        refine bodyPost_ret (results_cell_row rfl _ _ g2 27 #[.slice (some ⟨gr, 0, none⟩) ys.length cr] (0, 0) _ rfl HX.out.out.1 hu27 rfl (by kernel_rfl)) rfl ?_
        exact ⟨_, rfl, HX.out.out.2.1, HX.out.out.2.2.1, HX.out.out.2.2.2.1, HX.out.out.2.2.2.2.1⟩
      · rw [if_neg e0] at H
        have e0b : (c1 == 0) = false := beq_eq_false_iff_ne.mpr e0
        clear e0
        by_cases e1 : c1 = 1
        · rw [if_pos e1] at H
          have e1b : (c1 == 1) = true := beq_iff_eq.mpr e1
          clear e1
          by_cases z0 : ¬ (1 ≤ ys.length)
          · rw [if_neg z0] at H; exact absurd H (by simp)
          replace z0 := Decidable.not_not.mp z0
          rw [if_pos z0] at H
          simp only [Option.some.injEq, Prod.mk.injEq] at H
          obtain ⟨rfl, rfl, rfl⟩ := H
          obtain ⟨Ao, co, eo⟩ := Kd.S_slice HS.out.rows
          subst eo
          have hlc := (Kd.S_reads' HS.out.rows).2.1
          obtain ⟨i0, hi0, _, hsz, _⟩ := info_parts info36
          have hcut0 := cut_from (P := Try.prog) 25 36 .i64 Try.underlying25 hi0 1 hsz Ao ys.length co 1 (by omega) (by omega)
          clear hi0 hsz
          obtain ⟨Aq, hAq⟩ : ∃ A_ : Option Addr, (if co = 1 then Ao else Ao.map (·.add (1 * 1))) = A_ := ⟨_, rfl⟩
          have hcut2 : ∀ W : World, (Instr.slice 25 (.slice Ao ys.length co) (some (.int .i64 1)) none none).run Try.prog W = .ok (.slice Aq (ys.length - 1) (co - 1)) W := fun W => by rw [hcut0 W, ← hAq]; rfl
          clear hcut0
          have HV := Aside0.mk (show Value.slice (if co = 1 then Ao else Ao.map (·.add (1 * 1))) (ys.length - 1) (co - 1) = .slice Aq (ys.length - 1) (co - 1) by rw [hAq])
          clear hAq
          go_wp2_with (first
    | ((with_reducible refine gate_callee (f := 36) rfl ?_); refine goesL_ (some 57) rfl rfl Try.func36 (by kernel_rfl) rfl #[.pointer (some ⟨g, 0, none⟩), .int .i64 16] rfl (by (try simp only [List.map_toArray, List.map_cons, List.map_nil]); first | done | rfl) ?_; refine (spec_l1Cur_pick.calls g d ax sx 16 c1 ca cs w0 _ HS.out.is HS.out.bel C1.out).mono ?_; rintro e w_57 ⟨rfl, hi_, hb_, hk_⟩; refine ⟨_, rfl, ?_⟩; have n0_ := Aside0.mk (HS.out.call hi_ hb_ hk_); clear HS hi_ hb_ hk_; have HS := n0_; clear n0_; (try clear hc4); (try clear hf4); have hc4 := HS.out.c4.1; have hf4 := HS.out.c4.2)
    | ((with_reducible refine gate_store (t := 25) (p := 78) rfl ?_); refine store_event (t := 25) (p := 78) (v := ?vo_s78) (w1 := (w_57.setCell ⟨g4, 0, none⟩ (.slice Aq (ys.length - 1) (co - 1)))) ?hg ?ho ?hn ?hr ?_; (case ho => rfl); (case hg => rfl); (case hn => rfl); (case hr => first | (go_simp; done) | (go_simp; rfl)); intro w_78 hw; have HX : Aside0 (spec_l1Cur_torus.End w0 w w_78 g g2 g4 d ca cs (.slice Aq (ys.length - 1) (co - 1)) (ys.drop 1)) := ⟨by rw [hw]; exact HS.out.cut z0 HV.out⟩; clear HS hw hc4 hf4; have hc4 := HX.out.c4.1.1; have hf4 := HX.out.c4.1.2; have hc2 := HX.out.c4.2.1; have hf2 := HX.out.c4.2.2))
          refine bodyPost_ret (results_cell_row rfl _ _ g2 27 #[.slice Aq (ys.length - 1) (co - 1)] (0, 0) _ rfl HX.out.out.1 hu27 rfl (by kernel_rfl)) rfl ?_
          exact ⟨_, rfl, HX.out.out.2.1, HX.out.out.2.2.1, HX.out.out.2.2.2.1, HX.out.out.2.2.2.2.1⟩
        · rw [if_neg e1] at H
          have e1b : (c1 == 1) = false := beq_eq_false_iff_ne.mpr e1
          clear e1
          by_cases e2 : c1 = 2
          · rw [if_pos e2] at H
            have e2b : (c1 == 2) = true := beq_iff_eq.mpr e2
            clear e2
            by_cases z0 : ¬ (0 < ys.length)
            · rw [if_neg z0] at H; exact absurd H (by simp)
            replace z0 := Decidable.not_not.mp z0
            rw [if_pos z0] at H
            obtain ⟨el, hel⟩ : ∃ l : List Int, l = ys.getD 0 [] := ⟨_, rfl⟩
            rw [← hel] at H
            have HEL := Aside0.mk hel
            clear hel
            by_cases z1 : ¬ (el.length < 17592186044416)
            · rw [if_neg z1] at H; exact absurd H (by simp)
            replace z1 := Decidable.not_not.mp z1
            rw [if_pos z1] at H
            have CL := Aside0.mk z1
            clear z1
            simp only [Option.some.injEq, Prod.mk.injEq] at H
            obtain ⟨rfl, rfl, rfl⟩ := H
            obtain ⟨gr, cr, ev, _, _, _⟩ := Kd.S_form HS.out.rows z0
            subst ev
            go_wp2_with (first
      | ((with_reducible refine gate_callee (f := 36) rfl ?_); refine goesL_ (some 57) rfl rfl Try.func36 (by kernel_rfl) rfl #[.pointer (some ⟨g, 0, none⟩), .int .i64 16] rfl (by (try simp only [List.map_toArray, List.map_cons, List.map_nil]); first | done | rfl) ?_; refine (spec_l1Cur_pick.calls g d ax sx 16 c1 ca cs w0 _ HS.out.is HS.out.bel C1.out).mono ?_; rintro e w_57 ⟨rfl, hi_, hb_, hk_⟩; refine ⟨_, rfl, ?_⟩; have n0_ := Aside0.mk (HS.out.call hi_ hb_ hk_); clear HS hi_ hb_ hk_; have HS := n0_; clear n0_; (try clear hc4); (try clear hf4); have hc4 := HS.out.c4.1; have hf4 := HS.out.c4.2))
            have n0_ := Aside0.mk (HS.out.below (below_drew (Below.refl _ _)))
            (try clear hc4); (try clear hf4)
            clear HS
            have HS := n0_
            clear n0_
            obtain ⟨oki, ve, hR, hx, hf, hk, hH⟩ := spec_l1Cur_torus.lend HS.out.rows 0 (by omega) (by omega)
            have LD : Aside0 (Kd.R (Kd.int .i64) 3 w_57.drew w.heap.size oki ve el ∧ w_57.drew.cell? ⟨gr, 0, none⟩ = some ve ∧ w_57.drew.frozen? ⟨gr, 0, none⟩ = false ∧ (∀ k, oki k → k ≠ gr) ∧ Kd.H (Kd.slice 3 (Kd.int .i64)) 36 w_57.drew w.heap.size (fun _ => True) (.slice (some ⟨gr, 0, none⟩) ys.length cr) ys 0 oki [ve]) := ⟨by rw [HEL.out]; exact hR, hx, hf, hk, hH⟩
            clear hR hx hf hk hH
            refine start_ (n := 10) (S := fun w' => w'.cell? ⟨g4, 0, none⟩ = some (.slice (some ⟨gr, 0, none⟩) ys.length cr) ∧ w'.cell? ⟨gr, 0, none⟩ = some ve ∧ w'.frozen? ⟨gr, 0, none⟩ = false) (ds := [9]) #[false, false, false, false, false, false, false, false, false, false] (by kernel_rfl) rfl rfl ⟨HS.out.c4.1, LD.out.2.1, LD.out.2.2.1⟩ (fun hHeld => ?_)
            generalize w_57.drew = w_d at HS LD hHeld ⊢
            refine pure_ (i := 0) (N := some 81) (v := ?_) (a' := ?_) #[true, false, false, false, false, false, false, false, false, false] rfl rfl (by kernel_rfl) (fun _ _ _ h => h) (Or.inl ⟨by rfl, ?_⟩) ?_ ?_
            rotate_left
            · intro w'
              go_simp
              with_reducible rfl
            rotate_left
            · simp only [Act.put, List.setIfInBounds_toArray, List.set_cons_zero, List.set_cons_succ, i64_w, i32_w]
              rfl
            refine pure_ (i := 2) (N := some 83) (v := ?_) (a' := ?_) #[true, false, true, false, false, false, false, false, false, false] rfl rfl (by kernel_rfl) (fun _ _ _ h => h) (Or.inl ⟨by rfl, ?_⟩) ?_ ?_
            rotate_left
            · intro w'
              go_simp
              with_reducible rfl
            rotate_left
            · simp only [Act.put, List.setIfInBounds_toArray, List.set_cons_zero, List.set_cons_succ, i64_w, i32_w]
              rfl
            refine take_ (i := 1) (N := some 82) (v := ?_) (a' := ?_) #[true, true, true, false, false, false, false, false, false, false] rfl rfl (by kernel_rfl) (fun _ _ _ h => h) (Or.inl ⟨by rfl, ?_⟩) hHeld ?_ ?_
            rotate_left
            · rintro w' ⟨s0, s1, s2⟩
              go_simp
              with_reducible rfl
            rotate_left
            · simp only [Act.put, List.setIfInBounds_toArray, List.set_cons_zero, List.set_cons_succ, i64_w, i32_w]
              rfl
            refine take_ (i := 3) (N := some 84) (v := ?_) (a' := ?_) #[true, true, true, true, false, false, false, false, false, false] rfl rfl (by kernel_rfl) (fun _ _ _ h => h) (Or.inl ⟨by rfl, ?_⟩) hHeld ?_ ?_
            rotate_left
            · rintro w' ⟨s0, s1, s2⟩
              go_simp
              with_reducible rfl
            rotate_left
            · simp only [Act.put, List.setIfInBounds_toArray, List.set_cons_zero, List.set_cons_succ, i64_w, i32_w]
              rfl
            refine pure_ (i := 4) (N := some 85) (v := ?_) (a' := ?_) #[true, true, true, true, true, false, false, false, false, false] rfl rfl (by kernel_rfl) (fun _ _ _ h => h) (Or.inl ⟨by rfl, ?_⟩) ?_ ?_
            rotate_left
            · intro w'
              go_simp
              with_reducible rfl
            rotate_left
            · simp only [Act.put, List.setIfInBounds_toArray, List.set_cons_zero, List.set_cons_succ, i64_w, i32_w]
              rfl
            refine take_ (i := 5) (N := some 86) (v := ?_) (a' := ?_) #[true, true, true, true, true, true, false, false, false, false] rfl rfl (by kernel_rfl) (fun _ _ _ h => h) (Or.inl ⟨by rfl, ?_⟩) hHeld ?_ ?_
            rotate_left
            · rintro w' ⟨s0, s1, s2⟩
              go_simp
              with_reducible rfl
            rotate_left
            · simp only [Act.put, List.setIfInBounds_toArray, List.set_cons_zero, List.set_cons_succ, i64_w, i32_w]
              rfl
            refine one_ (i := 6) (N := some 87) #[true, true, true, true, true, true, true, false, false, false] rfl rfl (by kernel_rfl) (by decide) (fun K hK => ?_)
            refine value_ (w1 := ?_) (v := ?_) (by rfl) rfl ?_ ?_
            rotate_left 2
            · go_simp
              constructor
              · rfl
              · rfl
            refine hK.out _ _ ⟨(Below.cell (below_alloc (Below.refl _ _) _) (World.block_lt_of_cell? _ _ hHeld.1)).trans hHeld.1, (Below.cell (below_alloc (Below.refl _ _) _) (World.block_lt_of_cell? _ _ hHeld.2.1)).trans hHeld.2.1, HS.out.frz (below_alloc (Below.refl _ _) _) 0⟩ (fun hHeld => ?_)
            clear hK K
            refine norm_ (a' := ?_) ?_ ?_
            rotate_left
            · show Act.put _ (some 87) _ = _
              simp only [Act.put, List.setIfInBounds_toArray, List.set_cons_zero, List.set_cons_succ, i64_w, i32_w]
              rfl
            refine one_ (i := 7) (N := some 88) #[true, true, true, true, true, true, true, true, false, false] rfl rfl (by kernel_rfl) (by decide) (fun K hK => ?_)
            refine Kd.R_append_step (Kd.int .i64) (w0 := w_d) w.heap.size (by rfl) (.tmp 86) (.tmp 87) 36 3 (.int .i64 0) 8 rfl Try.underlying36 info3 rfl (by decide) (by omega) ve el 1 [.int .i64 1] (fun k => oki k ∨ w_d.heap.size ≤ k) (fun _ => False) rfl rfl ?aP (fun _ hk => hk.elim) ?aF ?aO ?aB ?aS ?aL ?_
            (case aP => exact rfl)
            (case aB => exact Below.refl _ _)
            (case aF => exact fun k hk => .inr hk)
            (case aO => exact Kd.R_mono LD.out.1 (fun k hk => .inl hk))
            (case aS => exact HS.out.size)
            (case aL => have := CL.out; omega)
            intro v88 w88 ho hb hg hat
            obtain ⟨A88, c88, e88⟩ := Kd.R_slice ho
            subst e88
            have HR2 := Aside0.mk ho
            have HG := Aside0.mk hg
            clear ho hb hg hat
            refine hK.out _ _ ⟨(HS.out.c4r LD.out.1 HG.out LD.out.2.1).1, (HS.out.c4r LD.out.1 HG.out LD.out.2.1).2.1, (HS.out.c4r LD.out.1 HG.out LD.out.2.1).2.2⟩ (fun hHeld => ?_)
            clear hK K
            refine norm_ (a' := ?_) ?_ ?_
            rotate_left
            · show Act.put _ (some 88) _ = _
              simp only [Act.put, List.setIfInBounds_toArray, List.set_cons_zero, List.set_cons_succ, i64_w, i32_w]
              rfl
            refine pure_ (i := 8) (N := some 89) (v := ?_) (a' := ?_) #[true, true, true, true, true, true, true, true, true, false] rfl rfl (by kernel_rfl) (fun _ _ _ h => h) (Or.inl ⟨by rfl, ?_⟩) ?_ ?_
            rotate_left
            · intro w'
              go_simp
              with_reducible rfl
            rotate_left
            · simp only [Act.put, List.setIfInBounds_toArray, List.set_cons_zero, List.set_cons_succ, i64_w, i32_w]
              rfl
            refine last_ (i := 9) (N := none) #[true, true, true, true, true, true, true, true, true, true] rfl rfl (by kernel_rfl) (by decide) (fun K hK => ?_)
            refine skip_ (w1 := ?_) (by rfl) rfl ?_ ?_
            rotate_left
            · go_simp
              rfl
            refine hK.out _ _ ?_
            clear hK K
            refine done_ (by kernel_rfl) ?_
            have hx_ := HS.out.swap 0 (by omega) (by omega) (show Kd.R (Kd.int .i64) 3 w_d w.heap.size oki ve (ys.getD 0 []) from by rw [← HEL.out]; exact LD.out.1) LD.out.2.2.2.1 LD.out.2.2.2.2 HG.out HR2.out
            obtain ⟨w_y, hwy⟩ : ∃ W_, W_ = w88.setCell ⟨gr, 0, none⟩ (.slice A88 (el.length + 1) c88) := ⟨_, rfl⟩
            have HX : Aside0 (spec_l1Cur_torus.End w0 w w_y g g2 g4 d ca cs (.slice (some ⟨gr, 0, none⟩) ys.length cr) (ys.set 0 (el ++ [1]))) := ⟨by rw [hwy, ← (show (el ++ [1]).length = el.length + 1 by simp)]; exact hx_⟩
            rw [← hwy]
            clear hx_ hwy HS LD HG HR2 hHeld
            have hc4 := HX.out.c4.1.1
            have hf4 := HX.out.c4.1.2
            have hc2 := HX.out.c4.2.1
            have hf2 := HX.out.c4.2.2
            go_wp2
            refine bodyPost_ret (results_cell_row rfl _ _ g2 27 #[.slice (some ⟨gr, 0, none⟩) ys.length cr] (0, 0) _ rfl HX.out.out.1 hu27 rfl (by kernel_rfl)) rfl ?_
            exact ⟨_, rfl, HX.out.out.2.1, HX.out.out.2.2.1, HX.out.out.2.2.2.1, HX.out.out.2.2.2.2.1⟩
          · rw [if_neg e2] at H
            have e2b : (c1 == 2) = false := beq_eq_false_iff_ne.mpr e2
            clear e2
            simp only [Option.some.injEq, Prod.mk.injEq] at H
            obtain ⟨rfl, rfl, rfl⟩ := H
            obtain ⟨Ao, co, eo⟩ := Kd.S_slice HS.out.rows
            subst eo
            have hc2 := HS.out.c2.1
            have hf2 := HS.out.c2.2
            go_wp2_with (first
      | ((with_reducible refine gate_callee (f := 36) rfl ?_); refine goesL_ (some 57) rfl rfl Try.func36 (by kernel_rfl) rfl #[.pointer (some ⟨g, 0, none⟩), .int .i64 16] rfl (by (try simp only [List.map_toArray, List.map_cons, List.map_nil]); first | done | rfl) ?_; refine (spec_l1Cur_pick.calls g d ax sx 16 c1 ca cs w0 _ HS.out.is HS.out.bel C1.out).mono ?_; rintro e w_57 ⟨rfl, hi_, hb_, hk_⟩; refine ⟨_, rfl, ?_⟩; have n0_ := Aside0.mk (HS.out.call hi_ hb_ hk_); clear HS hi_ hb_ hk_; have HS := n0_; clear n0_; (try clear hc4); (try clear hf4); have hc4 := HS.out.c4.1; have hf4 := HS.out.c4.2; (try clear hc2); (try clear hf2); have hc2 := HS.out.c2.1; have hf2 := HS.out.c2.2))
            have HX := Aside0.mk HS.out.end_
            refine bodyPost_ret (results_cell_row rfl _ _ g2 27 #[.slice Ao ys.length co] (0, 0) _ rfl HX.out.out.1 hu27 rfl (by kernel_rfl)) rfl ?_
            exact ⟨_, rfl, HX.out.out.2.1, HX.out.out.2.2.1, HX.out.out.2.2.2.1, HX.out.out.2.2.2.2.1⟩

end Go.Proofs.Ytnbflbkneeageaa.PFnTori
