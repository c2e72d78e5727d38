/- A map from plain keys to bools that a call makes for itself and uses as a set: its laws, and those of its operations; no condition. -/
import Derived.Maps.OwnSet
import Derived.DeepKeys4
import Derived.Test.YtfbafdlgnjkioaaProg
import Derived.Test.YtfbafdlgnjkioaaWMore
import Derived.Test.YtfbafdlgnjkioaaWGuard
namespace Go.Proofs.Ytfbafdlgnjkioaa.MapSets
open Go Go.RowKit Go.Maps Go.Proofs.YtfbafdlgnjkioaaW.PrintWords

/-- Block b is a map of bools that is used as a set: S tells what is in it, z how many. -/
def KSet (P : Program) (k e : TypeId) (w : World) (b n : Nat) (S : Lit → Bool) (z : Nat) : Prop :=
  ∃ D : DataW Unit, w.ownsMap P k (plainElem P e) b n D ∧ (∀ kl, D.atKey kl (.lit (.bool false)) = .lit (.bool (S kl))) ∧ (∀ kl, has D kl = S kl) ∧ Maps.size D = z
open Classical in
noncomputable def addS (S : Lit → Bool) (kl : Lit) : Lit → Bool := fun l => if l = kl then true else S l
section
variable {P : Program} {k e t : TypeId} {w : World} {b n z : Nat} {S : Lit → Bool}
theorem KSet.made (w : World) : KSet P k e (w.alloc (.map #[] 0)) w.heap.size 0 (fun _ => false) 0 :=
  ⟨.map [], World.ownsMap_made _ _ _ _, fun _ => rfl, fun _ => rfl, rfl⟩
theorem KSet.mono (h : KSet P k e w b n S z) {n' : Nat} (hn : n ≤ n') : KSet P k e w b n' S z := by
  obtain ⟨D, h1, h2⟩ := h; exact ⟨D, h1.mono hn, h2⟩
theorem KSet.lt (h : KSet P k e w b n S z) : b < w.heap.size := by obtain ⟨D, h1, _⟩ := h; exact h1.lt
theorem KSet.kept {w' : World} {row : Option Nat} (h : KSet P k e w b n S z) (hg : w.grownBy w' row) (hne : some b ≠ row) : KSet P k e w' b n S z := by
  obtain ⟨D, h1, h2⟩ := h; exact ⟨D, h1.kept hg hne, h2⟩
theorem KSet.alloc (h : KSet P k e w b n S z) (o : Obj) : KSet P k e (w.alloc o) b n S z := by
  obtain ⟨D, h1, h2⟩ := h; exact ⟨D, h1.alloc o, h2⟩
theorem KSet.drew (h : KSet P k e w b n S z) : KSet P k e w.drew b n S z := by
  obtain ⟨D, h1, h2⟩ := h; exact ⟨D, h1, h2⟩
theorem KSet.drewN (h : KSet P k e w b n S z) (m : Nat) : KSet P k e (w.drewN m) b n S z := by
  obtain ⟨D, h1, h2⟩ := h
  obtain ⟨es, clock, hb, r⟩ := h1
  exact ⟨D, ⟨es, clock, by rw [(pw_below_drewN (Below.refl _ _) m).block b (Array.getElem?_eq_some_iff.1 hb).1]; exact hb, r⟩, h2⟩
/-- The map stays what it is while nothing old is written. -/
theorem KSet.below (h : KSet P k e w b n S z) {w' : World} (hb : Below w.heap.size w w') : KSet P k e w' b n S z := by
  obtain ⟨D, ⟨es, clock, h0, r⟩, h2⟩ := h
  exact ⟨D, ⟨es, clock, by rw [hb.block b (Array.getElem?_eq_some_iff.1 h0).1]; exact h0, r⟩, h2⟩
/-- A row of cells and a map lie in different blocks. -/
theorem KSet.apart (h : KSet P k e w b n S z) {v : Value} (hv : ∀ g, v.ownBlock = some g → ∃ cells q, w.heap[g]? = some (.cells cells q (0, 0))) : some b ≠ v.ownBlock := by
  intro he
  obtain ⟨D, ⟨es, clock, h0, _⟩, _⟩ := h
  obtain ⟨cells, q, hq⟩ := hv b he.symm
  rw [h0] at hq
  cases hq
theorem KSet.update (h : KSet P k e w b n S z) (K : Keyed P k) (ht : P.underlying t = some (.map k e)) (he : P.underlying e = some .bool) (hn : n < maxLen) {key : Value} {kl : Lit} (hkey : keyOf P k key = some kl) :
    ∃ w', (Instr.mapUpdate t (.map (some b)) key (.bool true)).run P w = .ok () w' ∧ KSet P k e w' b (n + 1) (addS S kl) (if S kl then z else z + 1) ∧ w.grownBy w' (some b) := by
  obtain ⟨D, h1, h2, h3, h4⟩ := h
  obtain ⟨w', hr, h1', hg⟩ := h1.update K ht hn hkey (plainElem_bool he true)
  refine ⟨w', hr, ⟨_, h1', fun l => ?_, fun l => ?_, ?_⟩, hg⟩
  · by_cases hl : l = kl
    · subst hl
      rw [atKey_put_same h1.isMap (K.key hkey)]
      simp [addS]
    · rw [atKey_put_other hl, h2 l]
      simp [addS, hl]
  · by_cases hl : l = kl
    · subst hl
      rw [has_put_same h1.isMap (K.key hkey)]
      simp [addS]
    · rw [has_put_other hl, h3 l]
      simp [addS, hl]
  · rw [size_put (h1.tidy K), h3 kl, h4]
theorem KSet.lookup (h : KSet P k e w b n S z) (K : Keyed P k) (ht : P.underlying t = some (.map k e)) (he : P.underlying e = some .bool) (hz : (zeroValue e).run P w = .ok (.bool false) w) {key : Value} {kl : Lit} (hkey : keyOf P k key = some kl) :
    (Instr.lookup t (.map (some b)) key false).run P w = .ok (.bool (S kl)) w := by
  obtain ⟨D, h1, h2, h3, h4⟩ := h
  obtain ⟨v, ps, hr, hv⟩ := h1.lookup K ht hz (plainElem_bool he false) hkey
  rw [h2 kl] at hv
  unfold plainElem at hv
  rw [he] at hv
  cases v <;> simp at hv
  rw [hr, hv.1]
variable {ops : Array Oper} {rest : List Oper} {o : Oper} {a : Act} {Q : Exit → Act → World → Prop}
/-- The operation reads a map, or writes into one (or into a literal one). -/
theorem gate_lookup {m x : Operand} (_ho : o.op = .lookup t m x false) (h : wpList P ops Q (o :: rest) a w) : wpList P ops Q (o :: rest) a w := h
theorem gate_insert {m x v : Operand} (_ho : o.op = .insert t m x v) (h : wpList P ops Q (o :: rest) a w) : wpList P ops Q (o :: rest) a w := h
theorem gate_update {m x v : Operand} (_ho : o.op = .mapUpdate t m x v) (h : wpList P ops Q (o :: rest) a w) : wpList P ops Q (o :: rest) a w := h
theorem lookup_op (hg : o.guard = none) (m x : Operand) (hop : o.op = Op.lookup t m x false) (K : Keyed P k) (ht : P.underlying t = some (.map k e)) (he : P.underlying e = some .bool) (hz : (zeroValue e).run P w = .ok (.bool false) w)
    (hm : a.eval m = .map (some b)) (h : KSet P k e w b n S z) (key : Value) (kl : Lit) (hx : a.eval x = key) (hkey : keyOf P k key = some kl)
    (hK : wpList P ops Q rest (a.put o.dst (.bool (S kl))) w) : wpList P ops Q (o :: rest) a w := by
  refine wpList_plain hg fun K' hK' => ?_
  have hrun := h.lookup K ht he hz hkey
  unfold Oper.wp
  simp [execOp, hop, hm, hx, hrun, Result.andThen]
  exact hK' _ _ hK
theorem update_op (hg : o.guard = none) (m x v : Operand) (hop : o.op = Op.mapUpdate t m x v ∨ o.op = Op.insert t m x v) (K : Keyed P k) (ht : P.underlying t = some (.map k e)) (he : P.underlying e = some .bool)
    (hm : a.eval m = .map (some b)) (h : KSet P k e w b n S z) (hn : n < maxLen) (key : Value) (kl : Lit) (hx : a.eval x = key) (hv : a.eval v = .bool true) (hkey : keyOf P k key = some kl)
    (hK : ∀ w', KSet P k e w' b (n + 1) (addS S kl) (if S kl then z else z + 1) → w.grownBy w' (some b) → wpList P ops Q rest (a.put o.dst undef) w') : wpList P ops Q (o :: rest) a w := by
  refine wpList_plain hg fun K' hK' => ?_
  obtain ⟨w', hrun, h', hgr⟩ := h.update K ht he hn hkey
  unfold Oper.wp
  rcases hop with hop | hop <;>
  · simp [execOp, hop, hm, hx, hv, hrun, Result.andThen]
    exact hK' _ _ (hK w' h' hgr)
theorem len_op (hg : o.guard = none) (m : Operand) (hop : o.op = Op.call { callee := Callee.builtin Builtin.len, args := #[m], argTypes := #[t] }) (ht : P.underlying t = some (.map k e))
    (hm : a.eval m = .map (some b)) (h : KSet P k e w b n S z) (hK : wpList P ops Q rest (a.put o.dst (.int .i64 (z : Int))) w) : wpList P ops Q (o :: rest) a w := by
  obtain ⟨D, h1, h2, h3, h4⟩ := h
  exact wpList_len_own w hg m t hop k e ht _ b n D hm h1 (by rw [h4]; exact hK)
end
theorem tmod_wf {x y : Int} (h : (Lit.int .i64 x).wf = true) : (Lit.int .i64 (Int.tmod x y)).wf = true := by
  have hx : -9223372036854775808 ≤ x ∧ x ≤ 9223372036854775807 := by
    simp only [Lit.wf, IntKind.min, IntKind.max, IntKind.signed, IntKind.bits, Bool.and_eq_true, decide_eq_true_eq, if_true] at h
    omega
  have hn : (Int.tmod x y).natAbs ≤ x.natAbs := by rw [Int.natAbs_tmod]; exact Nat.mod_le _ _
  have hs : (0 ≤ x → 0 ≤ Int.tmod x y) := fun h => Int.tmod_nonneg _ h
  have hs2 : x ≤ 0 → Int.tmod x y ≤ 0 := fun h => by
    have h1 := Int.tmod_nonneg y (a := -x) (by omega)
    rw [Int.neg_tmod] at h1
    omega
  simp only [Lit.wf, IntKind.min, IntKind.max, IntKind.signed, IntKind.bits, Bool.and_eq_true, decide_eq_true_eq, if_true]
  omega
/-- What a pair of whole numbers reads as, as a key. -/
def pairLit (a b : Int) : Lit := .string (keyBytes [.int .i64 a, .int .i64 b])
theorem pair_key {P : Program} {t e : TypeId} (ht : P.underlying t = some (.array 2 e)) (he : P.underlying e = some (.int .i64)) (hk : P.keyType t = true) (hc : P.cellsOf t = 2) (hce : P.cellsOf e = 1) (hs : 1 ≤ P.types.size)
    {a b : Int} (ha : (Lit.int .i64 a).wf = true) (hb : (Lit.int .i64 b).wf = true) : keyOf P t (.agg #[.int .i64 a, .int .i64 b]) = some (pairLit a b) := by
  obtain ⟨m, hm⟩ : ∃ m, P.types.size = m + 1 := ⟨P.types.size - 1, by omega⟩
  unfold keyOf
  rw [ht]
  have hf : (Value.agg #[.int .i64 a, .int .i64 b]).formed P t = true := by simp [Value.formed, ht, hc]
  have hr : List.range 2 = [0, 1] := rfl
  simp [hk, hf, hm, Program.keyLits, ht, he, hc, hce, Value.cells, ha, hb, hr, pairLit]
theorem pair_inj {P : Program} {t e : TypeId} (K : Keyed P t) (ht : P.underlying t = some (.array 2 e)) (he : P.underlying e = some (.int .i64)) (hk : P.keyType t = true) (hc : P.cellsOf t = 2) (hce : P.cellsOf e = 1) (hs : 1 ≤ P.types.size)
    {a b c d : Int} (ha : (Lit.int .i64 a).wf = true) (hb : (Lit.int .i64 b).wf = true) (hc' : (Lit.int .i64 c).wf = true) (hd : (Lit.int .i64 d).wf = true) (h : pairLit a b = pairLit c d) : a = c ∧ b = d := by
  have h1 := pair_key ht he hk hc hce hs ha hb
  have h2 := pair_key ht he hk hc hce hs hc' hd
  rw [h] at h1
  have := K.inj h1 h2
  simpa using this
/-- A set of whole numbers that are not less than nought, as the bits of one number. -/
def BSet (P : Program) (k e : TypeId) (w : World) (b n : Nat) (m : Nat) : Prop := ∃ S z, KSet P k e w b n S z ∧ ∀ c : Int, S (.int .i64 c) = (decide (0 ≤ c) && m.testBit c.toNat)
theorem bset_add {S : Lit → Bool} {m : Nat} (h : ∀ c : Int, S (.int .i64 c) = (decide (0 ≤ c) && m.testBit c.toNat)) {c : Int} (hc : 0 ≤ c) : ∀ d : Int, addS S (.int .i64 c) (.int .i64 d) = (decide (0 ≤ d) && (m ||| (1 <<< c.toNat)).testBit d.toNat) := by
  intro d
  unfold addS
  rw [Nat.testBit_or, Nat.testBit_shiftLeft]
  by_cases e : d = c
  · subst e
    simp [hc]
  · rw [if_neg (by simp [e]), h d]
    by_cases hd : 0 ≤ d
    · have : ¬ (d.toNat = c.toNat) := by omega
      by_cases hle : c.toNat ≤ d.toNat
      · have h1 : d.toNat - c.toNat ≠ 0 := by omega
        obtain ⟨q, hq⟩ : ∃ q, d.toNat - c.toNat = q + 1 := ⟨d.toNat - c.toNat - 1, by omega⟩
        simp [hd, hle, hq, Nat.testBit_succ]
      · simp [hd, hle]
    · simp [hd]
end Go.Proofs.Ytfbafdlgnjkioaa.MapSets
