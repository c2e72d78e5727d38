/- What an argument that is a struct of rows of ints reads as, at this seat's program: the list of its rows; of every such argument. -/
import Derived.Test.YtfbafdlgnjkioaaProg
import Derived.Deep.Matrix
import Derived.ChangeSame
import Derived.Test.YtfbafdlgnjkioaaWWords
namespace Go.Proofs.Ytfbafdlgnjkioaa.Torus
open Go Go.RowKit Go.Deep Go.ChangeShapes Go.WideShapes Go.Proofs.YtfbafdlgnjkioaaW.PrintWords

theorem one_cell (cs : Array Value) (h : cs.size = 1) : ∃ c, cs = #[c] := by
  obtain ⟨L⟩ := cs
  have h1 : L.length = 1 := h
  obtain ⟨c, rfl⟩ := List.length_eq_one_iff.mp h1
  exact ⟨c, rfl⟩
section
variable {H : Type} {enc : TypeId × Value → H} {P : Program} {w : World} {base : Nat} {held : Bool}
theorem rows_C {t e q : TypeId} {fuel : Nat} {cs : List Value} {x : DataW H × List MemPlace} (ht : P.underlying t = some (.slice e)) (he : P.underlying e = some (.slice q)) (hq : P.underlying q = some (.int .i64))
    (ce : P.cellsOf e = 1) (cq : P.cellsOf q = 1) (h : DataW.trod enc P w base (fun _ => true) held fuel t cs = some x) :
    ∃ (A : Option Addr) (cap : Nat) (l : List (List Int)), cs = [.slice A l.length cap] ∧ l.length ≤ cap ∧ cap ≤ maxLen ∧ Kd.C (Kd.slice q (Kd.int .i64)) w A l.length l ∧ ∀ row ∈ l, row.length ≤ maxLen ∧ ∀ x ∈ row, (Lit.int .i64 x).wf = true := by
  rcases open_int_rows ht he hq ce cq h with ⟨rfl, _⟩ | ⟨a, len, cap, A, L, C, Z, rfl, _, hl, hm, _, hr⟩
  · exact ⟨none, 0, [], rfl, Nat.le_refl _, Nat.zero_le _, ⟨rfl, by simp, fun h => absurd h (Nat.lt_irrefl _)⟩, fun row h => by cases h⟩
  · have hlen : ((List.range len).map fun r => (Z r).take (L r)).length = len := by simp
    have hmax : maxLen ≤ 9223372036854775807 := by unfold maxLen; omega
    refine ⟨some a, cap, (List.range len).map fun r => (Z r).take (L r), by rw [hlen], by rw [hlen]; exact hl, hm, ⟨rfl, by rw [hlen]; omega, fun _ => ⟨a, rfl, fun j p hj => ?_⟩⟩, fun row hrow => ?_⟩
    · obtain ⟨hj1, hj2⟩ := List.getElem?_eq_some_iff.mp hj
      rw [hlen] at hj1
      obtain ⟨c1, c2, c3, c4, c5, c6, c7⟩ := hr j (by omega)
      have hp : p = (Z j).take (L j) := by rw [← hj2]; simp
      have hpl : p.length = L j := by rw [hp, List.length_take]; omega
      refine ⟨[.slice (A j) p.length (C j)], rfl, ⟨A j, C j, rfl, by omega, ?_⟩, fun i u hu => ?_⟩
      · refine Kd.C_of_reads (d := (0 : Int)) (h1 := fun _ => rfl) ⟨rfl, by omega, fun hn => ?_⟩
        cases hA : A j with
        | none => have := c6 hA; omega
        | some a' =>
          refine ⟨a', rfl, fun i hi => ?_⟩
          rw [(c7 a' hA).2 i (by omega)]
          have : p.getD i 0 = (Z j).getD i 0 := by rw [hp, List.getD_eq_getElem?_getD, List.getD_eq_getElem?_getD, List.getElem?_take_of_lt (by omega)]
          rw [this]
      · match i, hu with
        | 0, hu =>
          simp only [List.getElem?_cons_zero, Option.some.injEq] at hu
          subst hu
          rw [hpl]
          show w.cell? (a.add (j * 1 + 0)) = _
          rw [Nat.mul_one, Nat.add_zero]
          exact c1
    · obtain ⟨j, hj, rfl⟩ := List.mem_map.mp hrow
      obtain ⟨_, c2, c3, c4, c5, _⟩ := hr j (by have := List.mem_range.mp hj; omega)
      exact ⟨by rw [List.length_take]; omega, fun x hx => c5 x (List.mem_of_mem_take hx)⟩
end
end Go.Proofs.Ytfbafdlgnjkioaa.Torus
