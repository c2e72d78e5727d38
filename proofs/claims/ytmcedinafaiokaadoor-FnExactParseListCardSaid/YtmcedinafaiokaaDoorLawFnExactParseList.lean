/- The tied card of the law FnExactParseList out of its pure statement and its walk: for every argument the call answers true and leaves its argument as it was. Condition: the listed variables of the library hold what the program lays in them (the card ties that to the text). -/
import Derived.Test.YtmcedinafaiokaaDoorRows
import Derived.Test.YtmcedinafaiokaaDoorPFnExactParseListx3
import Derived.Test.YtmcedinafaiokaaDoorPureFnExactParseList
import Derived.Test.YtmcedinafaiokaaDoorCards
import Derived.Test.YtmcedinafaiokaaDoorTie
import Derived.Test.YtmcedinafaiokaaDoorLaidA
import Derived.WalkKit
import Derived.Shelf.Vars
import Derived.HandedShaped
import Derived.Lay
import Derived.LaidOnce
import Derived.LaidMore
import Derived.LaidLaws
import Derived.Lib.LaidTab
import Derived.Stop.Joined
import Derived.Handed
import Derived.SevenTiedAt
import Derived.Stop.LaidErr
import Derived.ProofKit
import Derived.OpenShut
import Derived.ShutString
import Derived.ChangeOld
import Derived.Below
import Derived.SizedLaws
namespace Go.Proofs.YtmcedinafaiokaaDoor.fnExactParseList
open Go.ChangeShapes Go.WideShapes Go.ChangeAt Go.RowKit
open Go.ChangeMaps (open_string shut_string)
set_option linter.unusedVariables false
theorem own : ownKnob Tryd.prog.godebug = none := by kernel_rfl
def laidL : List (String × DataW Unit) := [("math/bits.deBruijn32tab", Rows.laid_math_bits_deBruijn32tab), ("math/bits.deBruijn64tab", Rows.laid_math_bits_deBruijn64tab), ("internal/strconv.uint64pow10", Rows.laid_internal_strconv_uint64pow10), ("unicode/utf8.acceptRanges", Rows.laid_unicode_utf8_acceptRanges), ("strconv.ErrRange", Rows.laid_strconv_ErrRange), ("strconv.ErrSyntax", Rows.laid_strconv_ErrSyntax), ("unicode/utf8.first", Rows.laid_unicode_utf8_first)]
theorem lay_met (os : Os) (args : Array Value) : laidMetH Tryd.prog laidL ((World.laidAll Tryd.prog os laidL).forCall (fun _ _ => 0) ⟨#[], args, []⟩).memory := by
  rw [MakeChecks.laidMetH_plain _ _ _ (by kernel_rfl)]
  exact laidMet_laidAll _ (by kernel_rfl) (by kernel_rfl)
theorem tab_of {W : World} (h : laidMetH Tryd.prog laidL W) : Go.Proofs.YtmcedinafaiokaaDoor.Laid.T W := by
  rw [MakeChecks.laidMetH_plain _ _ _ (by kernel_rfl)] at h
  exact Lib.tabIs_of_head Go.Proofs.YtmcedinafaiokaaDoor.Laid.gTab (by kernel_rfl) Tryd.underlying86 Tryd.underlying69 (by kernel_rfl) (by kernel_rfl) (show laidMet Tryd.prog (("internal/strconv.uint64pow10", Lib.tabData .u64 Lib.pow10Tab) :: _) W from (laidMet.tail (laidMet.tail h)))
theorem starE : "*" ++ "errors.errorString" = "*errors.errorString" := by decide
theorem rowP (u : TypeId) (h : Tryd.prog.typeName? 3 u = some "*errors.errorString") : u = 98 :=
  typeName_ptr_named (nm := "errors.errorString") (by rw [starE]; kernel_rfl) (by kernel_rfl) (by decide) u (by rw [starE]; exact h)
theorem gSynType : (Tryd.prog.globals[1]?).map (·.type) = some 45 := by kernel_rfl
theorem gRanType : (Tryd.prog.globals[2]?).map (·.type) = some 45 := by kernel_rfl
theorem cellsP : Tryd.prog.cellsOf 100 = 1 := by kernel_rfl
theorem cellsS : Tryd.prog.cellsOf 9 = 1 := by kernel_rfl
theorem all_of {W : World} (h0 : laidMetH Tryd.prog laidL W) (hm : ∃ m : Int, W.cell? ⟨0, 0, none⟩ = some (.int .i64 m)) : Go.Proofs.YtmcedinafaiokaaDoor.Laid.A W := by
  have hT := tab_of h0
  rw [MakeChecks.laidMetH_plain _ _ _ (by kernel_rfl)] at h0
  have h4 := laidMet.tail (laidMet.tail (laidMet.tail (laidMet.tail h0)))
  obtain ⟨a1, s1, hv1, _, _, _⟩ := laid_sentinel h4 Go.Proofs.YtmcedinafaiokaaDoor.Laid.gRan gRanType Tryd.underlying45 rowP Tryd.underlying98 Tryd.underlying100 rfl rfl Tryd.underlying9 cellsP cellsS
  obtain ⟨a2, s2, hv2, _, _, _⟩ := laid_sentinel (laidMet.tail h4) Go.Proofs.YtmcedinafaiokaaDoor.Laid.gSyn gSynType Tryd.underlying45 rowP Tryd.underlying98 Tryd.underlying100 rfl rfl Tryd.underlying9 cellsP cellsS
  exact ⟨hT, hm, ⟨_, _, hv2⟩, _, _, hv1⟩
set_option maxRecDepth 100000 in
theorem lifted (os : Os) (started : os.Started) (H : Type) (enc : TypeId × Value → H) :
    ReturnsInHanded {} Tryd.checked os 4 .any (fun w args => (Rows.fnExactParseListSpec.pre enc Tryd.prog Tryd.f4 Rows.fnExactParseListRow.domain false w args ∧ laidMetH Tryd.prog laidL w) ∧ sizedMet enc Tryd.prog Tryd.f4 (OpenSpec.ofChange Rows.fnExactParseListSpec) false w args) (Rows.fnExactParseListSpec.post enc Tryd.prog Tryd.f4 false true false false) := by
  refine returnsInHanded_of_calls own started (by kernel_rfl)
    (ChangeSpec.witness_shaped (enc := enc) (C := Tryd.checked) (os := os) (X := fun w _ => laidMetH Tryd.prog laidL w) false (World.laidAll Tryd.prog os laidL) #[.string ByteArray.empty] 8 (World.laidAll_os _ _ _)
      (World.shaped_of_ZipB (by kernel_rfl) (by kernel_rfl)) (by kernel_rfl) (by kernel_rfl) (by kernel_rfl) (lay_met os _)) ?_
  intro w0_ tape i_ _ hsh _ hok hpre _
  obtain ⟨_, _, _, fn', hfn', _, _, _, _, hval00⟩ := hok
  obtain rfl : fn' = Tryd.f4 := Option.some.inj (hfn'.symm.trans Tryd.func4)
  obtain ⟨⟨⟨ds, gs, before, hw0, hcnd⟩, hx⟩, hz⟩ := hpre
  have hm := Go.Proofs.cell_of_shapedOpen_int (P := Tryd.prog) (g := 0) (t := 3) (zero := #[.int .i64 0]) hsh (of_decide_eq_true (by kernel_rfl)) (by kernel_rfl) rfl (by kernel_rfl) (by kernel_rfl) Tryd.underlying3
  have hx : laidMetH Tryd.prog laidL (w0_.forCall tape i_).memory := hx
  have hx2 : laidMetH Tryd.prog laidL (w0_.forCall tape i_) := laidMetH.of_heap (w := (w0_.forCall tape i_).memory) (w' := w0_.forCall tape i_) rfl hx
  have hLd := all_of hx2 hm
  have hW0 := DataW.Whole.of_heap (w' := w0_.forCall tape i_) (by rfl) hw0
  have hszW := hz.weights hw0
  suffices H : Calls Tryd.prog 4 i_.args (w0_.forCall tape i_) (fun e W' => ∃ v, e = .returned v ∧ Rows.fnExactParseListSpec.post enc Tryd.prog Tryd.f4 false true false false (w0_.forCall tape i_) i_.args v W') from
    H.mono fun e W' ⟨v, he, hp⟩ => by subst he; exact ChangeSpec.post_blind hp
  generalize w0_.forCall tape i_ = W at hLd hW0 hval00 ⊢
  generalize i_.args = args at hW0 hval00 ⊢
  have hW := hW0
  have hval0 := hval00
  have hsz0 := hszW
  have hsz : (DataW.weightsEach Tryd.prog (Tryd.f4.params.toList ++ Rows.fnExactParseListSpec.plain.varTypes Tryd.prog) (ds ++ gs)).all (· ≤ reachBytes) = true := hsz0
  have hval : ∀ (j : Nat) t v, Tryd.f4.params[j]? = some t → args[j]? = some v → Value.okWide Tryd.prog W .any w0_.heap.size t v := hval0
  have hW' := hW
  obtain ⟨p, q, hA0, hV, rfl, hfz, hnd⟩ := hW
  have hA : DataW.TrodAll enc Tryd.prog W 0 (fun _ => true) true Tryd.f4.params.toList args.toList ds p := hA0
  rw [Tryd.params4] at hA hval hsz
  obtain ⟨v0, vs0, d0, ds0, p0, q0, hargs, rfl, rfl, h0, r0⟩ := trodAll_cons hA
  obtain ⟨rfl, rfl, rfl⟩ := trodAll_nil r0
  obtain rfl : args = #[v0] := by cases args; simp_all
  obtain ⟨rfl, rfl⟩ := trodVars_none hV
  obtain ⟨a0, rfl, rfl, rfl, y0⟩ := open_string Tryd.underlying9 (hval 0 9 v0 rfl rfl) h0
  have w0 : a0.size ≤ 140737488351232 := by
    have z := sized_string hsz (j := 0) (t := 9) rfl rfl
    rw [Array.length_toList] at z
    exact z
  clear hA0 hval0 hsz0 hsz
  refine (PFnExactParseList.laws_FnExactParseList.walk Pure.FnExactParseList a0 W w0 hLd).mono fun e W' ⟨he, bel⟩ => ?_
  subst he
  exact ⟨_, rfl, _, _, _, [], _, [], hW', trodAll_mk1 (shut_bool Tryd.underlying4 _), (trodAll_cons_mk (shut_string Tryd.underlying9 y0) trodAll_mk0), rfl, bel.frame _, fun h => by cases h⟩
theorem over : Rows.fnExactParseListRow.holds Tryd.pinned (OpenSpec.ofChange Rows.fnExactParseListSpec) :=
  OpenClaim.holds_of_wide 4 Tryd.f4 rfl rfl rfl rfl rfl rfl rfl ⟨rfl, rfl, rfl, rfl, rfl⟩ rfl rfl rfl rfl rfl (by kernel_rfl) Tryd.func4 (by kernel_rfl)
    (of_decide_eq_true (by kernel_rfl)) (by unfold Func.isWrapper; first | (rw [if_pos (by decide +kernel)]; kernel_rfl) | (rw [if_neg (by decide +kernel)]; exact ⟨rfl, rfl⟩))
    (fun os started H enc _ => lifted os started H enc)
theorem proved : Rows.FnExactParseListSaid := over
end Go.Proofs.YtmcedinafaiokaaDoor.fnExactParseList
namespace Go.Proofs.YtmcedinafaiokaaDoor
/-- The tied card, for the claim. -/
theorem fnExactParseList_holds : Rows.FnExactParseListCardSaid :=
  Claim7.holds_tied_plain_at .later [] [.data, .data, .data, .data, .sentinel, .sentinel, .pinned] true (true, "70785dffc5188a78595c0b55a3fdea969b682a53db9e5130c76748810c05fbfc") true
    fnExactParseList.proved (fun _ h => by cases h) (by kernel_rfl) (fun _ h => by cases h) fnExactParseList_row_tie rfl ⟨rfl, rfl⟩ (by kernel_rfl) rfl
    (fun f fn hf hfn => by
      obtain rfl : f = 4 := Option.some.inj ((show Tryd.prog.funcNamed "loop.example/g01104/laws.FnExactParseList" = some 4 by kernel_rfl).symm.trans hf) |>.symm
      obtain rfl : fn = Tryd.f4 := (Option.some.inj (Tryd.func4.symm.trans hfn)).symm
      exact ⟨by kernel_rfl, fun j t ht => by
        rw [Tryd.params4] at ht
        have hm : t ∈ [9] := by simpa using Array.mem_of_getElem? ht
        have hall : ([9].all fun u => !Tryd.prog.wantsStandIn u) = true := by kernel_rfl
        exact (show Tryd.prog.wantsStandIn t = false by simpa using List.all_eq_true.1 hall t hm)⟩)
    (by kernel_rfl)
end Go.Proofs.YtmcedinafaiokaaDoor
