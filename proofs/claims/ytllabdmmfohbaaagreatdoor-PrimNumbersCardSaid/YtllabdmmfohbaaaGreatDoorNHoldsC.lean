/- PrimNumbers: for every three ints the law answers true, and they read behind the call as they read before. Conditions: the package-level variable effigy/oop.spares holds what the program's text lays in it (the card ties this to the text). -/
import Derived.Test.YtllabdmmfohbaaaGreatDoorGX46
import Derived.Test.YtllabdmmfohbaaaGreatDoorGX10
import Derived.Test.YtllabdmmfohbaaaGreatDoorGX00
import Derived.Test.YtllabdmmfohbaaaGreatDoorGX01
import Derived.Test.YtllabdmmfohbaaaGreatDoorTie
import Derived.Test.YtllabdmmfohbaaaGreatDoorCards
set_option linter.unusedVariables false
set_option linter.unusedSimpArgs false
namespace Go.Proofs.YtllabdmmfohbaaaGreatDoor
open Go Go.ChangeShapes Go.WideShapes Go.ChangeAt Go.RowKit Limb
theorem numbers_own : ownKnob Tryz.prog.godebug = none := by kernel_rfl
theorem numbers_laid : laidOutB Tryz.prog = true := by kernel_rfl
set_option maxRecDepth 100000 in
theorem numbers_lifted (os : Os) (started : os.Started) (H : Type) (enc : TypeId × Value → H) :
    ReturnsInHanded {} Tryz.checked os 3 .any (fun w args => (Rows.primNumbersSpec.pre enc Tryz.prog Tryz.f3 [] false w args ∧ laidMetH Tryz.prog Rows.primNumbersRow.laid w) ∧ sizedMet enc Tryz.prog Tryz.f3 (OpenSpec.ofChange Rows.primNumbersSpec) false w args)
      (Rows.primNumbersSpec.post enc Tryz.prog Tryz.f3 false true false false) := by
  refine returnsInHanded_of_change_and (C := Tryz.checked) (X := fun w _ => laidMetH Tryz.prog Rows.primNumbersRow.laid w) (fun _ _ _ hh h => h.of_heap hh) numbers_own started (by kernel_rfl) Tryz.func3
    (ChangeSpec.witness_shaped (enc := enc) (C := Tryz.checked) (os := os) (X := fun w _ => laidMetH Tryz.prog Rows.primNumbersRow.laid w) false (World.laidAll Tryz.prog os Rows.primNumbersRow.laid) #[.int .i64 0, .int .i64 0, .int .i64 0] 8 (World.laidAll_os _ _ _)
      (World.shaped_of_ZipB (by kernel_rfl) (by kernel_rfl)) (by kernel_rfl) (by kernel_rfl) (by kernel_rfl)
      (by rw [MakeChecks.laidMetH_plain _ _ _ (by kernel_rfl)]; exact laidMet_laidAll _ (by kernel_rfl) (by kernel_rfl))) ?_
  intro W base args ds gs before hval0 hW _ _ hX _
  have hval : ∀ (j : Nat) t v, Tryz.f3.params[j]? = some t → args[j]? = some v → Value.okWide Tryz.prog W .any base t v := hval0
  have hW' := hW
  obtain ⟨p, q, hA0, hV, rfl, _, _⟩ := hW
  have hA : DataW.TrodAll enc Tryz.prog W 0 (fun _ => true) true Tryz.f3.params.toList args.toList ds p := hA0
  rw [Tryz.params3] at hA hval
  obtain ⟨vs, hvs⟩ : ∃ vs, vs = args.toList := ⟨_, rfl⟩
  rw [← hvs] at hA
  obtain ⟨v0, vs0, d0, ds0, p0, q0, rfl, rfl, rfl, h0, hA⟩ := trodAll_cons hA
  obtain ⟨v1, vs1, d1, ds1, p1, q1, rfl, rfl, rfl, h1, hA⟩ := trodAll_cons hA
  obtain ⟨v2, vs2, d2, ds2, p2, q2, rfl, rfl, rfl, h2, hA⟩ := trodAll_cons hA
  obtain ⟨rfl, rfl, rfl⟩ := trodAll_nil hA
  obtain rfl : args = #[v0, v1, v2] := by cases args; simp at hvs; subst hvs; rfl
  obtain ⟨rfl, rfl⟩ := trodVars_none hV
  obtain ⟨a, rfl, rfl, rfl, hwa⟩ := open_int (k := .i64) Tryz.underlying3 (hval 0 3 _ rfl rfl) h0
  obtain ⟨b, rfl, rfl, rfl, hwb⟩ := open_int (k := .i64) Tryz.underlying3 (hval 1 3 _ rfl rfl) h1
  obtain ⟨c, rfl, rfl, rfl, hwc⟩ := open_int (k := .i64) Tryz.underlying3 (hval 2 3 _ rfl rfl) h2
  simp only [List.append_nil, List.nil_append] at hW'
  refine (law_numbers W (spares_of hX) a b c).mono fun e W' ⟨he, hb⟩ => ?_
  subst he
  have hall : DataW.TrodAll enc Tryz.prog W' 0 (fun b => decide (b < W.heap.size)) true [3, 3, 3] [.int .i64 a, .int .i64 b, .int .i64 c] [_, _, _] ([] ++ ([] ++ ([] ++ []))) :=
    trodAll_cons_mk (Below.trod numbers_laid (by kernel_rfl) (of_decide_eq_true (by kernel_rfl)) h0 hb (fun x hx => by simp at hx)) (trodAll_cons_mk (Below.trod numbers_laid (by kernel_rfl) (of_decide_eq_true (by kernel_rfl)) h1 hb (fun x hx => by simp at hx)) (trodAll_cons_mk (Below.trod numbers_laid (by kernel_rfl) (of_decide_eq_true (by kernel_rfl)) h2 hb (fun x hx => by simp at hx)) trodAll_mk0))
  simp only [List.append_nil, List.nil_append] at hall
  exact ⟨_, rfl, _, _, _, [], [], [], hW', trodAll_mk1 (shut_bool Tryz.underlying4 _), hall, rfl, hb.frame _, fun h => by cases h⟩
theorem numbers_holds : Rows.PrimNumbersSaid :=
  OpenClaim.holds_of_wide 3 Tryz.f3 rfl rfl rfl rfl rfl rfl rfl ⟨rfl, rfl, rfl, rfl, rfl⟩ rfl rfl rfl rfl rfl (by kernel_rfl) Tryz.func3 numbers_closed
    (of_decide_eq_true (by kernel_rfl)) (by unfold Func.isWrapper; first | (rw [if_pos (by decide +kernel)]; kernel_rfl) | (rw [if_neg (by decide +kernel)]; exact ⟨rfl, rfl⟩))
    (fun os started H enc _ => numbers_lifted os started H enc)
theorem numbers_card : Rows.PrimNumbersCardSaid :=
  Claim7.holds_tied_plain_at .later [] [.data, .data, .data, .data, .sentinel, .sentinel, .data, .pinned] true _ true numbers_holds (fun _ h => by cases h) (by kernel_rfl) (fun _ h => by cases h) primNumbers_row_tie rfl ⟨rfl, rfl⟩ (by kernel_rfl) rfl
    (fun f fn hf hfn => by
      obtain rfl : f = 3 := Option.some.inj ((show Tryz.prog.funcNamed "effigy/effigylaw08.PrimNumbers" = some 3 by kernel_rfl).symm.trans hf) |>.symm
      obtain rfl : fn = Tryz.f3 := (Option.some.inj (Tryz.func3.symm.trans hfn)).symm
      exact ⟨cl_looks, fun j t ht => by
        rw [Tryz.params3] at ht
        have hm : t ∈ [3, 3, 3] := by simpa using Array.mem_of_getElem? ht
        have hall : ([3, 3, 3].all fun u => !Tryz.prog.wantsStandIn u) = true := by kernel_rfl
        exact (show Tryz.prog.wantsStandIn t = false by simpa using List.all_eq_true.1 hall t hm)⟩)
    cl_goes
#print axioms numbers_card
end Go.Proofs.YtllabdmmfohbaaaGreatDoor
