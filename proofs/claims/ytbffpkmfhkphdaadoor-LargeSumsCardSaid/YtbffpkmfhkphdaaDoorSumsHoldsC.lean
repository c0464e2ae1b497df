/- LargeSums: for every two integers the law answers true, and they read behind the call as they read before. Conditions: the package-level variables unicode.CaseRanges, unicode/utf8.first and unicode/utf8.acceptRanges hold what the program's text lays in them (the card ties this to the text). -/
import Derived.Test.YtbffpkmfhkphdaaDoorSumsNo1C
import Derived.Test.YtbffpkmfhkphdaaDoorSumsNo2C
import Derived.Test.YtbffpkmfhkphdaaDoorSumsMainC
import Derived.Test.YtbffpkmfhkphdaaDoorGOpen
import Derived.Test.YtbffpkmfhkphdaaDoorTie
import Derived.Test.YtbffpkmfhkphdaaDoorCards
namespace Go.Proofs.YtbffpkmfhkphdaaDoor
open Go Go.ChangeShapes Go.WideShapes Go.ChangeAt Go.RowKit Limb

theorem law_sums (w : World) (b1 b2 : Bool) (a1 a2 : Option Addr) (l1 l2 : List Nat) (n1 n2 c1 c2 : Nat) (h1 : Came w b1 a1 n1 l1) (h2 : Came w b2 a2 n2 l2) (m1 : n1 ≤ 35184372088832) (m2 : n2 ≤ 35184372088832) (hc1 : n1 ≤ c1) (hc2 : n2 ≤ c2) :
    Calls Tryd.prog 4 #[.agg #[.bool b1, .slice a1 n1 c1], .agg #[.bool b2, .slice a2 n2 c2]] w fun e w' => e = .returned (.bool true) ∧ Below w.heap.size w w' := by
  cases hm1 : mayB b1 l1 with
  | false => exact sums_no1 w b1 b2 a1 a2 l1 l2 n1 n2 c1 c2 h1 h2 m1 m2 hm1
  | true =>
    cases hm2 : mayB b2 l2 with
    | false => exact sums_no2 w b1 b2 a1 a2 l1 l2 n1 n2 c1 c2 h1 h2 m1 m2 hm1 hm2
    | true => exact sums_main w b1 b2 a1 a2 l1 l2 n1 n2 c1 c2 h1 h2 m1 m2 hm1 hm2 hc1 hc2

theorem sums_own : ownKnob Tryd.prog.godebug = none := by kernel_rfl
theorem sums_laid : laidOutB Tryd.prog = true := by kernel_rfl

set_option maxRecDepth 100000 in
theorem sums_lifted (os : Os) (started : os.Started) (H : Type) (enc : TypeId × Value → H) :
    ReturnsInHanded {} Tryd.checked os 4 .any (fun w args => (Rows.largeSumsSpec.pre enc Tryd.prog Tryd.f4 [] false w args ∧ laidMetH Tryd.prog Rows.largeSumsRow.laid w) ∧ sizedMet enc Tryd.prog Tryd.f4 (OpenSpec.ofChange Rows.largeSumsSpec) false w args)
      (Rows.largeSumsSpec.post enc Tryd.prog Tryd.f4 false true false false) := by
  refine returnsInHanded_of_change_and (C := Tryd.checked) (X := fun w _ => laidMetH Tryd.prog Rows.largeSumsRow.laid w) (fun _ _ _ hh h => h.of_heap hh) sums_own started (by kernel_rfl) Tryd.func4
    (ChangeSpec.witness_shaped (enc := enc) (C := Tryd.checked) (os := os) (X := fun w _ => laidMetH Tryd.prog Rows.largeSumsRow.laid w) false (World.laidAll Tryd.prog os Rows.largeSumsRow.laid) #[.agg #[.bool false, .slice none 0 0], .agg #[.bool false, .slice none 0 0]] 8 (World.laidAll_os _ _ _)
      (World.shaped_of_ZipB (by kernel_rfl) (by kernel_rfl)) (by kernel_rfl) (by kernel_rfl) (by kernel_rfl)
      (by rw [MakeChecks.laidMetH_plain _ _ _ (by kernel_rfl)]; exact laidMet_laidAll _ (by kernel_rfl) (by kernel_rfl))) ?_
  intro W base args ds gs before hval0 hW _ hsz0 _ _
  have hval : ∀ (j : Nat) t v, Tryd.f4.params[j]? = some t → args[j]? = some v → Value.okWide Tryd.prog W .any base t v := hval0
  have hW' := hW
  have hlt : ∀ p ∈ before, p.block < W.heap.size := fun p hp => hW.lt p hp
  obtain ⟨p, q, hA0, hV, rfl, _, _⟩ := hW
  have hA : DataW.TrodAll enc Tryd.prog W 0 (fun _ => true) true Tryd.f4.params.toList args.toList ds p := hA0
  rw [Tryd.params4] at hA hval
  obtain ⟨v0, v1, d0, d1, p0, p1, rfl, rfl, rfl, h0, h1⟩ := trodAll_two hA
  obtain ⟨rfl, rfl⟩ := trodVars_none hV
  have hsz := List.all_eq_true.1 hsz0
  obtain ⟨b1, a1, n1, c1, l1, rfl, k1, hc1, m1⟩ := open_api_reach (hval 0 24 _ rfl rfl) h0 (fun n hn => of_decide_eq_true (hsz n (DataW.weights_mem_each (j := 0) (t := 24) rfl rfl n hn)))
  obtain ⟨b2, a2, n2, c2, l2, rfl, k2, hc2, m2⟩ := open_api_reach (hval 1 24 _ rfl rfl) h1 (fun n hn => of_decide_eq_true (hsz n (DataW.weights_mem_each (j := 1) (t := 24) rfl rfl n hn)))
  simp only [List.append_nil] at hW' hlt
  refine (law_sums W b1 b2 a1 a2 l1 l2 n1 n2 c1 c2 k1 k2 m1 m2 hc1 hc2).mono fun e W' ⟨he, hb⟩ => ?_
  subst he
  exact ⟨_, rfl, _, _, _, [], p0 ++ p1, [], hW', trodAll_mk1 (shut_bool Tryd.underlying4 _),
    trodAll_mk2 (Below.trod sums_laid (by kernel_rfl) (of_decide_eq_true (by kernel_rfl)) h0 hb (fun x hx => hlt x (by simp [hx]))) (Below.trod sums_laid (by kernel_rfl) (of_decide_eq_true (by kernel_rfl)) h1 hb (fun x hx => hlt x (by simp [hx]))), rfl, hb.frame _, fun h => by cases h⟩

theorem sums_holds : Rows.LargeSumsSaid :=
  OpenClaim.holds_of_wide 4 Tryd.f4 rfl rfl rfl rfl rfl rfl rfl ⟨rfl, rfl, rfl, rfl, rfl⟩ rfl rfl rfl rfl rfl (by kernel_rfl) Tryd.func4 (by kernel_rfl)
    (of_decide_eq_true (by kernel_rfl)) (by unfold Func.isWrapper; first | (rw [if_pos (by decide +kernel)]; kernel_rfl) | (rw [if_neg (by decide +kernel)]; exact ⟨rfl, rfl⟩))
    (fun os started H enc _ => sums_lifted os started H enc)

theorem sums_card : Rows.LargeSumsCardSaid :=
  Claim7.holds_tied_plain_at .later [] [.data, .pinned, .pinned] true _ false sums_holds (fun _ h => by cases h) (by kernel_rfl) (fun _ h => by cases h) largeSums_row_tie rfl ⟨rfl, rfl⟩ (by kernel_rfl) rfl
    (fun f fn hf hfn => by
      obtain rfl : f = 4 := Option.some.inj ((show Tryd.prog.funcNamed "effigy/effigylaw09.LargeSums" = some 4 by kernel_rfl).symm.trans hf) |>.symm
      obtain rfl : fn = Tryd.f4 := (Option.some.inj (Tryd.func4.symm.trans hfn)).symm
      exact ⟨by kernel_rfl, fun j t ht => by
        rw [Tryd.params4] at ht
        have hm : t ∈ [24] := by simpa using Array.mem_of_getElem? ht
        have hall : ([24].all fun u => !Tryd.prog.wantsStandIn u) = true := by kernel_rfl
        exact (show Tryd.prog.wantsStandIn t = false by simpa using List.all_eq_true.1 hall t hm)⟩)
    (by kernel_rfl)
#print axioms sums_card

end Go.Proofs.YtbffpkmfhkphdaaDoor
