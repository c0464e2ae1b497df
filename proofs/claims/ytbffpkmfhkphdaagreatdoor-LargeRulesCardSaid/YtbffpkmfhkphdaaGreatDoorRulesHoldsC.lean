/- LargeRules: for every two integers and every two ints the law answers true, and they read behind the call as they read before. Conditions: the package-level variables unicode.CaseRanges, unicode/utf8.first and unicode/utf8.acceptRanges hold what the program's text lays in them (the card ties this to the text). -/
import Derived.Test.YtbffpkmfhkphdaaGreatDoorLawRulesC
import Derived.Test.YtbffpkmfhkphdaaGreatDoorGX43
import Derived.Test.YtbffpkmfhkphdaaGreatDoorTie
import Derived.Test.YtbffpkmfhkphdaaGreatDoorCards
set_option linter.unusedVariables false
set_option linter.unusedSimpArgs false
namespace Go.Proofs.YtbffpkmfhkphdaaGreatDoor
open Go Go.ChangeShapes Go.WideShapes Go.ChangeAt Go.RowKit Limb

theorem law_rules (w : World) (b1 b2 : Bool) (a1 a2 : Option Addr) (l1 l2 : List Nat) (nx ny c1 c2 : Nat) (n base : Int) (h1 : Came w b1 a1 nx l1) (h2 : Came w b2 a2 ny l2) (hc1 : nx ≤ c1) (hc2 : ny ≤ c2)
    (hn1 : -9223372036854775808 ≤ n) (hn2 : n ≤ 9223372036854775807) (hm1 : -9223372036854775808 ≤ base) (hm2 : base ≤ 9223372036854775807) :
    Calls Tryz.prog 6 #[.agg #[.bool b1, .slice a1 nx c1], .agg #[.bool b2, .slice a2 ny c2], .int .i64 n, .int .i64 base] w fun e w' => e = .returned (.bool true) ∧ Below w.heap.size w w' := by
  cases hma : mayB b1 l1 with
  | false => exact law_rules_a w b1 b2 a1 a2 l1 l2 nx ny c1 c2 n base h1 h2 hc1 hc2 hn1 hn2 hm1 hm2 hma
  | true =>
    cases hmb : mayB b2 l2 with
    | false => exact law_rules_b w b1 b2 a1 a2 l1 l2 nx ny c1 c2 n base h1 h2 hc1 hc2 hn1 hn2 hm1 hm2 hma hmb
    | true =>
      by_cases hl : 400 < nx + ny
      · exact law_rules_l w b1 b2 a1 a2 l1 l2 nx ny c1 c2 n base h1 h2 hc1 hc2 hn1 hn2 hm1 hm2 hma hmb hl
      · exact law_rules_main w b1 b2 a1 a2 l1 l2 nx ny c1 c2 n base h1 h2 hc1 hc2 hn1 hn2 hm1 hm2 hma hmb hl

theorem rules_own : ownKnob Tryz.prog.godebug = none := by kernel_rfl
theorem rules_laid : laidOutB Tryz.prog = true := by kernel_rfl

set_option maxRecDepth 100000 in
theorem rules_lifted (os : Os) (started : os.Started) (H : Type) (enc : TypeId × Value → H) :
    ReturnsInHanded {} Tryz.checked os 6 .any (fun w args => (Rows.largeRulesSpec.pre enc Tryz.prog Tryz.f6 [] false w args ∧ laidMetH Tryz.prog Rows.largeRulesRow.laid w) ∧ sizedMet enc Tryz.prog Tryz.f6 (OpenSpec.ofChange Rows.largeRulesSpec) false w args)
      (Rows.largeRulesSpec.post enc Tryz.prog Tryz.f6 false true false false) := by
  refine returnsInHanded_of_change_and (C := Tryz.checked) (X := fun w _ => laidMetH Tryz.prog Rows.largeRulesRow.laid w) (fun _ _ _ hh h => h.of_heap hh) rules_own started (by kernel_rfl) Tryz.func6
    (ChangeSpec.witness_shaped (enc := enc) (C := Tryz.checked) (os := os) (X := fun w _ => laidMetH Tryz.prog Rows.largeRulesRow.laid w) false (World.laidAll Tryz.prog os Rows.largeRulesRow.laid) #[.agg #[.bool false, .slice none 0 0], .agg #[.bool false, .slice none 0 0], .int .i64 0, .int .i64 0] 8 (World.laidAll_os _ _ _)
      (World.shaped_of_ZipB (by kernel_rfl) (by kernel_rfl)) (by kernel_rfl) (by kernel_rfl) (by kernel_rfl)
      (by rw [MakeChecks.laidMetH_plain _ _ _ (by kernel_rfl)]; exact laidMet_laidAll _ (by kernel_rfl) (by kernel_rfl))) ?_
  intro W base args ds gs before hval0 hW _ _ _ _
  have hval : ∀ (j : Nat) t v, Tryz.f6.params[j]? = some t → args[j]? = some v → Value.okWide Tryz.prog W .any base t v := hval0
  have hW' := hW
  have hlt : ∀ p ∈ before, p.block < W.heap.size := fun p hp => hW.lt p hp
  obtain ⟨p, q, hA0, hV, rfl, _, _⟩ := hW
  have hA : DataW.TrodAll enc Tryz.prog W 0 (fun _ => true) true Tryz.f6.params.toList args.toList ds p := hA0
  rw [Tryz.params6] at hA hval
  obtain ⟨v0, v1, v2, v3, d0, d1, d2, d3, p0, p1, p2, p3, rfl, rfl, rfl, h0, h1, h2, h3⟩ := trodAll_four hA
  obtain ⟨rfl, rfl⟩ := trodVars_none hV
  obtain ⟨b1, a1, n1, c1, l1, rfl, k1, hc1⟩ := open_api (hval 0 24 _ rfl rfl) h0
  obtain ⟨b2, a2, n2, c2, l2, rfl, k2, hc2⟩ := open_api (hval 1 24 _ rfl rfl) h1
  obtain ⟨n, rfl, rfl, rfl, hwn⟩ := open_int (k := .i64) Tryz.underlying3 (hval 2 3 _ rfl rfl) h2
  obtain ⟨op, rfl, rfl, rfl, hwo⟩ := open_int (k := .i64) Tryz.underlying3 (hval 3 3 _ rfl rfl) h3
  have hbn := bounds_i64 hwn
  have hbo := bounds_i64 hwo
  simp only [List.append_nil] at hW' hlt
  refine (law_rules W b1 b2 a1 a2 l1 l2 n1 n2 c1 c2 n op k1 k2 hc1 hc2 hbn.1 hbn.2 hbo.1 hbo.2).mono fun e W' ⟨he, hb⟩ => ?_
  subst he
  have hall : DataW.TrodAll enc Tryz.prog W' 0 (fun b => decide (b < W.heap.size)) true [24, 24, 3, 3] [.agg #[.bool b1, .slice a1 n1 c1], .agg #[.bool b2, .slice a2 n2 c2], .int .i64 n, .int .i64 op] [d0, d1, _, _] (p0 ++ (p1 ++ ([] ++ []))) :=
    trodAll_mk4 (Below.trod rules_laid (by kernel_rfl) (of_decide_eq_true (by kernel_rfl)) h0 hb (fun x hx => hlt x (by simp [hx]))) (Below.trod rules_laid (by kernel_rfl) (of_decide_eq_true (by kernel_rfl)) h1 hb (fun x hx => hlt x (by simp [hx]))) (Below.trod rules_laid (by kernel_rfl) (of_decide_eq_true (by kernel_rfl)) h2 hb (fun x hx => by simp at hx)) (Below.trod rules_laid (by kernel_rfl) (of_decide_eq_true (by kernel_rfl)) h3 hb (fun x hx => by simp at hx))
  simp only [List.append_nil] at hall
  exact ⟨_, rfl, _, _, _, [], p0 ++ p1, [], hW', trodAll_mk1 (shut_bool Tryz.underlying4 _), hall, rfl, hb.frame _, fun h => by cases h⟩

theorem rules_holds : Rows.LargeRulesSaid :=
  OpenClaim.holds_of_wide 6 Tryz.f6 rfl rfl rfl rfl rfl rfl rfl ⟨rfl, rfl, rfl, rfl, rfl⟩ rfl rfl rfl rfl rfl (by kernel_rfl) Tryz.func6 (by kernel_rfl)
    (of_decide_eq_true (by kernel_rfl)) (by unfold Func.isWrapper; first | (rw [if_pos (by decide +kernel)]; kernel_rfl) | (rw [if_neg (by decide +kernel)]; exact ⟨rfl, rfl⟩))
    (fun os started H enc _ => rules_lifted os started H enc)

theorem rules_card : Rows.LargeRulesCardSaid :=
  Claim7.holds_tied_plain_at .later [] [.data, .pinned, .pinned] true _ false rules_holds (fun _ h => by cases h) (by kernel_rfl) (fun _ h => by cases h) largeRules_row_tie rfl ⟨rfl, rfl⟩ (by kernel_rfl) rfl
    (fun f fn hf hfn => by
      obtain rfl : f = 6 := Option.some.inj ((show Tryz.prog.funcNamed "effigy/effigylaw09.LargeRules" = some 6 by kernel_rfl).symm.trans hf) |>.symm
      obtain rfl : fn = Tryz.f6 := (Option.some.inj (Tryz.func6.symm.trans hfn)).symm
      exact ⟨by kernel_rfl, fun j t ht => by
        rw [Tryz.params6] at ht
        have hm : t ∈ [24, 3] := by simpa using Array.mem_of_getElem? ht
        have hall : ([24, 3].all fun u => !Tryz.prog.wantsStandIn u) = true := by kernel_rfl
        exact (show Tryz.prog.wantsStandIn t = false by simpa using List.all_eq_true.1 hall t hm)⟩)
    (by kernel_rfl)
#print axioms rules_card

end Go.Proofs.YtbffpkmfhkphdaaGreatDoor
