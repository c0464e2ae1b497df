/- LargeRing: for every three integers the law answers true, and they read behind the call as they read before. Conditions: the package-level variables unicode.CaseRanges, unicode/utf8.first and unicode/utf8.acceptRanges hold what the program's text lays in them (the card ties this to the text). -/
import Derived.Test.YtbffpkmfhkphdaaDoorRingMainC
import Derived.Test.YtbffpkmfhkphdaaDoorRingNoC
import Derived.Test.YtbffpkmfhkphdaaDoorGOpen
import Derived.Test.YtbffpkmfhkphdaaDoorTie
import Derived.Test.YtbffpkmfhkphdaaDoorCards
namespace Go.Proofs.YtbffpkmfhkphdaaDoor
open Go Go.ChangeShapes Go.WideShapes Go.ChangeAt Go.RowKit Limb

theorem law_ring (w : World) (b1 b2 b3 : Bool) (a1 a2 a3 : Option Addr) (l1 l2 l3 : List Nat) (nx ny nz c1 c2 c3 : Nat) (h1 : Came w b1 a1 nx l1) (h2 : Came w b2 a2 ny l2) (h3 : Came w b3 a3 nz l3) (hc1 : nx ≤ c1) (hc2 : ny ≤ c2) (hc3 : nz ≤ c3) :
    Calls Tryd.prog 5 #[.agg #[.bool b1, .slice a1 nx c1], .agg #[.bool b2, .slice a2 ny c2], .agg #[.bool b3, .slice a3 nz c3]] w fun e w' => e = .returned (.bool true) ∧ Below w.heap.size w w' := by
  cases hm1 : mayB b1 l1 with
  | false => exact ring_no1 w b1 b2 b3 a1 a2 a3 l1 l2 l3 nx ny nz c1 c2 c3 h1 h2 h3 hm1
  | true =>
    cases hm2 : mayB b2 l2 with
    | false => exact ring_no2 w b1 b2 b3 a1 a2 a3 l1 l2 l3 nx ny nz c1 c2 c3 h1 h2 h3 hm1 hm2
    | true =>
      cases hm3 : mayB b3 l3 with
      | false => exact ring_no3 w b1 b2 b3 a1 a2 a3 l1 l2 l3 nx ny nz c1 c2 c3 h1 h2 h3 hm1 hm2 hm3
      | true =>
        by_cases hs : nx + ny + nz ≤ 1000
        · exact ring_main w b1 b2 b3 a1 a2 a3 l1 l2 l3 nx ny nz c1 c2 c3 h1 h2 h3 hm1 hm2 hm3 hs hc1 hc2 hc3
        · exact ring_no4 w b1 b2 b3 a1 a2 a3 l1 l2 l3 nx ny nz c1 c2 c3 h1 h2 h3 hm1 hm2 hm3 hs

theorem ring_own : ownKnob Tryd.prog.godebug = none := by kernel_rfl
theorem ring_laid : laidOutB Tryd.prog = true := by kernel_rfl

set_option maxRecDepth 100000 in
theorem ring_lifted (os : Os) (started : os.Started) (H : Type) (enc : TypeId × Value → H) :
    ReturnsInHanded {} Tryd.checked os 5 .any (fun w args => (Rows.largeRingSpec.pre enc Tryd.prog Tryd.f5 [] false w args ∧ laidMetH Tryd.prog Rows.largeRingRow.laid w) ∧ sizedMet enc Tryd.prog Tryd.f5 (OpenSpec.ofChange Rows.largeRingSpec) false w args)
      (Rows.largeRingSpec.post enc Tryd.prog Tryd.f5 false true false false) := by
  refine returnsInHanded_of_change_and (C := Tryd.checked) (X := fun w _ => laidMetH Tryd.prog Rows.largeRingRow.laid w) (fun _ _ _ hh h => h.of_heap hh) ring_own started (by kernel_rfl) Tryd.func5
    (ChangeSpec.witness_shaped (enc := enc) (C := Tryd.checked) (os := os) (X := fun w _ => laidMetH Tryd.prog Rows.largeRingRow.laid w) false (World.laidAll Tryd.prog os Rows.largeRingRow.laid) #[.agg #[.bool false, .slice none 0 0], .agg #[.bool false, .slice none 0 0], .agg #[.bool false, .slice none 0 0]] 8 (World.laidAll_os _ _ _)
      (World.shaped_of_ZipB (by kernel_rfl) (by kernel_rfl)) (by kernel_rfl) (by kernel_rfl) (by kernel_rfl)
      (by rw [MakeChecks.laidMetH_plain _ _ _ (by kernel_rfl)]; exact laidMet_laidAll _ (by kernel_rfl) (by kernel_rfl))) ?_
  intro W base args ds gs before hval0 hW _ _ _ _
  have hval : ∀ (j : Nat) t v, Tryd.f5.params[j]? = some t → args[j]? = some v → Value.okWide Tryd.prog W .any base t v := hval0
  have hW' := hW
  have hlt : ∀ p ∈ before, p.block < W.heap.size := fun p hp => hW.lt p hp
  obtain ⟨p, q, hA0, hV, rfl, _, _⟩ := hW
  have hA : DataW.TrodAll enc Tryd.prog W 0 (fun _ => true) true Tryd.f5.params.toList args.toList ds p := hA0
  rw [Tryd.params5] at hA hval
  obtain ⟨v0, v1, v2, d0, d1, d2, p0, p1, p2, rfl, rfl, rfl, h0, h1, h2⟩ := trodAll_three hA
  obtain ⟨rfl, rfl⟩ := trodVars_none hV
  obtain ⟨b1, a1, n1, c1, l1, rfl, k1, hc1⟩ := open_api (hval 0 24 _ rfl rfl) h0
  obtain ⟨b2, a2, n2, c2, l2, rfl, k2, hc2⟩ := open_api (hval 1 24 _ rfl rfl) h1
  obtain ⟨b3, a3, n3, c3, l3, rfl, k3, hc3⟩ := open_api (hval 2 24 _ rfl rfl) h2
  simp only [List.append_nil] at hW' hlt
  refine (law_ring W b1 b2 b3 a1 a2 a3 l1 l2 l3 n1 n2 n3 c1 c2 c3 k1 k2 k3 hc1 hc2 hc3).mono fun e W' ⟨he, hb⟩ => ?_
  subst he
  have hall : DataW.TrodAll enc Tryd.prog W' 0 (fun b => decide (b < W.heap.size)) true [24, 24, 24] [.agg #[.bool b1, .slice a1 n1 c1], .agg #[.bool b2, .slice a2 n2 c2], .agg #[.bool b3, .slice a3 n3 c3]] [d0, d1, d2] (p0 ++ p1 ++ p2) := by
    rw [List.append_assoc]
    exact trodAll_mk3 (Below.trod ring_laid (by kernel_rfl) (of_decide_eq_true (by kernel_rfl)) h0 hb (fun x hx => hlt x (by simp [hx]))) (Below.trod ring_laid (by kernel_rfl) (of_decide_eq_true (by kernel_rfl)) h1 hb (fun x hx => hlt x (by simp [hx]))) (Below.trod ring_laid (by kernel_rfl) (of_decide_eq_true (by kernel_rfl)) h2 hb (fun x hx => hlt x (by simp [hx])))
  exact ⟨_, rfl, _, _, _, [], p0 ++ p1 ++ p2, [], hW', trodAll_mk1 (shut_bool Tryd.underlying4 _), hall, rfl, hb.frame _, fun h => by cases h⟩

theorem ring_holds : Rows.LargeRingSaid :=
  OpenClaim.holds_of_wide 5 Tryd.f5 rfl rfl rfl rfl rfl rfl rfl ⟨rfl, rfl, rfl, rfl, rfl⟩ rfl rfl rfl rfl rfl (by kernel_rfl) Tryd.func5 (by kernel_rfl)
    (of_decide_eq_true (by kernel_rfl)) (by unfold Func.isWrapper; first | (rw [if_pos (by decide +kernel)]; kernel_rfl) | (rw [if_neg (by decide +kernel)]; exact ⟨rfl, rfl⟩))
    (fun os started H enc _ => ring_lifted os started H enc)

theorem ring_card : Rows.LargeRingCardSaid :=
  Claim7.holds_tied_plain_at .later [] [.data, .pinned, .pinned] true _ false ring_holds (fun _ h => by cases h) (by kernel_rfl) (fun _ h => by cases h) largeRing_row_tie rfl ⟨rfl, rfl⟩ (by kernel_rfl) rfl
    (fun f fn hf hfn => by
      obtain rfl : f = 5 := Option.some.inj ((show Tryd.prog.funcNamed "effigy/effigylaw09.LargeRing" = some 5 by kernel_rfl).symm.trans hf) |>.symm
      obtain rfl : fn = Tryd.f5 := (Option.some.inj (Tryd.func5.symm.trans hfn)).symm
      exact ⟨by kernel_rfl, fun j t ht => by
        rw [Tryd.params5] at ht
        have hm : t ∈ [24] := by simpa using Array.mem_of_getElem? ht
        have hall : ([24].all fun u => !Tryd.prog.wantsStandIn u) = true := by kernel_rfl
        exact (show Tryd.prog.wantsStandIn t = false by simpa using List.all_eq_true.1 hall t hm)⟩)
    (by kernel_rfl)
#print axioms ring_card

end Go.Proofs.YtbffpkmfhkphdaaDoor
