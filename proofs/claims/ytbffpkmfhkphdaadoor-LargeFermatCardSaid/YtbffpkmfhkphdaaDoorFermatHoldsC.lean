/- LargeFermat: for every integer and every int the law answers true, and they read behind the call as they read before. Conditions: the package-level variables unicode.CaseRanges, unicode/utf8.first and unicode/utf8.acceptRanges hold what the program's text lays in them (the card ties this to the text). -/
import Derived.Test.YtbffpkmfhkphdaaDoorFermatMainC
import Derived.Test.YtbffpkmfhkphdaaDoorFermatNoC
import Derived.Test.YtbffpkmfhkphdaaDoorGOpen
import Derived.Test.YtbffpkmfhkphdaaDoorTie
import Derived.Test.YtbffpkmfhkphdaaDoorCards
namespace Go.Proofs.YtbffpkmfhkphdaaDoor
open Go Go.ChangeShapes Go.WideShapes Go.ChangeAt Go.RowKit Limb

theorem law_fermat (w : World) (b1 : Bool) (a1 : Option Addr) (l1 : List Nat) (nx c1 : Nat) (which : Int) (h1 : Came w b1 a1 nx l1) (hc1 : nx ≤ c1) (hw1 : -9223372036854775808 ≤ which) (hw2 : which ≤ 9223372036854775807) :
    Calls Tryd.prog 6 #[.agg #[.bool b1, .slice a1 nx c1], .int .i64 which] w fun e w' => e = .returned (.bool true) ∧ Below w.heap.size w w' := by
  cases hm1 : mayB b1 l1 with
  | false => exact fermat_no1 w b1 a1 l1 nx c1 which h1 hm1
  | true =>
    by_cases hs : nx ≤ 300
    · exact fermat_main w b1 a1 l1 nx c1 which h1 hm1 hs hc1 hw1 hw2
    · exact fermat_no2 w b1 a1 l1 nx c1 which h1 hm1 hs

theorem fermat_own : ownKnob Tryd.prog.godebug = none := by kernel_rfl
theorem fermat_laid : laidOutB Tryd.prog = true := by kernel_rfl

set_option maxRecDepth 100000 in
theorem fermat_lifted (os : Os) (started : os.Started) (H : Type) (enc : TypeId × Value → H) :
    ReturnsInHanded {} Tryd.checked os 6 .any (fun w args => (Rows.largeFermatSpec.pre enc Tryd.prog Tryd.f6 [] false w args ∧ laidMetH Tryd.prog Rows.largeFermatRow.laid w) ∧ sizedMet enc Tryd.prog Tryd.f6 (OpenSpec.ofChange Rows.largeFermatSpec) false w args)
      (Rows.largeFermatSpec.post enc Tryd.prog Tryd.f6 false true false false) := by
  refine returnsInHanded_of_change_and (C := Tryd.checked) (X := fun w _ => laidMetH Tryd.prog Rows.largeFermatRow.laid w) (fun _ _ _ hh h => h.of_heap hh) fermat_own started (by kernel_rfl) Tryd.func6
    (ChangeSpec.witness_shaped (enc := enc) (C := Tryd.checked) (os := os) (X := fun w _ => laidMetH Tryd.prog Rows.largeFermatRow.laid w) false (World.laidAll Tryd.prog os Rows.largeFermatRow.laid) #[.agg #[.bool false, .slice none 0 0], .int .i64 0] 8 (World.laidAll_os _ _ _)
      (World.shaped_of_ZipB (by kernel_rfl) (by kernel_rfl)) (by kernel_rfl) (by kernel_rfl) (by kernel_rfl)
      (by rw [MakeChecks.laidMetH_plain _ _ _ (by kernel_rfl)]; exact laidMet_laidAll _ (by kernel_rfl) (by kernel_rfl))) ?_
  intro W base args ds gs before hval0 hW _ _ _ _
  have hval : ∀ (j : Nat) t v, Tryd.f6.params[j]? = some t → args[j]? = some v → Value.okWide Tryd.prog W .any base t v := hval0
  have hW' := hW
  have hlt : ∀ p ∈ before, p.block < W.heap.size := fun p hp => hW.lt p hp
  obtain ⟨p, q, hA0, hV, rfl, _, _⟩ := hW
  have hA : DataW.TrodAll enc Tryd.prog W 0 (fun _ => true) true Tryd.f6.params.toList args.toList ds p := hA0
  rw [Tryd.params6] at hA hval
  obtain ⟨v0, v1, d0, d1, p0, p1, rfl, rfl, rfl, h0, h1⟩ := trodAll_two hA
  obtain ⟨rfl, rfl⟩ := trodVars_none hV
  obtain ⟨b1, a1, n1, c1, l1, rfl, k1, hc1⟩ := open_api (hval 0 24 _ rfl rfl) h0
  obtain ⟨which, rfl, rfl, rfl, hwf⟩ := open_int (k := .i64) Tryd.underlying3 (hval 1 3 _ rfl rfl) h1
  have hbd := bounds_i64 hwf
  refine (law_fermat W b1 a1 l1 n1 c1 which k1 hc1 hbd.1 hbd.2).mono fun e W' ⟨he, hb⟩ => ?_
  subst he
  exact ⟨_, rfl, _, _, _, [], p0 ++ [], [], hW', trodAll_mk1 (shut_bool Tryd.underlying4 _),
    trodAll_mk2 (Below.trod fermat_laid (by kernel_rfl) (of_decide_eq_true (by kernel_rfl)) h0 hb (fun x hx => hlt x (by simp [hx]))) (Below.trod fermat_laid (by kernel_rfl) (of_decide_eq_true (by kernel_rfl)) h1 hb (fun x hx => by simp at hx)), rfl, hb.frame _, fun h => by cases h⟩

theorem fermat_holds : Rows.LargeFermatSaid :=
  OpenClaim.holds_of_wide 6 Tryd.f6 rfl rfl rfl rfl rfl rfl rfl ⟨rfl, rfl, rfl, rfl, rfl⟩ rfl rfl rfl rfl rfl (by kernel_rfl) Tryd.func6 (by kernel_rfl)
    (of_decide_eq_true (by kernel_rfl)) (by unfold Func.isWrapper; first | (rw [if_pos (by decide +kernel)]; kernel_rfl) | (rw [if_neg (by decide +kernel)]; exact ⟨rfl, rfl⟩))
    (fun os started H enc _ => fermat_lifted os started H enc)

theorem fermat_card : Rows.LargeFermatCardSaid :=
  Claim7.holds_tied_plain_at .later [] [.data, .pinned, .pinned] true _ false fermat_holds (fun _ h => by cases h) (by kernel_rfl) (fun _ h => by cases h) largeFermat_row_tie rfl ⟨rfl, rfl⟩ (by kernel_rfl) rfl
    (fun f fn hf hfn => by
      obtain rfl : f = 6 := Option.some.inj ((show Tryd.prog.funcNamed "effigy/effigylaw09.LargeFermat" = some 6 by kernel_rfl).symm.trans hf) |>.symm
      obtain rfl : fn = Tryd.f6 := (Option.some.inj (Tryd.func6.symm.trans hfn)).symm
      exact ⟨by kernel_rfl, fun j t ht => by
        rw [Tryd.params6] at ht
        have hm : t ∈ [24, 3] := by simpa using Array.mem_of_getElem? ht
        have hall : ([24, 3].all fun u => !Tryd.prog.wantsStandIn u) = true := by kernel_rfl
        exact (show Tryd.prog.wantsStandIn t = false by simpa using List.all_eq_true.1 hall t hm)⟩)
    (by kernel_rfl)
#print axioms fermat_card

end Go.Proofs.YtbffpkmfhkphdaaDoor
