/- LargeTexts: for every integer, base, text and int the law answers true, and they read behind the call as they read before. Conditions: the package-level variables unicode.CaseRanges, unicode/utf8.first and unicode/utf8.acceptRanges hold what the program's text lays in them (the card ties this to the text). -/
import Derived.Test.YtbffpkmfhkphdaaGreatDoorLawTextsC
import Derived.Test.YtbffpkmfhkphdaaGreatDoorGX44
import Derived.Test.YtbffpkmfhkphdaaGreatDoorTie
import Derived.Test.YtbffpkmfhkphdaaGreatDoorCards
import Derived.ChangeMaps5
set_option linter.unusedVariables false
set_option linter.unusedSimpArgs false
namespace Go.Proofs.YtbffpkmfhkphdaaGreatDoor
open Go Go.ChangeShapes Go.WideShapes Go.ChangeAt Go.ChangeMaps Go.RowKit Limb

theorem law_texts (w : World) (b1 : Bool) (a1 : Option Addr) (l1 : List Nat) (nx c1 : Nat) (base n : Int) (s : ByteArray) (h1 : Came w b1 a1 nx l1) (hc1 : nx ≤ c1) (hs : s.size ≤ 140737488355328)
    (hn1 : -9223372036854775808 ≤ n) (hn2 : n ≤ 9223372036854775807) :
    Calls Tryz.prog 5 #[.agg #[.bool b1, .slice a1 nx c1], .int .i64 base, .string s, .int .i64 n] w fun e w' => e = .returned (.bool true) ∧ Below w.heap.size w w' := by
  by_cases hlo : base < 2
  · cases hma : mayB b1 l1 with
    | false => exact law_texts_lo_n w b1 a1 l1 nx c1 base n s h1 hc1 hs hn1 hn2 hlo hma
    | true =>
      cases hiz : inI64 (signed b1 (val l1)) with
      | false => exact law_texts_lo_mj w b1 a1 l1 nx c1 base n s h1 hc1 hs hn1 hn2 hlo hma hiz
      | true => exact law_texts_lo_mi w b1 a1 l1 nx c1 base n s h1 hc1 hs hn1 hn2 hlo hma hiz
  · by_cases hhi : 36 < base
    · cases hma : mayB b1 l1 with
      | false => exact law_texts_hi_n w b1 a1 l1 nx c1 base n s h1 hc1 hs hn1 hn2 hhi hma
      | true =>
        cases hiz : inI64 (signed b1 (val l1)) with
        | false => exact law_texts_hi_mj w b1 a1 l1 nx c1 base n s h1 hc1 hs hn1 hn2 hhi hma hiz
        | true => exact law_texts_hi_mi w b1 a1 l1 nx c1 base n s h1 hc1 hs hn1 hn2 hhi hma hiz
    · have hob : okBase base = true := okBase_iff.2 (by omega)
      cases hma : mayB b1 l1 with
      | false => exact law_texts_ok_n w b1 a1 l1 nx c1 base n s h1 hc1 hs hn1 hn2 hob hma
      | true =>
        cases hiz : inI64 (signed b1 (val l1)) with
        | false => exact law_texts_ok_mj w b1 a1 l1 nx c1 base n s h1 hc1 hs hn1 hn2 hob hma hiz
        | true => exact law_texts_ok_mi w b1 a1 l1 nx c1 base n s h1 hc1 hs hn1 hn2 hob hma hiz

theorem texts_own : ownKnob Tryz.prog.godebug = none := by kernel_rfl
theorem texts_laid : laidOutB Tryz.prog = true := by kernel_rfl

set_option maxRecDepth 100000 in
theorem texts_lifted (os : Os) (started : os.Started) (H : Type) (enc : TypeId × Value → H) :
    ReturnsInHanded {} Tryz.checked os 5 .any (fun w args => (Rows.largeTextsSpec.pre enc Tryz.prog Tryz.f5 [] false w args ∧ laidMetH Tryz.prog Rows.largeTextsRow.laid w) ∧ sizedMet enc Tryz.prog Tryz.f5 (OpenSpec.ofChange Rows.largeTextsSpec) false w args)
      (Rows.largeTextsSpec.post enc Tryz.prog Tryz.f5 false true false false) := by
  refine returnsInHanded_of_change_and (C := Tryz.checked) (X := fun w _ => laidMetH Tryz.prog Rows.largeTextsRow.laid w) (fun _ _ _ hh h => h.of_heap hh) texts_own started (by kernel_rfl) Tryz.func5
    (ChangeSpec.witness_shaped (enc := enc) (C := Tryz.checked) (os := os) (X := fun w _ => laidMetH Tryz.prog Rows.largeTextsRow.laid w) false (World.laidAll Tryz.prog os Rows.largeTextsRow.laid) #[.agg #[.bool false, .slice none 0 0], .int .i64 0, .string ⟨#[]⟩, .int .i64 0] 8 (World.laidAll_os _ _ _)
      (World.shaped_of_ZipB (by kernel_rfl) (by kernel_rfl)) (by kernel_rfl) (by kernel_rfl) (by kernel_rfl)
      (by rw [MakeChecks.laidMetH_plain _ _ _ (by kernel_rfl)]; exact laidMet_laidAll _ (by kernel_rfl) (by kernel_rfl))) ?_
  intro W base args ds gs before hval0 hW _ hsz0 _ _
  have hval : ∀ (j : Nat) t v, Tryz.f5.params[j]? = some t → args[j]? = some v → Value.okWide Tryz.prog W .any base t v := hval0
  have hW' := hW
  have hlt : ∀ p ∈ before, p.block < W.heap.size := fun p hp => hW.lt p hp
  obtain ⟨p, q, hA0, hV, rfl, _, _⟩ := hW
  have hA : DataW.TrodAll enc Tryz.prog W 0 (fun _ => true) true Tryz.f5.params.toList args.toList ds p := hA0
  rw [Tryz.params5] at hA hval
  obtain ⟨v0, v1, v2, v3, d0, d1, d2, d3, p0, p1, p2, p3, rfl, rfl, rfl, h0, h1, h2, h3⟩ := trodAll_four hA
  obtain ⟨rfl, rfl⟩ := trodVars_none hV
  have hsz := List.all_eq_true.1 hsz0
  obtain ⟨b1, a1, n1, c1, l1, rfl, k1, hc1⟩ := open_api (hval 0 24 _ rfl rfl) h0
  obtain ⟨bs, rfl, rfl, rfl, hwb⟩ := open_int (k := .i64) Tryz.underlying3 (hval 1 3 _ rfl rfl) h1
  obtain ⟨s, rfl, rfl, rfl, hws⟩ := open_string Tryz.underlying9 (hval 2 9 _ rfl rfl) h2
  obtain ⟨n, rfl, rfl, rfl, hwn⟩ := open_int (k := .i64) Tryz.underlying3 (hval 3 3 _ rfl rfl) h3
  have hs2 : s.size ≤ 140737488355328 := by
    have h := of_decide_eq_true (hsz s.data.toList.length (DataW.weights_mem_each (j := 2) (t := 9) rfl rfl _ (by simp [DataW.weights, Tryz.underlying9])))
    unfold reachBytes at h
    rw [Array.length_toList] at h
    have h2 : s.size ≤ 140737488351232 := h
    omega
  have hbn := bounds_i64 hwn
  simp only [List.append_nil] at hW' hlt
  refine (law_texts W b1 a1 l1 n1 c1 bs n s k1 hc1 hs2 hbn.1 hbn.2).mono fun e W' ⟨he, hb⟩ => ?_
  subst he
  have hall : DataW.TrodAll enc Tryz.prog W' 0 (fun b => decide (b < W.heap.size)) true [24, 3, 9, 3] [.agg #[.bool b1, .slice a1 n1 c1], .int .i64 bs, .string s, .int .i64 n] [d0, _, _, _] (p0 ++ ([] ++ ([] ++ []))) :=
    trodAll_mk4 (Below.trod texts_laid (by kernel_rfl) (of_decide_eq_true (by kernel_rfl)) h0 hb (fun x hx => hlt x (by simp [hx]))) (Below.trod texts_laid (by kernel_rfl) (of_decide_eq_true (by kernel_rfl)) h1 hb (fun x hx => by simp at hx)) (Below.trod texts_laid (by kernel_rfl) (of_decide_eq_true (by kernel_rfl)) h2 hb (fun x hx => by simp at hx)) (Below.trod texts_laid (by kernel_rfl) (of_decide_eq_true (by kernel_rfl)) h3 hb (fun x hx => by simp at hx))
  simp only [List.append_nil] at hall
  exact ⟨_, rfl, _, _, _, [], p0, [], hW', trodAll_mk1 (shut_bool Tryz.underlying4 _), hall, rfl, hb.frame _, fun h => by cases h⟩

theorem texts_holds : Rows.LargeTextsSaid :=
  OpenClaim.holds_of_wide 5 Tryz.f5 rfl rfl rfl rfl rfl rfl rfl ⟨rfl, rfl, rfl, rfl, rfl⟩ rfl rfl rfl rfl rfl (by kernel_rfl) Tryz.func5 (by kernel_rfl)
    (of_decide_eq_true (by kernel_rfl)) (by unfold Func.isWrapper; first | (rw [if_pos (by decide +kernel)]; kernel_rfl) | (rw [if_neg (by decide +kernel)]; exact ⟨rfl, rfl⟩))
    (fun os started H enc _ => texts_lifted os started H enc)

theorem texts_card : Rows.LargeTextsCardSaid :=
  Claim7.holds_tied_plain_at .later [] [.data, .pinned, .pinned] true _ false texts_holds (fun _ h => by cases h) (by kernel_rfl) (fun _ h => by cases h) largeTexts_row_tie rfl ⟨rfl, rfl⟩ (by kernel_rfl) rfl
    (fun f fn hf hfn => by
      obtain rfl : f = 5 := Option.some.inj ((show Tryz.prog.funcNamed "effigy/effigylaw09.LargeTexts" = some 5 by kernel_rfl).symm.trans hf) |>.symm
      obtain rfl : fn = Tryz.f5 := (Option.some.inj (Tryz.func5.symm.trans hfn)).symm
      exact ⟨by kernel_rfl, fun j t ht => by
        rw [Tryz.params5] at ht
        have hm : t ∈ [24, 3, 9] := by have h := Array.mem_of_getElem? ht; simp at h ⊢; rcases h with h | h | h | h <;> simp [h]
        have hall : ([24, 3, 9].all fun u => !Tryz.prog.wantsStandIn u) = true := by kernel_rfl
        exact (show Tryz.prog.wantsStandIn t = false by simpa using List.all_eq_true.1 hall t hm)⟩)
    (by kernel_rfl)
#print axioms texts_card

end Go.Proofs.YtbffpkmfhkphdaaGreatDoor
