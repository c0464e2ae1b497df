/- PrimCopies: for any bytes and any two ints the law answers true, and they read behind the call as they read before. Conditions: the package-level variable effigy/oop.spares holds what the program's text lays in it (the card ties this to the text). -/
import Derived.Test.YteiikhcadjdkcaaGreatDoorGX46
import Derived.Test.YteiikhcadjdkcaaGreatDoorGX10
import Derived.Test.YteiikhcadjdkcaaGreatDoorGX00
import Derived.Test.YteiikhcadjdkcaaGreatDoorGX01
import Derived.Test.YteiikhcadjdkcaaGreatDoorTie
import Derived.Test.YteiikhcadjdkcaaGreatDoorCards
set_option linter.unusedVariables false
set_option linter.unusedSimpArgs false
namespace Go.Proofs.YteiikhcadjdkcaaGreatDoor
open Go Go.ChangeShapes Go.WideShapes Go.ChangeAt Go.RowKit Limb
section
variable {H : Type} {enc : TypeId × Value → H}
set_option maxRecDepth 100000 in
theorem open_bytes {W : World} {base : Nat} {v : Value} {d : DataW H} {p : List MemPlace} (hv : Value.okWide Tryz.prog W .any base 22 v) (h : DataW.Trod enc Tryz.prog W 0 (fun _ => true) true 22 v d p) :
    ∃ a n c l, v = .slice a n c ∧ CameB W a n c l := by
  obtain ⟨a1, n1, c1, rfl⟩ := okWide_slice Tryz.underlying22 hv
  obtain ⟨fuel, hf⟩ := h
  rcases open_ints Tryz.underlying22 Tryz.underlying5 (by kernel_rfl) hf with ⟨hcs, hx⟩ | ⟨a, len, cap, zs, hcs, _, hl, hm, hz, _, hcell, hwz⟩
  · simp [Value.cells] at hcs
    obtain ⟨rfl, rfl, rfl⟩ := hcs
    exact ⟨none, 0, 0, [], rfl, Lay.nil _ _ _, (fun x hx => by cases hx), rfl, Nat.le_refl _⟩
  · simp [Value.cells] at hcs
    obtain ⟨rfl, rfl, rfl⟩ := hcs
    simp only [if_true] at hz
    refine ⟨_, _, _, (zs.take n1).map Int.toNat, rfl, ?_, fun x hx => ?_, by simp; omega, hl⟩
    · by_cases h0 : 0 < n1
      · obtain ⟨blk, off, rfl, hc2⟩ := ints_at hcell (by omega)
        refine ⟨blk, off, fun _ => ⟨rfl, World.block_lt_of_cell? W _ (hc2 0 (by omega))⟩, fun i hi => ?_⟩
        have hi' : i < n1 := by simp at hi; omega
        have hiz : i < zs.length := by omega
        rw [hc2 i hiz]
        have e : zs.getD i 0 = zs[i] := by rw [List.getD_eq_getElem?_getD, List.getElem?_eq_getElem hiz]; rfl
        have hb := range_u8 hwz i
        rw [List.getElem?_eq_getElem hiz] at hb
        replace hb : 0 ≤ zs[i] ∧ zs[i] ≤ 255 := hb
        rw [e, wd_lt hi]
        simp only [List.getElem_map, List.getElem_take]
        rw [Int.toNat_of_nonneg hb.1]
      · have : n1 = 0 := by omega
        subst this
        exact Lay.nil _ _ _
    · obtain ⟨z, hz1, rfl⟩ := List.mem_map.1 hx
      obtain ⟨i, hi, rfl⟩ := List.getElem_of_mem (List.mem_of_mem_take hz1)
      have hb := range_u8 hwz i
      rw [List.getElem?_eq_getElem hi] at hb
      replace hb : 0 ≤ zs[i] ∧ zs[i] ≤ 255 := hb
      omega
end
theorem copies_own : ownKnob Tryz.prog.godebug = none := by kernel_rfl
theorem copies_laid : laidOutB Tryz.prog = true := by kernel_rfl
set_option maxRecDepth 100000 in
theorem copies_lifted (os : Os) (started : os.Started) (H : Type) (enc : TypeId × Value → H) :
    ReturnsInHanded {} Tryz.checked os 3 .any (fun w args => (Rows.primCopiesSpec.pre enc Tryz.prog Tryz.f3 [] false w args ∧ laidMetH Tryz.prog Rows.primCopiesRow.laid w) ∧ sizedMet enc Tryz.prog Tryz.f3 (OpenSpec.ofChange Rows.primCopiesSpec) false w args)
      (Rows.primCopiesSpec.post enc Tryz.prog Tryz.f3 false true false false) := by
  refine returnsInHanded_of_change_and (C := Tryz.checked) (X := fun w _ => laidMetH Tryz.prog Rows.primCopiesRow.laid w) (fun _ _ _ hh h => h.of_heap hh) copies_own started (by kernel_rfl) Tryz.func3
    (ChangeSpec.witness_shaped (enc := enc) (C := Tryz.checked) (os := os) (X := fun w _ => laidMetH Tryz.prog Rows.primCopiesRow.laid w) false (World.laidAll Tryz.prog os Rows.primCopiesRow.laid) #[.slice none 0 0, .int .i64 0, .int .i64 0] 8 (World.laidAll_os _ _ _)
      (World.shaped_of_ZipB (by kernel_rfl) (by kernel_rfl)) (by kernel_rfl) (by kernel_rfl) (by kernel_rfl)
      (by rw [MakeChecks.laidMetH_plain _ _ _ (by kernel_rfl)]; exact laidMet_laidAll _ (by kernel_rfl) (by kernel_rfl))) ?_
  intro W base args ds gs before hval0 hW _ _ hX _
  have hval : ∀ (j : Nat) t v, Tryz.f3.params[j]? = some t → args[j]? = some v → Value.okWide Tryz.prog W .any base t v := hval0
  have hW' := hW
  obtain ⟨p, q, hA0, hV, rfl, _, _⟩ := hW
  have hA : DataW.TrodAll enc Tryz.prog W 0 (fun _ => true) true Tryz.f3.params.toList args.toList ds p := hA0
  rw [Tryz.params3] at hA hval
  obtain ⟨vs, hvs⟩ : ∃ vs, vs = args.toList := ⟨_, rfl⟩
  rw [← hvs] at hA
  obtain ⟨v0, vs0, d0, ds0, p0, q0, rfl, rfl, rfl, h0, hA⟩ := trodAll_cons hA
  obtain ⟨v1, vs1, d1, ds1, p1, q1, rfl, rfl, rfl, h1, hA⟩ := trodAll_cons hA
  obtain ⟨v2, vs2, d2, ds2, p2, q2, rfl, rfl, rfl, h2, hA⟩ := trodAll_cons hA
  obtain ⟨rfl, rfl, rfl⟩ := trodAll_nil hA
  obtain rfl : args = #[v0, v1, v2] := by cases args; simp at hvs; subst hvs; rfl
  obtain ⟨rfl, rfl⟩ := trodVars_none hV
  obtain ⟨a, n, c, l, rfl, hcame⟩ := open_bytes (hval 0 22 _ rfl rfl) h0
  obtain ⟨x, rfl, rfl, rfl, hwb⟩ := open_int (k := .i64) Tryz.underlying3 (hval 1 3 _ rfl rfl) h1
  obtain ⟨y, rfl, rfl, rfl, hwc⟩ := open_int (k := .i64) Tryz.underlying3 (hval 2 3 _ rfl rfl) h2
  simp only [List.append_nil, List.nil_append] at hW'
  have hlt : ∀ z ∈ p0, z.block < W.heap.size := fun z hz => hW'.lt z (by simpa using hz)
  have hbx := bounds_i64 hwb
  refine (law_copies W (spares_of hX) a n c l hcame x y hbx.1 hbx.2).mono fun e W' ⟨he, hb⟩ => ?_
  subst he
  have hall : DataW.TrodAll enc Tryz.prog W' 0 (fun b => decide (b < W.heap.size)) true [22, 3, 3] [.slice a n c, .int .i64 x, .int .i64 y] [_, _, _] (p0 ++ ([] ++ ([] ++ []))) :=
    trodAll_cons_mk (Below.trod copies_laid (by kernel_rfl) (of_decide_eq_true (by kernel_rfl)) h0 hb hlt) (trodAll_cons_mk (Below.trod copies_laid (by kernel_rfl) (of_decide_eq_true (by kernel_rfl)) h1 hb (fun x hx => by simp at hx)) (trodAll_cons_mk (Below.trod copies_laid (by kernel_rfl) (of_decide_eq_true (by kernel_rfl)) h2 hb (fun x hx => by simp at hx)) trodAll_mk0))
  simp only [List.append_nil, List.nil_append] at hall
  exact ⟨_, rfl, _, _, _, [], p0, [], hW', trodAll_mk1 (shut_bool Tryz.underlying4 _), hall, rfl, hb.frame _, fun h => by cases h⟩
theorem copies_holds : Rows.PrimCopiesSaid :=
  OpenClaim.holds_of_wide 3 Tryz.f3 rfl rfl rfl rfl rfl rfl rfl ⟨rfl, rfl, rfl, rfl, rfl⟩ rfl rfl rfl rfl rfl (by kernel_rfl) Tryz.func3 copies_closed
    (of_decide_eq_true (by kernel_rfl)) (by unfold Func.isWrapper; first | (rw [if_pos (by decide +kernel)]; kernel_rfl) | (rw [if_neg (by decide +kernel)]; exact ⟨rfl, rfl⟩))
    (fun os started H enc _ => copies_lifted os started H enc)
theorem copies_card : Rows.PrimCopiesCardSaid :=
  Claim7.holds_tied_plain_at .later [] [.data, .data, .data, .data, .sentinel, .sentinel, .data, .pinned] true _ true copies_holds (fun _ h => by cases h) (by kernel_rfl) (fun _ h => by cases h) primCopies_row_tie rfl ⟨rfl, rfl⟩ (by kernel_rfl) rfl
    (fun f fn hf hfn => by
      obtain rfl : f = 3 := Option.some.inj ((show Tryz.prog.funcNamed "effigy/effigylaw08.PrimCopies" = some 3 by kernel_rfl).symm.trans hf) |>.symm
      obtain rfl : fn = Tryz.f3 := (Option.some.inj (Tryz.func3.symm.trans hfn)).symm
      exact ⟨cl_looks, fun j t ht => by
        rw [Tryz.params3] at ht
        have hm : t ∈ [22, 3, 3] := by simpa using Array.mem_of_getElem? ht
        have hall : ([22, 3, 3].all fun u => !Tryz.prog.wantsStandIn u) = true := by kernel_rfl
        exact (show Tryz.prog.wantsStandIn t = false by simpa using List.all_eq_true.1 hall t hm)⟩)
    cl_goes
#print axioms copies_card
end Go.Proofs.YteiikhcadjdkcaaGreatDoor
