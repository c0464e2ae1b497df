/- LargeObjects: for every integer, every slice of words, every int and every oop the law answers true, and they read behind the call as they read before. Conditions: the package-level variables effigy/oop.spares, unicode.CaseRanges, unicode/utf8.first and unicode/utf8.acceptRanges hold what the program's text lays in them (the card ties this to the text). -/
import Derived.Test.YtbffpkmfhkphdaaGreatDoorGX52
import Derived.Test.YtbffpkmfhkphdaaGreatDoorGX21
import Derived.Test.YtbffpkmfhkphdaaGreatDoorTie
import Derived.Test.YtbffpkmfhkphdaaGreatDoorCards
set_option linter.unusedVariables false
set_option linter.unusedSimpArgs false
set_option maxRecDepth 1000000
set_option maxHeartbeats 6400000
namespace Go.Proofs.YtbffpkmfhkphdaaGreatDoor
open Go Go.ChangeShapes Go.WideShapes Go.ChangeAt Go.RowKit Limb
theorem open_words {H : Type} {enc : TypeId × Value → H} {W : World} {base : Nat} {v : Value} {d : DataW H} {p : List MemPlace} (hv : Value.okWide Tryz.prog W .any base 22 v) (h : DataW.Trod enc Tryz.prog W 0 (fun _ => true) true 22 v d p) : ∃ a n c l, v = .slice a n c ∧ Came W false a n l := by
  obtain ⟨a0, n0, c0, rfl⟩ := okWide_slice Tryz.underlying22 hv; obtain ⟨fuel, h⟩ := h; rcases open_ints Tryz.underlying22 Tryz.underlying60 (by kernel_rfl) h with ⟨e1, _⟩ | ⟨a, len, cap, zs, e1, _, hl, hm, hz, _, hc, hw⟩
  · have e1 : Value.slice a0 n0 c0 = .slice none 0 0 := (by simpa [Value.cells] using e1); rw [e1]; exact ⟨none, 0, 0, [], rfl, ⟨Lay.nil _ _ _, Lim.nil, rfl, by decide⟩⟩
  · have e1 : Value.slice a0 n0 c0 = .slice (some a) len cap := (by simpa [Value.cells] using e1); rw [e1]; simp only [if_true] at hz; obtain ⟨l, hcame⟩ := came_of_ints (b := false) hl hm hz hc hw; exact ⟨some a, len, cap, l, rfl, hcame⟩
theorem objects_own : ownKnob Tryz.prog.godebug = none := by kernel_rfl
theorem objects_laid : laidOutB Tryz.prog = true := by kernel_rfl
theorem objects_lifted (os : Os) (started : os.Started) (H : Type) (enc : TypeId × Value → H) : ReturnsInHanded {} Tryz.checked os 7 .any (fun w args => (Rows.largeObjectsSpec.pre enc Tryz.prog Tryz.f7 [] false w args ∧ laidMetH Tryz.prog Rows.largeObjectsRow.laid w) ∧ sizedMet enc Tryz.prog Tryz.f7 (OpenSpec.ofChange Rows.largeObjectsSpec) false w args) (Rows.largeObjectsSpec.post enc Tryz.prog Tryz.f7 false true false false) := by
  refine returnsInHanded_of_change_and (C := Tryz.checked) (X := fun w _ => laidMetH Tryz.prog Rows.largeObjectsRow.laid w) (fun _ _ _ hh h => h.of_heap hh) objects_own started (by kernel_rfl) Tryz.func7
    (ChangeSpec.witness_shaped (enc := enc) (C := Tryz.checked) (os := os) (X := fun w _ => laidMetH Tryz.prog Rows.largeObjectsRow.laid w) false (World.laidAll Tryz.prog os Rows.largeObjectsRow.laid) #[.agg #[.bool false, .slice none 0 0], .slice none 0 0, .int .i64 0, .int .u32 0] 8 (World.laidAll_os _ _ _)
      (World.shaped_of_ZipB (by kernel_rfl) (by kernel_rfl)) (by kernel_rfl) (by kernel_rfl) (by kernel_rfl)
      (by rw [MakeChecks.laidMetH_plain _ _ _ (by kernel_rfl)]; exact laidMet_laidAll _ (by kernel_rfl) (by kernel_rfl))) ?_
  intro W base args ds gs before hval0 hW _ _ hX _; have hval : ∀ (j : Nat) t v, Tryz.f7.params[j]? = some t → args[j]? = some v → Value.okWide Tryz.prog W .any base t v := hval0; have hW' := hW; have hlt : ∀ p ∈ before, p.block < W.heap.size := fun p hp => hW.lt p hp
  obtain ⟨p, q, hA0, hV, rfl, _, _⟩ := hW; have hA : DataW.TrodAll enc Tryz.prog W 0 (fun _ => true) true Tryz.f7.params.toList args.toList ds p := hA0; rw [Tryz.params7] at hA hval; obtain ⟨v0, v1, v2, v3, d0, d1, d2, d3, p0, p1, p2, p3, rfl, rfl, rfl, h0, h1, h2, h3⟩ := trodAll_four hA; obtain ⟨rfl, rfl⟩ := trodVars_none hV; obtain ⟨b1, a1, n1, c1, l1, rfl, k1, hc1⟩ := open_api (hval 0 24 _ rfl rfl) h0; obtain ⟨a2, n2, c2, l2, rfl, k2⟩ := open_words (hval 1 22 _ rfl rfl) h1; obtain ⟨n, rfl, rfl, rfl, hwn⟩ := open_int (k := .i64) Tryz.underlying3 (hval 2 3 _ rfl rfl) h2; obtain ⟨op, rfl, rfl, rfl, hwo⟩ := open_int (k := .u32) Tryz.underlying61 (hval 3 61 _ rfl rfl) h3; have hbn := bounds_i64 hwn; have hbo := bounds_u32 hwo; obtain ⟨o, rfl⟩ : ∃ o : Nat, op = (o : Int) := ⟨op.toNat, by omega⟩; simp only [List.append_nil] at hW' hlt; refine (law_objects W (spares_of hX) b1 a1 l1 n1 c1 k1 a2 l2 n2 c2 k2 n hbn.1 hbn.2 o (by omega)).mono fun e W' ⟨he, hb⟩ => ?_
  subst he; have hall : DataW.TrodAll enc Tryz.prog W' 0 (fun b => decide (b < W.heap.size)) true [24, 22, 3, 61] [.agg #[.bool b1, .slice a1 n1 c1], .slice a2 n2 c2, .int .i64 n, .int .u32 o] [d0, d1, _, _] (p0 ++ (p1 ++ ([] ++ []))) := trodAll_mk4 (Below.trod objects_laid (by kernel_rfl) (of_decide_eq_true (by kernel_rfl)) h0 hb (fun x hx => hlt x (by simp [hx]))) (Below.trod objects_laid (by kernel_rfl) (of_decide_eq_true (by kernel_rfl)) h1 hb (fun x hx => hlt x (by simp [hx]))) (Below.trod objects_laid (by kernel_rfl) (of_decide_eq_true (by kernel_rfl)) h2 hb (fun x hx => by simp at hx)) (Below.trod objects_laid (by kernel_rfl) (of_decide_eq_true (by kernel_rfl)) h3 hb (fun x hx => by simp at hx)); simp only [List.append_nil] at hall; exact ⟨_, rfl, _, _, _, [], p0 ++ p1, [], hW', trodAll_mk1 (shut_bool Tryz.underlying4 _), hall, rfl, hb.frame _, fun h => by cases h⟩
theorem objects_holds : Rows.LargeObjectsSaid :=
  OpenClaim.holds_of_wide 7 Tryz.f7 rfl rfl rfl rfl rfl rfl rfl ⟨rfl, rfl, rfl, rfl, rfl⟩ rfl rfl rfl rfl rfl (by kernel_rfl) Tryz.func7 objects_closed
    (of_decide_eq_true (by as_aux_lemma => kernel_rfl)) (by as_aux_lemma => unfold Func.isWrapper; first | (rw [if_pos (by decide +kernel)]; kernel_rfl) | (rw [if_neg (by decide +kernel)]; exact ⟨rfl, rfl⟩))
    (fun os started H enc _ => objects_lifted os started H enc)
theorem objects_card : Rows.LargeObjectsCardSaid :=
  Claim7.holds_tied_plain_at .later [] [.data, .data, .pinned, .pinned] true _ false objects_holds (fun _ h => by cases h) (by kernel_rfl) (fun _ h => by cases h) largeObjects_row_tie rfl ⟨rfl, rfl⟩ (by kernel_rfl) rfl
    (fun f fn hf hfn => by
      obtain rfl : f = 7 := Option.some.inj ((show Tryz.prog.funcNamed "effigy/effigylaw09.LargeObjects" = some 7 by kernel_rfl).symm.trans hf) |>.symm
      obtain rfl : fn = Tryz.f7 := (Option.some.inj (Tryz.func7.symm.trans hfn)).symm
      exact ⟨by kernel_rfl, fun j t ht => by
        rw [Tryz.params7] at ht; have hm : t ∈ [24, 22, 3, 61] := by simpa using Array.mem_of_getElem? ht
        have hall : ([24, 22, 3, 61].all fun u => !Tryz.prog.wantsStandIn u) = true := (by kernel_rfl); exact (show Tryz.prog.wantsStandIn t = false by simpa using List.all_eq_true.1 hall t hm)⟩)
    (by kernel_rfl)
#print axioms objects_card
end Go.Proofs.YtbffpkmfhkphdaaGreatDoor
