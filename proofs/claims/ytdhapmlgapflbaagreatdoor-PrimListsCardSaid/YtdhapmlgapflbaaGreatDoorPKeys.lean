/- prim.Numbers: the table's keys, rising. -/
import Derived.Test.YtdhapmlgapflbaaGreatDoorPTab
import Derived.Test.YtdhapmlgapflbaaGreatDoorKeysL
set_option linter.unusedVariables false
set_option linter.unusedSimpArgs false
namespace Go.Proofs.YtdhapmlgapflbaaGreatDoor
open Go Go.RowKit Go.Maps Go.Sort Go.Shelf Limb
theorem sorts_a (m : Nat) : AnyZI.SortsIn Tryz.prog Tryz.sortedA_ren Fence.wide m :=
  ⟨fun blk off cap ss W hH hblk hsz => callsIn_wide.2 (AnyM.slices_Sort_int Tryz.sortA blk off cap ss W hH hblk hsz),
   fun p cap W => callsIn_wide.2 (AnyM.slices_Sort_int_none Tryz.sortA p cap W)⟩
def numsK : List Int := [1, 2, 3, 4, 5, 6, 7, 8, 9, 10, 11, 12, 13, 14, 15, 16, 17, 18, 19, 40, 41, 42, 43, 44, 45, 46, 47, 48, 49, 50, 51, 52, 53, 54, 55, 56, 60, 61, 62, 63, 64, 70, 71, 72, 73, 74, 75, 80, 81, 82, 83, 84, 85, 86, 87, 88, 90, 91, 92, 120, 121, 122, 123, 124, 125, 126]
theorem sorted_keys {ss : List Int} (h : ss.Perm (upK 5)) : ss.mergeSort (fun x y => decide (x ≤ y)) = numsK := by
  rw [mergeSort_of_perm_i (h.trans (show (upK 5).Perm numsK by decide +kernel))]
  exact List.mergeSort_of_pairwise (by decide +kernel)
set_option maxHeartbeats 1000000 in
set_option maxRecDepth 100000 in
theorem prim_numbers (w : World) : Calls Tryz.prog 4 #[] w fun e w' => ∃ g c, e = .returned (.slice (some ⟨g, 0, none⟩) 66 c) ∧ Sl w' g 3 66 c (numsK.map encZ) ∧ w.heap.size ≤ g ∧ Below w.heap.size w w' := by
  refine (callsIn_wide (n := 6)).1 ?_
  refine callsIn_of_wp Tryz.func4 rfl trivial ?_ rfl
  simp only [Tryz.ntmps4, List.size_toArray, List.length_cons, List.length_nil, Nat.reduceAdd, Nat.reduceSub, Array.replicate_succ, Array.replicate_zero, List.push_toArray, List.append_toArray, List.nil_append, List.cons_append]
  have hfT : Fence.wide.fn 10 := trivial
  have cT : ∀ W, CallsIn Fence.wide 5 Tryz.prog 10 #[] W fun e w' => ∃ b l, e = .returned (.map (some b)) ∧ OwnM W w' b l ∧ l.map (·.1) = upK 5 := fun W => callsIn_wide.2 (tab_all W)
  have cK : ∀ mb W, CallsIn Fence.wide 5 Tryz.prog 9 #[.map mb] W fun e w' => e = .returned (.func (.func 15) #[] #[.pointer (some ⟨W.heap.size, 0, none⟩)]) ∧ w' = W.alloc (.cells #[.map mb] 39) := fun mb W => AnyZI.keys_in Tryz.keysA Fence.wide 5 trivial rfl mb W
  have hfK : Fence.wide.fn 9 := trivial
  have hfS : Fence.wide.fn 8 := trivial
  gi_wp2_with fail
  refine (cT _).mono ?_
  rintro e W ⟨b, l, rfl, hO, hk⟩
  (try dsimp only)
  have okl := ksOk_parts hk (upK_ok 5 (by omega))
  have hown : W.ownsMap Tryz.prog 3 heldR b l.length (putsD l) := hO.2.1
  have hbl := hown.lt
  have hsz := putsD_size okl.1 okl.2.1
  have hseq : SeqGives Fence.wide 2 Tryz.prog 15 #[.pointer (some ⟨W.heap.size, 0, none⟩)] encZ (fun ss => ss.Perm (intKeys (putsD l))) (Maps.size (putsD l)) (W.alloc (.cells #[.map (some b)] 39)) :=
    AnyZI.keys_gives (ρ := Tryz.keysA_ren) { Tryz.keysA with } Fence.wide _ trivial rfl (by omega) W.heap.size b l.length (putsD l) _ (by simp) (by simp) (by
      obtain ⟨es, clock, hb, Ft, hs, hD⟩ := hown
      exact ⟨es, clock, (Below.heap_alloc _ _ b hbl).trans hb, Ft, hs, hD⟩)
  have cS := AnyZI.sorted_in Tryz.sortedA Fence.wide 5 trivial trivial trivial trivial rfl (by omega) (sorts_a _) (enters_of Tryz.func14 (by kernel_rfl) rfl) 15 #[.pointer (some ⟨W.heap.size, 0, none⟩)] trivial (enters_of Tryz.func15 (by kernel_rfl) rfl) _ _ (by rw [hsz]; unfold maxLen; have := okl.2.2; omega) (by rw [hsz]; have := okl.2.2; omega) _ hseq
  change CallsIn _ _ Tryz.prog 8 _ _ _ at cS
  have HS := Lib.hid cS
  have HO := Lib.hid hO
  have HP := Lib.hid (show (intKeys (putsD l)).Perm (upK 5) from by rw [← hk]; exact (putsD_keys okl.1 okl.2.1).symm)
  clear okl hown hbl hsz hseq cS hO hk
  gi_wp2_with (first
    | (gi_at_call 9; refine (cK _ _).mono ?_; rintro e w' ⟨rfl, rfl⟩)
    | (gi_at_call 8; refine HS.out.mono ?_; rintro e w' ⟨v, ss, rfl, hS, hrow, hnil, hb⟩))
  have hlen : ss.length = 66 := by
    have := (hS.trans HP.out).length_eq
    rw [this]; decide +kernel
  have hsk := sorted_keys (hS.trans HP.out)
  rw [hsk, hlen] at hrow
  obtain ⟨g, c, rfl, hgb, hsl⟩ := Sl.of_owns (show w'.ownsRow 0 3 1 v 66 (numsK.map encZ) from ⟨hrow.1, hrow.2.imp id (fun ⟨g, cap, cur, h1, h2, h3⟩ => ⟨g, cap, cur, h1, Nat.zero_le _, h3⟩)⟩) (by omega)
  have hge : w.heap.size ≤ g := by
    have h2 := hrow.2
    rcases h2 with ⟨h3, _⟩ | ⟨g', cap, cur, h1, h2, _⟩
    · cases h3
    · simp only [Value.slice.injEq, Option.some.injEq, Addr.mk.injEq, and_true, true_and] at h1
      have := HO.out.2.2.size
      have h4 : (W.alloc (.cells #[.map (some b)] 39)).heap.size = W.heap.size + 1 := World.size_alloc _ _
      omega
  have hbb : Below w.heap.size w w' := (HO.out.2.2.alloc HO.out.2.2.size _).trans (hb.mono (by have h4 : (W.alloc (.cells #[.map (some b)] 39)).heap.size = W.heap.size + 1 := World.size_alloc _ _; have := HO.out.2.2.size; omega))
  clear hrow hS hnil hsk hlen hb HS HP HO cK cT hgb
  go_ret
  exact ⟨g, c, rfl, hsl, hge, hbb⟩
end Go.Proofs.YtdhapmlgapflbaaGreatDoor
