/- The walk of the reference's power: 2 to a power. -/
import Derived.Test.YtbffpkmfhkphdaaGreatDoorGX32
import Derived.Test.YtbffpkmfhkphdaaGreatDoorGX37
import Derived.Test.YtbffpkmfhkphdaaGreatDoorGX31
set_option linter.unusedVariables false
set_option linter.unusedSimpArgs false
namespace Go.Proofs.YtbffpkmfhkphdaaGreatDoor
open Go Go.RowKit Limb

theorem power_words {q s : Nat} (hs : s < 32) : (List.replicate (q + 1) 0).set q (2 ^ s) = List.replicate q 0 ++ [2 ^ s] := by
  rw [List.replicate_succ', List.set_append_right _ _ (by simp)]; simp
theorem power_val {q s : Nat} (hs : s < 32) : val ((List.replicate (q + 1) 0).set q (2 ^ s)) = 2 ^ (32 * q + s) := by
  rw [power_words hs, val_append, val_replicate, List.length_replicate, W_two, Nat.pow_add]; simp [val]

set_option maxHeartbeats 800000 in
set_option maxRecDepth 100000 in
theorem ref_power (w : World) (n : Nat) (hn : n ≤ 1048576) :
    Calls Tryz.prog 76 #[.int .i64 n] w fun e w' => ∃ u, e = .returned u ∧ ApiV w' u ((2 : Int) ^ n) ∧ Below w.heap.size w w' := by
  obtain ⟨q, hq⟩ : ∃ q, q = n / 32 := ⟨_, rfl⟩
  obtain ⟨s, hs⟩ : ∃ s, s = n % 32 := ⟨_, rfl⟩
  have e1 : (n : Int) / 32 = q := by omega
  have e2 : (n : Int) % 32 = s := by omega
  have ql : q ≤ 32768 := by omega
  have sl : s < 32 := by omega
  obtain ⟨z, hz⟩ : ∃ z : Int, z = (2 : Int) ^ n := ⟨_, rfl⟩
  have hz0 : 0 ≤ z := by rw [hz]; exact Int.pow_nonneg (by decide)
  have hv : val ((List.replicate (q + 1) 0).set q (2 ^ s)) = z.natAbs := by rw [power_val sl, hz, Int.natAbs_pow, show 32 * q + s = n by omega]; rfl
  rw [← hz]
  have Hz0 := Lib.hid hz0
  clear hq hs hz hz0 hn
  obtain ⟨p, hp⟩ : ∃ p, p = 2 ^ s := ⟨_, rfl⟩
  have ep : (2 : Int) ^ s = (p : Int) := by rw [hp, Int.natCast_pow]; rfl
  have epl : p < 4294967296 := by rw [hp]; exact Nat.pow_lt_pow_right (by decide) sl
  have ep1 : (1 : Int) * 2 ^ s = (p : Int) := by rw [Int.one_mul]; exact ep
  rw [← hp] at hv
  have HV := Lib.hid hv
  clear hp hv
  obtain ⟨W, hWe⟩ : ∃ W, W = w.alloc (.cells #[.bool false, .slice none 0 0] 24) := ⟨_, rfl⟩
  have hW : Below w.heap.size w W := by rw [hWe]; exact (Below.refl _ _).alloc (Nat.le_refl _) _
  have hWs : W.heap.size = w.heap.size + 1 := by rw [hWe, World.size_alloc]
  have r0 : Row W w.heap.size 24 [.bool false, .slice none 0 0] := by rw [hWe]; unfold Row; exact heap_alloc_new _ _
  have HWe := Lib.hid hWe; clear hWe
  have hlim : Lim ((List.replicate (q + 1) 0).set q p) := (Lim.replicate _ (by decide)).set epl
  have Hlim := Lib.hid hlim; clear hlim
  go_enter Tryz.func76, Tryz.ntmps76
  go_wp2_with (at_make; rw [← HWe.out]; refine wpList_make_row rfl _ _ _ rfl 60 (.int .u32 0) 4 Tryz.underlying22 info32 rfl _ _ _ _ (q + 1) (q + 1) rfl rfl (by simp) (by simp) (by omega) (by omega) (by omega) ?_; intro w1 g hg1 hg2 hrow hbel; rw [← nums_replicate] at hrow; have ig := row_index (P := Tryz.prog) Tryz.underlying22 size32 g (q + 1) (q + 1) .i64 (q : Int) q rfl (by omega); have hcell := hrow.cell (i := q) (by simp); have hfk := hrow.free q)
  have hr2 := hrow.store q (p : Int) p rfl
  have hB1 := hW.trans (hbel.mono hW.size)
  have hg3 : w.heap.size < g := by omega
  have hr0 := (r0.below hbel r0.lt).other (a := ⟨g, q, none⟩) (by simp; omega) (.int .u32 p)
  have hB2 := below_store hB1 (g := g) (i := q) (by omega) (.int .u32 p)
  obtain ⟨V, hV⟩ : ∃ V, V = w1.setCell ⟨g, q, none⟩ (.int .u32 p) := ⟨_, rfl⟩
  rw [← hV] at hr2 hr0 hB2 ⊢
  clear hV hrow ig hcell hfk hbel hB1
  refine (ref_made V false (some ⟨g, 0, none⟩) _ (q + 1) (q + 1) z hr2.lay Hlim.out (by simp) (by omega) (Nat.le_refl _) HV.out ⟨fun h => (by cases h), fun _ => Hz0.out⟩).mono ?_
  rintro e w4 ⟨u, rfl, hu, hb⟩
  obtain ⟨a, c, rfl, k0, k1, k2, k3, e0, e1, hf⟩ := api_store hr0 hB2 (Nat.le_refl _) hu hb
  go_wp2_with fail
  (try simp only [Exit.inBlock, Exit.then])
  refine bodyPost_ret (v := .agg #[.bool (decide (z < 0)), .slice a (rep z.natAbs).length c]) (by simp [results, Tryz.results76, go_sem, e0, e1]) rfl ?_
  exact ⟨_, rfl, hf.out⟩

end Go.Proofs.YtbffpkmfhkphdaaGreatDoor
