/- The walks of the reference's Of and Neg. The walk of SetString of package big's integers, of digits. -/
import Derived.Test.YtbffpkmfhkphdaaGreatDoorGX29
import Derived.Test.YtbffpkmfhkphdaaGreatDoorGX17
import Derived.Test.YtbffpkmfhkphdaaGreatDoorAtC
import Derived.Test.YtbffpkmfhkphdaaGreatDoorGX28
set_option linter.unusedVariables false
set_option linter.unusedSimpArgs false
namespace Go.Proofs.YtbffpkmfhkphdaaGreatDoor
open Go Go.RowKit Limb

theorem row_two (w : World) (t : TypeId) (K : IntKind) (a b : Nat) : Lay K (w.alloc (.cells #[.int K (a : Int), .int K (b : Int)] t)) (some ⟨w.heap.size, 0, none⟩) [a, b] := by
  have h : Row (w.alloc (.cells #[.int K (a : Int), .int K (b : Int)] t)) w.heap.size t (nums K [a, b]) := by unfold Row; exact heap_alloc_new _ _
  exact h.lay
theorem val_two (lo hi : Nat) : val [lo, hi] = lo + 4294967296 * hi := by simp [val]

set_option maxHeartbeats 800000 in
set_option maxRecDepth 100000 in
theorem ref_of (w : World) (v : Int) (h1 : -9223372036854775808 ≤ v) (h2 : v ≤ 9223372036854775807) :
    Calls Tryz.prog 23 #[.int .i64 v] w fun e w' => ∃ u, e = .returned u ∧ ApiV w' u v ∧ Below w.heap.size w w' := by
  obtain ⟨n, hn⟩ : ∃ n : Nat, n = v.natAbs := ⟨_, rfl⟩
  obtain ⟨lo, hlo⟩ : ∃ lo : Nat, lo = n % 4294967296 := ⟨_, rfl⟩
  obtain ⟨hi, hhi⟩ : ∃ hi : Nat, hi = n / 4294967296 := ⟨_, rfl⟩
  have elo : (n : Int) % 4294967296 = (lo : Int) := by omega
  have ehi : (n : Int) / 4294967296 = (hi : Int) := by omega
  have llo : lo < 4294967296 := by omega
  have lhi : hi < 4294967296 := by omega
  have ev : val [lo, hi] = v.natAbs := by rw [val_two]; omega
  have hlim : Lim [lo, hi] := Lim.cons llo (Lim.cons lhi Lim.nil)
  obtain ⟨W, hWe⟩ : ∃ W, W = (w.alloc (.cells #[.bool false, .slice none 0 0] 24)).alloc (.cells #[.int .u32 (lo : Int), .int .u32 (hi : Int)] 60) := ⟨_, rfl⟩
  have hW : Below w.heap.size w W := by rw [hWe]; exact ((Below.refl _ _).alloc (Nat.le_refl _) _).alloc (by rw [World.size_alloc]; omega) _
  have r0 : Row W w.heap.size 24 [.bool false, .slice none 0 0] := by rw [hWe]; apply Row.alloc; unfold Row; exact heap_alloc_new _ _
  have hl : Lay .u32 W (some ⟨w.heap.size + 1, 0, none⟩) [lo, hi] := by
    have := row_two (w.alloc (.cells #[.bool false, .slice none 0 0] 24)) 60 .u32 lo hi
    rw [World.size_alloc] at this; rw [hWe]; exact this
  have HWe := Lib.hid hWe; clear hWe
  have hM := fun (neg : Bool) hs => ref_made W neg (some ⟨w.heap.size + 1, 0, none⟩) [lo, hi] 2 2 v hl hlim rfl (by decide) (by decide) ev hs
  have HM := Lib.hid hM; clear hM
  clear hlo hhi ev hlim hl
  have fin : ∀ w1 u, ApiV w1 u v → Below W.heap.size W w1 → ∃ a c, u = .agg #[.bool (decide (v < 0)), .slice a (rep v.natAbs).length c] ∧
      w1.cell? ⟨w.heap.size, 0, none⟩ = some (.bool false) ∧ w1.cell? ⟨w.heap.size, 1, none⟩ = some (.slice none 0 0) ∧ w1.frozen? ⟨w.heap.size, 0, none⟩ = false ∧ w1.frozen? ⟨w.heap.size, 1, none⟩ = false ∧
      (w1.setCell ⟨w.heap.size, 0, none⟩ (.bool (decide (v < 0)))).cell? ⟨w.heap.size, 0, none⟩ = some (.bool (decide (v < 0))) ∧
      ((w1.setCell ⟨w.heap.size, 0, none⟩ (.bool (decide (v < 0)))).setCell ⟨w.heap.size, 1, none⟩ (.slice a (rep v.natAbs).length c)).cell? ⟨w.heap.size, 1, none⟩ = some (.slice a (rep v.natAbs).length c) ∧
      Hid (ApiV ((w1.setCell ⟨w.heap.size, 0, none⟩ (.bool (decide (v < 0)))).setCell ⟨w.heap.size, 1, none⟩ (.slice a (rep v.natAbs).length c)) (.agg #[.bool (decide (v < 0)), .slice a (rep v.natAbs).length c]) v ∧
        Below w.heap.size w ((w1.setCell ⟨w.heap.size, 0, none⟩ (.bool (decide (v < 0)))).setCell ⟨w.heap.size, 1, none⟩ (.slice a (rep v.natAbs).length c))) := by
    rintro w1 u ⟨a, c, rfl, hc, hl⟩ hb
    have r1 := r0.below hb r0.lt
    refine ⟨a, c, rfl, r1.cell_at 0, r1.cell_at 1, r1.free 0, r1.free 1, (r1.store_any 0 _).cell_at 0, ((r1.store_any 0 _).store_any 1 _).cell_at 1, Lib.hid ⟨⟨a, c, rfl, hc, hl.pair r1 _ _⟩, ?_⟩⟩
    exact below_store (below_store (hW.trans (hb.mono hW.size)) (Nat.le_refl _) _) (Nat.le_refl _) _
  have FIN := Lib.hid fin; clear fin
  by_cases hv : v < 0
  · have hd : decide (v < 0) = true := by simpa using hv
    have hw : IntKind.u64.wrap (-(IntKind.u64.wrap v)) = n := by rw [show v = -(n : Int) from by omega]; exact u64_neg (by omega)
    have HM1 := Lib.hid (HM.out true ⟨fun _ => by omega, fun h => by cases h⟩)
    clear hn
    go_enter Tryz.func23, Tryz.ntmps23
    go_wp2_with fail
    rw [← HWe.out]
    refine HM1.out.mono ?_
    rintro e w1 ⟨u, rfl, hu, hb⟩
    obtain ⟨a, c, rfl, k0, k1, k2, k3, e0, e1, hf⟩ := FIN.out w1 u hu hb
    rw [hd] at e0 e1 hf ⊢
    go_wp2_with fail
    (try simp only [Exit.inBlock, Exit.then])
    refine bodyPost_ret (v := .agg #[.bool true, .slice a (rep v.natAbs).length c]) (by simp [results, Tryz.results23, go_sem, e0, e1]) rfl ?_
    exact ⟨_, rfl, hf.out⟩
  · have hd : decide (v < 0) = false := by simpa using hv
    have hw : IntKind.u64.wrap v = n := by rw [show v = (n : Int) from by omega]; exact u64_nat (by omega)
    have HM1 := Lib.hid (HM.out false ⟨fun h => (by cases h), fun _ => by omega⟩)
    clear hn
    go_enter Tryz.func23, Tryz.ntmps23
    go_wp2_with fail
    rw [← HWe.out]
    refine HM1.out.mono ?_
    rintro e w1 ⟨u, rfl, hu, hb⟩
    obtain ⟨a, c, rfl, k0, k1, k2, k3, e0, e1, hf⟩ := FIN.out w1 u hu hb
    rw [hd] at e0 e1 hf ⊢
    go_wp2_with fail
    (try simp only [Exit.inBlock, Exit.then])
    refine bodyPost_ret (v := .agg #[.bool false, .slice a (rep v.natAbs).length c]) (by simp [results, Tryz.results23, go_sem, e0, e1]) rfl ?_
    exact ⟨_, rfl, hf.out⟩

/-- What follows a call that makes an integer, where it is stored into the result's cells g: the facts that the walk asks. -/
theorem api_store {w W w1 : World} {g : Nat} {u : Value} {z : Int} (r0 : Row W g 24 [.bool false, .slice none 0 0]) (hW : Below w.heap.size w W) (hg : w.heap.size ≤ g) (hu : ApiV w1 u z) (hb : Below W.heap.size W w1) :
    ∃ a c, u = .agg #[.bool (decide (z < 0)), .slice a (rep z.natAbs).length c] ∧
      w1.cell? ⟨g, 0, none⟩ = some (.bool false) ∧ w1.cell? ⟨g, 1, none⟩ = some (.slice none 0 0) ∧ w1.frozen? ⟨g, 0, none⟩ = false ∧ w1.frozen? ⟨g, 1, none⟩ = false ∧
      (w1.setCell ⟨g, 0, none⟩ (.bool (decide (z < 0)))).cell? ⟨g, 0, none⟩ = some (.bool (decide (z < 0))) ∧
      ((w1.setCell ⟨g, 0, none⟩ (.bool (decide (z < 0)))).setCell ⟨g, 1, none⟩ (.slice a (rep z.natAbs).length c)).cell? ⟨g, 1, none⟩ = some (.slice a (rep z.natAbs).length c) ∧
      Hid (ApiV ((w1.setCell ⟨g, 0, none⟩ (.bool (decide (z < 0)))).setCell ⟨g, 1, none⟩ (.slice a (rep z.natAbs).length c)) (.agg #[.bool (decide (z < 0)), .slice a (rep z.natAbs).length c]) z ∧
        Below w.heap.size w ((w1.setCell ⟨g, 0, none⟩ (.bool (decide (z < 0)))).setCell ⟨g, 1, none⟩ (.slice a (rep z.natAbs).length c))) := by
  obtain ⟨a, c, rfl, hc, hl⟩ := hu
  have r1 := r0.below hb r0.lt
  refine ⟨a, c, rfl, r1.cell_at 0, r1.cell_at 1, r1.free 0, r1.free 1, (r1.store_any 0 _).cell_at 0, ((r1.store_any 0 _).store_any 1 _).cell_at 1, Lib.hid ⟨⟨a, c, rfl, hc, hl.pair r1 _ _⟩, ?_⟩⟩
  exact below_store (below_store (hW.trans (hb.mono hW.size)) hg _) hg _

theorem ApiV.below {w w' : World} {u : Value} {z : Int} (h : ApiV w u z) (hb : Below w.heap.size w w') : ApiV w' u z := by
  obtain ⟨a, c, h1, h2, h3⟩ := h; exact ⟨a, c, h1, h2, h3.below hb⟩

set_option maxRecDepth 100000 in
theorem ref_neg (w : World) (v : Value) (z : Int) (hv : ApiV w v z) (hz : (rep z.natAbs).length ≤ 9223372036854775807) :
    Calls Tryz.prog 239 #[v] w fun e w' => ∃ u, e = .returned u ∧ ApiV w' u (-z) ∧ Below w.heap.size w w' := by
  obtain ⟨a, c, rfl, hc, hl⟩ := hv
  obtain ⟨W, hWe, r0, r1, hW, hsz⟩ := rows2 w 24 (.bool (decide (z < 0))) (.slice a (rep z.natAbs).length c) (.bool false) (.slice none 0 0)
  have HWe := Lib.hid hWe; clear hWe
  have hM := ref_made W (!decide (z < 0)) a (rep z.natAbs) (rep z.natAbs).length c (-z) (hl.below hW) (rep_lim _) rfl hz hc (by rw [val_rep]; omega) ⟨fun h => (by simp at h; omega), fun h => (by simp at h; omega)⟩
  obtain ⟨y, hy⟩ : ∃ y, y = -z := ⟨_, rfl⟩
  rw [← hy] at hM ⊢
  have HM := Lib.hid hM; clear hM
  have k0 := r0.cell_at 0
  have k1 := r0.cell_at 1
  simp only [List.getElem?_cons_zero, List.getElem?_cons_succ] at k0 k1
  obtain ⟨s, hs⟩ : ∃ s, s = decide (z < 0) := ⟨_, rfl⟩
  rw [← hs] at HM HWe k0 ⊢
  clear hs hl hy
  go_enter Tryz.func239, Tryz.ntmps239
  go_wp2_with fail
  rw [← HWe.out]
  refine HM.out.mono ?_
  rintro e w1 ⟨u, rfl, hu, hb⟩
  obtain ⟨a', c', rfl, q0, q1, q2, q3, e0, e1, hf⟩ := api_store r1 hW (by omega) hu hb
  go_wp2_with fail
  (try simp only [Exit.inBlock, Exit.then])
  refine bodyPost_ret (v := .agg #[.bool (decide (y < 0)), .slice a' (rep y.natAbs).length c']) (by simp [results, Tryz.results239, go_sem, e0, e1]) rfl ?_
  exact ⟨_, rfl, hf.out⟩

end Go.Proofs.YtbffpkmfhkphdaaGreatDoor

namespace Go.Proofs.YtbffpkmfhkphdaaGreatDoor
open Go Go.RowKit Limb

set_option maxHeartbeats 1600000 in
set_option maxRecDepth 100000 in
theorem int_setstring (w : World) (p : Nat) (v : Int) (s : ByteArray) (b : Nat) (hp : IntAt w p v) (hb : 2 ≤ b) (h36 : b ≤ 36) (hs : s.size ≤ 32768) (h0 : 0 < s.size) (hd : ∀ c ∈ bytesN s, dgt c < b) :
    Calls Tryz.prog 97 #[.pointer (some ⟨p, 0, none⟩), .string s, .int .i64 b] w fun e w' => e = .returned (.tuple #[.pointer (some ⟨p, 0, none⟩), .bool true]) ∧ IntAt w' p (numF b 0 (bytesN s) : Nat) ∧ Only [p] w w' := by
  have e0 : (!s.toList.isEmpty) = true := by
    rw [Lib.toList_data, Bool.not_eq_true', List.isEmpty_eq_false_iff]
    intro h
    have h1 : s.data.toList.length = 0 := by rw [h]; rfl
    rw [Array.length_toList] at h1
    have h2 : s.size = 0 := h1
    omega
  have hm := hd _ (bytesN_mem s 0 h0)
  obtain ⟨c, hc⟩ : ∃ c, s[0].toNat = c := ⟨_, rfl⟩
  rw [hc] at hm
  have e1 : ((c : Int) == 45) = false := by
    rw [beq_eq_false_iff_ne]
    rcases dgt_cases hm h36 with ⟨d, hcd, _, _⟩ | ⟨d, hcd, _, _⟩ <;> omega
  have HR := Lib.hid (big_read w s b hb h36 hs h0 hd)
  obtain ⟨N, hN⟩ : ∃ N, N = numF b 0 (bytesN s) := ⟨_, rfl⟩
  rw [← hN] at HR ⊢
  clear hN hm hd
  go_enter Tryz.func97, Tryz.ntmps97
  go_wp2_with fail
  refine HR.out.mono ?_
  rintro e w1 ⟨a, n, cap, rfl, hh, hb1⟩
  have Hm := Lib.hid (big_made w1 p v (N : Nat) false a n cap (hp.below hb1) (by rw [Int.natAbs_natCast]; exact hh.out.2.2) (by rw [Int.natAbs_natCast]; exact hh.out.1) hh.out.2.1 ⟨fun h => (by cases h), fun _ => Int.natCast_nonneg _⟩)
  have ho1 := Only.of_below (ps := [p]) hb1
  clear hh
  go_wp2_with fail
  refine Hm.out.mono ?_
  rintro e w2 ⟨rfl, h5, h6⟩
  have ho2 := ho1.trans h6 (by simp)
  go_wp2_with fail
  go_ret2
  exact ⟨rfl, h5, ho2⟩

theorem at_setstring {w1 X : World} {l : List (Nat × Int)} {p : Nat} {v : Int} {s : ByteArray} {b : Nat} (h : At w1 X ((p, v) :: l)) (hb : 2 ≤ b) (h36 : b ≤ 36) (hs : s.size ≤ 32768) (h0 : 0 < s.size) (hd : ∀ c ∈ bytesN s, dgt c < b) :
    Calls Tryz.prog 97 #[.pointer (some ⟨p, 0, none⟩), .string s, .int .i64 b] X fun e X' => e = .returned (.tuple #[.pointer (some ⟨p, 0, none⟩), .bool true]) ∧ At w1 X' ((p, (numF b 0 (bytesN s) : Nat)) :: l) := by
  refine (int_setstring X p v s b (h.ints _ (.head _)).1 hb h36 hs h0 hd).mono ?_
  rintro e X' ⟨rfl, h1, h2⟩
  exact ⟨rfl, by have := h.set (.head _) h2 h1; rwa [upd_head h.nd] at this⟩

end Go.Proofs.YtbffpkmfhkphdaaGreatDoor
