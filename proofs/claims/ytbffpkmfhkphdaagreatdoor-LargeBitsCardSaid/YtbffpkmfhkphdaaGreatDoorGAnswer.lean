/- The walk of the law's same, of two integers that are written alike. The walk of the law's is, where an answer is the document's. -/
import Derived.Test.YtbffpkmfhkphdaaGreatDoorBigCompareC
namespace Go.Proofs.YtbffpkmfhkphdaaGreatDoor
open Go Go.RowKit Limb

theorem below_drewN' {B : Nat} {w w' : World} (h : Below B w w') (n : Nat) : Below B w (w'.drewN n) := ⟨h.os, h.tape, h.output, h.size, h.block⟩

set_option maxHeartbeats 800000 in
set_option maxRecDepth 100000 in
theorem law_same (w : World) (b : Bool) (a1 a2 : Option Addr) (l : List Nat) (n c1 c2 : Nat) (h1 : Lay .u32 w a1 l) (h2 : Lay .u32 w a2 l) (hn : n = l.length) (hm : n ≤ 9223372036854775807) :
    Calls Tryz.prog 15 #[.agg #[.bool b, .slice a1 n c1], .agg #[.bool b, .slice a2 n c2]] w fun e w' => e = .returned (.bool true) ∧ Below w.heap.size w w' := by
  obtain ⟨W, hWe, r0, r1, hW, hsz⟩ := rows2 w 24 (.bool b) (.slice a1 n c1) (.bool b) (.slice a2 n c2)
  have HWe := Lib.hid hWe; clear hWe
  obtain ⟨b1, off1, hix, hcx, _⟩ := (h1.below hW).use 22 60 Tryz.underlying22 size32 c1
  obtain ⟨b2, off2, hiy, hcy, _⟩ := (h2.below hW).use 22 60 Tryz.underlying22 size32 c2
  rw [← hn] at hix hcx hiy hcy
  have HX := Lib.hid hix; clear hix
  have HCX := Lib.hid hcx; clear hcx
  have HY := Lib.hid hiy; clear hiy
  have HCY := Lib.hid hcy; clear hcy
  have k0 := r0.cell_at 0
  have k1 := r0.cell_at 1
  have k2 := r1.cell_at 0
  have k3 := r1.cell_at 1
  simp only [List.getElem?_cons_zero, List.getElem?_cons_succ] at k0 k1 k2 k3
  clear hn h1 h2 r0 r1
  go_enter Tryz.func15, Tryz.ntmps15
  go_wp2_with fail
  rw [← HWe.out]
  go_loopw [5] (fun i wr => ∃ (k : Nat), k ≤ n ∧ i = .int .i64 k ∧ ∃ q, wr = W.drewN q) (fun i _ => n - (intOf i).toNat)
  case atStart => exact ⟨0, Nat.zero_le _, rfl, 0, rfl⟩
  case round =>
    obtain ⟨k, hk, rfl, q, rfl⟩ := hrel
    by_cases hlt : k < n
    · have ix := fun q => HX.out (W.drewN q) .i64 k (by omega) (by omega)
      have iy := fun q => HY.out (W.drewN q) .i64 k (by omega) (by omega)
      simp only [Int.toNat_natCast] at ix iy
      have cx := HCX.out W (Below.refl _ _) k (by omega)
      have cy := HCY.out W (Below.refl _ _) k (by omega)
      go_wp2
      go_quiet (fail)
      go_wp2
      go_roundw
      case rel => exact ⟨k + 1, by omega, by go_num, by first | exact ⟨_, rfl⟩ | (simp only [World.drewN_drewN]; exact ⟨_, rfl⟩)⟩
      case measure => simp [intOf]; omega
    · obtain rfl : k = n := by omega
      go_wp2
      go_ret
      exact ⟨rfl, below_drewN' hW _⟩

end Go.Proofs.YtbffpkmfhkphdaaGreatDoor

namespace Go.Proofs.YtbffpkmfhkphdaaGreatDoor
open Go Go.RowKit Limb

theorem same_nil (w : World) : Calls Tryz.prog 15 #[.agg #[.bool false, .slice none 0 0], .agg #[.bool false, .slice none 0 0]] w fun e w' => e = .returned (.bool true) ∧ Below w.heap.size w w' :=
  law_same w false none none [] 0 0 0 (Lay.nil _ _ _) (Lay.nil _ _ _) rfl (by decide)

set_option maxRecDepth 100000 in
theorem is_no (w : World) (b : Bool) (a : Option Addr) (n c : Nat) :
    Calls Tryz.prog 13 #[.bool false, .agg #[.bool false, .slice none 0 0], .int .i64 1, .agg #[.bool b, .slice a n c]] w fun e w' => e = .returned (.bool true) ∧ Below w.heap.size w w' := by
  obtain ⟨W, hWe, r0, r1, hW, hsz⟩ := rows2 w 24 (.bool false) (.slice none 0 0) (.bool b) (.slice a n c)
  have HWe := Lib.hid hWe; clear hWe
  have k0 := r0.cell_at 0
  have k1 := r0.cell_at 1
  simp only [List.getElem?_cons_zero, List.getElem?_cons_succ] at k0 k1
  clear r0 r1
  go_enter Tryz.func13, Tryz.ntmps13
  go_wp2_with fail
  rw [← HWe.out]
  refine (same_nil W).mono ?_
  rintro e w1 ⟨rfl, hb⟩
  go_wp2_with fail
  go_ret
  exact ⟨rfl, hW.trans (hb.mono hW.size)⟩

set_option maxRecDepth 100000 in
theorem is_long (w : World) (b : Bool) (a : Option Addr) (n c : Nat) (hn : 1024 < n) :
    Calls Tryz.prog 13 #[.bool true, .agg #[.bool false, .slice none 0 0], .int .i64 2, .agg #[.bool b, .slice a n c]] w fun e w' => e = .returned (.bool true) ∧ Below w.heap.size w w' := by
  obtain ⟨W, hWe, r0, r1, hW, hsz⟩ := rows2 w 24 (.bool false) (.slice none 0 0) (.bool b) (.slice a n c)
  have HWe := Lib.hid hWe; clear hWe
  have k0 := r0.cell_at 0
  have k1 := r0.cell_at 1
  have k2 := r1.cell_at 0
  have k3 := r1.cell_at 1
  simp only [List.getElem?_cons_zero, List.getElem?_cons_succ] at k0 k1 k2 k3
  have d1 : decide (1024 < n) = true := by rw [decide_eq_true_eq]; exact hn
  clear r0 r1
  go_enter Tryz.func13, Tryz.ntmps13
  go_wp2_with fail
  rw [← HWe.out]
  refine (same_nil W).mono ?_
  rintro e w1 ⟨rfl, hb⟩
  go_wp2_with fail
  go_ret
  exact ⟨rfl, hW.trans (hb.mono hW.size)⟩

set_option maxRecDepth 100000 in
theorem is_ok (w : World) (b : Bool) (a a' : Option Addr) (l : List Nat) (n c c' : Nat) (h1 : Lay .u32 w a l) (h2 : Lay .u32 w a' l) (hl : n = l.length) (hn : n ≤ 1024) :
    Calls Tryz.prog 13 #[.bool true, .agg #[.bool b, .slice a n c], .int .i64 0, .agg #[.bool b, .slice a' n c']] w fun e w' => e = .returned (.bool true) ∧ Below w.heap.size w w' := by
  obtain ⟨W, hWe, r0, r1, hW, hsz⟩ := rows2 w 24 (.bool b) (.slice a n c) (.bool b) (.slice a' n c')
  have HWe := Lib.hid hWe; clear hWe
  have k0 := r0.cell_at 0
  have k1 := r0.cell_at 1
  have k2 := r1.cell_at 0
  have k3 := r1.cell_at 1
  simp only [List.getElem?_cons_zero, List.getElem?_cons_succ] at k0 k1 k2 k3
  have d1 : decide (1024 < n) = false := by rw [decide_eq_false_iff_not]; omega
  have HS := Lib.hid (law_same W b a a' l n c c' (h1.below hW) (h2.below hW) hl (by omega))
  clear r0 r1 hl h1 h2
  go_enter Tryz.func13, Tryz.ntmps13
  go_wp2_with fail
  rw [← HWe.out]
  refine HS.out.mono ?_
  rintro e w1 ⟨rfl, hb⟩
  go_wp2_with fail
  go_ret
  exact ⟨rfl, hW.trans (hb.mono hW.size)⟩

end Go.Proofs.YtbffpkmfhkphdaaGreatDoor
