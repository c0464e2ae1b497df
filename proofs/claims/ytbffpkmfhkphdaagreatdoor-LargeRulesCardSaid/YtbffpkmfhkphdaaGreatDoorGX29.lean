/- In a region that draws its order: an operation that yields is taken first, its slot written out. The walks of the reference's made, Of and Neg. The walk of the law's is, where an answer is the document's. -/
import Derived.Test.YtbffpkmfhkphdaaGreatDoorGX27
set_option linter.unusedVariables false
set_option linter.unusedSimpArgs false
namespace Go.Proofs.YtbffpkmfhkphdaaGreatDoor
open Go Go.RowKit

theorem wpAnyH_take_at {P : Program} {md : Region.Mode} {ops : Array Oper} {Q : Exit → Act → World → Prop} {S : World → Prop} {i : Nat} {oi : Oper} {v : Value} {fuel : Nat} {listed : Array Bool} {a : Act} {w : World} (d : Tmp) (hi : ops[i]? = some oi) (hd : oi.dst = some d)
    (hs : Region.noSelect ops = true) (hf : Region.free md ops listed i = true) (hr : (Region.ready md ops listed).contains i = true)
    (hQ : ∀ c a w, Q (.panic c) (a.put oi.dst v) w → Q (.panic c) a w) (hy : YieldsIf P ops S oi v a) (hS : S w)
    (h : wpAnyH P md ops Q S fuel (listed.setIfInBounds i true) (a.put (some d) v) w) : wpAnyH P md ops Q S (fuel + 1) listed a w :=
  wpAnyH_take hi hs hf hr hQ hy hS (by rw [hd]; exact h)

end Go.Proofs.YtbffpkmfhkphdaaGreatDoor

namespace Go.Proofs.YtbffpkmfhkphdaaGreatDoor
open Go Go.RowKit Limb

set_option maxHeartbeats 800000 in
set_option maxRecDepth 100000 in
theorem ref_made (w : World) (neg : Bool) (a : Option Addr) (l : List Nat) (n cap : Nat) (z : Int) (hlay : Lay .u32 w a l) (hlim : Lim l) (hn : n = l.length) (hm : n ≤ 9223372036854775807) (hc : n ≤ cap) (hz : val l = z.natAbs)
    (hs : (neg = true → z ≤ 0) ∧ (neg = false → 0 ≤ z)) :
    Calls Tryz.prog 79 #[.bool neg, .slice a n cap] w fun e w' => ∃ u, e = .returned u ∧ ApiV w' u z ∧ Below w.heap.size w w' := by
  obtain ⟨W, hWe⟩ : ∃ W, W = w.alloc (.cells #[.bool false, .slice none 0 0] 24) := ⟨_, rfl⟩
  have r0 : Row W w.heap.size 24 [.bool false, .slice none 0 0] := by rw [hWe]; unfold Row; exact heap_alloc_new _ _
  have hW : Below w.heap.size w W := by rw [hWe]; exact (Below.refl _ _).alloc (Nat.le_refl _) _
  have HWe := Lib.hid hWe; clear hWe
  have hlW := hlay.below hW
  have hcut := ref_cut W a l n cap hlW hlim hn hm hc
  have hle := rep_val_le hlim
  rw [← hn] at hle
  have hln := hlW.norm hlim
  rw [hz] at hcut hle hln
  have k0 := r0.cell_at 0
  have k1 := r0.cell_at 1
  have k2 := r0.free 0
  have k3 := r0.free 1
  simp only [List.getElem?_cons_zero, List.getElem?_cons_succ] at k0 k1
  obtain ⟨m, hm'⟩ : ∃ m, m = (rep z.natAbs).length := ⟨_, rfl⟩
  rw [← hm'] at hcut hle
  have hm0 : m = 0 ↔ z = 0 := by rw [hm', rep_length_zero]; omega
  have HM0 := Lib.hid hm0; clear hm0
  have HM := Lib.hid hm'; clear hm'
  have HC := Lib.hid hcut; clear hcut
  have hfin : ∀ b : Bool, b = decide (z < 0) → ApiV ((W.setCell ⟨w.heap.size, 0, none⟩ (.bool b)).setCell ⟨w.heap.size, 1, none⟩ (.slice a m cap)) (.agg #[.bool b, .slice a m cap]) z ∧ Below w.heap.size w ((W.setCell ⟨w.heap.size, 0, none⟩ (.bool b)).setCell ⟨w.heap.size, 1, none⟩ (.slice a m cap)) := by
    intro b hb
    refine ⟨⟨a, cap, by rw [hb, HM.out], by rw [← HM.out]; omega, hln.pair r0 _ _⟩, below_store (below_store hW (Nat.le_refl _) _) (Nat.le_refl _) _⟩
  have HF := Lib.hid hfin; clear hfin
  have he : ∀ b : Bool, (W.setCell ⟨w.heap.size, 0, none⟩ (.bool b)).cell? ⟨w.heap.size, 0, none⟩ = some (.bool b) ∧ ((W.setCell ⟨w.heap.size, 0, none⟩ (.bool b)).setCell ⟨w.heap.size, 1, none⟩ (.slice a m cap)).cell? ⟨w.heap.size, 1, none⟩ = some (.slice a m cap) := fun b => ⟨(r0.store_any 0 _).cell_at 0, ((r0.store_any 0 _).store_any 1 _).cell_at 1⟩
  have HE := Lib.hid he; clear he
  have hs1 := hs.1
  have hs2 := hs.2
  clear hz hn hs hlay hlW hln r0
  cases neg with
  | false =>
    have h0 := hs2 rfl
    obtain ⟨e0, e1⟩ := HE.out false
    clear hs1 hs2
    go_enter Tryz.func79, Tryz.ntmps79
    go_wp2_with fail
    rw [← HWe.out]
    refine HC.out.mono ?_
    rintro e w' ⟨rfl, rfl⟩
    go_wp2_with fail
    (try simp only [Exit.inBlock, Exit.then])
    refine bodyPost_ret (v := .agg #[.bool false, .slice a m cap]) (by simp [results, Tryz.results79, go_sem, e0, e1]) rfl ?_
    exact ⟨_, rfl, HF.out false (by simp; omega)⟩
  | true =>
    have h0 := hs1 rfl
    clear hs1 hs2
    by_cases hz : m = 0
    · have hzz := Lib.hid (HM0.out.1 hz)
      obtain ⟨e0, e1⟩ := HE.out false
      have d1 : decide (0 < m) = false := by rw [decide_eq_false_iff_not]; omega
      have HF1 := Lib.hid (HF.out false (by rw [hzz.out]; rfl))
      clear hz
      go_enter Tryz.func79, Tryz.ntmps79
      go_wp2_with fail
      rw [← HWe.out]
      refine HC.out.mono ?_
      rintro e w' ⟨rfl, rfl⟩
      go_wp2_with fail
      (try simp only [Exit.inBlock, Exit.then])
      refine bodyPost_ret (v := .agg #[.bool false, .slice a m cap]) (by simp [results, Tryz.results79, go_sem, e0, e1]) rfl ?_
      exact ⟨_, rfl, HF1.out⟩
    · obtain ⟨e0, e1⟩ := HE.out true
      have d1 : decide (0 < m) = true := by rw [decide_eq_true_eq]; omega
      have HF1 := Lib.hid (HF.out true (by have := HM0.out; simp; omega))
      clear hz
      go_enter Tryz.func79, Tryz.ntmps79
      go_wp2_with fail
      rw [← HWe.out]
      refine HC.out.mono ?_
      rintro e w' ⟨rfl, rfl⟩
      go_wp2_with fail
      (try simp only [Exit.inBlock, Exit.then])
      refine bodyPost_ret (v := .agg #[.bool true, .slice a m cap]) (by simp [results, Tryz.results79, go_sem, e0, e1]) rfl ?_
      exact ⟨_, rfl, HF1.out⟩

end Go.Proofs.YtbffpkmfhkphdaaGreatDoor

namespace Go.Proofs.YtbffpkmfhkphdaaGreatDoor
open Go Go.RowKit Limb

theorem same_nil (w : World) : Calls Tryz.prog 15 #[.agg #[.bool false, .slice none 0 0], .agg #[.bool false, .slice none 0 0]] w fun e w' => e = .returned (.bool true) ∧ Below w.heap.size w w' :=
  law_same w false none none [] 0 0 0 (Lay.nil _ _ _) (Lay.nil _ _ _) rfl (by decide)

set_option maxRecDepth 100000 in
theorem is_no (w : World) (b : Bool) (a : Option Addr) (n c : Nat) :
    Calls Tryz.prog 13 #[.bool false, .agg #[.bool false, .slice none 0 0], .int .i64 1, .agg #[.bool b, .slice a n c]] w fun e w' => e = .returned (.bool true) ∧ Below w.heap.size w w' := by
  obtain ⟨W, hWe, r0, r1, hW, hsz⟩ := rows2 w 24 (.bool false) (.slice none 0 0) (.bool b) (.slice a n c)
  have HWe := Lib.hid hWe; clear hWe
  have k0 := r0.cell_at 0
  have k1 := r0.cell_at 1
  simp only [List.getElem?_cons_zero, List.getElem?_cons_succ] at k0 k1
  clear r0 r1
  go_enter Tryz.func13, Tryz.ntmps13
  go_wp2_with fail
  rw [← HWe.out]
  refine (same_nil W).mono ?_
  rintro e w1 ⟨rfl, hb⟩
  go_wp2_with fail
  go_ret
  exact ⟨rfl, hW.trans (hb.mono hW.size)⟩

set_option maxRecDepth 100000 in
theorem is_long (w : World) (b : Bool) (a : Option Addr) (n c : Nat) (hn : 1024 < n) :
    Calls Tryz.prog 13 #[.bool true, .agg #[.bool false, .slice none 0 0], .int .i64 2, .agg #[.bool b, .slice a n c]] w fun e w' => e = .returned (.bool true) ∧ Below w.heap.size w w' := by
  obtain ⟨W, hWe, r0, r1, hW, hsz⟩ := rows2 w 24 (.bool false) (.slice none 0 0) (.bool b) (.slice a n c)
  have HWe := Lib.hid hWe; clear hWe
  have k0 := r0.cell_at 0
  have k1 := r0.cell_at 1
  have k2 := r1.cell_at 0
  have k3 := r1.cell_at 1
  simp only [List.getElem?_cons_zero, List.getElem?_cons_succ] at k0 k1 k2 k3
  have d1 : decide (1024 < n) = true := by rw [decide_eq_true_eq]; exact hn
  clear r0 r1
  go_enter Tryz.func13, Tryz.ntmps13
  go_wp2_with fail
  rw [← HWe.out]
  refine (same_nil W).mono ?_
  rintro e w1 ⟨rfl, hb⟩
  go_wp2_with fail
  go_ret
  exact ⟨rfl, hW.trans (hb.mono hW.size)⟩

set_option maxRecDepth 100000 in
theorem is_ok (w : World) (b : Bool) (a a' : Option Addr) (l : List Nat) (n c c' : Nat) (h1 : Lay .u32 w a l) (h2 : Lay .u32 w a' l) (hl : n = l.length) (hn : n ≤ 1024) :
    Calls Tryz.prog 13 #[.bool true, .agg #[.bool b, .slice a n c], .int .i64 0, .agg #[.bool b, .slice a' n c']] w fun e w' => e = .returned (.bool true) ∧ Below w.heap.size w w' := by
  obtain ⟨W, hWe, r0, r1, hW, hsz⟩ := rows2 w 24 (.bool b) (.slice a n c) (.bool b) (.slice a' n c')
  have HWe := Lib.hid hWe; clear hWe
  have k0 := r0.cell_at 0
  have k1 := r0.cell_at 1
  have k2 := r1.cell_at 0
  have k3 := r1.cell_at 1
  simp only [List.getElem?_cons_zero, List.getElem?_cons_succ] at k0 k1 k2 k3
  have d1 : decide (1024 < n) = false := by rw [decide_eq_false_iff_not]; omega
  have HS := Lib.hid (law_same W b a a' l n c c' (h1.below hW) (h2.below hW) hl (by omega))
  clear r0 r1 hl h1 h2
  go_enter Tryz.func13, Tryz.ntmps13
  go_wp2_with fail
  rw [← HWe.out]
  refine HS.out.mono ?_
  rintro e w1 ⟨rfl, hb⟩
  go_wp2_with fail
  go_ret
  exact ⟨rfl, hW.trans (hb.mono hW.size)⟩

end Go.Proofs.YtbffpkmfhkphdaaGreatDoor
