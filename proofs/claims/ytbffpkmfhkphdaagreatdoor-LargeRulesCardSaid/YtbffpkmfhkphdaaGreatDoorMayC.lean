/- The walks of large.May and large.may. -/
import Derived.Test.YtbffpkmfhkphdaaGreatDoorNarrowC
set_option linter.unusedVariables false
set_option linter.unusedSimpArgs false
namespace Go.Proofs.YtbffpkmfhkphdaaGreatDoor
open Go Go.RowKit Limb

/-- Whether an integer is written as it must be. -/
def mayB (neg : Bool) (l : List Nat) : Bool := if l.length = 0 then !neg else decide (l.length ≤ 1024) && decide (wd l (l.length - 1) ≠ 0)

theorem norm_of_last {l : List Nat} (h : l.length = 0 ∨ wd l (l.length - 1) ≠ 0) : Norm l := by
  unfold Norm
  intro e
  rcases h with h | h
  · rw [List.eq_nil_of_length_eq_zero h] at e; simp at e
  · apply h
    rw [List.getLast?_eq_getElem?] at e
    unfold wd; rw [List.getD_eq_getElem?_getD, e]; rfl

/-- One that may be is an integer's. -/
theorem mayB_int {neg : Bool} {l : List Nat} (hl : Lim l) (h : mayB neg l = true) : l = rep (signed neg (val l)).natAbs ∧ neg = decide (signed neg (val l) < 0) ∧ l.length ≤ 1024 := by
  unfold mayB at h
  have e : (signed neg (val l)).natAbs = val l := by unfold signed; split <;> omega
  rw [e]
  split at h
  · rename_i h0
    have : l = [] := List.eq_nil_of_length_eq_zero h0
    subst this
    have hn : neg = false := by simpa using h
    subst hn
    exact ⟨rfl, rfl, by simp⟩
  · rename_i h0
    simp only [Bool.and_eq_true, decide_eq_true_eq] at h
    have hn := norm_of_last (.inr h.2)
    refine ⟨(rep_val hl hn).symm, ?_, h.1⟩
    have hv : val l ≠ 0 := by intro e0; have := rep_val hl hn; rw [e0, rep_zero] at this; rw [← this] at h0; simp at h0
    unfold signed
    cases neg <;> simp <;> omega

theorem mayB_rep (z : Int) : mayB (decide (z < 0)) (rep z.natAbs) = decide ((rep z.natAbs).length ≤ 1024) := by
  unfold mayB
  split
  · rename_i h
    rw [rep_length_zero] at h
    have : z = 0 := by omega
    subst this; decide
  · rename_i h
    obtain ⟨k, hk⟩ : ∃ k, (rep z.natAbs).length = k + 1 := ⟨(rep z.natAbs).length - 1, by omega⟩
    have := norm_last (rep_norm z.natAbs) hk
    rw [hk, Nat.add_sub_cancel]
    simp [this]

set_option maxHeartbeats 800000 in
set_option maxRecDepth 100000 in
theorem large_May (w : World) (neg : Bool) (a : Option Addr) (l : List Nat) (n cap : Nat) (hlay : Lay .u32 w a l) (hlim : Lim l) (hn : n = l.length) (hm : n ≤ 9223372036854775807) :
    Calls Tryz.prog 59 #[.agg #[.bool neg, .slice a n cap]] w fun e w' => e = .returned (.bool (mayB neg l)) ∧ Below w.heap.size w w' := by
  obtain ⟨b1, off1, hix, hcx, _⟩ := hlay.use 22 60 Tryz.underlying22 size32 cap
  rw [← hn] at hix hcx
  by_cases h0 : n = 0
  · have hb : mayB neg l = !neg := by unfold mayB; rw [if_pos (by omega)]
    rw [hb]
    clear hix hcx hn hb
    subst h0
    go_enter Tryz.func59, Tryz.ntmps59
    go_wp2
    go_ret
    exact ⟨rfl, (Below.refl _ _).alloc (Nat.le_refl _) _⟩
  · have hb : mayB neg l = (decide (n ≤ 1024) && decide (wd l (n - 1) ≠ 0)) := by unfold mayB; rw [if_neg (by omega), ← hn]
    have q1 : ((n : Int) == 0) = false := by rw [beq_eq_false_iff_ne]; omega
    obtain ⟨wb, hwb⟩ : ∃ wb, wb = w.alloc (.cells #[.bool neg, .slice a n cap] 24) := ⟨_, rfl⟩
    have ix := hix wb .i64 ((n : Int) - 1) (by omega) (by omega)
    rw [show ((n : Int) - 1).toNat = n - 1 from by omega] at ix
    have cx := hcx wb (by rw [hwb]; exact (Below.refl _ _).alloc (Nat.le_refl _) _) (n - 1) (by omega)
    rw [hwb] at ix cx
    have h1 := hlim.wd (n - 1)
    rw [hb]
    clear hb hix hcx hn hwb
    by_cases hle : n ≤ 1024
    · have d1 : decide (n ≤ 1024) = true := by simpa using hle
      have d2 : decide ((n : Int) ≤ 1024) = true := by simp; omega
      by_cases hz : wd l (n - 1) = 0
      · have e1 : (((wd l (n - 1) : Nat) : Int) != 0) = false := by rw [bne_eq_false_iff_eq]; omega
        have hfin : (decide (n ≤ 1024) && decide (wd l (n - 1) ≠ 0)) = false := by rw [hz]; simp
        rw [hfin]
        clear hz hfin h0
        go_enter Tryz.func59, Tryz.ntmps59
        go_wp2
        go_ret
        exact ⟨rfl, (Below.refl _ _).alloc (Nat.le_refl _) _⟩
      · have e1 : (((wd l (n - 1) : Nat) : Int) != 0) = true := by rw [bne_iff_ne]; omega
        have hfin : (decide (n ≤ 1024) && decide (wd l (n - 1) ≠ 0)) = true := by simp [hle, hz]
        rw [hfin]
        clear hz hfin h0
        go_enter Tryz.func59, Tryz.ntmps59
        go_wp2
        go_ret
        exact ⟨rfl, (Below.refl _ _).alloc (Nat.le_refl _) _⟩
    · have d1 : decide (n ≤ 1024) = false := by simp; omega
      have d2 : decide ((n : Int) ≤ 1024) = false := by simp; omega
      have hfin : (decide (n ≤ 1024) && decide (wd l (n - 1) ≠ 0)) = false := by rw [d1]; rfl
      rw [hfin]
      clear hfin h0 ix cx
      go_enter Tryz.func59, Tryz.ntmps59
      go_wp2
      go_ret
      exact ⟨rfl, (Below.refl _ _).alloc (Nat.le_refl _) _⟩

theorem size24 (W : World) : (sizeOf 24).run Tryz.prog W = .ok 2 W := by kernel_rfl

set_option maxHeartbeats 1600000 in
set_option maxRecDepth 100000 in
theorem large_may2 (w : World) (g : Nat) (n1 n2 : Bool) (a1 a2 : Option Addr) (l1 l2 : List Nat) (m1 m2 c1 c2 : Nat) (hr : Row w g 24 [.bool n1, .slice a1 m1 c1, .bool n2, .slice a2 m2 c2]) (hy1 : Lay .u32 w a1 l1) (hy2 : Lay .u32 w a2 l2)
    (hl1 : Lim l1) (hl2 : Lim l2) (hm1 : m1 = l1.length) (hm2 : m2 = l2.length) (hb1 : m1 ≤ 9223372036854775807) (hb2 : m2 ≤ 9223372036854775807) :
    Calls Tryz.prog 65 #[.slice (some ⟨g, 0, none⟩) 2 2] w fun e w' => e = .returned (.bool (mayB n1 l1 && mayB n2 l2)) ∧ Below w.heap.size w w' := by
  have hcall1 := fun W (hW : Below w.heap.size w W) => large_May W n1 a1 l1 m1 c1 (hy1.below hW) hl1 hm1 hb1
  have hcall2 := fun W (hW : Below w.heap.size w W) => large_May W n2 a2 l2 m2 c2 (hy2.below hW) hl2 hm2 hb2
  have hcs : ∀ W, Below w.heap.size w W → W.cell? ⟨g, 0, none⟩ = some (.bool n1) ∧ W.cell? ⟨g, 1, none⟩ = some (.slice a1 m1 c1) ∧ W.cell? ⟨g, 2, none⟩ = some (.bool n2) ∧ W.cell? ⟨g, 3, none⟩ = some (.slice a2 m2 c2) := by
    intro W hW
    have := hr.below hW hr.lt
    exact ⟨this.cell_at 0, this.cell_at 1, this.cell_at 2, this.cell_at 3⟩
  have HC := Lib.hid hcs; clear hcs
  obtain ⟨k0, k1, k2, k3⟩ := HC.out w (Below.refl _ _)
  have Hm1 := Lib.hid hm1; clear hm1
  have Hm2 := Lib.hid hm2; clear hm2
  obtain ⟨b1, hb1⟩ : ∃ b, b = mayB n1 l1 := ⟨_, rfl⟩
  obtain ⟨b2, hb2⟩ : ∃ b, b = mayB n2 l2 := ⟨_, rfl⟩
  rw [← hb1] at hcall1 ⊢
  rw [← hb2] at hcall2 ⊢
  have H1 := Lib.hid hcall1; clear hcall1
  have H2 := Lib.hid hcall2; clear hcall2
  clear hb1 hb2
  cases b1 with
  | false =>
    go_enter Tryz.func65, Tryz.ntmps65
    go_wp2
    refine wp_loop_rounds 1 ?_
    rw [rounds_succ]
    go_wp2_with (go_at_call 59; refine (H1.out _ ?_).mono ?_; exact (Below.refl _ _).alloc (Nat.le_refl _) _; rintro e w1 ⟨rfl, hb1⟩)
    go_ret
    exact ⟨rfl, ((Below.refl _ _).alloc (Nat.le_refl _) _).trans (hb1.mono (by rw [World.size_alloc]; omega))⟩
  | true =>
    go_enter Tryz.func65, Tryz.ntmps65
    go_wp2
    refine wp_loop_rounds 3 ?_
    rw [rounds_succ]
    go_wp2_with (go_at_call 59; refine (H1.out _ ?_).mono ?_; exact (Below.refl _ _).alloc (Nat.le_refl _) _; rintro e w1 ⟨rfl, hb1⟩)
    have hB1 : Below w.heap.size w w1 := ((Below.refl _ _).alloc (Nat.le_refl _) _).trans (hb1.mono (by rw [World.size_alloc]; omega))
    obtain ⟨j0, j1, j2, j3⟩ := HC.out w1 hB1
    cases b2 with
    | false =>
      rw [rounds_succ]
      go_wp2_with (go_at_call 59; refine (H2.out _ ?_).mono ?_; exact hB1.alloc hB1.size _; rintro e w2 ⟨rfl, hb2⟩)
      go_ret
      exact ⟨rfl, (hB1.alloc hB1.size _).trans (hb2.mono (by rw [World.size_alloc]; have := hB1.size; omega))⟩
    | true =>
      rw [rounds_succ]
      go_wp2_with (go_at_call 59; refine (H2.out _ ?_).mono ?_; exact hB1.alloc hB1.size _; rintro e w2 ⟨rfl, hb2⟩)
      rw [rounds_succ]
      go_wp2
      go_ret
      exact ⟨rfl, (hB1.alloc hB1.size _).trans (hb2.mono (by rw [World.size_alloc]; have := hB1.size; omega))⟩

end Go.Proofs.YtbffpkmfhkphdaaGreatDoor
