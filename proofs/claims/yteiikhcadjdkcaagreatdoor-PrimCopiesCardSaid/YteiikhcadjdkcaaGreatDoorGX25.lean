/- The walks of package kernel: root, pointers, field, size. The walks of package kernel: bare, reads. -/
import Derived.Test.YteiikhcadjdkcaaGreatDoorGX24
set_option linter.unusedVariables false
set_option linter.unusedSimpArgs false
namespace Go.Proofs.YteiikhcadjdkcaaGreatDoor
open Go Go.RowKit Limb
section
variable {w : World} {F : Foot} {h : Hp}
set_option maxRecDepth 100000 in
theorem kernel_root (H : HeapAt w F h) (i : Nat) (hi : i < 64) :
    Calls Tryz.prog 16 #[.pointer (some ⟨F.p, 0, none⟩), .int .i64 i] w fun e w' => e = .returned (.int .u32 (wd h.rt i : Nat)) ∧ w = w' := by
  have HR := Lib.hid (heap_root H i hi)
  clear H
  go_enter Tryz.func16, Tryz.ntmps16
  go_wp2_with fail
  refine (HR.out).mono ?_
  rintro e w1 ⟨rfl, rfl⟩
  (try dsimp only)
  go_wp2_with fail
  go_ret
  exact ⟨rfl, rfl⟩
theorem isF_hdX {o f n : Nat} : isF h o f n = (decide (erX h o = 0) && decide ((hdX h o).fmt = f) && decide (n ≤ (hdX h o).size)) := by
  unfold isF erX hdX
  by_cases hi : isO h o = true
  · rw [if_pos hi, if_pos hi, hi]; rfl
  · rw [if_neg hi, if_neg hi]
    rw [Bool.not_eq_true] at hi
    rw [hi]; rfl
set_option maxHeartbeats 1600000 in
set_option maxRecDepth 100000 in
theorem kernel_pointers (H : HeapAt w F h) (o n : Nat) (ho : o < 4294967296) :
    Calls Tryz.prog 64 #[.pointer (some ⟨F.p, 0, none⟩), .int .u32 o, .int .i64 n] w fun e w' => e = .returned (.bool (isF h o 1 n)) ∧ Below w.heap.size w w' := by
  have HD := Lib.hid (heap_Header H o ho)
  obtain ⟨r, hr⟩ : ∃ b, b = isF h o 1 n := ⟨_, rfl⟩
  have hr2 := hr
  rw [isF_hdX] at hr2
  rw [← hr]
  have HR := Lib.hid hr2
  have ex : hdV (hdX h o) = .agg #[.int .i64 (hdX h o).size, .int .i64 (hdX h o).fmt, .int .i64 (hdX h o).spare, .int .u32 (hdX h o).cls, .int .u32 (hdX h o).ser] := rfl
  have hd := HD.out
  rw [ex] at hd
  generalize hdX h o = x at *
  generalize x.fmt = x1 at *
  generalize x.size = x0 at *
  generalize erX h o = er at *
  have HD := Lib.hid hd
  clear hd ex hr hr2 H
  by_cases e0 : er = 0
  · subst e0
    by_cases e1 : x1 = 1
    · subst e1
      by_cases e2 : n ≤ x0
      · have d1 : decide ((n : Int) ≤ (x0 : Int)) = true := decide_eq_true (by omega)
        have d2 : decide (n ≤ x0) = true := decide_eq_true e2
        obtain rfl : r = true := by rw [HR.out, d2]; rfl
        clear HR e2
        go_enter Tryz.func64, Tryz.ntmps64
        go_wp2_with fail
        refine (HD.out).mono ?_
        rintro e V ⟨rfl, hB⟩
        (try dsimp only)
        have hE := hB.alloc hB.size (.cells #[.int .i64 x0, .int .i64 1, .int .i64 x.spare, .int .u32 x.cls, .int .u32 x.ser] 102)
        go_wp2_with fail
        go_ret
        exact ⟨rfl, hE⟩
      · have d1 : decide ((n : Int) ≤ (x0 : Int)) = false := decide_eq_false (by omega)
        have d2 : decide (n ≤ x0) = false := decide_eq_false e2
        obtain rfl : r = false := by rw [HR.out, d2]; rfl
        clear HR e2
        go_enter Tryz.func64, Tryz.ntmps64
        go_wp2_with fail
        refine (HD.out).mono ?_
        rintro e V ⟨rfl, hB⟩
        (try dsimp only)
        have hE := hB.alloc hB.size (.cells #[.int .i64 x0, .int .i64 1, .int .i64 x.spare, .int .u32 x.cls, .int .u32 x.ser] 102)
        go_wp2_with fail
        go_ret
        exact ⟨rfl, hE⟩
    · have q : ((x1 : Int) == 1) = false := by rw [beq_eq_false_iff_ne]; omega
      have q2 : (x1 == 1) = false := by rw [beq_eq_false_iff_ne]; exact e1
      obtain rfl : r = false := by rw [HR.out, decide_eq_false e1]; rfl
      clear HR
      go_enter Tryz.func64, Tryz.ntmps64
      go_wp2_with fail
      refine (HD.out).mono ?_
      rintro e V ⟨rfl, hB⟩
      (try dsimp only)
      have hE := hB.alloc hB.size (.cells #[.int .i64 x0, .int .i64 x1, .int .i64 x.spare, .int .u32 x.cls, .int .u32 x.ser] 102)
      go_wp2_with fail
      go_ret
      exact ⟨rfl, hE⟩
  · have q : ((er : Int) == 0) = false := by rw [beq_eq_false_iff_ne]; omega
    have q2 : (er == 0) = false := by rw [beq_eq_false_iff_ne]; exact e0
    obtain rfl : r = false := by rw [HR.out, decide_eq_false e0]; rfl
    clear HR
    go_enter Tryz.func64, Tryz.ntmps64
    go_wp2_with fail
    refine (HD.out).mono ?_
    rintro e V ⟨rfl, hB⟩
    (try dsimp only)
    have hE := hB.alloc hB.size (.cells #[.int .i64 x0, .int .i64 x1, .int .i64 x.spare, .int .u32 x.cls, .int .u32 x.ser] 102)
    go_wp2_with fail
    go_ret
    exact ⟨rfl, hE⟩
theorem getA_getF {o i : Nat} (hp : isF h o 1 0 = true) : getA h o (i : Int) [1, 4] = getF h o i := by
  unfold isF at hp
  simp only [Bool.and_eq_true, decide_eq_true_eq] at hp
  obtain ⟨⟨h1, h2⟩, _⟩ := hp
  unfold getA getF
  have hlen : (hdO h o).len = (hdO h o).size := len_size (by omega)
  by_cases h3 : i + 1 ≤ (hdO h o).size
  · rw [if_pos (lookE_zero.2 ⟨h1, by rw [h2]; rfl, by omega, by rw [hlen]; omega⟩), if_pos (by unfold isF; rw [h1, decide_eq_true h2, decide_eq_true h3]; rfl), Int.toNat_natCast]
  · rw [if_neg (fun e => by have := (lookE_zero.1 e).2.2.2; rw [hlen] at this; omega), if_neg (by unfold isF; rw [h1, decide_eq_true h2, decide_eq_false h3]; decide)]
theorem getF_not {o i : Nat} (hp : isF h o 1 0 = false) : getF h o i = 0 := by
  unfold getF
  rw [if_neg]
  intro e
  unfold isF at hp e
  simp only [Bool.and_eq_true, decide_eq_true_eq] at e
  rw [e.1.1, decide_eq_true e.1.2] at hp
  simp at hp
set_option maxHeartbeats 1600000 in
set_option maxRecDepth 100000 in
theorem kernel_field (H : HeapAt w F h) (o i : Nat) (ho : o < 4294967296) (hi : i ≤ 65535) :
    Calls Tryz.prog 190 #[.pointer (some ⟨F.p, 0, none⟩), .int .u32 o, .int .i64 i] w fun e w' => e = .returned (.int .u32 (getF h o i : Nat)) ∧ Below w.heap.size w w' := by
  have HP := Lib.hid (kernel_pointers H o 0 ho)
  have HG := Lib.hid (fun X (hb : Below w.heap.size w X) => heap_get (H.below hb) o ho (i : Int) (by omega) (by omega))
  cases hp : isF h o 1 0 with
  | true =>
    have hg := HG.out
    rw [getA_getF hp] at hg
    have hP := HP.out
    rw [hp] at hP
    have HG := Lib.hid hg
    have HP := Lib.hid hP
    generalize getF h o i = v at *
    generalize lookE h o (i : Int) [1, 4] = le at *
    clear hg hP hp H
    go_enter Tryz.func190, Tryz.ntmps190
    go_wp2_with fail
    refine (HP.out).mono ?_
    rintro e V ⟨rfl, hB⟩
    (try dsimp only)
    go_wp2_with fail
    refine (HG.out V hB).mono ?_
    rintro e V2 ⟨rfl, hb⟩
    (try dsimp only)
    replace hB := hB.trans (hb.mono hB.size)
    clear hb
    go_wp2_with fail
    go_ret
    exact ⟨rfl, hB⟩
  | false =>
    rw [getF_not hp]
    have hP := HP.out
    rw [hp] at hP
    have HP := Lib.hid hP
    clear hP hp H HG
    go_enter Tryz.func190, Tryz.ntmps190
    go_wp2_with fail
    refine (HP.out).mono ?_
    rintro e V ⟨rfl, hB⟩
    (try dsimp only)
    go_wp2_with fail
    go_ret
    exact ⟨rfl, hB⟩
set_option maxHeartbeats 1600000 in
set_option maxRecDepth 100000 in
theorem kernel_size (H : HeapAt w F h) (o : Nat) (ho : o < 4294967296) :
    Calls Tryz.prog 196 #[.pointer (some ⟨F.p, 0, none⟩), .int .u32 o] w fun e w' => e = .returned (.int .i64 (hdX h o).size) ∧ Below w.heap.size w w' := by
  have HD := Lib.hid (heap_Header H o ho)
  have ex : hdV (hdX h o) = .agg #[.int .i64 (hdX h o).size, .int .i64 (hdX h o).fmt, .int .i64 (hdX h o).spare, .int .u32 (hdX h o).cls, .int .u32 (hdX h o).ser] := rfl
  have hd := HD.out
  rw [ex] at hd
  generalize hdX h o = x at *
  generalize erX h o = er at *
  have HD := Lib.hid hd
  clear hd ex H
  go_enter Tryz.func196, Tryz.ntmps196
  go_wp2_with fail
  refine (HD.out).mono ?_
  rintro e V ⟨rfl, hB⟩
  (try dsimp only)
  have hE := hB.alloc hB.size (.cells #[.int .i64 x.size, .int .i64 x.fmt, .int .i64 x.spare, .int .u32 x.cls, .int .u32 x.ser] 102)
  go_wp2_with fail
  go_ret
  exact ⟨rfl, hE⟩
end
end Go.Proofs.YteiikhcadjdkcaaGreatDoor
namespace Go.Proofs.YteiikhcadjdkcaaGreatDoor
open Go Go.RowKit Limb
theorem size_int (W : World) : (sizeOf 3).run Tryz.prog W = .ok 1 W := by kernel_rfl
def Live (h : Hp) : Prop := ∀ j, j < 5 → kindN (wd h.rt (wd [12, 18, 19, 20, 23] j)) ≠ 1
theorem five_lt {j : Nat} (hj : j < 5) : wd [12, 18, 19, 20, 23] j < 64 := by
  have : j = 0 ∨ j = 1 ∨ j = 2 ∨ j = 3 ∨ j = 4 := by omega
  rcases this with rfl | rfl | rfl | rfl | rfl <;> decide
section
variable {w : World} {F : Foot} {h : Hp}
theorem root_lt (k : Limb.Good h) (i : Nat) : wd h.rt i < 4294967296 := k.rlim.wd i
set_option maxHeartbeats 1600000 in
set_option maxRecDepth 100000 in
theorem kernel_bare (H : HeapAt w F h) (hL : Live h) :
    Calls Tryz.prog 21 #[.pointer (some ⟨F.p, 0, none⟩)] w fun e w' => e = .returned (.bool false) ∧ Below w.heap.size w w' := by
  have HT := Lib.hid (heap_top H)
  have q : ((h.ws.length : Int) == 0) = false := by rw [beq_eq_false_iff_ne]; have := H.good.pos; omega
  have q2 : (h.ws.length == 0) = false := by rw [beq_eq_false_iff_ne]; have := H.good.pos; omega
  have HR := Lib.hid (fun X (hb : Below w.heap.size w X) j (hj : j < 5) => kernel_root (H.below hb) (wd [12, 18, 19, 20, 23] j) (five_lt hj))
  have HK := Lib.hid (fun X j => oop_kind X (wd h.rt (wd [12, 18, 19, 20, 23] j)) (root_lt H.good _))
  have HLv := Lib.hid hL
  clear hL H
  go_enter Tryz.func21, Tryz.ntmps21
  go_wp2_with fail
  refine (HT.out).mono ?_
  rintro e w1 ⟨rfl, rfl⟩
  (try dsimp only)
  obtain ⟨W, hW, r0, hB, hz⟩ := alloc_row w 3 [.int .i64 12, .int .i64 18, .int .i64 19, .int .i64 20, .int .i64 23]
  have HW := Lib.hid hW
  have r0 : Row W w.heap.size 3 (nums .i64 [12, 18, 19, 20, 23]) := r0
  go_wp2_with fail
  rw [← HW.out]
  go_loopw [10] (fun i wr => ∃ k : Nat, k ≤ 5 ∧ i = .int .i64 k ∧ Row wr w.heap.size 3 (nums .i64 [12, 18, 19, 20, 23]) ∧ Below w.heap.size w wr) (fun i _ => 5 - (RowKit.intOf i).toNat)
  case atStart => exact ⟨0, Nat.zero_le _, rfl, r0, hB⟩
  case round =>
    clear r0 hB HW hW hz
    obtain ⟨k, hk, rfl, r0, hB⟩ := hrel
    by_cases h0 : k < 5
    · have d1 : decide ((k : Int) < 5) = true := decide_eq_true (by omega)
      have d2 : decide (k < 5) = true := decide_eq_true h0
      have sl := r0.sl (n := 5) rfl (by decide)
      have ix := fun W => sl.index 48 Tryz.underlying48 size_int W .i64 k h0
      have cx := sl.cell h0
      rw [nums_get (by exact h0)] at cx
      have hr := fun X hb => HR.out X hb k h0
      have hk1 := fun X => HK.out X k
      have hlv := HLv.out k h0
      generalize wd [12, 18, 19, 20, 23] k = rt at *
      generalize wd h.rt rt = v at *
      have q3 : (((kindN v : Nat) : Int) == 1) = false := by rw [beq_eq_false_iff_ne]; omega
      have q4 : (kindN v == 1) = false := by rw [beq_eq_false_iff_ne]; exact hlv
      generalize kindN v = kv at *
      have HR1 := Lib.hid hr
      have HK1 := Lib.hid hk1
      clear hr hk1 hlv sl
      go_wp2_with fail
      refine (HR1.out wr hB).mono ?_
      rintro e V ⟨rfl, rfl⟩
      (try dsimp only)
      go_wp2_with fail
      refine (HK1.out _).mono ?_
      rintro e V ⟨rfl, rfl⟩
      (try dsimp only)
      go_wp2_with fail
      go_roundw
      case rel => exact ⟨k + 1, h0, by simp, r0, hB⟩
      case measure => simp [RowKit.intOf]; omega
    · obtain rfl : k = 5 := by omega
      go_wp2_with fail
      go_ret
      exact ⟨rfl, hB⟩
end
end Go.Proofs.YteiikhcadjdkcaaGreatDoor
