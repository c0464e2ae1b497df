/- The walks of package heap: Header, pointers, length, Length. The walks of slices.Index, slices.Contains at formats, and of package heap: look, Get, Word. -/
import Derived.Test.YtllabdmmfohbaaaGreatDoorGX14
set_option linter.unusedVariables false
set_option linter.unusedSimpArgs false
namespace Go.Proofs.YtllabdmmfohbaaaGreatDoor
open Go Go.RowKit Limb
def hdZ : Hd := ⟨0, 0, 0, 0, 0⟩
def hdX (h : Hp) (o : Nat) : Hd := if isO h o = true then hdO h o else hdZ
def erX (h : Hp) (o : Nat) : Nat := if isO h o = true then 0 else 3
theorem idxN_of {h : Hp} {o : Nat} (ho : isO h o = true) : idxN o = o / 2 := by
  unfold idxN; rw [if_pos (kind_two.2 ⟨(isO_iff.1 ho).1, (isO_iff.1 ho).2.1⟩)]
section
variable {w : World} {F : Foot} {h : Hp}
set_option maxHeartbeats 1600000 in
set_option maxRecDepth 100000 in
theorem heap_Header (H : HeapAt w F h) (o : Nat) (ho : o < 4294967296) :
    Calls Tryz.prog 180 #[.pointer (some ⟨F.p, 0, none⟩), .int .u32 o] w fun e w' => e = .returned (.tuple #[hdV (hdX h o), .int .i64 (erX h o)]) ∧ Below w.heap.size w w' := by
  obtain ⟨W, hW, r0, hB, hz⟩ := alloc_row w 100 [.int .i64 0, .int .i64 0, .int .i64 0, .int .u32 0, .int .u32 0]
  have HW := Lib.hid hW
  have HH := H.belowB hB (Nat.le_refl _)
  have HI := Lib.hid (heap_is HH o ho)
  by_cases hi : isO h o = true
  · have HA := Lib.hid (heap_at o ho W (.pointer (some ⟨F.p, 0, none⟩)))
    have hb := heap_header HH (o / 2) (isO_iff.1 hi).2.2
    have ha := HA.out
    rw [idxN_of hi] at ha
    have HA := Lib.hid ha
    have e1 : hdX h o = hd h (o / 2) := by unfold hdX; rw [if_pos hi]; rfl
    have e2 : erX h o = 0 := by unfold erX; rw [if_pos hi]
    rw [e1, e2]
    have hI := HI.out
    rw [hi] at hI
    have HI := Lib.hid hI
    generalize o / 2 = i at *
    generalize hd h i = x at *
    have ex : hdV x = .agg #[.int .i64 x.size, .int .i64 x.fmt, .int .i64 x.spare, .int .u32 x.cls, .int .u32 x.ser] := rfl
    rw [ex] at hb ⊢
    generalize x.size = x0 at *
    generalize x.fmt = x1 at *
    generalize x.spare = x2 at *
    generalize x.cls = x3 at *
    generalize x.ser = x4 at *
    have HD := Lib.hid hb
    clear hb ha hI e1 e2 ex hW hz HH hi H
    go_enter Tryz.func180, Tryz.ntmps180
    go_wp2_with fail
    rw [← HW.out]
    refine (HI.out).mono ?_
    rintro e V ⟨rfl, rfl⟩
    (try dsimp only)
    go_wp2_with fail
    refine (HA.out).mono ?_
    rintro e V ⟨rfl, rfl⟩
    (try dsimp only)
    go_wp2_with fail
    refine (HD.out).mono ?_
    rintro e V ⟨rfl, hb⟩
    (try dsimp only)
    replace r0 := r0.below hb r0.lt
    replace hB := hB.trans (hb.mono hB.size)
    clear hb
    have z0 := r0.free 0
    have z1 := r0.free 1
    have z2 := r0.free 2
    have z3 := r0.free 3
    have z4 := r0.free 4
    obtain ⟨p0, p1, p2, p3, p4⟩ := r0.cells5
    obtain ⟨f0, f1, f2, f3, f4⟩ := Row.cells5 (store5 r0 (.int .i64 x0) (.int .i64 x1) (.int .i64 x2) (.int .u32 x3) (.int .u32 x4))
    have HE := Lib.hid (below_store5 hB (Nat.le_refl _) (.int .i64 x0) (.int .i64 x1) (.int .i64 x2) (.int .u32 x3) (.int .u32 x4))
    clear HW HI HA HD
    go_wp2_with fail
    refine bodyPost_ret (v := .tuple #[.agg #[.int .i64 x0, .int .i64 x1, .int .i64 x2, .int .u32 x3, .int .u32 x4], .int .i64 0]) (by simp [results, Tryz.results180, go_sem, f0, f1, f2, f3, f4]) rfl ⟨rfl, HE.out⟩
  · have e1 : hdX h o = hdZ := by unfold hdX; rw [if_neg hi]
    have e2 : erX h o = 3 := by unfold erX; rw [if_neg hi]
    rw [e1, e2]
    rw [Bool.not_eq_true] at hi
    have hI := HI.out
    rw [hi] at hI
    have HI := Lib.hid hI
    have z0 := r0.free 0
    have z1 := r0.free 1
    have z2 := r0.free 2
    have z3 := r0.free 3
    have z4 := r0.free 4
    obtain ⟨p0, p1, p2, p3, p4⟩ := r0.cells5
    obtain ⟨f0, f1, f2, f3, f4⟩ := Row.cells5 (store5 r0 (.int .i64 0) (.int .i64 0) (.int .i64 0) (.int .u32 0) (.int .u32 0))
    have HE := Lib.hid (below_store5 hB (Nat.le_refl _) (.int .i64 0) (.int .i64 0) (.int .i64 0) (.int .u32 0) (.int .u32 0))
    clear hI e1 e2 hW hz HH hi H
    go_enter Tryz.func180, Tryz.ntmps180
    go_wp2_with fail
    rw [← HW.out]
    refine (HI.out).mono ?_
    rintro e V ⟨rfl, rfl⟩
    (try dsimp only)
    clear HW HI
    go_wp2_with fail
    refine bodyPost_ret (v := .tuple #[hdV hdZ, .int .i64 3]) (by simp [results, Tryz.results180, go_sem, f0, f1, f2, f3, f4, hdV, hdZ]) rfl ⟨rfl, HE.out⟩
set_option maxRecDepth 100000 in
theorem heap_pointers (x : Hd) (w : World) :
    Calls Tryz.prog 178 #[hdV x] w fun e w' => e = .returned (.bool (decide (x.fmt = 1) || decide (x.fmt = 4))) ∧ Below w.heap.size w w' := by
  have hB : Below w.heap.size w (w.alloc (.cells #[.int .i64 x.size, .int .i64 x.fmt, .int .i64 x.spare, .int .u32 x.cls, .int .u32 x.ser] 100)) := (Below.refl _ _).alloc (Nat.le_refl _) _
  unfold hdV
  generalize x.fmt = f at *
  by_cases h1 : f = 1
  · rw [decide_eq_true h1]
    subst h1
    go_enter Tryz.func178, Tryz.ntmps178
    go_wp2_with fail
    go_ret
    exact ⟨rfl, hB⟩
  · have q : ((f : Int) == 1) = false := by rw [beq_eq_false_iff_ne]; omega
    rw [decide_eq_false h1]
    by_cases h4 : f = 4
    · rw [decide_eq_true h4]
      subst h4
      clear h1 q
      go_enter Tryz.func178, Tryz.ntmps178
      go_wp2_with fail
      go_ret
      exact ⟨rfl, hB⟩
    · have q4 : ((f : Int) == 4) = false := by rw [beq_eq_false_iff_ne]; omega
      rw [decide_eq_false h4]
      clear h1 h4
      go_enter Tryz.func178, Tryz.ntmps178
      go_wp2_with fail
      go_ret
      exact ⟨rfl, hB⟩
set_option maxRecDepth 100000 in
theorem heap_length (x : Hd) (k : x.Ok ∨ x = hdZ) (w : World) :
    Calls Tryz.prog 182 #[hdV x] w fun e w' => e = .returned (.int .i64 x.len) ∧ Below w.heap.size w w' := by
  have hB : Below w.heap.size w (w.alloc (.cells #[.int .i64 x.size, .int .i64 x.fmt, .int .i64 x.spare, .int .u32 x.cls, .int .u32 x.ser] 100)) := (Below.refl _ _).alloc (Nat.le_refl _) _
  have h1 : x.size ≤ 65535 := by rcases k with k | k; exact k.size; rw [k]; decide
  have h2 : x.spare ≤ 3 := by rcases k with k | k; exact k.spare; rw [k]; decide
  have h3 : x.spare = 0 ∨ (x.fmt = 2 ∧ 0 < x.size) := by rcases k with k | k; exact k.sp; rw [k]; decide
  unfold hdV Hd.len
  generalize x.fmt = f at *
  generalize x.size = n at *
  generalize x.spare = s at *
  by_cases hf : f = 2
  · rw [if_pos hf]
    subst hf
    have e : ((4 * n - s : Nat) : Int) = 4 * (n : Int) - (s : Int) := by omega
    rw [e]
    clear e h3 k
    go_enter Tryz.func182, Tryz.ntmps182
    go_wp2_with fail
    go_ret
    exact ⟨rfl, hB⟩
  · have q : ((f : Int) == 2) = false := by rw [beq_eq_false_iff_ne]; omega
    rw [if_neg hf]
    clear hf h3 k
    go_enter Tryz.func182, Tryz.ntmps182
    go_wp2_with fail
    go_ret
    exact ⟨rfl, hB⟩
end
end Go.Proofs.YtllabdmmfohbaaaGreatDoor
namespace Go.Proofs.YtllabdmmfohbaaaGreatDoor
open Go Go.RowKit Limb
theorem Row.sl {w : World} {g n : Nat} {e : TypeId} {xs : List Value} (h : Row w g e xs) (hn : n = xs.length) (hm : n ≤ maxLen) : Sl w g e n n xs :=
  ⟨xs, h, hn.symm, hn.symm, Nat.le_refl _, hm, List.take_of_length_le (by omega)⟩
theorem size_fmt (W : World) : (sizeOf 73).run Tryz.prog W = .ok 1 W := by kernel_rfl
set_option maxRecDepth 100000 in
theorem fmt_index (w : World) (g : Nat) (l : List Nat) (f n : Nat) (hr : Row w g 73 (nums .i64 l)) (hn : n = l.length) (hm : n ≤ 1000) :
    Calls Tryz.prog 255 #[.slice (some ⟨g, 0, none⟩) n n, .int .i64 f] w fun e w' => (∃ z : Int, e = .returned (.int .i64 z) ∧ (0 ≤ z ↔ f ∈ l)) ∧ w = w' := by
  have sl : Sl w g 73 n n (nums .i64 l) := hr.sl (by rw [nums_length]; exact hn) (Nat.le_trans hm (by decide))
  have Hn := Lib.hid hn; clear hn
  go_enter Tryz.func255, Tryz.ntmps255
  go_wp2_with fail
  go_loop [8] (fun s => ∃ k : Nat, k ≤ n ∧ s = .int .i64 k ∧ ∀ j, j < k → wd l j ≠ f) (fun s => n - (RowKit.intOf s).toNat)
  case atStart => exact ⟨0, Nat.zero_le _, rfl, fun j hj => absurd hj (by omega)⟩
  case round =>
    obtain ⟨k, hk, rfl, hx⟩ := hrel
    by_cases h0 : k < n
    · have d1 : decide ((k : Int) < (n : Int)) = true := decide_eq_true (by omega)
      have d2 : decide (k < n) = true := decide_eq_true h0
      have ix := fun W => sl.index 167 Tryz.underlying167 size_fmt W .i64 k h0
      have cx := sl.cell h0
      rw [nums_get (by rw [← Hn.out]; exact h0)] at cx
      by_cases he : wd l k = f
      · have hmem : f ∈ l := by rw [← he, wd_lt (by rw [← Hn.out]; exact h0)]; exact List.getElem_mem _
        rw [he] at cx
        clear he hx sl hr Hn d1
        have HM := Lib.hid hmem
        clear hmem
        go_wp2_with fail
        go_ret
        exact ⟨⟨k, rfl, fun _ => HM.out, fun _ => by omega⟩, rfl⟩
      · have q1 : ((f : Int) == (wd l k : Nat)) = false := by rw [beq_eq_false_iff_ne]; omega
        have q2 : (f == wd l k) = false := by rw [beq_eq_false_iff_ne]; omega
        have HX := Lib.hid (show ∀ j, j < k + 1 → wd l j ≠ f from fun j hj => by
          by_cases e : j = k
          · rw [e]; exact he
          · exact hx j (by omega))
        generalize wd l k = u at *
        clear he hx sl hr Hn
        go_wp2_with fail
        go_round
        case rel => exact ⟨k + 1, h0, by simp, HX.out⟩
        case measure => simp [RowKit.intOf]; omega
    · have d1 : decide ((k : Int) < (n : Int)) = false := decide_eq_false (by omega)
      have d2 : decide (k < n) = false := decide_eq_false h0
      have HN := Lib.hid (show ¬ f ∈ l from fun hm => by
        obtain ⟨j, hj, e⟩ := List.getElem_of_mem hm
        exact hx j (by have := Hn.out; omega) (by rw [wd_lt hj]; exact e))
      clear hx sl hr Hn hk h0
      go_wp2_with fail
      go_ret
      exact ⟨⟨-1, rfl, fun h => absurd h (by decide), fun h => absurd h HN.out⟩, rfl⟩
set_option maxRecDepth 100000 in
theorem fmt_contains (w : World) (g : Nat) (l : List Nat) (f n : Nat) (hr : Row w g 73 (nums .i64 l)) (hn : n = l.length) (hm : n ≤ 1000) :
    Calls Tryz.prog 181 #[.slice (some ⟨g, 0, none⟩) n n, .int .i64 f] w fun e w' => e = .returned (.bool (l.contains f)) ∧ w = w' := by
  have HI := Lib.hid (fmt_index w g l f n hr hn hm)
  clear hr hn hm
  go_enter Tryz.func181, Tryz.ntmps181
  go_wp2_with fail
  refine (HI.out).mono ?_
  rintro e w1 ⟨⟨z, rfl, hz⟩, rfl⟩
  (try dsimp only)
  have e : l.contains f = decide (0 ≤ z) := by
    rw [List.contains_eq_mem]; exact decide_eq_decide.2 hz.symm
  have HE := Lib.hid e
  clear hz e HI
  go_wp2_with fail
  go_ret
  exact ⟨by rw [HE.out]; rfl, rfl⟩
end Go.Proofs.YtllabdmmfohbaaaGreatDoor
