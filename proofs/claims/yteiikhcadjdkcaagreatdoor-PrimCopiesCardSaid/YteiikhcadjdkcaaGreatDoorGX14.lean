/- The walks of package heap: Header, pointers, length, Length. The walks of slices.Index, slices.Contains at formats, and of package heap: look, Get, Word. The walk of package heap's look. -/
import Derived.Test.YteiikhcadjdkcaaGreatDoorGX13
set_option linter.unusedVariables false
set_option linter.unusedSimpArgs false
namespace Go.Proofs.YteiikhcadjdkcaaGreatDoor
open Go Go.RowKit Limb
def hdZ : Hd := ⟨0, 0, 0, 0, 0⟩
def hdX (h : Hp) (o : Nat) : Hd := if isO h o = true then hdO h o else hdZ
def erX (h : Hp) (o : Nat) : Nat := if isO h o = true then 0 else 3
theorem idxN_of {h : Hp} {o : Nat} (ho : isO h o = true) : idxN o = o / 2 := by
  unfold idxN; rw [if_pos (kind_two.2 ⟨(isO_iff.1 ho).1, (isO_iff.1 ho).2.1⟩)]
section
variable {w : World} {F : Foot} {h : Hp}
set_option maxHeartbeats 1600000 in
set_option maxRecDepth 100000 in
theorem heap_Header (H : HeapAt w F h) (o : Nat) (ho : o < 4294967296) :
    Calls Tryz.prog 57 #[.pointer (some ⟨F.p, 0, none⟩), .int .u32 o] w fun e w' => e = .returned (.tuple #[hdV (hdX h o), .int .i64 (erX h o)]) ∧ Below w.heap.size w w' := by
  obtain ⟨W, hW, r0, hB, hz⟩ := alloc_row w 102 [.int .i64 0, .int .i64 0, .int .i64 0, .int .u32 0, .int .u32 0]
  have HW := Lib.hid hW
  have HH := H.belowB hB (Nat.le_refl _)
  have HI := Lib.hid (heap_is HH o ho)
  by_cases hi : isO h o = true
  · have HA := Lib.hid (heap_at o ho W (.pointer (some ⟨F.p, 0, none⟩)))
    have hb := heap_header HH (o / 2) (isO_iff.1 hi).2.2
    have ha := HA.out
    rw [idxN_of hi] at ha
    have HA := Lib.hid ha
    have e1 : hdX h o = hd h (o / 2) := by unfold hdX; rw [if_pos hi]; rfl
    have e2 : erX h o = 0 := by unfold erX; rw [if_pos hi]
    rw [e1, e2]
    have hI := HI.out
    rw [hi] at hI
    have HI := Lib.hid hI
    generalize o / 2 = i at *
    generalize hd h i = x at *
    have ex : hdV x = .agg #[.int .i64 x.size, .int .i64 x.fmt, .int .i64 x.spare, .int .u32 x.cls, .int .u32 x.ser] := rfl
    rw [ex] at hb ⊢
    generalize x.size = x0 at *
    generalize x.fmt = x1 at *
    generalize x.spare = x2 at *
    generalize x.cls = x3 at *
    generalize x.ser = x4 at *
    have HD := Lib.hid hb
    clear hb ha hI e1 e2 ex hW hz HH hi H
    go_enter Tryz.func57, Tryz.ntmps57
    go_wp2_with fail
    rw [← HW.out]
    refine (HI.out).mono ?_
    rintro e V ⟨rfl, rfl⟩
    (try dsimp only)
    go_wp2_with fail
    refine (HA.out).mono ?_
    rintro e V ⟨rfl, rfl⟩
    (try dsimp only)
    go_wp2_with fail
    refine (HD.out).mono ?_
    rintro e V ⟨rfl, hb⟩
    (try dsimp only)
    replace r0 := r0.below hb r0.lt
    replace hB := hB.trans (hb.mono hB.size)
    clear hb
    have z0 := r0.free 0
    have z1 := r0.free 1
    have z2 := r0.free 2
    have z3 := r0.free 3
    have z4 := r0.free 4
    obtain ⟨p0, p1, p2, p3, p4⟩ := r0.cells5
    obtain ⟨f0, f1, f2, f3, f4⟩ := Row.cells5 (store5 r0 (.int .i64 x0) (.int .i64 x1) (.int .i64 x2) (.int .u32 x3) (.int .u32 x4))
    have HE := Lib.hid (below_store5 hB (Nat.le_refl _) (.int .i64 x0) (.int .i64 x1) (.int .i64 x2) (.int .u32 x3) (.int .u32 x4))
    clear HW HI HA HD
    go_wp2_with fail
    refine bodyPost_ret (v := .tuple #[.agg #[.int .i64 x0, .int .i64 x1, .int .i64 x2, .int .u32 x3, .int .u32 x4], .int .i64 0]) (by simp [results, Tryz.results57, go_sem, f0, f1, f2, f3, f4]) rfl ⟨rfl, HE.out⟩
  · have e1 : hdX h o = hdZ := by unfold hdX; rw [if_neg hi]
    have e2 : erX h o = 3 := by unfold erX; rw [if_neg hi]
    rw [e1, e2]
    rw [Bool.not_eq_true] at hi
    have hI := HI.out
    rw [hi] at hI
    have HI := Lib.hid hI
    have z0 := r0.free 0
    have z1 := r0.free 1
    have z2 := r0.free 2
    have z3 := r0.free 3
    have z4 := r0.free 4
    obtain ⟨p0, p1, p2, p3, p4⟩ := r0.cells5
    obtain ⟨f0, f1, f2, f3, f4⟩ := Row.cells5 (store5 r0 (.int .i64 0) (.int .i64 0) (.int .i64 0) (.int .u32 0) (.int .u32 0))
    have HE := Lib.hid (below_store5 hB (Nat.le_refl _) (.int .i64 0) (.int .i64 0) (.int .i64 0) (.int .u32 0) (.int .u32 0))
    clear hI e1 e2 hW hz HH hi H
    go_enter Tryz.func57, Tryz.ntmps57
    go_wp2_with fail
    rw [← HW.out]
    refine (HI.out).mono ?_
    rintro e V ⟨rfl, rfl⟩
    (try dsimp only)
    clear HW HI
    go_wp2_with fail
    refine bodyPost_ret (v := .tuple #[hdV hdZ, .int .i64 3]) (by simp [results, Tryz.results57, go_sem, f0, f1, f2, f3, f4, hdV, hdZ]) rfl ⟨rfl, HE.out⟩
set_option maxRecDepth 100000 in
theorem heap_pointers (x : Hd) (w : World) :
    Calls Tryz.prog 74 #[hdV x] w fun e w' => e = .returned (.bool (decide (x.fmt = 1) || decide (x.fmt = 4))) ∧ Below w.heap.size w w' := by
  have hB : Below w.heap.size w (w.alloc (.cells #[.int .i64 x.size, .int .i64 x.fmt, .int .i64 x.spare, .int .u32 x.cls, .int .u32 x.ser] 102)) := (Below.refl _ _).alloc (Nat.le_refl _) _
  unfold hdV
  generalize x.fmt = f at *
  by_cases h1 : f = 1
  · rw [decide_eq_true h1]
    subst h1
    go_enter Tryz.func74, Tryz.ntmps74
    go_wp2_with fail
    go_ret
    exact ⟨rfl, hB⟩
  · have q : ((f : Int) == 1) = false := by rw [beq_eq_false_iff_ne]; omega
    rw [decide_eq_false h1]
    by_cases h4 : f = 4
    · rw [decide_eq_true h4]
      subst h4
      clear h1 q
      go_enter Tryz.func74, Tryz.ntmps74
      go_wp2_with fail
      go_ret
      exact ⟨rfl, hB⟩
    · have q4 : ((f : Int) == 4) = false := by rw [beq_eq_false_iff_ne]; omega
      rw [decide_eq_false h4]
      clear h1 h4
      go_enter Tryz.func74, Tryz.ntmps74
      go_wp2_with fail
      go_ret
      exact ⟨rfl, hB⟩
set_option maxRecDepth 100000 in
theorem heap_length (x : Hd) (k : x.Ok ∨ x = hdZ) (w : World) :
    Calls Tryz.prog 184 #[hdV x] w fun e w' => e = .returned (.int .i64 x.len) ∧ Below w.heap.size w w' := by
  have hB : Below w.heap.size w (w.alloc (.cells #[.int .i64 x.size, .int .i64 x.fmt, .int .i64 x.spare, .int .u32 x.cls, .int .u32 x.ser] 102)) := (Below.refl _ _).alloc (Nat.le_refl _) _
  have h1 : x.size ≤ 65535 := by rcases k with k | k; exact k.size; rw [k]; decide
  have h2 : x.spare ≤ 3 := by rcases k with k | k; exact k.spare; rw [k]; decide
  have h3 : x.spare = 0 ∨ (x.fmt = 2 ∧ 0 < x.size) := by rcases k with k | k; exact k.sp; rw [k]; decide
  unfold hdV Hd.len
  generalize x.fmt = f at *
  generalize x.size = n at *
  generalize x.spare = s at *
  by_cases hf : f = 2
  · rw [if_pos hf]
    subst hf
    have e : ((4 * n - s : Nat) : Int) = 4 * (n : Int) - (s : Int) := by omega
    rw [e]
    clear e h3 k
    go_enter Tryz.func184, Tryz.ntmps184
    go_wp2_with fail
    go_ret
    exact ⟨rfl, hB⟩
  · have q : ((f : Int) == 2) = false := by rw [beq_eq_false_iff_ne]; omega
    rw [if_neg hf]
    clear hf h3 k
    go_enter Tryz.func184, Tryz.ntmps184
    go_wp2_with fail
    go_ret
    exact ⟨rfl, hB⟩
end
end Go.Proofs.YteiikhcadjdkcaaGreatDoor
namespace Go.Proofs.YteiikhcadjdkcaaGreatDoor
open Go Go.RowKit Limb
theorem Row.sl {w : World} {g n : Nat} {e : TypeId} {xs : List Value} (h : Row w g e xs) (hn : n = xs.length) (hm : n ≤ maxLen) : Sl w g e n n xs :=
  ⟨xs, h, hn.symm, hn.symm, Nat.le_refl _, hm, List.take_of_length_le (by omega)⟩
theorem size_fmt (W : World) : (sizeOf 76).run Tryz.prog W = .ok 1 W := by kernel_rfl
set_option maxRecDepth 100000 in
theorem fmt_index (w : World) (g : Nat) (l : List Nat) (f n : Nat) (hr : Row w g 76 (nums .i64 l)) (hn : n = l.length) (hm : n ≤ 1000) :
    Calls Tryz.prog 255 #[.slice (some ⟨g, 0, none⟩) n n, .int .i64 f] w fun e w' => (∃ z : Int, e = .returned (.int .i64 z) ∧ (0 ≤ z ↔ f ∈ l)) ∧ w = w' := by
  have sl : Sl w g 76 n n (nums .i64 l) := hr.sl (by rw [nums_length]; exact hn) (Nat.le_trans hm (by decide))
  have Hn := Lib.hid hn; clear hn
  go_enter Tryz.func255, Tryz.ntmps255
  go_wp2_with fail
  go_loop [8] (fun s => ∃ k : Nat, k ≤ n ∧ s = .int .i64 k ∧ ∀ j, j < k → wd l j ≠ f) (fun s => n - (RowKit.intOf s).toNat)
  case atStart => exact ⟨0, Nat.zero_le _, rfl, fun j hj => absurd hj (by omega)⟩
  case round =>
    obtain ⟨k, hk, rfl, hx⟩ := hrel
    by_cases h0 : k < n
    · have d1 : decide ((k : Int) < (n : Int)) = true := decide_eq_true (by omega)
      have d2 : decide (k < n) = true := decide_eq_true h0
      have ix := fun W => sl.index 177 Tryz.underlying177 size_fmt W .i64 k h0
      have cx := sl.cell h0
      rw [nums_get (by rw [← Hn.out]; exact h0)] at cx
      by_cases he : wd l k = f
      · have hmem : f ∈ l := by rw [← he, wd_lt (by rw [← Hn.out]; exact h0)]; exact List.getElem_mem _
        rw [he] at cx
        clear he hx sl hr Hn d1
        have HM := Lib.hid hmem
        clear hmem
        go_wp2_with fail
        go_ret
        exact ⟨⟨k, rfl, fun _ => HM.out, fun _ => by omega⟩, rfl⟩
      · have q1 : ((f : Int) == (wd l k : Nat)) = false := by rw [beq_eq_false_iff_ne]; omega
        have q2 : (f == wd l k) = false := by rw [beq_eq_false_iff_ne]; omega
        have HX := Lib.hid (show ∀ j, j < k + 1 → wd l j ≠ f from fun j hj => by
          by_cases e : j = k
          · rw [e]; exact he
          · exact hx j (by omega))
        generalize wd l k = u at *
        clear he hx sl hr Hn
        go_wp2_with fail
        go_round
        case rel => exact ⟨k + 1, h0, by simp, HX.out⟩
        case measure => simp [RowKit.intOf]; omega
    · have d1 : decide ((k : Int) < (n : Int)) = false := decide_eq_false (by omega)
      have d2 : decide (k < n) = false := decide_eq_false h0
      have HN := Lib.hid (show ¬ f ∈ l from fun hm => by
        obtain ⟨j, hj, e⟩ := List.getElem_of_mem hm
        exact hx j (by have := Hn.out; omega) (by rw [wd_lt hj]; exact e))
      clear hx sl hr Hn hk h0
      go_wp2_with fail
      go_ret
      exact ⟨⟨-1, rfl, fun h => absurd h (by decide), fun h => absurd h HN.out⟩, rfl⟩
set_option maxRecDepth 100000 in
theorem fmt_contains (w : World) (g : Nat) (l : List Nat) (f n : Nat) (hr : Row w g 76 (nums .i64 l)) (hn : n = l.length) (hm : n ≤ 1000) :
    Calls Tryz.prog 183 #[.slice (some ⟨g, 0, none⟩) n n, .int .i64 f] w fun e w' => e = .returned (.bool (l.contains f)) ∧ w = w' := by
  have HI := Lib.hid (fmt_index w g l f n hr hn hm)
  clear hr hn hm
  go_enter Tryz.func183, Tryz.ntmps183
  go_wp2_with fail
  refine (HI.out).mono ?_
  rintro e w1 ⟨⟨z, rfl, hz⟩, rfl⟩
  (try dsimp only)
  have e : l.contains f = decide (0 ≤ z) := by
    rw [List.contains_eq_mem]; exact decide_eq_decide.2 hz.symm
  have HE := Lib.hid e
  clear hz e HI
  go_wp2_with fail
  go_ret
  exact ⟨by rw [HE.out]; rfl, rfl⟩
end Go.Proofs.YteiikhcadjdkcaaGreatDoor
namespace Go.Proofs.YteiikhcadjdkcaaGreatDoor
open Go Go.RowKit Limb
def lookE (h : Hp) (o : Nat) (i : Int) (l : List Nat) : Nat := if isO h o = true then (if l.contains (hdO h o).fmt = true then (if 0 ≤ i ∧ i < (hdO h o).len then 0 else 1) else 21) else 3
def lookA (h : Hp) (o : Nat) (i : Int) (l : List Nat) : Nat := if lookE h o i l = 0 then o / 2 + 3 else 0
theorem lookE_zero {h : Hp} {o : Nat} {i : Int} {l : List Nat} : lookE h o i l = 0 ↔ isO h o = true ∧ l.contains (hdO h o).fmt = true ∧ 0 ≤ i ∧ i < (hdO h o).len := by
  unfold lookE
  by_cases h1 : isO h o = true
  · rw [if_pos h1]
    by_cases h2 : l.contains (hdO h o).fmt = true
    · rw [if_pos h2]
      by_cases h3 : 0 ≤ i ∧ i < (hdO h o).len
      · rw [if_pos h3]; exact ⟨fun _ => ⟨h1, h2, h3⟩, fun _ => rfl⟩
      · rw [if_neg h3]; exact ⟨fun e => by omega, fun e => absurd e.2.2 h3⟩
    · rw [if_neg h2]; exact ⟨fun e => by omega, fun e => absurd e.2.1 h2⟩
  · rw [if_neg h1]; exact ⟨fun e => by omega, fun e => absurd e.1 h1⟩
section
variable {w : World} {F : Foot} {h : Hp}
set_option maxHeartbeats 3200000 in
set_option maxRecDepth 100000 in
theorem heap_look (H : HeapAt w F h) (o : Nat) (ho : o < 4294967296) (i : Int) (g : Nat) (l : List Nat) (m : Nat) (hr : Row w g 76 (nums .i64 l)) (hm : m = l.length) (hm2 : m ≤ 1000) :
    Calls Tryz.prog 60 #[.pointer (some ⟨F.p, 0, none⟩), .int .u32 o, .int .i64 i, .slice (some ⟨g, 0, none⟩) m m] w fun e w' =>
      e = .returned (.tuple #[.int .i64 (lookA h o i l), .int .i64 (lookE h o i l)]) ∧ Below w.heap.size w w' := by
  have HD := Lib.hid (heap_Header H o ho)
  by_cases hi : isO h o = true
  · have e1 : hdX h o = hdO h o := by unfold hdX; rw [if_pos hi]
    have e2 : erX h o = 0 := by unfold erX; rw [if_pos hi]
    have hd := HD.out
    rw [e1, e2] at hd
    have hok : (hdO h o).Ok := (H.good.ok _ (isO_iff.1 hi).2.2).1
    have HLn := Lib.hid (fun X => heap_length (hdO h o) (.inl hok) X)
    have HC := Lib.hid (fun X (hx : Below w.heap.size w X) => fmt_contains X g l (hdO h o).fmt m (hr.below hx hr.lt) hm hm2)
    have HA := Lib.hid (fun X => heap_at o ho X (.pointer (some ⟨F.p, 0, none⟩)))
    have ha := HA.out
    rw [idxN_of hi] at ha
    have HA := Lib.hid ha
    have ex : hdV (hdO h o) = .agg #[.int .i64 (hdO h o).size, .int .i64 (hdO h o).fmt, .int .i64 (hdO h o).spare, .int .u32 (hdO h o).cls, .int .u32 (hdO h o).ser] := rfl
    rw [ex] at hd HLn
    have HD := Lib.hid hd
    have elA : lookA h o i l = if lookE h o i l = 0 then o / 2 + 3 else 0 := rfl
    have elE : lookE h o i l = if l.contains (hdO h o).fmt = true then (if 0 ≤ i ∧ i < (hdO h o).len then 0 else 1) else 21 := by unfold lookE; rw [if_pos hi]
    have hsm : o / 2 ≤ 1048576 := by have := begins_lt (isO_iff.1 hi).2.2; have := H.good.len; have := H.small; omega
    have hll : (hdO h o).len ≤ 262140 := by have := hok.size; unfold Hd.len; split <;> omega
    have HN := Lib.hid (show lookA h o i l = (if l.contains (hdO h o).fmt = true then (if 0 ≤ i ∧ i < (hdO h o).len then o / 2 + 3 else 0) else 0) from by
      rw [elA, elE]
      by_cases c1 : l.contains (hdO h o).fmt = true
      · rw [if_pos c1, if_pos c1]
        by_cases c2 : 0 ≤ i ∧ i < (hdO h o).len
        · rw [if_pos c2, if_pos c2]; rfl
        · rw [if_neg c2, if_neg c2]; rfl
      · rw [if_neg c1, if_neg c1]; rfl)
    obtain ⟨rA, hrA⟩ : ∃ x, x = lookA h o i l := ⟨_, rfl⟩
    obtain ⟨rE, hrE⟩ : ∃ x, x = lookE h o i l := ⟨_, rfl⟩
    rw [← hrA, ← hrE]
    rw [HN.out] at hrA
    rw [elE] at hrE
    clear HN elA elE
    generalize hdO h o = x at *
    generalize o / 2 = at0 at *
    generalize x.len = ln at *
    generalize x.size = x0 at *
    generalize x.fmt = x1 at *
    generalize x.spare = x2 at *
    generalize x.cls = x3 at *
    generalize x.ser = x4 at *
    generalize l.contains x1 = cc at *
    clear hd ha e1 e2 ex hok hi H hr hm hm2
    have HRA := Lib.hid hrA
    have HRE := Lib.hid hrE
    clear hrA hrE
    go_enter Tryz.func60, Tryz.ntmps60
    go_wp2_with fail
    refine (HD.out).mono ?_
    rintro e V ⟨rfl, hB⟩
    (try dsimp only)
    obtain ⟨W, hW, r0, hb, hz⟩ := alloc_row V 102 [.int .i64 x0, .int .i64 x1, .int .i64 x2, .int .u32 x3, .int .u32 x4]
    have HW := Lib.hid hW; clear hW hz
    replace hB := hB.trans (hb.mono hB.size)
    clear hb
    obtain ⟨p0, p1, p2, p3, p4⟩ := r0.cells5
    go_wp2_with fail
    rw [← HW.out]
    refine (HC.out W hB).mono ?_
    rintro e W1 ⟨rfl, rfl⟩
    (try dsimp only)
    cases cc with
    | false =>
      obtain rfl : rA = 0 := HRA.out
      obtain rfl : rE = 21 := HRE.out
      clear HRA HRE HLn HC HA HD HW r0 p0 p1 p2 p3 p4
      go_wp2_with fail
      go_ret2
      exact ⟨rfl, hB⟩
    | true =>
      by_cases i0 : i < 0
      · have d1 : decide (i < 0) = true := decide_eq_true i0
        obtain rfl : rA = 0 := by rw [HRA.out, if_pos rfl, if_neg (by omega)]
        obtain rfl : rE = 1 := by rw [HRE.out, if_pos rfl, if_neg (by omega)]
        clear HRA HRE HLn HC HA HD HW r0 p0 p1 p2 p3 p4 i0
        go_wp2_with fail
        go_ret2
        exact ⟨rfl, hB⟩
      · have d1 : decide (i < 0) = false := decide_eq_false i0
        go_wp2_with fail
        refine (HLn.out W).mono ?_
        rintro e W2 ⟨rfl, hb⟩
        (try dsimp only)
        replace r0 := r0.below hb r0.lt
        replace hB := hB.trans (hb.mono hB.size)
        clear hb
        by_cases i1 : (ln : Int) ≤ i
        · have d2 : decide ((ln : Int) ≤ i) = true := decide_eq_true i1
          obtain rfl : rA = 0 := by rw [HRA.out, if_pos trivial, if_neg (by omega)]
          obtain rfl : rE = 1 := by rw [HRE.out, if_pos trivial, if_neg (by omega)]
          clear HRA HRE HLn HC HA HD HW r0 p0 p1 p2 p3 p4 i0 i1
          go_wp2_with fail
          go_ret2
          exact ⟨rfl, hB⟩
        · have d2 : decide ((ln : Int) ≤ i) = false := decide_eq_false i1
          obtain rfl : rA = at0 + 3 := by rw [HRA.out, if_pos trivial, if_pos (by omega)]
          obtain rfl : rE = 0 := by rw [HRE.out, if_pos trivial, if_pos (by omega)]
          clear HRA HRE HLn HC HD HW r0 p0 p1 p2 p3 p4 i0 i1
          go_wp2_with fail
          refine (HA.out W2).mono ?_
          rintro e W3 ⟨rfl, rfl⟩
          (try dsimp only)
          go_wp2_with fail
          go_ret2
          exact ⟨rfl, hB⟩
  · have e2 : erX h o = 3 := by unfold erX; rw [if_neg hi]
    have e1 : hdX h o = hdZ := by unfold hdX; rw [if_neg hi]
    have e3 : lookE h o i l = 3 := by unfold lookE; rw [if_neg hi]
    have e4 : lookA h o i l = 0 := by unfold lookA; rw [e3]; rfl
    have hd := HD.out
    rw [e1, e2, show hdV hdZ = .agg #[.int .i64 0, .int .i64 0, .int .i64 0, .int .u32 0, .int .u32 0] from rfl] at hd
    have HD := Lib.hid hd
    rw [e3, e4]
    clear hd e1 e2 e3 e4 hi H hr hm
    go_enter Tryz.func60, Tryz.ntmps60
    go_wp2_with fail
    refine (HD.out).mono ?_
    rintro e V ⟨rfl, hB⟩
    (try dsimp only)
    have hE := hB.alloc hB.size (.cells #[.int .i64 0, .int .i64 0, .int .i64 0, .int .u32 0, .int .u32 0] 102)
    go_wp2_with fail
    go_ret2
    exact ⟨rfl, hE⟩
end
end Go.Proofs.YteiikhcadjdkcaaGreatDoor
