/- The walk of package heap's look. -/
import Derived.Test.YtllabdmmfohbaaaGreatDoorGX15
set_option linter.unusedVariables false
set_option linter.unusedSimpArgs false
namespace Go.Proofs.YtllabdmmfohbaaaGreatDoor
open Go Go.RowKit Limb
def lookE (h : Hp) (o : Nat) (i : Int) (l : List Nat) : Nat := if isO h o = true then (if l.contains (hdO h o).fmt = true then (if 0 ≤ i ∧ i < (hdO h o).len then 0 else 1) else 21) else 3
def lookA (h : Hp) (o : Nat) (i : Int) (l : List Nat) : Nat := if lookE h o i l = 0 then o / 2 + 3 else 0
theorem lookE_zero {h : Hp} {o : Nat} {i : Int} {l : List Nat} : lookE h o i l = 0 ↔ isO h o = true ∧ l.contains (hdO h o).fmt = true ∧ 0 ≤ i ∧ i < (hdO h o).len := by
  unfold lookE
  by_cases h1 : isO h o = true
  · rw [if_pos h1]
    by_cases h2 : l.contains (hdO h o).fmt = true
    · rw [if_pos h2]
      by_cases h3 : 0 ≤ i ∧ i < (hdO h o).len
      · rw [if_pos h3]; exact ⟨fun _ => ⟨h1, h2, h3⟩, fun _ => rfl⟩
      · rw [if_neg h3]; exact ⟨fun e => by omega, fun e => absurd e.2.2 h3⟩
    · rw [if_neg h2]; exact ⟨fun e => by omega, fun e => absurd e.2.1 h2⟩
  · rw [if_neg h1]; exact ⟨fun e => by omega, fun e => absurd e.1 h1⟩
section
variable {w : World} {F : Foot} {h : Hp}
set_option maxHeartbeats 3200000 in
set_option maxRecDepth 100000 in
theorem heap_look (H : HeapAt w F h) (o : Nat) (ho : o < 4294967296) (i : Int) (g : Nat) (l : List Nat) (m : Nat) (hr : Row w g 73 (nums .i64 l)) (hm : m = l.length) (hm2 : m ≤ 1000) :
    Calls Tryz.prog 55 #[.pointer (some ⟨F.p, 0, none⟩), .int .u32 o, .int .i64 i, .slice (some ⟨g, 0, none⟩) m m] w fun e w' =>
      e = .returned (.tuple #[.int .i64 (lookA h o i l), .int .i64 (lookE h o i l)]) ∧ Below w.heap.size w w' := by
  have HD := Lib.hid (heap_Header H o ho)
  by_cases hi : isO h o = true
  · have e1 : hdX h o = hdO h o := by unfold hdX; rw [if_pos hi]
    have e2 : erX h o = 0 := by unfold erX; rw [if_pos hi]
    have hd := HD.out
    rw [e1, e2] at hd
    have hok : (hdO h o).Ok := (H.good.ok _ (isO_iff.1 hi).2.2).1
    have HLn := Lib.hid (fun X => heap_length (hdO h o) (.inl hok) X)
    have HC := Lib.hid (fun X (hx : Below w.heap.size w X) => fmt_contains X g l (hdO h o).fmt m (hr.below hx hr.lt) hm hm2)
    have HA := Lib.hid (fun X => heap_at o ho X (.pointer (some ⟨F.p, 0, none⟩)))
    have ha := HA.out
    rw [idxN_of hi] at ha
    have HA := Lib.hid ha
    have ex : hdV (hdO h o) = .agg #[.int .i64 (hdO h o).size, .int .i64 (hdO h o).fmt, .int .i64 (hdO h o).spare, .int .u32 (hdO h o).cls, .int .u32 (hdO h o).ser] := rfl
    rw [ex] at hd HLn
    have HD := Lib.hid hd
    have elA : lookA h o i l = if lookE h o i l = 0 then o / 2 + 3 else 0 := rfl
    have elE : lookE h o i l = if l.contains (hdO h o).fmt = true then (if 0 ≤ i ∧ i < (hdO h o).len then 0 else 1) else 21 := by unfold lookE; rw [if_pos hi]
    have hsm : o / 2 ≤ 1048576 := by have := begins_lt (isO_iff.1 hi).2.2; have := H.good.len; have := H.small; omega
    have hll : (hdO h o).len ≤ 262140 := by have := hok.size; unfold Hd.len; split <;> omega
    have HN := Lib.hid (show lookA h o i l = (if l.contains (hdO h o).fmt = true then (if 0 ≤ i ∧ i < (hdO h o).len then o / 2 + 3 else 0) else 0) from by
      rw [elA, elE]
      by_cases c1 : l.contains (hdO h o).fmt = true
      · rw [if_pos c1, if_pos c1]
        by_cases c2 : 0 ≤ i ∧ i < (hdO h o).len
        · rw [if_pos c2, if_pos c2]; rfl
        · rw [if_neg c2, if_neg c2]; rfl
      · rw [if_neg c1, if_neg c1]; rfl)
    obtain ⟨rA, hrA⟩ : ∃ x, x = lookA h o i l := ⟨_, rfl⟩
    obtain ⟨rE, hrE⟩ : ∃ x, x = lookE h o i l := ⟨_, rfl⟩
    rw [← hrA, ← hrE]
    rw [HN.out] at hrA
    rw [elE] at hrE
    clear HN elA elE
    generalize hdO h o = x at *
    generalize o / 2 = at0 at *
    generalize x.len = ln at *
    generalize x.size = x0 at *
    generalize x.fmt = x1 at *
    generalize x.spare = x2 at *
    generalize x.cls = x3 at *
    generalize x.ser = x4 at *
    generalize l.contains x1 = cc at *
    clear hd ha e1 e2 ex hok hi H hr hm hm2
    have HRA := Lib.hid hrA
    have HRE := Lib.hid hrE
    clear hrA hrE
    go_enter Tryz.func55, Tryz.ntmps55
    go_wp2_with fail
    refine (HD.out).mono ?_
    rintro e V ⟨rfl, hB⟩
    (try dsimp only)
    obtain ⟨W, hW, r0, hb, hz⟩ := alloc_row V 100 [.int .i64 x0, .int .i64 x1, .int .i64 x2, .int .u32 x3, .int .u32 x4]
    have HW := Lib.hid hW; clear hW hz
    replace hB := hB.trans (hb.mono hB.size)
    clear hb
    obtain ⟨p0, p1, p2, p3, p4⟩ := r0.cells5
    go_wp2_with fail
    rw [← HW.out]
    refine (HC.out W hB).mono ?_
    rintro e W1 ⟨rfl, rfl⟩
    (try dsimp only)
    cases cc with
    | false =>
      obtain rfl : rA = 0 := HRA.out
      obtain rfl : rE = 21 := HRE.out
      clear HRA HRE HLn HC HA HD HW r0 p0 p1 p2 p3 p4
      go_wp2_with fail
      go_ret2
      exact ⟨rfl, hB⟩
    | true =>
      by_cases i0 : i < 0
      · have d1 : decide (i < 0) = true := decide_eq_true i0
        obtain rfl : rA = 0 := by rw [HRA.out, if_pos rfl, if_neg (by omega)]
        obtain rfl : rE = 1 := by rw [HRE.out, if_pos rfl, if_neg (by omega)]
        clear HRA HRE HLn HC HA HD HW r0 p0 p1 p2 p3 p4 i0
        go_wp2_with fail
        go_ret2
        exact ⟨rfl, hB⟩
      · have d1 : decide (i < 0) = false := decide_eq_false i0
        go_wp2_with fail
        refine (HLn.out W).mono ?_
        rintro e W2 ⟨rfl, hb⟩
        (try dsimp only)
        replace r0 := r0.below hb r0.lt
        replace hB := hB.trans (hb.mono hB.size)
        clear hb
        by_cases i1 : (ln : Int) ≤ i
        · have d2 : decide ((ln : Int) ≤ i) = true := decide_eq_true i1
          obtain rfl : rA = 0 := by rw [HRA.out, if_pos trivial, if_neg (by omega)]
          obtain rfl : rE = 1 := by rw [HRE.out, if_pos trivial, if_neg (by omega)]
          clear HRA HRE HLn HC HA HD HW r0 p0 p1 p2 p3 p4 i0 i1
          go_wp2_with fail
          go_ret2
          exact ⟨rfl, hB⟩
        · have d2 : decide ((ln : Int) ≤ i) = false := decide_eq_false i1
          obtain rfl : rA = at0 + 3 := by rw [HRA.out, if_pos trivial, if_pos (by omega)]
          obtain rfl : rE = 0 := by rw [HRE.out, if_pos trivial, if_pos (by omega)]
          clear HRA HRE HLn HC HD HW r0 p0 p1 p2 p3 p4 i0 i1
          go_wp2_with fail
          refine (HA.out W2).mono ?_
          rintro e W3 ⟨rfl, rfl⟩
          (try dsimp only)
          go_wp2_with fail
          go_ret2
          exact ⟨rfl, hB⟩
  · have e2 : erX h o = 3 := by unfold erX; rw [if_neg hi]
    have e1 : hdX h o = hdZ := by unfold hdX; rw [if_neg hi]
    have e3 : lookE h o i l = 3 := by unfold lookE; rw [if_neg hi]
    have e4 : lookA h o i l = 0 := by unfold lookA; rw [e3]; rfl
    have hd := HD.out
    rw [e1, e2, show hdV hdZ = .agg #[.int .i64 0, .int .i64 0, .int .i64 0, .int .u32 0, .int .u32 0] from rfl] at hd
    have HD := Lib.hid hd
    rw [e3, e4]
    clear hd e1 e2 e3 e4 hi H hr hm
    go_enter Tryz.func55, Tryz.ntmps55
    go_wp2_with fail
    refine (HD.out).mono ?_
    rintro e V ⟨rfl, hB⟩
    (try dsimp only)
    have hE := hB.alloc hB.size (.cells #[.int .i64 0, .int .i64 0, .int .i64 0, .int .u32 0, .int .u32 0] 100)
    go_wp2_with fail
    go_ret2
    exact ⟨rfl, hE⟩
end
end Go.Proofs.YtllabdmmfohbaaaGreatDoor
