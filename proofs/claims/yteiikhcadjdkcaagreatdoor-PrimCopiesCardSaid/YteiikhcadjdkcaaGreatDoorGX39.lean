/- The walks of package kernel: plans, selectors, written, fixed. -/
import Derived.Test.YteiikhcadjdkcaaGreatDoorGX38
import Derived.Test.YteiikhcadjdkcaaGreatDoorGX08
set_option linter.unusedVariables false
set_option linter.unusedSimpArgs false
namespace Go.Proofs.YteiikhcadjdkcaaGreatDoor
open Go Go.RowKit Limb
def strOf (t : List Nat) : ByteArray := ⟨(t.map UInt8.ofNat).toArray⟩
def sv (t : List Nat) : Value := .string (strOf t)
theorem tx_strOf {t : List Nat} (ht : B8 t) : tx (strOf t) = t := by
  unfold tx strOf
  rw [List.map_map]
  have : ∀ x ∈ t, (UInt8.toNat ∘ UInt8.ofNat) x = x := fun x hx => by
    show (UInt8.ofNat x).toNat = x
    rw [UInt8.toNat_ofNat']; exact Nat.mod_eq_of_lt (ht x hx)
  exact (List.map_congr_left this).trans (List.map_id _)
theorem strOf_size (t : List Nat) : (strOf t).size = t.length := by
  unfold strOf; show (List.toArray _).size = _; simp
def FieldsAt (w : World) (v : Value) (fs : List (List Nat)) : Prop := (fs = [] ∧ v = .slice none 0 0) ∨ (fs ≠ [] ∧ ∃ g, v = .slice (some ⟨g, 0, none⟩) fs.length fs.length ∧ Row w g 9 (fs.map sv))
theorem FieldsAt.only {w w' : World} {v : Value} {fs : List (List Nat)} {B : Nat} (h : FieldsAt w v fs) (ho : Below w.heap.size w w') : FieldsAt w' v fs := by
  rcases h with h | ⟨h1, g, h2, h3⟩
  · exact .inl h
  · exact .inr ⟨h1, g, h2, h3.below ho h3.lt⟩
def supV (n : Nat) : Int := if n = 0 then -1 else n
def planCells (p : Plan) (v : Value) : List Value := [sv p.name, .int .i64 (supV p.sup), .int .i64 p.fmt, .bool p.idx, v]
def flatP : List Plan → List Value → List Value
  | p :: t, v :: s => planCells p v ++ flatP t s
  | _, _ => []
def PlansAt (w : World) (g : Nat) (vs : List Value) : Prop := vs.length = 22 ∧ Row w g 81 (flatP plans vs) ∧ ∀ i, i < 22 → FieldsAt w (vs.getD i undef) (plans.getD i ⟨[], 0, 0, false, []⟩).fields
theorem PlansAt.below {w w' : World} {g : Nat} {vs : List Value} (h : PlansAt w g vs) (hb : Below w.heap.size w w') : PlansAt w' g vs :=
  ⟨h.1, h.2.1.below hb h.2.1.lt, fun i hi => (h.2.2 i hi).only (B := 0) hb⟩
set_option maxHeartbeats 1600000 in
set_option maxRecDepth 1000000 in
theorem kernel_plans (w : World) :
    Calls Tryz.prog 32 #[] w fun e w' => (∃ g vs, e = .returned (.slice (some ⟨g, 0, none⟩) 22 22) ∧ PlansAt w' g vs ∧ w.heap.size ≤ g) ∧ Below w.heap.size w w' := by
  obtain ⟨W0, hW0, r0, hb0, hz0⟩ := alloc_row w 9 [.string ⟨#[110, 97, 109, 101]⟩, .string ⟨#[115, 117, 112, 101, 114, 99, 108, 97, 115, 115]⟩, .string ⟨#[109, 101, 116, 104, 111, 100, 115]⟩, .string ⟨#[102, 105, 101, 108, 100, 115]⟩, .string ⟨#[102, 111, 114, 109, 97, 116]⟩, .string ⟨#[116, 104, 105, 115]⟩]
  obtain ⟨W1, hW1, r1, hb1, hz1⟩ := alloc_row W0 9 [.string ⟨#[107, 101, 121]⟩, .string ⟨#[118, 97, 108, 117, 101]⟩]
  obtain ⟨W2, hW2, r2, hb2, hz2⟩ := alloc_row W1 9 [.string ⟨#[104, 101, 97, 100, 101, 114]⟩, .string ⟨#[115, 101, 108, 101, 99, 116, 111, 114]⟩, .string ⟨#[99, 108, 97, 115, 115]⟩, .string ⟨#[108, 105, 116, 101, 114, 97, 108, 115]⟩, .string ⟨#[99, 111, 100, 101]⟩, .string ⟨#[115, 111, 117, 114, 99, 101]⟩, .string ⟨#[112, 114, 105, 109, 105, 116, 105, 118, 101]⟩]
  obtain ⟨W3, hW3, r3, hb3, hz3⟩ := alloc_row W2 9 [.string ⟨#[111, 117, 116, 101, 114]⟩, .string ⟨#[112, 99]⟩, .string ⟨#[97, 114, 103, 117, 109, 101, 110, 116, 115]⟩, .string ⟨#[116, 101, 109, 112, 111, 114, 97, 114, 105, 101, 115]⟩, .string ⟨#[104, 111, 109, 101]⟩, .string ⟨#[115, 116, 97, 99, 107]⟩]
  obtain ⟨W4, hW4, r4, hb4, hz4⟩ := alloc_row W3 9 [.string ⟨#[115, 101, 110, 100, 101, 114]⟩, .string ⟨#[112, 99]⟩, .string ⟨#[116, 111, 112]⟩, .string ⟨#[109, 101, 116, 104, 111, 100]⟩, .string ⟨#[114, 101, 99, 101, 105, 118, 101, 114]⟩, .string ⟨#[99, 108, 111, 115, 117, 114, 101]⟩, .string ⟨#[109, 97, 114, 107]⟩]
  obtain ⟨W5, hW5, r5, hb5, hz5⟩ := alloc_row W4 9 [.string ⟨#[115, 101, 108, 101, 99, 116, 111, 114]⟩, .string ⟨#[97, 114, 103, 117, 109, 101, 110, 116, 115]⟩]
  obtain ⟨W6, hW6, r6, hb6, hz6⟩ := alloc_row W5 9 [.string ⟨#[99, 111, 110, 116, 101, 120, 116]⟩, .string ⟨#[112, 114, 105, 111, 114, 105, 116, 121]⟩, .string ⟨#[110, 101, 120, 116]⟩, .string ⟨#[110, 97, 109, 101]⟩, .string ⟨#[119, 97, 107, 101]⟩, .string ⟨#[119, 97, 105, 116, 105, 110, 103]⟩, .string ⟨#[114, 101, 115, 117, 108, 116]⟩]
  obtain ⟨W7, hW7, r7, hb7, hz7⟩ := alloc_row W6 9 [.string ⟨#[115, 105, 103, 110, 97, 108, 115]⟩, .string ⟨#[102, 105, 114, 115, 116]⟩, .string ⟨#[108, 97, 115, 116]⟩]
  obtain ⟨W8, hW8, r8, hb8, hz8⟩ := alloc_row W7 9 [.string ⟨#[109, 101, 115, 115, 97, 103, 101, 84, 101, 120, 116]⟩, .string ⟨#[115, 105, 103, 110, 97, 108, 67, 111, 110, 116, 101, 120, 116]⟩, .string ⟨#[104, 97, 110, 100, 108, 101, 114, 67, 111, 110, 116, 101, 120, 116]⟩, .string ⟨#[116, 97, 103]⟩]
  obtain ⟨W9, hW9, r9, hb9, hz9⟩ := alloc_row W8 81 [.string ⟨#[79, 98, 106, 101, 99, 116]⟩, .int .i64 (-1), .int .i64 1, .bool false, .slice none 0 0, .string ⟨#[67, 108, 97, 115, 115]⟩, .int .i64 (10), .int .i64 1, .bool false, .slice (some ⟨w.heap.size, 0, none⟩) 6 6, .string ⟨#[77, 101, 116, 97, 99, 108, 97, 115, 115]⟩, .int .i64 (11), .int .i64 1, .bool false, .slice none 0 0, .string ⟨#[85, 110, 100, 101, 102, 105, 110, 101, 100, 79, 98, 106, 101, 99, 116]⟩, .int .i64 (10), .int .i64 1, .bool false, .slice none 0 0, .string ⟨#[84, 114, 117, 101]⟩, .int .i64 (10), .int .i64 1, .bool false, .slice none 0 0, .string ⟨#[70, 97, 108, 115, 101]⟩, .int .i64 (10), .int .i64 1, .bool false, .slice none 0 0, .string ⟨#[83, 109, 97, 108, 108, 73, 110, 116, 101, 103, 101, 114]⟩, .int .i64 (31), .int .i64 1, .bool false, .slice none 0 0, .string ⟨#[76, 97, 114, 103, 101, 73, 110, 116, 101, 103, 101, 114]⟩, .int .i64 (31), .int .i64 3, .bool true, .slice none 0 0, .string ⟨#[83, 121, 109, 98, 111, 108]⟩, .int .i64 (19), .int .i64 2, .bool true, .slice none 0 0, .string ⟨#[83, 116, 114, 105, 110, 103]⟩, .int .i64 (10), .int .i64 2, .bool true, .slice none 0 0, .string ⟨#[65, 114, 114, 97, 121]⟩, .int .i64 (10), .int .i64 1, .bool true, .slice none 0 0, .string ⟨#[87, 101, 97, 107, 65, 114, 114, 97, 121]⟩, .int .i64 (10), .int .i64 4, .bool true, .slice none 0 0, .string ⟨#[66, 121, 116, 101, 65, 114, 114, 97, 121]⟩, .int .i64 (10), .int .i64 2, .bool true, .slice none 0 0, .string ⟨#[65, 115, 115, 111, 99, 105, 97, 116, 105, 111, 110]⟩, .int .i64 (10), .int .i64 1, .bool false, .slice (some ⟨w.heap.size + 1, 0, none⟩) 2 2, .string ⟨#[77, 101, 116, 104, 111, 100]⟩, .int .i64 (10), .int .i64 1, .bool false, .slice (some ⟨w.heap.size + 1 + 1, 0, none⟩) 7 7, .string ⟨#[66, 108, 111, 99, 107]⟩, .int .i64 (10), .int .i64 1, .bool false, .slice (some ⟨w.heap.size + 1 + 1 + 1, 0, none⟩) 6 6, .string ⟨#[67, 111, 110, 116, 101, 120, 116]⟩, .int .i64 (10), .int .i64 1, .bool true, .slice (some ⟨w.heap.size + 1 + 1 + 1 + 1, 0, none⟩) 7 7, .string ⟨#[77, 101, 115, 115, 97, 103, 101]⟩, .int .i64 (10), .int .i64 1, .bool false, .slice (some ⟨w.heap.size + 1 + 1 + 1 + 1 + 1, 0, none⟩) 2 2, .string ⟨#[80, 114, 111, 99, 101, 115, 115]⟩, .int .i64 (10), .int .i64 1, .bool false, .slice (some ⟨w.heap.size + 1 + 1 + 1 + 1 + 1 + 1, 0, none⟩) 7 7, .string ⟨#[83, 101, 109, 97, 112, 104, 111, 114, 101]⟩, .int .i64 (10), .int .i64 1, .bool false, .slice (some ⟨w.heap.size + 1 + 1 + 1 + 1 + 1 + 1 + 1, 0, none⟩) 3 3, .string ⟨#[69, 120, 99, 101, 112, 116, 105, 111, 110]⟩, .int .i64 (10), .int .i64 1, .bool false, .slice (some ⟨w.heap.size + 1 + 1 + 1 + 1 + 1 + 1 + 1 + 1, 0, none⟩) 4 4, .string ⟨#[73, 110, 116, 101, 103, 101, 114]⟩, .int .i64 (10), .int .i64 1, .bool false, .slice none 0 0]
  have hB : Below w.heap.size w W9 := (((((((((hb0.trans (hb1.mono (by omega))).trans (hb2.mono (by omega))).trans (hb3.mono (by omega))).trans (hb4.mono (by omega))).trans (hb5.mono (by omega))).trans (hb6.mono (by omega))).trans (hb7.mono (by omega))).trans (hb8.mono (by omega))).trans (hb9.mono (by omega)))
  rw [hz0] at r1
  rw [hz1, hz0] at r2
  rw [hz2, hz1, hz0] at r3
  rw [hz3, hz2, hz1, hz0] at r4
  rw [hz4, hz3, hz2, hz1, hz0] at r5
  rw [hz5, hz4, hz3, hz2, hz1, hz0] at r6
  rw [hz6, hz5, hz4, hz3, hz2, hz1, hz0] at r7
  rw [hz7, hz6, hz5, hz4, hz3, hz2, hz1, hz0] at r8
  rw [hz8, hz7, hz6, hz5, hz4, hz3, hz2, hz1, hz0] at r9
  replace r0 := r0.below hb1 r0.lt
  replace r0 := r0.below hb2 r0.lt
  replace r0 := r0.below hb3 r0.lt
  replace r0 := r0.below hb4 r0.lt
  replace r0 := r0.below hb5 r0.lt
  replace r0 := r0.below hb6 r0.lt
  replace r0 := r0.below hb7 r0.lt
  replace r0 := r0.below hb8 r0.lt
  replace r0 := r0.below hb9 r0.lt
  replace r1 := r1.below hb2 r1.lt
  replace r1 := r1.below hb3 r1.lt
  replace r1 := r1.below hb4 r1.lt
  replace r1 := r1.below hb5 r1.lt
  replace r1 := r1.below hb6 r1.lt
  replace r1 := r1.below hb7 r1.lt
  replace r1 := r1.below hb8 r1.lt
  replace r1 := r1.below hb9 r1.lt
  replace r2 := r2.below hb3 r2.lt
  replace r2 := r2.below hb4 r2.lt
  replace r2 := r2.below hb5 r2.lt
  replace r2 := r2.below hb6 r2.lt
  replace r2 := r2.below hb7 r2.lt
  replace r2 := r2.below hb8 r2.lt
  replace r2 := r2.below hb9 r2.lt
  replace r3 := r3.below hb4 r3.lt
  replace r3 := r3.below hb5 r3.lt
  replace r3 := r3.below hb6 r3.lt
  replace r3 := r3.below hb7 r3.lt
  replace r3 := r3.below hb8 r3.lt
  replace r3 := r3.below hb9 r3.lt
  replace r4 := r4.below hb5 r4.lt
  replace r4 := r4.below hb6 r4.lt
  replace r4 := r4.below hb7 r4.lt
  replace r4 := r4.below hb8 r4.lt
  replace r4 := r4.below hb9 r4.lt
  replace r5 := r5.below hb6 r5.lt
  replace r5 := r5.below hb7 r5.lt
  replace r5 := r5.below hb8 r5.lt
  replace r5 := r5.below hb9 r5.lt
  replace r6 := r6.below hb7 r6.lt
  replace r6 := r6.below hb8 r6.lt
  replace r6 := r6.below hb9 r6.lt
  replace r7 := r7.below hb8 r7.lt
  replace r7 := r7.below hb9 r7.lt
  replace r8 := r8.below hb9 r8.lt
  have hP : PlansAt W9 (w.heap.size + 1 + 1 + 1 + 1 + 1 + 1 + 1 + 1 + 1) [.slice none 0 0, .slice (some ⟨w.heap.size, 0, none⟩) 6 6, .slice none 0 0, .slice none 0 0, .slice none 0 0, .slice none 0 0, .slice none 0 0, .slice none 0 0, .slice none 0 0, .slice none 0 0, .slice none 0 0, .slice none 0 0, .slice none 0 0, .slice (some ⟨w.heap.size + 1, 0, none⟩) 2 2, .slice (some ⟨w.heap.size + 1 + 1, 0, none⟩) 7 7, .slice (some ⟨w.heap.size + 1 + 1 + 1, 0, none⟩) 6 6, .slice (some ⟨w.heap.size + 1 + 1 + 1 + 1, 0, none⟩) 7 7, .slice (some ⟨w.heap.size + 1 + 1 + 1 + 1 + 1, 0, none⟩) 2 2, .slice (some ⟨w.heap.size + 1 + 1 + 1 + 1 + 1 + 1, 0, none⟩) 7 7, .slice (some ⟨w.heap.size + 1 + 1 + 1 + 1 + 1 + 1 + 1, 0, none⟩) 3 3, .slice (some ⟨w.heap.size + 1 + 1 + 1 + 1 + 1 + 1 + 1 + 1, 0, none⟩) 4 4, .slice none 0 0] := by
    refine ⟨rfl, r9, fun i hi => ?_⟩
    have hi2 : i = 0 ∨ i = 1 ∨ i = 2 ∨ i = 3 ∨ i = 4 ∨ i = 5 ∨ i = 6 ∨ i = 7 ∨ i = 8 ∨ i = 9 ∨ i = 10 ∨ i = 11 ∨ i = 12 ∨ i = 13 ∨ i = 14 ∨ i = 15 ∨ i = 16 ∨ i = 17 ∨ i = 18 ∨ i = 19 ∨ i = 20 ∨ i = 21 := by omega
    rcases hi2 with rfl | rfl | rfl | rfl | rfl | rfl | rfl | rfl | rfl | rfl | rfl | rfl | rfl | rfl | rfl | rfl | rfl | rfl | rfl | rfl | rfl | rfl
    · exact .inl ⟨rfl, rfl⟩
    · exact .inr ⟨by decide, _, rfl, r0⟩
    · exact .inl ⟨rfl, rfl⟩
    · exact .inl ⟨rfl, rfl⟩
    · exact .inl ⟨rfl, rfl⟩
    · exact .inl ⟨rfl, rfl⟩
    · exact .inl ⟨rfl, rfl⟩
    · exact .inl ⟨rfl, rfl⟩
    · exact .inl ⟨rfl, rfl⟩
    · exact .inl ⟨rfl, rfl⟩
    · exact .inl ⟨rfl, rfl⟩
    · exact .inl ⟨rfl, rfl⟩
    · exact .inl ⟨rfl, rfl⟩
    · exact .inr ⟨by decide, _, rfl, r1⟩
    · exact .inr ⟨by decide, _, rfl, r2⟩
    · exact .inr ⟨by decide, _, rfl, r3⟩
    · exact .inr ⟨by decide, _, rfl, r4⟩
    · exact .inr ⟨by decide, _, rfl, r5⟩
    · exact .inr ⟨by decide, _, rfl, r6⟩
    · exact .inr ⟨by decide, _, rfl, r7⟩
    · exact .inr ⟨by decide, _, rfl, r8⟩
    · exact .inl ⟨rfl, rfl⟩
  have HP := Lib.hid hP
  have HBl := Lib.hid hB
  clear hP hB r0 hb0 hz0 r1 hb1 hz1 r2 hb2 hz2 r3 hb3 hz3 r4 hb4 hz4 r5 hb5 hz5 r6 hb6 hz6 r7 hb7 hz7 r8 hb8 hz8 r9 hb9 hz9
  subst hW9 hW8 hW7 hW6 hW5 hW4 hW3 hW2 hW1 hW0
  go_enter Tryz.func32, Tryz.ntmps32
  go_wp2_with fail
  go_ret
  exact ⟨⟨_, rfl, ⟨_, HP.out⟩, by omega⟩, HBl.out⟩
end Go.Proofs.YteiikhcadjdkcaaGreatDoor
