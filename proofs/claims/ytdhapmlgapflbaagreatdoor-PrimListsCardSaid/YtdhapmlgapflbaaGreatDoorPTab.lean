/- The table of package prim: all entries. -/
import Derived.Test.YtdhapmlgapflbaaGreatDoorPT3
import Derived.Test.YtdhapmlgapflbaaGreatDoorPCp
set_option linter.unusedVariables false
set_option linter.unusedSimpArgs false
namespace Go.Proofs.YtdhapmlgapflbaaGreatDoor
open Go Go.RowKit Go.Maps Limb
def keyTab : Nat → List Int
  | 0 => [1, 2, 3, 4, 5, 6, 7, 8, 9, 10, 11, 12, 13, 14, 15, 16, 17, 18, 19]
  | 1 => [40, 41, 42, 43, 44, 45, 46, 47, 48, 49, 52]
  | 2 => [50, 51, 53, 54, 55, 56, 60, 61, 62, 63, 64]
  | 3 => msgK 4 3
  | _ => [90, 91, 92, 120, 121, 122, 123, 124, 125, 126]
def upK (k : Nat) : List Int := (List.range k).flatMap keyTab
def ksOk (ks : List Int) : Bool := ks.all (fun k => decide (0 ≤ k) && decide (k ≤ 1000)) && decide ks.Nodup && decide (ks.length ≤ 100)
theorem upK_succ (k : Nat) : upK (k + 1) = upK k ++ keyTab k := by unfold upK; rw [List.range_succ, List.flatMap_append]; simp
theorem ksOk_parts {l : List (Int × Value)} {ks : List Int} (h : l.map (·.1) = ks) (hk : ksOk ks = true) : Wfs l ∧ (l.map (·.1)).Nodup ∧ l.length ≤ 100 := by
  unfold ksOk at hk
  simp only [Bool.and_eq_true, decide_eq_true_eq, List.all_eq_true] at hk
  obtain ⟨⟨h1, h2⟩, h3⟩ := hk
  refine ⟨fun k hk => ?_, by rw [h]; exact h2, ?_⟩
  · rw [h] at hk
    have := h1 k hk
    exact wf64 this.1 this.2
  · have := congrArg List.length h
    rw [List.length_map] at this
    omega
/-- The five maps, where they lie. -/
structure Five (B : Nat) (W : World) (bf : Nat → Nat) (lf : Nat → List (Int × Value)) : Prop where
  at_ : ∀ i, i < 5 → MapL W (bf i) (lf i) ∧ B ≤ bf i ∧ (lf i).map (·.1) = keyTab i
theorem Five.only {B : Nat} {W W' : World} {bf : Nat → Nat} {lf : Nat → List (Int × Value)} (h : Five B W bf lf) {b : Nat} (hb : b < B) (ho : Only [b] W W') : Five B W' bf lf :=
  ⟨fun i hi => ⟨(h.at_ i hi).1.only ho (fun hm => by have := (h.at_ i hi).2.1; rw [List.mem_singleton.1 hm] at this; omega), (h.at_ i hi).2⟩⟩
theorem size_map (W : World) : (sizeOf 39).run Tryz.prog W = .ok 1 W := by kernel_rfl
def Part (w W : World) (b k : Nat) : Prop := ∃ l, OwnM w W b l ∧ l.map (·.1) = upK k
theorem keyTab_ok (k : Nat) : ksOk (keyTab k) = true := by
  match k with
  | 0 => decide
  | 1 => decide
  | 2 => decide
  | 3 => decide
  | k + 4 => show ksOk [90, 91, 92, 120, 121, 122, 123, 124, 125, 126] = true; decide
theorem upK_ok (k : Nat) (hk : k ≤ 5) : ksOk (upK k) = true := by
  have c : k = 0 ∨ k = 1 ∨ k = 2 ∨ k = 3 ∨ k = 4 ∨ k = 5 := by omega
  rcases c with rfl | rfl | rfl | rfl | rfl | rfl <;> decide +kernel
def pick5 {α : Type} (a b c d e : α) : Nat → α
  | 0 => a
  | 1 => b
  | 2 => c
  | 3 => d
  | _ => e
set_option maxHeartbeats 6400000 in
set_option maxRecDepth 100000 in
theorem tab_all (w : World) : Calls Tryz.prog 10 #[] w fun e w' => ∃ b l, e = .returned (.map (some b)) ∧ OwnM w w' b l ∧ l.map (·.1) = upK 5 := by
  have hmk := make_map
  have hz0 : (w.alloc (.map #[] 0)).heap.size = w.heap.size + 1 := World.size_alloc _ _
  have hO := OwnM.start (Below.refl w.heap.size w)
  obtain ⟨W0, hW0⟩ : ∃ W, W = w.alloc (.map #[] 0) := ⟨_, rfl⟩
  rw [← hW0] at hz0 hO
  have HO := Lib.hid hO
  have HZ := Lib.hid hz0
  have HW := Lib.hid hW0
  clear hO hz0 hW0
  go_enter Tryz.func10, Tryz.ntmps10
  go_wp2_with fail
  rw [← HW.out]
  refine (tab_numbers _).mono ?_
  rintro e W1 ⟨b1, l1, rfl, O1, k1⟩
  have P1 := Lib.hid O1
  clear O1
  (try dsimp only)
  go_wp2_with fail
  refine (tab_objects _).mono ?_
  rintro e W2 ⟨b2, l2, rfl, O2, k2⟩
  (try dsimp only)
  have P2 := Lib.hid O2
  clear O2
  go_wp2_with fail
  refine (tab_texts _).mono ?_
  rintro e W3 ⟨b3, l3, rfl, O3, k3⟩
  (try dsimp only)
  have P3 := Lib.hid O3
  clear O3
  go_wp2_with fail
  refine (tab_messages _).mono ?_
  rintro e W4 ⟨b4, l4, rfl, O4, k4⟩
  (try dsimp only)
  have P4 := Lib.hid O4
  clear O4
  go_wp2_with fail
  refine (tab_system _).mono ?_
  rintro e W5 ⟨b5, l5, rfl, O5, k5⟩
  (try dsimp only)
  have P5 := Lib.hid O5
  clear O5
  obtain ⟨V, hV, rv, hbv, hzv⟩ := alloc_row W5 39 [.map (some b1), .map (some b2), .map (some b3), .map (some b4), .map (some b5)]
  have hB1 := P1.out.2.2
  have hB2 := P2.out.2.2
  have hB3 := P3.out.2.2
  have hB4 := P4.out.2.2
  have hB5 := P5.out.2.2
  have B45 : Below W4.heap.size W4 V := hB5.trans (hbv.mono hB5.size)
  have B35 : Below W3.heap.size W3 V := hB4.trans (B45.mono hB4.size)
  have B25 : Below W2.heap.size W2 V := hB3.trans (B35.mono hB3.size)
  have B15 : Below W1.heap.size W1 V := hB2.trans (B25.mono hB2.size)
  have B05 : Below W0.heap.size W0 V := hB1.trans (B15.mono hB1.size)
  have hFive : Five W0.heap.size V (pick5 b1 b2 b3 b4 b5) (pick5 l1 l2 l3 l4 l5) := ⟨fun i hi => by
    have s1 := hB1.size
    have s2 := hB2.size
    have s3 := hB3.size
    have s4 := hB4.size
    have c : i = 0 ∨ i = 1 ∨ i = 2 ∨ i = 3 ∨ i = 4 := by omega
    rcases c with rfl | rfl | rfl | rfl | rfl
    · exact ⟨P1.out.2.1.below B15, P1.out.1, k1⟩
    · exact ⟨P2.out.2.1.below B25, Nat.le_trans s1 P2.out.1, k2⟩
    · exact ⟨P3.out.2.1.below B35, Nat.le_trans (Nat.le_trans s1 s2) P3.out.1, k3⟩
    · exact ⟨P4.out.2.1.below B45, Nat.le_trans (Nat.le_trans (Nat.le_trans s1 s2) s3) P4.out.1, k4⟩
    · exact ⟨P5.out.2.1.below hbv, Nat.le_trans (Nat.le_trans (Nat.le_trans (Nat.le_trans s1 s2) s3) s4) P5.out.1, k5⟩⟩
  have hrow : Row V W5.heap.size 39 ((List.range 5).map fun i => Value.map (some (pick5 b1 b2 b3 b4 b5 i))) := rv
  have hg : w.heap.size < W5.heap.size := by have := HZ.out; have := hB1.size; have := hB2.size; have := hB3.size; have := hB4.size; have := hB5.size; omega
  have HF := Lib.hid hFive
  have HR := Lib.hid hrow
  have HV := Lib.hid hV
  have HO1 := Lib.hid (HO.out.below B05)
  generalize pick5 b1 b2 b3 b4 b5 = bf at *
  generalize pick5 l1 l2 l3 l4 l5 = lf at *
  clear hFive hrow hV hB1 hB2 hB3 hB4 hB5 B45 B35 B25 B15 B05 P1 P2 P3 P4 P5 k1 k2 k3 k4 k5 rv hbv HO
  go_wp2_with fail
  rw [← HV.out]
  have hSl : Sl V W5.heap.size 39 5 5 ((List.range 5).map fun i => Value.map (some (bf i))) := ⟨_, HR.out, by rw [List.length_map]; rfl, by rw [List.length_map]; rfl, Nat.le_refl _, by unfold maxLen; omega, List.take_of_length_le (by rw [List.length_map]; exact Nat.le_refl 5)⟩
  have HI := Lib.hid (fun (W : World) (k : Nat) (hk : k < 5) => hSl.index 56 Tryz.underlying56 size_map W .i64 k hk)
  clear hSl
  have HM0 : Hid (Part w V w.heap.size 0) := Lib.hid ⟨[], HO1.out, rfl⟩
  have HZ1 := Lib.hid (show w.heap.size < W0.heap.size by have := HZ.out; omega)
  have HGg := Lib.hid hg
  clear hg
  generalize W5.heap.size = g at *
  clear HV HO1 hmk hzv HZ HW
  go_loopw [12] (fun i wr => ∃ k : Nat, k ≤ 5 ∧ i = .int .i64 k ∧ Hid (Part w wr w.heap.size k) ∧ Hid (Five W0.heap.size wr bf lf) ∧ Hid (Row wr g 39 ((List.range 5).map fun i => Value.map (some (bf i))))) (fun i _ => 5 - (RowKit.intOf i).toNat)
  case atStart => exact ⟨0, Nat.zero_le _, rfl, HM0, HF, HR⟩
  case round =>
    clear HM0 HF HR
    obtain ⟨k, hk, rfl, HM, HF, HR⟩ := hrel
    by_cases h0 : k < 5
    · obtain ⟨l, hO, hl⟩ := HM.out
      obtain ⟨hA, hB, hK⟩ := HF.out.at_ k h0
      have okl := ksOk_parts hl (upK_ok k hk)
      have okk := ksOk_parts hK (keyTab_ok k)
      have HC := Lib.hid (maps_copy wr w.heap.size (bf k) l (lf k) hO.2.1 hA (by have := HZ1.out; omega) okl.1 okk.1 okk.2.1 (by have := okl.2.2; have := okk.2.2; omega))
      have ix := fun W => HI.out W k h0
      have cx : wr.cell? ⟨g, k, none⟩ = some (.map (some (bf k))) := by rw [HR.out.cell_at, List.getElem?_map, List.getElem?_range h0]; rfl
      have d1 : decide ((k : Int) < 5) = true := decide_eq_true (by omega)
      have HL := Lib.hid hl
      have HO := Lib.hid hO
      have HKk := Lib.hid hK
      clear hO hl hA hB hK okl okk HM
      go_wp2_with fail
      refine (HC.out).mono ?_
      rintro e W ⟨rfl, hM, ho⟩
      (try dsimp only)
      have HM : Hid (Part w W w.heap.size (k + 1)) := Lib.hid ⟨_, HO.out.step hM ho, by rw [List.map_append, HL.out, HKk.out, upK_succ]⟩
      have HF2 := Lib.hid (HF.out.only HZ1.out ho)
      have HR2 := Lib.hid (HR.out.only ho (by have := HGg.out; simp; omega))
      clear hM ho HC HL HO HKk HF HR
      go_wp2_with fail
      refine ⟨⟨k + 1, h0, by simp, HM, HF2, HR2⟩, ?_⟩
      simp [RowKit.intOf]; omega
    · obtain rfl : k = 5 := by omega
      rw [show ((5 : Nat) : Int) = 5 from rfl]
      go_wp2_with fail
      go_ret
      obtain ⟨l, h2, h3⟩ := HM.out
      exact ⟨_, l, rfl, h2, h3⟩
end Go.Proofs.YtdhapmlgapflbaaGreatDoor
