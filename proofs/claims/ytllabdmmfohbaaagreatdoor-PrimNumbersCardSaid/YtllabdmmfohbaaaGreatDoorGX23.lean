/- The walk of package heap's Length. The tables of package prim whose entries hold closures. -/
import Derived.Test.YtllabdmmfohbaaaGreatDoorGX22
set_option linter.unusedVariables false
set_option linter.unusedSimpArgs false
namespace Go.Proofs.YtllabdmmfohbaaaGreatDoor
open Go Go.RowKit Limb
section
variable {w : World} {F : Foot} {h : Hp}
set_option maxHeartbeats 1600000 in
set_option maxRecDepth 100000 in
theorem heap_Length (H : HeapAt w F h) (o : Nat) (ho : o < 4294967296) :
    Calls Tryz.prog 211 #[.pointer (some ⟨F.p, 0, none⟩), .int .u32 o] w fun e w' => e = .returned (.tuple #[.int .i64 (hdX h o).len, .int .i64 (erX h o)]) ∧ Below w.heap.size w w' := by
  have HD := Lib.hid (heap_Header H o ho)
  have hok : (hdX h o).Ok ∨ hdX h o = hdZ := by
    unfold hdX
    by_cases hi : isO h o = true
    · rw [if_pos hi]; exact .inl (H.good.ok _ (isO_iff.1 hi).2.2).1
    · rw [if_neg hi]; exact .inr rfl
  have HLn := Lib.hid (heap_length (hdX h o) hok)
  generalize hdX h o = x at *
  generalize erX h o = er at *
  have ex : hdV x = .agg #[.int .i64 x.size, .int .i64 x.fmt, .int .i64 x.spare, .int .u32 x.cls, .int .u32 x.ser] := rfl
  have hd := HD.out
  have hl := HLn.out
  rw [ex] at hd hl
  have HD := Lib.hid hd
  have HLn := Lib.hid hl
  generalize x.len = ln at *
  clear hd hl ex hok H
  go_enter Tryz.func211, Tryz.ntmps211
  go_wp2_with fail
  refine (HD.out).mono ?_
  rintro e V ⟨rfl, hB⟩
  (try dsimp only)
  obtain ⟨W, hW, r0, hb, hz⟩ := alloc_row V 100 [.int .i64 x.size, .int .i64 x.fmt, .int .i64 x.spare, .int .u32 x.cls, .int .u32 x.ser]
  have HW := Lib.hid hW; clear hW hz
  replace hB := hB.trans (hb.mono hB.size)
  clear hb r0
  go_wp2_with fail
  rw [← HW.out]
  refine (HLn.out W).mono ?_
  rintro e W2 ⟨rfl, hb⟩
  (try dsimp only)
  replace hB := hB.trans (hb.mono hB.size)
  clear hb
  go_wp2_with fail
  go_ret2
  exact ⟨rfl, hB⟩
end
end Go.Proofs.YtllabdmmfohbaaaGreatDoor
namespace Go.Proofs.YtllabdmmfohbaaaGreatDoor
open Go Go.RowKit Go.Maps Limb
set_option maxRecDepth 100000 in
theorem prim_rename (w : World) (f : Fn) (x y : Array Value) : Calls Tryz.prog 144 #[.func f x y] w fun e w' => e = .returned (.func (.func 234) #[] #[.pointer (some ⟨w.heap.size, 0, none⟩)]) ∧ Below w.heap.size w w' := by
  have HB := Lib.hid ((Below.refl w.heap.size w).alloc (Nat.le_refl _) (.cells #[.func f x y] 148))
  go_enter Tryz.func144, Tryz.ntmps144
  go_wp2_with fail
  go_ret
  exact ⟨rfl, HB.out⟩
def msgK (i j : Nat) : List Int := [74, 75, 83, 84, 85, 86, 87, 88] ++ (List.range i).map (fun k : Nat => (70 : Int) + k) ++ (List.range j).map (fun k : Nat => (80 : Int) + k)
def MsgL (w W : World) (b i j : Nat) : Prop := ∃ l, OwnM w W b l ∧ l.map (·.1) = msgK i j
theorem wf64 {n : Int} (h1 : 0 ≤ n) (h2 : n ≤ 1000) : (Lit.int .i64 n).wf = true := by
  simp [Lit.wf, IntKind.min, IntKind.max, IntKind.signed, IntKind.bits]; omega
theorem msg_len {i j : Nat} {l : List (Int × Value)} (h : l.map (·.1) = msgK i j) (hi : i ≤ 4) (hj : j ≤ 3) : l.length ≤ 1000 := by
  have := congrArg List.length h
  unfold msgK at this
  simp at this
  omega
theorem msgK_i (k : Nat) : msgK k 0 ++ [70 + (k : Int)] = msgK (k + 1) 0 := by
  unfold msgK
  rw [List.range_succ, List.map_append]
  simp
theorem msgK_j (i k : Nat) : msgK i k ++ [80 + (k : Int)] = msgK i (k + 1) := by
  unfold msgK
  rw [List.range_succ, List.map_append]
  simp
set_option maxHeartbeats 3200000 in
set_option maxRecDepth 100000 in
theorem tab_messages (w : World) : Calls Tryz.prog 50 #[] w fun e w' => ∃ b l, e = .returned (.map (some b)) ∧ OwnM w w' b l ∧ l.map (·.1) = msgK 4 3 := by
  have hmk := make_map
  have HO := Lib.hid (OwnM.start (Below.refl w.heap.size w))
  go_enter Tryz.func50, Tryz.ntmps50
  go_wp2_with (first
    | (refine wpList_insert_next HO _ _ _ rfl rfl rfl rfl rfl (by decide) (by simp) ?_; clear HO; intro W HO)
    | (go_at_call 144; refine (prim_rename _ _ _ _).mono ?_; rintro e W ⟨rfl, hb⟩; replace HO := Lib.hid (HO.out.below hb); clear hb; (try dsimp only)))
  have HM : Hid (MsgL w W w.heap.size 0 0) := Lib.hid ⟨_, HO.out, rfl⟩
  clear HO hmk
  go_loopw [16] (fun i wr => ∃ k : Nat, k ≤ 4 ∧ i = .int .i64 k ∧ Hid (MsgL w wr w.heap.size k 0)) (fun i _ => 4 - (RowKit.intOf i).toNat)
  case atStart => exact ⟨0, Nat.zero_le _, rfl, HM⟩
  case round =>
    clear HM
    obtain ⟨k, hk, rfl, HM⟩ := hrel
    by_cases h0 : k < 4
    · obtain ⟨l, hO, hl⟩ := HM.out
      have hlen := msg_len hl hk (Nat.zero_le _)
      have hwf : (Lit.int .i64 (70 + (k : Int))).wf = true := wf64 (by omega) (by omega)
      have HO := Lib.hid hO
      have HL := Lib.hid hl
      clear hO hl HM
      go_wp2_with (refine wpList_update_next HO _ _ _ rfl rfl rfl rfl rfl hwf hlen ?_; clear HO; intro W HO)
      have HM : Hid (MsgL w W w.heap.size (k + 1) 0) := Lib.hid ⟨_, HO.out, by rw [List.map_append, HL.out]; exact msgK_i k⟩
      clear HO HL
      refine ⟨⟨k + 1, h0, by simp, HM⟩, ?_⟩
      simp [RowKit.intOf]; omega
    · obtain rfl : k = 4 := by omega
      rw [show ((4 : Nat) : Int) = 4 from rfl]
      go_wp2_with fail
      go_loopw [25] (fun i wr => ∃ k : Nat, k ≤ 3 ∧ i = .int .i64 k ∧ Hid (MsgL w wr w.heap.size 4 k)) (fun i _ => 3 - (RowKit.intOf i).toNat)
      case atStart => exact ⟨0, Nat.zero_le _, rfl, HM⟩
      case round =>
        clear HM
        obtain ⟨j, hj, rfl, HM⟩ := hrel
        by_cases h1 : j < 3
        · obtain ⟨l, hO, hl⟩ := HM.out
          have hlen := msg_len hl (Nat.le_refl _) hj
          have hwf : (Lit.int .i64 (80 + (j : Int))).wf = true := wf64 (by omega) (by omega)
          have HO := Lib.hid hO
          have HL := Lib.hid hl
          clear hO hl HM
          go_wp2_with (refine wpList_update_next HO _ _ _ rfl rfl rfl rfl rfl hwf hlen ?_; clear HO; intro W HO)
          have HM : Hid (MsgL w W w.heap.size 4 (j + 1)) := Lib.hid ⟨_, HO.out, by rw [List.map_append, HL.out]; exact msgK_j 4 j⟩
          clear HO HL
          refine ⟨⟨j + 1, h1, by simp, HM⟩, ?_⟩
          simp [RowKit.intOf]; omega
        · obtain rfl : j = 3 := by omega
          rw [show ((3 : Nat) : Int) = 3 from rfl]
          go_wp2_with fail
          go_ret
          obtain ⟨l, h2, h3⟩ := HM.out
          exact ⟨_, l, rfl, h2, h3⟩
end Go.Proofs.YtllabdmmfohbaaaGreatDoor
