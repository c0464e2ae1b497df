/- The walk of package kernel's undo, for the functions that it is handed. A string's bytes as a new slice. The law's closures: does, is, truth; and fits, num. -/
import Derived.Test.YteiikhcadjdkcaaGreatDoorGX32
import Derived.Test.YteiikhcadjdkcaaGreatDoorGX24
import Derived.Lib.ConvBytes
set_option linter.unusedVariables false
set_option linter.unusedSimpArgs false
namespace Go.Proofs.YteiikhcadjdkcaaGreatDoor
open Go Go.RowKit Limb
section
variable {w : World} {F : Foot} {h : Hp}
set_option maxHeartbeats 1600000 in
set_option maxRecDepth 100000 in
theorem undo_intern (H : HeapAt w F h) (c1 c2 c3 : Value) (Q : World → Prop) (HFn : ∀ X, Below w.heap.size w X → Calls Tryz.prog 186 #[c1, c2, c3] X fun e X' => e = .returned (.int .i64 0) ∧ Q X') :
    Calls Tryz.prog 65 #[.pointer (some ⟨F.p, 0, none⟩), .func (.func 186) #[] #[c1, c2, c3]] w fun e w' => e = .returned (.int .i64 0) ∧ Q w' := by
  have HW := Lib.hid (heap_Words H)
  have HRo := Lib.hid (fun X (hb : Below w.heap.size w X) => heap_Roots (H.below hb))
  have HLa := Lib.hid (fun X (hb : Below w.heap.size w X) => heap_last (H.below hb))
  have HF := Lib.hid HFn
  clear HFn H
  go_enter Tryz.func65, Tryz.ntmps65
  go_wp2_with fail
  refine (HW.out).mono ?_
  rintro e V1 ⟨⟨g1, c1', rfl, _, _⟩, hB⟩
  (try dsimp only)
  go_wp2_with fail
  refine (HRo.out V1 hB).mono ?_
  rintro e V2 ⟨⟨g2, c2', rfl, _, _⟩, hb⟩
  (try dsimp only)
  replace hB := hB.trans (hb.mono hB.size)
  clear hb
  go_wp2_with fail
  refine (HLa.out V2 hB).mono ?_
  rintro e V3 ⟨rfl, rfl⟩
  (try dsimp only)
  go_wp2_with fail
  refine (HF.out _ hB).mono ?_
  rintro e V4 ⟨rfl, hQ⟩
  (try dsimp only)
  have HQ := Lib.hid hQ
  clear hQ
  go_wp2_with fail
  go_ret
  exact ⟨rfl, HQ.out⟩
set_option maxHeartbeats 1600000 in
set_option maxRecDepth 100000 in
theorem undo_setglobal (H : HeapAt w F h) (c1 c2 c3 c4 : Value) (Q : World → Prop) (HFn : ∀ X, Below w.heap.size w X → Calls Tryz.prog 66 #[c1, c2, c3, c4] X fun e X' => e = .returned (.int .i64 0) ∧ Q X') :
    Calls Tryz.prog 65 #[.pointer (some ⟨F.p, 0, none⟩), .func (.func 66) #[] #[c1, c2, c3, c4]] w fun e w' => e = .returned (.int .i64 0) ∧ Q w' := by
  have HW := Lib.hid (heap_Words H)
  have HRo := Lib.hid (fun X (hb : Below w.heap.size w X) => heap_Roots (H.below hb))
  have HLa := Lib.hid (fun X (hb : Below w.heap.size w X) => heap_last (H.below hb))
  have HF := Lib.hid HFn
  clear HFn H
  go_enter Tryz.func65, Tryz.ntmps65
  go_wp2_with fail
  refine (HW.out).mono ?_
  rintro e V1 ⟨⟨g1, c1', rfl, _, _⟩, hB⟩
  (try dsimp only)
  go_wp2_with fail
  refine (HRo.out V1 hB).mono ?_
  rintro e V2 ⟨⟨g2, c2', rfl, _, _⟩, hb⟩
  (try dsimp only)
  replace hB := hB.trans (hb.mono hB.size)
  clear hb
  go_wp2_with fail
  refine (HLa.out V2 hB).mono ?_
  rintro e V3 ⟨rfl, rfl⟩
  (try dsimp only)
  go_wp2_with fail
  refine (HF.out _ hB).mono ?_
  rintro e V4 ⟨rfl, hQ⟩
  (try dsimp only)
  have HQ := Lib.hid hQ
  clear hQ
  go_wp2_with fail
  go_ret
  exact ⟨rfl, HQ.out⟩
end
end Go.Proofs.YteiikhcadjdkcaaGreatDoor
namespace Go.Proofs.YteiikhcadjdkcaaGreatDoor
open Go Go.RowKit Limb
theorem conv_bytes_out {P : Program} (w : World) (src dst e : TypeId) (S : ByteArray) {u : TypeDesc}
    (hs : P.underlying src = some u) (hd : P.underlying dst = some (.slice e)) (he : P.underlying e = some (.int .u8)) :
    ∃ c W, (convert src dst (.string S)).run P w = .ok (.slice (some ⟨w.heap.size, 0, none⟩) S.size c) W ∧ Lay .u8 W (some ⟨w.heap.size, 0, none⟩) (tx S) ∧ Below w.heap.size w W := by
  refine ⟨_, _, Lib.run_convert_string_bytes w src dst e S hs hd he, ?_, ?_⟩
  · refine ⟨w.heap.size, 0, fun _ => ⟨rfl, by rw [Lib.bytesWorld_size]; omega⟩, fun i hi => ?_⟩
    rw [tx_length] at hi
    rw [Nat.zero_add, Lib.bytesWorld_cell w e S i hi]
    have : wd (tx S) i = (S.data.toList.getD i 0).toNat := by
      have h1 : i < S.data.toList.length := by rw [Array.length_toList]; exact hi
      have h2 : i < (tx S).length := by rw [tx_length]; exact hi
      rw [wd_lt h2]
      simp [tx, List.getD, List.getElem?_eq_getElem h1]
    rw [this]
  · refine ⟨?_, ?_, ?_, by rw [Lib.bytesWorld_size]; omega, fun k hk => Lib.bytesWorld_at_old w e S k hk⟩
    all_goals simp [Lib.bytesWorld, World.freeze, World.alloc, World.drew, -World.alloc_eq, -World.drew_eq]
end Go.Proofs.YteiikhcadjdkcaaGreatDoor
namespace Go.Proofs.YteiikhcadjdkcaaGreatDoor
open Go Go.RowKit Limb
def clamp (n : Int) : Int := min (max n (-1073741824)) 1073741823
theorem clamp_sm (n : Int) : Sm (clamp n) := by unfold clamp Sm; omega
def isNum (n : Nat) : Prop := (1 ≤ n ∧ n ≤ 7) ∨ (14 ≤ n ∧ n ≤ 17)
theorem ansN_num {h : Hp} {n : Nat} {x y : Int} (hn : isNum n) : ansN h n x y = resO (opN n x y) := by unfold ansN; rw [if_neg (by unfold isNum at hn; omega)]
section
variable {w : World} {F : Foot} {h : Hp}
set_option maxRecDepth 100000 in
theorem law_num (w : World) (k : Int) : Calls Tryz.prog 5 #[.int .i64 k] w fun e w' => e = .returned (.int .i64 k) ∧ w = w' := by
  go_enter Tryz.func5, Tryz.ntmps5
  go_wp2_with fail
  go_ret
  exact ⟨rfl, rfl⟩
set_option maxRecDepth 100000 in
theorem law_fits (w : World) (n : Int) : Calls Tryz.prog 11 #[.int .i64 n] w fun e w' => e = .returned (.int .i64 (clamp n)) ∧ w = w' := by
  go_enter Tryz.func11, Tryz.ntmps11
  go_wp2_with fail
  go_ret
  exact ⟨rfl, rfl⟩
set_option maxRecDepth 100000 in
theorem law_small (w : World) {x : Int} (hx : Sm x) : Calls Tryz.prog 10 #[.int .i64 x] w fun e w' => e = .returned (.int .u32 (smallO x : Nat)) ∧ w = w' := by
  have HS := Lib.hid (r_small w x (isSm_iff.2 hx))
  clear hx
  go_enter Tryz.func10, Tryz.ntmps10
  go_wp2_with fail
  refine (HS.out).mono ?_
  rintro e W ⟨rfl, rfl⟩
  (try dsimp only)
  go_wp2_with fail
  go_ret
  exact ⟨rfl, rfl⟩
end
end Go.Proofs.YteiikhcadjdkcaaGreatDoor
