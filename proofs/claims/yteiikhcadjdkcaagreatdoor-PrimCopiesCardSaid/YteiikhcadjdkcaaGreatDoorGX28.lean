/- The walk of package kernel's found, for the two functions that it is handed. -/
import Derived.Test.YteiikhcadjdkcaaGreatDoorGX26
set_option linter.unusedVariables false
set_option linter.unusedSimpArgs false
namespace Go.Proofs.YteiikhcadjdkcaaGreatDoor
open Go Go.RowKit Limb
theorem ahead_find (z : Nat) (p : Nat → Bool) : ∀ (fl : List Nat) (k : Nat), (∀ j, j < k → wd fl j ≠ z ∧ p (wd fl j) = false) → k ≤ fl.length → (Limb.ahead z fl).find? p = (Limb.ahead z (fl.drop k)).find? p
  | _, 0, _, _ => rfl
  | [], k + 1, _, h => by simp at h
  | a :: t, k + 1, h, hk => by
    obtain ⟨h1, h2⟩ := h 0 (by omega)
    have h1 : a ≠ z := h1
    have h2 : p a = false := h2
    show (if a = z then [] else a :: Limb.ahead z t).find? p = (Limb.ahead z (t.drop k)).find? p
    rw [if_neg h1, List.find?_cons_of_neg (by rw [h2]; decide)]
    exact ahead_find z p t k (fun j hj => h (j + 1) (by omega)) (by simpa using hk)
theorem drop_wd {l : List Nat} {k : Nat} (h : k < l.length) : l.drop k = wd l k :: l.drop (k + 1) := by
  rw [List.drop_eq_getElem_cons h, wd_lt h]
section
variable {w : World} {F : Foot} {h : Hp}
theorem getA_fld {o k : Nat} (hp : isF h o 1 0 = true) (hk : k < (hdO h o).size) : getA h o (k : Int) [1, 4] = fld h o k ∧ lookE h o (k : Int) [1, 4] = 0 := by
  unfold isF at hp
  simp only [Bool.and_eq_true, decide_eq_true_eq] at hp
  obtain ⟨⟨h1, h2⟩, _⟩ := hp
  have hlen : (hdO h o).len = (hdO h o).size := len_size (by omega)
  have e : lookE h o (k : Int) [1, 4] = 0 := lookE_zero.2 ⟨h1, by rw [h2]; rfl, by omega, by rw [hlen]; omega⟩
  exact ⟨by unfold getA; rw [if_pos e, Int.toNat_natCast], e⟩
theorem fld_lt32 (k : Limb.Good h) (o i : Nat) : fld h o i < 4294967296 := k.lim.wd _
set_option maxHeartbeats 3200000 in
set_option maxRecDepth 100000 in
theorem found_symbol (H : HeapAt w F h) (l : Nat) (hl : l < 4294967296) (p : Nat → Bool) (c1 c2 : Value) (HIs : ∀ X, Below w.heap.size w X → ∀ o, o < 4294967296 → Calls Tryz.prog 256 #[.int .u32 (o : Nat), c1, c2] X fun e X' => e = .returned (.bool (p o)) ∧ Below X.heap.size X X') :
    Calls Tryz.prog 187 #[.pointer (some ⟨F.p, 0, none⟩), .int .u32 l, .func (.func 256) #[] #[c1, c2]] w fun e w' =>
      (∃ z : Int, e = .returned (.int .i64 z) ∧ ((z = -1 ∧ (isF h l 1 0 = true → (Limb.ahead (wd h.rt 0) (flds h l)).find? p = none)) ∨ ∃ k : Nat, z = k ∧ isF h l 1 0 = true ∧ k < (hdO h l).size ∧ (Limb.ahead (wd h.rt 0) (flds h l)).find? p = some (fld h l k))) ∧ Below w.heap.size w w' := by
  have HP := Lib.hid (kernel_pointers H l 0 hl)
  cases hp : isF h l 1 0 with
  | false =>
    have hP := HP.out
    rw [hp] at hP
    have HP := Lib.hid hP
    clear hP hp H HIs
    go_enter Tryz.func187, Tryz.ntmps187
    go_wp2_with fail
    refine (HP.out).mono ?_
    rintro e V ⟨rfl, hB⟩
    (try dsimp only)
    go_wp2_with fail
    go_ret
    exact ⟨⟨-1, rfl, .inl ⟨rfl, fun h => by cases h⟩⟩, hB⟩
  | true =>
    have hP := HP.out
    rw [hp] at hP
    have HP := Lib.hid hP
    have hi : isO h l = true := by unfold isF at hp; simp only [Bool.and_eq_true] at hp; exact hp.1.1
    have hX : hdX h l = hdO h l := by unfold hdX; rw [if_pos hi]
    have HR := Lib.hid (fun X (hb : Below w.heap.size w X) => kernel_root (H.below hb) 0 (by decide))
    have hS := fun X (hb : Below w.heap.size w X) => kernel_size (H.below hb) l hl
    rw [hX] at hS
    have HS := Lib.hid hS
    have hg := fun X (hb : Below w.heap.size w X) (k : Nat) (hk : k < (hdO h l).size) => heap_get (H.below hb) l hl (k : Int) (by omega) (by have := (H.good.ok _ (isO_iff.1 hi).2.2).1.size; have hk : k < (Limb.hd h (l / 2)).size := hk; omega)
    have HG := Lib.hid (fun X (hb : Below w.heap.size w X) (k : Nat) (hk : k < (hdO h l).size) => show Calls Tryz.prog 119 #[.pointer (some ⟨F.p, 0, none⟩), .int .u32 l, .int .i64 (k : Nat)] X fun e X' => e = .returned (.tuple #[.int .u32 (fld h l k), .int .i64 (0 : Nat)]) ∧ Below X.heap.size X X' from by
      have := hg X hb k hk
      rw [(getA_fld hp hk).1, (getA_fld hp hk).2] at this; exact this)
    have HF := Lib.hid (fun k (hk : k < (hdO h l).size) => show fld h l k = wd (flds h l) k from (flds_wd hk).symm)
    have HFL := Lib.hid (flds_length H.good hi)
    have HLt := Lib.hid (fun k => fld_lt32 H.good l k)
    have HI := Lib.hid HIs
    have hz0 := root_lt H.good 0
    generalize wd h.rt 0 = nl at *
    have hsz : (hdO h l).size ≤ 65535 := (H.good.ok _ (isO_iff.1 hi).2.2).1.size
    generalize (hdO h l).size = sz at *
    have Hp := Lib.hid hp
    clear hP hp hi hX hS hg H HIs
    go_enter Tryz.func187, Tryz.ntmps187
    go_wp2_with fail
    refine (HP.out).mono ?_
    rintro e V ⟨rfl, hB⟩
    (try dsimp only)
    go_wp2_with fail
    refine (HR.out V hB).mono ?_
    rintro e V1 ⟨rfl, rfl⟩
    (try dsimp only)
    go_wp2_with fail
    refine (HS.out _ hB).mono ?_
    rintro e V2 ⟨rfl, hb⟩
    (try dsimp only)
    replace hB := hB.trans (hb.mono hB.size)
    clear hb
    go_wp2_with fail
    go_loopw [20] (fun i wr => ∃ k : Nat, k ≤ sz ∧ i = .int .i64 k ∧ Hid (∀ j, j < k → wd (flds h l) j ≠ nl ∧ p (wd (flds h l) j) = false) ∧ Below w.heap.size w wr) (fun i _ => sz - (RowKit.intOf i).toNat)
    case atStart => exact ⟨0, Nat.zero_le _, rfl, fun j hj => absurd hj (by omega), hB⟩
    case round =>
      clear hB
      obtain ⟨k, hk, rfl, HPre, hB⟩ := hrel
      by_cases h0 : k < sz
      · have d1 : decide ((k : Int) < (sz : Int)) = true := decide_eq_true (by omega)
        have d2 : decide (k < sz) = true := decide_eq_true h0
        have hlt := HLt.out k
        have hfk := HF.out k h0
        have HG1 := Lib.hid (HG.out wr hB k h0)
        have Hfk := Lib.hid hfk
        have HFind := Lib.hid (ahead_find nl p (flds h l) k HPre.out (by rw [HFL.out]; exact hk))
        have HDrop := Lib.hid (drop_wd (l := flds h l) (k := k) (by rw [HFL.out]; exact h0))
        clear hfk
        go_wp2_with fail
        refine (HG1.out).mono ?_
        rintro e V3 ⟨rfl, hb⟩
        (try dsimp only)
        replace hB := hB.trans (hb.mono hB.size)
        clear hb
        by_cases hn : fld h l k = nl
        · have q : ((fld h l k : Int) == (nl : Int)) = true := by rw [beq_iff_eq]; omega
          have HN := Lib.hid (show (Limb.ahead nl (flds h l)).find? p = none from by
            rw [HFind.out, HDrop.out, ← Hfk.out, hn]; show (if nl = nl then [] else _).find? p = none; rw [if_pos rfl]; rfl)
          rw [hn]
          clear q hn Hfk HDrop HFind
          go_wp2_with fail
          go_ret
          exact ⟨⟨-1, rfl, .inl ⟨rfl, fun _ => HN.out⟩⟩, hB⟩
        · have q : ((fld h l k : Int) == (nl : Int)) = false := by rw [beq_eq_false_iff_ne]; omega
          have q2 : (fld h l k == nl) = false := by rw [beq_eq_false_iff_ne]; exact hn
          have HN := Lib.hid hn
          have HIs1 := Lib.hid (HI.out V3 hB (fld h l k) hlt)
          generalize hfv : fld h l k = v at *
          have Hfv := Lib.hid hfv
          clear hfv hn
          go_wp2_with fail
          refine (HIs1.out).mono ?_
          rintro e V4 ⟨rfl, hb⟩
          (try dsimp only)
          replace hB := hB.trans (hb.mono hB.size)
          clear hb
          cases hpv : p v with
          | true =>
            have HN2 := Lib.hid (show (Limb.ahead nl (flds h l)).find? p = some (fld h l k) from by
              rw [HFind.out, HDrop.out, ← Hfk.out, Hfv.out]
              show (if v = nl then [] else v :: _).find? p = some v
              rw [if_neg HN.out, List.find?_cons_of_pos hpv])
            clear Hfk HDrop HFind HN
            rw [← Hfv.out] at hpv
            clear hpv
            go_wp2_with fail
            go_ret
            exact ⟨⟨k, rfl, .inr ⟨k, rfl, by trivial, h0, HN2.out⟩⟩, hB⟩
          | false =>
            have HN2 := Lib.hid (show ∀ j, j < k + 1 → wd (flds h l) j ≠ nl ∧ p (wd (flds h l) j) = false from fun j hj => by
              by_cases e : j = k
              · rw [e, ← Hfk.out]; exact ⟨HN.out, hpv⟩
              · exact HPre.out j (by omega))
            clear Hfk HDrop HFind HN hpv
            go_wp2_with fail
            go_roundw
            case rel => exact ⟨k + 1, h0, by simp, HN2.out, hB⟩
            case measure => simp [RowKit.intOf]; omega
      · obtain rfl : k = sz := by omega
        have d1 : decide ((k : Int) < (k : Int)) = false := decide_eq_false (by omega)
        have d2 : decide (k < k) = false := decide_eq_false (by omega)
        have HN := Lib.hid (show (Limb.ahead nl (flds h l)).find? p = none from by
          rw [ahead_find nl p (flds h l) k HPre.out (by rw [HFL.out]; exact hk), List.drop_of_length_le (by rw [HFL.out]; exact Nat.le_refl _)]; rfl)
        go_wp2_with fail
        go_ret
        exact ⟨⟨-1, rfl, .inl ⟨rfl, fun _ => HN.out⟩⟩, hB⟩
set_option maxHeartbeats 3200000 in
set_option maxRecDepth 100000 in
theorem found_global (H : HeapAt w F h) (l : Nat) (hl : l < 4294967296) (p : Nat → Bool) (c1 c2 : Value) (HIs : ∀ X, Below w.heap.size w X → ∀ o, o < 4294967296 → Calls Tryz.prog 188 #[.int .u32 (o : Nat), c1, c2] X fun e X' => e = .returned (.bool (p o)) ∧ Below X.heap.size X X') :
    Calls Tryz.prog 187 #[.pointer (some ⟨F.p, 0, none⟩), .int .u32 l, .func (.func 188) #[] #[c1, c2]] w fun e w' =>
      (∃ z : Int, e = .returned (.int .i64 z) ∧ ((z = -1 ∧ (isF h l 1 0 = true → (Limb.ahead (wd h.rt 0) (flds h l)).find? p = none)) ∨ ∃ k : Nat, z = k ∧ isF h l 1 0 = true ∧ k < (hdO h l).size ∧ (Limb.ahead (wd h.rt 0) (flds h l)).find? p = some (fld h l k))) ∧ Below w.heap.size w w' := by
  have HP := Lib.hid (kernel_pointers H l 0 hl)
  cases hp : isF h l 1 0 with
  | false =>
    have hP := HP.out
    rw [hp] at hP
    have HP := Lib.hid hP
    clear hP hp H HIs
    go_enter Tryz.func187, Tryz.ntmps187
    go_wp2_with fail
    refine (HP.out).mono ?_
    rintro e V ⟨rfl, hB⟩
    (try dsimp only)
    go_wp2_with fail
    go_ret
    exact ⟨⟨-1, rfl, .inl ⟨rfl, fun h => by cases h⟩⟩, hB⟩
  | true =>
    have hP := HP.out
    rw [hp] at hP
    have HP := Lib.hid hP
    have hi : isO h l = true := by unfold isF at hp; simp only [Bool.and_eq_true] at hp; exact hp.1.1
    have hX : hdX h l = hdO h l := by unfold hdX; rw [if_pos hi]
    have HR := Lib.hid (fun X (hb : Below w.heap.size w X) => kernel_root (H.below hb) 0 (by decide))
    have hS := fun X (hb : Below w.heap.size w X) => kernel_size (H.below hb) l hl
    rw [hX] at hS
    have HS := Lib.hid hS
    have hg := fun X (hb : Below w.heap.size w X) (k : Nat) (hk : k < (hdO h l).size) => heap_get (H.below hb) l hl (k : Int) (by omega) (by have := (H.good.ok _ (isO_iff.1 hi).2.2).1.size; have hk : k < (Limb.hd h (l / 2)).size := hk; omega)
    have HG := Lib.hid (fun X (hb : Below w.heap.size w X) (k : Nat) (hk : k < (hdO h l).size) => show Calls Tryz.prog 119 #[.pointer (some ⟨F.p, 0, none⟩), .int .u32 l, .int .i64 (k : Nat)] X fun e X' => e = .returned (.tuple #[.int .u32 (fld h l k), .int .i64 (0 : Nat)]) ∧ Below X.heap.size X X' from by
      have := hg X hb k hk
      rw [(getA_fld hp hk).1, (getA_fld hp hk).2] at this; exact this)
    have HF := Lib.hid (fun k (hk : k < (hdO h l).size) => show fld h l k = wd (flds h l) k from (flds_wd hk).symm)
    have HFL := Lib.hid (flds_length H.good hi)
    have HLt := Lib.hid (fun k => fld_lt32 H.good l k)
    have HI := Lib.hid HIs
    have hz0 := root_lt H.good 0
    generalize wd h.rt 0 = nl at *
    have hsz : (hdO h l).size ≤ 65535 := (H.good.ok _ (isO_iff.1 hi).2.2).1.size
    generalize (hdO h l).size = sz at *
    have Hp := Lib.hid hp
    clear hP hp hi hX hS hg H HIs
    go_enter Tryz.func187, Tryz.ntmps187
    go_wp2_with fail
    refine (HP.out).mono ?_
    rintro e V ⟨rfl, hB⟩
    (try dsimp only)
    go_wp2_with fail
    refine (HR.out V hB).mono ?_
    rintro e V1 ⟨rfl, rfl⟩
    (try dsimp only)
    go_wp2_with fail
    refine (HS.out _ hB).mono ?_
    rintro e V2 ⟨rfl, hb⟩
    (try dsimp only)
    replace hB := hB.trans (hb.mono hB.size)
    clear hb
    go_wp2_with fail
    go_loopw [20] (fun i wr => ∃ k : Nat, k ≤ sz ∧ i = .int .i64 k ∧ Hid (∀ j, j < k → wd (flds h l) j ≠ nl ∧ p (wd (flds h l) j) = false) ∧ Below w.heap.size w wr) (fun i _ => sz - (RowKit.intOf i).toNat)
    case atStart => exact ⟨0, Nat.zero_le _, rfl, fun j hj => absurd hj (by omega), hB⟩
    case round =>
      clear hB
      obtain ⟨k, hk, rfl, HPre, hB⟩ := hrel
      by_cases h0 : k < sz
      · have d1 : decide ((k : Int) < (sz : Int)) = true := decide_eq_true (by omega)
        have d2 : decide (k < sz) = true := decide_eq_true h0
        have hlt := HLt.out k
        have hfk := HF.out k h0
        have HG1 := Lib.hid (HG.out wr hB k h0)
        have Hfk := Lib.hid hfk
        have HFind := Lib.hid (ahead_find nl p (flds h l) k HPre.out (by rw [HFL.out]; exact hk))
        have HDrop := Lib.hid (drop_wd (l := flds h l) (k := k) (by rw [HFL.out]; exact h0))
        clear hfk
        go_wp2_with fail
        refine (HG1.out).mono ?_
        rintro e V3 ⟨rfl, hb⟩
        (try dsimp only)
        replace hB := hB.trans (hb.mono hB.size)
        clear hb
        by_cases hn : fld h l k = nl
        · have q : ((fld h l k : Int) == (nl : Int)) = true := by rw [beq_iff_eq]; omega
          have HN := Lib.hid (show (Limb.ahead nl (flds h l)).find? p = none from by
            rw [HFind.out, HDrop.out, ← Hfk.out, hn]; show (if nl = nl then [] else _).find? p = none; rw [if_pos rfl]; rfl)
          rw [hn]
          clear q hn Hfk HDrop HFind
          go_wp2_with fail
          go_ret
          exact ⟨⟨-1, rfl, .inl ⟨rfl, fun _ => HN.out⟩⟩, hB⟩
        · have q : ((fld h l k : Int) == (nl : Int)) = false := by rw [beq_eq_false_iff_ne]; omega
          have q2 : (fld h l k == nl) = false := by rw [beq_eq_false_iff_ne]; exact hn
          have HN := Lib.hid hn
          have HIs1 := Lib.hid (HI.out V3 hB (fld h l k) hlt)
          generalize hfv : fld h l k = v at *
          have Hfv := Lib.hid hfv
          clear hfv hn
          go_wp2_with fail
          refine (HIs1.out).mono ?_
          rintro e V4 ⟨rfl, hb⟩
          (try dsimp only)
          replace hB := hB.trans (hb.mono hB.size)
          clear hb
          cases hpv : p v with
          | true =>
            have HN2 := Lib.hid (show (Limb.ahead nl (flds h l)).find? p = some (fld h l k) from by
              rw [HFind.out, HDrop.out, ← Hfk.out, Hfv.out]
              show (if v = nl then [] else v :: _).find? p = some v
              rw [if_neg HN.out, List.find?_cons_of_pos hpv])
            clear Hfk HDrop HFind HN
            rw [← Hfv.out] at hpv
            clear hpv
            go_wp2_with fail
            go_ret
            exact ⟨⟨k, rfl, .inr ⟨k, rfl, by trivial, h0, HN2.out⟩⟩, hB⟩
          | false =>
            have HN2 := Lib.hid (show ∀ j, j < k + 1 → wd (flds h l) j ≠ nl ∧ p (wd (flds h l) j) = false from fun j hj => by
              by_cases e : j = k
              · rw [e, ← Hfk.out]; exact ⟨HN.out, hpv⟩
              · exact HPre.out j (by omega))
            clear Hfk HDrop HFind HN hpv
            go_wp2_with fail
            go_roundw
            case rel => exact ⟨k + 1, h0, by simp, HN2.out, hB⟩
            case measure => simp [RowKit.intOf]; omega
      · obtain rfl : k = sz := by omega
        have d1 : decide ((k : Int) < (k : Int)) = false := decide_eq_false (by omega)
        have d2 : decide (k < k) = false := decide_eq_false (by omega)
        have HN := Lib.hid (show (Limb.ahead nl (flds h l)).find? p = none from by
          rw [ahead_find nl p (flds h l) k HPre.out (by rw [HFL.out]; exact hk), List.drop_of_length_le (by rw [HFL.out]; exact Nat.le_refl _)]; rfl)
        go_wp2_with fail
        go_ret
        exact ⟨⟨-1, rfl, .inl ⟨rfl, fun _ => HN.out⟩⟩, hB⟩
end
end Go.Proofs.YteiikhcadjdkcaaGreatDoor
