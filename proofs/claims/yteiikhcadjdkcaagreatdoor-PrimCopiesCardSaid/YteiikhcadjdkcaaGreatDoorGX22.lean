/- The walk of package oop's UnpackBytes. The table of package prim: all entries. -/
import Derived.Test.YteiikhcadjdkcaaGreatDoorGX21
import Derived.Test.YteiikhcadjdkcaaGreatDoorGX19
set_option linter.unusedVariables false
set_option linter.unusedSimpArgs false
namespace Go.Proofs.YteiikhcadjdkcaaGreatDoor
open Go Go.RowKit Limb
theorem unpB_take_succ {l : List Nat} {k : Nat} (hk : k < l.length) : unpB (l.take (k + 1)) = unpB (l.take k) ++ by4 (wd l k) := by
  rw [take_wd hk, unpB_append]; show _ ++ (by4 _ ++ []) = _; rw [List.append_nil]
theorem Sl.lay {K : IntKind} {w : World} {g n c : Nat} {e : TypeId} {l : List Nat} (h : Sl w g e n c (nums K l)) (hn : n = n) : Lay K w (some ⟨g, 0, none⟩) l :=
  ⟨g, 0, fun _ => ⟨rfl, h.lt⟩, fun i hi => by
    have hl := h.len
    rw [nums_length] at hl
    rw [Nat.zero_add, h.cell (by omega), nums_get hi]⟩
theorem index_off {P : Program} (t e : TypeId) (ht : P.underlying t = some (.slice e)) (hs : ∀ W, (sizeOf e).run P W = .ok 1 W) (g off n c : Nat) (W : World) (k : IntKind) (i : Nat) (hi : i < n) :
    (Instr.indexAt t (.slice (some ⟨g, off, none⟩) n c) (.int k i)).run P W = .ok (.pointer (some ⟨g, off + i, none⟩)) W := by
  have h1 : (0 : Int) ≤ (i : Int) := by omega
  have h2 : (i : Int) < (n : Int) := by omega
  simp [Instr.indexAt, run_underlying ht, asIntOf, h1, h2, hs, Result.andThen, Addr.add]
  rw [if_pos hi]
  by_cases h0 : i = 0
  · subst h0; rfl
  · rw [if_neg h0]
set_option maxHeartbeats 3200000 in
set_option maxRecDepth 100000 in
theorem oop_unpackbytes0 (w : World) (a : Option Addr) (l : List Nat) (m cap s N : Nat) (hN : 4 * m = N + s) (hlay : Lay .u32 w a l) (hlim : Lim l) (hn : m = l.length) (hl : m ≤ 65535) (hs : s ≤ 3) (hs0 : s = 0) (hz : (unpB l).drop N = List.replicate s 0) :
    Calls Tryz.prog 58 #[.slice a m cap, .int .i64 s] w fun e w' => (∃ g, e = .returned (.tuple #[.slice (some ⟨g, 0, none⟩) N N, .int .i64 0]) ∧ w.heap.size ≤ g ∧ Lay .u8 w' (some ⟨g, 0, none⟩) ((unpB l).take N)) ∧ Below w.heap.size w w' := by
  obtain ⟨b1, off1, hix, hcx, _⟩ := hlay.use 71 29 Tryz.underlying71 size32 cap
  rw [← hn] at hix hcx
  have HIX := Lib.hid hix
  have HCX := Lib.hid hcx
  have HT := Lib.hid (fun k (hk : k < m) => unpB_take_succ (l := l) (k := k) (by omega))
  have HL := Lib.hid (show ∀ k, k ≤ m → (unpB (l.take k)).length = 4 * k from fun k hk => by rw [unpB_length, List.length_take]; omega)
  have HA := Lib.hid (show unpB (l.take m) = unpB l by rw [hn, List.take_length])
  have HW := Lib.hid (fun k => hlim.wd k)
  have HZ := Lib.hid hz
  have d1 : decide ((65535 : Int) < (m : Int)) = false := decide_eq_false (by omega)
  have d1' : decide (65535 < m) = false := decide_eq_false (by omega)
  have d2 : decide ((s : Int) < 0) = false := decide_eq_false (by omega)
  have d3 : decide ((3 : Int) < (s : Int)) = false := decide_eq_false (by omega)
  have d3' : decide (3 < s) = false := decide_eq_false (by omega)
  have d4 : decide ((0 : Int) < (s : Int)) = false := decide_eq_false (by omega)
  have d4' : decide (0 < s) = false := decide_eq_false (by omega)
  have HS0 := Lib.hid hs0
  clear hs0
  have HN := Lib.hid hN
  have hNb : N ≤ 262140 := by omega
  clear hix hcx hlay hlim hn hz hN
  obtain ⟨i0, hi, hz0, hz1, hz2⟩ := info_parts info8
  go_enter Tryz.func58, Tryz.ntmps58
  go_wp2_with (at_make; refine wpList_make_row rfl _ _ _ rfl 5 (.int .u8 0) 1 Tryz.underlying22 info8 rfl _ _ _ _ 0 (4 * m) rfl rfl rfl (by omega) (by omega) (by omega) (by omega) ?_; intro w1 g hg1 hg2 hrow hbel)
  go_loopw [36, 6] (fun i v wr => ∃ k gw c : Nat, k ≤ m ∧ i = .int .i64 k ∧ v = .slice (some ⟨gw, 0, none⟩) (4 * k) c ∧ Sl wr gw 5 (4 * k) c (nums .u8 (unpB (l.take k))) ∧ w.heap.size ≤ gw ∧ Below w.heap.size w wr) (fun i _ _ => m - (RowKit.intOf i).toNat)
  case atStart => exact ⟨0, g, 4 * m, Nat.zero_le _, rfl, rfl, ⟨_, hrow, by simp, rfl, Nat.zero_le _, Nat.le_trans (show 4 * m ≤ 262140 by omega) (by decide), by simp [unpB, nums]⟩, hg1, hbel⟩
  case round =>
    clear hrow hbel
    obtain ⟨k, gw, c, hk, rfl, rfl, sl, hgw, hB⟩ := hrel
    by_cases h0 : k < m
    · have e1 : decide ((k : Int) < (m : Int)) = true := decide_eq_true (by omega)
      have e1' : decide (k < m) = true := decide_eq_true h0
      have ix := HIX.out wr .i64 k (by omega) (by omega)
      rw [Int.toNat_natCast] at ix
      have cx := HCX.out wr hB k h0
      have hwk := HW.out k
      have ht := HT.out k h0
      generalize wd l k = x at *
      have e4 : nums .u8 (by4 x) = [.int .u8 ((x : Int) % 256), .int .u8 ((x : Int) / 256 % 256), .int .u8 ((x : Int) / 65536 % 256), .int .u8 ((x : Int) / 16777216 % 256)] := rfl
      obtain ⟨X8, hX8, r8, hb8, hz8⟩ := alloc_row wr 5 [.int .u8 ((x : Int) % 256), .int .u8 ((x : Int) / 256 % 256), .int .u8 ((x : Int) / 65536 % 256), .int .u8 ((x : Int) / 16777216 % 256)]
      obtain ⟨v9, X9, hr9, hg9⟩ := run_sl_append (P := Tryz.prog) (t := 22) (ty := 22) Tryz.underlying22 hi hz0 hz1 hz2 rfl (sl.below hb8) ⟨wr.heap.size, 0, none⟩ 4 4 (by omega) (nums .u8 (by4 x)) rfl (row_news (by rw [e4]; exact r8)) (by rw [e4]; simp [Value.oneCell']) (Nat.le_trans (show 4 * k + 4 ≤ 262144 by omega) (by decide)) (by omega)
      have ho9 := hg9.only
      rw [← nums_append, ← ht] at hg9
      obtain ⟨gw9, c9, rfl, sl9, hgg, -⟩ := hg9
      have hB9 : Below w.heap.size w X9 := (hB.trans (hb8.mono hB.size)).trans (ho9.belowB (by have := hB.size; omega) (fun p hp => by rw [List.mem_singleton] at hp; subst hp; exact hgw))
      rw [hX8] at hr9
      have HR9 := Lib.hid hr9
      have HS9 := Lib.hid sl9
      have hgw9 : w.heap.size ≤ gw9 := by
        rcases hgg with e | e
        · rw [e]; exact hgw
        · have := hB.size; omega
      clear hr9 sl9 hX8 r8 hb8 hgg ho9 ht e4 hwk sl
      go_wp2_with (at_builtin; refine Lib.wpList_append_run _ rfl _ _ _ _ rfl _ _ rfl rfl _ _ HR9.out ?_)
      go_roundw
      case rel => exact ⟨k + 1, gw9, c9, h0, by simp, by simp [Nat.mul_add], HS9.out, hgw9, hB9⟩
      case measure => simp [RowKit.intOf]; omega
    · obtain rfl : k = m := by omega
      rw [HA.out] at sl
      have hlu := HL.out k (Nat.le_refl _)
      rw [HA.out] at hlu
      have hN := HN.out
      have hs00 := HS0.out
      have HLay := Lib.hid (show Lay .u8 wr (some ⟨gw, 0, none⟩) ((unpB l).take N) from (sl.lay rfl).take N)
      have e1 : decide ((k : Int) < (k : Int)) = false := decide_eq_false (by omega)
      have e1' : decide (k < k) = false := decide_eq_false (by omega)
      have hle := sl.le
      have hcN : c = N ∨ ¬ c = N := by omega
      rw [hN] at hle ⊢
      clear sl hlu hN HN HZ HT HL HA HW HIX HCX hs00
      rcases hcN with hcN | hcN
      · go_wp2_with fail
        go_loopw [63] (fun i wx => ∃ j : Nat, j ≤ s ∧ i = .int .i64 j ∧ wr = wx) (fun i _ => s - (RowKit.intOf i).toNat)
        case atStart => exact ⟨0, Nat.zero_le _, rfl, by trivial⟩
        case round =>
          obtain ⟨j, hj, rfl, rfl⟩ := hrel
          have hs00 := HS0.out
          obtain rfl : j = s := by omega
          have f1 : decide ((j : Int) < (j : Int)) = false := decide_eq_false (by omega)
          have f1' : decide (j < j) = false := decide_eq_false (by omega)
          clear hs00
          go_wp2_with fail
          go_ret2
          exact ⟨⟨gw, rfl, hgw, HLay.out⟩, hB⟩
      · go_wp2_with fail
        go_loopw [63] (fun i wx => ∃ j : Nat, j ≤ s ∧ i = .int .i64 j ∧ wr = wx) (fun i _ => s - (RowKit.intOf i).toNat)
        case atStart => exact ⟨0, Nat.zero_le _, rfl, by trivial⟩
        case round =>
          obtain ⟨j, hj, rfl, rfl⟩ := hrel
          have hs00 := HS0.out
          obtain rfl : j = s := by omega
          have f1 : decide ((j : Int) < (j : Int)) = false := decide_eq_false (by omega)
          have f1' : decide (j < j) = false := decide_eq_false (by omega)
          clear hs00
          go_wp2_with fail
          go_ret2
          exact ⟨⟨gw, rfl, hgw, HLay.out⟩, hB⟩
set_option maxHeartbeats 3200000 in
set_option maxRecDepth 100000 in
theorem oop_unpackbytes1 (w : World) (a : Option Addr) (l : List Nat) (m cap s N : Nat) (hN : 4 * m = N + s) (hlay : Lay .u32 w a l) (hlim : Lim l) (hn : m = l.length) (hl : m ≤ 65535) (hs : s ≤ 3) (hs0 : 0 < s) (hm0 : 0 < m) (hz : (unpB l).drop N = List.replicate s 0) :
    Calls Tryz.prog 58 #[.slice a m cap, .int .i64 s] w fun e w' => (∃ g, e = .returned (.tuple #[.slice (some ⟨g, 0, none⟩) N N, .int .i64 0]) ∧ w.heap.size ≤ g ∧ Lay .u8 w' (some ⟨g, 0, none⟩) ((unpB l).take N)) ∧ Below w.heap.size w w' := by
  obtain ⟨b1, off1, hix, hcx, _⟩ := hlay.use 71 29 Tryz.underlying71 size32 cap
  rw [← hn] at hix hcx
  have HIX := Lib.hid hix
  have HCX := Lib.hid hcx
  have HT := Lib.hid (fun k (hk : k < m) => unpB_take_succ (l := l) (k := k) (by omega))
  have HL := Lib.hid (show ∀ k, k ≤ m → (unpB (l.take k)).length = 4 * k from fun k hk => by rw [unpB_length, List.length_take]; omega)
  have HA := Lib.hid (show unpB (l.take m) = unpB l by rw [hn, List.take_length])
  have HW := Lib.hid (fun k => hlim.wd k)
  have HZ := Lib.hid hz
  have d1 : decide ((65535 : Int) < (m : Int)) = false := decide_eq_false (by omega)
  have d1' : decide (65535 < m) = false := decide_eq_false (by omega)
  have d2 : decide ((s : Int) < 0) = false := decide_eq_false (by omega)
  have d3 : decide ((3 : Int) < (s : Int)) = false := decide_eq_false (by omega)
  have d3' : decide (3 < s) = false := decide_eq_false (by omega)
  have d4 : decide ((0 : Int) < (s : Int)) = true := decide_eq_true (by omega)
  have d4' : decide (0 < s) = true := decide_eq_true hs0
  have d5 : ((m : Int) == 0) = false := by rw [beq_eq_false_iff_ne]; omega
  have d5' : (m == 0) = false := by rw [beq_eq_false_iff_ne]; omega
  have HN := Lib.hid hN
  have hNb : N ≤ 262140 := by omega
  clear hix hcx hlay hlim hn hz hN
  obtain ⟨i0, hi, hz0, hz1, hz2⟩ := info_parts info8
  go_enter Tryz.func58, Tryz.ntmps58
  go_wp2_with (at_make; refine wpList_make_row rfl _ _ _ rfl 5 (.int .u8 0) 1 Tryz.underlying22 info8 rfl _ _ _ _ 0 (4 * m) rfl rfl rfl (by omega) (by omega) (by omega) (by omega) ?_; intro w1 g hg1 hg2 hrow hbel)
  go_loopw [36, 6] (fun i v wr => ∃ k gw c : Nat, k ≤ m ∧ i = .int .i64 k ∧ v = .slice (some ⟨gw, 0, none⟩) (4 * k) c ∧ Sl wr gw 5 (4 * k) c (nums .u8 (unpB (l.take k))) ∧ w.heap.size ≤ gw ∧ Below w.heap.size w wr) (fun i _ _ => m - (RowKit.intOf i).toNat)
  case atStart => exact ⟨0, g, 4 * m, Nat.zero_le _, rfl, rfl, ⟨_, hrow, by simp, rfl, Nat.zero_le _, Nat.le_trans (show 4 * m ≤ 262140 by omega) (by decide), by simp [unpB, nums]⟩, hg1, hbel⟩
  case round =>
    clear hrow hbel
    obtain ⟨k, gw, c, hk, rfl, rfl, sl, hgw, hB⟩ := hrel
    by_cases h0 : k < m
    · have e1 : decide ((k : Int) < (m : Int)) = true := decide_eq_true (by omega)
      have e1' : decide (k < m) = true := decide_eq_true h0
      have ix := HIX.out wr .i64 k (by omega) (by omega)
      rw [Int.toNat_natCast] at ix
      have cx := HCX.out wr hB k h0
      have hwk := HW.out k
      have ht := HT.out k h0
      generalize wd l k = x at *
      have e4 : nums .u8 (by4 x) = [.int .u8 ((x : Int) % 256), .int .u8 ((x : Int) / 256 % 256), .int .u8 ((x : Int) / 65536 % 256), .int .u8 ((x : Int) / 16777216 % 256)] := rfl
      obtain ⟨X8, hX8, r8, hb8, hz8⟩ := alloc_row wr 5 [.int .u8 ((x : Int) % 256), .int .u8 ((x : Int) / 256 % 256), .int .u8 ((x : Int) / 65536 % 256), .int .u8 ((x : Int) / 16777216 % 256)]
      obtain ⟨v9, X9, hr9, hg9⟩ := run_sl_append (P := Tryz.prog) (t := 22) (ty := 22) Tryz.underlying22 hi hz0 hz1 hz2 rfl (sl.below hb8) ⟨wr.heap.size, 0, none⟩ 4 4 (by omega) (nums .u8 (by4 x)) rfl (row_news (by rw [e4]; exact r8)) (by rw [e4]; simp [Value.oneCell']) (Nat.le_trans (show 4 * k + 4 ≤ 262144 by omega) (by decide)) (by omega)
      have ho9 := hg9.only
      rw [← nums_append, ← ht] at hg9
      obtain ⟨gw9, c9, rfl, sl9, hgg, -⟩ := hg9
      have hB9 : Below w.heap.size w X9 := (hB.trans (hb8.mono hB.size)).trans (ho9.belowB (by have := hB.size; omega) (fun p hp => by rw [List.mem_singleton] at hp; subst hp; exact hgw))
      rw [hX8] at hr9
      have HR9 := Lib.hid hr9
      have HS9 := Lib.hid sl9
      have hgw9 : w.heap.size ≤ gw9 := by
        rcases hgg with e | e
        · rw [e]; exact hgw
        · have := hB.size; omega
      clear hr9 sl9 hX8 r8 hb8 hgg ho9 ht e4 hwk sl
      go_wp2_with (at_builtin; refine Lib.wpList_append_run _ rfl _ _ _ _ rfl _ _ rfl rfl _ _ HR9.out ?_)
      go_roundw
      case rel => exact ⟨k + 1, gw9, c9, h0, by simp, by simp [Nat.mul_add], HS9.out, hgw9, hB9⟩
      case measure => simp [RowKit.intOf]; omega
    · obtain rfl : k = m := by omega
      rw [HA.out] at sl
      have hlu := HL.out k (Nat.le_refl _)
      rw [HA.out] at hlu
      have hN := HN.out
      have HLay := Lib.hid (show Lay .u8 wr (some ⟨gw, 0, none⟩) ((unpB l).take N) from (sl.lay rfl).take N)
      have e1 : decide ((k : Int) < (k : Int)) = false := decide_eq_false (by omega)
      have e1' : decide (k < k) = false := decide_eq_false (by omega)
      have hle := sl.le
      have hcells := fun j (hj : j < s) => sl.cell (i := N + j) (by omega)
      have hzero := fun j (hj : j < s) => show (nums .u8 (unpB l))[N + j]? = some (.int .u8 0) from by
        rw [nums_get (by omega), ← wd_drop, HZ.out, wd_replicate]; rfl
      have HC := Lib.hid (fun j (hj : j < s) => (hcells j hj).trans (hzero j hj))
      have hcN : ¬ c = N := by omega
      rw [hN] at hle ⊢
      clear sl hlu hN HN HZ HT HL HA HW HIX HCX hcells hzero
      go_wp2_with fail
      go_loopw [63] (fun i wx => ∃ j : Nat, j ≤ s ∧ i = .int .i64 j ∧ wr = wx) (fun i _ => s - (RowKit.intOf i).toNat)
      case atStart => exact ⟨0, Nat.zero_le _, rfl, by trivial⟩
      case round =>
        obtain ⟨j, hj, rfl, rfl⟩ := hrel
        by_cases j0 : j < s
        · have f1 : decide ((j : Int) < (s : Int)) = true := decide_eq_true (by omega)
          have f1' : decide (j < s) = true := decide_eq_true j0
          have cj := HC.out j j0
          have ix := fun W => index_off (P := Tryz.prog) 22 5 Tryz.underlying22 size8 gw N s (c - N) W .i64 j j0
          go_wp2_with fail
          go_roundw
          case rel => exact ⟨j + 1, j0, by simp, by trivial⟩
          case measure => simp [RowKit.intOf]; omega
        · obtain rfl : j = s := by omega
          have f1 : decide ((j : Int) < (j : Int)) = false := decide_eq_false (by omega)
          have f1' : decide (j < j) = false := decide_eq_false (by omega)
          go_wp2_with fail
          go_ret2
          exact ⟨⟨gw, rfl, hgw, HLay.out⟩, hB⟩
end Go.Proofs.YteiikhcadjdkcaaGreatDoor
namespace Go.Proofs.YteiikhcadjdkcaaGreatDoor
open Go Go.RowKit Go.Maps Limb
def keyTab : Nat → List Int
  | 0 => [1, 2, 3, 4, 5, 6, 7, 8, 9, 10, 11, 12, 13, 14, 15, 16, 17, 18, 19]
  | 1 => [40, 41, 42, 43, 44, 45, 46, 47, 48, 49, 52]
  | 2 => [50, 51, 53, 54, 55, 56, 60, 61, 62, 63, 64]
  | 3 => msgK 4 3
  | _ => [90, 91, 92, 120, 121, 122, 123, 124, 125, 126]
def upK (k : Nat) : List Int := (List.range k).flatMap keyTab
def ksOk (ks : List Int) : Bool := ks.all (fun k => decide (0 ≤ k) && decide (k ≤ 1000)) && decide ks.Nodup && decide (ks.length ≤ 100)
theorem upK_succ (k : Nat) : upK (k + 1) = upK k ++ keyTab k := by unfold upK; rw [List.range_succ, List.flatMap_append]; simp
theorem ksOk_parts {l : List (Int × Value)} {ks : List Int} (h : l.map (·.1) = ks) (hk : ksOk ks = true) : Wfs l ∧ (l.map (·.1)).Nodup ∧ l.length ≤ 100 := by
  unfold ksOk at hk
  simp only [Bool.and_eq_true, decide_eq_true_eq, List.all_eq_true] at hk
  obtain ⟨⟨h1, h2⟩, h3⟩ := hk
  refine ⟨fun k hk => ?_, by rw [h]; exact h2, ?_⟩
  · rw [h] at hk
    have := h1 k hk
    exact wf64 this.1 this.2
  · have := congrArg List.length h
    rw [List.length_map] at this
    omega
structure Five (B : Nat) (W : World) (bf : Nat → Nat) (lf : Nat → List (Int × Value)) : Prop where
  at_ : ∀ i, i < 5 → MapL W (bf i) (lf i) ∧ B ≤ bf i ∧ (lf i).map (·.1) = keyTab i
theorem Five.only {B : Nat} {W W' : World} {bf : Nat → Nat} {lf : Nat → List (Int × Value)} (h : Five B W bf lf) {b : Nat} (hb : b < B) (ho : Only [b] W W') : Five B W' bf lf :=
  ⟨fun i hi => ⟨(h.at_ i hi).1.only ho (fun hm => by have := (h.at_ i hi).2.1; rw [List.mem_singleton.1 hm] at this; omega), (h.at_ i hi).2⟩⟩
theorem size_map (W : World) : (sizeOf 66).run Tryz.prog W = .ok 1 W := by kernel_rfl
def Part (w W : World) (b k : Nat) (lf : Nat → List (Int × Value)) : Prop := ∃ l, OwnM w W b l ∧ l.map (·.1) = upK k ∧ l = (List.range k).flatMap lf
theorem numL_keys (c : List Nat) : (numL c).map (·.1) = keyTab 0 := rfl
theorem keyTab_ok (k : Nat) : ksOk (keyTab k) = true := by
  match k with
  | 0 => decide
  | 1 => decide
  | 2 => decide
  | 3 => decide
  | k + 4 => show ksOk [90, 91, 92, 120, 121, 122, 123, 124, 125, 126] = true; decide
theorem upK_ok (k : Nat) (hk : k ≤ 5) : ksOk (upK k) = true := by
  have c : k = 0 ∨ k = 1 ∨ k = 2 ∨ k = 3 ∨ k = 4 ∨ k = 5 := by omega
  rcases c with rfl | rfl | rfl | rfl | rfl | rfl <;> decide +kernel
def pick5 {α : Type} (a b c d e : α) : Nat → α
  | 0 => a
  | 1 => b
  | 2 => c
  | 3 => d
  | _ => e
set_option maxHeartbeats 6400000 in
set_option maxRecDepth 100000 in
theorem tab_all (w : World) : Calls Tryz.prog 25 #[] w fun e w' => ∃ b a c r, e = .returned (.map (some b)) ∧ OwnM w w' b (numL c ++ r) ∧ (numL c ++ r).map (·.1) = upK 5 ∧ RowsE w w' b (numE a c) ∧ ∀ x ∈ objE ++ txtE, x ∈ r := by
  have hmk := make_map
  have hz0 : (w.alloc (.map #[] 0)).heap.size = w.heap.size + 1 := World.size_alloc _ _
  have hO := OwnM.start (Below.refl w.heap.size w)
  obtain ⟨W0, hW0⟩ : ∃ W, W = w.alloc (.map #[] 0) := ⟨_, rfl⟩
  rw [← hW0] at hz0 hO
  have HO := Lib.hid hO
  have HZ := Lib.hid hz0
  have HW := Lib.hid hW0
  clear hO hz0 hW0
  go_enter Tryz.func25, Tryz.ntmps25
  go_wp2_with fail
  rw [← HW.out]
  refine (tab_numbers _).mono ?_
  rintro e W1 ⟨b1, a, c, rfl, O1, E1⟩
  have P1 := Lib.hid O1
  have k1 : (numL c).map (·.1) = keyTab 0 := numL_keys c
  obtain ⟨l1, hl1⟩ : ∃ l1, l1 = numL c := ⟨_, rfl⟩
  rw [← hl1] at P1 k1
  have HL1 := Lib.hid hl1
  have HE1 := Lib.hid E1
  clear O1 E1 hl1
  (try dsimp only)
  go_wp2_with fail
  refine (tab_objects _).mono ?_
  rintro e W2 ⟨b2, l2, rfl, O2, k2, m2⟩
  (try dsimp only)
  have P2 := Lib.hid O2
  have M2 := Lib.hid m2
  clear O2 m2
  go_wp2_with fail
  refine (tab_texts _).mono ?_
  rintro e W3 ⟨b3, l3, rfl, O3, k3, m3⟩
  (try dsimp only)
  have P3 := Lib.hid O3
  have M3 := Lib.hid m3
  clear O3 m3
  go_wp2_with fail
  refine (tab_messages _).mono ?_
  rintro e W4 ⟨b4, l4, rfl, O4, k4⟩
  (try dsimp only)
  have P4 := Lib.hid O4
  clear O4
  go_wp2_with fail
  refine (tab_system _).mono ?_
  rintro e W5 ⟨b5, l5, rfl, O5, k5⟩
  (try dsimp only)
  have P5 := Lib.hid O5
  clear O5
  obtain ⟨V, hV, rv, hbv, hzv⟩ := alloc_row W5 66 [.map (some b1), .map (some b2), .map (some b3), .map (some b4), .map (some b5)]
  have hB1 := P1.out.2.2
  have hB2 := P2.out.2.2
  have hB3 := P3.out.2.2
  have hB4 := P4.out.2.2
  have hB5 := P5.out.2.2
  have B45 : Below W4.heap.size W4 V := hB5.trans (hbv.mono hB5.size)
  have B35 : Below W3.heap.size W3 V := hB4.trans (B45.mono hB4.size)
  have B25 : Below W2.heap.size W2 V := hB3.trans (B35.mono hB3.size)
  have B15 : Below W1.heap.size W1 V := hB2.trans (B25.mono hB2.size)
  have B05 : Below W0.heap.size W0 V := hB1.trans (B15.mono hB1.size)
  have hFive : Five W0.heap.size V (pick5 b1 b2 b3 b4 b5) (pick5 l1 l2 l3 l4 l5) := ⟨fun i hi => by
    have s1 := hB1.size
    have s2 := hB2.size
    have s3 := hB3.size
    have s4 := hB4.size
    have c : i = 0 ∨ i = 1 ∨ i = 2 ∨ i = 3 ∨ i = 4 := by omega
    rcases c with rfl | rfl | rfl | rfl | rfl
    · exact ⟨P1.out.2.1.below B15, P1.out.1, k1⟩
    · exact ⟨P2.out.2.1.below B25, Nat.le_trans s1 P2.out.1, k2⟩
    · exact ⟨P3.out.2.1.below B35, Nat.le_trans (Nat.le_trans s1 s2) P3.out.1, k3⟩
    · exact ⟨P4.out.2.1.below B45, Nat.le_trans (Nat.le_trans (Nat.le_trans s1 s2) s3) P4.out.1, k4⟩
    · exact ⟨P5.out.2.1.below hbv, Nat.le_trans (Nat.le_trans (Nat.le_trans (Nat.le_trans s1 s2) s3) s4) P5.out.1, k5⟩⟩
  have hrow : Row V W5.heap.size 66 ((List.range 5).map fun i => Value.map (some (pick5 b1 b2 b3 b4 b5 i))) := rv
  have hg : w.heap.size < W5.heap.size := by have := HZ.out; have := hB1.size; have := hB2.size; have := hB3.size; have := hB4.size; have := hB5.size; omega
  have HE5 : Hid (RowsE w V w.heap.size (numE a c)) := Lib.hid (fun x hx => by
    obtain ⟨e1, e2, e3⟩ := HE1.out.below B15 x hx
    have := HZ.out
    exact ⟨by omega, by omega, e3⟩)
  have HL0 := Lib.hid (show pick5 l1 l2 l3 l4 l5 0 = numL c from HL1.out)
  have HX1 := Lib.hid (show ∀ x ∈ objE, x ∈ pick5 l1 l2 l3 l4 l5 1 from M2.out)
  have HX2 := Lib.hid (show ∀ x ∈ txtE, x ∈ pick5 l1 l2 l3 l4 l5 2 from M3.out)
  clear M2 M3 HL1
  have HF := Lib.hid hFive
  have HR := Lib.hid hrow
  have HV := Lib.hid hV
  have HO1 := Lib.hid (HO.out.below B05)
  generalize pick5 b1 b2 b3 b4 b5 = bf at *
  generalize pick5 l1 l2 l3 l4 l5 = lf at *
  clear hFive hrow hV hB1 hB2 hB3 hB4 hB5 B45 B35 B25 B15 B05 P1 P2 P3 P4 P5 k1 k2 k3 k4 k5 rv hbv HO HE1
  go_wp2_with fail
  rw [← HV.out]
  have hSl : Sl V W5.heap.size 66 5 5 ((List.range 5).map fun i => Value.map (some (bf i))) := ⟨_, HR.out, by rw [List.length_map]; rfl, by rw [List.length_map]; rfl, Nat.le_refl _, by unfold maxLen; omega, List.take_of_length_le (by rw [List.length_map]; exact Nat.le_refl 5)⟩
  have HI := Lib.hid (fun (W : World) (k : Nat) (hk : k < 5) => hSl.index 106 Tryz.underlying106 size_map W .i64 k hk)
  clear hSl
  have HM0 : Hid (Part w V w.heap.size 0 lf) := Lib.hid ⟨[], HO1.out, rfl, rfl⟩
  have HZ1 := Lib.hid (show w.heap.size < W0.heap.size by have := HZ.out; omega)
  have HGg := Lib.hid hg
  clear hg
  generalize W5.heap.size = g at *
  clear HV HO1 hmk hzv HZ HW
  go_loopw [12] (fun i wr => ∃ k : Nat, k ≤ 5 ∧ i = .int .i64 k ∧ Hid (Part w wr w.heap.size k lf) ∧ Hid (RowsE w wr w.heap.size (numE a c)) ∧ Hid (Five W0.heap.size wr bf lf) ∧ Hid (Row wr g 66 ((List.range 5).map fun i => Value.map (some (bf i))))) (fun i _ => 5 - (RowKit.intOf i).toNat)
  case atStart => exact ⟨0, Nat.zero_le _, rfl, HM0, HE5, HF, HR⟩
  case round =>
    clear HM0 HE5 HF HR
    obtain ⟨k, hk, rfl, HM, HE, HF, HR⟩ := hrel
    by_cases h0 : k < 5
    · obtain ⟨l, hO, hl, hp⟩ := HM.out
      have HPre := Lib.hid (show l ++ lf k = (List.range (k + 1)).flatMap lf from by rw [List.range_succ, List.flatMap_append, ← hp]; simp)
      clear hp
      obtain ⟨hA, hB, hK⟩ := HF.out.at_ k h0
      have okl := ksOk_parts hl (upK_ok k hk)
      have okk := ksOk_parts hK (keyTab_ok k)
      have HC := Lib.hid (maps_copy wr w.heap.size (bf k) l (lf k) hO.2.1 hA (by have := HZ1.out; omega) okl.1 okk.1 okk.2.1 (by have := okl.2.2; have := okk.2.2; omega))
      have ix := fun W => HI.out W k h0
      have cx : wr.cell? ⟨g, k, none⟩ = some (.map (some (bf k))) := by rw [HR.out.cell_at, List.getElem?_map, List.getElem?_range h0]; rfl
      have d1 : decide ((k : Int) < 5) = true := decide_eq_true (by omega)
      have HL := Lib.hid hl
      have HO := Lib.hid hO
      have HKk := Lib.hid hK
      clear hO hl hA hB hK okl okk HM
      go_wp2_with fail
      refine (HC.out).mono ?_
      rintro e W ⟨rfl, hM, ho⟩
      (try dsimp only)
      have HM : Hid (Part w W w.heap.size (k + 1) lf) := Lib.hid ⟨_, HO.out.step hM ho, by rw [List.map_append, HL.out, HKk.out, upK_succ], HPre.out⟩
      have HE2 := Lib.hid (HE.out.only ho)
      have HF2 := Lib.hid (HF.out.only HZ1.out ho)
      have HR2 := Lib.hid (HR.out.only ho (by have := HGg.out; simp; omega))
      clear hM ho HC HL HO HKk HF HR HE HPre
      go_wp2_with fail
      refine ⟨⟨k + 1, h0, by simp, HM, HE2, HF2, HR2⟩, ?_⟩
      simp [RowKit.intOf]; omega
    · obtain rfl : k = 5 := by omega
      rw [show ((5 : Nat) : Int) = 5 from rfl]
      go_wp2_with fail
      go_ret
      obtain ⟨l, h2, h3, h4⟩ := HM.out
      have e5 : (List.range 5).flatMap lf = numL c ++ (lf 1 ++ lf 2 ++ lf 3 ++ lf 4) := by
        rw [← HL0.out, show List.range 5 = [0, 1, 2, 3, 4] from rfl]; simp
      rw [e5] at h4
      subst h4
      refine ⟨_, a, c, _, rfl, h2, h3, HE.out, fun x hx => ?_⟩
      rcases List.mem_append.1 hx with hx | hx
      · simp [HX1.out x hx]
      · simp [HX2.out x hx]
end Go.Proofs.YteiikhcadjdkcaaGreatDoor
