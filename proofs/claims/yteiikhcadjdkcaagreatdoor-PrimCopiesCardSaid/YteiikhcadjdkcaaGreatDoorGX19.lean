/- The walks of package oop's Length and PackBytes. The tables of package prim: maps of entries. maps.Copy of entries: one map laid into another. -/
import Derived.Test.YteiikhcadjdkcaaGreatDoorGX18
import Derived.Test.YteiikhcadjdkcaaGreatDoorGX05
import Derived.Deep.CutRange
import Derived.Laws.IdiomRangeMap
set_option linter.unusedVariables false
set_option linter.unusedSimpArgs false
namespace Go.Proofs.YteiikhcadjdkcaaGreatDoor
open Go Go.RowKit Limb
set_option maxRecDepth 100000 in
theorem oop_length (w : World) (n : Nat) (hn : n ≤ 262140) :
    Calls Tryz.prog 72 #[.int .i64 n] w fun e w' => e = .returned (.tuple #[.int .i64 ((n + 3) / 4 : Nat), .int .i64 (4 * ((n + 3) / 4) - n : Nat), .int .i64 0]) ∧ w = w' := by
  have d1 : decide ((n : Int) < 0) = false := decide_eq_false (by omega)
  have d2 : decide ((262140 : Int) < (n : Int)) = false := decide_eq_false (by omega)
  have d2' : decide (262140 < n) = false := decide_eq_false (by omega)
  go_enter Tryz.func72, Tryz.ntmps72
  go_wp2_with fail
  refine bodyPost_ret (v := .tuple #[.int .i64 (((n : Int) + 3) / 4), .int .i64 (4 * (((n : Int) + 3) / 4) - n), .int .i64 0]) (by simp [results, Tryz.results72, go_sem]) rfl ⟨?_, rfl⟩
  rw [show (((n + 3) / 4 : Nat) : Int) = ((n : Int) + 3) / 4 by omega, show ((4 * ((n + 3) / 4) - n : Nat) : Int) = 4 * (((n : Int) + 3) / 4) - n by omega]
theorem or_part {a b : Nat} (m : Nat) (hm : m ≤ 24) (ha : a < 2 ^ m) (hb : b < 4294967296) (hd : b % 2 ^ m = 0) : bits .or .u32 (a : Int) (b : Int) = ((a + b : Nat) : Int) := by
  have : 2 ^ m ≤ 2 ^ 24 := Nat.pow_le_pow_right (by decide) hm
  rw [u32_or_nat a b (by omega) hb, Nat.or_comm, nat_join m b a hd ha, Nat.add_comm]
theorem u32_self {x : Int} (h1 : 0 ≤ x) (h2 : x < 4294967296) : IntKind.u32.wrap x = x := by
  simp only [IntKind.wrap, IntKind.bits, IntKind.signed]; simp; omega
theorem or_b0 {a x : Nat} (ha : a < 2 ^ 0) (hx : x < 256) : bits .or .u32 (a : Int) (x : Int) = ((a + x : Nat) : Int) := or_part 0 (by decide) ha (by omega) (by omega)
theorem or_b1 {a x : Nat} (ha : a < 2 ^ 8) (hx : x < 256) : bits .or .u32 (a : Int) ((x : Int) * 256) = ((a + x * 256 : Nat) : Int) := by
  rw [show (x : Int) * 256 = ((x * 256 : Nat) : Int) by omega]; exact or_part 8 (by decide) ha (by omega) (by omega)
theorem or_b2 {a x : Nat} (ha : a < 2 ^ 16) (hx : x < 256) : bits .or .u32 (a : Int) ((x : Int) * 65536) = ((a + x * 65536 : Nat) : Int) := by
  rw [show (x : Int) * 65536 = ((x * 65536 : Nat) : Int) by omega]; exact or_part 16 (by decide) ha (by omega) (by omega)
theorem or_b3 {a x : Nat} (ha : a < 2 ^ 24) (hx : x < 256) : bits .or .u32 (a : Int) ((x : Int) * 16777216) = ((a + x * 16777216 : Nat) : Int) := by
  rw [show (x : Int) * 16777216 = ((x * 16777216 : Nat) : Int) by omega]; exact or_part 24 (by decide) ha (by omega) (by omega)
set_option maxHeartbeats 3200000 in
set_option maxRecDepth 100000 in
theorem oop_packbytes (w : World) (a : Option Addr) (t : List Nat) (n cap : Nat) (hlay : Lay .u8 w a t) (ht : B8 t) (hn : n = t.length) (hl : n ≤ 262140) :
    Calls Tryz.prog 47 #[.slice a n cap] w fun e w' => (∃ g, e = .returned (.tuple #[.slice (some ⟨g, 0, none⟩) ((n + 3) / 4) ((n + 3) / 4), .int .i64 (4 * ((n + 3) / 4) - n : Nat), .int .i64 0]) ∧ w.heap.size ≤ g ∧ Row w' g 29 (nums .u32 (packB t))) ∧ Below w.heap.size w w' := by
  have HL := Lib.hid (oop_length w n hl)
  obtain ⟨b1, off1, hix, hcx, _⟩ := hlay.use 22 5 Tryz.underlying22 size8 cap
  rw [← hn] at hix hcx
  have HIX := Lib.hid hix
  have HCX := Lib.hid hcx
  obtain ⟨m, hm⟩ : ∃ m, m = (n + 3) / 4 := ⟨_, rfl⟩
  have hl4 := HL.out
  rw [← hm] at hl4 ⊢
  have HL := Lib.hid hl4
  have hz0 := packTo_zero t
  have hza := packTo_all t (k := n) (by omega)
  rw [← hn, ← hm] at hz0
  have hz1 := packTo_length t
  rw [← hn, ← hm] at hz1
  have HZ1 := Lib.hid hz1
  have hst := fun k (hk : k < n) => packTo_step ht (k := k) (by omega)
  rw [← hn, ← hm] at hst
  have HST := Lib.hid hst
  have HT := Lib.hid (show ∀ k, wd t k < 256 from fun k => by
    by_cases hk : k < t.length
    · rw [wd_lt hk]; exact ht _ (List.getElem_mem _)
    · rw [wd_ge (by omega)]; decide)
  have HZ0 := Lib.hid hz0
  have HZA := Lib.hid hza
  have hm2 : m ≤ 65535 := by omega
  have Hm := Lib.hid hm
  clear hix hcx hl4 hz0 hza hz1 hst hm hlay ht hn
  go_enter Tryz.func47, Tryz.ntmps47
  go_wp2_with fail
  refine (HL.out).mono ?_
  rintro e w1 ⟨rfl, rfl⟩
  (try dsimp only)
  clear HL
  go_wp2_with (at_make; refine wpList_make_row rfl _ _ _ rfl 29 (.int .u32 0) 4 Tryz.underlying71 info32 rfl _ _ _ _ m m rfl rfl rfl rfl (Nat.le_refl _) (by omega) (by omega) ?_; intro w1 g hg1 hg2 hrow hbel)
  rw [← nums_replicate, ← HZ0.out] at hrow
  clear HZ0
  go_loopw [24] (fun i wr => ∃ k : Nat, k ≤ n ∧ i = .int .i64 k ∧ Row wr g 29 (nums .u32 (packTo t k)) ∧ Below w.heap.size w wr) (fun i _ => n - (RowKit.intOf i).toNat)
  case atStart => exact ⟨0, Nat.zero_le _, rfl, hrow, hbel⟩
  case round =>
    clear hrow hbel
    obtain ⟨k, hk, rfl, hrow, hB⟩ := hrel
    by_cases h0 : k < n
    · have d1 : decide ((k : Int) < (n : Int)) = true := decide_eq_true (by omega)
      have d2 : decide (k < n) = true := decide_eq_true h0
      have ix := HIX.out wr .i64 k (by omega) (by omega)
      rw [Int.toNat_natCast] at ix
      have cx := HCX.out wr hB k h0
      have hx := HT.out k
      obtain ⟨s1, s2, s3⟩ := HST.out k h0
      go_upto_region 8 with fail
      obtain ⟨q, hq⟩ : ∃ q, q = k / 4 := ⟨_, rfl⟩
      rw [← hq] at s1 s2 s3
      have hq1 : (k : Int) / 4 = (q : Int) := by omega
      have rl := hrow.cell (i := q) (by rw [HZ1.out]; exact s1)
      have rf := hrow.free q
      have sl := hrow.sl (n := m) (by rw [nums_length, HZ1.out]) (Nat.le_trans hm2 (by decide))
      have HI2 := Lib.hid (fun W => sl.index 71 Tryz.underlying71 size32 W .i64 q s1)
      have hrs := fun X (d : Nat) (h : Row X g 29 (nums .u32 (packTo t k))) => h.store (k := .u32) q d d rfl
      generalize wd (packTo t k) q = a0 at *
      generalize wd t k = x0 at *
      clear ix cx sl
      have hX : Only [g] wr wr.drew := (Only.refl _ _).drew
      have rld : wr.drew.cell? ⟨g, q, none⟩ = some (.int .u32 (a0 : Nat)) := rl
      have rfd : wr.drew.frozen? ⟨g, q, none⟩ = false := rf
      have HRS := Lib.hid hrs
      have HR0 := Lib.hid hrow
      have S2 := Lib.hid s2
      have S3 := Lib.hid s3
      have HXX := Lib.hid hx
      clear hrs hrow rl rf s1 s2 s3 hq hx d1 d2 HIX HCX HT HZA
      have h4 : k % 4 = 0 ∨ k % 4 = 1 ∨ k % 4 = 2 ∨ k % 4 = 3 := by omega
      rcases h4 with h4 | h4 | h4 | h4
      · have hm1 : (k : Int) % 4 = 0 := by omega
        have s2 := S2.out
        rw [h4] at s2
        have S2a : Hid (a0 < 2 ^ 0) := Nat.lt_of_lt_of_eq s2 (by decide)
        have s3 := S3.out
        rw [h4, show a0 + x0 * 256 ^ 0 = a0 + x0 by omega] at s3
        have S3a := Lib.hid s3
        clear s2 s3 S2 S3 h4
        refine wp_region_held (S := fun X => Only [g] wr X) (by kernel_rfl) ?_
        refine wpAnyH_take_at (i := 0) (v := .slice (some ⟨g, 0, none⟩) m m) 29 rfl rfl (by kernel_rfl) (by kernel_rfl) (by kernel_rfl) (fun _ _ _ h => h) (.inl ⟨rfl, fun X hX => by go_simp⟩) hX ?_
        simp only [Act.put, List.setIfInBounds_toArray, List.set_cons_zero, List.set_cons_succ]
        refine wpAnyH_take_at (i := 1) (v := .int .i64 k) 30 rfl rfl (by kernel_rfl) (by kernel_rfl) (by kernel_rfl) (fun _ _ _ h => h) (.inl ⟨rfl, fun X hX => by go_simp⟩) hX ?_
        simp only [Act.put, List.setIfInBounds_toArray, List.set_cons_zero, List.set_cons_succ]
        refine wpAnyH_take_at (i := 2) (v := .int .i64 q) 31 rfl rfl (by kernel_rfl) (by kernel_rfl) (by kernel_rfl) (fun _ _ _ h => h) (.inl ⟨rfl, fun X hX => by go_simp; all_goals (first | (exact u32_self (by have := HXX.out; omega) (by have := HXX.out; omega)) | (rw [Int.tmod_eq_emod_of_nonneg (by omega)]; omega) | omega | exact i64_self (by omega) (by omega) | (rw [i64_self (by omega) (by omega)]; omega))⟩) hX ?_
        simp only [Act.put, List.setIfInBounds_toArray, List.set_cons_zero, List.set_cons_succ]
        refine wpAnyH_take_at (i := 3) (v := .pointer (some ⟨g, q, none⟩)) 32 rfl rfl (by kernel_rfl) (by kernel_rfl) (by kernel_rfl) (fun _ _ _ h => h) (.inl ⟨rfl, fun X hX => by have ix := HI2.out; go_simp⟩) hX ?_
        simp only [Act.put, List.setIfInBounds_toArray, List.set_cons_zero, List.set_cons_succ]
        refine wpAnyH_take_at (i := 5) (v := .int .u8 (x0 : Nat)) 34 rfl rfl (by kernel_rfl) (by kernel_rfl) (by kernel_rfl) (fun _ _ _ h => h) (.inl ⟨rfl, fun X hX => by go_simp⟩) hX ?_
        simp only [Act.put, List.setIfInBounds_toArray, List.set_cons_zero, List.set_cons_succ]
        refine wpAnyH_take_at (i := 6) (v := .int .u32 (x0 : Nat)) 35 rfl rfl (by kernel_rfl) (by kernel_rfl) (by kernel_rfl) (fun _ _ _ h => h) (.inl ⟨rfl, fun X hX => by go_simp; all_goals (first | (exact u32_self (by have := HXX.out; omega) (by have := HXX.out; omega)) | (rw [Int.tmod_eq_emod_of_nonneg (by omega)]; omega) | omega | exact i64_self (by omega) (by omega) | (rw [i64_self (by omega) (by omega)]; omega))⟩) hX ?_
        simp only [Act.put, List.setIfInBounds_toArray, List.set_cons_zero, List.set_cons_succ]
        refine wpAnyH_take_at (i := 7) (v := .int .i64 k) 36 rfl rfl (by kernel_rfl) (by kernel_rfl) (by kernel_rfl) (fun _ _ _ h => h) (.inl ⟨rfl, fun X hX => by go_simp⟩) hX ?_
        simp only [Act.put, List.setIfInBounds_toArray, List.set_cons_zero, List.set_cons_succ]
        refine wpAnyH_take_at (i := 8) (v := .int .i64 0) 37 rfl rfl (by kernel_rfl) (by kernel_rfl) (by kernel_rfl) (fun _ _ _ h => h) (.inl ⟨rfl, fun X hX => by go_simp; all_goals (first | (exact u32_self (by have := HXX.out; omega) (by have := HXX.out; omega)) | (rw [Int.tmod_eq_emod_of_nonneg (by omega)]; omega) | omega | exact i64_self (by omega) (by omega) | (rw [i64_self (by omega) (by omega)]; omega))⟩) hX ?_
        simp only [Act.put, List.setIfInBounds_toArray, List.set_cons_zero, List.set_cons_succ]
        refine wpAnyH_take_at (i := 9) (v := .int .i64 0) 38 rfl rfl (by kernel_rfl) (by kernel_rfl) (by kernel_rfl) (fun _ _ _ h => h) (.inl ⟨rfl, fun X hX => by go_simp; all_goals (first | (exact u32_self (by have := HXX.out; omega) (by have := HXX.out; omega)) | (rw [Int.tmod_eq_emod_of_nonneg (by omega)]; omega) | omega | exact i64_self (by omega) (by omega) | (rw [i64_self (by omega) (by omega)]; omega))⟩) hX ?_
        simp only [Act.put, List.setIfInBounds_toArray, List.set_cons_zero, List.set_cons_succ]
        refine wpAnyH_take_at (i := 10) (v := .int .u32 (x0 : Int)) 39 rfl rfl (by kernel_rfl) (by kernel_rfl) (by kernel_rfl) (fun _ _ _ h => h) (.inl ⟨rfl, fun X hX => by go_simp; all_goals (first | (exact u32_self (by have := HXX.out; omega) (by have := HXX.out; omega)) | (rw [Int.tmod_eq_emod_of_nonneg (by omega)]; omega) | omega | exact i64_self (by omega) (by omega) | (rw [i64_self (by omega) (by omega)]; omega))⟩) hX ?_
        simp only [Act.put, List.setIfInBounds_toArray, List.set_cons_zero, List.set_cons_succ]
        refine wpAnyH_all (rs := [4]) (by kernel_rfl) (by decide) (fun i hi => ?_)
        rw [List.mem_singleton] at hi
        subst hi
        have HX := Lib.hid hX; clear hX
        unfold wpOp
        go_simp
        have hX := HX.out
        refine .inl ⟨hX, ?_⟩
        refine wpAnyH_take_at (i := 11) (v := .int .u32 ((a0 + x0 : Nat) : Int)) 40 rfl rfl (by kernel_rfl) (by kernel_rfl) (by kernel_rfl) (fun _ _ _ h => h) (.inl ⟨rfl, fun X hX => by go_simp; rw [or_b0 S2a.out HXX.out]; all_goals omega⟩) hX ?_
        simp only [Act.put, List.setIfInBounds_toArray, List.set_cons_zero, List.set_cons_succ]
        refine wpAnyH_take_at (i := 12) (v := .pointer (some ⟨g, q, none⟩)) 41 rfl rfl (by kernel_rfl) (by kernel_rfl) (by kernel_rfl) (fun _ _ _ h => h) (.inl ⟨rfl, fun X hX => by have ix := HI2.out; go_simp⟩) hX ?_
        simp only [Act.put, List.setIfInBounds_toArray, List.set_cons_zero, List.set_cons_succ]
        refine wpAnyH_all (rs := [13]) (by kernel_rfl) (by decide) (fun i hi => ?_)
        rw [List.mem_singleton] at hi
        subst hi
        unfold wpOp
        go_simp
        replace hX := hX.setCell (a := ⟨g, q, none⟩) (by simp) (.int .u32 ((a0 + x0 : Nat) : Int))
        refine .inl ⟨hX, ?_⟩
        refine wpAnyH_done (by kernel_rfl) ?_ _
        have hE := HRS.out wr.drew (a0 + x0) HR0.out
        rw [← S3a.out] at hE
        have HE := Lib.hid hE
        have HB := Lib.hid (below_store hB.drew (g := g) (i := q) (by omega) (.int .u32 ((a0 + x0 : Nat) : Int)))
        clear hE hX
        go_wp2_with fail
        go_roundw
        case rel => exact ⟨k + 1, h0, by simp, HE.out, HB.out⟩
        case measure => simp [RowKit.intOf]; omega
      · have hm1 : (k : Int) % 4 = 1 := by omega
        have s2 := S2.out
        rw [h4] at s2
        have S2a : Hid (a0 < 2 ^ 8) := Nat.lt_of_lt_of_eq s2 (by decide)
        have s3 := S3.out
        rw [h4, show a0 + x0 * 256 ^ 1 = a0 + x0 * 256 by omega] at s3
        have S3a := Lib.hid s3
        clear s2 s3 S2 S3 h4
        refine wp_region_held (S := fun X => Only [g] wr X) (by kernel_rfl) ?_
        refine wpAnyH_take_at (i := 0) (v := .slice (some ⟨g, 0, none⟩) m m) 29 rfl rfl (by kernel_rfl) (by kernel_rfl) (by kernel_rfl) (fun _ _ _ h => h) (.inl ⟨rfl, fun X hX => by go_simp⟩) hX ?_
        simp only [Act.put, List.setIfInBounds_toArray, List.set_cons_zero, List.set_cons_succ]
        refine wpAnyH_take_at (i := 1) (v := .int .i64 k) 30 rfl rfl (by kernel_rfl) (by kernel_rfl) (by kernel_rfl) (fun _ _ _ h => h) (.inl ⟨rfl, fun X hX => by go_simp⟩) hX ?_
        simp only [Act.put, List.setIfInBounds_toArray, List.set_cons_zero, List.set_cons_succ]
        refine wpAnyH_take_at (i := 2) (v := .int .i64 q) 31 rfl rfl (by kernel_rfl) (by kernel_rfl) (by kernel_rfl) (fun _ _ _ h => h) (.inl ⟨rfl, fun X hX => by go_simp; all_goals (first | (exact u32_self (by have := HXX.out; omega) (by have := HXX.out; omega)) | (rw [Int.tmod_eq_emod_of_nonneg (by omega)]; omega) | omega | exact i64_self (by omega) (by omega) | (rw [i64_self (by omega) (by omega)]; omega))⟩) hX ?_
        simp only [Act.put, List.setIfInBounds_toArray, List.set_cons_zero, List.set_cons_succ]
        refine wpAnyH_take_at (i := 3) (v := .pointer (some ⟨g, q, none⟩)) 32 rfl rfl (by kernel_rfl) (by kernel_rfl) (by kernel_rfl) (fun _ _ _ h => h) (.inl ⟨rfl, fun X hX => by have ix := HI2.out; go_simp⟩) hX ?_
        simp only [Act.put, List.setIfInBounds_toArray, List.set_cons_zero, List.set_cons_succ]
        refine wpAnyH_take_at (i := 5) (v := .int .u8 (x0 : Nat)) 34 rfl rfl (by kernel_rfl) (by kernel_rfl) (by kernel_rfl) (fun _ _ _ h => h) (.inl ⟨rfl, fun X hX => by go_simp⟩) hX ?_
        simp only [Act.put, List.setIfInBounds_toArray, List.set_cons_zero, List.set_cons_succ]
        refine wpAnyH_take_at (i := 6) (v := .int .u32 (x0 : Nat)) 35 rfl rfl (by kernel_rfl) (by kernel_rfl) (by kernel_rfl) (fun _ _ _ h => h) (.inl ⟨rfl, fun X hX => by go_simp; all_goals (first | (exact u32_self (by have := HXX.out; omega) (by have := HXX.out; omega)) | (rw [Int.tmod_eq_emod_of_nonneg (by omega)]; omega) | omega | exact i64_self (by omega) (by omega) | (rw [i64_self (by omega) (by omega)]; omega))⟩) hX ?_
        simp only [Act.put, List.setIfInBounds_toArray, List.set_cons_zero, List.set_cons_succ]
        refine wpAnyH_take_at (i := 7) (v := .int .i64 k) 36 rfl rfl (by kernel_rfl) (by kernel_rfl) (by kernel_rfl) (fun _ _ _ h => h) (.inl ⟨rfl, fun X hX => by go_simp⟩) hX ?_
        simp only [Act.put, List.setIfInBounds_toArray, List.set_cons_zero, List.set_cons_succ]
        refine wpAnyH_take_at (i := 8) (v := .int .i64 1) 37 rfl rfl (by kernel_rfl) (by kernel_rfl) (by kernel_rfl) (fun _ _ _ h => h) (.inl ⟨rfl, fun X hX => by go_simp; all_goals (first | (exact u32_self (by have := HXX.out; omega) (by have := HXX.out; omega)) | (rw [Int.tmod_eq_emod_of_nonneg (by omega)]; omega) | omega | exact i64_self (by omega) (by omega) | (rw [i64_self (by omega) (by omega)]; omega))⟩) hX ?_
        simp only [Act.put, List.setIfInBounds_toArray, List.set_cons_zero, List.set_cons_succ]
        refine wpAnyH_take_at (i := 9) (v := .int .i64 8) 38 rfl rfl (by kernel_rfl) (by kernel_rfl) (by kernel_rfl) (fun _ _ _ h => h) (.inl ⟨rfl, fun X hX => by go_simp; all_goals (first | (exact u32_self (by have := HXX.out; omega) (by have := HXX.out; omega)) | (rw [Int.tmod_eq_emod_of_nonneg (by omega)]; omega) | omega | exact i64_self (by omega) (by omega) | (rw [i64_self (by omega) (by omega)]; omega))⟩) hX ?_
        simp only [Act.put, List.setIfInBounds_toArray, List.set_cons_zero, List.set_cons_succ]
        refine wpAnyH_take_at (i := 10) (v := .int .u32 ((x0 * 256 : Nat) : Int)) 39 rfl rfl (by kernel_rfl) (by kernel_rfl) (by kernel_rfl) (fun _ _ _ h => h) (.inl ⟨rfl, fun X hX => by go_simp; all_goals (first | (exact u32_self (by have := HXX.out; omega) (by have := HXX.out; omega)) | (rw [Int.tmod_eq_emod_of_nonneg (by omega)]; omega) | omega | exact i64_self (by omega) (by omega) | (rw [i64_self (by omega) (by omega)]; omega))⟩) hX ?_
        simp only [Act.put, List.setIfInBounds_toArray, List.set_cons_zero, List.set_cons_succ]
        refine wpAnyH_all (rs := [4]) (by kernel_rfl) (by decide) (fun i hi => ?_)
        rw [List.mem_singleton] at hi
        subst hi
        have HX := Lib.hid hX; clear hX
        unfold wpOp
        go_simp
        have hX := HX.out
        refine .inl ⟨hX, ?_⟩
        refine wpAnyH_take_at (i := 11) (v := .int .u32 ((a0 + x0 * 256 : Nat) : Int)) 40 rfl rfl (by kernel_rfl) (by kernel_rfl) (by kernel_rfl) (fun _ _ _ h => h) (.inl ⟨rfl, fun X hX => by go_simp; rw [or_b1 S2a.out HXX.out]; all_goals omega⟩) hX ?_
        simp only [Act.put, List.setIfInBounds_toArray, List.set_cons_zero, List.set_cons_succ]
        refine wpAnyH_take_at (i := 12) (v := .pointer (some ⟨g, q, none⟩)) 41 rfl rfl (by kernel_rfl) (by kernel_rfl) (by kernel_rfl) (fun _ _ _ h => h) (.inl ⟨rfl, fun X hX => by have ix := HI2.out; go_simp⟩) hX ?_
        simp only [Act.put, List.setIfInBounds_toArray, List.set_cons_zero, List.set_cons_succ]
        refine wpAnyH_all (rs := [13]) (by kernel_rfl) (by decide) (fun i hi => ?_)
        rw [List.mem_singleton] at hi
        subst hi
        unfold wpOp
        go_simp
        replace hX := hX.setCell (a := ⟨g, q, none⟩) (by simp) (.int .u32 ((a0 + x0 * 256 : Nat) : Int))
        refine .inl ⟨hX, ?_⟩
        refine wpAnyH_done (by kernel_rfl) ?_ _
        have hE := HRS.out wr.drew (a0 + x0 * 256) HR0.out
        rw [← S3a.out] at hE
        have HE := Lib.hid hE
        have HB := Lib.hid (below_store hB.drew (g := g) (i := q) (by omega) (.int .u32 ((a0 + x0 * 256 : Nat) : Int)))
        clear hE hX
        go_wp2_with fail
        go_roundw
        case rel => exact ⟨k + 1, h0, by simp, HE.out, HB.out⟩
        case measure => simp [RowKit.intOf]; omega
      · have hm1 : (k : Int) % 4 = 2 := by omega
        have s2 := S2.out
        rw [h4] at s2
        have S2a : Hid (a0 < 2 ^ 16) := Nat.lt_of_lt_of_eq s2 (by decide)
        have s3 := S3.out
        rw [h4, show a0 + x0 * 256 ^ 2 = a0 + x0 * 65536 by omega] at s3
        have S3a := Lib.hid s3
        clear s2 s3 S2 S3 h4
        refine wp_region_held (S := fun X => Only [g] wr X) (by kernel_rfl) ?_
        refine wpAnyH_take_at (i := 0) (v := .slice (some ⟨g, 0, none⟩) m m) 29 rfl rfl (by kernel_rfl) (by kernel_rfl) (by kernel_rfl) (fun _ _ _ h => h) (.inl ⟨rfl, fun X hX => by go_simp⟩) hX ?_
        simp only [Act.put, List.setIfInBounds_toArray, List.set_cons_zero, List.set_cons_succ]
        refine wpAnyH_take_at (i := 1) (v := .int .i64 k) 30 rfl rfl (by kernel_rfl) (by kernel_rfl) (by kernel_rfl) (fun _ _ _ h => h) (.inl ⟨rfl, fun X hX => by go_simp⟩) hX ?_
        simp only [Act.put, List.setIfInBounds_toArray, List.set_cons_zero, List.set_cons_succ]
        refine wpAnyH_take_at (i := 2) (v := .int .i64 q) 31 rfl rfl (by kernel_rfl) (by kernel_rfl) (by kernel_rfl) (fun _ _ _ h => h) (.inl ⟨rfl, fun X hX => by go_simp; all_goals (first | (exact u32_self (by have := HXX.out; omega) (by have := HXX.out; omega)) | (rw [Int.tmod_eq_emod_of_nonneg (by omega)]; omega) | omega | exact i64_self (by omega) (by omega) | (rw [i64_self (by omega) (by omega)]; omega))⟩) hX ?_
        simp only [Act.put, List.setIfInBounds_toArray, List.set_cons_zero, List.set_cons_succ]
        refine wpAnyH_take_at (i := 3) (v := .pointer (some ⟨g, q, none⟩)) 32 rfl rfl (by kernel_rfl) (by kernel_rfl) (by kernel_rfl) (fun _ _ _ h => h) (.inl ⟨rfl, fun X hX => by have ix := HI2.out; go_simp⟩) hX ?_
        simp only [Act.put, List.setIfInBounds_toArray, List.set_cons_zero, List.set_cons_succ]
        refine wpAnyH_take_at (i := 5) (v := .int .u8 (x0 : Nat)) 34 rfl rfl (by kernel_rfl) (by kernel_rfl) (by kernel_rfl) (fun _ _ _ h => h) (.inl ⟨rfl, fun X hX => by go_simp⟩) hX ?_
        simp only [Act.put, List.setIfInBounds_toArray, List.set_cons_zero, List.set_cons_succ]
        refine wpAnyH_take_at (i := 6) (v := .int .u32 (x0 : Nat)) 35 rfl rfl (by kernel_rfl) (by kernel_rfl) (by kernel_rfl) (fun _ _ _ h => h) (.inl ⟨rfl, fun X hX => by go_simp; all_goals (first | (exact u32_self (by have := HXX.out; omega) (by have := HXX.out; omega)) | (rw [Int.tmod_eq_emod_of_nonneg (by omega)]; omega) | omega | exact i64_self (by omega) (by omega) | (rw [i64_self (by omega) (by omega)]; omega))⟩) hX ?_
        simp only [Act.put, List.setIfInBounds_toArray, List.set_cons_zero, List.set_cons_succ]
        refine wpAnyH_take_at (i := 7) (v := .int .i64 k) 36 rfl rfl (by kernel_rfl) (by kernel_rfl) (by kernel_rfl) (fun _ _ _ h => h) (.inl ⟨rfl, fun X hX => by go_simp⟩) hX ?_
        simp only [Act.put, List.setIfInBounds_toArray, List.set_cons_zero, List.set_cons_succ]
        refine wpAnyH_take_at (i := 8) (v := .int .i64 2) 37 rfl rfl (by kernel_rfl) (by kernel_rfl) (by kernel_rfl) (fun _ _ _ h => h) (.inl ⟨rfl, fun X hX => by go_simp; all_goals (first | (exact u32_self (by have := HXX.out; omega) (by have := HXX.out; omega)) | (rw [Int.tmod_eq_emod_of_nonneg (by omega)]; omega) | omega | exact i64_self (by omega) (by omega) | (rw [i64_self (by omega) (by omega)]; omega))⟩) hX ?_
        simp only [Act.put, List.setIfInBounds_toArray, List.set_cons_zero, List.set_cons_succ]
        refine wpAnyH_take_at (i := 9) (v := .int .i64 16) 38 rfl rfl (by kernel_rfl) (by kernel_rfl) (by kernel_rfl) (fun _ _ _ h => h) (.inl ⟨rfl, fun X hX => by go_simp; all_goals (first | (exact u32_self (by have := HXX.out; omega) (by have := HXX.out; omega)) | (rw [Int.tmod_eq_emod_of_nonneg (by omega)]; omega) | omega | exact i64_self (by omega) (by omega) | (rw [i64_self (by omega) (by omega)]; omega))⟩) hX ?_
        simp only [Act.put, List.setIfInBounds_toArray, List.set_cons_zero, List.set_cons_succ]
        refine wpAnyH_take_at (i := 10) (v := .int .u32 ((x0 * 65536 : Nat) : Int)) 39 rfl rfl (by kernel_rfl) (by kernel_rfl) (by kernel_rfl) (fun _ _ _ h => h) (.inl ⟨rfl, fun X hX => by go_simp; all_goals (first | (exact u32_self (by have := HXX.out; omega) (by have := HXX.out; omega)) | (rw [Int.tmod_eq_emod_of_nonneg (by omega)]; omega) | omega | exact i64_self (by omega) (by omega) | (rw [i64_self (by omega) (by omega)]; omega))⟩) hX ?_
        simp only [Act.put, List.setIfInBounds_toArray, List.set_cons_zero, List.set_cons_succ]
        refine wpAnyH_all (rs := [4]) (by kernel_rfl) (by decide) (fun i hi => ?_)
        rw [List.mem_singleton] at hi
        subst hi
        have HX := Lib.hid hX; clear hX
        unfold wpOp
        go_simp
        have hX := HX.out
        refine .inl ⟨hX, ?_⟩
        refine wpAnyH_take_at (i := 11) (v := .int .u32 ((a0 + x0 * 65536 : Nat) : Int)) 40 rfl rfl (by kernel_rfl) (by kernel_rfl) (by kernel_rfl) (fun _ _ _ h => h) (.inl ⟨rfl, fun X hX => by go_simp; rw [or_b2 S2a.out HXX.out]; all_goals omega⟩) hX ?_
        simp only [Act.put, List.setIfInBounds_toArray, List.set_cons_zero, List.set_cons_succ]
        refine wpAnyH_take_at (i := 12) (v := .pointer (some ⟨g, q, none⟩)) 41 rfl rfl (by kernel_rfl) (by kernel_rfl) (by kernel_rfl) (fun _ _ _ h => h) (.inl ⟨rfl, fun X hX => by have ix := HI2.out; go_simp⟩) hX ?_
        simp only [Act.put, List.setIfInBounds_toArray, List.set_cons_zero, List.set_cons_succ]
        refine wpAnyH_all (rs := [13]) (by kernel_rfl) (by decide) (fun i hi => ?_)
        rw [List.mem_singleton] at hi
        subst hi
        unfold wpOp
        go_simp
        replace hX := hX.setCell (a := ⟨g, q, none⟩) (by simp) (.int .u32 ((a0 + x0 * 65536 : Nat) : Int))
        refine .inl ⟨hX, ?_⟩
        refine wpAnyH_done (by kernel_rfl) ?_ _
        have hE := HRS.out wr.drew (a0 + x0 * 65536) HR0.out
        rw [← S3a.out] at hE
        have HE := Lib.hid hE
        have HB := Lib.hid (below_store hB.drew (g := g) (i := q) (by omega) (.int .u32 ((a0 + x0 * 65536 : Nat) : Int)))
        clear hE hX
        go_wp2_with fail
        go_roundw
        case rel => exact ⟨k + 1, h0, by simp, HE.out, HB.out⟩
        case measure => simp [RowKit.intOf]; omega
      · have hm1 : (k : Int) % 4 = 3 := by omega
        have s2 := S2.out
        rw [h4] at s2
        have S2a : Hid (a0 < 2 ^ 24) := Nat.lt_of_lt_of_eq s2 (by decide)
        have s3 := S3.out
        rw [h4, show a0 + x0 * 256 ^ 3 = a0 + x0 * 16777216 by omega] at s3
        have S3a := Lib.hid s3
        clear s2 s3 S2 S3 h4
        refine wp_region_held (S := fun X => Only [g] wr X) (by kernel_rfl) ?_
        refine wpAnyH_take_at (i := 0) (v := .slice (some ⟨g, 0, none⟩) m m) 29 rfl rfl (by kernel_rfl) (by kernel_rfl) (by kernel_rfl) (fun _ _ _ h => h) (.inl ⟨rfl, fun X hX => by go_simp⟩) hX ?_
        simp only [Act.put, List.setIfInBounds_toArray, List.set_cons_zero, List.set_cons_succ]
        refine wpAnyH_take_at (i := 1) (v := .int .i64 k) 30 rfl rfl (by kernel_rfl) (by kernel_rfl) (by kernel_rfl) (fun _ _ _ h => h) (.inl ⟨rfl, fun X hX => by go_simp⟩) hX ?_
        simp only [Act.put, List.setIfInBounds_toArray, List.set_cons_zero, List.set_cons_succ]
        refine wpAnyH_take_at (i := 2) (v := .int .i64 q) 31 rfl rfl (by kernel_rfl) (by kernel_rfl) (by kernel_rfl) (fun _ _ _ h => h) (.inl ⟨rfl, fun X hX => by go_simp; all_goals (first | (exact u32_self (by have := HXX.out; omega) (by have := HXX.out; omega)) | (rw [Int.tmod_eq_emod_of_nonneg (by omega)]; omega) | omega | exact i64_self (by omega) (by omega) | (rw [i64_self (by omega) (by omega)]; omega))⟩) hX ?_
        simp only [Act.put, List.setIfInBounds_toArray, List.set_cons_zero, List.set_cons_succ]
        refine wpAnyH_take_at (i := 3) (v := .pointer (some ⟨g, q, none⟩)) 32 rfl rfl (by kernel_rfl) (by kernel_rfl) (by kernel_rfl) (fun _ _ _ h => h) (.inl ⟨rfl, fun X hX => by have ix := HI2.out; go_simp⟩) hX ?_
        simp only [Act.put, List.setIfInBounds_toArray, List.set_cons_zero, List.set_cons_succ]
        refine wpAnyH_take_at (i := 5) (v := .int .u8 (x0 : Nat)) 34 rfl rfl (by kernel_rfl) (by kernel_rfl) (by kernel_rfl) (fun _ _ _ h => h) (.inl ⟨rfl, fun X hX => by go_simp⟩) hX ?_
        simp only [Act.put, List.setIfInBounds_toArray, List.set_cons_zero, List.set_cons_succ]
        refine wpAnyH_take_at (i := 6) (v := .int .u32 (x0 : Nat)) 35 rfl rfl (by kernel_rfl) (by kernel_rfl) (by kernel_rfl) (fun _ _ _ h => h) (.inl ⟨rfl, fun X hX => by go_simp; all_goals (first | (exact u32_self (by have := HXX.out; omega) (by have := HXX.out; omega)) | (rw [Int.tmod_eq_emod_of_nonneg (by omega)]; omega) | omega | exact i64_self (by omega) (by omega) | (rw [i64_self (by omega) (by omega)]; omega))⟩) hX ?_
        simp only [Act.put, List.setIfInBounds_toArray, List.set_cons_zero, List.set_cons_succ]
        refine wpAnyH_take_at (i := 7) (v := .int .i64 k) 36 rfl rfl (by kernel_rfl) (by kernel_rfl) (by kernel_rfl) (fun _ _ _ h => h) (.inl ⟨rfl, fun X hX => by go_simp⟩) hX ?_
        simp only [Act.put, List.setIfInBounds_toArray, List.set_cons_zero, List.set_cons_succ]
        refine wpAnyH_take_at (i := 8) (v := .int .i64 3) 37 rfl rfl (by kernel_rfl) (by kernel_rfl) (by kernel_rfl) (fun _ _ _ h => h) (.inl ⟨rfl, fun X hX => by go_simp; all_goals (first | (exact u32_self (by have := HXX.out; omega) (by have := HXX.out; omega)) | (rw [Int.tmod_eq_emod_of_nonneg (by omega)]; omega) | omega | exact i64_self (by omega) (by omega) | (rw [i64_self (by omega) (by omega)]; omega))⟩) hX ?_
        simp only [Act.put, List.setIfInBounds_toArray, List.set_cons_zero, List.set_cons_succ]
        refine wpAnyH_take_at (i := 9) (v := .int .i64 24) 38 rfl rfl (by kernel_rfl) (by kernel_rfl) (by kernel_rfl) (fun _ _ _ h => h) (.inl ⟨rfl, fun X hX => by go_simp; all_goals (first | (exact u32_self (by have := HXX.out; omega) (by have := HXX.out; omega)) | (rw [Int.tmod_eq_emod_of_nonneg (by omega)]; omega) | omega | exact i64_self (by omega) (by omega) | (rw [i64_self (by omega) (by omega)]; omega))⟩) hX ?_
        simp only [Act.put, List.setIfInBounds_toArray, List.set_cons_zero, List.set_cons_succ]
        refine wpAnyH_take_at (i := 10) (v := .int .u32 ((x0 * 16777216 : Nat) : Int)) 39 rfl rfl (by kernel_rfl) (by kernel_rfl) (by kernel_rfl) (fun _ _ _ h => h) (.inl ⟨rfl, fun X hX => by go_simp; all_goals (first | (exact u32_self (by have := HXX.out; omega) (by have := HXX.out; omega)) | (rw [Int.tmod_eq_emod_of_nonneg (by omega)]; omega) | omega | exact i64_self (by omega) (by omega) | (rw [i64_self (by omega) (by omega)]; omega))⟩) hX ?_
        simp only [Act.put, List.setIfInBounds_toArray, List.set_cons_zero, List.set_cons_succ]
        refine wpAnyH_all (rs := [4]) (by kernel_rfl) (by decide) (fun i hi => ?_)
        rw [List.mem_singleton] at hi
        subst hi
        have HX := Lib.hid hX; clear hX
        unfold wpOp
        go_simp
        have hX := HX.out
        refine .inl ⟨hX, ?_⟩
        refine wpAnyH_take_at (i := 11) (v := .int .u32 ((a0 + x0 * 16777216 : Nat) : Int)) 40 rfl rfl (by kernel_rfl) (by kernel_rfl) (by kernel_rfl) (fun _ _ _ h => h) (.inl ⟨rfl, fun X hX => by go_simp; rw [or_b3 S2a.out HXX.out]; all_goals omega⟩) hX ?_
        simp only [Act.put, List.setIfInBounds_toArray, List.set_cons_zero, List.set_cons_succ]
        refine wpAnyH_take_at (i := 12) (v := .pointer (some ⟨g, q, none⟩)) 41 rfl rfl (by kernel_rfl) (by kernel_rfl) (by kernel_rfl) (fun _ _ _ h => h) (.inl ⟨rfl, fun X hX => by have ix := HI2.out; go_simp⟩) hX ?_
        simp only [Act.put, List.setIfInBounds_toArray, List.set_cons_zero, List.set_cons_succ]
        refine wpAnyH_all (rs := [13]) (by kernel_rfl) (by decide) (fun i hi => ?_)
        rw [List.mem_singleton] at hi
        subst hi
        unfold wpOp
        go_simp
        replace hX := hX.setCell (a := ⟨g, q, none⟩) (by simp) (.int .u32 ((a0 + x0 * 16777216 : Nat) : Int))
        refine .inl ⟨hX, ?_⟩
        refine wpAnyH_done (by kernel_rfl) ?_ _
        have hE := HRS.out wr.drew (a0 + x0 * 16777216) HR0.out
        rw [← S3a.out] at hE
        have HE := Lib.hid hE
        have HB := Lib.hid (below_store hB.drew (g := g) (i := q) (by omega) (.int .u32 ((a0 + x0 * 16777216 : Nat) : Int)))
        clear hE hX
        go_wp2_with fail
        go_roundw
        case rel => exact ⟨k + 1, h0, by simp, HE.out, HB.out⟩
        case measure => simp [RowKit.intOf]; omega
    · obtain rfl : k = n := by omega
      have d1 : decide ((k : Int) < (k : Int)) = false := decide_eq_false (by omega)
      have d2 : decide (k < k) = false := decide_eq_false (by omega)
      rw [HZA.out] at hrow
      have HR := Lib.hid hrow
      clear hrow
      go_wp2_with fail
      refine bodyPost_ret (v := .tuple #[.slice (some ⟨g, 0, none⟩) m m, .int .i64 (4 * m - k : Nat), .int .i64 0]) (by simp [results, Tryz.results47, go_sem]) rfl ⟨⟨g, rfl, by omega, HR.out⟩, hB⟩
end Go.Proofs.YteiikhcadjdkcaaGreatDoor
namespace Go.Proofs.YteiikhcadjdkcaaGreatDoor
open Go Go.RowKit Go.Maps Limb
theorem make_map (W : World) : (Instr.makeMap 66 none).run Tryz.prog W = .ok (.map (some W.heap.size)) (W.alloc (.map #[] 0)) := rfl
def objE : List (Int × Value) := [(43, entV (2, .func 105, #[], #[])), (52, entV (0, .func 121, #[], #[]))]
def txtE : List (Int × Value) := [(53, entV (1, .func 126, #[], #[])), (54, entV (2, .func 127, #[], #[])), (55, entV (1, .func 128, #[], #[]))]
set_option maxRecDepth 100000 in
theorem tab_objects (w : World) : Calls Tryz.prog 52 #[] w fun e w' => ∃ b l, e = .returned (.map (some b)) ∧ OwnM w w' b l ∧ l.map (·.1) = [40, 41, 42, 43, 44, 45, 46, 47, 48, 49, 52] ∧ ∀ x ∈ objE, x ∈ l := by
  have hmk := make_map
  have HO := Lib.hid (OwnM.start (Below.refl w.heap.size w))
  go_enter Tryz.func52, Tryz.ntmps52
  go_wp2_with (refine wpList_insert_next HO _ _ _ rfl rfl rfl rfl rfl (by decide) (by simp) ?_; clear HO; intro W HO)
  go_ret
  exact ⟨_, _, rfl, HO.out, rfl, fun x hx => by
    simp only [objE, List.mem_cons, List.not_mem_nil, or_false] at hx
    rcases hx with rfl | rfl
    · exact List.mem_of_getElem? (i := 3) rfl
    · exact List.mem_of_getElem? (i := 10) rfl⟩
set_option maxRecDepth 100000 in
theorem tab_texts (w : World) : Calls Tryz.prog 53 #[] w fun e w' => ∃ b l, e = .returned (.map (some b)) ∧ OwnM w w' b l ∧ l.map (·.1) = [50, 51, 53, 54, 55, 56, 60, 61, 62, 63, 64] ∧ ∀ x ∈ txtE, x ∈ l := by
  have hmk := make_map
  have HO := Lib.hid (OwnM.start (Below.refl w.heap.size w))
  go_enter Tryz.func53, Tryz.ntmps53
  go_wp2_with (refine wpList_insert_next HO _ _ _ rfl rfl rfl rfl rfl (by decide) (by simp) ?_; clear HO; intro W HO)
  go_ret
  exact ⟨_, _, rfl, HO.out, rfl, fun x hx => by
    simp only [txtE, List.mem_cons, List.not_mem_nil, or_false] at hx
    rcases hx with rfl | rfl | rfl
    · exact List.mem_of_getElem? (i := 2) rfl
    · exact List.mem_of_getElem? (i := 3) rfl
    · exact List.mem_of_getElem? (i := 4) rfl⟩
set_option maxRecDepth 100000 in
theorem tab_system (w : World) : Calls Tryz.prog 55 #[] w fun e w' => ∃ b l, e = .returned (.map (some b)) ∧ OwnM w w' b l ∧ l.map (·.1) = [90, 91, 92, 120, 121, 122, 123, 124, 125, 126] := by
  have hmk := make_map
  have HO := Lib.hid (OwnM.start (Below.refl w.heap.size w))
  go_enter Tryz.func55, Tryz.ntmps55
  go_wp2_with (refine wpList_insert_next HO _ _ _ rfl rfl rfl rfl rfl (by decide) (by simp) ?_; clear HO; intro W HO)
  go_ret
  exact ⟨_, _, rfl, HO.out, rfl⟩
set_option maxRecDepth 100000 in
theorem prim_two (w : World) (f : Fn) (x y : Array Value) : Calls Tryz.prog 77 #[.func f x y] w fun e w' => e = .returned (entV (1, .func 203, #[], #[.pointer (some ⟨w.heap.size, 0, none⟩)])) ∧ Below w.heap.size w w' ∧ Row w' w.heap.size 129 [.func f x y] := by
  obtain ⟨W1, h1, r1, b1, z1⟩ := alloc_row w 129 [.func f x y]
  obtain ⟨W2, h2, r2, b2, z2⟩ := alloc_row W1 64 [.int .i64 0, .nilFunc]
  have HB := Lib.hid (b1.trans (b2.mono b1.size))
  have r1 := r1.below b2 r1.lt
  rw [z1] at r2
  have q0 := r2.cell_at 0
  have q1 := r2.cell_at 1
  have f0 := r2.free 0
  have f1 := r2.free 1
  have s0 := r2.store_any 0 (.int .i64 1)
  have s1 := s0.store_any 1 (.func (.func 203) #[] #[.pointer (some ⟨w.heap.size, 0, none⟩)])
  have q1' := s0.cell_at 1
  have f1' := s0.free 1
  have e0 := s1.cell_at 0
  have e1 := s1.cell_at 1
  simp only [List.set_cons_zero, List.set_cons_succ, List.getElem?_cons_zero, List.getElem?_cons_succ] at q0 q1 q1' e0 e1
  have hst : (store ⟨w.heap.size + 1, 1, none⟩ (.func (.func 203) #[] #[.pointer (some ⟨w.heap.size, 0, none⟩)])).run Tryz.prog (W2.setCell ⟨w.heap.size + 1, 0, none⟩ (.int .i64 1)) = .ok () ((W2.setCell ⟨w.heap.size + 1, 0, none⟩ (.int .i64 1)).setCell ⟨w.heap.size + 1, 1, none⟩ (.func (.func 203) #[] #[.pointer (some ⟨w.heap.size, 0, none⟩)])) := by simp [store, Sem.run, q1', f1']
  rw [h1] at h2
  have H2 := Lib.hid h2
  have HR := Lib.hid r1
  clear h1 h2 b1 b2 z1 z2 r1 r2 s0 s1
  go_enter Tryz.func77, Tryz.ntmps77
  go_upto_region 1 with (fail)
  rw [← H2.out]
  go_wp2_with fail
  exact bodyPost_ret (v := entV (1, .func 203, #[], #[.pointer (some ⟨w.heap.size, 0, none⟩)])) (by simp [results, Tryz.results77, go_sem, entV, e0, e1]) rfl ⟨rfl, (HB.out.setCell (by simp) _).setCell (by simp) _, (HR.out.other (by simp) _).other (by simp) _⟩
set_option maxRecDepth 100000 in
theorem prim_compare (w : World) (f : Fn) (x y : Array Value) : Calls Tryz.prog 86 #[.func f x y] w fun e w' => e = .returned (entV (1, .func 204, #[], #[.pointer (some ⟨w.heap.size, 0, none⟩)])) ∧ Below w.heap.size w w' ∧ Row w' w.heap.size 132 [.func f x y] := by
  obtain ⟨W1, h1, r1, b1, z1⟩ := alloc_row w 132 [.func f x y]
  obtain ⟨W2, h2, r2, b2, z2⟩ := alloc_row W1 64 [.int .i64 0, .nilFunc]
  have HB := Lib.hid (b1.trans (b2.mono b1.size))
  have r1 := r1.below b2 r1.lt
  rw [z1] at r2
  have q0 := r2.cell_at 0
  have q1 := r2.cell_at 1
  have f0 := r2.free 0
  have f1 := r2.free 1
  have s0 := r2.store_any 0 (.int .i64 1)
  have s1 := s0.store_any 1 (.func (.func 204) #[] #[.pointer (some ⟨w.heap.size, 0, none⟩)])
  have q1' := s0.cell_at 1
  have f1' := s0.free 1
  have e0 := s1.cell_at 0
  have e1 := s1.cell_at 1
  simp only [List.set_cons_zero, List.set_cons_succ, List.getElem?_cons_zero, List.getElem?_cons_succ] at q0 q1 q1' e0 e1
  have hst : (store ⟨w.heap.size + 1, 1, none⟩ (.func (.func 204) #[] #[.pointer (some ⟨w.heap.size, 0, none⟩)])).run Tryz.prog (W2.setCell ⟨w.heap.size + 1, 0, none⟩ (.int .i64 1)) = .ok () ((W2.setCell ⟨w.heap.size + 1, 0, none⟩ (.int .i64 1)).setCell ⟨w.heap.size + 1, 1, none⟩ (.func (.func 204) #[] #[.pointer (some ⟨w.heap.size, 0, none⟩)])) := by simp [store, Sem.run, q1', f1']
  rw [h1] at h2
  have H2 := Lib.hid h2
  have HR := Lib.hid r1
  clear h1 h2 b1 b2 z1 z2 r1 r2 s0 s1
  go_enter Tryz.func86, Tryz.ntmps86
  go_upto_region 1 with (fail)
  rw [← H2.out]
  go_wp2_with fail
  exact bodyPost_ret (v := entV (1, .func 204, #[], #[.pointer (some ⟨w.heap.size, 0, none⟩)])) (by simp [results, Tryz.results86, go_sem, entV, e0, e1]) rfl ⟨rfl, (HB.out.setCell (by simp) _).setCell (by simp) _, (HR.out.other (by simp) _).other (by simp) _⟩
set_option maxRecDepth 100000 in
theorem prim_one (w : World) (f : Fn) (x y : Array Value) : Calls Tryz.prog 97 #[.func f x y] w fun e w' => e = .returned (entV (0, .func 205, #[], #[.pointer (some ⟨w.heap.size, 0, none⟩)])) ∧ Below w.heap.size w w' ∧ Row w' w.heap.size 39 [.func f x y] := by
  obtain ⟨W1, h1, r1, b1, z1⟩ := alloc_row w 39 [.func f x y]
  obtain ⟨W2, h2, r2, b2, z2⟩ := alloc_row W1 64 [.int .i64 0, .nilFunc]
  have HB := Lib.hid (b1.trans (b2.mono b1.size))
  have r1 := r1.below b2 r1.lt
  rw [z1] at r2
  have q0 := r2.cell_at 0
  have q1 := r2.cell_at 1
  have f0 := r2.free 0
  have f1 := r2.free 1
  have s0 := r2.store_any 0 (.int .i64 0)
  have s1 := s0.store_any 1 (.func (.func 205) #[] #[.pointer (some ⟨w.heap.size, 0, none⟩)])
  have q1' := s0.cell_at 1
  have f1' := s0.free 1
  have e0 := s1.cell_at 0
  have e1 := s1.cell_at 1
  simp only [List.set_cons_zero, List.set_cons_succ, List.getElem?_cons_zero, List.getElem?_cons_succ] at q0 q1 q1' e0 e1
  have hst : (store ⟨w.heap.size + 1, 1, none⟩ (.func (.func 205) #[] #[.pointer (some ⟨w.heap.size, 0, none⟩)])).run Tryz.prog (W2.setCell ⟨w.heap.size + 1, 0, none⟩ (.int .i64 0)) = .ok () ((W2.setCell ⟨w.heap.size + 1, 0, none⟩ (.int .i64 0)).setCell ⟨w.heap.size + 1, 1, none⟩ (.func (.func 205) #[] #[.pointer (some ⟨w.heap.size, 0, none⟩)])) := by simp [store, Sem.run, q1', f1']
  rw [h1] at h2
  have H2 := Lib.hid h2
  have HR := Lib.hid r1
  clear h1 h2 b1 b2 z1 z2 r1 r2 s0 s1
  go_enter Tryz.func97, Tryz.ntmps97
  go_upto_region 1 with (fail)
  rw [← H2.out]
  go_wp2_with fail
  exact bodyPost_ret (v := entV (0, .func 205, #[], #[.pointer (some ⟨w.heap.size, 0, none⟩)])) (by simp [results, Tryz.results97, go_sem, entV, e0, e1]) rfl ⟨rfl, (HB.out.setCell (by simp) _).setCell (by simp) _, (HR.out.other (by simp) _).other (by simp) _⟩
end Go.Proofs.YteiikhcadjdkcaaGreatDoor
namespace Go.Proofs.YteiikhcadjdkcaaGreatDoor
open Go Go.RowKit Go.Maps Limb
theorem putsD_size {l : List (Int × Value)} (h : Wfs l) (hn : (l.map (·.1)).Nodup) : Maps.size (putsD l) = l.length := by
  have h1 := (putsD_keys h hn).length_eq
  rw [List.length_map] at h1
  obtain ⟨es, he⟩ := putsD_isMap l
  rw [he] at h1 ⊢
  rw [h1]
  show es.length = (es.map _).length
  rw [List.length_map]
theorem grown_below {w w' : World} (h : Below w.heap.size w w') (row : Option Nat) : w.grownBy w' row := ⟨h.os, h.tape, h.output, h.size, fun k hk _ => h.block k hk⟩
set_option maxHeartbeats 6400000 in
set_option maxRecDepth 100000 in
theorem maps_copy (w : World) (bd bs : Nat) (ld ls : List (Int × Value)) (hd : MapL w bd ld) (hs : MapL w bs ls) (hne : bd ≠ bs) (hwd : Wfs ld) (hws : Wfs ls) (hns : (ls.map (·.1)).Nodup) (hl : ld.length + ls.length ≤ 1000) :
    Calls Tryz.prog 56 #[.map (some bd), .map (some bs)] w fun e w' => e = .returned (.tuple #[]) ∧ MapL w' bd (ld ++ ls) ∧ Only [bd] w w' := by
  have hsz := putsD_size hws hns
  have hbd := hd.lt
  have hbs := hs.lt
  unfold MapL at hd hs
  go_enter Tryz.func56, Tryz.ntmps56
  go_wp2_with (first
    | (at_range; refine wpList_range_own _ rfl _ 66 rfl 3 64 keyed_int Tryz.underlying66 heldR bs ls.length _ rfl hs ?_; intro w0 hrg0 hg0 hs0)
    | go_in)
  go_frame
  go_loopw [8] (fun _ wr => ∃ (left : Lit → Bool) (cnt : Nat) (Dout : DataW Value), wr.ranges Tryz.prog 3 heldR bs w.heap.size ls.length (putsD ls) left cnt ∧ cnt ≤ Maps.size (putsD ls) ∧
      wr.ownsMap Tryz.prog 3 heldR bd (ld.length + (Maps.size (putsD ls) - cnt)) Dout ∧ Merged Dout (putsD ld) (putsD ls) left ∧ w.grownBy wr (some bd))
    (fun _ wr => wr.rangeLeft bs w.heap.size)
  case atStart =>
    exact ⟨_, _, putsD ld, hrg0, Nat.le_refl _, (hd.kept hg0 (by simp)).mono (by omega), merged_start _ _, hg0.but _⟩
  case round =>
    obtain ⟨left, cnt, Dout, hrg, hcs, hout, hM, hgw⟩ := hrel
    go_wp2_with (first
      | (at_next; refine wpList_next_ranges _ rfl _ rfl 3 keyed_int heldR (fun x : Int => Value.int .i64 x) (fun c : Int × Fn × Array Value × Array Value => Value.agg #[.int .i64 c.1, .func c.2.1 c.2.2.1 c.2.2.2]) (fun key kl h => by obtain ⟨x, rfl, _⟩ := Maps.keyOf_i64 Tryz.underlying3 h; exact ⟨x, rfl⟩) (fun v y h => heldR_inv v y h) bs w.heap.size ls.length _ _ _ rfl hrg ?_ ?_)
      | go_in)
    · intro hc0 hl0
      go_wp2
      go_end0
      subst hc0
      have e := merged_puts hM hl0 (hout.canon keyed_int) hwd hws hns
      subst e
      refine ⟨rfl, ?_, .of_grown hgw⟩
      unfold MapL
      rw [List.length_append]
      rw [hsz] at hout
      simpa using hout
    · intro x ck cf c1 c2 kl yd yp w1 cnt1 hkey hlx hv hat hrg1 hlt hg1 hs1 hen
      obtain ⟨W1, h1, r1, b1, z1⟩ := alloc_row w1 64 [.int .i64 ck, .nilFunc]
      rw [hs1] at r1
      have s1 := r1.store_any 1 (.func cf c1 c2)
      have q1' := r1.cell_at 1
      have f1' := r1.free 1
      have e0 := s1.cell_at 0
      have e1 := s1.cell_at 1
      simp only [List.set_cons_zero, List.set_cons_succ, List.getElem?_cons_zero, List.getElem?_cons_succ] at q1' e0 e1
      obtain ⟨W2, h2⟩ : ∃ W, W = W1.setCell ⟨wr.heap.size, 1, none⟩ (.func cf c1 c2) := ⟨_, rfl⟩
      have hst : (store ⟨wr.heap.size, 1, none⟩ (.func cf c1 c2)).run Tryz.prog W1 = .ok () W2 := by rw [h2]; simp [store, Sem.run, q1', f1']
      have hb : Below w1.heap.size w1 W2 := by rw [h2]; exact b1.setCell (by simp [hs1]) _
      rw [← h2] at e0 e1
      rw [h1] at hst
      have hg2 := grown_below hb none
      have hrg2 := hrg1.kept hg2 (by simp) (by simp)
      have hout2 := (hout.kept hg1 (fun e => by have := Option.some.inj e; omega)).kept hg2 (by simp)
      clear r1 s1 b1 h1 h2 q1' f1' z1
      go_wp2_with (first
        | (at_mapUpdate; refine wpList_mapUpdate_own _ rfl _ _ _ 66 rfl 3 64 keyed_int Tryz.underlying66 heldR bd _ _ rfl hout2 (by unfold maxLen; omega) _ _ _ rfl rfl hkey yd yp hv ?_; intro w2 hout3 hg3; go_frame)
        | go_in)
      have hrg3 := hrg2.kept hg3 (fun e => hne (Option.some.inj e).symm) (fun e => by have := Option.some.inj e; omega)
      refine ⟨⟨_, cnt1, _, hrg3, by omega, hout3.mono (by omega), merged_step hM hout.isMap (keyed_int.key hkey) hat, ((hgw.andThen hg1 (fun j hj => .inl (by cases hj; exact Nat.le_refl _))).andThen hg2 (fun j hj => by cases hj)).andThen hg3 (fun j hj => .inr hj)⟩, ?_⟩
      rw [hrg3.left_eq, hrg.left_eq]; exact hlt
end Go.Proofs.YteiikhcadjdkcaaGreatDoor
