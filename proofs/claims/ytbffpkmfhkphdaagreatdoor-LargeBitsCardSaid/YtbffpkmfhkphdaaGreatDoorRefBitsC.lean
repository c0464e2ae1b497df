/- The walk of the reference's Bits. -/
import Derived.Test.YtbffpkmfhkphdaaGreatDoorGPow
import Derived.Test.YtbffpkmfhkphdaaGreatDoorJoinedC
import Derived.Test.YtbffpkmfhkphdaaGreatDoorGAns
import Derived.Test.YtbffpkmfhkphdaaGreatDoorGTree
import Derived.Deep.DeepCutAuto
namespace Go.Proofs.YtbffpkmfhkphdaaGreatDoor
open Go Go.RowKit Limb

/-- The words of S below j, behind them those of L. -/
def overTo (j : Nat) (S L : List Nat) : List Nat := S.take j ++ L.drop j
theorem overTo_zero (S L : List Nat) : overTo 0 S L = L := by simp [overTo]
theorem overTo_length {j : Nat} {S L : List Nat} (h : S.length = L.length) : (overTo j S L).length = L.length := by unfold overTo; simp; omega
theorem overTo_all {j : Nat} {S L : List Nat} (h : S.length = L.length) (hj : S.length ≤ j) : overTo j S L = S := by
  unfold overTo; rw [List.take_of_length_le hj, List.drop_of_length_le (by omega), List.append_nil]
theorem wd_overTo {S L : List Nat} (h : S.length = L.length) (j i : Nat) (hi : i < L.length) : wd (overTo j S L) i = if i < j then wd S i else wd L i := by
  unfold overTo
  by_cases hij : i < j
  · rw [if_pos hij, wd_append_lt (by rw [List.length_take]; omega), wd_take hij]
  · rw [if_neg hij, wd_append_ge (by rw [List.length_take]; omega), List.length_take, wd_drop]
    congr 1; omega
theorem overTo_set {S L : List Nat} (h : S.length = L.length) {j : Nat} (hj : j < L.length) : (overTo j S L).set j (wd S j) = overTo (j + 1) S L := by
  refine ext_wd (by rw [List.length_set, overTo_length h, overTo_length h]) fun i hi => ?_
  rw [List.length_set, overTo_length h] at hi
  rw [wd_set (by rw [overTo_length h]; exact hj), wd_overTo h _ _ hi, wd_overTo h _ _ hi]
  by_cases hij : i = j
  · subst hij; simp
  · rw [if_neg hij]
    by_cases h1 : i < j
    · rw [if_pos h1, if_pos (by omega)]
    · rw [if_neg h1, if_neg (by omega)]

theorem api_comp {z : Int} : (decide (z < 0) = true → 0 < val (rep z.natAbs)) ∧ z = if decide (z < 0) then -(val (rep z.natAbs) : Int) else (val (rep z.natAbs) : Int) := by
  rw [val_rep]
  by_cases h : z < 0
  · simp [h]; omega
  · simp [h]; omega

set_option maxHeartbeats 6400000 in
set_option maxRecDepth 1000000 in
theorem ref_bits (w : World) (k : Nat) (hk : k = 1 ∨ k = 2 ∨ k = 3) (v1 v2 : Value) (x y : Int) (h1 : ApiV w v1 x) (h2 : ApiV w v2 y) (lx : (rep x.natAbs).length ≤ 1024) (ly : (rep y.natAbs).length ≤ 1024) (n : Nat) (hn : n = max (rep x.natAbs).length (rep y.natAbs).length + 1) :
    Calls Tryz.prog 16 #[.int .i64 k, v1, v2] w fun e w' => ∃ u, e = .returned u ∧ ApiV w' u (bitsZ k n x y) ∧ Below w.heap.size w w' := by
  obtain ⟨a1, c1, rfl, hc1, hl1⟩ := h1
  obtain ⟨a2, c2, rfl, hc2, hl2⟩ := h2
  obtain ⟨hp1, hz1⟩ := api_comp (z := x)
  obtain ⟨hp2, hz2⟩ := api_comp (z := y)
  obtain ⟨m1, hm1⟩ : ∃ m, m = (rep x.natAbs).length := ⟨_, rfl⟩
  obtain ⟨m2, hm2⟩ : ∃ m, m = (rep y.natAbs).length := ⟨_, rfl⟩
  obtain ⟨s1, hs1⟩ : ∃ s, s = decide (x < 0) := ⟨_, rfl⟩
  obtain ⟨s2, hs2⟩ : ∃ s, s = decide (y < 0) := ⟨_, rfl⟩
  rw [← hs1] at hp1 hz1 ⊢
  rw [← hs2] at hp2 hz2 ⊢
  rw [← hm1] at lx hn ⊢
  rw [← hm2] at ly hn ⊢
  obtain ⟨r0, r1, r2, hW, hsz⟩ := rows3 w 24 (.bool s1) (.slice a1 m1 c1) (.bool s2) (.slice a2 m2 c2) (.bool false) (.slice none 0 0)
  obtain ⟨V, hV⟩ : ∃ W, W = ((w.alloc (.cells #[.bool s1, .slice a1 m1 c1] 24)).alloc (.cells #[.bool s2, .slice a2 m2 c2] 24)).alloc (.cells #[.bool false, .slice none 0 0] 24) := ⟨_, rfl⟩
  rw [← hV] at r0 r1 r2 hW hsz
  have HV := Lib.hid hV; clear hV
  have hmax : ∀ (ts : Array TypeId) (t : TypeId) (X : World), (Builtin.max_ ts t #[.int .i64 (m1 : Nat), .int .i64 (m2 : Nat)]).run Tryz.prog X = .ok (.int .i64 ((max m1 m2 : Nat) : Int)) X := by
    intro ts t X
    rw [run_max_int2]
    by_cases h : m1 < m2
    · rw [if_pos (by omega), Nat.max_eq_right (by omega)]
    · rw [if_neg (by omega), Nat.max_eq_left (by omega)]
  obtain ⟨N, hN⟩ : ∃ N, N = max m1 m2 := ⟨_, rfl⟩
  rw [← hN] at hmax hn
  have hn1 : m1 ≤ n := by omega
  have hn2 : m2 ≤ n := by omega
  have hnb : n ≤ 1073741824 := by omega
  have hn1025 : n ≤ 1025 := by omega
  have hn0 : 0 < n := by omega
  have hNn : N < n := by omega
  have eN : (N : Int) + 1 = (n : Int) := by omega
  have eN1 : (n : Int) - 1 = (N : Int) := by omega
  have eN2 : n - 1 = N := by omega
  have HM1 := Lib.hid hm1
  have HM2 := Lib.hid hm2
  have HP1 := Lib.hid hp1
  have HP2 := Lib.hid hp2
  have HX := Lib.hid hz1
  have HYY := Lib.hid hz2
  have hlW1 := hl1.below hW
  have hlW2 := hl2.below hW
  have HY1 := Lib.hid (fun X (h : Below V.heap.size V X) => hlW1.below h)
  have HY2 := Lib.hid (fun X (h : Below V.heap.size V X) => hlW2.below h)
  have HR0 := Lib.hid (fun X (h : Below V.heap.size V X) => show X.cell? ⟨w.heap.size, 0, none⟩ = some (.bool s1) ∧ X.cell? ⟨w.heap.size, 1, none⟩ = some (.slice a1 m1 c1) from ⟨(r0.below h r0.lt).cell_at 0, (r0.below h r0.lt).cell_at 1⟩)
  have HR1 := Lib.hid (fun X (h : Below V.heap.size V X) => show X.cell? ⟨w.heap.size + 1, 0, none⟩ = some (.bool s2) ∧ X.cell? ⟨w.heap.size + 1, 1, none⟩ = some (.slice a2 m2 c2) from ⟨(r1.below h r1.lt).cell_at 0, (r1.below h r1.lt).cell_at 1⟩)
  have HRR := Lib.hid (fun X (h : Below V.heap.size V X) => r2.below h r2.lt)
  have q0 := r0.cell_at 0
  have q1 := r0.cell_at 1
  have q2 := r1.cell_at 0
  have q3 := r1.cell_at 1
  simp only [List.getElem?_cons_zero, List.getElem?_cons_succ] at q0 q1 q2 q3
  obtain ⟨S, hS⟩ : ∃ S, S = bjoin k (two n x) (two n y) := ⟨_, rfl⟩
  have hSl : Hid (S.length = n) := Lib.hid (by rw [hS, bjoin_length (by rw [two_length, two_length]), two_length])
  have hSm : Hid (Lim S) := Lib.hid (by rw [hS]; exact bjoin_lim (two_lim _ _) (two_lim _ _))
  have hSw : Hid (∀ j, j < n → wd S j = bop k (wd (two n x) j) (wd (two n y) j)) := Lib.hid (fun j hj => by rw [hS, wd_bjoin (by rw [two_length]; exact hj) (by rw [two_length]; exact hj)])
  have hSr : Hid (S.length = (List.replicate n 0).length) := Lib.hid (by rw [hSl.out]; simp)
  obtain ⟨z, hzb⟩ : ∃ z, z = bitsZ k n x y := ⟨_, rfl⟩
  have hz : z = untwo S := by rw [hzb, hS]; rfl
  rw [← hzb]
  have lz : (rep z.natAbs).length ≤ 1026 := by rw [hz]; exact Nat.le_trans (untwo_len hSm.out) (by rw [hSl.out]; omega)
  have Hz := Lib.hid hz
  clear hS hz hzb hsz r0 r1 r2 hm1 hm2 hp1 hp2 hz1 hz2 hl1 hl2 hlW1 hlW2 hc1 hc2 hs1 hs2 hn hN lx ly
  go_enter Tryz.func16, Tryz.ntmps16
  rw [HV.out] at q0 q1 q2 q3
  go_upto_region 2 with fail
  rw [← HV.out]
  clear hmax q0 q1 q2 q3
  go_cut [8, 9] (fun s8 s9 wx => ∃ at1 ct1 at2 ct2, s8 = .slice at1 n ct1 ∧ s9 = .slice at2 n ct2 ∧ Lay .u32 wx at1 (two n x) ∧ Lay .u32 wx at2 (two n y) ∧ Below V.heap.size V wx)
  case first =>
    have hX : Below V.heap.size V V.drew := (Below.refl _ _).drew
    refine wp_region_held (S := fun X => Below V.heap.size V X) (by kernel_rfl) ?_
    refine wpAnyH_take_at (i := 0) (v := .agg #[.bool s1, .slice a1 m1 c1]) 21 rfl rfl (by kernel_rfl) (by kernel_rfl) (by kernel_rfl) (fun _ _ _ h => h) (.inl ⟨rfl, fun X hX => by obtain ⟨i0, i1⟩ := HR0.out X hX; go_simp⟩) hX ?_
    simp only [Act.put, List.setIfInBounds_toArray, List.set_cons_zero, List.set_cons_succ]
    refine wpAnyH_take_at (i := 1) (v := .int .i64 (n : Nat)) 22 rfl rfl (by kernel_rfl) (by kernel_rfl) (by kernel_rfl) (fun _ _ _ h => h) (.inl ⟨rfl, fun X hX => by go_simp⟩) hX ?_
    simp only [Act.put, List.setIfInBounds_toArray, List.set_cons_zero, List.set_cons_succ]
    refine wpAnyH_take_at (i := 3) (v := .agg #[.bool s2, .slice a2 m2 c2]) 24 rfl rfl (by kernel_rfl) (by kernel_rfl) (by kernel_rfl) (fun _ _ _ h => h) (.inl ⟨rfl, fun X hX => by obtain ⟨i0, i1⟩ := HR1.out X hX; go_simp⟩) hX ?_
    simp only [Act.put, List.setIfInBounds_toArray, List.set_cons_zero, List.set_cons_succ]
    refine wpAnyH_take_at (i := 4) (v := .int .i64 (n : Nat)) 25 rfl rfl (by kernel_rfl) (by kernel_rfl) (by kernel_rfl) (fun _ _ _ h => h) (.inl ⟨rfl, fun X hX => by go_simp⟩) hX ?_
    simp only [Act.put, List.setIfInBounds_toArray, List.set_cons_zero, List.set_cons_succ]
    refine wpAnyH_all (rs := [2]) (by kernel_rfl) (by decide) (fun i hi => ?_)
    rw [List.mem_singleton] at hi
    subst hi
    unfold wpOp
    go_simp
    refine .inl ((ref_complement _ s1 a1 (rep x.natAbs) m1 c1 n (HY1.out _ hX) (rep_lim _) HM1.out hn1 hnb HP1.out x HX.out).mono ?_)
    rintro e X1 ⟨at1, ct1, rfl, hct1, T1, hb⟩
    replace hX := hX.trans (hb.mono hX.size)
    clear hb
    refine ⟨hX, ?_⟩
    refine wpAnyH_all (rs := [5]) (by kernel_rfl) (by decide) (fun i hi => ?_)
    rw [List.mem_singleton] at hi
    subst hi
    unfold wpOp
    go_simp
    refine .inl ((ref_complement _ s2 a2 (rep y.natAbs) m2 c2 n (HY2.out _ hX) (rep_lim _) HM2.out hn2 hnb HP2.out y HYY.out).mono ?_)
    rintro e X2 ⟨at2, ct2, rfl, hct2, T2, hb⟩
    replace T1 := T1.below hb
    replace hX := hX.trans (hb.mono hX.size)
    clear hb
    refine ⟨hX, ?_⟩
    refine wpAnyH_take_at (i := 6) (v := .slice at1 n ct1) 8 rfl rfl (by kernel_rfl) (by kernel_rfl) (by kernel_rfl) (fun _ _ _ h => h) (.inl ⟨rfl, fun X hX => by go_simp⟩) hX ?_
    simp only [Act.put, List.setIfInBounds_toArray, List.set_cons_zero, List.set_cons_succ]
    refine wpAnyH_take_at (i := 7) (v := .slice at2 n ct2) 9 rfl rfl (by kernel_rfl) (by kernel_rfl) (by kernel_rfl) (fun _ _ _ h => h) (.inl ⟨rfl, fun X hX => by go_simp⟩) hX ?_
    simp only [Act.put, List.setIfInBounds_toArray, List.set_cons_zero, List.set_cons_succ]
    refine wpAnyH_done (by kernel_rfl) ?_ _
    go_wp2_with fail
    go_meet
    exact ⟨_, _, _, _, rfl, rfl, T1, T2, hX⟩
  case rest =>
  obtain ⟨at1, ct1, at2, ct2, rfl, rfl, T1, T2, hX⟩ := hcut
  obtain ⟨b1, off1, hix, hcx, _⟩ := T1.use 22 60 Tryz.underlying22 size32 ct1
  obtain ⟨b2, off2, hiy, hcy, _⟩ := T2.use 22 60 Tryz.underlying22 size32 ct2
  rw [two_length] at hix hcx hiy hcy
  have HIX := Lib.hid hix
  have HCX := Lib.hid hcx
  have HIY := Lib.hid hiy
  have HCY := Lib.hid hcy
  have hBw := hW.trans (hX.mono hW.size)
  have hRw := HRR.out _ hX
  have hsz2 : w.heap.size + 1 + 1 < wc.heap.size := hRw.lt
  have hwz := hBw.size
  clear T1 T2 hix hcx hiy hcy hX HR0 HR1 HRR HY1 HY2 HX HYY HM1 HM2 HP1 HP2
  go_wp2_with (at_make; refine wpList_make_row rfl _ _ _ rfl 60 (.int .u32 0) 4 Tryz.underlying22 info32 rfl _ _ _ _ n n rfl rfl rfl rfl (by omega) (by omega) (by omega) ?_; intro w1 g hg1 hg2 hrow hbel)
  rw [← nums_replicate, ← overTo_zero S (List.replicate n 0)] at hrow
  have hgw : w.heap.size ≤ g := by omega
  have hne : w.heap.size + 1 + 1 ≠ g := by omega
  have hRw1 := hRw.below hbel hRw.lt
  go_loopw [31] (fun i wr => ∃ j : Nat, j ≤ n ∧ i = .int .i64 j ∧ Row wr g 60 (nums .u32 (overTo j S (List.replicate n 0))) ∧ Row wr (w.heap.size + 1 + 1) 24 [.bool false, .slice none 0 0] ∧ Below wc.heap.size wc wr) (fun i _ => n - (intOf i).toNat)
  case atStart => exact ⟨0, by omega, rfl, hrow, hRw1, hbel⟩
  case round =>
    obtain ⟨j, hj, rfl, hr, hR, hB⟩ := hrel
    clear hrow hRw hRw1 hbel
    by_cases hlt : j < n
    · have ix := HIX.out wr .i64 j (by omega) (by omega)
      rw [Int.toNat_natCast] at ix
      have cx := HCX.out wr hB j hlt
      have iy := HIY.out wr .i64 j (by omega) (by omega)
      rw [Int.toNat_natCast] at iy
      have cy := HCY.out wr hB j hlt
      have ixd := HIX.out wr.drew .i64 j (by omega) (by omega)
      have iyd := HIY.out wr.drew .i64 j (by omega) (by omega)
      rw [Int.toNat_natCast] at ixd iyd
      have hcell := hr.cell (i := j) (by rw [overTo_length hSr.out]; simpa using hlt)
      have hfk := hr.free j
      have ig := row_index (P := Tryz.prog) Tryz.underlying22 size32 g n n .i64 (j : Int) j rfl hlt
      have hset := Lib.hid (overTo_set hSr.out (j := j) (by simpa using hlt))
      rw [hSw.out j hlt] at hset
      obtain ⟨d1, hd1⟩ : ∃ d, d = wd (two n x) j := ⟨_, rfl⟩
      obtain ⟨d2, hd2⟩ : ∃ d, d = wd (two n y) j := ⟨_, rfl⟩
      have ld1 : d1 < 4294967296 := by rw [hd1]; exact (two_lim _ _).wd j
      have ld2 : d2 < 4294967296 := by rw [hd2]; exact (two_lim _ _).wd j
      rw [← hd1] at hset cx
      rw [← hd2] at hset cy
      clear hd1 hd2
      rcases hk with rfl | rfl | rfl
      · have eb := u32_and_nat d1 d2 ld1 ld2
        have hset2 : Hid ((overTo j S (List.replicate n 0)).set j (d1 &&& d2) = overTo (j + 1) S (List.replicate n 0)) := Lib.hid hset.out
        clear ld1 ld2 hset
        go_wp2
        go_region
        all_goals
          go_wp2
          go_roundw
        case rel => exact ⟨j + 1, by omega, by go_num, by rw [← hset2.out]; exact (hr.store _ _ _ (by first | rfl | exact eb)).drew, (hR.other (by exact hne) _).drew, (below_store hB (by omega) _).drew⟩
        case measure => simp [intOf]; omega
      · have eb := u32_or_nat d1 d2 ld1 ld2
        have hset2 : Hid ((overTo j S (List.replicate n 0)).set j (d1 ||| d2) = overTo (j + 1) S (List.replicate n 0)) := Lib.hid hset.out
        clear ld1 ld2 hset
        go_wp2
        go_region
        all_goals
          go_wp2
          go_roundw
        case rel => exact ⟨j + 1, by omega, by go_num, by rw [← hset2.out]; exact (hr.store _ _ _ (by first | rfl | exact eb)).drew, (hR.other (by exact hne) _).drew, (below_store hB (by omega) _).drew⟩
        case measure => simp [intOf]; omega
      · have eb := u32_xor_nat d1 d2 ld1 ld2
        have hset2 : Hid ((overTo j S (List.replicate n 0)).set j (d1 ^^^ d2) = overTo (j + 1) S (List.replicate n 0)) := Lib.hid hset.out
        clear ld1 ld2 hset
        go_wp2
        go_region
        all_goals
          go_wp2
          go_roundw
        case rel => exact ⟨j + 1, by omega, by go_num, by rw [← hset2.out]; exact (hr.store _ _ _ (by first | rfl | exact eb)).drew, (hR.other (by exact hne) _).drew, (below_store hB (by omega) _).drew⟩
        case measure => simp [intOf]; omega
    · obtain rfl : j = n := by omega
      rw [overTo_all hSr.out (by rw [hSl.out]; exact Nat.le_refl _)] at hr
      have hBV := hBw.trans (hB.mono hBw.size)
      clear hB hBw HIX HIY HCX HCY
      have hcell := hr.cell (i := N) (by rw [hSl.out]; exact hNn)
      have ig := row_index (P := Tryz.prog) Tryz.underlying22 size32 g j j .i64 (N : Int) N rfl hNn
      obtain ⟨d, hd⟩ : ∃ d, d = wd S N := ⟨_, rfl⟩
      rw [← hd] at hcell
      by_cases hneg : d < 2147483648
      · have dd : decide ((d : Int) < 2147483648) = true := by rw [decide_eq_true_eq]; omega
        have dd' : decide (d < 2147483648) = true := by rw [decide_eq_true_eq]; exact hneg
        have hu := untwo_pos (s := S) (by rw [hSl.out, eN2, ← hd]; exact hneg)
        have hzv : val S = z.natAbs := by rw [Hz.out, hu]; rfl
        have hz0 : 0 ≤ z := by rw [Hz.out, hu]; omega
        have Hl := Lib.hid hSl.out.symm
        have HM := Lib.hid (ref_made wr false (some ⟨g, 0, none⟩) S j j z hr.lay hSm.out Hl.out (by omega) (Nat.le_refl _) hzv ⟨fun h => (by cases h), fun _ => hz0⟩)
        clear hd hneg hu hzv hz0
        go_wp2_with fail
        refine HM.out.mono ?_
        rintro e w4 ⟨u, rfl, hu, hb⟩
        obtain ⟨a, c, rfl, k0, k1, k2, k3, e0, e1, hf⟩ := api_store hR hBV (by omega) hu hb
        go_wp2_with fail
        (try simp only [Exit.inBlock, Exit.then])
        refine bodyPost_ret (v := .agg #[.bool (decide (z < 0)), .slice a (rep z.natAbs).length c]) (by simp [results, Tryz.results16, go_sem, e0, e1]) rfl ?_
        exact ⟨_, rfl, hf.out⟩
      · have dd : decide ((d : Int) < 2147483648) = false := by rw [decide_eq_false_iff_not]; omega
        have dd' : decide (d < 2147483648) = false := by rw [decide_eq_false_iff_not]; exact hneg
        obtain ⟨hu, hua, hul⟩ := untwo_neg (s := S) hSm.out (by rw [hSl.out, eN2, ← hd]; exact hneg)
        rw [← Hz.out] at hu hua hul
        have HU := Lib.hid hua
        have HUL := Lib.hid hul
        clear hd hneg hu hua hul
        go_wp2_with fail
        go_loopw [86] (fun i wr => ∃ i' : Nat, i' ≤ j ∧ i = .int .i64 i' ∧ Row wr g 60 (nums .u32 (invTo i' S)) ∧ Row wr (w.heap.size + 1 + 1) 24 [.bool false, .slice none 0 0] ∧ Below w.heap.size w wr) (fun i _ => j - (intOf i).toNat)
        case atStart => exact ⟨0, by omega, rfl, by rw [invTo_zero]; exact hr, hR, hBV⟩
        case round =>
          obtain ⟨i', hi', rfl, hri, hRi, hBi⟩ := hrel
          clear hcell ig hr hR hBV
          by_cases hlt2 : i' < j
          · have hcell := hri.cell (i := i') (by rw [invTo_length, hSl.out]; exact hlt2)
            rw [wd_invTo _ _ (by rw [hSl.out]; exact hlt2), if_neg (Nat.lt_irrefl _)] at hcell
            have hset := Lib.hid (invTo_set (l := S) (j := i') (by rw [hSl.out]; exact hlt2))
            have hfk := hri.free i'
            have ig := row_index (P := Tryz.prog) Tryz.underlying22 size32 g j j .i64 (i' : Int) i' rfl hlt2
            obtain ⟨x', hx⟩ : ∃ x', x' = wd S i' := ⟨_, rfl⟩
            have hxl : x' < 4294967296 := by rw [hx]; exact hSm.out.wd i'
            rw [← hx] at hcell hset
            have e3 := u32_inv hxl
            obtain ⟨y', hy⟩ : ∃ y', y' = 4294967295 - x' := ⟨_, rfl⟩
            rw [← hy] at e3 hset
            clear hx hxl hy
            go_wp2
            go_roundw
            case rel => exact ⟨i' + 1, by omega, by go_num, by rw [← hset.out]; exact hri.store _ _ _ e3, hRi.other (by exact hne) _, below_store hBi hgw _⟩
            case measure => simp [intOf]; omega
          · obtain rfl : i' = j := by omega
            rw [invTo_all (by rw [hSl.out]; exact Nat.le_refl _)] at hri
            have hIl : Hid (i' = (inv S).length) := Lib.hid (by rw [inv_length, hSl.out])
            have hb1 : Below wr.heap.size wr (wr.alloc (.cells #[.int .u32 1] 60)) := (Below.refl _ _).alloc (Nat.le_refl _) _
            have h1 := row_one wr 60 .u32 1 1 rfl
            go_wp2_with fail
            refine (ref_plus _ (some ⟨g, 0, none⟩) (some ⟨wr.heap.size, 0, none⟩) (inv S) [1] i' 1 i' 1 i' (hri.lay.below hb1) h1 (inv_lim _) (Lim.cons (by decide) Lim.nil) hIl.out rfl (Nat.le_refl _) hn0 (by omega)).mono ?_
            rintro e w3 ⟨a3, n3, c3, zs3, rfl, hn3, hc3, hm3, hl3, hv3, hla3, hb3, hf3⟩
            have hzv : val zs3 = z.natAbs := by rw [hv3, HU.out]; rfl
            have hB3 := hBi.trans ((hb1.trans (hb3.mono hb1.size)).mono hBi.size)
            have hR3 := hRi.below (hb1.trans (hb3.mono hb1.size)) hRi.lt
            have HM := Lib.hid (ref_made w3 true a3 zs3 n3 c3 z hla3 hl3 hn3 (by omega) hc3 hzv ⟨fun _ => by have := HUL.out; omega, fun h => (by cases h)⟩)
            clear hv3 hn3 hl3 hla3 hf3 hzv hri hRi
            go_wp2_with fail
            refine HM.out.mono ?_
            rintro e w4 ⟨u, rfl, hu, hb⟩
            obtain ⟨a, c, rfl, k0, k1, k2, k3, e0, e1, hf⟩ := api_store hR3 hB3 (by omega) hu hb
            go_wp2_with fail
            (try simp only [Exit.inBlock, Exit.then])
            refine bodyPost_ret (v := .agg #[.bool (decide (z < 0)), .slice a (rep z.natAbs).length c]) (by simp [results, Tryz.results16, go_sem, e0, e1]) rfl ?_
            exact ⟨_, rfl, hf.out⟩

end Go.Proofs.YtbffpkmfhkphdaaGreatDoor
