/- The walk of the reference's Sqrt. LargeRules' plain laws: words joined, digits read back. -/
import Derived.Test.YtbffpkmfhkphdaaGreatDoorGX01
import Derived.Test.YtbffpkmfhkphdaaGreatDoorRefShiftC
import Derived.Test.YtbffpkmfhkphdaaGreatDoorDivisorC
import Derived.Deep.DeepCutAuto
import Derived.Test.YtbffpkmfhkphdaaGreatDoorGX03
import Derived.Test.YtbffpkmfhkphdaaGreatDoorGX43
import Derived.Test.YtbffpkmfhkphdaaGreatDoorLParseC
set_option linter.unusedVariables false
set_option linter.unusedSimpArgs false
namespace Go.Proofs.YtbffpkmfhkphdaaGreatDoor
open Go Go.RowKit Limb

theorem ref_order_b (w : World) (a b : Option Addr) (x y n m ca cb : Nat) (ha : Lay .u32 w a (rep x)) (hb : Lay .u32 w b (rep y)) (hn : n = (rep x).length) (hm : m = (rep y).length) (ln : n ≤ 9223372036854775807) (lm : m ≤ 9223372036854775807) :
    Calls Tryz.prog 87 #[.slice a n ca, .slice b m cb] w fun e w' => e = .returned (.int .i64 (cmpI x y)) ∧ Below w.heap.size w w' := by
  have h := ref_order w a b (rep x) (rep y) n m ca cb ha hb (rep_lim _) (rep_lim _) (rep_norm _) (rep_norm _) hn hm ln lm
  rw [val_rep, val_rep] at h
  refine h.mono ?_
  rintro e w' ⟨rfl, q, rfl⟩
  exact ⟨rfl, below_drewN (Below.refl _ _) q⟩
theorem ref_times_b (w : World) (a b : Option Addr) (x y n m ca cb : Nat) (ha : Lay .u32 w a (rep x)) (hb : Lay .u32 w b (rep y)) (hn : n = (rep x).length) (hm : m = (rep y).length) (ln : n ≤ 1073741824) (lm : m ≤ 1073741824) :
    Calls Tryz.prog 89 #[.slice a n ca, .slice b m cb] w fun e w' => ∃ a' n' c', e = .returned (.slice a' n' c') ∧ Hid (Num w' (x * y) a' n' c') ∧ Below w.heap.size w w' := by
  refine (ref_times w a b (rep x) (rep y) n m ca cb ha hb (rep_lim _) (rep_lim _) hn hm (by omega) (by omega)).mono ?_
  rw [val_rep, val_rep]
  rintro e w' ⟨a', c', rfl, h2, h3, h6, h7⟩
  exact ⟨a', _, c', rfl, Lib.hid ⟨rfl, h2, h6⟩, h7⟩
theorem api_num {X : World} {b : Bool} {a : Option Addr} {n c : Nat} {z : Int} (h : ApiV X (.agg #[.bool b, .slice a n c]) z) : Num X z.natAbs a n c := ⟨h.parts.2.1, h.parts.2.2.1, h.parts.2.2.2⟩
theorem cmp_le {x y : Nat} : decide (cmpI x y ≤ 0) = decide (x ≤ y) := by
  unfold cmpI
  rw [decide_eq_decide]
  split
  · constructor <;> intro _ <;> omega
  · split
    · constructor <;> intro _ <;> omega
    · constructor <;> intro h <;> omega
theorem len_pow {j c : Nat} (h : j < 32 * c) : (rep (2 ^ j)).length ≤ c := rep_length_le.2 (by rw [W_two]; exact Nat.pow_lt_pow_right (by decide) h)

set_option maxHeartbeats 6400000 in
set_option maxRecDepth 1000000 in
theorem ref_sqrt (w : World) (v : Value) (x : Int) (hv : ApiV w v x) (lx : (rep x.natAbs).length ≤ 1024) :
    Calls Tryz.prog 26 #[v] w fun e w' => ∃ u, e = .returned u ∧ ApiV w' u (rootN x.natAbs : Nat) ∧ Below w.heap.size w w' := by
  obtain ⟨a1, c1, rfl, hc1, hl1⟩ := hv
  obtain ⟨N, hN⟩ : ∃ N, N = x.natAbs := ⟨_, rfl⟩
  rw [← hN] at lx hc1 hl1 ⊢
  obtain ⟨n1, hn1⟩ : ∃ k, k = (rep N).length := ⟨_, rfl⟩
  obtain ⟨s1, hs1⟩ : ∃ s, s = decide (x < 0) := ⟨_, rfl⟩
  rw [← hs1, ← hn1]
  rw [← hn1] at lx hc1
  obtain ⟨W, hWe, r1, r2, hW, hsz⟩ := rows2 w 24 (.bool s1) (.slice a1 n1 c1) (.bool false) (.slice none 0 0)
  have HWe := Lib.hid hWe; clear hWe
  have HN : Hid (Num W N a1 n1 c1) := Lib.hid ⟨hn1, hc1, hl1.below hW⟩
  have hNb : N < 2 ^ (16 * n1 + 1) * 2 ^ (16 * n1 + 1) := by
    have h1 := rep_len_hi N
    rw [← hn1, W_two] at h1
    rw [← Nat.pow_add]
    exact Nat.lt_of_lt_of_le h1 (Nat.pow_le_pow_right (by decide) (by omega))
  have HNb := Lib.hid hNb
  clear hNb hn1 hs1 hN hc1 hl1
  have k0 := r1.cell_at 1
  simp only [List.getElem?_cons_zero, List.getElem?_cons_succ] at k0
  go_enter Tryz.func26, Tryz.ntmps26
  go_wp2_with fail
  rw [← HWe.out]
  refine (ref_of W 0 (by decide) (by decide)).mono ?_
  rintro e w3 ⟨u, rfl, hu, hb3⟩
  obtain ⟨b0, a0, n0, c0, rfl, -⟩ := hu.open
  obtain ⟨V, hV, r3, hbV, hzV⟩ := rows1 w3 24 (.bool b0) (.slice a0 n0 c0)
  have hWV := hb3.trans (hbV.mono hb3.size)
  have r1V := r1.below hWV r1.lt
  have r2V := r2.below hWV r2.lt
  have HuV := Lib.hid (hu.below hbV)
  have HNV := Lib.hid (HN.out.below hWV)
  have hBV := hW.trans (hWV.mono hW.size)
  have hgs : w.heap.size + 1 < w3.heap.size := by have := hb3.size; omega
  obtain ⟨gs, hgse⟩ : ∃ gs, gs = w3.heap.size := ⟨_, rfl⟩
  rw [← hgse] at r3 hgs
  have k1 := r1V.cell_at 1
  simp only [List.getElem?_cons_zero, List.getElem?_cons_succ] at k1
  rw [hV] at k1
  have HV := Lib.hid hV
  have HGs := Lib.hid hgse

  clear hV hgse hu hb3 hbV hzV k0 r1 r2 hW HN hWV
  go_wp2_with fail
  rw [← HV.out, ← HGs.out]
  clear k1
  go_wp2_with fail
  go_loopw [4] (fun iv wr => ∃ (i s : Nat) (bs : Bool) (az : Option Addr) (ns cs : Nat), i ≤ 16 * n1 + 1 ∧ iv = .int .i64 ((i : Int) - 1) ∧ Row wr gs 24 [.bool bs, .slice az ns cs] ∧ Hid (ApiV wr (.agg #[.bool bs, .slice az ns cs]) (s : Nat)) ∧ Row wr w.heap.size 24 [.bool s1, .slice a1 n1 c1] ∧ Row wr (w.heap.size + 1) 24 [.bool false, .slice none 0 0] ∧
    Hid (Num wr N a1 n1 c1) ∧ Hid (s * s ≤ N ∧ N < (s + 2 ^ i) * (s + 2 ^ i)) ∧ Below w.heap.size w wr) (fun iv _ => (intOf iv + 1).toNat)
  case atStart => exact ⟨16 * n1 + 1, 0, b0, a0, n0, c0, Nat.le_refl _, by rw [show (((16 * n1 + 1 : Nat) : Int) - 1) = 16 * (n1 : Int) by omega], r3, Lib.hid HuV.out, r1V, r2V, Lib.hid HNV.out, Lib.hid ⟨Nat.zero_le _, by rw [Nat.zero_add]; exact HNb.out⟩, hBV⟩
  case round =>
    obtain ⟨i, s, bs, as_, ns, cs, hi, rfl, rs, Hs, ra, rr, HNr, Hinv, hB⟩ := hrel
    clear r3 r1V r2V HuV HNV hBV HNb
    by_cases hi0 : i = 0
    · subst hi0
      have hroot : Hid (s = rootN N) := Lib.hid (by
        have h := Hinv.out
        rw [Nat.pow_zero] at h
        exact IsRoot.unique h (rootN_is N))
      have j0 := rs.cell_at 0
      have j1 := rs.cell_at 1
      have k0 := rr.cell_at 0
      have k1 := rr.cell_at 1
      have k2 := rr.free 0
      have k3 := rr.free 1
      simp only [List.getElem?_cons_zero, List.getElem?_cons_succ] at j0 j1 k0 k1
      have e0 : (wr.setCell ⟨w.heap.size + 1, 0, none⟩ (.bool bs)).cell? ⟨w.heap.size + 1, 0, none⟩ = some (.bool bs) := (rr.store_any 0 _).cell_at 0
      have e1 : ((wr.setCell ⟨w.heap.size + 1, 0, none⟩ (.bool bs)).setCell ⟨w.heap.size + 1, 1, none⟩ (.slice as_ ns cs)).cell? ⟨w.heap.size + 1, 1, none⟩ = some (.slice as_ ns cs) := ((rr.store_any 0 _).store_any 1 _).cell_at 1
      have HB := Lib.hid (below_store (below_store hB (g := w.heap.size + 1) (i := 0) (by omega) (.bool bs)) (g := w.heap.size + 1) (i := 1) (by omega) (.slice as_ ns cs))
      have HF := Lib.hid (ApiV.to Hs.out (fun _ _ hl => hl.pair rr (.bool bs) (.slice as_ ns cs)))
      clear Hinv Hs HNr ra
      go_wp2
      (try simp only [Exit.inBlock, Exit.then])
      refine bodyPost_ret (v := .agg #[.bool bs, .slice as_ ns cs]) (by simp [results, Tryz.results26, go_sem, e0, e1]) rfl ?_
      rw [← hroot.out]
      exact ⟨_, rfl, HF.out, HB.out⟩
    · obtain ⟨j, rfl⟩ : ∃ j, i = j + 1 := ⟨i - 1, by omega⟩
      have ej : ((j + 1 : Nat) : Int) - 1 = (j : Int) := by omega
      rw [ej]
      have hj : j ≤ 16 * n1 := by omega
      have hjb : j ≤ 1048576 := by omega
      have Hstep := Lib.hid (bit_root (p := 2 ^ j) Hinv.out.1 (by have h := Hinv.out.2; rwa [Nat.pow_succ, Nat.mul_comm (2 ^ j)] at h))
      have ls : (rep ((s : Nat) : Int).natAbs).length ≤ 1073741824 := by
        rw [Int.natAbs_natCast]
        refine Nat.le_trans (rep_mono (show s ≤ N from ?_)) (by rw [← HNr.out.1]; omega)
        have h := Hinv.out.1
        rcases Nat.eq_zero_or_pos s with h0 | h0
        · omega
        · have : s * 1 ≤ s * s := Nat.mul_le_mul_left _ h0
          omega
      have lp : (rep ((2 : Int) ^ j).natAbs).length ≤ 1073741824 := by
        rw [Int.natAbs_pow]
        exact Nat.le_trans (len_pow (c := 1048576) (by omega)) (by decide)
      have HLs := Lib.hid ls
      have HLp := Lib.hid lp
      have HBs := Lib.hid (fun X (h : Below wr.heap.size wr X) => (show X.cell? ⟨gs, 0, none⟩ = some (.bool bs) ∧ X.cell? ⟨gs, 1, none⟩ = some (.slice as_ ns cs) from ⟨(rs.below h rs.lt).cell_at 0, (rs.below h rs.lt).cell_at 1⟩))
      have HSs := Lib.hid (fun X (h : Below wr.heap.size wr X) => Hs.out.below h)
      obtain ⟨T, hT⟩ : ∃ T, T = s + 2 ^ j := ⟨_, rfl⟩
      have HT := Lib.hid (show ((s : Nat) : Int) + (2 : Int) ^ j = ((T : Nat) : Int) by rw [hT, Int.natCast_add, Int.natCast_pow]; rfl)
      have lT : (rep T).length ≤ 1048577 := by
        rw [hT]
        refine sum_len (c := 1048576) ?_ (len_pow (by omega))
        refine Nat.le_trans (rep_mono (show s ≤ N from ?_)) (by rw [← HNr.out.1]; omega)
        have h := Hinv.out.1
        rcases Nat.eq_zero_or_pos s with h0 | h0
        · omega
        · have : s * 1 ≤ s * s := Nat.mul_le_mul_left _ h0
          omega
      rw [← hT] at Hstep
      have HTe := Lib.hid hT
      have HlT := Lib.hid lT
      clear hT ls lp lT hi0 hi Hinv ej
      go_upto_region 5 with fail
      go_cut [5] (fun s5 wx => BoxAt wr (T : Nat) s5 wx)
      case first =>
        clear ra rr rs hB
        have hX : Below wr.heap.size wr wr.drew := (Below.refl _ _).drew
        refine wp_region_held (S := fun X => Below wr.heap.size wr X) (by kernel_rfl) ?_
        refine wpAnyH_take_at (i := 0) (v := .agg #[.bool bs, .slice as_ ns cs]) 15 rfl rfl (by kernel_rfl) (by kernel_rfl) (by kernel_rfl) (fun _ _ _ h => h) (.inl ⟨rfl, fun X hX => by obtain ⟨i0, i1⟩ := HBs.out X hX; go_simp⟩) hX ?_
        simp only [Act.put, List.setIfInBounds_toArray, List.set_cons_zero, List.set_cons_succ]
        refine wpAnyH_take_at (i := 1) (v := .int .i64 (j : Nat)) 16 rfl rfl (by kernel_rfl) (by kernel_rfl) (by kernel_rfl) (fun _ _ _ h => h) (.inl ⟨rfl, fun X hX => by go_simp⟩) hX ?_
        simp only [Act.put, List.setIfInBounds_toArray, List.set_cons_zero, List.set_cons_succ]
        refine wpAnyH_all (rs := [2, 4]) (by kernel_rfl) (by decide) (fun i hi => ?_)
        simp only [List.mem_cons, List.not_mem_nil, or_false] at hi
        rcases hi with rfl | rfl
        · unfold wpOp
          go_simp
          refine .inl ((ref_power _ j hjb).mono ?_)
          rintro e X1 ⟨u17, rfl, hu17, hb⟩
          replace hX := hX.trans (hb.mono hX.size)
          clear hb
          replace hu17 := Lib.hid hu17
          refine ⟨hX, ?_⟩
          refine wpAnyH_all (rs := [3, 4]) (by kernel_rfl) (by decide) (fun i hi => ?_)
          simp only [List.mem_cons, List.not_mem_nil, or_false] at hi
          rcases hi with rfl | rfl
          · unfold wpOp
            go_simp
            refine .inl ((ref_add _ _ _ ((s : Nat) : Int) ((2 : Int) ^ j) (HSs.out _ hX) hu17.out HLs.out HLp.out).mono ?_)
            rintro e X2 ⟨u18, rfl, hu18, hb⟩
            replace hu17 := Lib.hid (hu17.out.below hb)
            replace hX := hX.trans (hb.mono hX.size)
            clear hb
            rw [HT.out] at hu18
            obtain ⟨b18, a18, n18, c18, rfl, -⟩ := id hu18.open
            replace hu18 := Lib.hid hu18
            clear hu17
            refine ⟨hX, ?_⟩
            refine wpAnyH_all (rs := [4]) (by kernel_rfl) (by decide) (fun i hi => ?_)
            rw [List.mem_singleton] at hi
            subst hi
            refine wpOp_alloc_int (o := _) rfl rfl rfl (fun X3 g5 rg5 hb hg5 hlt => ?_)
            clear hlt
            replace hg5 := Nat.le_trans hX.size hg5
            replace hu18 := Lib.hid (hu18.out.below hb)
            replace hX := hX.trans (hb.mono hX.size)
            clear hb
            refine ⟨hX, ?_⟩
            simp only [Act.put, List.setIfInBounds_toArray, List.set_cons_zero, List.set_cons_succ]
            refine wpAnyH_all (rs := [5]) (by kernel_rfl) (by decide) (fun i hi => ?_)
            rw [List.mem_singleton] at hi
            subst hi
            have k0 := rg5.cell_at 0
            have k1 := rg5.cell_at 1
            have f0 := rg5.free 0
            have f1 := rg5.free 1
            simp only [List.getElem?_cons_zero, List.getElem?_cons_succ] at k0 k1
            unfold wpOp
            go_simp
            have HF := Lib.hid (box_store (U := wr) rg5 hg5 hu18.out hX)
            replace hX := below_store (below_store hX hg5 (i := 0) (.bool b18)) hg5 (i := 1) (.slice a18 n18 c18)
            clear k0 k1 f0 f1 rg5 hu18
            refine .inl ⟨hX, ?_⟩
            refine wpAnyH_done (by kernel_rfl) ?_ _
            go_wp2_with fail
            go_meet
            exact HF.out
          · refine wpOp_alloc_int (o := _) rfl rfl rfl (fun X5 g5 rg5 hb hg5 hlt => ?_)
            clear hlt
            replace hg5 := Nat.le_trans hX.size hg5
            replace hu17 := Lib.hid (hu17.out.below hb)
            replace hX := hX.trans (hb.mono hX.size)
            clear hb
            refine ⟨hX, ?_⟩
            simp only [Act.put, List.setIfInBounds_toArray, List.set_cons_zero, List.set_cons_succ]
            refine wpAnyH_all (rs := [3]) (by kernel_rfl) (by decide) (fun i hi => ?_)
            rw [List.mem_singleton] at hi
            subst hi
            unfold wpOp
            go_simp
            refine .inl ((ref_add _ _ _ ((s : Nat) : Int) ((2 : Int) ^ j) (HSs.out _ hX) hu17.out HLs.out HLp.out).mono ?_)
            rintro e X6 ⟨u18, rfl, hu18, hb⟩
            replace hu17 := Lib.hid (hu17.out.below hb)
            replace rg5 := rg5.below hb rg5.lt
            replace hX := hX.trans (hb.mono hX.size)
            clear hb
            rw [HT.out] at hu18
            obtain ⟨b18, a18, n18, c18, rfl, -⟩ := id hu18.open
            replace hu18 := Lib.hid hu18
            clear hu17
            refine ⟨hX, ?_⟩
            refine wpAnyH_all (rs := [5]) (by kernel_rfl) (by decide) (fun i hi => ?_)
            rw [List.mem_singleton] at hi
            subst hi
            have k0 := rg5.cell_at 0
            have k1 := rg5.cell_at 1
            have f0 := rg5.free 0
            have f1 := rg5.free 1
            simp only [List.getElem?_cons_zero, List.getElem?_cons_succ] at k0 k1
            unfold wpOp
            go_simp
            have HF := Lib.hid (box_store (U := wr) rg5 hg5 hu18.out hX)
            replace hX := below_store (below_store hX hg5 (i := 0) (.bool b18)) hg5 (i := 1) (.slice a18 n18 c18)
            clear k0 k1 f0 f1 rg5 hu18
            refine .inl ⟨hX, ?_⟩
            refine wpAnyH_done (by kernel_rfl) ?_ _
            go_wp2_with fail
            go_meet
            exact HF.out
        · refine wpOp_alloc_int (o := _) rfl rfl rfl (fun X8 g5 rg5 hb hg5 hlt => ?_)
          clear hlt
          replace hg5 := Nat.le_trans hX.size hg5
          replace hX := hX.trans (hb.mono hX.size)
          clear hb
          refine ⟨hX, ?_⟩
          simp only [Act.put, List.setIfInBounds_toArray, List.set_cons_zero, List.set_cons_succ]
          refine wpAnyH_all (rs := [2]) (by kernel_rfl) (by decide) (fun i hi => ?_)
          rw [List.mem_singleton] at hi
          subst hi
          unfold wpOp
          go_simp
          refine .inl ((ref_power _ j hjb).mono ?_)
          rintro e X9 ⟨u17, rfl, hu17, hb⟩
          replace rg5 := rg5.below hb rg5.lt
          replace hX := hX.trans (hb.mono hX.size)
          clear hb
          replace hu17 := Lib.hid hu17
          refine ⟨hX, ?_⟩
          refine wpAnyH_all (rs := [3]) (by kernel_rfl) (by decide) (fun i hi => ?_)
          rw [List.mem_singleton] at hi
          subst hi
          unfold wpOp
          go_simp
          refine .inl ((ref_add _ _ _ ((s : Nat) : Int) ((2 : Int) ^ j) (HSs.out _ hX) hu17.out HLs.out HLp.out).mono ?_)
          rintro e X10 ⟨u18, rfl, hu18, hb⟩
          replace hu17 := Lib.hid (hu17.out.below hb)
          replace rg5 := rg5.below hb rg5.lt
          replace hX := hX.trans (hb.mono hX.size)
          clear hb
          rw [HT.out] at hu18
          obtain ⟨b18, a18, n18, c18, rfl, -⟩ := id hu18.open
          replace hu18 := Lib.hid hu18
          clear hu17
          refine ⟨hX, ?_⟩
          refine wpAnyH_all (rs := [5]) (by kernel_rfl) (by decide) (fun i hi => ?_)
          rw [List.mem_singleton] at hi
          subst hi
          have k0 := rg5.cell_at 0
          have k1 := rg5.cell_at 1
          have f0 := rg5.free 0
          have f1 := rg5.free 1
          simp only [List.getElem?_cons_zero, List.getElem?_cons_succ] at k0 k1
          unfold wpOp
          go_simp
          have HF := Lib.hid (box_store (U := wr) rg5 hg5 hu18.out hX)
          replace hX := below_store (below_store hX hg5 (i := 0) (.bool b18)) hg5 (i := 1) (.slice a18 n18 c18)
          clear k0 k1 f0 f1 rg5 hu18
          refine .inl ⟨hX, ?_⟩
          refine wpAnyH_done (by kernel_rfl) ?_ _
          go_wp2_with fail
          go_meet
          exact HF.out
      case rest =>
      obtain ⟨g5, b5, a5, n5, c5, rfl, hg5, r5, hA5, hX⟩ := hcut
      have hN5 := api_num hA5
      rw [Int.natAbs_natCast] at hN5
      have H5 := Lib.hid hN5
      have ra5 := ra.below hX ra.lt
      have rr5 := rr.below hX rr.lt
      have rs5 := rs.below hX rs.lt
      have HN5 := Lib.hid (HNr.out.below hX)
      have Hs5 := Lib.hid (Hs.out.below hX)
      have hB5 := hB.trans (hX.mono hB.size)
      have HA5 := Lib.hid hA5
      have hg5s : g5 ≠ gs := by have := rs.lt; omega
      have hgsr : gs ≠ w.heap.size + 1 := by omega
      have hgsa : gs ≠ w.heap.size := by omega
      have hgs0 : w.heap.size ≤ gs := by omega
      clear ra rr rs hB hX hA5 hN5 HBs HSs HNr Hs hg5 HLs HLp HT
      obtain ⟨Y, hY⟩ : ∃ Y, Y = wc := ⟨_, rfl⟩
      rw [← hY] at r5 ra5 rr5 rs5 HN5 Hs5 hB5 HA5 H5 ⊢
      clear hY
      have HR5 := Lib.hid (fun X (h : Below Y.heap.size Y X) => show X.cell? ⟨g5, 1, none⟩ = some (.slice a5 n5 c5) from (r5.below h r5.lt).cell_at 1)
      have HRa := Lib.hid (fun X (h : Below Y.heap.size Y X) => show X.cell? ⟨w.heap.size, 1, none⟩ = some (.slice a1 n1 c1) from (ra5.below h ra5.lt).cell_at 1)
      have HQ5 := Lib.hid (fun X (h : Below Y.heap.size Y X) => H5.out.below h)
      have HQN := Lib.hid (fun X (h : Below Y.heap.size Y X) => HN5.out.below h)
      have l5 : n5 ≤ 1048577 := by rw [H5.out.1]; exact HlT.out
      have HTT := Lib.hid (show (rep (T * T)).length ≤ 9223372036854775807 from Nat.le_trans (rep_length_le.2 (show T * T < Limb.W (1048577 + 1048577) from by
        have h1 := rep_length_le.1 HlT.out
        rw [W_add]; exact Nat.mul_lt_mul'' h1 h1)) (by decide))
      go_upto_region 6 with fail
      go_cut [27] (fun s27 wx => s27 = .bool (decide (T * T ≤ N)) ∧ Below Y.heap.size Y wx)
      case first =>
        clear r5 ra5 rr5 rs5 hB5
        have hX : Below Y.heap.size Y Y.drew := (Below.refl _ _).drew
        refine wp_region_held (S := fun X => Below Y.heap.size Y X) (by kernel_rfl) ?_
        refine wpAnyH_take_at (i := 0) (v := .pointer (some ⟨g5, 1, none⟩)) 19 rfl rfl (by kernel_rfl) (by kernel_rfl) (by kernel_rfl) (fun _ _ _ h => h) (.inl ⟨rfl, fun X hX => by go_simp⟩) hX ?_
        simp only [Act.put, List.setIfInBounds_toArray, List.set_cons_zero, List.set_cons_succ]
        refine wpAnyH_take_at (i := 1) (v := .slice a5 n5 c5) 20 rfl rfl (by kernel_rfl) (by kernel_rfl) (by kernel_rfl) (fun _ _ _ h => h) (.inl ⟨rfl, fun X hX => by have i1 := HR5.out X hX; go_simp⟩) hX ?_
        simp only [Act.put, List.setIfInBounds_toArray, List.set_cons_zero, List.set_cons_succ]
        refine wpAnyH_take_at (i := 2) (v := .pointer (some ⟨g5, 1, none⟩)) 21 rfl rfl (by kernel_rfl) (by kernel_rfl) (by kernel_rfl) (fun _ _ _ h => h) (.inl ⟨rfl, fun X hX => by go_simp⟩) hX ?_
        simp only [Act.put, List.setIfInBounds_toArray, List.set_cons_zero, List.set_cons_succ]
        refine wpAnyH_take_at (i := 3) (v := .slice a5 n5 c5) 22 rfl rfl (by kernel_rfl) (by kernel_rfl) (by kernel_rfl) (fun _ _ _ h => h) (.inl ⟨rfl, fun X hX => by have i1 := HR5.out X hX; go_simp⟩) hX ?_
        simp only [Act.put, List.setIfInBounds_toArray, List.set_cons_zero, List.set_cons_succ]
        refine wpAnyH_take_at (i := 5) (v := .pointer (some ⟨w.heap.size, 1, none⟩)) 24 rfl rfl (by kernel_rfl) (by kernel_rfl) (by kernel_rfl) (fun _ _ _ h => h) (.inl ⟨rfl, fun X hX => by go_simp⟩) hX ?_
        simp only [Act.put, List.setIfInBounds_toArray, List.set_cons_zero, List.set_cons_succ]
        refine wpAnyH_take_at (i := 6) (v := .slice a1 n1 c1) 25 rfl rfl (by kernel_rfl) (by kernel_rfl) (by kernel_rfl) (fun _ _ _ h => h) (.inl ⟨rfl, fun X hX => by have i1 := HRa.out X hX; go_simp⟩) hX ?_
        simp only [Act.put, List.setIfInBounds_toArray, List.set_cons_zero, List.set_cons_succ]
        refine wpAnyH_all (rs := [4]) (by kernel_rfl) (by decide) (fun i hi => ?_)
        rw [List.mem_singleton] at hi
        subst hi
        unfold wpOp
        go_simp
        refine .inl ((ref_times_b _ a5 a5 T T n5 n5 c5 c5 (HQ5.out _ hX).2.2 (HQ5.out _ hX).2.2 (HQ5.out _ hX).1 (HQ5.out _ hX).1 (by omega) (by omega)).mono ?_)
        rintro e X1 ⟨atx, nt, ct, rfl, hnt, hb⟩
        replace hX := hX.trans (hb.mono hX.size)
        clear hb
        refine ⟨hX, ?_⟩
        refine wpAnyH_all (rs := [7]) (by kernel_rfl) (by decide) (fun i hi => ?_)
        rw [List.mem_singleton] at hi
        subst hi
        unfold wpOp
        go_simp
        refine .inl ((ref_order_b _ atx a1 (T * T) N nt n1 ct c1 hnt.out.2.2 (HQN.out _ hX).2.2 hnt.out.1 (HQN.out _ hX).1 (by rw [hnt.out.1]; exact HTT.out) (by omega)).mono ?_)
        rintro e X2 ⟨rfl, hb⟩
        replace hX := hX.trans (hb.mono hX.size)
        clear hb
        refine ⟨hX, ?_⟩
        refine wpAnyH_take_at (i := 8) (v := .bool (decide (cmpI (T * T) N ≤ 0))) 27 rfl rfl (by kernel_rfl) (by kernel_rfl) (by kernel_rfl) (fun _ _ _ h => h) (.inl ⟨rfl, fun X hX => by go_simp⟩) hX ?_
        simp only [Act.put, List.setIfInBounds_toArray, List.set_cons_zero, List.set_cons_succ]
        refine wpAnyH_done (by kernel_rfl) ?_ _
        rw [cmp_le]
        go_wp2_with fail
        go_meet
        exact ⟨rfl, hX⟩
      case rest =>
      obtain ⟨rfl, hX⟩ := hcut
      replace r5 := r5.below hX r5.lt
      replace ra5 := ra5.below hX ra5.lt
      replace rr5 := rr5.below hX rr5.lt
      replace rs5 := rs5.below hX rs5.lt
      replace HN5 := Lib.hid (HN5.out.below hX)
      replace Hs5 := Lib.hid (Hs5.out.below hX)
      replace HA5 := Lib.hid (HA5.out.below hX)
      replace hB5 := hB5.trans (hX.mono hB5.size)
      clear hX HR5 HRa HQ5 HQN H5 HTT HlT
      have hj1 : j ≤ 16 * n1 + 1 := by omega
      by_cases hle : T * T ≤ N
      · have d1 : decide (T * T ≤ N) = true := decide_eq_true hle
        have Hinv2 := Lib.hid (Hstep.out.1 hle)
        rw [d1]
        have j0 := r5.cell_at 0
        have j1 := r5.cell_at 1
        have k0 := rs5.cell_at 0
        have k1 := rs5.cell_at 1
        have k2 := rs5.free 0
        have k3 := rs5.free 1
        simp only [List.getElem?_cons_zero, List.getElem?_cons_succ] at j0 j1 k0 k1
        have rs6 := (rs5.store_any 0 (.bool b5)).store_any 1 (.slice a5 n5 c5)
        have ra6 := (ra5.other (a := ⟨gs, 0, none⟩) (by exact Ne.symm hgsa) (.bool b5)).other (a := ⟨gs, 1, none⟩) (by exact Ne.symm hgsa) (.slice a5 n5 c5)
        have rr6 := (rr5.other (a := ⟨gs, 0, none⟩) (by exact Ne.symm hgsr) (.bool b5)).other (a := ⟨gs, 1, none⟩) (by exact Ne.symm hgsr) (.slice a5 n5 c5)
        have HA6 := Lib.hid (ApiV.to HA5.out (fun _ _ hl => hl.pair rs5 (.bool b5) (.slice a5 n5 c5)))
        have HN6 : Hid (Num _ N a1 n1 c1) := Lib.hid ⟨HN5.out.1, HN5.out.2.1, HN5.out.2.2.pair rs5 (.bool b5) (.slice a5 n5 c5)⟩
        have hB6 := below_store (below_store hB5 (g := gs) (i := 0) hgs0 (.bool b5)) (g := gs) (i := 1) hgs0 (.slice a5 n5 c5)
        clear r5 rs5 ra5 rr5 HA5 HN5 Hs5 hB5 Hstep hle d1
        go_wp2
        go_roundw
        case rel => exact ⟨j, T, b5, a5, n5, c5, hj1, by first | rfl | (congr 1; omega), rs6, Lib.hid HA6.out, ra6, rr6, Lib.hid HN6.out, Lib.hid Hinv2.out, hB6⟩
        case measure => simp [intOf] <;> omega
      · have d1 : decide (T * T ≤ N) = false := decide_eq_false hle
        have Hinv2 := Lib.hid (Hstep.out.2 hle)
        rw [d1]
        clear Hstep hle d1 r5 HA5
        go_wp2
        go_roundw
        case rel => exact ⟨j, s, bs, as_, ns, cs, hj1, by first | rfl | (congr 1; omega), rs5, Lib.hid Hs5.out, ra5, rr5, Lib.hid HN5.out, Lib.hid (by have h := Hinv2.out; rw [HTe.out] at h; exact h), hB5⟩
        case measure => simp [intOf] <;> omega

end Go.Proofs.YtbffpkmfhkphdaaGreatDoor

namespace Go.Proofs.YtbffpkmfhkphdaaGreatDoor
open Go Go.RowKit Limb

theorem and_or (a : Nat) : ∀ b : Nat, (a &&& b) + (a ||| b) = a + b := by
  induction a using Nat.strongRecOn with
  | ind a ih =>
    intro b
    by_cases ha : a = 0
    · subst ha; rw [Nat.zero_and, Nat.zero_or]
    · have h := ih (a / 2) (by omega) (b / 2)
      have h1 : (a &&& b) / 2 = a / 2 &&& b / 2 := Nat.and_div_two
      have h2 : (a ||| b) / 2 = a / 2 ||| b / 2 := Nat.or_div_two
      have h3 : (a &&& b) % 2 = (a % 2) &&& (b % 2) := Nat.and_mod_two_pow (n := 1)
      have h4 : (a ||| b) % 2 = (a % 2) ||| (b % 2) := Nat.or_mod_two_pow (n := 1)
      rw [← h1, ← h2] at h
      have t1 : (0 : Nat) &&& 0 = 0 ∧ (0 : Nat) &&& 1 = 0 ∧ (1 : Nat) &&& 0 = 0 ∧ (1 : Nat) &&& 1 = 1 := by decide
      have t2 : (0 : Nat) ||| 0 = 0 ∧ (0 : Nat) ||| 1 = 1 ∧ (1 : Nat) ||| 0 = 1 ∧ (1 : Nat) ||| 1 = 1 := by decide
      have t3 : (0 : Nat) ^^^ 0 = 0 ∧ (0 : Nat) ^^^ 1 = 1 ∧ (1 : Nat) ^^^ 0 = 1 ∧ (1 : Nat) ^^^ 1 = 0 := by decide
      obtain ⟨a1, a2, a3, a4⟩ := t1
      obtain ⟨b1, b2, b3, b4⟩ := t2
      obtain ⟨c1, c2, c3, c4⟩ := t3
      rcases Nat.mod_two_eq_zero_or_one a with e | e <;> rcases Nat.mod_two_eq_zero_or_one b with f | f <;> rw [e, f] at h3 h4 <;> omega
theorem and_xor (a : Nat) : ∀ b : Nat, (a &&& b) + (a ^^^ b) = (a ||| b) := by
  induction a using Nat.strongRecOn with
  | ind a ih =>
    intro b
    by_cases ha : a = 0
    · subst ha; rw [Nat.zero_and, Nat.zero_or, Nat.zero_xor, Nat.zero_add]
    · have h := ih (a / 2) (by omega) (b / 2)
      have h1 : (a &&& b) / 2 = a / 2 &&& b / 2 := Nat.and_div_two
      have h2 : (a ||| b) / 2 = a / 2 ||| b / 2 := Nat.or_div_two
      have h5 : (a ^^^ b) / 2 = a / 2 ^^^ b / 2 := Nat.xor_div_two
      have h3 : (a &&& b) % 2 = (a % 2) &&& (b % 2) := Nat.and_mod_two_pow (n := 1)
      have h4 : (a ||| b) % 2 = (a % 2) ||| (b % 2) := Nat.or_mod_two_pow (n := 1)
      have h6 : (a ^^^ b) % 2 = (a % 2) ^^^ (b % 2) := Nat.xor_mod_two_pow (n := 1)
      rw [← h1, ← h2, ← h5] at h
      have t1 : (0 : Nat) &&& 0 = 0 ∧ (0 : Nat) &&& 1 = 0 ∧ (1 : Nat) &&& 0 = 0 ∧ (1 : Nat) &&& 1 = 1 := by decide
      have t2 : (0 : Nat) ||| 0 = 0 ∧ (0 : Nat) ||| 1 = 1 ∧ (1 : Nat) ||| 0 = 1 ∧ (1 : Nat) ||| 1 = 1 := by decide
      have t3 : (0 : Nat) ^^^ 0 = 0 ∧ (0 : Nat) ^^^ 1 = 1 ∧ (1 : Nat) ^^^ 0 = 1 ∧ (1 : Nat) ^^^ 1 = 0 := by decide
      obtain ⟨a1, a2, a3, a4⟩ := t1
      obtain ⟨b1, b2, b3, b4⟩ := t2
      obtain ⟨c1, c2, c3, c4⟩ := t3
      rcases Nat.mod_two_eq_zero_or_one a with e | e <;> rcases Nat.mod_two_eq_zero_or_one b with f | f <;> rw [e, f] at h3 h4 h6 <;> omega

theorem val_and_or : ∀ (xs ys : List Nat), xs.length = ys.length → val (bjoin 1 xs ys) + val (bjoin 2 xs ys) = val xs + val ys
  | [], [], _ => rfl
  | [], _ :: _, h => by simp at h
  | _ :: _, [], h => by simp at h
  | x :: xs, y :: ys, h => by
    have ih := val_and_or xs ys (by simpa using h)
    have e := and_or x y
    show ((x &&& y) + 4294967296 * val (bjoin 1 xs ys)) + ((x ||| y) + 4294967296 * val (bjoin 2 xs ys)) = (x + 4294967296 * val xs) + (y + 4294967296 * val ys)
    omega
theorem val_and_xor : ∀ (xs ys : List Nat), xs.length = ys.length → val (bjoin 1 xs ys) + val (bjoin 3 xs ys) = val (bjoin 2 xs ys)
  | [], [], _ => rfl
  | [], _ :: _, h => by simp at h
  | _ :: _, [], h => by simp at h
  | x :: xs, y :: ys, h => by
    have ih := val_and_xor xs ys (by simpa using h)
    have e := and_xor x y
    show ((x &&& y) + 4294967296 * val (bjoin 1 xs ys)) + ((x ^^^ y) + 4294967296 * val (bjoin 3 xs ys)) = ((x ||| y) + 4294967296 * val (bjoin 2 xs ys))
    omega

theorem sign_bit {x : Nat} (h : x < 4294967296) : x.testBit 31 = decide (2147483648 ≤ x) := by
  rw [Nat.testBit_eq_decide_div_mod_eq]
  refine decide_eq_decide.2 ?_
  omega
/-- The sign of a list of words: 1 or 0. -/
def sg (s : List Nat) : Nat := if wd s (s.length - 1) < 2147483648 then 0 else 1
theorem untwo_sg (s : List Nat) : untwo s = (val s : Int) - ((W s.length : Nat) : Int) * (sg s : Nat) := by
  unfold untwo sg
  split
  · simp
  · simp
theorem sg_bit {s : List Nat} (h : Lim s) : sg s = ((wd s (s.length - 1)).testBit 31).toNat := by
  rw [sign_bit (h.wd _)]
  unfold sg
  by_cases h1 : wd s (s.length - 1) < 2147483648
  · rw [if_pos h1, decide_eq_false (by omega)]; rfl
  · rw [if_neg h1, decide_eq_true (by omega)]; rfl
theorem sg_join (op : Nat) {xs ys : List Nat} (h : xs.length = ys.length) (h0 : 0 < xs.length) (hx : Lim xs) (hy : Lim ys) :
    sg (bjoin op xs ys) = ((bop op (wd xs (xs.length - 1)) (wd ys (xs.length - 1))).testBit 31).toNat := by
  rw [sg_bit (bjoin_lim hx hy), bjoin_length h, wd_bjoin (by omega) (by omega)]
theorem join_sum {xs ys : List Nat} (h : xs.length = ys.length) (h0 : 0 < xs.length) (hx : Lim xs) (hy : Lim ys) :
    untwo (bjoin 1 xs ys) + untwo (bjoin 2 xs ys) = untwo xs + untwo ys ∧ untwo (bjoin 2 xs ys) - untwo (bjoin 1 xs ys) = untwo (bjoin 3 xs ys) := by
  have e1 := val_and_or xs ys h
  have e2 := val_and_xor xs ys h
  have a1 : sg (bjoin 1 xs ys) = _ := sg_join 1 h h0 hx hy
  have a2 : sg (bjoin 2 xs ys) = _ := sg_join 2 h h0 hx hy
  have a3 : sg (bjoin 3 xs ys) = _ := sg_join 3 h h0 hx hy
  have ax := sg_bit hx
  have ay := sg_bit hy
  rw [← h] at ay
  rw [untwo_sg, untwo_sg, untwo_sg, untwo_sg, untwo_sg, bjoin_length h, bjoin_length h, bjoin_length h, ← h]
  have b1 : bop 1 (wd xs (xs.length - 1)) (wd ys (xs.length - 1)) = wd xs (xs.length - 1) &&& wd ys (xs.length - 1) := rfl
  have b2 : bop 2 (wd xs (xs.length - 1)) (wd ys (xs.length - 1)) = wd xs (xs.length - 1) ||| wd ys (xs.length - 1) := rfl
  have b3 : bop 3 (wd xs (xs.length - 1)) (wd ys (xs.length - 1)) = wd xs (xs.length - 1) ^^^ wd ys (xs.length - 1) := rfl
  rw [b1, Nat.testBit_and] at a1
  rw [b2, Nat.testBit_or] at a2
  rw [b3, Nat.testBit_xor] at a3
  generalize (wd xs (xs.length - 1)).testBit 31 = s at *
  generalize (wd ys (xs.length - 1)).testBit 31 = t at *
  rw [a1, a2, a3, ax, ay]
  generalize W xs.length = w
  cases s <;> cases t <;> simp <;> omega

theorem untwo_two {n : Nat} {x : Int} (hn : 1 ≤ n) (h : x.natAbs < W (n - 1)) : untwo (two n x) = x := by
  obtain ⟨k, rfl⟩ : ∃ k, n = k + 1 := ⟨n - 1, by omega⟩
  rw [Nat.add_sub_cancel] at h
  have hl := two_length (k + 1) x
  have hlim := two_lim (k + 1) x
  have hv := val_two' (k + 1) x
  have hw := W_succ k
  have hp := W_pos k
  have ht := val_take_succ (two (k + 1) x) k
  rw [List.take_of_length_le (by omega)] at ht
  have hlt : val ((two (k + 1) x).take k) < W k := by
    have := val_lt (hlim.take k)
    rwa [List.length_take, hl, show min k (k + 1) = k by omega] at this
  unfold untwo
  rw [hl, Nat.add_sub_cancel]
  generalize hq : wd (two (k + 1) x) k = q at *
  generalize val ((two (k + 1) x).take k) = r at *
  generalize val (two (k + 1) x) = v at *
  have hq2 : q < 4294967296 := by rw [← hq]; exact hlim.wd k
  by_cases h0 : 0 ≤ x
  · have e : x % ((W (k + 1) : Nat) : Int) = x := Int.emod_eq_of_lt h0 (by omega)
    rw [e] at hv
    have q0 : q = 0 := by
      rcases Nat.eq_zero_or_pos q with hz | hz
      · exact hz
      · have := Nat.mul_le_mul_left (W k) hz; omega
    rw [q0, if_pos (by decide)]; exact hv
  · have e : x % ((W (k + 1) : Nat) : Int) = x + (W (k + 1) : Nat) := by
      rw [← Int.add_emod_right]; exact Int.emod_eq_of_lt (by omega) (by omega)
    rw [e] at hv
    have q1 : ¬ q < 2147483648 := fun hz => by
      have := Nat.mul_le_mul_left (W k) (show q ≤ 2147483647 by omega); omega
    rw [if_neg q1]; omega

theorem bits_law {n : Nat} {x y : Int} (hn : 1 ≤ n) (hx : x.natAbs < W (n - 1)) (hy : y.natAbs < W (n - 1)) :
    bitsZ 1 n x y + bitsZ 2 n x y = x + y ∧ bitsZ 2 n x y - bitsZ 1 n x y = bitsZ 3 n x y := by
  have h := join_sum (xs := two n x) (ys := two n y) (by rw [two_length, two_length]) (by rw [two_length]; omega) (two_lim _ _) (two_lim _ _)
  rw [untwo_two hn hx, untwo_two hn hy] at h
  exact h
theorem bits_len_law (op n : Nat) (x y : Int) : (rep (bitsZ op n x y).natAbs).length ≤ n + 1 := by
  have h := untwo_len (s := bjoin op (two n x) (two n y)) (bjoin_lim (two_lim _ _) (two_lim _ _))
  rwa [bjoin_length (by rw [two_length, two_length]), two_length] at h

theorem dtxt_lt {b : Nat} (hb : 2 ≤ b) (h36 : b ≤ 36) (z : Int) : ∀ c ∈ dtxt b z, c < 256 := by
  have hu : ∀ c ∈ (digs b z.natAbs).reverse.map usgn, c < 256 := fun c h => by
    obtain ⟨d, hd, rfl⟩ := List.mem_map.1 h
    have := digs_lt hb _ d (List.mem_reverse.1 hd)
    unfold usgn; split <;> omega
  intro c h
  unfold dtxt at h
  split at h
  · simp at h; omega
  · rcases List.mem_append.1 h with h | h
    · split at h
      · simp at h; omega
      · cases h
    · exact hu c h
theorem bytes_back {l : List Nat} (h : ∀ c ∈ l, c < 256) : bytesN ⟨(l.map UInt8.ofNat).toArray⟩ = l := by
  unfold bytesN
  show (l.map UInt8.ofNat).map UInt8.toNat = l
  rw [List.map_map]
  conv => rhs; rw [← List.map_id l]
  refine List.map_congr_left fun c hc => ?_
  show (UInt8.ofNat c).toNat = c
  rw [UInt8.toNat_ofNat']; exact Nat.mod_eq_of_lt (h c hc)
/-- What is printed is read back. -/
theorem print_parse {b : Nat} (hb : 2 ≤ b) (h36 : b ≤ 36) (z : Int) {s : ByteArray} (hs : s = ⟨(utxt b z).toArray⟩) :
    badT b (parseT (bytesN s)) = false ∧ parseZ b (bytesN s) = z := by
  rw [hs, utxt_dtxt hb h36, bytes_back (dtxt_lt hb h36 z)]
  have hd : z ≠ 0 → (digs b z.natAbs).reverse.map usgn ≠ [] ∧ (∀ c ∈ (digs b z.natAbs).reverse.map usgn, dgt c < b ∧ c ≠ 45) := fun hz => by
    refine ⟨?_, fun c h => ?_⟩
    · rw [digs_pos hb (by omega)]; simp
    · obtain ⟨d, hd, rfl⟩ := List.mem_map.1 h
      have hl := digs_lt hb _ d (List.mem_reverse.1 hd)
      rw [dgt_usgn (by omega)]
      refine ⟨hl, ?_⟩
      unfold usgn; split <;> omega
  have hnum := numF_digs hb h36 z.natAbs
  by_cases hz : z = 0
  · subst hz
    have e : dtxt b 0 = [48] := rfl
    rw [e]
    refine ⟨badT_iff.2 ⟨by decide, fun c hc => ?_⟩, ?_⟩
    rotate_left
    · have e1 : parseT [48] = [48] := rfl
      have e2 : parseN [48] = false := rfl
      unfold parseZ
      rw [e2, if_neg (by decide), e1, numF_cons, numF_nil, Nat.zero_mul]; rfl
    have : c = 48 := by simpa [parseT] using hc
    subst this
    show 0 < b
    omega
  · obtain ⟨h1, h2⟩ := hd hz
    generalize hL : (digs b z.natAbs).reverse.map usgn = L at *
    by_cases hn : z < 0
    · have e : dtxt b z = 45 :: L := by unfold dtxt; rw [if_neg hz, if_pos hn, hL]; rfl
      have e1 : parseT (45 :: L) = L := by unfold parseT; simp
      have e2 : parseN (45 :: L) = true := rfl
      rw [e, e1]
      refine ⟨badT_iff.2 ⟨h1, fun c hc => (h2 c hc).1⟩, ?_⟩
      unfold parseZ
      rw [e2, if_pos rfl, e1, hnum]; omega
    · have e : dtxt b z = L := by unfold dtxt; rw [if_neg hz, if_neg hn, hL]; rfl
      have hh : L.head? ≠ some 45 := fun h => by
        have := List.mem_of_mem_head? (Option.mem_def.2 h)
        exact (h2 45 this).2 rfl
      have e1 : parseT L = L := by unfold parseT; rw [if_neg hh]
      have e2 : parseN L = false := by unfold parseN; exact decide_eq_false hh
      rw [e, e1]
      refine ⟨badT_iff.2 ⟨h1, fun c hc => (h2 c hc).1⟩, ?_⟩
      unfold parseZ
      rw [e2, if_neg (by decide), e1, hnum]; omega
theorem utxt_size {b : Nat} (hb : 2 ≤ b) (h36 : b ≤ 36) (z : Int) (h : (rep z.natAbs).length ≤ 1024) {s : ByteArray} (hs : s = ⟨(utxt b z).toArray⟩) : s.size ≤ 32770 := by
  rw [hs, utxt_dtxt hb h36]
  show ((dtxt b z).map UInt8.ofNat).toArray.size ≤ 32770
  rw [List.size_toArray, List.length_map]
  have h1 : (digs b z.natAbs).length ≤ 32768 := by
    obtain ⟨c, hc⟩ : ∃ c, c = 1024 := ⟨_, rfl⟩
    rw [← hc] at h
    have h2 := digs_length hb z.natAbs (32 * c) (by have := rep_length_le.1 h; rwa [W_two] at this)
    omega
  unfold dtxt
  split
  · simp
  · rw [List.length_append, List.length_map, List.length_reverse]
    split <;> simp <;> omega

end Go.Proofs.YtbffpkmfhkphdaaGreatDoor
