/- The walk of the law LargeRules: it answers true. -/
import Derived.Test.YtbffpkmfhkphdaaGreatDoorRulesAidC
import Derived.Deep.DeepCutAuto
set_option linter.unusedVariables false
set_option linter.unusedSimpArgs false
namespace Go.Proofs.YtbffpkmfhkphdaaGreatDoor
open Go Go.RowKit Limb

set_option maxHeartbeats 4000000 in
set_option maxRecDepth 1000000 in
theorem law_rules_a (w : World) (b1 b2 : Bool) (a1 a2 : Option Addr) (l1 l2 : List Nat) (nx ny c1 c2 : Nat) (n base : Int) (h1 : Came w b1 a1 nx l1) (h2 : Came w b2 a2 ny l2) (hc1 : nx ≤ c1) (hc2 : ny ≤ c2)
    (hn1 : -9223372036854775808 ≤ n) (hn2 : n ≤ 9223372036854775807) (hm1 : -9223372036854775808 ≤ base) (hm2 : base ≤ 9223372036854775807) (hma : mayB b1 l1 = false) :
    Calls Tryz.prog 6 #[.agg #[.bool b1, .slice a1 nx c1], .agg #[.bool b2, .slice a2 ny c2], .int .i64 n, .int .i64 base] w fun e w' => e = .returned (.bool true) ∧ Below w.heap.size w w' := by
  obtain ⟨W, hWe, r4, r5, hB, hszW⟩ := rows2 w 24 (.bool b1) (.slice a1 nx c1) (.bool b2) (.slice a2 ny c2)
  have HWe := Lib.hid hWe; clear hWe
  have HM1 := Lib.hid (fun X (h : Below w.heap.size w X) => since_may (c := c1) (W := w) h1 h)
  have HM2 := Lib.hid (fun X (h : Below w.heap.size w X) => since_may (c := c2) (W := w) h2 h)
  have HM1' := HM1.out; rw [hma] at HM1'; have HMa := Lib.hid HM1'; clear HM1'
  clear h1 h2 hc1 hc2 HM1 HM2 hma hszW
  go_enter Tryz.func6, Tryz.ntmps6
  obtain ⟨kr40, kr41⟩ := r4.cells
  obtain ⟨kr50, kr51⟩ := r5.cells
  go_wp2_with fail
  rw [← HWe.out]
  refine (HMa.out W hB).mono ?_
  rintro e V0 ⟨rfl, hb⟩
  (try dsimp only)
  replace r4 := r4.below hb r4.lt
  replace r5 := r5.below hb r5.lt
  replace hB := hB.trans (hb.mono hB.size)
  clear kr40 kr41 kr50 kr51
  obtain ⟨kr40, kr41⟩ := r4.cells
  obtain ⟨kr50, kr51⟩ := r5.cells
  clear hb
  go_wp2_with fail
  refine (law_awake V0).mono ?_
  rintro e V2 ⟨rfl, hb⟩
  (try dsimp only)
  replace r4 := r4.below hb r4.lt
  replace r5 := r5.below hb r5.lt
  replace hB := hB.trans (hb.mono hB.size)
  clear kr40 kr41 kr50 kr51
  obtain ⟨kr40, kr41⟩ := r4.cells
  obtain ⟨kr50, kr51⟩ := r5.cells
  clear hb
  go_wp2_with fail
  go_ret
  exact ⟨rfl, hB⟩

set_option maxHeartbeats 4000000 in
set_option maxRecDepth 1000000 in
theorem law_rules_b (w : World) (b1 b2 : Bool) (a1 a2 : Option Addr) (l1 l2 : List Nat) (nx ny c1 c2 : Nat) (n base : Int) (h1 : Came w b1 a1 nx l1) (h2 : Came w b2 a2 ny l2) (hc1 : nx ≤ c1) (hc2 : ny ≤ c2)
    (hn1 : -9223372036854775808 ≤ n) (hn2 : n ≤ 9223372036854775807) (hm1 : -9223372036854775808 ≤ base) (hm2 : base ≤ 9223372036854775807) (hma : mayB b1 l1 = true) (hmb : mayB b2 l2 = false) :
    Calls Tryz.prog 6 #[.agg #[.bool b1, .slice a1 nx c1], .agg #[.bool b2, .slice a2 ny c2], .int .i64 n, .int .i64 base] w fun e w' => e = .returned (.bool true) ∧ Below w.heap.size w w' := by
  obtain ⟨W, hWe, r4, r5, hB, hszW⟩ := rows2 w 24 (.bool b1) (.slice a1 nx c1) (.bool b2) (.slice a2 ny c2)
  have HWe := Lib.hid hWe; clear hWe
  have HM1 := Lib.hid (fun X (h : Below w.heap.size w X) => since_may (c := c1) (W := w) h1 h)
  have HM2 := Lib.hid (fun X (h : Below w.heap.size w X) => since_may (c := c2) (W := w) h2 h)
  have HM1' := HM1.out; rw [hma] at HM1'; have HMa := Lib.hid HM1'; clear HM1'
  have HM2' := HM2.out; rw [hmb] at HM2'; have HMb := Lib.hid HM2'; clear HM2'
  clear h1 h2 hc1 hc2 HM1 HM2 hma hszW hmb
  go_enter Tryz.func6, Tryz.ntmps6
  obtain ⟨kr40, kr41⟩ := r4.cells
  obtain ⟨kr50, kr51⟩ := r5.cells
  go_wp2_with fail
  rw [← HWe.out]
  refine (HMa.out W hB).mono ?_
  rintro e V0 ⟨rfl, hb⟩
  (try dsimp only)
  replace r4 := r4.below hb r4.lt
  replace r5 := r5.below hb r5.lt
  replace hB := hB.trans (hb.mono hB.size)
  clear kr40 kr41 kr50 kr51
  obtain ⟨kr40, kr41⟩ := r4.cells
  obtain ⟨kr50, kr51⟩ := r5.cells
  clear hb
  go_wp2_with fail
  refine (HMb.out V0 hB).mono ?_
  rintro e V1 ⟨rfl, hb⟩
  (try dsimp only)
  replace r4 := r4.below hb r4.lt
  replace r5 := r5.below hb r5.lt
  replace hB := hB.trans (hb.mono hB.size)
  clear kr40 kr41 kr50 kr51
  obtain ⟨kr40, kr41⟩ := r4.cells
  obtain ⟨kr50, kr51⟩ := r5.cells
  clear hb
  go_wp2_with fail
  refine (law_awake V1).mono ?_
  rintro e V2 ⟨rfl, hb⟩
  (try dsimp only)
  replace r4 := r4.below hb r4.lt
  replace r5 := r5.below hb r5.lt
  replace hB := hB.trans (hb.mono hB.size)
  clear kr40 kr41 kr50 kr51
  obtain ⟨kr40, kr41⟩ := r4.cells
  obtain ⟨kr50, kr51⟩ := r5.cells
  clear hb
  go_wp2_with fail
  go_ret
  exact ⟨rfl, hB⟩

set_option maxHeartbeats 4000000 in
set_option maxRecDepth 1000000 in
theorem law_rules_l (w : World) (b1 b2 : Bool) (a1 a2 : Option Addr) (l1 l2 : List Nat) (nx ny c1 c2 : Nat) (n base : Int) (h1 : Came w b1 a1 nx l1) (h2 : Came w b2 a2 ny l2) (hc1 : nx ≤ c1) (hc2 : ny ≤ c2)
    (hn1 : -9223372036854775808 ≤ n) (hn2 : n ≤ 9223372036854775807) (hm1 : -9223372036854775808 ≤ base) (hm2 : base ≤ 9223372036854775807) (hma : mayB b1 l1 = true) (hmb : mayB b2 l2 = true) (hl : 400 < nx + ny) :
    Calls Tryz.prog 6 #[.agg #[.bool b1, .slice a1 nx c1], .agg #[.bool b2, .slice a2 ny c2], .int .i64 n, .int .i64 base] w fun e w' => e = .returned (.bool true) ∧ Below w.heap.size w w' := by
  obtain ⟨W, hWe, r4, r5, hB, hszW⟩ := rows2 w 24 (.bool b1) (.slice a1 nx c1) (.bool b2) (.slice a2 ny c2)
  have HWe := Lib.hid hWe; clear hWe
  have HM1 := Lib.hid (fun X (h : Below w.heap.size w X) => since_may (c := c1) (W := w) h1 h)
  have HM2 := Lib.hid (fun X (h : Below w.heap.size w X) => since_may (c := c2) (W := w) h2 h)
  have HM1' := HM1.out; rw [hma] at HM1'; have HMa := Lib.hid HM1'; clear HM1'
  have HM2' := HM2.out; rw [hmb] at HM2'; have HMb := Lib.hid HM2'; clear HM2'
  have e1 : nx ≤ 9223372036854775807 := h1.2.2.2
  have nx1 : nx ≤ 1024 := by have h := h1.len hma; have h4 := (h1.api hma hc1).parts.2.1; omega
  have ny1 : ny ≤ 1024 := by have h := h2.len hmb; have h4 := (h2.api hmb hc2).parts.2.1; omega
  have d62 : decide ((400 : Int) < (nx : Int) + (ny : Int)) = true := decide_eq_true (by omega)
  have d62' : decide (400 < nx + ny) = true := decide_eq_true (by omega)
  clear h1 h2 hc1 hc2 HM1 HM2 hma hszW hmb hl
  go_enter Tryz.func6, Tryz.ntmps6
  obtain ⟨kr40, kr41⟩ := r4.cells
  obtain ⟨kr50, kr51⟩ := r5.cells
  go_wp2_with fail
  rw [← HWe.out]
  refine (HMa.out W hB).mono ?_
  rintro e V0 ⟨rfl, hb⟩
  (try dsimp only)
  replace r4 := r4.below hb r4.lt
  replace r5 := r5.below hb r5.lt
  replace hB := hB.trans (hb.mono hB.size)
  clear kr40 kr41 kr50 kr51
  obtain ⟨kr40, kr41⟩ := r4.cells
  obtain ⟨kr50, kr51⟩ := r5.cells
  clear hb
  go_wp2_with fail
  refine (HMb.out V0 hB).mono ?_
  rintro e V1 ⟨rfl, hb⟩
  (try dsimp only)
  replace r4 := r4.below hb r4.lt
  replace r5 := r5.below hb r5.lt
  replace hB := hB.trans (hb.mono hB.size)
  clear kr40 kr41 kr50 kr51
  obtain ⟨kr40, kr41⟩ := r4.cells
  obtain ⟨kr50, kr51⟩ := r5.cells
  clear hb
  go_wp2_with fail
  refine (law_awake V1).mono ?_
  rintro e V2 ⟨rfl, hb⟩
  (try dsimp only)
  replace r4 := r4.below hb r4.lt
  replace r5 := r5.below hb r5.lt
  replace hB := hB.trans (hb.mono hB.size)
  clear kr40 kr41 kr50 kr51
  obtain ⟨kr40, kr41⟩ := r4.cells
  obtain ⟨kr50, kr51⟩ := r5.cells
  clear hb
  go_wp2_with fail
  go_ret
  exact ⟨rfl, hB⟩

set_option maxHeartbeats 32000000 in
set_option maxRecDepth 1000000 in
theorem law_rules_main (w : World) (b1 b2 : Bool) (a1 a2 : Option Addr) (l1 l2 : List Nat) (nx ny c1 c2 : Nat) (n base : Int) (h1 : Came w b1 a1 nx l1) (h2 : Came w b2 a2 ny l2) (hc1 : nx ≤ c1) (hc2 : ny ≤ c2)
    (hn1 : -9223372036854775808 ≤ n) (hn2 : n ≤ 9223372036854775807) (hm1 : -9223372036854775808 ≤ base) (hm2 : base ≤ 9223372036854775807) (hma : mayB b1 l1 = true) (hmb : mayB b2 l2 = true) (hl : ¬ 400 < nx + ny) :
    Calls Tryz.prog 6 #[.agg #[.bool b1, .slice a1 nx c1], .agg #[.bool b2, .slice a2 ny c2], .int .i64 n, .int .i64 base] w fun e w' => e = .returned (.bool true) ∧ Below w.heap.size w w' := by
  obtain ⟨W, hWe, r4, r5, hB, hszW⟩ := rows2 w 24 (.bool b1) (.slice a1 nx c1) (.bool b2) (.slice a2 ny c2)
  have HWe := Lib.hid hWe; clear hWe
  have HM1 := Lib.hid (fun X (h : Below w.heap.size w X) => since_may (c := c1) (W := w) h1 h)
  have HM2 := Lib.hid (fun X (h : Below w.heap.size w X) => since_may (c := c2) (W := w) h2 h)
  rw [hma] at HM1; rw [hmb] at HM2
  obtain ⟨x, hx⟩ : ∃ x, x = signed b1 (val l1) := ⟨_, rfl⟩
  obtain ⟨y, hy⟩ : ∃ y, y = signed b2 (val l2) := ⟨_, rfl⟩
  have HA1 := Lib.hid (fun X (h : Below w.heap.size w X) => show ApiV X (.agg #[.bool b1, .slice a1 nx c1]) x from by rw [hx]; exact (h1.api hma hc1).below h)
  have HA2 := Lib.hid (fun X (h : Below w.heap.size w X) => show ApiV X (.agg #[.bool b2, .slice a2 ny c2]) y from by rw [hy]; exact (h2.api hmb hc2).below h)
  have Hnx := Lib.hid ((HA1.out w (Below.refl _ _)).parts.2.1)
  have Hny := Lib.hid ((HA2.out w (Below.refl _ _)).parts.2.1)
  have Hb1 := Lib.hid ((HA1.out w (Below.refl _ _)).parts.1)
  have nx1 : nx ≤ 400 := by omega
  have ny1 : ny ≤ 400 := by omega
  have HLx := Lib.hid (show (rep x.natAbs).length ≤ 400 from by rw [← Hnx.out]; exact nx1)
  have HLy := Lib.hid (show (rep y.natAbs).length ≤ 400 from by rw [← Hny.out]; exact ny1)
  have HLx' := Lib.hid (Nat.le_trans HLx.out (show 400 ≤ 1024 by decide))
  have HLy' := Lib.hid (Nat.le_trans HLy.out (show 400 ≤ 1024 by decide))
  have d62 : decide ((400 : Int) < (nx : Int) + (ny : Int)) = false := decide_eq_false (by omega)
  have d62' : decide (400 < nx + ny) = false := decide_eq_false hl
  obtain ⟨GG, hGG⟩ : ∃ G : Nat, G = Nat.gcd x.natAbs y.natAbs := ⟨_, rfl⟩
  have hgc := fun X (h : Below w.heap.size w X) => api_gcd X _ _ x y (HA1.out X h) (HA2.out X h) HLx'.out HLy'.out
  rw [← hGG] at hgc
  have HGc := Lib.hid hgc
  have HGG := Lib.hid hGG
  clear hgc hGG hx hy h1 h2 hc1 hc2 hma hmb hl hszW
  go_enter Tryz.func6, Tryz.ntmps6
  obtain ⟨kr40, kr41⟩ := r4.cells
  obtain ⟨kr50, kr51⟩ := r5.cells
  go_wp2_with fail
  rw [← HWe.out]
  refine (HM1.out W hB).mono ?_
  rintro e Q1 ⟨rfl, hb⟩
  (try dsimp only)
  replace r4 := r4.below hb r4.lt
  replace r5 := r5.below hb r5.lt
  replace hB := hB.trans (hb.mono hB.size)
  clear kr40 kr41 kr50 kr51
  obtain ⟨kr40, kr41⟩ := r4.cells
  obtain ⟨kr50, kr51⟩ := r5.cells
  clear hb
  go_wp2_with fail
  refine (HM2.out Q1 hB).mono ?_
  rintro e Q2 ⟨rfl, hb⟩
  (try dsimp only)
  replace r4 := r4.below hb r4.lt
  replace r5 := r5.below hb r5.lt
  replace hB := hB.trans (hb.mono hB.size)
  clear kr40 kr41 kr50 kr51
  obtain ⟨kr40, kr41⟩ := r4.cells
  obtain ⟨kr50, kr51⟩ := r5.cells
  clear hb
  go_wp2_with fail
  refine (HGc.out Q2 hB).mono ?_
  rintro e Q3 ⟨gb, ga, gn, gc, rfl, hg, hb⟩
  (try dsimp only)
  replace r4 := r4.below hb r4.lt
  replace r5 := r5.below hb r5.lt
  replace hB := hB.trans (hb.mono hB.size)
  clear kr40 kr41 kr50 kr51
  obtain ⟨kr40, kr41⟩ := r4.cells
  obtain ⟨kr50, kr51⟩ := r5.cells
  clear hb
  obtain ⟨Q4, hQ4, r9, hbQ4, hzQ4⟩ := rows1 Q3 24 (.bool gb) (.slice ga gn gc)
  replace r4 := r4.below hbQ4 r4.lt
  replace r5 := r5.below hbQ4 r5.lt
  replace hB := hB.trans (hbQ4.mono hB.size)
  clear kr40 kr41 kr50 kr51
  obtain ⟨kr40, kr41⟩ := r4.cells
  obtain ⟨kr50, kr51⟩ := r5.cells
  obtain ⟨kr90, kr91⟩ := r9.cells
  rw [hQ4] at kr40 kr41 kr50 kr51 kr90 kr91
  have HQ4 := Lib.hid hQ4; clear hQ4
  replace hg := Lib.hid (hg.out.below hbQ4)
  clear hbQ4 hzQ4
  obtain rfl : gb = false := by rw [hg.out.parts.1]; exact decide_eq_false (by omega)
  have Hgn := Lib.hid (hg.out.parts.2.1)
  go_upto_if 80 with fail
  rw [← HQ4.out]
  clear kr40 kr41 kr50 kr51 kr90 kr91
  obtain ⟨kr40, kr41⟩ := r4.cells
  obtain ⟨kr50, kr51⟩ := r5.cells
  obtain ⟨kr90, kr91⟩ := r9.cells
  go_cut [] (fun wx => Below Q4.heap.size Q4 wx)
  case first =>
    as_aux_lemma =>
      have hU : Below Q4.heap.size Q4 Q4 := Below.refl _ _
      by_cases hG0 : GG = 0
      · as_aux_lemma =>
          have e0 := HGG.out
          rw [hG0] at e0
          obtain ⟨e1, e2⟩ := Nat.gcd_eq_zero_iff.1 e0.symm
          obtain rfl : gn = 0 := by rw [Hgn.out, hG0]; rfl
          obtain rfl : nx = 0 := by rw [Hnx.out, e1]; rfl
          obtain rfl : ny = 0 := by rw [Hny.out, e2]; rfl
          clear e0 e1 e2 hG0 Hnx Hny Hgn
          go_wp2_with fail
          go_meet
          exact hU
      · as_aux_lemma =>
          have gn1 : 0 < gn := by rw [Hgn.out]; exact Nat.pos_of_ne_zero (fun h => hG0 (rep_length_zero.1 h))
          have d80 : decide ((0 : Int) < (gn : Int)) = true := decide_eq_true (by omega)
          have d80' : decide (0 < gn) = true := decide_eq_true gn1
          have HG0 := Lib.hid (show ((GG : Nat) : Int) ≠ 0 by omega)
          have HLg := Lib.hid (show (rep ((GG : Nat) : Int).natAbs).length ≤ 1024 from by
              rw [Int.natAbs_natCast, HGG.out]
              by_cases h0 : x = 0
              · rw [h0, Int.natAbs_zero, Nat.gcd_zero_left]; exact HLy'.out
              · exact Nat.le_trans (rep_mono (Nat.gcd_le_left _ (by omega))) HLx'.out)
          have HD1 := Lib.hid (show x.tmod ((GG : Nat) : Int) = 0 from by rw [HGG.out]; exact (gcd_tmod x y).1)
          have HD2 := Lib.hid (show y.tmod ((GG : Nat) : Int) = 0 from by rw [HGG.out]; exact (gcd_tmod x y).2)
          clear hG0 Hgn
          go_wp2_with fail
          refine (api_quo0 Q4 _ _ x GG (HA1.out _ hB) hg.out HLx'.out HLg.out HG0.out HD1.out).mono ?_
          rintro e Q5 ⟨qb, qa, qn, qc, rb, ra, rc, rfl, hb⟩
          (try dsimp only)
          replace r4 := r4.below hb r4.lt
          replace r5 := r5.below hb r5.lt
          replace r9 := r9.below hb r9.lt
          replace hB := hB.trans (hb.mono hB.size)
          clear kr40 kr41 kr50 kr51 kr90 kr91
          obtain ⟨kr40, kr41⟩ := r4.cells
          obtain ⟨kr50, kr51⟩ := r5.cells
          obtain ⟨kr90, kr91⟩ := r9.cells
          replace hg := Lib.hid (hg.out.below hb)
          replace hU := hU.trans (hb.mono hU.size)
          clear hb
          obtain ⟨Q6, hQ6, r11, r12, hbQ6, hzQ6⟩ := rows2 Q5 24 (.bool qb) (.slice qa qn qc) (.bool rb) (.slice ra 0 rc)
          replace r4 := r4.below hbQ6 r4.lt
          replace r5 := r5.below hbQ6 r5.lt
          replace r9 := r9.below hbQ6 r9.lt
          replace hB := hB.trans (hbQ6.mono hB.size)
          clear kr40 kr41 kr50 kr51 kr90 kr91
          obtain ⟨kr40, kr41⟩ := r4.cells
          obtain ⟨kr50, kr51⟩ := r5.cells
          obtain ⟨kr90, kr91⟩ := r9.cells
          obtain ⟨kr110, kr111⟩ := r11.cells
          obtain ⟨kr120, kr121⟩ := r12.cells
          rw [hQ6] at kr40 kr41 kr50 kr51 kr90 kr91 kr110 kr111 kr120 kr121
          have HQ6 := Lib.hid hQ6; clear hQ6
          replace hg := Lib.hid (hg.out.below hbQ6)
          replace hU := hU.trans (hbQ6.mono hU.size)
          clear hbQ6 hzQ6
          go_wp2_with fail
          rw [← HQ6.out]
          refine (api_quo0 Q6 _ _ y GG (HA2.out _ hB) hg.out HLy'.out HLg.out HG0.out HD2.out).mono ?_
          rintro e Q7 ⟨ub, ua, un, uc, vb, va, vc, rfl, hb⟩
          (try dsimp only)
          replace r4 := r4.below hb r4.lt
          replace r5 := r5.below hb r5.lt
          replace r9 := r9.below hb r9.lt
          replace r11 := r11.below hb r11.lt
          replace r12 := r12.below hb r12.lt
          replace hB := hB.trans (hb.mono hB.size)
          clear kr40 kr41 kr50 kr51 kr90 kr91 kr110 kr111 kr120 kr121
          obtain ⟨kr40, kr41⟩ := r4.cells
          obtain ⟨kr50, kr51⟩ := r5.cells
          obtain ⟨kr90, kr91⟩ := r9.cells
          obtain ⟨kr110, kr111⟩ := r11.cells
          obtain ⟨kr120, kr121⟩ := r12.cells
          replace hg := Lib.hid (hg.out.below hb)
          replace hU := hU.trans (hb.mono hU.size)
          clear hb
          obtain ⟨Q8, hQ8, r14, r15, hbQ8, hzQ8⟩ := rows2 Q7 24 (.bool ub) (.slice ua un uc) (.bool vb) (.slice va 0 vc)
          replace r4 := r4.below hbQ8 r4.lt
          replace r5 := r5.below hbQ8 r5.lt
          replace r9 := r9.below hbQ8 r9.lt
          replace r11 := r11.below hbQ8 r11.lt
          replace r12 := r12.below hbQ8 r12.lt
          replace hB := hB.trans (hbQ8.mono hB.size)
          clear kr40 kr41 kr50 kr51 kr90 kr91 kr110 kr111 kr120 kr121
          obtain ⟨kr40, kr41⟩ := r4.cells
          obtain ⟨kr50, kr51⟩ := r5.cells
          obtain ⟨kr90, kr91⟩ := r9.cells
          obtain ⟨kr110, kr111⟩ := r11.cells
          obtain ⟨kr120, kr121⟩ := r12.cells
          obtain ⟨kr140, kr141⟩ := r14.cells
          obtain ⟨kr150, kr151⟩ := r15.cells
          rw [hQ8] at kr40 kr41 kr50 kr51 kr90 kr91 kr110 kr111 kr120 kr121 kr140 kr141 kr150 kr151
          have HQ8 := Lib.hid hQ8; clear hQ8
          replace hg := Lib.hid (hg.out.below hbQ8)
          replace hU := hU.trans (hbQ8.mono hU.size)
          clear hbQ8 hzQ8
          go_wp2_with fail
          rw [← HQ8.out]
          clear kr40 kr41 kr50 kr51 kr90 kr91 kr110 kr111 kr120 kr121 kr140 kr141 kr150 kr151
          obtain ⟨kr40, kr41⟩ := r4.cells
          obtain ⟨kr50, kr51⟩ := r5.cells
          obtain ⟨kr90, kr91⟩ := r9.cells
          obtain ⟨kr110, kr111⟩ := r11.cells
          obtain ⟨kr120, kr121⟩ := r12.cells
          obtain ⟨kr140, kr141⟩ := r14.cells
          obtain ⟨kr150, kr151⟩ := r15.cells
          go_meet
          exact hU
  case rest =>
    as_aux_lemma =>
      obtain ⟨U1, hU1⟩ : ∃ U1, U1 = wc := ⟨_, rfl⟩
      rw [← hU1] at hcut ⊢
      clear hU1 r9 hg kr40 kr41 kr50 kr51 kr90 kr91
      replace r4 := r4.below hcut r4.lt
      replace r5 := r5.below hcut r5.lt
      replace hB := hB.trans (hcut.mono hB.size)
      clear hcut
      obtain ⟨kr40, kr41⟩ := r4.cells
      obtain ⟨kr50, kr51⟩ := r5.cells
      go_upto_if 121 with fail
      go_cut [] (fun wx => Below U1.heap.size U1 wx)
      case first =>
        as_aux_lemma =>
          have hU : Below U1.heap.size U1 U1 := Below.refl _ _
          cases b1 with
          | true =>
            go_wp2_with fail
            go_meet
            exact hU
          | false =>
            as_aux_lemma =>
              have hx0 : 0 ≤ x := by have h := Hb1.out; have := of_decide_eq_false h.symm; omega
              obtain ⟨R, hR⟩ : ∃ R, R = rootN x.natAbs := ⟨_, rfl⟩
              have hcm := root_law hx0
              have hsq := fun X (h : Below w.heap.size w X) => api_sqrt X _ x (HA1.out X h) HLx'.out hx0
              rw [← hR] at hcm hsq
              have HLr := Lib.hid (show (rep ((R : Nat) : Int).natAbs).length ≤ 400 from by rw [Int.natAbs_natCast, hR]; exact Nat.le_trans (rep_mono (root_le _)) HLx.out)
              have HLr' := Lib.hid (Nat.le_trans HLr.out (show 400 ≤ 1024 by decide))
              have HLt := Lib.hid (show (rep ((R : Int) + 1).natAbs).length ≤ 401 from len_sum HLr.out (by decide))
              have HLt' := Lib.hid (Nat.le_trans HLt.out (show 401 ≤ 1024 by decide))
              have HLp := Lib.hid (Nat.le_trans (len_mul HLr.out HLr.out) (show 400 + 400 ≤ 1024 by decide))
              have HLq := Lib.hid (Nat.le_trans (len_mul HLt.out HLt.out) (show 401 + 401 ≤ 1024 by decide))
              obtain ⟨q1, hq1⟩ : ∃ q, q = cmpZ ((R : Int) * (R : Int)) x := ⟨_, rfl⟩
              have hq2 := hcm.2
              have nq1 : ¬ 0 < q1 := by rw [hq1]; have := hcm.1; omega
              have dq1 : decide (0 < q1) = false := decide_eq_false nq1
              have Hq1 := Lib.hid hq1
              have Hq2 := Lib.hid hq2.symm
              have HSq := Lib.hid hsq
              clear hx0 hR hcm hsq hq1 hq2
              go_wp2_with fail
              refine (HSq.out U1 hB).mono ?_
              rintro e Q9 ⟨sb, sa, sn, sc, rfl, hs, hb⟩
              (try dsimp only)
              replace r4 := r4.below hb r4.lt
              replace r5 := r5.below hb r5.lt
              replace hB := hB.trans (hb.mono hB.size)
              clear kr40 kr41 kr50 kr51
              obtain ⟨kr40, kr41⟩ := r4.cells
              obtain ⟨kr50, kr51⟩ := r5.cells
              replace hU := hU.trans (hb.mono hU.size)
              clear hb
              obtain ⟨Q10, hQ10, r17, hbQ10, hzQ10⟩ := rows1 Q9 24 (.bool sb) (.slice sa sn sc)
              replace r4 := r4.below hbQ10 r4.lt
              replace r5 := r5.below hbQ10 r5.lt
              replace hB := hB.trans (hbQ10.mono hB.size)
              clear kr40 kr41 kr50 kr51
              obtain ⟨kr40, kr41⟩ := r4.cells
              obtain ⟨kr50, kr51⟩ := r5.cells
              obtain ⟨kr170, kr171⟩ := r17.cells
              rw [hQ10] at kr40 kr41 kr50 kr51 kr170 kr171
              have HQ10 := Lib.hid hQ10; clear hQ10
              replace hs := Lib.hid (hs.out.below hbQ10)
              replace hU := hU.trans (hbQ10.mono hU.size)
              clear hbQ10 hzQ10
              go_upto_region 15 with fail
              rw [← HQ10.out]
              clear kr40 kr41 kr50 kr51 kr170 kr171
              obtain ⟨kr40, kr41⟩ := r4.cells
              obtain ⟨kr50, kr51⟩ := r5.cells
              obtain ⟨kr170, kr171⟩ := r17.cells
              go_cut [19, 20] (fun s19 s20 wx => BoxR Q10 ((R : Int) + 1) s19 s20 wx)
              case first =>
                as_aux_lemma =>
                  have HR17 := Lib.hid (fun X (h : Below Q10.heap.size Q10 X) => (r17.below h r17.lt).cells)
                  have HHs := Lib.hid (fun X (h : Below Q10.heap.size Q10 X) => hs.out.below h)
                  have hX : Below Q10.heap.size Q10 Q10.drew := (Below.refl _ _).drew
                  clear hs r4 r5 r17 kr40 kr41 kr50 kr51 kr170 kr171
                  refine wp_region_held (S := fun X => Below Q10.heap.size Q10 X) (by kernel_rfl) ?_
                  refine wpAnyH_take_at (i := 0) (v := .agg #[.bool sb, .slice sa sn sc]) 128 rfl rfl (by kernel_rfl) (by kernel_rfl) (by kernel_rfl) (fun _ _ _ h => h) (.inl ⟨rfl, fun X hX => by obtain ⟨i0, i1⟩ := HR17.out X hX; go_simp⟩) hX ?_
                  simp only [Act.put, List.setIfInBounds_toArray, List.set_cons_zero, List.set_cons_succ]
                  refine wpAnyH_all (rs := [1, 6]) (by kernel_rfl) (by decide) (fun i hi => ?_)
                  simp only [List.mem_cons, List.not_mem_nil, or_false] at hi
                  rcases hi with rfl | rfl
                  · unfold wpOp
                    go_simp
                    refine .inl ((api_of _ 1 (by decide) (by decide)).mono ?_)
                    rintro e X1 ⟨ob, oa, on, oc, rfl, ho, hb⟩
                    replace hX := hX.trans (hb.mono hX.size)
                    clear hb
                    refine ⟨hX, ?_⟩
                    refine wpAnyH_all (rs := [2, 6]) (by kernel_rfl) (by decide) (fun i hi => ?_)
                    simp only [List.mem_cons, List.not_mem_nil, or_false] at hi
                    rcases hi with rfl | rfl
                    · unfold wpOp
                      go_simp
                      refine .inl ((api_add _ _ _ (R : Int) 1 (HHs.out _ hX) ho.out HLr'.out (by decide) HLt'.out).mono ?_)
                      rintro e X2 ⟨tb, ta, tn, tc, rfl, ht, hb⟩
                      replace ho := Lib.hid (ho.out.below hb)
                      replace hX := hX.trans (hb.mono hX.size)
                      clear hb
                      clear ho
                      refine ⟨hX, ?_⟩
                      refine wpAnyH_take_at (i := 3) (v := .tuple #[.agg #[.bool tb, .slice ta tn tc], .int .i64 0]) 127 rfl rfl (by kernel_rfl) (by kernel_rfl) (by kernel_rfl) (fun _ _ _ h => h) (.inl ⟨rfl, fun X hX => by go_simp⟩) hX ?_
                      simp only [Act.put, List.setIfInBounds_toArray, List.set_cons_zero, List.set_cons_succ]
                      refine wpAnyH_take_at (i := 4) (v := .agg #[.bool tb, .slice ta tn tc]) 131 rfl rfl (by kernel_rfl) (by kernel_rfl) (by kernel_rfl) (fun _ _ _ h => h) (.inl ⟨rfl, fun X hX => by go_simp⟩) hX ?_
                      simp only [Act.put, List.setIfInBounds_toArray, List.set_cons_zero, List.set_cons_succ]
                      refine wpAnyH_take_at (i := 5) (v := .int .i64 0) 132 rfl rfl (by kernel_rfl) (by kernel_rfl) (by kernel_rfl) (fun _ _ _ h => h) (.inl ⟨rfl, fun X hX => by go_simp⟩) hX ?_
                      simp only [Act.put, List.setIfInBounds_toArray, List.set_cons_zero, List.set_cons_succ]
                      refine wpAnyH_all (rs := [6]) (by kernel_rfl) (by decide) (fun i hi => ?_)
                      rw [List.mem_singleton] at hi
                      subst hi
                      refine wpOp_alloc_int (o := _) rfl rfl rfl (fun X3 g rg hb hg hlt => ?_)
                      clear hlt
                      replace hg := Nat.le_trans hX.size hg
                      replace ht := Lib.hid (ht.out.below hb)
                      replace hX := hX.trans (hb.mono hX.size)
                      clear hb
                      refine ⟨hX, ?_⟩
                      simp only [Act.put, List.setIfInBounds_toArray, List.set_cons_zero, List.set_cons_succ]
                      refine wpAnyH_all (rs := [7]) (by kernel_rfl) (by decide) (fun i hi => ?_)
                      rw [List.mem_singleton] at hi
                      subst hi
                      have k0 := rg.cell_at 0
                      have k1 := rg.cell_at 1
                      have f0 := rg.free 0
                      have f1 := rg.free 1
                      simp only [List.getElem?_cons_zero, List.getElem?_cons_succ] at k0 k1
                      unfold wpOp
                      go_simp
                      have HF := Lib.hid (boxR_store (U := Q10) rg hg ht.out hX)
                      replace hX := below_store (below_store hX hg (i := 0) (.bool tb)) hg (i := 1) (.slice ta tn tc)
                      clear k0 k1 f0 f1 rg ht
                      refine .inl ⟨hX, ?_⟩
                      refine wpAnyH_take_at (i := 8) (v := .int .i64 0) 20 rfl rfl (by kernel_rfl) (by kernel_rfl) (by kernel_rfl) (fun _ _ _ h => h) (.inl ⟨rfl, fun X hX => by go_simp⟩) hX ?_
                      simp only [Act.put, List.setIfInBounds_toArray, List.set_cons_zero, List.set_cons_succ]
                      refine wpAnyH_done (by kernel_rfl) ?_ _
                      go_wp2_with fail
                      go_meet
                      exact HF.out
                    · refine wpOp_alloc_int (o := _) rfl rfl rfl (fun X5 g rg hb hg hlt => ?_)
                      clear hlt
                      replace hg := Nat.le_trans hX.size hg
                      replace ho := Lib.hid (ho.out.below hb)
                      replace hX := hX.trans (hb.mono hX.size)
                      clear hb
                      refine ⟨hX, ?_⟩
                      simp only [Act.put, List.setIfInBounds_toArray, List.set_cons_zero, List.set_cons_succ]
                      refine wpAnyH_all (rs := [2]) (by kernel_rfl) (by decide) (fun i hi => ?_)
                      rw [List.mem_singleton] at hi
                      subst hi
                      unfold wpOp
                      go_simp
                      refine .inl ((api_add _ _ _ (R : Int) 1 (HHs.out _ hX) ho.out HLr'.out (by decide) HLt'.out).mono ?_)
                      rintro e X6 ⟨tb, ta, tn, tc, rfl, ht, hb⟩
                      replace ho := Lib.hid (ho.out.below hb)
                      replace rg := rg.below hb rg.lt
                      replace hX := hX.trans (hb.mono hX.size)
                      clear hb
                      clear ho
                      refine ⟨hX, ?_⟩
                      refine wpAnyH_take_at (i := 3) (v := .tuple #[.agg #[.bool tb, .slice ta tn tc], .int .i64 0]) 127 rfl rfl (by kernel_rfl) (by kernel_rfl) (by kernel_rfl) (fun _ _ _ h => h) (.inl ⟨rfl, fun X hX => by go_simp⟩) hX ?_
                      simp only [Act.put, List.setIfInBounds_toArray, List.set_cons_zero, List.set_cons_succ]
                      refine wpAnyH_take_at (i := 4) (v := .agg #[.bool tb, .slice ta tn tc]) 131 rfl rfl (by kernel_rfl) (by kernel_rfl) (by kernel_rfl) (fun _ _ _ h => h) (.inl ⟨rfl, fun X hX => by go_simp⟩) hX ?_
                      simp only [Act.put, List.setIfInBounds_toArray, List.set_cons_zero, List.set_cons_succ]
                      refine wpAnyH_take_at (i := 5) (v := .int .i64 0) 132 rfl rfl (by kernel_rfl) (by kernel_rfl) (by kernel_rfl) (fun _ _ _ h => h) (.inl ⟨rfl, fun X hX => by go_simp⟩) hX ?_
                      simp only [Act.put, List.setIfInBounds_toArray, List.set_cons_zero, List.set_cons_succ]
                      refine wpAnyH_all (rs := [7]) (by kernel_rfl) (by decide) (fun i hi => ?_)
                      rw [List.mem_singleton] at hi
                      subst hi
                      have k0 := rg.cell_at 0
                      have k1 := rg.cell_at 1
                      have f0 := rg.free 0
                      have f1 := rg.free 1
                      simp only [List.getElem?_cons_zero, List.getElem?_cons_succ] at k0 k1
                      unfold wpOp
                      go_simp
                      have HF := Lib.hid (boxR_store (U := Q10) rg hg ht.out hX)
                      replace hX := below_store (below_store hX hg (i := 0) (.bool tb)) hg (i := 1) (.slice ta tn tc)
                      clear k0 k1 f0 f1 rg ht
                      refine .inl ⟨hX, ?_⟩
                      refine wpAnyH_take_at (i := 8) (v := .int .i64 0) 20 rfl rfl (by kernel_rfl) (by kernel_rfl) (by kernel_rfl) (fun _ _ _ h => h) (.inl ⟨rfl, fun X hX => by go_simp⟩) hX ?_
                      simp only [Act.put, List.setIfInBounds_toArray, List.set_cons_zero, List.set_cons_succ]
                      refine wpAnyH_done (by kernel_rfl) ?_ _
                      go_wp2_with fail
                      go_meet
                      exact HF.out
                  · refine wpOp_alloc_int (o := _) rfl rfl rfl (fun X8 g rg hb hg hlt => ?_)
                    clear hlt
                    replace hg := Nat.le_trans hX.size hg
                    replace hX := hX.trans (hb.mono hX.size)
                    clear hb
                    refine ⟨hX, ?_⟩
                    simp only [Act.put, List.setIfInBounds_toArray, List.set_cons_zero, List.set_cons_succ]
                    refine wpAnyH_all (rs := [1]) (by kernel_rfl) (by decide) (fun i hi => ?_)
                    rw [List.mem_singleton] at hi
                    subst hi
                    unfold wpOp
                    go_simp
                    refine .inl ((api_of _ 1 (by decide) (by decide)).mono ?_)
                    rintro e X9 ⟨ob, oa, on, oc, rfl, ho, hb⟩
                    replace rg := rg.below hb rg.lt
                    replace hX := hX.trans (hb.mono hX.size)
                    clear hb
                    refine ⟨hX, ?_⟩
                    refine wpAnyH_all (rs := [2]) (by kernel_rfl) (by decide) (fun i hi => ?_)
                    rw [List.mem_singleton] at hi
                    subst hi
                    unfold wpOp
                    go_simp
                    refine .inl ((api_add _ _ _ (R : Int) 1 (HHs.out _ hX) ho.out HLr'.out (by decide) HLt'.out).mono ?_)
                    rintro e X10 ⟨tb, ta, tn, tc, rfl, ht, hb⟩
                    replace ho := Lib.hid (ho.out.below hb)
                    replace rg := rg.below hb rg.lt
                    replace hX := hX.trans (hb.mono hX.size)
                    clear hb
                    clear ho
                    refine ⟨hX, ?_⟩
                    refine wpAnyH_take_at (i := 3) (v := .tuple #[.agg #[.bool tb, .slice ta tn tc], .int .i64 0]) 127 rfl rfl (by kernel_rfl) (by kernel_rfl) (by kernel_rfl) (fun _ _ _ h => h) (.inl ⟨rfl, fun X hX => by go_simp⟩) hX ?_
                    simp only [Act.put, List.setIfInBounds_toArray, List.set_cons_zero, List.set_cons_succ]
                    refine wpAnyH_take_at (i := 4) (v := .agg #[.bool tb, .slice ta tn tc]) 131 rfl rfl (by kernel_rfl) (by kernel_rfl) (by kernel_rfl) (fun _ _ _ h => h) (.inl ⟨rfl, fun X hX => by go_simp⟩) hX ?_
                    simp only [Act.put, List.setIfInBounds_toArray, List.set_cons_zero, List.set_cons_succ]
                    refine wpAnyH_take_at (i := 5) (v := .int .i64 0) 132 rfl rfl (by kernel_rfl) (by kernel_rfl) (by kernel_rfl) (fun _ _ _ h => h) (.inl ⟨rfl, fun X hX => by go_simp⟩) hX ?_
                    simp only [Act.put, List.setIfInBounds_toArray, List.set_cons_zero, List.set_cons_succ]
                    refine wpAnyH_all (rs := [7]) (by kernel_rfl) (by decide) (fun i hi => ?_)
                    rw [List.mem_singleton] at hi
                    subst hi
                    have k0 := rg.cell_at 0
                    have k1 := rg.cell_at 1
                    have f0 := rg.free 0
                    have f1 := rg.free 1
                    simp only [List.getElem?_cons_zero, List.getElem?_cons_succ] at k0 k1
                    unfold wpOp
                    go_simp
                    have HF := Lib.hid (boxR_store (U := Q10) rg hg ht.out hX)
                    replace hX := below_store (below_store hX hg (i := 0) (.bool tb)) hg (i := 1) (.slice ta tn tc)
                    clear k0 k1 f0 f1 rg ht
                    refine .inl ⟨hX, ?_⟩
                    refine wpAnyH_take_at (i := 8) (v := .int .i64 0) 20 rfl rfl (by kernel_rfl) (by kernel_rfl) (by kernel_rfl) (fun _ _ _ h => h) (.inl ⟨rfl, fun X hX => by go_simp⟩) hX ?_
                    simp only [Act.put, List.setIfInBounds_toArray, List.set_cons_zero, List.set_cons_succ]
                    refine wpAnyH_done (by kernel_rfl) ?_ _
                    go_wp2_with fail
                    go_meet
                    exact HF.out
              case rest =>
                as_aux_lemma =>
                  obtain ⟨g19, tb, ta, tn, tc, rfl, rfl, hg19, r19, hat, hcut⟩ := hcut
                  replace r19 := r19
                  have ht := Lib.hid hat; clear hat hg19
                  obtain ⟨U5, hU5⟩ : ∃ U5, U5 = wc := ⟨_, rfl⟩
                  rw [← hU5] at r19 ht hcut ⊢
                  clear hU5 kr40 kr41 kr50 kr51 kr170 kr171
                  replace r4 := r4.below hcut r4.lt
                  replace r5 := r5.below hcut r5.lt
                  replace r17 := r17.below hcut r17.lt
                  replace hB := hB.trans (hcut.mono hB.size)
                  replace hs := Lib.hid (hs.out.below hcut)
                  replace hU := hU.trans (hcut.mono hU.size)
                  clear hcut
                  obtain ⟨kr40, kr41⟩ := r4.cells
                  obtain ⟨kr50, kr51⟩ := r5.cells
                  obtain ⟨kr170, kr171⟩ := r17.cells
                  obtain ⟨kr190, kr191⟩ := r19.cells
                  go_wp2_with fail
                  refine (api_mul U5 _ _ (R : Int) (R : Int) hs.out hs.out HLr'.out HLr'.out HLp.out).mono ?_
                  rintro e Q11 ⟨pb, pa, pn, pc, rfl, hp, hb⟩
                  (try dsimp only)
                  replace r4 := r4.below hb r4.lt
                  replace r5 := r5.below hb r5.lt
                  replace r17 := r17.below hb r17.lt
                  replace r19 := r19.below hb r19.lt
                  replace hB := hB.trans (hb.mono hB.size)
                  clear kr40 kr41 kr50 kr51 kr170 kr171 kr190 kr191
                  obtain ⟨kr40, kr41⟩ := r4.cells
                  obtain ⟨kr50, kr51⟩ := r5.cells
                  obtain ⟨kr170, kr171⟩ := r17.cells
                  obtain ⟨kr190, kr191⟩ := r19.cells
                  replace hs := Lib.hid (hs.out.below hb)
                  replace ht := Lib.hid (ht.out.below hb)
                  replace hU := hU.trans (hb.mono hU.size)
                  clear hb
                  obtain ⟨Q12, hQ12, r21, hbQ12, hzQ12⟩ := rows1 Q11 24 (.bool pb) (.slice pa pn pc)
                  replace r4 := r4.below hbQ12 r4.lt
                  replace r5 := r5.below hbQ12 r5.lt
                  replace r17 := r17.below hbQ12 r17.lt
                  replace r19 := r19.below hbQ12 r19.lt
                  replace hB := hB.trans (hbQ12.mono hB.size)
                  clear kr40 kr41 kr50 kr51 kr170 kr171 kr190 kr191
                  obtain ⟨kr40, kr41⟩ := r4.cells
                  obtain ⟨kr50, kr51⟩ := r5.cells
                  obtain ⟨kr170, kr171⟩ := r17.cells
                  obtain ⟨kr190, kr191⟩ := r19.cells
                  obtain ⟨kr210, kr211⟩ := r21.cells
                  rw [hQ12] at kr40 kr41 kr50 kr51 kr170 kr171 kr190 kr191 kr210 kr211
                  have HQ12 := Lib.hid hQ12; clear hQ12
                  replace hs := Lib.hid (hs.out.below hbQ12)
                  replace ht := Lib.hid (ht.out.below hbQ12)
                  replace hp := Lib.hid (hp.out.below hbQ12)
                  replace hU := hU.trans (hbQ12.mono hU.size)
                  clear hbQ12 hzQ12
                  go_wp2_with fail
                  rw [← HQ12.out]
                  refine (api_mul Q12 _ _ ((R : Int) + 1) ((R : Int) + 1) ht.out ht.out HLt'.out HLt'.out HLq.out).mono ?_
                  rintro e Q13 ⟨qb, qa, qn, qc, rfl, hq, hb⟩
                  (try dsimp only)
                  replace r4 := r4.below hb r4.lt
                  replace r5 := r5.below hb r5.lt
                  replace r17 := r17.below hb r17.lt
                  replace r19 := r19.below hb r19.lt
                  replace r21 := r21.below hb r21.lt
                  replace hB := hB.trans (hb.mono hB.size)
                  clear kr40 kr41 kr50 kr51 kr170 kr171 kr190 kr191 kr210 kr211
                  obtain ⟨kr40, kr41⟩ := r4.cells
                  obtain ⟨kr50, kr51⟩ := r5.cells
                  obtain ⟨kr170, kr171⟩ := r17.cells
                  obtain ⟨kr190, kr191⟩ := r19.cells
                  obtain ⟨kr210, kr211⟩ := r21.cells
                  replace hs := Lib.hid (hs.out.below hb)
                  replace ht := Lib.hid (ht.out.below hb)
                  replace hp := Lib.hid (hp.out.below hb)
                  replace hU := hU.trans (hb.mono hU.size)
                  clear hb
                  obtain ⟨Q14, hQ14, r23, hbQ14, hzQ14⟩ := rows1 Q13 24 (.bool qb) (.slice qa qn qc)
                  replace r4 := r4.below hbQ14 r4.lt
                  replace r5 := r5.below hbQ14 r5.lt
                  replace r17 := r17.below hbQ14 r17.lt
                  replace r19 := r19.below hbQ14 r19.lt
                  replace r21 := r21.below hbQ14 r21.lt
                  replace hB := hB.trans (hbQ14.mono hB.size)
                  clear kr40 kr41 kr50 kr51 kr170 kr171 kr190 kr191 kr210 kr211
                  obtain ⟨kr40, kr41⟩ := r4.cells
                  obtain ⟨kr50, kr51⟩ := r5.cells
                  obtain ⟨kr170, kr171⟩ := r17.cells
                  obtain ⟨kr190, kr191⟩ := r19.cells
                  obtain ⟨kr210, kr211⟩ := r21.cells
                  obtain ⟨kr230, kr231⟩ := r23.cells
                  rw [hQ14] at kr40 kr41 kr50 kr51 kr170 kr171 kr190 kr191 kr210 kr211 kr230 kr231
                  have HQ14 := Lib.hid hQ14; clear hQ14
                  replace hs := Lib.hid (hs.out.below hbQ14)
                  replace ht := Lib.hid (ht.out.below hbQ14)
                  replace hp := Lib.hid (hp.out.below hbQ14)
                  replace hq := Lib.hid (hq.out.below hbQ14)
                  replace hU := hU.trans (hbQ14.mono hU.size)
                  clear hbQ14 hzQ14
                  go_wp2_with fail
                  rw [← HQ14.out]
                  refine (api_cmp Q14 _ _ ((R : Int) * (R : Int)) x q1 hp.out (HA1.out _ hB) HLp.out HLx'.out Hq1.out).mono ?_
                  rintro e Q15 ⟨rfl, hb⟩
                  (try dsimp only)
                  replace r4 := r4.below hb r4.lt
                  replace r5 := r5.below hb r5.lt
                  replace r17 := r17.below hb r17.lt
                  replace r19 := r19.below hb r19.lt
                  replace r21 := r21.below hb r21.lt
                  replace r23 := r23.below hb r23.lt
                  replace hB := hB.trans (hb.mono hB.size)
                  clear kr40 kr41 kr50 kr51 kr170 kr171 kr190 kr191 kr210 kr211 kr230 kr231
                  obtain ⟨kr40, kr41⟩ := r4.cells
                  obtain ⟨kr50, kr51⟩ := r5.cells
                  obtain ⟨kr170, kr171⟩ := r17.cells
                  obtain ⟨kr190, kr191⟩ := r19.cells
                  obtain ⟨kr210, kr211⟩ := r21.cells
                  obtain ⟨kr230, kr231⟩ := r23.cells
                  replace hs := Lib.hid (hs.out.below hb)
                  replace ht := Lib.hid (ht.out.below hb)
                  replace hp := Lib.hid (hp.out.below hb)
                  replace hq := Lib.hid (hq.out.below hb)
                  replace hU := hU.trans (hb.mono hU.size)
                  clear hb
                  go_wp2_with fail
                  refine (api_cmp Q15 _ _ x (((R : Int) + 1) * ((R : Int) + 1)) (-1) (HA1.out _ hB) hq.out HLx'.out HLq.out Hq2.out).mono ?_
                  rintro e Q16 ⟨rfl, hb⟩
                  (try dsimp only)
                  replace r4 := r4.below hb r4.lt
                  replace r5 := r5.below hb r5.lt
                  replace r17 := r17.below hb r17.lt
                  replace r19 := r19.below hb r19.lt
                  replace r21 := r21.below hb r21.lt
                  replace r23 := r23.below hb r23.lt
                  replace hB := hB.trans (hb.mono hB.size)
                  clear kr40 kr41 kr50 kr51 kr170 kr171 kr190 kr191 kr210 kr211 kr230 kr231
                  obtain ⟨kr40, kr41⟩ := r4.cells
                  obtain ⟨kr50, kr51⟩ := r5.cells
                  obtain ⟨kr170, kr171⟩ := r17.cells
                  obtain ⟨kr190, kr191⟩ := r19.cells
                  obtain ⟨kr210, kr211⟩ := r21.cells
                  obtain ⟨kr230, kr231⟩ := r23.cells
                  replace hs := Lib.hid (hs.out.below hb)
                  replace ht := Lib.hid (ht.out.below hb)
                  replace hp := Lib.hid (hp.out.below hb)
                  replace hq := Lib.hid (hq.out.below hb)
                  replace hU := hU.trans (hb.mono hU.size)
                  clear hb
                  go_wp2_with fail
                  go_meet
                  exact hU
      case rest =>
        as_aux_lemma =>
          obtain ⟨U2, hU2⟩ : ∃ U2, U2 = wc := ⟨_, rfl⟩
          rw [← hU2] at hcut ⊢
          clear hU2 kr40 kr41 kr50 kr51
          replace r4 := r4.below hcut r4.lt
          replace r5 := r5.below hcut r5.lt
          replace hB := hB.trans (hcut.mono hB.size)
          clear hcut
          obtain ⟨kr40, kr41⟩ := r4.cells
          obtain ⟨kr50, kr51⟩ := r5.cells
          obtain ⟨tt, htt⟩ : ∃ t, t = (decide (n < 0) || decide (3000 < n)) := ⟨_, rfl⟩
          obtain ⟨k, hkk, hlk, hkt, hkf⟩ : ∃ k : Nat, k ≤ 3000 ∧ 0 ≤ k ∧ (tt = true → k = 33) ∧ (tt = false → n = (k : Int)) := by
              by_cases h : n < 0 ∨ 3000 < n
              · refine ⟨33, by decide, by decide, fun _ => rfl, fun h2 => ?_⟩
                rw [htt, Bool.or_eq_false_iff, decide_eq_false_iff_not, decide_eq_false_iff_not] at h2; omega
              · refine ⟨n.toNat, by omega, by omega, fun h2 => ?_, fun _ => by omega⟩
                rw [htt, Bool.or_eq_true_iff, decide_eq_true_iff, decide_eq_true_iff] at h2; omega
          have Htt := Lib.hid htt; clear htt
          have Hkt := Lib.hid hkt; clear hkt
          have Hkf := Lib.hid hkf; clear hkf
          go_upto_region 22 with fail
          go_cut [192] (fun sT wx => sT = .bool tt ∧ U2 = wx)
          case first =>
            by_cases hA : n < 0
            · have d1 : decide (n < 0) = true := decide_eq_true hA
              obtain rfl : tt = true := by rw [Htt.out, d1]; rfl
              clear hA Htt Hkt Hkf
              go_wp2_with fail
              go_meet
              exact ⟨rfl, rfl⟩
            · have d1 : decide (n < 0) = false := decide_eq_false hA
              by_cases hA2 : 3000 < n
              · have d2 : decide (3000 < n) = true := decide_eq_true hA2
                obtain rfl : tt = true := by rw [Htt.out, d1, d2]; rfl
                clear hA hA2 Htt Hkt Hkf
                go_wp2_with fail
                go_meet
                exact ⟨rfl, rfl⟩
              · have d2 : decide (3000 < n) = false := decide_eq_false hA2
                obtain rfl : tt = false := by rw [Htt.out, d1, d2]; rfl
                clear hA hA2 Htt Hkt Hkf
                go_wp2_with fail
                go_meet
                exact ⟨rfl, rfl⟩
          case rest =>
            as_aux_lemma =>
              obtain ⟨rfl, rfl⟩ := hcut
              clear Htt
              go_upto_if 192 with fail
              go_cut [2] (fun sK wx => sK = .int .i64 (k : Nat) ∧ U2 = wx)
              case first =>
                cases tt with
                | true =>
                  obtain rfl : k = 33 := Hkt.out rfl
                  clear Hkt Hkf
                  go_wp2_with fail
                  go_meet
                  exact ⟨rfl, rfl⟩
                | false =>
                  have hv := Hkf.out rfl
                  subst hv
                  clear Hkt Hkf
                  go_wp2_with fail
                  go_meet
                  exact ⟨rfl, rfl⟩
              case rest =>
                as_aux_lemma =>
                  obtain ⟨rfl, rfl⟩ := hcut
                  clear Hkt Hkf
                  have HLn := Lib.hid (pow2_len hkk)
                  have HLu := Lib.hid (Nat.le_trans (len_mul HLx.out HLn.out) (show 400 + 94 ≤ 1024 by decide))
                  have hup := fun X (h : Below w.heap.size w X) => api_shift X _ x (k : Int) (HA1.out X h) HLx'.out (by omega) (by omega) (by rw [shift_up_eq]; exact HLu.out)
                  rw [shift_up_eq] at hup
                  have HUp := Lib.hid hup
                  have hdn := fun X v (hv : ApiV X v (x * 2 ^ k)) => api_shift X v (x * 2 ^ k) (-(k : Int)) hv HLu.out (by omega) (by omega) (by rw [shift_down_eq]; exact HLx'.out)
                  rw [shift_down_eq] at hdn
                  have HDn := Lib.hid hdn
                  clear hup hdn
                  go_wp2_with fail
                  refine (HUp.out U2 hB).mono ?_
                  rintro e Q17 ⟨ub, ua, un, uc, rfl, hu, hb⟩
                  (try dsimp only)
                  replace r4 := r4.below hb r4.lt
                  replace r5 := r5.below hb r5.lt
                  replace hB := hB.trans (hb.mono hB.size)
                  clear kr40 kr41 kr50 kr51
                  obtain ⟨kr40, kr41⟩ := r4.cells
                  obtain ⟨kr50, kr51⟩ := r5.cells
                  clear hb
                  obtain ⟨Q18, hQ18, r29, hbQ18, hzQ18⟩ := rows1 Q17 24 (.bool ub) (.slice ua un uc)
                  replace r4 := r4.below hbQ18 r4.lt
                  replace r5 := r5.below hbQ18 r5.lt
                  replace hB := hB.trans (hbQ18.mono hB.size)
                  clear kr40 kr41 kr50 kr51
                  obtain ⟨kr40, kr41⟩ := r4.cells
                  obtain ⟨kr50, kr51⟩ := r5.cells
                  obtain ⟨kr290, kr291⟩ := r29.cells
                  rw [hQ18] at kr40 kr41 kr50 kr51 kr290 kr291
                  have HQ18 := Lib.hid hQ18; clear hQ18
                  replace hu := Lib.hid (hu.out.below hbQ18)
                  clear hbQ18 hzQ18
                  go_wp2_with fail
                  rw [← HQ18.out]
                  refine (HDn.out Q18 _ hu.out).mono ?_
                  rintro e Q19 ⟨db, da, dn, dc, rfl, hd, hb⟩
                  (try dsimp only)
                  replace r4 := r4.below hb r4.lt
                  replace r5 := r5.below hb r5.lt
                  replace r29 := r29.below hb r29.lt
                  replace hB := hB.trans (hb.mono hB.size)
                  clear kr40 kr41 kr50 kr51 kr290 kr291
                  obtain ⟨kr40, kr41⟩ := r4.cells
                  obtain ⟨kr50, kr51⟩ := r5.cells
                  obtain ⟨kr290, kr291⟩ := r29.cells
                  replace hu := Lib.hid (hu.out.below hb)
                  clear hb
                  obtain ⟨Q20, hQ20, r30, hbQ20, hzQ20⟩ := rows1 Q19 24 (.bool db) (.slice da dn dc)
                  replace r4 := r4.below hbQ20 r4.lt
                  replace r5 := r5.below hbQ20 r5.lt
                  replace r29 := r29.below hbQ20 r29.lt
                  replace hB := hB.trans (hbQ20.mono hB.size)
                  clear kr40 kr41 kr50 kr51 kr290 kr291
                  obtain ⟨kr40, kr41⟩ := r4.cells
                  obtain ⟨kr50, kr51⟩ := r5.cells
                  obtain ⟨kr290, kr291⟩ := r29.cells
                  obtain ⟨kr300, kr301⟩ := r30.cells
                  rw [hQ20] at kr40 kr41 kr50 kr51 kr290 kr291 kr300 kr301
                  have HQ20 := Lib.hid hQ20; clear hQ20
                  replace hu := Lib.hid (hu.out.below hbQ20)
                  replace hd := Lib.hid (hd.out.below hbQ20)
                  clear hbQ20 hzQ20
                  as_aux_lemma =>
                    go_wp2_with fail
                    rw [← HQ20.out]
                    refine (api_of Q20 2 (by decide) (by decide)).mono ?_
                    rintro e Q21 ⟨ob, oa, on, oc, rfl, ho, hb⟩
                    (try dsimp only)
                    replace r4 := r4.below hb r4.lt
                    replace r5 := r5.below hb r5.lt
                    replace r29 := r29.below hb r29.lt
                    replace r30 := r30.below hb r30.lt
                    replace hB := hB.trans (hb.mono hB.size)
                    clear kr40 kr41 kr50 kr51 kr290 kr291 kr300 kr301
                    obtain ⟨kr40, kr41⟩ := r4.cells
                    obtain ⟨kr50, kr51⟩ := r5.cells
                    obtain ⟨kr290, kr291⟩ := r29.cells
                    obtain ⟨kr300, kr301⟩ := r30.cells
                    replace hu := Lib.hid (hu.out.below hb)
                    replace hd := Lib.hid (hd.out.below hb)
                    clear hb
                    go_wp2_with fail
                    refine (api_pow2 Q21 _ k ho.out hkk).mono ?_
                    rintro e Q22 ⟨tb, ta, tn, tc, rfl, ht, hb⟩
                    (try dsimp only)
                    replace r4 := r4.below hb r4.lt
                    replace r5 := r5.below hb r5.lt
                    replace r29 := r29.below hb r29.lt
                    replace r30 := r30.below hb r30.lt
                    replace hB := hB.trans (hb.mono hB.size)
                    clear kr40 kr41 kr50 kr51 kr290 kr291 kr300 kr301
                    obtain ⟨kr40, kr41⟩ := r4.cells
                    obtain ⟨kr50, kr51⟩ := r5.cells
                    obtain ⟨kr290, kr291⟩ := r29.cells
                    obtain ⟨kr300, kr301⟩ := r30.cells
                    replace hu := Lib.hid (hu.out.below hb)
                    replace hd := Lib.hid (hd.out.below hb)
                    replace ho := Lib.hid (ho.out.below hb)
                    clear hb
                    obtain ⟨Q23, hQ23, r32, hbQ23, hzQ23⟩ := rows1 Q22 24 (.bool tb) (.slice ta tn tc)
                    replace r4 := r4.below hbQ23 r4.lt
                    replace r5 := r5.below hbQ23 r5.lt
                    replace r29 := r29.below hbQ23 r29.lt
                    replace r30 := r30.below hbQ23 r30.lt
                    replace hB := hB.trans (hbQ23.mono hB.size)
                    clear kr40 kr41 kr50 kr51 kr290 kr291 kr300 kr301
                    obtain ⟨kr40, kr41⟩ := r4.cells
                    obtain ⟨kr50, kr51⟩ := r5.cells
                    obtain ⟨kr290, kr291⟩ := r29.cells
                    obtain ⟨kr300, kr301⟩ := r30.cells
                    obtain ⟨kr320, kr321⟩ := r32.cells
                    rw [hQ23] at kr40 kr41 kr50 kr51 kr290 kr291 kr300 kr301 kr320 kr321
                    have HQ23 := Lib.hid hQ23; clear hQ23
                    replace hu := Lib.hid (hu.out.below hbQ23)
                    replace hd := Lib.hid (hd.out.below hbQ23)
                    replace ho := Lib.hid (ho.out.below hbQ23)
                    replace ht := Lib.hid (ht.out.below hbQ23)
                    clear hbQ23 hzQ23
                    clear ho
                    as_aux_lemma =>
                      go_wp2_with fail
                      rw [← HQ23.out]
                      refine (api_mul Q23 _ _ x ((2 : Int) ^ k) (HA1.out _ hB) ht.out HLx'.out (Nat.le_trans HLn.out (by decide)) HLu.out).mono ?_
                      rintro e Q24 ⟨pb, pa, pn, pc, rfl, hp, hb⟩
                      (try dsimp only)
                      replace r4 := r4.below hb r4.lt
                      replace r5 := r5.below hb r5.lt
                      replace r29 := r29.below hb r29.lt
                      replace r30 := r30.below hb r30.lt
                      replace r32 := r32.below hb r32.lt
                      replace hB := hB.trans (hb.mono hB.size)
                      clear kr40 kr41 kr50 kr51 kr290 kr291 kr300 kr301 kr320 kr321
                      obtain ⟨kr40, kr41⟩ := r4.cells
                      obtain ⟨kr50, kr51⟩ := r5.cells
                      obtain ⟨kr290, kr291⟩ := r29.cells
                      obtain ⟨kr300, kr301⟩ := r30.cells
                      obtain ⟨kr320, kr321⟩ := r32.cells
                      replace hu := Lib.hid (hu.out.below hb)
                      replace hd := Lib.hid (hd.out.below hb)
                      replace ht := Lib.hid (ht.out.below hb)
                      clear hb
                      obtain ⟨Q25, hQ25, r34, hbQ25, hzQ25⟩ := rows1 Q24 24 (.bool pb) (.slice pa pn pc)
                      replace r4 := r4.below hbQ25 r4.lt
                      replace r5 := r5.below hbQ25 r5.lt
                      replace r29 := r29.below hbQ25 r29.lt
                      replace r30 := r30.below hbQ25 r30.lt
                      replace r32 := r32.below hbQ25 r32.lt
                      replace hB := hB.trans (hbQ25.mono hB.size)
                      clear kr40 kr41 kr50 kr51 kr290 kr291 kr300 kr301 kr320 kr321
                      obtain ⟨kr40, kr41⟩ := r4.cells
                      obtain ⟨kr50, kr51⟩ := r5.cells
                      obtain ⟨kr290, kr291⟩ := r29.cells
                      obtain ⟨kr300, kr301⟩ := r30.cells
                      obtain ⟨kr320, kr321⟩ := r32.cells
                      obtain ⟨kr340, kr341⟩ := r34.cells
                      rw [hQ25] at kr40 kr41 kr50 kr51 kr290 kr291 kr300 kr301 kr320 kr321 kr340 kr341
                      have HQ25 := Lib.hid hQ25; clear hQ25
                      replace hu := Lib.hid (hu.out.below hbQ25)
                      replace hd := Lib.hid (hd.out.below hbQ25)
                      replace ht := Lib.hid (ht.out.below hbQ25)
                      replace hp := Lib.hid (hp.out.below hbQ25)
                      clear hbQ25 hzQ25
                      as_aux_lemma =>
                        go_wp2_with fail
                        rw [← HQ25.out]
                        refine (same_api Q25 db b1 da a1 dn nx dc c1 x hd.out (HA1.out _ hB) (Nat.le_trans HLx.out (by decide))).mono ?_
                        rintro e Q26 ⟨rfl, hb⟩
                        (try dsimp only)
                        replace r4 := r4.below hb r4.lt
                        replace r5 := r5.below hb r5.lt
                        replace r29 := r29.below hb r29.lt
                        replace r30 := r30.below hb r30.lt
                        replace r32 := r32.below hb r32.lt
                        replace r34 := r34.below hb r34.lt
                        replace hB := hB.trans (hb.mono hB.size)
                        clear kr40 kr41 kr50 kr51 kr290 kr291 kr300 kr301 kr320 kr321 kr340 kr341
                        obtain ⟨kr40, kr41⟩ := r4.cells
                        obtain ⟨kr50, kr51⟩ := r5.cells
                        obtain ⟨kr290, kr291⟩ := r29.cells
                        obtain ⟨kr300, kr301⟩ := r30.cells
                        obtain ⟨kr320, kr321⟩ := r32.cells
                        obtain ⟨kr340, kr341⟩ := r34.cells
                        replace hu := Lib.hid (hu.out.below hb)
                        replace hd := Lib.hid (hd.out.below hb)
                        replace ht := Lib.hid (ht.out.below hb)
                        replace hp := Lib.hid (hp.out.below hb)
                        clear hb
                        go_wp2_with fail
                        refine (same_api Q26 ub pb ua pa un pn uc pc (x * 2 ^ k) hu.out hp.out (Nat.le_trans HLu.out (by decide))).mono ?_
                        rintro e Q27 ⟨rfl, hb⟩
                        (try dsimp only)
                        replace r4 := r4.below hb r4.lt
                        replace r5 := r5.below hb r5.lt
                        replace r29 := r29.below hb r29.lt
                        replace r30 := r30.below hb r30.lt
                        replace r32 := r32.below hb r32.lt
                        replace r34 := r34.below hb r34.lt
                        replace hB := hB.trans (hb.mono hB.size)
                        clear kr40 kr41 kr50 kr51 kr290 kr291 kr300 kr301 kr320 kr321 kr340 kr341
                        obtain ⟨kr40, kr41⟩ := r4.cells
                        obtain ⟨kr50, kr51⟩ := r5.cells
                        obtain ⟨kr290, kr291⟩ := r29.cells
                        obtain ⟨kr300, kr301⟩ := r30.cells
                        obtain ⟨kr320, kr321⟩ := r32.cells
                        obtain ⟨kr340, kr341⟩ := r34.cells
                        replace hu := Lib.hid (hu.out.below hb)
                        replace hd := Lib.hid (hd.out.below hb)
                        replace ht := Lib.hid (ht.out.below hb)
                        replace hp := Lib.hid (hp.out.below hb)
                        clear hb
                        clear r29 r30 r32 r34 hu hd ht hp HUp HDn HLu HLn kr290 kr291 kr300 kr301 kr320 kr321 kr340 kr341
                        as_aux_lemma =>
                          obtain ⟨N, hN⟩ : ∃ N, N = max (rep x.natAbs).length (rep y.natAbs).length + 1 := ⟨_, rfl⟩
                          have hbl := bits_law (n := N) (x := x) (y := y) (by omega) (rep_length_le.1 (by omega)) (rep_length_le.1 (by omega))
                          have hN4 : N ≤ 401 := by have := HLx.out; have := HLy.out; omega
                          have hL1 := bits_len_law 1 N x y
                          have hL2 := bits_len_law 2 N x y
                          have hL3 := bits_len_law 3 N x y
                          have hb1 := fun X (h : Below w.heap.size w X) => api_bits X _ _ x y 1 N (HA1.out X h) (HA2.out X h) (Nat.le_trans HLx.out (by decide)) (Nat.le_trans HLy.out (by decide)) (.inl rfl) hN
                          have hb2 := fun X (h : Below w.heap.size w X) => api_bits X _ _ x y 2 N (HA1.out X h) (HA2.out X h) (Nat.le_trans HLx.out (by decide)) (Nat.le_trans HLy.out (by decide)) (.inr (.inl rfl)) hN
                          have hb3 := fun X (h : Below w.heap.size w X) => api_bits X _ _ x y 3 N (HA1.out X h) (HA2.out X h) (Nat.le_trans HLx.out (by decide)) (Nat.le_trans HLy.out (by decide)) (.inr (.inr rfl)) hN
                          generalize bitsZ 1 N x y = z1 at *
                          generalize bitsZ 2 N x y = z2 at *
                          generalize bitsZ 3 N x y = z3 at *
                          have HLs := Lib.hid (show (rep (x + y).natAbs).length ≤ 1024 from Nat.le_trans (len_sum HLx.out HLy.out) (by decide))
                          have HE1 := Lib.hid hbl.1
                          have HE2 := Lib.hid hbl.2
                          have HL1 := Lib.hid (show (rep z1.natAbs).length ≤ 1024 by omega)
                          have HL2 := Lib.hid (show (rep z2.natAbs).length ≤ 1024 by omega)
                          have HL3 := Lib.hid (show (rep z3.natAbs).length ≤ 1024 by omega)
                          have HB1 := Lib.hid hb1
                          have HB2 := Lib.hid hb2
                          have HB3 := Lib.hid hb3
                          clear hb1 hb2 hb3 hbl hL1 hL2 hL3 hN hN4
                          go_wp2_with fail
                          refine (HB1.out Q27 hB).mono ?_
                          rintro e Q28 ⟨eb, ea, en, ec, rfl, he, hb⟩
                          (try dsimp only)
                          replace r4 := r4.below hb r4.lt
                          replace r5 := r5.below hb r5.lt
                          replace hB := hB.trans (hb.mono hB.size)
                          clear kr40 kr41 kr50 kr51
                          obtain ⟨kr40, kr41⟩ := r4.cells
                          obtain ⟨kr50, kr51⟩ := r5.cells
                          clear hb
                          obtain ⟨Q29, hQ29, r36, hbQ29, hzQ29⟩ := rows1 Q28 24 (.bool eb) (.slice ea en ec)
                          replace r4 := r4.below hbQ29 r4.lt
                          replace r5 := r5.below hbQ29 r5.lt
                          replace hB := hB.trans (hbQ29.mono hB.size)
                          clear kr40 kr41 kr50 kr51
                          obtain ⟨kr40, kr41⟩ := r4.cells
                          obtain ⟨kr50, kr51⟩ := r5.cells
                          obtain ⟨kr360, kr361⟩ := r36.cells
                          rw [hQ29] at kr40 kr41 kr50 kr51 kr360 kr361
                          have HQ29 := Lib.hid hQ29; clear hQ29
                          replace he := Lib.hid (he.out.below hbQ29)
                          clear hbQ29 hzQ29
                          as_aux_lemma =>
                            go_wp2_with fail
                            rw [← HQ29.out]
                            refine (HB2.out Q29 hB).mono ?_
                            rintro e Q30 ⟨fb, fa, fn, fc, rfl, hf, hb⟩
                            (try dsimp only)
                            replace r4 := r4.below hb r4.lt
                            replace r5 := r5.below hb r5.lt
                            replace r36 := r36.below hb r36.lt
                            replace hB := hB.trans (hb.mono hB.size)
                            clear kr40 kr41 kr50 kr51 kr360 kr361
                            obtain ⟨kr40, kr41⟩ := r4.cells
                            obtain ⟨kr50, kr51⟩ := r5.cells
                            obtain ⟨kr360, kr361⟩ := r36.cells
                            replace he := Lib.hid (he.out.below hb)
                            clear hb
                            obtain ⟨Q31, hQ31, r37, hbQ31, hzQ31⟩ := rows1 Q30 24 (.bool fb) (.slice fa fn fc)
                            replace r4 := r4.below hbQ31 r4.lt
                            replace r5 := r5.below hbQ31 r5.lt
                            replace r36 := r36.below hbQ31 r36.lt
                            replace hB := hB.trans (hbQ31.mono hB.size)
                            clear kr40 kr41 kr50 kr51 kr360 kr361
                            obtain ⟨kr40, kr41⟩ := r4.cells
                            obtain ⟨kr50, kr51⟩ := r5.cells
                            obtain ⟨kr360, kr361⟩ := r36.cells
                            obtain ⟨kr370, kr371⟩ := r37.cells
                            rw [hQ31] at kr40 kr41 kr50 kr51 kr360 kr361 kr370 kr371
                            have HQ31 := Lib.hid hQ31; clear hQ31
                            replace he := Lib.hid (he.out.below hbQ31)
                            replace hf := Lib.hid (hf.out.below hbQ31)
                            clear hbQ31 hzQ31
                            as_aux_lemma =>
                              go_wp2_with fail
                              rw [← HQ31.out]
                              refine (HB3.out Q31 hB).mono ?_
                              rintro e Q32 ⟨jb, ja, jn, jc, rfl, hj, hb⟩
                              (try dsimp only)
                              replace r4 := r4.below hb r4.lt
                              replace r5 := r5.below hb r5.lt
                              replace r36 := r36.below hb r36.lt
                              replace r37 := r37.below hb r37.lt
                              replace hB := hB.trans (hb.mono hB.size)
                              clear kr40 kr41 kr50 kr51 kr360 kr361 kr370 kr371
                              obtain ⟨kr40, kr41⟩ := r4.cells
                              obtain ⟨kr50, kr51⟩ := r5.cells
                              obtain ⟨kr360, kr361⟩ := r36.cells
                              obtain ⟨kr370, kr371⟩ := r37.cells
                              replace he := Lib.hid (he.out.below hb)
                              replace hf := Lib.hid (hf.out.below hb)
                              clear hb
                              obtain ⟨Q33, hQ33, r38, hbQ33, hzQ33⟩ := rows1 Q32 24 (.bool jb) (.slice ja jn jc)
                              replace r4 := r4.below hbQ33 r4.lt
                              replace r5 := r5.below hbQ33 r5.lt
                              replace r36 := r36.below hbQ33 r36.lt
                              replace r37 := r37.below hbQ33 r37.lt
                              replace hB := hB.trans (hbQ33.mono hB.size)
                              clear kr40 kr41 kr50 kr51 kr360 kr361 kr370 kr371
                              obtain ⟨kr40, kr41⟩ := r4.cells
                              obtain ⟨kr50, kr51⟩ := r5.cells
                              obtain ⟨kr360, kr361⟩ := r36.cells
                              obtain ⟨kr370, kr371⟩ := r37.cells
                              obtain ⟨kr380, kr381⟩ := r38.cells
                              rw [hQ33] at kr40 kr41 kr50 kr51 kr360 kr361 kr370 kr371 kr380 kr381
                              have HQ33 := Lib.hid hQ33; clear hQ33
                              replace he := Lib.hid (he.out.below hbQ33)
                              replace hf := Lib.hid (hf.out.below hbQ33)
                              replace hj := Lib.hid (hj.out.below hbQ33)
                              clear hbQ33 hzQ33
                              as_aux_lemma =>
                                go_wp2_with fail
                                rw [← HQ33.out]
                                refine ((show Calls Tryz.prog 37 _ Q33 _ from by have h := api_add Q33 _ _ z1 z2 he.out hf.out HL1.out HL2.out (by rw [HE1.out]; exact HLs.out); rw [HE1.out] at h; exact h)).mono ?_
                                rintro e Q34 ⟨sb, sa, sn, sc, rfl, hs, hb⟩
                                (try dsimp only)
                                replace r4 := r4.below hb r4.lt
                                replace r5 := r5.below hb r5.lt
                                replace r36 := r36.below hb r36.lt
                                replace r37 := r37.below hb r37.lt
                                replace r38 := r38.below hb r38.lt
                                replace hB := hB.trans (hb.mono hB.size)
                                clear kr40 kr41 kr50 kr51 kr360 kr361 kr370 kr371 kr380 kr381
                                obtain ⟨kr40, kr41⟩ := r4.cells
                                obtain ⟨kr50, kr51⟩ := r5.cells
                                obtain ⟨kr360, kr361⟩ := r36.cells
                                obtain ⟨kr370, kr371⟩ := r37.cells
                                obtain ⟨kr380, kr381⟩ := r38.cells
                                replace he := Lib.hid (he.out.below hb)
                                replace hf := Lib.hid (hf.out.below hb)
                                replace hj := Lib.hid (hj.out.below hb)
                                clear hb
                                obtain ⟨Q35, hQ35, r39, hbQ35, hzQ35⟩ := rows1 Q34 24 (.bool sb) (.slice sa sn sc)
                                replace r4 := r4.below hbQ35 r4.lt
                                replace r5 := r5.below hbQ35 r5.lt
                                replace r36 := r36.below hbQ35 r36.lt
                                replace r37 := r37.below hbQ35 r37.lt
                                replace r38 := r38.below hbQ35 r38.lt
                                replace hB := hB.trans (hbQ35.mono hB.size)
                                clear kr40 kr41 kr50 kr51 kr360 kr361 kr370 kr371 kr380 kr381
                                obtain ⟨kr40, kr41⟩ := r4.cells
                                obtain ⟨kr50, kr51⟩ := r5.cells
                                obtain ⟨kr360, kr361⟩ := r36.cells
                                obtain ⟨kr370, kr371⟩ := r37.cells
                                obtain ⟨kr380, kr381⟩ := r38.cells
                                obtain ⟨kr390, kr391⟩ := r39.cells
                                rw [hQ35] at kr40 kr41 kr50 kr51 kr360 kr361 kr370 kr371 kr380 kr381 kr390 kr391
                                have HQ35 := Lib.hid hQ35; clear hQ35
                                replace he := Lib.hid (he.out.below hbQ35)
                                replace hf := Lib.hid (hf.out.below hbQ35)
                                replace hj := Lib.hid (hj.out.below hbQ35)
                                replace hs := Lib.hid (hs.out.below hbQ35)
                                clear hbQ35 hzQ35
                                as_aux_lemma =>
                                  go_wp2_with fail
                                  rw [← HQ35.out]
                                  refine (api_add Q35 _ _ x y (HA1.out _ hB) (HA2.out _ hB) HLx'.out HLy'.out HLs.out).mono ?_
                                  rintro e Q36 ⟨tb, ta, tn, tc, rfl, ht, hb⟩
                                  (try dsimp only)
                                  replace r4 := r4.below hb r4.lt
                                  replace r5 := r5.below hb r5.lt
                                  replace r36 := r36.below hb r36.lt
                                  replace r37 := r37.below hb r37.lt
                                  replace r38 := r38.below hb r38.lt
                                  replace r39 := r39.below hb r39.lt
                                  replace hB := hB.trans (hb.mono hB.size)
                                  clear kr40 kr41 kr50 kr51 kr360 kr361 kr370 kr371 kr380 kr381 kr390 kr391
                                  obtain ⟨kr40, kr41⟩ := r4.cells
                                  obtain ⟨kr50, kr51⟩ := r5.cells
                                  obtain ⟨kr360, kr361⟩ := r36.cells
                                  obtain ⟨kr370, kr371⟩ := r37.cells
                                  obtain ⟨kr380, kr381⟩ := r38.cells
                                  obtain ⟨kr390, kr391⟩ := r39.cells
                                  replace he := Lib.hid (he.out.below hb)
                                  replace hf := Lib.hid (hf.out.below hb)
                                  replace hj := Lib.hid (hj.out.below hb)
                                  replace hs := Lib.hid (hs.out.below hb)
                                  clear hb
                                  obtain ⟨Q37, hQ37, r40, hbQ37, hzQ37⟩ := rows1 Q36 24 (.bool tb) (.slice ta tn tc)
                                  replace r4 := r4.below hbQ37 r4.lt
                                  replace r5 := r5.below hbQ37 r5.lt
                                  replace r36 := r36.below hbQ37 r36.lt
                                  replace r37 := r37.below hbQ37 r37.lt
                                  replace r38 := r38.below hbQ37 r38.lt
                                  replace r39 := r39.below hbQ37 r39.lt
                                  replace hB := hB.trans (hbQ37.mono hB.size)
                                  clear kr40 kr41 kr50 kr51 kr360 kr361 kr370 kr371 kr380 kr381 kr390 kr391
                                  obtain ⟨kr40, kr41⟩ := r4.cells
                                  obtain ⟨kr50, kr51⟩ := r5.cells
                                  obtain ⟨kr360, kr361⟩ := r36.cells
                                  obtain ⟨kr370, kr371⟩ := r37.cells
                                  obtain ⟨kr380, kr381⟩ := r38.cells
                                  obtain ⟨kr390, kr391⟩ := r39.cells
                                  obtain ⟨kr400, kr401⟩ := r40.cells
                                  rw [hQ37] at kr40 kr41 kr50 kr51 kr360 kr361 kr370 kr371 kr380 kr381 kr390 kr391 kr400 kr401
                                  have HQ37 := Lib.hid hQ37; clear hQ37
                                  replace he := Lib.hid (he.out.below hbQ37)
                                  replace hf := Lib.hid (hf.out.below hbQ37)
                                  replace hj := Lib.hid (hj.out.below hbQ37)
                                  replace hs := Lib.hid (hs.out.below hbQ37)
                                  replace ht := Lib.hid (ht.out.below hbQ37)
                                  clear hbQ37 hzQ37
                                  as_aux_lemma =>
                                    go_wp2_with fail
                                    rw [← HQ37.out]
                                    refine ((show Calls Tryz.prog 40 _ Q37 _ from by have h := api_sub Q37 _ _ z2 z1 hf.out he.out HL2.out HL1.out (by rw [HE2.out]; exact HL3.out); rw [HE2.out] at h; exact h)).mono ?_
                                    rintro e Q38 ⟨db, da, dn, dc, rfl, hd, hb⟩
                                    (try dsimp only)
                                    replace r4 := r4.below hb r4.lt
                                    replace r5 := r5.below hb r5.lt
                                    replace r36 := r36.below hb r36.lt
                                    replace r37 := r37.below hb r37.lt
                                    replace r38 := r38.below hb r38.lt
                                    replace r39 := r39.below hb r39.lt
                                    replace r40 := r40.below hb r40.lt
                                    replace hB := hB.trans (hb.mono hB.size)
                                    clear kr40 kr41 kr50 kr51 kr360 kr361 kr370 kr371 kr380 kr381 kr390 kr391 kr400 kr401
                                    obtain ⟨kr40, kr41⟩ := r4.cells
                                    obtain ⟨kr50, kr51⟩ := r5.cells
                                    obtain ⟨kr360, kr361⟩ := r36.cells
                                    obtain ⟨kr370, kr371⟩ := r37.cells
                                    obtain ⟨kr380, kr381⟩ := r38.cells
                                    obtain ⟨kr390, kr391⟩ := r39.cells
                                    obtain ⟨kr400, kr401⟩ := r40.cells
                                    replace he := Lib.hid (he.out.below hb)
                                    replace hf := Lib.hid (hf.out.below hb)
                                    replace hj := Lib.hid (hj.out.below hb)
                                    replace hs := Lib.hid (hs.out.below hb)
                                    replace ht := Lib.hid (ht.out.below hb)
                                    clear hb
                                    obtain ⟨Q39, hQ39, r42, hbQ39, hzQ39⟩ := rows1 Q38 24 (.bool db) (.slice da dn dc)
                                    replace r4 := r4.below hbQ39 r4.lt
                                    replace r5 := r5.below hbQ39 r5.lt
                                    replace r36 := r36.below hbQ39 r36.lt
                                    replace r37 := r37.below hbQ39 r37.lt
                                    replace r38 := r38.below hbQ39 r38.lt
                                    replace r39 := r39.below hbQ39 r39.lt
                                    replace r40 := r40.below hbQ39 r40.lt
                                    replace hB := hB.trans (hbQ39.mono hB.size)
                                    clear kr40 kr41 kr50 kr51 kr360 kr361 kr370 kr371 kr380 kr381 kr390 kr391 kr400 kr401
                                    obtain ⟨kr40, kr41⟩ := r4.cells
                                    obtain ⟨kr50, kr51⟩ := r5.cells
                                    obtain ⟨kr360, kr361⟩ := r36.cells
                                    obtain ⟨kr370, kr371⟩ := r37.cells
                                    obtain ⟨kr380, kr381⟩ := r38.cells
                                    obtain ⟨kr390, kr391⟩ := r39.cells
                                    obtain ⟨kr400, kr401⟩ := r40.cells
                                    obtain ⟨kr420, kr421⟩ := r42.cells
                                    rw [hQ39] at kr40 kr41 kr50 kr51 kr360 kr361 kr370 kr371 kr380 kr381 kr390 kr391 kr400 kr401 kr420 kr421
                                    have HQ39 := Lib.hid hQ39; clear hQ39
                                    replace he := Lib.hid (he.out.below hbQ39)
                                    replace hf := Lib.hid (hf.out.below hbQ39)
                                    replace hj := Lib.hid (hj.out.below hbQ39)
                                    replace hs := Lib.hid (hs.out.below hbQ39)
                                    replace ht := Lib.hid (ht.out.below hbQ39)
                                    replace hd := Lib.hid (hd.out.below hbQ39)
                                    clear hbQ39 hzQ39
                                    as_aux_lemma =>
                                      go_wp2_with fail
                                      rw [← HQ39.out]
                                      refine (same_api Q39 sb tb sa ta sn tn sc tc (x + y) hs.out ht.out (Nat.le_trans HLs.out (by decide))).mono ?_
                                      rintro e Q40 ⟨rfl, hb⟩
                                      (try dsimp only)
                                      replace r4 := r4.below hb r4.lt
                                      replace r5 := r5.below hb r5.lt
                                      replace r36 := r36.below hb r36.lt
                                      replace r37 := r37.below hb r37.lt
                                      replace r38 := r38.below hb r38.lt
                                      replace r39 := r39.below hb r39.lt
                                      replace r40 := r40.below hb r40.lt
                                      replace r42 := r42.below hb r42.lt
                                      replace hB := hB.trans (hb.mono hB.size)
                                      clear kr40 kr41 kr50 kr51 kr360 kr361 kr370 kr371 kr380 kr381 kr390 kr391 kr400 kr401 kr420 kr421
                                      obtain ⟨kr40, kr41⟩ := r4.cells
                                      obtain ⟨kr50, kr51⟩ := r5.cells
                                      obtain ⟨kr360, kr361⟩ := r36.cells
                                      obtain ⟨kr370, kr371⟩ := r37.cells
                                      obtain ⟨kr380, kr381⟩ := r38.cells
                                      obtain ⟨kr390, kr391⟩ := r39.cells
                                      obtain ⟨kr400, kr401⟩ := r40.cells
                                      obtain ⟨kr420, kr421⟩ := r42.cells
                                      replace he := Lib.hid (he.out.below hb)
                                      replace hf := Lib.hid (hf.out.below hb)
                                      replace hj := Lib.hid (hj.out.below hb)
                                      replace hs := Lib.hid (hs.out.below hb)
                                      replace ht := Lib.hid (ht.out.below hb)
                                      replace hd := Lib.hid (hd.out.below hb)
                                      clear hb
                                      go_wp2_with fail
                                      refine (same_api Q40 db jb da ja dn jn dc jc z3 hd.out hj.out (Nat.le_trans HL3.out (by decide))).mono ?_
                                      rintro e Q41 ⟨rfl, hb⟩
                                      (try dsimp only)
                                      replace r4 := r4.below hb r4.lt
                                      replace r5 := r5.below hb r5.lt
                                      replace r36 := r36.below hb r36.lt
                                      replace r37 := r37.below hb r37.lt
                                      replace r38 := r38.below hb r38.lt
                                      replace r39 := r39.below hb r39.lt
                                      replace r40 := r40.below hb r40.lt
                                      replace r42 := r42.below hb r42.lt
                                      replace hB := hB.trans (hb.mono hB.size)
                                      clear kr40 kr41 kr50 kr51 kr360 kr361 kr370 kr371 kr380 kr381 kr390 kr391 kr400 kr401 kr420 kr421
                                      obtain ⟨kr40, kr41⟩ := r4.cells
                                      obtain ⟨kr50, kr51⟩ := r5.cells
                                      obtain ⟨kr360, kr361⟩ := r36.cells
                                      obtain ⟨kr370, kr371⟩ := r37.cells
                                      obtain ⟨kr380, kr381⟩ := r38.cells
                                      obtain ⟨kr390, kr391⟩ := r39.cells
                                      obtain ⟨kr400, kr401⟩ := r40.cells
                                      obtain ⟨kr420, kr421⟩ := r42.cells
                                      replace he := Lib.hid (he.out.below hb)
                                      replace hf := Lib.hid (hf.out.below hb)
                                      replace hj := Lib.hid (hj.out.below hb)
                                      replace hs := Lib.hid (hs.out.below hb)
                                      replace ht := Lib.hid (ht.out.below hb)
                                      replace hd := Lib.hid (hd.out.below hb)
                                      clear hb
                                      clear r36 r37 r38 r39 r40 r42 he hf hj hs ht hd HB1 HB2 HB3 HL1 HL2 HL3 HLs HE1 HE2 kr360 kr361 kr370 kr371 kr380 kr381 kr390 kr391 kr400 kr401 kr420 kr421
                                      as_aux_lemma =>
                                        obtain ⟨tt, htt⟩ : ∃ t, t = (decide (base < 2) || decide (36 < base)) := ⟨_, rfl⟩
                                        obtain ⟨m, hkm, hlm, hkt, hkf⟩ : ∃ k : Nat, k ≤ 36 ∧ 2 ≤ k ∧ (tt = true → k = 10) ∧ (tt = false → base = (k : Int)) := by
                                            by_cases h : base < 2 ∨ 36 < base
                                            · refine ⟨10, by decide, by decide, fun _ => rfl, fun h2 => ?_⟩
                                              rw [htt, Bool.or_eq_false_iff, decide_eq_false_iff_not, decide_eq_false_iff_not] at h2; omega
                                            · refine ⟨base.toNat, by omega, by omega, fun h2 => ?_, fun _ => by omega⟩
                                              rw [htt, Bool.or_eq_true_iff, decide_eq_true_iff, decide_eq_true_iff] at h2; omega
                                        have Htt := Lib.hid htt; clear htt
                                        have Hkt := Lib.hid hkt; clear hkt
                                        have Hkf := Lib.hid hkf; clear hkf
                                        go_upto_region 38 with fail
                                        go_cut [319] (fun sT wx => sT = .bool tt ∧ Q41 = wx)
                                        case first =>
                                          by_cases hA : base < 2
                                          · have d1 : decide (base < 2) = true := decide_eq_true hA
                                            obtain rfl : tt = true := by rw [Htt.out, d1]; rfl
                                            clear hA Htt Hkt Hkf
                                            go_wp2_with fail
                                            go_meet
                                            exact ⟨rfl, rfl⟩
                                          · have d1 : decide (base < 2) = false := decide_eq_false hA
                                            by_cases hA2 : 36 < base
                                            · have d2 : decide (36 < base) = true := decide_eq_true hA2
                                              obtain rfl : tt = true := by rw [Htt.out, d1, d2]; rfl
                                              clear hA hA2 Htt Hkt Hkf
                                              go_wp2_with fail
                                              go_meet
                                              exact ⟨rfl, rfl⟩
                                            · have d2 : decide (36 < base) = false := decide_eq_false hA2
                                              obtain rfl : tt = false := by rw [Htt.out, d1, d2]; rfl
                                              clear hA hA2 Htt Hkt Hkf
                                              go_wp2_with fail
                                              go_meet
                                              exact ⟨rfl, rfl⟩
                                        case rest =>
                                          as_aux_lemma =>
                                            obtain ⟨rfl, rfl⟩ := hcut
                                            clear Htt
                                            go_upto_if 319 with fail
                                            go_cut [3] (fun sK wx => sK = .int .i64 (m : Nat) ∧ Q41 = wx)
                                            case first =>
                                              cases tt with
                                              | true =>
                                                obtain rfl : m = 10 := Hkt.out rfl
                                                clear Hkt Hkf
                                                go_wp2_with fail
                                                go_meet
                                                exact ⟨rfl, rfl⟩
                                              | false =>
                                                have hv := Hkf.out rfl
                                                subst hv
                                                clear Hkt Hkf
                                                go_wp2_with fail
                                                go_meet
                                                exact ⟨rfl, rfl⟩
                                            case rest =>
                                              as_aux_lemma =>
                                                obtain ⟨rfl, rfl⟩ := hcut
                                                clear Hkt Hkf
                                                obtain ⟨S, hS⟩ : ∃ S : ByteArray, S = ⟨(utxt m x).toArray⟩ := ⟨_, rfl⟩
                                                have HS := Lib.hid hS; clear hS
                                                go_wp2_with fail
                                                refine (api_print Q41 _ x m S (HA1.out _ hB) HLx'.out hlm hkm HS.out).mono ?_
                                                rintro e Q42 ⟨rfl, hb⟩
                                                (try dsimp only)
                                                replace r4 := r4.below hb r4.lt
                                                replace r5 := r5.below hb r5.lt
                                                replace hB := hB.trans (hb.mono hB.size)
                                                clear kr40 kr41 kr50 kr51
                                                obtain ⟨kr40, kr41⟩ := r4.cells
                                                obtain ⟨kr50, kr51⟩ := r5.cells
                                                clear hb
                                                as_aux_lemma =>
                                                  go_wp2_with fail
                                                  refine (api_parse Q42 x m S HLx'.out hlm hkm HS.out).mono ?_
                                                  rintro e Q43 ⟨pb, pa, pn, pc, rfl, hp, hb⟩
                                                  (try dsimp only)
                                                  replace r4 := r4.below hb r4.lt
                                                  replace r5 := r5.below hb r5.lt
                                                  replace hB := hB.trans (hb.mono hB.size)
                                                  clear kr40 kr41 kr50 kr51
                                                  obtain ⟨kr40, kr41⟩ := r4.cells
                                                  obtain ⟨kr50, kr51⟩ := r5.cells
                                                  clear hb
                                                  obtain ⟨Q44, hQ44, r45, hbQ44, hzQ44⟩ := rows1 Q43 24 (.bool pb) (.slice pa pn pc)
                                                  replace r4 := r4.below hbQ44 r4.lt
                                                  replace r5 := r5.below hbQ44 r5.lt
                                                  replace hB := hB.trans (hbQ44.mono hB.size)
                                                  clear kr40 kr41 kr50 kr51
                                                  obtain ⟨kr40, kr41⟩ := r4.cells
                                                  obtain ⟨kr50, kr51⟩ := r5.cells
                                                  obtain ⟨kr450, kr451⟩ := r45.cells
                                                  rw [hQ44] at kr40 kr41 kr50 kr51 kr450 kr451
                                                  have HQ44 := Lib.hid hQ44; clear hQ44
                                                  replace hp := Lib.hid (hp.out.below hbQ44)
                                                  clear hbQ44 hzQ44
                                                  as_aux_lemma =>
                                                    go_wp2_with fail
                                                    rw [← HQ44.out]
                                                    refine (same_api Q44 b1 pb a1 pa nx pn c1 pc x (HA1.out _ hB) hp.out (Nat.le_trans HLx.out (by decide))).mono ?_
                                                    rintro e Q45 ⟨rfl, hb⟩
                                                    (try dsimp only)
                                                    replace r4 := r4.below hb r4.lt
                                                    replace r5 := r5.below hb r5.lt
                                                    replace r45 := r45.below hb r45.lt
                                                    replace hB := hB.trans (hb.mono hB.size)
                                                    clear kr40 kr41 kr50 kr51 kr450 kr451
                                                    obtain ⟨kr40, kr41⟩ := r4.cells
                                                    obtain ⟨kr50, kr51⟩ := r5.cells
                                                    obtain ⟨kr450, kr451⟩ := r45.cells
                                                    replace hp := Lib.hid (hp.out.below hb)
                                                    clear hb
                                                    go_wp2_with fail
                                                    refine (law_awake Q45).mono ?_
                                                    rintro e Q46 ⟨rfl, hb⟩
                                                    (try dsimp only)
                                                    replace r4 := r4.below hb r4.lt
                                                    replace r5 := r5.below hb r5.lt
                                                    replace r45 := r45.below hb r45.lt
                                                    replace hB := hB.trans (hb.mono hB.size)
                                                    clear kr40 kr41 kr50 kr51 kr450 kr451
                                                    obtain ⟨kr40, kr41⟩ := r4.cells
                                                    obtain ⟨kr50, kr51⟩ := r5.cells
                                                    obtain ⟨kr450, kr451⟩ := r45.cells
                                                    replace hp := Lib.hid (hp.out.below hb)
                                                    clear hb
                                                    go_wp2_with fail
                                                    go_ret
                                                    exact ⟨rfl, hB⟩

end Go.Proofs.YtbffpkmfhkphdaaGreatDoor
