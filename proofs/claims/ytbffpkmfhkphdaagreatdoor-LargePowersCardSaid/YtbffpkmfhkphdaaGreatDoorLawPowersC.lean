/- The walk of the law LargePowers: it answers true. -/
import Derived.Test.YtbffpkmfhkphdaaGreatDoorPowersAidC
import Derived.Test.YtbffpkmfhkphdaaGreatDoorGX35
import Derived.Test.YtbffpkmfhkphdaaGreatDoorGX29
import Derived.Deep.DeepCutAuto
set_option linter.unusedVariables false
set_option linter.unusedSimpArgs false
namespace Go.Proofs.YtbffpkmfhkphdaaGreatDoor
open Go Go.RowKit Limb

theorem Ans.long {X : World} {b : Bool} {a : Option Addr} {n c : Nat} {k z : Int} (h : Ans X b a n c k z) (hl : 1024 < (rep z.natAbs).length) : b = false ∧ a = none ∧ n = 0 ∧ c = 0 ∧ k = 2 := by
  rcases h with ⟨h1, _⟩ | ⟨_, h⟩
  · omega
  · exact h
theorem Ans.short {X : World} {b : Bool} {a : Option Addr} {n c : Nat} {k z : Int} (h : Ans X b a n c k z) (hl : (rep z.natAbs).length ≤ 1024) : k = 0 ∧ ApiV X (.agg #[.bool b, .slice a n c]) z := by
  rcases h with ⟨_, h⟩ | ⟨h1, _⟩
  · exact h
  · omega
theorem rows3e (w : World) (t : TypeId) (a0 a1 b0 b1 c0 c1 : Value) : ∃ W, W = ((w.alloc (.cells #[a0, a1] t)).alloc (.cells #[b0, b1] t)).alloc (.cells #[c0, c1] t) ∧
    Row W w.heap.size t [a0, a1] ∧ Row W (w.heap.size + 1) t [b0, b1] ∧ Row W (w.heap.size + 1 + 1) t [c0, c1] ∧ Below w.heap.size w W ∧ W.heap.size = w.heap.size + 1 + 1 + 1 := by
  obtain ⟨r0, r1, r2, h1, h2⟩ := rows3 w t a0 a1 b0 b1 c0 c1
  exact ⟨_, rfl, r0, r1, r2, h1, h2⟩
/-- The two answers that are asked for only where they are not too long, in two variables. -/
def TwoAt (U : World) (g h : Nat) (cg zg cm zm : Int) (mm : Bool) (s16 s17 : Value) (X : World) : Prop :=
  ∃ db da dm dc dk mb ma mn mc mk, s16 = .int .i64 dk ∧ s17 = .int .i64 mk ∧
    Row X g 24 [.bool db, .slice da dm dc] ∧ Row X h 24 [.bool mb, .slice ma mn mc] ∧
    (mm = false → AnsC cg X db da dm dc dk zg ∧ AnsC cm X mb ma mn mc mk zm) ∧ Below g U X

/-- The roots' law, by which a long root is held. -/
theorem root_cmp {N : Nat} : cmpZ (((rootN N : Nat) : Int) * (rootN N : Nat)) (N : Nat) ≤ 0 ∧ cmpZ ((((rootN N : Nat) : Int) + 1) * (((rootN N : Nat) : Int) + 1)) (N : Nat) = 1 := by
  obtain ⟨h1, h2⟩ := rootN_is N
  have e1 : ((rootN N : Nat) : Int) * (rootN N : Nat) ≤ (N : Nat) := by rw [← Int.natCast_mul]; omega
  have e2 : ((N : Nat) : Int) < (((rootN N : Nat) : Int) + 1) * (((rootN N : Nat) : Int) + 1) := by
    have : (((rootN N : Nat) : Int) + 1) * (((rootN N : Nat) : Int) + 1) = (((rootN N + 1) * (rootN N + 1) : Nat) : Int) := by rw [Int.natCast_mul, Int.natCast_add]; rfl
    rw [this]; omega
  unfold cmpZ
  constructor
  · split
    · decide
    · rw [if_pos (by omega)]; decide
  · rw [if_neg (by omega), if_neg (by omega)]
theorem gcd_abs {b1 b2 : Bool} {N M : Nat} : Nat.gcd (signed b1 N).natAbs (signed b2 M).natAbs = Nat.gcd N M := by rw [signed_abs, signed_abs]

theorem succ_len {R : Nat} (h : (rep ((R : Nat) : Int).natAbs).length ≤ 1024) : (rep ((R : Int) + 1).natAbs).length ≤ 1025 := by
  rw [Int.natAbs_natCast] at h
  have h1 := rep_length_le.1 h
  have e : ((R : Int) + 1).natAbs = R + 1 := by omega
  rw [e]
  exact rep_length_le.2 (Nat.lt_of_le_of_lt (show R + 1 ≤ Limb.W 1024 from h1) (W_lt (by decide)))
theorem prod_lenc {p q : Int} {c : Nat} (hp : (rep p.natAbs).length ≤ c) (hq : (rep q.natAbs).length ≤ c) : (rep (p * q).natAbs).length ≤ c + c := by
  refine rep_length_le.2 ?_
  rw [Int.natAbs_mul, W_add]
  exact Nat.mul_lt_mul'' (rep_length_le.1 hp) (rep_length_le.1 hq)
theorem prod_len {p q : Int} (hp : (rep p.natAbs).length ≤ 1024) (hq : (rep q.natAbs).length ≤ 1024) : (rep (p * q).natAbs).length ≤ 1024 + 1024 := prod_lenc hp hq
theorem prod_len5 {p q : Int} (hp : (rep p.natAbs).length ≤ 1025) (hq : (rep q.natAbs).length ≤ 1025) : (rep (p * q).natAbs).length ≤ 1025 + 1025 := prod_lenc hp hq

set_option maxHeartbeats 32000000 in
set_option maxRecDepth 1000000 in
theorem law_powers (w : World) (b1 b2 b3 : Bool) (a1 a2 a3 : Option Addr) (l1 l2 l3 : List Nat) (nx ny nz c1 c2 c3 : Nat) (n : Int) (h1 : Came w b1 a1 nx l1) (h2 : Came w b2 a2 ny l2) (h3 : Came w b3 a3 nz l3) (hc1 : nx ≤ c1) (hc2 : ny ≤ c2) (hc3 : nz ≤ c3)
    (hn1 : -9223372036854775808 ≤ n) (hn2 : n ≤ 9223372036854775807) :
    Calls Tryz.prog 4 #[.agg #[.bool b1, .slice a1 nx c1], .agg #[.bool b2, .slice a2 ny c2], .agg #[.bool b3, .slice a3 nz c3], .int .i64 n] w fun e w' => e = .returned (.bool true) ∧ Below w.heap.size w w' := by
  obtain ⟨W, hWe, r4, r5, r6, hB, hszW⟩ := rows3e w 24 (.bool b1) (.slice a1 nx c1) (.bool b2) (.slice a2 ny c2) (.bool b3) (.slice a3 nz c3)
  have HWe := Lib.hid hWe; clear hWe
  obtain ⟨x, hx⟩ : ∃ x, x = signed b1 (val l1) := ⟨_, rfl⟩
  obtain ⟨y, hy⟩ : ∃ y, y = signed b2 (val l2) := ⟨_, rfl⟩
  obtain ⟨z, hz⟩ : ∃ z, z = signed b3 (val l3) := ⟨_, rfl⟩
  have HA1 := Lib.hid (fun (hm : mayB b1 l1 = true) X (h : Below w.heap.size w X) => show ApiV X (.agg #[.bool b1, .slice a1 nx c1]) x from by rw [hx]; exact (h1.api hm hc1).below h)
  have HL1 := Lib.hid (fun (hm : mayB b1 l1 = true) => show (rep x.natAbs).length ≤ 1024 from by rw [hx]; exact h1.len hm)
  have HA2 := Lib.hid (fun (hm : mayB b2 l2 = true) X (h : Below w.heap.size w X) => show ApiV X (.agg #[.bool b2, .slice a2 ny c2]) y from by rw [hy]; exact (h2.api hm hc2).below h)
  have HL2 := Lib.hid (fun (hm : mayB b2 l2 = true) => show (rep y.natAbs).length ≤ 1024 from by rw [hy]; exact h2.len hm)
  have HA3 := Lib.hid (fun (hm : mayB b3 l3 = true) X (h : Below w.heap.size w X) => show ApiV X (.agg #[.bool b3, .slice a3 nz c3]) z from by rw [hz]; exact (h3.api hm hc3).below h)
  have HL3 := Lib.hid (fun (hm : mayB b3 l3 = true) => show (rep z.natAbs).length ≤ 1024 from by rw [hz]; exact h3.len hm)
  have HZ0 := Lib.hid (fun (hm : mayB b3 l3 = true) (h0 : nz ≠ 0) => show z ≠ 0 from by rw [hz, Ne, signed_zero h3.2.1 hm, ← h3.2.2.1]; exact h0)
  have hpw := fun X (h : Below w.heap.size w X) => since_pow (c := c1) (W := w) h1 hx hn1 hn2 h
  have hsq := fun X (h : Below w.heap.size w X) => since_sqrt (c := c1) (W := w) h1 h
  have hgc := fun X (h : Below w.heap.size w X) => since_gcd (c1 := c1) (c2 := c2) (W := w) h1 h2 h
  have hmp := fun X (h : Below w.heap.size w X) => since_modpow (c1 := c1) (c2 := c2) (c3 := c3) (W := w) h1 h2 h3 hx hy hz h
  have hm1 := fun X (h : Below w.heap.size w X) => since_may (c := c1) (W := w) h1 h
  have hm2 := fun X (h : Below w.heap.size w X) => since_may (c := c2) (W := w) h2 h
  have hm3 := fun X (h : Below w.heap.size w X) => since_may (c := c3) (W := w) h3 h
  obtain ⟨N1, hN1⟩ : ∃ N, N = val l1 := ⟨_, rfl⟩
  obtain ⟨G, hG⟩ : ∃ G : Nat, G = Nat.gcd (val l1) (val l2) := ⟨_, rfl⟩
  have HG := Lib.hid (show Nat.gcd x.natAbs y.natAbs = G from by rw [hx, hy, hG]; exact gcd_abs)
  have HN1 := Lib.hid (show x.natAbs = N1 from by rw [hx, hN1]; exact signed_abs _ _)
  have HX1 := Lib.hid (fun (h : b1 = false) => show x = (N1 : Nat) from by rw [hx, hN1, h]; rfl)
  rw [← hN1] at hsq
  rw [← hG] at hgc
  obtain ⟨ma, hma⟩ : ∃ m, m = mayB b1 l1 := ⟨_, rfl⟩
  obtain ⟨mb, hmb⟩ : ∃ m, m = mayB b2 l2 := ⟨_, rfl⟩
  obtain ⟨mc, hmc⟩ : ∃ m, m = mayB b3 l3 := ⟨_, rfl⟩
  rw [← hma] at hpw hsq hgc hmp hm1 HA1 HL1
  rw [← hmb] at hgc hmp hm2 HA2 HL2
  rw [← hmc] at hmp hm3 HA3 HL3 HZ0
  have HPw := Lib.hid hpw
  have HSq := Lib.hid hsq
  have HGc := Lib.hid hgc
  have HMp := Lib.hid hmp
  have Hm1 := Lib.hid hm1
  have Hm2 := Lib.hid hm2
  have Hm3 := Lib.hid hm3
  clear hpw hsq hgc hmp hm1 hm2 hm3 hx hy hz hN1 hG hma hmb hmc h1 h2 h3 hc1 hc2 hc3 hszW
  go_enter Tryz.func4, Tryz.ntmps4
  obtain ⟨kr40, kr41⟩ := r4.cells
  obtain ⟨kr50, kr51⟩ := r5.cells
  obtain ⟨kr60, kr61⟩ := r6.cells
  go_wp2_with fail
  rw [← HWe.out]
  refine (law_awake W).mono ?_
  rintro e V0 ⟨rfl, hb⟩
  (try dsimp only)
  replace r4 := r4.below hb r4.lt
  replace r5 := r5.below hb r5.lt
  replace r6 := r6.below hb r6.lt
  replace hB := hB.trans (hb.mono hB.size)
  clear kr40 kr41 kr50 kr51 kr60 kr61
  obtain ⟨kr40, kr41⟩ := r4.cells
  obtain ⟨kr50, kr51⟩ := r5.cells
  obtain ⟨kr60, kr61⟩ := r6.cells
  clear hb
  go_wp2_with fail
  refine (HPw.out V0 hB).mono ?_
  rintro e V ⟨pb, pa, pm, pc, pk, rfl, hp, hb⟩
  (try dsimp only)
  replace r4 := r4.below hb r4.lt
  replace r5 := r5.below hb r5.lt
  replace r6 := r6.below hb r6.lt
  replace hB := hB.trans (hb.mono hB.size)
  clear kr40 kr41 kr50 kr51 kr60 kr61
  obtain ⟨kr40, kr41⟩ := r4.cells
  obtain ⟨kr50, kr51⟩ := r5.cells
  obtain ⟨kr60, kr61⟩ := r6.cells
  clear hb
  obtain ⟨V1, hV1, r9, hbV1, hzV1⟩ := rows1 V 24 (.bool pb) (.slice pa pm pc)
  replace r4 := r4.below hbV1 r4.lt
  replace r5 := r5.below hbV1 r5.lt
  replace r6 := r6.below hbV1 r6.lt
  replace hB := hB.trans (hbV1.mono hB.size)
  clear kr40 kr41 kr50 kr51 kr60 kr61
  obtain ⟨kr40, kr41⟩ := r4.cells
  obtain ⟨kr50, kr51⟩ := r5.cells
  obtain ⟨kr60, kr61⟩ := r6.cells
  obtain ⟨kr90, kr91⟩ := r9.cells
  rw [hV1] at kr40 kr41 kr50 kr51 kr60 kr61 kr90 kr91
  have HV1 := Lib.hid hV1; clear hV1
  replace hp := Lib.hid (hp.out.below hbV1)
  go_wp2_with fail
  rw [← HV1.out]
  refine (HSq.out V1 hB).mono ?_
  rintro e V2 ⟨sb, sa, sm, sc, sk, rfl, hs, hb⟩
  (try dsimp only)
  replace r4 := r4.below hb r4.lt
  replace r5 := r5.below hb r5.lt
  replace r6 := r6.below hb r6.lt
  replace r9 := r9.below hb r9.lt
  replace hB := hB.trans (hb.mono hB.size)
  clear kr40 kr41 kr50 kr51 kr60 kr61 kr90 kr91
  obtain ⟨kr40, kr41⟩ := r4.cells
  obtain ⟨kr50, kr51⟩ := r5.cells
  obtain ⟨kr60, kr61⟩ := r6.cells
  obtain ⟨kr90, kr91⟩ := r9.cells
  replace hp := Lib.hid (hp.out.below hb)
  clear hb
  obtain ⟨U, hU, r11, hbU, hzU⟩ := rows1 V2 24 (.bool sb) (.slice sa sm sc)
  replace r4 := r4.below hbU r4.lt
  replace r5 := r5.below hbU r5.lt
  replace r6 := r6.below hbU r6.lt
  replace r9 := r9.below hbU r9.lt
  replace hB := hB.trans (hbU.mono hB.size)
  clear kr40 kr41 kr50 kr51 kr60 kr61 kr90 kr91
  obtain ⟨kr40, kr41⟩ := r4.cells
  obtain ⟨kr50, kr51⟩ := r5.cells
  obtain ⟨kr60, kr61⟩ := r6.cells
  obtain ⟨kr90, kr91⟩ := r9.cells
  obtain ⟨kr110, kr111⟩ := r11.cells
  rw [hU] at kr40 kr41 kr50 kr51 kr60 kr61 kr90 kr91 kr110 kr111
  have HU := Lib.hid hU; clear hU
  replace hp := Lib.hid (hp.out.below hbU)
  replace hs := Lib.hid (hs.out.below hbU)
  clear hbV1 hbU hzV1 hzU HPw HSq
  go_upto_region 5 with fail
  rw [← HU.out]
  clear kr40 kr41 kr50 kr51 kr60 kr61 kr90 kr91 kr110 kr111
  obtain ⟨kr40, kr41⟩ := r4.cells
  obtain ⟨kr50, kr51⟩ := r5.cells
  obtain ⟨kr60, kr61⟩ := r6.cells
  obtain ⟨kr90, kr91⟩ := r9.cells
  obtain ⟨kr110, kr111⟩ := r11.cells
  go_cut [13] (fun s13 wx => (∃ mm : Bool, s13 = .bool mm ∧ (mm = true → ma = true ∧ mb = true)) ∧ Below U.heap.size U wx)
  case first =>
    as_aux_lemma =>
      have hU : Below U.heap.size U U := Below.refl _ _
      clear hp hs HMp HGc Hm3 r9 r11 kr90 kr91 kr110 kr111
      cases ma with
      | false =>
        go_wp2_with fail
        refine (Hm1.out U hB).mono ?_
        rintro e Y ⟨rfl, hb⟩
        (try dsimp only)
        replace r4 := r4.below hb r4.lt
        replace r5 := r5.below hb r5.lt
        replace r6 := r6.below hb r6.lt
        replace hB := hB.trans (hb.mono hB.size)
        clear kr40 kr41 kr50 kr51 kr60 kr61
        obtain ⟨kr40, kr41⟩ := r4.cells
        obtain ⟨kr50, kr51⟩ := r5.cells
        obtain ⟨kr60, kr61⟩ := r6.cells
        replace hU := hU.trans (hb.mono hU.size)
        clear hb
        go_wp2_with fail
        go_meet
        exact ⟨⟨false, rfl, fun h => by cases h⟩, hU⟩
      | true =>
        cases mb with
        | false =>
          go_wp2_with fail
          refine (Hm1.out U hB).mono ?_
          rintro e Y ⟨rfl, hb⟩
          (try dsimp only)
          replace r4 := r4.below hb r4.lt
          replace r5 := r5.below hb r5.lt
          replace r6 := r6.below hb r6.lt
          replace hB := hB.trans (hb.mono hB.size)
          clear kr40 kr41 kr50 kr51 kr60 kr61
          obtain ⟨kr40, kr41⟩ := r4.cells
          obtain ⟨kr50, kr51⟩ := r5.cells
          obtain ⟨kr60, kr61⟩ := r6.cells
          replace hU := hU.trans (hb.mono hU.size)
          clear hb
          go_wp2_with fail
          refine (Hm2.out Y hB).mono ?_
          rintro e Y2 ⟨rfl, hb⟩
          (try dsimp only)
          replace r4 := r4.below hb r4.lt
          replace r5 := r5.below hb r5.lt
          replace r6 := r6.below hb r6.lt
          replace hB := hB.trans (hb.mono hB.size)
          clear kr40 kr41 kr50 kr51 kr60 kr61
          obtain ⟨kr40, kr41⟩ := r4.cells
          obtain ⟨kr50, kr51⟩ := r5.cells
          obtain ⟨kr60, kr61⟩ := r6.cells
          replace hU := hU.trans (hb.mono hU.size)
          clear hb
          go_wp2_with fail
          go_meet
          exact ⟨⟨false, rfl, fun h => by cases h⟩, hU⟩
        | true =>
          go_wp2_with fail
          refine (Hm1.out U hB).mono ?_
          rintro e Y ⟨rfl, hb⟩
          (try dsimp only)
          replace r4 := r4.below hb r4.lt
          replace r5 := r5.below hb r5.lt
          replace r6 := r6.below hb r6.lt
          replace hB := hB.trans (hb.mono hB.size)
          clear kr40 kr41 kr50 kr51 kr60 kr61
          obtain ⟨kr40, kr41⟩ := r4.cells
          obtain ⟨kr50, kr51⟩ := r5.cells
          obtain ⟨kr60, kr61⟩ := r6.cells
          replace hU := hU.trans (hb.mono hU.size)
          clear hb
          go_wp2_with fail
          refine (Hm2.out Y hB).mono ?_
          rintro e Y2 ⟨rfl, hb⟩
          (try dsimp only)
          replace r4 := r4.below hb r4.lt
          replace r5 := r5.below hb r5.lt
          replace r6 := r6.below hb r6.lt
          replace hB := hB.trans (hb.mono hB.size)
          clear kr40 kr41 kr50 kr51 kr60 kr61
          obtain ⟨kr40, kr41⟩ := r4.cells
          obtain ⟨kr50, kr51⟩ := r5.cells
          obtain ⟨kr60, kr61⟩ := r6.cells
          replace hU := hU.trans (hb.mono hU.size)
          clear hb
          go_wp2_with fail
          go_meet
          exact ⟨⟨_, rfl, fun _ => ⟨rfl, rfl⟩⟩, hU⟩
  case rest =>
    obtain ⟨⟨mm, rfl, hmm⟩, hcut⟩ := hcut
    have Hmm := Lib.hid hmm; clear hmm
    obtain ⟨U1, hU1⟩ : ∃ U1, U1 = wc := ⟨_, rfl⟩
    rw [← hU1] at hcut ⊢
    clear hU1 kr40 kr41 kr50 kr51 kr60 kr61 kr90 kr91 kr110 kr111
    replace r4 := r4.below hcut r4.lt
    replace r5 := r5.below hcut r5.lt
    replace r6 := r6.below hcut r6.lt
    replace r9 := r9.below hcut r9.lt
    replace r11 := r11.below hcut r11.lt
    replace hB := hB.trans (hcut.mono hB.size)
    replace hp := Lib.hid (hp.out.below hcut)
    replace hs := Lib.hid (hs.out.below hcut)
    clear hcut
    obtain ⟨kr40, kr41⟩ := r4.cells
    obtain ⟨kr50, kr51⟩ := r5.cells
    obtain ⟨kr60, kr61⟩ := r6.cells
    obtain ⟨kr90, kr91⟩ := r9.cells
    obtain ⟨kr110, kr111⟩ := r11.cells
    obtain ⟨Y, hY, r14, r15, hbY, hzY⟩ := rows2 U1 24 (.bool false) (.slice none 0 0) (.bool false) (.slice none 0 0)
    obtain ⟨gd, hgd⟩ : ∃ gd, gd = U1.heap.size := ⟨_, rfl⟩
    have hgw : w.heap.size + 1 + 1 < gd := by have := r6.lt; omega
    rw [← hgd] at r14 r15 hzY
    have HY := Lib.hid hY; clear hY
    have HGd := Lib.hid hgd; clear hgd kr40 kr41 kr50 kr51 kr60 kr61 kr90 kr91 kr110 kr111
    go_upto_if 55 with fail
    rw [← HY.out, ← HGd.out]
    go_cut [16, 17] (fun s16 s17 wx => TwoAt Y gd (gd + 1) (gcdCode (ma && mb)) (G : Nat) (modpowCode (ma && (mb && mc)) b2 nz) (pmod x z y.natAbs) mm s16 s17 wx)
    case first =>
      as_aux_lemma =>
        clear hp hs Hm1 Hm2 Hm3 r9 r11 HY
        replace r4 := r4.below hbY r4.lt
        replace r5 := r5.below hbY r5.lt
        replace r6 := r6.below hbY r6.lt
        replace hB := hB.trans (hbY.mono hB.size)
        cases mm with
        | true =>
          go_wp2_with fail
          go_meet
          exact ⟨false, none, 0, 0, 0, false, none, 0, 0, 0, rfl, rfl, r14, r15, fun h => (by cases h), Below.refl _ _⟩
        | false =>
          have hU : Below gd Y Y := Below.refl _ _
          obtain ⟨kr40, kr41⟩ := r4.cells
          obtain ⟨kr50, kr51⟩ := r5.cells
          obtain ⟨kr60, kr61⟩ := r6.cells
          go_wp2_with fail
          refine (HGc.out Y hB).mono ?_
          rintro e Y1 ⟨db, da, dm, dc, dk, rfl, hd, hb⟩
          replace r4 := r4.below hb r4.lt
          replace r5 := r5.below hb r5.lt
          replace r6 := r6.below hb r6.lt
          replace r14 := r14.below hb r14.lt
          replace r15 := r15.below hb r15.lt
          replace hB := hB.trans (hb.mono hB.size)
          have hYs : gd ≤ Y.heap.size := by omega
          replace hU := hU.trans (hb.mono hYs)
          clear hb
          have z0 := r14.cell_at 0
          have z1 := r14.cell_at 1
          have f0 := r14.free 0
          have f1 := r14.free 1
          simp only [List.getElem?_cons_zero, List.getElem?_cons_succ] at z0 z1
          obtain ⟨Z, hZ⟩ : ∃ Z, Z = (Y1.setCell ⟨gd, 0, none⟩ (.bool db)).setCell ⟨gd, 1, none⟩ (.slice da dm dc) := ⟨_, rfl⟩
          replace hd := Lib.hid (show AnsC (gcdCode (ma && mb)) Z db da dm dc dk (G : Nat) from by rw [hZ]; exact hd.out.kept (fun _ _ hl => hl.pair r14 _ _))
          replace hB : Below w.heap.size w Z := by rw [hZ]; exact below_store (below_store hB (by omega) _) (by omega) _
          replace hU : Below gd Y Z := by rw [hZ]; exact below_store (below_store hU (Nat.le_refl _) _) (Nat.le_refl _) _
          have n15 : gd + 1 ≠ gd := by omega
          have n4 : w.heap.size ≠ gd := by omega
          have n5 : w.heap.size + 1 ≠ gd := by omega
          have n6 : w.heap.size + 1 + 1 ≠ gd := by omega
          replace r14 : Row Z gd 24 [.bool db, .slice da dm dc] := by rw [hZ]; exact (r14.store_any 0 _).store_any 1 _
          replace r15 : Row Z (gd + 1) 24 [.bool false, .slice none 0 0] := by rw [hZ]; exact (r15.other (by exact n15) _).other (by exact n15) _
          replace r4 : Row Z w.heap.size 24 [.bool b1, .slice a1 nx c1] := by rw [hZ]; exact (r4.other (by exact n4) _).other (by exact n4) _
          replace r5 : Row Z (w.heap.size + 1) 24 [.bool b2, .slice a2 ny c2] := by rw [hZ]; exact (r5.other (by exact n5) _).other (by exact n5) _
          replace r6 : Row Z (w.heap.size + 1 + 1) 24 [.bool b3, .slice a3 nz c3] := by rw [hZ]; exact (r6.other (by exact n6) _).other (by exact n6) _
          clear kr40 kr41 kr50 kr51 kr60 kr61
          obtain ⟨kr40, kr41⟩ := r4.cells
          obtain ⟨kr50, kr51⟩ := r5.cells
          obtain ⟨kr60, kr61⟩ := r6.cells
          rw [hZ] at kr40 kr41 kr50 kr51 kr60 kr61
          have HZ := Lib.hid hZ; clear hZ
          go_wp2_with fail
          rw [← HZ.out]
          clear z0 z1 f0 f1
          refine (HMp.out Z hB).mono ?_
          rintro e Y2 ⟨eb, ea, em, ec, ek, rfl, he, hb⟩
          clear r4 r5 r6
          replace hd := Lib.hid (hd.out.below hb)
          have hZs : gd ≤ Z.heap.size := Nat.le_of_lt r14.lt
          replace r14 := r14.below hb r14.lt
          replace r15 := r15.below hb r15.lt
          replace hB := hB.trans (hb.mono hB.size)
          replace hU := hU.trans (hb.mono hZs)
          clear hb kr40 kr41 kr50 kr51 kr60 kr61
          have z0 := r15.cell_at 0
          have z1 := r15.cell_at 1
          have f0 := r15.free 0
          have f1 := r15.free 1
          simp only [List.getElem?_cons_zero, List.getElem?_cons_succ] at z0 z1
          have HF : Hid (TwoAt Y gd (gd + 1) (gcdCode (ma && mb)) (G : Nat) (modpowCode (ma && (mb && mc)) b2 nz) (pmod x z y.natAbs) false (.int .i64 dk) (.int .i64 ek) ((Y2.setCell ⟨gd + 1, 0, none⟩ (.bool eb)).setCell ⟨gd + 1, 1, none⟩ (.slice ea em ec))) :=
            Lib.hid ⟨db, da, dm, dc, dk, eb, ea, em, ec, ek, rfl, rfl, (r14.other (by exact Ne.symm n15) _).other (by exact Ne.symm n15) _, (r15.store_any 0 _).store_any 1 _, fun _ => ⟨hd.out.kept (fun _ _ hl => hl.pair r15 _ _), he.out.kept (fun _ _ hl => hl.pair r15 _ _)⟩,
              below_store (below_store hU (Nat.le_succ _) _) (Nat.le_succ _) _⟩
          clear r14 r15 hd he hU hB n15 n4 n5 n6 hgw hzY
          go_wp2_with fail
          go_meet
          exact HF.out
    case rest =>
      clear r14 r15
      obtain ⟨db, da, dm, dc, dk, eb, ea, em, ec, ek, rfl, rfl, r14, r15, htwo, hcut⟩ := hcut
      have HT := Lib.hid htwo; clear htwo
      obtain ⟨U2, hU2⟩ : ∃ U2, U2 = wc := ⟨_, rfl⟩
      rw [← hU2] at hcut r14 r15 HT ⊢
      clear hU2 HGc HMp HY
      have hcut' : Below U1.heap.size U1 U2 := hbY.trans (by rw [← HGd.out]; exact hcut)
      replace r4 := r4.below hcut' r4.lt
      replace r5 := r5.below hcut' r5.lt
      replace r6 := r6.below hcut' r6.lt
      replace r9 := r9.below hcut' r9.lt
      replace r11 := r11.below hcut' r11.lt
      replace hB := hB.trans (hcut'.mono hB.size)
      replace hp := Lib.hid (hp.out.below hcut')
      replace hs := Lib.hid (hs.out.below hcut')
      clear hcut hcut' hbY hzY
      obtain ⟨kr40, kr41⟩ := r4.cells
      obtain ⟨kr50, kr51⟩ := r5.cells
      obtain ⟨kr60, kr61⟩ := r6.cells
      obtain ⟨kr90, kr91⟩ := r9.cells
      obtain ⟨kr110, kr111⟩ := r11.cells
      obtain ⟨kr140, kr141⟩ := r14.cells
      obtain ⟨kr150, kr151⟩ := r15.cells
      cases ma with
      | false =>
        as_aux_lemma =>
          obtain rfl : mm = false := by cases mm with | false => rfl | true => exact absurd (Hmm.out rfl).1 (by decide)
          obtain ⟨hd, he⟩ := HT.out rfl
          obtain ⟨rfl, rfl, rfl, rfl, rfl⟩ := hp.out.no (d := 1) rfl (by decide)
          obtain ⟨rfl, rfl, rfl, rfl, rfl⟩ := hs.out.no (d := 1) rfl (by decide)
          obtain ⟨rfl, rfl, rfl, rfl, rfl⟩ := hd.no (d := 1) rfl (by decide)
          obtain ⟨rfl, rfl, rfl, rfl, rfl⟩ := he.no (d := 1) rfl (by decide)
          clear hp hs hd he HT
          go_wp2_with fail
          refine (Hm1.out U2 hB).mono ?_
          rintro e Q1 ⟨rfl, hb⟩
          (try dsimp only)
          replace r4 := r4.below hb r4.lt
          replace r5 := r5.below hb r5.lt
          replace r6 := r6.below hb r6.lt
          replace r9 := r9.below hb r9.lt
          replace r11 := r11.below hb r11.lt
          replace r14 := r14.below hb r14.lt
          replace r15 := r15.below hb r15.lt
          replace hB := hB.trans (hb.mono hB.size)
          clear kr40 kr41 kr50 kr51 kr60 kr61 kr90 kr91 kr110 kr111 kr140 kr141 kr150 kr151
          obtain ⟨kr40, kr41⟩ := r4.cells
          obtain ⟨kr50, kr51⟩ := r5.cells
          obtain ⟨kr60, kr61⟩ := r6.cells
          obtain ⟨kr90, kr91⟩ := r9.cells
          obtain ⟨kr110, kr111⟩ := r11.cells
          obtain ⟨kr140, kr141⟩ := r14.cells
          obtain ⟨kr150, kr151⟩ := r15.cells
          clear hb
          go_wp2_with fail
          refine (is_no2 Q1).mono ?_
          rintro e Q2 ⟨rfl, hb⟩
          (try dsimp only)
          replace r4 := r4.below hb r4.lt
          replace r5 := r5.below hb r5.lt
          replace r6 := r6.below hb r6.lt
          replace r9 := r9.below hb r9.lt
          replace r11 := r11.below hb r11.lt
          replace r14 := r14.below hb r14.lt
          replace r15 := r15.below hb r15.lt
          replace hB := hB.trans (hb.mono hB.size)
          clear kr40 kr41 kr50 kr51 kr60 kr61 kr90 kr91 kr110 kr111 kr140 kr141 kr150 kr151
          obtain ⟨kr40, kr41⟩ := r4.cells
          obtain ⟨kr50, kr51⟩ := r5.cells
          obtain ⟨kr60, kr61⟩ := r6.cells
          obtain ⟨kr90, kr91⟩ := r9.cells
          obtain ⟨kr110, kr111⟩ := r11.cells
          obtain ⟨kr140, kr141⟩ := r14.cells
          obtain ⟨kr150, kr151⟩ := r15.cells
          clear hb
          go_wp2_with fail
          refine (is_no2 Q2).mono ?_
          rintro e Q3 ⟨rfl, hb⟩
          (try dsimp only)
          replace r4 := r4.below hb r4.lt
          replace r5 := r5.below hb r5.lt
          replace r6 := r6.below hb r6.lt
          replace r9 := r9.below hb r9.lt
          replace r11 := r11.below hb r11.lt
          replace r14 := r14.below hb r14.lt
          replace r15 := r15.below hb r15.lt
          replace hB := hB.trans (hb.mono hB.size)
          clear kr40 kr41 kr50 kr51 kr60 kr61 kr90 kr91 kr110 kr111 kr140 kr141 kr150 kr151
          obtain ⟨kr40, kr41⟩ := r4.cells
          obtain ⟨kr50, kr51⟩ := r5.cells
          obtain ⟨kr60, kr61⟩ := r6.cells
          obtain ⟨kr90, kr91⟩ := r9.cells
          obtain ⟨kr110, kr111⟩ := r11.cells
          obtain ⟨kr140, kr141⟩ := r14.cells
          obtain ⟨kr150, kr151⟩ := r15.cells
          clear hb
          go_wp2_with fail
          refine (is_no2 Q3).mono ?_
          rintro e Q4 ⟨rfl, hb⟩
          (try dsimp only)
          replace r4 := r4.below hb r4.lt
          replace r5 := r5.below hb r5.lt
          replace r6 := r6.below hb r6.lt
          replace r9 := r9.below hb r9.lt
          replace r11 := r11.below hb r11.lt
          replace r14 := r14.below hb r14.lt
          replace r15 := r15.below hb r15.lt
          replace hB := hB.trans (hb.mono hB.size)
          clear kr40 kr41 kr50 kr51 kr60 kr61 kr90 kr91 kr110 kr111 kr140 kr141 kr150 kr151
          obtain ⟨kr40, kr41⟩ := r4.cells
          obtain ⟨kr50, kr51⟩ := r5.cells
          obtain ⟨kr60, kr61⟩ := r6.cells
          obtain ⟨kr90, kr91⟩ := r9.cells
          obtain ⟨kr110, kr111⟩ := r11.cells
          obtain ⟨kr140, kr141⟩ := r14.cells
          obtain ⟨kr150, kr151⟩ := r15.cells
          clear hb
          go_wp2_with fail
          refine (is_no2 Q4).mono ?_
          rintro e Q5 ⟨rfl, hb⟩
          (try dsimp only)
          replace r4 := r4.below hb r4.lt
          replace r5 := r5.below hb r5.lt
          replace r6 := r6.below hb r6.lt
          replace r9 := r9.below hb r9.lt
          replace r11 := r11.below hb r11.lt
          replace r14 := r14.below hb r14.lt
          replace r15 := r15.below hb r15.lt
          replace hB := hB.trans (hb.mono hB.size)
          clear kr40 kr41 kr50 kr51 kr60 kr61 kr90 kr91 kr110 kr111 kr140 kr141 kr150 kr151
          obtain ⟨kr40, kr41⟩ := r4.cells
          obtain ⟨kr50, kr51⟩ := r5.cells
          obtain ⟨kr60, kr61⟩ := r6.cells
          obtain ⟨kr90, kr91⟩ := r9.cells
          obtain ⟨kr110, kr111⟩ := r11.cells
          obtain ⟨kr140, kr141⟩ := r14.cells
          obtain ⟨kr150, kr151⟩ := r15.cells
          clear hb
          go_wp2_with fail
          go_ret
          exact ⟨rfl, hB⟩
      | true =>
        as_aux_lemma =>
          go_wp2_with fail
          refine (Hm1.out U2 hB).mono ?_
          rintro e Q6 ⟨rfl, hb⟩
          (try dsimp only)
          replace r4 := r4.below hb r4.lt
          replace r5 := r5.below hb r5.lt
          replace r6 := r6.below hb r6.lt
          replace r9 := r9.below hb r9.lt
          replace r11 := r11.below hb r11.lt
          replace r14 := r14.below hb r14.lt
          replace r15 := r15.below hb r15.lt
          replace hB := hB.trans (hb.mono hB.size)
          clear kr40 kr41 kr50 kr51 kr60 kr61 kr90 kr91 kr110 kr111 kr140 kr141 kr150 kr151
          obtain ⟨kr40, kr41⟩ := r4.cells
          obtain ⟨kr50, kr51⟩ := r5.cells
          obtain ⟨kr60, kr61⟩ := r6.cells
          obtain ⟨kr90, kr91⟩ := r9.cells
          obtain ⟨kr110, kr111⟩ := r11.cells
          obtain ⟨kr140, kr141⟩ := r14.cells
          obtain ⟨kr150, kr151⟩ := r15.cells
          replace hp := Lib.hid (hp.out.below hb)
          replace hs := Lib.hid (hs.out.below hb)
          have HT' : Hid (mm = false → AnsC (gcdCode (true && mb)) Q6 db da dm dc dk (G : Nat) ∧ AnsC (modpowCode (true && (mb && mc)) b2 nz) Q6 eb ea em ec ek (pmod x z y.natAbs)) := Lib.hid (fun h => ⟨(HT.out h).1.below hb, (HT.out h).2.below hb⟩)
          clear hb
          clear HT
          have HT := HT'
          clear HT'
          go_upto_if 95 with fail
          go_cut [] (fun wx => Below Q6.heap.size Q6 wx)
          case first =>
            as_aux_lemma =>
              have hU : Below Q6.heap.size Q6 Q6 := Below.refl _ _
              clear hs HT r5 r6 r11 r14 r15 kr50 kr51 kr60 kr61 kr110 kr111 kr140 kr141 kr150 kr151
              by_cases hneg : n < 0
              · obtain ⟨rfl, rfl, rfl, rfl, rfl⟩ := hp.out.no (d := 92) (by unfold powCode; rw [if_neg (by decide), if_pos hneg]) (by decide)
                have d1 : decide (n < 0) = true := decide_eq_true hneg
                clear hp
                go_wp2_with fail
                refine (same_nil Q6).mono ?_
                rintro e Q7 ⟨rfl, hb⟩
                (try dsimp only)
                replace r4 := r4.below hb r4.lt
                replace r9 := r9.below hb r9.lt
                replace hB := hB.trans (hb.mono hB.size)
                clear kr40 kr41 kr90 kr91
                obtain ⟨kr40, kr41⟩ := r4.cells
                obtain ⟨kr90, kr91⟩ := r9.cells
                replace hU := hU.trans (hb.mono hU.size)
                clear hb
                go_wp2_with fail
                go_meet
                exact hU
              · have hA := hp.out.yes (by unfold powCode; rw [if_neg (by decide), if_neg hneg])
                have d1 : decide (n < 0) = false := decide_eq_false hneg
                obtain ⟨k, rfl⟩ : ∃ k : Nat, n = (k : Int) := ⟨n.toNat, by omega⟩
                rw [Int.toNat_natCast] at hA
                have d1' : decide ((k : Int) < 0) = false := d1
                have hk2 : k ≤ 9223372036854775807 := by omega
                have HRp := Lib.hid (fun X (h : Below w.heap.size w X) => since_rpow X _ x k (HA1.out (by trivial) X h) (HL1.out (by trivial)) hk2)
                clear hp hneg hk2
                by_cases hl : (rep (x ^ k).natAbs).length ≤ 1024
                · obtain ⟨rfl, hA'⟩ := hA.short hl
                  have HP := Lib.hid hA'
                  have HRq := Lib.hid (fun X (h : Below w.heap.size w X) => (HRp.out X h).mono fun e X' he => show ∃ b a n c, e = .returned (.tuple #[.agg #[.bool b, .slice a n c], .bool true]) ∧ Hid (ApiV X' (.agg #[.bool b, .slice a n c]) (x ^ k)) ∧ Below X.heap.size X X' from by obtain ⟨b, a, n, c, k1, k2, k3⟩ := he; exact ⟨b, a, n, c, by rw [k1, decide_eq_true hl], Lib.hid (k2 hl), k3⟩)
                  have HLl := Lib.hid hl
                  clear hA hA' hl HRp
                  go_wp2_with fail
                  refine (HRq.out Q6 hB).mono ?_
                  rintro e Q8 ⟨wb, wa, wn, wc', rfl, hw, hb⟩
                  (try dsimp only)
                  replace r4 := r4.below hb r4.lt
                  replace r9 := r9.below hb r9.lt
                  replace hB := hB.trans (hb.mono hB.size)
                  clear kr40 kr41 kr90 kr91
                  obtain ⟨kr40, kr41⟩ := r4.cells
                  obtain ⟨kr90, kr91⟩ := r9.cells
                  replace HP := Lib.hid (HP.out.below hb)
                  replace hU := hU.trans (hb.mono hU.size)
                  clear hb
                  obtain ⟨Qz, hQz, r18, hbQz, hzQz⟩ := rows1 Q8 24 (.bool wb) (.slice wa wn wc')
                  replace r4 := r4.below hbQz r4.lt
                  replace r9 := r9.below hbQz r9.lt
                  replace hB := hB.trans (hbQz.mono hB.size)
                  clear kr40 kr41 kr90 kr91
                  obtain ⟨kr40, kr41⟩ := r4.cells
                  obtain ⟨kr90, kr91⟩ := r9.cells
                  obtain ⟨kr180, kr181⟩ := r18.cells
                  rw [hQz] at kr40 kr41 kr90 kr91 kr180 kr181
                  have HQz := Lib.hid hQz; clear hQz
                  replace hU := hU.trans (hbQz.mono hU.size)
                  replace HP := Lib.hid (HP.out.below hbQz)
                  replace hw := Lib.hid (hw.out.below hbQz)
                  clear hbQz hzQz
                  go_wp2_with fail
                  rw [← HQz.out]
                  refine (is_any Qz pb wb pa wa pm pc wn wc' 0 (x ^ k) (.inl ⟨HLl.out, rfl, HP.out⟩) hw.out).mono ?_
                  rintro e Q9 ⟨rfl, hb⟩
                  (try dsimp only)
                  replace r4 := r4.below hb r4.lt
                  replace r9 := r9.below hb r9.lt
                  replace r18 := r18.below hb r18.lt
                  replace hB := hB.trans (hb.mono hB.size)
                  clear kr40 kr41 kr90 kr91 kr180 kr181
                  obtain ⟨kr40, kr41⟩ := r4.cells
                  obtain ⟨kr90, kr91⟩ := r9.cells
                  obtain ⟨kr180, kr181⟩ := r18.cells
                  replace hU := hU.trans (hb.mono hU.size)
                  clear hb
                  go_wp2_with fail
                  go_meet
                  exact hU
                · obtain ⟨rfl, rfl, rfl, rfl, rfl⟩ := hA.long (by omega)
                  have HRq := Lib.hid (fun X (h : Below w.heap.size w X) => (HRp.out X h).mono fun e X' he => show ∃ b a n c, e = .returned (.tuple #[.agg #[.bool b, .slice a n c], .bool false]) ∧ Below X.heap.size X X' from by obtain ⟨b, a, n, c, k1, k2, k3⟩ := he; exact ⟨b, a, n, c, by rw [k1, decide_eq_false hl], k3⟩)
                  clear hA hl HRp
                  go_wp2_with fail
                  refine (HRq.out Q6 hB).mono ?_
                  rintro e Q10 ⟨wb, wa, wn, wc', rfl, hb⟩
                  (try dsimp only)
                  replace r4 := r4.below hb r4.lt
                  replace r9 := r9.below hb r9.lt
                  replace hB := hB.trans (hb.mono hB.size)
                  clear kr40 kr41 kr90 kr91
                  obtain ⟨kr40, kr41⟩ := r4.cells
                  obtain ⟨kr90, kr91⟩ := r9.cells
                  replace hU := hU.trans (hb.mono hU.size)
                  clear hb
                  obtain ⟨Qz, hQz, r18, hbQz, hzQz⟩ := rows1 Q10 24 (.bool wb) (.slice wa wn wc')
                  replace r4 := r4.below hbQz r4.lt
                  replace r9 := r9.below hbQz r9.lt
                  replace hB := hB.trans (hbQz.mono hB.size)
                  clear kr40 kr41 kr90 kr91
                  obtain ⟨kr40, kr41⟩ := r4.cells
                  obtain ⟨kr90, kr91⟩ := r9.cells
                  obtain ⟨kr180, kr181⟩ := r18.cells
                  rw [hQz] at kr40 kr41 kr90 kr91 kr180 kr181
                  have HQz := Lib.hid hQz; clear hQz
                  replace hU := hU.trans (hbQz.mono hU.size)
                  clear hbQz hzQz
                  go_wp2_with fail
                  rw [← HQz.out]
                  refine (same_nil Qz).mono ?_
                  rintro e Q11 ⟨rfl, hb⟩
                  (try dsimp only)
                  replace r4 := r4.below hb r4.lt
                  replace r9 := r9.below hb r9.lt
                  replace r18 := r18.below hb r18.lt
                  replace hB := hB.trans (hb.mono hB.size)
                  clear kr40 kr41 kr90 kr91 kr180 kr181
                  obtain ⟨kr40, kr41⟩ := r4.cells
                  obtain ⟨kr90, kr91⟩ := r9.cells
                  obtain ⟨kr180, kr181⟩ := r18.cells
                  replace hU := hU.trans (hb.mono hU.size)
                  clear hb
                  go_wp2_with fail
                  go_meet
                  exact hU
          case rest =>
            obtain ⟨U4, hU4⟩ : ∃ U4, U4 = wc := ⟨_, rfl⟩
            rw [← hU4] at hcut ⊢
            clear hU4 hp r9 kr40 kr41 kr50 kr51 kr60 kr61 kr90 kr91 kr110 kr111 kr140 kr141 kr150 kr151
            replace r4 := r4.below hcut r4.lt
            replace r5 := r5.below hcut r5.lt
            replace r6 := r6.below hcut r6.lt
            replace r11 := r11.below hcut r11.lt
            replace r14 := r14.below hcut r14.lt
            replace r15 := r15.below hcut r15.lt
            replace hB := hB.trans (hcut.mono hB.size)
            replace hs := Lib.hid (hs.out.below hcut)
            replace HT := Lib.hid (fun h => (⟨(HT.out h).1.below hcut, (HT.out h).2.below hcut⟩ : AnsC _ _ _ _ _ _ _ _ ∧ AnsC _ _ _ _ _ _ _ _))
            clear hcut
            obtain ⟨kr40, kr41⟩ := r4.cells
            obtain ⟨kr50, kr51⟩ := r5.cells
            obtain ⟨kr60, kr61⟩ := r6.cells
            obtain ⟨kr110, kr111⟩ := r11.cells
            obtain ⟨kr140, kr141⟩ := r14.cells
            obtain ⟨kr150, kr151⟩ := r15.cells
            go_upto_if 126 with fail
            go_cut [] (fun wx => Below U4.heap.size U4 wx)
            case first =>
              as_aux_lemma =>
                have hU : Below U4.heap.size U4 U4 := Below.refl _ _
                clear HT r5 r6 r14 r15 kr50 kr51 kr60 kr61 kr140 kr141 kr150 kr151
                cases b1 with
                | true =>
                  obtain ⟨rfl, rfl, rfl, rfl, rfl⟩ := hs.out.no (d := 92) rfl (by decide)
                  clear hs
                  go_wp2_with fail
                  refine (same_nil U4).mono ?_
                  rintro e Q12 ⟨rfl, hb⟩
                  (try dsimp only)
                  replace r4 := r4.below hb r4.lt
                  replace r11 := r11.below hb r11.lt
                  replace hB := hB.trans (hb.mono hB.size)
                  clear kr40 kr41 kr110 kr111
                  obtain ⟨kr40, kr41⟩ := r4.cells
                  obtain ⟨kr110, kr111⟩ := r11.cells
                  replace hU := hU.trans (hb.mono hU.size)
                  clear hb
                  go_wp2_with fail
                  go_meet
                  exact hU
                | false =>
                  have hx1 := HX1.out rfl
                  have hL := HL1.out (by trivial)
                  have hlr : (rep ((rootN N1 : Nat) : Int).natAbs).length ≤ 1024 := by rw [Int.natAbs_natCast]; exact Nat.le_trans (rep_mono (root_le N1)) (by rw [← HN1.out]; exact hL)
                  obtain ⟨rfl, hA⟩ := (hs.out.yes rfl).short hlr
                  obtain ⟨R, hR⟩ : ∃ R, R = rootN N1 := ⟨_, rfl⟩
                  have hcm := root_cmp (N := N1)
                  rw [← hR] at hA hlr hcm
                  have HHs := Lib.hid (fun X (h : Below U4.heap.size U4 X) => hA.below h)
                  have HHx := Lib.hid (fun X (h : Below U4.heap.size U4 X) => HA1.out (by trivial) X (hB.trans (h.mono hB.size)))
                  have HLr := Lib.hid hlr
                  have HLx := Lib.hid hL
                  have HR := Lib.hid hR
                  have HX1' := Lib.hid hx1
                  have hsb : sb = false := by rw [hA.parts.1]; exact decide_eq_false (by omega)
                  subst hsb
                  have HR4 := Lib.hid (fun X (h : Below U4.heap.size U4 X) => (r4.below h r4.lt).cells)
                  have HR11 := Lib.hid (fun X (h : Below U4.heap.size U4 X) => (r11.below h r11.lt).cells)
                  by_cases h60 : 60 < nx
                  · as_aux_lemma =>
                      have d60 : decide (60 < nx) = true := decide_eq_true h60
                      have d60' : decide ((60 : Int) < (nx : Int)) = true := decide_eq_true (by omega)
                      have HA := Lib.hid hA
                      have HCm := Lib.hid hcm
                      clear hs hA hlr hL hx1 hcm hR r4 r11 h60
                      go_upto_region 26 with fail
                      go_cut [20] (fun s20 wx => BoxAt U4 ((R : Int) + 1) s20 wx)
                      case first =>
                        as_aux_lemma =>
                          have hX : Below U4.heap.size U4 U4.drew := (Below.refl _ _).drew
                          clear kr40 kr41 kr110 kr111
                          refine wp_region_held (S := fun X => Below U4.heap.size U4 X) (by kernel_rfl) ?_
                          refine wpAnyH_take_at (i := 0) (v := .agg #[.bool false, .slice sa sm sc]) 139 rfl rfl (by kernel_rfl) (by kernel_rfl) (by kernel_rfl) (fun _ _ _ h => h) (.inl ⟨rfl, fun X hX => by obtain ⟨i0, i1⟩ := HR11.out X hX; go_simp⟩) hX ?_
                          simp only [Act.put, List.setIfInBounds_toArray, List.set_cons_zero, List.set_cons_succ]
                          refine wpAnyH_all (rs := [1, 3]) (by kernel_rfl) (by decide) (fun i hi => ?_)
                          simp only [List.mem_cons, List.not_mem_nil, or_false] at hi
                          rcases hi with rfl | rfl
                          · unfold wpOp
                            go_simp
                            refine .inl ((ref_of _ 1 (by decide) (by decide)).mono ?_)
                            rintro e X1 ⟨u1, rfl, hu1, hb⟩
                            replace hX := hX.trans (hb.mono hX.size)
                            clear hb
                            replace hu1 := Lib.hid hu1
                            refine ⟨hX, ?_⟩
                            refine wpAnyH_all (rs := [2, 3]) (by kernel_rfl) (by decide) (fun i hi => ?_)
                            simp only [List.mem_cons, List.not_mem_nil, or_false] at hi
                            rcases hi with rfl | rfl
                            · unfold wpOp
                              go_simp
                              refine .inl ((ref_add _ _ _ (R : Int) 1 (HHs.out _ hX) hu1.out (Nat.le_trans HLr.out (by decide)) (by decide)).mono ?_)
                              rintro e X2 ⟨u2, rfl, hu2, hb⟩
                              replace hu1 := Lib.hid (hu1.out.below hb)
                              replace hX := hX.trans (hb.mono hX.size)
                              clear hb
                              obtain ⟨tb, ta, tn, tc, rfl, -⟩ := id hu2.open
                              replace hu2 := Lib.hid hu2
                              clear hu1
                              refine ⟨hX, ?_⟩
                              refine wpAnyH_all (rs := [3]) (by kernel_rfl) (by decide) (fun i hi => ?_)
                              rw [List.mem_singleton] at hi
                              subst hi
                              refine wpOp_alloc_int (o := _) rfl rfl rfl (fun X3 g rg hb hg hlt => ?_)
                              clear hlt
                              replace hg := Nat.le_trans hX.size hg
                              replace hu2 := Lib.hid (hu2.out.below hb)
                              replace hX := hX.trans (hb.mono hX.size)
                              clear hb
                              refine ⟨hX, ?_⟩
                              simp only [Act.put, List.setIfInBounds_toArray, List.set_cons_zero, List.set_cons_succ]
                              refine wpAnyH_all (rs := [4]) (by kernel_rfl) (by decide) (fun i hi => ?_)
                              rw [List.mem_singleton] at hi
                              subst hi
                              have k0 := rg.cell_at 0
                              have k1 := rg.cell_at 1
                              have f0 := rg.free 0
                              have f1 := rg.free 1
                              simp only [List.getElem?_cons_zero, List.getElem?_cons_succ] at k0 k1
                              unfold wpOp
                              go_simp
                              have HF := Lib.hid (box_store (U := U4) rg hg hu2.out hX)
                              replace hX := below_store (below_store hX hg (i := 0) (.bool tb)) hg (i := 1) (.slice ta tn tc)
                              clear k0 k1 f0 f1 rg hu2
                              refine .inl ⟨hX, ?_⟩
                              refine wpAnyH_done (by kernel_rfl) ?_ _
                              go_wp2_with fail
                              go_meet
                              exact HF.out
                            · refine wpOp_alloc_int (o := _) rfl rfl rfl (fun X5 g rg hb hg hlt => ?_)
                              clear hlt
                              replace hg := Nat.le_trans hX.size hg
                              replace hu1 := Lib.hid (hu1.out.below hb)
                              replace hX := hX.trans (hb.mono hX.size)
                              clear hb
                              refine ⟨hX, ?_⟩
                              simp only [Act.put, List.setIfInBounds_toArray, List.set_cons_zero, List.set_cons_succ]
                              refine wpAnyH_all (rs := [2]) (by kernel_rfl) (by decide) (fun i hi => ?_)
                              rw [List.mem_singleton] at hi
                              subst hi
                              unfold wpOp
                              go_simp
                              refine .inl ((ref_add _ _ _ (R : Int) 1 (HHs.out _ hX) hu1.out (Nat.le_trans HLr.out (by decide)) (by decide)).mono ?_)
                              rintro e X6 ⟨u2, rfl, hu2, hb⟩
                              replace hu1 := Lib.hid (hu1.out.below hb)
                              replace rg := rg.below hb rg.lt
                              replace hX := hX.trans (hb.mono hX.size)
                              clear hb
                              obtain ⟨tb, ta, tn, tc, rfl, -⟩ := id hu2.open
                              replace hu2 := Lib.hid hu2
                              clear hu1
                              refine ⟨hX, ?_⟩
                              refine wpAnyH_all (rs := [4]) (by kernel_rfl) (by decide) (fun i hi => ?_)
                              rw [List.mem_singleton] at hi
                              subst hi
                              have k0 := rg.cell_at 0
                              have k1 := rg.cell_at 1
                              have f0 := rg.free 0
                              have f1 := rg.free 1
                              simp only [List.getElem?_cons_zero, List.getElem?_cons_succ] at k0 k1
                              unfold wpOp
                              go_simp
                              have HF := Lib.hid (box_store (U := U4) rg hg hu2.out hX)
                              replace hX := below_store (below_store hX hg (i := 0) (.bool tb)) hg (i := 1) (.slice ta tn tc)
                              clear k0 k1 f0 f1 rg hu2
                              refine .inl ⟨hX, ?_⟩
                              refine wpAnyH_done (by kernel_rfl) ?_ _
                              go_wp2_with fail
                              go_meet
                              exact HF.out
                          · refine wpOp_alloc_int (o := _) rfl rfl rfl (fun X8 g rg hb hg hlt => ?_)
                            clear hlt
                            replace hg := Nat.le_trans hX.size hg
                            replace hX := hX.trans (hb.mono hX.size)
                            clear hb
                            refine ⟨hX, ?_⟩
                            simp only [Act.put, List.setIfInBounds_toArray, List.set_cons_zero, List.set_cons_succ]
                            refine wpAnyH_all (rs := [1]) (by kernel_rfl) (by decide) (fun i hi => ?_)
                            rw [List.mem_singleton] at hi
                            subst hi
                            unfold wpOp
                            go_simp
                            refine .inl ((ref_of _ 1 (by decide) (by decide)).mono ?_)
                            rintro e X9 ⟨u1, rfl, hu1, hb⟩
                            replace rg := rg.below hb rg.lt
                            replace hX := hX.trans (hb.mono hX.size)
                            clear hb
                            replace hu1 := Lib.hid hu1
                            refine ⟨hX, ?_⟩
                            refine wpAnyH_all (rs := [2]) (by kernel_rfl) (by decide) (fun i hi => ?_)
                            rw [List.mem_singleton] at hi
                            subst hi
                            unfold wpOp
                            go_simp
                            refine .inl ((ref_add _ _ _ (R : Int) 1 (HHs.out _ hX) hu1.out (Nat.le_trans HLr.out (by decide)) (by decide)).mono ?_)
                            rintro e X10 ⟨u2, rfl, hu2, hb⟩
                            replace hu1 := Lib.hid (hu1.out.below hb)
                            replace rg := rg.below hb rg.lt
                            replace hX := hX.trans (hb.mono hX.size)
                            clear hb
                            obtain ⟨tb, ta, tn, tc, rfl, -⟩ := id hu2.open
                            replace hu2 := Lib.hid hu2
                            clear hu1
                            refine ⟨hX, ?_⟩
                            refine wpAnyH_all (rs := [4]) (by kernel_rfl) (by decide) (fun i hi => ?_)
                            rw [List.mem_singleton] at hi
                            subst hi
                            have k0 := rg.cell_at 0
                            have k1 := rg.cell_at 1
                            have f0 := rg.free 0
                            have f1 := rg.free 1
                            simp only [List.getElem?_cons_zero, List.getElem?_cons_succ] at k0 k1
                            unfold wpOp
                            go_simp
                            have HF := Lib.hid (box_store (U := U4) rg hg hu2.out hX)
                            replace hX := below_store (below_store hX hg (i := 0) (.bool tb)) hg (i := 1) (.slice ta tn tc)
                            clear k0 k1 f0 f1 rg hu2
                            refine .inl ⟨hX, ?_⟩
                            refine wpAnyH_done (by kernel_rfl) ?_ _
                            go_wp2_with fail
                            go_meet
                            exact HF.out
                      case rest =>
                        as_aux_lemma =>
                          obtain ⟨g20, tb, ta, tn, tc, rfl, hg20, r20, hat, hX⟩ := hcut
                          obtain ⟨U5, hU5⟩ : ∃ U5, U5 = wc := ⟨_, rfl⟩
                          rw [← hU5] at r20 hat hX ⊢
                          clear hU5 hU kr40 kr41 kr110 kr111
                          have HR20 := Lib.hid (fun X (h : Below U5.heap.size U5 X) => (r20.below h r20.lt).cells)
                          have HHt := Lib.hid (fun X (h : Below U5.heap.size U5 X) => hat.below h)
                          have h45 := hX
                          have HR4' := Lib.hid (fun X (h : Below U5.heap.size U5 X) => HR4.out X (h45.trans (h.mono h45.size)))
                          have HR11' := Lib.hid (fun X (h : Below U5.heap.size U5 X) => HR11.out X (h45.trans (h.mono h45.size)))
                          have HHs' := Lib.hid (fun X (h : Below U5.heap.size U5 X) => HHs.out X (h45.trans (h.mono h45.size)))
                          have HHx' := Lib.hid (fun X (h : Below U5.heap.size U5 X) => HHx.out X (h45.trans (h.mono h45.size)))
                          have H45 := Lib.hid (fun X (h : Below U5.heap.size U5 X) => h45.trans (h.mono h45.size))
                          obtain ⟨q1, hq1⟩ : ∃ q, q = cmpZ ((R : Int) * (R : Int)) x := ⟨_, rfl⟩
                          have dq1 : decide (0 < q1) = false := decide_eq_false (by have := HCm.out.1; rw [← HX1'.out, ← hq1] at this; omega)
                          have Hq1 := Lib.hid hq1
                          have Hq2 := Lib.hid (show cmpZ (((R : Int) + 1) * ((R : Int) + 1)) x = 1 from by rw [HX1'.out]; exact HCm.out.2)
                          have HLt := Lib.hid (succ_len HLr.out)
                          clear hq1 r20 hat hg20
                          replace hX : Below U5.heap.size U5 U5.drew := (Below.refl _ _).drew
                          clear h45
                          go_upto_region 27 with fail
                          refine wp_region_held (S := fun X => Below U5.heap.size U5 X) (by kernel_rfl) ?_
                          refine wpAnyH_take_at (i := 0) (v := .int .i64 0) 142 rfl rfl (by kernel_rfl) (by kernel_rfl) (by kernel_rfl) (fun _ _ _ h => h) (.inl ⟨rfl, fun X hX => by go_simp⟩) hX ?_
                          simp only [Act.put, List.setIfInBounds_toArray, List.set_cons_zero, List.set_cons_succ]
                          refine wpAnyH_take_at (i := 1) (v := .bool false) 143 rfl rfl (by kernel_rfl) (by kernel_rfl) (by kernel_rfl) (fun _ _ _ h => h) (.inl ⟨rfl, fun X hX => by go_simp⟩) hX ?_
                          simp only [Act.put, List.setIfInBounds_toArray, List.set_cons_zero, List.set_cons_succ]
                          refine wpAnyH_take_at (i := 2) (v := .bool false) 144 rfl rfl (by kernel_rfl) (by kernel_rfl) (by kernel_rfl) (fun _ _ _ h => h) (.inl ⟨rfl, fun X hX => by go_simp⟩) hX ?_
                          simp only [Act.put, List.setIfInBounds_toArray, List.set_cons_zero, List.set_cons_succ]
                          refine wpAnyH_take_at (i := 3) (v := .agg #[.bool false, .slice sa sm sc]) 145 rfl rfl (by kernel_rfl) (by kernel_rfl) (by kernel_rfl) (fun _ _ _ h => h) (.inl ⟨rfl, fun X hX => by obtain ⟨i0, i1⟩ := HR11'.out X hX; go_simp⟩) hX ?_
                          simp only [Act.put, List.setIfInBounds_toArray, List.set_cons_zero, List.set_cons_succ]
                          refine wpAnyH_all (rs := [4]) (by kernel_rfl) (by decide) (fun i hi => ?_)
                          rw [List.mem_singleton] at hi
                          subst hi
                          unfold wpOp
                          go_simp
                          refine .inl ((api_may (HHs'.out _ hX) HLr.out).mono ?_)
                          rintro e X1 ⟨rfl, hb⟩
                          replace hX := hX.trans (hb.mono hX.size)
                          clear hb
                          refine ⟨hX, ?_⟩
                          refine wpAnyH_take_at (i := 5) (v := .bool false) 147 rfl rfl (by kernel_rfl) (by kernel_rfl) (by kernel_rfl) (fun _ _ _ h => h) (.inl ⟨rfl, fun X hX => by go_simp⟩) hX ?_
                          simp only [Act.put, List.setIfInBounds_toArray, List.set_cons_zero, List.set_cons_succ]
                          refine wpAnyH_take_at (i := 6) (v := .bool false) 148 rfl rfl (by kernel_rfl) (by kernel_rfl) (by kernel_rfl) (fun _ _ _ h => h) (.inl ⟨rfl, fun X hX => by go_simp⟩) hX ?_
                          simp only [Act.put, List.setIfInBounds_toArray, List.set_cons_zero, List.set_cons_succ]
                          refine wpAnyH_take_at (i := 7) (v := .bool false) 149 rfl rfl (by kernel_rfl) (by kernel_rfl) (by kernel_rfl) (fun _ _ _ h => h) (.inl ⟨rfl, fun X hX => by go_simp⟩) hX ?_
                          simp only [Act.put, List.setIfInBounds_toArray, List.set_cons_zero, List.set_cons_succ]
                          refine wpAnyH_take_at (i := 8) (v := .pointer (some ⟨V2.heap.size, 0, none⟩)) 150 rfl rfl (by kernel_rfl) (by kernel_rfl) (by kernel_rfl) (fun _ _ _ h => h) (.inl ⟨rfl, fun X hX => by go_simp⟩) hX ?_
                          simp only [Act.put, List.setIfInBounds_toArray, List.set_cons_zero, List.set_cons_succ]
                          refine wpAnyH_take_at (i := 9) (v := .bool false) 151 rfl rfl (by kernel_rfl) (by kernel_rfl) (by kernel_rfl) (fun _ _ _ h => h) (.inl ⟨rfl, fun X hX => by obtain ⟨i0, i1⟩ := HR11'.out X hX; go_simp⟩) hX ?_
                          simp only [Act.put, List.setIfInBounds_toArray, List.set_cons_zero, List.set_cons_succ]
                          refine wpAnyH_take_at (i := 10) (v := .bool false) 152 rfl rfl (by kernel_rfl) (by kernel_rfl) (by kernel_rfl) (fun _ _ _ h => h) (.inl ⟨rfl, fun X hX => by go_simp⟩) hX ?_
                          simp only [Act.put, List.setIfInBounds_toArray, List.set_cons_zero, List.set_cons_succ]
                          refine wpAnyH_take_at (i := 11) (v := .bool false) 153 rfl rfl (by kernel_rfl) (by kernel_rfl) (by kernel_rfl) (fun _ _ _ h => h) (.inl ⟨rfl, fun X hX => by go_simp⟩) hX ?_
                          simp only [Act.put, List.setIfInBounds_toArray, List.set_cons_zero, List.set_cons_succ]
                          refine wpAnyH_take_at (i := 12) (v := .agg #[.bool false, .slice sa sm sc]) 154 rfl rfl (by kernel_rfl) (by kernel_rfl) (by kernel_rfl) (fun _ _ _ h => h) (.inl ⟨rfl, fun X hX => by obtain ⟨i0, i1⟩ := HR11'.out X hX; go_simp⟩) hX ?_
                          simp only [Act.put, List.setIfInBounds_toArray, List.set_cons_zero, List.set_cons_succ]
                          refine wpAnyH_take_at (i := 13) (v := .agg #[.bool false, .slice sa sm sc]) 155 rfl rfl (by kernel_rfl) (by kernel_rfl) (by kernel_rfl) (fun _ _ _ h => h) (.inl ⟨rfl, fun X hX => by obtain ⟨i0, i1⟩ := HR11'.out X hX; go_simp⟩) hX ?_
                          simp only [Act.put, List.setIfInBounds_toArray, List.set_cons_zero, List.set_cons_succ]
                          refine wpAnyH_take_at (i := 15) (v := .agg #[.bool false, .slice a1 nx c1]) 157 rfl rfl (by kernel_rfl) (by kernel_rfl) (by kernel_rfl) (fun _ _ _ h => h) (.inl ⟨rfl, fun X hX => by obtain ⟨i0, i1⟩ := HR4'.out X hX; go_simp⟩) hX ?_
                          simp only [Act.put, List.setIfInBounds_toArray, List.set_cons_zero, List.set_cons_succ]
                          refine wpAnyH_all (rs := [14]) (by kernel_rfl) (by decide) (fun i hi => ?_)
                          rw [List.mem_singleton] at hi
                          subst hi
                          unfold wpOp
                          go_simp
                          refine .inl ((ref_mul _ _ _ (R : Int) (R : Int) (HHs'.out _ hX) (HHs'.out _ hX) (Nat.le_trans HLr.out (by decide)) (Nat.le_trans HLr.out (by decide))).mono ?_)
                          rintro e X2 ⟨u3, rfl, hu3, hb⟩
                          replace hX := hX.trans (hb.mono hX.size)
                          clear hb
                          obtain ⟨mb3, ma3, mn3, mc3, rfl, -⟩ := id hu3.open
                          replace hu3 := Lib.hid hu3
                          refine ⟨hX, ?_⟩
                          refine wpAnyH_all (rs := [16]) (by kernel_rfl) (by decide) (fun i hi => ?_)
                          rw [List.mem_singleton] at hi
                          subst hi
                          unfold wpOp
                          go_simp
                          refine .inl (((ref_compare _ _ _ ((R : Int) * (R : Int)) x hu3.out (HHx'.out _ hX) (Nat.le_trans (prod_len HLr.out HLr.out) (by decide)) (Nat.le_trans HLx.out (by decide))).mono (fun e X' he => show e = .returned (.int .i64 q1) ∧ _ from ⟨by rw [Hq1.out]; exact he.1, he.2⟩)).mono ?_)
                          rintro e X3 ⟨rfl, hb⟩
                          replace hX := hX.trans (hb.mono hX.size)
                          clear hb
                          clear hu3
                          refine ⟨hX, ?_⟩
                          refine wpAnyH_take_at (i := 17) (v := .bool false) 159 rfl rfl (by kernel_rfl) (by kernel_rfl) (by kernel_rfl) (fun _ _ _ h => h) (.inl ⟨rfl, fun X hX => by go_simp⟩) hX ?_
                          simp only [Act.put, List.setIfInBounds_toArray, List.set_cons_zero, List.set_cons_succ]
                          refine wpAnyH_take_at (i := 18) (v := .bool false) 160 rfl rfl (by kernel_rfl) (by kernel_rfl) (by kernel_rfl) (fun _ _ _ h => h) (.inl ⟨rfl, fun X hX => by go_simp⟩) hX ?_
                          simp only [Act.put, List.setIfInBounds_toArray, List.set_cons_zero, List.set_cons_succ]
                          refine wpAnyH_take_at (i := 19) (v := .bool false) 161 rfl rfl (by kernel_rfl) (by kernel_rfl) (by kernel_rfl) (fun _ _ _ h => h) (.inl ⟨rfl, fun X hX => by go_simp⟩) hX ?_
                          simp only [Act.put, List.setIfInBounds_toArray, List.set_cons_zero, List.set_cons_succ]
                          refine wpAnyH_take_at (i := 20) (v := .agg #[.bool tb, .slice ta tn tc]) 162 rfl rfl (by kernel_rfl) (by kernel_rfl) (by kernel_rfl) (fun _ _ _ h => h) (.inl ⟨rfl, fun X hX => by obtain ⟨i0, i1⟩ := HR20.out X hX; go_simp⟩) hX ?_
                          simp only [Act.put, List.setIfInBounds_toArray, List.set_cons_zero, List.set_cons_succ]
                          refine wpAnyH_take_at (i := 21) (v := .agg #[.bool tb, .slice ta tn tc]) 163 rfl rfl (by kernel_rfl) (by kernel_rfl) (by kernel_rfl) (fun _ _ _ h => h) (.inl ⟨rfl, fun X hX => by obtain ⟨i0, i1⟩ := HR20.out X hX; go_simp⟩) hX ?_
                          simp only [Act.put, List.setIfInBounds_toArray, List.set_cons_zero, List.set_cons_succ]
                          refine wpAnyH_take_at (i := 23) (v := .agg #[.bool false, .slice a1 nx c1]) 165 rfl rfl (by kernel_rfl) (by kernel_rfl) (by kernel_rfl) (fun _ _ _ h => h) (.inl ⟨rfl, fun X hX => by obtain ⟨i0, i1⟩ := HR4'.out X hX; go_simp⟩) hX ?_
                          simp only [Act.put, List.setIfInBounds_toArray, List.set_cons_zero, List.set_cons_succ]
                          refine wpAnyH_all (rs := [22]) (by kernel_rfl) (by decide) (fun i hi => ?_)
                          rw [List.mem_singleton] at hi
                          subst hi
                          unfold wpOp
                          go_simp
                          refine .inl ((ref_mul _ _ _ ((R : Int) + 1) ((R : Int) + 1) (HHt.out _ hX) (HHt.out _ hX) (Nat.le_trans HLt.out (by decide)) (Nat.le_trans HLt.out (by decide))).mono ?_)
                          rintro e X4 ⟨u4, rfl, hu4, hb⟩
                          replace hX := hX.trans (hb.mono hX.size)
                          clear hb
                          obtain ⟨mb4, ma4, mn4, mc4, rfl, -⟩ := id hu4.open
                          replace hu4 := Lib.hid hu4
                          refine ⟨hX, ?_⟩
                          refine wpAnyH_all (rs := [24]) (by kernel_rfl) (by decide) (fun i hi => ?_)
                          rw [List.mem_singleton] at hi
                          subst hi
                          unfold wpOp
                          go_simp
                          refine .inl (((ref_compare _ _ _ (((R : Int) + 1) * ((R : Int) + 1)) x hu4.out (HHx'.out _ hX) (Nat.le_trans (prod_len5 HLt.out HLt.out) (by decide)) (Nat.le_trans HLx.out (by decide))).mono (fun e X' he => show e = .returned (.int .i64 1) ∧ _ from ⟨by rw [← Hq2.out]; exact he.1, he.2⟩)).mono ?_)
                          rintro e X5 ⟨rfl, hb⟩
                          replace hX := hX.trans (hb.mono hX.size)
                          clear hb
                          clear hu4
                          refine ⟨hX, ?_⟩
                          refine wpAnyH_take_at (i := 25) (v := .bool false) 167 rfl rfl (by kernel_rfl) (by kernel_rfl) (by kernel_rfl) (fun _ _ _ h => h) (.inl ⟨rfl, fun X hX => by go_simp⟩) hX ?_
                          simp only [Act.put, List.setIfInBounds_toArray, List.set_cons_zero, List.set_cons_succ]
                          refine wpAnyH_take_at (i := 26) (v := .bool false) 168 rfl rfl (by kernel_rfl) (by kernel_rfl) (by kernel_rfl) (fun _ _ _ h => h) (.inl ⟨rfl, fun X hX => by go_simp⟩) hX ?_
                          simp only [Act.put, List.setIfInBounds_toArray, List.set_cons_zero, List.set_cons_succ]
                          refine wpAnyH_done (by kernel_rfl) ?_ _
                          have hfin := H45.out _ hX
                          clear hX
                          go_wp2_with fail
                          go_meet
                          exact hfin
                  · as_aux_lemma =>
                      have d60 : decide (60 < nx) = false := decide_eq_false h60
                      have d60' : decide ((60 : Int) < (nx : Int)) = false := decide_eq_false (by omega)
                      have HSr := Lib.hid (fun X (h : Below U4.heap.size U4 X) => (ref_sqrt X _ x (HHx.out X h) HLx.out).mono fun e X' he => show ∃ u, e = .returned u ∧ ApiV X' u (R : Int) ∧ Below X.heap.size X X' from by obtain ⟨u, k1, k2, k3⟩ := he; rw [HN1.out, ← HR.out] at k2; exact ⟨u, k1, k2, k3⟩)
                      clear hs hA hlr hL hx1 hcm hR r4 r11 h60 hU
                      go_upto_region 29 with fail
                      clear kr40 kr41 kr110 kr111
                      have hX : Below U4.heap.size U4 U4.drew := (Below.refl _ _).drew
                      refine wp_region_held (S := fun X => Below U4.heap.size U4 X) (by kernel_rfl) ?_
                      refine wpAnyH_take_at (i := 0) (v := .agg #[.bool false, .slice sa sm sc]) 169 rfl rfl (by kernel_rfl) (by kernel_rfl) (by kernel_rfl) (fun _ _ _ h => h) (.inl ⟨rfl, fun X hX => by obtain ⟨i0, i1⟩ := HR11.out X hX; go_simp⟩) hX ?_
                      simp only [Act.put, List.setIfInBounds_toArray, List.set_cons_zero, List.set_cons_succ]
                      refine wpAnyH_take_at (i := 1) (v := .int .i64 0) 170 rfl rfl (by kernel_rfl) (by kernel_rfl) (by kernel_rfl) (fun _ _ _ h => h) (.inl ⟨rfl, fun X hX => by go_simp⟩) hX ?_
                      simp only [Act.put, List.setIfInBounds_toArray, List.set_cons_zero, List.set_cons_succ]
                      refine wpAnyH_take_at (i := 2) (v := .agg #[.bool false, .slice a1 nx c1]) 171 rfl rfl (by kernel_rfl) (by kernel_rfl) (by kernel_rfl) (fun _ _ _ h => h) (.inl ⟨rfl, fun X hX => by obtain ⟨i0, i1⟩ := HR4.out X hX; go_simp⟩) hX ?_
                      simp only [Act.put, List.setIfInBounds_toArray, List.set_cons_zero, List.set_cons_succ]
                      refine wpAnyH_all (rs := [3]) (by kernel_rfl) (by decide) (fun i hi => ?_)
                      rw [List.mem_singleton] at hi
                      subst hi
                      unfold wpOp
                      go_simp
                      refine .inl ((HSr.out _ hX).mono ?_)
                      rintro e X1 ⟨u5, rfl, hu5, hb⟩
                      replace hX := hX.trans (hb.mono hX.size)
                      clear hb
                      obtain ⟨vb, va, vn, vc, rfl, -⟩ := id hu5.open
                      refine ⟨hX, ?_⟩
                      refine wpAnyH_all (rs := [4]) (by kernel_rfl) (by decide) (fun i hi => ?_)
                      rw [List.mem_singleton] at hi
                      subst hi
                      unfold wpOp
                      go_simp
                      refine .inl ((is_any _ false vb sa va sm sc vn vc 0 (R : Int) (.inl ⟨HLr.out, rfl, HHs.out _ hX⟩) hu5).mono ?_)
                      rintro e X2 ⟨rfl, hb⟩
                      replace hX := hX.trans (hb.mono hX.size)
                      clear hb
                      refine ⟨hX, ?_⟩
                      refine wpAnyH_take_at (i := 5) (v := .bool false) 174 rfl rfl (by kernel_rfl) (by kernel_rfl) (by kernel_rfl) (fun _ _ _ h => h) (.inl ⟨rfl, fun X hX => by go_simp⟩) hX ?_
                      simp only [Act.put, List.setIfInBounds_toArray, List.set_cons_zero, List.set_cons_succ]
                      refine wpAnyH_done (by kernel_rfl) ?_ _
                      have hfin := Lib.hid hX
                      clear hX hu5
                      go_wp2_with fail
                      go_meet
                      exact hfin.out
            case rest =>
              obtain ⟨U6, hU6⟩ : ∃ U6, U6 = wc := ⟨_, rfl⟩
              rw [← hU6] at hcut ⊢
              clear hU6 hs r11 kr40 kr41 kr50 kr51 kr60 kr61 kr110 kr111 kr140 kr141 kr150 kr151
              replace r4 := r4.below hcut r4.lt
              replace r5 := r5.below hcut r5.lt
              replace r6 := r6.below hcut r6.lt
              replace r14 := r14.below hcut r14.lt
              replace r15 := r15.below hcut r15.lt
              replace hB := hB.trans (hcut.mono hB.size)
              replace HT := Lib.hid (fun h => (⟨(HT.out h).1.below hcut, (HT.out h).2.below hcut⟩ : AnsC _ _ _ _ _ _ _ _ ∧ AnsC _ _ _ _ _ _ _ _))
              clear hcut
              obtain ⟨kr40, kr41⟩ := r4.cells
              obtain ⟨kr50, kr51⟩ := r5.cells
              obtain ⟨kr60, kr61⟩ := r6.cells
              obtain ⟨kr140, kr141⟩ := r14.cells
              obtain ⟨kr150, kr151⟩ := r15.cells
              cases mm with
              | true =>
                as_aux_lemma =>
                  clear HT
                  go_wp2_with fail
                  go_ret
                  exact ⟨rfl, hB⟩
              | false =>
                as_aux_lemma =>
                  obtain ⟨hd, he⟩ := HT.out rfl
                  have HD := Lib.hid hd
                  have HE := Lib.hid he
                  clear hd he HT Hmm
                  cases mb with
                  | false =>
                    as_aux_lemma =>
                      obtain ⟨rfl, rfl, rfl, rfl, rfl⟩ := HD.out.no (d := 1) rfl (by decide)
                      obtain ⟨rfl, rfl, rfl, rfl, rfl⟩ := HE.out.no (d := 1) rfl (by decide)
                      clear HD HE
                      go_wp2_with fail
                      refine (Hm2.out U6 hB).mono ?_
                      rintro e Q13 ⟨rfl, hb⟩
                      (try dsimp only)
                      replace r4 := r4.below hb r4.lt
                      replace r5 := r5.below hb r5.lt
                      replace r6 := r6.below hb r6.lt
                      replace r14 := r14.below hb r14.lt
                      replace r15 := r15.below hb r15.lt
                      replace hB := hB.trans (hb.mono hB.size)
                      clear kr40 kr41 kr50 kr51 kr60 kr61 kr140 kr141 kr150 kr151
                      obtain ⟨kr40, kr41⟩ := r4.cells
                      obtain ⟨kr50, kr51⟩ := r5.cells
                      obtain ⟨kr60, kr61⟩ := r6.cells
                      obtain ⟨kr140, kr141⟩ := r14.cells
                      obtain ⟨kr150, kr151⟩ := r15.cells
                      clear hb
                      go_wp2_with fail
                      refine (is_no2 Q13).mono ?_
                      rintro e Q14 ⟨rfl, hb⟩
                      (try dsimp only)
                      replace r4 := r4.below hb r4.lt
                      replace r5 := r5.below hb r5.lt
                      replace r6 := r6.below hb r6.lt
                      replace r14 := r14.below hb r14.lt
                      replace r15 := r15.below hb r15.lt
                      replace hB := hB.trans (hb.mono hB.size)
                      clear kr40 kr41 kr50 kr51 kr60 kr61 kr140 kr141 kr150 kr151
                      obtain ⟨kr40, kr41⟩ := r4.cells
                      obtain ⟨kr50, kr51⟩ := r5.cells
                      obtain ⟨kr60, kr61⟩ := r6.cells
                      obtain ⟨kr140, kr141⟩ := r14.cells
                      obtain ⟨kr150, kr151⟩ := r15.cells
                      clear hb
                      go_wp2_with fail
                      refine (is_no2 Q14).mono ?_
                      rintro e Q15 ⟨rfl, hb⟩
                      (try dsimp only)
                      replace r4 := r4.below hb r4.lt
                      replace r5 := r5.below hb r5.lt
                      replace r6 := r6.below hb r6.lt
                      replace r14 := r14.below hb r14.lt
                      replace r15 := r15.below hb r15.lt
                      replace hB := hB.trans (hb.mono hB.size)
                      clear kr40 kr41 kr50 kr51 kr60 kr61 kr140 kr141 kr150 kr151
                      obtain ⟨kr40, kr41⟩ := r4.cells
                      obtain ⟨kr50, kr51⟩ := r5.cells
                      obtain ⟨kr60, kr61⟩ := r6.cells
                      obtain ⟨kr140, kr141⟩ := r14.cells
                      obtain ⟨kr150, kr151⟩ := r15.cells
                      clear hb
                      go_wp2_with fail
                      go_ret
                      exact ⟨rfl, hB⟩
                  | true =>
                    as_aux_lemma =>
                      go_wp2_with fail
                      refine (Hm2.out U6 hB).mono ?_
                      rintro e Q16 ⟨rfl, hb⟩
                      (try dsimp only)
                      replace r4 := r4.below hb r4.lt
                      replace r5 := r5.below hb r5.lt
                      replace r6 := r6.below hb r6.lt
                      replace r14 := r14.below hb r14.lt
                      replace r15 := r15.below hb r15.lt
                      replace hB := hB.trans (hb.mono hB.size)
                      clear kr40 kr41 kr50 kr51 kr60 kr61 kr140 kr141 kr150 kr151
                      obtain ⟨kr40, kr41⟩ := r4.cells
                      obtain ⟨kr50, kr51⟩ := r5.cells
                      obtain ⟨kr60, kr61⟩ := r6.cells
                      obtain ⟨kr140, kr141⟩ := r14.cells
                      obtain ⟨kr150, kr151⟩ := r15.cells
                      replace HD := Lib.hid (HD.out.below hb)
                      replace HE := Lib.hid (HE.out.below hb)
                      clear hb
                      go_upto_region 35 with fail
                      go_cut [195] (fun s195 wx => s195 = .bool false ∧ Below Q16.heap.size Q16 wx)
                      case first =>
                        as_aux_lemma =>
                          have HDs := Lib.hid (fun X (h : Below Q16.heap.size Q16 X) => (HD.out.yes rfl).below h)
                          have HR14 := Lib.hid (fun X (h : Below Q16.heap.size Q16 X) => (r14.below h r14.lt).cells)
                          have HR4 := Lib.hid (fun X (h : Below Q16.heap.size Q16 X) => (r4.below h r4.lt).cells)
                          have HR5 := Lib.hid (fun X (h : Below Q16.heap.size Q16 X) => (r5.below h r5.lt).cells)
                          have HGr := Lib.hid (fun X (h : Below Q16.heap.size Q16 X) => (ref_gcd X _ _ x y (HA1.out (by trivial) X (hB.trans (h.mono hB.size))) (HA2.out (by trivial) X (hB.trans (h.mono hB.size))) (Nat.le_trans (HL1.out (by trivial)) (by decide)) (Nat.le_trans (HL2.out (by trivial)) (by decide))).mono fun e X' he => show ∃ u, e = .returned u ∧ ApiV X' u ((G : Nat) : Int) ∧ Below X.heap.size X X' from by obtain ⟨u, k1, k2, k3⟩ := he; rw [HG.out] at k2; exact ⟨u, k1, k2, k3⟩)
                          clear HD HE r4 r5 r6 r14 r15 kr40 kr41 kr50 kr51 kr60 kr61 kr140 kr141 kr150 kr151
                          have hX : Below Q16.heap.size Q16 Q16.drew := (Below.refl _ _).drew
                          refine wp_region_held (S := fun X => Below Q16.heap.size Q16 X) (by kernel_rfl) ?_
                          refine wpAnyH_take_at (i := 0) (v := .agg #[.bool db, .slice da dm dc]) 189 rfl rfl (by kernel_rfl) (by kernel_rfl) (by kernel_rfl) (fun _ _ _ h => h) (.inl ⟨rfl, fun X hX => by obtain ⟨i0, i1⟩ := HR14.out X hX; go_simp⟩) hX ?_
                          simp only [Act.put, List.setIfInBounds_toArray, List.set_cons_zero, List.set_cons_succ]
                          refine wpAnyH_take_at (i := 1) (v := .int .i64 dk) 190 rfl rfl (by kernel_rfl) (by kernel_rfl) (by kernel_rfl) (fun _ _ _ h => h) (.inl ⟨rfl, fun X hX => by go_simp⟩) hX ?_
                          simp only [Act.put, List.setIfInBounds_toArray, List.set_cons_zero, List.set_cons_succ]
                          refine wpAnyH_take_at (i := 2) (v := .agg #[.bool b1, .slice a1 nx c1]) 191 rfl rfl (by kernel_rfl) (by kernel_rfl) (by kernel_rfl) (fun _ _ _ h => h) (.inl ⟨rfl, fun X hX => by obtain ⟨i0, i1⟩ := HR4.out X hX; go_simp⟩) hX ?_
                          simp only [Act.put, List.setIfInBounds_toArray, List.set_cons_zero, List.set_cons_succ]
                          refine wpAnyH_take_at (i := 3) (v := .agg #[.bool b2, .slice a2 ny c2]) 192 rfl rfl (by kernel_rfl) (by kernel_rfl) (by kernel_rfl) (fun _ _ _ h => h) (.inl ⟨rfl, fun X hX => by obtain ⟨i0, i1⟩ := HR5.out X hX; go_simp⟩) hX ?_
                          simp only [Act.put, List.setIfInBounds_toArray, List.set_cons_zero, List.set_cons_succ]
                          refine wpAnyH_all (rs := [4]) (by kernel_rfl) (by decide) (fun i hi => ?_)
                          rw [List.mem_singleton] at hi
                          subst hi
                          unfold wpOp
                          go_simp
                          refine .inl ((HGr.out _ hX).mono ?_)
                          rintro e X1 ⟨u5, rfl, hu5, hb⟩
                          replace hX := hX.trans (hb.mono hX.size)
                          clear hb
                          obtain ⟨vb, va, vn, vc, rfl, -⟩ := id hu5.open
                          refine ⟨hX, ?_⟩
                          refine wpAnyH_all (rs := [5]) (by kernel_rfl) (by decide) (fun i hi => ?_)
                          rw [List.mem_singleton] at hi
                          subst hi
                          unfold wpOp
                          go_simp
                          refine .inl ((is_any _ db vb da va dm dc vn vc dk ((G : Nat) : Int) (HDs.out _ hX) hu5).mono ?_)
                          rintro e X2 ⟨rfl, hb⟩
                          replace hX := hX.trans (hb.mono hX.size)
                          clear hb
                          refine ⟨hX, ?_⟩
                          refine wpAnyH_take_at (i := 6) (v := .bool false) 195 rfl rfl (by kernel_rfl) (by kernel_rfl) (by kernel_rfl) (fun _ _ _ h => h) (.inl ⟨rfl, fun X hX => by go_simp⟩) hX ?_
                          simp only [Act.put, List.setIfInBounds_toArray, List.set_cons_zero, List.set_cons_succ]
                          refine wpAnyH_done (by kernel_rfl) ?_ _
                          have hfin := Lib.hid hX
                          clear hX hu5
                          go_wp2_with fail
                          go_meet
                          exact ⟨rfl, hfin.out⟩
                      case rest =>
                        obtain ⟨rfl, hcut⟩ := hcut
                        obtain ⟨U8, hU8⟩ : ∃ U8, U8 = wc := ⟨_, rfl⟩
                        rw [← hU8] at hcut ⊢
                        clear hU8 HD r14 kr40 kr41 kr50 kr51 kr60 kr61 kr140 kr141 kr150 kr151
                        replace r4 := r4.below hcut r4.lt
                        replace r5 := r5.below hcut r5.lt
                        replace r6 := r6.below hcut r6.lt
                        replace r15 := r15.below hcut r15.lt
                        replace hB := hB.trans (hcut.mono hB.size)
                        replace HE := Lib.hid (HE.out.below hcut)
                        clear hcut
                        obtain ⟨kr40, kr41⟩ := r4.cells
                        obtain ⟨kr50, kr51⟩ := r5.cells
                        obtain ⟨kr60, kr61⟩ := r6.cells
                        obtain ⟨kr150, kr151⟩ := r15.cells
                        cases mc with
                        | false =>
                          as_aux_lemma =>
                            obtain ⟨rfl, rfl, rfl, rfl, rfl⟩ := HE.out.no (d := 1) rfl (by decide)
                            clear HE
                            go_wp2_with fail
                            refine (Hm3.out U8 hB).mono ?_
                            rintro e Q17 ⟨rfl, hb⟩
                            (try dsimp only)
                            replace r4 := r4.below hb r4.lt
                            replace r5 := r5.below hb r5.lt
                            replace r6 := r6.below hb r6.lt
                            replace r15 := r15.below hb r15.lt
                            replace hB := hB.trans (hb.mono hB.size)
                            clear kr40 kr41 kr50 kr51 kr60 kr61 kr150 kr151
                            obtain ⟨kr40, kr41⟩ := r4.cells
                            obtain ⟨kr50, kr51⟩ := r5.cells
                            obtain ⟨kr60, kr61⟩ := r6.cells
                            obtain ⟨kr150, kr151⟩ := r15.cells
                            clear hb
                            go_wp2_with fail
                            refine (is_no2 Q17).mono ?_
                            rintro e Q18 ⟨rfl, hb⟩
                            (try dsimp only)
                            replace r4 := r4.below hb r4.lt
                            replace r5 := r5.below hb r5.lt
                            replace r6 := r6.below hb r6.lt
                            replace r15 := r15.below hb r15.lt
                            replace hB := hB.trans (hb.mono hB.size)
                            clear kr40 kr41 kr50 kr51 kr60 kr61 kr150 kr151
                            obtain ⟨kr40, kr41⟩ := r4.cells
                            obtain ⟨kr50, kr51⟩ := r5.cells
                            obtain ⟨kr60, kr61⟩ := r6.cells
                            obtain ⟨kr150, kr151⟩ := r15.cells
                            clear hb
                            go_wp2_with fail
                            go_ret
                            exact ⟨rfl, hB⟩
                        | true =>
                          as_aux_lemma =>
                            cases b2 with
                            | true =>
                              as_aux_lemma =>
                                obtain ⟨rfl, rfl, rfl, rfl, rfl⟩ := HE.out.no (d := 92) rfl (by decide)
                                clear HE
                                go_wp2_with fail
                                refine (Hm3.out U8 hB).mono ?_
                                rintro e Q19 ⟨rfl, hb⟩
                                (try dsimp only)
                                replace r4 := r4.below hb r4.lt
                                replace r5 := r5.below hb r5.lt
                                replace r6 := r6.below hb r6.lt
                                replace r15 := r15.below hb r15.lt
                                replace hB := hB.trans (hb.mono hB.size)
                                clear kr40 kr41 kr50 kr51 kr60 kr61 kr150 kr151
                                obtain ⟨kr40, kr41⟩ := r4.cells
                                obtain ⟨kr50, kr51⟩ := r5.cells
                                obtain ⟨kr60, kr61⟩ := r6.cells
                                obtain ⟨kr150, kr151⟩ := r15.cells
                                clear hb
                                go_wp2_with fail
                                refine (same_nil Q19).mono ?_
                                rintro e Q20 ⟨rfl, hb⟩
                                (try dsimp only)
                                replace r4 := r4.below hb r4.lt
                                replace r5 := r5.below hb r5.lt
                                replace r6 := r6.below hb r6.lt
                                replace r15 := r15.below hb r15.lt
                                replace hB := hB.trans (hb.mono hB.size)
                                clear kr40 kr41 kr50 kr51 kr60 kr61 kr150 kr151
                                obtain ⟨kr40, kr41⟩ := r4.cells
                                obtain ⟨kr50, kr51⟩ := r5.cells
                                obtain ⟨kr60, kr61⟩ := r6.cells
                                obtain ⟨kr150, kr151⟩ := r15.cells
                                clear hb
                                go_wp2_with fail
                                go_ret
                                exact ⟨rfl, hB⟩
                            | false =>
                              as_aux_lemma =>
                                by_cases hz0 : nz = 0
                                · as_aux_lemma =>
                                    obtain ⟨rfl, rfl, rfl, rfl, rfl⟩ := HE.out.no (d := 90) (by unfold modpowCode; rw [if_neg (by decide), if_neg (by decide), if_pos hz0]) (by decide)
                                    clear HE
                                    have e0 : ((nz : Int) == 0) = true := by rw [beq_iff_eq]; omega
                                    clear hz0
                                    go_wp2_with fail
                                    refine (Hm3.out U8 hB).mono ?_
                                    rintro e Q21 ⟨rfl, hb⟩
                                    (try dsimp only)
                                    replace r4 := r4.below hb r4.lt
                                    replace r5 := r5.below hb r5.lt
                                    replace r6 := r6.below hb r6.lt
                                    replace r15 := r15.below hb r15.lt
                                    replace hB := hB.trans (hb.mono hB.size)
                                    clear kr40 kr41 kr50 kr51 kr60 kr61 kr150 kr151
                                    obtain ⟨kr40, kr41⟩ := r4.cells
                                    obtain ⟨kr50, kr51⟩ := r5.cells
                                    obtain ⟨kr60, kr61⟩ := r6.cells
                                    obtain ⟨kr150, kr151⟩ := r15.cells
                                    clear hb
                                    go_wp2_with fail
                                    refine (same_nil Q21).mono ?_
                                    rintro e Q22 ⟨rfl, hb⟩
                                    (try dsimp only)
                                    replace r4 := r4.below hb r4.lt
                                    replace r5 := r5.below hb r5.lt
                                    replace r6 := r6.below hb r6.lt
                                    replace r15 := r15.below hb r15.lt
                                    replace hB := hB.trans (hb.mono hB.size)
                                    clear kr40 kr41 kr50 kr51 kr60 kr61 kr150 kr151
                                    obtain ⟨kr40, kr41⟩ := r4.cells
                                    obtain ⟨kr50, kr51⟩ := r5.cells
                                    obtain ⟨kr60, kr61⟩ := r6.cells
                                    obtain ⟨kr150, kr151⟩ := r15.cells
                                    clear hb
                                    go_wp2_with fail
                                    go_ret
                                    exact ⟨rfl, hB⟩
                                · as_aux_lemma =>
                                    have e0 : ((nz : Int) == 0) = false := by rw [beq_eq_false_iff_ne]; omega
                                    have HZn := Lib.hid hz0; clear hz0
                                    go_wp2_with fail
                                    refine (Hm3.out U8 hB).mono ?_
                                    rintro e Q23 ⟨rfl, hb⟩
                                    (try dsimp only)
                                    replace r4 := r4.below hb r4.lt
                                    replace r5 := r5.below hb r5.lt
                                    replace r6 := r6.below hb r6.lt
                                    replace r15 := r15.below hb r15.lt
                                    replace hB := hB.trans (hb.mono hB.size)
                                    clear kr40 kr41 kr50 kr51 kr60 kr61 kr150 kr151
                                    obtain ⟨kr40, kr41⟩ := r4.cells
                                    obtain ⟨kr50, kr51⟩ := r5.cells
                                    obtain ⟨kr60, kr61⟩ := r6.cells
                                    obtain ⟨kr150, kr151⟩ := r15.cells
                                    replace HE := Lib.hid (HE.out.below hb)
                                    clear hb
                                    have hEy := HE.out.yes (by unfold modpowCode; rw [if_neg (by decide), if_neg (by decide), if_neg HZn.out])
                                    have hz1 := HZ0.out (by trivial) HZn.out
                                    have HEs := Lib.hid (fun X (h : Below Q23.heap.size Q23 X) => hEy.below h)
                                    have HBb := Lib.hid (fun X (h : Below Q23.heap.size Q23 X) => hB.trans (h.mono hB.size))
                                    have HR15 := Lib.hid (fun X (h : Below Q23.heap.size Q23 X) => (r15.below h r15.lt).cells)
                                    have HR4 := Lib.hid (fun X (h : Below Q23.heap.size Q23 X) => (r4.below h r4.lt).cells)
                                    have HR5 := Lib.hid (fun X (h : Below Q23.heap.size Q23 X) => (r5.below h r5.lt).cells)
                                    have HR6 := Lib.hid (fun X (h : Below Q23.heap.size Q23 X) => (r6.below h r6.lt).cells)
                                    have HMr := Lib.hid (fun X (h : Below Q23.heap.size Q23 X) => ref_modpow X _ _ _ x y z (HA1.out (by trivial) X (hB.trans (h.mono hB.size))) (HA2.out (by trivial) X (hB.trans (h.mono hB.size))) (HA3.out (by trivial) X (hB.trans (h.mono hB.size))) (HL1.out (by trivial)) (HL2.out (by trivial)) (HL3.out (by trivial)) hz1)
                                    go_upto_region 43 with fail
                                    clear HE hEy HZn hz1 e0 r4 r5 r6 r15 hB kr40 kr41 kr50 kr51 kr60 kr61 kr150 kr151
                                    have hX : Below Q23.heap.size Q23 Q23.drew := (Below.refl _ _).drew
                                    refine wp_region_held (S := fun X => Below Q23.heap.size Q23 X) (by kernel_rfl) ?_
                                    refine wpAnyH_take_at (i := 0) (v := .agg #[.bool eb, .slice ea em ec]) 226 rfl rfl (by kernel_rfl) (by kernel_rfl) (by kernel_rfl) (fun _ _ _ h => h) (.inl ⟨rfl, fun X hX => by obtain ⟨i0, i1⟩ := HR15.out X hX; go_simp⟩) hX ?_
                                    simp only [Act.put, List.setIfInBounds_toArray, List.set_cons_zero, List.set_cons_succ]
                                    refine wpAnyH_take_at (i := 1) (v := .int .i64 ek) 227 rfl rfl (by kernel_rfl) (by kernel_rfl) (by kernel_rfl) (fun _ _ _ h => h) (.inl ⟨rfl, fun X hX => by go_simp⟩) hX ?_
                                    simp only [Act.put, List.setIfInBounds_toArray, List.set_cons_zero, List.set_cons_succ]
                                    refine wpAnyH_take_at (i := 2) (v := .agg #[.bool b1, .slice a1 nx c1]) 228 rfl rfl (by kernel_rfl) (by kernel_rfl) (by kernel_rfl) (fun _ _ _ h => h) (.inl ⟨rfl, fun X hX => by obtain ⟨i0, i1⟩ := HR4.out X hX; go_simp⟩) hX ?_
                                    simp only [Act.put, List.setIfInBounds_toArray, List.set_cons_zero, List.set_cons_succ]
                                    refine wpAnyH_take_at (i := 3) (v := .agg #[.bool false, .slice a2 ny c2]) 229 rfl rfl (by kernel_rfl) (by kernel_rfl) (by kernel_rfl) (fun _ _ _ h => h) (.inl ⟨rfl, fun X hX => by obtain ⟨i0, i1⟩ := HR5.out X hX; go_simp⟩) hX ?_
                                    simp only [Act.put, List.setIfInBounds_toArray, List.set_cons_zero, List.set_cons_succ]
                                    refine wpAnyH_take_at (i := 4) (v := .agg #[.bool b3, .slice a3 nz c3]) 230 rfl rfl (by kernel_rfl) (by kernel_rfl) (by kernel_rfl) (fun _ _ _ h => h) (.inl ⟨rfl, fun X hX => by obtain ⟨i0, i1⟩ := HR6.out X hX; go_simp⟩) hX ?_
                                    simp only [Act.put, List.setIfInBounds_toArray, List.set_cons_zero, List.set_cons_succ]
                                    refine wpAnyH_all (rs := [5]) (by kernel_rfl) (by decide) (fun i hi => ?_)
                                    rw [List.mem_singleton] at hi
                                    subst hi
                                    unfold wpOp
                                    go_simp
                                    refine .inl ((HMr.out _ hX).mono ?_)
                                    rintro e X1 ⟨u5, rfl, hu5, hb⟩
                                    replace hX := hX.trans (hb.mono hX.size)
                                    clear hb
                                    obtain ⟨vb, va, vn, vc, rfl, -⟩ := id hu5.open
                                    refine ⟨hX, ?_⟩
                                    refine wpAnyH_all (rs := [6]) (by kernel_rfl) (by decide) (fun i hi => ?_)
                                    rw [List.mem_singleton] at hi
                                    subst hi
                                    unfold wpOp
                                    go_simp
                                    refine .inl ((is_any _ eb vb ea va em ec vn vc ek _ (HEs.out _ hX) hu5).mono ?_)
                                    rintro e X2 ⟨rfl, hb⟩
                                    replace hX := hX.trans (hb.mono hX.size)
                                    clear hb
                                    refine ⟨hX, ?_⟩
                                    refine wpAnyH_take_at (i := 7) (v := .bool true) 8 rfl rfl (by kernel_rfl) (by kernel_rfl) (by kernel_rfl) (fun _ _ _ h => h) (.inl ⟨rfl, fun X hX => by go_simp⟩) hX ?_
                                    simp only [Act.put, List.setIfInBounds_toArray, List.set_cons_zero, List.set_cons_succ]
                                    refine wpAnyH_done (by kernel_rfl) ?_ _
                                    have hfin := Lib.hid (HBb.out _ hX)
                                    clear hX hu5
                                    go_wp2_with fail
                                    go_ret
                                    exact ⟨rfl, hfin.out⟩

end Go.Proofs.YtbffpkmfhkphdaaGreatDoor
