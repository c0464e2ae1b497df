/- The walk of large.ModPow, where it has an answer. The walk of the reference's less: a difference. The walk of the reference's times: a product. -/
import Derived.Test.YtbffpkmfhkphdaaGreatDoorGX26
import Derived.Test.YtbffpkmfhkphdaaGreatDoorGX27
import Derived.Test.YtbffpkmfhkphdaaGreatDoorDivideC
import Derived.Test.YtbffpkmfhkphdaaGreatDoorGX07
import Derived.Test.YtbffpkmfhkphdaaGreatDoorGX17
import Derived.Test.YtbffpkmfhkphdaaGreatDoorGX06
set_option linter.unusedVariables false
set_option linter.unusedSimpArgs false
namespace Go.Proofs.YtbffpkmfhkphdaaGreatDoor
open Go Go.RowKit Limb

theorem upd_head {p : Nat} {v0 v : Int} {l : List (Nat × Int)} (hn : (((p, v0) :: l).map Prod.fst).Nodup) : upd ((p, v0) :: l) p v = (p, v) :: l := by
  unfold upd
  rw [List.map_cons, if_pos rfl]
  congr 1
  rw [List.map_cons, List.nodup_cons] at hn
  conv => rhs; rw [← List.map_id l]
  apply List.map_congr_left
  intro q hq
  have : q.1 ≠ p := fun e => hn.1 (List.mem_map.2 ⟨q, hq, e⟩)
  rw [if_neg this]; rfl
theorem At.swap {w1 X : World} {a b : Nat × Int} {l : List (Nat × Int)} (h : At w1 X (a :: b :: l)) : At w1 X (b :: a :: l) := by
  refine ⟨h.below, fun p hp => h.ints p ?_, ?_⟩
  · rcases List.mem_cons.1 hp with rfl | hp
    · simp
    · rcases List.mem_cons.1 hp with rfl | hp
      · simp
      · simp [hp]
  · have := h.nd
    simp only [List.map_cons, List.nodup_cons, List.mem_cons, not_or] at this ⊢
    exact ⟨⟨Ne.symm this.1.1, this.2.1⟩, this.1.2, this.2.2⟩
theorem at_abs {w1 X : World} {l : List (Nat × Int)} {p q : Nat} {v z : Int} (h : At w1 X ((p, v) :: l)) (hq : (q, z) ∈ (p, v) :: l) (hs : (rep z.natAbs).length ≤ 68719476736) :
    Calls Tryz.prog 85 #[.pointer (some ⟨p, 0, none⟩), .pointer (some ⟨q, 0, none⟩)] X fun e X' => e = .returned (.pointer (some ⟨p, 0, none⟩)) ∧ At w1 X' ((p, (z.natAbs : Int)) :: l) := by
  refine (int_abs X p q v z (h.ints _ (.head _)).1 (h.ints _ hq).1 hs).mono ?_
  rintro e X' ⟨rfl, h1, h2⟩
  exact ⟨rfl, by have := h.set (.head _) h2 h1; rwa [upd_head h.nd] at this⟩
theorem at_mod {w1 X : World} {l : List (Nat × Int)} {p q r : Nat} {v x y : Int} (h : At w1 X ((p, v) :: l)) (hq : (q, x) ∈ (p, v) :: l) (hr : (r, y) ∈ (p, v) :: l) (hy : y ≠ 0) (lx : (rep x.natAbs).length ≤ 68719476736) (ly : (rep y.natAbs).length ≤ 68719476736) :
    Calls Tryz.prog 86 #[.pointer (some ⟨p, 0, none⟩), .pointer (some ⟨q, 0, none⟩), .pointer (some ⟨r, 0, none⟩)] X fun e X' => e = .returned (.pointer (some ⟨p, 0, none⟩)) ∧ At w1 X' ((p, x % y) :: l) := by
  refine (int_mod X p q r v x y (h.ints _ (.head _)).1 (h.ints _ hq).1 (h.ints _ hr).1 hy lx ly).mono ?_
  rintro e X' ⟨rfl, h1, h2⟩
  exact ⟨rfl, by have := h.set (.head _) h2 h1; rwa [upd_head h.nd] at this⟩
theorem at_expmod {w1 X : World} {l : List (Nat × Int)} {p q r s : Nat} {v x y m : Int} (h : At w1 X ((p, v) :: l)) (hq : (q, x) ∈ (p, v) :: l) (hr : (r, y) ∈ (p, v) :: l) (hs : (s, m) ∈ (p, v) :: l) (hm : m ≠ 0) (lx : (rep x.natAbs).length ≤ 68719476736) (ly : (rep y.natAbs).length ≤ 68719476736) (lm : (rep m.natAbs).length ≤ 68719476736) :
    Calls Tryz.prog 82 #[.pointer (some ⟨p, 0, none⟩), .pointer (some ⟨q, 0, none⟩), .pointer (some ⟨r, 0, none⟩), .pointer (some ⟨s, 0, none⟩)] X fun e X' => e = .returned (.pointer (some ⟨p, 0, none⟩)) ∧ At w1 X' ((p, ((x.natAbs ^ y.natAbs % m.natAbs : Nat) : Int)) :: l) := by
  refine (int_expmod X p q r s v x y m (h.ints _ (.head _)).1 (h.ints _ hq).1 (h.ints _ hr).1 (h.ints _ hs).1 hm lx ly lm).mono ?_
  rintro e X' ⟨rfl, h1, h2⟩
  exact ⟨rfl, by have := h.set (.head _) h2 h1; rwa [upd_head h.nd] at this⟩
theorem at_addh {w1 X : World} {l : List (Nat × Int)} {p q r : Nat} {v x y : Int} (h : At w1 X ((p, v) :: l)) (hq : (q, x) ∈ (p, v) :: l) (hr : (r, y) ∈ (p, v) :: l) (hs : (rep x.natAbs).length ≤ 68719476736) (ht : (rep y.natAbs).length ≤ 68719476736) :
    Calls Tryz.prog 72 #[.pointer (some ⟨p, 0, none⟩), .pointer (some ⟨q, 0, none⟩), .pointer (some ⟨r, 0, none⟩)] X fun e X' => e = .returned (.pointer (some ⟨p, 0, none⟩)) ∧ At w1 X' ((p, x + y) :: l) := by
  refine (int_add X p q r v x y (h.ints _ (.head _)).1 (h.ints _ hq).1 (h.ints _ hr).1 hs ht).mono ?_
  rintro e X' ⟨rfl, h1, h2⟩
  exact ⟨rfl, by have := h.set (.head _) h2 h1; rwa [upd_head h.nd] at this⟩

/-- may, of three that may be. -/
theorem large_may3 (w : World) (g : Nat) (n1 n2 n3 : Bool) (a1 a2 a3 : Option Addr) (l1 l2 l3 : List Nat) (m1 m2 m3 c1 c2 c3 : Nat) (hr : Row w g 24 [.bool n1, .slice a1 m1 c1, .bool n2, .slice a2 m2 c2, .bool n3, .slice a3 m3 c3]) (hy1 : Lay .u32 w a1 l1) (hy2 : Lay .u32 w a2 l2) (hy3 : Lay .u32 w a3 l3)
    (hl1 : Lim l1) (hl2 : Lim l2) (hl3 : Lim l3) (hm1 : m1 = l1.length) (hm2 : m2 = l2.length) (hm3 : m3 = l3.length) (hb1 : m1 ≤ 9223372036854775807) (hb2 : m2 ≤ 9223372036854775807) (hb3 : m3 ≤ 9223372036854775807)
    (t1 : mayB n1 l1 = true) (t2 : mayB n2 l2 = true) (t3 : mayB n3 l3 = true) :
    Calls Tryz.prog 65 #[.slice (some ⟨g, 0, none⟩) 3 3] w fun e w' => e = .returned (.bool true) ∧ Below w.heap.size w w' := by
  have hcall1 := fun W (hW : Below w.heap.size w W) => large_May W n1 a1 l1 m1 c1 (hy1.below hW) hl1 hm1 hb1
  have hcall2 := fun W (hW : Below w.heap.size w W) => large_May W n2 a2 l2 m2 c2 (hy2.below hW) hl2 hm2 hb2
  have hcall3 := fun W (hW : Below w.heap.size w W) => large_May W n3 a3 l3 m3 c3 (hy3.below hW) hl3 hm3 hb3
  rw [t1] at hcall1
  rw [t2] at hcall2
  rw [t3] at hcall3
  have hcs : ∀ W, Below w.heap.size w W → W.cell? ⟨g, 0, none⟩ = some (.bool n1) ∧ W.cell? ⟨g, 1, none⟩ = some (.slice a1 m1 c1) ∧ W.cell? ⟨g, 2, none⟩ = some (.bool n2) ∧ W.cell? ⟨g, 3, none⟩ = some (.slice a2 m2 c2) ∧ W.cell? ⟨g, 4, none⟩ = some (.bool n3) ∧ W.cell? ⟨g, 5, none⟩ = some (.slice a3 m3 c3) := by
    intro W hW
    have := hr.below hW hr.lt
    exact ⟨this.cell_at 0, this.cell_at 1, this.cell_at 2, this.cell_at 3, this.cell_at 4, this.cell_at 5⟩
  have HC := Lib.hid hcs; clear hcs
  obtain ⟨k0, k1, k2, k3, k4, k5⟩ := HC.out w (Below.refl _ _)
  have H1 := Lib.hid hcall1; clear hcall1
  have H2 := Lib.hid hcall2; clear hcall2
  have H3 := Lib.hid hcall3; clear hcall3
  clear hm1 hm2 hm3 t1 t2 t3
  go_enter Tryz.func65, Tryz.ntmps65
  go_wp2
  refine wp_loop_rounds 4 ?_
  rw [rounds_succ]
  go_wp2_with (go_at_call 59; refine (H1.out _ ?_).mono ?_; exact (Below.refl _ _).alloc (Nat.le_refl _) _; rintro e w1 ⟨rfl, hb1⟩)
  have hB1 : Below w.heap.size w w1 := ((Below.refl _ _).alloc (Nat.le_refl _) _).trans (hb1.mono (by rw [World.size_alloc]; omega))
  obtain ⟨j0, j1, j2, j3, j4, j5⟩ := HC.out w1 hB1
  rw [rounds_succ]
  go_wp2_with (go_at_call 59; refine (H2.out _ ?_).mono ?_; exact hB1.alloc hB1.size _; rintro e w2 ⟨rfl, hb2⟩)
  have hB2 : Below w.heap.size w w2 := (hB1.alloc hB1.size _).trans (hb2.mono (by rw [World.size_alloc]; have := hB1.size; omega))
  clear j0 j1 j2 j3 j4 j5
  obtain ⟨j0, j1, j2, j3, j4, j5⟩ := HC.out w2 hB2
  rw [rounds_succ]
  go_wp2_with (go_at_call 59; refine (H3.out _ ?_).mono ?_; exact hB2.alloc hB2.size _; rintro e w3 ⟨rfl, hb3⟩)
  have hB3 : Below w.heap.size w w3 := (hB2.alloc hB2.size _).trans (hb3.mono (by rw [World.size_alloc]; have := hB2.size; omega))
  rw [rounds_succ]
  go_wp2
  go_ret
  exact ⟨rfl, hB3⟩

/-- A power modulo m, of a power that is no less than 0. -/
def modpowZ (x y m : Int) : Int :=
  let k : Nat := (x % (m.natAbs : Int)).natAbs ^ y.natAbs % m.natAbs
  if m < 0 ∧ k ≠ 0 then (k : Int) + m else k

set_option maxHeartbeats 3200000 in
set_option maxRecDepth 100000 in
theorem large_modpow (w : World) (n1 n3 : Bool) (a1 a2 a3 : Option Addr) (l1 l2 l3 : List Nat) (m1 m2 m3 c1 c2 c3 : Nat) (x y m : Int) (hy1 : Lay .u32 w a1 l1) (hy2 : Lay .u32 w a2 l2) (hy3 : Lay .u32 w a3 l3)
    (hl1 : Lim l1) (hl2 : Lim l2) (hl3 : Lim l3) (hm1 : m1 = l1.length) (hm2 : m2 = l2.length) (hm3 : m3 = l3.length) (t1 : mayB n1 l1 = true) (t2 : mayB false l2 = true) (t3 : mayB n3 l3 = true)
    (hx : x = signed n1 (val l1)) (hy : y = signed false (val l2)) (hz : m = signed n3 (val l3)) (hm0 : m ≠ 0) :
    Calls Tryz.prog 20 #[.agg #[.bool n1, .slice a1 m1 c1], .agg #[.bool false, .slice a2 m2 c2], .agg #[.bool n3, .slice a3 m3 c3]] w fun e w' => Answer true w w' e (modpowZ x y m) := by
  obtain ⟨W, hWe, r0, r1, r2, r3, hW, hsz⟩ := rows4 w 24 (.bool n1) (.slice a1 m1 c1) (.bool false) (.slice a2 m2 c2) (.bool n3) (.slice a3 m3 c3) (.bool false) (.slice none 0 0)
  have HWe := Lib.hid hWe; clear hWe
  obtain ⟨x1, x2, x3⟩ := mayB_int hl1 t1
  obtain ⟨y1, y2, y3⟩ := mayB_int hl2 t2
  obtain ⟨z1, z2, z3⟩ := mayB_int hl3 t3
  have s1 : (rep x.natAbs).length ≤ 1024 := by rw [hx, ← x1]; omega
  have s2 : (rep y.natAbs).length ≤ 1024 := by rw [hy, ← y1]; omega
  have s3 : (rep m.natAbs).length ≤ 1024 := by rw [hz, ← z1]; omega
  have b1 : m1 ≤ 1024 := by rw [hm1]; exact x3
  have b2 : m2 ≤ 1024 := by rw [hm2]; exact y3
  have b3 : m3 ≤ 1024 := by rw [hm3]; exact z3
  have hz1 : ((m3 : Int) == 0) = false := by
    rw [beq_eq_false_iff_ne]; intro e
    have e0 : l3.length = 0 := by omega
    rw [List.eq_nil_of_length_eq_zero e0] at hz
    exact hm0 (by rw [hz]; unfold signed; cases n3 <;> rfl)
  clear x1 x2 x3 y1 y2 y3 z1 z2 z3
  have hmay := large_may3 (W.alloc (.cells #[.bool n1, .slice a1 m1 c1, .bool false, .slice a2 m2 c2, .bool n3, .slice a3 m3 c3] 24)) (w.heap.size + 1 + 1 + 1 + 1) n1 false n3 a1 a2 a3 l1 l2 l3 m1 m2 m3 c1 c2 c3 (by rw [← hsz]; exact row2slice _ _ _)
    ((hy1.below hW).below ((Below.refl _ _).alloc (Nat.le_refl _) _)) ((hy2.below hW).below ((Below.refl _ _).alloc (Nat.le_refl _) _)) ((hy3.below hW).below ((Below.refl _ _).alloc (Nat.le_refl _) _)) hl1 hl2 hl3 hm1 hm2 hm3 (by omega) (by omega) (by omega) t1 t2 t3
  have HM := Lib.hid hmay; clear hmay
  have Hm1 := Lib.hid hm1; clear hm1
  have Hm2 := Lib.hid hm2; clear hm2
  have Hm3 := Lib.hid hm3; clear hm3
  have Hz := Lib.hid hm0; clear hm0
  have S1 : (rep x.natAbs).length ≤ 68719476736 := Nat.le_trans s1 (by decide)
  have S2 : (rep y.natAbs).length ≤ 68719476736 := Nat.le_trans s2 (by decide)
  have S3 : (rep m.natAbs).length ≤ 68719476736 := Nat.le_trans s3 (by decide)
  obtain ⟨M, hM⟩ : ∃ M : Int, M = (m.natAbs : Int) := ⟨_, rfl⟩
  have eM : M.natAbs = m.natAbs := by rw [hM]; rfl
  have SM : (rep M.natAbs).length ≤ 68719476736 := by rw [eM]; exact S3
  have HM0 := Lib.hid (show M ≠ 0 by have := Hz.out; rw [hM]; omega)
  have hxM : 0 ≤ x % M ∧ x % M < M := ⟨Int.emod_nonneg _ HM0.out, Int.emod_lt_of_pos _ (by have := HM0.out; omega)⟩
  have SX : (rep (x % M).natAbs).length ≤ 68719476736 := Nat.le_trans (rep_mono (by omega)) SM
  obtain ⟨K, hK⟩ : ∃ K : Nat, K = (x % M).natAbs ^ y.natAbs % M.natAbs := ⟨_, rfl⟩
  have hKM : K < m.natAbs := by rw [hK, eM]; exact Nat.mod_lt _ (by have := Hz.out; omega)
  have SK : (rep (K : Int).natAbs).length ≤ 1024 := by rw [Int.natAbs_natCast]; exact Nat.le_trans (rep_mono (Nat.le_of_lt hKM)) s3
  have SK' : (rep (K : Int).natAbs).length ≤ 68719476736 := Nat.le_trans SK (by decide)
  have hKm : (K : Int) % M = K := Int.emod_eq_of_lt (by omega) (by rw [hM]; omega)
  have hfin : modpowZ x y m = if m < 0 ∧ K ≠ 0 then (K : Int) + m else K := by
    unfold modpowZ
    simp only []
    rw [← hM, ← eM, ← hK]
  have HFin := Lib.hid hfin
  have HKm := Lib.hid hKm
  have HK := Lib.hid hK
  have HMe := Lib.hid hM
  clear hM eM hxM hK hKm hfin
  go_enter Tryz.func20, Tryz.ntmps20
  go_wp2_with fail
  rw [← HWe.out]
  refine HM.out.mono ?_
  rintro e w1 ⟨rfl, hbw⟩
  have hbw' := below_over hbw
  have hB1 : Below w.heap.size w w1 := hW.trans (hbw'.mono hW.size)
  have q0 := r0.below hbw' r0.lt
  have q1 := r1.below hbw' r1.lt
  have q2 := r2.below hbw' r2.lt
  have q3 := r3.below hbw' r3.lt
  have hw1 := fun X ls (h : At w1 X ls) => at_wide h n1 a1 l1 m1 c1 (hy1.below hB1) hl1 Hm1.out (by omega)
  have hw2 := fun X ls (h : At w1 X ls) => at_wide h false a2 l2 m2 c2 (hy2.below hB1) hl2 Hm2.out (by omega)
  have hw3 := fun X ls (h : At w1 X ls) => at_wide h n3 a3 l3 m3 c3 (hy3.below hB1) hl3 Hm3.out (by omega)
  rw [← hx] at hw1
  rw [← hy] at hw2
  rw [← hz] at hw3
  have HW1 := Lib.hid hw1; clear hw1 hx
  have HW2 := Lib.hid hw2; clear hw2 hy
  have HW3 := Lib.hid hw3; clear hw3 hz
  have hsz1 : w.heap.size + 4 ≤ w1.heap.size := by have := hbw'.size; omega
  have hk : ∀ X, Below w1.heap.size w1 X → X.cell? ⟨w.heap.size, 0, none⟩ = some (.bool n1) ∧ X.cell? ⟨w.heap.size, 1, none⟩ = some (.slice a1 m1 c1) ∧ X.cell? ⟨w.heap.size + 1, 0, none⟩ = some (.bool false) ∧ X.cell? ⟨w.heap.size + 1, 1, none⟩ = some (.slice a2 m2 c2) ∧
      X.cell? ⟨w.heap.size + 1 + 1, 0, none⟩ = some (.bool n3) ∧ X.cell? ⟨w.heap.size + 1 + 1, 1, none⟩ = some (.slice a3 m3 c3) ∧ Row X (w.heap.size + 1 + 1 + 1) 24 [.bool false, .slice none 0 0] := by
    intro X hX
    have p0 := q0.below hX (by omega)
    have p1 := q1.below hX (by omega)
    have p2 := q2.below hX (by omega)
    exact ⟨p0.cell_at 0, p0.cell_at 1, p1.cell_at 0, p1.cell_at 1, p2.cell_at 0, p2.cell_at 1, q3.below hX (by omega)⟩
  have HKc := Lib.hid hk; clear hk
  have h := At.refl w1
  clear q0 q1 q2 q3 hbw' hbw t1 t2 t3
  obtain ⟨k0, k1, k2, k3, k4, k5, -⟩ := HKc.out _ h.below
  go_wp2_with fail
  refine (HW3.out _ _ h).mono ?_
  rintro e w2 ⟨pd, rfl, h2⟩
  have h3 := h2.new
  obtain ⟨ps, hps⟩ : ∃ ps, ps = w2.heap.size := ⟨_, rfl⟩
  rw [← hps] at h3
  have Hps := Lib.hid hps; clear hps
  clear h k0 k1 k2 k3 k4 k5
  go_wp2_with fail
  rw [← Hps.out]
  refine (at_abs h3 (.tail _ (.head _)) S3).mono ?_
  rw [← HMe.out]
  rintro e w3 ⟨rfl, h4⟩
  have h5 := h4.new
  obtain ⟨pb, hpb⟩ : ∃ pb, pb = w3.heap.size := ⟨_, rfl⟩
  rw [← hpb] at h5
  have Hpb := Lib.hid hpb; clear hpb
  clear h2 h3
  obtain ⟨k0, k1, k2, k3, k4, k5, -⟩ := HKc.out _ h4.below
  obtain ⟨j0, j1, j2, j3, j4, j5, -⟩ := HKc.out _ h5.below
  go_wp2_with fail
  refine (HW1.out _ _ h5).mono ?_
  rintro e w4 ⟨pa, rfl, h6⟩
  clear h4 h5 k0 k1 k2 k3 k4 k5 j0 j1 j2 j3 j4 j5
  go_wp2_with fail
  rw [← Hpb.out]
  refine (at_mod h6.swap (.tail _ (.head _)) (.tail _ (.tail _ (.head _))) HM0.out S1 SM).mono ?_
  rintro e w5 ⟨rfl, h7⟩
  clear h6
  have h8 := h7.new
  obtain ⟨pr, hpr⟩ : ∃ pr, pr = w5.heap.size := ⟨_, rfl⟩
  rw [← hpr] at h8
  have Hpr := Lib.hid hpr; clear hpr
  obtain ⟨k0, k1, k2, k3, k4, k5, -⟩ := HKc.out _ h7.below
  obtain ⟨j0, j1, j2, j3, j4, j5, -⟩ := HKc.out _ h8.below
  go_wp2_with fail
  refine (HW2.out _ _ h8).mono ?_
  rintro e w6 ⟨pn, rfl, h9⟩
  clear h7 h8 k0 k1 k2 k3 k4 k5 j0 j1 j2 j3 j4 j5
  go_wp2_with fail
  rw [← Hpr.out]
  refine (at_expmod h9.swap (.tail _ (.tail _ (.head _))) (.tail _ (.head _)) (.tail _ (.tail _ (.tail _ (.tail _ (.head _))))) HM0.out SX S2 SM).mono ?_
  rw [← HK.out]
  rintro e w7 ⟨rfl, h10⟩
  clear h9
  go_wp2_with fail
  refine (at_mod h10 (.head _) (.tail _ (.tail _ (.tail _ (.tail _ (.head _))))) HM0.out SK' SM).mono ?_
  rw [HKm.out]
  rintro e w8 ⟨rfl, h11⟩
  clear h10
  have md : (pd, m) ∈ [(pr, (K : Int)), (pn, y), (pb, x % M), (pa, x), (ps, M), (pd, m)] := by simp
  have fin : ∀ (X : World) (ls : List (Nat × Int)) (z : Int), At w1 X ls → (pr, z) ∈ ls → (rep z.natAbs).length ≤ 68719476736 → Calls Tryz.prog 62 #[.pointer (some ⟨pr, 0, none⟩)] X fun e X' => (∃ b a n c k, e = .returned (.tuple #[.agg #[.bool b, .slice a n c], .int .i64 k]) ∧
      Hid (∀ w0 w2, Below w0.heap.size w0 w2 → (∀ l, Lay .u32 X' a l → Lay .u32 w2 a l) → Answer true w0 w2 e z)) ∧ Below w1.heap.size w1 X' := fun X ls z h hm hl => (at_narrow_shape h hm hl).mono fun e X' ⟨⟨b, a, n, c, k, h1, h2⟩, h3⟩ => ⟨⟨b, a, n, c, k, h1, Lib.hid h2⟩, h3.below⟩
  have HF := Lib.hid fin; clear fin
  by_cases hneg : m < 0
  · have d1 : decide (sgnI m < 0) = true := by rw [decide_eq_true_eq]; unfold sgnI; rw [if_pos hneg]; decide
    have Hneg := Lib.hid hneg; clear hneg
    by_cases hK0 : K = 0
    · have d2 : (sgnI (K : Int) != 0) = false := by rw [bne_eq_false_iff_eq, hK0]; rfl
      have HK0 := Lib.hid hK0; clear hK0
      go_wp2_with fail
      refine (at_sign h11 md).mono ?_
      rintro e w9 ⟨rfl, rfl⟩
      go_wp2_with fail
      refine (at_sign h11 (.head _)).mono ?_
      rintro e w9 ⟨rfl, rfl⟩
      go_wp2_with fail
      refine (HF.out w8 _ _ h11 (.head _) SK').mono ?_
      rintro e w10 ⟨⟨b', a', n', c', k', rfl, HN⟩, hb10⟩
      obtain ⟨-, -, -, -, -, -, hR⟩ := HKc.out _ hb10
      have hBf : Below w.heap.size w w10 := hB1.trans (hb10.mono hB1.size)
      have k0 := hR.cell_at 0
      have k1 := hR.cell_at 1
      have k2 := hR.free 0
      have k3 := hR.free 1
      simp only [List.getElem?_cons_zero, List.getElem?_cons_succ] at k0 k1
      have e0 : (w10.setCell ⟨w.heap.size + 1 + 1 + 1, 0, none⟩ (.bool b')).cell? ⟨w.heap.size + 1 + 1 + 1, 0, none⟩ = some (.bool b') := (hR.store_any 0 _).cell_at 0
      have e1 : ((w10.setCell ⟨w.heap.size + 1 + 1 + 1, 0, none⟩ (.bool b')).setCell ⟨w.heap.size + 1 + 1 + 1, 1, none⟩ (.slice a' n' c')).cell? ⟨w.heap.size + 1 + 1 + 1, 1, none⟩ = some (.slice a' n' c') := ((hR.store_any 0 _).store_any 1 _).cell_at 1
      have HB := Lib.hid (below_store (below_store hBf (g := w.heap.size + 1 + 1 + 1) (i := 0) (by omega) (.bool b')) (g := w.heap.size + 1 + 1 + 1) (i := 1) (by omega) (.slice a' n' c'))
      have HR := Lib.hid hR; clear hR
      go_wp2
      (try simp only [Exit.inBlock, Exit.then])
      refine bodyPost_ret (v := .tuple #[.agg #[.bool b', .slice a' n' c'], .int .i64 k']) (by simp [results, Tryz.results20, go_sem, e0, e1]) rfl ?_
      rw [HFin.out, if_neg (fun h => h.2 HK0.out)]
      exact HN.out _ _ HB.out (fun l hl => hl.pair HR.out _ _)
    · have d2 : (sgnI (K : Int) != 0) = true := by rw [bne_iff_ne, Ne, sgnI_zero]; omega
      have SKm : (rep ((K : Int) + m).natAbs).length ≤ 68719476736 := Nat.le_trans (rep_mono (by have := Hneg.out; omega)) S3
      have HK0 := Lib.hid hK0; clear hK0
      go_wp2_with fail
      refine (at_sign h11 md).mono ?_
      rintro e w9 ⟨rfl, rfl⟩
      go_wp2_with fail
      refine (at_sign h11 (.head _)).mono ?_
      rintro e w9 ⟨rfl, rfl⟩
      go_wp2_with fail
      refine (at_addh h11 (.head _) md SK' S3).mono ?_
      rintro e w9 ⟨rfl, h12⟩
      go_wp2_with fail
      refine (HF.out w9 _ _ h12 (.head _) SKm).mono ?_
      rintro e w10 ⟨⟨b', a', n', c', k', rfl, HN⟩, hb10⟩
      obtain ⟨-, -, -, -, -, -, hR⟩ := HKc.out _ hb10
      have hBf : Below w.heap.size w w10 := hB1.trans (hb10.mono hB1.size)
      have k0 := hR.cell_at 0
      have k1 := hR.cell_at 1
      have k2 := hR.free 0
      have k3 := hR.free 1
      simp only [List.getElem?_cons_zero, List.getElem?_cons_succ] at k0 k1
      have e0 : (w10.setCell ⟨w.heap.size + 1 + 1 + 1, 0, none⟩ (.bool b')).cell? ⟨w.heap.size + 1 + 1 + 1, 0, none⟩ = some (.bool b') := (hR.store_any 0 _).cell_at 0
      have e1 : ((w10.setCell ⟨w.heap.size + 1 + 1 + 1, 0, none⟩ (.bool b')).setCell ⟨w.heap.size + 1 + 1 + 1, 1, none⟩ (.slice a' n' c')).cell? ⟨w.heap.size + 1 + 1 + 1, 1, none⟩ = some (.slice a' n' c') := ((hR.store_any 0 _).store_any 1 _).cell_at 1
      have HB := Lib.hid (below_store (below_store hBf (g := w.heap.size + 1 + 1 + 1) (i := 0) (by omega) (.bool b')) (g := w.heap.size + 1 + 1 + 1) (i := 1) (by omega) (.slice a' n' c'))
      have HR := Lib.hid hR; clear hR
      go_wp2
      (try simp only [Exit.inBlock, Exit.then])
      refine bodyPost_ret (v := .tuple #[.agg #[.bool b', .slice a' n' c'], .int .i64 k']) (by simp [results, Tryz.results20, go_sem, e0, e1]) rfl ?_
      rw [HFin.out, if_pos ⟨Hneg.out, HK0.out⟩]
      exact HN.out _ _ HB.out (fun l hl => hl.pair HR.out _ _)
  · have d1 : decide (sgnI m < 0) = false := by rw [decide_eq_false_iff_not]; unfold sgnI; rw [if_neg hneg]; split <;> decide
    have Hneg := Lib.hid hneg; clear hneg
    go_wp2_with fail
    refine (at_sign h11 md).mono ?_
    rintro e w9 ⟨rfl, rfl⟩
    go_wp2_with fail
    refine (HF.out w8 _ _ h11 (.head _) SK').mono ?_
    rintro e w10 ⟨⟨b', a', n', c', k', rfl, HN⟩, hb10⟩
    obtain ⟨-, -, -, -, -, -, hR⟩ := HKc.out _ hb10
    have hBf : Below w.heap.size w w10 := hB1.trans (hb10.mono hB1.size)
    have k0 := hR.cell_at 0
    have k1 := hR.cell_at 1
    have k2 := hR.free 0
    have k3 := hR.free 1
    simp only [List.getElem?_cons_zero, List.getElem?_cons_succ] at k0 k1
    have e0 : (w10.setCell ⟨w.heap.size + 1 + 1 + 1, 0, none⟩ (.bool b')).cell? ⟨w.heap.size + 1 + 1 + 1, 0, none⟩ = some (.bool b') := (hR.store_any 0 _).cell_at 0
    have e1 : ((w10.setCell ⟨w.heap.size + 1 + 1 + 1, 0, none⟩ (.bool b')).setCell ⟨w.heap.size + 1 + 1 + 1, 1, none⟩ (.slice a' n' c')).cell? ⟨w.heap.size + 1 + 1 + 1, 1, none⟩ = some (.slice a' n' c') := ((hR.store_any 0 _).store_any 1 _).cell_at 1
    have HB := Lib.hid (below_store (below_store hBf (g := w.heap.size + 1 + 1 + 1) (i := 0) (by omega) (.bool b')) (g := w.heap.size + 1 + 1 + 1) (i := 1) (by omega) (.slice a' n' c'))
    have HR := Lib.hid hR; clear hR
    go_wp2
    (try simp only [Exit.inBlock, Exit.then])
    refine bodyPost_ret (v := .tuple #[.agg #[.bool b', .slice a' n' c'], .int .i64 k']) (by simp [results, Tryz.results20, go_sem, e0, e1]) rfl ?_
    rw [HFin.out, if_neg (fun h => by have := Hneg.out; omega)]
    exact HN.out _ _ HB.out (fun l hl => hl.pair HR.out _ _)

end Go.Proofs.YtbffpkmfhkphdaaGreatDoor

namespace Go.Proofs.YtbffpkmfhkphdaaGreatDoor
open Go Go.RowKit Limb

/-- A difference, in memory of its own. -/
def LessRes (w w' : World) (e : Ending) (N : Nat) : Prop :=
  ∃ a cap, e = .returned (.slice a (rep N).length cap) ∧ (rep N).length ≤ cap ∧ Lay .u32 w' a (rep N) ∧ Below w.heap.size w w' ∧ Fresh w a

set_option maxHeartbeats 1600000 in
set_option maxRecDepth 1000000 in
theorem ref_less (w : World) (a b : Option Addr) (xs ys : List Nat) (n m ca cb : Nat) (ha : Lay .u32 w a xs) (hb : Lay .u32 w b ys) (hx : Lim xs) (hy : Lim ys) (hn : n = xs.length) (hm : m = ys.length)
    (ln : n ≤ 1099511627776) (hle : val ys ≤ val xs) (hmn : m ≤ n) :
    Calls Tryz.prog 88 #[.slice a n ca, .slice b m cb] w fun e w' => LessRes w w' e (val xs - val ys) := by
  obtain ⟨b1, off1, hix, hcx, _⟩ := ha.use 22 60 Tryz.underlying22 size32 ca
  obtain ⟨b2, off2, hiy, hcy, _⟩ := hb.use 22 60 Tryz.underlying22 size32 cb
  rw [← hn] at hix hcx
  rw [← hm] at hiy hcy
  have Hn := Lib.hid hn; clear hn
  have Hm := Lib.hid hm; clear hm
  have HX := Lib.hid hix; clear hix
  have HCX := Lib.hid hcx; clear hcx
  have HY := Lib.hid hiy; clear hiy
  have HCY := Lib.hid hcy; clear hcy
  go_enter Tryz.func88, Tryz.ntmps88
  go_wp2_with (at_make; refine wpList_make_row rfl _ _ _ rfl 60 (.int .u32 0) 4 Tryz.underlying22 info32 rfl _ _ _ _ n n rfl rfl rfl rfl (by omega) (by omega) (by omega) ?_; intro w1 g hg1 hg2 hrow hbel)
  go_loopw [6, 7] (fun c i wr => ∃ (k cc : Nat) (zs : List Nat), k ≤ n ∧ i = .int .i64 k ∧ c = .int .i64 cc ∧ cc ≤ 1 ∧ Hid (zs.length = n) ∧ Lim zs ∧ Row wr g 60 (nums .u32 zs) ∧
      Hid (val (zs.take k) + val (ys.take k) = val (xs.take k) + cc * W k) ∧ Below w.heap.size w wr) (fun _ i _ => n - (intOf i).toNat)
  case atStart => exact ⟨0, 0, List.replicate n 0, by omega, rfl, rfl, by omega, Lib.hid (by simp), Lim.replicate _ (by decide), by rw [nums_replicate]; exact hrow, Lib.hid (by simp [val]), hbel⟩
  case round =>
    obtain ⟨k, c, zs, hk, rfl, rfl, hc1, Hzl, hzlim, hr, Hv, hbl⟩ := hrel
    clear hrow hbel
    have h1 := hx.wd k
    have h2 := hy.wd k
    by_cases hlt : k < n
    · have hcell := hr.cell (i := k) (by rw [Hzl.out]; omega)
      have hfk := hr.free k
      have ix := HX.out wr .i64 k (by omega) (by omega)
      rw [Int.toNat_natCast] at ix
      have cx : wr.cell? ⟨b1, off1 + k, none⟩ = some (.int .u32 (wd xs k : Nat)) := HCX.out wr hbl k hlt
      have ig := row_index (P := Tryz.prog) Tryz.underlying22 size32 g n n .i64 (k : Int) k rfl hlt
      have hst := Lib.hid (less_step (by rw [Hzl.out]; exact hlt) hc1 h1 h2 Hv.out)
      obtain ⟨d, hd⟩ : ∃ d, d = (wd xs k + 4294967296 - wd ys k - c) % 4294967296 := ⟨_, rfl⟩
      rw [← hd] at hst
      have dl : d < 4294967296 := by omega
      by_cases hkm : k < m
      · have iy := HY.out wr .i64 k (by omega) (by omega)
        rw [Int.toNat_natCast] at iy
        have cy := HCY.out wr hbl k hkm
        have d1 : decide (k < m) = true := by rw [decide_eq_true_eq]; exact hkm
        by_cases hbw : wd xs k < wd ys k + c
        · have eb : (if wd xs k < wd ys k + c then 1 else 0) = 1 := if_pos hbw
          have ev : (wd xs k : Int) - (c : Int) - (wd ys k : Nat) + 4294967296 = (d : Int) := by omega
          have et : decide ((wd xs k : Int) - (c : Int) - (wd ys k : Nat) < 0) = true := by rw [decide_eq_true_eq]; omega
          rw [eb] at hst
          clear hd eb hbw
          go_wp2
          go_roundw
          case rel => exact ⟨k + 1, 1, zs.set k d, by omega, by go_num, rfl, by omega, Lib.hid (by rw [List.length_set, Hzl.out]), hzlim.set dl, hr.store _ _ _ rfl, hst, below_store hbl hg1 _⟩
          case measure => simp [intOf]; omega
        · have eb : (if wd xs k < wd ys k + c then 1 else 0) = 0 := if_neg hbw
          have ev : (wd xs k : Int) - (c : Int) - (wd ys k : Nat) = (d : Int) := by omega
          have et : decide ((wd xs k : Int) - (c : Int) - (wd ys k : Nat) < 0) = false := by rw [decide_eq_false_iff_not]; omega
          have et2 : ¬ (d : Int) < 0 := by omega
          rw [eb] at hst
          clear hd eb hbw
          go_wp2
          go_roundw
          case rel => exact ⟨k + 1, 0, zs.set k d, by omega, by go_num, rfl, by omega, Lib.hid (by rw [List.length_set, Hzl.out]), hzlim.set dl, hr.store _ _ _ rfl, hst, below_store hbl hg1 _⟩
          case measure => simp [intOf]; omega
      · have z2 := wd_ge (l := ys) (i := k) (by rw [← Hm.out]; omega)
        have d1 : decide (k < m) = false := by rw [decide_eq_false_iff_not]; exact hkm
        by_cases hbw : wd xs k < wd ys k + c
        · have eb : (if wd xs k < wd ys k + c then 1 else 0) = 1 := if_pos hbw
          have ev : (wd xs k : Int) - (c : Int) + 4294967296 = (d : Int) := by omega
          have et : decide ((wd xs k : Int) - (c : Int) < 0) = true := by rw [decide_eq_true_eq]; omega
          rw [eb] at hst
          clear hd eb hbw z2
          go_wp2
          go_roundw
          case rel => exact ⟨k + 1, 1, zs.set k d, by omega, by go_num, rfl, by omega, Lib.hid (by rw [List.length_set, Hzl.out]), hzlim.set dl, hr.store _ _ _ rfl, hst, below_store hbl hg1 _⟩
          case measure => simp [intOf]; omega
        · have eb : (if wd xs k < wd ys k + c then 1 else 0) = 0 := if_neg hbw
          have ev : (wd xs k : Int) - (c : Int) = (d : Int) := by omega
          have et : decide ((wd xs k : Int) - (c : Int) < 0) = false := by rw [decide_eq_false_iff_not]; omega
          have et2 : ¬ (d : Int) < 0 := by omega
          rw [eb] at hst
          clear hd eb hbw z2
          go_wp2
          go_roundw
          case rel => exact ⟨k + 1, 0, zs.set k d, by omega, by go_num, rfl, by omega, Lib.hid (by rw [List.length_set, Hzl.out]), hzlim.set dl, hr.store _ _ _ rfl, hst, below_store hbl hg1 _⟩
          case measure => simp [intOf]; omega
    · obtain rfl : k = n := by omega
      have hl2 := hr.lay
      have hle2 := rep_val_le hzlim
      have hval := Lib.hid (less_end hzlim Hzl.out (by rw [Hn.out]) (by rw [← Hm.out]; exact hmn) hle Hv.out)
      clear h1 h2
      go_wp2_with (go_at_call 101; refine (ref_cut _ _ zs _ _ (by assumption) (by assumption) (by rw [Hzl.out]) (by omega) (by omega)).mono ?_; rintro e w' ⟨rfl, rfl⟩)
      go_ret
      rw [Hzl.out] at hle2
      rw [← hval.out]
      exact ⟨_, _, rfl, hle2, hl2.norm hzlim, hbl, fun b off e => by simp only [Option.some.injEq, Addr.mk.injEq] at e; omega⟩

end Go.Proofs.YtbffpkmfhkphdaaGreatDoor

namespace Go.Proofs.YtbffpkmfhkphdaaGreatDoor
open Go Go.RowKit Limb

theorem times_row {zs zs0 xs ys : List Nat} {k jj : Nat} (hl : zs.length = zs0.length) (hk : k + jj ≤ zs.length) (hj : ys.length ≤ jj)
    (hs : ∀ t, k + jj ≤ t → wd zs t = wd zs0 t) (h0 : val zs0 = val (xs.take k) * val ys)
    (h : val (zs.take (k + jj)) + 0 * W (k + jj) = val (zs0.take (k + jj)) + wd xs k * val (ys.take jj) * W k) : val zs = val (xs.take (k + 1)) * val ys := by
  have e1 := val_take_drop zs (k + jj) hk
  have e2 := val_take_drop zs0 (k + jj) (by omega)
  have e3 : zs.drop (k + jj) = zs0.drop (k + jj) := by
    apply ext_wd (by simp [hl])
    intro i _
    rw [wd_drop, wd_drop]; exact hs _ (by omega)
  rw [e3] at e1
  rw [List.take_of_length_le hj, Nat.zero_mul, Nat.add_zero] at h
  rw [val_take_succ xs, Nat.add_mul, Nat.mul_comm (W k), Nat.mul_right_comm, ← h0]
  omega

set_option maxHeartbeats 1600000 in
set_option maxRecDepth 1000000 in
theorem ref_times (w : World) (a b : Option Addr) (xs ys : List Nat) (n m ca cb : Nat) (ha : Lay .u32 w a xs) (hb : Lay .u32 w b ys) (hx : Lim xs) (hy : Lim ys) (hn : n = xs.length) (hm : m = ys.length)
    (ln : n ≤ 1099511627776) (lm : m ≤ 1099511627776) :
    Calls Tryz.prog 89 #[.slice a n ca, .slice b m cb] w fun e w' => NatRes w w' e (val xs * val ys) := by
  obtain ⟨b1, off1, hix, hcx, _⟩ := ha.use 22 60 Tryz.underlying22 size32 ca
  obtain ⟨b2, off2, hiy, hcy, _⟩ := hb.use 22 60 Tryz.underlying22 size32 cb
  rw [← hn] at hix hcx
  rw [← hm] at hiy hcy
  have Hn := Lib.hid hn; clear hn
  have Hm := Lib.hid hm; clear hm
  have HX := Lib.hid hix; clear hix
  have HCX := Lib.hid hcx; clear hcx
  have HY := Lib.hid hiy; clear hiy
  have HCY := Lib.hid hcy; clear hcy
  go_enter Tryz.func89, Tryz.ntmps89
  go_wp2_with (at_make; refine wpList_make_row rfl _ _ _ rfl 60 (.int .u32 0) 4 Tryz.underlying22 info32 rfl _ _ _ _ (n + m) (n + m) rfl rfl (by simp) (by simp) (by omega) (by omega) (by omega) ?_; intro w1 g hg1 hg2 hrow hbel)
  go_loopw [6] (fun i wr => ∃ (k : Nat) (zs : List Nat), k ≤ n ∧ i = .int .i64 k ∧ Hid (zs.length = n + m) ∧ Lim zs ∧ Row wr g 60 (nums .u32 zs) ∧
      Hid (val zs = val (xs.take k) * val ys) ∧ Hid (∀ t, k + m ≤ t → wd zs t = 0) ∧ Below w.heap.size w wr) (fun i _ => n - (intOf i).toNat)
  case atStart => exact ⟨0, List.replicate (n + m) 0, by omega, rfl, Lib.hid (by simp), Lim.replicate _ (by decide), by rw [nums_replicate]; exact hrow, Lib.hid (by simp [val, val_replicate]), Lib.hid (fun t _ => wd_replicate _ _), hbel⟩
  case round =>
    obtain ⟨k, zs0, hk, rfl, Hzl, hzlim, hr, Hv, H0, hbl⟩ := hrel
    clear hrow hbel
    have h1 := hx.wd k
    by_cases hlt : k < n
    · have ix := fun (W : World) => HX.out W .i64 k (by omega) (by omega)
      simp only [Int.toNat_natCast] at ix
      obtain ⟨wo, hwo⟩ : ∃ wo : World, wo = wr := ⟨_, rfl⟩
      subst hwo
      go_wp2
      go_loopw [7, 8] (fun c j wr => ∃ (jj cc : Nat) (zs : List Nat), jj ≤ m + 1 ∧ Hid (jj = m + 1 → cc = 0) ∧ j = .int .i64 jj ∧ c = .int .u64 cc ∧ cc < 4294967296 ∧ Hid (zs.length = n + m) ∧ Lim zs ∧ Row wr g 60 (nums .u32 zs) ∧
          Hid (∀ t, k + jj ≤ t → wd zs t = wd zs0 t) ∧ Hid (val (zs.take (k + jj)) + cc * W (k + jj) = val (zs0.take (k + jj)) + wd xs k * val (ys.take jj) * W k) ∧ Below w.heap.size w wr) (fun _ j _ => m + 1 - (intOf j).toNat)
      case atStart => exact ⟨0, 0, zs0, by omega, Lib.hid (fun _ => rfl), rfl, rfl, by omega, Lib.hid Hzl.out, hzlim, hr, Lib.hid (fun _ _ => rfl), Lib.hid (by simp [val]), hbl⟩
      case round =>
        obtain ⟨j, c, zs, hj, Hj, rfl, rfl, hc, Hzl2, hzlim2, hr2, Hs, Hv2, hbl2⟩ := hrel
        clear hr hbl
        have h2 := hy.wd j
        have h3 := hzlim2.wd (k + j)
        by_cases hgo : j < m ∨ 0 < c
        · have jm : j ≤ m := by have := Hj.out; omega
          have hcell := hr2.cell (i := k + j) (by rw [Hzl2.out]; omega)
          have hfk := hr2.free (k + j)
          have ig := row_index (P := Tryz.prog) Tryz.underlying22 size32 g (n + m) (n + m) .i64 ((k : Int) + (j : Int)) (k + j) (by omega) (by omega)
          have hst := Lib.hid (times_in' (by rw [Hzl2.out]; omega) (Hs.out _ (Nat.le_refl _)) Hv2.out)
          obtain ⟨t, ht⟩ : ∃ t, t = wd xs k * wd ys j + wd zs (k + j) + c := ⟨_, rfl⟩
          have tb : t < 18446744073709551616 := by
            rw [ht]
            have := Nat.mul_le_mul (show wd xs k ≤ 4294967295 by omega) (show wd ys j ≤ 4294967295 by omega); omega
          rw [← ht] at hst
          obtain ⟨d, hd⟩ : ∃ d, d = t % 4294967296 := ⟨_, rfl⟩
          obtain ⟨c2, hc2⟩ : ∃ c2, c2 = t / 4294967296 := ⟨_, rfl⟩
          rw [← hd, ← hc2] at hst
          have ed : (t : Int) % 4294967296 = (d : Int) := by omega
          have ec : (t : Int) / 4294967296 = (c2 : Int) := by omega
          have dl : d < 4294967296 := by omega
          have cl : c2 < 4294967296 := by omega
          have hs2 : Hid (∀ t, k + (j + 1) ≤ t → wd (zs.set (k + j) d) t = wd zs0 t) := Lib.hid (fun t h => by rw [wd_set (by rw [Hzl2.out]; omega), if_neg (by omega)]; exact Hs.out t (by omega))
          by_cases hjm : j < m
          · have iy := fun (W : World) => HY.out W .i64 j (by omega) (by omega)
            simp only [Int.toNat_natCast] at iy
            have cx := HCX.out wr hbl2 k hlt
            have cy := HCY.out wr hbl2 j hjm
            have d1 : decide (j < m) = true := by rw [decide_eq_true_eq]; exact hjm
            obtain ⟨p, hp⟩ : ∃ p, p = wd xs k * wd ys j := ⟨_, rfl⟩
            have ep : ((wd xs k : Nat) : Int) * ((wd ys j : Nat) : Int) = (p : Int) := by rw [hp, Int.natCast_mul]
            rw [← hp] at ht
            have pb : p < 18446744073709551616 := by omega
            have et : ((wd zs (k + j) : Nat) : Int) + (c : Int) + (p : Int) = (t : Int) := by omega
            have hlast : Hid (j + 1 = m + 1 → c2 = 0) := Lib.hid (fun e => by omega)
            clear hd hc2 hp ht hgo
            go_wp2
            go_quiet (fail)
            go_wp2
            go_roundw
            case rel => exact ⟨j + 1, c2, zs.set (k + j) d, by omega, hlast, by go_num, rfl, cl, Lib.hid (by rw [List.length_set, Hzl2.out]), hzlim2.set dl, (hr2.drewN _).store _ _ _ rfl, hs2, hst, below_store (below_drewN hbl2 _) hg1 _⟩
            case measure => simp [intOf]; omega
          · have ej : j = m := by omega
            have z1 := wd_ge (l := ys) (i := j) (by rw [← Hm.out]; omega)
            have z2 : wd zs (k + j) = 0 := by rw [Hs.out _ (Nat.le_refl _)]; exact H0.out _ (by omega)
            rw [z1, z2, Nat.mul_zero] at ht
            have d1 : decide (j < m) = false := by rw [decide_eq_false_iff_not]; exact hjm
            have d2 : decide (0 < c) = true := by rw [decide_eq_true_eq]; omega
            have et : ((wd zs (k + j) : Nat) : Int) + (c : Int) = (t : Int) := by omega
            have hlast : Hid (j + 1 = m + 1 → c2 = 0) := Lib.hid (fun e => by omega)
            have jm1 : j + 1 ≤ m + 1 := by omega
            clear hd hc2 ht hgo z1 z2 ej
            go_wp2
            go_roundw
            case rel => exact ⟨j + 1, c2, zs.set (k + j) d, jm1, hlast, by go_num, rfl, cl, Lib.hid (by rw [List.length_set, Hzl2.out]), hzlim2.set dl, hr2.store _ _ _ rfl, hs2, hst, below_store hbl2 hg1 _⟩
            case measure => simp [intOf]; omega
        · have z : c = 0 := by omega
          subst z
          have d1 : decide (j < m) = false := by rw [decide_eq_false_iff_not]; omega
          have hvn := Lib.hid (times_row (by rw [Hzl2.out, Hzl.out]) (by rw [Hzl2.out]; omega) (by rw [← Hm.out]; omega) Hs.out Hv.out Hv2.out)
          have hz2 : Hid (∀ t, k + 1 + m ≤ t → wd zs t = 0) := Lib.hid (fun t h => by rw [Hs.out t (by omega)]; exact H0.out t (by omega))
          clear hgo
          go_wp2
          go_roundw
          case rel => exact ⟨k + 1, zs, by omega, by go_num, Lib.hid Hzl2.out, hzlim2, hr2, hvn, hz2, hbl2⟩
          case measure => simp [intOf]; omega
    · obtain rfl : k = n := by omega
      have hl2 := hr.lay
      have hle2 := rep_val_le hzlim
      have hval : Hid (val zs0 = val xs * val ys) := by
        have h := Hv.out
        rw [List.take_of_length_le (by rw [Hn.out]; omega)] at h
        exact h
      go_wp2_with (go_at_call 101; refine (ref_cut _ _ zs0 _ _ (by assumption) (by assumption) (by rw [Hzl.out]) (by omega) (by omega)).mono ?_; rintro e w' ⟨rfl, rfl⟩)
      go_ret
      rw [Hzl.out] at hle2
      rw [← hval.out]
      exact ⟨_, _, rfl, hle2, by omega, hl2.norm hzlim, hbl⟩

end Go.Proofs.YtbffpkmfhkphdaaGreatDoor
