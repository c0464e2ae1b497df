/- The walks of big.root, and of Sqrt of package big's integers. The walks of Lsh and Rsh of package big's integers. The walk of (*Int).Exp of package big with a modulus. large.Quo and large.Div: a call of divide each. -/
import Derived.Test.YtbffpkmfhkphdaaGreatDoorGX01
import Derived.Test.YtbffpkmfhkphdaaGreatDoorGX14
import Derived.Test.YtbffpkmfhkphdaaGreatDoorGX24
import Derived.Test.YtbffpkmfhkphdaaGreatDoorGX08
import Derived.Test.YtbffpkmfhkphdaaGreatDoorAtC
import Derived.Test.YtbffpkmfhkphdaaGreatDoorGX06
import Derived.Test.YtbffpkmfhkphdaaGreatDoorGX21
import Derived.Test.YtbffpkmfhkphdaaGreatDoorDivideC
set_option linter.unusedVariables false
set_option linter.unusedSimpArgs false
namespace Go.Proofs.YtbffpkmfhkphdaaGreatDoor
open Go Go.RowKit Limb

def cellN : Option Value → Nat
  | some (.int _ n) => n.toNat
  | _ => 0
/-- The number that lies where a slice says. -/
def numAt (w : World) : Value → Nat
  | .slice (some ⟨b, off, _⟩) n _ => val ((List.range n).map fun i => cellN (w.cell? ⟨b, off + i, none⟩))
  | _ => 0
theorem lay_unique {w : World} {a : Option Addr} {xs ys : List Nat} (h : Lay .u32 w a xs) (k : Lay .u32 w a ys) (hl : xs.length = ys.length) : xs = ys := by
  refine ext_wd hl fun i hi => ?_
  obtain ⟨b, off, h1, h2⟩ := h
  obtain ⟨b', off', k1, k2⟩ := k
  have e1 := (h1 (by omega)).1
  have e2 := (k1 (by omega)).1
  rw [e1] at e2
  simp only [Option.some.injEq, Addr.mk.injEq, and_true] at e2
  obtain ⟨rfl, rfl⟩ := e2
  have e3 := h2 i hi
  rw [k2 i (by omega)] at e3
  simp only [Option.some.injEq, Value.int.injEq, true_and] at e3
  omega
theorem numAt_eq {w : World} {a : Option Addr} {z n c : Nat} (h : Lay .u32 w a (rep z)) (hn : n = (rep z).length) : numAt w (.slice a n c) = z := by
  subst hn
  obtain ⟨b, off, h1, h2⟩ := h
  by_cases h0 : 0 < (rep z).length
  · have e := (h1 h0).1
    subst e
    unfold numAt
    simp only []
    have e2 : ((List.range (rep z).length).map fun i => cellN (w.cell? ⟨b, off + i, none⟩)) = rep z := by
      refine List.ext_getElem (by simp) fun i hi hj => ?_
      rw [List.getElem_map, List.getElem_range, h2 i hj, wd_lt hj]
      simp [cellN]
    rw [e2, val_rep]
  · have e : (rep z).length = 0 := by omega
    have ez : z = 0 := rep_length_zero.1 e
    rw [e]
    subst ez
    unfold numAt
    cases a <;> rfl

theorem sum_len {x y c : Nat} (hx : (rep x).length ≤ c) (hy : (rep y).length ≤ c) : (rep (x + y)).length ≤ c + 1 := by
  refine rep_length_le.2 ?_
  have h1 := rep_length_le.1 hx
  have h2 := rep_length_le.1 hy
  have h3 := W_succ c
  omega
theorem rootN_zero : rootN 0 = 0 := (rootN_is 0).unique ⟨by simp, by simp⟩
theorem rootN_pos {N : Nat} (h : 0 < N) : 0 < rootN N := by
  have := (rootN_is N).2
  rcases Nat.eq_zero_or_pos (rootN N) with h0 | h0
  · rw [h0] at this; omega
  · exact h0

set_option maxHeartbeats 3200000 in
set_option maxRecDepth 100000 in
theorem big_root (w : World) (a : Option Addr) (N n ca : Nat) (ha : Lay .u32 w a (rep N)) (hn : n = (rep N).length) (hca : n ≤ ca) (ln : n ≤ 1048576) :
    Calls Tryz.prog 164 #[.slice a n ca] w fun e w' => ∃ a' s c', e = .returned (.slice a' s c') ∧ s = (rep (rootN N)).length ∧ s ≤ c' ∧ Lay .u32 w' a' (rep (rootN N)) ∧ Below w.heap.size w w' := by
  by_cases h0 : n = 0
  · have hN : N = 0 := by
      have h1 := val_rep N
      rw [List.eq_nil_of_length_eq_zero (hn.symm.trans h0)] at h1
      exact h1.symm
    have hres : ∃ a' s c', (Ending.returned (.slice none 0 0)) = .returned (.slice a' s c') ∧ s = (rep (rootN N)).length ∧ s ≤ c' ∧ Lay .u32 w a' (rep (rootN N)) ∧ Below w.heap.size w w := by
      rw [hN, rootN_zero]; exact ⟨none, 0, 0, rfl, rfl, Nat.le_refl _, Lay.nil _ _ _, Below.refl _ _⟩
    have HR := Lib.hid hres
    clear hres hN ha hca ln hn
    subst h0
    go_enter Tryz.func164, Tryz.ntmps164
    go_wp2
    go_ret
    exact HR.out
  · have hN : 0 < N := by
      rcases Nat.eq_zero_or_pos N with h1 | h1
      · rw [h1] at hn; exact absurd hn h0
      · exact h1
    have q1 : ((n : Int) == 0) = false := by rw [beq_eq_false_iff_ne]; omega
    have Hn := Lib.hid hn; clear hn
    obtain ⟨W1, hW1⟩ : ∃ W1, W1 = w.alloc (.cells #[.int .u32 1] 60) := ⟨_, rfl⟩
    have hb1 : Below w.heap.size w W1 := by rw [hW1]; exact (Below.refl _ _).alloc (Nat.le_refl _) _
    have hl1 : Lay .u32 W1 (some ⟨w.heap.size, 0, none⟩) [1] := by rw [hW1]; exact row_one w 60 .u32 1 1 rfl
    have HW1 := Lib.hid hW1; clear hW1
    obtain ⟨L, hL⟩ : ∃ L, L = bitsN N := ⟨_, rfl⟩
    have hLl : L ≤ 32 * n := by rw [hL, Hn.out]; exact bitsN_le.2 (by rw [← W_two]; exact rep_len_hi N)
    have hLN : N < 2 ^ L := by rw [hL]; exact (bitsN_spec N).1
    obtain ⟨S, hS⟩ : ∃ S, S = (L + 1) / 2 := ⟨_, rfl⟩
    have eS : ((L : Int) + 1) / 2 = (S : Int) := by omega
    have eW : IntKind.u64.wrap ((L : Int) + 1) = (L : Int) + 1 := by rw [IntKind.wrap_u64]; omega
    have hSr := Lib.hid (Nat.le_of_lt (newton_start (rootN_is N) hLN))
    rw [← hS] at hSr
    have hSb : S ≤ 16777217 := by omega
    have hlen := big_length W1 a (rep N) n ca (ha.below hb1) (rep_lim _) (rep_norm _) Hn.out (by omega)
    rw [val_rep, ← hL] at hlen
    have hleft := big_left W1 (some ⟨w.heap.size, 0, none⟩) [1] 1 1 S hl1 (Lim.cons (by decide) Lim.nil) rfl (by decide) (by omega)
    rw [show val [1] * 2 ^ S = 2 ^ S from by simp [val]] at hleft
    have HLen := Lib.hid hlen
    have HLeft := Lib.hid hleft
    have HRo := Lib.hid (rootN_is N)
    have HRp := Lib.hid (rootN_pos hN)
    clear hlen hleft hL hS hLN hl1 h0
    obtain ⟨P, hP⟩ : ∃ P, P = 2 ^ S := ⟨_, rfl⟩
    rw [← hP] at HLeft hSr
    clear hP
    go_enter Tryz.func164, Tryz.ntmps164
    go_wp2_with fail
    rw [← HW1.out]
    refine HLen.out.mono ?_
    rintro e w2 ⟨rfl, rfl⟩
    go_wp2_with fail
    refine HLeft.out.mono ?_
    rintro e w3 ⟨a0, c0, rfl, hc0, hC0, hl0, hb3⟩
    have hB3 := hb1.trans (hb3.mono hb1.size)
    have hcl : (rep P).length ≤ 1048576 := by omega
    obtain ⟨n0, hn0⟩ : ∃ n0, n0 = (rep P).length := ⟨_, rfl⟩
    rw [← hn0] at hc0 hcl ⊢
    have Hn0 := Lib.hid hn0; clear hn0
    clear hb1 hb3 eS eW hLl hSb hC0
    go_wp2_with fail
    go_loopw [3] (fun zv wr => ∃ (z : Nat) (az : Option Addr) (nz cz : Nat), zv = .slice az nz cz ∧ Hid (nz = (rep z).length) ∧ nz ≤ cz ∧ nz ≤ 1048576 ∧ Lay .u32 wr az (rep z) ∧ Hid (rootN N ≤ z) ∧ Below w.heap.size w wr) (fun zv wr => numAt wr zv)
    case atStart => exact ⟨P, a0, n0, c0, rfl, Lib.hid Hn0.out, hc0, hcl, hl0, Lib.hid hSr.out, hB3⟩
    case round =>
      obtain ⟨z, az, nz, cz, rfl, Hnz, hcz, hnz, hlz, Hz, hB⟩ := hrel
      clear hl0 hc0 hcl hB3
      have hz0 : 0 < z := by have := HRp.out; have := Hz.out; omega
      have Hge := Lib.hid (newton_ge HRo.out hz0)
      have Hend := Lib.hid (fun h => newton_end HRo.out hz0 Hz.out h)
      have Hm := Lib.hid (numAt_eq (c := cz) hlz Hnz.out)
      go_wp2_with fail
      refine (big_quotient' wr a az N z n nz ca cz (ha.below hB) hlz Hn.out Hnz.out (by omega) (by omega) hca hz0).mono ?_
      rintro e w4 ⟨aq, cq, sq, ar, cr, sr, rfl, hsq, hsr, hcq, hcr, hlq, hlr, hb4⟩
      have Hsq := Lib.hid hsq; clear hsq hsr
      have hsqn : sq ≤ 1048576 := by rw [Hsq.out]; exact Nat.le_trans (rep_mono (Nat.div_le_self _ _)) (by rw [← Hn.out]; omega)
      have hlz4 := hlz.below hb4
      clear hlr hcr
      go_wp2_with fail
      refine (big_sum' w4 az aq z (N / z) nz sq cz cq hlz4 hlq Hnz.out Hsq.out (by omega) (by omega)).mono ?_
      rintro e w5 ⟨ax, cs, ss, rfl, hss, hcs, hls, hb5⟩
      have Hss := Lib.hid hss; clear hss
      have hssn : ss ≤ 1048577 := by
        rw [Hss.out]
        exact sum_len (by rw [← Hnz.out]; exact hnz) (by rw [← Hsq.out]; exact hsqn)
      go_wp2_with fail
      refine (big_right w5 ax (rep (z + N / z)) ss cs 1 hls (rep_lim _) (rep_norm _) Hss.out hcs (by omega) (by decide)).mono ?_
      rw [val_rep, Nat.pow_one]
      rintro e w6 ⟨a6, c6, rfl, hc6, hl6, hb6⟩
      obtain ⟨nx, hnx⟩ : ∃ nx, nx = (z + N / z) / 2 := ⟨_, rfl⟩
      rw [← hnx] at hc6 hl6 Hge Hend ⊢
      have hb46 := hb4.trans ((hb5.trans (hb6.mono hb5.size)).mono hb4.size)
      have hlz6 := hlz4.below (hb5.trans (hb6.mono hb5.size))
      have hB6 := hB.trans (hb46.mono hB.size)
      obtain ⟨n6, hn6⟩ : ∃ n6, n6 = (rep nx).length := ⟨_, rfl⟩
      rw [← hn6] at hc6 ⊢
      have Hn6 := Lib.hid hn6
      have hn6b : n6 ≤ 1048577 := by rw [hn6, hnx]; exact Nat.le_trans (rep_mono (Nat.div_le_self _ _)) (by rw [← Hss.out]; exact hssn)
      clear hn6 hnx hls hlq hb4 hb5 hb6 hcs hcq hssn hsqn
      go_wp2_with fail
      refine (big_compare w6 a6 az (rep nx) (rep z) n6 nz c6 cz hl6 hlz6 (rep_lim _) (rep_lim _) (rep_norm _) (rep_norm _) Hn6.out Hnz.out (by omega) (by omega)).mono ?_
      rw [val_rep, val_rep]
      rintro e w7 ⟨rfl, dr, rfl⟩
      by_cases hge : z ≤ nx
      · have cv := order_ge hge
        obtain ⟨v, hv⟩ : ∃ v, v = cmpI nx z := ⟨_, rfl⟩
        rw [← hv] at cv ⊢
        have hzr := Lib.hid (Hend.out hge)
        clear hv hge
        go_wp2
        go_ret
        refine ⟨az, nz, cz, rfl, ?_, hcz, ?_, below_drewN hB6 dr⟩
        · rw [← hzr.out]; exact Hnz.out
        · rw [← hzr.out]; exact hlz6.drewN dr
      · have cv := order_lt (show nx < z by omega)
        obtain ⟨v, hv⟩ : ∃ v, v = cmpI nx z := ⟨_, rfl⟩
        rw [← hv] at cv ⊢
        have hlt := Lib.hid (show nx < z by omega)
        have hn6z : n6 ≤ nz := by rw [Hn6.out, Hnz.out]; exact rep_mono (by omega)
        have Hm2 := Lib.hid (numAt_eq (c := c6) (hl6.drewN dr) Hn6.out)
        clear hv hge
        go_wp2
        go_roundw
        case rel => exact ⟨nx, a6, n6, c6, rfl, Lib.hid Hn6.out, hc6, by omega, hl6.drewN dr, Lib.hid Hge.out, below_drewN hB6 dr⟩
        case measure => rw [Hm2.out, Hm.out]; exact hlt.out

set_option maxHeartbeats 800000 in
set_option maxRecDepth 100000 in
theorem int_sqrt (w : World) (p q : Nat) (y z : Int) (hp : IntAt w p y) (hq : IntAt w q z) (hs : (rep z.natAbs).length ≤ 1048576) :
    Calls Tryz.prog 83 #[.pointer (some ⟨p, 0, none⟩), .pointer (some ⟨q, 0, none⟩)] w fun e w' => IntRes w w' e p (rootN z.natAbs : Nat) := by
  obtain ⟨b, a, n, cap, Hb, Hn, hc, hl, hcells⟩ := hq.use
  obtain ⟨c0, c1⟩ := hcells w (Only.refl _ _)
  clear hcells
  rw [← Hn.out] at hs
  have HR := Lib.hid (big_root w a z.natAbs n cap hl Hn.out hc hs)
  clear hl
  go_enter Tryz.func83, Tryz.ntmps83
  go_wp2_with fail
  refine HR.out.mono ?_
  rintro e w1 ⟨a', s', c', rfl, g1, g2, g3, g4⟩
  have G1 := Lib.hid g1; clear g1
  go_wp2_with fail
  refine (big_made w1 p y (rootN z.natAbs : Nat) false a' s' c' (hp.below g4) (by rw [Int.natAbs_natCast]; exact g3) (by rw [Int.natAbs_natCast]; exact G1.out) g2 ⟨(fun h => by cases h), fun _ => Int.natCast_nonneg _⟩).mono ?_
  rintro e w3 ⟨rfl, h4, h5⟩
  go_wp2
  go_ret
  exact ⟨rfl, h4, (Only.of_below (ps := [p]) g4).trans h5 (fun q hq => .inl hq)⟩

end Go.Proofs.YtbffpkmfhkphdaaGreatDoor

namespace Go.Proofs.YtbffpkmfhkphdaaGreatDoor
open Go Go.RowKit Limb

set_option maxHeartbeats 800000 in
set_option maxRecDepth 100000 in
theorem int_lsh (w : World) (p q s : Nat) (y z : Int) (hp : IntAt w p y) (hq : IntAt w q z) (hs : (rep z.natAbs).length ≤ 68719476736) (ls : s ≤ 4294967296) :
    Calls Tryz.prog 63 #[.pointer (some ⟨p, 0, none⟩), .pointer (some ⟨q, 0, none⟩), .int .u64 s] w fun e w' => IntRes w w' e p (z * 2 ^ s) := by
  obtain ⟨b, a, n, cap, Hb, Hn, hc, hl, hcells⟩ := hq.use
  obtain ⟨c0, c1⟩ := hcells w (Only.refl _ _)
  have HC := Lib.hid hcells; clear hcells
  rw [← Hn.out] at hs
  obtain ⟨v, hv⟩ : ∃ v, v = z * 2 ^ s := ⟨_, rfl⟩
  have hva : v.natAbs = z.natAbs * 2 ^ s := by rw [hv, Int.natAbs_mul, Int.natAbs_pow]; rfl
  have hsg : (b = true → v ≤ 0) ∧ (b = false → 0 ≤ v) := by
    have hpos : (0 : Int) ≤ 2 ^ s := Int.pow_nonneg (by decide)
    rw [Hb.out, hv]
    constructor
    · intro h
      exact Int.mul_nonpos_of_nonpos_of_nonneg (by simp at h; omega) hpos
    · intro h
      exact Int.mul_nonneg (by simp at h; omega) hpos
  have hleft := fun X (h : Lay .u32 X a (rep z.natAbs)) => big_left X a (rep z.natAbs) n cap s h (rep_lim _) Hn.out (by omega) ls
  rw [val_rep, ← hva] at hleft
  rw [← hv]
  have HL := Lib.hid hleft; clear hleft
  have HV := Lib.hid hva; clear hva
  have HS := Lib.hid hsg; clear hsg
  clear hv
  go_enter Tryz.func63, Tryz.ntmps63
  go_wp2
  go_region_with (first | (go_at_call 149; refine (HL.out _ ?_).mono ?_; exact hl.drew; rintro e w1 ⟨a', c', rfl, h1, -, h2, h3⟩; have c0' := (HC.out w1 (Only.of_below (below_of_drew h3))).1) | (go_at_call 148; refine (big_made _ p y v _ _ _ _ ?_ ?_ ?_ ?_ ?_).mono ?_; exact hp.drew.below h3; exact h2; exact rfl; exact h1; exact HS.out; rintro e w2 ⟨rfl, h4, h5⟩))
  all_goals go_wp2
  all_goals go_ret
  all_goals exact ⟨rfl, h4, (Only.of_below (below_of_drew h3)).trans h5 (by simp)⟩

theorem shr_neg {z : Int} {s : Nat} (hz : z < 0) : z / 2 ^ s = -((z.natAbs / 2 ^ s + (if z.natAbs % 2 ^ s ≠ 0 then 1 else 0) : Nat) : Int) := by
  obtain ⟨k, hk⟩ : ∃ k : Nat, z = -(k : Int) := ⟨z.natAbs, by omega⟩
  subst hk
  have hp : 0 < 2 ^ s := Nat.pow_pos (by decide)
  have e : ((2 : Int) ^ s) = ((2 ^ s : Nat) : Int) := by rw [Int.natCast_pow]; rfl
  rw [e]
  generalize 2 ^ s = d at hp ⊢
  rw [Int.natAbs_neg, Int.natAbs_natCast]
  have h1 := Nat.div_add_mod k d
  have h2 := Nat.mod_lt k hp
  split
  · rename_i h
    refine ((Int.ediv_emod_unique (a := -(k : Int)) (b := (d : Int)) (q := -((k / d + 1 : Nat) : Int)) (r := ((d - k % d : Nat) : Int)) (by omega)).2 ⟨?_, by omega, by omega⟩).1
    rw [Int.mul_neg, ← Int.natCast_mul, Nat.mul_add, Nat.mul_one]
    omega
  · rename_i h
    have h0 : k % d = 0 := by omega
    rw [Nat.add_zero]
    refine ((Int.ediv_emod_unique (a := -(k : Int)) (b := (d : Int)) (q := -((k / d : Nat) : Int)) (r := 0) (by omega)).2 ⟨?_, by omega, by omega⟩).1
    rw [Int.mul_neg, ← Int.natCast_mul]
    omega

set_option maxHeartbeats 1600000 in
set_option maxRecDepth 100000 in
theorem int_rsh (w : World) (p q s : Nat) (y z : Int) (hp : IntAt w p y) (hq : IntAt w q z) (hs : (rep z.natAbs).length ≤ 68719476736) (ls : s ≤ 4294967296) :
    Calls Tryz.prog 64 #[.pointer (some ⟨p, 0, none⟩), .pointer (some ⟨q, 0, none⟩), .int .u64 s] w fun e w' => IntRes w w' e p (z / 2 ^ s) := by
  obtain ⟨b, a, n, cap, Hb, Hn, hc, hl, hcells⟩ := hq.use
  obtain ⟨c0, c1⟩ := hcells w (Only.refl _ _)
  clear hcells
  rw [← Hn.out] at hs
  have hright := big_right w a (rep z.natAbs) n cap s hl (rep_lim _) (rep_norm _) Hn.out hc (by omega) ls
  rw [val_rep] at hright
  obtain ⟨Q, hQ⟩ : ∃ Q, Q = z.natAbs / 2 ^ s := ⟨_, rfl⟩
  obtain ⟨lost, hlost⟩ : ∃ lost, lost = decide (z.natAbs % 2 ^ s ≠ 0) := ⟨_, rfl⟩
  have hQl : (rep Q).length ≤ n := by rw [hQ, Hn.out]; exact rep_mono (Nat.div_le_self _ _)
  have hpos : z < 0 → z / 2 ^ s = -((Q + (if lost = true then 1 else 0) : Nat) : Int) := by
    intro hz
    rw [shr_neg hz, hQ, hlost]
    simp only [decide_eq_true_eq]
  have hnn : 0 ≤ z → z / 2 ^ s = (Q : Int) := by
    intro hz
    rw [hQ, Int.natCast_ediv, Int.natCast_pow, Int.natAbs_of_nonneg hz]; rfl
  obtain ⟨v, hv⟩ : ∃ v, v = z / 2 ^ s := ⟨_, rfl⟩
  rw [← hv] at hpos hnn ⊢
  rw [← hQ, ← hlost] at hright
  have HR := Lib.hid hright; clear hright
  clear hQ hlost hv
  by_cases hz : z < 0
  · have hb : b = true := by rw [Hb.out]; simpa using hz
    subst hb
    have hve := Lib.hid (hpos hz)
    clear hpos hnn hz Hb
    cases lost with
    | true =>
      have h1 : ∀ X : World, Lay .u32 (X.alloc (.cells #[.int .u32 1] 60)) (some ⟨X.heap.size, 0, none⟩) (rep 1) := fun X => row1lay X 60
      go_enter Tryz.func64, Tryz.ntmps64
      go_wp2_with fail
      refine HR.out.mono ?_
      rintro e w1 ⟨a', c', rfl, g1, g2, g3⟩
      have hb1 : Below w1.heap.size w1 (w1.alloc (.cells #[.int .u32 1] 60)) := (Below.refl _ _).alloc (Nat.le_refl _) _
      go_wp2_with fail
      refine (big_sum' _ a' (some ⟨w1.heap.size, 0, none⟩) Q 1 _ 1 c' 1 (g2.below hb1) (h1 w1) rfl (by decide) (by omega) (by decide)).mono ?_
      rintro e w2 ⟨a2, c2, s2, rfl, t1, t2, t3, t4⟩
      have T1 := Lib.hid t1; clear t1
      have hb2 := g3.trans ((hb1.trans (t4.mono hb1.size)).mono g3.size)
      have hva : Hid (v.natAbs = Q + 1) := Lib.hid (by rw [hve.out]; simp; omega)
      have hvs : v ≤ 0 := by rw [hve.out]; omega
      have Hvs := Lib.hid hvs; clear hvs
      go_wp2_with fail
      refine (big_made w2 p y v true a2 s2 c2 (hp.below hb2) (by rw [hva.out]; exact t3) (by rw [hva.out]; exact T1.out) t2 ⟨fun _ => Hvs.out, (fun h => by cases h)⟩).mono ?_
      rintro e w3 ⟨rfl, h4, h5⟩
      go_wp2
      go_ret
      exact ⟨rfl, h4, (Only.of_below (ps := [p]) hb2).trans h5 (fun q hq => .inl hq)⟩
    | false =>
      go_enter Tryz.func64, Tryz.ntmps64
      go_wp2_with fail
      refine HR.out.mono ?_
      rintro e w1 ⟨a', c', rfl, g1, g2, g3⟩
      have hva : Hid (v.natAbs = Q) := Lib.hid (by rw [hve.out]; simp)
      have Hvs := Lib.hid (show v ≤ 0 by rw [hve.out]; omega)
      go_wp2_with fail
      refine (big_made w1 p y v true a' _ c' (hp.below g3) (by rw [hva.out]; exact g2) (by rw [hva.out]) g1 ⟨fun _ => Hvs.out, (fun h => by cases h)⟩).mono ?_
      rintro e w3 ⟨rfl, h4, h5⟩
      go_wp2
      go_ret
      exact ⟨rfl, h4, (Only.of_below (ps := [p]) g3).trans h5 (fun q hq => .inl hq)⟩
  · have hb : b = false := by rw [Hb.out]; simpa using hz
    subst hb
    have hve := Lib.hid (hnn (by omega))
    clear hpos hnn hz Hb
    go_enter Tryz.func64, Tryz.ntmps64
    go_wp2_with fail
    refine HR.out.mono ?_
    rintro e w1 ⟨a', c', rfl, g1, g2, g3⟩
    have hva : Hid (v.natAbs = Q) := Lib.hid (by rw [hve.out]; simp)
    have Hvs := Lib.hid (show 0 ≤ v by rw [hve.out]; omega)
    go_wp2_with fail
    refine (big_made w1 p y v false a' _ c' (hp.below g3) (by rw [hva.out]; exact g2) (by rw [hva.out]) g1 ⟨(fun h => by cases h), fun _ => Hvs.out⟩).mono ?_
    rintro e w3 ⟨rfl, h4, h5⟩
    go_wp2
    go_ret
    exact ⟨rfl, h4, (Only.of_below (ps := [p]) g3).trans h5 (fun q hq => .inl hq)⟩

end Go.Proofs.YtbffpkmfhkphdaaGreatDoor

namespace Go.Proofs.YtbffpkmfhkphdaaGreatDoor
open Go Go.RowKit Limb

theorem exp_step {X Y M j rr : Nat} (h : rr = X ^ (Y / 2 ^ (j + 1)) % M) :
    (Y / 2 ^ j % 2 = 0 → rr * rr % M = X ^ (Y / 2 ^ j) % M) ∧ (Y / 2 ^ j % 2 = 1 → (rr * rr % M) * X % M = X ^ (Y / 2 ^ j) % M) := by
  have e : Y / 2 ^ (j + 1) = Y / 2 ^ j / 2 := by rw [Nat.pow_succ, Nat.div_div_eq_div_mul]
  rw [e] at h
  generalize Y / 2 ^ j = t at h ⊢
  have sq : rr * rr % M = X ^ (2 * (t / 2)) % M := by
    rw [h, ← Nat.mul_mod, ← Nat.pow_add, ← Nat.two_mul]
  constructor
  · intro h0; rw [sq, show 2 * (t / 2) = t from by omega]
  · intro h1; rw [sq, Nat.mod_mul_mod, ← Nat.pow_succ, show (2 * (t / 2)).succ = t from by omega]

theorem bitsN_lt (n : Nat) : n < 2 ^ bitsN n := (bitsN_spec n).1
theorem bitsN_len (n : Nat) : bitsN n ≤ 32 * (rep n).length := bitsN_le.2 (by rw [← W_two]; exact rep_len_hi n)

set_option maxHeartbeats 3200000 in
set_option maxRecDepth 100000 in
theorem int_expmod (w : World) (p q r s : Nat) (v x y m : Int) (hp : IntAt w p v) (hq : IntAt w q x) (hr : IntAt w r y) (hs : IntAt w s m) (hm : m ≠ 0)
    (lx : (rep x.natAbs).length ≤ 68719476736) (ly : (rep y.natAbs).length ≤ 68719476736) (lm : (rep m.natAbs).length ≤ 68719476736) :
    Calls Tryz.prog 82 #[.pointer (some ⟨p, 0, none⟩), .pointer (some ⟨q, 0, none⟩), .pointer (some ⟨r, 0, none⟩), .pointer (some ⟨s, 0, none⟩)] w fun e w' => IntRes w w' e p ((x.natAbs ^ y.natAbs % m.natAbs : Nat) : Int) := by
  obtain ⟨b1, a1, n1, cap1, Hb1, Hn1, hc1, hl1, hcells1⟩ := hq.use
  obtain ⟨b2, a2, n2, cap2, Hb2, Hn2, hc2, hl2, hcells2⟩ := hr.use
  obtain ⟨b3, a3, n3, cap3, Hb3, Hn3, hc3, hl3, hcells3⟩ := hs.use
  have hB : ∀ X, Below w.heap.size w X → X.cell? ⟨q, 1, none⟩ = some (.slice a1 n1 cap1) ∧ X.cell? ⟨r, 1, none⟩ = some (.slice a2 n2 cap2) ∧ X.cell? ⟨s, 1, none⟩ = some (.slice a3 n3 cap3) := fun X h =>
    ⟨(hcells1 X (Only.of_below h)).2, (hcells2 X (Only.of_below h)).2, (hcells3 X (Only.of_below h)).2⟩
  have HB := Lib.hid hB; clear hB hcells1 hcells2 hcells3
  have k3 := (HB.out w (Below.refl _ _)).2.2
  obtain ⟨M, hM⟩ : ∃ M, M = m.natAbs := ⟨_, rfl⟩
  obtain ⟨Y, hY⟩ : ∃ Y, Y = y.natAbs := ⟨_, rfl⟩
  obtain ⟨Z, hZ⟩ : ∃ Z, Z = x.natAbs := ⟨_, rfl⟩
  have hM0 : 0 < M := by omega
  rw [← hM] at lm hl3 Hn3 ⊢
  rw [← hY] at ly hl2 Hn2 ⊢
  rw [← hZ] at lx hl1 Hn1 ⊢
  have hbit := fun X i (h : Below w.heap.size w X) hi => int_bit X r i y (hr.below h) hi
  rw [← hY] at hbit
  have HBit := Lib.hid hbit; clear hbit
  have lx' : n1 ≤ 274877906944 := by rw [Hn1.out]; exact Nat.le_trans lx (by decide)
  have lm' : n3 ≤ 274877906944 := by rw [Hn3.out]; exact Nat.le_trans lm (by decide)
  have ly' : n2 ≤ 68719476736 := by rw [Hn2.out]; exact ly
  have Hp := Lib.hid hp
  clear hM hY hZ hm Hb1 Hb2 Hb3 hq hr hs hp
  have h1 := row1lay w 60
  have hb1 : Below w.heap.size w (w.alloc (.cells #[.int .u32 1] 60)) := (Below.refl _ _).alloc (Nat.le_refl _) _
  have k3' := (HB.out _ hb1).2.2
  go_enter Tryz.func82, Tryz.ntmps82
  go_wp2_with fail
  refine (big_quotient' _ _ a3 1 M 1 n3 1 cap3 h1 (hl3.below hb1) (by decide) Hn3.out (by decide) lm' (by decide) hM0).mono ?_
  rintro e w1 ⟨a4, c4, s4, a5, c5, s5, rfl, -, g2, -, g4, -, g6, g7⟩
  have G2 := Lib.hid g2; clear g2
  have hb2 : Below w.heap.size w w1 := hb1.trans (g7.mono hb1.size)
  have k1 := (HB.out _ hb2).1
  go_wp2_with fail
  refine (big_quotient' _ a1 a3 Z M n1 n3 cap1 cap3 (hl1.below hb2) (hl3.below hb2) Hn1.out Hn3.out lx' lm' hc1 hM0).mono ?_
  rintro e w2 ⟨a6, c6, s6, a7, c7, s7, rfl, -, j2, -, j4, -, j6, j7⟩
  have J2 := Lib.hid j2; clear j2
  have hb3 : Below w.heap.size w w2 := hb2.trans (j7.mono hb2.size)
  have k2 := (HB.out _ hb3).2.1
  have g6' := g6.below j7
  go_wp2_with fail
  refine (big_length _ a2 (rep Y) n2 cap2 (hl2.below hb3) (rep_lim _) (rep_norm _) Hn2.out (by omega)).mono ?_
  rw [val_rep]
  rintro e w3 ⟨rfl, rfl⟩
  obtain ⟨B, hBv⟩ : ∃ B, B = bitsN Y := ⟨_, rfl⟩
  have hBle : B ≤ 9223372036854775807 := by
    rw [hBv]
    have := bitsN_len Y
    rw [← Hn2.out] at this
    omega
  have HBv := Lib.hid (show Y / 2 ^ B = 0 from by rw [hBv]; exact Nat.div_eq_of_lt (bitsN_lt Y))
  rw [← hBv]
  clear hBv
  have HM1 := Lib.hid (show ∀ rr : Nat, rr < M → (rep rr).length ≤ 68719476736 from fun rr h => Nat.le_trans (rep_mono (Nat.le_of_lt h)) lm)
  go_wp2_with fail
  go_loopw [10, 13] (fun r i wr => ∃ (t : Int) (a : Option Addr) (s c rr : Nat), r = .slice a s c ∧ i = .int .i64 t ∧ -1 ≤ t ∧ t ≤ 9223372036854775806 ∧ Hid (s = (rep rr).length) ∧ s ≤ c ∧ Lay .u32 wr a (rep rr) ∧ Hid (rr = Z ^ (Y / 2 ^ (t + 1).toNat) % M) ∧ Below w2.heap.size w2 wr) (fun _ i _ => (intOf i + 1).toNat)
  case atStart => exact ⟨_, _, _, _, 1 % M, rfl, rfl, by omega, by omega, G2, g4, g6', Lib.hid (by rw [show ((B : Int) - 1 + 1).toNat = B by omega, HBv.out, Nat.pow_zero]), Below.refl _ _⟩
  case round =>
    obtain ⟨t, a, s, c, rr, rfl, rfl, ht1, ht2, Hs, hsc, ha, Hv, hbw⟩ := hrel
    have hbW := hb3.trans (hbw.mono hb3.size)
    have hj6 := j6.below hbw
    have hlt : rr < M := by rw [Hv.out]; exact Nat.mod_lt _ hM0
    have lr := HM1.out rr hlt
    have lrb := HM1.out (Z % M) (Nat.mod_lt _ hM0)
    rw [← Hs.out] at lr
    rw [← J2.out] at lrb
    by_cases ht : 0 ≤ t
    · obtain ⟨k, rfl⟩ := Int.eq_ofNat_of_zero_le ht
      have hst := Lib.hid (exp_step (X := Z) (Y := Y) (M := M) (j := k) (rr := rr) (by have := Hv.out; rwa [show ((k : Int) + 1).toNat = k + 1 from by omega] at this))
      have hbit := HBit.out
      obtain ⟨bt, hbt⟩ : ∃ bt, bt = Y / 2 ^ k % 2 := ⟨_, rfl⟩
      have hb01 : bt = 0 ∨ bt = 1 := by omega
      have HBk := Lib.hid (fun X h => hbit X k h (by omega))
      rw [← hbt] at HBk hst
      clear hbit
      have Hbt := Lib.hid hbt; clear hbt
      go_wp2_with fail
      refine (big_times' _ a a rr rr s s c c ha ha Hs.out Hs.out (by omega) (by omega)).mono ?_
      rintro e v1 ⟨a8, c8, s8, rfl, t1, t2, t3, t4⟩
      have l8 : s8 ≤ 274877906944 := by rw [t1]; exact Nat.le_trans (len_mul (Nat.le_of_eq Hs.out.symm) (Nat.le_of_eq Hs.out.symm)) (by omega)
      have T1 := Lib.hid t1; clear t1
      have hbv1 := hbW.trans (t4.mono hbW.size)
      go_wp2_with fail
      refine (big_quotient' _ a8 a3 (rr * rr) M s8 n3 c8 cap3 t3 (hl3.below hbv1) T1.out Hn3.out l8 lm' t2 hM0).mono ?_
      rintro e v2 ⟨a9, c9, s9, a10, c10, s10, rfl, -, u2, -, u4, -, u6, u7⟩
      have U2 := Lib.hid u2; clear u2
      have hbv2 := hbv1.trans (u7.mono hbv1.size)
      have hbw2 := (hbw.trans (t4.mono hbw.size)).trans (u7.mono (hbw.trans (t4.mono hbw.size)).size)
      have hj6' := (hj6.below t4).below u7
      have lr2 := HM1.out (rr * rr % M) (Nat.mod_lt _ hM0)
      rw [← U2.out] at lr2
      rcases hb01 with h0 | h1
      · subst h0
        go_wp2_with fail
        refine (HBk.out v2 hbv2).mono ?_
        rintro e v3 ⟨rfl, rfl⟩
        go_wp2_with fail
        go_roundw
        case rel => exact ⟨_, a10, s10, c10, rr * rr % M, rfl, rfl, by omega, by omega, U2, u4, u6, Lib.hid (by rw [show ((k : Int) - 1 + 1).toNat = k by omega]; exact hst.out.1 (by trivial)), hbw2⟩
        case measure => simp [intOf] <;> omega
      · subst h1
        go_wp2_with fail
        refine (HBk.out v2 hbv2).mono ?_
        rintro e v3 ⟨rfl, rfl⟩
        go_wp2_with fail
        refine (big_times' _ a10 a7 (rr * rr % M) (Z % M) s10 s7 c10 c7 u6 hj6' U2.out J2.out (by omega) (by omega)).mono ?_
        rintro e v4 ⟨a11, c11, s11, rfl, t1, t2', t3', t4'⟩
        have l11 : s11 ≤ 274877906944 := by rw [t1]; exact Nat.le_trans (len_mul (Nat.le_of_eq U2.out.symm) (Nat.le_of_eq J2.out.symm)) (by omega)
        have T11 := Lib.hid t1; clear t1
        have hbv4 := hbv2.trans (t4'.mono hbv2.size)
        have hbw4 := hbw2.trans (t4'.mono hbw2.size)
        go_wp2_with fail
        refine (big_quotient' _ a11 a3 (rr * rr % M * (Z % M)) M s11 n3 c11 cap3 t3' (hl3.below hbv4) T11.out Hn3.out l11 lm' t2' hM0).mono ?_
        rintro e v5 ⟨a12, c12, s12, a13, c13, s13, rfl, -, x2, -, x4, -, x6, x7⟩
        have X2 := Lib.hid x2; clear x2
        have hbw5 := hbw4.trans (x7.mono hbw4.size)
        go_wp2_with fail
        go_roundw
        case rel => exact ⟨_, a13, s13, c13, rr * rr % M * (Z % M) % M, rfl, rfl, by omega, by omega, X2, x4, x6, Lib.hid (by rw [show ((k : Int) - 1 + 1).toNat = k by omega, Nat.mul_mod_mod]; exact hst.out.2 (by trivial)), hbw5⟩
        case measure => simp [intOf] <;> omega
    · have hfin : Hid (rr = Z ^ Y % M) := Lib.hid (by rw [Hv.out, show (t + 1).toNat = 0 by omega, Nat.pow_zero, Nat.div_one])
      have hpw := Hp.out.below hbW
      go_wp2_with fail
      refine (big_made wr p v ((Z ^ Y % M : Nat) : Int) false a s c hpw (by rw [Int.natAbs_natCast, ← hfin.out]; exact ha) (by rw [Int.natAbs_natCast, ← hfin.out]; exact Hs.out) hsc ⟨(fun h => by cases h), fun _ => Int.natCast_nonneg _⟩).mono ?_
      rintro e w4 ⟨rfl, h4, h5⟩
      go_wp2
      go_ret
      exact ⟨rfl, h4, (Only.of_below (ps := [p]) hbW).trans h5 (fun q hq => .inl hq)⟩

end Go.Proofs.YtbffpkmfhkphdaaGreatDoor

namespace Go.Proofs.YtbffpkmfhkphdaaGreatDoor
open Go Go.RowKit Limb

/-- What a division answers. -/
def DivAnswer (ok fl : Bool) (w w' : World) (e : Ending) (z1 z2 : Int) : Prop :=
  if ok = false then DivNone w w' e 1 else if z2 = 0 then DivNone w w' e 90 else DivRes w w' e (dquo fl z1 z2) (drem fl z1 z2)

theorem DivAnswer.shape {ok fl : Bool} {w w' : World} {e : Ending} {z1 z2 : Int} (h : DivAnswer ok fl w w' e z1 z2) : ∃ b a n c b' a' n' c' k,
    e = .returned (.tuple #[.agg #[.bool b, .slice a n c], .agg #[.bool b', .slice a' n' c'], .int .i64 k]) ∧ Below w.heap.size w w' ∧
    (∀ w0 w2, Below w0.heap.size w0 w2 → (∀ x l, Lay .u32 w' x l → Lay .u32 w2 x l) → DivAnswer ok fl w0 w2 e z1 z2) := by
  unfold DivAnswer at h
  split at h
  · rename_i h0
    obtain ⟨hb, rfl⟩ := h
    exact ⟨_, _, _, _, _, _, _, _, _, rfl, hb, fun w0 w2 hb2 _ => by unfold DivAnswer; rw [if_pos h0]; exact ⟨hb2, rfl⟩⟩
  · rename_i h0
    split at h
    · rename_i h1
      obtain ⟨hb, rfl⟩ := h
      exact ⟨_, _, _, _, _, _, _, _, _, rfl, hb, fun w0 w2 hb2 _ => by unfold DivAnswer; rw [if_neg h0, if_pos h1]; exact ⟨hb2, rfl⟩⟩
    · rename_i h1
      obtain ⟨hb, aq, cq, ar, cr, rfl, g1, g2, g3, g4⟩ := h
      exact ⟨_, _, _, _, _, _, _, _, _, rfl, hb, fun w0 w2 hb2 hl => by unfold DivAnswer; rw [if_neg h0, if_neg h1]; exact ⟨hb2, aq, cq, ar, cr, rfl, g1, g2, hl _ _ g3, hl _ _ g4⟩⟩

theorem divide_ans (w : World) (n1 n2 fl : Bool) (a1 a2 : Option Addr) (l1 l2 : List Nat) (m1 m2 c1 c2 : Nat) (hy1 : Lay .u32 w a1 l1) (hy2 : Lay .u32 w a2 l2) (hl1 : Lim l1) (hl2 : Lim l2) (hm1 : m1 = l1.length) (hm2 : m2 = l2.length) (hb1 : m1 ≤ 9223372036854775807) (hb2 : m2 ≤ 9223372036854775807) :
    Calls Tryz.prog 102 #[.agg #[.bool n1, .slice a1 m1 c1], .agg #[.bool n2, .slice a2 m2 c2], .bool fl] w fun e w' => DivAnswer (mayB n1 l1 && mayB n2 l2) fl w w' e (signed n1 (val l1)) (signed n2 (val l2)) := by
  cases hok : (mayB n1 l1 && mayB n2 l2) with
  | false =>
    refine (divide_no w n1 n2 fl a1 a2 l1 l2 m1 m2 c1 c2 hy1 hy2 hl1 hl2 hm1 hm2 hb1 hb2 hok).mono ?_
    intro e w' h; unfold DivAnswer; rw [if_pos rfl]; exact h
  | true =>
    by_cases hz : signed n2 (val l2) = 0
    · have h0 : l2.length = 0 := by
        have hok' := hok
        simp only [Bool.and_eq_true] at hok'
        obtain ⟨y1, _, _⟩ := mayB_int hl2 hok'.2
        rw [y1, hz]; exact (rep_length_zero).mpr rfl
      refine (divide_zero w n1 n2 fl a1 a2 l1 l2 m1 m2 c1 c2 hy1 hy2 hl1 hl2 hm1 hm2 hb1 hb2 hok h0).mono ?_
      intro e w' h; unfold DivAnswer; rw [if_neg (by decide), if_pos hz]; exact h
    · refine (divide_ok w n1 n2 fl a1 a2 l1 l2 m1 m2 c1 c2 hy1 hy2 hl1 hl2 hm1 hm2 hb1 hb2 hok hz).mono ?_
      intro e w' h; unfold DivAnswer; rw [if_neg (by decide), if_neg hz]; exact h

set_option maxHeartbeats 800000 in
set_option maxRecDepth 100000 in
theorem large_quo (w : World) (n1 n2 : Bool) (a1 a2 : Option Addr) (l1 l2 : List Nat) (m1 m2 c1 c2 : Nat) (hy1 : Lay .u32 w a1 l1) (hy2 : Lay .u32 w a2 l2) (hl1 : Lim l1) (hl2 : Lim l2) (hm1 : m1 = l1.length) (hm2 : m2 = l2.length) (hb1 : m1 ≤ 9223372036854775807) (hb2 : m2 ≤ 9223372036854775807) :
    Calls Tryz.prog 36 #[.agg #[.bool n1, .slice a1 m1 c1], .agg #[.bool n2, .slice a2 m2 c2]] w fun e w' => DivAnswer (mayB n1 l1 && mayB n2 l2) false w w' e (signed n1 (val l1)) (signed n2 (val l2)) := by
  obtain ⟨W, hWe, r0, r1, r2, r3, hW, hsz⟩ := rows4 w 24 (.bool n1) (.slice a1 m1 c1) (.bool n2) (.slice a2 m2 c2) (.bool false) (.slice none 0 0) (.bool false) (.slice none 0 0)
  have HWe := Lib.hid hWe; clear hWe
  have HJ := Lib.hid (divide_ans W n1 n2 false a1 a2 l1 l2 m1 m2 c1 c2 (hy1.below hW) (hy2.below hW) hl1 hl2 hm1 hm2 hb1 hb2)
  clear hm1 hm2
  go_enter Tryz.func36, Tryz.ntmps36
  go_wp2_with fail
  rw [← HWe.out]
  refine HJ.out.mono ?_
  rintro e w1 hans
  obtain ⟨b, a, n, c, b', a', n', c', k, rfl, hb, hnext⟩ := hans.shape
  have HN := Lib.hid hnext; clear hnext hans
  have hBV : Below w.heap.size w w1 := hW.trans (hb.mono hW.size)
  have ra := r2.below hb r2.lt
  have rb := r3.below hb r3.lt
  have d0 := ra.cell_at 0
  have d1 := ra.cell_at 1
  have e0 := rb.cell_at 0
  have e1 := rb.cell_at 1
  have d2 := ra.free 0
  have d3 := ra.free 1
  have e2 := rb.free 0
  have e3 := rb.free 1
  simp only [List.getElem?_cons_zero, List.getElem?_cons_succ] at d0 d1 e0 e1
  have hrb : Row ((w1.setCell ⟨w.heap.size + 1 + 1, 0, none⟩ (.bool b)).setCell ⟨w.heap.size + 1 + 1, 1, none⟩ (.slice a n c)) (w.heap.size + 1 + 1 + 1) 24 [.bool false, .slice none 0 0] := (rb.other (by simp) _).other (by simp) _
  obtain ⟨U, hU⟩ : ∃ U, U = (((w1.setCell ⟨w.heap.size + 1 + 1, 0, none⟩ (.bool b)).setCell ⟨w.heap.size + 1 + 1, 1, none⟩ (.slice a n c)).setCell ⟨w.heap.size + 1 + 1 + 1, 0, none⟩ (.bool b')).setCell ⟨w.heap.size + 1 + 1 + 1, 1, none⟩ (.slice a' n' c') := ⟨_, rfl⟩
  have ga : Row U (w.heap.size + 1 + 1) 24 [.bool b, .slice a n c] := by rw [hU]; exact (((ra.store_any 0 (.bool b)).store_any 1 (.slice a n c)).other (by simp) _).other (by simp) _
  have gb : Row U (w.heap.size + 1 + 1 + 1) 24 [.bool b', .slice a' n' c'] := by rw [hU]; exact (hrb.store_any 0 _).store_any 1 _
  have hfin : Below w.heap.size w U := by rw [hU]; exact below_store (below_store (below_store (below_store hBV (by omega) _) (by omega) _) (by omega) _) (by omega) _
  have hlay : ∀ x l, Lay .u32 w1 x l → Lay .u32 U x l := fun x l hl => by rw [hU]; exact (hl.pair ra _ _).pair hrb _ _
  have f0 := ga.cell_at 0
  have f1 := ga.cell_at 1
  have f2 := gb.cell_at 0
  have f3 := gb.cell_at 1
  simp only [List.getElem?_cons_zero, List.getElem?_cons_succ] at f0 f1 f2 f3
  have HV := Lib.hid hU; clear hU hrb
  have HL := Lib.hid hlay; clear hlay
  go_wp2
  (try simp only [Exit.inBlock, Exit.then])
  rw [← HV.out]
  refine bodyPost_ret (v := .tuple #[.agg #[.bool b, .slice a n c], .agg #[.bool b', .slice a' n' c'], .int .i64 k]) (by simp [results, Tryz.results36, go_sem, f0, f1, f2, f3]) rfl ?_
  exact HN.out _ _ hfin HL.out

set_option maxHeartbeats 800000 in
set_option maxRecDepth 100000 in
theorem large_div (w : World) (n1 n2 : Bool) (a1 a2 : Option Addr) (l1 l2 : List Nat) (m1 m2 c1 c2 : Nat) (hy1 : Lay .u32 w a1 l1) (hy2 : Lay .u32 w a2 l2) (hl1 : Lim l1) (hl2 : Lim l2) (hm1 : m1 = l1.length) (hm2 : m2 = l2.length) (hb1 : m1 ≤ 9223372036854775807) (hb2 : m2 ≤ 9223372036854775807) :
    Calls Tryz.prog 75 #[.agg #[.bool n1, .slice a1 m1 c1], .agg #[.bool n2, .slice a2 m2 c2]] w fun e w' => DivAnswer (mayB n1 l1 && mayB n2 l2) true w w' e (signed n1 (val l1)) (signed n2 (val l2)) := by
  obtain ⟨W, hWe, r0, r1, r2, r3, hW, hsz⟩ := rows4 w 24 (.bool n1) (.slice a1 m1 c1) (.bool n2) (.slice a2 m2 c2) (.bool false) (.slice none 0 0) (.bool false) (.slice none 0 0)
  have HWe := Lib.hid hWe; clear hWe
  have HJ := Lib.hid (divide_ans W n1 n2 true a1 a2 l1 l2 m1 m2 c1 c2 (hy1.below hW) (hy2.below hW) hl1 hl2 hm1 hm2 hb1 hb2)
  clear hm1 hm2
  go_enter Tryz.func75, Tryz.ntmps75
  go_wp2_with fail
  rw [← HWe.out]
  refine HJ.out.mono ?_
  rintro e w1 hans
  obtain ⟨b, a, n, c, b', a', n', c', k, rfl, hb, hnext⟩ := hans.shape
  have HN := Lib.hid hnext; clear hnext hans
  have hBV : Below w.heap.size w w1 := hW.trans (hb.mono hW.size)
  have ra := r2.below hb r2.lt
  have rb := r3.below hb r3.lt
  have d0 := ra.cell_at 0
  have d1 := ra.cell_at 1
  have e0 := rb.cell_at 0
  have e1 := rb.cell_at 1
  have d2 := ra.free 0
  have d3 := ra.free 1
  have e2 := rb.free 0
  have e3 := rb.free 1
  simp only [List.getElem?_cons_zero, List.getElem?_cons_succ] at d0 d1 e0 e1
  have hrb : Row ((w1.setCell ⟨w.heap.size + 1 + 1, 0, none⟩ (.bool b)).setCell ⟨w.heap.size + 1 + 1, 1, none⟩ (.slice a n c)) (w.heap.size + 1 + 1 + 1) 24 [.bool false, .slice none 0 0] := (rb.other (by simp) _).other (by simp) _
  obtain ⟨U, hU⟩ : ∃ U, U = (((w1.setCell ⟨w.heap.size + 1 + 1, 0, none⟩ (.bool b)).setCell ⟨w.heap.size + 1 + 1, 1, none⟩ (.slice a n c)).setCell ⟨w.heap.size + 1 + 1 + 1, 0, none⟩ (.bool b')).setCell ⟨w.heap.size + 1 + 1 + 1, 1, none⟩ (.slice a' n' c') := ⟨_, rfl⟩
  have ga : Row U (w.heap.size + 1 + 1) 24 [.bool b, .slice a n c] := by rw [hU]; exact (((ra.store_any 0 (.bool b)).store_any 1 (.slice a n c)).other (by simp) _).other (by simp) _
  have gb : Row U (w.heap.size + 1 + 1 + 1) 24 [.bool b', .slice a' n' c'] := by rw [hU]; exact (hrb.store_any 0 _).store_any 1 _
  have hfin : Below w.heap.size w U := by rw [hU]; exact below_store (below_store (below_store (below_store hBV (by omega) _) (by omega) _) (by omega) _) (by omega) _
  have hlay : ∀ x l, Lay .u32 w1 x l → Lay .u32 U x l := fun x l hl => by rw [hU]; exact (hl.pair ra _ _).pair hrb _ _
  have f0 := ga.cell_at 0
  have f1 := ga.cell_at 1
  have f2 := gb.cell_at 0
  have f3 := gb.cell_at 1
  simp only [List.getElem?_cons_zero, List.getElem?_cons_succ] at f0 f1 f2 f3
  have HV := Lib.hid hU; clear hU hrb
  have HL := Lib.hid hlay; clear hlay
  go_wp2
  (try simp only [Exit.inBlock, Exit.then])
  rw [← HV.out]
  refine bodyPost_ret (v := .tuple #[.agg #[.bool b, .slice a n c], .agg #[.bool b', .slice a' n' c'], .int .i64 k]) (by simp [results, Tryz.results75, go_sem, f0, f1, f2, f3]) rfl ?_
  exact HN.out _ _ hfin HL.out

end Go.Proofs.YtbffpkmfhkphdaaGreatDoor
