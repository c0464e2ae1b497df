/- The walk of SetBytes of package big's integers. The walk of FillBytes of package big's integers. -/
import Derived.Test.YtbffpkmfhkphdaaGreatDoorGInt
import Derived.Test.YtbffpkmfhkphdaaGreatDoorGPlain
namespace Go.Proofs.YtbffpkmfhkphdaaGreatDoor
open Go Go.RowKit Limb

theorem size8 (W : World) : (sizeOf 5).run Tryz.prog W = .ok 1 W := by kernel_rfl
theorem info8 : (Tryz.prog.info? 5).map (fun i => (i.zero, i.size, i.bytes)) = some (some (.int .u8 0), 1, 1) := by kernel_rfl

theorem row_index {P : Program} {t e : TypeId} (ht : P.underlying t = some (.slice e)) (hs : ∀ W, (sizeOf e).run P W = .ok 1 W) (g n cap : Nat) (k : IntKind) (i : Int) (d : Nat) (hi : i = d) (hd : d < n) (W : World) :
    (Instr.indexAt t (.slice (some ⟨g, 0, none⟩) n cap) (.int k i)).run P W = .ok (.pointer (some ⟨g, d, none⟩)) W := by
  subst hi
  simp [Instr.indexAt, run_underlying ht, asIntOf, hd, hs, Result.andThen, Addr.add]
  intro h; omega

theorem pow8 (r : Nat) : (2 : Nat) ^ (8 * r) = 256 ^ r := by rw [Nat.pow_mul]

theorem setb_or {z b r : Nat} (hr : r < 4) (hz : z < 256 ^ r) (hb : b < 256) : bits .or .u32 (z : Int) ((b * 256 ^ r : Nat) : Int) = ((z + b * 256 ^ r : Nat) : Int) ∧ b * 256 ^ r < 4294967296 := by
  have h := pow256_le hr
  have h2 := Nat.mul_le_mul_right (256 ^ r) (show b ≤ 255 by omega)
  rw [Nat.pow_succ] at h
  have h3 : b * 256 ^ r < 4294967296 := by have : 0 < 256 ^ r := Nat.pow_pos (by decide); omega
  refine ⟨?_, h3⟩
  rw [u32_or_nat _ _ (by omega) h3, Nat.or_comm, ← pow8, nat_join (8 * r) _ _ (Nat.mul_mod_left _ _) (by rw [pow8]; exact hz), Nat.add_comm]

set_option maxHeartbeats 1600000 in
set_option maxRecDepth 100000 in
theorem int_setbytes (w : World) (p : Nat) (v : Int) (a : Option Addr) (bs : List Nat) (L cap : Nat) (hp : IntAt w p v) (hlay : Lay .u8 w a bs) (hL : L = bs.length) (hlim : ∀ i, wd bs i < 256) (hm : L ≤ 1099511627776) :
    Calls Tryz.prog 146 #[.pointer (some ⟨p, 0, none⟩), .slice a L cap] w fun e w' => IntRes w w' e p (bval (fun i => wd bs (L - 1 - i)) L : Nat) := by
  obtain ⟨b1, off1, hix, hcx, _⟩ := hlay.use 72 5 Tryz.underlying72 size8 cap
  rw [← hL] at hix hcx
  have HL := Lib.hid hL; clear hL
  have HX := Lib.hid hix; clear hix
  have HCX := Lib.hid hcx; clear hcx
  obtain ⟨m, hm1, hm2⟩ : ∃ m, 4 * m ≤ L + 3 ∧ L ≤ 4 * m := ⟨(L + 3) / 4, by omega, by omega⟩
  have em : ((L : Int) + 3) / 4 = m := by omega
  go_enter Tryz.func146, Tryz.ntmps146
  go_wp2_with (at_make; refine wpList_make_row rfl _ _ _ rfl 60 (.int .u32 0) 4 Tryz.underlying115 info32 rfl _ _ _ _ m m rfl rfl (by omega) (by omega) (by omega) (by omega) (by omega) ?_; intro w1 g hg1 hg2 hrow hbel)
  go_loopw [14] (fun i wr => ∃ (k : Nat) (xs : List Nat), k ≤ L ∧ i = .int .i64 k ∧ Laid (fun i => wd bs (L - 1 - i)) xs m k ∧ Row wr g 60 (nums .u32 xs) ∧ Below w.heap.size w wr) (fun i _ => L - (intOf i).toNat)
  case atStart => exact ⟨0, List.replicate m 0, by omega, rfl, Laid.start _ _, by rw [nums_replicate]; exact hrow, hbel⟩
  case round =>
    obtain ⟨k, xs, hk, rfl, hD, hr, hbl⟩ := hrel
    have HD := Lib.hid hD; clear hD
    by_cases hlt : k < L
    · obtain ⟨d, hd⟩ : ∃ d, d = k / 4 := ⟨_, rfl⟩
      obtain ⟨r, hrr⟩ : ∃ r, r = k % 4 := ⟨_, rfl⟩
      have e1 : (k : Int) / 4 = d := by omega
      have e2 : (k : Int) % 4 = r := by omega
      have d_lt : d < m := by omega
      have r_lt : r < 4 := by omega
      have hstep := HD.out.step (hlim _) (by omega)
      have hnew := HD.out.new_lt (hlim _)
      have hhere := HD.out.here
      rw [← hd, ← hrr] at hstep hnew hhere
      have hpl := pow256_le r_lt
      obtain ⟨eor, hsm⟩ := setb_or r_lt hhere (hlim (L - 1 - k))
      have Hd := Lib.hid hd; clear hd
      have Hr := Lib.hid hrr; clear hrr
      have HS := Lib.hid hstep; clear hstep
      have ix := HX.out wr.drew .i64 ((L : Int) - 1 - k) (by omega) (by omega)
      rw [show ((L : Int) - 1 - k).toNat = L - 1 - k from by omega] at ix
      have cx := HCX.out wr hbl (L - 1 - k) (by omega)
      have hcell := hr.cell (i := d) (by rw [HD.out.len]; omega)
      have hfk := hr.free d
      have b_b := hlim (L - 1 - k)
      obtain ⟨bv, hbv⟩ : ∃ bv, bv = wd bs (L - 1 - k) := ⟨_, rfl⟩
      rw [← hbv] at cx b_b eor hsm HS hnew
      clear hbv
      have ep : (2 : Int) ^ (8 * r) = ((256 ^ r : Nat) : Int) := by rw [← pow8, Int.natCast_pow]; rfl
      have esh : (bv : Int) * 2 ^ (8 * r) = ((bv * 256 ^ r : Nat) : Int) := by rw [ep, Int.natCast_mul]
      obtain ⟨t, ht⟩ : ∃ t, t = bv * 256 ^ r := ⟨_, rfl⟩
      rw [← ht] at eor hsm HS hnew esh
      clear ep ht
      have ig := row_index (P := Tryz.prog) Tryz.underlying115 size32 g m m .i64 ((k : Int) / 4) d e1 d_lt
      clear e1
      go_wp2
      go_region
      go_wp2
      go_roundw
      case rel => exact ⟨k + 1, xs.set d (wd xs d + t), by omega, by go_num, HS.out, (hr.store _ _ _ (by omega)).drew, (below_store hbl hg1 _).drew⟩
      case measure => simp [intOf]; omega
    · obtain rfl : k = L := by omega
      have hl2 := hr.lay
      have hlim2 := HD.out.lim
      have hlen := HD.out.len
      have hle2 := rep_val_le hlim2
      have heq := HD.out.eq
      have Heq := Lib.hid heq; clear heq
      have Hlen := Lib.hid hlen; clear hlen
      go_wp2_with fail
      refine (big_norm _ _ xs _ _ hl2 hlim2 Hlen.out.symm (by omega) (by omega)).mono ?_
      rintro e w' ⟨rfl, rfl⟩
      rw [Heq.out] at hle2 ⊢
      rw [Hlen.out] at hle2
      have hln := hl2.norm hlim2
      rw [Heq.out] at hln
      go_wp2_with fail
      refine (big_made _ p v _ _ _ _ _ (hp.only (ps := []) (Only.of_below hbl) (by simp) (IntBlocks.nil _)) (by rw [Int.natAbs_natCast]; exact hln) (by rw [Int.natAbs_natCast]) hle2 ⟨fun h => (by simp at h), fun _ => Int.natCast_nonneg _⟩).mono ?_
      rintro e w2 ⟨rfl, h5, h6⟩
      go_wp2
      go_ret
      exact ⟨rfl, h5, (Only.of_below hbl).trans h6 (by simp)⟩

end Go.Proofs.YtbffpkmfhkphdaaGreatDoor

namespace Go.Proofs.YtbffpkmfhkphdaaGreatDoor
open Go Go.RowKit Limb

theorem Lay.notRow {w : World} {a : Option Addr} {l bs : List Nat} {g : Nat} {e : TypeId} {K K' : IntKind} (h : Lay K w a l) (hr : Row w g e (nums K' bs)) (hk : K ≠ K') : 0 < l.length → ∀ b off, a = some ⟨b, off, none⟩ → b ∉ [g] := by
  intro hl b off e hm
  rw [List.mem_singleton] at hm
  subst hm
  obtain ⟨b', off', h1, h2⟩ := h
  have h3 := (h1 hl).1
  rw [e] at h3
  simp only [Option.some.injEq, Addr.mk.injEq, and_true] at h3
  obtain ⟨rfl, rfl⟩ := h3
  have h4 := h2 0 hl
  rw [hr.cell_at] at h4
  obtain ⟨hlt, h5⟩ := List.getElem?_eq_some_iff.1 h4
  rw [nums_length] at hlt
  simp only [nums, List.getElem_map] at h5
  injection h5 with h6
  exact hk h6.symm

set_option maxHeartbeats 1600000 in
set_option maxRecDepth 100000 in
theorem int_fillbytes (w : World) (q g : Nat) (z : Int) (bs : List Nat) (L cap : Nat) (hq : IntAt w q z) (hr : Row w g 5 (nums .u8 bs)) (hL : bs.length = L) (hqg : q ≠ g) (hm : L ≤ 1099511627776) (hs : (rep z.natAbs).length ≤ 68719476736) :
    Calls Tryz.prog 147 #[.pointer (some ⟨q, 0, none⟩), .slice (some ⟨g, 0, none⟩) L cap] w fun e w' => e = .returned (.slice (some ⟨g, 0, none⟩) L cap) ∧ Only [g] w w' ∧
      ∃ bs', Row w' g 5 (nums .u8 bs') ∧ bs'.length = L ∧ ∀ j, j < L → wd bs' (L - 1 - j) = byt (rep z.natAbs) j := by
  obtain ⟨b, a, n, cap1, Hb, Hn, hc, hl, hcells⟩ := hq.use
  have hng := hl.notRow hr (by decide)
  have h1 : ∀ w', Only [g] w w' → w'.cell? ⟨q, 1, none⟩ = some (.slice a n cap1) ∧ Lay .u32 w' a (rep z.natAbs) := by
    intro w' ho
    rw [World.cell?_of_block (a := ⟨q, 1, none⟩) (ho.block q hq.lt (by simp; exact hqg))]
    exact ⟨(hcells w (Only.refl _ _)).2, hl.only ho hng⟩
  rw [← Hn.out] at hs
  have H1 := Lib.hid h1; clear h1 hcells hng
  have HL := Lib.hid hL; clear hL
  go_enter Tryz.func147, Tryz.ntmps147
  go_wp2
  go_loopw [8] (fun i wr => ∃ (k : Nat) (bs' : List Nat), k ≤ L ∧ i = .int .i64 k ∧ bs'.length = L ∧ Row wr g 5 (nums .u8 bs') ∧ (∀ j, j < k → wd bs' (L - 1 - j) = byt (rep z.natAbs) j) ∧ Only [g] w wr) (fun i _ => L - (intOf i).toNat)
  case atStart => exact ⟨0, bs, by omega, rfl, HL.out, hr, fun j hj => absurd hj (by omega), Only.refl _ _⟩
  case round =>
    obtain ⟨k, bs', hk, rfl, hl', hr', hd, ho⟩ := hrel
    obtain ⟨c1, hlr⟩ := H1.out wr ho
    have HL' := Lib.hid hl'; clear hl'
    have HD := Lib.hid hd; clear hd
    by_cases hlt : k < L
    · obtain ⟨d, hd⟩ : ∃ d, d = k / 4 := ⟨_, rfl⟩
      obtain ⟨r, hrr⟩ : ∃ r, r = k % 4 := ⟨_, rfl⟩
      have e1 : (k : Int) / 4 = d := by omega
      have e2 : (k : Int) % 4 = r := by omega
      have r_lt : r < 4 := by omega
      have b_x := (rep_lim z.natAbs).wd d
      have hby : byt (rep z.natAbs) k = wd (rep z.natAbs) d / 256 ^ r % 256 := by unfold byt; rw [← hd, ← hrr]
      have HB := Lib.hid hby; clear hby
      have Hd := Lib.hid hd; clear hd
      clear hrr
      have hdig := big_digit wr a (rep z.natAbs) n cap1 ((k : Int) / 4) hlr (rep_lim _) Hn.out (by omega) (by omega)
      rw [e1, Int.toNat_natCast] at hdig
      obtain ⟨x, hx⟩ : ∃ x, x = wd (rep z.natAbs) d := ⟨_, rfl⟩
      rw [← hx] at b_x hdig HB
      have HDg := Lib.hid hdig; clear hdig hx
      have ep : (2 : Int) ^ (8 * r) = ((256 ^ r : Nat) : Int) := by rw [← pow8, Int.natCast_pow]; rfl
      obtain ⟨pw, hpw⟩ : ∃ pw, pw = 256 ^ r := ⟨_, rfl⟩
      have hp0 : 0 < pw := by rw [hpw]; exact Nat.pow_pos (by decide)
      rw [← hpw] at ep HB
      clear hpw
      have ig := row_index (P := Tryz.prog) Tryz.underlying72 size8 g L cap .i64 ((L : Int) - 1 - k) (L - 1 - k) (by omega) (by omega)
      have hcell := hr'.cell (i := L - 1 - k) (by rw [HL'.out]; omega)
      have hfk := hr'.free (L - 1 - k)
      have q0 : (0 : Int) ≤ (x : Int) / (pw : Int) := by rw [← Int.natCast_ediv]; exact Int.natCast_nonneg _
      go_wp2_with (go_at_call 237; (try simp only [e1]); refine HDg.out.mono ?_; rintro e w' ⟨rfl, rfl⟩)
      go_roundw
      case rel => exact ⟨k + 1, bs'.set (L - 1 - k) (x / pw % 256), by omega, by go_num, by rw [List.length_set, HL'.out], hr'.store _ _ _ (by rw [Int.natCast_emod, Int.natCast_ediv]; rfl), fun j hj => by
        rw [wd_set (by rw [HL'.out]; omega)]
        by_cases hjk : j = k
        · rw [hjk, if_pos rfl, HB.out]
        · rw [if_neg (by omega)]; exact HD.out j (by omega), ho.setCell (by simp) _⟩
      case measure => simp [intOf]; omega
    · obtain rfl : k = L := by omega
      go_wp2
      go_ret
      exact ⟨rfl, ho, bs', hr', HL'.out, HD.out⟩

end Go.Proofs.YtbffpkmfhkphdaaGreatDoor
