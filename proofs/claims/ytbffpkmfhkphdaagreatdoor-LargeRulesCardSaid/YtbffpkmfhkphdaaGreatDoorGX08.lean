/- The walk of big.step: one step of a long division. The walk of big.top: 64 of a number's bits. The walk of the reference's order. words of package large: a range over a function, collected. -/
import Derived.Test.YtbffpkmfhkphdaaGreatDoorGX05
import Derived.Test.YtbffpkmfhkphdaaGreatDoorGX04
import Derived.Test.YtbffpkmfhkphdaaGreatDoorGX07
import Derived.Deep.DeepCutAuto
import Derived.Deep.CutBlock
import Derived.Test.YtbffpkmfhkphdaaGreatDoorGX06
set_option linter.unusedVariables false
set_option linter.unusedSimpArgs false
namespace Go.Proofs.YtbffpkmfhkphdaaGreatDoor
open Go Go.RowKit Limb

theorem Row.cellX {w : World} {g : Nat} {e : TypeId} {k : IntKind} {zs : List Nat} {ex : List Value} (h : Row w g e (nums k zs ++ ex)) {i : Nat} (hi : i < zs.length) : w.cell? ⟨g, i, none⟩ = some (.int k (wd zs i : Nat)) := by
  rw [h.cell_at, List.getElem?_append_left (by rw [nums_length]; exact hi), nums_get hi]
theorem Row.storeX {w : World} {g : Nat} {e : TypeId} {k : IntKind} {zs : List Nat} {ex : List Value} (h : Row w g e (nums k zs ++ ex)) (i : Nat) (v : Int) (d : Nat) (hv : v = d) (hi : i < zs.length) : Row (w.setCell ⟨g, i, none⟩ (.int k v)) g e (nums k (zs.set i d) ++ ex) := by
  rw [nums_set, hv, ← List.set_append_left _ _ (by rw [nums_length]; exact hi)]; exact h.store_any i _
theorem Row.layX {w : World} {g : Nat} {e : TypeId} {K : IntKind} {zs : List Nat} {ex : List Value} (h : Row w g e (nums K zs ++ ex)) : Lay K w (some ⟨g, 0, none⟩) zs :=
  ⟨g, 0, fun _ => ⟨rfl, h.lt⟩, fun i hi => by rw [Nat.zero_add]; exact h.cellX hi⟩

theorem grown_store {w w' : World} {g : Nat} (h : w.grownBy w' (some g)) (i : Nat) (v : Value) : w.grownBy (w'.setCell ⟨g, i, none⟩ v) (some g) :=
  ⟨h.os, h.tape, h.output, by have := h.size; simpa [World.setCell] using this, fun k hk hne => by rw [Below.heap_setCell _ _ _ _ (fun e => hne (by rw [e]))]; exact h.block k hk hne⟩
theorem grown_drewN {w w' : World} {g : Option Nat} (h : w.grownBy w' g) (n : Nat) : w.grownBy (w'.drewN n) g := ⟨h.os, h.tape, h.output, h.size, h.block⟩

/-- What a walk uses of words in another block than the one that is written. -/
theorem Lay.useBut {P : Program} {K : IntKind} {w : World} {a : Option Addr} {l : List Nat} (h : Lay K w a l) (t e : TypeId) (ht : P.underlying t = some (.slice e)) (hs : ∀ W, (sizeOf e).run P W = .ok 1 W) (cap g : Nat)
    (hg : ∀ b off, a = some ⟨b, off, none⟩ → b ≠ g) :
    ∃ b off, (∀ (W : World) (k : IntKind) (i : Int), 0 ≤ i → i < (l.length : Int) → (Instr.indexAt t (.slice a l.length cap) (.int k i)).run P W = .ok (.pointer (some ⟨b, off + i.toNat, none⟩)) W) ∧
      (∀ w', w.grownBy w' (some g) → ∀ i, i < l.length → w'.cell? ⟨b, off + i, none⟩ = some (.int K (wd l i : Nat))) := by
  obtain ⟨b, off, h1, h2⟩ := h
  refine ⟨b, off, fun W k i hi0 hi1 => ?_, fun w' hb i hi => ?_⟩
  · rw [(h1 (by omega)).1]
    simp [Instr.indexAt, run_underlying ht, asIntOf, hi0, hi1, hs, Result.andThen, Addr.add]
  · have h3 := h1 (by omega)
    rw [← h2 i hi]
    exact World.cell?_of_block (hb.block b h3.2 (fun e => hg b off h3.1 (by injection e)))

set_option maxHeartbeats 3200000 in
set_option maxRecDepth 100000 in
theorem big_step (w : World) (g0 o cu cv n : Nat) (a : Option Addr) (us vs : List Nat) (ex : List Value) (hrow : Row w g0 60 (nums .u32 us ++ ex)) (hu : Lim us) (hlay : Lay .u32 w a vs) (hv : Lim vs)
    (hne : ∀ b off, a = some ⟨b, off, none⟩ → b ≠ g0) (hn : n = vs.length) (hn2 : 2 ≤ n) (hol : o + n + 1 ≤ us.length) (hmx : us.length ≤ 1099511627776) (htop : 2147483648 ≤ wd vs (n - 1)) (hlt : seg us o (n + 1) < val vs * 4294967296) :
    Calls Tryz.prog 243 #[.slice (some ⟨g0, o, none⟩) (n + 1) cu, .slice a n cv] w fun e w' =>
      e = .returned (.int .u64 (seg us o (n + 1) / val vs : Nat)) ∧ ∃ us', us'.length = us.length ∧ Lim us' ∧ Row w' g0 60 (nums .u32 us' ++ ex) ∧ us'.take o = us.take o ∧
        us'.drop (o + n + 1) = us.drop (o + n + 1) ∧ seg us' o (n + 1) = seg us o (n + 1) % val vs ∧ w.grownBy w' (some g0) := by
  obtain ⟨b1, off1, hix, hcx⟩ := hlay.useBut 115 60 Tryz.underlying115 size32 cv g0 hne
  rw [← hn] at hix hcx
  obtain ⟨k, rfl⟩ : ∃ k, n = k + 1 + 1 := ⟨n - 2, by omega⟩
  have G := Guess.make hu hv hn.symm (by simpa using htop) hlt
  have b_u0 := hu.wd (o + (k + 1 + 1))
  have b_u1 := hu.wd (o + (k + 1))
  have b_u2 := hu.wd (o + k)
  have b_v1 := hv.wd (k + 1)
  have b_v2 := hv.wd k
  have c_u0 := hrow.cellX (i := o + (k + 1 + 1)) (by omega)
  have c_u1 := hrow.cellX (i := o + (k + 1)) (by omega)
  have c_u2 := hrow.cellX (i := o + k) (by omega)
  have c_v1 := hcx w (World.grownBy.refl _ _) (k + 1) (by omega)
  have c_v2 := hcx w (World.grownBy.refl _ _) k (by omega)
  have i_v1 := fun q => hix (w.drewN q) .i64 (k + 1 : Nat) (by omega) (by omega)
  have i_v2 := fun q => hix (w.drewN q) .i64 (k : Nat) (by omega) (by omega)
  simp only [Int.toNat_natCast, Int.natCast_add, Int.natCast_one] at i_v1 i_v2
  have Hn := Lib.hid hn; clear hn
  have HX := Lib.hid hix; clear hix
  have HCX := Lib.hid hcx; clear hcx
  have Hlt := Lib.hid hlt; clear hlt
  clear htop hn2
  obtain ⟨u0, hu0⟩ : ∃ x, x = wd us (o + (k + 1 + 1)) := ⟨_, rfl⟩
  obtain ⟨u1, hu1⟩ : ∃ x, x = wd us (o + (k + 1)) := ⟨_, rfl⟩
  obtain ⟨u2, hu2⟩ : ∃ x, x = wd us (o + k) := ⟨_, rfl⟩
  obtain ⟨v1, hv1⟩ : ∃ x, x = wd vs (k + 1) := ⟨_, rfl⟩
  obtain ⟨v2, hv2⟩ : ∃ x, x = wd vs k := ⟨_, rfl⟩
  rw [← hu0] at b_u0 c_u0 G
  rw [← hu1] at b_u1 c_u1 G
  rw [← hu2] at b_u2 c_u2 G
  rw [← hv1] at b_v1 c_v1 G
  rw [← hv2] at b_v2 c_v2 G
  clear hu0 hu1 hu2 hv1 hv2
  obtain ⟨q, hq⟩ : ∃ x, x = seg us o (k + 1 + 1 + 1) / val vs := ⟨_, rfl⟩
  have Hq := Lib.hid hq; clear hq
  have eo := or_hi_lo _ _ b_u1 b_u0
  obtain ⟨T, hT⟩ : ∃ T, T = u0 * 4294967296 + u1 := ⟨_, rfl⟩
  have eT : (u0 : Int) * 4294967296 + (u1 : Int) = T := by omega
  rw [eT] at eo
  rw [← hT] at G
  have b_T : T < 18446744073709551616 := by omega
  have HT := Lib.hid hT; clear hT
  clear eT
  have HG := Lib.hid G; clear G
  have g1 := HG.out.hv
  have g2 := HG.out.qlt
  have g3 := HG.out.first
  rw [← Hq.out] at g2 g3
  have q0 : v1 ≠ 0 := by omega
  have t0 : (0 : Int) ≤ (T : Int) / (v1 : Int) := Int.ediv_nonneg (by omega) (by omega)
  have t1 : (T : Int) / (v1 : Int) < 18446744073709551616 := by rw [← Int.natCast_ediv]; have := Nat.div_le_self T v1; omega
  have t2 : (0 : Int) ≤ (T : Int) % (v1 : Int) := Int.emod_nonneg _ (by omega)
  have t3 : (T : Int) % (v1 : Int) < (v1 : Int) := Int.emod_lt_of_pos _ (by omega)
  go_enter Tryz.func243, Tryz.ntmps243
  go_wp2
  go_quiet (fail)
  go_upto_block 0 with fail
  go_cut [7] (fun g wx => ∃ (gg x : Nat), g = .int .u64 gg ∧ gg < 4294967296 ∧ q ≤ gg ∧ gg ≤ q + 1 ∧ wx = w.drewN x)
  case first =>
    go_wp2_with fail
    go_loopw [7, 8] (fun g r wx => ∃ (gg rr x : Nat), g = .int .u64 gg ∧ r = .int .u64 rr ∧ rr < 4294967296 ∧ gg * v1 + rr = T ∧ q ≤ gg ∧ gg < 18446744073709551616 ∧ wx = w.drewN x) (fun g _ _ => (intOf g).toNat)
    case atStart => exact ⟨T / v1, T % v1, _, by rw [Int.natCast_ediv], by rw [Int.natCast_emod], Nat.lt_of_lt_of_le (Nat.mod_lt _ (by omega)) (Nat.le_of_lt b_v1), by rw [Nat.mul_comm]; exact Nat.div_add_mod _ _, g3, Nat.lt_of_le_of_lt (Nat.div_le_self _ _) b_T, rfl⟩
    case round =>
      obtain ⟨g, r, x, rfl, rfl, hr, hgT, hqg, hg64, rfl⟩ := hrel
      have HgT := Lib.hid hgT; clear hgT
      clear t0 t1 t2 t3 g3 eo
      by_cases hbig : 4294967296 ≤ g
      · have hA : (((g : Int) / 4294967296) != 0) = true := by rw [bne_iff_ne]; omega
        have hq' : q ≤ g - 1 := by have := HG.out.big (g := g) hbig; rw [← Hq.out] at this; exact this
        have hT' : Hid ((g - 1) * v1 + (r + v1) = T) := by
          unfold Hid; rw [← HgT.out, Nat.sub_mul, Nat.one_mul]
          have := Nat.le_mul_of_pos_left v1 (show 0 < g by omega); omega
        by_cases hbr : 4294967296 ≤ r + v1
        · have hC : ((((r : Int) + (v1 : Int)) / 4294967296) != 0) = true := by rw [bne_iff_ne]; omega
          have hs : g - 1 < 4294967296 := HG.out.small hT'.out HT.out b_u1 hbr
          have hnear : g - 1 ≤ q + 1 := by have := HG.out.broke hT'.out hs hbr; rw [← Hq.out] at this; exact this
          go_wp2
          go_quiet (fail)
          go_wp2
          go_meet
          case rel => exact ⟨g - 1, _, by go_num, hs, hq', hnear, rfl⟩
        · have hC : ((((r : Int) + (v1 : Int)) / 4294967296) != 0) = false := by rw [bne_eq_false_iff_eq]; omega
          go_wp2
          go_quiet (fail)
          go_wp2
          go_roundw
          case rel => exact ⟨g - 1, r + v1, _, by go_num, by go_num, by omega, hT'.out, hq', by omega, rfl⟩
          case measure => simp [intOf]; omega
      · have hA : (((g : Int) / 4294967296) != 0) = false := by rw [bne_eq_false_iff_eq]; omega
        have hgs : g ≤ 4294967295 := by omega
        obtain ⟨hp1, hp2⟩ := prod_bound g v2 (by omega) (by omega) (by omega) (by omega)
        have eidx : (k : Int) + 1 + 1 - 2 = k := by omega
        have eo := or_hi_lo u2 r b_u2 hr
        by_cases hhi : r * 4294967296 + u2 < g * v2
        · have hB : decide ((r : Int) * 4294967296 + (u2 : Int) < (g : Int) * (v2 : Int)) = true := by
            rw [decide_eq_true_eq, ← Int.natCast_mul]; omega
          have hpos : 0 < g := by rcases Nat.eq_zero_or_pos g with h | h; · subst h; omega
                                  · exact h
          have hq' : q ≤ g - 1 := by have := HG.out.high HgT.out hhi; rw [← Hq.out] at this; exact this
          have hT' : Hid ((g - 1) * v1 + (r + v1) = T) := by
            unfold Hid; rw [← HgT.out, Nat.sub_mul, Nat.one_mul]
            have := Nat.le_mul_of_pos_left v1 hpos; omega
          clear hbig hhi
          by_cases hbr : 4294967296 ≤ r + v1
          · have hC : ((((r : Int) + (v1 : Int)) / 4294967296) != 0) = true := by rw [bne_iff_ne]; omega
            have hs : g - 1 < 4294967296 := by omega
            have hnear : g - 1 ≤ q + 1 := by have := HG.out.broke hT'.out hs hbr; rw [← Hq.out] at this; exact this
            go_wp2
            go_quiet (fail)
            go_wp2
            go_meet
            case rel => exact ⟨g - 1, _, by go_num, hs, hq', hnear, rfl⟩
          · have hC : ((((r : Int) + (v1 : Int)) / 4294967296) != 0) = false := by rw [bne_eq_false_iff_eq]; omega
            go_wp2
            go_quiet (fail)
            go_wp2
            go_roundw
            case rel => exact ⟨g - 1, r + v1, _, by go_num, by go_num, by omega, hT'.out, hq', by omega, rfl⟩
            case measure => simp [intOf]; omega
        · have hB : decide ((r : Int) * 4294967296 + (u2 : Int) < (g : Int) * (v2 : Int)) = false := by
            rw [decide_eq_false_iff_not, ← Int.natCast_mul]; omega
          have hnear : g ≤ q + 1 := by have := HG.out.near HgT.out (by omega) (by omega); rw [← Hq.out] at this; exact this
          have hs : g < 4294967296 := by omega
          clear hbig hhi
          go_wp2
          go_quiet (fail)
          go_wp2
          go_meet
          case rel => exact ⟨g, _, rfl, hs, hqg, hnear, by first | rfl | exact World.drewN_drewN _ _ _⟩
  case rest =>
    obtain ⟨g, x, rfl, hg, hqg, hnear, rfl⟩ := hcut
    clear t0 t1 t2 t3 g3 eo i_v1 i_v2 c_u0 c_u1 c_u2 c_v1 c_v2 q0 g1 g2 b_T
    go_wp2
    go_loopw [9, 10, 83] (fun c b i wr => ∃ (j cc bb : Nat) (zs : List Nat), j ≤ k + 1 + 1 ∧ i = .int .i64 j ∧ c = .int .u64 cc ∧ b = .int .u64 bb ∧ cc < 4294967296 ∧ bb ≤ 1 ∧ zs.length = us.length ∧ Lim zs ∧ Row wr g0 60 (nums .u32 zs ++ ex) ∧
        (∀ i, o + j ≤ i → wd zs i = wd us i) ∧ zs.take o = us.take o ∧ zs.drop (o + (k + 1 + 1) + 1) = us.drop (o + (k + 1 + 1) + 1) ∧
        seg zs o j + g * val (vs.take j) = seg us o j + (cc + bb) * W j ∧ w.grownBy wr (some g0)) (fun _ _ i _ => k + 1 + 1 - (intOf i).toNat)
    case atStart => exact ⟨0, 0, 0, us, by omega, rfl, rfl, rfl, by omega, by omega, rfl, hu, hrow.drewN _, fun _ _ => rfl, rfl, rfl, by simp [seg_zero, val], grown_drewN (World.grownBy.refl _ _) _⟩
    case round =>
      obtain ⟨j, c, b, zs, hj, rfl, rfl, rfl, hc, hb, hzl, hzlim, hr, hsame, htk, hdr, hv2, hgr⟩ := hrel
      have Hzl := Lib.hid hzl; clear hzl
      have Hv2 := Lib.hid hv2; clear hv2
      have Hsame := Lib.hid hsame; clear hsame
      have Htk := Lib.hid htk; clear htk
      have Hdr := Lib.hid hdr; clear hdr
      have z1 := hzlim.wd (o + j)
      have z2 := hv.wd j
      have hcell := hr.cellX (i := o + j) (by rw [Hzl.out]; omega)
      have hfk := hr.free (o + j)
      by_cases hlt : j < k + 1 + 1
      · have ix := HX.out wr .i64 j (by omega) (by omega)
        rw [Int.toNat_natCast] at ix
        have cx := HCX.out wr hgr j hlt
        obtain ⟨hp1, hp2⟩ := prod_bound g (wd vs j) (by omega) (by omega) (by omega) (by omega)
        have hx64 : c + g * wd vs j < 4294967296 * 4294967296 := by
          have := Nat.mul_le_mul (show g ≤ 4294967295 by omega) (show wd vs j ≤ 4294967295 by omega); omega
        have ean : bits .and .u64 ((c : Int) + (g : Int) * (wd vs j : Nat)) 4294967295 = (((c + g * wd vs j) % 4294967296 : Nat) : Int) := by
          rw [and_low32 _ (by omega) (by omega), Int.natCast_emod, Int.natCast_add, Int.natCast_mul]; rfl
        obtain ⟨lo, hlo⟩ : ∃ lo, lo = (c + g * wd vs j) % 4294967296 := ⟨_, rfl⟩
        rw [← hlo] at ean
        have b_lo : lo < 4294967296 := by omega
        have Hlo := Lib.hid hlo; clear hlo
        have hstep := mul_step (g := g) (vs := vs) (us0 := us) (by rw [Hzl.out]; omega) (Hsame.out (o + j) (Nat.le_refl _)) hb z1 Hv2.out
        rw [← Hlo.out] at hstep
        have Hst := Lib.hid hstep; clear hstep
        go_wp2
        go_roundw
        case rel => exact ⟨j + 1, (c + g * wd vs j) / 4294967296, if wd zs (o + j) < lo + b then 1 else 0, zs.set (o + j) ((wd zs (o + j) + 4294967296 - lo - b) % 4294967296), by omega, by go_num, by rw [Int.natCast_ediv, Int.natCast_add, Int.natCast_mul]; rfl,
          by rw [sub_borrow _ _ _ z1 b_lo hb], by omega, by split <;> omega, by rw [List.length_set, Hzl.out], hzlim.set (by omega), hr.storeX _ _ _ (sub_low _ _ _ z1 b_lo hb) (by rw [Hzl.out]; omega),
          fun i hi => by rw [wd_set (by rw [Hzl.out]; omega), if_neg (by omega)]; exact Hsame.out i (by omega), by rw [take_set_gt _ _ (by omega)]; exact Htk.out, by rw [List.drop_set_of_lt (by omega)]; exact Hdr.out, Hst.out, grown_store hgr _ _⟩
        case measure => simp [intOf]; omega
      · obtain rfl : j = k + 1 + 1 := by omega
        clear z2 hj hlt
        obtain ⟨un, hun⟩ : ∃ un, un = wd zs (o + (k + 1 + 1)) := ⟨_, rfl⟩
        rw [← hun] at hcell z1
        have Hun := Lib.hid hun; clear hun
        have hsb := sub_borrow un c b z1 hc hb
        have hsl := sub_low un c b z1 hc hb
        have hwn := Hsame.out (o + (k + 1 + 1)) (Nat.le_refl _)
        have Hwn := Lib.hid hwn; clear hwn
        by_cases hd : c + b ≤ un
        · rw [if_neg (by omega)] at hsb
          rw [show (un + 4294967296 - c - b) % 4294967296 = un - c - b from by omega] at hsl
          have hend := mul_end_ok (g := g) (vs := vs) (us0 := us) Hn.out.symm (by rw [Hzl.out]; omega) Hwn.out (by rw [← Hun.out]; exact hd) Hv2.out (by rw [← Hq.out]; exact hqg) HG.out.vpos
          rw [← Hun.out] at hend
          have He := Lib.hid hend; clear hend
          have hr2 := hr.storeX (o + (k + 1 + 1)) _ _ hsl (by rw [Hzl.out]; omega)
          have hgr2 := grown_store hgr (o + (k + 1 + 1)) (.int .u32 (IntKind.u64.wrap (IntKind.u64.wrap ((un : Int) - (c : Int)) - (b : Int)) % 4294967296))
          simp only [hsl] at hr2 hgr2
          clear hnear hqg hd
          go_wp2
          go_ret
          refine ⟨congrArg (fun x : Nat => Ending.returned (.int .u64 x)) He.out.1, zs.set (o + (k + 1 + 1)) (un - c - b), by rw [List.length_set, Hzl.out], hzlim.set (by omega), hr2, by rw [take_set_gt _ _ (by omega)]; exact Htk.out, by rw [List.drop_set_of_lt (by omega)]; exact Hdr.out, He.out.2, hgr2⟩
        · rw [if_pos (by omega)] at hsb
          have hend := mul_end_neg (g := g) (vs := vs) (us0 := us) hzlim Hn.out.symm (by rw [Hzl.out]; omega) Hwn.out (by rw [← Hun.out]; omega) hc hb Hv2.out (by rw [← Hq.out]; exact hnear) HG.out.vpos
          rw [← Hun.out] at hend
          obtain ⟨hend1, hend2⟩ := hend
          rw [← Hq.out] at hend1
          have hgpos : 0 < g := by omega
          have He1 := Lib.hid hend1; clear hend1
          obtain ⟨z1l, hz1l⟩ : ∃ z1l, z1l = zs.set (o + (k + 1 + 1)) ((un + 4294967296 - c - b) % 4294967296) := ⟨_, rfl⟩
          rw [← hz1l] at hend2
          have He2 := Lib.hid hend2; clear hend2
          have hr2 := hr.storeX (o + (k + 1 + 1)) _ _ hsl (by rw [Hzl.out]; omega)
          have hgr2 := grown_store hgr (o + (k + 1 + 1)) (.int .u32 (IntKind.u64.wrap (IntKind.u64.wrap ((un : Int) - (c : Int)) - (b : Int)) % 4294967296))
          rw [← hz1l] at hr2
          have hl1 : z1l.length = us.length := by rw [hz1l, List.length_set, Hzl.out]
          have hlim1 : Lim z1l := by rw [hz1l]; exact hzlim.set (by omega)
          have htk1 : z1l.take o = us.take o := by rw [hz1l, take_set_gt _ _ (by omega)]; exact Htk.out
          have hdr1 : z1l.drop (o + (k + 1 + 1) + 1) = us.drop (o + (k + 1 + 1) + 1) := by rw [hz1l, List.drop_set_of_lt (by omega)]; exact Hdr.out
          have Hl1 := Lib.hid hl1; clear hl1
          have Htk1 := Lib.hid htk1; clear htk1
          have Hdr1 := Lib.hid hdr1; clear hdr1
          simp only [hsl] at hr2 hgr2
          clear hnear hqg hd hz1l Htk Hdr Hzl Hv2 Hsame Hwn
          go_wp2
          go_loopw [9, 134] (fun c i wr => ∃ (j cc : Nat) (zs : List Nat), j ≤ k + 1 + 1 ∧ i = .int .i64 j ∧ c = .int .u64 cc ∧ cc ≤ 1 ∧ zs.length = us.length ∧ Lim zs ∧ Row wr g0 60 (nums .u32 zs ++ ex) ∧
              (∀ i, o + j ≤ i → wd zs i = wd z1l i) ∧ zs.take o = us.take o ∧ zs.drop (o + (k + 1 + 1) + 1) = us.drop (o + (k + 1 + 1) + 1) ∧
              seg zs o j + cc * W j = seg z1l o j + val (vs.take j) ∧ w.grownBy wr (some g0)) (fun _ i _ => k + 1 + 1 - (intOf i).toNat)
          case atStart => exact ⟨0, 0, z1l, by omega, rfl, rfl, by omega, Hl1.out, hlim1, hr2, fun _ _ => rfl, Htk1.out, Hdr1.out, by simp [seg_zero, val], hgr2⟩
          case round =>
            obtain ⟨j, cc, zz, hj, rfl, rfl, hcc, hzl, hzlim3, hr3, hsame, htk, hdr, hv3, hgr3⟩ := hrel
            clear hcell hfk hr hr2 hgr hgr2 hsb hsl
            have Hzl := Lib.hid hzl; clear hzl
            have Hv3 := Lib.hid hv3; clear hv3
            have Hsame := Lib.hid hsame; clear hsame
            have Htk := Lib.hid htk; clear htk
            have Hdr := Lib.hid hdr; clear hdr
            have z3 := hzlim3.wd (o + j)
            have z2 := hv.wd j
            have hcell := hr3.cellX (i := o + j) (by rw [Hzl.out]; omega)
            have hfk := hr3.free (o + j)
            by_cases hlt : j < k + 1 + 1
            · have ix := fun q => HX.out (wr.drewN q) .i64 j (by omega) (by omega)
              simp only [Int.toNat_natCast] at ix
              have cx := HCX.out wr hgr3 j hlt
              go_wp2
              go_quiet (fail)
              go_wp2
              go_roundw
              case rel => exact ⟨j + 1, (cc + (wd zz (o + j) + wd vs j)) / 4294967296, zz.set (o + j) ((cc + (wd zz (o + j) + wd vs j)) % 4294967296), by omega, by go_num, by go_num, by omega, by rw [List.length_set, Hzl.out], hzlim3.set (by omega), (hr3.drewN _).storeX _ _ _ (by omega) (by rw [Hzl.out]; omega),
                fun i hi => by rw [wd_set (by rw [Hzl.out]; omega), if_neg (by omega)]; exact Hsame.out i (by omega), by rw [take_set_gt _ _ (by omega)]; exact Htk.out, by rw [List.drop_set_of_lt (by omega)]; exact Hdr.out, back_step (by rw [Hzl.out]; omega) (Hsame.out _ (Nat.le_refl _)) Hv3.out, grown_store (grown_drewN hgr3 _) _ _⟩
              case measure => simp [intOf]; omega
            · obtain rfl : j = k + 1 + 1 := by omega
              have hfin := back_end (vs := vs) (R := seg us o (k + 1 + 1 + 1) % val vs) hzlim3 Hn.out.symm (by rw [Hzl.out]; omega) (Hsame.out _ (Nat.le_refl _)) Hv3.out He2.out (Nat.lt_of_lt_of_le (Nat.mod_lt _ HG.out.vpos) (by have := val_lt hv; rw [← Hn.out] at this; omega))
              have Hf := Lib.hid hfin; clear hfin
              go_wp2
              go_ret
              exact ⟨congrArg (fun x : Int => Ending.returned (.int .u64 x)) (by rw [← Hq.out]; have := He1.out; omega), zz.set (o + (k + 1 + 1)) ((wd zz (o + (k + 1 + 1)) + cc) % 4294967296), by rw [List.length_set, Hzl.out], hzlim3.set (by omega), hr3.storeX _ _ _ (by omega) (by rw [Hzl.out]; omega),
                by rw [take_set_gt _ _ (by omega)]; exact Htk.out, by rw [List.drop_set_of_lt (by omega)]; exact Hdr.out, Hf.out, grown_store hgr3 _ _⟩

end Go.Proofs.YtbffpkmfhkphdaaGreatDoor

namespace Go.Proofs.YtbffpkmfhkphdaaGreatDoor
open Go Go.RowKit Limb

theorem W_three : 4294967296 * (4294967296 * 4294967296) = (2 : Nat) ^ 96 := by decide
/-- The bits from 32 i + r on, out of three words. -/
theorem top_words {V d0 d1 d2 r : Nat} (h0 : d0 < 4294967296) (h1 : d1 < 4294967296) (h2 : d2 < 4294967296) (hr : r < 32) (hV : V % 2 ^ 96 = d0 + d1 * 4294967296 + d2 * 18446744073709551616) :
    V / 2 ^ r % 18446744073709551616 = (d0 + d1 * 4294967296) / 2 ^ r + d2 * 2 ^ (64 - r) % 18446744073709551616 ∧ (d0 + d1 * 4294967296) / 2 ^ r < 2 ^ (64 - r) := by
  have e64 : (18446744073709551616 : Nat) = 2 ^ r * 2 ^ (64 - r) := by rw [← Nat.pow_add, show r + (64 - r) = 64 by omega]
  have hp : 0 < 2 ^ r := Nat.pow_pos (by decide)
  have hq : 0 < 2 ^ (64 - r) := Nat.pow_pos (by decide)
  have hlt : (d0 + d1 * 4294967296) / 2 ^ r < 2 ^ (64 - r) := by
    refine (Nat.div_lt_iff_lt_mul hp).2 ?_
    rw [Nat.mul_comm (2 ^ (64 - r)), ← e64]; omega
  refine ⟨?_, hlt⟩
  have k1 := Nat.div_add_mod V (2 ^ 96)
  have e96 : (2 : Nat) ^ 96 = 2 ^ r * (2 ^ (32 - r) * 18446744073709551616) := by
    rw [← Nat.mul_assoc, ← Nat.pow_add, show r + (32 - r) = 32 by omega]
  rw [hV] at k1
  rw [e96] at k1
  generalize V / (2 ^ r * (2 ^ (32 - r) * 18446744073709551616)) = T at k1
  have k2 : V = 2 ^ r * (2 ^ (32 - r) * 18446744073709551616 * T + 2 ^ (64 - r) * d2) + (d0 + d1 * 4294967296) := by
    clear hlt hq hp hV e96
    generalize 2 ^ r = p at *
    generalize 2 ^ (64 - r) = q at *
    generalize 2 ^ (32 - r) = u at *
    grind
  rw [k2, Nat.mul_add_div hp]
  have k3 : 2 ^ (32 - r) * 18446744073709551616 * T + 2 ^ (64 - r) * d2 + (d0 + d1 * 4294967296) / 2 ^ r = (d0 + d1 * 4294967296) / 2 ^ r + d2 * 2 ^ (64 - r) + 18446744073709551616 * (2 ^ (32 - r) * T) := by
    have m1 : 2 ^ (32 - r) * 18446744073709551616 * T = 18446744073709551616 * (2 ^ (32 - r) * T) := by rw [Nat.mul_comm (2 ^ (32 - r)), Nat.mul_assoc]
    rw [m1, Nat.mul_comm d2]; omega
  rw [k3, Nat.add_mul_mod_self_left]
  -- the second part's lowest bits are 0
  generalize (d0 + d1 * 4294967296) / 2 ^ r = n1 at hlt ⊢
  have m2 : d2 * 2 ^ (64 - r) % 18446744073709551616 = 2 ^ (64 - r) * (d2 % 2 ^ r) := by
    rw [e64, Nat.mul_comm (2 ^ r), Nat.mul_comm d2, Nat.mul_mod_mul_left]
  have m3 := Nat.mod_lt d2 hp
  have m4 : 2 ^ (64 - r) * (d2 % 2 ^ r) + 2 ^ (64 - r) ≤ 18446744073709551616 := by
    rw [e64, ← Nat.mul_succ, Nat.mul_comm (2 ^ r)]
    exact Nat.mul_le_mul_left _ m3
  rw [Nat.add_mod, m2]
  have m5 : n1 % 18446744073709551616 = n1 := Nat.mod_eq_of_lt (by omega)
  rw [m5]
  exact Nat.mod_eq_of_lt (by omega)
theorem val_words {xs : List Nat} (hx : Lim xs) (i : Nat) : val xs / Limb.W i % 2 ^ 96 = wd xs i + wd xs (i + 1) * 4294967296 + wd xs (i + 2) * 18446744073709551616 := by
  have k1 : ∀ j, val xs / Limb.W (j + 1) = val xs / Limb.W j / 4294967296 := fun j => by rw [W_succ, Nat.mul_comm, ← Nat.div_div_eq_div_mul]
  rw [wd_val hx, wd_val hx, wd_val hx, show i + 2 = i + 1 + 1 by omega, k1 (i + 1), k1 i, ← W_three]
  generalize val xs / Limb.W i = V
  omega
theorem or_apart {n1 m s : Nat} (h1 : n1 < 2 ^ s) (hs : s ≤ 64) (hm : m < 18446744073709551616) (hd : 2 ^ s ∣ m) : bits .or .u64 (n1 : Int) (m : Int) = ((n1 + m : Nat) : Int) := by
  have hl : n1 < 18446744073709551616 := Nat.lt_of_lt_of_le h1 (show 2 ^ s ≤ 2 ^ 64 from Nat.pow_le_pow_right (by decide) hs)
  rw [u64_or_nat _ _ hl hm]
  rw [Nat.or_comm, nat_join s m n1 (Nat.mod_eq_zero_of_dvd hd) h1, Nat.add_comm]

set_option maxHeartbeats 800000 in
set_option maxRecDepth 100000 in
theorem big_top (w : World) (a : Option Addr) (xs : List Nat) (n ca f : Nat) (ha : Lay .u32 w a xs) (hx : Lim xs) (hn : n = xs.length) (ln : n ≤ 1099511627776) (lf : f ≤ 1099511627776) :
    Calls Tryz.prog 245 #[.slice a n ca, .int .i64 f] w fun e w' => e = .returned (.int .u64 (val xs / 2 ^ f % 18446744073709551616 : Nat)) ∧ w' = w := by
  obtain ⟨i, hi⟩ : ∃ i, i = f / 32 := ⟨_, rfl⟩
  obtain ⟨r, hr⟩ : ∃ r, r = f % 32 := ⟨_, rfl⟩
  have e1 : (f : Int) / 32 = i := by omega
  have e2 : (f : Int) % 32 = r := by omega
  have hrl : r < 32 := by omega
  have hil : i ≤ 34359738368 := by omega
  have ef : val xs / 2 ^ f = val xs / Limb.W i / 2 ^ r := by
    rw [W_two, Nat.div_div_eq_div_mul, ← Nat.pow_add, show 32 * i + r = f by omega]
  have h0 := hx.wd i
  have h1 := hx.wd (i + 1)
  have h2 := hx.wd (i + 2)
  have hV := val_words hx i
  have HD0 := Lib.hid (big_digit w a xs n ca (i : Int) ha hx hn (by omega) (by omega))
  have HD1 := Lib.hid (big_digit w a xs n ca ((i : Int) + 1) ha hx hn (by omega) (by omega))
  have HD2 := Lib.hid (big_digit w a xs n ca ((i : Int) + 2) ha hx hn (by omega) (by omega))
  rw [show ((i : Int)).toNat = i by omega] at HD0
  rw [show ((i : Int) + 1).toNat = i + 1 by omega] at HD1
  rw [show ((i : Int) + 2).toNat = i + 2 by omega] at HD2
  obtain ⟨d0, hd0⟩ : ∃ d, d = wd xs i := ⟨_, rfl⟩
  obtain ⟨d1, hd1⟩ : ∃ d, d = wd xs (i + 1) := ⟨_, rfl⟩
  obtain ⟨d2, hd2⟩ : ∃ d, d = wd xs (i + 2) := ⟨_, rfl⟩
  rw [← hd0] at HD0 h0 hV
  rw [← hd1] at HD1 h1 hV
  rw [← hd2] at HD2 h2 hV
  obtain ⟨ht1, ht2⟩ := top_words h0 h1 h2 hrl hV
  rw [ef, ht1]
  have eo := or_lo_hi d0 d1 h0 h1
  obtain ⟨n1, hn1⟩ : ∃ n1, n1 = (d0 + d1 * 4294967296) / 2 ^ r := ⟨_, rfl⟩
  rw [← hn1] at ht2 ⊢
  have en1 : ((d0 : Int) + (d1 : Int) * 4294967296) / 2 ^ r = (n1 : Int) := by
    rw [hn1, Int.natCast_ediv, Int.natCast_pow, Int.natCast_add, Int.natCast_mul]; rfl
  have hn1l : n1 < 18446744073709551616 := by
    have : 2 ^ (64 - r) ≤ 2 ^ 64 := Nat.pow_le_pow_right (by decide) (by omega)
    have e : (2 : Nat) ^ 64 = 18446744073709551616 := by decide
    omega
  clear hV ht1 ef hd0 hd1 hd2 hi hr hn1 ha hx hn ln
  by_cases hr0 : r = 0
  · subst hr0
    have hz : d2 * 2 ^ (64 - 0) % 18446744073709551616 = 0 := by
      rw [show (2 : Nat) ^ (64 - 0) = 18446744073709551616 by decide, Nat.mul_mod_left]
    rw [hz, Nat.add_zero]
    have en0 : (d0 : Int) + (d1 : Int) * 4294967296 = (n1 : Int) := by have := en1; simpa using this
    clear ht2 hz en1
    go_enter Tryz.func245, Tryz.ntmps245
    go_wp2_with fail
    refine HD0.out.mono ?_
    rintro e w2 ⟨rfl, rfl⟩
    go_wp2_with fail
    refine HD1.out.mono ?_
    rintro e w2 ⟨rfl, rfl⟩
    go_wp2
    go_ret
    exact ⟨rfl, rfl⟩
  · have d3 : decide (0 < r) = true := by rw [decide_eq_true_eq]; omega
    have d3' : decide ((0 : Int) < (r : Int)) = true := by rw [decide_eq_true_eq]; omega
    obtain ⟨s, hs⟩ : ∃ s, s = 64 - r := ⟨_, rfl⟩
    have es : (64 : Int) - (r : Int) = (s : Int) := by omega
    rw [← hs] at ht2 ⊢
    have hsl : s ≤ 64 := by omega
    obtain ⟨m, hm⟩ : ∃ m, m = d2 * 2 ^ s % 18446744073709551616 := ⟨_, rfl⟩
    have hdv : 2 ^ s ∣ m := by
      rw [hm]
      refine (Nat.dvd_mod_iff ?_).2 (Nat.dvd_mul_left _ _)
      exact ⟨2 ^ (64 - s), by rw [← Nat.pow_add, show s + (64 - s) = 64 by omega]⟩
    have em : IntKind.u64.wrap ((d2 : Int) * 2 ^ s) = (m : Int) := by
      rw [IntKind.wrap_u64, hm, Int.natCast_emod, Int.natCast_mul, Int.natCast_pow]; rfl
    have hml : m < 18446744073709551616 := by rw [hm]; exact Nat.mod_lt _ (by decide)
    have eor := or_apart ht2 hsl hml hdv
    rw [← hm]
    clear hm hs hdv ht2 hml hsl
    go_enter Tryz.func245, Tryz.ntmps245
    go_wp2_with fail
    refine HD0.out.mono ?_
    rintro e w2 ⟨rfl, rfl⟩
    go_wp2_with fail
    refine HD1.out.mono ?_
    rintro e w2 ⟨rfl, rfl⟩
    go_wp2_with fail
    refine HD2.out.mono ?_
    rintro e w2 ⟨rfl, rfl⟩
    go_wp2
    go_ret
    exact ⟨rfl, rfl⟩

end Go.Proofs.YtbffpkmfhkphdaaGreatDoor

namespace Go.Proofs.YtbffpkmfhkphdaaGreatDoor
open Go Go.RowKit Limb

theorem order_ge {x y : Nat} (h : y ≤ x) : 0 ≤ cmpI x y := by unfold cmpI; rw [if_neg (by omega)]; split <;> omega
theorem order_lt {x y : Nat} (h : x < y) : cmpI x y < 0 := by unfold cmpI; rw [if_pos h]; omega

set_option maxHeartbeats 800000 in
set_option maxRecDepth 100000 in
theorem ref_order (w : World) (a b : Option Addr) (xs ys : List Nat) (n m ca cb : Nat) (ha : Lay .u32 w a xs) (hb : Lay .u32 w b ys) (hx : Lim xs) (hy : Lim ys) (nx : Norm xs) (ny : Norm ys)
    (hn : n = xs.length) (hm : m = ys.length) (ln : n ≤ 9223372036854775807) (lm : m ≤ 9223372036854775807) :
    Calls Tryz.prog 87 #[.slice a n ca, .slice b m cb] w fun e w' => e = .returned (.int .i64 (cmpI (val xs) (val ys))) ∧ ∃ q, w' = w.drewN q := by
  rcases Nat.lt_trichotomy n m with h | h | h
  · rw [cmp_len_lt hx hy ny (by omega)]
    clear hn hm
    have hq : ((n : Int) != (m : Int)) = true := by rw [bne_iff_ne]; omega
    go_enter Tryz.func87, Tryz.ntmps87
    go_wp2
    go_ret
    exact ⟨rfl, 0, rfl⟩
  · obtain ⟨b1, off1, hix, hcx, _⟩ := ha.use 22 60 Tryz.underlying22 size32 ca
    obtain ⟨b2, off2, hiy, hcy, _⟩ := hb.use 22 60 Tryz.underlying22 size32 cb
    subst h
    rw [← hn] at hix hcx
    rw [← hm] at hiy hcy
    have Hn := Lib.hid hn; clear hn
    have Hm := Lib.hid hm; clear hm
    have HX := Lib.hid hix; clear hix
    have HY := Lib.hid hiy; clear hiy
    have HCX := Lib.hid hcx; clear hcx
    have HCY := Lib.hid hcy; clear hcy
    go_enter Tryz.func87, Tryz.ntmps87
    go_wp2
    go_loopw [5] (fun i wr => ∃ (k : Nat), k ≤ n ∧ i = .int .i64 ((k : Int) - 1) ∧ xs.drop k = ys.drop k ∧ ∃ q, wr = w.drewN q) (fun i _ => ((intOf i) + 1).toNat)
    case atStart => exact ⟨n, Nat.le_refl _, rfl, by rw [List.drop_of_length_le (by rw [Hn.out]; exact Nat.le_refl _), List.drop_of_length_le (by rw [Hm.out]; exact Nat.le_refl _)], 0, rfl⟩
    case round =>
      obtain ⟨k, hk, rfl, hd, q, rfl⟩ := hrel
      have Hd := Lib.hid hd; clear hd
      by_cases h0 : k = 0
      · have hv : Hid (xs = ys) := by have := Hd.out; rw [h0] at this; unfold Hid; simpa using this
        subst h0
        go_wp2
        go_ret
        exact ⟨by rw [hv.out]; simp [cmpI], q, rfl⟩
      · obtain ⟨j, rfl⟩ : ∃ j, k = j + 1 := ⟨k - 1, by omega⟩
        have hj : ((j + 1 : Nat) : Int) - 1 = (j : Int) := by omega
        rw [hj]
        clear hj h0
        have ix := fun q => HX.out (w.drewN q) .i64 j (by omega) (by omega)
        have iy := fun q => HY.out (w.drewN q) .i64 j (by omega) (by omega)
        simp only [Int.toNat_natCast] at ix iy
        have cx := HCX.out w (Below.refl _ _) j (by omega)
        have cy := HCY.out w (Below.refl _ _) j (by omega)
        have hat := cmp_at hx hy (by rw [← Hn.out, ← Hm.out]) (k := j) (by rw [← Hn.out]; omega) Hd.out
        have h1 := hx.wd j
        have h2 := hy.wd j
        have HA := Lib.hid hat; clear hat
        rcases Nat.lt_trichotomy (wd xs j) (wd ys j) with h | h | h
        · have hq : (((wd xs j : Nat) : Int) != ((wd ys j : Nat) : Int)) = true := by rw [bne_iff_ne]; omega
          have hv := Lib.hid (HA.out.1 h)
          go_wp2
          go_quiet (fail)
          go_wp2
          go_quiet (fail)
          go_wp2
          go_ret
          rw [hv.out]
          exact ⟨rfl, by first | exact ⟨_, rfl⟩ | (simp only [World.drewN_drewN]; exact ⟨_, rfl⟩)⟩
        · have hq : (((wd xs j : Nat) : Int) != ((wd ys j : Nat) : Int)) = false := by rw [bne_eq_false_iff_eq]; omega
          have hv := Lib.hid (HA.out.2.2 h)
          clear h
          go_wp2
          go_quiet (fail)
          go_wp2
          go_roundw
          case rel => exact ⟨j, by omega, rfl, hv.out, by first | exact ⟨_, rfl⟩ | (simp only [World.drewN_drewN]; exact ⟨_, rfl⟩)⟩
          case measure => first | (simp [intOf]; done) | (simp [intOf]; omega)
        · have hq : (((wd xs j : Nat) : Int) != ((wd ys j : Nat) : Int)) = true := by rw [bne_iff_ne]; omega
          have hv := Lib.hid (HA.out.2.1 h)
          go_wp2
          go_quiet (fail)
          go_wp2
          go_quiet (fail)
          go_wp2
          go_ret
          rw [hv.out]
          exact ⟨rfl, by first | exact ⟨_, rfl⟩ | (simp only [World.drewN_drewN]; exact ⟨_, rfl⟩)⟩
  · rw [cmp_len_gt hx hy nx (by omega)]
    clear hn hm
    have hq : ((n : Int) != (m : Int)) = true := by rw [bne_iff_ne]; omega
    go_enter Tryz.func87, Tryz.ntmps87
    go_wp2
    go_ret
    exact ⟨rfl, 0, rfl⟩

end Go.Proofs.YtbffpkmfhkphdaaGreatDoor

namespace Go.Proofs.YtbffpkmfhkphdaaGreatDoor
open Go Go.RowKit Go.Shelf Limb

attribute [local go_sem] Oper.semAt_some

theorem Closed.stops {F : Fence} {n : Nat} (h5 : F.fn 152) (hro : F.round = none) (hn : 1 ≤ n) {w0 w : World} {u : Value} {k : Nat} {z : Int} {Bn Ba : Nat} {neg : Bool} {a : Option Addr} {xs : List Nat} {cap : Nat} (H : Closed w0 u k z Bn Ba neg a xs cap) (hk : k ≤ 1099511627776) (hb : Below w0.heap.size w0 w) :
    SeqStopsK F n Tryz.prog 152 #[.pointer (some ⟨Bn, 0, none⟩), .pointer (some ⟨Ba, 0, none⟩)] (fun x : Nat × Nat => #[Value.int .i64 (x.1 : Nat), Value.int .u32 (x.2 : Nat)]) (Below w0.heap.size) (fun ys => ys = upto (fun j => (j, wd (two k z) j)) k)
      (fun pre => ∃ j, j ≤ k ∧ pre = upto (fun j => (j, wd (two k z) j)) j) k w := fun l J Jx W hW _ _ hY h0 =>
  comp_in F n h5 hro hn l k z u w0 Bn Ba neg a xs cap hk H J Jx hY W (hb.trans (hW.mono hb.size)) h0

set_option maxRecDepth 100000 in
set_option maxHeartbeats 2000000 in
theorem words_in (F : Fence) (n : Nat) (h3 : F.fn 70) (h5 : F.fn 152) (hro : F.round = none) (hn : 3 ≤ n) (w : World) (u : Value) (k : Nat) (z : Int) (Bn Ba : Nat) (neg : Bool) (a : Option Addr) (xs : List Nat) (cap : Nat) (hk : k ≤ 1073741824) (H : Closed w u k z Bn Ba neg a xs cap) :
    CallsIn F n Tryz.prog 70 #[u] w fun e W' => ∃ v, e = .returned v ∧ W'.ownsRow w.heap.size 60 1 v k (nums .u32 (two k z)) ∧ Below w.heap.size w W' := by
  have h1 : 1 ≤ n := by omega
  obtain ⟨i0, hi, hz0, hz1, hz2⟩ := info_parts info32
  have hu := H.val
  subst hu
  have hTl := Lib.hid (two_length k z)
  have hT := Lib.hid (upto_wd (two k z))
  rw [hTl.out] at hT
  refine callsIn_of_wp_marks Tryz.func70 rfl h3 ?_ hro
  simp only [Tryz.ntmps70, List.size_toArray, List.length_cons, List.length_nil, Nat.reduceAdd, Nat.reduceSub, Array.replicate_succ, Array.replicate_zero, List.push_toArray, List.append_toArray, List.nil_append, List.cons_append]
  gi_wp2
  have bO := Boxed.new w 22 (.slice none 0 0)
  have hB0 : Below w.heap.size w (w.alloc (.cells #[.slice none 0 0] 22)) := (Below.refl _ w).alloc (Nat.le_refl _) _
  refine wpIn_rangeFunc_ownG hro h1 (gf := 152) (lb := #[.pointer (some ⟨Bn, 0, none⟩), .pointer (some ⟨Ba, 0, none⟩)]) rfl h5 (enters_of Tryz.func152 (by kernel_rfl) rfl)
    (H.stops h5 hro (by omega) (by omega) hB0) belowK_t (belowK_b (by simp)) (Below.refl _ _) (fun _ => rfl)
    (fun (pre : List (Nat × Nat)) W => (∃ v, Boxed W w.heap.size 22 v ∧ W.ownsRow w.heap.size 60 1 v pre.length (nums .u32 (pre.map Prod.snd)) ∧ True) ∧ Below w.heap.size w W)
    (fun _ _ _ => False)
    (OwnFrom.and (Own.from (holdsRow_own w.heap.size w.heap.size 22 60 1 (fun (pre : List (Nat × Nat)) => pre.length) (fun (pre : List (Nat × Nat)) => nums .u32 (pre.map Prod.snd)) (fun _ _ => True)) _) (ownFrom_below (Nat.le_refl _) (by simp)))
    (fun _ _ _ _ _ hs _ _ => hs)
    ⟨⟨_, bO, World.ownsRow_nil _ _ _ _, trivial⟩, hB0⟩
    (fun (x : Nat × Nat) => { tmps := #[.func (.func 152) #[] #[.pointer (some ⟨Bn, 0, none⟩), .pointer (some ⟨Ba, 0, none⟩)], undef, .slice none 0 0, .pointer (some ⟨w.heap.size, 0, none⟩), undef, .int .u32 (x.2 : Nat), .func (.func 152) #[] #[.pointer (some ⟨Bn, 0, none⟩), .pointer (some ⟨Ba, 0, none⟩)], .int .i64 (x.1 : Nat), .int .u32 (x.2 : Nat), undef, undef, undef, undef, undef], defers := [] }) ?assign ?body ?done ?stop
  case assign =>
    intro l x W K hK
    gi_wp2
    exact hK
  case body =>
    rintro l pre x W ⟨⟨v, hv, hrow, -⟩, hB⟩ hlt
    have hc := hv.cell
    have hlt' : pre.length + 1 ≤ maxLen := Nat.le_trans (show pre.length + 1 ≤ 1073741824 by omega) (by decide)
    have hsz := hB.size
    gi_wp2_with (gi_at_builtin; refine wpListIn_append_own _ rfl _ _ 22 rfl w.heap.size 60 i0 (.int .u32 0) 1 4 Tryz.underlying22 hi hz0 hz1 hz2 rfl (by decide) _ _ _ rfl (hrow.alloc _) ⟨W.heap.size, 0, none⟩ 1 1 [.int .u32 (x.2 : Nat)] rfl rfl (cell_one_new _ _ _) (by simp [Value.oneCell']) (by first | exact hlt' | omega) (by omega) (by rw [World.size_alloc]; omega) ?_; intro v' w1 hown' hgrow _; obtain ⟨g', cap', rfl⟩ := ownsRow_succ hown'; obtain ⟨hv1, hv2, hr2, hk2, hb2⟩ := hv.appended (by decide) hrow hB.size (Nat.le_refl _) hown' hgrow; have hc1 := hv1.cell; have hf1 := hv1.frozen)
    exact ⟨hk2.from _, hb2, ⟨_, hv2, by simpa [nums] using hr2, trivial⟩, hB.trans hb2⟩
  case done =>
    rintro D ys W hD rfl ⟨⟨v, hv, hrow, -⟩, hB⟩ hK
    have hc := hv.cell
    rw [hT.out, upto_length] at hrow
    gi_wp2
    refine ⟨by simp, .inl ⟨_, _, rfl, run_takeDeferred hK, ?_⟩⟩
    exact ⟨_, results_tmp rfl _ _ _, v, rfl, ownsRow_putObj hrow _ hK rfl, hB.trans (belowK_b (w := w) (Nat.le_refl _) W D _ _ (by simp at hD; omega) hK rfl rfl)⟩
  case stop =>
    rintro D c pre W _ _ h _
    exact h.elim

/-- words of a complement. -/
theorem large_words (w : World) (u : Value) (k : Nat) (z : Int) (Bn Ba : Nat) (neg : Bool) (a : Option Addr) (xs : List Nat) (cap : Nat) (hk : k ≤ 1073741824) (H : Closed w u k z Bn Ba neg a xs cap) :
    Calls Tryz.prog 70 #[u] w fun e w' => ∃ a' c', e = .returned (.slice a' k c') ∧ k ≤ c' ∧ Lay .u32 w' a' (two k z) ∧ Below w.heap.size w w' := by
  refine ((callsIn_wide (n := 3)).1 (words_in Fence.wide 3 trivial trivial rfl (Nat.le_refl _) w u k z Bn Ba neg a xs cap hk H)).mono ?_
  rintro e W' ⟨v, rfl, h1, h2⟩
  obtain ⟨a', c', rfl, h3, h4, h5, _⟩ := lay_of_owns h1
  exact ⟨a', c', rfl, h3, h5, h2⟩

end Go.Proofs.YtbffpkmfhkphdaaGreatDoor
