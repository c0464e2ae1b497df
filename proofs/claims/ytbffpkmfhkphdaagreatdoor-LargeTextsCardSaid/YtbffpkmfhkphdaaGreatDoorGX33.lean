/- The walk of the reference's parts: quotient and remainder, bit by bit. The walks of the reference's Of and Neg. -/
import Derived.Test.YtbffpkmfhkphdaaGreatDoorGX32
import Derived.Test.YtbffpkmfhkphdaaGreatDoorRefOrderC
import Derived.Test.YtbffpkmfhkphdaaGreatDoorGX15
import Derived.Test.YtbffpkmfhkphdaaGreatDoorGX03
set_option linter.unusedVariables false
set_option linter.unusedSimpArgs false
namespace Go.Proofs.YtbffpkmfhkphdaaGreatDoor
open Go Go.RowKit Limb

/-- No word of it lies in block g. -/
def Off (g : Nat) (a : Option Addr) : Prop := ∀ b off, a = some ⟨b, off, none⟩ → b ≠ g
theorem Fresh.off {w : World} {a : Option Addr} {g : Nat} (h : Fresh w a) (hg : g < w.heap.size) : Off g a := fun b off e he => by have := h b off e; omega
theorem Lay.off {K : IntKind} {w : World} {a : Option Addr} {l : List Nat} {g i : Nat} (h : Lay K w a l) (ho : Off g a) (v : Value) : Lay K (w.setCell ⟨g, i, none⟩ v) a l :=
  h.only (ps := [g]) ((Only.refl [g] w).setCell (by simp) v) (fun _ b off e hm => ho b off e (by simpa using hm))

/-- Two numbers, each in its place. -/
def PartRes (w w' : World) (e : Ending) (Q R : Nat) : Prop :=
  ∃ a n c a' n' c', e = .returned (.tuple #[.slice a n c, .slice a' n' c']) ∧ n = (rep Q).length ∧ n' = (rep R).length ∧ n ≤ c ∧ n' ≤ c' ∧ Lay .u32 w' a (rep Q) ∧ Lay .u32 w' a' (rep R) ∧ Below w.heap.size w w'


set_option maxHeartbeats 3200000 in
set_option maxRecDepth 1000000 in
theorem ref_parts (w : World) (a b : Option Addr) (A B n m ca cb : Nat) (ha : Lay .u32 w a (rep A)) (hb : Lay .u32 w b (rep B)) (hn : n = (rep A).length) (hm : m = (rep B).length)
    (ln : n ≤ 1073741824) (lm : m ≤ 1073741824) (hB : 0 < B) :
    Calls Tryz.prog 90 #[.slice a n ca, .slice b m cb] w fun e w' => PartRes w w' e (A / B) (A % B) := by
  have hA : A < 2 ^ (32 * n) := by have := rep_len_hi A; rw [← hn, W_two] at this; exact this
  have HS := Lib.hid (PInv.start (n := n) hB hA)
  clear hA
  have Hn := Lib.hid hn; clear hn
  have Hm := Lib.hid hm; clear hm
  have hplus := fun W (a b : Option Addr) (xs ys : List Nat) (n m ca cb M : Nat) ha hb hx hy hn hm ln lm lM => ref_plus W a b xs ys n m ca cb M ha hb hx hy hn hm ln lm lM
  have HPl := Lib.hid hplus; clear hplus
  go_enter Tryz.func90, Tryz.ntmps90
  go_wp2_with (at_make; refine wpList_make_row rfl _ _ _ rfl 60 (.int .u32 0) 4 Tryz.underlying22 info32 rfl _ _ _ _ n n rfl rfl rfl rfl (by omega) (by omega) (by omega) ?_; intro w1 g hg1 hg2 hrow hbel)
  go_loopw [7, 8] (fun rv i wr => ∃ (k r nr cr : Nat) (ar : Option Addr) (qs : List Nat), k ≤ 32 * n ∧ rv = .slice ar nr cr ∧ i = .int .i64 ((k : Int) - 1) ∧ Hid (nr = (rep r).length) ∧ nr ≤ cr ∧ nr ≤ m ∧ Lay .u32 wr ar (rep r) ∧ Hid (Off g ar) ∧ Hid (qs.length = n) ∧ Lim qs ∧
      Row wr g 60 (nums .u32 qs) ∧ Hid (PInv A B k qs r) ∧ Below w.heap.size w wr) (fun _ i _ => (intOf i + 1).toNat)
  case atStart => exact ⟨32 * n, 0, 0, 0, none, List.replicate n 0, by omega, rfl, by go_num, Lib.hid rfl, by omega, by omega, Lay.nil _ _ _, Lib.hid (fun b off e => by cases e), Lib.hid (by simp), Lim.replicate _ (by decide), by rw [nums_replicate]; exact hrow, HS.out, hbel⟩
  case round =>
    obtain ⟨k, r, nr, cr, ar, qs, hk, rfl, rfl, Hnr, hcr, hrm, har, Hoff, Hql, hqlim, hr, HP, hbl⟩ := hrel
    clear hrow hbel HS
    by_cases h0 : k = 0
    · subst h0
      obtain ⟨e1, e2⟩ := HP.out.done
      have Hq := Lib.hid e1; clear e1
      have Hr := Lib.hid e2; clear e2
      have hl2 := hr.lay
      have hle2 := rep_val_le hqlim
      go_wp2_with (go_at_call 101; refine (ref_cut _ _ qs _ _ (by assumption) (by assumption) (by rw [Hql.out]) (by omega) (by omega)).mono ?_; rintro e w' ⟨rfl, rfl⟩)
      go_ret2
      rw [Hql.out] at hle2
      rw [← Hq.out, ← Hr.out]
      exact ⟨_, _, _, _, _, _, rfl, rfl, Hnr.out, hle2, hcr, hl2.norm hqlim, har, hbl⟩
    · obtain ⟨j, rfl⟩ : ∃ j, k = j + 1 := ⟨k - 1, by omega⟩
      have hj : ((j + 1 : Nat) : Int) - 1 = (j : Int) := by omega
      rw [hj]
      clear hj h0
      obtain ⟨d, hd⟩ : ∃ d, d = j / 32 := ⟨_, rfl⟩
      obtain ⟨s, hs⟩ : ∃ s, s = j % 32 := ⟨_, rfl⟩
      have e1 : (j : Int) / 32 = d := by omega
      have e2 : (j : Int) % 32 = s := by omega
      have d_lt : d < n := by omega
      have s_lt : s < 32 := by omega
      obtain ⟨sb1, sb2, sb3⟩ := set_bit hqlim (by rw [← hd, Hql.out]; exact d_lt) HP.out.low
      rw [← hd, ← hs] at sb1 sb2 sb3
      have eor := part_or s_lt sb1 sb2
      obtain ⟨p, hp⟩ : ∃ p, p = 2 ^ s := ⟨_, rfl⟩
      have ep : (2 : Int) ^ s = (p : Int) := by rw [hp, Int.natCast_pow]; rfl
      have epl : p < 4294967296 := by rw [← hp] at sb2; omega
      rw [← hp] at sb2 sb3 eor
      have Sb := Lib.hid sb3; clear sb3 hd hs hp sb1
      have hbB := hb.below hbl
      have haA := ha.below hbl
      go_wp2_with fail
      refine (HPl.out wr ar ar (rep r) (rep r) nr nr cr cr m har har (rep_lim _) (rep_lim _) Hnr.out Hnr.out hrm hrm (by omega)).mono ?_
      rw [val_rep]
      rintro e w2 ⟨a2, n2, c2, zs2, rfl, hn2, hc2, hm2, hl2, hv2, hla2, hb2, hf2⟩
      have Hn2 := Lib.hid hn2; clear hn2
      have Hv2 := Lib.hid hv2; clear hv2
      have hbl2 := hbl.trans (hb2.mono hbl.size)
      have hgw := hr.lt
      have hr2 := hr.below hb2 hgw
      have hgw2 := hr2.lt
      have Hoff2 := Lib.hid (hf2.off hgw)
      clear hf2
      go_wp2_with fail
      refine (ref_bit w2 a (rep A) n ca j (haA.below hb2) (rep_lim _) Hn.out (by omega) (by omega)).mono ?_
      rw [val_rep]
      rintro e w2' ⟨rfl, rfl⟩
      have hbt : A / 2 ^ j % 2 = 0 ∨ A / 2 ^ j % 2 = 1 := by omega
      obtain ⟨bt, hbtv⟩ : ∃ bt, bt = A / 2 ^ j % 2 := ⟨_, rfl⟩
      have HP' := HP.out.great (qs' := qs.set d (wd qs d + p))
      have HP'' := HP.out.small
      rw [← hbtv] at hbt HP' HP'' ⊢
      have HPg := Lib.hid HP'; clear HP'
      have HPs := Lib.hid HP''; clear HP'' HP
      clear hbtv
      rcases hbt with hbt | hbt
      · have qb : ((bt : Nat) : Int) = 0 := by omega
        subst hbt
        clear qb
        have HX2 : Hid (val zs2 = r + r + 0) := Lib.hid (by rw [Hv2.out]; rfl)
        have hcut := ref_cut w2 a2 zs2 n2 c2 hla2 hl2 Hn2.out (by omega) hc2
        have hln := hla2.norm hl2
        have hle := rep_val_le hl2
        rw [← Hn2.out] at hle
        rw [HX2.out] at hcut hln hle
        have HC := Lib.hid hcut; clear hcut
        obtain ⟨x, hx⟩ : ∃ x, x = r + r + 0 := ⟨_, rfl⟩
        rw [← hx] at HC hln hle HPg HPs
        have Hx := Lib.hid hx; clear hx HX2
        obtain ⟨nx, hnx⟩ : ∃ nx, nx = (rep x).length := ⟨_, rfl⟩
        rw [← hnx] at HC hle
        have Hnx := Lib.hid hnx; clear hnx
        go_wp2_with fail
        refine HC.out.mono ?_
        rintro e w4 ⟨rfl, rfl⟩
        go_wp2_with fail
        refine (ref_order w2 a2 b (rep x) (rep B) nx m c2 cb hln (hbB.below hb2) (rep_lim _) (rep_lim _) (rep_norm _) (rep_norm _) Hnx.out Hm.out (by omega) (by omega)).mono ?_
        rw [val_rep, val_rep]
        rintro e w5 ⟨rfl, q, rfl⟩
        by_cases hge : B ≤ x
        · have cv := order_ge hge
          obtain ⟨v, hv⟩ : ∃ v, v = cmpI x B := ⟨_, rfl⟩
          rw [← hv] at cv ⊢
          clear hv
          have hlq := hln.drewN q
          have hbq := (hbB.below hb2).drewN q
          have hrq := hr2.drewN q
          obtain ⟨V, hV⟩ : ∃ V, V = w2.drewN q := ⟨_, rfl⟩
          have hblV : Below w.heap.size w V := by rw [hV]; exact below_drewN hbl2 q
          rw [← hV] at hlq hbq hrq ⊢
          clear hV
          have hmx : m ≤ nx := by rw [Hm.out, Hnx.out]; exact rep_mono hge
          have HG := Lib.hid (HPg.out hge Sb.out)
          have hxB : (rep (x - B)).length ≤ m := by rw [Hm.out]; exact rep_mono (Nat.le_of_lt HG.out.lt)
          go_wp2_with fail
          refine (ref_less V a2 b (rep x) (rep B) nx m c2 cb hlq hbq (rep_lim _) (rep_lim _) Hnx.out Hm.out (by omega) (by rw [val_rep, val_rep]; exact hge) hmx).mono ?_
          rw [val_rep, val_rep]
          rintro e w6 ⟨a6, c6, rfl, hc6, hl6, hb6, hf6⟩
          have hr6 := hrq.below hb6 hrq.lt
          have hbl6 := hblV.trans (hb6.mono hblV.size)
          have Hoff6 := Lib.hid (hf6.off hrq.lt)
          clear hf6
          obtain ⟨n6, hn6⟩ : ∃ n6, n6 = (rep (x - B)).length := ⟨_, rfl⟩
          rw [← hn6] at hc6 hxB ⊢
          have Hn6 := Lib.hid hn6; clear hn6
          have hcell := hr6.cell (i := d) (by rw [Hql.out]; exact d_lt)
          have hfk := hr6.free d
          have ig := row_index (P := Tryz.prog) Tryz.underlying22 size32 g n n .i64 (d : Int) d rfl d_lt
          have ep1 : (1 : Int) * 2 ^ s = (p : Int) := by rw [Int.one_mul]; exact ep
          go_wp2
          go_roundw
          case rel => exact ⟨j, x - B, n6, c6, a6, qs.set d (wd qs d + p), by omega, rfl, rfl, Lib.hid Hn6.out, hc6, hxB, hl6.off Hoff6.out _, Lib.hid Hoff6.out, Lib.hid (by rw [List.length_set, Hql.out]), hqlim.set sb2, hr6.store _ _ _ rfl, Lib.hid HG.out, below_store hbl6 hg1 _⟩
          case measure => first | (simp [intOf]; done) | (simp [intOf]; omega)
        · have cv := order_lt (show x < B by omega)
          obtain ⟨v, hv⟩ : ∃ v, v = cmpI x B := ⟨_, rfl⟩
          rw [← hv] at cv ⊢
          clear hv
          have HG := Lib.hid (HPs.out (by omega))
          have hxB : nx ≤ m := by rw [Hm.out, Hnx.out]; exact rep_mono (by omega)
          go_wp2
          go_roundw
          case rel => exact ⟨j, x, nx, c2, a2, qs, by omega, rfl, rfl, Lib.hid Hnx.out, by omega, hxB, hln.drewN q, Lib.hid Hoff2.out, Lib.hid Hql.out, hqlim, hr2.drewN q, Lib.hid HG.out, below_drewN hbl2 q⟩
          case measure => first | (simp [intOf]; done) | (simp [intOf]; omega)
      · subst hbt
        have h1 := row_one w2 60 .u32 1 1 rfl
        have hbA : Below w2.heap.size w2 (w2.alloc (.cells #[.int .u32 1] 60)) := (Below.refl _ _).alloc (Nat.le_refl _) _
        go_wp2_with fail
        refine (HPl.out _ a2 _ zs2 [1] n2 1 c2 1 (m + 1) (hla2.below hbA) h1 hl2 (Lim.cons (by decide) Lim.nil) Hn2.out rfl hm2 (by omega) (by omega)).mono ?_
        rintro e w3 ⟨a3, n3, c3, zs3, rfl, hn3, hc3, hm3, hl3, hv3, hla3, hb3, hf3⟩
        have Hn3 := Lib.hid hn3; clear hn3
        have Hv3 : Hid (val zs3 = r + r + 1) := Lib.hid (by rw [hv3, Hv2.out]; rfl)
        clear hv3
        have hb23 := hbA.trans (hb3.mono hbA.size)
        have hbl3 := hbl2.trans (hb23.mono hbl2.size)
        have hr3 := hr2.below hb23 hgw2
        have hgw3 := hr3.lt
        have Hoff3 := Lib.hid (hf3.off (show g < _ by rw [World.size_alloc]; omega))
        clear hf3 h1 hbA hb3
        have HX2 : Hid (val zs3 = r + r + 1) := Lib.hid Hv3.out
        have hcut := ref_cut w3 a3 zs3 n3 c3 hla3 hl3 Hn3.out (by omega) hc3
        have hln := hla3.norm hl3
        have hle := rep_val_le hl3
        rw [← Hn3.out] at hle
        rw [HX2.out] at hcut hln hle
        have HC := Lib.hid hcut; clear hcut
        obtain ⟨x, hx⟩ : ∃ x, x = r + r + 1 := ⟨_, rfl⟩
        rw [← hx] at HC hln hle HPg HPs
        have Hx := Lib.hid hx; clear hx HX2
        obtain ⟨nx, hnx⟩ : ∃ nx, nx = (rep x).length := ⟨_, rfl⟩
        rw [← hnx] at HC hle
        have Hnx := Lib.hid hnx; clear hnx
        go_wp2_with fail
        refine HC.out.mono ?_
        rintro e w4 ⟨rfl, rfl⟩
        go_wp2_with fail
        refine (ref_order w3 a3 b (rep x) (rep B) nx m c3 cb hln (hbB.below (hb2.trans (hb23.mono hb2.size))) (rep_lim _) (rep_lim _) (rep_norm _) (rep_norm _) Hnx.out Hm.out (by omega) (by omega)).mono ?_
        rw [val_rep, val_rep]
        rintro e w5 ⟨rfl, q, rfl⟩
        by_cases hge : B ≤ x
        · have cv := order_ge hge
          obtain ⟨v, hv⟩ : ∃ v, v = cmpI x B := ⟨_, rfl⟩
          rw [← hv] at cv ⊢
          clear hv
          have hlq := hln.drewN q
          have hbq := (hbB.below (hb2.trans (hb23.mono hb2.size))).drewN q
          have hrq := hr3.drewN q
          obtain ⟨V, hV⟩ : ∃ V, V = w3.drewN q := ⟨_, rfl⟩
          have hblV : Below w.heap.size w V := by rw [hV]; exact below_drewN hbl3 q
          rw [← hV] at hlq hbq hrq ⊢
          clear hV
          have hmx : m ≤ nx := by rw [Hm.out, Hnx.out]; exact rep_mono hge
          have HG := Lib.hid (HPg.out hge Sb.out)
          have hxB : (rep (x - B)).length ≤ m := by rw [Hm.out]; exact rep_mono (Nat.le_of_lt HG.out.lt)
          go_wp2_with fail
          refine (ref_less V a3 b (rep x) (rep B) nx m c3 cb hlq hbq (rep_lim _) (rep_lim _) Hnx.out Hm.out (by omega) (by rw [val_rep, val_rep]; exact hge) hmx).mono ?_
          rw [val_rep, val_rep]
          rintro e w6 ⟨a6, c6, rfl, hc6, hl6, hb6, hf6⟩
          have hr6 := hrq.below hb6 hrq.lt
          have hbl6 := hblV.trans (hb6.mono hblV.size)
          have Hoff6 := Lib.hid (hf6.off hrq.lt)
          clear hf6
          obtain ⟨n6, hn6⟩ : ∃ n6, n6 = (rep (x - B)).length := ⟨_, rfl⟩
          rw [← hn6] at hc6 hxB ⊢
          have Hn6 := Lib.hid hn6; clear hn6
          have hcell := hr6.cell (i := d) (by rw [Hql.out]; exact d_lt)
          have hfk := hr6.free d
          have ig := row_index (P := Tryz.prog) Tryz.underlying22 size32 g n n .i64 (d : Int) d rfl d_lt
          have ep1 : (1 : Int) * 2 ^ s = (p : Int) := by rw [Int.one_mul]; exact ep
          go_wp2
          go_roundw
          case rel => exact ⟨j, x - B, n6, c6, a6, qs.set d (wd qs d + p), by omega, rfl, rfl, Lib.hid Hn6.out, hc6, hxB, hl6.off Hoff6.out _, Lib.hid Hoff6.out, Lib.hid (by rw [List.length_set, Hql.out]), hqlim.set sb2, hr6.store _ _ _ rfl, Lib.hid HG.out, below_store hbl6 hg1 _⟩
          case measure => first | (simp [intOf]; done) | (simp [intOf]; omega)
        · have cv := order_lt (show x < B by omega)
          obtain ⟨v, hv⟩ : ∃ v, v = cmpI x B := ⟨_, rfl⟩
          rw [← hv] at cv ⊢
          clear hv
          have HG := Lib.hid (HPs.out (by omega))
          have hxB : nx ≤ m := by rw [Hm.out, Hnx.out]; exact rep_mono (by omega)
          go_wp2
          go_roundw
          case rel => exact ⟨j, x, nx, c3, a3, qs, by omega, rfl, rfl, Lib.hid Hnx.out, by omega, hxB, hln.drewN q, Lib.hid Hoff3.out, Lib.hid Hql.out, hqlim, hr3.drewN q, Lib.hid HG.out, below_drewN hbl3 q⟩
          case measure => first | (simp [intOf]; done) | (simp [intOf]; omega)

end Go.Proofs.YtbffpkmfhkphdaaGreatDoor

namespace Go.Proofs.YtbffpkmfhkphdaaGreatDoor
open Go Go.RowKit Limb

theorem row_two (w : World) (t : TypeId) (K : IntKind) (a b : Nat) : Lay K (w.alloc (.cells #[.int K (a : Int), .int K (b : Int)] t)) (some ⟨w.heap.size, 0, none⟩) [a, b] := by
  have h : Row (w.alloc (.cells #[.int K (a : Int), .int K (b : Int)] t)) w.heap.size t (nums K [a, b]) := by unfold Row; exact heap_alloc_new _ _
  exact h.lay
theorem val_two (lo hi : Nat) : val [lo, hi] = lo + 4294967296 * hi := by simp [val]

set_option maxHeartbeats 800000 in
set_option maxRecDepth 100000 in
theorem ref_of (w : World) (v : Int) (h1 : -9223372036854775808 ≤ v) (h2 : v ≤ 9223372036854775807) :
    Calls Tryz.prog 23 #[.int .i64 v] w fun e w' => ∃ u, e = .returned u ∧ ApiV w' u v ∧ Below w.heap.size w w' := by
  obtain ⟨n, hn⟩ : ∃ n : Nat, n = v.natAbs := ⟨_, rfl⟩
  obtain ⟨lo, hlo⟩ : ∃ lo : Nat, lo = n % 4294967296 := ⟨_, rfl⟩
  obtain ⟨hi, hhi⟩ : ∃ hi : Nat, hi = n / 4294967296 := ⟨_, rfl⟩
  have elo : (n : Int) % 4294967296 = (lo : Int) := by omega
  have ehi : (n : Int) / 4294967296 = (hi : Int) := by omega
  have llo : lo < 4294967296 := by omega
  have lhi : hi < 4294967296 := by omega
  have ev : val [lo, hi] = v.natAbs := by rw [val_two]; omega
  have hlim : Lim [lo, hi] := Lim.cons llo (Lim.cons lhi Lim.nil)
  obtain ⟨W, hWe⟩ : ∃ W, W = (w.alloc (.cells #[.bool false, .slice none 0 0] 24)).alloc (.cells #[.int .u32 (lo : Int), .int .u32 (hi : Int)] 60) := ⟨_, rfl⟩
  have hW : Below w.heap.size w W := by rw [hWe]; exact ((Below.refl _ _).alloc (Nat.le_refl _) _).alloc (by rw [World.size_alloc]; omega) _
  have r0 : Row W w.heap.size 24 [.bool false, .slice none 0 0] := by rw [hWe]; apply Row.alloc; unfold Row; exact heap_alloc_new _ _
  have hl : Lay .u32 W (some ⟨w.heap.size + 1, 0, none⟩) [lo, hi] := by
    have := row_two (w.alloc (.cells #[.bool false, .slice none 0 0] 24)) 60 .u32 lo hi
    rw [World.size_alloc] at this; rw [hWe]; exact this
  have HWe := Lib.hid hWe; clear hWe
  have hM := fun (neg : Bool) hs => ref_made W neg (some ⟨w.heap.size + 1, 0, none⟩) [lo, hi] 2 2 v hl hlim rfl (by decide) (by decide) ev hs
  have HM := Lib.hid hM; clear hM
  clear hlo hhi ev hlim hl
  have fin : ∀ w1 u, ApiV w1 u v → Below W.heap.size W w1 → ∃ a c, u = .agg #[.bool (decide (v < 0)), .slice a (rep v.natAbs).length c] ∧
      w1.cell? ⟨w.heap.size, 0, none⟩ = some (.bool false) ∧ w1.cell? ⟨w.heap.size, 1, none⟩ = some (.slice none 0 0) ∧ w1.frozen? ⟨w.heap.size, 0, none⟩ = false ∧ w1.frozen? ⟨w.heap.size, 1, none⟩ = false ∧
      (w1.setCell ⟨w.heap.size, 0, none⟩ (.bool (decide (v < 0)))).cell? ⟨w.heap.size, 0, none⟩ = some (.bool (decide (v < 0))) ∧
      ((w1.setCell ⟨w.heap.size, 0, none⟩ (.bool (decide (v < 0)))).setCell ⟨w.heap.size, 1, none⟩ (.slice a (rep v.natAbs).length c)).cell? ⟨w.heap.size, 1, none⟩ = some (.slice a (rep v.natAbs).length c) ∧
      Hid (ApiV ((w1.setCell ⟨w.heap.size, 0, none⟩ (.bool (decide (v < 0)))).setCell ⟨w.heap.size, 1, none⟩ (.slice a (rep v.natAbs).length c)) (.agg #[.bool (decide (v < 0)), .slice a (rep v.natAbs).length c]) v ∧
        Below w.heap.size w ((w1.setCell ⟨w.heap.size, 0, none⟩ (.bool (decide (v < 0)))).setCell ⟨w.heap.size, 1, none⟩ (.slice a (rep v.natAbs).length c))) := by
    rintro w1 u ⟨a, c, rfl, hc, hl⟩ hb
    have r1 := r0.below hb r0.lt
    refine ⟨a, c, rfl, r1.cell_at 0, r1.cell_at 1, r1.free 0, r1.free 1, (r1.store_any 0 _).cell_at 0, ((r1.store_any 0 _).store_any 1 _).cell_at 1, Lib.hid ⟨⟨a, c, rfl, hc, hl.pair r1 _ _⟩, ?_⟩⟩
    exact below_store (below_store (hW.trans (hb.mono hW.size)) (Nat.le_refl _) _) (Nat.le_refl _) _
  have FIN := Lib.hid fin; clear fin
  by_cases hv : v < 0
  · have hd : decide (v < 0) = true := by simpa using hv
    have hw : IntKind.u64.wrap (-(IntKind.u64.wrap v)) = n := by rw [show v = -(n : Int) from by omega]; exact u64_neg (by omega)
    have HM1 := Lib.hid (HM.out true ⟨fun _ => by omega, fun h => by cases h⟩)
    clear hn
    go_enter Tryz.func23, Tryz.ntmps23
    go_wp2_with fail
    rw [← HWe.out]
    refine HM1.out.mono ?_
    rintro e w1 ⟨u, rfl, hu, hb⟩
    obtain ⟨a, c, rfl, k0, k1, k2, k3, e0, e1, hf⟩ := FIN.out w1 u hu hb
    rw [hd] at e0 e1 hf ⊢
    go_wp2_with fail
    (try simp only [Exit.inBlock, Exit.then])
    refine bodyPost_ret (v := .agg #[.bool true, .slice a (rep v.natAbs).length c]) (by simp [results, Tryz.results23, go_sem, e0, e1]) rfl ?_
    exact ⟨_, rfl, hf.out⟩
  · have hd : decide (v < 0) = false := by simpa using hv
    have hw : IntKind.u64.wrap v = n := by rw [show v = (n : Int) from by omega]; exact u64_nat (by omega)
    have HM1 := Lib.hid (HM.out false ⟨fun h => (by cases h), fun _ => by omega⟩)
    clear hn
    go_enter Tryz.func23, Tryz.ntmps23
    go_wp2_with fail
    rw [← HWe.out]
    refine HM1.out.mono ?_
    rintro e w1 ⟨u, rfl, hu, hb⟩
    obtain ⟨a, c, rfl, k0, k1, k2, k3, e0, e1, hf⟩ := FIN.out w1 u hu hb
    rw [hd] at e0 e1 hf ⊢
    go_wp2_with fail
    (try simp only [Exit.inBlock, Exit.then])
    refine bodyPost_ret (v := .agg #[.bool false, .slice a (rep v.natAbs).length c]) (by simp [results, Tryz.results23, go_sem, e0, e1]) rfl ?_
    exact ⟨_, rfl, hf.out⟩

/-- What follows a call that makes an integer, where it is stored into the result's cells g: the facts that the walk asks. -/
theorem api_store {w W w1 : World} {g : Nat} {u : Value} {z : Int} (r0 : Row W g 24 [.bool false, .slice none 0 0]) (hW : Below w.heap.size w W) (hg : w.heap.size ≤ g) (hu : ApiV w1 u z) (hb : Below W.heap.size W w1) :
    ∃ a c, u = .agg #[.bool (decide (z < 0)), .slice a (rep z.natAbs).length c] ∧
      w1.cell? ⟨g, 0, none⟩ = some (.bool false) ∧ w1.cell? ⟨g, 1, none⟩ = some (.slice none 0 0) ∧ w1.frozen? ⟨g, 0, none⟩ = false ∧ w1.frozen? ⟨g, 1, none⟩ = false ∧
      (w1.setCell ⟨g, 0, none⟩ (.bool (decide (z < 0)))).cell? ⟨g, 0, none⟩ = some (.bool (decide (z < 0))) ∧
      ((w1.setCell ⟨g, 0, none⟩ (.bool (decide (z < 0)))).setCell ⟨g, 1, none⟩ (.slice a (rep z.natAbs).length c)).cell? ⟨g, 1, none⟩ = some (.slice a (rep z.natAbs).length c) ∧
      Hid (ApiV ((w1.setCell ⟨g, 0, none⟩ (.bool (decide (z < 0)))).setCell ⟨g, 1, none⟩ (.slice a (rep z.natAbs).length c)) (.agg #[.bool (decide (z < 0)), .slice a (rep z.natAbs).length c]) z ∧
        Below w.heap.size w ((w1.setCell ⟨g, 0, none⟩ (.bool (decide (z < 0)))).setCell ⟨g, 1, none⟩ (.slice a (rep z.natAbs).length c))) := by
  obtain ⟨a, c, rfl, hc, hl⟩ := hu
  have r1 := r0.below hb r0.lt
  refine ⟨a, c, rfl, r1.cell_at 0, r1.cell_at 1, r1.free 0, r1.free 1, (r1.store_any 0 _).cell_at 0, ((r1.store_any 0 _).store_any 1 _).cell_at 1, Lib.hid ⟨⟨a, c, rfl, hc, hl.pair r1 _ _⟩, ?_⟩⟩
  exact below_store (below_store (hW.trans (hb.mono hW.size)) hg _) hg _

theorem ApiV.below {w w' : World} {u : Value} {z : Int} (h : ApiV w u z) (hb : Below w.heap.size w w') : ApiV w' u z := by
  obtain ⟨a, c, h1, h2, h3⟩ := h; exact ⟨a, c, h1, h2, h3.below hb⟩

set_option maxRecDepth 100000 in
theorem ref_neg (w : World) (v : Value) (z : Int) (hv : ApiV w v z) (hz : (rep z.natAbs).length ≤ 9223372036854775807) :
    Calls Tryz.prog 239 #[v] w fun e w' => ∃ u, e = .returned u ∧ ApiV w' u (-z) ∧ Below w.heap.size w w' := by
  obtain ⟨a, c, rfl, hc, hl⟩ := hv
  obtain ⟨W, hWe, r0, r1, hW, hsz⟩ := rows2 w 24 (.bool (decide (z < 0))) (.slice a (rep z.natAbs).length c) (.bool false) (.slice none 0 0)
  have HWe := Lib.hid hWe; clear hWe
  have hM := ref_made W (!decide (z < 0)) a (rep z.natAbs) (rep z.natAbs).length c (-z) (hl.below hW) (rep_lim _) rfl hz hc (by rw [val_rep]; omega) ⟨fun h => (by simp at h; omega), fun h => (by simp at h; omega)⟩
  obtain ⟨y, hy⟩ : ∃ y, y = -z := ⟨_, rfl⟩
  rw [← hy] at hM ⊢
  have HM := Lib.hid hM; clear hM
  have k0 := r0.cell_at 0
  have k1 := r0.cell_at 1
  simp only [List.getElem?_cons_zero, List.getElem?_cons_succ] at k0 k1
  obtain ⟨s, hs⟩ : ∃ s, s = decide (z < 0) := ⟨_, rfl⟩
  rw [← hs] at HM HWe k0 ⊢
  clear hs hl hy
  go_enter Tryz.func239, Tryz.ntmps239
  go_wp2_with fail
  rw [← HWe.out]
  refine HM.out.mono ?_
  rintro e w1 ⟨u, rfl, hu, hb⟩
  obtain ⟨a', c', rfl, q0, q1, q2, q3, e0, e1, hf⟩ := api_store r1 hW (by omega) hu hb
  go_wp2_with fail
  (try simp only [Exit.inBlock, Exit.then])
  refine bodyPost_ret (v := .agg #[.bool (decide (y < 0)), .slice a' (rep y.natAbs).length c']) (by simp [results, Tryz.results239, go_sem, e0, e1]) rfl ?_
  exact ⟨_, rfl, hf.out⟩

end Go.Proofs.YtbffpkmfhkphdaaGreatDoor
