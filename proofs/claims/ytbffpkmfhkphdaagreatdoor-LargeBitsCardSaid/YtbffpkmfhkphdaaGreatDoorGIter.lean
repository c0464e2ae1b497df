/- complement and words of package large: a range over a function. words of package large: a range over a function, collected. -/
import Derived.RangeFuncBox
import Derived.RangeFuncLeaves
import Derived.Shelf.Abstract
import Derived.WalkKit
import Derived.OwnWalkIn
import Derived.TacticsInMore
import Derived.LoopNIn
import Derived.LoopIn
import Derived.Maps.AppendAt
import Derived.Test.YtbffpkmfhkphdaaGreatDoorGPlain
import Derived.Test.YtbffpkmfhkphdaaGreatDoorGNat
namespace Go.Proofs.YtbffpkmfhkphdaaGreatDoor
open Go Go.RowKit Go.Shelf Limb

attribute [local go_sem] Oper.semAt_some

/-- A complement's closure: so many words, of which number. -/
structure Closed (w : World) (u : Value) (n : Nat) (z : Int) (Bn Ba : Nat) (neg : Bool) (a : Option Addr) (xs : List Nat) (cap : Nat) : Prop where
  val : u = .func (.func 152) #[] #[.pointer (some ⟨Bn, 0, none⟩), .pointer (some ⟨Ba, 0, none⟩)]
  rn : Row w Bn 3 [.int .i64 n]
  ra : Row w Ba 24 [.bool neg, .slice a xs.length cap]
  lay : Lay .u32 w a xs
  lim : Lim xs
  len : xs.length ≤ n
  num : z = if neg then -(Limb.val xs : Int) else (Limb.val xs : Int)
  pos : neg = true → 0 < Limb.val xs

theorem Closed.below {w w' : World} {u : Value} {n : Nat} {z : Int} {Bn Ba : Nat} {neg : Bool} {a : Option Addr} {xs : List Nat} {cap : Nat} (h : Closed w u n z Bn Ba neg a xs cap) (hb : Below w.heap.size w w') : Closed w' u n z Bn Ba neg a xs cap :=
  ⟨h.val, h.rn.below hb h.rn.lt, h.ra.below hb h.ra.lt, h.lay.below hb, h.lim, h.len, h.num, h.pos⟩

set_option maxRecDepth 100000 in
set_option maxHeartbeats 1000000 in
theorem large_complement (w : World) (neg : Bool) (a : Option Addr) (xs : List Nat) (m cap n : Nat) (hlay : Lay .u32 w a xs) (hlim : Lim xs) (hm : m = xs.length) (hn : m ≤ n) (hp : neg = true → 0 < val xs) (z : Int) (hz : z = if neg then -(val xs : Int) else (val xs : Int)) :
    Calls Tryz.prog 71 #[.agg #[.bool neg, .slice a m cap], .int .i64 n] w fun e w' => ∃ u, e = .returned u ∧ (∃ Bn Ba, Closed w' u n z Bn Ba neg a xs cap) ∧ Below w.heap.size w w' := by
  subst hm
  have hb1 : Below w.heap.size w (w.alloc (.cells #[.bool neg, .slice a xs.length cap] 24)) := (Below.refl _ _).alloc (Nat.le_refl _) _
  have hb2 : Below w.heap.size w ((w.alloc (.cells #[.bool neg, .slice a xs.length cap] 24)).alloc (.cells #[.int .i64 n] 3)) := hb1.alloc (by rw [World.size_alloc]; omega) _
  have ra : Row ((w.alloc (.cells #[.bool neg, .slice a xs.length cap] 24)).alloc (.cells #[.int .i64 n] 3)) w.heap.size 24 [.bool neg, .slice a xs.length cap] := by
    apply Row.alloc; unfold Row; exact heap_alloc_new _ _
  have rn : Row ((w.alloc (.cells #[.bool neg, .slice a xs.length cap] 24)).alloc (.cells #[.int .i64 n] 3)) (w.heap.size + 1) 3 [.int .i64 n] := by
    have h := heap_alloc_new (w.alloc (.cells #[.bool neg, .slice a xs.length cap] 24)) (.cells #[.int .i64 n] 3)
    rw [World.size_alloc] at h; exact h
  have hfin := Lib.hid (show (∃ Bn Ba, Closed _ (.func (.func 152) #[] #[.pointer (some ⟨w.heap.size + 1, 0, none⟩), .pointer (some ⟨w.heap.size, 0, none⟩)]) n z Bn Ba neg a xs cap) ∧ _ from ⟨⟨_, _, ⟨rfl, rn, ra, hlay.below hb2, hlim, hn, hz, hp⟩⟩, hb2⟩)
  clear ra rn hb1 hb2 hz hp
  go_enter Tryz.func71, Tryz.ntmps71
  go_wp2
  go_ret
  exact ⟨_, rfl, hfin.out⟩

set_option maxRecDepth 100000 in
set_option maxHeartbeats 2000000 in
theorem comp_in (F : Fence) (n : Nat) (h5 : F.fn 152) (hro : F.round = none) (hn : 1 ≤ n) (l k : Nat) (z : Int) (u : Value) (w0 : World) (Bn Ba : Nat) (neg : Bool) (a : Option Addr) (xs : List Nat) (cap : Nat) (hk : k ≤ 1099511627776) (H : Closed w0 u k z Bn Ba neg a xs cap) (J Jx : List (Nat × Nat) → World → Prop)
    (hY : ∀ pre x W, J pre W → pre.length < k → YieldAt F (n - 1) Tryz.prog l #[.int .i64 (x.1 : Nat), .int .u32 (x.2 : Nat)] W fun e W' =>
      (e = .returned (.bool true) ∧ J (pre ++ [x]) W' ∧ Below w0.heap.size W W') ∨ (e = .returned (.bool false) ∧ Jx (pre ++ [x]) W'))
    (W : World) (hW : Below w0.heap.size w0 W) (h0 : J [] W) :
    CallsIn F n Tryz.prog 152 #[.func (.yield l) #[] #[], .pointer (some ⟨Bn, 0, none⟩), .pointer (some ⟨Ba, 0, none⟩)] W fun e W' => (∃ v, e = .returned v) ∧
      ((∃ ys, ys = upto (fun j => (j, wd (two k z) j)) k ∧ J ys W') ∨ (∃ pre, (∃ j, j ≤ k ∧ pre = upto (fun j => (j, wd (two k z) j)) j) ∧ Jx pre W')) := by
  obtain ⟨b1, off1, hix, hcx, _⟩ := H.lay.use 22 60 Tryz.underlying22 size32 cap
  obtain ⟨m, hm⟩ : ∃ m, m = xs.length := ⟨_, rfl⟩
  have hrn := fun X (h : Below w0.heap.size w0 X) => (H.rn.below h H.rn.lt).cell_at 0
  have hra := fun X (h : Below w0.heap.size w0 X) => (H.ra.below h H.ra.lt).cell_at 0
  have hra1 := fun X (h : Below w0.heap.size w0 X) => (H.ra.below h H.ra.lt).cell_at 1
  simp only [List.getElem?_cons_zero, List.getElem?_cons_succ] at hrn hra hra1
  have hz := H.num
  have hlen := H.len
  rw [← hm] at hix hcx hra1 hlen
  have hlim := H.lim
  have Hm := Lib.hid hm
  have Hlen := Lib.hid hlen
  have HIX := Lib.hid hix
  have HCX := Lib.hid hcx
  have HRN := Lib.hid hrn
  have HRA := Lib.hid hra
  have HRA1 := Lib.hid hra1
  have c0 := HRN.out W hW
  have Hlim := Lib.hid hlim
  have HY := Lib.hid hY
  clear hix hcx hm hrn hra hra1 H hlim hlen hY
  obtain ⟨T, hT⟩ : ∃ T, T = two k z := ⟨_, rfl⟩
  have hTl := Lib.hid (two_length k z)
  have hTm := Lib.hid (two_lim k z)
  rw [← hT] at hTl hTm ⊢
  cases neg with
  | true =>
    rw [if_pos rfl] at hz
    subst hz
    have hst : Hid (val (T.take 0) + 1 * Limb.W 0 + val (xs.take 0) = Limb.W 0) := Lib.hid (by simp [val, W_zero])
    have HT := Lib.hid hT
    clear hT
    refine callsIn_of_wp Tryz.func152 rfl h5 ?_ hro
    simp only [Tryz.ntmps152, List.size_toArray, List.length_cons, List.length_nil, Nat.reduceAdd, Nat.reduceSub, Array.replicate_succ, Array.replicate_zero, List.push_toArray, List.append_toArray, List.nil_append, List.cons_append]
    gi_wp2
    gi_loopw [4, 9] (fun cv i wr => ∃ j c : Nat, j ≤ k ∧ c ≤ 1 ∧ cv = .int .u64 c ∧ i = .int .i64 j ∧ J (upto (fun j => (j, wd T j)) j) wr ∧ Below w0.heap.size w0 wr ∧ Hid (val (T.take j) + c * Limb.W j + val (xs.take j) = Limb.W j))
      (fun _ i _ => k - (intOf i).toNat)
    case atStart => exact ⟨0, 1, Nat.zero_le _, by omega, rfl, rfl, h0, hW, hst⟩
    case round =>
      obtain ⟨j, c, hj, hc, rfl, rfl, hJ, hB, Hv⟩ := hrel
      clear hst
      by_cases hlt : j < k
      · have c1 := HRA.out wr hB
        have c2 := HRA1.out wr hB
        have dg := comp_digit Hlim.out hlt (by rw [← HT.out]; exact Hv.out)
        rw [← HT.out] at dg
        obtain ⟨x, hx⟩ : ∃ x, x = wd xs j := ⟨_, rfl⟩
        have hxl : x < 4294967296 := by rw [hx]; exact Hlim.out.wd j
        rw [← hx] at dg
        obtain ⟨t, ht⟩ : ∃ t, t = 4294967295 - x + c := ⟨_, rfl⟩
        rw [← ht] at dg
        obtain ⟨d, hd⟩ : ∃ d, d = wd T j := ⟨_, rfl⟩
        rw [← hd] at dg
        obtain ⟨c', hc'⟩ : ∃ c', c' = t / 4294967296 := ⟨_, rfl⟩
        rw [← hc'] at dg
        have e1 : (t : Int) % 4294967296 = (d : Int) := by omega
        have e2 : (t : Int) / 4294967296 = (c' : Int) := by omega
        have e3 := u32_inv hxl
        obtain ⟨y, hy0⟩ : ∃ y, y = 4294967295 - x := ⟨_, rfl⟩
        rw [← hy0] at e3 ht
        have hyl : y < 4294967296 := by omega
        have e4 : IntKind.u64.wrap (y : Int) = (y : Int) := by rw [IntKind.wrap_u64]; omega
        have e5 : IntKind.u64.wrap ((y : Int) + (c : Int)) = (t : Int) := by rw [IntKind.wrap_u64]; omega
        have hc1 : c' ≤ 1 := by omega
        have Hy0 := Lib.hid hy0
        have Hd2 := Lib.hid dg.2
        have Hx := Lib.hid hx
        have Hd := Lib.hid hd
        clear dg hx hd ht hc' hy0 hyl
        obtain ⟨fn, tmps, assign, body, hy, hR⟩ := HY.out _ (j, d) wr hJ (by rw [upto_length]; exact hlt)
        dsimp only at hy
        by_cases hm : j < m
        · have ix := HIX.out wr .i64 j (by omega) (by omega)
          rw [Int.toNat_natCast] at ix
          have cx := HCX.out wr hB j hm
          rw [← Hx.out] at cx
          gi_wp2
          refine hR.mono ?_
          rintro e W3 (⟨rfl, hJ3, hk3⟩ | ⟨rfl, hJx3⟩)
          · gi_wp2
            go_roundw
            case rel => exact ⟨j + 1, c', by omega, hc1, rfl, by go_num, by rw [upto_succ, ← Hd.out]; exact hJ3, hB.trans hk3, Hd2⟩
            case measure => simp [intOf]; omega
          · gi_wp2
            refine bodyPost_ret (results_none rfl _ _ _) rfl ?_
            exact ⟨⟨_, rfl⟩, .inr ⟨_, ⟨j + 1, by omega, rfl⟩, by rw [upto_succ, ← Hd.out]; exact hJx3⟩⟩
        · have hx0 : x = 0 := by rw [Hx.out]; exact wd_ge (by rw [← Hm.out]; omega)
          rw [hx0] at e3
          have e3 : bits .xor .u32 IntKind.u32.max 0 = (y : Int) := e3
          clear hx0
          gi_wp2
          refine hR.mono ?_
          rintro e W3 (⟨rfl, hJ3, hk3⟩ | ⟨rfl, hJx3⟩)
          · gi_wp2
            go_roundw
            case rel => exact ⟨j + 1, c', by omega, hc1, rfl, by go_num, by rw [upto_succ, ← Hd.out]; exact hJ3, hB.trans hk3, Hd2⟩
            case measure => simp [intOf]; omega
          · gi_wp2
            refine bodyPost_ret (results_none rfl _ _ _) rfl ?_
            exact ⟨⟨_, rfl⟩, .inr ⟨_, ⟨j + 1, by omega, rfl⟩, by rw [upto_succ, ← Hd.out]; exact hJx3⟩⟩
      · obtain rfl : j = k := by omega
        gi_wp2
        go_end0
        exact ⟨⟨_, rfl⟩, .inl ⟨_, rfl, hJ⟩⟩
  | false =>
    rw [if_neg (by decide)] at hz
    subst hz
    have hwd : ∀ j, wd T j = wd xs j := fun j => by rw [hT, comp_end Hlim.out (by rw [← Hm.out]; exact Hlen.out), wd_pad]
    have HWD := Lib.hid hwd
    have HT := Lib.hid hT
    clear hT hwd
    refine callsIn_of_wp Tryz.func152 rfl h5 ?_ hro
    simp only [Tryz.ntmps152, List.size_toArray, List.length_cons, List.length_nil, Nat.reduceAdd, Nat.reduceSub, Array.replicate_succ, Array.replicate_zero, List.push_toArray, List.append_toArray, List.nil_append, List.cons_append]
    gi_wp2
    gi_loopw [9] (fun i wr => ∃ j : Nat, j ≤ k ∧ i = .int .i64 j ∧ J (upto (fun j => (j, wd T j)) j) wr ∧ Below w0.heap.size w0 wr)
      (fun i _ => k - (intOf i).toNat)
    case atStart => exact ⟨0, Nat.zero_le _, rfl, h0, hW⟩
    case round =>
      obtain ⟨j, hj, rfl, hJ, hB⟩ := hrel
      by_cases hlt : j < k
      · have c1 := HRA.out wr hB
        have c2 := HRA1.out wr hB
        obtain ⟨d, hd⟩ : ∃ d, d = wd T j := ⟨_, rfl⟩
        have Hd := Lib.hid hd
        have Hx := Lib.hid (hd.trans (HWD.out j))
        clear hd
        obtain ⟨fn, tmps, assign, body, hy, hR⟩ := HY.out _ (j, d) wr hJ (by rw [upto_length]; exact hlt)
        dsimp only at hy
        by_cases hm : j < m
        · have ix := HIX.out wr .i64 j (by omega) (by omega)
          rw [Int.toNat_natCast] at ix
          have cx := HCX.out wr hB j hm
          rw [← Hx.out] at cx
          gi_wp2
          refine hR.mono ?_
          rintro e W3 (⟨rfl, hJ3, hk3⟩ | ⟨rfl, hJx3⟩)
          · gi_wp2
            go_roundw
            case rel => exact ⟨j + 1, by omega, by go_num, by rw [upto_succ, ← Hd.out]; exact hJ3, hB.trans hk3⟩
            case measure => simp [intOf]; omega
          · gi_wp2
            refine bodyPost_ret (results_none rfl _ _ _) rfl ?_
            exact ⟨⟨_, rfl⟩, .inr ⟨_, ⟨j + 1, by omega, rfl⟩, by rw [upto_succ, ← Hd.out]; exact hJx3⟩⟩
        · have hx0 : d = 0 := by rw [Hx.out]; exact wd_ge (by rw [← Hm.out]; omega)
          rw [hx0] at hy
          have hy : _ := hy
          dsimp only [Int.natCast_zero] at hy
          gi_wp2
          refine hR.mono ?_
          rintro e W3 (⟨rfl, hJ3, hk3⟩ | ⟨rfl, hJx3⟩)
          · gi_wp2
            go_roundw
            case rel => exact ⟨j + 1, by omega, by go_num, by rw [upto_succ, ← Hd.out]; exact hJ3, hB.trans hk3⟩
            case measure => simp [intOf]; omega
          · gi_wp2
            refine bodyPost_ret (results_none rfl _ _ _) rfl ?_
            exact ⟨⟨_, rfl⟩, .inr ⟨_, ⟨j + 1, by omega, rfl⟩, by rw [upto_succ, ← Hd.out]; exact hJx3⟩⟩
      · obtain rfl : j = k := by omega
        gi_wp2
        go_end0
        exact ⟨⟨_, rfl⟩, .inl ⟨_, rfl, hJ⟩⟩

end Go.Proofs.YtbffpkmfhkphdaaGreatDoor

namespace Go.Proofs.YtbffpkmfhkphdaaGreatDoor
open Go Go.RowKit Go.Shelf Limb

attribute [local go_sem] Oper.semAt_some

theorem Closed.stops {F : Fence} {n : Nat} (h5 : F.fn 152) (hro : F.round = none) (hn : 1 ≤ n) {w0 w : World} {u : Value} {k : Nat} {z : Int} {Bn Ba : Nat} {neg : Bool} {a : Option Addr} {xs : List Nat} {cap : Nat} (H : Closed w0 u k z Bn Ba neg a xs cap) (hk : k ≤ 1099511627776) (hb : Below w0.heap.size w0 w) :
    SeqStopsK F n Tryz.prog 152 #[.pointer (some ⟨Bn, 0, none⟩), .pointer (some ⟨Ba, 0, none⟩)] (fun x : Nat × Nat => #[Value.int .i64 (x.1 : Nat), Value.int .u32 (x.2 : Nat)]) (Below w0.heap.size) (fun ys => ys = upto (fun j => (j, wd (two k z) j)) k)
      (fun pre => ∃ j, j ≤ k ∧ pre = upto (fun j => (j, wd (two k z) j)) j) k w := fun l J Jx W hW _ _ hY h0 =>
  comp_in F n h5 hro hn l k z u w0 Bn Ba neg a xs cap hk H J Jx hY W (hb.trans (hW.mono hb.size)) h0

set_option maxRecDepth 100000 in
set_option maxHeartbeats 2000000 in
theorem words_in (F : Fence) (n : Nat) (h3 : F.fn 70) (h5 : F.fn 152) (hro : F.round = none) (hn : 3 ≤ n) (w : World) (u : Value) (k : Nat) (z : Int) (Bn Ba : Nat) (neg : Bool) (a : Option Addr) (xs : List Nat) (cap : Nat) (hk : k ≤ 1073741824) (H : Closed w u k z Bn Ba neg a xs cap) :
    CallsIn F n Tryz.prog 70 #[u] w fun e W' => ∃ v, e = .returned v ∧ W'.ownsRow w.heap.size 60 1 v k (nums .u32 (two k z)) ∧ Below w.heap.size w W' := by
  have h1 : 1 ≤ n := by omega
  obtain ⟨i0, hi, hz0, hz1, hz2⟩ := info_parts info32
  have hu := H.val
  subst hu
  have hTl := Lib.hid (two_length k z)
  have hT := Lib.hid (upto_wd (two k z))
  rw [hTl.out] at hT
  refine callsIn_of_wp_marks Tryz.func70 rfl h3 ?_ hro
  simp only [Tryz.ntmps70, List.size_toArray, List.length_cons, List.length_nil, Nat.reduceAdd, Nat.reduceSub, Array.replicate_succ, Array.replicate_zero, List.push_toArray, List.append_toArray, List.nil_append, List.cons_append]
  gi_wp2
  have bO := Boxed.new w 22 (.slice none 0 0)
  have hB0 : Below w.heap.size w (w.alloc (.cells #[.slice none 0 0] 22)) := (Below.refl _ w).alloc (Nat.le_refl _) _
  refine wpIn_rangeFunc_ownG hro h1 (gf := 152) (lb := #[.pointer (some ⟨Bn, 0, none⟩), .pointer (some ⟨Ba, 0, none⟩)]) rfl h5 (enters_of Tryz.func152 (by kernel_rfl) rfl)
    (H.stops h5 hro (by omega) (by omega) hB0) belowK_t (belowK_b (by simp)) (Below.refl _ _) (fun _ => rfl)
    (fun (pre : List (Nat × Nat)) W => (∃ v, Boxed W w.heap.size 22 v ∧ W.ownsRow w.heap.size 60 1 v pre.length (nums .u32 (pre.map Prod.snd)) ∧ True) ∧ Below w.heap.size w W)
    (fun _ _ _ => False)
    (OwnFrom.and (Own.from (holdsRow_own w.heap.size w.heap.size 22 60 1 (fun (pre : List (Nat × Nat)) => pre.length) (fun (pre : List (Nat × Nat)) => nums .u32 (pre.map Prod.snd)) (fun _ _ => True)) _) (ownFrom_below (Nat.le_refl _) (by simp)))
    (fun _ _ _ _ _ hs _ _ => hs)
    ⟨⟨_, bO, World.ownsRow_nil _ _ _ _, trivial⟩, hB0⟩
    (fun (x : Nat × Nat) => { tmps := #[.func (.func 152) #[] #[.pointer (some ⟨Bn, 0, none⟩), .pointer (some ⟨Ba, 0, none⟩)], undef, .slice none 0 0, .pointer (some ⟨w.heap.size, 0, none⟩), undef, .int .u32 (x.2 : Nat), .func (.func 152) #[] #[.pointer (some ⟨Bn, 0, none⟩), .pointer (some ⟨Ba, 0, none⟩)], .int .i64 (x.1 : Nat), .int .u32 (x.2 : Nat), undef, undef, undef, undef, undef], defers := [] }) ?assign ?body ?done ?stop
  case assign =>
    intro l x W K hK
    gi_wp2
    exact hK
  case body =>
    rintro l pre x W ⟨⟨v, hv, hrow, -⟩, hB⟩ hlt
    have hc := hv.cell
    have hlt' : pre.length + 1 ≤ maxLen := Nat.le_trans (show pre.length + 1 ≤ 1073741824 by omega) (by decide)
    have hsz := hB.size
    gi_wp2_with (gi_at_builtin; refine wpListIn_append_own _ rfl _ _ 22 rfl w.heap.size 60 i0 (.int .u32 0) 1 4 Tryz.underlying22 hi hz0 hz1 hz2 rfl (by decide) _ _ _ rfl (hrow.alloc _) ⟨W.heap.size, 0, none⟩ 1 1 [.int .u32 (x.2 : Nat)] rfl rfl (cell_one_new _ _ _) (by simp [Value.oneCell']) (by first | exact hlt' | omega) (by omega) (by rw [World.size_alloc]; omega) ?_; intro v' w1 hown' hgrow _; obtain ⟨g', cap', rfl⟩ := ownsRow_succ hown'; obtain ⟨hv1, hv2, hr2, hk2, hb2⟩ := hv.appended (by decide) hrow hB.size (Nat.le_refl _) hown' hgrow; have hc1 := hv1.cell; have hf1 := hv1.frozen)
    exact ⟨hk2.from _, hb2, ⟨_, hv2, by simpa [nums] using hr2, trivial⟩, hB.trans hb2⟩
  case done =>
    rintro D ys W hD rfl ⟨⟨v, hv, hrow, -⟩, hB⟩ hK
    have hc := hv.cell
    rw [hT.out, upto_length] at hrow
    gi_wp2
    refine ⟨by simp, .inl ⟨_, _, rfl, run_takeDeferred hK, ?_⟩⟩
    exact ⟨_, results_tmp rfl _ _ _, v, rfl, ownsRow_putObj hrow _ hK rfl, hB.trans (belowK_b (w := w) (Nat.le_refl _) W D _ _ (by simp at hD; omega) hK rfl rfl)⟩
  case stop =>
    rintro D c pre W _ _ h _
    exact h.elim

/-- words of a complement. -/
theorem large_words (w : World) (u : Value) (k : Nat) (z : Int) (Bn Ba : Nat) (neg : Bool) (a : Option Addr) (xs : List Nat) (cap : Nat) (hk : k ≤ 1073741824) (H : Closed w u k z Bn Ba neg a xs cap) :
    Calls Tryz.prog 70 #[u] w fun e w' => ∃ a' c', e = .returned (.slice a' k c') ∧ k ≤ c' ∧ Lay .u32 w' a' (two k z) ∧ Below w.heap.size w w' := by
  refine ((callsIn_wide (n := 3)).1 (words_in Fence.wide 3 trivial trivial rfl (Nat.le_refl _) w u k z Bn Ba neg a xs cap hk H)).mono ?_
  rintro e W' ⟨v, rfl, h1, h2⟩
  obtain ⟨a', c', rfl, h3, h4, h5, _⟩ := lay_of_owns h1
  exact ⟨a', c', rfl, h3, h5, h2⟩

end Go.Proofs.YtbffpkmfhkphdaaGreatDoor
