/- The walks of the reference's May and cut. The walks of the reference's made, Of and Neg. The walks of the reference's Of and Neg. -/
import Derived.Test.YtbffpkmfhkphdaaGreatDoorMayC
import Derived.Test.YtbffpkmfhkphdaaGreatDoorBigCompareC
namespace Go.Proofs.YtbffpkmfhkphdaaGreatDoor
open Go Go.RowKit Limb

theorem mayB_false_len {neg : Bool} {l : List Nat} (h : 1024 < l.length) : mayB neg l = false := by
  unfold mayB; rw [if_neg (by omega), decide_eq_false (by omega)]; rfl
theorem mayB_pos {neg : Bool} {l : List Nat} {k : Nat} (h : l.length = k + 1) (h2 : l.length ≤ 1024) : mayB neg l = decide (wd l k ≠ 0) := by
  unfold mayB; rw [if_neg (by omega), decide_eq_true h2, h, Nat.add_sub_cancel]; rfl

set_option maxHeartbeats 800000 in
set_option maxRecDepth 100000 in
theorem ref_May (w : World) (neg : Bool) (a : Option Addr) (l : List Nat) (n cap : Nat) (hlay : Lay .u32 w a l) (hlim : Lim l) (hn : n = l.length) (hm : n ≤ 9223372036854775807) :
    Calls Tryz.prog 12 #[.agg #[.bool neg, .slice a n cap]] w fun e w' => e = .returned (.bool (mayB neg l)) ∧ Below w.heap.size w w' := by
  obtain ⟨b1, off1, hix, hcx, _⟩ := hlay.use 22 60 Tryz.underlying22 size32 cap
  rw [← hn] at hix hcx
  have hB : Below w.heap.size w (w.alloc (.cells #[.bool neg, .slice a n cap] 24)) := (Below.refl _ _).alloc (Nat.le_refl _) _
  by_cases h0 : n = 0
  · have hb : mayB neg l = !neg := by unfold mayB; rw [if_pos (by omega)]
    rw [hb]
    clear hix hcx hn hb
    subst h0
    cases neg <;>
    · go_enter Tryz.func12, Tryz.ntmps12
      go_wp2
      go_ret
      exact ⟨rfl, hB⟩
  · by_cases hl : n ≤ 1024
    · obtain ⟨k, hk⟩ : ∃ k, n = k + 1 := ⟨n - 1, by omega⟩
      rw [mayB_pos (k := k) (by omega) (by omega)]
      subst hk
      have ix := hix (w.alloc (.cells #[.bool neg, .slice a (k + 1) cap] 24)) .i64 k (by omega) (by omega)
      rw [Int.toNat_natCast] at ix
      have cx := hcx _ hB k (by omega)
      have d1 : decide (k + 1 ≤ 1024) = true := by rw [decide_eq_true_eq]; exact hl
      have d2 : decide (0 < k + 1) = true := by rw [decide_eq_true_eq]; omega
      have q1 : (((k + 1 : Nat) : Int) == 0) = false := by rw [beq_eq_false_iff_ne]; omega
      have q2 : ((k : Int) + 1 == 0) = false := by rw [beq_eq_false_iff_ne]; omega
      clear hix hcx hn h0
      by_cases hz : wd l k = 0
      · have e : decide (wd l k ≠ 0) = false := by rw [decide_eq_false_iff_not]; omega
        rw [e]; rw [hz] at cx
        clear e hz
        go_enter Tryz.func12, Tryz.ntmps12
        go_wp2
        go_ret
        exact ⟨rfl, hB⟩
      · have e : decide (wd l k ≠ 0) = true := by rw [decide_eq_true_eq]; exact hz
        have q3 : (((wd l k : Nat) : Int) != 0) = true := by rw [bne_iff_ne]; omega
        have q4 : (((wd l k : Nat) : Int) == 0) = false := by rw [beq_eq_false_iff_ne]; omega
        rw [e]
        clear e hz
        go_enter Tryz.func12, Tryz.ntmps12
        go_wp2
        go_ret
        exact ⟨rfl, hB⟩
    · have hb : mayB neg l = false := mayB_false_len (by omega)
      rw [hb]
      have d1 : decide (n ≤ 1024) = false := by rw [decide_eq_false_iff_not]; exact hl
      clear hix hcx hn hb h0
      go_enter Tryz.func12, Tryz.ntmps12
      go_wp2
      go_ret
      exact ⟨rfl, hB⟩

set_option maxHeartbeats 400000 in
set_option maxRecDepth 100000 in
theorem ref_cut (w : World) (a : Option Addr) (l : List Nat) (n cap : Nat) (hlay : Lay .u32 w a l) (hlim : Lim l) (hn : n = l.length) (hm : n ≤ 9223372036854775807) (hc : n ≤ cap) :
    Calls Tryz.prog 101 #[.slice a n cap] w fun e w' => e = .returned (.slice a (rep (val l)).length cap) ∧ w = w' := by
  by_cases hz : n = 0
  · have hv : (rep (val l)).length = 0 := by rw [List.eq_nil_of_length_eq_zero (hn.symm.trans hz)]; rfl
    rw [hv]
    clear hv hn
    subst hz
    go_enter Tryz.func101, Tryz.ntmps101
    go_wp2
    refine wp_loop_rounds 1 ?_
    rw [rounds_succ]
    go_wp2
    go_ret
    exact ⟨rfl, rfl⟩
  · obtain ⟨b0, off0, h1, h2⟩ := hlay
    have hA := (h1 (by omega)).1
    have hlay : Lay .u32 w a l := ⟨b0, off0, h1, h2⟩
    subst hA
    clear h1 h2 hz
    have Hn := Lib.hid hn; clear hn
    go_enter Tryz.func101, Tryz.ntmps101
    go_wp2
    go_loop [0] (fun s => ∃ k : Nat, k ≤ n ∧ s = .slice (some ⟨b0, off0, none⟩) k cap ∧ Hid (val (l.take k) = val l)) (fun s => match s with | .slice _ k _ => k | _ => 0)
    case atStart => exact ⟨n, Nat.le_refl _, rfl, Lib.hid (by rw [Hn.out, List.take_length])⟩
    case round =>
      obtain ⟨k, hk, rfl, Hv⟩ := hrel
      by_cases h0 : k = 0
      · have d1 : decide (0 < k) = false := by simp [h0]
        have HR : Hid ((rep (val l)).length = k) := norm_end hlim k (by rw [← Hn.out]; exact hk) Hv.out (.inl h0)
        clear h0
        go_wp2
        go_ret
        exact ⟨by rw [HR.out]; rfl, rfl⟩
      · obtain ⟨j, rfl⟩ : ∃ j, k = j + 1 := ⟨k - 1, by omega⟩
        obtain ⟨b, off, hix, hcell, hb⟩ := (hlay.take (j + 1)).use 22 60 Tryz.underlying22 size32 cap
        have hlt : (l.take (j + 1)).length = j + 1 := by rw [List.length_take, ← Hn.out]; omega
        rw [hlt] at hix hcell
        have ix := hix w .i64 j (by omega) (by omega)
        have cx := hcell w (Below.refl _ _) j (by omega)
        rw [Int.toNat_natCast] at ix
        rw [wd_take (by omega)] at cx
        clear hix hcell hlt hb
        have d1 : decide (0 < j + 1) = true := by rw [decide_eq_true_eq]; omega
        have ej : ((j + 1 : Nat) : Int) - 1 = (j : Int) := by omega
        have ej2 : (j : Int) + 1 - 1 = (j : Int) := by omega
        by_cases hz : wd l j = 0
        · have q3 : (((wd l j : Nat) : Int) == 0) = true := by simp [hz]
          go_wp2
          go_round
          case rel => exact ⟨j, by omega, rfl, Lib.hid (by rw [← norm_step j (by rw [← Hn.out]; omega) Hv.out hz])⟩
          case measure => first | (simp; done) | (simp; omega) | omega
        · have q3 : (((wd l j : Nat) : Int) == 0) = false := by simp; omega
          have HR : Hid ((rep (val l)).length = j + 1) := norm_end hlim (j + 1) (by rw [← Hn.out]; exact hk) Hv.out (.inr hz)
          clear h0 hz
          go_wp2
          go_ret
          exact ⟨by rw [HR.out]; rfl, rfl⟩

end Go.Proofs.YtbffpkmfhkphdaaGreatDoor

namespace Go.Proofs.YtbffpkmfhkphdaaGreatDoor
open Go Go.RowKit Limb

set_option maxHeartbeats 800000 in
set_option maxRecDepth 100000 in
theorem ref_made (w : World) (neg : Bool) (a : Option Addr) (l : List Nat) (n cap : Nat) (z : Int) (hlay : Lay .u32 w a l) (hlim : Lim l) (hn : n = l.length) (hm : n ≤ 9223372036854775807) (hc : n ≤ cap) (hz : val l = z.natAbs)
    (hs : (neg = true → z ≤ 0) ∧ (neg = false → 0 ≤ z)) :
    Calls Tryz.prog 79 #[.bool neg, .slice a n cap] w fun e w' => ∃ u, e = .returned u ∧ ApiV w' u z ∧ Below w.heap.size w w' := by
  obtain ⟨W, hWe⟩ : ∃ W, W = w.alloc (.cells #[.bool false, .slice none 0 0] 24) := ⟨_, rfl⟩
  have r0 : Row W w.heap.size 24 [.bool false, .slice none 0 0] := by rw [hWe]; unfold Row; exact heap_alloc_new _ _
  have hW : Below w.heap.size w W := by rw [hWe]; exact (Below.refl _ _).alloc (Nat.le_refl _) _
  have HWe := Lib.hid hWe; clear hWe
  have hlW := hlay.below hW
  have hcut := ref_cut W a l n cap hlW hlim hn hm hc
  have hle := rep_val_le hlim
  rw [← hn] at hle
  have hln := hlW.norm hlim
  rw [hz] at hcut hle hln
  have k0 := r0.cell_at 0
  have k1 := r0.cell_at 1
  have k2 := r0.free 0
  have k3 := r0.free 1
  simp only [List.getElem?_cons_zero, List.getElem?_cons_succ] at k0 k1
  obtain ⟨m, hm'⟩ : ∃ m, m = (rep z.natAbs).length := ⟨_, rfl⟩
  rw [← hm'] at hcut hle
  have hm0 : m = 0 ↔ z = 0 := by rw [hm', rep_length_zero]; omega
  have HM0 := Lib.hid hm0; clear hm0
  have HM := Lib.hid hm'; clear hm'
  have HC := Lib.hid hcut; clear hcut
  have hfin : ∀ b : Bool, b = decide (z < 0) → ApiV ((W.setCell ⟨w.heap.size, 0, none⟩ (.bool b)).setCell ⟨w.heap.size, 1, none⟩ (.slice a m cap)) (.agg #[.bool b, .slice a m cap]) z ∧ Below w.heap.size w ((W.setCell ⟨w.heap.size, 0, none⟩ (.bool b)).setCell ⟨w.heap.size, 1, none⟩ (.slice a m cap)) := by
    intro b hb
    refine ⟨⟨a, cap, by rw [hb, HM.out], by rw [← HM.out]; omega, hln.pair r0 _ _⟩, below_store (below_store hW (Nat.le_refl _) _) (Nat.le_refl _) _⟩
  have HF := Lib.hid hfin; clear hfin
  have he : ∀ b : Bool, (W.setCell ⟨w.heap.size, 0, none⟩ (.bool b)).cell? ⟨w.heap.size, 0, none⟩ = some (.bool b) ∧ ((W.setCell ⟨w.heap.size, 0, none⟩ (.bool b)).setCell ⟨w.heap.size, 1, none⟩ (.slice a m cap)).cell? ⟨w.heap.size, 1, none⟩ = some (.slice a m cap) := fun b => ⟨(r0.store_any 0 _).cell_at 0, ((r0.store_any 0 _).store_any 1 _).cell_at 1⟩
  have HE := Lib.hid he; clear he
  have hs1 := hs.1
  have hs2 := hs.2
  clear hz hn hs hlay hlW hln r0
  cases neg with
  | false =>
    have h0 := hs2 rfl
    obtain ⟨e0, e1⟩ := HE.out false
    clear hs1 hs2
    go_enter Tryz.func79, Tryz.ntmps79
    go_wp2_with fail
    rw [← HWe.out]
    refine HC.out.mono ?_
    rintro e w' ⟨rfl, rfl⟩
    go_wp2_with fail
    (try simp only [Exit.inBlock, Exit.then])
    refine bodyPost_ret (v := .agg #[.bool false, .slice a m cap]) (by simp [results, Tryz.results79, go_sem, e0, e1]) rfl ?_
    exact ⟨_, rfl, HF.out false (by simp; omega)⟩
  | true =>
    have h0 := hs1 rfl
    clear hs1 hs2
    by_cases hz : m = 0
    · have hzz := Lib.hid (HM0.out.1 hz)
      obtain ⟨e0, e1⟩ := HE.out false
      have d1 : decide (0 < m) = false := by rw [decide_eq_false_iff_not]; omega
      have HF1 := Lib.hid (HF.out false (by rw [hzz.out]; rfl))
      clear hz
      go_enter Tryz.func79, Tryz.ntmps79
      go_wp2_with fail
      rw [← HWe.out]
      refine HC.out.mono ?_
      rintro e w' ⟨rfl, rfl⟩
      go_wp2_with fail
      (try simp only [Exit.inBlock, Exit.then])
      refine bodyPost_ret (v := .agg #[.bool false, .slice a m cap]) (by simp [results, Tryz.results79, go_sem, e0, e1]) rfl ?_
      exact ⟨_, rfl, HF1.out⟩
    · obtain ⟨e0, e1⟩ := HE.out true
      have d1 : decide (0 < m) = true := by rw [decide_eq_true_eq]; omega
      have HF1 := Lib.hid (HF.out true (by have := HM0.out; simp; omega))
      clear hz
      go_enter Tryz.func79, Tryz.ntmps79
      go_wp2_with fail
      rw [← HWe.out]
      refine HC.out.mono ?_
      rintro e w' ⟨rfl, rfl⟩
      go_wp2_with fail
      (try simp only [Exit.inBlock, Exit.then])
      refine bodyPost_ret (v := .agg #[.bool true, .slice a m cap]) (by simp [results, Tryz.results79, go_sem, e0, e1]) rfl ?_
      exact ⟨_, rfl, HF1.out⟩

end Go.Proofs.YtbffpkmfhkphdaaGreatDoor

namespace Go.Proofs.YtbffpkmfhkphdaaGreatDoor
open Go Go.RowKit Limb

theorem row_two (w : World) (t : TypeId) (K : IntKind) (a b : Nat) : Lay K (w.alloc (.cells #[.int K (a : Int), .int K (b : Int)] t)) (some ⟨w.heap.size, 0, none⟩) [a, b] := by
  have h : Row (w.alloc (.cells #[.int K (a : Int), .int K (b : Int)] t)) w.heap.size t (nums K [a, b]) := by unfold Row; exact heap_alloc_new _ _
  exact h.lay
theorem val_two (lo hi : Nat) : val [lo, hi] = lo + 4294967296 * hi := by simp [val]

set_option maxHeartbeats 800000 in
set_option maxRecDepth 100000 in
theorem ref_of (w : World) (v : Int) (h1 : -9223372036854775808 ≤ v) (h2 : v ≤ 9223372036854775807) :
    Calls Tryz.prog 23 #[.int .i64 v] w fun e w' => ∃ u, e = .returned u ∧ ApiV w' u v ∧ Below w.heap.size w w' := by
  obtain ⟨n, hn⟩ : ∃ n : Nat, n = v.natAbs := ⟨_, rfl⟩
  obtain ⟨lo, hlo⟩ : ∃ lo : Nat, lo = n % 4294967296 := ⟨_, rfl⟩
  obtain ⟨hi, hhi⟩ : ∃ hi : Nat, hi = n / 4294967296 := ⟨_, rfl⟩
  have elo : (n : Int) % 4294967296 = (lo : Int) := by omega
  have ehi : (n : Int) / 4294967296 = (hi : Int) := by omega
  have llo : lo < 4294967296 := by omega
  have lhi : hi < 4294967296 := by omega
  have ev : val [lo, hi] = v.natAbs := by rw [val_two]; omega
  have hlim : Lim [lo, hi] := Lim.cons llo (Lim.cons lhi Lim.nil)
  obtain ⟨W, hWe⟩ : ∃ W, W = (w.alloc (.cells #[.bool false, .slice none 0 0] 24)).alloc (.cells #[.int .u32 (lo : Int), .int .u32 (hi : Int)] 60) := ⟨_, rfl⟩
  have hW : Below w.heap.size w W := by rw [hWe]; exact ((Below.refl _ _).alloc (Nat.le_refl _) _).alloc (by rw [World.size_alloc]; omega) _
  have r0 : Row W w.heap.size 24 [.bool false, .slice none 0 0] := by rw [hWe]; apply Row.alloc; unfold Row; exact heap_alloc_new _ _
  have hl : Lay .u32 W (some ⟨w.heap.size + 1, 0, none⟩) [lo, hi] := by
    have := row_two (w.alloc (.cells #[.bool false, .slice none 0 0] 24)) 60 .u32 lo hi
    rw [World.size_alloc] at this; rw [hWe]; exact this
  have HWe := Lib.hid hWe; clear hWe
  have hM := fun (neg : Bool) hs => ref_made W neg (some ⟨w.heap.size + 1, 0, none⟩) [lo, hi] 2 2 v hl hlim rfl (by decide) (by decide) ev hs
  have HM := Lib.hid hM; clear hM
  clear hlo hhi ev hlim hl
  have fin : ∀ w1 u, ApiV w1 u v → Below W.heap.size W w1 → ∃ a c, u = .agg #[.bool (decide (v < 0)), .slice a (rep v.natAbs).length c] ∧
      w1.cell? ⟨w.heap.size, 0, none⟩ = some (.bool false) ∧ w1.cell? ⟨w.heap.size, 1, none⟩ = some (.slice none 0 0) ∧ w1.frozen? ⟨w.heap.size, 0, none⟩ = false ∧ w1.frozen? ⟨w.heap.size, 1, none⟩ = false ∧
      (w1.setCell ⟨w.heap.size, 0, none⟩ (.bool (decide (v < 0)))).cell? ⟨w.heap.size, 0, none⟩ = some (.bool (decide (v < 0))) ∧
      ((w1.setCell ⟨w.heap.size, 0, none⟩ (.bool (decide (v < 0)))).setCell ⟨w.heap.size, 1, none⟩ (.slice a (rep v.natAbs).length c)).cell? ⟨w.heap.size, 1, none⟩ = some (.slice a (rep v.natAbs).length c) ∧
      Hid (ApiV ((w1.setCell ⟨w.heap.size, 0, none⟩ (.bool (decide (v < 0)))).setCell ⟨w.heap.size, 1, none⟩ (.slice a (rep v.natAbs).length c)) (.agg #[.bool (decide (v < 0)), .slice a (rep v.natAbs).length c]) v ∧
        Below w.heap.size w ((w1.setCell ⟨w.heap.size, 0, none⟩ (.bool (decide (v < 0)))).setCell ⟨w.heap.size, 1, none⟩ (.slice a (rep v.natAbs).length c))) := by
    rintro w1 u ⟨a, c, rfl, hc, hl⟩ hb
    have r1 := r0.below hb r0.lt
    refine ⟨a, c, rfl, r1.cell_at 0, r1.cell_at 1, r1.free 0, r1.free 1, (r1.store_any 0 _).cell_at 0, ((r1.store_any 0 _).store_any 1 _).cell_at 1, Lib.hid ⟨⟨a, c, rfl, hc, hl.pair r1 _ _⟩, ?_⟩⟩
    exact below_store (below_store (hW.trans (hb.mono hW.size)) (Nat.le_refl _) _) (Nat.le_refl _) _
  have FIN := Lib.hid fin; clear fin
  by_cases hv : v < 0
  · have hd : decide (v < 0) = true := by simpa using hv
    have hw : IntKind.u64.wrap (-(IntKind.u64.wrap v)) = n := by rw [show v = -(n : Int) from by omega]; exact u64_neg (by omega)
    have HM1 := Lib.hid (HM.out true ⟨fun _ => by omega, fun h => by cases h⟩)
    clear hn
    go_enter Tryz.func23, Tryz.ntmps23
    go_wp2_with fail
    rw [← HWe.out]
    refine HM1.out.mono ?_
    rintro e w1 ⟨u, rfl, hu, hb⟩
    obtain ⟨a, c, rfl, k0, k1, k2, k3, e0, e1, hf⟩ := FIN.out w1 u hu hb
    rw [hd] at e0 e1 hf ⊢
    go_wp2_with fail
    (try simp only [Exit.inBlock, Exit.then])
    refine bodyPost_ret (v := .agg #[.bool true, .slice a (rep v.natAbs).length c]) (by simp [results, Tryz.results23, go_sem, e0, e1]) rfl ?_
    exact ⟨_, rfl, hf.out⟩
  · have hd : decide (v < 0) = false := by simpa using hv
    have hw : IntKind.u64.wrap v = n := by rw [show v = (n : Int) from by omega]; exact u64_nat (by omega)
    have HM1 := Lib.hid (HM.out false ⟨fun h => (by cases h), fun _ => by omega⟩)
    clear hn
    go_enter Tryz.func23, Tryz.ntmps23
    go_wp2_with fail
    rw [← HWe.out]
    refine HM1.out.mono ?_
    rintro e w1 ⟨u, rfl, hu, hb⟩
    obtain ⟨a, c, rfl, k0, k1, k2, k3, e0, e1, hf⟩ := FIN.out w1 u hu hb
    rw [hd] at e0 e1 hf ⊢
    go_wp2_with fail
    (try simp only [Exit.inBlock, Exit.then])
    refine bodyPost_ret (v := .agg #[.bool false, .slice a (rep v.natAbs).length c]) (by simp [results, Tryz.results23, go_sem, e0, e1]) rfl ?_
    exact ⟨_, rfl, hf.out⟩

/-- What follows a call that makes an integer, where it is stored into the result's cells g: the facts that the walk asks. -/
theorem api_store {w W w1 : World} {g : Nat} {u : Value} {z : Int} (r0 : Row W g 24 [.bool false, .slice none 0 0]) (hW : Below w.heap.size w W) (hg : w.heap.size ≤ g) (hu : ApiV w1 u z) (hb : Below W.heap.size W w1) :
    ∃ a c, u = .agg #[.bool (decide (z < 0)), .slice a (rep z.natAbs).length c] ∧
      w1.cell? ⟨g, 0, none⟩ = some (.bool false) ∧ w1.cell? ⟨g, 1, none⟩ = some (.slice none 0 0) ∧ w1.frozen? ⟨g, 0, none⟩ = false ∧ w1.frozen? ⟨g, 1, none⟩ = false ∧
      (w1.setCell ⟨g, 0, none⟩ (.bool (decide (z < 0)))).cell? ⟨g, 0, none⟩ = some (.bool (decide (z < 0))) ∧
      ((w1.setCell ⟨g, 0, none⟩ (.bool (decide (z < 0)))).setCell ⟨g, 1, none⟩ (.slice a (rep z.natAbs).length c)).cell? ⟨g, 1, none⟩ = some (.slice a (rep z.natAbs).length c) ∧
      Hid (ApiV ((w1.setCell ⟨g, 0, none⟩ (.bool (decide (z < 0)))).setCell ⟨g, 1, none⟩ (.slice a (rep z.natAbs).length c)) (.agg #[.bool (decide (z < 0)), .slice a (rep z.natAbs).length c]) z ∧
        Below w.heap.size w ((w1.setCell ⟨g, 0, none⟩ (.bool (decide (z < 0)))).setCell ⟨g, 1, none⟩ (.slice a (rep z.natAbs).length c))) := by
  obtain ⟨a, c, rfl, hc, hl⟩ := hu
  have r1 := r0.below hb r0.lt
  refine ⟨a, c, rfl, r1.cell_at 0, r1.cell_at 1, r1.free 0, r1.free 1, (r1.store_any 0 _).cell_at 0, ((r1.store_any 0 _).store_any 1 _).cell_at 1, Lib.hid ⟨⟨a, c, rfl, hc, hl.pair r1 _ _⟩, ?_⟩⟩
  exact below_store (below_store (hW.trans (hb.mono hW.size)) hg _) hg _

theorem ApiV.below {w w' : World} {u : Value} {z : Int} (h : ApiV w u z) (hb : Below w.heap.size w w') : ApiV w' u z := by
  obtain ⟨a, c, h1, h2, h3⟩ := h; exact ⟨a, c, h1, h2, h3.below hb⟩

set_option maxRecDepth 100000 in
theorem ref_neg (w : World) (v : Value) (z : Int) (hv : ApiV w v z) (hz : (rep z.natAbs).length ≤ 9223372036854775807) :
    Calls Tryz.prog 239 #[v] w fun e w' => ∃ u, e = .returned u ∧ ApiV w' u (-z) ∧ Below w.heap.size w w' := by
  obtain ⟨a, c, rfl, hc, hl⟩ := hv
  obtain ⟨W, hWe, r0, r1, hW, hsz⟩ := rows2 w 24 (.bool (decide (z < 0))) (.slice a (rep z.natAbs).length c) (.bool false) (.slice none 0 0)
  have HWe := Lib.hid hWe; clear hWe
  have hM := ref_made W (!decide (z < 0)) a (rep z.natAbs) (rep z.natAbs).length c (-z) (hl.below hW) (rep_lim _) rfl hz hc (by rw [val_rep]; omega) ⟨fun h => (by simp at h; omega), fun h => (by simp at h; omega)⟩
  obtain ⟨y, hy⟩ : ∃ y, y = -z := ⟨_, rfl⟩
  rw [← hy] at hM ⊢
  have HM := Lib.hid hM; clear hM
  have k0 := r0.cell_at 0
  have k1 := r0.cell_at 1
  simp only [List.getElem?_cons_zero, List.getElem?_cons_succ] at k0 k1
  obtain ⟨s, hs⟩ : ∃ s, s = decide (z < 0) := ⟨_, rfl⟩
  rw [← hs] at HM HWe k0 ⊢
  clear hs hl hy
  go_enter Tryz.func239, Tryz.ntmps239
  go_wp2_with fail
  rw [← HWe.out]
  refine HM.out.mono ?_
  rintro e w1 ⟨u, rfl, hu, hb⟩
  obtain ⟨a', c', rfl, q0, q1, q2, q3, e0, e1, hf⟩ := api_store r1 hW (by omega) hu hb
  go_wp2_with fail
  (try simp only [Exit.inBlock, Exit.then])
  refine bodyPost_ret (v := .agg #[.bool (decide (y < 0)), .slice a' (rep y.natAbs).length c']) (by simp [results, Tryz.results239, go_sem, e0, e1]) rfl ?_
  exact ⟨_, rfl, hf.out⟩

end Go.Proofs.YtbffpkmfhkphdaaGreatDoor
