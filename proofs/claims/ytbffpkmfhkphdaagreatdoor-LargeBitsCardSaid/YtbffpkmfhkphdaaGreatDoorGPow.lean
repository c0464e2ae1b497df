/- The walk of the reference's power: 2 to a power. The walk of the reference's complement. -/
import Derived.Test.YtbffpkmfhkphdaaGreatDoorGRefA
import Derived.Test.YtbffpkmfhkphdaaGreatDoorGRefC
import Derived.Test.YtbffpkmfhkphdaaGreatDoorGRefP
import Derived.Test.YtbffpkmfhkphdaaGreatDoorGPlain
import Derived.Test.YtbffpkmfhkphdaaGreatDoorGRefB
import Derived.Test.YtbffpkmfhkphdaaGreatDoorGTree
import Derived.Laws.CopyOwn
namespace Go.Proofs.YtbffpkmfhkphdaaGreatDoor
open Go Go.RowKit Limb

theorem power_words {q s : Nat} (hs : s < 32) : (List.replicate (q + 1) 0).set q (2 ^ s) = List.replicate q 0 ++ [2 ^ s] := by
  rw [List.replicate_succ', List.set_append_right _ _ (by simp)]; simp
theorem power_val {q s : Nat} (hs : s < 32) : val ((List.replicate (q + 1) 0).set q (2 ^ s)) = 2 ^ (32 * q + s) := by
  rw [power_words hs, val_append, val_replicate, List.length_replicate, W_two, Nat.pow_add]; simp [val]

set_option maxHeartbeats 800000 in
set_option maxRecDepth 100000 in
theorem ref_power (w : World) (n : Nat) (hn : n ≤ 1048576) :
    Calls Tryz.prog 76 #[.int .i64 n] w fun e w' => ∃ u, e = .returned u ∧ ApiV w' u ((2 : Int) ^ n) ∧ Below w.heap.size w w' := by
  obtain ⟨q, hq⟩ : ∃ q, q = n / 32 := ⟨_, rfl⟩
  obtain ⟨s, hs⟩ : ∃ s, s = n % 32 := ⟨_, rfl⟩
  have e1 : (n : Int) / 32 = q := by omega
  have e2 : (n : Int) % 32 = s := by omega
  have ql : q ≤ 32768 := by omega
  have sl : s < 32 := by omega
  obtain ⟨z, hz⟩ : ∃ z : Int, z = (2 : Int) ^ n := ⟨_, rfl⟩
  have hz0 : 0 ≤ z := by rw [hz]; exact Int.pow_nonneg (by decide)
  have hv : val ((List.replicate (q + 1) 0).set q (2 ^ s)) = z.natAbs := by rw [power_val sl, hz, Int.natAbs_pow, show 32 * q + s = n by omega]; rfl
  rw [← hz]
  have Hz0 := Lib.hid hz0
  clear hq hs hz hz0 hn
  obtain ⟨p, hp⟩ : ∃ p, p = 2 ^ s := ⟨_, rfl⟩
  have ep : (2 : Int) ^ s = (p : Int) := by rw [hp, Int.natCast_pow]; rfl
  have epl : p < 4294967296 := by rw [hp]; exact Nat.pow_lt_pow_right (by decide) sl
  have ep1 : (1 : Int) * 2 ^ s = (p : Int) := by rw [Int.one_mul]; exact ep
  rw [← hp] at hv
  have HV := Lib.hid hv
  clear hp hv
  obtain ⟨W, hWe⟩ : ∃ W, W = w.alloc (.cells #[.bool false, .slice none 0 0] 24) := ⟨_, rfl⟩
  have hW : Below w.heap.size w W := by rw [hWe]; exact (Below.refl _ _).alloc (Nat.le_refl _) _
  have hWs : W.heap.size = w.heap.size + 1 := by rw [hWe, World.size_alloc]
  have r0 : Row W w.heap.size 24 [.bool false, .slice none 0 0] := by rw [hWe]; unfold Row; exact heap_alloc_new _ _
  have HWe := Lib.hid hWe; clear hWe
  have hlim : Lim ((List.replicate (q + 1) 0).set q p) := (Lim.replicate _ (by decide)).set epl
  have Hlim := Lib.hid hlim; clear hlim
  go_enter Tryz.func76, Tryz.ntmps76
  go_wp2_with (at_make; rw [← HWe.out]; refine wpList_make_row rfl _ _ _ rfl 60 (.int .u32 0) 4 Tryz.underlying22 info32 rfl _ _ _ _ (q + 1) (q + 1) rfl rfl (by simp) (by simp) (by omega) (by omega) (by omega) ?_; intro w1 g hg1 hg2 hrow hbel; rw [← nums_replicate] at hrow; have ig := row_index (P := Tryz.prog) Tryz.underlying22 size32 g (q + 1) (q + 1) .i64 (q : Int) q rfl (by omega); have hcell := hrow.cell (i := q) (by simp); have hfk := hrow.free q)
  have hr2 := hrow.store q (p : Int) p rfl
  have hB1 := hW.trans (hbel.mono hW.size)
  have hg3 : w.heap.size < g := by omega
  have hr0 := (r0.below hbel r0.lt).other (a := ⟨g, q, none⟩) (by simp; omega) (.int .u32 p)
  have hB2 := below_store hB1 (g := g) (i := q) (by omega) (.int .u32 p)
  obtain ⟨V, hV⟩ : ∃ V, V = w1.setCell ⟨g, q, none⟩ (.int .u32 p) := ⟨_, rfl⟩
  rw [← hV] at hr2 hr0 hB2 ⊢
  clear hV hrow ig hcell hfk hbel hB1
  refine (ref_made V false (some ⟨g, 0, none⟩) _ (q + 1) (q + 1) z hr2.lay Hlim.out (by simp) (by omega) (Nat.le_refl _) HV.out ⟨fun h => (by cases h), fun _ => Hz0.out⟩).mono ?_
  rintro e w4 ⟨u, rfl, hu, hb⟩
  obtain ⟨a, c, rfl, k0, k1, k2, k3, e0, e1, hf⟩ := api_store hr0 hB2 (Nat.le_refl _) hu hb
  go_wp2_with fail
  (try simp only [Exit.inBlock, Exit.then])
  refine bodyPost_ret (v := .agg #[.bool (decide (z < 0)), .slice a (rep z.natAbs).length c]) (by simp [results, Tryz.results76, go_sem, e0, e1]) rfl ?_
  exact ⟨_, rfl, hf.out⟩

end Go.Proofs.YtbffpkmfhkphdaaGreatDoor

namespace Go.Proofs.YtbffpkmfhkphdaaGreatDoor
open Go Go.RowKit Limb

theorem splice_pad (n : Nat) (xs : List Nat) : splice (nums .u32 (List.replicate n 0)) 0 (nums .u32 xs) = nums .u32 (pad n xs) := by
  unfold splice pad
  rw [List.take_zero, List.nil_append, Nat.zero_add, nums_length, nums_append, nums_replicate, nums_replicate, List.drop_replicate]

theorem Lay.cells {K : IntKind} {w w' : World} {a : Option Addr} {l : List Nat} (h : Lay K w a l) (hb : Below w.heap.size w w') (hl : 0 < l.length) : ∃ ad, a = some ad ∧ ∀ (j : Nat) (v : Value), (nums K l)[j]? = some v → w'.cell? (ad.add j) = some v := by
  obtain ⟨b, off, h1, h2⟩ := h.below hb
  refine ⟨⟨b, off, none⟩, (h1 hl).1, fun j v hj => ?_⟩
  have hjl : j < l.length := by have := (List.getElem?_eq_some_iff.1 hj).1; rwa [nums_length] at this
  rw [nums_get hjl] at hj
  rw [Addr.add_lit, h2 j hjl]; exact hj
theorem nums_one' (K : IntKind) (l : List Nat) : ∀ v ∈ nums K l, v.oneCell' = true := by
  intro u hu; unfold nums at hu; obtain ⟨_, _, rfl⟩ := List.mem_map.1 hu; rfl

theorem info32s : (Tryz.prog.info? 60).map (·.size) = some 1 := by kernel_rfl

set_option maxHeartbeats 1600000 in
set_option maxRecDepth 100000 in
theorem ref_complement (w : World) (neg : Bool) (a : Option Addr) (xs : List Nat) (m cap n : Nat) (hlay : Lay .u32 w a xs) (hlim : Lim xs) (hm : m = xs.length) (hmn : m ≤ n) (hn : n ≤ 1073741824) (hp : neg = true → 0 < val xs) (z : Int) (hz : z = if neg then -(val xs : Int) else (val xs : Int)) :
    Calls Tryz.prog 78 #[.agg #[.bool neg, .slice a m cap], .int .i64 n] w fun e w' => ∃ a' c', e = .returned (.slice a' n c') ∧ n ≤ c' ∧ Lay .u32 w' a' (two n z) ∧ Below w.heap.size w w' := by
  obtain ⟨W, hWe, r0, hW, hsz⟩ := rows1 w 24 (.bool neg) (.slice a m cap)
  have HWe := Lib.hid hWe; clear hWe
  have k0 := r0.cell_at 0
  have k1 := r0.cell_at 1
  simp only [List.getElem?_cons_zero, List.getElem?_cons_succ] at k0 k1
  have hlayW := hlay.below hW
  have Hm := Lib.hid hm; clear hm
  have HL := Lib.hid (nums_length .u32 xs)
  cases neg with
  | false =>
    rw [if_neg (by decide)] at hz
    have hT := Lib.hid (comp_end (n := n) hlim (by rw [← Hm.out]; exact hmn))
    rw [← hz] at hT
    clear hz hp
    go_enter Tryz.func78, Tryz.ntmps78
    go_wp2_with (first
      | (at_make; rw [← HWe.out]; refine wpList_make_row rfl _ _ _ rfl 60 (.int .u32 0) 4 Tryz.underlying22 info32 rfl _ _ _ _ n n rfl rfl rfl rfl (by omega) (by omega) (by omega) ?_; intro w1 g hg1 hg2 hrow hbel; rw [← nums_replicate] at hrow; have r1 := r0.below hbel r0.lt; have k10 := r1.cell_at 0; have k11 := r1.cell_at 1; simp only [List.getElem?_cons_zero, List.getElem?_cons_succ] at k10 k11)
      | ((with_reducible show wpList _ _ _ (Oper.mk _ (.call { callee := .builtin .copy, args := _, argTypes := _ }) _ _ _ _ :: _) _ _); refine wpList_copy_splice rfl _ _ _ _ rfl 60 Tryz.underlying22 info32s _ _ _ _ _ _ rfl rfl g 0 _ 60 hrow (nums .u32 xs) (by rw [HL.out, ← Hm.out]; exact (Nat.min_eq_left hmn).symm) (fun hpos => ⟨rfl, hlayW.cells hbel (by rw [← nums_length .u32]; exact hpos)⟩) (by rw [HL.out, ← Hm.out, nums_length, List.length_replicate]; omega) (nums_one' _ _) W.heap.size W hbel hg1 ?_; intro w2 HG2 hB2; have r2 := r0.below hB2 r0.lt; have k20 := r2.cell_at 0; have k21 := r2.cell_at 1; simp only [List.getElem?_cons_zero, List.getElem?_cons_succ] at k20 k21))
    go_ret
    refine ⟨_, _, rfl, Nat.le_refl _, ?_, hW.trans (hB2.mono hW.size)⟩
    rw [hT.out]
    have h := HG2.out
    rw [splice_pad] at h
    exact Row.lay h
  | true =>
    rw [if_pos rfl] at hz
    have hp' := hp rfl
    obtain ⟨P, hP⟩ : ∃ P, P = pad n xs := ⟨_, rfl⟩
    have HPl := Lib.hid (pad_length (n := n) (l := xs) (by rw [← Hm.out]; exact hmn))
    have HPm := Lib.hid (pad_lim (n := n) hlim)
    have HE := Lib.hid (fun (zs : List Nat) h1 h2 h3 => inv_plus (n := n) (zs := zs) hlim (by rw [← Hm.out]; exact hmn) hp' h1 h2 h3)
    rw [← hP] at HPl HPm HE
    rw [← hz] at HE
    have hn1 : 1 ≤ n := by
      rcases Nat.eq_zero_or_pos n with h | h
      · have hl0 : xs = [] := List.eq_nil_of_length_eq_zero (by rw [← Hm.out]; omega)
        rw [hl0] at hp'; simp [val] at hp'
      · exact h
    have HP := Lib.hid hP
    clear hz hp hp' hP
    go_enter Tryz.func78, Tryz.ntmps78
    go_wp2_with (first
      | (at_make; rw [← HWe.out]; refine wpList_make_row rfl _ _ _ rfl 60 (.int .u32 0) 4 Tryz.underlying22 info32 rfl _ _ _ _ n n rfl rfl rfl rfl (by omega) (by omega) (by omega) ?_; intro w1 g hg1 hg2 hrow hbel; rw [← nums_replicate] at hrow; have r1 := r0.below hbel r0.lt; have k10 := r1.cell_at 0; have k11 := r1.cell_at 1; simp only [List.getElem?_cons_zero, List.getElem?_cons_succ] at k10 k11)
      | ((with_reducible show wpList _ _ _ (Oper.mk _ (.call { callee := .builtin .copy, args := _, argTypes := _ }) _ _ _ _ :: _) _ _); refine wpList_copy_splice rfl _ _ _ _ rfl 60 Tryz.underlying22 info32s _ _ _ _ _ _ rfl rfl g 0 _ 60 hrow (nums .u32 xs) (by rw [HL.out, ← Hm.out]; exact (Nat.min_eq_left hmn).symm) (fun hpos => ⟨rfl, hlayW.cells hbel (by rw [← nums_length .u32]; exact hpos)⟩) (by rw [HL.out, ← Hm.out, nums_length, List.length_replicate]; omega) (nums_one' _ _) W.heap.size W hbel hg1 ?_; intro w2 HG2 hB2; have r2 := r0.below hB2 r0.lt; have k20 := r2.cell_at 0; have k21 := r2.cell_at 1; simp only [List.getElem?_cons_zero, List.getElem?_cons_succ] at k20 k21))
    have hrow2 := HG2.out
    rw [splice_pad, ← HP.out] at hrow2
    clear HG2 r1 r2 k10 k11 k20 k21 hrow hbel
    go_loopw [19] (fun i wr => ∃ j : Nat, j ≤ n ∧ i = .int .i64 j ∧ Row wr g 60 (nums .u32 (invTo j P)) ∧ Below W.heap.size W wr) (fun i _ => n - (intOf i).toNat)
    case atStart => exact ⟨0, by omega, rfl, by rw [invTo_zero]; exact hrow2, hB2⟩
    case round =>
      obtain ⟨j, hj, rfl, hr, hB⟩ := hrel
      clear hrow2 hB2
      by_cases hlt : j < n
      · have hcell := hr.cell (i := j) (by rw [invTo_length, HPl.out]; exact hlt)
        rw [wd_invTo _ _ (by rw [HPl.out]; exact hlt), if_neg (Nat.lt_irrefl _)] at hcell
        have hset := Lib.hid (invTo_set (l := P) (j := j) (by rw [HPl.out]; exact hlt))
        have hfk := hr.free j
        have ig := row_index (P := Tryz.prog) Tryz.underlying22 size32 g n n .i64 (j : Int) j rfl hlt
        obtain ⟨x, hx⟩ : ∃ x, x = wd P j := ⟨_, rfl⟩
        have hxl : x < 4294967296 := by rw [hx]; exact HPm.out.wd j
        rw [← hx] at hcell hset
        have e3 := u32_inv hxl
        obtain ⟨y, hy⟩ : ∃ y, y = 4294967295 - x := ⟨_, rfl⟩
        rw [← hy] at e3 hset
        clear hx hxl hy
        go_wp2
        go_roundw
        case rel => exact ⟨j + 1, by omega, by go_num, by rw [← hset.out]; exact hr.store _ _ _ e3, below_store hB hg1 _⟩
        case measure => simp [intOf]; omega
      · obtain rfl : j = n := by omega
        rw [invTo_all (by rw [HPl.out]; exact Nat.le_refl _)] at hr
        have hIl : Hid (j = (inv P).length) := Lib.hid (by rw [inv_length, HPl.out])
        have hb1 : Below wr.heap.size wr (wr.alloc (.cells #[.int .u32 1] 60)) := (Below.refl _ _).alloc (Nat.le_refl _) _
        have h1 := row_one wr 60 .u32 1 1 rfl
        have hB3 := hW.trans (hB.mono hW.size)
        go_wp2_with fail
        refine (ref_plus_k _ (some ⟨g, 0, none⟩) (some ⟨wr.heap.size, 0, none⟩) (inv P) [1] j 1 j 1 j (hr.lay.below hb1) h1 (inv_lim _) (Lim.cons (by decide) Lim.nil) hIl.out rfl (Nat.le_refl _) hn1 (by omega)).mono ?_
        rintro e w3 ⟨a3, n3, c3, zs3, rfl, hn3, hc3, hm3, hl3, hv3, hla3, hb3, hf3, hk3⟩
        have HT := Lib.hid (HE.out zs3 hl3 (by omega) (by rw [hv3]; rfl))
        have hfin := hB3.trans ((hb1.trans (hb3.mono hb1.size)).mono hB3.size)
        have hln := hla3.take j
        rw [HT.out] at hln
        clear hv3 hn3 hl3 hla3 hf3
        go_wp2
        go_ret
        exact ⟨_, _, rfl, by omega, hln, hfin⟩

end Go.Proofs.YtbffpkmfhkphdaaGreatDoor
