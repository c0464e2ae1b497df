/- The walk of large.Sqrt. -/
import Derived.Test.YtbffpkmfhkphdaaGreatDoorGX26
import Derived.Test.YtbffpkmfhkphdaaGreatDoorLShiftC
set_option linter.unusedVariables false
set_option linter.unusedSimpArgs false
namespace Go.Proofs.YtbffpkmfhkphdaaGreatDoor
open Go Go.RowKit Limb

theorem at_sqrt {w1 X : World} {l : List (Nat × Int)} {p q : Nat} {v z : Int} (h : At w1 X l) (hp : (p, v) ∈ l) (hq : (q, z) ∈ l) (hs : (rep z.natAbs).length ≤ 1048576) :
    Calls Tryz.prog 83 #[.pointer (some ⟨p, 0, none⟩), .pointer (some ⟨q, 0, none⟩)] X fun e X' => e = .returned (.pointer (some ⟨p, 0, none⟩)) ∧ At w1 X' (upd l p (rootN z.natAbs : Nat)) := by
  refine (int_sqrt X p q v z (h.ints _ hp).1 (h.ints _ hq).1 hs).mono ?_
  rintro e X' ⟨rfl, h1, h2⟩
  exact ⟨rfl, h.set hp h2 h1⟩
theorem root_le (n : Nat) : rootN n ≤ n := by
  have h := (rootN_is n).1
  rcases Nat.eq_zero_or_pos (rootN n) with h0 | h0
  · omega
  · have : rootN n * 1 ≤ rootN n * rootN n := Nat.mul_le_mul_left _ h0
    omega

set_option maxHeartbeats 1600000 in
set_option maxRecDepth 100000 in
theorem sqrt_no (w : World) (neg : Bool) (a : Option Addr) (l : List Nat) (m cap : Nat) (hlay : Lay .u32 w a l) (hlim : Lim l) (hm : m = l.length) (hl : m ≤ 9223372036854775807) (hmay : mayB neg l = false) :
    Calls Tryz.prog 18 #[.agg #[.bool neg, .slice a m cap]] w fun e w' => e = errRange ∧ Below w.heap.size w w' := by
  obtain ⟨W, hWe, r0, r1, hW, hsz⟩ := rows2 w 24 (.bool neg) (.slice a m cap) (.bool false) (.slice none 0 0)
  have HWe := Lib.hid hWe; clear hWe
  have hM := large_May W neg a l m cap (hlay.below hW) hlim hm hl
  rw [hmay] at hM
  have HM := Lib.hid hM; clear hM
  clear hmay hm hlim
  go_enter Tryz.func18, Tryz.ntmps18
  go_wp2_with fail
  rw [← HWe.out]
  refine HM.out.mono ?_
  rintro e w1 ⟨rfl, hb1⟩
  have p0 := r0.below hb1 r0.lt
  have p1 := r1.below hb1 r1.lt
  have c0 := p0.cell_at 0
  have c1 := p0.cell_at 1
  simp only [List.getElem?_cons_zero, List.getElem?_cons_succ] at c0 c1
  have hB1 : Below w.heap.size w w1 := hW.trans (hb1.mono hW.size)
  have k0 := p1.cell_at 0
  have k1 := p1.cell_at 1
  have k2 := p1.free 0
  have k3 := p1.free 1
  simp only [List.getElem?_cons_zero, List.getElem?_cons_succ] at k0 k1
  have e0 : (w1.setCell ⟨w.heap.size + 1, 0, none⟩ (.bool false)).cell? ⟨w.heap.size + 1, 0, none⟩ = some (.bool false) := (p1.store_any 0 _).cell_at 0
  have e1 : ((w1.setCell ⟨w.heap.size + 1, 0, none⟩ (.bool false)).setCell ⟨w.heap.size + 1, 1, none⟩ (.slice none 0 0)).cell? ⟨w.heap.size + 1, 1, none⟩ = some (.slice none 0 0) := ((p1.store_any 0 _).store_any 1 _).cell_at 1
  have HF := Lib.hid (below_store (below_store hB1 (g := w.heap.size + 1) (i := 0) (by omega) (.bool false)) (g := w.heap.size + 1) (i := 1) (by omega) (.slice none 0 0))
  go_wp2
  (try simp only [Exit.inBlock, Exit.then])
  refine bodyPost_ret (v := .tuple #[.agg #[.bool false, .slice none 0 0], .int .i64 1]) (by simp [results, Tryz.results18, go_sem, e0, e1]) rfl ?_
  exact ⟨rfl, HF.out⟩

set_option maxHeartbeats 1600000 in
set_option maxRecDepth 100000 in
theorem sqrt_neg (w : World) (neg : Bool) (a : Option Addr) (l : List Nat) (m cap : Nat) (hlay : Lay .u32 w a l) (hlim : Lim l) (hm : m = l.length) (hl : m ≤ 9223372036854775807) (hmay : mayB neg l = true) (hneg : neg = true) :
    Calls Tryz.prog 18 #[.agg #[.bool neg, .slice a m cap]] w fun e w' => e = .returned (.tuple #[.agg #[.bool false, .slice none 0 0], .int .i64 92]) ∧ Below w.heap.size w w' := by
  obtain ⟨W, hWe, r0, r1, hW, hsz⟩ := rows2 w 24 (.bool neg) (.slice a m cap) (.bool false) (.slice none 0 0)
  have HWe := Lib.hid hWe; clear hWe
  have hM := large_May W neg a l m cap (hlay.below hW) hlim hm hl
  rw [hmay] at hM
  have HM := Lib.hid hM; clear hM
  subst hneg
  clear hmay hm hlim
  go_enter Tryz.func18, Tryz.ntmps18
  go_wp2_with fail
  rw [← HWe.out]
  refine HM.out.mono ?_
  rintro e w1 ⟨rfl, hb1⟩
  have p0 := r0.below hb1 r0.lt
  have p1 := r1.below hb1 r1.lt
  have c0 := p0.cell_at 0
  have c1 := p0.cell_at 1
  simp only [List.getElem?_cons_zero, List.getElem?_cons_succ] at c0 c1
  have hB1 : Below w.heap.size w w1 := hW.trans (hb1.mono hW.size)
  have k0 := p1.cell_at 0
  have k1 := p1.cell_at 1
  have k2 := p1.free 0
  have k3 := p1.free 1
  simp only [List.getElem?_cons_zero, List.getElem?_cons_succ] at k0 k1
  have e0 : (w1.setCell ⟨w.heap.size + 1, 0, none⟩ (.bool false)).cell? ⟨w.heap.size + 1, 0, none⟩ = some (.bool false) := (p1.store_any 0 _).cell_at 0
  have e1 : ((w1.setCell ⟨w.heap.size + 1, 0, none⟩ (.bool false)).setCell ⟨w.heap.size + 1, 1, none⟩ (.slice none 0 0)).cell? ⟨w.heap.size + 1, 1, none⟩ = some (.slice none 0 0) := ((p1.store_any 0 _).store_any 1 _).cell_at 1
  have HF := Lib.hid (below_store (below_store hB1 (g := w.heap.size + 1) (i := 0) (by omega) (.bool false)) (g := w.heap.size + 1) (i := 1) (by omega) (.slice none 0 0))
  go_wp2
  (try simp only [Exit.inBlock, Exit.then])
  refine bodyPost_ret (v := .tuple #[.agg #[.bool false, .slice none 0 0], .int .i64 92]) (by simp [results, Tryz.results18, go_sem, e0, e1]) rfl ?_
  exact ⟨rfl, HF.out⟩

set_option maxHeartbeats 1600000 in
set_option maxRecDepth 100000 in
theorem sqrt_yes (w : World) (neg : Bool) (a : Option Addr) (l : List Nat) (m cap : Nat) (hlay : Lay .u32 w a l) (hlim : Lim l) (hm : m = l.length) (hl : m ≤ 9223372036854775807) (hmay : mayB neg l = true) (hneg : neg = false) :
    Calls Tryz.prog 18 #[.agg #[.bool neg, .slice a m cap]] w fun e w' => Answer true w w' e (rootN (val l) : Nat) := by
  obtain ⟨W, hWe, r0, r1, hW, hsz⟩ := rows2 w 24 (.bool neg) (.slice a m cap) (.bool false) (.slice none 0 0)
  have HWe := Lib.hid hWe; clear hWe
  have hM := large_May W neg a l m cap (hlay.below hW) hlim hm hl
  rw [hmay] at hM
  have HM := Lib.hid hM; clear hM
  subst hneg
  have hm10 : m ≤ 1024 := by rw [hm]; exact (mayB_int hlim hmay).2.2
  have hWd := fun (w1 : World) (hb : Below W.heap.size W w1) => at_wide ((At.refl w1).new) false a l m cap (hlay.below (hW.trans (hb.mono hW.size))) hlim hm (by omega)
  obtain ⟨x, hx⟩ : ∃ x, x = signed false (val l) := ⟨_, rfl⟩
  rw [← hx] at hWd
  have HWd := Lib.hid hWd; clear hWd
  have hxn : x.natAbs = val l := by rw [hx, signed_abs]
  have lx : (rep x.natAbs).length ≤ 1048576 := by rw [hxn]; exact Nat.le_trans (rep_val_le hlim) (by omega)
  obtain ⟨z, hz⟩ : ∃ z : Int, z = (rootN x.natAbs : Nat) := ⟨_, rfl⟩
  have lz : (rep z.natAbs).length ≤ 68719476736 := by rw [hz, Int.natAbs_natCast]; exact Nat.le_trans (rep_mono (root_le _)) (by omega)
  rw [← hxn, ← hz]
  have HZ := Lib.hid hz
  clear hx hxn hmay hlim hm hz
  go_enter Tryz.func18, Tryz.ntmps18
  go_wp2_with fail
  rw [← HWe.out]
  refine HM.out.mono ?_
  rintro e w1 ⟨rfl, hb1⟩
  have p0 := r0.below hb1 r0.lt
  have p1 := r1.below hb1 r1.lt
  have c0 := p0.cell_at 0
  have c1 := p0.cell_at 1
  simp only [List.getElem?_cons_zero, List.getElem?_cons_succ] at c0 c1
  have hB1 : Below w.heap.size w w1 := hW.trans (hb1.mono hW.size)
  have g0 := (p0.alloc (.cells #[.bool false, .slice none 0 0] 117)).cell_at 0
  have g1 := (p0.alloc (.cells #[.bool false, .slice none 0 0] 117)).cell_at 1
  simp only [List.getElem?_cons_zero, List.getElem?_cons_succ] at g0 g1
  go_wp2_with fail
  refine (HWd.out w1 hb1).mono ?_
  rintro e w2 ⟨p, rfl, h2⟩
  go_wp2_with fail
  refine (at_sqrt h2 (.tail _ (.head _)) (.head _) lx).mono ?_
  rw [← HZ.out]
  rintro e w3 ⟨rfl, h3⟩
  have m3 := mem_upd z (show (w1.heap.size, (0 : Int)) ∈ [(p, x), (w1.heap.size, (0 : Int))] from .tail _ (.head _))
  go_wp2_with fail
  refine (at_narrow_shape h3 m3 lz).mono ?_
  rintro e w5 ⟨⟨b', a', n', c', k', rfl, hnext⟩, h5⟩
  have HN := Lib.hid hnext; clear hnext
  have hB5 := hB1.trans (h5.below.mono hB1.size)
  have hR := p1.below h5.below p1.lt
  clear c0 c1 g0 g1
  have k0 := hR.cell_at 0
  have k1 := hR.cell_at 1
  have k2 := hR.free 0
  have k3 := hR.free 1
  simp only [List.getElem?_cons_zero, List.getElem?_cons_succ] at k0 k1
  have e0 : (w5.setCell ⟨w.heap.size + 1, 0, none⟩ (.bool b')).cell? ⟨w.heap.size + 1, 0, none⟩ = some (.bool b') := (hR.store_any 0 _).cell_at 0
  have e1 : ((w5.setCell ⟨w.heap.size + 1, 0, none⟩ (.bool b')).setCell ⟨w.heap.size + 1, 1, none⟩ (.slice a' n' c')).cell? ⟨w.heap.size + 1, 1, none⟩ = some (.slice a' n' c') := ((hR.store_any 0 _).store_any 1 _).cell_at 1
  have HF := Lib.hid (below_store (below_store hB5 (g := w.heap.size + 1) (i := 0) (by omega) (.bool b')) (g := w.heap.size + 1) (i := 1) (by omega) (.slice a' n' c'))
  go_wp2
  (try simp only [Exit.inBlock, Exit.then])
  refine bodyPost_ret (v := .tuple #[.agg #[.bool b', .slice a' n' c'], .int .i64 k']) (by simp [results, Tryz.results18, go_sem, e0, e1]) rfl ?_
  exact HN.out _ _ HF.out (fun l hl => hl.pair hR _ _)

end Go.Proofs.YtbffpkmfhkphdaaGreatDoor
