/- What the laws' walks take of the answers of package large. The walk of large.Bits. -/
import Derived.Test.YtbffpkmfhkphdaaGreatDoorGX40
import Derived.Test.YtbffpkmfhkphdaaGreatDoorGX26
import Derived.Test.YtbffpkmfhkphdaaGreatDoorGX27
import Derived.Test.YtbffpkmfhkphdaaGreatDoorGX21
import Derived.Test.YtbffpkmfhkphdaaGreatDoorGX29
import Derived.Test.YtbffpkmfhkphdaaGreatDoorGX08
import Derived.Test.YtbffpkmfhkphdaaGreatDoorGX37
import Derived.Test.YtbffpkmfhkphdaaGreatDoorLShiftC
import Derived.Deep.DeepCutAuto
set_option linter.unusedVariables false
set_option linter.unusedSimpArgs false
namespace Go.Proofs.YtbffpkmfhkphdaaGreatDoor
open Go Go.RowKit Limb

/-- An integer's value, its parts under names. -/
theorem ApiV.open {w : World} {u : Value} {z : Int} (h : ApiV w u z) : ∃ b a n c, u = .agg #[.bool b, .slice a n c] ∧ Hid (b = decide (z < 0) ∧ n = (rep z.natAbs).length ∧ n ≤ c ∧ Lay .u32 w a (rep z.natAbs)) := by
  obtain ⟨a, c, e, h1, h2⟩ := h
  exact ⟨_, a, _, c, e, Lib.hid ⟨rfl, rfl, h1, h2⟩⟩

/-- An integer of package api, as it came in: may be, or not. -/
def Came (w : World) (b : Bool) (a : Option Addr) (n : Nat) (l : List Nat) : Prop := Lay .u32 w a l ∧ Lim l ∧ n = l.length ∧ n ≤ 9223372036854775807

theorem Came.below {w w' : World} {b : Bool} {a : Option Addr} {n : Nat} {l : List Nat} (h : Came w b a n l) (hb : Below w.heap.size w w') : Came w' b a n l := ⟨h.1.below hb, h.2⟩

theorem signed_rep (z : Int) : signed (decide (z < 0)) (val (rep z.natAbs)) = z := by
  rw [val_rep]; unfold signed
  by_cases h : z < 0
  · simp [h]; omega
  · simp [h]; omega
theorem mayB_small {z : Int} (h : (rep z.natAbs).length ≤ 1024) : mayB (decide (z < 0)) (rep z.natAbs) = true := by
  rw [mayB_rep, decide_eq_true h]
/-- One that may be: its number. -/
theorem Came.api {w : World} {b : Bool} {a : Option Addr} {n c : Nat} {l : List Nat} (h : Came w b a n l) (hm : mayB b l = true) (hc : n ≤ c) : ApiV w (.agg #[.bool b, .slice a n c]) (signed b (val l)) := by
  obtain ⟨h1, h2, h3, h4⟩ := h
  obtain ⟨e1, e2, e3⟩ := mayB_int h2 hm
  refine ⟨a, c, ?_, ?_, ?_⟩
  · rw [← e1, ← e2, h3]
  · rw [← e1, ← h3]; exact hc
  · rw [← e1]; exact h1
theorem Came.len {w : World} {b : Bool} {a : Option Addr} {n : Nat} {l : List Nat} (h : Came w b a n l) (hm : mayB b l = true) : (rep (signed b (val l)).natAbs).length ≤ 1024 := by
  obtain ⟨e1, e2, e3⟩ := mayB_int h.2.1 hm
  rw [← e1]; exact e3

/-- The answers. -/
theorem Answer.ok {w w' : World} {e : Ending} {z : Int} (h : Answer true w w' e z) (hl : (rep z.natAbs).length ≤ 1024) :
    ∃ b a n c, e = .returned (.tuple #[.agg #[.bool b, .slice a n c], .int .i64 0]) ∧ Hid (ApiV w' (.agg #[.bool b, .slice a n c]) z) ∧ Below w.heap.size w w' := by
  have h : ApiRes w w' e z := h
  obtain ⟨hb, ⟨h1, h2⟩ | ⟨h1, v, h2, a, n, cap, h3, h4, h5, h6⟩⟩ := h
  · omega
  · subst h3; subst h4
    exact ⟨_, _, _, _, h2, Lib.hid ⟨a, cap, rfl, h5, h6⟩, hb⟩
theorem Answer.long {w w' : World} {e : Ending} {z : Int} (h : Answer true w w' e z) (hl : 1024 < (rep z.natAbs).length) :
    e = .returned (.tuple #[.agg #[.bool false, .slice none 0 0], .int .i64 2]) ∧ Below w.heap.size w w' := by
  have h : ApiRes w w' e z := h
  obtain ⟨hb, ⟨h1, h2⟩ | ⟨h1, v, h2, a, n, cap, h3, h4, h5, h6⟩⟩ := h
  · exact ⟨h2, hb⟩
  · omega
theorem Answer.bad {w w' : World} {e : Ending} {z : Int} (h : Answer false w w' e z) :
    e = .returned (.tuple #[.agg #[.bool false, .slice none 0 0], .int .i64 1]) ∧ Below w.heap.size w w' := h
theorem DivAnswer.ok {fl : Bool} {w w' : World} {e : Ending} {x y : Int} (h : DivAnswer true fl w w' e x y) (hy : y ≠ 0) :
    ∃ b a n c b' a' n' c', e = .returned (.tuple #[.agg #[.bool b, .slice a n c], .agg #[.bool b', .slice a' n' c'], .int .i64 0]) ∧
      Hid (ApiV w' (.agg #[.bool b, .slice a n c]) (dquo fl x y) ∧ ApiV w' (.agg #[.bool b', .slice a' n' c']) (drem fl x y)) ∧ Below w.heap.size w w' := by
  unfold DivAnswer at h
  rw [if_neg (by decide), if_neg hy] at h
  obtain ⟨hb, aq, cq, ar, cr, h1, h2, h3, h4, h5⟩ := h
  exact ⟨_, _, _, _, _, _, _, _, h1, Lib.hid ⟨⟨aq, cq, rfl, h2, h4⟩, ⟨ar, cr, rfl, h3, h5⟩⟩, hb⟩
theorem DivAnswer.zero {fl : Bool} {w w' : World} {e : Ending} {x y : Int} (h : DivAnswer true fl w w' e x y) (hy : y = 0) :
    e = .returned (.tuple #[.agg #[.bool false, .slice none 0 0], .agg #[.bool false, .slice none 0 0], .int .i64 90]) ∧ Below w.heap.size w w' := by
  unfold DivAnswer at h
  rw [if_neg (by decide), if_pos hy] at h
  exact ⟨h.2, h.1⟩
theorem DivAnswer.bad {fl : Bool} {w w' : World} {e : Ending} {x y : Int} (h : DivAnswer false fl w w' e x y) :
    e = .returned (.tuple #[.agg #[.bool false, .slice none 0 0], .agg #[.bool false, .slice none 0 0], .int .i64 1]) ∧ Below w.heap.size w w' := by
  unfold DivAnswer at h
  rw [if_pos rfl] at h
  exact ⟨h.2, h.1⟩

/-- The digits by a count, so that they can be reckoned. -/
def digsF (b : Nat) : Nat → Nat → List Nat
  | 0, _ => []
  | f + 1, n => if n = 0 then [] else n % b :: digsF b f (n / b)
theorem digs_fuel {b : Nat} (hb : 2 ≤ b) : ∀ (f n : Nat), n < 2 ^ f → digs b n = digsF b f n
  | 0, n, h => by rw [Nat.pow_zero] at h; rw [show n = 0 by omega, digs_zero]; rfl
  | f + 1, n, h => by
    unfold digsF
    by_cases hn : n = 0
    · rw [if_pos hn, hn, digs_zero]
    · rw [if_neg hn, digs_pos hb (by omega), digs_fuel hb f (n / b)]
      rw [Nat.pow_succ] at h
      have h1 : n / b ≤ n / 2 := Nat.div_le_div_left hb (by decide)
      omega
theorem awake_text : utxt 10 ((2 : Int) ^ 100) = [49, 50, 54, 55, 54, 53, 48, 54, 48, 48, 50, 50, 56, 50, 50, 57, 52, 48, 49, 52, 57, 54, 55, 48, 51, 50, 48, 53, 51, 55, 54] := by
  unfold utxt ztxt txt
  rw [digs_fuel (by decide) 128 _ (by decide)]
  decide

end Go.Proofs.YtbffpkmfhkphdaaGreatDoor

namespace Go.Proofs.YtbffpkmfhkphdaaGreatDoor
open Go Go.RowKit Limb

theorem at_neg {w1 X : World} {l : List (Nat × Int)} {p q : Nat} {v z : Int} (h : At w1 X l) (hp : (p, v) ∈ l) (hq : (q, z) ∈ l) (hs : (rep z.natAbs).length ≤ 68719476736) :
    Calls Tryz.prog 74 #[.pointer (some ⟨p, 0, none⟩), .pointer (some ⟨q, 0, none⟩)] X fun e X' => e = .returned (.pointer (some ⟨p, 0, none⟩)) ∧ At w1 X' (upd l p (-z)) := by
  refine (int_neg X p q v z (h.ints _ hp).1 (h.ints _ hq).1 hs).mono ?_
  rintro e X' ⟨rfl, h1, h2⟩
  exact ⟨rfl, h.set hp h2 h1⟩
theorem may_pos {neg : Bool} {l : List Nat} (hl : Lim l) (h : mayB neg l = true) : (neg = true → 0 < val l) ∧ l.length ≤ 1024 ∧ (val l : Int) = (signed neg (val l)).natAbs ∧ signed neg (val l) = if neg then -(val l : Int) else (val l : Int) := by
  obtain ⟨h1, h2, h3⟩ := mayB_int hl h
  refine ⟨fun hn => ?_, h3, by rw [signed_abs], by unfold signed; rfl⟩
  subst hn
  rcases Nat.eq_zero_or_pos (val l) with h0 | h0
  · rw [h0] at h2; simp [signed] at h2
  · exact h0
/-- Joining's number of an operation. -/
def Joins (op : Int) (k : Nat) (g : FuncId) : Prop := (op = 1 ∧ k = 1 ∧ g = 66) ∨ (op = 2 ∧ k = 2 ∧ g = 67) ∨ (op = 3 ∧ k = 3 ∧ g = 68)
theorem Joins.enters {op : Int} {k : Nat} {g : FuncId} (h : Joins op k g) : entersB Tryz.prog g = true ∧ (∀ (X : World) (x y : Nat), x < 4294967296 → y < 4294967296 → Calls Tryz.prog g #[.int .u32 (x : Nat), .int .u32 (y : Nat)] X fun e X' => e = .returned (.int .u32 (bop k x y : Nat)) ∧ X' = X) := by
  rcases h with ⟨_, rfl, rfl⟩ | ⟨_, rfl, rfl⟩ | ⟨_, rfl, rfl⟩
  · exact ⟨by kernel_rfl, fun X x y hx hy => bits_and X x y hx hy⟩
  · exact ⟨by kernel_rfl, fun X x y hx hy => bits_or X x y hx hy⟩
  · exact ⟨by kernel_rfl, fun X x y hx hy => bits_xor X x y hx hy⟩
theorem bop_other (k : Nat) (h : ¬ (k = 1 ∨ k = 2)) : bop k = bop 3 := by
  funext x y; unfold bop; rw [if_neg (by omega), if_neg (by omega), if_neg (by decide), if_neg (by decide)]

set_option maxHeartbeats 6400000 in
set_option maxRecDepth 1000000 in
theorem bits_low (w : World) (op : Int) (n1 n2 : Bool) (a1 a2 : Option Addr) (l1 l2 : List Nat) (m1 m2 c1 c2 : Nat) (hy1 : Lay .u32 w a1 l1) (hy2 : Lay .u32 w a2 l2) (hl1 : Lim l1) (hl2 : Lim l2) (hm1 : m1 = l1.length) (hm2 : m2 = l2.length) (hb1 : m1 ≤ 9223372036854775807) (hb2 : m2 ≤ 9223372036854775807) (h : op < 1) :
    Calls Tryz.prog 10 #[.int .i64 op, .agg #[.bool n1, .slice a1 m1 c1], .agg #[.bool n2, .slice a2 m2 c2]] w fun e w' => e = errRange ∧ Below w.heap.size w w' := by
  obtain ⟨r0, r1, r2, hW, hsz⟩ := rows3 w 24 (.bool n1) (.slice a1 m1 c1) (.bool n2) (.slice a2 m2 c2) (.bool false) (.slice none 0 0)
  obtain ⟨W, hWe⟩ : ∃ W, W = ((w.alloc (.cells #[.bool n1, .slice a1 m1 c1] 24)).alloc (.cells #[.bool n2, .slice a2 m2 c2] 24)).alloc (.cells #[.bool false, .slice none 0 0] 24) := ⟨_, rfl⟩
  rw [← hWe] at r0 r1 r2 hW hsz
  have HWe := Lib.hid hWe; clear hWe
  have d0 : decide (op < 1) = true := decide_eq_true h
  have k0 := r2.cell_at 0
  have k1 := r2.cell_at 1
  have k2 := r2.free 0
  have k3 := r2.free 1
  simp only [List.getElem?_cons_zero, List.getElem?_cons_succ] at k0 k1
  have e0 : (W.setCell ⟨w.heap.size + 1 + 1, 0, none⟩ (.bool false)).cell? ⟨w.heap.size + 1 + 1, 0, none⟩ = some (.bool false) := (r2.store_any 0 _).cell_at 0
  have e1 : ((W.setCell ⟨w.heap.size + 1 + 1, 0, none⟩ (.bool false)).setCell ⟨w.heap.size + 1 + 1, 1, none⟩ (.slice none 0 0)).cell? ⟨w.heap.size + 1 + 1, 1, none⟩ = some (.slice none 0 0) := ((r2.store_any 0 _).store_any 1 _).cell_at 1
  have HF := Lib.hid (below_store (below_store hW (g := w.heap.size + 1 + 1) (i := 0) (by omega) (.bool false)) (g := w.heap.size + 1 + 1) (i := 1) (by omega) (.slice none 0 0))
  rw [HWe.out] at k0 k1 k2 k3 e0 e1
  have HF2 := hW
  rw [HWe.out] at HF2
  have HF := Lib.hid HF2
  clear HF2 r0 r1 r2 hy1 hy2 hl1 hl2 hm1 hm2 hb1 hb2
  go_enter Tryz.func10, Tryz.ntmps10
  go_wp2
  (try simp only [Exit.inBlock, Exit.then])
  refine bodyPost_ret (v := .tuple #[.agg #[.bool false, .slice none 0 0], .int .i64 1]) (by simp [results, Tryz.results10, go_sem, e0, e1]) rfl ?_
  exact ⟨rfl, HF.out⟩

set_option maxHeartbeats 6400000 in
set_option maxRecDepth 1000000 in
theorem bits_high (w : World) (op : Int) (n1 n2 : Bool) (a1 a2 : Option Addr) (l1 l2 : List Nat) (m1 m2 c1 c2 : Nat) (hy1 : Lay .u32 w a1 l1) (hy2 : Lay .u32 w a2 l2) (hl1 : Lim l1) (hl2 : Lim l2) (hm1 : m1 = l1.length) (hm2 : m2 = l2.length) (hb1 : m1 ≤ 9223372036854775807) (hb2 : m2 ≤ 9223372036854775807) (h : 3 < op) :
    Calls Tryz.prog 10 #[.int .i64 op, .agg #[.bool n1, .slice a1 m1 c1], .agg #[.bool n2, .slice a2 m2 c2]] w fun e w' => e = errRange ∧ Below w.heap.size w w' := by
  obtain ⟨r0, r1, r2, hW, hsz⟩ := rows3 w 24 (.bool n1) (.slice a1 m1 c1) (.bool n2) (.slice a2 m2 c2) (.bool false) (.slice none 0 0)
  obtain ⟨W, hWe⟩ : ∃ W, W = ((w.alloc (.cells #[.bool n1, .slice a1 m1 c1] 24)).alloc (.cells #[.bool n2, .slice a2 m2 c2] 24)).alloc (.cells #[.bool false, .slice none 0 0] 24) := ⟨_, rfl⟩
  rw [← hWe] at r0 r1 r2 hW hsz
  have HWe := Lib.hid hWe; clear hWe
  have d0 : decide (op < 1) = false := decide_eq_false (by omega)
  have d1 : decide (3 < op) = true := decide_eq_true h
  have k0 := r2.cell_at 0
  have k1 := r2.cell_at 1
  have k2 := r2.free 0
  have k3 := r2.free 1
  simp only [List.getElem?_cons_zero, List.getElem?_cons_succ] at k0 k1
  have e0 : (W.setCell ⟨w.heap.size + 1 + 1, 0, none⟩ (.bool false)).cell? ⟨w.heap.size + 1 + 1, 0, none⟩ = some (.bool false) := (r2.store_any 0 _).cell_at 0
  have e1 : ((W.setCell ⟨w.heap.size + 1 + 1, 0, none⟩ (.bool false)).setCell ⟨w.heap.size + 1 + 1, 1, none⟩ (.slice none 0 0)).cell? ⟨w.heap.size + 1 + 1, 1, none⟩ = some (.slice none 0 0) := ((r2.store_any 0 _).store_any 1 _).cell_at 1
  have HF := Lib.hid (below_store (below_store hW (g := w.heap.size + 1 + 1) (i := 0) (by omega) (.bool false)) (g := w.heap.size + 1 + 1) (i := 1) (by omega) (.slice none 0 0))
  rw [HWe.out] at k0 k1 k2 k3 e0 e1
  have HF2 := hW
  rw [HWe.out] at HF2
  have HF := Lib.hid HF2
  clear HF2 r0 r1 r2 hy1 hy2 hl1 hl2 hm1 hm2 hb1 hb2
  go_enter Tryz.func10, Tryz.ntmps10
  go_wp2
  (try simp only [Exit.inBlock, Exit.then])
  refine bodyPost_ret (v := .tuple #[.agg #[.bool false, .slice none 0 0], .int .i64 1]) (by simp [results, Tryz.results10, go_sem, e0, e1]) rfl ?_
  exact ⟨rfl, HF.out⟩

set_option maxHeartbeats 6400000 in
set_option maxRecDepth 1000000 in
theorem bits_no (w : World) (op : Int) (n1 n2 : Bool) (a1 a2 : Option Addr) (l1 l2 : List Nat) (m1 m2 c1 c2 : Nat) (hy1 : Lay .u32 w a1 l1) (hy2 : Lay .u32 w a2 l2) (hl1 : Lim l1) (hl2 : Lim l2) (hm1 : m1 = l1.length) (hm2 : m2 = l2.length) (hb1 : m1 ≤ 9223372036854775807) (hb2 : m2 ≤ 9223372036854775807) (hok : (mayB n1 l1 && mayB n2 l2) = false) (h1 : 1 ≤ op) (h3 : op ≤ 3) :
    Calls Tryz.prog 10 #[.int .i64 op, .agg #[.bool n1, .slice a1 m1 c1], .agg #[.bool n2, .slice a2 m2 c2]] w fun e w' => e = errRange ∧ Below w.heap.size w w' := by
  obtain ⟨r0, r1, r2, hW, hsz⟩ := rows3 w 24 (.bool n1) (.slice a1 m1 c1) (.bool n2) (.slice a2 m2 c2) (.bool false) (.slice none 0 0)
  obtain ⟨W, hWe⟩ : ∃ W, W = ((w.alloc (.cells #[.bool n1, .slice a1 m1 c1] 24)).alloc (.cells #[.bool n2, .slice a2 m2 c2] 24)).alloc (.cells #[.bool false, .slice none 0 0] 24) := ⟨_, rfl⟩
  rw [← hWe] at r0 r1 r2 hW hsz
  have HWe := Lib.hid hWe; clear hWe
  have hmay := fun h1 h2 h3 => large_may2 (W.alloc (.cells #[.bool n1, .slice a1 m1 c1, .bool n2, .slice a2 m2 c2] 24)) (w.heap.size + 1 + 1 + 1) n1 n2 a1 a2 l1 l2 m1 m2 c1 c2 h1 h2 h3 hl1 hl2 hm1 hm2 hb1 hb2
  have hmay' := hmay (by rw [← hsz]; exact row2slice _ _ _) ((hy1.below hW).below ((Below.refl _ _).alloc (Nat.le_refl _) _)) ((hy2.below hW).below ((Below.refl _ _).alloc (Nat.le_refl _) _))
  rw [hok] at hmay'
  have HM := Lib.hid hmay'; clear hmay hmay'
  have q0 := r0.cell_at 0
  have q1 := r0.cell_at 1
  have q2 := r1.cell_at 0
  have q3 := r1.cell_at 1
  simp only [List.getElem?_cons_zero, List.getElem?_cons_succ] at q0 q1 q2 q3
  have d0 : decide (op < 1) = false := decide_eq_false (by omega)
  have d1 : decide (3 < op) = false := decide_eq_false (by omega)
  clear hy1 hy2 hl1 hl2 hm1 hm2 hb1 hb2
  go_enter Tryz.func10, Tryz.ntmps10
  go_wp2_with fail
  rw [← HWe.out]
  refine HM.out.mono ?_
  rintro e w1 ⟨rfl, hbw⟩
  have hbw' := below_over hbw
  have hB1 : Below w.heap.size w w1 := hW.trans (hbw'.mono hW.size)
  have hR := r2.below hbw' r2.lt
  have hsz1 := hbw'.size
  have k0 := hR.cell_at 0
  have k1 := hR.cell_at 1
  have k2 := hR.free 0
  have k3 := hR.free 1
  simp only [List.getElem?_cons_zero, List.getElem?_cons_succ] at k0 k1
  have e0 : (w1.setCell ⟨w.heap.size + 1 + 1, 0, none⟩ (.bool false)).cell? ⟨w.heap.size + 1 + 1, 0, none⟩ = some (.bool false) := (hR.store_any 0 _).cell_at 0
  have e1 : ((w1.setCell ⟨w.heap.size + 1 + 1, 0, none⟩ (.bool false)).setCell ⟨w.heap.size + 1 + 1, 1, none⟩ (.slice none 0 0)).cell? ⟨w.heap.size + 1 + 1, 1, none⟩ = some (.slice none 0 0) := ((hR.store_any 0 _).store_any 1 _).cell_at 1
  have HF := Lib.hid (below_store (below_store hB1 (g := w.heap.size + 1 + 1) (i := 0) (by omega) (.bool false)) (g := w.heap.size + 1 + 1) (i := 1) (by omega) (.slice none 0 0))
  clear hR r0 r1 r2 hbw hbw' q0 q1 q2 q3
  go_wp2
  (try simp only [Exit.inBlock, Exit.then])
  refine bodyPost_ret (v := .tuple #[.agg #[.bool false, .slice none 0 0], .int .i64 1]) (by simp [results, Tryz.results10, go_sem, e0, e1]) rfl ?_
  exact ⟨rfl, HF.out⟩

/-- What joined leaves: its words in a row of its own. -/
def Own (V : World) (n : Nat) (s : List Nat) (v : Value) (X : World) : Prop := ∃ g cap cs, v = .slice (some ⟨g, 0, none⟩) n cap ∧ n ≤ cap ∧ V.heap.size ≤ g ∧ Row X g 60 (nums .u32 s ++ cs)
theorem own_of {V X X' : World} {n : Nat} {s : List Nat} {v : Value} (hn : 0 < n) (hs : V.heap.size ≤ X.heap.size) (h : X'.ownsRow X.heap.size 60 1 v n (nums .u32 s)) : Own V n s v X' := by
  obtain ⟨a, cap, rfl, h1, h2, h3, h4⟩ := lay_of_owns h
  obtain ⟨g, cs, rfl, h5, h6, h7, h8⟩ := h4 hn
  refine ⟨g, cap, cs.drop n, rfl, h1, Nat.le_trans hs h5, ?_⟩
  rw [← h8, List.take_append_drop]; exact h6
theorem own_cell {w : World} {g : Nat} {e : TypeId} {s : List Nat} {cs : List Value} (h : Row w g e (nums .u32 s ++ cs)) {i : Nat} (hi : i < s.length) : w.cell? ⟨g, i, none⟩ = some (.int .u32 (wd s i : Nat)) := by
  rw [h.cell_at, List.getElem?_append_left (by rw [nums_length]; exact hi), nums_get hi]
theorem own_lay {w : World} {g : Nat} {e : TypeId} {s : List Nat} {cs : List Value} (h : Row w g e (nums .u32 s ++ cs)) : Lay .u32 w (some ⟨g, 0, none⟩) s :=
  ⟨g, 0, fun _ => ⟨rfl, h.lt⟩, fun i hi => by rw [Nat.zero_add]; exact own_cell h hi⟩
theorem own_store {w : World} {g : Nat} {e : TypeId} {s : List Nat} {cs : List Value} (h : Row w g e (nums .u32 s ++ cs)) {i d : Nat} (hi : i < s.length) : Row (w.setCell ⟨g, i, none⟩ (.int .u32 (d : Nat))) g e (nums .u32 (s.set i d) ++ cs) := by
  have := h.store_any i (.int .u32 (d : Nat))
  rwa [List.set_append_left _ _ (by rw [nums_length]; exact hi), ← nums_set] at this

set_option maxHeartbeats 6400000 in
set_option maxRecDepth 1000000 in
theorem bits_yes (w : World) (op : Int) (n1 n2 : Bool) (a1 a2 : Option Addr) (l1 l2 : List Nat) (m1 m2 c1 c2 : Nat) (hy1 : Lay .u32 w a1 l1) (hy2 : Lay .u32 w a2 l2) (hl1 : Lim l1) (hl2 : Lim l2) (hm1 : m1 = l1.length) (hm2 : m2 = l2.length) (hb1 : m1 ≤ 9223372036854775807) (hb2 : m2 ≤ 9223372036854775807) (hok : (mayB n1 l1 && mayB n2 l2) = true) (k : Nat) (g : FuncId) (hj : Joins op k g) (x y : Int) (hx : x = signed n1 (val l1)) (hy : y = signed n2 (val l2)) (n : Nat) (hn : n = max m1 m2 + 1) :
    Calls Tryz.prog 10 #[.int .i64 op, .agg #[.bool n1, .slice a1 m1 c1], .agg #[.bool n2, .slice a2 m2 c2]] w fun e w' => Answer true w w' e (bitsZ k n x y) := by
  obtain ⟨r0, r1, r2, hW, hsz⟩ := rows3 w 24 (.bool n1) (.slice a1 m1 c1) (.bool n2) (.slice a2 m2 c2) (.bool false) (.slice none 0 0)
  obtain ⟨W, hWe⟩ : ∃ W, W = ((w.alloc (.cells #[.bool n1, .slice a1 m1 c1] 24)).alloc (.cells #[.bool n2, .slice a2 m2 c2] 24)).alloc (.cells #[.bool false, .slice none 0 0] 24) := ⟨_, rfl⟩
  rw [← hWe] at r0 r1 r2 hW hsz
  have HWe := Lib.hid hWe; clear hWe
  obtain ⟨hok1, hok2⟩ := Bool.and_eq_true_iff.1 hok
  obtain ⟨hp1, hc1, _, hs1⟩ := may_pos hl1 hok1
  obtain ⟨hp2, hc2, _, hs2⟩ := may_pos hl2 hok2
  have h1 : 1 ≤ op := by rcases hj with ⟨rfl, _, _⟩ | ⟨rfl, _, _⟩ | ⟨rfl, _, _⟩ <;> decide
  have h3 : op ≤ 3 := by rcases hj with ⟨rfl, _, _⟩ | ⟨rfl, _, _⟩ | ⟨rfl, _, _⟩ <;> decide
  have hmay := fun h1 h2 h3 => large_may2 (W.alloc (.cells #[.bool n1, .slice a1 m1 c1, .bool n2, .slice a2 m2 c2] 24)) (w.heap.size + 1 + 1 + 1) n1 n2 a1 a2 l1 l2 m1 m2 c1 c2 h1 h2 h3 hl1 hl2 hm1 hm2 hb1 hb2
  have hmay' := hmay (by rw [← hsz]; exact row2slice _ _ _) ((hy1.below hW).below ((Below.refl _ _).alloc (Nat.le_refl _) _)) ((hy2.below hW).below ((Below.refl _ _).alloc (Nat.le_refl _) _))
  rw [hok] at hmay'
  have HM := Lib.hid hmay'; clear hmay hmay'
  have q0 := r0.cell_at 0
  have q1 := r0.cell_at 1
  have q2 := r1.cell_at 0
  have q3 := r1.cell_at 1
  simp only [List.getElem?_cons_zero, List.getElem?_cons_succ] at q0 q1 q2 q3
  have d0 : decide (op < 1) = false := decide_eq_false (by omega)
  have d1 : decide (3 < op) = false := decide_eq_false (by omega)
  have hmax : ∀ (ts : Array TypeId) (t : TypeId) (X : World), (Builtin.max_ ts t #[.int .i64 (m1 : Nat), .int .i64 (m2 : Nat)]).run Tryz.prog X = .ok (.int .i64 ((max m1 m2 : Nat) : Int)) X := by
    intro ts t X
    rw [run_max_int2]
    by_cases h : m1 < m2
    · rw [if_pos (by omega), Nat.max_eq_right (by omega)]
    · rw [if_neg (by omega), Nat.max_eq_left (by omega)]
  obtain ⟨N, hN⟩ : ∃ N, N = max m1 m2 := ⟨_, rfl⟩
  rw [← hN] at hmax hn
  have hn1 : m1 ≤ n := by omega
  have hn2 : m2 ≤ n := by omega
  have hnb : n ≤ 1073741824 := by omega
  have hn1025 : n ≤ 1025 := by omega
  have hn0 : 0 < n := by omega
  have hNn : N < n := by omega
  have eN : (N : Int) + 1 = (n : Int) := by omega
  have eN1 : (n : Int) - 1 = (N : Int) := by omega
  have eN2 : n - 1 = N := by omega
  have HMax := Lib.hid hmax
  have HX := Lib.hid (hx.trans hs1)
  have HYY := Lib.hid (hy.trans hs2)
  have HL1 := Lib.hid hl1
  have HL2 := Lib.hid hl2
  have HM1 := Lib.hid hm1
  have HM2 := Lib.hid hm2
  have HP1 := Lib.hid hp1
  have HP2 := Lib.hid hp2
  have HJ := Lib.hid hj.enters
  have HJJ := Lib.hid hj
  have hlW1 := hy1.below hW
  have hlW2 := hy2.below hW
  clear hn hN hmax hx hy hs1 hs2 hl1 hl2 hm1 hm2 hp1 hp2 hj hok hok1 hok2 hy1 hy2 h1 h3 hb1 hb2 hc1 hc2
  go_enter Tryz.func10, Tryz.ntmps10
  go_wp2_with fail
  rw [← HWe.out]
  refine HM.out.mono ?_
  rintro e V ⟨rfl, hbw⟩
  have hbw' := below_over hbw
  have hB1 : Below w.heap.size w V := hW.trans (hbw'.mono hW.size)
  have hsV : w.heap.size + 1 + 1 < V.heap.size := by have := hbw'.size; omega
  replace r0 := r0.below hbw' r0.lt
  replace r1 := r1.below hbw' r1.lt
  have hR := r2.below hbw' r2.lt
  replace hlW1 := hlW1.below hbw'
  replace hlW2 := hlW2.below hbw'
  clear r2 hbw hbw' HM q0 q1 q2 q3 hW hsz
  have q0 := r0.cell_at 0
  have q1 := r0.cell_at 1
  have q2 := r1.cell_at 0
  have q3 := r1.cell_at 1
  simp only [List.getElem?_cons_zero, List.getElem?_cons_succ] at q0 q1 q2 q3
  have HR0 := Lib.hid (fun X (h : Below V.heap.size V X) => show X.cell? ⟨w.heap.size, 0, none⟩ = some (.bool n1) ∧ X.cell? ⟨w.heap.size, 1, none⟩ = some (.slice a1 m1 c1) from ⟨(r0.below h r0.lt).cell_at 0, (r0.below h r0.lt).cell_at 1⟩)
  have HR1 := Lib.hid (fun X (h : Below V.heap.size V X) => show X.cell? ⟨w.heap.size + 1, 0, none⟩ = some (.bool n2) ∧ X.cell? ⟨w.heap.size + 1, 1, none⟩ = some (.slice a2 m2 c2) from ⟨(r1.below h r1.lt).cell_at 0, (r1.below h r1.lt).cell_at 1⟩)
  have HY1 := Lib.hid (fun X (h : Below V.heap.size V X) => hlW1.below h)
  have HY2 := Lib.hid (fun X (h : Below V.heap.size V X) => hlW2.below h)
  have HRR := Lib.hid (fun X (h : Below V.heap.size V X) => hR.below h hR.lt)
  have HS := Lib.hid (fun (v : Value) (X X' : World) (h : X'.ownsRow X.heap.size 60 1 v n (nums .u32 (bjoin k (two n x) (two n y)))) (hs : V.heap.size ≤ X.heap.size) => own_of hn0 hs h)
  clear r0 r1 hR hlW1 hlW2
  have hix1 : ∀ X : World, (Instr.index 100 (.agg #[.nilFunc, .func (.func 66) #[] #[], .func (.func 67) #[] #[], .func (.func 68) #[] #[]]) (.int .i64 1)).run Tryz.prog X = .ok (.func (.func 66) #[] #[]) X := fun X => by kernel_rfl
  have hix2 : ∀ X : World, (Instr.index 100 (.agg #[.nilFunc, .func (.func 66) #[] #[], .func (.func 67) #[] #[], .func (.func 68) #[] #[]]) (.int .i64 2)).run Tryz.prog X = .ok (.func (.func 67) #[] #[]) X := fun X => by kernel_rfl
  have hix3 : ∀ X : World, (Instr.index 100 (.agg #[.nilFunc, .func (.func 66) #[] #[], .func (.func 67) #[] #[], .func (.func 68) #[] #[]]) (.int .i64 3)).run Tryz.prog X = .ok (.func (.func 68) #[] #[]) X := fun X => by kernel_rfl
  go_upto_region 3 with fail
  go_cut [8] (fun s8 wx => s8 = .func (.func g) #[] #[] ∧ wx = V)
  case first =>
    rcases HJJ.out with ⟨rfl, rfl, rfl⟩ | ⟨rfl, rfl, rfl⟩ | ⟨rfl, rfl, rfl⟩
    · go_wp2_with fail
      go_meet
      exact ⟨rfl, rfl⟩
    · go_wp2_with fail
      go_meet
      exact ⟨rfl, rfl⟩
    · go_wp2_with fail
      go_meet
      exact ⟨rfl, rfl⟩
  case rest =>
  obtain ⟨rfl, hV⟩ := hcut
  have hV := hV.symm
  subst hV
  clear hix1 hix2 hix3
  have hmx := HMax.out
  go_upto_region 5 with fail
  clear hmx
  go_cut [10] (fun s10 wx => ∃ v, s10 = v ∧ Own V n (bjoin k (two n x) (two n y)) v wx ∧ Below V.heap.size V wx)
  case first =>
    clear q0 q1 q2 q3
    have hX : Below V.heap.size V V.drew := (Below.refl _ _).drew
    refine wp_region_held (S := fun X => Below V.heap.size V X) (by kernel_rfl) ?_
    refine wpAnyH_take_at (i := 0) (v := .agg #[.bool n1, .slice a1 m1 c1]) 39 rfl rfl (by kernel_rfl) (by kernel_rfl) (by kernel_rfl) (fun _ _ _ h => h) (.inl ⟨rfl, fun X hX => by obtain ⟨i0, i1⟩ := HR0.out X hX; go_simp⟩) hX ?_
    simp only [Act.put, List.setIfInBounds_toArray, List.set_cons_zero, List.set_cons_succ]
    refine wpAnyH_take_at (i := 1) (v := .int .i64 (n : Nat)) 40 rfl rfl (by kernel_rfl) (by kernel_rfl) (by kernel_rfl) (fun _ _ _ h => h) (.inl ⟨rfl, fun X hX => by go_simp⟩) hX ?_
    simp only [Act.put, List.setIfInBounds_toArray, List.set_cons_zero, List.set_cons_succ]
    refine wpAnyH_take_at (i := 4) (v := .agg #[.bool n2, .slice a2 m2 c2]) 43 rfl rfl (by kernel_rfl) (by kernel_rfl) (by kernel_rfl) (fun _ _ _ h => h) (.inl ⟨rfl, fun X hX => by obtain ⟨i0, i1⟩ := HR1.out X hX; go_simp⟩) hX ?_
    simp only [Act.put, List.setIfInBounds_toArray, List.set_cons_zero, List.set_cons_succ]
    refine wpAnyH_take_at (i := 5) (v := .int .i64 (n : Nat)) 44 rfl rfl (by kernel_rfl) (by kernel_rfl) (by kernel_rfl) (fun _ _ _ h => h) (.inl ⟨rfl, fun X hX => by go_simp⟩) hX ?_
    simp only [Act.put, List.setIfInBounds_toArray, List.set_cons_zero, List.set_cons_succ]
    refine wpAnyH_take_at (i := 8) (v := .func (.func g) #[] #[]) 47 rfl rfl (by kernel_rfl) (by kernel_rfl) (by kernel_rfl) (fun _ _ _ h => h) (.inl ⟨rfl, fun X hX => by go_simp⟩) hX ?_
    simp only [Act.put, List.setIfInBounds_toArray, List.set_cons_zero, List.set_cons_succ]
    refine wpAnyH_all (rs := [2]) (by kernel_rfl) (by decide) (fun i hi => ?_)
    rw [List.mem_singleton] at hi
    subst hi
    unfold wpOp
    go_simp
    refine .inl ((large_complement _ n1 a1 l1 m1 c1 n (HY1.out _ hX) HL1.out HM1.out hn1 HP1.out x HX.out).mono ?_)
    rintro e X1 ⟨u41, rfl, hcl, hb⟩
    replace hX := hX.trans (hb.mono hX.size)
    clear hb
    obtain ⟨Bn1, Ba1, C1⟩ := hcl
    refine ⟨hX, ?_⟩
    refine wpAnyH_all (rs := [3]) (by kernel_rfl) (by decide) (fun i hi => ?_)
    rw [List.mem_singleton] at hi
    subst hi
    unfold wpOp
    go_simp
    refine .inl ((large_words _ _ n x Bn1 Ba1 n1 a1 l1 c1 hnb C1).mono ?_)
    rintro e X2 ⟨at1, ct1, rfl, hct1, T1, hb⟩
    replace hX := hX.trans (hb.mono hX.size)
    clear hb
    clear C1
    refine ⟨hX, ?_⟩
    refine wpAnyH_all (rs := [6]) (by kernel_rfl) (by decide) (fun i hi => ?_)
    rw [List.mem_singleton] at hi
    subst hi
    unfold wpOp
    go_simp
    refine .inl ((large_complement _ n2 a2 l2 m2 c2 n (HY2.out _ hX) HL2.out HM2.out hn2 HP2.out y HYY.out).mono ?_)
    rintro e X3 ⟨u45, rfl, hcl, hb⟩
    replace T1 := T1.below hb
    replace hX := hX.trans (hb.mono hX.size)
    clear hb
    obtain ⟨Bn2, Ba2, C2⟩ := hcl
    refine ⟨hX, ?_⟩
    refine wpAnyH_all (rs := [7]) (by kernel_rfl) (by decide) (fun i hi => ?_)
    rw [List.mem_singleton] at hi
    subst hi
    unfold wpOp
    go_simp
    refine .inl ((large_words _ _ n y Bn2 Ba2 n2 a2 l2 c2 hnb C2).mono ?_)
    rintro e X4 ⟨at2, ct2, rfl, hct2, T2, hb⟩
    replace T1 := T1.below hb
    replace hX := hX.trans (hb.mono hX.size)
    clear hb
    clear C2
    refine ⟨hX, ?_⟩
    refine wpAnyH_all (rs := [9]) (by kernel_rfl) (by decide) (fun i hi => ?_)
    rw [List.mem_singleton] at hi
    subst hi
    unfold wpOp
    go_simp
    refine .inl ((large_joined _ k g HJ.out.1 HJ.out.2 at1 at2 (two n x) (two n y) n ct1 ct2 T1 T2 (two_lim _ _) (two_lim _ _) (two_length _ _).symm (two_length _ _).symm (by omega)).mono ?_)
    rintro e X5 ⟨vj, rfl, hown, hb⟩
    replace T1 := T1.below hb
    replace T2 := T2.below hb
    have hsX := hX.size
    replace hX := hX.trans (hb.mono hX.size)
    clear hb
    clear T1 T2
    refine ⟨hX, ?_⟩
    refine wpAnyH_take_at (i := 10) (v := vj) 10 rfl rfl (by kernel_rfl) (by kernel_rfl) (by kernel_rfl) (fun _ _ _ h => h) (.inl ⟨rfl, fun X hX => by go_simp⟩) hX ?_
    simp only [Act.put, List.setIfInBounds_toArray, List.set_cons_zero, List.set_cons_succ]
    refine wpAnyH_done (by kernel_rfl) ?_ _
    go_wp2_with fail
    go_meet
    exact ⟨_, rfl, HS.out vj _ _ hown hsX, hX⟩
  case rest =>
  obtain ⟨_, rfl, ⟨gl, cap, cs, rfl, hcap, hgl, hrow⟩, hX⟩ := hcut
  have hRw := HRR.out _ hX
  have hBw := hB1.trans (hX.mono hB1.size)
  have hgl2 : w.heap.size ≤ gl := Nat.le_trans hB1.size hgl
  have hne : w.heap.size + 1 + 1 ≠ gl := by omega
  clear HR0 HR1 HY1 HY2 HRR HS HX HYY HL1 HL2 HM1 HM2 HP1 HP2 HJ HJJ HMax hX hgl q0 q1 q2 q3
  obtain ⟨S, hS⟩ : ∃ S, S = bjoin k (two n x) (two n y) := ⟨_, rfl⟩
  rw [← hS] at hrow
  have hSl : Hid (S.length = n) := Lib.hid (by rw [hS, bjoin_length (by rw [two_length, two_length]), two_length])
  have hSm : Hid (Lim S) := Lib.hid (by rw [hS]; exact bjoin_lim (two_lim _ _) (two_lim _ _))
  obtain ⟨z, hz⟩ : ∃ z, z = untwo S := ⟨_, rfl⟩
  have HZ : Hid (bitsZ k n x y = z) := Lib.hid (by rw [hz, hS]; rfl)
  have lz : (rep z.natAbs).length ≤ 68719476736 := by
    rw [hz]; exact Nat.le_trans (untwo_len hSm.out) (by rw [hSl.out]; omega)
  clear hS
  have hcell := own_cell hrow (i := N) (by rw [hSl.out]; exact hNn)
  have ig := row_index (P := Tryz.prog) Tryz.underlying22 size32 gl n cap .i64 (N : Int) N rfl hNn
  obtain ⟨d, hd⟩ : ∃ d, d = wd S N := ⟨_, rfl⟩
  have hdl : d < 4294967296 := by rw [hd]; exact hSm.out.wd N
  rw [← hd] at hcell
  by_cases hneg : d < 2147483648
  · have eq0 : (d : Int) / 2147483648 = 0 := by omega
    have hu := untwo_pos (s := S) (by rw [hSl.out, eN2, ← hd]; exact hneg)
    have hsg : signed false (val S) = z := by rw [hz, hu]; rfl
    clear hd hdl hneg hu hz
    go_wp2_with fail
    refine (at_wide (At.refl wc) false (some ⟨gl, 0, none⟩) S n cap (own_lay hrow) hSm.out hSl.out.symm (by omega)).mono ?_
    rintro e w4 ⟨p, rfl, h4⟩
    rw [hsg] at h4
    have hB5 := hBw
    have hR5 := hRw
    clear hcell ig hrow hBw hRw
    go_wp2_with fail
    refine (at_narrow_shape h4 (.head _) lz).mono ?_
    rintro e w9 ⟨⟨b', a', n', c', k', rfl, hnext⟩, h9⟩
    have HN := Lib.hid hnext; clear hnext
    have hB9 := hB5.trans (h9.below.mono hB5.size)
    have hR := hR5.below h9.below hR5.lt
    have k0 := hR.cell_at 0
    have k1 := hR.cell_at 1
    have k2 := hR.free 0
    have k3 := hR.free 1
    simp only [List.getElem?_cons_zero, List.getElem?_cons_succ] at k0 k1
    have e0 : (w9.setCell ⟨w.heap.size + 1 + 1, 0, none⟩ (.bool b')).cell? ⟨w.heap.size + 1 + 1, 0, none⟩ = some (.bool b') := (hR.store_any 0 _).cell_at 0
    have e1 : ((w9.setCell ⟨w.heap.size + 1 + 1, 0, none⟩ (.bool b')).setCell ⟨w.heap.size + 1 + 1, 1, none⟩ (.slice a' n' c')).cell? ⟨w.heap.size + 1 + 1, 1, none⟩ = some (.slice a' n' c') := ((hR.store_any 0 _).store_any 1 _).cell_at 1
    have HF := Lib.hid (below_store (below_store hB9 (g := w.heap.size + 1 + 1) (i := 0) (by omega) (.bool b')) (g := w.heap.size + 1 + 1) (i := 1) (by omega) (.slice a' n' c'))
    go_wp2
    (try simp only [Exit.inBlock, Exit.then])
    refine bodyPost_ret (v := .tuple #[.agg #[.bool b', .slice a' n' c'], .int .i64 k']) (by simp [results, Tryz.results10, go_sem, e0, e1]) rfl ?_
    rw [HZ.out]
    exact HN.out _ _ HF.out (fun l hl => hl.pair hR _ _)
  · have eq1 : (d : Int) / 2147483648 = 1 := by omega
    obtain ⟨hu, hua, _⟩ := untwo_neg (s := S) hSm.out (by rw [hSl.out, eN2, ← hd]; exact hneg)
    rw [← hz] at hu hua
    have HU := Lib.hid hu
    have HUA := Lib.hid hua
    clear hd hdl hneg hu hua hz
    go_wp2_with fail
    go_loopw [59] (fun i wr => ∃ j : Nat, j ≤ n ∧ i = .int .i64 j ∧ Row wr gl 60 (nums .u32 (invTo j S) ++ cs) ∧ Row wr (w.heap.size + 1 + 1) 24 [.bool false, .slice none 0 0] ∧ Below w.heap.size w wr) (fun i _ => n - (intOf i).toNat)
    case atStart => exact ⟨0, by omega, rfl, by rw [invTo_zero]; exact hrow, hRw, hBw⟩
    case round =>
      obtain ⟨j, hj, rfl, hr, hR5, hB5⟩ := hrel
      clear hcell ig hrow hBw hRw
      by_cases hlt : j < n
      · have hcell := own_cell hr (i := j) (by rw [invTo_length, hSl.out]; exact hlt)
        rw [wd_invTo _ _ (by rw [hSl.out]; exact hlt), if_neg (Nat.lt_irrefl _)] at hcell
        have hset := Lib.hid (invTo_set (l := S) (j := j) (by rw [hSl.out]; exact hlt))
        have hfk := hr.free j
        have ig := row_index (P := Tryz.prog) Tryz.underlying22 size32 gl n cap .i64 (j : Int) j rfl hlt
        obtain ⟨x', hx⟩ : ∃ x', x' = wd S j := ⟨_, rfl⟩
        have hxl : x' < 4294967296 := by rw [hx]; exact hSm.out.wd j
        rw [← hx] at hcell hset
        have e3 := u32_inv hxl
        obtain ⟨y', hy⟩ : ∃ y', y' = 4294967295 - x' := ⟨_, rfl⟩
        rw [← hy] at e3 hset
        have hlen : j < (invTo j S).length := by rw [invTo_length, hSl.out]; exact hlt
        have Hlen := Lib.hid hlen
        clear hx hxl hy hlen
        go_wp2
        go_roundw
        case rel => exact ⟨j + 1, by omega, by go_num, by rw [← hset.out]; exact e3 ▸ own_store hr Hlen.out, hR5.other (by exact hne) _, below_store hB5 hgl2 _⟩
        case measure => simp [intOf]; omega
      · obtain rfl : j = n := by omega
        rw [invTo_all (by rw [hSl.out]; exact Nat.le_refl _)] at hr
        obtain ⟨v, hv⟩ : ∃ v, v = ((val (inv S) : Nat) : Int) := ⟨_, rfl⟩
        have hsg : signed false (val (inv S)) = v := hv.symm
        have hvz : Hid (-(v + 1) = z) := Lib.hid (by rw [HU.out, hv]; omega)
        have lv : (rep v.natAbs).length ≤ 68719476736 := by rw [hv, Int.natAbs_natCast]; exact Nat.le_trans (rep_val_le (inv_lim _)) (by rw [inv_length, hSl.out]; omega)
        have lv1 : (rep (v + 1).natAbs).length ≤ 68719476736 := by
          have : (v + 1).natAbs = z.natAbs := by have := hvz.out; omega
          rw [this]; exact lz
        have hIl : Hid (j = (inv S).length) := Lib.hid (by rw [inv_length, hSl.out])
        clear hv
        go_wp2_with fail
        refine (at_wide (At.refl wr) false (some ⟨gl, 0, none⟩) (inv S) j cap (own_lay hr) (inv_lim _) hIl.out (by omega)).mono ?_
        rintro e w4 ⟨p, rfl, h4⟩
        rw [hsg] at h4
        clear hr
        go_wp2_with fail
        refine (at_newint h4 1 (by decide) (by decide)).mono ?_
        rintro e w5 ⟨q, rfl, h5⟩
        go_wp2_with fail
        refine (at_add h5 (.tail _ (.head _)) (.tail _ (.head _)) (.head _) lv (by decide)).mono ?_
        rintro e w6 ⟨rfl, h6⟩
        have m6 := mem_upd (v + 1) (show (p, v) ∈ [(q, (1 : Int)), (p, v)] from .tail _ (.head _))
        go_wp2_with fail
        refine (at_neg h6 m6 m6 lv1).mono ?_
        rintro e w7 ⟨rfl, h7⟩
        have m7 := mem_upd (-(v + 1)) m6
        rw [hvz.out] at m7 h7
        go_wp2_with fail
        refine (at_narrow_shape h7 m7 lz).mono ?_
        rintro e w9 ⟨⟨b', a', n', c', k', rfl, hnext⟩, h9⟩
        have HN := Lib.hid hnext; clear hnext
        have hB9 := hB5.trans (h9.below.mono hB5.size)
        have hR := hR5.below h9.below hR5.lt
        have k0 := hR.cell_at 0
        have k1 := hR.cell_at 1
        have k2 := hR.free 0
        have k3 := hR.free 1
        simp only [List.getElem?_cons_zero, List.getElem?_cons_succ] at k0 k1
        have e0 : (w9.setCell ⟨w.heap.size + 1 + 1, 0, none⟩ (.bool b')).cell? ⟨w.heap.size + 1 + 1, 0, none⟩ = some (.bool b') := (hR.store_any 0 _).cell_at 0
        have e1 : ((w9.setCell ⟨w.heap.size + 1 + 1, 0, none⟩ (.bool b')).setCell ⟨w.heap.size + 1 + 1, 1, none⟩ (.slice a' n' c')).cell? ⟨w.heap.size + 1 + 1, 1, none⟩ = some (.slice a' n' c') := ((hR.store_any 0 _).store_any 1 _).cell_at 1
        have HF := Lib.hid (below_store (below_store hB9 (g := w.heap.size + 1 + 1) (i := 0) (by omega) (.bool b')) (g := w.heap.size + 1 + 1) (i := 1) (by omega) (.slice a' n' c'))
        go_wp2
        (try simp only [Exit.inBlock, Exit.then])
        refine bodyPost_ret (v := .tuple #[.agg #[.bool b', .slice a' n' c'], .int .i64 k']) (by simp [results, Tryz.results10, go_sem, e0, e1]) rfl ?_
        rw [HZ.out]
        exact HN.out _ _ HF.out (fun l hl => hl.pair hR _ _)

end Go.Proofs.YtbffpkmfhkphdaaGreatDoor
