/- The walk of package oop's Unpack. A heap of the program's in memory. In a region that draws its order: an operation that yields is taken first, its slot written out. A region that draws its order and whose operations each yield one value in every world of a class: one walk. -/
import Derived.Test.YteiikhcadjdkcaaGreatDoorGX09
import Derived.Test.YteiikhcadjdkcaaGreatDoorGX11
import Derived.Laws.StructEq
import Derived.Test.YteiikhcadjdkcaaGreatDoorGX04
import Derived.Test.YteiikhcadjdkcaaGreatDoorGX02
import Derived.Deep.QuietTactic
set_option linter.unusedVariables false
set_option linter.unusedSimpArgs false
namespace Go.Proofs.YteiikhcadjdkcaaGreatDoor
open Go Go.RowKit Limb
theorem eq_w3 (a b c d e f : Int) (w : World) : (Op.equalIn 10000 122 (.agg #[.int .u32 a, .int .u32 b, .int .u32 c]) (.agg #[.int .u32 d, .int .u32 e, .int .u32 f])).run Tryz.prog w = .ok (a == d && b == e && c == f) w := by
  have u3 := Tryz.underlying29
  have a3 := Tryz.isAgg29
  have z3 := Tryz.sizeOf29
  rw [show (10000 : Nat) = 9999 + 1 from rfl, Op.equalIn]
  simp only [Sem.run_bind, run_underlying Tryz.underlying122, Result.andThen_ok]
  simp only [Std.Legacy.Range.forIn_eq_forIn_range', Std.Legacy.Range.size, Nat.sub_zero, Nat.add_sub_cancel, Nat.div_one, List.range'_succ, List.range'_zero, List.forIn_cons, List.forIn_nil]
  go_simp
  by_cases h1 : a = d <;> by_cases h2 : b = e <;> by_cases h3 : c = f <;> simp [h1, h2, h3]
attribute [local go_sem] eq_w3
theorem unpack_bits {h : Hd} (k : h.Ok) : bits .and .u32 (h.w0 : Int) 16777215 = ((h.size : Nat) : Int) ∧ bits .and .u32 ((h.w0 : Int) / 16777216) 7 = ((h.fmt : Nat) : Int) ∧ bits .and .u32 ((h.w0 : Int) / 134217728) 3 = ((h.spare : Nat) : Int) := by
  have h0 := Hd.w0_lt k
  have h1 := k.size
  have h3 := k.f4
  have h4 := k.spare
  have e : h.w0 = h.size + h.fmt * 16777216 + h.spare * 134217728 := rfl
  have d1 : (h.w0 : Int) / 16777216 = ((h.w0 / 16777216 : Nat) : Int) := by omega
  have d2 : (h.w0 : Int) / 134217728 = ((h.w0 / 134217728 : Nat) : Int) := by omega
  rw [d1, d2, show (16777215 : Int) = ((16777215 : Nat) : Int) from rfl, show (7 : Int) = ((7 : Nat) : Int) from rfl, show (3 : Int) = ((3 : Nat) : Int) from rfl,
    u32_and_nat _ _ (by omega) (by decide), u32_and_nat _ _ (by omega) (by decide), u32_and_nat _ _ (by omega) (by decide), nat_mask24, nat_mask3, nat_mask2]
  refine ⟨?_, ?_, ?_⟩ <;> congr 1 <;> omega
set_option maxHeartbeats 1600000 in
set_option maxRecDepth 1000000 in
theorem oop_unpack (w : World) (h : Hd) (k : h.Ok) (hs : Spares w) :
    Calls Tryz.prog 254 #[w3V h.w0 h.cls h.ser] w fun e w' => e = .returned (.tuple #[hdV h, .int .i64 0]) ∧ Below w.heap.size w w' := by
  obtain ⟨w0, hw0⟩ : ∃ x, x = h.w0 := ⟨_, rfl⟩
  rw [← hw0]
  obtain ⟨W, hW, r1, hb1, hz1⟩ := alloc_row w 122 [.int .u32 w0, .int .u32 h.cls, .int .u32 h.ser]
  obtain ⟨V, hV, r2, hb2, hz2⟩ := alloc_row W 102 [.int .i64 0, .int .i64 0, .int .i64 0, .int .u32 0, .int .u32 0]
  rw [hz1] at r2
  obtain ⟨U, hU, r3, hb3, hz3⟩ := alloc_row V 102 [.int .i64 h.size, .int .i64 h.fmt, .int .i64 h.spare, .int .u32 h.cls, .int .u32 h.ser]
  rw [hz2, hz1] at r3
  have hB : Below w.heap.size w U := hb1.trans ((hb2.mono (by omega)).trans (hb3.mono (by omega)))
  replace r1 := (r1.below hb2 r1.lt)
  obtain ⟨p0, p1, p2⟩ := r1.cells3
  replace r1 := (r1.below hb3 r1.lt)
  replace r2 := r2.below hb3 r2.lt
  have HV := Lib.hid (show V = (w.alloc (.cells #[.int .u32 w0, .int .u32 h.cls, .int .u32 h.ser] 122)).alloc (.cells #[.int .i64 0, .int .i64 0, .int .i64 0, .int .u32 0, .int .u32 0] 102) by rw [hV, hW])
  have HU := Lib.hid hU
  have hz4 : V.heap.size = w.heap.size + 1 + 1 := by omega
  obtain ⟨e1, e2, e3⟩ := unpack_bits k
  rw [← hw0] at e1 e2 e3
  have h1 := k.size
  have h3 := k.f4
  have h4 := k.spare
  have h5 : 5 ≤ w.heap.size := hs.1
  have HM := Lib.hid (fun X (hx : Below w.heap.size w X) => oop_may X h k (hs.below hx h5))
  have HP := Lib.hid (fun X => oop_pack0 X h k)
  have HH := Lib.hid (show hdV h = .agg #[.int .i64 h.size, .int .i64 h.fmt, .int .i64 h.spare, .int .u32 h.cls, .int .u32 h.ser] from rfl)
  rw [HH.out] at HM HP ⊢
  rw [← hw0] at HP; unfold w3V at HP
  generalize h.size = sz at *
  generalize h.fmt = f at *
  generalize h.spare = sp at *
  generalize h.cls = c at *
  generalize h.ser = s at *
  clear hV hW hU hz1 hz2 hz3 hb1 hb2 hb3 hs hw0 HH
  unfold w3V
  go_enter Tryz.func254, Tryz.ntmps254
  go_wp2_with fail
  rw [← HV.out]
  go_wp2_with fail
  rw [← HU.out]
  clear e1 e2 e3 hz4 p0 p1 p2
  have hk := fun X (h : Below U.heap.size U X) => show (X.cell? ⟨w.heap.size, 0, none⟩ = some (.int .u32 w0) ∧ X.cell? ⟨w.heap.size, 1, none⟩ = some (.int .u32 c) ∧ X.cell? ⟨w.heap.size, 2, none⟩ = some (.int .u32 s)) ∧ (X.cell? ⟨w.heap.size + 1 + 1, 0, none⟩ = some (.int .i64 sz) ∧ X.cell? ⟨w.heap.size + 1 + 1, 1, none⟩ = some (.int .i64 f) ∧ X.cell? ⟨w.heap.size + 1 + 1, 2, none⟩ = some (.int .i64 sp) ∧ X.cell? ⟨w.heap.size + 1 + 1, 3, none⟩ = some (.int .u32 c) ∧ X.cell? ⟨w.heap.size + 1 + 1, 4, none⟩ = some (.int .u32 s)) from ⟨(r1.below h r1.lt).cells3, (r3.below h r3.lt).cells5⟩
  have HK := Lib.hid hk; clear hk
  have HMU := Lib.hid (since fun X (h : Below U.heap.size U X) => HM.out X (hB.trans (h.mono hB.size)))
  have HPU := Lib.hid (since fun X (_ : Below U.heap.size U X) => HP.out X)
  have h := Below.refl U.heap.size U
  go_region_held3 (fun X => ((X.cell? ⟨w.heap.size, 0, none⟩ = some (.int .u32 w0) ∧ X.cell? ⟨w.heap.size, 1, none⟩ = some (.int .u32 c) ∧ X.cell? ⟨w.heap.size, 2, none⟩ = some (.int .u32 s)) ∧ (X.cell? ⟨w.heap.size + 1 + 1, 0, none⟩ = some (.int .i64 sz) ∧ X.cell? ⟨w.heap.size + 1 + 1, 1, none⟩ = some (.int .i64 f) ∧ X.cell? ⟨w.heap.size + 1 + 1, 2, none⟩ = some (.int .i64 sp) ∧ X.cell? ⟨w.heap.size + 1 + 1, 3, none⟩ = some (.int .u32 c) ∧ X.cell? ⟨w.heap.size + 1 + 1, 4, none⟩ = some (.int .u32 s))))
    (first | (apply HK.out; (repeat (first | exact h | apply Below.drew))))
    (first
      | (go_at_call 201; apply Calls.mono; apply HMU.out; (repeat (first | exact h | apply Below.drew)); clear h; rintro e w' ⟨rfl, h⟩)
      | (go_at_call 202; apply Calls.mono; apply HPU.out; (repeat (first | exact h | apply Below.drew)); clear h; rintro e w' ⟨rfl, h⟩))
  replace r2 := r2.below h r2.lt
  replace r3 := r3.below h r3.lt
  replace hB := hB.trans (h.mono hB.size)
  obtain ⟨p0, p1, p2, p3, p4⟩ := r3.cells5
  obtain ⟨q0, q1, q2, q3, q4⟩ := r2.cells5
  have z0 := r2.free 0
  have z1 := r2.free 1
  have z2 := r2.free 2
  have z3 := r2.free 3
  have z4 := r2.free 4
  have rr := ((((r2.store_any 0 (.int .i64 sz)).store_any 1 (.int .i64 f)).store_any 2 (.int .i64 sp)).store_any 3 (.int .u32 c)).store_any 4 (.int .u32 s)
  obtain ⟨f0, f1, f2, f3, f4⟩ := Row.cells5 rr
  clear h r1 HK HMU HPU HM HP HU HV h1 h3 h4 rr
  go_wp2_with fail
  refine bodyPost_ret (v := .tuple #[.agg #[.int .i64 sz, .int .i64 f, .int .i64 sp, .int .u32 c, .int .u32 s], .int .i64 0]) (by simp [results, Tryz.results254, go_sem, f0, f1, f2, f3, f4]) rfl ⟨rfl, ?_⟩
  exact below_store (below_store (below_store (below_store (below_store hB (by omega) _) (by omega) _) (by omega) _) (by omega) _) (by omega) _
end Go.Proofs.YteiikhcadjdkcaaGreatDoor
namespace Go.Proofs.YteiikhcadjdkcaaGreatDoor
open Go Go.RowKit Limb
def Sl (w : World) (g : Nat) (e : TypeId) (n c : Nat) (xs : List Value) : Prop :=
  ∃ cur : List Value, Row w g e cur ∧ cur.length = c ∧ xs.length = n ∧ n ≤ c ∧ c ≤ maxLen ∧ cur.take n = xs
section
variable {w w' : World} {g : Nat} {e : TypeId} {n c : Nat} {xs : List Value}
theorem Sl.lt (h : Sl w g e n c xs) : g < w.heap.size := by obtain ⟨_, h, _⟩ := h; exact h.lt
theorem Sl.len (h : Sl w g e n c xs) : xs.length = n := by obtain ⟨_, _, _, h, _⟩ := h; exact h
theorem Sl.le (h : Sl w g e n c xs) : n ≤ c ∧ c ≤ maxLen := by obtain ⟨_, _, _, _, h, h2, _⟩ := h; exact ⟨h, h2⟩
theorem Sl.only {ps : List Nat} (h : Sl w g e n c xs) (ho : Only ps w w') (hg : g ∉ ps) : Sl w' g e n c xs := by
  obtain ⟨cur, h1, h2⟩ := h; exact ⟨cur, h1.only ho hg, h2⟩
theorem Sl.below (h : Sl w g e n c xs) (hb : Below w.heap.size w w') : Sl w' g e n c xs := by
  obtain ⟨cur, h1, h2⟩ := h; exact ⟨cur, h1.below hb h1.lt, h2⟩
theorem Sl.cell (h : Sl w g e n c xs) {i : Nat} (hi : i < n) : w.cell? ⟨g, i, none⟩ = xs[i]? := by
  obtain ⟨cur, h1, h2, h3, h4, h5, h6⟩ := h
  rw [h1.cell_at, ← h6, List.getElem?_take_of_lt hi]
theorem Sl.free (h : Sl w g e n c xs) (i : Nat) : w.frozen? ⟨g, i, none⟩ = false := by obtain ⟨_, h, _⟩ := h; exact h.free i
theorem Sl.store (h : Sl w g e n c xs) {i : Nat} (hi : i < n) (u : Value) : Sl (w.setCell ⟨g, i, none⟩ u) g e n c (xs.set i u) := by
  obtain ⟨cur, h1, h2, h3, h4, h5, h6⟩ := h
  exact ⟨cur.set i u, h1.store_any i u, by rw [List.length_set]; exact h2, by rw [List.length_set]; exact h3, h4, h5, by rw [List.take_set, h6]⟩
theorem Sl.other (h : Sl w g e n c xs) {a : Addr} (ha : g ≠ a.block) (u : Value) : Sl (w.setCell a u) g e n c xs := by
  obtain ⟨cur, h1, h2⟩ := h; exact ⟨cur, h1.other ha u, h2⟩
theorem Sl.owns (h : Sl w g e n c xs) : w.ownsRow 0 e 1 (.slice (some ⟨g, 0, none⟩) n c) n xs := by
  obtain ⟨cur, h1, h2, h3, h4, h5, h6⟩ := h
  exact ⟨by rw [h3, Nat.mul_one], .inr ⟨g, c, cur.toArray, rfl, Nat.zero_le _, h1, h4, h5, by simp [h2], by rw [Nat.mul_one]; simpa using h6⟩⟩
theorem Sl.of_owns {v : Value} (h : w.ownsRow 0 e 1 v n xs) (hn : 0 < n) : ∃ g c, v = .slice (some ⟨g, 0, none⟩) n c ∧ v.ownBlock = some g ∧ Sl w g e n c xs := by
  obtain ⟨h1, h2⟩ := h
  rcases h2 with ⟨_, h2⟩ | ⟨g, cap, cur, hv, hg, hh, hc1, hc2, hc3, hc4⟩
  · omega
  · rw [Nat.mul_one] at h1 hc3 hc4
    subst hv
    exact ⟨g, cap, rfl, rfl, cur.toList, by unfold Row; simpa using hh, by simpa using hc3, h1, hc1, hc2, hc4⟩
theorem Sl.index (h : Sl w g e n c xs) {P : Program} (t : TypeId) (ht : P.underlying t = some (.slice e)) (hs : ∀ W, (sizeOf e).run P W = .ok 1 W) (W : World) (k : IntKind) (i : Nat) (hi : i < n) :
    (Instr.indexAt t (.slice (some ⟨g, 0, none⟩) n c) (.int k i)).run P W = .ok (.pointer (some ⟨g, i, none⟩)) W := by
  have h1 : (0 : Int) ≤ (i : Int) := by omega
  have h2 : (i : Int) < (n : Int) := by omega
  simp [Instr.indexAt, run_underlying ht, asIntOf, h1, h2, hs, Result.andThen, Addr.add]
  rw [if_pos hi]
  by_cases h0 : i = 0
  · subst h0; rfl
  · rw [if_neg h0]
end
theorem size_bool (W : World) : (sizeOf 4).run Tryz.prog W = .ok 1 W := by kernel_rfl
theorem size_oop (W : World) : (sizeOf 30).run Tryz.prog W = .ok 1 W := by kernel_rfl
structure Foot where
  p : Nat
  gw : Nat
  gs : Nat
  gr : Nat
def Foot.l (F : Foot) : List Nat := [F.p, F.gw, F.gs, F.gr]
def bools (l : List Bool) : List Value := l.map Value.bool
theorem bools_get {l : List Bool} {i : Nat} (h : i < l.length) : (bools l)[i]? = some (.bool (l.getD i false)) := by
  simp [bools, List.getD_eq_getElem?_getD, h]
structure HeapAt (w : World) (F : Foot) (h : Hp) : Prop where
  good : Limb.Good h
  spares : Spares w
  row : ∃ cw cs, Row w F.p 74 [.slice (some ⟨F.gw, 0, none⟩) h.ws.length cw, .slice (some ⟨F.gs, 0, none⟩) h.ws.length cs, .slice (some ⟨F.gr, 0, none⟩) 64 64, .int .i64 h.size, .int .u32 h.last] ∧
    Sl w F.gw 29 h.ws.length cw (nums .u32 h.ws) ∧ Sl w F.gs 4 h.ws.length cs (bools h.st)
  roots : Row w F.gr 30 (nums .u32 h.rt)
  low : 5 ≤ F.p ∧ 5 ≤ F.gw ∧ 5 ≤ F.gs ∧ 5 ≤ F.gr
theorem Row.ne {w : World} {g g' : Nat} {e e' : TypeId} {cs cs' : List Value} (h : Row w g e cs) (h' : Row w g' e' cs') (he : e ≠ e') : g ≠ g' := by
  rintro rfl
  unfold Row at h h'
  rw [h] at h'
  simp only [Option.some.injEq, Obj.cells.injEq] at h'
  exact he h'.2.1
theorem Sl.row {w : World} {g : Nat} {e : TypeId} {n c : Nat} {xs : List Value} (h : Sl w g e n c xs) : ∃ cs, Row w g e cs := by obtain ⟨cs, h, _⟩ := h; exact ⟨cs, h⟩
section
variable {w w' : World} {F : Foot} {h : Hp}
theorem HeapAt.only {ps : List Nat} (H : HeapAt w F h) (ho : Only ps w w') (hd : ∀ g ∈ F.l, g ∉ ps) (h2 : 0 ∉ ps) : HeapAt w' F h := by
  obtain ⟨cw, cs, r1, r2, r3⟩ := H.row
  have m : F.p ∈ F.l ∧ F.gw ∈ F.l ∧ F.gs ∈ F.l ∧ F.gr ∈ F.l := by unfold Foot.l; simp
  exact ⟨H.good, H.spares.only ho h2, ⟨cw, cs, r1.only ho (hd _ m.1), r2.only ho (hd _ m.2.1), r3.only ho (hd _ m.2.2.1)⟩, H.roots.only ho (hd _ m.2.2.2), H.low⟩
theorem HeapAt.below (H : HeapAt w F h) (hb : Below w.heap.size w w') : HeapAt w' F h := H.only (ps := []) (Only.of_below hb) (by simp) (by simp)
theorem HeapAt.belowB {B : Nat} (H : HeapAt w F h) (hb : Below B w w') (hB : w.heap.size ≤ B) : HeapAt w' F h := H.below (hb.mono hB)
theorem HeapAt.drew (H : HeapAt w F h) : HeapAt w.drew F h := H.below (Below.refl _ _).drew
theorem HeapAt.lt (H : HeapAt w F h) : ∀ g ∈ F.l, g < w.heap.size := by
  obtain ⟨cw, cs, r1, r2, r3⟩ := H.row
  have := H.roots.lt; have := r1.lt; have := r2.lt; have := r3.lt
  intro g hg
  unfold Foot.l at hg
  simp only [List.mem_cons, List.not_mem_nil, or_false] at hg
  rcases hg with rfl | rfl | rfl | rfl <;> assumption
theorem HeapAt.apart (H : HeapAt w F h) : F.p ≠ F.gw ∧ F.p ≠ F.gs ∧ F.p ≠ F.gr ∧ F.gw ≠ F.gs ∧ F.gw ≠ F.gr ∧ F.gs ≠ F.gr := by
  obtain ⟨cw, cs, r1, r2, r3⟩ := H.row
  obtain ⟨_, r2⟩ := r2.row
  obtain ⟨_, r3⟩ := r3.row
  have r4 := H.roots
  exact ⟨r1.ne r2 (by decide), r1.ne r3 (by decide), r1.ne r4 (by decide), r2.ne r3 (by decide), r2.ne r4 (by decide), r3.ne r4 (by decide)⟩
theorem HeapAt.cells (H : HeapAt w F h) : ∃ cw cs, w.cell? ⟨F.p, 0, none⟩ = some (.slice (some ⟨F.gw, 0, none⟩) h.ws.length cw) ∧ w.cell? ⟨F.p, 1, none⟩ = some (.slice (some ⟨F.gs, 0, none⟩) h.ws.length cs) ∧
    w.cell? ⟨F.p, 2, none⟩ = some (.slice (some ⟨F.gr, 0, none⟩) 64 64) ∧ w.cell? ⟨F.p, 3, none⟩ = some (.int .i64 h.size) ∧ w.cell? ⟨F.p, 4, none⟩ = some (.int .u32 h.last) ∧
    Sl w F.gw 29 h.ws.length cw (nums .u32 h.ws) ∧ Sl w F.gs 4 h.ws.length cs (bools h.st) := by
  obtain ⟨cw, cs, r1, r2, r3⟩ := H.row
  obtain ⟨a, b, c, d, e⟩ := r1.cells5
  exact ⟨cw, cs, a, b, c, d, e, r2, r3⟩
theorem HeapAt.root_cell (H : HeapAt w F h) {i : Nat} (hi : i < 64) : w.cell? ⟨F.gr, i, none⟩ = some (.int .u32 (wd h.rt i : Nat)) := H.roots.cell (by rw [H.good.rlen]; exact hi)
theorem HeapAt.small (H : HeapAt w F h) : h.ws.length ≤ 1048576 ∧ h.size ≤ 1048576 ∧ 64 ≤ h.size := ⟨Nat.le_trans H.good.fits H.good.sM, H.good.sM, H.good.s64⟩
end
structure Foot.Next (F F' : Foot) (w : World) : Prop where
  p : F'.p = F.p
  gr : F'.gr = F.gr
  gw : F'.gw = F.gw ∨ w.heap.size ≤ F'.gw
  gs : F'.gs = F.gs ∨ w.heap.size ≤ F'.gs
theorem Foot.Next.refl (F : Foot) (w : World) : F.Next F w := ⟨rfl, rfl, .inl rfl, .inl rfl⟩
theorem Foot.Next.trans {F F' F'' : Foot} {w w' : World} (h : F.Next F' w) (k : F'.Next F'' w') (hs : w.heap.size ≤ w'.heap.size) : F.Next F'' w :=
  ⟨k.p.trans h.p, k.gr.trans h.gr, by rcases k.gw with e | e; rw [e]; exact h.gw; exact .inr (by omega), by rcases k.gs with e | e; rw [e]; exact h.gs; exact .inr (by omega)⟩
theorem Foot.Next.mem {F F' : Foot} {w : World} (h : F.Next F' w) : ∀ g ∈ F'.l, g ∈ F.l ∨ w.heap.size ≤ g := by
  intro g hg
  unfold Foot.l at *
  simp only [List.mem_cons, List.not_mem_nil, or_false] at *
  rcases hg with rfl | rfl | rfl | rfl
  · exact .inl (.inl h.p)
  · rcases h.gw with e | e
    · exact .inl (.inr (.inl e))
    · exact .inr e
  · rcases h.gs with e | e
    · exact .inl (.inr (.inr (.inl e)))
    · exact .inr e
  · exact .inl (.inr (.inr (.inr h.gr)))
def Step (w : World) (F : Foot) (w' : World) (F' : Foot) (h' : Hp) : Prop := HeapAt w' F' h' ∧ F.Next F' w ∧ Only F.l w w'
theorem Step.trans {w w' w'' : World} {F F' F'' : Foot} {h' h'' : Hp} (a : Step w F w' F' h') (b : Step w' F' w'' F'' h'') : Step w F w'' F'' h'' :=
  ⟨b.1, a.2.1.trans b.2.1 a.2.2.size, a.2.2.trans b.2.2 a.2.1.mem⟩
theorem Step.refl {w : World} {F : Foot} {h : Hp} (H : HeapAt w F h) : Step w F w F h := ⟨H, Foot.Next.refl _ _, Only.refl _ _⟩
theorem Step.below {w w' w'' : World} {F F' : Foot} {h' : Hp} (a : Step w F w' F' h') (hb : Below w'.heap.size w' w'') : Step w F w'' F' h' :=
  ⟨a.1.below hb, a.2.1, a.2.2.trans (qs := []) (Only.of_below hb) (fun q hq => by cases hq)⟩
theorem Step.beside {w w' : World} {F F' : Foot} {h' : Hp} (a : Step w F w' F' h') {g : Nat} {e : TypeId} {cs : List Value} (hr : Row w g e cs) (hg : g ∉ F.l) : Row w' g e cs := hr.only a.2.2 hg
end Go.Proofs.YteiikhcadjdkcaaGreatDoor
namespace Go.Proofs.YteiikhcadjdkcaaGreatDoor
open Go Go.RowKit
theorem wpAnyH_take_at {P : Program} {md : Region.Mode} {ops : Array Oper} {Q : Exit → Act → World → Prop} {S : World → Prop} {i : Nat} {oi : Oper} {v : Value} {fuel : Nat} {listed : Array Bool} {a : Act} {w : World} (d : Tmp) (hi : ops[i]? = some oi) (hd : oi.dst = some d)
    (hs : Region.noSelect ops = true) (hf : Region.free md ops listed i = true) (hr : (Region.ready md ops listed).contains i = true)
    (hQ : ∀ c a w, Q (.panic c) (a.put oi.dst v) w → Q (.panic c) a w) (hy : YieldsIf P ops S oi v a) (hS : S w)
    (h : wpAnyH P md ops Q S fuel (listed.setIfInBounds i true) (a.put (some d) v) w) : wpAnyH P md ops Q S (fuel + 1) listed a w :=
  wpAnyH_take hi hs hf hr hQ hy hS (by rw [hd]; exact h)
end Go.Proofs.YteiikhcadjdkcaaGreatDoor
namespace Go.Proofs.YteiikhcadjdkcaaGreatDoor
open Go Go.RowKit
variable {P : Program} {ops : Array Oper} {C : World → Prop} {Q : Act → Prop} {a : Act} {o : Oper} {rest : List Oper}
theorem wpQuiet_at (d : Tmp) (v : Value) (hd : o.dst = some d) (hw : Region.wanted o (yielded ops a.tmps) = true) (hy : ∀ w, C w → o.quietAt P a C w v) (h : wpQuiet P ops C Q rest (a.put (some d) v)) : wpQuiet P ops C Q (o :: rest) a := by
  unfold wpQuiet
  rw [if_pos hw]
  exact ⟨v, hy, by rw [hd]; exact h⟩
theorem wp_region_calm {id : Nat} {Q : Exit → Act → World → Prop} {a : Act} {w : World} (C : World → Prop) (hm : P.follows .mixedOrders = true) (hB : Region.lexB .any ops = true) (hC : C { w with drawn := w.drawn + 1 })
    (h : wpQuiet P ops C (fun a' => ∀ w', C w' → Q .normal a' w') ops.toList a) : (Code.region id ops true).wp P Q a w := wp_region_quiet hm hB hC h
theorem cell_self {W : World} {p i : Nat} {t : TypeId} {cs : List Value} {v : Value} (r : Row W p t cs) (hv : cs[i]? = some v) : W.setCell ⟨p, i, none⟩ v = W := by
  unfold Row at r
  have hi : i < cs.length := (List.getElem?_eq_some_iff.1 hv).1
  have hset : cs.set i v = cs := by
    apply List.ext_getElem?
    intro j
    rw [List.getElem?_set]
    by_cases hj : i = j
    · subst hj; rw [if_pos rfl, if_pos hi, hv]
    · rw [if_neg hj]
  have e : (W.setCell ⟨p, i, none⟩ v).heap = W.heap := by
    apply Array.ext_getElem?
    intro j
    simp only [World.setCell, Array.getElem?_modify]
    by_cases hj : p = j
    · subst hj; simp [r, hset]
    · simp [hj]
  show { W with heap := (W.setCell ⟨p, i, none⟩ v).heap } = W
  rw [e]
end Go.Proofs.YteiikhcadjdkcaaGreatDoor
