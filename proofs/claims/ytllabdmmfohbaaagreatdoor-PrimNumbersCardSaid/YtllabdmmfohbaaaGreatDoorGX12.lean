/- The walk of package oop's Unpack. In a region that draws its order: an operation that yields is taken first, its slot written out. -/
import Derived.Test.YtllabdmmfohbaaaGreatDoorGX09
import Derived.Test.YtllabdmmfohbaaaGreatDoorGX11
import Derived.Laws.StructEq
set_option linter.unusedVariables false
set_option linter.unusedSimpArgs false
namespace Go.Proofs.YtllabdmmfohbaaaGreatDoor
open Go Go.RowKit Limb
theorem eq_w3 (a b c d e f : Int) (w : World) : (Op.equalIn 10000 163 (.agg #[.int .u32 a, .int .u32 b, .int .u32 c]) (.agg #[.int .u32 d, .int .u32 e, .int .u32 f])).run Tryz.prog w = .ok (a == d && b == e && c == f) w := by
  have u3 := Tryz.underlying29
  have a3 := Tryz.isAgg29
  have z3 := Tryz.sizeOf29
  rw [show (10000 : Nat) = 9999 + 1 from rfl, Op.equalIn]
  simp only [Sem.run_bind, run_underlying Tryz.underlying163, Result.andThen_ok]
  simp only [Std.Legacy.Range.forIn_eq_forIn_range', Std.Legacy.Range.size, Nat.sub_zero, Nat.add_sub_cancel, Nat.div_one, List.range'_succ, List.range'_zero, List.forIn_cons, List.forIn_nil]
  go_simp
  by_cases h1 : a = d <;> by_cases h2 : b = e <;> by_cases h3 : c = f <;> simp [h1, h2, h3]
attribute [local go_sem] eq_w3
theorem unpack_bits {h : Hd} (k : h.Ok) : bits .and .u32 (h.w0 : Int) 16777215 = ((h.size : Nat) : Int) ∧ bits .and .u32 ((h.w0 : Int) / 16777216) 7 = ((h.fmt : Nat) : Int) ∧ bits .and .u32 ((h.w0 : Int) / 134217728) 3 = ((h.spare : Nat) : Int) := by
  have h0 := Hd.w0_lt k
  have h1 := k.size
  have h3 := k.f4
  have h4 := k.spare
  have e : h.w0 = h.size + h.fmt * 16777216 + h.spare * 134217728 := rfl
  have d1 : (h.w0 : Int) / 16777216 = ((h.w0 / 16777216 : Nat) : Int) := by omega
  have d2 : (h.w0 : Int) / 134217728 = ((h.w0 / 134217728 : Nat) : Int) := by omega
  rw [d1, d2, show (16777215 : Int) = ((16777215 : Nat) : Int) from rfl, show (7 : Int) = ((7 : Nat) : Int) from rfl, show (3 : Int) = ((3 : Nat) : Int) from rfl,
    u32_and_nat _ _ (by omega) (by decide), u32_and_nat _ _ (by omega) (by decide), u32_and_nat _ _ (by omega) (by decide), nat_mask24, nat_mask3, nat_mask2]
  refine ⟨?_, ?_, ?_⟩ <;> congr 1 <;> omega
set_option maxHeartbeats 1600000 in
set_option maxRecDepth 1000000 in
theorem oop_unpack (w : World) (h : Hd) (k : h.Ok) (hs : Spares w) :
    Calls Tryz.prog 329 #[w3V h.w0 h.cls h.ser] w fun e w' => e = .returned (.tuple #[hdV h, .int .i64 0]) ∧ Below w.heap.size w w' := by
  obtain ⟨w0, hw0⟩ : ∃ x, x = h.w0 := ⟨_, rfl⟩
  rw [← hw0]
  obtain ⟨W, hW, r1, hb1, hz1⟩ := alloc_row w 163 [.int .u32 w0, .int .u32 h.cls, .int .u32 h.ser]
  obtain ⟨V, hV, r2, hb2, hz2⟩ := alloc_row W 100 [.int .i64 0, .int .i64 0, .int .i64 0, .int .u32 0, .int .u32 0]
  rw [hz1] at r2
  obtain ⟨U, hU, r3, hb3, hz3⟩ := alloc_row V 100 [.int .i64 h.size, .int .i64 h.fmt, .int .i64 h.spare, .int .u32 h.cls, .int .u32 h.ser]
  rw [hz2, hz1] at r3
  have hB : Below w.heap.size w U := hb1.trans ((hb2.mono (by omega)).trans (hb3.mono (by omega)))
  replace r1 := (r1.below hb2 r1.lt)
  obtain ⟨p0, p1, p2⟩ := r1.cells3
  replace r1 := (r1.below hb3 r1.lt)
  replace r2 := r2.below hb3 r2.lt
  have HV := Lib.hid (show V = (w.alloc (.cells #[.int .u32 w0, .int .u32 h.cls, .int .u32 h.ser] 163)).alloc (.cells #[.int .i64 0, .int .i64 0, .int .i64 0, .int .u32 0, .int .u32 0] 100) by rw [hV, hW])
  have HU := Lib.hid hU
  have hz4 : V.heap.size = w.heap.size + 1 + 1 := by omega
  obtain ⟨e1, e2, e3⟩ := unpack_bits k
  rw [← hw0] at e1 e2 e3
  have h1 := k.size
  have h3 := k.f4
  have h4 := k.spare
  have h5 : 5 ≤ w.heap.size := hs.1
  have HM := Lib.hid (fun X (hx : Below w.heap.size w X) => oop_may X h k (hs.below hx h5))
  have HP := Lib.hid (fun X => oop_pack0 X h k)
  have HH := Lib.hid (show hdV h = .agg #[.int .i64 h.size, .int .i64 h.fmt, .int .i64 h.spare, .int .u32 h.cls, .int .u32 h.ser] from rfl)
  rw [HH.out] at HM HP ⊢
  rw [← hw0] at HP; unfold w3V at HP
  generalize h.size = sz at *
  generalize h.fmt = f at *
  generalize h.spare = sp at *
  generalize h.cls = c at *
  generalize h.ser = s at *
  clear hV hW hU hz1 hz2 hz3 hb1 hb2 hb3 hs hw0 HH
  unfold w3V
  go_enter Tryz.func329, Tryz.ntmps329
  go_wp2_with fail
  rw [← HV.out]
  go_wp2_with fail
  rw [← HU.out]
  clear e1 e2 e3 hz4 p0 p1 p2
  have hk := fun X (h : Below U.heap.size U X) => show (X.cell? ⟨w.heap.size, 0, none⟩ = some (.int .u32 w0) ∧ X.cell? ⟨w.heap.size, 1, none⟩ = some (.int .u32 c) ∧ X.cell? ⟨w.heap.size, 2, none⟩ = some (.int .u32 s)) ∧ (X.cell? ⟨w.heap.size + 1 + 1, 0, none⟩ = some (.int .i64 sz) ∧ X.cell? ⟨w.heap.size + 1 + 1, 1, none⟩ = some (.int .i64 f) ∧ X.cell? ⟨w.heap.size + 1 + 1, 2, none⟩ = some (.int .i64 sp) ∧ X.cell? ⟨w.heap.size + 1 + 1, 3, none⟩ = some (.int .u32 c) ∧ X.cell? ⟨w.heap.size + 1 + 1, 4, none⟩ = some (.int .u32 s)) from ⟨(r1.below h r1.lt).cells3, (r3.below h r3.lt).cells5⟩
  have HK := Lib.hid hk; clear hk
  have HMU := Lib.hid (since fun X (h : Below U.heap.size U X) => HM.out X (hB.trans (h.mono hB.size)))
  have HPU := Lib.hid (since fun X (_ : Below U.heap.size U X) => HP.out X)
  have h := Below.refl U.heap.size U
  go_region_held3 (fun X => ((X.cell? ⟨w.heap.size, 0, none⟩ = some (.int .u32 w0) ∧ X.cell? ⟨w.heap.size, 1, none⟩ = some (.int .u32 c) ∧ X.cell? ⟨w.heap.size, 2, none⟩ = some (.int .u32 s)) ∧ (X.cell? ⟨w.heap.size + 1 + 1, 0, none⟩ = some (.int .i64 sz) ∧ X.cell? ⟨w.heap.size + 1 + 1, 1, none⟩ = some (.int .i64 f) ∧ X.cell? ⟨w.heap.size + 1 + 1, 2, none⟩ = some (.int .i64 sp) ∧ X.cell? ⟨w.heap.size + 1 + 1, 3, none⟩ = some (.int .u32 c) ∧ X.cell? ⟨w.heap.size + 1 + 1, 4, none⟩ = some (.int .u32 s))))
    (first | (apply HK.out; (repeat (first | exact h | apply Below.drew))))
    (first
      | (go_at_call 252; apply Calls.mono; apply HMU.out; (repeat (first | exact h | apply Below.drew)); clear h; rintro e w' ⟨rfl, h⟩)
      | (go_at_call 253; apply Calls.mono; apply HPU.out; (repeat (first | exact h | apply Below.drew)); clear h; rintro e w' ⟨rfl, h⟩))
  replace r2 := r2.below h r2.lt
  replace r3 := r3.below h r3.lt
  replace hB := hB.trans (h.mono hB.size)
  obtain ⟨p0, p1, p2, p3, p4⟩ := r3.cells5
  obtain ⟨q0, q1, q2, q3, q4⟩ := r2.cells5
  have z0 := r2.free 0
  have z1 := r2.free 1
  have z2 := r2.free 2
  have z3 := r2.free 3
  have z4 := r2.free 4
  have rr := ((((r2.store_any 0 (.int .i64 sz)).store_any 1 (.int .i64 f)).store_any 2 (.int .i64 sp)).store_any 3 (.int .u32 c)).store_any 4 (.int .u32 s)
  obtain ⟨f0, f1, f2, f3, f4⟩ := Row.cells5 rr
  clear h r1 HK HMU HPU HM HP HU HV h1 h3 h4 rr
  go_wp2_with fail
  refine bodyPost_ret (v := .tuple #[.agg #[.int .i64 sz, .int .i64 f, .int .i64 sp, .int .u32 c, .int .u32 s], .int .i64 0]) (by simp [results, Tryz.results329, go_sem, f0, f1, f2, f3, f4]) rfl ⟨rfl, ?_⟩
  exact below_store (below_store (below_store (below_store (below_store hB (by omega) _) (by omega) _) (by omega) _) (by omega) _) (by omega) _
end Go.Proofs.YtllabdmmfohbaaaGreatDoor
namespace Go.Proofs.YtllabdmmfohbaaaGreatDoor
open Go Go.RowKit
theorem wpAnyH_take_at {P : Program} {md : Region.Mode} {ops : Array Oper} {Q : Exit → Act → World → Prop} {S : World → Prop} {i : Nat} {oi : Oper} {v : Value} {fuel : Nat} {listed : Array Bool} {a : Act} {w : World} (d : Tmp) (hi : ops[i]? = some oi) (hd : oi.dst = some d)
    (hs : Region.noSelect ops = true) (hf : Region.free md ops listed i = true) (hr : (Region.ready md ops listed).contains i = true)
    (hQ : ∀ c a w, Q (.panic c) (a.put oi.dst v) w → Q (.panic c) a w) (hy : YieldsIf P ops S oi v a) (hS : S w)
    (h : wpAnyH P md ops Q S fuel (listed.setIfInBounds i true) (a.put (some d) v) w) : wpAnyH P md ops Q S (fuel + 1) listed a w :=
  wpAnyH_take hi hs hf hr hQ hy hS (by rw [hd]; exact h)
end Go.Proofs.YtllabdmmfohbaaaGreatDoor
