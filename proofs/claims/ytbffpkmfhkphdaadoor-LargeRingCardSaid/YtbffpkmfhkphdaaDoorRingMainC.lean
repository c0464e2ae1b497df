/- The walk of LargeRing where all integers may be and are not too long: its great region. -/
import Derived.Test.YtbffpkmfhkphdaaDoorGRingA
import Derived.Laws.EntriesVeiled
namespace Go.Proofs.YtbffpkmfhkphdaaDoor
open Go Go.RowKit Limb

set_option maxHeartbeats 64000000 in
set_option maxRecDepth 1000000 in
theorem ring_main (w : World) (b1 b2 b3 : Bool) (a1 a2 a3 : Option Addr) (l1 l2 l3 : List Nat) (nx ny nz c1 c2 c3 : Nat) (h1 : Came w b1 a1 nx l1) (h2 : Came w b2 a2 ny l2) (h3 : Came w b3 a3 nz l3)
    (hm1 : mayB b1 l1 = true) (hm2 : mayB b2 l2 = true) (hm3 : mayB b3 l3 = true) (hs : nx + ny + nz ≤ 1000) (hc1 : nx ≤ c1) (hc2 : ny ≤ c2) (hc3 : nz ≤ c3) :
    Calls Tryd.prog 5 #[.agg #[.bool b1, .slice a1 nx c1], .agg #[.bool b2, .slice a2 ny c2], .agg #[.bool b3, .slice a3 nz c3]] w fun e w' => e = .returned (.bool true) ∧ Below w.heap.size w w' := by
  obtain ⟨W0, hW0e, r30, r40, hB0, hsz0⟩ := rows2 w 24 (.bool b1) (.slice a1 nx c1) (.bool b2) (.slice a2 ny c2)
  obtain ⟨W, hWe, r5, hBW, hszW⟩ := rows1 W0 24 (.bool b3) (.slice a3 nz c3)
  have r3 := r30.below hBW r30.lt
  have r4 := r40.below hBW r40.lt
  have hB := hB0.trans (hBW.mono hB0.size)
  rw [hsz0] at r5
  rw [hW0e] at hWe
  have HWe := Lib.hid hWe; clear hWe hW0e r30 r40 hB0 hBW
  have hx := h1.api hm1 hc1
  have hy := h2.api hm2 hc2
  have hz := h3.api hm3 hc3
  obtain ⟨x, hxv⟩ : ∃ x, x = signed b1 (val l1) := ⟨_, rfl⟩
  obtain ⟨y, hyv⟩ : ∃ y, y = signed b2 (val l2) := ⟨_, rfl⟩
  obtain ⟨z, hzv⟩ : ∃ z, z = signed b3 (val l3) := ⟨_, rfl⟩
  have lx : (rep x.natAbs).length ≤ nx := by obtain ⟨e1, e2, e3⟩ := mayB_int h1.2.1 hm1; rw [hxv, ← e1, h1.2.2.1]; exact Nat.le_refl _
  have ly : (rep y.natAbs).length ≤ ny := by obtain ⟨e1, e2, e3⟩ := mayB_int h2.2.1 hm2; rw [hyv, ← e1, h2.2.2.1]; exact Nat.le_refl _
  have lz : (rep z.natAbs).length ≤ nz := by obtain ⟨e1, e2, e3⟩ := mayB_int h3.2.1 hm3; rw [hzv, ← e1, h3.2.2.1]; exact Nat.le_refl _
  rw [← hxv] at hx
  rw [← hyv] at hy
  rw [← hzv] at hz
  obtain ⟨qf, hqf⟩ : ∃ qf, qf = x.fdiv y := ⟨_, rfl⟩
  obtain ⟨rf, hrf⟩ : ∃ rf, rf = x.fmod y := ⟨_, rfl⟩
  obtain ⟨qt, hqt⟩ : ∃ qt, qt = x.tdiv y := ⟨_, rfl⟩
  obtain ⟨rt, hrt⟩ : ∃ rt, rt = x.tmod y := ⟨_, rfl⟩
  obtain ⟨lqf, lrf, lqt, lrt⟩ := quo_lens lx ly
  rw [← hqf] at lqf
  rw [← hrf] at lrf
  rw [← hqt] at lqt
  rw [← hrt] at lrt
  have eqf := Lib.hid (show qf * y + rf = x from by rw [hqf, hrf]; exact eq_f x y)
  have eqt := Lib.hid (show qt * y + rt = x from by rw [hqt, hrt]; exact eq_t x y)
  have Hqf := Lib.hid hqf
  have Hrf := Lib.hid hrf
  have Hqt := Lib.hid hqt
  have Hrt := Lib.hid hrt
  clear hqf hrf hqt hrt
  have lc0 : (rep (0 : Int).natAbs).length ≤ 1 := by decide
  have lc1 : (rep (1 : Int).natAbs).length ≤ 1 := by decide
  have hm1s := fun X (h : Below w.heap.size w X) => since_may (c := c1) (W := w) h1 h
  have hm2s := fun X (h : Below w.heap.size w X) => since_may (c := c2) (W := w) h2 h
  have hm3s := fun X (h : Below w.heap.size w X) => since_may (c := c3) (W := w) h3 h
  rw [hm1] at hm1s
  rw [hm2] at hm2s
  rw [hm3] at hm3s
  have Hm1 := Lib.hid hm1s
  have Hm2 := Lib.hid hm2s
  have Hm3 := Lib.hid hm3s
  have Hxyz := Lib.hid (And.intro hx (And.intro hy hz))
  have NXx := Lib.hid (show (rep x.natAbs).length ≤ 1024 from Nat.le_trans lx (by omega))
  have NYy := Lib.hid (show (rep y.natAbs).length ≤ 1024 from Nat.le_trans ly (by omega))
  obtain ⟨q0, hq0⟩ : ∃ q0, q0 = cmpZ x y := ⟨_, rfl⟩
  have HCm := Lib.hid (fun X (h : Below w.heap.size w X) => by have := api_compare X _ _ x y (hx.below h) (hy.below h) NXx.out NYy.out; rw [← hq0] at this; exact this)
  have HDv := Lib.hid (fun X (h : Below w.heap.size w X) (h0 : y ≠ 0) => api_div X _ _ x y (hx.below h) (hy.below h) NXx.out NYy.out)
  have HQu := Lib.hid (fun X (h : Below w.heap.size w X) (h0 : y ≠ 0) => api_quo X _ _ x y (hx.below h) (hy.below h) NXx.out NYy.out)
  have Hq0 := Lib.hid hq0; clear hq0
  have Hy0 := Lib.hid (show ny ≠ 0 → y ≠ 0 from fun h e => h (by obtain ⟨e1, e2, e3⟩ := mayB_int h2.2.1 hm2; rw [h2.2.2.1, e1, ← hyv, e]; rfl))
  have hb1v : b1 = decide (x < 0) := hx.parts.1
  have hb2v : b2 = decide (y < 0) := hy.parts.1
  have HsR := Lib.hid (fun (h0 : ny ≠ 0) b n (e1 : b = decide (rf < 0)) (e2 : n = (rep rf.natAbs).length) (hp : 0 < n) => fmod_sgn x y (Hy0.out h0) rf Hrf.out b n b2 e1 e2 hb2v hp)
  have HsT := Lib.hid (fun (h0 : ny ≠ 0) b n (e1 : b = decide (rt < 0)) (e2 : n = (rep rt.natAbs).length) (hp : 0 < n) => tmod_sgn x y (Hy0.out h0) rt Hrt.out b n b1 e1 e2 hb1v hp)
  clear hb1v hb2v
  have le2 : (rep (x + y).natAbs).length ≤ ((nx + ny) + 1) := len_addI (m := (nx + ny)) (Nat.le_trans lx (by omega)) (Nat.le_trans ly (by omega))
  have le3 : (rep (y + x).natAbs).length ≤ ((ny + nx) + 1) := len_addI (m := (ny + nx)) (Nat.le_trans ly (by omega)) (Nat.le_trans lx (by omega))
  have le5 : (rep ((x + y) + z).natAbs).length ≤ ((((nx + ny) + 1) + nz) + 1) := len_addI (m := (((nx + ny) + 1) + nz)) (Nat.le_trans le2 (by omega)) (Nat.le_trans lz (by omega))
  have le6 : (rep (y + z).natAbs).length ≤ ((ny + nz) + 1) := len_addI (m := (ny + nz)) (Nat.le_trans ly (by omega)) (Nat.le_trans lz (by omega))
  have le7 : (rep (x + (y + z)).natAbs).length ≤ ((nx + ((ny + nz) + 1)) + 1) := len_addI (m := (nx + ((ny + nz) + 1))) (Nat.le_trans lx (by omega)) (Nat.le_trans le6 (by omega))
  have le8 : (rep (x * y).natAbs).length ≤ (nx + ny) := len_mulI lx ly
  have le9 : (rep (y * x).natAbs).length ≤ (ny + nx) := len_mulI ly lx
  have le10 : (rep ((x * y) * z).natAbs).length ≤ ((nx + ny) + nz) := len_mulI le8 lz
  have le11 : (rep (y * z).natAbs).length ≤ (ny + nz) := len_mulI ly lz
  have le12 : (rep (x * (y * z)).natAbs).length ≤ (nx + (ny + nz)) := len_mulI lx le11
  have le13 : (rep (x * (y + z)).natAbs).length ≤ (nx + ((ny + nz) + 1)) := len_mulI lx le6
  have le14 : (rep (x * z).natAbs).length ≤ (nx + nz) := len_mulI lx lz
  have le15 : (rep ((x * y) + (x * z)).natAbs).length ≤ ((nx + ny + nz + 2) + 1) := len_addI (m := (nx + ny + nz + 2)) (Nat.le_trans le8 (by omega)) (Nat.le_trans le14 (by omega))
  have le16 : (rep (x - y).natAbs).length ≤ ((nx + ny) + 1) := len_subI (m := (nx + ny)) (Nat.le_trans lx (by omega)) (Nat.le_trans ly (by omega))
  have le17 : (rep ((x - y) + y).natAbs).length ≤ ((nx + ny + nz + 2) + 1) := len_addI (m := (nx + ny + nz + 2)) (Nat.le_trans le16 (by omega)) (Nat.le_trans ly (by omega))
  have le19 : (rep (x + 0).natAbs).length ≤ ((nx + 1) + 1) := len_addI (m := (nx + 1)) (Nat.le_trans lx (by omega)) (Nat.le_trans lc0 (by omega))
  have le21 : (rep (x * 1).natAbs).length ≤ (nx + 1) := len_mulI lx lc1
  have le23 : (rep (qf * y).natAbs).length ≤ (nx + ny) := len_mulI lqf ly
  have le25 : (rep ((qf * y) + rf).natAbs).length ≤ nx := by rw [eqf.out]; exact lx
  have le27 : (rep (qt * y).natAbs).length ≤ (nx + ny) := len_mulI lqt ly
  have le29 : (rep ((qt * y) + rt).natAbs).length ≤ nx := by rw [eqt.out]; exact lx
  have N0 := Lib.hid (show (rep x.natAbs).length ≤ 1024 from Nat.le_trans lx (by omega))
  have N1 := Lib.hid (show (rep y.natAbs).length ≤ 1024 from Nat.le_trans ly (by omega))
  have N2 := Lib.hid (show (rep (x + y).natAbs).length ≤ 1024 from Nat.le_trans le2 (by omega))
  have N3 := Lib.hid (show (rep (y + x).natAbs).length ≤ 1024 from Nat.le_trans le3 (by omega))
  have N4 := Lib.hid (show (rep z.natAbs).length ≤ 1024 from Nat.le_trans lz (by omega))
  have N5 := Lib.hid (show (rep ((x + y) + z).natAbs).length ≤ 1024 from Nat.le_trans le5 (by omega))
  have N6 := Lib.hid (show (rep (y + z).natAbs).length ≤ 1024 from Nat.le_trans le6 (by omega))
  have N7 := Lib.hid (show (rep (x + (y + z)).natAbs).length ≤ 1024 from Nat.le_trans le7 (by omega))
  have N8 := Lib.hid (show (rep (x * y).natAbs).length ≤ 1024 from Nat.le_trans le8 (by omega))
  have N9 := Lib.hid (show (rep (y * x).natAbs).length ≤ 1024 from Nat.le_trans le9 (by omega))
  have N10 := Lib.hid (show (rep ((x * y) * z).natAbs).length ≤ 1024 from Nat.le_trans le10 (by omega))
  have N11 := Lib.hid (show (rep (y * z).natAbs).length ≤ 1024 from Nat.le_trans le11 (by omega))
  have N12 := Lib.hid (show (rep (x * (y * z)).natAbs).length ≤ 1024 from Nat.le_trans le12 (by omega))
  have N13 := Lib.hid (show (rep (x * (y + z)).natAbs).length ≤ 1024 from Nat.le_trans le13 (by omega))
  have N14 := Lib.hid (show (rep (x * z).natAbs).length ≤ 1024 from Nat.le_trans le14 (by omega))
  have N15 := Lib.hid (show (rep ((x * y) + (x * z)).natAbs).length ≤ 1024 from Nat.le_trans le15 (by omega))
  have N16 := Lib.hid (show (rep (x - y).natAbs).length ≤ 1024 from Nat.le_trans le16 (by omega))
  have N17 := Lib.hid (show (rep ((x - y) + y).natAbs).length ≤ 1024 from Nat.le_trans le17 (by omega))
  have N18 := Lib.hid (show (rep (0 : Int).natAbs).length ≤ 1024 from Nat.le_trans lc0 (by omega))
  have N19 := Lib.hid (show (rep (x + 0).natAbs).length ≤ 1024 from Nat.le_trans le19 (by omega))
  have N20 := Lib.hid (show (rep (1 : Int).natAbs).length ≤ 1024 from Nat.le_trans lc1 (by omega))
  have N21 := Lib.hid (show (rep (x * 1).natAbs).length ≤ 1024 from Nat.le_trans le21 (by omega))
  have N22 := Lib.hid (show (rep qf.natAbs).length ≤ 1024 from Nat.le_trans lqf (by omega))
  have N23 := Lib.hid (show (rep (qf * y).natAbs).length ≤ 1024 from Nat.le_trans le23 (by omega))
  have N24 := Lib.hid (show (rep rf.natAbs).length ≤ 1024 from Nat.le_trans lrf (by omega))
  have N25 := Lib.hid (show (rep ((qf * y) + rf).natAbs).length ≤ 1024 from Nat.le_trans le25 (by omega))
  have N26 := Lib.hid (show (rep qt.natAbs).length ≤ 1024 from Nat.le_trans lqt (by omega))
  have N27 := Lib.hid (show (rep (qt * y).natAbs).length ≤ 1024 from Nat.le_trans le27 (by omega))
  have N28 := Lib.hid (show (rep rt.natAbs).length ≤ 1024 from Nat.le_trans lrt (by omega))
  have N29 := Lib.hid (show (rep ((qt * y) + rt).natAbs).length ≤ 1024 from Nat.le_trans le29 (by omega))
  clear lx ly le2 le3 lz le5 le6 le7 le8 le9 le10 le11 le12 le13 le14 le15 le16 le17 lc0 le19 lc1 le21 lqf le23 lrf le25 lqt le27 lrt le29
  clear hm1s hm2s hm3s hx hy hz hxv hyv hzv hm1 hm2 hm3 h1 h2 h3 hc1 hc2 hc3
  have hmf : ∀ (fn : Fn) (first cap : Array Value) (w : World), (Instr.makeFunc fn first cap).run Tryd.prog w = .ok (.func fn first cap) w := fun _ _ _ _ => rfl
  have d0 : decide ((1000 : Int) < (nx : Int) + (ny : Int) + (nz : Int)) = false := by rw [decide_eq_false_iff_not]; omega
  have kr30 := r3.cell_at 0
  have kr31 := r3.cell_at 1
  have kr40 := r4.cell_at 0
  have kr41 := r4.cell_at 1
  have kr50 := r5.cell_at 0
  have kr51 := r5.cell_at 1
  simp only [List.getElem?_cons_zero, List.getElem?_cons_succ] at kr30 kr31 kr40 kr41 kr50 kr51
  go_enter Tryd.func5, Tryd.ntmps5
  go_wp2_with fail
  rw [← HWe.out]
  refine (Hm1.out W hB).mono ?_
  rintro e V1 ⟨rfl, hb⟩
  replace r3 := r3.below hb r3.lt
  replace r4 := r4.below hb r4.lt
  replace r5 := r5.below hb r5.lt
  replace hB := hB.trans (hb.mono hB.size)
  clear kr30 kr31 kr40 kr41 kr50 kr51
  have kr30 := r3.cell_at 0
  have kr31 := r3.cell_at 1
  have kr40 := r4.cell_at 0
  have kr41 := r4.cell_at 1
  have kr50 := r5.cell_at 0
  have kr51 := r5.cell_at 1
  simp only [List.getElem?_cons_zero, List.getElem?_cons_succ] at kr30 kr31 kr40 kr41 kr50 kr51
  go_wp2_with fail
  refine (Hm2.out V1 hB).mono ?_
  rintro e V2 ⟨rfl, hb⟩
  replace r3 := r3.below hb r3.lt
  replace r4 := r4.below hb r4.lt
  replace r5 := r5.below hb r5.lt
  replace hB := hB.trans (hb.mono hB.size)
  clear kr30 kr31 kr40 kr41 kr50 kr51
  have kr30 := r3.cell_at 0
  have kr31 := r3.cell_at 1
  have kr40 := r4.cell_at 0
  have kr41 := r4.cell_at 1
  have kr50 := r5.cell_at 0
  have kr51 := r5.cell_at 1
  simp only [List.getElem?_cons_zero, List.getElem?_cons_succ] at kr30 kr31 kr40 kr41 kr50 kr51
  go_wp2_with fail
  refine (Hm3.out V2 hB).mono ?_
  rintro e V3 ⟨rfl, hb⟩
  replace r3 := r3.below hb r3.lt
  replace r4 := r4.below hb r4.lt
  replace r5 := r5.below hb r5.lt
  replace hB := hB.trans (hb.mono hB.size)
  clear kr30 kr31 kr40 kr41 kr50 kr51
  have kr30 := r3.cell_at 0
  have kr31 := r3.cell_at 1
  have kr40 := r4.cell_at 0
  have kr41 := r4.cell_at 1
  have kr50 := r5.cell_at 0
  have kr51 := r5.cell_at 1
  simp only [List.getElem?_cons_zero, List.getElem?_cons_succ] at kr30 kr31 kr40 kr41 kr50 kr51
  obtain ⟨U0, hU0e, rp0, hBU0, hszU0⟩ := rows0 V3 4 (.bool true)
  obtain ⟨U, hUe, rq, hBU, hszU⟩ := rows0 U0 41 (.func (.func 25) #[] #[.pointer (some ⟨V3.heap.size, 0, none⟩)])
  have rp := rp0.below hBU rp0.lt
  have hBV := hBU0.trans (hBU.mono hBU0.size)
  rw [hszU0] at rq
  rw [hU0e] at hUe
  obtain ⟨p, hpe⟩ : ∃ p, p = V3.heap.size := ⟨_, rfl⟩
  rw [← hpe] at rp hUe rq
  obtain ⟨q, hqe⟩ : ∃ q, q = p + 1 := ⟨_, rfl⟩
  rw [← hqe] at rq
  have HU := Lib.hid hUe
  have HP := Lib.hid hpe
  have HQ := Lib.hid hqe
  replace r3 := r3.below hBV r3.lt
  replace r4 := r4.below hBV r4.lt
  replace r5 := r5.below hBV r5.lt
  replace hB := hB.trans (hBV.mono hB.size)
  clear hUe hpe hqe hU0e rp0 hBU0 hBU hszU hszU0 hBV
  have HR := Lib.hid (fun X (h : Below U.heap.size U X) => And.intro (r3.below h r3.lt).cell2 (And.intro (r4.below h r4.lt).cell2 (r5.below h r5.lt).cell2))
  have HA := Lib.hid (fun X (h : Below U.heap.size U X) => And.intro ((Hxyz.out.1.below hB).below h) (And.intro ((Hxyz.out.2.1.below hB).below h) ((Hxyz.out.2.2.below hB).below h)))
  go_upto_region 8 with fail
  rw [← HP.out, ← HQ.out, ← HU.out]
  clear kr30 kr31 kr40 kr41 kr50 kr51
  refine wp_region_each (n := 108) (S := fun X => Below U.heap.size U X) (V := SpV [.eq (.func (.func 26) #[] #[.pointer (some ⟨q, 0, none⟩)]), .api (x), .api (y), .api ((x + y)), .eq (.func (.func 26) #[] #[.pointer (some ⟨q, 0, none⟩)]), .api (y), .api (x), .api ((y + x)), .eq (.bool true), .eq (.bool false), .eq (.bool false), .eq (.func (.func 26) #[] #[.pointer (some ⟨q, 0, none⟩)]), .eq (.func (.func 26) #[] #[.pointer (some ⟨q, 0, none⟩)]), .api (x), .api (y), .api ((x + y)), .api (z), .api (((x + y) + z)), .eq (.func (.func 26) #[] #[.pointer (some ⟨q, 0, none⟩)]), .api (x), .eq (.func (.func 26) #[] #[.pointer (some ⟨q, 0, none⟩)]), .api (y), .api (z), .api ((y + z)), .api ((x + (y + z))), .eq (.bool true), .eq (.bool false), .eq (.bool false), .eq (.bool false), .eq (.func (.func 28) #[] #[.pointer (some ⟨q, 0, none⟩)]), .api (x), .api (y), .api ((x * y)), .eq (.func (.func 28) #[] #[.pointer (some ⟨q, 0, none⟩)]), .api (y), .api (x), .api ((y * x)), .eq (.bool true), .eq (.bool false), .eq (.bool false), .eq (.bool false), .eq (.func (.func 28) #[] #[.pointer (some ⟨q, 0, none⟩)]), .eq (.func (.func 28) #[] #[.pointer (some ⟨q, 0, none⟩)]), .api (x), .api (y), .api ((x * y)), .api (z), .api (((x * y) * z)), .eq (.func (.func 28) #[] #[.pointer (some ⟨q, 0, none⟩)]), .api (x), .eq (.func (.func 28) #[] #[.pointer (some ⟨q, 0, none⟩)]), .api (y), .api (z), .api ((y * z)), .api ((x * (y * z))), .eq (.bool true), .eq (.bool false), .eq (.bool false), .eq (.bool false), .eq (.func (.func 28) #[] #[.pointer (some ⟨q, 0, none⟩)]), .api (x), .eq (.func (.func 26) #[] #[.pointer (some ⟨q, 0, none⟩)]), .api (y), .api (z), .api ((y + z)), .api ((x * (y + z))), .eq (.func (.func 26) #[] #[.pointer (some ⟨q, 0, none⟩)]), .eq (.func (.func 28) #[] #[.pointer (some ⟨q, 0, none⟩)]), .api (x), .api (y), .api ((x * y)), .eq (.func (.func 28) #[] #[.pointer (some ⟨q, 0, none⟩)]), .api (x), .api (z), .api ((x * z)), .api (((x * y) + (x * z))), .eq (.bool true), .eq (.bool false), .eq (.bool false), .eq (.bool false), .eq (.func (.func 26) #[] #[.pointer (some ⟨q, 0, none⟩)]), .eq (.func (.func 27) #[] #[.pointer (some ⟨q, 0, none⟩)]), .api (x), .api (y), .api ((x - y)), .api (y), .api (((x - y) + y)), .api (x), .eq (.bool true), .eq (.bool false), .eq (.bool false), .eq (.bool false), .eq (.func (.func 26) #[] #[.pointer (some ⟨q, 0, none⟩)]), .api (x), .api (0), .api ((x + 0)), .api (x), .eq (.bool true), .eq (.bool false), .eq (.bool false), .eq (.bool false), .eq (.func (.func 28) #[] #[.pointer (some ⟨q, 0, none⟩)]), .api (x), .api (1), .api ((x * 1)), .api (x), .eq (.bool true), .eq (.bool false)]) (by kernel_rfl) (by kernel_rfl) (by kernel_rfl) (by decide) (by kernel_rfl) (by kernel_rfl) (fun i v w w' h hb => SpV.below i v w w' h hb) (Below.refl _ _).drew ?steps ?tail
  case steps =>
    refine upto_step 107 108 rfl ?_ (step_not (b := true) rfl (asked_if 100 157 false rfl (by kernel_rfl) (by kernel_rfl) (fun _ _ h => h)) rfl (knows_dep 106 163 (by kernel_rfl) (by kernel_rfl)) (fun _ => rfl))
    refine upto_step 106 107 rfl ?_ (step_call2 rfl (asked_if 100 157 false rfl (by kernel_rfl) (by kernel_rfl) (fun _ _ h => h)) rfl (by kernel_rfl) (knows_func 12) (knows_dep 104 161 (by kernel_rfl) (by kernel_rfl)) (knows_dep 105 162 (by kernel_rfl) (by kernel_rfl)) (yes_same (x * 1) x (Int.mul_one x) N21.out (fun _ => rfl)))
    refine upto_step 105 106 rfl ?_ (step_load rfl (asked_if 100 157 false rfl (by kernel_rfl) (by kernel_rfl) (fun _ _ h => h)) rfl (knows_old 3 _ (by kernel_rfl) rfl) (fun X h => load_pair (HR.out X h).1) (fun X h => (HA.out X h).1))
    refine upto_step 104 105 rfl ?_ (step_call2 rfl (asked_if 100 157 false rfl (by kernel_rfl) (by kernel_rfl) (fun _ _ h => h)) rfl (by kernel_rfl) (knows_dep 101 158 (by kernel_rfl) (by kernel_rfl)) (knows_dep 102 159 (by kernel_rfl) (by kernel_rfl)) (knows_dep 103 160 (by kernel_rfl) (by kernel_rfl)) (yes_mul rp rq x 1 N0.out N20.out N21.out (fun _ _ h => h)))
    refine upto_step 103 104 rfl ?_ (step_call1 rfl (asked_if 100 157 false rfl (by kernel_rfl) (by kernel_rfl) (fun _ _ h => h)) rfl (by kernel_rfl) (knows_func 29) (knows_const _) (yes_of 1 (by decide) (by decide) (fun _ _ h => h)))
    refine upto_step 102 103 rfl ?_ (step_load rfl (asked_if 100 157 false rfl (by kernel_rfl) (by kernel_rfl) (fun _ _ h => h)) rfl (knows_old 3 _ (by kernel_rfl) rfl) (fun X h => load_pair (HR.out X h).1) (fun X h => (HA.out X h).1))
    refine upto_step 101 102 rfl ?_ (step_move rfl (asked_if 100 157 false rfl (by kernel_rfl) (by kernel_rfl) (fun _ _ h => h)) rfl (knows_old 11 _ (by kernel_rfl) rfl) (fun _ _ h => h))
    refine upto_step 100 101 rfl ?_ (step_move rfl (asked_free rfl) rfl (knows_dep 99 156 (by kernel_rfl) (by kernel_rfl)) (fun _ _ h => h))
    refine upto_step 99 100 rfl ?_ (step_pick (b := false) rfl (asked_free rfl) rfl (knows_dep 91 148 (by kernel_rfl) (by kernel_rfl)) (knows_dep 98 155 (by kernel_rfl) (by kernel_rfl)) (fun _ _ h => h))
    refine upto_step 98 99 rfl ?_ (step_not (b := true) rfl (asked_if 91 148 false rfl (by kernel_rfl) (by kernel_rfl) (fun _ _ h => h)) rfl (knows_dep 97 154 (by kernel_rfl) (by kernel_rfl)) (fun _ => rfl))
    refine upto_step 97 98 rfl ?_ (step_call2 rfl (asked_if 91 148 false rfl (by kernel_rfl) (by kernel_rfl) (fun _ _ h => h)) rfl (by kernel_rfl) (knows_func 12) (knows_dep 95 152 (by kernel_rfl) (by kernel_rfl)) (knows_dep 96 153 (by kernel_rfl) (by kernel_rfl)) (yes_same (x + 0) x ((by omega)) N19.out (fun _ => rfl)))
    refine upto_step 96 97 rfl ?_ (step_load rfl (asked_if 91 148 false rfl (by kernel_rfl) (by kernel_rfl) (fun _ _ h => h)) rfl (knows_old 3 _ (by kernel_rfl) rfl) (fun X h => load_pair (HR.out X h).1) (fun X h => (HA.out X h).1))
    refine upto_step 95 96 rfl ?_ (step_call2 rfl (asked_if 91 148 false rfl (by kernel_rfl) (by kernel_rfl) (fun _ _ h => h)) rfl (by kernel_rfl) (knows_dep 92 149 (by kernel_rfl) (by kernel_rfl)) (knows_dep 93 150 (by kernel_rfl) (by kernel_rfl)) (knows_dep 94 151 (by kernel_rfl) (by kernel_rfl)) (yes_add rp rq x 0 N0.out N18.out N19.out (fun _ _ h => h)))
    refine upto_step 94 95 rfl ?_ (step_call1 rfl (asked_if 91 148 false rfl (by kernel_rfl) (by kernel_rfl) (fun _ _ h => h)) rfl (by kernel_rfl) (knows_func 29) (knows_const _) (yes_of 0 (by decide) (by decide) (fun _ _ h => h)))
    refine upto_step 93 94 rfl ?_ (step_load rfl (asked_if 91 148 false rfl (by kernel_rfl) (by kernel_rfl) (fun _ _ h => h)) rfl (knows_old 3 _ (by kernel_rfl) rfl) (fun X h => load_pair (HR.out X h).1) (fun X h => (HA.out X h).1))
    refine upto_step 92 93 rfl ?_ (step_move rfl (asked_if 91 148 false rfl (by kernel_rfl) (by kernel_rfl) (fun _ _ h => h)) rfl (knows_old 9 _ (by kernel_rfl) rfl) (fun _ _ h => h))
    refine upto_step 91 92 rfl ?_ (step_move rfl (asked_free rfl) rfl (knows_dep 90 147 (by kernel_rfl) (by kernel_rfl)) (fun _ _ h => h))
    refine upto_step 90 91 rfl ?_ (step_pick (b := false) rfl (asked_free rfl) rfl (knows_dep 79 136 (by kernel_rfl) (by kernel_rfl)) (knows_dep 89 146 (by kernel_rfl) (by kernel_rfl)) (fun _ _ h => h))
    refine upto_step 89 90 rfl ?_ (step_not (b := true) rfl (asked_if 79 136 false rfl (by kernel_rfl) (by kernel_rfl) (fun _ _ h => h)) rfl (knows_dep 88 145 (by kernel_rfl) (by kernel_rfl)) (fun _ => rfl))
    refine upto_step 88 89 rfl ?_ (step_call2 rfl (asked_if 79 136 false rfl (by kernel_rfl) (by kernel_rfl) (fun _ _ h => h)) rfl (by kernel_rfl) (knows_func 12) (knows_dep 86 143 (by kernel_rfl) (by kernel_rfl)) (knows_dep 87 144 (by kernel_rfl) (by kernel_rfl)) (yes_same ((x - y) + y) x ((by omega)) N17.out (fun _ => rfl)))
    refine upto_step 87 88 rfl ?_ (step_load rfl (asked_if 79 136 false rfl (by kernel_rfl) (by kernel_rfl) (fun _ _ h => h)) rfl (knows_old 3 _ (by kernel_rfl) rfl) (fun X h => load_pair (HR.out X h).1) (fun X h => (HA.out X h).1))
    refine upto_step 86 87 rfl ?_ (step_call2 rfl (asked_if 79 136 false rfl (by kernel_rfl) (by kernel_rfl) (fun _ _ h => h)) rfl (by kernel_rfl) (knows_dep 80 137 (by kernel_rfl) (by kernel_rfl)) (knows_dep 84 141 (by kernel_rfl) (by kernel_rfl)) (knows_dep 85 142 (by kernel_rfl) (by kernel_rfl)) (yes_add rp rq (x - y) y N16.out N1.out N17.out (fun _ _ h => h)))
    refine upto_step 85 86 rfl ?_ (step_load rfl (asked_if 79 136 false rfl (by kernel_rfl) (by kernel_rfl) (fun _ _ h => h)) rfl (knows_old 4 _ (by kernel_rfl) rfl) (fun X h => load_pair (HR.out X h).2.1) (fun X h => (HA.out X h).2.1))
    refine upto_step 84 85 rfl ?_ (step_call2 rfl (asked_if 79 136 false rfl (by kernel_rfl) (by kernel_rfl) (fun _ _ h => h)) rfl (by kernel_rfl) (knows_dep 81 138 (by kernel_rfl) (by kernel_rfl)) (knows_dep 82 139 (by kernel_rfl) (by kernel_rfl)) (knows_dep 83 140 (by kernel_rfl) (by kernel_rfl)) (yes_sub rp rq x y N0.out N1.out N16.out (fun _ _ h => h)))
    refine upto_step 83 84 rfl ?_ (step_load rfl (asked_if 79 136 false rfl (by kernel_rfl) (by kernel_rfl) (fun _ _ h => h)) rfl (knows_old 4 _ (by kernel_rfl) rfl) (fun X h => load_pair (HR.out X h).2.1) (fun X h => (HA.out X h).2.1))
    refine upto_step 82 83 rfl ?_ (step_load rfl (asked_if 79 136 false rfl (by kernel_rfl) (by kernel_rfl) (fun _ _ h => h)) rfl (knows_old 3 _ (by kernel_rfl) rfl) (fun X h => load_pair (HR.out X h).1) (fun X h => (HA.out X h).1))
    refine upto_step 81 82 rfl ?_ (step_move rfl (asked_if 79 136 false rfl (by kernel_rfl) (by kernel_rfl) (fun _ _ h => h)) rfl (knows_old 10 _ (by kernel_rfl) rfl) (fun _ _ h => h))
    refine upto_step 80 81 rfl ?_ (step_move rfl (asked_if 79 136 false rfl (by kernel_rfl) (by kernel_rfl) (fun _ _ h => h)) rfl (knows_old 9 _ (by kernel_rfl) rfl) (fun _ _ h => h))
    refine upto_step 79 80 rfl ?_ (step_move rfl (asked_free rfl) rfl (knows_dep 78 135 (by kernel_rfl) (by kernel_rfl)) (fun _ _ h => h))
    refine upto_step 78 79 rfl ?_ (step_pick (b := false) rfl (asked_free rfl) rfl (knows_dep 58 115 (by kernel_rfl) (by kernel_rfl)) (knows_dep 77 134 (by kernel_rfl) (by kernel_rfl)) (fun _ _ h => h))
    refine upto_step 77 78 rfl ?_ (step_not (b := true) rfl (asked_if 58 115 false rfl (by kernel_rfl) (by kernel_rfl) (fun _ _ h => h)) rfl (knows_dep 76 133 (by kernel_rfl) (by kernel_rfl)) (fun _ => rfl))
    refine upto_step 76 77 rfl ?_ (step_call2 rfl (asked_if 58 115 false rfl (by kernel_rfl) (by kernel_rfl) (fun _ _ h => h)) rfl (by kernel_rfl) (knows_func 12) (knows_dep 65 122 (by kernel_rfl) (by kernel_rfl)) (knows_dep 75 132 (by kernel_rfl) (by kernel_rfl)) (yes_same (x * (y + z)) ((x * y) + (x * z)) (Int.mul_add x y z) N13.out (fun _ => rfl)))
    refine upto_step 75 76 rfl ?_ (step_call2 rfl (asked_if 58 115 false rfl (by kernel_rfl) (by kernel_rfl) (fun _ _ h => h)) rfl (by kernel_rfl) (knows_dep 66 123 (by kernel_rfl) (by kernel_rfl)) (knows_dep 70 127 (by kernel_rfl) (by kernel_rfl)) (knows_dep 74 131 (by kernel_rfl) (by kernel_rfl)) (yes_add rp rq (x * y) (x * z) N8.out N14.out N15.out (fun _ _ h => h)))
    refine upto_step 74 75 rfl ?_ (step_call2 rfl (asked_if 58 115 false rfl (by kernel_rfl) (by kernel_rfl) (fun _ _ h => h)) rfl (by kernel_rfl) (knows_dep 71 128 (by kernel_rfl) (by kernel_rfl)) (knows_dep 72 129 (by kernel_rfl) (by kernel_rfl)) (knows_dep 73 130 (by kernel_rfl) (by kernel_rfl)) (yes_mul rp rq x z N0.out N4.out N14.out (fun _ _ h => h)))
    refine upto_step 73 74 rfl ?_ (step_load rfl (asked_if 58 115 false rfl (by kernel_rfl) (by kernel_rfl) (fun _ _ h => h)) rfl (knows_old 5 _ (by kernel_rfl) rfl) (fun X h => load_pair (HR.out X h).2.2) (fun X h => (HA.out X h).2.2))
    refine upto_step 72 73 rfl ?_ (step_load rfl (asked_if 58 115 false rfl (by kernel_rfl) (by kernel_rfl) (fun _ _ h => h)) rfl (knows_old 3 _ (by kernel_rfl) rfl) (fun X h => load_pair (HR.out X h).1) (fun X h => (HA.out X h).1))
    refine upto_step 71 72 rfl ?_ (step_move rfl (asked_if 58 115 false rfl (by kernel_rfl) (by kernel_rfl) (fun _ _ h => h)) rfl (knows_old 11 _ (by kernel_rfl) rfl) (fun _ _ h => h))
    refine upto_step 70 71 rfl ?_ (step_call2 rfl (asked_if 58 115 false rfl (by kernel_rfl) (by kernel_rfl) (fun _ _ h => h)) rfl (by kernel_rfl) (knows_dep 67 124 (by kernel_rfl) (by kernel_rfl)) (knows_dep 68 125 (by kernel_rfl) (by kernel_rfl)) (knows_dep 69 126 (by kernel_rfl) (by kernel_rfl)) (yes_mul rp rq x y N0.out N1.out N8.out (fun _ _ h => h)))
    refine upto_step 69 70 rfl ?_ (step_load rfl (asked_if 58 115 false rfl (by kernel_rfl) (by kernel_rfl) (fun _ _ h => h)) rfl (knows_old 4 _ (by kernel_rfl) rfl) (fun X h => load_pair (HR.out X h).2.1) (fun X h => (HA.out X h).2.1))
    refine upto_step 68 69 rfl ?_ (step_load rfl (asked_if 58 115 false rfl (by kernel_rfl) (by kernel_rfl) (fun _ _ h => h)) rfl (knows_old 3 _ (by kernel_rfl) rfl) (fun X h => load_pair (HR.out X h).1) (fun X h => (HA.out X h).1))
    refine upto_step 67 68 rfl ?_ (step_move rfl (asked_if 58 115 false rfl (by kernel_rfl) (by kernel_rfl) (fun _ _ h => h)) rfl (knows_old 11 _ (by kernel_rfl) rfl) (fun _ _ h => h))
    refine upto_step 66 67 rfl ?_ (step_move rfl (asked_if 58 115 false rfl (by kernel_rfl) (by kernel_rfl) (fun _ _ h => h)) rfl (knows_old 9 _ (by kernel_rfl) rfl) (fun _ _ h => h))
    refine upto_step 65 66 rfl ?_ (step_call2 rfl (asked_if 58 115 false rfl (by kernel_rfl) (by kernel_rfl) (fun _ _ h => h)) rfl (by kernel_rfl) (knows_dep 59 116 (by kernel_rfl) (by kernel_rfl)) (knows_dep 60 117 (by kernel_rfl) (by kernel_rfl)) (knows_dep 64 121 (by kernel_rfl) (by kernel_rfl)) (yes_mul rp rq x (y + z) N0.out N6.out N13.out (fun _ _ h => h)))
    refine upto_step 64 65 rfl ?_ (step_call2 rfl (asked_if 58 115 false rfl (by kernel_rfl) (by kernel_rfl) (fun _ _ h => h)) rfl (by kernel_rfl) (knows_dep 61 118 (by kernel_rfl) (by kernel_rfl)) (knows_dep 62 119 (by kernel_rfl) (by kernel_rfl)) (knows_dep 63 120 (by kernel_rfl) (by kernel_rfl)) (yes_add rp rq y z N1.out N4.out N6.out (fun _ _ h => h)))
    refine upto_step 63 64 rfl ?_ (step_load rfl (asked_if 58 115 false rfl (by kernel_rfl) (by kernel_rfl) (fun _ _ h => h)) rfl (knows_old 5 _ (by kernel_rfl) rfl) (fun X h => load_pair (HR.out X h).2.2) (fun X h => (HA.out X h).2.2))
    refine upto_step 62 63 rfl ?_ (step_load rfl (asked_if 58 115 false rfl (by kernel_rfl) (by kernel_rfl) (fun _ _ h => h)) rfl (knows_old 4 _ (by kernel_rfl) rfl) (fun X h => load_pair (HR.out X h).2.1) (fun X h => (HA.out X h).2.1))
    refine upto_step 61 62 rfl ?_ (step_move rfl (asked_if 58 115 false rfl (by kernel_rfl) (by kernel_rfl) (fun _ _ h => h)) rfl (knows_old 9 _ (by kernel_rfl) rfl) (fun _ _ h => h))
    refine upto_step 60 61 rfl ?_ (step_load rfl (asked_if 58 115 false rfl (by kernel_rfl) (by kernel_rfl) (fun _ _ h => h)) rfl (knows_old 3 _ (by kernel_rfl) rfl) (fun X h => load_pair (HR.out X h).1) (fun X h => (HA.out X h).1))
    refine upto_step 59 60 rfl ?_ (step_move rfl (asked_if 58 115 false rfl (by kernel_rfl) (by kernel_rfl) (fun _ _ h => h)) rfl (knows_old 11 _ (by kernel_rfl) rfl) (fun _ _ h => h))
    refine upto_step 58 59 rfl ?_ (step_move rfl (asked_free rfl) rfl (knows_dep 57 114 (by kernel_rfl) (by kernel_rfl)) (fun _ _ h => h))
    refine upto_step 57 58 rfl ?_ (step_pick (b := false) rfl (asked_free rfl) rfl (knows_dep 40 97 (by kernel_rfl) (by kernel_rfl)) (knows_dep 56 113 (by kernel_rfl) (by kernel_rfl)) (fun _ _ h => h))
    refine upto_step 56 57 rfl ?_ (step_not (b := true) rfl (asked_if 40 97 false rfl (by kernel_rfl) (by kernel_rfl) (fun _ _ h => h)) rfl (knows_dep 55 112 (by kernel_rfl) (by kernel_rfl)) (fun _ => rfl))
    refine upto_step 55 56 rfl ?_ (step_call2 rfl (asked_if 40 97 false rfl (by kernel_rfl) (by kernel_rfl) (fun _ _ h => h)) rfl (by kernel_rfl) (knows_func 12) (knows_dep 47 104 (by kernel_rfl) (by kernel_rfl)) (knows_dep 54 111 (by kernel_rfl) (by kernel_rfl)) (yes_same ((x * y) * z) (x * (y * z)) (Int.mul_assoc x y z) N10.out (fun _ => rfl)))
    refine upto_step 54 55 rfl ?_ (step_call2 rfl (asked_if 40 97 false rfl (by kernel_rfl) (by kernel_rfl) (fun _ _ h => h)) rfl (by kernel_rfl) (knows_dep 48 105 (by kernel_rfl) (by kernel_rfl)) (knows_dep 49 106 (by kernel_rfl) (by kernel_rfl)) (knows_dep 53 110 (by kernel_rfl) (by kernel_rfl)) (yes_mul rp rq x (y * z) N0.out N11.out N12.out (fun _ _ h => h)))
    refine upto_step 53 54 rfl ?_ (step_call2 rfl (asked_if 40 97 false rfl (by kernel_rfl) (by kernel_rfl) (fun _ _ h => h)) rfl (by kernel_rfl) (knows_dep 50 107 (by kernel_rfl) (by kernel_rfl)) (knows_dep 51 108 (by kernel_rfl) (by kernel_rfl)) (knows_dep 52 109 (by kernel_rfl) (by kernel_rfl)) (yes_mul rp rq y z N1.out N4.out N11.out (fun _ _ h => h)))
    refine upto_step 52 53 rfl ?_ (step_load rfl (asked_if 40 97 false rfl (by kernel_rfl) (by kernel_rfl) (fun _ _ h => h)) rfl (knows_old 5 _ (by kernel_rfl) rfl) (fun X h => load_pair (HR.out X h).2.2) (fun X h => (HA.out X h).2.2))
    refine upto_step 51 52 rfl ?_ (step_load rfl (asked_if 40 97 false rfl (by kernel_rfl) (by kernel_rfl) (fun _ _ h => h)) rfl (knows_old 4 _ (by kernel_rfl) rfl) (fun X h => load_pair (HR.out X h).2.1) (fun X h => (HA.out X h).2.1))
    refine upto_step 50 51 rfl ?_ (step_move rfl (asked_if 40 97 false rfl (by kernel_rfl) (by kernel_rfl) (fun _ _ h => h)) rfl (knows_old 11 _ (by kernel_rfl) rfl) (fun _ _ h => h))
    refine upto_step 49 50 rfl ?_ (step_load rfl (asked_if 40 97 false rfl (by kernel_rfl) (by kernel_rfl) (fun _ _ h => h)) rfl (knows_old 3 _ (by kernel_rfl) rfl) (fun X h => load_pair (HR.out X h).1) (fun X h => (HA.out X h).1))
    refine upto_step 48 49 rfl ?_ (step_move rfl (asked_if 40 97 false rfl (by kernel_rfl) (by kernel_rfl) (fun _ _ h => h)) rfl (knows_old 11 _ (by kernel_rfl) rfl) (fun _ _ h => h))
    refine upto_step 47 48 rfl ?_ (step_call2 rfl (asked_if 40 97 false rfl (by kernel_rfl) (by kernel_rfl) (fun _ _ h => h)) rfl (by kernel_rfl) (knows_dep 41 98 (by kernel_rfl) (by kernel_rfl)) (knows_dep 45 102 (by kernel_rfl) (by kernel_rfl)) (knows_dep 46 103 (by kernel_rfl) (by kernel_rfl)) (yes_mul rp rq (x * y) z N8.out N4.out N10.out (fun _ _ h => h)))
    refine upto_step 46 47 rfl ?_ (step_load rfl (asked_if 40 97 false rfl (by kernel_rfl) (by kernel_rfl) (fun _ _ h => h)) rfl (knows_old 5 _ (by kernel_rfl) rfl) (fun X h => load_pair (HR.out X h).2.2) (fun X h => (HA.out X h).2.2))
    refine upto_step 45 46 rfl ?_ (step_call2 rfl (asked_if 40 97 false rfl (by kernel_rfl) (by kernel_rfl) (fun _ _ h => h)) rfl (by kernel_rfl) (knows_dep 42 99 (by kernel_rfl) (by kernel_rfl)) (knows_dep 43 100 (by kernel_rfl) (by kernel_rfl)) (knows_dep 44 101 (by kernel_rfl) (by kernel_rfl)) (yes_mul rp rq x y N0.out N1.out N8.out (fun _ _ h => h)))
    refine upto_step 44 45 rfl ?_ (step_load rfl (asked_if 40 97 false rfl (by kernel_rfl) (by kernel_rfl) (fun _ _ h => h)) rfl (knows_old 4 _ (by kernel_rfl) rfl) (fun X h => load_pair (HR.out X h).2.1) (fun X h => (HA.out X h).2.1))
    refine upto_step 43 44 rfl ?_ (step_load rfl (asked_if 40 97 false rfl (by kernel_rfl) (by kernel_rfl) (fun _ _ h => h)) rfl (knows_old 3 _ (by kernel_rfl) rfl) (fun X h => load_pair (HR.out X h).1) (fun X h => (HA.out X h).1))
    refine upto_step 42 43 rfl ?_ (step_move rfl (asked_if 40 97 false rfl (by kernel_rfl) (by kernel_rfl) (fun _ _ h => h)) rfl (knows_old 11 _ (by kernel_rfl) rfl) (fun _ _ h => h))
    refine upto_step 41 42 rfl ?_ (step_move rfl (asked_if 40 97 false rfl (by kernel_rfl) (by kernel_rfl) (fun _ _ h => h)) rfl (knows_old 11 _ (by kernel_rfl) rfl) (fun _ _ h => h))
    refine upto_step 40 41 rfl ?_ (step_move rfl (asked_free rfl) rfl (knows_dep 39 96 (by kernel_rfl) (by kernel_rfl)) (fun _ _ h => h))
    refine upto_step 39 40 rfl ?_ (step_pick (b := false) rfl (asked_free rfl) rfl (knows_dep 28 85 (by kernel_rfl) (by kernel_rfl)) (knows_dep 38 95 (by kernel_rfl) (by kernel_rfl)) (fun _ _ h => h))
    refine upto_step 38 39 rfl ?_ (step_not (b := true) rfl (asked_if 28 85 false rfl (by kernel_rfl) (by kernel_rfl) (fun _ _ h => h)) rfl (knows_dep 37 94 (by kernel_rfl) (by kernel_rfl)) (fun _ => rfl))
    refine upto_step 37 38 rfl ?_ (step_call2 rfl (asked_if 28 85 false rfl (by kernel_rfl) (by kernel_rfl) (fun _ _ h => h)) rfl (by kernel_rfl) (knows_func 12) (knows_dep 32 89 (by kernel_rfl) (by kernel_rfl)) (knows_dep 36 93 (by kernel_rfl) (by kernel_rfl)) (yes_same (x * y) (y * x) (Int.mul_comm x y) N8.out (fun _ => rfl)))
    refine upto_step 36 37 rfl ?_ (step_call2 rfl (asked_if 28 85 false rfl (by kernel_rfl) (by kernel_rfl) (fun _ _ h => h)) rfl (by kernel_rfl) (knows_dep 33 90 (by kernel_rfl) (by kernel_rfl)) (knows_dep 34 91 (by kernel_rfl) (by kernel_rfl)) (knows_dep 35 92 (by kernel_rfl) (by kernel_rfl)) (yes_mul rp rq y x N1.out N0.out N9.out (fun _ _ h => h)))
    refine upto_step 35 36 rfl ?_ (step_load rfl (asked_if 28 85 false rfl (by kernel_rfl) (by kernel_rfl) (fun _ _ h => h)) rfl (knows_old 3 _ (by kernel_rfl) rfl) (fun X h => load_pair (HR.out X h).1) (fun X h => (HA.out X h).1))
    refine upto_step 34 35 rfl ?_ (step_load rfl (asked_if 28 85 false rfl (by kernel_rfl) (by kernel_rfl) (fun _ _ h => h)) rfl (knows_old 4 _ (by kernel_rfl) rfl) (fun X h => load_pair (HR.out X h).2.1) (fun X h => (HA.out X h).2.1))
    refine upto_step 33 34 rfl ?_ (step_move rfl (asked_if 28 85 false rfl (by kernel_rfl) (by kernel_rfl) (fun _ _ h => h)) rfl (knows_old 11 _ (by kernel_rfl) rfl) (fun _ _ h => h))
    refine upto_step 32 33 rfl ?_ (step_call2 rfl (asked_if 28 85 false rfl (by kernel_rfl) (by kernel_rfl) (fun _ _ h => h)) rfl (by kernel_rfl) (knows_dep 29 86 (by kernel_rfl) (by kernel_rfl)) (knows_dep 30 87 (by kernel_rfl) (by kernel_rfl)) (knows_dep 31 88 (by kernel_rfl) (by kernel_rfl)) (yes_mul rp rq x y N0.out N1.out N8.out (fun _ _ h => h)))
    refine upto_step 31 32 rfl ?_ (step_load rfl (asked_if 28 85 false rfl (by kernel_rfl) (by kernel_rfl) (fun _ _ h => h)) rfl (knows_old 4 _ (by kernel_rfl) rfl) (fun X h => load_pair (HR.out X h).2.1) (fun X h => (HA.out X h).2.1))
    refine upto_step 30 31 rfl ?_ (step_load rfl (asked_if 28 85 false rfl (by kernel_rfl) (by kernel_rfl) (fun _ _ h => h)) rfl (knows_old 3 _ (by kernel_rfl) rfl) (fun X h => load_pair (HR.out X h).1) (fun X h => (HA.out X h).1))
    refine upto_step 29 30 rfl ?_ (step_move rfl (asked_if 28 85 false rfl (by kernel_rfl) (by kernel_rfl) (fun _ _ h => h)) rfl (knows_old 11 _ (by kernel_rfl) rfl) (fun _ _ h => h))
    refine upto_step 28 29 rfl ?_ (step_move rfl (asked_free rfl) rfl (knows_dep 27 84 (by kernel_rfl) (by kernel_rfl)) (fun _ _ h => h))
    refine upto_step 27 28 rfl ?_ (step_pick (b := false) rfl (asked_free rfl) rfl (knows_dep 10 67 (by kernel_rfl) (by kernel_rfl)) (knows_dep 26 83 (by kernel_rfl) (by kernel_rfl)) (fun _ _ h => h))
    refine upto_step 26 27 rfl ?_ (step_not (b := true) rfl (asked_if 10 67 false rfl (by kernel_rfl) (by kernel_rfl) (fun _ _ h => h)) rfl (knows_dep 25 82 (by kernel_rfl) (by kernel_rfl)) (fun _ => rfl))
    refine upto_step 25 26 rfl ?_ (step_call2 rfl (asked_if 10 67 false rfl (by kernel_rfl) (by kernel_rfl) (fun _ _ h => h)) rfl (by kernel_rfl) (knows_func 12) (knows_dep 17 74 (by kernel_rfl) (by kernel_rfl)) (knows_dep 24 81 (by kernel_rfl) (by kernel_rfl)) (yes_same ((x + y) + z) (x + (y + z)) ((by omega)) N5.out (fun _ => rfl)))
    refine upto_step 24 25 rfl ?_ (step_call2 rfl (asked_if 10 67 false rfl (by kernel_rfl) (by kernel_rfl) (fun _ _ h => h)) rfl (by kernel_rfl) (knows_dep 18 75 (by kernel_rfl) (by kernel_rfl)) (knows_dep 19 76 (by kernel_rfl) (by kernel_rfl)) (knows_dep 23 80 (by kernel_rfl) (by kernel_rfl)) (yes_add rp rq x (y + z) N0.out N6.out N7.out (fun _ _ h => h)))
    refine upto_step 23 24 rfl ?_ (step_call2 rfl (asked_if 10 67 false rfl (by kernel_rfl) (by kernel_rfl) (fun _ _ h => h)) rfl (by kernel_rfl) (knows_dep 20 77 (by kernel_rfl) (by kernel_rfl)) (knows_dep 21 78 (by kernel_rfl) (by kernel_rfl)) (knows_dep 22 79 (by kernel_rfl) (by kernel_rfl)) (yes_add rp rq y z N1.out N4.out N6.out (fun _ _ h => h)))
    refine upto_step 22 23 rfl ?_ (step_load rfl (asked_if 10 67 false rfl (by kernel_rfl) (by kernel_rfl) (fun _ _ h => h)) rfl (knows_old 5 _ (by kernel_rfl) rfl) (fun X h => load_pair (HR.out X h).2.2) (fun X h => (HA.out X h).2.2))
    refine upto_step 21 22 rfl ?_ (step_load rfl (asked_if 10 67 false rfl (by kernel_rfl) (by kernel_rfl) (fun _ _ h => h)) rfl (knows_old 4 _ (by kernel_rfl) rfl) (fun X h => load_pair (HR.out X h).2.1) (fun X h => (HA.out X h).2.1))
    refine upto_step 20 21 rfl ?_ (step_move rfl (asked_if 10 67 false rfl (by kernel_rfl) (by kernel_rfl) (fun _ _ h => h)) rfl (knows_old 9 _ (by kernel_rfl) rfl) (fun _ _ h => h))
    refine upto_step 19 20 rfl ?_ (step_load rfl (asked_if 10 67 false rfl (by kernel_rfl) (by kernel_rfl) (fun _ _ h => h)) rfl (knows_old 3 _ (by kernel_rfl) rfl) (fun X h => load_pair (HR.out X h).1) (fun X h => (HA.out X h).1))
    refine upto_step 18 19 rfl ?_ (step_move rfl (asked_if 10 67 false rfl (by kernel_rfl) (by kernel_rfl) (fun _ _ h => h)) rfl (knows_old 9 _ (by kernel_rfl) rfl) (fun _ _ h => h))
    refine upto_step 17 18 rfl ?_ (step_call2 rfl (asked_if 10 67 false rfl (by kernel_rfl) (by kernel_rfl) (fun _ _ h => h)) rfl (by kernel_rfl) (knows_dep 11 68 (by kernel_rfl) (by kernel_rfl)) (knows_dep 15 72 (by kernel_rfl) (by kernel_rfl)) (knows_dep 16 73 (by kernel_rfl) (by kernel_rfl)) (yes_add rp rq (x + y) z N2.out N4.out N5.out (fun _ _ h => h)))
    refine upto_step 16 17 rfl ?_ (step_load rfl (asked_if 10 67 false rfl (by kernel_rfl) (by kernel_rfl) (fun _ _ h => h)) rfl (knows_old 5 _ (by kernel_rfl) rfl) (fun X h => load_pair (HR.out X h).2.2) (fun X h => (HA.out X h).2.2))
    refine upto_step 15 16 rfl ?_ (step_call2 rfl (asked_if 10 67 false rfl (by kernel_rfl) (by kernel_rfl) (fun _ _ h => h)) rfl (by kernel_rfl) (knows_dep 12 69 (by kernel_rfl) (by kernel_rfl)) (knows_dep 13 70 (by kernel_rfl) (by kernel_rfl)) (knows_dep 14 71 (by kernel_rfl) (by kernel_rfl)) (yes_add rp rq x y N0.out N1.out N2.out (fun _ _ h => h)))
    refine upto_step 14 15 rfl ?_ (step_load rfl (asked_if 10 67 false rfl (by kernel_rfl) (by kernel_rfl) (fun _ _ h => h)) rfl (knows_old 4 _ (by kernel_rfl) rfl) (fun X h => load_pair (HR.out X h).2.1) (fun X h => (HA.out X h).2.1))
    refine upto_step 13 14 rfl ?_ (step_load rfl (asked_if 10 67 false rfl (by kernel_rfl) (by kernel_rfl) (fun _ _ h => h)) rfl (knows_old 3 _ (by kernel_rfl) rfl) (fun X h => load_pair (HR.out X h).1) (fun X h => (HA.out X h).1))
    refine upto_step 12 13 rfl ?_ (step_move rfl (asked_if 10 67 false rfl (by kernel_rfl) (by kernel_rfl) (fun _ _ h => h)) rfl (knows_old 9 _ (by kernel_rfl) rfl) (fun _ _ h => h))
    refine upto_step 11 12 rfl ?_ (step_move rfl (asked_if 10 67 false rfl (by kernel_rfl) (by kernel_rfl) (fun _ _ h => h)) rfl (knows_old 9 _ (by kernel_rfl) rfl) (fun _ _ h => h))
    refine upto_step 10 11 rfl ?_ (step_move rfl (asked_free rfl) rfl (knows_dep 9 66 (by kernel_rfl) (by kernel_rfl)) (fun _ _ h => h))
    refine upto_step 9 10 rfl ?_ (step_not (b := true) rfl (asked_free rfl) rfl (knows_dep 8 65 (by kernel_rfl) (by kernel_rfl)) (fun _ => rfl))
    refine upto_step 8 9 rfl ?_ (step_call2 rfl (asked_free rfl) rfl (by kernel_rfl) (knows_func 12) (knows_dep 3 60 (by kernel_rfl) (by kernel_rfl)) (knows_dep 7 64 (by kernel_rfl) (by kernel_rfl)) (yes_same (x + y) (y + x) ((by omega)) N2.out (fun _ => rfl)))
    refine upto_step 7 8 rfl ?_ (step_call2 rfl (asked_free rfl) rfl (by kernel_rfl) (knows_dep 4 61 (by kernel_rfl) (by kernel_rfl)) (knows_dep 5 62 (by kernel_rfl) (by kernel_rfl)) (knows_dep 6 63 (by kernel_rfl) (by kernel_rfl)) (yes_add rp rq y x N1.out N0.out N3.out (fun _ _ h => h)))
    refine upto_step 6 7 rfl ?_ (step_load rfl (asked_free rfl) rfl (knows_old 3 _ (by kernel_rfl) rfl) (fun X h => load_pair (HR.out X h).1) (fun X h => (HA.out X h).1))
    refine upto_step 5 6 rfl ?_ (step_load rfl (asked_free rfl) rfl (knows_old 4 _ (by kernel_rfl) rfl) (fun X h => load_pair (HR.out X h).2.1) (fun X h => (HA.out X h).2.1))
    refine upto_step 4 5 rfl ?_ (step_move rfl (asked_free rfl) rfl (knows_old 9 _ (by kernel_rfl) rfl) (fun _ _ h => h))
    refine upto_step 3 4 rfl ?_ (step_call2 rfl (asked_free rfl) rfl (by kernel_rfl) (knows_dep 0 57 (by kernel_rfl) (by kernel_rfl)) (knows_dep 1 58 (by kernel_rfl) (by kernel_rfl)) (knows_dep 2 59 (by kernel_rfl) (by kernel_rfl)) (yes_add rp rq x y N0.out N1.out N2.out (fun _ _ h => h)))
    refine upto_step 2 3 rfl ?_ (step_load rfl (asked_free rfl) rfl (knows_old 4 _ (by kernel_rfl) rfl) (fun X h => load_pair (HR.out X h).2.1) (fun X h => (HA.out X h).2.1))
    refine upto_step 1 2 rfl ?_ (step_load rfl (asked_free rfl) rfl (knows_old 3 _ (by kernel_rfl) rfl) (fun X h => load_pair (HR.out X h).1) (fun X h => (HA.out X h).1))
    refine upto_step 0 1 rfl ?_ (step_move rfl (asked_free rfl) rfl (knows_old 9 _ (by kernel_rfl) rfl) (fun _ _ h => h))
    intro i hi; omega
  case tail =>
    intro listed a' X hall inv
    obtain rfl := each_listed inv.head hall _ rfl
    have hX := inv.S
    have v157 := inv.val 100 _ 157 (by decide) rfl rfl (hall _ (by decide))
    have v164 := inv.val 107 _ 164 (by decide) rfl rfl (hall _ (by decide))
    change a'.tmps.getD 157 undef = .bool false at v157
    change a'.tmps.getD 164 undef = .bool false at v164
    have hsh := each_shape inv [57, 58, 59, 60, 61, 62, 63, 64, 65, 66, 67, 68, 69, 70, 71, 72, 73, 74, 75, 76, 77, 78, 79, 80, 81, 82, 83, 84, 85, 86, 87, 88, 89, 90, 91, 92, 93, 94, 95, 96, 97, 98, 99, 100, 101, 102, 103, 104, 105, 106, 107, 108, 109, 110, 111, 112, 113, 114, 115, 116, 117, 118, 119, 120, 121, 122, 123, 124, 125, 126, 127, 128, 129, 130, 131, 132, 133, 134, 135, 136, 137, 138, 139, 140, 141, 142, 143, 144, 145, 146, 147, 148, 149, 150, 151, 152, 153, 154, 155, 156, 157, 158, 159, 160, 161, 162, 163, 164] (by kernel_rfl) (by kernel_rfl)
    obtain ⟨u, hu⟩ : ∃ u : Nat → Value, u = fun d => a'.tmps.getD d undef := ⟨_, rfl⟩
    have v157' : u 157 = .bool false := by rw [hu]; exact v157
    have v164' : u 164 = .bool false := by rw [hu]; exact v164
    rw [← hu] at hsh
    clear hu v157 v164 inv hall
    subst hsh
    change wpAny _ _ _ _ _ _ (Act.mk (List.toArray [_, _, _, _, _, _, _, _, _, _, _, _, _, _, _, _, _, _, _, _, _, _, _, _, _, _, _, _, _, _, _, _, _, _, _, _, _, _, _, _, _, _, _, _, _, _, _, _, _, _, _, _, _, _, _, _, _, u 57, u 58, u 59, u 60, u 61, u 62, u 63, u 64, u 65, u 66, u 67, u 68, u 69, u 70, u 71, u 72, u 73, u 74, u 75, u 76, u 77, u 78, u 79, u 80, u 81, u 82, u 83, u 84, u 85, u 86, u 87, u 88, u 89, u 90, u 91, u 92, u 93, u 94, u 95, u 96, u 97, u 98, u 99, u 100, u 101, u 102, u 103, u 104, u 105, u 106, u 107, u 108, u 109, u 110, u 111, u 112, u 113, u 114, u 115, u 116, u 117, u 118, u 119, u 120, u 121, u 122, u 123, u 124, u 125, u 126, u 127, u 128, u 129, u 130, u 131, u 132, u 133, u 134, u 135, u 136, u 137, u 138, u 139, u 140, u 141, u 142, u 143, u 144, u 145, u 146, u 147, u 148, u 149, u 150, u 151, u 152, u 153, u 154, u 155, u 156, u 157, u 158, u 159, u 160, u 161, u 162, u 163, u 164, _, _, _, _, _, _, _, _, _, _, _, _, _, _, _, _, _, _, _, _, _, _, _, _, _, _, _, _, _, _, _, _, _, _, _, _, _, _, _, _, _, _, _, _, _, _, _, _, _, _, _, _, _, _, _, _, _, _, _, _, _, _, _, _, _, _, _, _, _, _, _, _, _, _, _, _, _, _, _, _, _, _, _, _, _, _, _, _, _, _, _, _, _, _, _, _, _, _, _, _, _, _, _, _, _, _, _, _, _, _, _, _, _, _, _, _, _, _, _, _, _, _, _, _, _, _, _, _, _, _, _, _]) _) _
    rw [v157', v164']
    refine wpAny_one (i := 108) (by kernel_rfl) ?_
    unfold wpOp
    go_simp
    refine .inl (wpAny_done (by kernel_rfl) ?_ _)
    have hX0 := hX
    replace r3 := r3.below hX0 r3.lt
    replace r4 := r4.below hX0 r4.lt
    replace rp := rp.below hX0 rp.lt
    replace rq := rq.below hX0 rq.lt
    replace hB := hB.trans (hX0.mono hB.size)
    clear hX0 hX HR HA
    obtain ⟨kr30, kr31⟩ := r3.cells
    obtain ⟨kr40, kr41⟩ := r4.cells
    go_wp2_with fail
    refine (HCm.out X hB).mono ?_
    rintro e Y1 ⟨rfl, hb⟩
    replace r3 := r3.below hb r3.lt
    replace r4 := r4.below hb r4.lt
    replace hB := hB.trans (hb.mono hB.size)
    replace rp := rp.below hb rp.lt
    replace rq := rq.below hb rq.lt
    clear kr30 kr31 kr40 kr41
    obtain ⟨kr30, kr31⟩ := r3.cells
    obtain ⟨kr40, kr41⟩ := r4.cells
    have hself := setCell_self rp
    have kp := rp.cell_at 0
    have fp := rp.free 0
    simp only [List.getElem?_cons_zero] at kp
    go_wp2_with fail
    refine (ring_sub Y1 _ _ x y p q rp rq (Hxyz.out.1.below hB) (Hxyz.out.2.1.below hB) N0.out N1.out N16.out).mono ?_
    rintro e Y2 ⟨ud, rfl, Ad, hb⟩
    replace r3 := r3.below hb r3.lt
    replace r4 := r4.below hb r4.lt
    replace hB := hB.trans (hb.mono hB.size)
    replace rp := rp.below hb rp.lt
    replace rq := rq.below hb rq.lt
    clear kr30 kr31 kr40 kr41
    obtain ⟨kr30, kr31⟩ := r3.cells
    obtain ⟨kr40, kr41⟩ := r4.cells
    clear hself kp fp
    obtain ⟨bd, ad, nd, cd, rfl, -⟩ := Ad.open
    have hds := cmp_tests x y bd nd Ad.parts.1 Ad.parts.2.1
    rw [← Hq0.out] at hds
    obtain ⟨ht1, ht2⟩ := hds
    clear Ad
    obtain ⟨Y3, hY3, r14, hbY3, hzY3⟩ := rows1 Y2 24 (.bool bd) (.slice ad nd cd)
    replace r3 := r3.below hbY3 r3.lt
    replace r4 := r4.below hbY3 r4.lt
    replace hB := hB.trans (hbY3.mono hB.size)
    replace rp := rp.below hbY3 rp.lt
    replace rq := rq.below hbY3 rq.lt
    clear kr30 kr31 kr40 kr41
    obtain ⟨kr30, kr31⟩ := r3.cells
    obtain ⟨kr40, kr41⟩ := r4.cells
    obtain ⟨kr140, kr141⟩ := r14.cells
    rw [hY3] at kr30 kr31 kr40 kr41 kr140 kr141
    have HY3 := Lib.hid hY3; clear hY3
    by_cases hy0 : ny = 0
    · have dy := dec_zero hy0
      obtain ⟨dy1, dy2⟩ := dy
      have kp := rp.cell_at 0
      simp only [List.getElem?_cons_zero] at kp
      rw [HY3.out] at kp
      go_wp2_with fail
      rw [← HY3.out]
      refine (law_awake Y3).mono ?_
      rintro e Y4 ⟨rfl, hb⟩
      go_wp2_with fail
      go_ret
      exact ⟨rfl, hB.trans (hb.mono hB.size)⟩
    · have dy := dec_pos hy0
      obtain ⟨dy1, dy2⟩ := dy
      go_wp2_with fail
      rw [← HY3.out]
      refine ((HDv.out Y3 hB (Hy0.out hy0)).mono fun e X' h => h.ok (Hy0.out hy0)).mono ?_
      rintro e Z1 ⟨bq, aq, nq, cq, br, ar, nr, cr, rfl, Hans, hb⟩
      replace r3 := r3.below hb r3.lt
      replace r4 := r4.below hb r4.lt
      replace r14 := r14.below hb r14.lt
      replace hB := hB.trans (hb.mono hB.size)
      replace rp := rp.below hb rp.lt
      replace rq := rq.below hb rq.lt
      clear kr30 kr31 kr40 kr41 kr140 kr141
      obtain ⟨kr30, kr31⟩ := r3.cells
      obtain ⟨kr40, kr41⟩ := r4.cells
      obtain ⟨kr140, kr141⟩ := r14.cells
      have Aq : ApiV Z1 (.agg #[.bool bq, .slice aq nq cq]) qf := by rw [Hqf.out]; exact Hans.out.1
      have Ar : ApiV Z1 (.agg #[.bool br, .slice ar nr cr]) rf := by rw [Hrf.out]; exact Hans.out.2
      clear Hans
      obtain ⟨Z2, hZ2, r15, r16, hbZ2, hzZ2⟩ := rows2 Z1 24 (.bool bq) (.slice aq nq cq) (.bool br) (.slice ar nr cr)
      replace r3 := r3.below hbZ2 r3.lt
      replace r4 := r4.below hbZ2 r4.lt
      replace r14 := r14.below hbZ2 r14.lt
      replace Aq := Aq.below hbZ2
      replace Ar := Ar.below hbZ2
      replace hB := hB.trans (hbZ2.mono hB.size)
      replace rp := rp.below hbZ2 rp.lt
      replace rq := rq.below hbZ2 rq.lt
      clear kr30 kr31 kr40 kr41 kr140 kr141
      obtain ⟨kr30, kr31⟩ := r3.cells
      obtain ⟨kr40, kr41⟩ := r4.cells
      obtain ⟨kr140, kr141⟩ := r14.cells
      obtain ⟨kr150, kr151⟩ := r15.cells
      obtain ⟨kr160, kr161⟩ := r16.cells
      rw [hZ2] at kr30 kr31 kr40 kr41 kr140 kr141 kr150 kr151 kr160 kr161
      have HZ2 := Lib.hid hZ2; clear hZ2
      go_wp2_with fail
      rw [← HZ2.out]
      refine ((HQu.out Z2 hB (Hy0.out hy0)).mono fun e X' h => h.ok (Hy0.out hy0)).mono ?_
      rintro e Z3 ⟨bs, as', ns, cs, bt, at', nt, ct, rfl, Hans, hb⟩
      replace r3 := r3.below hb r3.lt
      replace r4 := r4.below hb r4.lt
      replace r14 := r14.below hb r14.lt
      replace r15 := r15.below hb r15.lt
      replace r16 := r16.below hb r16.lt
      replace Aq := Aq.below hb
      replace Ar := Ar.below hb
      replace hB := hB.trans (hb.mono hB.size)
      replace rp := rp.below hb rp.lt
      replace rq := rq.below hb rq.lt
      clear kr30 kr31 kr40 kr41 kr140 kr141 kr150 kr151 kr160 kr161
      obtain ⟨kr30, kr31⟩ := r3.cells
      obtain ⟨kr40, kr41⟩ := r4.cells
      obtain ⟨kr140, kr141⟩ := r14.cells
      obtain ⟨kr150, kr151⟩ := r15.cells
      obtain ⟨kr160, kr161⟩ := r16.cells
      have As : ApiV Z3 (.agg #[.bool bs, .slice as' ns cs]) qt := by rw [Hqt.out]; exact Hans.out.1
      have At' : ApiV Z3 (.agg #[.bool bt, .slice at' nt ct]) rt := by rw [Hrt.out]; exact Hans.out.2
      clear Hans
      obtain ⟨Z4, hZ4, r18, r19, hbZ4, hzZ4⟩ := rows2 Z3 24 (.bool bs) (.slice as' ns cs) (.bool bt) (.slice at' nt ct)
      replace r3 := r3.below hbZ4 r3.lt
      replace r4 := r4.below hbZ4 r4.lt
      replace r14 := r14.below hbZ4 r14.lt
      replace r15 := r15.below hbZ4 r15.lt
      replace r16 := r16.below hbZ4 r16.lt
      replace Aq := Aq.below hbZ4
      replace Ar := Ar.below hbZ4
      replace As := As.below hbZ4
      replace At' := At'.below hbZ4
      replace hB := hB.trans (hbZ4.mono hB.size)
      replace rp := rp.below hbZ4 rp.lt
      replace rq := rq.below hbZ4 rq.lt
      clear kr30 kr31 kr40 kr41 kr140 kr141 kr150 kr151 kr160 kr161
      obtain ⟨kr30, kr31⟩ := r3.cells
      obtain ⟨kr40, kr41⟩ := r4.cells
      obtain ⟨kr140, kr141⟩ := r14.cells
      obtain ⟨kr150, kr151⟩ := r15.cells
      obtain ⟨kr160, kr161⟩ := r16.cells
      obtain ⟨kr180, kr181⟩ := r18.cells
      obtain ⟨kr190, kr191⟩ := r19.cells
      rw [hZ4] at kr30 kr31 kr40 kr41 kr140 kr141 kr150 kr151 kr160 kr161 kr180 kr181 kr190 kr191
      have HZ4 := Lib.hid hZ4; clear hZ4
      have hBZ := hB
      have HR2 := Lib.hid (fun X (h : Below Z4.heap.size Z4 X) => And.intro (r3.below h r3.lt).cell2 (And.intro (r4.below h r4.lt).cell2 (And.intro (r15.below h r15.lt).cell2 (And.intro (r16.below h r16.lt).cell2 (And.intro (r18.below h r18.lt).cell2 (r19.below h r19.lt).cell2)))))
      have HA2 := Lib.hid (fun X (h : Below Z4.heap.size Z4 X) => And.intro ((Hxyz.out.1.below hBZ).below h) (And.intro ((Hxyz.out.2.1.below hBZ).below h) (And.intro (Aq.below h) (And.intro (Ar.below h) (And.intro (As.below h) (At'.below h))))))
      clear hBZ
      obtain ⟨gr, hgr⟩ : ∃ gr, decide ((0 : Int) < (nr : Int)) = gr := ⟨_, rfl⟩
      obtain ⟨gt, hgt⟩ : ∃ gt, decide ((0 : Int) < (nt : Int)) = gt := ⟨_, rfl⟩
      have Hgr := Lib.hid hgr; clear hgr
      have Hgt := Lib.hid hgt; clear hgt
      have HGb := Lib.hid (show gr = true → (br != b2) = false from fun e => HsR.out hy0 br nr Ar.parts.1 Ar.parts.2.1 (by have := Hgr.out.trans e; simpa using this))
      have HGt := Lib.hid (show gt = true → (bt != b1) = false from fun e => HsT.out hy0 bt nt At'.parts.1 At'.parts.2.1 (by have := Hgt.out.trans e; simpa using this))
      clear kr30 kr31 kr40 kr41 kr140 kr141 kr150 kr151 kr160 kr161 kr180 kr181 kr190 kr191
      go_upto_region 18 with fail
      rw [← HZ4.out]
      refine wp_region_each (n := 55) (S := fun X => Below Z4.heap.size Z4 X) (V := SpV [.eq (.int .i64 0), .eq (.bool false), .eq (.bool false), .eq (.int .i64 0), .eq (.bool false), .eq (.bool false), .eq (.bool false), .eq (.func (.func 26) #[] #[.pointer (some ⟨q, 0, none⟩)]), .eq (.func (.func 28) #[] #[.pointer (some ⟨q, 0, none⟩)]), .api (qf), .api (y), .api ((qf * y)), .api (rf), .api (((qf * y) + rf)), .api (x), .eq (.bool true), .eq (.bool false), .eq (.bool false), .eq (.bool false), .eq (.func (.func 26) #[] #[.pointer (some ⟨q, 0, none⟩)]), .eq (.func (.func 28) #[] #[.pointer (some ⟨q, 0, none⟩)]), .api (qt), .api (y), .api ((qt * y)), .api (rt), .api (((qt * y) + rt)), .api (x), .eq (.bool true), .eq (.bool false), .eq (.bool false), .eq (.bool false), .eq (.pointer (some ⟨(Z1.heap.size + 1), 1, none⟩)), .eq (.slice ar nr cr), .eq (.int .i64 nr), .eq (.bool gr), .eq (.bool gr), (bif gr then .eq (.pointer (some ⟨(Z1.heap.size + 1), 0, none⟩)) else .any), (bif gr then .eq (.bool br) else .any), (bif gr then .eq (.pointer (some ⟨(w.heap.size + 1), 0, none⟩)) else .any), (bif gr then .eq (.bool b2) else .any), (bif gr then .eq (.bool false) else .any), .eq (.bool false), .eq (.bool false), .eq (.bool false), .eq (.pointer (some ⟨(Z3.heap.size + 1), 1, none⟩)), .eq (.slice at' nt ct), .eq (.int .i64 nt), .eq (.bool gt), .eq (.bool gt), (bif gt then .eq (.pointer (some ⟨(Z3.heap.size + 1), 0, none⟩)) else .any), (bif gt then .eq (.bool bt) else .any), (bif gt then .eq (.pointer (some ⟨w.heap.size, 0, none⟩)) else .any), (bif gt then .eq (.bool b1) else .any), (bif gt then .eq (.bool false) else .any), .eq (.bool false)]) (by kernel_rfl) (by kernel_rfl) (by kernel_rfl) (by decide) (by kernel_rfl) (by kernel_rfl) (fun i v w w' h hb => SpV.below i v w w' h hb) (Below.refl _ _).drew ?steps18 ?tail18
      case steps18 =>
        refine upto_step 54 55 rfl ?_ (by cases gt with | true => exact (step_pick (b := true) rfl (asked_if 43 256 false rfl (by kernel_rfl) (by kernel_rfl) (fun _ _ h => h)) rfl (knows_dep 48 261 (by kernel_rfl) (by kernel_rfl)) (knows_dep 53 266 (by kernel_rfl) (by kernel_rfl)) (fun _ _ h => h)) | false => exact (step_pick (b := false) rfl (asked_if 43 256 false rfl (by kernel_rfl) (by kernel_rfl) (fun _ _ h => h)) rfl (knows_dep 48 261 (by kernel_rfl) (by kernel_rfl)) (knows_const _) (fun _ _ h => h)))
        refine upto_step 53 54 rfl ?_ (by cases gt with | true => exact (step_bin rfl (asked_if 48 261 true rfl (by kernel_rfl) (by kernel_rfl) (fun _ _ h => h)) rfl (knows_dep 50 263 (by kernel_rfl) (by kernel_rfl)) (knows_dep 52 265 (by kernel_rfl) (by kernel_rfl)) (fun _ => ⟨by kernel_rfl, by rw [← HGt.out rfl]; kernel_rfl⟩) (fun _ => rfl)) | false => exact (step_skip 48 261 true false rfl rfl (by decide) (by kernel_rfl) (by kernel_rfl) (fun _ _ h => h) (fun _ _ => trivial)))
        refine upto_step 52 53 rfl ?_ (by cases gt with | true => exact (step_load rfl (asked_if 48 261 true rfl (by kernel_rfl) (by kernel_rfl) (fun _ _ h => h)) rfl (knows_dep 51 264 (by kernel_rfl) (by kernel_rfl)) (fun X h => load_cell0 (HR2.out X h).1) (fun _ _ => rfl)) | false => exact (step_skip 48 261 true false rfl rfl (by decide) (by kernel_rfl) (by kernel_rfl) (fun _ _ h => h) (fun _ _ => trivial)))
        refine upto_step 51 52 rfl ?_ (by cases gt with | true => exact (step_field rfl (asked_if 48 261 true rfl (by kernel_rfl) (by kernel_rfl) (fun _ _ h => h)) rfl (knows_old 3 _ (by kernel_rfl) rfl) (fun _ => by kernel_rfl) (fun _ => rfl)) | false => exact (step_skip 48 261 true false rfl rfl (by decide) (by kernel_rfl) (by kernel_rfl) (fun _ _ h => h) (fun _ _ => trivial)))
        refine upto_step 50 51 rfl ?_ (by cases gt with | true => exact (step_load rfl (asked_if 48 261 true rfl (by kernel_rfl) (by kernel_rfl) (fun _ _ h => h)) rfl (knows_dep 49 262 (by kernel_rfl) (by kernel_rfl)) (fun X h => load_cell0 (HR2.out X h).2.2.2.2.2) (fun _ _ => rfl)) | false => exact (step_skip 48 261 true false rfl rfl (by decide) (by kernel_rfl) (by kernel_rfl) (fun _ _ h => h) (fun _ _ => trivial)))
        refine upto_step 49 50 rfl ?_ (by cases gt with | true => exact (step_field rfl (asked_if 48 261 true rfl (by kernel_rfl) (by kernel_rfl) (fun _ _ h => h)) rfl (knows_old 19 _ (by kernel_rfl) rfl) (fun _ => by kernel_rfl) (fun _ => rfl)) | false => exact (step_skip 48 261 true false rfl rfl (by decide) (by kernel_rfl) (by kernel_rfl) (fun _ _ h => h) (fun _ _ => trivial)))
        refine upto_step 48 49 rfl ?_ (step_move rfl (asked_if 43 256 false rfl (by kernel_rfl) (by kernel_rfl) (fun _ _ h => h)) rfl (knows_dep 47 260 (by kernel_rfl) (by kernel_rfl)) (fun _ _ h => h))
        refine upto_step 47 48 rfl ?_ (step_bin rfl (asked_if 43 256 false rfl (by kernel_rfl) (by kernel_rfl) (fun _ _ h => h)) rfl (knows_dep 46 259 (by kernel_rfl) (by kernel_rfl)) (knows_const _) (fun _ => ⟨by kernel_rfl, by rw [← Hgt.out]; kernel_rfl⟩) (fun _ => rfl))
        refine upto_step 46 47 rfl ?_ (step_len rfl (asked_if 43 256 false rfl (by kernel_rfl) (by kernel_rfl) (fun _ _ h => h)) rfl (knows_dep 45 258 (by kernel_rfl) (by kernel_rfl)) (fun _ _ _ => by kernel_rfl) (fun _ => rfl))
        refine upto_step 45 46 rfl ?_ (step_load rfl (asked_if 43 256 false rfl (by kernel_rfl) (by kernel_rfl) (fun _ _ h => h)) rfl (knows_dep 44 257 (by kernel_rfl) (by kernel_rfl)) (fun X h => load_cell1 (HR2.out X h).2.2.2.2.2) (fun _ _ => rfl))
        refine upto_step 44 45 rfl ?_ (step_field rfl (asked_if 43 256 false rfl (by kernel_rfl) (by kernel_rfl) (fun _ _ h => h)) rfl (knows_old 19 _ (by kernel_rfl) rfl) (fun _ => by kernel_rfl) (fun _ => rfl))
        refine upto_step 43 44 rfl ?_ (step_move rfl (asked_free rfl) rfl (knows_dep 42 255 (by kernel_rfl) (by kernel_rfl)) (fun _ _ h => h))
        refine upto_step 42 43 rfl ?_ (step_pick (b := false) rfl (asked_free rfl) rfl (knows_dep 30 243 (by kernel_rfl) (by kernel_rfl)) (knows_dep 41 254 (by kernel_rfl) (by kernel_rfl)) (fun _ _ h => h))
        refine upto_step 41 42 rfl ?_ (by cases gr with | true => exact (step_pick (b := true) rfl (asked_if 30 243 false rfl (by kernel_rfl) (by kernel_rfl) (fun _ _ h => h)) rfl (knows_dep 35 248 (by kernel_rfl) (by kernel_rfl)) (knows_dep 40 253 (by kernel_rfl) (by kernel_rfl)) (fun _ _ h => h)) | false => exact (step_pick (b := false) rfl (asked_if 30 243 false rfl (by kernel_rfl) (by kernel_rfl) (fun _ _ h => h)) rfl (knows_dep 35 248 (by kernel_rfl) (by kernel_rfl)) (knows_const _) (fun _ _ h => h)))
        refine upto_step 40 41 rfl ?_ (by cases gr with | true => exact (step_bin rfl (asked_if 35 248 true rfl (by kernel_rfl) (by kernel_rfl) (fun _ _ h => h)) rfl (knows_dep 37 250 (by kernel_rfl) (by kernel_rfl)) (knows_dep 39 252 (by kernel_rfl) (by kernel_rfl)) (fun _ => ⟨by kernel_rfl, by rw [← HGb.out rfl]; kernel_rfl⟩) (fun _ => rfl)) | false => exact (step_skip 35 248 true false rfl rfl (by decide) (by kernel_rfl) (by kernel_rfl) (fun _ _ h => h) (fun _ _ => trivial)))
        refine upto_step 39 40 rfl ?_ (by cases gr with | true => exact (step_load rfl (asked_if 35 248 true rfl (by kernel_rfl) (by kernel_rfl) (fun _ _ h => h)) rfl (knows_dep 38 251 (by kernel_rfl) (by kernel_rfl)) (fun X h => load_cell0 (HR2.out X h).2.1) (fun _ _ => rfl)) | false => exact (step_skip 35 248 true false rfl rfl (by decide) (by kernel_rfl) (by kernel_rfl) (fun _ _ h => h) (fun _ _ => trivial)))
        refine upto_step 38 39 rfl ?_ (by cases gr with | true => exact (step_field rfl (asked_if 35 248 true rfl (by kernel_rfl) (by kernel_rfl) (fun _ _ h => h)) rfl (knows_old 4 _ (by kernel_rfl) rfl) (fun _ => by kernel_rfl) (fun _ => rfl)) | false => exact (step_skip 35 248 true false rfl rfl (by decide) (by kernel_rfl) (by kernel_rfl) (fun _ _ h => h) (fun _ _ => trivial)))
        refine upto_step 37 38 rfl ?_ (by cases gr with | true => exact (step_load rfl (asked_if 35 248 true rfl (by kernel_rfl) (by kernel_rfl) (fun _ _ h => h)) rfl (knows_dep 36 249 (by kernel_rfl) (by kernel_rfl)) (fun X h => load_cell0 (HR2.out X h).2.2.2.1) (fun _ _ => rfl)) | false => exact (step_skip 35 248 true false rfl rfl (by decide) (by kernel_rfl) (by kernel_rfl) (fun _ _ h => h) (fun _ _ => trivial)))
        refine upto_step 36 37 rfl ?_ (by cases gr with | true => exact (step_field rfl (asked_if 35 248 true rfl (by kernel_rfl) (by kernel_rfl) (fun _ _ h => h)) rfl (knows_old 16 _ (by kernel_rfl) rfl) (fun _ => by kernel_rfl) (fun _ => rfl)) | false => exact (step_skip 35 248 true false rfl rfl (by decide) (by kernel_rfl) (by kernel_rfl) (fun _ _ h => h) (fun _ _ => trivial)))
        refine upto_step 35 36 rfl ?_ (step_move rfl (asked_if 30 243 false rfl (by kernel_rfl) (by kernel_rfl) (fun _ _ h => h)) rfl (knows_dep 34 247 (by kernel_rfl) (by kernel_rfl)) (fun _ _ h => h))
        refine upto_step 34 35 rfl ?_ (step_bin rfl (asked_if 30 243 false rfl (by kernel_rfl) (by kernel_rfl) (fun _ _ h => h)) rfl (knows_dep 33 246 (by kernel_rfl) (by kernel_rfl)) (knows_const _) (fun _ => ⟨by kernel_rfl, by rw [← Hgr.out]; kernel_rfl⟩) (fun _ => rfl))
        refine upto_step 33 34 rfl ?_ (step_len rfl (asked_if 30 243 false rfl (by kernel_rfl) (by kernel_rfl) (fun _ _ h => h)) rfl (knows_dep 32 245 (by kernel_rfl) (by kernel_rfl)) (fun _ _ _ => by kernel_rfl) (fun _ => rfl))
        refine upto_step 32 33 rfl ?_ (step_load rfl (asked_if 30 243 false rfl (by kernel_rfl) (by kernel_rfl) (fun _ _ h => h)) rfl (knows_dep 31 244 (by kernel_rfl) (by kernel_rfl)) (fun X h => load_cell1 (HR2.out X h).2.2.2.1) (fun _ _ => rfl))
        refine upto_step 31 32 rfl ?_ (step_field rfl (asked_if 30 243 false rfl (by kernel_rfl) (by kernel_rfl) (fun _ _ h => h)) rfl (knows_old 16 _ (by kernel_rfl) rfl) (fun _ => by kernel_rfl) (fun _ => rfl))
        refine upto_step 30 31 rfl ?_ (step_move rfl (asked_free rfl) rfl (knows_dep 29 242 (by kernel_rfl) (by kernel_rfl)) (fun _ _ h => h))
        refine upto_step 29 30 rfl ?_ (step_pick (b := false) rfl (asked_free rfl) rfl (knows_dep 18 231 (by kernel_rfl) (by kernel_rfl)) (knows_dep 28 241 (by kernel_rfl) (by kernel_rfl)) (fun _ _ h => h))
        refine upto_step 28 29 rfl ?_ (step_not (b := true) rfl (asked_if 18 231 false rfl (by kernel_rfl) (by kernel_rfl) (fun _ _ h => h)) rfl (knows_dep 27 240 (by kernel_rfl) (by kernel_rfl)) (fun _ => rfl))
        refine upto_step 27 28 rfl ?_ (step_call2 rfl (asked_if 18 231 false rfl (by kernel_rfl) (by kernel_rfl) (fun _ _ h => h)) rfl (by kernel_rfl) (knows_func 12) (knows_dep 25 238 (by kernel_rfl) (by kernel_rfl)) (knows_dep 26 239 (by kernel_rfl) (by kernel_rfl)) (yes_same ((qt * y) + rt) x eqt.out N29.out (fun _ => rfl)))
        refine upto_step 26 27 rfl ?_ (step_load rfl (asked_if 18 231 false rfl (by kernel_rfl) (by kernel_rfl) (fun _ _ h => h)) rfl (knows_old 3 _ (by kernel_rfl) rfl) (fun X h => load_pair (HR2.out X h).1) (fun X h => (HA2.out X h).1))
        refine upto_step 25 26 rfl ?_ (step_call2 rfl (asked_if 18 231 false rfl (by kernel_rfl) (by kernel_rfl) (fun _ _ h => h)) rfl (by kernel_rfl) (knows_dep 19 232 (by kernel_rfl) (by kernel_rfl)) (knows_dep 23 236 (by kernel_rfl) (by kernel_rfl)) (knows_dep 24 237 (by kernel_rfl) (by kernel_rfl)) (yes_add rp rq (qt * y) rt N27.out N28.out N29.out (fun _ _ h => h)))
        refine upto_step 24 25 rfl ?_ (step_load rfl (asked_if 18 231 false rfl (by kernel_rfl) (by kernel_rfl) (fun _ _ h => h)) rfl (knows_old 19 _ (by kernel_rfl) rfl) (fun X h => load_pair (HR2.out X h).2.2.2.2.2) (fun X h => (HA2.out X h).2.2.2.2.2))
        refine upto_step 23 24 rfl ?_ (step_call2 rfl (asked_if 18 231 false rfl (by kernel_rfl) (by kernel_rfl) (fun _ _ h => h)) rfl (by kernel_rfl) (knows_dep 20 233 (by kernel_rfl) (by kernel_rfl)) (knows_dep 21 234 (by kernel_rfl) (by kernel_rfl)) (knows_dep 22 235 (by kernel_rfl) (by kernel_rfl)) (yes_mul rp rq qt y N26.out N1.out N27.out (fun _ _ h => h)))
        refine upto_step 22 23 rfl ?_ (step_load rfl (asked_if 18 231 false rfl (by kernel_rfl) (by kernel_rfl) (fun _ _ h => h)) rfl (knows_old 4 _ (by kernel_rfl) rfl) (fun X h => load_pair (HR2.out X h).2.1) (fun X h => (HA2.out X h).2.1))
        refine upto_step 21 22 rfl ?_ (step_load rfl (asked_if 18 231 false rfl (by kernel_rfl) (by kernel_rfl) (fun _ _ h => h)) rfl (knows_old 18 _ (by kernel_rfl) rfl) (fun X h => load_pair (HR2.out X h).2.2.2.2.1) (fun X h => (HA2.out X h).2.2.2.2.1))
        refine upto_step 20 21 rfl ?_ (step_move rfl (asked_if 18 231 false rfl (by kernel_rfl) (by kernel_rfl) (fun _ _ h => h)) rfl (knows_old 11 _ (by kernel_rfl) rfl) (fun _ _ h => h))
        refine upto_step 19 20 rfl ?_ (step_move rfl (asked_if 18 231 false rfl (by kernel_rfl) (by kernel_rfl) (fun _ _ h => h)) rfl (knows_old 9 _ (by kernel_rfl) rfl) (fun _ _ h => h))
        refine upto_step 18 19 rfl ?_ (step_move rfl (asked_free rfl) rfl (knows_dep 17 230 (by kernel_rfl) (by kernel_rfl)) (fun _ _ h => h))
        refine upto_step 17 18 rfl ?_ (step_pick (b := false) rfl (asked_free rfl) rfl (knows_dep 6 219 (by kernel_rfl) (by kernel_rfl)) (knows_dep 16 229 (by kernel_rfl) (by kernel_rfl)) (fun _ _ h => h))
        refine upto_step 16 17 rfl ?_ (step_not (b := true) rfl (asked_if 6 219 false rfl (by kernel_rfl) (by kernel_rfl) (fun _ _ h => h)) rfl (knows_dep 15 228 (by kernel_rfl) (by kernel_rfl)) (fun _ => rfl))
        refine upto_step 15 16 rfl ?_ (step_call2 rfl (asked_if 6 219 false rfl (by kernel_rfl) (by kernel_rfl) (fun _ _ h => h)) rfl (by kernel_rfl) (knows_func 12) (knows_dep 13 226 (by kernel_rfl) (by kernel_rfl)) (knows_dep 14 227 (by kernel_rfl) (by kernel_rfl)) (yes_same ((qf * y) + rf) x eqf.out N25.out (fun _ => rfl)))
        refine upto_step 14 15 rfl ?_ (step_load rfl (asked_if 6 219 false rfl (by kernel_rfl) (by kernel_rfl) (fun _ _ h => h)) rfl (knows_old 3 _ (by kernel_rfl) rfl) (fun X h => load_pair (HR2.out X h).1) (fun X h => (HA2.out X h).1))
        refine upto_step 13 14 rfl ?_ (step_call2 rfl (asked_if 6 219 false rfl (by kernel_rfl) (by kernel_rfl) (fun _ _ h => h)) rfl (by kernel_rfl) (knows_dep 7 220 (by kernel_rfl) (by kernel_rfl)) (knows_dep 11 224 (by kernel_rfl) (by kernel_rfl)) (knows_dep 12 225 (by kernel_rfl) (by kernel_rfl)) (yes_add rp rq (qf * y) rf N23.out N24.out N25.out (fun _ _ h => h)))
        refine upto_step 12 13 rfl ?_ (step_load rfl (asked_if 6 219 false rfl (by kernel_rfl) (by kernel_rfl) (fun _ _ h => h)) rfl (knows_old 16 _ (by kernel_rfl) rfl) (fun X h => load_pair (HR2.out X h).2.2.2.1) (fun X h => (HA2.out X h).2.2.2.1))
        refine upto_step 11 12 rfl ?_ (step_call2 rfl (asked_if 6 219 false rfl (by kernel_rfl) (by kernel_rfl) (fun _ _ h => h)) rfl (by kernel_rfl) (knows_dep 8 221 (by kernel_rfl) (by kernel_rfl)) (knows_dep 9 222 (by kernel_rfl) (by kernel_rfl)) (knows_dep 10 223 (by kernel_rfl) (by kernel_rfl)) (yes_mul rp rq qf y N22.out N1.out N23.out (fun _ _ h => h)))
        refine upto_step 10 11 rfl ?_ (step_load rfl (asked_if 6 219 false rfl (by kernel_rfl) (by kernel_rfl) (fun _ _ h => h)) rfl (knows_old 4 _ (by kernel_rfl) rfl) (fun X h => load_pair (HR2.out X h).2.1) (fun X h => (HA2.out X h).2.1))
        refine upto_step 9 10 rfl ?_ (step_load rfl (asked_if 6 219 false rfl (by kernel_rfl) (by kernel_rfl) (fun _ _ h => h)) rfl (knows_old 15 _ (by kernel_rfl) rfl) (fun X h => load_pair (HR2.out X h).2.2.1) (fun X h => (HA2.out X h).2.2.1))
        refine upto_step 8 9 rfl ?_ (step_move rfl (asked_if 6 219 false rfl (by kernel_rfl) (by kernel_rfl) (fun _ _ h => h)) rfl (knows_old 11 _ (by kernel_rfl) rfl) (fun _ _ h => h))
        refine upto_step 7 8 rfl ?_ (step_move rfl (asked_if 6 219 false rfl (by kernel_rfl) (by kernel_rfl) (fun _ _ h => h)) rfl (knows_old 9 _ (by kernel_rfl) rfl) (fun _ _ h => h))
        refine upto_step 6 7 rfl ?_ (step_move rfl (asked_free rfl) rfl (knows_dep 5 218 (by kernel_rfl) (by kernel_rfl)) (fun _ _ h => h))
        refine upto_step 5 6 rfl ?_ (step_pick (b := false) rfl (asked_free rfl) rfl (knows_dep 2 215 (by kernel_rfl) (by kernel_rfl)) (knows_dep 4 217 (by kernel_rfl) (by kernel_rfl)) (fun _ _ h => h))
        refine upto_step 4 5 rfl ?_ (step_bin rfl (asked_if 2 215 false rfl (by kernel_rfl) (by kernel_rfl) (fun _ _ h => h)) rfl (knows_dep 3 216 (by kernel_rfl) (by kernel_rfl)) (knows_const _) (fun _ => ⟨by kernel_rfl, by kernel_rfl⟩) (fun _ => rfl))
        refine upto_step 3 4 rfl ?_ (step_move rfl (asked_if 2 215 false rfl (by kernel_rfl) (by kernel_rfl) (fun _ _ h => h)) rfl (knows_old 20 _ (by kernel_rfl) rfl) (fun _ _ h => h))
        refine upto_step 2 3 rfl ?_ (step_move rfl (asked_free rfl) rfl (knows_dep 1 214 (by kernel_rfl) (by kernel_rfl)) (fun _ _ h => h))
        refine upto_step 1 2 rfl ?_ (step_bin rfl (asked_free rfl) rfl (knows_dep 0 213 (by kernel_rfl) (by kernel_rfl)) (knows_const _) (fun _ => ⟨by kernel_rfl, by kernel_rfl⟩) (fun _ => rfl))
        refine upto_step 0 1 rfl ?_ (step_move rfl (asked_free rfl) rfl (knows_old 17 _ (by kernel_rfl) rfl) (fun _ _ h => h))
        intro i hi; omega
      case tail18 =>
        intro listed a' X hall inv
        obtain rfl := each_listed inv.head hall _ rfl
        have hX := inv.S
        have v256 := inv.val 43 _ 256 (by decide) rfl rfl (hall _ (by decide))
        have v267 := inv.val 54 _ 267 (by decide) rfl rfl (hall _ (by decide))
        change a'.tmps.getD 256 undef = .bool false at v256
        change a'.tmps.getD 267 undef = .bool false at v267
        have hsh := each_shape inv [213, 214, 215, 216, 217, 218, 219, 220, 221, 222, 223, 224, 225, 226, 227, 228, 229, 230, 231, 232, 233, 234, 235, 236, 237, 238, 239, 240, 241, 242, 243, 244, 245, 246, 247, 248, 249, 250, 251, 252, 253, 254, 255, 256, 257, 258, 259, 260, 261, 262, 263, 264, 265, 266, 267] (by kernel_rfl) (by kernel_rfl)
        obtain ⟨u', hu'⟩ : ∃ u' : Nat → Value, u' = fun d => a'.tmps.getD d undef := ⟨_, rfl⟩
        have v256' : u' 256 = .bool false := by rw [hu']; exact v256
        have v267' : u' 267 = .bool false := by rw [hu']; exact v267
        rw [← hu'] at hsh
        clear hu' v256 v267 inv hall
        subst hsh
        change wpAny _ _ _ _ _ _ (Act.mk (List.toArray [_, _, _, _, _, _, _, _, _, _, _, _, _, _, _, _, _, _, _, _, _, _, _, _, _, _, _, _, _, _, _, _, _, _, _, _, _, _, _, _, _, _, _, _, _, _, _, _, _, _, _, _, _, _, _, _, _, _, _, _, _, _, _, _, _, _, _, _, _, _, _, _, _, _, _, _, _, _, _, _, _, _, _, _, _, _, _, _, _, _, _, _, _, _, _, _, _, _, _, _, _, _, _, _, _, _, _, _, _, _, _, _, _, _, _, _, _, _, _, _, _, _, _, _, _, _, _, _, _, _, _, _, _, _, _, _, _, _, _, _, _, _, _, _, _, _, _, _, _, _, _, _, _, _, _, _, _, _, _, _, _, _, _, _, _, _, _, _, _, _, _, _, _, _, _, _, _, _, _, _, _, _, _, _, _, _, _, _, _, _, _, _, _, _, _, _, _, _, _, _, _, _, _, _, _, _, _, _, _, _, _, _, _, u' 213, u' 214, u' 215, u' 216, u' 217, u' 218, u' 219, u' 220, u' 221, u' 222, u' 223, u' 224, u' 225, u' 226, u' 227, u' 228, u' 229, u' 230, u' 231, u' 232, u' 233, u' 234, u' 235, u' 236, u' 237, u' 238, u' 239, u' 240, u' 241, u' 242, u' 243, u' 244, u' 245, u' 246, u' 247, u' 248, u' 249, u' 250, u' 251, u' 252, u' 253, u' 254, u' 255, u' 256, u' 257, u' 258, u' 259, u' 260, u' 261, u' 262, u' 263, u' 264, u' 265, u' 266, u' 267, _, _, _, _, _, _, _, _, _, _, _, _, _, _, _, _, _, _, _, _, _, _, _, _, _, _, _, _, _]) _) _
        rw [v256', v267']
        refine wpAny_one (i := 55) (by kernel_rfl) ?_
        unfold wpOp
        go_simp
        refine .inl (wpAny_done (by kernel_rfl) ?_ _)
        replace r3 := r3.below hX r3.lt
        replace r4 := r4.below hX r4.lt
        replace r14 := r14.below hX r14.lt
        replace r15 := r15.below hX r15.lt
        replace r16 := r16.below hX r16.lt
        replace r18 := r18.below hX r18.lt
        replace r19 := r19.below hX r19.lt
        replace Aq := Aq.below hX
        replace Ar := Ar.below hX
        replace As := As.below hX
        replace At' := At'.below hX
        replace hB := hB.trans (hX.mono hB.size)
        replace rp := rp.below hX rp.lt
        replace rq := rq.below hX rq.lt
        obtain ⟨kr30, kr31⟩ := r3.cells
        obtain ⟨kr40, kr41⟩ := r4.cells
        obtain ⟨kr140, kr141⟩ := r14.cells
        obtain ⟨kr150, kr151⟩ := r15.cells
        obtain ⟨kr160, kr161⟩ := r16.cells
        obtain ⟨kr180, kr181⟩ := r18.cells
        obtain ⟨kr190, kr191⟩ := r19.cells
        clear hX HR2 HA2 HGb HGt
        obtain ⟨U1, hU1, rs, hbU1, hzU1⟩ := rowsC X 24 #[.bool br, .slice ar nr cr, .bool bt, .slice at' nt ct]
        replace r3 := r3.below hbU1 r3.lt
        replace r4 := r4.below hbU1 r4.lt
        replace r14 := r14.below hbU1 r14.lt
        replace r15 := r15.below hbU1 r15.lt
        replace r16 := r16.below hbU1 r16.lt
        replace r18 := r18.below hbU1 r18.lt
        replace r19 := r19.below hbU1 r19.lt
        replace Aq := Aq.below hbU1
        replace Ar := Ar.below hbU1
        replace As := As.below hbU1
        replace At' := At'.below hbU1
        replace hB := hB.trans (hbU1.mono hB.size)
        replace rp := rp.below hbU1 rp.lt
        replace rq := rq.below hbU1 rq.lt
        obtain ⟨ir30, ir31⟩ := r3.cells
        obtain ⟨ir40, ir41⟩ := r4.cells
        have HU1 := Lib.hid hU1; clear hU1
        have kS0 := rs.cell_at 0
        have kS1 := rs.cell_at 1
        have kS2 := rs.cell_at 2
        have kS3 := rs.cell_at 3
        simp only [List.getElem?_cons_zero, List.getElem?_cons_succ] at kS0 kS1 kS2 kS3
        rw [HU1.out] at kS0 kS1 kS2 kS3 ir30 ir31 ir40 ir41
        go_wp2_with fail
        rw [← HU1.out]
        rw [← HU1.out] at ir30 ir31 ir40 ir41 kS0 kS1 kS2 kS3
        clear kr30 kr31 kr40 kr41 kr140 kr141 kr150 kr151 kr160 kr161 kr180 kr181 kr190 kr191
        refine wp_loop_rounds 3 ?_
        rw [rounds_succ]
        obtain ⟨Q0, hQ0, r220, hbQ0, hzQ0⟩ := rows1 U1 24 (.bool false) (.slice ar nr cr)
        replace r3 := r3.below hbQ0 r3.lt
        replace r4 := r4.below hbQ0 r4.lt
        replace r14 := r14.below hbQ0 r14.lt
        replace r15 := r15.below hbQ0 r15.lt
        replace r16 := r16.below hbQ0 r16.lt
        replace r18 := r18.below hbQ0 r18.lt
        replace r19 := r19.below hbQ0 r19.lt
        replace Aq := Aq.below hbQ0
        replace Ar := Ar.below hbQ0
        replace As := As.below hbQ0
        replace At' := At'.below hbQ0
        replace hB := hB.trans (hbQ0.mono hB.size)
        replace rp := rp.below hbQ0 rp.lt
        replace rq := rq.below hbQ0 rq.lt
        replace rs := rs.below hbQ0 rs.lt
        obtain ⟨jr30, jr31⟩ := r3.cells
        obtain ⟨jr40, jr41⟩ := r4.cells
        obtain ⟨j220, j221⟩ := r220.cells
        have jf0 := r220.free 0
        have jf1 := r220.free 1
        rw [hQ0] at jr30 jr31 jr40 jr41 j220 j221 jf0 jf1
        have HQ0 := Lib.hid hQ0; clear hQ0
        go_wp2_with fail
        rw [← HQ0.out]
        refine (compare_less Q0 br b2 ar a2 nr ny cr c2 rf y Ar (Hxyz.out.2.1.below hB) (Nat.le_trans (rep_mono (Nat.le_of_lt (by rw [Hrf.out]; exact drem_abs true x (Hy0.out hy0)))) NYy.out) NYy.out (by rw [Hrf.out]; exact drem_abs true x (Hy0.out hy0))).mono ?_
        rintro e T0 ⟨rfl, hb⟩
        clear jr30 jr31 jr40 jr41 j220 j221 jf0 jf1 ir30 ir31 ir40 ir41 kS0 kS1 kS2 kS3
        replace r3 := r3.below hb r3.lt
        replace r4 := r4.below hb r4.lt
        replace r14 := r14.below hb r14.lt
        replace r15 := r15.below hb r15.lt
        replace r16 := r16.below hb r16.lt
        replace r18 := r18.below hb r18.lt
        replace r19 := r19.below hb r19.lt
        replace Aq := Aq.below hb
        replace Ar := Ar.below hb
        replace As := As.below hb
        replace At' := At'.below hb
        replace hB := hB.trans (hb.mono hB.size)
        replace rp := rp.below hb rp.lt
        replace rq := rq.below hb rq.lt
        replace rs := rs.below hb rs.lt
        obtain ⟨kr30, kr31⟩ := r3.cells
        obtain ⟨kr40, kr41⟩ := r4.cells
        obtain ⟨kr140, kr141⟩ := r14.cells
        obtain ⟨kr150, kr151⟩ := r15.cells
        obtain ⟨kr160, kr161⟩ := r16.cells
        obtain ⟨kr180, kr181⟩ := r18.cells
        obtain ⟨kr190, kr191⟩ := r19.cells
        have kS0 := rs.cell_at 0
        have kS1 := rs.cell_at 1
        have kS2 := rs.cell_at 2
        have kS3 := rs.cell_at 3
        simp only [List.getElem?_cons_zero, List.getElem?_cons_succ] at kS0 kS1 kS2 kS3
        go_wp2_with fail
        rw [rounds_succ]
        obtain ⟨Q1, hQ1, r221, hbQ1, hzQ1⟩ := rows1 T0 24 (.bool false) (.slice at' nt ct)
        replace r3 := r3.below hbQ1 r3.lt
        replace r4 := r4.below hbQ1 r4.lt
        replace r14 := r14.below hbQ1 r14.lt
        replace r15 := r15.below hbQ1 r15.lt
        replace r16 := r16.below hbQ1 r16.lt
        replace r18 := r18.below hbQ1 r18.lt
        replace r19 := r19.below hbQ1 r19.lt
        replace Aq := Aq.below hbQ1
        replace Ar := Ar.below hbQ1
        replace As := As.below hbQ1
        replace At' := At'.below hbQ1
        replace hB := hB.trans (hbQ1.mono hB.size)
        replace rp := rp.below hbQ1 rp.lt
        replace rq := rq.below hbQ1 rq.lt
        replace rs := rs.below hbQ1 rs.lt
        obtain ⟨jr30, jr31⟩ := r3.cells
        obtain ⟨jr40, jr41⟩ := r4.cells
        obtain ⟨j220, j221⟩ := r221.cells
        have jf0 := r221.free 0
        have jf1 := r221.free 1
        rw [hQ1] at jr30 jr31 jr40 jr41 j220 j221 jf0 jf1
        have HQ1 := Lib.hid hQ1; clear hQ1
        go_wp2_with fail
        rw [← HQ1.out]
        refine (compare_less Q1 bt b2 at' a2 nt ny ct c2 rt y At' (Hxyz.out.2.1.below hB) (Nat.le_trans (rep_mono (Nat.le_of_lt (by rw [Hrt.out]; exact drem_abs false x (Hy0.out hy0)))) NYy.out) NYy.out (by rw [Hrt.out]; exact drem_abs false x (Hy0.out hy0))).mono ?_
        rintro e T1 ⟨rfl, hb⟩
        clear jr30 jr31 jr40 jr41 j220 j221 jf0 jf1 kr30 kr31 kr40 kr41 kr140 kr141 kr150 kr151 kr160 kr161 kr180 kr181 kr190 kr191 kS0 kS1 kS2 kS3
        replace r3 := r3.below hb r3.lt
        replace r4 := r4.below hb r4.lt
        replace r14 := r14.below hb r14.lt
        replace r15 := r15.below hb r15.lt
        replace r16 := r16.below hb r16.lt
        replace r18 := r18.below hb r18.lt
        replace r19 := r19.below hb r19.lt
        replace Aq := Aq.below hb
        replace Ar := Ar.below hb
        replace As := As.below hb
        replace At' := At'.below hb
        replace hB := hB.trans (hb.mono hB.size)
        replace rp := rp.below hb rp.lt
        replace rq := rq.below hb rq.lt
        replace rs := rs.below hb rs.lt
        obtain ⟨kr30, kr31⟩ := r3.cells
        obtain ⟨kr40, kr41⟩ := r4.cells
        obtain ⟨kr140, kr141⟩ := r14.cells
        obtain ⟨kr150, kr151⟩ := r15.cells
        obtain ⟨kr160, kr161⟩ := r16.cells
        obtain ⟨kr180, kr181⟩ := r18.cells
        obtain ⟨kr190, kr191⟩ := r19.cells
        have kS0 := rs.cell_at 0
        have kS1 := rs.cell_at 1
        have kS2 := rs.cell_at 2
        have kS3 := rs.cell_at 3
        simp only [List.getElem?_cons_zero, List.getElem?_cons_succ] at kS0 kS1 kS2 kS3
        go_wp2_with fail
        rw [rounds_succ]
        have kp := rp.cell_at 0
        simp only [List.getElem?_cons_zero] at kp
        go_wp2_with fail
        refine (law_awake T1).mono ?_
        rintro e Y4 ⟨rfl, hb⟩
        go_wp2_with fail
        go_ret
        exact ⟨rfl, hB.trans (hb.mono hB.size)⟩

end Go.Proofs.YtbffpkmfhkphdaaDoor
