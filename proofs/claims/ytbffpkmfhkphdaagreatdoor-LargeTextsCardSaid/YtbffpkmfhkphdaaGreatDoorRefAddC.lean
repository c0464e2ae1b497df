/- The walk of the reference's Add. -/
import Derived.Test.YtbffpkmfhkphdaaGreatDoorGX32
import Derived.Test.YtbffpkmfhkphdaaGreatDoorRefOrderC
import Derived.Test.YtbffpkmfhkphdaaGreatDoorGX33
set_option linter.unusedVariables false
set_option linter.unusedSimpArgs false
namespace Go.Proofs.YtbffpkmfhkphdaaGreatDoor
open Go Go.RowKit Limb

/-- Cells of three pairs, at every world since V, and behind stores into the third pair. -/
theorem rows3_keep {V : World} {g : Nat} {t : TypeId} {a0 a1 b0 b1 c0 c1 : Value} (r0 : Row V g t [a0, a1]) (r1 : Row V (g + 1) t [b0, b1]) (r2 : Row V (g + 1 + 1) t [c0, c1]) :
    (∀ X, Below V.heap.size V X → X.cell? ⟨g, 0, none⟩ = some a0 ∧ X.cell? ⟨g, 1, none⟩ = some a1 ∧ X.cell? ⟨g + 1, 0, none⟩ = some b0 ∧ X.cell? ⟨g + 1, 1, none⟩ = some b1) ∧
    (∀ X, Below (g + 1 + 1) V X → X.cell? ⟨g, 0, none⟩ = some a0 ∧ X.cell? ⟨g, 1, none⟩ = some a1 ∧ X.cell? ⟨g + 1, 0, none⟩ = some b0 ∧ X.cell? ⟨g + 1, 1, none⟩ = some b1) := by
  have key : ∀ X, Below (g + 1 + 1) V X → X.cell? ⟨g, 0, none⟩ = some a0 ∧ X.cell? ⟨g, 1, none⟩ = some a1 ∧ X.cell? ⟨g + 1, 0, none⟩ = some b0 ∧ X.cell? ⟨g + 1, 1, none⟩ = some b1 := fun X h => by
    have p0 := r0.below h (by omega)
    have p1 := r1.below h (by omega)
    exact ⟨p0.cell_at 0, p0.cell_at 1, p1.cell_at 0, p1.cell_at 1⟩
  exact ⟨fun X h => key X (h.mono (by have := r2.lt; omega)), key⟩

theorem add_same {x y : Int} {s : Bool} (hx : s = decide (x < 0)) (hy : s = decide (y < 0)) : x.natAbs + y.natAbs = (x + y).natAbs ∧ (s = true → x + y ≤ 0) ∧ (s = false → 0 ≤ x + y) := by
  cases s <;> simp at hx hy <;> refine ⟨by omega, fun h => by first | (cases h; done) | omega, fun h => by first | (cases h; done) | omega⟩
theorem add_diff {x y : Int} {s : Bool} (hx : s = decide (x < 0)) (hy : (!s) = decide (y < 0)) (h : y.natAbs ≤ x.natAbs) : x.natAbs - y.natAbs = (x + y).natAbs ∧ (s = true → x + y ≤ 0) ∧ (s = false → 0 ≤ x + y) := by
  cases s <;> simp at hx hy <;> refine ⟨by omega, fun h => by first | (cases h; done) | omega, fun h => by first | (cases h; done) | omega⟩

/-- Words at a place that are the number N, not cut perhaps. -/
def Raw (X : World) (a : Option Addr) (n c N : Nat) : Prop := ∃ zs, n = zs.length ∧ n ≤ c ∧ n ≤ 9223372036854775807 ∧ Lim zs ∧ val zs = N ∧ Lay .u32 X a zs
/-- What the walk asks behind made: the cells of the result's block g, and what is left when it is stored. -/
def Fin (w w1 : World) (g : Nat) (z : Int) (a : Option Addr) (c : Nat) : Prop :=
  w1.cell? ⟨g, 0, none⟩ = some (.bool false) ∧ w1.cell? ⟨g, 1, none⟩ = some (.slice none 0 0) ∧ w1.frozen? ⟨g, 0, none⟩ = false ∧ w1.frozen? ⟨g, 1, none⟩ = false ∧
      (w1.setCell ⟨g, 0, none⟩ (.bool (decide (z < 0)))).cell? ⟨g, 0, none⟩ = some (.bool (decide (z < 0))) ∧
      ((w1.setCell ⟨g, 0, none⟩ (.bool (decide (z < 0)))).setCell ⟨g, 1, none⟩ (.slice a (rep z.natAbs).length c)).cell? ⟨g, 1, none⟩ = some (.slice a (rep z.natAbs).length c) ∧
      Hid (ApiV ((w1.setCell ⟨g, 0, none⟩ (.bool (decide (z < 0)))).setCell ⟨g, 1, none⟩ (.slice a (rep z.natAbs).length c)) (.agg #[.bool (decide (z < 0)), .slice a (rep z.natAbs).length c]) z ∧
        Below w.heap.size w ((w1.setCell ⟨g, 0, none⟩ (.bool (decide (z < 0)))).setCell ⟨g, 1, none⟩ (.slice a (rep z.natAbs).length c)))

theorem since_made {w W X : World} {g : Nat} {z : Int} {s : Bool} {a : Option Addr} {n c : Nat} (r0 : Row W g 24 [.bool false, .slice none 0 0]) (hW : Below w.heap.size w W) (hg : w.heap.size ≤ g) (hs : (s = true → z ≤ 0) ∧ (s = false → 0 ≤ z))
    (hr : Raw X a n c z.natAbs) (h : Below W.heap.size W X) :
    Calls Tryz.prog 79 #[.bool s, .slice a n c] X fun e X' => (∃ a3 c3, e = .returned (.agg #[.bool (decide (z < 0)), .slice a3 (rep z.natAbs).length c3]) ∧ Fin w X' g z a3 c3) ∧ Below W.heap.size W X' := by
  obtain ⟨zs, h1, h2, h3, h4, h5, h6⟩ := hr
  refine (ref_made X s a zs n c z h6 h4 h1 h3 h2 h5 hs).mono ?_
  rintro e X' ⟨u, rfl, hu, hb⟩
  have hb' := h.trans (hb.mono h.size)
  obtain ⟨a3, c3, rfl, hf⟩ := api_store r0 hW hg hu hb'
  exact ⟨⟨a3, c3, rfl, hf⟩, hb'⟩
theorem since_plus {W X : World} {a b : Option Addr} {x y n m ca cb : Nat} (ha : Lay .u32 W a (rep x)) (hb : Lay .u32 W b (rep y)) (hn : n = (rep x).length) (hm : m = (rep y).length) (ln : n ≤ 1073741824) (lm : m ≤ 1073741824) (h : Below W.heap.size W X) :
    Calls Tryz.prog 80 #[.slice a n ca, .slice b m cb] X fun e X' => (∃ a' n' c', e = .returned (.slice a' n' c') ∧ Raw X' a' n' c' (x + y)) ∧ Below W.heap.size W X' := by
  refine (ref_plus X a b (rep x) (rep y) n m ca cb 1073741824 (ha.below h) (hb.below h) (rep_lim _) (rep_lim _) hn hm ln lm (by decide)).mono ?_
  rw [val_rep, val_rep]
  rintro e X' ⟨a', n', c', zs, rfl, h1, h2, h3, h4, h5, h6, h7, _⟩
  exact ⟨⟨a', n', c', rfl, zs, h1, h2, by omega, h4, h5, h6⟩, h.trans (h7.mono h.size)⟩
theorem since_less {W X : World} {a b : Option Addr} {x y n m ca cb : Nat} (ha : Lay .u32 W a (rep x)) (hb : Lay .u32 W b (rep y)) (hn : n = (rep x).length) (hm : m = (rep y).length) (ln : n ≤ 1073741824) (hle : y ≤ x) (h : Below W.heap.size W X) :
    Calls Tryz.prog 88 #[.slice a n ca, .slice b m cb] X fun e X' => (∃ a' n' c', e = .returned (.slice a' n' c') ∧ Raw X' a' n' c' (x - y)) ∧ Below W.heap.size W X' := by
  have hmn : m ≤ n := by rw [hn, hm]; exact rep_mono hle
  refine (ref_less X a b (rep x) (rep y) n m ca cb (ha.below h) (hb.below h) (rep_lim _) (rep_lim _) hn hm (by omega) (by rw [val_rep, val_rep]; exact hle) hmn).mono ?_
  rw [val_rep, val_rep]
  rintro e X' ⟨a', c', rfl, h2, h6, h7, _⟩
  exact ⟨⟨a', _, c', rfl, rep (x - y), rfl, h2, by have := rep_mono (Nat.sub_le x y); omega, rep_lim _, val_rep _, h6⟩, h.trans (h7.mono h.size)⟩

set_option maxHeartbeats 1600000 in
set_option maxRecDepth 1000000 in
theorem ref_add (w : World) (v1 v2 : Value) (x y : Int) (h1 : ApiV w v1 x) (h2 : ApiV w v2 y) (lx : (rep x.natAbs).length ≤ 1073741824) (ly : (rep y.natAbs).length ≤ 1073741824) :
    Calls Tryz.prog 22 #[v1, v2] w fun e w' => ∃ u, e = .returned u ∧ ApiV w' u (x + y) ∧ Below w.heap.size w w' := by
  obtain ⟨a1, c1, rfl, hc1, hl1⟩ := h1
  obtain ⟨a2, c2, rfl, hc2, hl2⟩ := h2
  obtain ⟨n1, hn1⟩ : ∃ n, n = (rep x.natAbs).length := ⟨_, rfl⟩
  obtain ⟨n2, hn2⟩ : ∃ n, n = (rep y.natAbs).length := ⟨_, rfl⟩
  rw [← hn1] at hc1 lx ⊢
  rw [← hn2] at hc2 ly ⊢
  obtain ⟨s1, hs1⟩ : ∃ s, s = decide (x < 0) := ⟨_, rfl⟩
  obtain ⟨s2, hs2⟩ : ∃ s, s = decide (y < 0) := ⟨_, rfl⟩
  rw [← hs1, ← hs2]
  obtain ⟨r0, r1, r2, hW, hsz⟩ := rows3 w 24 (.bool s1) (.slice a1 n1 c1) (.bool s2) (.slice a2 n2 c2) (.bool false) (.slice none 0 0)
  obtain ⟨W, hWe⟩ : ∃ W, W = ((w.alloc (.cells #[.bool s1, .slice a1 n1 c1] 24)).alloc (.cells #[.bool s2, .slice a2 n2 c2] 24)).alloc (.cells #[.bool false, .slice none 0 0] 24) := ⟨_, rfl⟩
  rw [← hWe] at r0 r1 r2 hW hsz
  have HWe := Lib.hid hWe; clear hWe
  have Hn1 := Lib.hid hn1; clear hn1
  have Hn2 := Lib.hid hn2; clear hn2
  have Hs1 := Lib.hid hs1; clear hs1
  have Hs2 := Lib.hid hs2; clear hs2
  obtain ⟨z, hz⟩ : ∃ z, z = x + y := ⟨_, rfl⟩
  rw [← hz]
  have Hz := Lib.hid hz; clear hz
  have c0 := r0.cell_at 0
  have c01 := r0.cell_at 1
  have c10 := r1.cell_at 0
  have c11 := r1.cell_at 1
  simp only [List.getElem?_cons_zero, List.getElem?_cons_succ] at c0 c01 c10 c11
  by_cases hss : s1 = s2
  · subst hss
    obtain ⟨e1, e2⟩ := add_same Hs1.out Hs2.out
    rw [← Hz.out] at e1 e2
    obtain ⟨hk, hs⟩ := rows3_keep r0 r1 r2
    have hp := fun X (h : Below W.heap.size W X) => since_plus (ca := c1) (cb := c2) (hl1.below hW) (hl2.below hW) Hn1.out Hn2.out lx ly h
    rw [e1] at hp
    have HP := Lib.hid hp; clear hp
    have HM := Lib.hid (fun X a n c (h1 : Raw X a n c z.natAbs) (h : Below W.heap.size W X) => since_made r2 hW (by omega) e2 h1 h)
    have HK := Lib.hid hk; clear hk
    have HS := Lib.hid hs; clear hs
    clear e1 e2
    have h := Below.refl W.heap.size W
    go_enter Tryz.func22, Tryz.ntmps22
    go_wp2_with fail
    rw [← HWe.out]
    go_region_held3 (fun X => (X.cell? ⟨w.heap.size, 0, none⟩ = some (.bool s1) ∧ X.cell? ⟨w.heap.size, 1, none⟩ = some (.slice a1 n1 c1) ∧ X.cell? ⟨w.heap.size + 1, 0, none⟩ = some (.bool s1) ∧ X.cell? ⟨w.heap.size + 1, 1, none⟩ = some (.slice a2 n2 c2)))
      (first | (apply HK.out; (repeat (first | exact h | apply Below.drew)); done) | (apply HS.out; apply below_store; apply below_store; apply Below.mono; (repeat (first | exact h | apply Below.drew)); omega; exact Nat.le_refl _; exact Nat.le_refl _))
      (first
        | (go_at_call 80; apply Calls.mono; apply HP.out; (repeat (first | exact h | apply Below.drew)); clear h; rintro e w' ⟨⟨a', n', c', rfl, hraw⟩, h⟩)
        | (go_at_call 79; apply Calls.mono; apply HM.out; exact hraw; (repeat (first | exact h | apply Below.drew)); clear h hraw; rintro e w' ⟨⟨a3, c3, rfl, hfin⟩, h⟩; obtain ⟨q0, q1, q2, q3, e0, e1, hf⟩ := hfin))
    go_wp2
    (try simp only [Exit.inBlock, Exit.then])
    refine bodyPost_ret (v := .agg #[.bool (decide (z < 0)), .slice a3 (rep z.natAbs).length c3]) (by simp [results, Tryz.results22, go_sem, e0, e1]) rfl ?_
    exact ⟨_, rfl, hf.out⟩
  · have hsb : (s1 == s2) = false := by rw [beq_eq_false_iff_ne]; exact hss
    have hns : (!s1) = s2 := by cases s1 <;> cases s2 <;> simp at hss ⊢
    have ho := ref_order W a1 a2 (rep x.natAbs) (rep y.natAbs) n1 n2 c1 c2 (hl1.below hW) (hl2.below hW) (rep_lim _) (rep_lim _) (rep_norm _) (rep_norm _) Hn1.out Hn2.out (by omega) (by omega)
    rw [val_rep, val_rep] at ho
    have HO := Lib.hid ho; clear ho
    by_cases hge : y.natAbs ≤ x.natAbs
    · have cv := order_ge hge
      obtain ⟨e1, e2⟩ := add_diff Hs1.out (show (!s1) = decide (y < 0) by rw [hns]; exact Hs2.out) hge
      rw [← Hz.out] at e1 e2
      obtain ⟨v, hv⟩ : ∃ v, v = cmpI x.natAbs y.natAbs := ⟨_, rfl⟩
      rw [← hv] at cv HO
      clear hv
      have Hns := Lib.hid hns; clear hns hss
      go_enter Tryz.func22, Tryz.ntmps22
      go_wp2_with fail
      rw [← HWe.out]
      refine HO.out.mono ?_
      rintro e w5 ⟨rfl, q, rfl⟩
      obtain ⟨V, hV⟩ : ∃ V, V = W.drewN q := ⟨_, rfl⟩
      have hWV : Below w.heap.size w V := by rw [hV]; exact below_drewN hW q
      have p0 : Row V w.heap.size 24 [.bool s1, .slice a1 n1 c1] := by rw [hV]; exact r0.drewN q
      have p1 : Row V (w.heap.size + 1) 24 [.bool s2, .slice a2 n2 c2] := by rw [hV]; exact r1.drewN q
      have p2 : Row V (w.heap.size + 1 + 1) 24 [.bool false, .slice none 0 0] := by rw [hV]; exact r2.drewN q
      rw [← hV]
      clear hV r0 r1 r2 c0 c01 c10 c11
      have c0 := p0.cell_at 0
      have c01 := p0.cell_at 1
      have c10 := p1.cell_at 0
      have c11 := p1.cell_at 1
      simp only [List.getElem?_cons_zero, List.getElem?_cons_succ] at c0 c01 c10 c11
      have hltV := p2.lt
      obtain ⟨hk, hs⟩ := rows3_keep p0 p1 p2
      have hp := fun X (h : Below V.heap.size V X) => since_less (ca := c1) (cb := c2) (hl1.below hWV) (hl2.below hWV) Hn1.out Hn2.out lx (show y.natAbs ≤ x.natAbs by omega) h
      rw [e1] at hp
      have HP := Lib.hid hp; clear hp
      have HM := Lib.hid (fun X a n c (h1 : Raw X a n c z.natAbs) (h : Below V.heap.size V X) => since_made p2 hWV (by omega) e2 h1 h)
      have HK := Lib.hid hk; clear hk
      have HS := Lib.hid hs; clear hs
      clear e1 e2
      have h := Below.refl V.heap.size V
      go_wp2_with fail
      go_region_held3 (fun X => (X.cell? ⟨w.heap.size, 0, none⟩ = some (.bool s1) ∧ X.cell? ⟨w.heap.size, 1, none⟩ = some (.slice a1 n1 c1) ∧ X.cell? ⟨w.heap.size + 1, 0, none⟩ = some (.bool s2) ∧ X.cell? ⟨w.heap.size + 1, 1, none⟩ = some (.slice a2 n2 c2)))
        (first | (apply HK.out; (repeat (first | exact h | apply Below.drew)); done) | (apply HS.out; apply below_store; apply below_store; apply Below.mono; (repeat (first | exact h | apply Below.drew)); omega; exact Nat.le_refl _; exact Nat.le_refl _))
        (first
          | (go_at_call 88; apply Calls.mono; apply HP.out; (repeat (first | exact h | apply Below.drew)); clear h; rintro e w' ⟨⟨a', n', c', rfl, hraw⟩, h⟩)
          | (go_at_call 79; apply Calls.mono; apply HM.out; exact hraw; (repeat (first | exact h | apply Below.drew)); clear h hraw; rintro e w' ⟨⟨a3, c3, rfl, hfin⟩, h⟩; obtain ⟨q0, q1, q2, q3, e0, e1, hf⟩ := hfin))
      go_wp2
      (try simp only [Exit.inBlock, Exit.then])
      refine bodyPost_ret (v := .agg #[.bool (decide (z < 0)), .slice a3 (rep z.natAbs).length c3]) (by simp [results, Tryz.results22, go_sem, e0, e1]) rfl ?_
      exact ⟨_, rfl, hf.out⟩
    · have cv := order_lt (show x.natAbs < y.natAbs by omega)
      obtain ⟨e1, e2⟩ := add_diff Hs2.out (show (!s2) = decide (x < 0) by rw [← hns, Bool.not_not]; exact Hs1.out) (show x.natAbs ≤ y.natAbs by omega)
      rw [Int.add_comm y x] at e1 e2
      rw [← Hz.out] at e1 e2
      obtain ⟨v, hv⟩ : ∃ v, v = cmpI x.natAbs y.natAbs := ⟨_, rfl⟩
      rw [← hv] at cv HO
      clear hv
      have Hns := Lib.hid hns; clear hns hss
      go_enter Tryz.func22, Tryz.ntmps22
      go_wp2_with fail
      rw [← HWe.out]
      refine HO.out.mono ?_
      rintro e w5 ⟨rfl, q, rfl⟩
      obtain ⟨V, hV⟩ : ∃ V, V = W.drewN q := ⟨_, rfl⟩
      have hWV : Below w.heap.size w V := by rw [hV]; exact below_drewN hW q
      have p0 : Row V w.heap.size 24 [.bool s1, .slice a1 n1 c1] := by rw [hV]; exact r0.drewN q
      have p1 : Row V (w.heap.size + 1) 24 [.bool s2, .slice a2 n2 c2] := by rw [hV]; exact r1.drewN q
      have p2 : Row V (w.heap.size + 1 + 1) 24 [.bool false, .slice none 0 0] := by rw [hV]; exact r2.drewN q
      rw [← hV]
      clear hV r0 r1 r2 c0 c01 c10 c11
      have c0 := p0.cell_at 0
      have c01 := p0.cell_at 1
      have c10 := p1.cell_at 0
      have c11 := p1.cell_at 1
      simp only [List.getElem?_cons_zero, List.getElem?_cons_succ] at c0 c01 c10 c11
      have hltV := p2.lt
      obtain ⟨hk, hs⟩ := rows3_keep p0 p1 p2
      have hp := fun X (h : Below V.heap.size V X) => since_less (ca := c2) (cb := c1) (hl2.below hWV) (hl1.below hWV) Hn2.out Hn1.out ly (show x.natAbs ≤ y.natAbs by omega) h
      rw [e1] at hp
      have HP := Lib.hid hp; clear hp
      have HM := Lib.hid (fun X a n c (h1 : Raw X a n c z.natAbs) (h : Below V.heap.size V X) => since_made p2 hWV (by omega) e2 h1 h)
      have HK := Lib.hid hk; clear hk
      have HS := Lib.hid hs; clear hs
      clear e1 e2
      have h := Below.refl V.heap.size V
      go_wp2_with fail
      go_region_held3 (fun X => (X.cell? ⟨w.heap.size, 0, none⟩ = some (.bool s1) ∧ X.cell? ⟨w.heap.size, 1, none⟩ = some (.slice a1 n1 c1) ∧ X.cell? ⟨w.heap.size + 1, 0, none⟩ = some (.bool s2) ∧ X.cell? ⟨w.heap.size + 1, 1, none⟩ = some (.slice a2 n2 c2)))
        (first | (apply HK.out; (repeat (first | exact h | apply Below.drew)); done) | (apply HS.out; apply below_store; apply below_store; apply Below.mono; (repeat (first | exact h | apply Below.drew)); omega; exact Nat.le_refl _; exact Nat.le_refl _))
        (first
          | (go_at_call 88; apply Calls.mono; apply HP.out; (repeat (first | exact h | apply Below.drew)); clear h; rintro e w' ⟨⟨a', n', c', rfl, hraw⟩, h⟩)
          | (go_at_call 79; apply Calls.mono; apply HM.out; exact hraw; (repeat (first | exact h | apply Below.drew)); clear h hraw; rintro e w' ⟨⟨a3, c3, rfl, hfin⟩, h⟩; obtain ⟨q0, q1, q2, q3, e0, e1, hf⟩ := hfin))
      go_wp2
      (try simp only [Exit.inBlock, Exit.then])
      refine bodyPost_ret (v := .agg #[.bool (decide (z < 0)), .slice a3 (rep z.natAbs).length c3]) (by simp [results, Tryz.results22, go_sem, e0, e1]) rfl ?_
      exact ⟨_, rfl, hf.out⟩

end Go.Proofs.YtbffpkmfhkphdaaGreatDoor
