/- The walk of the reference's Add. Steps of a drawn region, a kind of operation each. -/
import Derived.Test.YtbffpkmfhkphdaaGreatDoorGX28
import Derived.Test.YtbffpkmfhkphdaaGreatDoorGX08
import Derived.Test.YtbffpkmfhkphdaaGreatDoorGX32
import Derived.Test.YtbffpkmfhkphdaaGreatDoorGX03
import Derived.Test.YtbffpkmfhkphdaaGreatDoorGX27
set_option linter.unusedVariables false
set_option linter.unusedSimpArgs false
namespace Go.Proofs.YtbffpkmfhkphdaaGreatDoor
open Go Go.RowKit Limb

/-- Cells of three pairs, at every world since V, and behind stores into the third pair. -/
theorem rows3_keep {V : World} {g : Nat} {t : TypeId} {a0 a1 b0 b1 c0 c1 : Value} (r0 : Row V g t [a0, a1]) (r1 : Row V (g + 1) t [b0, b1]) (r2 : Row V (g + 1 + 1) t [c0, c1]) :
    (∀ X, Below V.heap.size V X → X.cell? ⟨g, 0, none⟩ = some a0 ∧ X.cell? ⟨g, 1, none⟩ = some a1 ∧ X.cell? ⟨g + 1, 0, none⟩ = some b0 ∧ X.cell? ⟨g + 1, 1, none⟩ = some b1) ∧
    (∀ X, Below (g + 1 + 1) V X → X.cell? ⟨g, 0, none⟩ = some a0 ∧ X.cell? ⟨g, 1, none⟩ = some a1 ∧ X.cell? ⟨g + 1, 0, none⟩ = some b0 ∧ X.cell? ⟨g + 1, 1, none⟩ = some b1) := by
  have key : ∀ X, Below (g + 1 + 1) V X → X.cell? ⟨g, 0, none⟩ = some a0 ∧ X.cell? ⟨g, 1, none⟩ = some a1 ∧ X.cell? ⟨g + 1, 0, none⟩ = some b0 ∧ X.cell? ⟨g + 1, 1, none⟩ = some b1 := fun X h => by
    have p0 := r0.below h (by omega)
    have p1 := r1.below h (by omega)
    exact ⟨p0.cell_at 0, p0.cell_at 1, p1.cell_at 0, p1.cell_at 1⟩
  exact ⟨fun X h => key X (h.mono (by have := r2.lt; omega)), key⟩

theorem add_same {x y : Int} {s : Bool} (hx : s = decide (x < 0)) (hy : s = decide (y < 0)) : x.natAbs + y.natAbs = (x + y).natAbs ∧ (s = true → x + y ≤ 0) ∧ (s = false → 0 ≤ x + y) := by
  cases s <;> simp at hx hy <;> refine ⟨by omega, fun h => by first | (cases h; done) | omega, fun h => by first | (cases h; done) | omega⟩
theorem add_diff {x y : Int} {s : Bool} (hx : s = decide (x < 0)) (hy : (!s) = decide (y < 0)) (h : y.natAbs ≤ x.natAbs) : x.natAbs - y.natAbs = (x + y).natAbs ∧ (s = true → x + y ≤ 0) ∧ (s = false → 0 ≤ x + y) := by
  cases s <;> simp at hx hy <;> refine ⟨by omega, fun h => by first | (cases h; done) | omega, fun h => by first | (cases h; done) | omega⟩

/-- Words at a place that are the number N, not cut perhaps. -/
def Raw (X : World) (a : Option Addr) (n c N : Nat) : Prop := ∃ zs, n = zs.length ∧ n ≤ c ∧ n ≤ 9223372036854775807 ∧ Lim zs ∧ val zs = N ∧ Lay .u32 X a zs
/-- What the walk asks behind made: the cells of the result's block g, and what is left when it is stored. -/
def Fin (w w1 : World) (g : Nat) (z : Int) (a : Option Addr) (c : Nat) : Prop :=
  w1.cell? ⟨g, 0, none⟩ = some (.bool false) ∧ w1.cell? ⟨g, 1, none⟩ = some (.slice none 0 0) ∧ w1.frozen? ⟨g, 0, none⟩ = false ∧ w1.frozen? ⟨g, 1, none⟩ = false ∧
      (w1.setCell ⟨g, 0, none⟩ (.bool (decide (z < 0)))).cell? ⟨g, 0, none⟩ = some (.bool (decide (z < 0))) ∧
      ((w1.setCell ⟨g, 0, none⟩ (.bool (decide (z < 0)))).setCell ⟨g, 1, none⟩ (.slice a (rep z.natAbs).length c)).cell? ⟨g, 1, none⟩ = some (.slice a (rep z.natAbs).length c) ∧
      Hid (ApiV ((w1.setCell ⟨g, 0, none⟩ (.bool (decide (z < 0)))).setCell ⟨g, 1, none⟩ (.slice a (rep z.natAbs).length c)) (.agg #[.bool (decide (z < 0)), .slice a (rep z.natAbs).length c]) z ∧
        Below w.heap.size w ((w1.setCell ⟨g, 0, none⟩ (.bool (decide (z < 0)))).setCell ⟨g, 1, none⟩ (.slice a (rep z.natAbs).length c)))

theorem since_made {w W X : World} {g : Nat} {z : Int} {s : Bool} {a : Option Addr} {n c : Nat} (r0 : Row W g 24 [.bool false, .slice none 0 0]) (hW : Below w.heap.size w W) (hg : w.heap.size ≤ g) (hs : (s = true → z ≤ 0) ∧ (s = false → 0 ≤ z))
    (hr : Raw X a n c z.natAbs) (h : Below W.heap.size W X) :
    Calls Tryz.prog 79 #[.bool s, .slice a n c] X fun e X' => (∃ a3 c3, e = .returned (.agg #[.bool (decide (z < 0)), .slice a3 (rep z.natAbs).length c3]) ∧ Fin w X' g z a3 c3) ∧ Below W.heap.size W X' := by
  obtain ⟨zs, h1, h2, h3, h4, h5, h6⟩ := hr
  refine (ref_made X s a zs n c z h6 h4 h1 h3 h2 h5 hs).mono ?_
  rintro e X' ⟨u, rfl, hu, hb⟩
  have hb' := h.trans (hb.mono h.size)
  obtain ⟨a3, c3, rfl, hf⟩ := api_store r0 hW hg hu hb'
  exact ⟨⟨a3, c3, rfl, hf⟩, hb'⟩
theorem since_plus {W X : World} {a b : Option Addr} {x y n m ca cb : Nat} (ha : Lay .u32 W a (rep x)) (hb : Lay .u32 W b (rep y)) (hn : n = (rep x).length) (hm : m = (rep y).length) (ln : n ≤ 1073741824) (lm : m ≤ 1073741824) (h : Below W.heap.size W X) :
    Calls Tryz.prog 80 #[.slice a n ca, .slice b m cb] X fun e X' => (∃ a' n' c', e = .returned (.slice a' n' c') ∧ Raw X' a' n' c' (x + y)) ∧ Below W.heap.size W X' := by
  refine (ref_plus X a b (rep x) (rep y) n m ca cb 1073741824 (ha.below h) (hb.below h) (rep_lim _) (rep_lim _) hn hm ln lm (by decide)).mono ?_
  rw [val_rep, val_rep]
  rintro e X' ⟨a', n', c', zs, rfl, h1, h2, h3, h4, h5, h6, h7, _⟩
  exact ⟨⟨a', n', c', rfl, zs, h1, h2, by omega, h4, h5, h6⟩, h.trans (h7.mono h.size)⟩
theorem since_less {W X : World} {a b : Option Addr} {x y n m ca cb : Nat} (ha : Lay .u32 W a (rep x)) (hb : Lay .u32 W b (rep y)) (hn : n = (rep x).length) (hm : m = (rep y).length) (ln : n ≤ 1073741824) (hle : y ≤ x) (h : Below W.heap.size W X) :
    Calls Tryz.prog 88 #[.slice a n ca, .slice b m cb] X fun e X' => (∃ a' n' c', e = .returned (.slice a' n' c') ∧ Raw X' a' n' c' (x - y)) ∧ Below W.heap.size W X' := by
  have hmn : m ≤ n := by rw [hn, hm]; exact rep_mono hle
  refine (ref_less X a b (rep x) (rep y) n m ca cb (ha.below h) (hb.below h) (rep_lim _) (rep_lim _) hn hm (by omega) (by rw [val_rep, val_rep]; exact hle) hmn).mono ?_
  rw [val_rep, val_rep]
  rintro e X' ⟨a', c', rfl, h2, h6, h7, _⟩
  exact ⟨⟨a', _, c', rfl, rep (x - y), rfl, h2, by have := rep_mono (Nat.sub_le x y); omega, rep_lim _, val_rep _, h6⟩, h.trans (h7.mono h.size)⟩

set_option maxHeartbeats 1600000 in
set_option maxRecDepth 1000000 in
theorem ref_add (w : World) (v1 v2 : Value) (x y : Int) (h1 : ApiV w v1 x) (h2 : ApiV w v2 y) (lx : (rep x.natAbs).length ≤ 1073741824) (ly : (rep y.natAbs).length ≤ 1073741824) :
    Calls Tryz.prog 22 #[v1, v2] w fun e w' => ∃ u, e = .returned u ∧ ApiV w' u (x + y) ∧ Below w.heap.size w w' := by
  obtain ⟨a1, c1, rfl, hc1, hl1⟩ := h1
  obtain ⟨a2, c2, rfl, hc2, hl2⟩ := h2
  obtain ⟨n1, hn1⟩ : ∃ n, n = (rep x.natAbs).length := ⟨_, rfl⟩
  obtain ⟨n2, hn2⟩ : ∃ n, n = (rep y.natAbs).length := ⟨_, rfl⟩
  rw [← hn1] at hc1 lx ⊢
  rw [← hn2] at hc2 ly ⊢
  obtain ⟨s1, hs1⟩ : ∃ s, s = decide (x < 0) := ⟨_, rfl⟩
  obtain ⟨s2, hs2⟩ : ∃ s, s = decide (y < 0) := ⟨_, rfl⟩
  rw [← hs1, ← hs2]
  obtain ⟨r0, r1, r2, hW, hsz⟩ := rows3 w 24 (.bool s1) (.slice a1 n1 c1) (.bool s2) (.slice a2 n2 c2) (.bool false) (.slice none 0 0)
  obtain ⟨W, hWe⟩ : ∃ W, W = ((w.alloc (.cells #[.bool s1, .slice a1 n1 c1] 24)).alloc (.cells #[.bool s2, .slice a2 n2 c2] 24)).alloc (.cells #[.bool false, .slice none 0 0] 24) := ⟨_, rfl⟩
  rw [← hWe] at r0 r1 r2 hW hsz
  have HWe := Lib.hid hWe; clear hWe
  have Hn1 := Lib.hid hn1; clear hn1
  have Hn2 := Lib.hid hn2; clear hn2
  have Hs1 := Lib.hid hs1; clear hs1
  have Hs2 := Lib.hid hs2; clear hs2
  obtain ⟨z, hz⟩ : ∃ z, z = x + y := ⟨_, rfl⟩
  rw [← hz]
  have Hz := Lib.hid hz; clear hz
  have c0 := r0.cell_at 0
  have c01 := r0.cell_at 1
  have c10 := r1.cell_at 0
  have c11 := r1.cell_at 1
  simp only [List.getElem?_cons_zero, List.getElem?_cons_succ] at c0 c01 c10 c11
  by_cases hss : s1 = s2
  · subst hss
    obtain ⟨e1, e2⟩ := add_same Hs1.out Hs2.out
    rw [← Hz.out] at e1 e2
    obtain ⟨hk, hs⟩ := rows3_keep r0 r1 r2
    have hp := fun X (h : Below W.heap.size W X) => since_plus (ca := c1) (cb := c2) (hl1.below hW) (hl2.below hW) Hn1.out Hn2.out lx ly h
    rw [e1] at hp
    have HP := Lib.hid hp; clear hp
    have HM := Lib.hid (fun X a n c (h1 : Raw X a n c z.natAbs) (h : Below W.heap.size W X) => since_made r2 hW (by omega) e2 h1 h)
    have HK := Lib.hid hk; clear hk
    have HS := Lib.hid hs; clear hs
    clear e1 e2
    have h := Below.refl W.heap.size W
    go_enter Tryz.func22, Tryz.ntmps22
    go_wp2_with fail
    rw [← HWe.out]
    go_region_held3 (fun X => (X.cell? ⟨w.heap.size, 0, none⟩ = some (.bool s1) ∧ X.cell? ⟨w.heap.size, 1, none⟩ = some (.slice a1 n1 c1) ∧ X.cell? ⟨w.heap.size + 1, 0, none⟩ = some (.bool s1) ∧ X.cell? ⟨w.heap.size + 1, 1, none⟩ = some (.slice a2 n2 c2)))
      (first | (apply HK.out; (repeat (first | exact h | apply Below.drew)); done) | (apply HS.out; apply below_store; apply below_store; apply Below.mono; (repeat (first | exact h | apply Below.drew)); omega; exact Nat.le_refl _; exact Nat.le_refl _))
      (first
        | (go_at_call 80; apply Calls.mono; apply HP.out; (repeat (first | exact h | apply Below.drew)); clear h; rintro e w' ⟨⟨a', n', c', rfl, hraw⟩, h⟩)
        | (go_at_call 79; apply Calls.mono; apply HM.out; exact hraw; (repeat (first | exact h | apply Below.drew)); clear h hraw; rintro e w' ⟨⟨a3, c3, rfl, hfin⟩, h⟩; obtain ⟨q0, q1, q2, q3, e0, e1, hf⟩ := hfin))
    go_wp2
    (try simp only [Exit.inBlock, Exit.then])
    refine bodyPost_ret (v := .agg #[.bool (decide (z < 0)), .slice a3 (rep z.natAbs).length c3]) (by simp [results, Tryz.results22, go_sem, e0, e1]) rfl ?_
    exact ⟨_, rfl, hf.out⟩
  · have hsb : (s1 == s2) = false := by rw [beq_eq_false_iff_ne]; exact hss
    have hns : (!s1) = s2 := by cases s1 <;> cases s2 <;> simp at hss ⊢
    have ho := ref_order W a1 a2 (rep x.natAbs) (rep y.natAbs) n1 n2 c1 c2 (hl1.below hW) (hl2.below hW) (rep_lim _) (rep_lim _) (rep_norm _) (rep_norm _) Hn1.out Hn2.out (by omega) (by omega)
    rw [val_rep, val_rep] at ho
    have HO := Lib.hid ho; clear ho
    by_cases hge : y.natAbs ≤ x.natAbs
    · have cv := order_ge hge
      obtain ⟨e1, e2⟩ := add_diff Hs1.out (show (!s1) = decide (y < 0) by rw [hns]; exact Hs2.out) hge
      rw [← Hz.out] at e1 e2
      obtain ⟨v, hv⟩ : ∃ v, v = cmpI x.natAbs y.natAbs := ⟨_, rfl⟩
      rw [← hv] at cv HO
      clear hv
      have Hns := Lib.hid hns; clear hns hss
      go_enter Tryz.func22, Tryz.ntmps22
      go_wp2_with fail
      rw [← HWe.out]
      refine HO.out.mono ?_
      rintro e w5 ⟨rfl, q, rfl⟩
      obtain ⟨V, hV⟩ : ∃ V, V = W.drewN q := ⟨_, rfl⟩
      have hWV : Below w.heap.size w V := by rw [hV]; exact below_drewN hW q
      have p0 : Row V w.heap.size 24 [.bool s1, .slice a1 n1 c1] := by rw [hV]; exact r0.drewN q
      have p1 : Row V (w.heap.size + 1) 24 [.bool s2, .slice a2 n2 c2] := by rw [hV]; exact r1.drewN q
      have p2 : Row V (w.heap.size + 1 + 1) 24 [.bool false, .slice none 0 0] := by rw [hV]; exact r2.drewN q
      rw [← hV]
      clear hV r0 r1 r2 c0 c01 c10 c11
      have c0 := p0.cell_at 0
      have c01 := p0.cell_at 1
      have c10 := p1.cell_at 0
      have c11 := p1.cell_at 1
      simp only [List.getElem?_cons_zero, List.getElem?_cons_succ] at c0 c01 c10 c11
      have hltV := p2.lt
      obtain ⟨hk, hs⟩ := rows3_keep p0 p1 p2
      have hp := fun X (h : Below V.heap.size V X) => since_less (ca := c1) (cb := c2) (hl1.below hWV) (hl2.below hWV) Hn1.out Hn2.out lx (show y.natAbs ≤ x.natAbs by omega) h
      rw [e1] at hp
      have HP := Lib.hid hp; clear hp
      have HM := Lib.hid (fun X a n c (h1 : Raw X a n c z.natAbs) (h : Below V.heap.size V X) => since_made p2 hWV (by omega) e2 h1 h)
      have HK := Lib.hid hk; clear hk
      have HS := Lib.hid hs; clear hs
      clear e1 e2
      have h := Below.refl V.heap.size V
      go_wp2_with fail
      go_region_held3 (fun X => (X.cell? ⟨w.heap.size, 0, none⟩ = some (.bool s1) ∧ X.cell? ⟨w.heap.size, 1, none⟩ = some (.slice a1 n1 c1) ∧ X.cell? ⟨w.heap.size + 1, 0, none⟩ = some (.bool s2) ∧ X.cell? ⟨w.heap.size + 1, 1, none⟩ = some (.slice a2 n2 c2)))
        (first | (apply HK.out; (repeat (first | exact h | apply Below.drew)); done) | (apply HS.out; apply below_store; apply below_store; apply Below.mono; (repeat (first | exact h | apply Below.drew)); omega; exact Nat.le_refl _; exact Nat.le_refl _))
        (first
          | (go_at_call 88; apply Calls.mono; apply HP.out; (repeat (first | exact h | apply Below.drew)); clear h; rintro e w' ⟨⟨a', n', c', rfl, hraw⟩, h⟩)
          | (go_at_call 79; apply Calls.mono; apply HM.out; exact hraw; (repeat (first | exact h | apply Below.drew)); clear h hraw; rintro e w' ⟨⟨a3, c3, rfl, hfin⟩, h⟩; obtain ⟨q0, q1, q2, q3, e0, e1, hf⟩ := hfin))
      go_wp2
      (try simp only [Exit.inBlock, Exit.then])
      refine bodyPost_ret (v := .agg #[.bool (decide (z < 0)), .slice a3 (rep z.natAbs).length c3]) (by simp [results, Tryz.results22, go_sem, e0, e1]) rfl ?_
      exact ⟨_, rfl, hf.out⟩
    · have cv := order_lt (show x.natAbs < y.natAbs by omega)
      obtain ⟨e1, e2⟩ := add_diff Hs2.out (show (!s2) = decide (x < 0) by rw [← hns, Bool.not_not]; exact Hs1.out) (show x.natAbs ≤ y.natAbs by omega)
      rw [Int.add_comm y x] at e1 e2
      rw [← Hz.out] at e1 e2
      obtain ⟨v, hv⟩ : ∃ v, v = cmpI x.natAbs y.natAbs := ⟨_, rfl⟩
      rw [← hv] at cv HO
      clear hv
      have Hns := Lib.hid hns; clear hns hss
      go_enter Tryz.func22, Tryz.ntmps22
      go_wp2_with fail
      rw [← HWe.out]
      refine HO.out.mono ?_
      rintro e w5 ⟨rfl, q, rfl⟩
      obtain ⟨V, hV⟩ : ∃ V, V = W.drewN q := ⟨_, rfl⟩
      have hWV : Below w.heap.size w V := by rw [hV]; exact below_drewN hW q
      have p0 : Row V w.heap.size 24 [.bool s1, .slice a1 n1 c1] := by rw [hV]; exact r0.drewN q
      have p1 : Row V (w.heap.size + 1) 24 [.bool s2, .slice a2 n2 c2] := by rw [hV]; exact r1.drewN q
      have p2 : Row V (w.heap.size + 1 + 1) 24 [.bool false, .slice none 0 0] := by rw [hV]; exact r2.drewN q
      rw [← hV]
      clear hV r0 r1 r2 c0 c01 c10 c11
      have c0 := p0.cell_at 0
      have c01 := p0.cell_at 1
      have c10 := p1.cell_at 0
      have c11 := p1.cell_at 1
      simp only [List.getElem?_cons_zero, List.getElem?_cons_succ] at c0 c01 c10 c11
      have hltV := p2.lt
      obtain ⟨hk, hs⟩ := rows3_keep p0 p1 p2
      have hp := fun X (h : Below V.heap.size V X) => since_less (ca := c2) (cb := c1) (hl2.below hWV) (hl1.below hWV) Hn2.out Hn1.out ly (show x.natAbs ≤ y.natAbs by omega) h
      rw [e1] at hp
      have HP := Lib.hid hp; clear hp
      have HM := Lib.hid (fun X a n c (h1 : Raw X a n c z.natAbs) (h : Below V.heap.size V X) => since_made p2 hWV (by omega) e2 h1 h)
      have HK := Lib.hid hk; clear hk
      have HS := Lib.hid hs; clear hs
      clear e1 e2
      have h := Below.refl V.heap.size V
      go_wp2_with fail
      go_region_held3 (fun X => (X.cell? ⟨w.heap.size, 0, none⟩ = some (.bool s1) ∧ X.cell? ⟨w.heap.size, 1, none⟩ = some (.slice a1 n1 c1) ∧ X.cell? ⟨w.heap.size + 1, 0, none⟩ = some (.bool s2) ∧ X.cell? ⟨w.heap.size + 1, 1, none⟩ = some (.slice a2 n2 c2)))
        (first | (apply HK.out; (repeat (first | exact h | apply Below.drew)); done) | (apply HS.out; apply below_store; apply below_store; apply Below.mono; (repeat (first | exact h | apply Below.drew)); omega; exact Nat.le_refl _; exact Nat.le_refl _))
        (first
          | (go_at_call 88; apply Calls.mono; apply HP.out; (repeat (first | exact h | apply Below.drew)); clear h; rintro e w' ⟨⟨a', n', c', rfl, hraw⟩, h⟩)
          | (go_at_call 79; apply Calls.mono; apply HM.out; exact hraw; (repeat (first | exact h | apply Below.drew)); clear h hraw; rintro e w' ⟨⟨a3, c3, rfl, hfin⟩, h⟩; obtain ⟨q0, q1, q2, q3, e0, e1, hf⟩ := hfin))
      go_wp2
      (try simp only [Exit.inBlock, Exit.then])
      refine bodyPost_ret (v := .agg #[.bool (decide (z < 0)), .slice a3 (rep z.natAbs).length c3]) (by simp [results, Tryz.results22, go_sem, e0, e1]) rfl ?_
      exact ⟨_, rfl, hf.out⟩

end Go.Proofs.YtbffpkmfhkphdaaGreatDoor

namespace Go.Proofs.YtbffpkmfhkphdaaGreatDoor
open Go Go.RowKit

theorem upto_step {p : Nat → Prop} (k m : Nat) (hm : m = k + 1) (h : ∀ i, i < k → p i) (hk : p k) : ∀ i, i < m → p i := by
  intro i hi
  by_cases e : i = k
  · subst e; exact hk
  · exact h i (by omega)

/-- The frame written out: the slots ds (rising) hold what u says, the others what they held. -/
def pickL (u : Nat → Value) : List Value → Nat → List Nat → List Value
  | [], _, _ => []
  | v :: vs, _, [] => v :: vs
  | v :: vs, k, d :: ds => if k = d then u k :: pickL u vs (k + 1) ds else v :: pickL u vs (k + 1) (d :: ds)
theorem pickL_get (u : Nat → Value) : ∀ (l : List Value) (k : Nat) (ds : List Nat), List.Pairwise (· < ·) ds → (∀ d ∈ ds, k ≤ d) → ∀ i, (pickL u l k ds)[i]? = if k + i ∈ ds ∧ i < l.length then some (u (k + i)) else l[i]?
  | [], k, ds, _, _, i => by cases ds <;> simp [pickL]
  | v :: vs, k, [], _, _, i => by simp [pickL]
  | v :: vs, k, d :: ds, hp, hk, i => by
    have hp' := List.pairwise_cons.1 hp
    unfold pickL
    by_cases h : k = d
    · subst h
      rw [if_pos rfl]
      cases i with
      | zero => simp
      | succ i =>
        rw [List.getElem?_cons_succ, pickL_get u vs (k + 1) ds hp'.2 (fun e he => hp'.1 e he)]
        have e : (k + 1 + i ∈ k :: ds) ↔ k + 1 + i ∈ ds := by
          rw [List.mem_cons]
          constructor
          · rintro (h | h)
            · omega
            · exact h
          · exact .inr
        simp only [List.length_cons, Nat.add_lt_add_iff_right, List.getElem?_cons_succ, show k + (i + 1) = k + 1 + i by omega, e]
    · rw [if_neg h]
      have hd : k < d := by have := hk d (by simp); omega
      cases i with
      | zero =>
        have e : ¬ (k + 0 ∈ d :: ds) := by
          rw [List.mem_cons]
          rintro (h | h)
          · omega
          · have := hp'.1 _ h; omega
        rw [if_neg (fun h => e h.1)]; rfl
      | succ i =>
        rw [List.getElem?_cons_succ, pickL_get u vs (k + 1) (d :: ds) hp (fun e he => by
          rcases List.mem_cons.1 he with rfl | he
          · omega
          · have := hp'.1 e he; omega)]
        simp only [List.length_cons, Nat.add_lt_add_iff_right, List.getElem?_cons_succ, show k + (i + 1) = k + 1 + i by omega]
def risingB : List Nat → Bool
  | a :: b :: t => Nat.blt a b && risingB (b :: t)
  | _ => true
theorem risingB_spec : ∀ l : List Nat, risingB l = true → List.Pairwise (· < ·) l
  | [], _ => List.Pairwise.nil
  | [a], _ => by simp
  | a :: b :: t, h => by
    unfold risingB at h
    rw [Bool.and_eq_true] at h
    have h1 : a < b := by simpa using h.1
    have h2 := risingB_spec (b :: t) h.2
    rw [List.pairwise_cons]
    refine ⟨fun x hx => ?_, h2⟩
    rcases List.mem_cons.1 hx with rfl | hx
    · exact h1
    · exact Nat.lt_trans h1 ((List.pairwise_cons.1 h2).1 x hx)
/-- The frame behind the head, written out. -/
theorem each_shape {md : Region.Mode} {ops : Array Oper} {S : World → Prop} {V : Nat → Value → World → Prop} {n : Nat} {base : Act} {listed : Array Bool} {a : Act} {w : World} (inv : EachInv md ops n S V base listed a w) (ds : List Nat) (hr : risingB ds = true)
    (hds : ((ops.toList.take n).all fun o => (o.dst.map fun d => ds.contains d).getD true) = true) : a = ⟨(pickL (fun d => a.tmps.getD d undef) base.tmps.toList 0 ds).toArray, base.defers⟩ := by
  obtain ⟨t, df⟩ := a
  have h1 := inv.defers
  have h2 := inv.size
  have h3 := inv.old
  simp only at h1 h2 h3
  subst h1
  congr 1
  apply Array.ext_getElem?
  intro i
  rw [← Array.getElem?_toList (xs := (pickL _ _ _ _).toArray), List.toList_toArray, pickL_get _ _ _ _ (risingB_spec ds hr) (fun d _ => Nat.zero_le d), Nat.zero_add]
  by_cases hi : i ∈ ds ∧ i < base.tmps.toList.length
  · rw [if_pos hi]
    have hi2 : i < t.size := by rw [h2]; simpa using hi.2
    simp [Array.getD_eq_getD_getElem?, hi2]
  · rw [if_neg hi, Array.getElem?_toList]
    by_cases hs : i < base.tmps.size
    · refine h3 i (fun j o hj ho e => hi ⟨?_, by simpa using hs⟩)
      have hm : o ∈ ops.toList.take n := by
        rw [List.mem_iff_getElem?]
        exact ⟨j, by rw [List.getElem?_take_of_lt hj]; simpa using ho⟩
      have := List.all_eq_true.1 hds o hm
      rw [e] at this
      simpa using this
    · rw [Array.getElem?_eq_none (by omega), Array.getElem?_eq_none (by omega)]

/-- What is known of a slot's value. -/
inductive Sp where
  | any
  | eq (v : Value)
  | api (z : Int)
  | tup (z : Int)
  | box (B : Nat)
def Sp.at : Sp → Value → World → Prop
  | .any, _, _ => True
  | .eq v, u, _ => u = v
  | .api z, u, w => ApiV w u z
  | .tup z, u, w => ∃ v, u = .tuple #[v, .int .i64 0] ∧ ApiV w v z
  | .box B, u, w => ∃ g, u = .pointer (some ⟨g, 0, none⟩) ∧ B ≤ g ∧ Row w g 24 [.bool false, .slice none 0 0]
theorem Sp.below {s : Sp} {u : Value} {w w' : World} (h : s.at u w) (hb : Below w.heap.size w w') : s.at u w' := by
  cases s with
  | any => trivial
  | eq v => exact h
  | api z => exact ApiV.below h hb
  | tup z => obtain ⟨v, e, h⟩ := h; exact ⟨v, e, ApiV.below h hb⟩
  | box B => obtain ⟨g, e, h1, h2⟩ := h; exact ⟨g, e, h1, h2.below hb h2.lt⟩
/-- The specs of a head's operations, in turn. -/
def SpV (l : List Sp) (i : Nat) (v : Value) (w : World) : Prop := (l.getD i .any).at v w
theorem SpV.below {l : List Sp} : ∀ i v w w', SpV l i v w → Below w.heap.size w w' → SpV l i v w' := fun _ _ _ _ h hb => Sp.below h hb

section
variable {P : Program} {md : Region.Mode} {ops : Array Oper} {Q : Exit → Act → World → Prop} {S : World → Prop} {V : Nat → Value → World → Prop} {n i : Nat} {base : Act} {o : Oper}

/-- Where number i is looked at. -/
structure Ctx (md : Region.Mode) (ops : Array Oper) (n : Nat) (S : World → Prop) (V : Nat → Value → World → Prop) (base : Act) (i : Nat) (a : Act) (w : World) : Prop where
  S : S w
  old : ∀ t, freshB ops n t = true → a.tmps[t]? = base.tmps[t]?
  dep : ∀ j d, (((ops[i]?).map fun o => o.after.any fun e => e.on == j && Region.binds md e).getD false) = true → ((ops[j]?).bind (·.dst)) = some d → V j (a.tmps.getD d undef) w

theorem each_of (h : ∀ a w, Ctx md ops n S V base i a w → wpOp P ops Q i (fun a' w' => ∃ v, a' = a.put ((ops[i]?).bind (·.dst)) v ∧ S w' ∧ Below w.heap.size w w' ∧ V i v w') a w) : EachStep P md ops Q n S V base i :=
  fun a w hS _ hold hdep => h a w ⟨hS, hold, hdep⟩

/-- An operand's value is known. -/
def Knows (md : Region.Mode) (ops : Array Oper) (n : Nat) (S : World → Prop) (V : Nat → Value → World → Prop) (base : Act) (i : Nat) (x : Operand) (F : Value → World → Prop) : Prop :=
  ∀ a w, Ctx md ops n S V base i a w → F (a.eval x) w
theorem knows_dep (j t : Nat) (h : (((ops[i]?).map fun o => o.after.any fun e => e.on == j && Region.binds md e).getD false) = true) (hd : ((ops[j]?).bind (·.dst)) = some t) : Knows md ops n S V base i (.tmp t) (V j) :=
  fun _ _ c => c.dep j t h hd
theorem knows_old (t : Nat) (v : Value) (hf : freshB ops n t = true) (hv : base.tmps[t]? = some v) : Knows md ops n S V base i (.tmp t) (fun u _ => u = v) := by
  intro a w c
  show a.tmps.getD t undef = v
  rw [Array.getD_eq_getD_getElem?, c.old t hf, hv]; rfl
theorem knows_const (v : Value) : Knows md ops n S V base i (.const v) (fun u _ => u = v) := fun _ _ _ => rfl

/-- Number i is wanted. -/
def Asked (md : Region.Mode) (ops : Array Oper) (n : Nat) (S : World → Prop) (V : Nat → Value → World → Prop) (base : Act) (i : Nat) (o : Oper) : Prop :=
  ∀ a w, Ctx md ops n S V base i a w → Region.wanted o (yielded ops a.tmps) = true
theorem asked_free (hg : o.guard = none) : Asked md ops n S V base i o := fun a w _ => by unfold Region.wanted; rw [hg]
theorem asked_if (g d : Nat) (b : Bool) (hg : o.guard = some (g, b)) (h : (((ops[i]?).map fun o => o.after.any fun e => e.on == g && Region.binds md e).getD false) = true) (hd : ((ops[g]?).bind (·.dst)) = some d) (hV : ∀ v w, V g v w → v = .bool b) : Asked md ops n S V base i o := by
  intro a w c
  have h1 := hV _ _ (c.dep g d h hd)
  unfold Region.wanted
  rw [hg]
  simp only [yielded, hd, Option.bind_some]
  rw [Array.getD_eq_getD_getElem?] at h1
  cases ht : a.tmps[d]? with
  | none => rw [ht] at h1; cases h1
  | some u => rw [ht] at h1; simp only [Option.getD_some] at h1; subst h1; simp

/-- An operation that yields a value and leaves the world. -/
theorem step_yield (hi : ops[i]? = some o) (hw : Asked md ops n S V base i o) (h : ∀ a w, Ctx md ops n S V base i a w → ∃ v, (execOp a.eval o).run P w = .ok (.value v) w ∧ V i v w) : EachStep P md ops Q n S V base i := by
  refine each_of (fun a w c => ?_)
  obtain ⟨v, h1, h2⟩ := h a w c
  unfold wpOp
  simp only [hi, hw a w c, if_true, Oper.wp, h1, Oper.upon]
  exact .inl ⟨v, rfl, c.S, Below.refl _ _, h2⟩
theorem step_move {x : Operand} {F : Value → World → Prop} (hi : ops[i]? = some o) (hw : Asked md ops n S V base i o) (ho : o.op = .move x) (hx : Knows md ops n S V base i x F) (hF : ∀ v w, F v w → V i v w) : EachStep P md ops Q n S V base i :=
  step_yield hi hw (fun a w c => ⟨a.eval x, by unfold execOp; rw [ho]; rfl, hF _ _ (hx a w c)⟩)
theorem step_not {x : Operand} {t : TypeId} {b : Bool} (hi : ops[i]? = some o) (hw : Asked md ops n S V base i o) (ho : o.op = .unOp .not t x) (hx : Knows md ops n S V base i x (fun v _ => v = .bool b)) (hF : ∀ w, V i (.bool !b) w) : EachStep P md ops Q n S V base i :=
  step_yield hi hw (fun a w c => ⟨.bool !b, by unfold execOp; rw [ho]; simp only [hx a w c]; rfl, hF w⟩)
theorem step_pick {x y z : Operand} {b : Bool} {F : Value → World → Prop} (hi : ops[i]? = some o) (hw : Asked md ops n S V base i o) (ho : o.op = .pick x y z) (hx : Knows md ops n S V base i x (fun v _ => v = .bool b)) (hy : Knows md ops n S V base i (bif b then y else z) F) (hF : ∀ v w, F v w → V i v w) : EachStep P md ops Q n S V base i :=
  step_yield hi hw (fun a w c => ⟨a.eval (bif b then y else z), by unfold execOp; rw [ho]; simp only [hx a w c]; cases b <;> rfl, hF _ _ (hy a w c)⟩)
/-- A read of a whole variable. -/
theorem step_load {x : Operand} {t : TypeId} {p : Value} {v : Value} (hi : ops[i]? = some o) (hw : Asked md ops n S V base i o) (ho : o.op = .load t x) (hx : Knows md ops n S V base i x (fun u _ => u = p)) (hr : ∀ w, S w → (Instr.loadAt t p).run P w = .ok v w) (hF : ∀ w, S w → V i v w) : EachStep P md ops Q n S V base i :=
  step_yield hi hw (fun a w c => ⟨v, by unfold execOp; rw [ho]; simp only [hx a w c]; simp [hr w c.S], hF w c.S⟩)
/-- Not wanted. -/
theorem step_skip (g d : Nat) (b b' : Bool) (hi : ops[i]? = some o) (hg : o.guard = some (g, b)) (hb : b' ≠ b) (h : (((ops[i]?).map fun o => o.after.any fun e => e.on == g && Region.binds md e).getD false) = true) (hd : ((ops[g]?).bind (·.dst)) = some d) (hV : ∀ v w, V g v w → v = .bool b') (hF : ∀ w, S w → V i undef w) : EachStep P md ops Q n S V base i := by
  refine each_of (fun a w c => ?_)
  have h1 := hV _ _ (c.dep g d h hd)
  have hw : Region.wanted o (yielded ops a.tmps) = false := by
    unfold Region.wanted
    rw [hg]
    simp only [yielded, hd, Option.bind_some]
    rw [Array.getD_eq_getD_getElem?] at h1
    cases ht : a.tmps[d]? with
    | none => rw [ht] at h1; cases h1
    | some u => rw [ht] at h1; simp only [Option.getD_some] at h1; subst h1; simpa using hb
  unfold wpOp
  simp only [hi, hw, Bool.false_eq_true, if_false]
  exact ⟨undef, by simp, c.S, Below.refl _ _, hF w c.S⟩

theorem knows_func (k : FuncId) : Knows md ops n S V base i (.func k) (fun u _ => u = .func (.func k) #[] #[]) := fun _ _ _ => rfl
/-- A function of Go's own text. -/
def entersB (P : Program) (k : FuncId) : Bool := ((P.funcs[k]?).map fun fn => !(fn.name == "runtime.NumGoroutine") && !fn.body.isNone).getD false
theorem run_enters {k : FuncId} (hk : entersB P k = true) (args : Array Value) (w : World) : (callFunc k args).run P w = .ok (.enter k args) w := by
  unfold entersB at hk
  cases hf : P.funcs[k]? with
  | none => rw [hf] at hk; cases hk
  | some fn =>
    rw [hf] at hk
    simp only [Option.map_some, Option.getD_some, Bool.and_eq_true, Bool.not_eq_true'] at hk
    obtain ⟨h1, h2⟩ := hk
    cases hb : fn.body with
    | none => rw [hb] at h2; cases h2
    | some b =>
      have h1 : ¬ fn.name = "runtime.NumGoroutine" := by simpa using h1
      unfold callFunc
      simp [go_sem, hf, h1, hb]
theorem exec_call {ρ : Operand → Value} {w : World} {x : Operand} {xs : Array Operand} {ts : Array TypeId} {k : FuncId} {cap : Array Value} (ho : o.op = .call { callee := .value x, args := xs, argTypes := ts }) (hx : ρ x = .func (.func k) #[] cap) (hk : entersB P k = true) :
    (execOp ρ o).run P w = .ok (.enter k (xs.map ρ ++ cap)) w := by
  unfold execOp
  rw [ho]
  simp only [resolve, hx, Deferred.ofValue]
  simp [invoke, run_enters hk]
/-- What a call's contract says here. -/
def Yes (P : Program) (S : World → Prop) (V : Nat → Value → World → Prop) (i : Nat) (k : FuncId) (args : Array Value) (w : World) : Prop :=
  Calls P k args w fun e w' => ∃ v, e = .returned v ∧ S w' ∧ Below w.heap.size w w' ∧ V i v w'
theorem step_call {x : Operand} {xs : Array Operand} {ts : Array TypeId} {k : FuncId} {cap : Array Value} (hi : ops[i]? = some o) (hw : Asked md ops n S V base i o) (ho : o.op = .call { callee := .value x, args := xs, argTypes := ts }) (hk : entersB P k = true)
    (hx : Knows md ops n S V base i x (fun u _ => u = .func (.func k) #[] cap)) (hc : ∀ a w, Ctx md ops n S V base i a w → Yes P S V i k (xs.map a.eval ++ cap) w) : EachStep P md ops Q n S V base i := by
  refine each_of (fun a w c => ?_)
  unfold wpOp
  simp only [hi, hw a w c, if_true, Oper.wp, exec_call ho (hx a w c) hk, Oper.upon]
  refine .inl ((hc a w c).mono ?_)
  rintro e w' ⟨v, rfl, h1, h2, h3⟩
  exact ⟨v, rfl, h1, h2, h3⟩
theorem step_call0 {x : Operand} {ts : Array TypeId} {k : FuncId} {cap : Array Value} (hi : ops[i]? = some o) (hw : Asked md ops n S V base i o) (ho : o.op = .call { callee := .value x, args := #[], argTypes := ts }) (hk : entersB P k = true)
    (hx : Knows md ops n S V base i x (fun u _ => u = .func (.func k) #[] cap)) (hc : ∀ w, S w → Yes P S V i k (#[] ++ cap) w) : EachStep P md ops Q n S V base i :=
  step_call hi hw ho hk hx (fun a w c => by rw [show Array.map a.eval #[] = #[] by simp]; exact hc w c.S)
theorem step_call1 {x y : Operand} {ts : Array TypeId} {k : FuncId} {cap : Array Value} {F : Value → World → Prop} (hi : ops[i]? = some o) (hw : Asked md ops n S V base i o) (ho : o.op = .call { callee := .value x, args := #[y], argTypes := ts }) (hk : entersB P k = true)
    (hx : Knows md ops n S V base i x (fun u _ => u = .func (.func k) #[] cap)) (hy : Knows md ops n S V base i y F) (hc : ∀ v w, S w → F v w → Yes P S V i k (#[v] ++ cap) w) : EachStep P md ops Q n S V base i :=
  step_call hi hw ho hk hx (fun a w c => by rw [show Array.map a.eval #[y] = #[a.eval y] by simp]; exact hc _ w c.S (hy a w c))
theorem step_call2 {x y z : Operand} {ts : Array TypeId} {k : FuncId} {cap : Array Value} {F G : Value → World → Prop} (hi : ops[i]? = some o) (hw : Asked md ops n S V base i o) (ho : o.op = .call { callee := .value x, args := #[y, z], argTypes := ts }) (hk : entersB P k = true)
    (hx : Knows md ops n S V base i x (fun u _ => u = .func (.func k) #[] cap)) (hy : Knows md ops n S V base i y F) (hz : Knows md ops n S V base i z G) (hc : ∀ u v w, S w → F u w → G v w → Yes P S V i k (#[u, v] ++ cap) w) : EachStep P md ops Q n S V base i :=
  step_call hi hw ho hk hx (fun a w c => by rw [show Array.map a.eval #[y, z] = #[a.eval y, a.eval z] by simp]; exact hc _ _ w c.S (hy a w c) (hz a w c))
/-- A computation of one or two operands. -/
theorem step_bin {x y : Operand} {t t' : TypeId} {op : BinOp} {u v r : Value} (hi : ops[i]? = some o) (hw : Asked md ops n S V base i o) (ho : o.op = .binOp op t x y t') (hx : Knows md ops n S V base i x (fun s _ => s = u)) (hy : Knows md ops n S V base i y (fun s _ => s = v))
    (hr : ∀ w, (eqGuard op t x y u v).run P w = .ok () w ∧ (binOp op t u v).run P w = .ok r w) (hF : ∀ w, V i r w) : EachStep P md ops Q n S V base i :=
  step_yield hi hw (fun a w c => ⟨r, by unfold execOp; rw [ho]; simp only [hx a w c, hy a w c]; simp [(hr w).1, (hr w).2], hF w⟩)
theorem step_field {x : Operand} {t : TypeId} {f : Nat} {u r : Value} (hi : ops[i]? = some o) (hw : Asked md ops n S V base i o) (ho : o.op = .fieldAddr t x f) (hx : Knows md ops n S V base i x (fun s _ => s = u)) (hr : ∀ w, (Instr.fieldAt t u f).run P w = .ok r w) (hF : ∀ w, V i r w) : EachStep P md ops Q n S V base i :=
  step_yield hi hw (fun a w c => ⟨r, by unfold execOp; rw [ho]; simp only [hx a w c]; simp [hr w], hF w⟩)
theorem step_len {x : Operand} {t : TypeId} {u r : Value} (hi : ops[i]? = some o) (hw : Asked md ops n S V base i o) (ho : o.op = .call { callee := .builtin .len, args := #[x], argTypes := #[t] }) (hx : Knows md ops n S V base i x (fun s _ => s = u)) (hr : ∀ w ty cs, (builtin .len #[t] ty cs #[u]).run P w = .ok (.value r) w) (hF : ∀ w, V i r w) : EachStep P md ops Q n S V base i :=
  step_yield hi hw (fun a w c => ⟨r, by unfold execOp; rw [ho]; simp [resolve, invoke, hx a w c, hr w], hF w⟩)
theorem step_first {x : Operand} {F : Value → World → Prop} {z : Int} (hi : ops[i]? = some o) (hw : Asked md ops n S V base i o) (ho : o.op = .extract x 0) (hx : Knows md ops n S V base i x F) (hF : ∀ u w, F u w → (Sp.tup z).at u w) (hV : ∀ v w, ApiV w v z → V i v w) : EachStep P md ops Q n S V base i :=
  step_yield hi hw (fun a w c => by
    obtain ⟨v, e, h⟩ := hF _ _ (hx a w c)
    exact ⟨v, by unfold execOp; rw [ho]; simp only [e]; rfl, hV v w h⟩)
theorem step_second {x : Operand} {F : Value → World → Prop} {z : Int} (hi : ops[i]? = some o) (hw : Asked md ops n S V base i o) (ho : o.op = .extract x 1) (hx : Knows md ops n S V base i x F) (hF : ∀ u w, F u w → (Sp.tup z).at u w) (hV : ∀ w, V i (.int .i64 0) w) : EachStep P md ops Q n S V base i :=
  step_yield hi hw (fun a w c => by
    obtain ⟨v, e, h⟩ := hF _ _ (hx a w c)
    exact ⟨.int .i64 0, by unfold execOp; rw [ho]; simp only [e]; rfl, hV w⟩)
end

section
variable {md : Region.Mode} {ops : Array Oper} {Q : Exit → Act → World → Prop} {S : World → Prop} {V : Nat → Value → World → Prop} {n i : Nat} {base : Act} {o : Oper}
theorem step_alloc {B : Nat} (hi : ops[i]? = some o) (hg : o.guard = none) (ho : o.op = .alloc 24) (hB : ∀ w, S w → B ≤ w.heap.size) (hS : ∀ w w', S w → Below w.heap.size w w' → S w') (hV : ∀ v w, (Sp.box B).at v w → V i v w) : EachStep Tryz.prog md ops Q n S V base i := by
  refine each_of (fun a w c => wpOp_alloc_int (o := o) hi hg ho (fun X' g h1 h2 h3 _ => ?_))
  rw [hi]
  exact ⟨_, rfl, hS w X' c.S h2, h2, hV _ _ ⟨g, rfl, Nat.le_trans (hB w c.S) h3, h1⟩⟩
/-- An address in a row of numbers, a cell of it. -/
theorem step_index {P : Program} {x y : Operand} {t : TypeId} {u v r : Value} (hi : ops[i]? = some o) (hw : Asked md ops n S V base i o) (ho : o.op = .indexAddr t x y) (hx : Knows md ops n S V base i x (fun s _ => s = u)) (hy : Knows md ops n S V base i y (fun s _ => s = v)) (hr : ∀ w, (Instr.indexAt t u v).run P w = .ok r w) (hF : ∀ w, V i r w) : EachStep P md ops Q n S V base i :=
  step_yield hi hw (fun a w c => ⟨r, by unfold execOp; rw [ho]; simp only [hx a w c, hy a w c]; simp [hr w], hF w⟩)
end

end Go.Proofs.YtbffpkmfhkphdaaGreatDoor
