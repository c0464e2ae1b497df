/- Blocks of structs: a store of all cells; slices of structs that grow by appends. -/
import Derived.Test.YtdhapmlgapflbaaGreatDoorPOwn
import Derived.Laws.CopyRow
import Derived.OrdersHeld
set_option linter.unusedVariables false
set_option linter.unusedSimpArgs false
namespace Go.Proofs.YtdhapmlgapflbaaGreatDoor
open Go Go.RowKit Limb

theorem wpList_store_run {P : Program} {ops : Array Oper} {rest : List Oper} {o : Oper} {a : Act} {Q : Exit → Act → World → Prop} {w w' : World} (hg : o.guard = none) (t : TypeId) (x y : Operand) (hop : o.op = Op.store t x y)
    {u v : Value} (hx : a.eval x = u) (hy : a.eval y = v) (hrun : (Instr.storeAt t u v).run P w = .ok () w') (hK : wpList P ops Q rest (a.put o.dst undef) w') : wpList P ops Q (o :: rest) a w := by
  refine wpList_plain hg fun K' hK' => ?_
  unfold Oper.wp
  simp [execOp, hop, hx, hy, hrun, Result.andThen]
  exact hK' _ _ hK
theorem wpAnyH_take_at {P : Program} {md : Region.Mode} {ops : Array Oper} {Q : Exit → Act → World → Prop} {S : World → Prop} {i : Nat} {oi : Oper} {v : Value} {fuel : Nat} {listed : Array Bool} {a : Act} {w : World} (d : Tmp) (hi : ops[i]? = some oi) (hd : oi.dst = some d)
    (hs : Region.noSelect ops = true) (hf : Region.free md ops listed i = true) (hr : (Region.ready md ops listed).contains i = true)
    (hQ : ∀ c a w, Q (.panic c) (a.put oi.dst v) w → Q (.panic c) a w) (hy : YieldsIf P ops S oi v a) (hS : S w)
    (h : wpAnyH P md ops Q S fuel (listed.setIfInBounds i true) (a.put (some d) v) w) : wpAnyH P md ops Q S (fuel + 1) listed a w :=
  wpAnyH_take hi hs hf hr hQ hy hS (by rw [hd]; exact h)
theorem wpOp_plain {P : Program} {ops : Array Oper} {Q : Exit → Act → World → Prop} {i : Nat} {o : Oper} {K : Act → World → Prop} {a : Act} {w : World} (hi : ops[i]? = some o) (hg : o.guard = none) (h : o.wp P a w K Q) : wpOp P ops Q i K a w := by
  unfold wpOp; rw [hi]; simp only [Region.wanted, hg, if_true]; exact .inl h
theorem setRow_row {w : World} {g : Nat} {e : TypeId} {cs vs : List Value} (hr : Row w g e cs) : Row (w.setRow g vs.toArray) g e vs := by
  unfold Row at *
  exact setRow_heap w g cs.toArray vs.toArray e (0, 0) hr
theorem run_store_row {P : Program} {W : World} {g : Nat} {e t : TypeId} {cs : List Value} (vs : List Value) (hr : Row W g e cs) (hl : vs.length = cs.length) (h1 : ∀ u ∈ vs, u.oneCell' = true) (hs : ∀ W, (sizeOf t).run P W = .ok vs.length W) :
    ∃ W', (Instr.storeAt t (.pointer (some ⟨g, 0, none⟩)) (.agg vs.toArray)).run P W = .ok () W' ∧ Row W' g e vs ∧ Only [g] W W' := by
  have hst := run_storeCells_at P g 0 e vs 0 cs.toArray W hr (by simp [hl]) h1
  refine ⟨W.setRow g vs.toArray, ?_, setRow_row hr, ⟨rfl, rfl, rfl, by simp, fun j _ hn => setRow_other W g j _ (fun e => hn (by rw [e]; simp))⟩⟩
  have e0 : (cs.toArray.toList.take (0 + 0) ++ vs ++ cs.toArray.toList.drop (0 + 0 + vs.length)) = vs := by
    rw [hl]; simp
  rw [e0] at hst
  simp [Instr.storeAt, Instr.sureAddr, storeVar, hs, Value.cells, hst, Result.andThen]

/-! ### Slices of elements of s cells -/
/-- The first n elements of block g, which has room for c, are xs. -/
def SlK (w : World) (g : Nat) (e : TypeId) (s n c : Nat) (xs : List Value) : Prop :=
  ∃ cur : List Value, Row w g e cur ∧ cur.length = c * s ∧ xs.length = n * s ∧ n ≤ c ∧ c ≤ maxLen ∧ cur.take (n * s) = xs
section
variable {w w' X : World} {g s n c B : Nat} {e : TypeId} {xs : List Value} {v : Value}
theorem SlK.lt (h : SlK w g e s n c xs) : g < w.heap.size := by obtain ⟨_, h, _⟩ := h; exact h.lt
theorem SlK.below (h : SlK w g e s n c xs) (hb : Below w.heap.size w w') : SlK w' g e s n c xs := by
  obtain ⟨cur, h1, h2⟩ := h; exact ⟨cur, h1.below hb h1.lt, h2⟩
theorem SlK.only (h : SlK w g e s n c xs) {ps : List Nat} (ho : Only ps w w') (hg : g ∉ ps) : SlK w' g e s n c xs := by
  obtain ⟨cur, h1, h2⟩ := h; exact ⟨cur, h1.only ho hg, h2⟩
theorem SlK.cell (h : SlK w g e s n c xs) {i : Nat} (hi : i < n * s) : w.cell? ⟨g, i, none⟩ = xs[i]? := by
  obtain ⟨cur, h1, h2, h3, h4, h5, h6⟩ := h
  rw [h1.cell_at, ← h6, List.getElem?_take_of_lt hi]
theorem SlK.owns (h : SlK w g e s n c xs) : w.ownsRow 0 e s (.slice (some ⟨g, 0, none⟩) n c) n xs := by
  obtain ⟨cur, h1, h2, h3, h4, h5, h6⟩ := h
  exact ⟨h3, .inr ⟨g, c, cur.toArray, rfl, Nat.zero_le _, h1, h4, h5, by simp [h2], by simpa using h6⟩⟩
theorem SlK.of_owns (h : w.ownsRow 0 e s v n xs) (hn : 0 < n) : ∃ g c, v = .slice (some ⟨g, 0, none⟩) n c ∧ v.ownBlock = some g ∧ SlK w g e s n c xs := by
  obtain ⟨h1, h2⟩ := h
  rcases h2 with ⟨_, h2⟩ | ⟨g, cap, cur, hv, hg, hh, hc1, hc2, hc3, hc4⟩
  · omega
  · subst hv
    exact ⟨g, cap, rfl, rfl, cur.toList, by unfold Row; simpa using hh, by simpa using hc3, h1, hc1, hc2, hc4⟩
theorem SlK.index (h : SlK w g e s n c xs) {P : Program} (t : TypeId) (ht : P.underlying t = some (.slice e)) (hs : ∀ W, (sizeOf e).run P W = .ok s W) (W : World) (k : IntKind) (i : Nat) (hi : i < n) :
    (Instr.indexAt t (.slice (some ⟨g, 0, none⟩) n c) (.int k i)).run P W = .ok (.pointer (some ⟨g, i * s, none⟩)) W := by
  have h2 : (i : Int) < (n : Int) := by omega
  simp [Instr.indexAt, run_underlying ht, asIntOf, h2, hs, Result.andThen, Addr.add]
  rw [if_pos hi]
  by_cases h0 : i * s = 0
  · rw [if_pos h0, h0]
  · rw [if_neg h0]
/-- A slice of structs that grows, from nil on: its block was made since block B. -/
def OwnK (w : World) (e : TypeId) (s : Nat) (v : Value) (n : Nat) (xs : List Value) (B : Nat) : Prop :=
  (v = .slice none 0 0 ∧ n = 0 ∧ xs = []) ∨ ∃ g c, v = .slice (some ⟨g, 0, none⟩) n c ∧ SlK w g e s n c xs ∧ B ≤ g ∧ 0 < n
theorem OwnK.below (hs : OwnK w e s v n xs B) (hb : Below w.heap.size w w') : OwnK w' e s v n xs B := by
  rcases hs with hs | ⟨g, c, h1, h2, h3, h4⟩
  · exact .inl hs
  · exact .inr ⟨g, c, h1, h2.below hb, h3, h4⟩
theorem OwnK.only (hs : OwnK w e s v n xs B) {ps : List Nat} (ho : Only ps w w') (hp : ∀ g, B ≤ g → g < w.heap.size → v.ownBlock = some g → g ∉ ps) : OwnK w' e s v n xs B := by
  rcases hs with hs | ⟨g, c, rfl, h2, h3, h4⟩
  · exact .inl hs
  · exact .inr ⟨g, c, rfl, h2.only ho (hp g h3 h2.lt rfl), h3, h4⟩
theorem OwnK.owns (hs : OwnK w e s v n xs B) : w.ownsRow 0 e s v n xs := by
  rcases hs with ⟨rfl, rfl, rfl⟩ | ⟨g, c, rfl, h2, h3, h4⟩
  · exact ⟨by simp, .inl ⟨rfl, rfl⟩⟩
  · exact h2.owns
theorem OwnK.ownBlock (hs : OwnK w e s v n xs B) : v.ownBlock = none ∨ ∃ g, v.ownBlock = some g ∧ B ≤ g := by
  rcases hs with ⟨rfl, rfl, rfl⟩ | ⟨g, c, rfl, h2, h3, h4⟩
  · exact .inl rfl
  · exact .inr ⟨g, rfl, h3⟩
theorem cells_new (w : World) (l : List Value) (t : TypeId) : ∀ j u, l[j]? = some u → (w.alloc (.cells l.toArray t)).cell? ((⟨w.heap.size, 0, none⟩ : Addr).add j) = some u := by
  intro j u hj
  have hr : Row (w.alloc (.cells l.toArray t)) w.heap.size t l := by unfold Row; exact heap_alloc_new _ _
  have ha : (⟨w.heap.size, 0, none⟩ : Addr).add j = ⟨w.heap.size, j, none⟩ := by
    unfold Addr.add
    by_cases h0 : j = 0
    · subst h0; rfl
    · simp [h0]
  rw [ha, hr.cell_at, hj]
/-- One element more, out of a slice of one that lies new. -/
theorem ownk_append (t : TypeId) (z : Value) (bytes : Nat) (ht : Tryz.prog.underlying t = some (.slice e)) (h2 : (Tryz.prog.info? e).map (fun i => (i.zero, i.size, i.bytes)) = some (some z, s, bytes)) (hz : z.cells.size = s) (hs0 : 0 < s) (hby : bytes ≤ 64) (hs : OwnK X e s v n xs B) (hB : B ≤ X.heap.size) (ys : List Value) (hys : ys.length = s) (hx : ∀ u ∈ ys, u.oneCell' = true) (hl : n ≤ 100000) :
    ∃ v' X', (Builtin.append_ #[t, t] t #[v, .slice (some ⟨X.heap.size, 0, none⟩) 1 1]).run Tryz.prog (X.alloc (.cells ys.toArray e)) = .ok v' X' ∧ OwnK X' e s v' (n + 1) (xs ++ ys) B ∧ Below B X X' := by
  obtain ⟨i0, hi, hz0, hz1, hz2⟩ := info_parts h2
  have hb : Below B X (X.alloc (.cells ys.toArray e)) := (Below.refl _ _).alloc hB _
  have hown2 : (X.alloc (.cells ys.toArray e)).ownsRow 0 e s v n xs := hs.owns.alloc _
  obtain ⟨v', X', hr, h2, h3, h4, h5⟩ := run_append_own_at (P := Tryz.prog) (w := X.alloc (.cells ys.toArray e)) 0 t t e i0 z s bytes ht hi hz0 hz1 hz2 hz hs0 v n _ hown2 ⟨X.heap.size, 0, none⟩ 1 1 ys (by rw [Nat.one_mul]; exact hys) (cells_new _ _ _) hx (Nat.le_trans (show n + 1 ≤ 100001 by omega) (by decide)) (by have : (n + 1) * bytes ≤ 100001 * 64 := Nat.mul_le_mul (by omega) hby; omega) (Nat.zero_le _)
  have hXs : X.heap.size < (X.alloc (.cells ys.toArray e)).heap.size := by rw [World.size_alloc]; omega
  have hob := hs.ownBlock
  have hb2 : Below B (X.alloc (.cells ys.toArray e)) X' := ⟨h3.os, h3.tape, h3.output, h3.size, fun k hk => h3.block k (by omega) (fun e => by
    rcases hob with e1 | ⟨g, e1, e2⟩
    · rw [e1] at e; cases e
    · rw [e1] at e; have := Option.some.inj e; omega)⟩
  obtain ⟨g', c', rfl, hgb, hs'⟩ := SlK.of_owns h2 (by omega)
  refine ⟨_, X', hr, .inr ⟨g', c', rfl, hs', ?_, by omega⟩, hb.trans hb2⟩
  rw [hgb] at h5
  rcases h5 with h5 | h5
  · rcases hob with e | ⟨g, e, e1⟩
    · rw [e] at h5; cases h5
    · rw [e] at h5; rw [Option.some.inj h5]; exact e1
  · rw [Option.some.inj h5]; omega
end
end Go.Proofs.YtdhapmlgapflbaaGreatDoor
