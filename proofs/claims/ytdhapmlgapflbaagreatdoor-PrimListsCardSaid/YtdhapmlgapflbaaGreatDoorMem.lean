/- What a slice of words is in memory, and laws on it; no function of the program is named here. -/
import Derived.Handy
import Derived.Lib.Hide
import Derived.Laws.AppendOwnNone
import Derived.BigQuiet
import Derived.Deep.QuietTactic
import Derived.WalkSpells
import Derived.WalkLawsBesides
import Derived.Test.YtdhapmlgapflbaaGreatDoorLimb
set_option linter.unusedVariables false
set_option linter.unusedSimpArgs false
namespace Go.Proofs.YtdhapmlgapflbaaGreatDoor
open Go Go.RowKit

/-- The words l lie at address a (any address, where there are none). -/
def Lay (K : IntKind) (w : World) (a : Option Addr) (l : List Nat) : Prop :=
  ∃ b off, (0 < l.length → a = some ⟨b, off, none⟩ ∧ b < w.heap.size) ∧ ∀ i, i < l.length → w.cell? ⟨b, off + i, none⟩ = some (.int K (Limb.wd l i : Nat))

theorem Lay.nil (K : IntKind) (w : World) (a : Option Addr) : Lay K w a [] := ⟨0, 0, fun h => absurd h (by simp), fun i h => absurd h (by simp)⟩

theorem Lay.below {K : IntKind} {w w' : World} {a : Option Addr} {l : List Nat} (h : Lay K w a l) (hb : Below w.heap.size w w') : Lay K w' a l := by
  obtain ⟨b, off, h1, h2⟩ := h
  refine ⟨b, off, fun hl => ⟨(h1 hl).1, by have := hb.size; have := (h1 hl).2; omega⟩, fun i hi => ?_⟩
  rw [hb.cell (by exact (h1 (by omega)).2)]
  exact h2 i hi

theorem Lay.take {K : IntKind} {w : World} {a : Option Addr} {l : List Nat} (h : Lay K w a l) (k : Nat) : Lay K w a (l.take k) := by
  obtain ⟨b, off, h1, h2⟩ := h
  refine ⟨b, off, fun hl => h1 (by rw [List.length_take] at hl; omega), fun i hi => ?_⟩
  rw [List.length_take] at hi
  rw [h2 i (by omega)]
  rw [Limb.wd_take (by omega)]

section
variable {P : Program} {K : IntKind} {w : World} {a : Option Addr} {l : List Nat}
/-- What a walk uses of it: the address of each word, and the word. -/
theorem Lay.use (h : Lay K w a l) (t e : TypeId) (ht : P.underlying t = some (.slice e)) (hs : ∀ W, (sizeOf e).run P W = .ok 1 W) (cap : Nat) :
    ∃ b off, (∀ (W : World) (k : IntKind) (i : Int), 0 ≤ i → i < (l.length : Int) → (Instr.indexAt t (.slice a l.length cap) (.int k i)).run P W = .ok (.pointer (some ⟨b, off + i.toNat, none⟩)) W) ∧
      (∀ w', Below w.heap.size w w' → ∀ i, i < l.length → w'.cell? ⟨b, off + i, none⟩ = some (.int K (Limb.wd l i : Nat))) ∧ (0 < l.length → b < w.heap.size) := by
  obtain ⟨b, off, h1, h2⟩ := h
  refine ⟨b, off, fun W k i hi0 hi1 => ?_, fun w' hb i hi => by rw [hb.cell (by exact (h1 (by omega)).2)]; exact h2 i hi, fun h => (h1 h).2⟩
  rw [(h1 (by omega)).1]
  simp [Instr.indexAt, run_underlying ht, asIntOf, hi0, hi1, hs, Result.andThen, Addr.add]
end

theorem cast_mul_word (b : Nat) : ((b * 4294967296 : Nat) : Int) = (b : Int) * 4294967296 := by rw [Int.natCast_mul]; rfl
theorem or_lo_hi (a b : Nat) (ha : a < 4294967296) (hb : b < 4294967296) : bits .or .u64 (a : Int) ((b : Int) * 4294967296) = (a : Int) + (b : Int) * 4294967296 := by
  rw [← cast_mul_word, u64_or_nat _ _ (by omega) (by omega), Nat.or_comm, nat_join 32 _ _ (by omega) (by omega), Int.natCast_add, Int.add_comm]
theorem or_hi_lo (a b : Nat) (ha : a < 4294967296) (hb : b < 4294967296) : bits .or .u64 ((b : Int) * 4294967296) (a : Int) = (b : Int) * 4294967296 + (a : Int) := by
  rw [← cast_mul_word, u64_or_nat _ _ (by omega) (by omega), nat_join 32 _ _ (by omega) (by omega), Int.natCast_add]

/-! ### A block of cells of the call's own -/
/-- Block g holds just these cells, none of them frozen. -/
def Row (w : World) (g : Nat) (e : TypeId) (cs : List Value) : Prop := w.heap[g]? = some (.cells cs.toArray e (0, 0))
/-- Numbers of a kind as cells. -/
def nums (k : IntKind) (zs : List Nat) : List Value := zs.map fun n => Value.int k (n : Nat)
theorem nums_length (k : IntKind) (zs : List Nat) : (nums k zs).length = zs.length := by simp [nums]
theorem nums_replicate (k : IntKind) (n : Nat) : nums k (List.replicate n 0) = List.replicate n (Value.int k 0) := by simp [nums]
theorem nums_get {k : IntKind} {zs : List Nat} {i : Nat} (h : i < zs.length) : (nums k zs)[i]? = some (.int k (Limb.wd zs i : Nat)) := by
  rw [Limb.wd_lt h]; simp [nums, h]
theorem nums_set (k : IntKind) (zs : List Nat) (i d : Nat) : nums k (zs.set i d) = (nums k zs).set i (.int k d) := by
  simp [nums, List.map_set]
theorem nums_take (k : IntKind) (zs : List Nat) (n : Nat) : (nums k zs).take n = nums k (zs.take n) := by simp [nums, List.map_take]
theorem nums_append (k : IntKind) (a b : List Nat) : nums k (a ++ b) = nums k a ++ nums k b := by simp [nums]

section
variable {w : World} {g : Nat} {e : TypeId} {cs : List Value}
theorem Row.cell_at (h : Row w g e cs) (i : Nat) : w.cell? ⟨g, i, none⟩ = cs[i]? := by
  unfold Row at h; simp [World.cell?, h]
theorem Row.free (h : Row w g e cs) (i : Nat) : w.frozen? ⟨g, i, none⟩ = false := by
  unfold Row at h; simp [World.frozen?, h]
theorem Row.lt (h : Row w g e cs) : g < w.heap.size := by
  unfold Row at h; exact (Array.getElem?_eq_some_iff.1 h).1
theorem Row.cell {k : IntKind} {zs : List Nat} (h : Row w g e (nums k zs)) {i : Nat} (hi : i < zs.length) : w.cell? ⟨g, i, none⟩ = some (.int k (Limb.wd zs i : Nat)) := by
  rw [h.cell_at, nums_get hi]
theorem Row.below {w' : World} {B : Nat} (h : Row w g e cs) (hb : Below B w w') (hg : g < B) : Row w' g e cs := by
  unfold Row at *; rw [hb.block g hg]; exact h
theorem Row.store_any (h : Row w g e cs) (i : Nat) (v : Value) : Row (w.setCell ⟨g, i, none⟩ v) g e (cs.set i v) := by
  unfold Row at *
  simp only [World.setCell, Array.getElem?_modify, if_true, h, Option.map_some]
  simp
theorem Row.store {k : IntKind} {zs : List Nat} (h : Row w g e (nums k zs)) (i : Nat) (v : Int) (d : Nat) (hv : v = d) : Row (w.setCell ⟨g, i, none⟩ (.int k v)) g e (nums k (zs.set i d)) := by
  rw [nums_set, hv]; exact h.store_any i _
theorem Row.other (h : Row w g e cs) {a : Addr} (ha : g ≠ a.block) (v : Value) : Row (w.setCell a v) g e cs := by
  unfold Row at *; rw [Below.heap_setCell _ _ _ _ ha]; exact h
theorem Row.alloc (h : Row w g e cs) (o : Obj) : Row (w.alloc o) g e cs := by
  have := h.lt
  unfold Row at *; rw [Below.heap_alloc _ _ _ this]; exact h
theorem Row.drew (h : Row w g e cs) : Row w.drew g e cs := h
theorem Row.lay {K : IntKind} {zs : List Nat} (h : Row w g e (nums K zs)) : Lay K w (some ⟨g, 0, none⟩) zs :=
  ⟨g, 0, fun _ => ⟨rfl, h.lt⟩, fun i hi => by rw [Nat.zero_add]; exact h.cell hi⟩
end

theorem Lay.norm {K : IntKind} {w : World} {a : Option Addr} {l : List Nat} (h : Lay K w a l) (hl : Limb.Lim l) : Lay K w a (Limb.rep (Limb.val l)) := by
  rw [Limb.rep_prefix hl]; exact h.take _

/-- A store into a block from B on. -/
theorem below_store {B : Nat} {a w : World} (h : Below B a w) {g i : Nat} (hp : B ≤ g) (u : Value) : Below B a (w.setCell ⟨g, i, none⟩ u) := h.setCell (by exact hp) u

theorem wpList_make_row {P : Program} {w : World} {ops : Array Oper} {rest : List Oper} {o : Oper} {a : Act} {Q : Exit → Act → World → Prop}
    (hg : o.guard = none) (l c : Operand) (t : TypeId) (hop : o.op = Op.makeSlice t l c) (e : TypeId) (z : Value) (bytes : Nat)
    (h1 : P.underlying t = some (.slice e)) (h2 : (P.info? e).map (fun i => (i.zero, i.size, i.bytes)) = some (some z, 1, bytes)) (hz : z.cells = #[z])
    (kl kc : IntKind) (L C : Int) (n m : Nat) (hl : a.eval l = .int kl L) (hc : a.eval c = .int kc C) (hL : L = n) (hC : C = m) (hnm : n ≤ m)
    (b2 : bytes * m ≤ 281474976710656) (b3 : m ≤ 9223372036854775807)
    (hK : ∀ w1 g, w.heap.size ≤ g → w1.heap.size = g + 1 → Row w1 g e (List.replicate m z) → Below w.heap.size w w1 → wpList P ops Q rest (a.put o.dst (.slice (some ⟨g, 0, none⟩) n m)) w1) :
    wpList P ops Q (o :: rest) a w := by
  refine wpList_plain hg fun K hK' => ?_
  obtain ⟨i, hi, hz0, hs, hbts⟩ := info_parts h2
  subst hL hC
  have hb' : (i.bytes : Int) * (m : Int) ≤ 281474976710656 := by
    rw [hbts]
    have h : ((bytes * m : Nat) : Int) ≤ 281474976710656 := by omega
    rwa [Int.natCast_mul] at h
  have hrun := run_make (P := P) w t e i z h1 hi hz0 kl kc n m (by omega) (by omega) hb' (by omega)
  unfold Oper.wp
  simp [execOp, hop, hl, hc, hrun, Result.andThen]
  refine hK' _ _ (hK _ w.heap.size (Nat.le_refl _) (World.size_alloc _ _) ?_ ((Below.refl _ _).alloc (Nat.le_refl _) _))
  unfold Row
  rw [heap_alloc_new, hs, Nat.mul_one, hz]
  have : (madeCells #[z] m) = (List.replicate m z).toArray := by
    rw [← toList_madeCells_one]
  rw [this]

/-- A number's part of a place: what 'x[i:j]' of it reads. -/
theorem Lay.drop {K : IntKind} {w : World} {b off : Nat} {l : List Nat} (h : Lay K w (some ⟨b, off, none⟩) l) (k : Nat) : Lay K w (some ⟨b, off + k, none⟩) (l.drop k) := by
  obtain ⟨b', off', h1, h2⟩ := h
  by_cases hl : 0 < l.length
  · have h3 := (h1 hl).1
    simp only [Option.some.injEq, Addr.mk.injEq, and_true] at h3
    obtain ⟨rfl, rfl⟩ := h3
    refine ⟨b, off + k, fun _ => ⟨rfl, (h1 hl).2⟩, fun i hi => ?_⟩
    rw [List.length_drop] at hi
    rw [Nat.add_assoc, h2 (k + i) (by omega), Limb.wd_drop]
  · exact ⟨b, off + k, fun h => absurd h (by rw [List.length_drop]; omega), fun i hi => absurd hi (by rw [List.length_drop]; omega)⟩

theorem Lay.drewN {K : IntKind} {w : World} {a : Option Addr} {l : List Nat} (h : Lay K w a l) (n : Nat) : Lay K (w.drewN n) a l := h
theorem Row.drewN {w : World} {g : Nat} {e : TypeId} {cs : List Value} (h : Row w g e cs) (n : Nat) : Row (w.drewN n) g e cs := h

/-- What is owned, as words at a place. -/
theorem lay_of_owns {K : IntKind} {w : World} {B : Nat} {e : TypeId} {v : Value} {n : Nat} {zs : List Nat} (h : w.ownsRow B e 1 v n (nums K zs)) :
    ∃ a cap, v = .slice a n cap ∧ n ≤ cap ∧ n = zs.length ∧ Lay K w a zs ∧ (0 < n → ∃ g cs, a = some ⟨g, 0, none⟩ ∧ B ≤ g ∧ Row w g e cs ∧ cs.length = cap ∧ cs.take n = nums K zs) := by
  obtain ⟨h1, h2⟩ := h
  rw [nums_length, Nat.mul_one] at h1
  rcases h2 with ⟨hv, hn⟩ | ⟨g, cap, cur, hv, hg, hh, hc1, hc2, hc3, hc4⟩
  · subst hn
    have : zs = [] := List.eq_nil_of_length_eq_zero h1
    subst this
    exact ⟨none, 0, hv, Nat.le_refl _, rfl, Lay.nil _ _ _, fun h => absurd h (by omega)⟩
  · rw [Nat.mul_one] at hc3 hc4
    have hr : Row w g e cur.toList := by unfold Row; simpa using hh
    refine ⟨some ⟨g, 0, none⟩, cap, hv, hc1, h1.symm, ?_, fun _ => ⟨g, cur.toList, rfl, hg, hr, by simpa using hc3, hc4⟩⟩
    refine ⟨g, 0, fun _ => ⟨rfl, hr.lt⟩, fun i hi => ?_⟩
    rw [Nat.zero_add, hr.cell_at]
    have h5 := nums_get (k := K) hi
    rw [← hc4, List.getElem?_take_of_lt (by omega)] at h5
    exact h5

theorem below_grown {B : Nat} {w w1 : World} {e : TypeId} {v : Value} {n : Nat} {xs : List Value} (hown : w.ownsRow B e 1 v n xs) (hg : w.grownBy w1 v.ownBlock) (hB : B ≤ w.heap.size) : Below B w w1 :=
  (Below.refl _ _).grown hg hB fun k hk => (hown.lt k hk).1

/-- 'append(x, y...)', x the call's own (or nil), y words at a place (nil, too). -/
theorem wpList_append_lay {P : Program} {w : World} {ops : Array Oper} {rest : List Oper} {o : Oper} {a : Act} {Q : Exit → Act → World → Prop} (hgd : o.guard = none) (s x : Operand) (t : TypeId)
    (ho : o.op = .call { callee := .builtin .append, args := #[s, x], argTypes := #[t, t] }) (K : IntKind) (B : Nat) (e : TypeId) (z : Value) (bytes : Nat)
    (ht : P.underlying t = some (.slice e)) (h2 : (P.info? e).map (fun i => (i.zero, i.size, i.bytes)) = some (some z, 1, bytes)) (hz : z.cells.size = 1)
    (v : Value) (n : Nat) (xs : List Value) (hs : a.eval s = v) (hown : w.ownsRow B e 1 v n xs)
    (ad : Option Addr) (m c : Nat) (hx : a.eval x = .slice ad m c) (l : List Nat) (hlay : Lay K w ad l) (hm : m = l.length)
    (h63 : n + m ≤ 9223372036854775807) (hbytes : (n + m) * bytes ≤ 140737488355328) (hB : B ≤ w.heap.size)
    (h : ∀ v' w', w'.ownsRow B e 1 v' (n + m) (xs ++ nums K l) → Below B w w' → wpList P ops Q rest (a.put o.dst v') w') : wpList P ops Q (o :: rest) a w := by
  obtain ⟨i, hi, hz0, hsz, hbt⟩ := info_parts h2
  by_cases hl : 0 < l.length
  · obtain ⟨b, off, h1, hc⟩ := hlay
    rw [(h1 hl).1] at hx
    refine wpList_append_own w hgd s x t ho B e i z 1 bytes ht hi hz0 hsz hbt hz (by decide) v n xs hs hown ⟨b, off, none⟩ m c (nums K l) hx (by rw [nums_length, hm, Nat.mul_one]) ?_ ?_ h63 hbytes hB ?_
    · intro j u hj
      have hjl : j < l.length := by have := (List.getElem?_eq_some_iff.1 hj).1; rwa [nums_length] at this
      rw [nums_get hjl] at hj
      rw [Addr.add_lit, hc j hjl]; exact hj
    · intro u hu; unfold nums at hu; obtain ⟨_, _, rfl⟩ := List.mem_map.1 hu; rfl
    · intro v' w' h1 h2 _; exact h v' w' h1 (below_grown hown h2 hB)
  · have hl0 : l = [] := List.eq_nil_of_length_eq_zero (by omega)
    subst hl0
    have hm0 : m = 0 := hm
    subst hm0
    cases ad with
    | some ad =>
      refine wpList_append_own w hgd s x t ho B e i z 1 bytes ht hi hz0 hsz hbt hz (by decide) v n xs hs hown ad 0 c [] hx rfl (fun j u hj => by simp at hj) (fun u hu => by cases hu) h63 hbytes hB ?_
      intro v' w' h1 h2 _; exact h v' w' h1 (below_grown hown h2 hB)
    | none =>
      refine wpList_plain hgd fun K' hK => ?_
      have hrun : (Builtin.append_ #[t, t] o.type #[v, .slice none 0 c]).run P w = .ok v w := by
        rcases hown.2 with ⟨rfl, rfl⟩ | ⟨g, cap, cur, rfl, hbg, hg, hnc, hcm, hcs, htake⟩
        · simp [Builtin.append_, run_underlying ht, sizeOf, typeInfo, hi, Builtin.lenOf, Builtin.firstCells, loadCells, loadCellsFrom]
        · simp [Builtin.append_, run_underlying ht, sizeOf, typeInfo, hi, Builtin.lenOf, Builtin.firstCells, loadCells, loadCellsFrom, hnc, storeCells]
      unfold Oper.wp
      simp [execOp, ho, resolve, invoke, builtin, hs, hx, hrun, Result.andThen]
      refine hK _ _ (h v w ?_ (Below.refl _ _))
      simpa [nums] using hown

end Go.Proofs.YtdhapmlgapflbaaGreatDoor
