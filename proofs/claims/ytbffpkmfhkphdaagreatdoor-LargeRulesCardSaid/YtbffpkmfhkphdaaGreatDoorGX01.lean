/- Euclid's way as far as the tops of two numbers tell it (Lehmer, Collins): plain. What a slice of words is in memory, and laws on it; no function of the program is named here. Plain arithmetic of one step of a long division (Knuth's D3 to D6), by numbers. Plain arithmetic of shifts. Square roots, downwards: plain. The digits of a number to a base, and a list turned around by exchanges. -/
import Derived.Test.YtbffpkmfhkphdaaGreatDoorGX00
import Derived.Handy
import Derived.Lib.Hide
import Derived.Laws.AppendOwnNone
import Derived.BigQuiet
import Derived.Deep.QuietTactic
import Derived.WalkSpells
import Derived.WalkLawsBesides
set_option linter.unusedVariables false
set_option linter.unusedSimpArgs false
namespace Go.Proofs.YtbffpkmfhkphdaaGreatDoor.Limb

/-- What holds between two steps: a, b: the tops; x, y: where they have come to; the numbers by which. -/
structure Lin (a b x y A B C D u v : Nat) (odd : Bool) : Prop where
  sx : odd = true → C * a = D * b + x
  sy : odd = true → v * b = u * a + y
  ex : odd = false → D * b = C * a + x
  ey : odd = false → u * a = v * b + y
  d1 : odd = true → C * v = D * u + 1
  d2 : odd = false → D * u = C * v + 1
  za : v * x + D * y = a
  uv : u ≤ v
  yx : y ≤ x
  v1 : 1 ≤ v
  dv : D ≤ v
  fst : (A = 0 ∧ B = 0 ∧ C = 1 ∧ D = 0 ∧ u = 0 ∧ v = 1) ∨ (C ≤ D ∧ 1 ≤ D ∧ D ≤ x ∧ (B ≠ 0 → A ≤ B) ∧ ∃ xp, x + B + D ≤ xp ∧ (odd = true → B * b = A * a + xp ∧ B * C = A * D + 1) ∧ (odd = false → A * a = B * b + xp ∧ A * D = B * C + 1))

theorem Lin.start {a b : Nat} (h : b ≤ a) : Lin a b a b 0 0 1 0 0 1 true :=
  ⟨fun _ => by omega, fun _ => by omega, fun h => (by cases h), fun h => (by cases h), fun _ => by omega, fun h => (by cases h), by omega, by omega, h, by omega, by omega, .inl ⟨rfl, rfl, rfl, rfl, rfl, rfl⟩⟩

theorem Lin.step {a b x y A B C D u v : Nat} {odd : Bool} (h : Lin a b x y A B C D u v odd) (hv : v ≤ y) (hd : D + v ≤ x - y) :
    Lin a b y (x % y) C D u v (C + x / y * u) (D + x / y * v) (!odd) := by
  obtain ⟨sx, sy, ex, ey, d1, d2, za, uv, yx, v1, dv, fst⟩ := h
  have hy : 0 < y := by omega
  have hq : 1 ≤ x / y := by rw [Nat.le_div_iff_mul_le hy]; omega
  have hxy := Nat.div_add_mod x y
  have hm := Nat.mod_lt x hy
  generalize x / y = q at *
  generalize x % y = r at *
  have huv : C + q * u ≤ D + q * v := by
    rcases fst with ⟨_, _, rfl, rfl, rfl, rfl⟩ | ⟨h1, _⟩
    · omega
    · have := Nat.mul_le_mul_left q uv; omega
  have hqv : v ≤ q * v := Nat.le_mul_of_pos_left v hq
  have hCD : D ≠ 0 → C ≤ D := by
    rcases fst with ⟨_, _, _, rfl, _⟩ | ⟨h1, _⟩
    · intro h; exact absurd rfl h
    · exact fun _ => h1
  clear fst
  cases odd with
  | true =>
    have sx := sx rfl
    have sy := sy rfl
    have d1 := d1 rfl
    refine ⟨fun h => (by cases h), fun h => (by cases h), fun _ => by rw [sy], fun _ => by grind, fun h => (by cases h), fun _ => by grind, by grind, huv, by omega, by omega, by omega, .inr ⟨uv, v1, hv, hCD, x, by omega, fun h => (by cases h), fun _ => ⟨sx, d1⟩⟩⟩
  | false =>
    have ex := ex rfl
    have ey := ey rfl
    have d2 := d2 rfl
    refine ⟨fun _ => ey, fun _ => by grind, fun h => (by cases h), fun h => (by cases h), fun _ => by grind, fun h => (by cases h), by grind, huv, by omega, by omega, by omega, .inr ⟨uv, v1, hv, hCD, x, by omega, fun _ => ⟨ex, d2⟩, fun h => (by cases h)⟩⟩

/-- What such steps make of the numbers themselves. -/
structure Made (X Y A B C D X' Y' : Nat) (odd : Bool) : Prop where
  oX : odd = true → B * Y = A * X + X'
  oY : odd = true → C * X = D * Y + Y'
  eX : odd = false → A * X = B * Y + X'
  eY : odd = false → D * Y = C * X + Y'
  le : Y' ≤ X'
  X_eq : X = D * X' + B * Y'
  Y_eq : Y = C * X' + A * Y'

theorem back1 {X Y A B C D X' Y' : Nat} (h1 : B * Y = A * X + X') (h2 : C * X = D * Y + Y') (h3 : B * C = A * D + 1) : X = D * X' + B * Y' := by
  have e1 : D * (B * Y) = D * (A * X + X') := congrArg (D * ·) h1
  have e2 : B * (C * X) = B * (D * Y + Y') := congrArg (B * ·) h2
  have e3 : (B * C) * X = (A * D + 1) * X := congrArg (· * X) h3
  rw [Nat.mul_add] at e1 e2
  rw [Nat.add_mul, Nat.one_mul] at e3
  have m1 : D * (B * Y) = B * (D * Y) := Nat.mul_left_comm _ _ _
  have m2 : D * (A * X) = A * D * X := by rw [← Nat.mul_assoc, Nat.mul_comm D A]
  have m3 : B * (C * X) = B * C * X := (Nat.mul_assoc _ _ _).symm
  omega
theorem back2 {X Y A B C D X' Y' : Nat} (h1 : B * Y = A * X + X') (h2 : C * X = D * Y + Y') (h3 : B * C = A * D + 1) : Y = C * X' + A * Y' := by
  have e1 : C * (B * Y) = C * (A * X + X') := congrArg (C * ·) h1
  have e2 : A * (C * X) = A * (D * Y + Y') := congrArg (A * ·) h2
  have e3 : (B * C) * Y = (A * D + 1) * Y := congrArg (· * Y) h3
  rw [Nat.mul_add] at e1 e2
  rw [Nat.add_mul, Nat.one_mul] at e3
  have m1 : C * (B * Y) = B * C * Y := by rw [← Nat.mul_assoc, Nat.mul_comm C B]
  have m2 : C * (A * X) = A * (C * X) := Nat.mul_left_comm _ _ _
  have m3 : A * (D * Y) = A * D * Y := (Nat.mul_assoc _ _ _).symm
  omega
theorem Lin.made {a b x y A B C D u v H α β X Y : Nat} {odd : Bool} (h : Lin a b x y A B C D u v odd) (hB : B ≠ 0) (hα : α < H) (hβ : β < H) (hX : X = a * H + α) (hY : Y = b * H + β) : ∃ X' Y', Made X Y A B C D X' Y' odd := by
  obtain ⟨sx, sy, ex, ey, d1, d2, za, uv, yx, v1, dv, fst⟩ := h
  rcases fst with ⟨_, h0, _⟩ | ⟨hCD, hD1, hDx, hAB, xp, hxp, ho, he⟩
  · exact absurd h0 hB
  have hAB := hAB hB
  cases odd with
  | true =>
    have sx := sx rfl
    obtain ⟨o1, o2⟩ := ho rfl
    clear sy ex ey d1 d2 ho he
    have k1 : A * α ≤ xp * H := Nat.mul_le_mul (by omega) (by omega)
    have k2 : D * β ≤ x * H := Nat.mul_le_mul hDx (by omega)
    have k3 : (C + A) * α ≤ (xp - x) * H := Nat.mul_le_mul (by omega) (by omega)
    obtain ⟨e, he⟩ : ∃ e, xp = x + e := ⟨xp - x, by omega⟩
    subst he
    rw [Nat.add_sub_cancel_left] at k3
    have eBY : B * Y = A * a * H + (x + e) * H + B * β := by rw [hY]; grind
    have eAX : A * X = A * a * H + A * α := by rw [hX]; grind
    have eCX : C * X = D * b * H + x * H + C * α := by rw [hX]; grind
    have eDY : D * Y = D * b * H + D * β := by rw [hY]; grind
    have k4 : (x + e) * H = x * H + e * H := Nat.add_mul _ _ _
    have k5 : (C + A) * α = C * α + A * α := Nat.add_mul _ _ _
    obtain ⟨X', hX'⟩ : ∃ X', B * Y = A * X + X' := ⟨B * Y - A * X, by omega⟩
    obtain ⟨Y', hY'⟩ : ∃ Y', C * X = D * Y + Y' := ⟨C * X - D * Y, by omega⟩
    refine ⟨X', Y', fun _ => hX', fun _ => hY', fun h => (by cases h), fun h => (by cases h), by omega, back1 hX' hY' o2, back2 hX' hY' o2⟩
  | false =>
    have ex := ex rfl
    obtain ⟨o1, o2⟩ := he rfl
    clear sx sy ey d1 d2 ho he
    have k1 : B * β ≤ xp * H := Nat.mul_le_mul (by omega) (by omega)
    have k2 : C * α ≤ x * H := Nat.mul_le_mul (by omega) (by omega)
    have k3 : (D + B) * β ≤ (xp - x) * H := Nat.mul_le_mul (by omega) (by omega)
    obtain ⟨e, he⟩ : ∃ e, xp = x + e := ⟨xp - x, by omega⟩
    subst he
    rw [Nat.add_sub_cancel_left] at k3
    have eAX : A * X = B * b * H + (x + e) * H + A * α := by rw [hX]; grind
    have eBY : B * Y = B * b * H + B * β := by rw [hY]; grind
    have eDY : D * Y = C * a * H + x * H + D * β := by rw [hY]; grind
    have eCX : C * X = C * a * H + C * α := by rw [hX]; grind
    have k4 : (x + e) * H = x * H + e * H := Nat.add_mul _ _ _
    have k5 : (D + B) * β = D * β + B * β := Nat.add_mul _ _ _
    obtain ⟨X', hX'⟩ : ∃ X', A * X = B * Y + X' := ⟨A * X - B * Y, by omega⟩
    obtain ⟨Y', hY'⟩ : ∃ Y', D * Y = C * X + Y' := ⟨D * Y - C * X, by omega⟩
    refine ⟨X', Y', fun h => (by cases h), fun h => (by cases h), fun _ => hX', fun _ => hY', by omega, (by have h := back2 (X := Y) (Y := X) hX' hY' o2; have h2 := back1 (X := Y) (Y := X) hX' hY' o2; first | exact h | exact h2), (by have h := back2 (X := Y) (Y := X) hX' hY' o2; have h2 := back1 (X := Y) (Y := X) hX' hY' o2; first | exact h | exact h2)⟩

theorem Made.gcd {X Y A B C D X' Y' : Nat} {odd : Bool} (h : Made X Y A B C D X' Y' odd) : Nat.gcd X' Y' = Nat.gcd X Y := by
  obtain ⟨oX, oY, eX, eY, _, hX, hY⟩ := h
  refine Nat.dvd_antisymm (Nat.dvd_gcd ?_ ?_) (Nat.dvd_gcd ?_ ?_)
  · rw [hX]; exact Nat.dvd_add (Nat.dvd_mul_left_of_dvd (Nat.gcd_dvd_left _ _) _) (Nat.dvd_mul_left_of_dvd (Nat.gcd_dvd_right _ _) _)
  · rw [hY]; exact Nat.dvd_add (Nat.dvd_mul_left_of_dvd (Nat.gcd_dvd_left _ _) _) (Nat.dvd_mul_left_of_dvd (Nat.gcd_dvd_right _ _) _)
  · cases odd with
    | true =>
      have k := Nat.dvd_mul_left_of_dvd (Nat.gcd_dvd_right X Y) B
      rw [oX rfl] at k
      exact (Nat.dvd_add_right (Nat.dvd_mul_left_of_dvd (Nat.gcd_dvd_left X Y) A)).1 k
    | false =>
      have k := Nat.dvd_mul_left_of_dvd (Nat.gcd_dvd_left X Y) A
      rw [eX rfl] at k
      exact (Nat.dvd_add_right (Nat.dvd_mul_left_of_dvd (Nat.gcd_dvd_right X Y) B)).1 k
  · cases odd with
    | true =>
      have k := Nat.dvd_mul_left_of_dvd (Nat.gcd_dvd_left X Y) C
      rw [oY rfl] at k
      exact (Nat.dvd_add_right (Nat.dvd_mul_left_of_dvd (Nat.gcd_dvd_right X Y) D)).1 k
    | false =>
      have k := Nat.dvd_mul_left_of_dvd (Nat.gcd_dvd_right X Y) D
      rw [eY rfl] at k
      exact (Nat.dvd_add_right (Nat.dvd_mul_left_of_dvd (Nat.gcd_dvd_left X Y) C)).1 k
theorem Made.less {X Y A B C D X' Y' : Nat} {odd : Bool} (h : Made X Y A B C D X' Y' odd) (hB : B ≠ 0) (hD : 1 ≤ D) (hY : 0 < Y) : X' + Y' < X + Y ∧ X' ≤ X ∧ Y' ≤ X := by
  have h1 : X' ≤ D * X' := Nat.le_mul_of_pos_left _ hD
  have h2 : Y' ≤ B * Y' := Nat.le_mul_of_pos_left _ (Nat.pos_of_ne_zero hB)
  have h3 := h.X_eq
  omega
theorem Lin.D_pos {a b x y A B C D u v : Nat} {odd : Bool} (h : Lin a b x y A B C D u v odd) (hB : B ≠ 0) : 1 ≤ D := by
  rcases h.fst with ⟨_, h0, _⟩ | ⟨_, h1, _⟩
  · exact absurd h0 hB
  · exact h1
/-- None of them is too great for a word of 64 bits. -/
theorem Lin.small {a b x y A B C D u v : Nat} {odd : Bool} (h : Lin a b x y A B C D u v odd) (ha : a < 18446744073709551616) (hv : v ≤ y) : v < 4294967296 := by
  refine Classical.byContradiction fun hn => ?_
  have h1 : 4294967296 * 4294967296 ≤ v * x := Nat.mul_le_mul (by omega) (by have := h.yx; omega)
  have := h.za
  omega
theorem Lin.big {a b x y A B C D u v : Nat} {odd : Bool} (h : Lin a b x y A B C D u v odd) (ha : a < 18446744073709551616) (hx : 0 < x) : v < 18446744073709551616 ∧ u < 18446744073709551616 := by
  have h1 : v ≤ v * x := Nat.le_mul_of_pos_right _ hx
  have := h.za
  have := h.uv
  omega

end Go.Proofs.YtbffpkmfhkphdaaGreatDoor.Limb

namespace Go.Proofs.YtbffpkmfhkphdaaGreatDoor
open Go Go.RowKit

/-- The words l lie at address a (any address, where there are none). -/
def Lay (K : IntKind) (w : World) (a : Option Addr) (l : List Nat) : Prop :=
  ∃ b off, (0 < l.length → a = some ⟨b, off, none⟩ ∧ b < w.heap.size) ∧ ∀ i, i < l.length → w.cell? ⟨b, off + i, none⟩ = some (.int K (Limb.wd l i : Nat))

theorem Lay.nil (K : IntKind) (w : World) (a : Option Addr) : Lay K w a [] := ⟨0, 0, fun h => absurd h (by simp), fun i h => absurd h (by simp)⟩

theorem Lay.below {K : IntKind} {w w' : World} {a : Option Addr} {l : List Nat} (h : Lay K w a l) (hb : Below w.heap.size w w') : Lay K w' a l := by
  obtain ⟨b, off, h1, h2⟩ := h
  refine ⟨b, off, fun hl => ⟨(h1 hl).1, by have := hb.size; have := (h1 hl).2; omega⟩, fun i hi => ?_⟩
  rw [hb.cell (by exact (h1 (by omega)).2)]
  exact h2 i hi

theorem Lay.take {K : IntKind} {w : World} {a : Option Addr} {l : List Nat} (h : Lay K w a l) (k : Nat) : Lay K w a (l.take k) := by
  obtain ⟨b, off, h1, h2⟩ := h
  refine ⟨b, off, fun hl => h1 (by rw [List.length_take] at hl; omega), fun i hi => ?_⟩
  rw [List.length_take] at hi
  rw [h2 i (by omega)]
  rw [Limb.wd_take (by omega)]

section
variable {P : Program} {K : IntKind} {w : World} {a : Option Addr} {l : List Nat}
/-- What a walk uses of it: the address of each word, and the word. -/
theorem Lay.use (h : Lay K w a l) (t e : TypeId) (ht : P.underlying t = some (.slice e)) (hs : ∀ W, (sizeOf e).run P W = .ok 1 W) (cap : Nat) :
    ∃ b off, (∀ (W : World) (k : IntKind) (i : Int), 0 ≤ i → i < (l.length : Int) → (Instr.indexAt t (.slice a l.length cap) (.int k i)).run P W = .ok (.pointer (some ⟨b, off + i.toNat, none⟩)) W) ∧
      (∀ w', Below w.heap.size w w' → ∀ i, i < l.length → w'.cell? ⟨b, off + i, none⟩ = some (.int K (Limb.wd l i : Nat))) ∧ (0 < l.length → b < w.heap.size) := by
  obtain ⟨b, off, h1, h2⟩ := h
  refine ⟨b, off, fun W k i hi0 hi1 => ?_, fun w' hb i hi => by rw [hb.cell (by exact (h1 (by omega)).2)]; exact h2 i hi, fun h => (h1 h).2⟩
  rw [(h1 (by omega)).1]
  simp [Instr.indexAt, run_underlying ht, asIntOf, hi0, hi1, hs, Result.andThen, Addr.add]
end

theorem cast_mul_word (b : Nat) : ((b * 4294967296 : Nat) : Int) = (b : Int) * 4294967296 := by rw [Int.natCast_mul]; rfl
theorem or_lo_hi (a b : Nat) (ha : a < 4294967296) (hb : b < 4294967296) : bits .or .u64 (a : Int) ((b : Int) * 4294967296) = (a : Int) + (b : Int) * 4294967296 := by
  rw [← cast_mul_word, u64_or_nat _ _ (by omega) (by omega), Nat.or_comm, nat_join 32 _ _ (by omega) (by omega), Int.natCast_add, Int.add_comm]
theorem or_hi_lo (a b : Nat) (ha : a < 4294967296) (hb : b < 4294967296) : bits .or .u64 ((b : Int) * 4294967296) (a : Int) = (b : Int) * 4294967296 + (a : Int) := by
  rw [← cast_mul_word, u64_or_nat _ _ (by omega) (by omega), nat_join 32 _ _ (by omega) (by omega), Int.natCast_add]

/-! ### A block of cells of the call's own -/
/-- Block g holds just these cells, none of them frozen. -/
def Row (w : World) (g : Nat) (e : TypeId) (cs : List Value) : Prop := w.heap[g]? = some (.cells cs.toArray e (0, 0))
/-- Numbers of a kind as cells. -/
def nums (k : IntKind) (zs : List Nat) : List Value := zs.map fun n => Value.int k (n : Nat)
theorem nums_length (k : IntKind) (zs : List Nat) : (nums k zs).length = zs.length := by simp [nums]
theorem nums_replicate (k : IntKind) (n : Nat) : nums k (List.replicate n 0) = List.replicate n (Value.int k 0) := by simp [nums]
theorem nums_get {k : IntKind} {zs : List Nat} {i : Nat} (h : i < zs.length) : (nums k zs)[i]? = some (.int k (Limb.wd zs i : Nat)) := by
  rw [Limb.wd_lt h]; simp [nums, h]
theorem nums_set (k : IntKind) (zs : List Nat) (i d : Nat) : nums k (zs.set i d) = (nums k zs).set i (.int k d) := by
  simp [nums, List.map_set]
theorem nums_take (k : IntKind) (zs : List Nat) (n : Nat) : (nums k zs).take n = nums k (zs.take n) := by simp [nums, List.map_take]
theorem nums_append (k : IntKind) (a b : List Nat) : nums k (a ++ b) = nums k a ++ nums k b := by simp [nums]

section
variable {w : World} {g : Nat} {e : TypeId} {cs : List Value}
theorem Row.cell_at (h : Row w g e cs) (i : Nat) : w.cell? ⟨g, i, none⟩ = cs[i]? := by
  unfold Row at h; simp [World.cell?, h]
theorem Row.free (h : Row w g e cs) (i : Nat) : w.frozen? ⟨g, i, none⟩ = false := by
  unfold Row at h; simp [World.frozen?, h]
theorem Row.lt (h : Row w g e cs) : g < w.heap.size := by
  unfold Row at h; exact (Array.getElem?_eq_some_iff.1 h).1
theorem Row.cell {k : IntKind} {zs : List Nat} (h : Row w g e (nums k zs)) {i : Nat} (hi : i < zs.length) : w.cell? ⟨g, i, none⟩ = some (.int k (Limb.wd zs i : Nat)) := by
  rw [h.cell_at, nums_get hi]
theorem Row.below {w' : World} {B : Nat} (h : Row w g e cs) (hb : Below B w w') (hg : g < B) : Row w' g e cs := by
  unfold Row at *; rw [hb.block g hg]; exact h
theorem Row.store_any (h : Row w g e cs) (i : Nat) (v : Value) : Row (w.setCell ⟨g, i, none⟩ v) g e (cs.set i v) := by
  unfold Row at *
  simp only [World.setCell, Array.getElem?_modify, if_true, h, Option.map_some]
  simp
theorem Row.store {k : IntKind} {zs : List Nat} (h : Row w g e (nums k zs)) (i : Nat) (v : Int) (d : Nat) (hv : v = d) : Row (w.setCell ⟨g, i, none⟩ (.int k v)) g e (nums k (zs.set i d)) := by
  rw [nums_set, hv]; exact h.store_any i _
theorem Row.other (h : Row w g e cs) {a : Addr} (ha : g ≠ a.block) (v : Value) : Row (w.setCell a v) g e cs := by
  unfold Row at *; rw [Below.heap_setCell _ _ _ _ ha]; exact h
theorem Row.alloc (h : Row w g e cs) (o : Obj) : Row (w.alloc o) g e cs := by
  have := h.lt
  unfold Row at *; rw [Below.heap_alloc _ _ _ this]; exact h
theorem Row.drew (h : Row w g e cs) : Row w.drew g e cs := h
theorem Row.lay {K : IntKind} {zs : List Nat} (h : Row w g e (nums K zs)) : Lay K w (some ⟨g, 0, none⟩) zs :=
  ⟨g, 0, fun _ => ⟨rfl, h.lt⟩, fun i hi => by rw [Nat.zero_add]; exact h.cell hi⟩
end

theorem Lay.norm {K : IntKind} {w : World} {a : Option Addr} {l : List Nat} (h : Lay K w a l) (hl : Limb.Lim l) : Lay K w a (Limb.rep (Limb.val l)) := by
  rw [Limb.rep_prefix hl]; exact h.take _

/-- A store into a block from B on. -/
theorem below_store {B : Nat} {a w : World} (h : Below B a w) {g i : Nat} (hp : B ≤ g) (u : Value) : Below B a (w.setCell ⟨g, i, none⟩ u) := h.setCell (by exact hp) u

theorem wpList_make_row {P : Program} {w : World} {ops : Array Oper} {rest : List Oper} {o : Oper} {a : Act} {Q : Exit → Act → World → Prop}
    (hg : o.guard = none) (l c : Operand) (t : TypeId) (hop : o.op = Op.makeSlice t l c) (e : TypeId) (z : Value) (bytes : Nat)
    (h1 : P.underlying t = some (.slice e)) (h2 : (P.info? e).map (fun i => (i.zero, i.size, i.bytes)) = some (some z, 1, bytes)) (hz : z.cells = #[z])
    (kl kc : IntKind) (L C : Int) (n m : Nat) (hl : a.eval l = .int kl L) (hc : a.eval c = .int kc C) (hL : L = n) (hC : C = m) (hnm : n ≤ m)
    (b2 : bytes * m ≤ 281474976710656) (b3 : m ≤ 9223372036854775807)
    (hK : ∀ w1 g, w.heap.size ≤ g → w1.heap.size = g + 1 → Row w1 g e (List.replicate m z) → Below w.heap.size w w1 → wpList P ops Q rest (a.put o.dst (.slice (some ⟨g, 0, none⟩) n m)) w1) :
    wpList P ops Q (o :: rest) a w := by
  refine wpList_plain hg fun K hK' => ?_
  obtain ⟨i, hi, hz0, hs, hbts⟩ := info_parts h2
  subst hL hC
  have hb' : (i.bytes : Int) * (m : Int) ≤ 281474976710656 := by
    rw [hbts]
    have h : ((bytes * m : Nat) : Int) ≤ 281474976710656 := by omega
    rwa [Int.natCast_mul] at h
  have hrun := run_make (P := P) w t e i z h1 hi hz0 kl kc n m (by omega) (by omega) hb' (by omega)
  unfold Oper.wp
  simp [execOp, hop, hl, hc, hrun, Result.andThen]
  refine hK' _ _ (hK _ w.heap.size (Nat.le_refl _) (World.size_alloc _ _) ?_ ((Below.refl _ _).alloc (Nat.le_refl _) _))
  unfold Row
  rw [heap_alloc_new, hs, Nat.mul_one, hz]
  have : (madeCells #[z] m) = (List.replicate m z).toArray := by
    rw [← toList_madeCells_one]
  rw [this]

/-- A number's part of a place: what 'x[i:j]' of it reads. -/
theorem Lay.drop {K : IntKind} {w : World} {b off : Nat} {l : List Nat} (h : Lay K w (some ⟨b, off, none⟩) l) (k : Nat) : Lay K w (some ⟨b, off + k, none⟩) (l.drop k) := by
  obtain ⟨b', off', h1, h2⟩ := h
  by_cases hl : 0 < l.length
  · have h3 := (h1 hl).1
    simp only [Option.some.injEq, Addr.mk.injEq, and_true] at h3
    obtain ⟨rfl, rfl⟩ := h3
    refine ⟨b, off + k, fun _ => ⟨rfl, (h1 hl).2⟩, fun i hi => ?_⟩
    rw [List.length_drop] at hi
    rw [Nat.add_assoc, h2 (k + i) (by omega), Limb.wd_drop]
  · exact ⟨b, off + k, fun h => absurd h (by rw [List.length_drop]; omega), fun i hi => absurd hi (by rw [List.length_drop]; omega)⟩

theorem Lay.drewN {K : IntKind} {w : World} {a : Option Addr} {l : List Nat} (h : Lay K w a l) (n : Nat) : Lay K (w.drewN n) a l := h
theorem Row.drewN {w : World} {g : Nat} {e : TypeId} {cs : List Value} (h : Row w g e cs) (n : Nat) : Row (w.drewN n) g e cs := h

/-- What is owned, as words at a place. -/
theorem lay_of_owns {K : IntKind} {w : World} {B : Nat} {e : TypeId} {v : Value} {n : Nat} {zs : List Nat} (h : w.ownsRow B e 1 v n (nums K zs)) :
    ∃ a cap, v = .slice a n cap ∧ n ≤ cap ∧ n = zs.length ∧ Lay K w a zs ∧ (0 < n → ∃ g cs, a = some ⟨g, 0, none⟩ ∧ B ≤ g ∧ Row w g e cs ∧ cs.length = cap ∧ cs.take n = nums K zs) := by
  obtain ⟨h1, h2⟩ := h
  rw [nums_length, Nat.mul_one] at h1
  rcases h2 with ⟨hv, hn⟩ | ⟨g, cap, cur, hv, hg, hh, hc1, hc2, hc3, hc4⟩
  · subst hn
    have : zs = [] := List.eq_nil_of_length_eq_zero h1
    subst this
    exact ⟨none, 0, hv, Nat.le_refl _, rfl, Lay.nil _ _ _, fun h => absurd h (by omega)⟩
  · rw [Nat.mul_one] at hc3 hc4
    have hr : Row w g e cur.toList := by unfold Row; simpa using hh
    refine ⟨some ⟨g, 0, none⟩, cap, hv, hc1, h1.symm, ?_, fun _ => ⟨g, cur.toList, rfl, hg, hr, by simpa using hc3, hc4⟩⟩
    refine ⟨g, 0, fun _ => ⟨rfl, hr.lt⟩, fun i hi => ?_⟩
    rw [Nat.zero_add, hr.cell_at]
    have h5 := nums_get (k := K) hi
    rw [← hc4, List.getElem?_take_of_lt (by omega)] at h5
    exact h5

theorem below_grown {B : Nat} {w w1 : World} {e : TypeId} {v : Value} {n : Nat} {xs : List Value} (hown : w.ownsRow B e 1 v n xs) (hg : w.grownBy w1 v.ownBlock) (hB : B ≤ w.heap.size) : Below B w w1 :=
  (Below.refl _ _).grown hg hB fun k hk => (hown.lt k hk).1

/-- 'append(x, y...)', x the call's own (or nil), y words at a place (nil, too). -/
theorem wpList_append_lay {P : Program} {w : World} {ops : Array Oper} {rest : List Oper} {o : Oper} {a : Act} {Q : Exit → Act → World → Prop} (hgd : o.guard = none) (s x : Operand) (t : TypeId)
    (ho : o.op = .call { callee := .builtin .append, args := #[s, x], argTypes := #[t, t] }) (K : IntKind) (B : Nat) (e : TypeId) (z : Value) (bytes : Nat)
    (ht : P.underlying t = some (.slice e)) (h2 : (P.info? e).map (fun i => (i.zero, i.size, i.bytes)) = some (some z, 1, bytes)) (hz : z.cells.size = 1)
    (v : Value) (n : Nat) (xs : List Value) (hs : a.eval s = v) (hown : w.ownsRow B e 1 v n xs)
    (ad : Option Addr) (m c : Nat) (hx : a.eval x = .slice ad m c) (l : List Nat) (hlay : Lay K w ad l) (hm : m = l.length)
    (h63 : n + m ≤ 9223372036854775807) (hbytes : (n + m) * bytes ≤ 140737488355328) (hB : B ≤ w.heap.size)
    (h : ∀ v' w', w'.ownsRow B e 1 v' (n + m) (xs ++ nums K l) → Below B w w' → wpList P ops Q rest (a.put o.dst v') w') : wpList P ops Q (o :: rest) a w := by
  obtain ⟨i, hi, hz0, hsz, hbt⟩ := info_parts h2
  by_cases hl : 0 < l.length
  · obtain ⟨b, off, h1, hc⟩ := hlay
    rw [(h1 hl).1] at hx
    refine wpList_append_own w hgd s x t ho B e i z 1 bytes ht hi hz0 hsz hbt hz (by decide) v n xs hs hown ⟨b, off, none⟩ m c (nums K l) hx (by rw [nums_length, hm, Nat.mul_one]) ?_ ?_ h63 hbytes hB ?_
    · intro j u hj
      have hjl : j < l.length := by have := (List.getElem?_eq_some_iff.1 hj).1; rwa [nums_length] at this
      rw [nums_get hjl] at hj
      rw [Addr.add_lit, hc j hjl]; exact hj
    · intro u hu; unfold nums at hu; obtain ⟨_, _, rfl⟩ := List.mem_map.1 hu; rfl
    · intro v' w' h1 h2 _; exact h v' w' h1 (below_grown hown h2 hB)
  · have hl0 : l = [] := List.eq_nil_of_length_eq_zero (by omega)
    subst hl0
    have hm0 : m = 0 := hm
    subst hm0
    cases ad with
    | some ad =>
      refine wpList_append_own w hgd s x t ho B e i z 1 bytes ht hi hz0 hsz hbt hz (by decide) v n xs hs hown ad 0 c [] hx rfl (fun j u hj => by simp at hj) (fun u hu => by cases hu) h63 hbytes hB ?_
      intro v' w' h1 h2 _; exact h v' w' h1 (below_grown hown h2 hB)
    | none =>
      refine wpList_plain hgd fun K' hK => ?_
      have hrun : (Builtin.append_ #[t, t] o.type #[v, .slice none 0 c]).run P w = .ok v w := by
        rcases hown.2 with ⟨rfl, rfl⟩ | ⟨g, cap, cur, rfl, hbg, hg, hnc, hcm, hcs, htake⟩
        · simp [Builtin.append_, run_underlying ht, sizeOf, typeInfo, hi, Builtin.lenOf, Builtin.firstCells, loadCells, loadCellsFrom]
        · simp [Builtin.append_, run_underlying ht, sizeOf, typeInfo, hi, Builtin.lenOf, Builtin.firstCells, loadCells, loadCellsFrom, hnc, storeCells]
      unfold Oper.wp
      simp [execOp, ho, resolve, invoke, builtin, hs, hx, hrun, Result.andThen]
      refine hK _ _ (h v w ?_ (Below.refl _ _))
      simpa [nums] using hown

end Go.Proofs.YtbffpkmfhkphdaaGreatDoor

namespace Go.Proofs.YtbffpkmfhkphdaaGreatDoor.Limb

/-- What the guess keeps: q = U / V is at most the guess. T: the two highest words of U, v1: the highest of V. -/
theorem guess_ge {U V T v1 R : Nat} (hR : 0 < R) (hU : U < (T + 1) * R) (hV : v1 * R ≤ V) (hv : 0 < v1) : U / V ≤ T / v1 := by
  have hVp : 0 < V := Nat.lt_of_lt_of_le (Nat.mul_pos hv hR) hV
  rw [Nat.le_div_iff_mul_le hv]
  have h1 : U / V * V ≤ U := Nat.div_mul_le_self _ _
  have h2 : U / V * v1 * R ≤ U := by
    rw [Nat.mul_assoc]; exact Nat.le_trans (Nat.mul_le_mul_left _ hV) h1
  have h3 : U / V * v1 * R < (T + 1) * R := Nat.lt_of_le_of_lt h2 hU
  have := Nat.lt_of_mul_lt_mul_right h3
  omega

/-- The test on the third word: a guess that fails it is too great. -/
theorem guess_high {U V q g v1 v2 r T u2 R : Nat} (hU : U < (T * 4294967296 + u2 + 1) * R) (hV : (v1 * 4294967296 + v2) * R ≤ V)
    (hT : g * v1 + r = T) (ht : r * 4294967296 + u2 < g * v2) (hq : q = U / V) : q < g := by
  rcases Nat.lt_or_ge q g with h | h
  · exact h
  · exfalso
    have h1 : g * V ≤ U := Nat.le_trans (Nat.mul_le_mul_right V h) (by rw [hq]; exact Nat.div_mul_le_self _ _)
    have h2 : g * (v1 * 4294967296 + v2) * R ≤ U := by rw [Nat.mul_assoc]; exact Nat.le_trans (Nat.mul_le_mul_left _ hV) h1
    have h3 := Nat.lt_of_mul_lt_mul_right (Nat.lt_of_le_of_lt h2 hU)
    rw [Nat.mul_add, ← Nat.mul_assoc] at h3
    have : g * v1 * 4294967296 + r * 4294967296 = T * 4294967296 := by rw [← Nat.add_mul, hT]
    omega

/-- A guess that passes the test is at most one too great. -/
theorem guess_near {U V g v1 v2 r T u2 R : Nat} (hU : (T * 4294967296 + u2) * R ≤ U) (hVl : (v1 * 4294967296 + v2) * R ≤ V) (hV : V < (v1 * 4294967296 + v2 + 1) * R)
    (hT : g * v1 + r = T) (ht : g * v2 ≤ r * 4294967296 + u2) (hg : g < 4294967296) (hv : 2147483648 ≤ v1) (hR : 0 < R) : g ≤ U / V + 1 := by
  have hVp : 0 < V := Nat.lt_of_lt_of_le (Nat.mul_pos (by omega) hR) hVl
  have h1 : g * (v1 * 4294967296 + v2) ≤ T * 4294967296 + u2 := by
    rw [Nat.mul_add, ← Nat.mul_assoc]
    have : g * v1 * 4294967296 + r * 4294967296 = T * 4294967296 := by rw [← Nat.add_mul, hT]
    omega
  have h2 : g * ((v1 * 4294967296 + v2) * R) ≤ U := by
    rw [← Nat.mul_assoc]; exact Nat.le_trans (Nat.mul_le_mul_right R h1) hU
  have h3 : g * V ≤ U + g * R := by
    have : g * V ≤ g * ((v1 * 4294967296 + v2 + 1) * R) := Nat.mul_le_mul_left g (Nat.le_of_lt hV)
    have e : g * ((v1 * 4294967296 + v2 + 1) * R) = g * ((v1 * 4294967296 + v2) * R) + g * R := by
      rw [Nat.add_mul _ 1 R, Nat.mul_add, Nat.one_mul]
    omega
  have h4 : g * R ≤ V := by
    refine Nat.le_trans (Nat.mul_le_mul_right R ?_) hVl
    have : 2147483648 * 4294967296 ≤ v1 * 4294967296 := Nat.mul_le_mul_right _ hv
    omega
  cases g with
  | zero => exact Nat.zero_le _
  | succ g =>
    rw [Nat.add_le_add_iff_right, Nat.le_div_iff_mul_le hVp]
    have : (g + 1) * V = g * V + V := by rw [Nat.add_mul, Nat.one_mul]
    omega

/-- The highest word of U is at most the divisor's. -/
theorem top_le {U V u0 lo v1 R : Nat} (hU : u0 * (4294967296 * R) + lo = U) (hlt : U < V * 4294967296) (hV : V < (v1 + 1) * R) : u0 ≤ v1 := by
  have h1 : u0 * (4294967296 * R) ≤ U := by omega
  have h2 : U < (v1 + 1) * R * 4294967296 := Nat.lt_of_lt_of_le hlt (Nat.mul_le_mul_right _ (Nat.le_of_lt hV))
  have h3 : u0 * (4294967296 * R) < (v1 + 1) * (4294967296 * R) := by
    have : (v1 + 1) * R * 4294967296 = (v1 + 1) * (4294967296 * R) := by rw [Nat.mul_assoc, Nat.mul_comm R]
    omega
  have := Nat.lt_of_mul_lt_mul_right h3
  omega

/-- The guess that leaves a rest of a word or more is below a word. -/
theorem guess_small {g v1 r T u0 u1 : Nat} (hT : g * v1 + r = T) (hTd : T = u0 * 4294967296 + u1) (hu : u0 ≤ v1) (h1 : u1 < 4294967296) (hr : 4294967296 ≤ r) : g < 4294967296 := by
  rcases Nat.lt_or_ge g 4294967296 with h | h
  · exact h
  · exfalso
    have h2 : 4294967296 * v1 ≤ g * v1 := Nat.mul_le_mul_right _ h
    have h3 : u0 * 4294967296 ≤ v1 * 4294967296 := Nat.mul_le_mul_right _ hu
    omega

end Go.Proofs.YtbffpkmfhkphdaaGreatDoor.Limb

namespace Go.Proofs.YtbffpkmfhkphdaaGreatDoor.Limb
theorem W_div_mod (V k : Nat) : V % W (k + 1) = V % W k + W k * (V / W k % 4294967296) := by
  rw [W_succ, Nat.mul_comm, Nat.mod_mul]
theorem pow_split (s : Nat) : 2 ^ s = 2 ^ (s % 32) * W (s / 32) := by
  rw [W_two, ← Nat.pow_add, show s % 32 + 32 * (s / 32) = s from by omega]
/-- The words of a number, as many as are asked, all that lies beyond lost. -/
theorem shr_low (Y r : Nat) (hr : r ≤ 32) : Y / 2 ^ r % 4294967296 = Y % 18446744073709551616 / 2 ^ r % 4294967296 := by
  have e : 18446744073709551616 = 2 ^ r * (2 ^ (32 - r) * 4294967296) := by
    rw [← Nat.mul_assoc, ← Nat.pow_add, show r + (32 - r) = 32 from by omega]
  rw [e, Nat.mod_mul_right_div_self, Nat.mod_mul_left_mod]
theorem two_words {l : List Nat} (h : Lim l) (j : Nat) : wd l j + wd l (j + 1) * 4294967296 = val l / W j % 18446744073709551616 := by
  rw [wd_val h, wd_val h, W_succ, Nat.mul_comm 4294967296 (W j), ← Nat.div_div_eq_div_mul]
  generalize val l / W j = Y
  omega
theorem shr_word {l : List Nat} (h : Lim l) (d r i : Nat) (hr : r ≤ 32) :
    (wd l (d + i) + wd l (d + i + 1) * 4294967296) / 2 ^ r % 4294967296 = val l / (2 ^ r * W d) / W i % 4294967296 := by
  rw [two_words h, ← shr_low _ _ hr, Nat.div_div_eq_div_mul, Nat.div_div_eq_div_mul, W_add, Nat.mul_comm (W d * W i), Nat.mul_assoc]
end Go.Proofs.YtbffpkmfhkphdaaGreatDoor.Limb

namespace Go.Proofs.YtbffpkmfhkphdaaGreatDoor.Limb

/-- s is the square root of x, downwards. -/
def IsRoot (x s : Nat) : Prop := s * s ≤ x ∧ x < (s + 1) * (s + 1)
theorem sq_lt {a b : Nat} (h : a < b) : a * a < b * b := Nat.mul_lt_mul'' h h
theorem sq_le {a b : Nat} (h : a ≤ b) : a * a ≤ b * b := Nat.mul_le_mul h h
theorem le_of_sq {a b : Nat} (h : a * a < (b + 1) * (b + 1)) : a ≤ b := by
  refine Classical.byContradiction fun hn => ?_
  have := sq_le (show b + 1 ≤ a by omega)
  omega
theorem IsRoot.unique {x s t : Nat} (h : IsRoot x s) (k : IsRoot x t) : s = t :=
  Nat.le_antisymm (le_of_sq (Nat.lt_of_le_of_lt h.1 k.2)) (le_of_sq (Nat.lt_of_le_of_lt k.1 h.2))
theorem IsRoot.le {x s t : Nat} (h : IsRoot x s) (k : t * t ≤ x) : t ≤ s := le_of_sq (Nat.lt_of_le_of_lt k h.2)
theorem root_exists (x : Nat) : ∃ s, IsRoot x s := by
  have key : ∀ k, x < (k + 1) * (k + 1) → ∃ s, IsRoot x s := by
    intro k
    induction k with
    | zero => intro h; exact ⟨0, by simp, h⟩
    | succ k ih =>
      intro h
      by_cases hk : (k + 1) * (k + 1) ≤ x
      · exact ⟨k + 1, hk, h⟩
      · exact ih (by omega)
  refine key x ?_
  have : (x + 1) * (x + 1) = x * x + 2 * x + 1 := by
    rw [Nat.add_mul, Nat.mul_add, Nat.mul_one, Nat.one_mul]; omega
  omega
def rootF (x : Nat) : Nat → Nat
  | 0 => 0
  | k + 1 => if (k + 1) * (k + 1) ≤ x then k + 1 else rootF x k
def rootN (x : Nat) : Nat := rootF x x
theorem rootF_is (x : Nat) : ∀ k, x < (k + 1) * (k + 1) → IsRoot x (rootF x k)
  | 0, h => ⟨Nat.zero_le _, h⟩
  | k + 1, h => by
    unfold rootF
    by_cases hk : (k + 1) * (k + 1) ≤ x
    · rw [if_pos hk]; exact ⟨hk, h⟩
    · rw [if_neg hk]; exact rootF_is x k (by omega)
theorem rootN_is (x : Nat) : IsRoot x (rootN x) := rootF_is x x (by
  have : (x + 1) * (x + 1) = x * x + 2 * x + 1 := by
    rw [Nat.add_mul, Nat.mul_add, Nat.mul_one, Nat.one_mul]; omega
  omega)

/-- A step of Newton's way stays at the root or above it. -/
theorem newton_ge {x s z : Nat} (h : IsRoot x s) (hz : 0 < z) : s ≤ (z + x / z) / 2 := by
  have h1 : 2 * s - z ≤ x / z := by
    rw [Nat.le_div_iff_mul_le hz]
    refine Nat.le_trans ?_ h.1
    by_cases hs : 2 * s ≤ z
    · rw [Nat.sub_eq_zero_of_le hs]; simp
    · by_cases hsz : s ≤ z
      · obtain ⟨d, rfl⟩ : ∃ d, z = s + d := ⟨z - s, by omega⟩
        obtain ⟨e, rfl⟩ : ∃ e, s = d + e := ⟨s - d, by omega⟩
        have e1 : 2 * (d + e) - (d + e + d) = e := by omega
        rw [e1]
        have e2 : e * (d + e + d) = e * e + 2 * (e * d) := by rw [Nat.mul_add, Nat.mul_add]; omega
        have e3 : (d + e) * (d + e) = d * d + 2 * (e * d) + e * e := by rw [Nat.add_mul, Nat.mul_add, Nat.mul_add, Nat.mul_comm d e]; omega
        omega
      · obtain ⟨d, rfl⟩ : ∃ d, s = z + d := ⟨s - z, by omega⟩
        have e1 : 2 * (z + d) - z = z + 2 * d := by omega
        rw [e1]
        have e2 : (z + 2 * d) * z = z * z + 2 * (d * z) := by rw [Nat.add_mul, Nat.mul_assoc]
        have e3 : (z + d) * (z + d) = z * z + 2 * (d * z) + d * d := by rw [Nat.add_mul, Nat.mul_add, Nat.mul_add, Nat.mul_comm z d]; omega
        omega
  omega
/-- Where it comes to no less it is the root. -/
theorem newton_end {x s z : Nat} (h : IsRoot x s) (hz : 0 < z) (hs : s ≤ z) (hn : z ≤ (z + x / z) / 2) : z = s := by
  have h1 : z ≤ x / z := by omega
  rw [Nat.le_div_iff_mul_le hz] at h1
  exact Nat.le_antisymm (h.le h1) hs
/-- The way begins above the root. -/
theorem newton_start {x s L : Nat} (h : IsRoot x s) (hx : x < 2 ^ L) : s < 2 ^ ((L + 1) / 2) := by
  refine Classical.byContradiction fun hn => ?_
  have h1 := sq_le (show 2 ^ ((L + 1) / 2) ≤ s by omega)
  rw [← Nat.pow_add] at h1
  have h2 : 2 ^ L ≤ 2 ^ ((L + 1) / 2 + (L + 1) / 2) := Nat.pow_le_pow_right (by decide) (by omega)
  have := h.1
  omega
/-- Bit by bit: one bit more. -/
theorem bit_root {a s p : Nat} (h1 : s * s ≤ a) (h2 : a < (s + 2 * p) * (s + 2 * p)) :
    ((s + p) * (s + p) ≤ a → (s + p) * (s + p) ≤ a ∧ a < (s + p + p) * (s + p + p)) ∧ (¬ (s + p) * (s + p) ≤ a → s * s ≤ a ∧ a < (s + p) * (s + p)) := by
  refine ⟨fun h => ⟨h, ?_⟩, fun h => ⟨h1, by omega⟩⟩
  rw [show s + p + p = s + 2 * p by omega]; exact h2

end Go.Proofs.YtbffpkmfhkphdaaGreatDoor.Limb

namespace Go.Proofs.YtbffpkmfhkphdaaGreatDoor.Limb

/-- The digits to base b, the lowest ahead. -/
def digs (b n : Nat) : List Nat := if h : n = 0 ∨ b < 2 then [] else n % b :: digs b (n / b)
termination_by n
decreasing_by exact Nat.div_lt_self (by omega) (by omega)

theorem digs_zero (b : Nat) : digs b 0 = [] := by rw [digs]; simp
theorem digs_pos {b n : Nat} (hb : 2 ≤ b) (hn : 0 < n) : digs b n = n % b :: digs b (n / b) := by
  rw [digs, dif_neg (by omega)]
theorem digs_lt {b : Nat} (hb : 2 ≤ b) (n : Nat) : ∀ d ∈ digs b n, d < b := by
  induction n using Nat.strongRecOn with
  | ind n ih =>
    by_cases hn : n = 0
    · subst hn; rw [digs_zero]; intro d h; cases h
    · rw [digs_pos hb (by omega)]
      intro d h
      rcases List.mem_cons.1 h with rfl | h
      · exact Nat.mod_lt _ (by omega)
      · exact ih _ (Nat.div_lt_self (by omega) (by omega)) d h
theorem digs_length {b : Nat} (hb : 2 ≤ b) (n k : Nat) (h : n < 2 ^ k) : (digs b n).length ≤ k := by
  induction k generalizing n with
  | zero => rw [show n = 0 by rw [Nat.pow_zero] at h; omega, digs_zero]; exact Nat.le_refl _
  | succ k ih =>
    by_cases hn : n = 0
    · subst hn; rw [digs_zero]; simp
    · rw [digs_pos hb (by omega)]
      have := ih (n / b) (by
        rw [Nat.pow_succ] at h
        have h1 : n / b ≤ n / 2 := Nat.div_le_div_left hb (by decide)
        omega)
      simp only [List.length_cons]; omega

/-- A digit's sign as a byte. -/
def sgn (d : Nat) : Nat := if d < 10 then 48 + d else 87 + d

/-- The text of a number. -/
def txt (b n : Nat) : List Nat := if n = 0 then [48] else (digs b n).reverse.map sgn

/-- What is written so far, l, and what is left, y, of N. -/
def Part (b N : Nat) (l : List Nat) (y : Nat) : Prop := (digs b N).map sgn = l ++ (digs b y).map sgn

theorem Part.start (b N : Nat) : Part b N [] N := rfl
theorem Part.step {b N y : Nat} {l : List Nat} (h : Part b N l y) (hb : 2 ≤ b) (hy : 0 < y) : Part b N (l ++ [sgn (y % b)]) (y / b) := by
  unfold Part at *
  rw [h, digs_pos hb hy]; simp
theorem Part.done {b N : Nat} {l : List Nat} (h : Part b N l 0) : l = (digs b N).map sgn := by
  unfold Part at h; rw [digs_zero] at h; simpa using h.symm
theorem Part.len {b N y : Nat} {l : List Nat} (h : Part b N l y) : l.length ≤ (digs b N).length := by
  have := congrArg List.length h
  simp at this; omega
theorem Part.len_lt {b N y : Nat} {l : List Nat} (h : Part b N l y) (hb : 2 ≤ b) (hy : 0 < y) : l.length < (digs b N).length := by
  have := congrArg List.length h
  rw [digs_pos hb hy] at this
  simp at this; omega
theorem Part.txt {b N : Nat} {l : List Nat} (h : Part b N l 0) (hN : N ≠ 0) : l.reverse = txt b N := by
  unfold Limb.txt; rw [if_neg hN, h.done, List.map_reverse]

/-- One digit of the number q * b^(m+1) + r, as the code takes it of r. -/
theorem part_digit {b q r m : Nat} (hb : 2 ≤ b) : (q * b ^ (m + 1) + r) % b = r % b ∧ (q * b ^ (m + 1) + r) / b = q * b ^ m + r / b := by
  have e : q * b ^ (m + 1) = b * (q * b ^ m) := by rw [Nat.pow_succ, ← Nat.mul_assoc, Nat.mul_comm]
  rw [e]
  exact ⟨by rw [Nat.mul_add_mod], by rw [Nat.mul_add_div (by omega)]⟩
theorem part_rest {b r m : Nat} (hb : 2 ≤ b) (h : r < b ^ (m + 1)) : r / b < b ^ m := by
  rw [Nat.div_lt_iff_lt_mul (by omega), ← Nat.pow_succ]; exact h
theorem part_pos {b q r m : Nat} (hb : 2 ≤ b) : 0 < q * b ^ m + r ↔ 0 < q ∨ 0 < r := by
  have : 0 < b ^ m := Nat.pow_pos (by omega)
  constructor
  · intro h
    rcases Nat.eq_zero_or_pos q with hq | hq
    · subst hq; right; simpa using h
    · exact .inl hq
  · rintro (h | h)
    · have := Nat.mul_pos h this; omega
    · omega

/-- A list of which the outer i entries on either side are exchanged. -/
def half (l : List Nat) (i : Nat) : List Nat := (List.range l.length).map fun t => if t < i ∨ l.length - 1 - t < i then wd l (l.length - 1 - t) else wd l t

theorem half_length (l : List Nat) (i : Nat) : (half l i).length = l.length := by simp [half]
theorem half_get (l : List Nat) (i t : Nat) (h : t < l.length) : wd (half l i) t = if t < i ∨ l.length - 1 - t < i then wd l (l.length - 1 - t) else wd l t := by
  rw [wd_lt (by rw [half_length]; exact h)]
  simp [half]
theorem half_zero (l : List Nat) : half l 0 = l := by
  apply ext_wd (half_length _ _)
  intro i hi
  rw [half_length] at hi
  rw [half_get _ _ _ hi, if_neg (by omega)]
theorem wd_reverse (l : List Nat) (i : Nat) (h : i < l.length) : wd l.reverse i = wd l (l.length - 1 - i) := by
  rw [wd_lt (by simpa using h), wd_lt (by omega)]
  simp
theorem half_done (l : List Nat) (i : Nat) (h : l.length ≤ 2 * i + 1) : half l i = l.reverse := by
  apply ext_wd (by rw [half_length]; simp)
  intro t ht
  rw [half_length] at ht
  rw [half_get _ _ _ ht, wd_reverse _ _ ht]
  split
  · rfl
  · rename_i hn; rw [show l.length - 1 - t = t by omega]
theorem half_step (l : List Nat) (i j : Nat) (hij : i < j) (hj : i + j + 1 = l.length) : ((half l i).set i (wd (half l i) j)).set j (wd (half l i) i) = half l (i + 1) := by
  apply ext_wd (by simp [half_length])
  intro t ht
  rw [List.length_set, List.length_set, half_length] at ht
  rw [half_get l (i + 1) t ht]
  have ei : wd (half l i) i = wd l i := by rw [half_get _ _ _ (by omega), if_neg (by omega)]
  have ej : wd (half l i) j = wd l j := by rw [half_get _ _ _ (by omega), if_neg (by omega)]
  rw [ei, ej]
  by_cases h1 : t = j
  · subst h1
    rw [if_pos (by omega), wd_lt (by simp [half_length]; omega)]
    simp
    rw [show l.length - 1 - t = i by omega]
  · by_cases h2 : t = i
    · subst h2
      rw [if_pos (by omega), wd_lt (by simp [half_length]; omega), List.getElem_set_ne (by omega), List.getElem_set_self]
      rw [show l.length - 1 - t = j by omega]
    · rw [wd_lt (by simp [half_length]; omega), List.getElem_set_ne (by omega), List.getElem_set_ne (by omega), ← wd_lt, half_get _ _ _ ht]
      by_cases h3 : t < i ∨ l.length - 1 - t < i
      · rw [if_pos h3, if_pos (by omega)]
      · rw [if_neg h3, if_neg (by omega)]

end Go.Proofs.YtbffpkmfhkphdaaGreatDoor.Limb
