/- Several integers of package big that a call has made, followed through its calls: at which blocks, and which numbers. -/
import Derived.Test.YtbffpkmfhkphdaaGreatDoorMayC
import Derived.Test.YtbffpkmfhkphdaaGreatDoorGX14
import Derived.Test.YtbffpkmfhkphdaaGreatDoorGX15
import Derived.Test.YtbffpkmfhkphdaaGreatDoorLenC
set_option linter.unusedVariables false
set_option linter.unusedSimpArgs false
namespace Go.Proofs.YtbffpkmfhkphdaaGreatDoor
open Go Go.RowKit Limb

structure At (w1 X : World) (l : List (Nat × Int)) : Prop where
  below : Below w1.heap.size w1 X
  ints : ∀ p ∈ l, IntAt X p.1 p.2 ∧ w1.heap.size ≤ p.1
  nd : (l.map Prod.fst).Nodup

/-- A list of numbers in which the block p now holds z. -/
def upd (l : List (Nat × Int)) (p : Nat) (z : Int) : List (Nat × Int) := l.map fun q => if q.1 = p then (p, z) else q

theorem upd_fst (l : List (Nat × Int)) (p : Nat) (z : Int) : (upd l p z).map Prod.fst = l.map Prod.fst := by
  unfold upd; rw [List.map_map]; apply List.map_congr_left; intro q _; simp only [Function.comp]; split <;> simp_all

theorem At.refl (w : World) : At w w [] := ⟨Below.refl _ _, fun p h => by (cases h), by simp⟩
theorem At.drew {w1 X : World} {l : List (Nat × Int)} (h : At w1 X l) : At w1 X.drew l := ⟨h.below.drew, h.ints, h.nd⟩
theorem At.drewN {w1 X : World} {l : List (Nat × Int)} (h : At w1 X l) (n : Nat) : At w1 (X.drewN n) l := ⟨⟨h.below.os, h.below.tape, h.below.output, h.below.size, h.below.block⟩, h.ints, h.nd⟩
theorem At.next {w1 X X' : World} {l : List (Nat × Int)} (h : At w1 X l) (hb : Below X.heap.size X X') : At w1 X' l :=
  ⟨h.below.trans (hb.mono h.below.size), fun p hp => ⟨(h.ints p hp).1.below hb, (h.ints p hp).2⟩, h.nd⟩
theorem At.alloc' {w1 X : World} {l : List (Nat × Int)} (h : At w1 X l) (o : Obj) : At w1 (X.alloc o) l := h.next ((Below.refl _ _).alloc (Nat.le_refl _) _)
theorem At.cons {w1 X X' : World} {l : List (Nat × Int)} {p : Nat} {z : Int} (h : At w1 X l) (hb : Below X.heap.size X X') (hp : X.heap.size ≤ p) (hz : IntAt X' p z) : At w1 X' ((p, z) :: l) := by
  refine ⟨(h.next hb).below, ?_, ?_⟩
  · intro q hq
    rcases List.mem_cons.mp hq with rfl | hq
    · exact ⟨hz, Nat.le_trans h.below.size hp⟩
    · exact (h.next hb).ints q hq
  · rw [List.map_cons, List.nodup_cons]
    refine ⟨fun hm => ?_, h.nd⟩
    obtain ⟨q, hq, e⟩ := List.mem_map.mp hm
    have := (h.ints q hq).1.lt
    simp only at e
    omega
theorem At.new {w1 X : World} {l : List (Nat × Int)} (h : At w1 X l) : At w1 (X.alloc (.cells #[.bool false, .slice none 0 0] 117)) ((X.heap.size, 0) :: l) :=
  h.cons ((Below.refl _ _).alloc (Nat.le_refl _) _) (Nat.le_refl _) (IntAt.new X)
theorem At.set {w1 X X' : World} {l : List (Nat × Int)} {p : Nat} {v z : Int} (h : At w1 X l) (hp : (p, v) ∈ l) (ho : Only [p] X X') (hz : IntAt X' p z) : At w1 X' (upd l p z) := by
  refine ⟨h.below.trans (ho.belowB h.below.size (by intro q hq; rw [List.mem_singleton] at hq; subst hq; exact (h.ints _ hp).2)), ?_, by rw [upd_fst]; exact h.nd⟩
  intro q hq
  obtain ⟨r, hr, e⟩ := List.mem_map.mp hq
  split at e
  · subst e; exact ⟨hz, (h.ints _ hp).2⟩
  · subst e
    rename_i hne
    exact ⟨(h.ints _ hr).1.only ho (by simp; exact hne) (IntBlocks.one (h.ints _ hp).1), (h.ints _ hr).2⟩
theorem At.sub {w1 X : World} {l l' : List (Nat × Int)} (h : At w1 X l) (hs : l'.Sublist l) : At w1 X l' :=
  ⟨h.below, fun p hp => h.ints p (hs.subset hp), (hs.map Prod.fst).nodup h.nd⟩
theorem mem_upd {l : List (Nat × Int)} {p : Nat} {v : Int} (z : Int) (h : (p, v) ∈ l) : (p, z) ∈ upd l p z := List.mem_map.mpr ⟨_, h, by simp⟩
theorem mem_upd_ne {l : List (Nat × Int)} {p q : Nat} {x : Int} (z : Int) (h : (q, x) ∈ l) (hn : q ≠ p) : (q, x) ∈ upd l p z := List.mem_map.mpr ⟨_, h, by simp [hn]⟩
theorem At.ne {w1 X : World} {l : List (Nat × Int)} (h : At w1 X l) {p q : Nat} {x y : Int} (hp : (p, x) ∈ l) (hq : (q, y) ∈ l) (hxy : l.findIdx (fun r => r.1 == p) ≠ l.findIdx (fun r => r.1 == q)) : p ≠ q := by
  intro e; subst e; exact hxy rfl

/-- The contract of the call wide. -/
theorem at_wide {w1 X : World} {l : List (Nat × Int)} (h : At w1 X l) (neg : Bool) (a : Option Addr) (ls : List Nat) (n cap : Nat) (hlay : Lay .u32 w1 a ls) (hlim : Lim ls) (hn : n = ls.length) (hm : n ≤ 68719476736) :
    Calls Tryz.prog 60 #[.agg #[.bool neg, .slice a n cap]] X fun e X' => ∃ p, e = .returned (.pointer (some ⟨p, 0, none⟩)) ∧ At w1 X' ((p, signed neg (val ls)) :: l) := by
  refine (large_wide X neg a ls n cap (hlay.below h.below) hlim hn hm).mono ?_
  rintro e X' ⟨p, rfl, h1, h2, h3⟩
  exact ⟨p, rfl, h.cons h3 h1 h2⟩

theorem at_add {w1 X : World} {l : List (Nat × Int)} {p q r : Nat} {v x y : Int} (h : At w1 X l) (hp : (p, v) ∈ l) (hq : (q, x) ∈ l) (hr : (r, y) ∈ l) (hs : (rep x.natAbs).length ≤ 68719476736) (ht : (rep y.natAbs).length ≤ 68719476736) :
    Calls Tryz.prog 72 #[.pointer (some ⟨p, 0, none⟩), .pointer (some ⟨q, 0, none⟩), .pointer (some ⟨r, 0, none⟩)] X fun e X' => e = .returned (.pointer (some ⟨p, 0, none⟩)) ∧ At w1 X' (upd l p (x + y)) := by
  refine (int_add X p q r v x y (h.ints _ hp).1 (h.ints _ hq).1 (h.ints _ hr).1 hs ht).mono ?_
  rintro e X' ⟨rfl, h1, h2⟩
  exact ⟨rfl, h.set hp h2 h1⟩
theorem at_sub {w1 X : World} {l : List (Nat × Int)} {p q r : Nat} {v x y : Int} (h : At w1 X l) (hp : (p, v) ∈ l) (hq : (q, x) ∈ l) (hr : (r, y) ∈ l) (hs : (rep x.natAbs).length ≤ 68719476736) (ht : (rep y.natAbs).length ≤ 68719476736) :
    Calls Tryz.prog 106 #[.pointer (some ⟨p, 0, none⟩), .pointer (some ⟨q, 0, none⟩), .pointer (some ⟨r, 0, none⟩)] X fun e X' => e = .returned (.pointer (some ⟨p, 0, none⟩)) ∧ At w1 X' (upd l p (x - y)) := by
  refine (int_sub X p q r v x y (h.ints _ hp).1 (h.ints _ hq).1 (h.ints _ hr).1 hs ht).mono ?_
  rintro e X' ⟨rfl, h1, h2⟩
  exact ⟨rfl, h.set hp h2 h1⟩

theorem at_mul {w1 X : World} {l : List (Nat × Int)} {p q r : Nat} {v x y : Int} (h : At w1 X l) (hp : (p, v) ∈ l) (hq : (q, x) ∈ l) (hr : (r, y) ∈ l) (hne : (l.map Prod.fst).Nodup → p ≠ q ∧ p ≠ r) (hs : (rep x.natAbs).length ≤ 68719476736) (ht : (rep y.natAbs).length ≤ 68719476736) :
    Calls Tryz.prog 104 #[.pointer (some ⟨p, 0, none⟩), .pointer (some ⟨q, 0, none⟩), .pointer (some ⟨r, 0, none⟩)] X fun e X' => e = .returned (.pointer (some ⟨p, 0, none⟩)) ∧ At w1 X' (upd l p (x * y)) := by
  refine (int_mul X p q r v x y (h.ints _ hp).1 (h.ints _ hq).1 (h.ints _ hr).1 (hne h.nd).1 (hne h.nd).2 hs ht).mono ?_
  rintro e X' ⟨rfl, h1, h2⟩
  exact ⟨rfl, h.set hp h2 h1⟩

/-- The answer of narrow, at the world in which it is read. -/
def NarrowTo (X : World) (e : Ending) (z : Int) : Prop :=
  (1024 < (rep z.natAbs).length ∧ e = .returned (.tuple #[.agg #[.bool false, .slice none 0 0], .int .i64 2])) ∨
    ((rep z.natAbs).length ≤ 1024 ∧ ∃ a cap, e = .returned (.tuple #[.agg #[.bool (decide (z < 0)), .slice a (rep z.natAbs).length cap], .int .i64 0]) ∧ (rep z.natAbs).length ≤ cap ∧ Lay .u32 X a (rep z.natAbs))
theorem at_narrow {w1 X : World} {l : List (Nat × Int)} {p : Nat} {z : Int} (h : At w1 X l) (hp : (p, z) ∈ l) (hs : (rep z.natAbs).length ≤ 68719476736) :
    Calls Tryz.prog 62 #[.pointer (some ⟨p, 0, none⟩)] X fun e X' => NarrowTo X' e z ∧ At w1 X' l := by
  refine (large_narrow X p z (h.ints _ hp).1 hs).mono ?_
  rintro e X' ⟨hb, h1⟩
  refine ⟨?_, h.next hb⟩
  rcases h1 with ⟨h1, h2⟩ | ⟨h1, v, h2, a, n, cap, h3, h4, h5, h6⟩
  · exact .inl ⟨h1, h2⟩
  · subst h4
    exact .inr ⟨h1, a, cap, by rw [h2, h3], h5, h6⟩

theorem at_narrow_ok {w1 X : World} {l : List (Nat × Int)} {p : Nat} {z : Int} (h : At w1 X l) (hp : (p, z) ∈ l) (hs : (rep z.natAbs).length ≤ 1024) :
    Calls Tryz.prog 62 #[.pointer (some ⟨p, 0, none⟩)] X fun e X' => (∃ a cap, e = .returned (.tuple #[.agg #[.bool (decide (z < 0)), .slice a (rep z.natAbs).length cap], .int .i64 0]) ∧ (rep z.natAbs).length ≤ cap ∧ Lay .u32 X' a (rep z.natAbs)) ∧ At w1 X' l := by
  refine (at_narrow h hp (Nat.le_trans hs (by decide))).mono ?_
  rintro e X' ⟨h1, h2⟩
  rcases h1 with ⟨h1, _⟩ | ⟨_, h1⟩
  · omega
  · exact ⟨h1, h2⟩
theorem at_narrow_ok2 {w1 X : World} {l : List (Nat × Int)} {p : Nat} {z : Int} (h : At w1 X l) (hp : (p, z) ∈ l) (hs : (rep z.natAbs).length ≤ 1024) :
    Calls Tryz.prog 62 #[.pointer (some ⟨p, 0, none⟩)] X fun e X' => (∃ a cap, e = .returned (.tuple #[.agg #[.bool (decide (z < 0)), .slice a (rep z.natAbs).length cap], .int .i64 0]) ∧ (rep z.natAbs).length ≤ cap ∧ Lay .u32 X' a (rep z.natAbs)) ∧ At w1 X' l ∧ Below X.heap.size X X' := by
  refine (large_narrow X p z (h.ints _ hp).1 (Nat.le_trans hs (by decide))).mono ?_
  rintro e X' ⟨hb, ⟨h1, _⟩ | ⟨h1, v, h2, a, n, cap, h3, h4, h5, h6⟩⟩
  · omega
  · subst h4
    exact ⟨⟨a, cap, by rw [h2, h3], h5, h6⟩, h.next hb, hb⟩
theorem at_narrow_long {w1 X : World} {l : List (Nat × Int)} {p : Nat} {z : Int} (h : At w1 X l) (hp : (p, z) ∈ l) (hs : (rep z.natAbs).length ≤ 68719476736) (hk : ¬ (rep z.natAbs).length ≤ 1024) :
    Calls Tryz.prog 62 #[.pointer (some ⟨p, 0, none⟩)] X fun e X' => e = .returned (.tuple #[.agg #[.bool false, .slice none 0 0], .int .i64 2]) ∧ At w1 X' l := by
  refine (at_narrow h hp hs).mono ?_
  rintro e X' ⟨h1, h2⟩
  rcases h1 with ⟨_, h1⟩ | ⟨h1, _⟩
  · exact ⟨h1, h2⟩
  · omega

/-- A row of a bool and a slice holds no numbers: a store into it leaves the numbers. -/
theorem Lay.notPair {K : IntKind} {w : World} {a : Option Addr} {l : List Nat} {g : Nat} {e : TypeId} {b : Bool} {a' : Option Addr} {n' c' : Nat} (h : Lay K w a l) (hr : Row w g e [.bool b, .slice a' n' c']) :
    0 < l.length → ∀ b off, a = some ⟨b, off, none⟩ → b ∉ [g] := by
  intro hl b0 off e0 hm
  rw [List.mem_singleton] at hm
  obtain ⟨b', off', h1, h2⟩ := h
  have h3 := (h1 hl).1
  rw [e0] at h3
  simp only [Option.some.injEq, Addr.mk.injEq, and_true] at h3
  obtain ⟨rfl, rfl⟩ := h3
  have h4 := h2 0 hl
  rw [hm, hr.cell_at] at h4
  match off, h4 with
  | 0, h4 => simp at h4
  | 1, h4 => simp at h4
  | n + 2, h4 => simp at h4
/-- Stores into both cells of such a row. -/
theorem Lay.pair {K : IntKind} {w : World} {a : Option Addr} {l : List Nat} {g : Nat} {e : TypeId} {b : Bool} {a' : Option Addr} {n' c' : Nat} (h : Lay K w a l) (hr : Row w g e [.bool b, .slice a' n' c']) (u v : Value) :
    Lay K ((w.setCell ⟨g, 0, none⟩ u).setCell ⟨g, 1, none⟩ v) a l :=
  h.only (((Only.refl [g] w).setCell (by simp) u).setCell (by simp) v) (h.notPair hr)

end Go.Proofs.YtbffpkmfhkphdaaGreatDoor
