/- What LargeFermat's walk asks besides. -/
import Derived.Test.YtbffpkmfhkphdaaDoorGRingA
import Derived.Test.YtbffpkmfhkphdaaDoorGMod
import Derived.Test.YtbffpkmfhkphdaaDoorGPlain
namespace Go.Proofs.YtbffpkmfhkphdaaDoor
open Go Go.RowKit Limb

theorem ApiV.agg' {X : World} {u : Value} {z : Int} (h : ApiV X u z) : ∃ b a n c, u = .agg #[.bool b, .slice a n c] ∧ Hid (ApiV X (.agg #[.bool b, .slice a n c]) z) := by
  obtain ⟨b, a, n, c, rfl, _⟩ := h.open
  exact ⟨b, a, n, c, rfl, Lib.hid h⟩

/-- A new variable holds an integer. -/
def FP (U : World) (z : Int) (s : Value) (X : World) : Prop :=
  ∃ g b a n c, s = .pointer (some ⟨g, 0, none⟩) ∧ U.heap.size ≤ g ∧ Row X g 24 [.bool b, .slice a n c] ∧ ApiV X (.agg #[.bool b, .slice a n c]) z ∧ Below U.heap.size U X
/-- The same, with an answer's number 0. -/
def MadeAt (U : World) (z : Int) (s t : Value) (X : World) : Prop := FP U z s X ∧ t = .int .i64 0
/-- It holds a prime that is not too long. -/
def FQ (U : World) (s : Value) (X : World) : Prop := ∃ P : Nat, Fermat.Flt P ∧ (rep P).length ≤ 4 ∧ FP U (P : Int) s X

theorem fp_mk {U X : World} {o : Obj} {b : Bool} {a : Option Addr} {n c : Nat} {z : Int} (hb : Below (U.alloc o).heap.size (U.alloc o) X) (h : ApiV X (.agg #[.bool b, .slice a n c]) z) :
    FP U z (.pointer (some ⟨X.heap.size, 0, none⟩)) (X.alloc (.cells #[.bool b, .slice a n c] 24)) := by
  have h1 : Below U.heap.size U (U.alloc o) := (Below.refl _ _).alloc (Nat.le_refl _) _
  have h2 := h1.trans (hb.mono h1.size)
  have h3 : Below X.heap.size X (X.alloc (.cells #[.bool b, .slice a n c] 24)) := (Below.refl _ _).alloc (Nat.le_refl _) _
  exact ⟨X.heap.size, b, a, n, c, rfl, h2.size, row2slice _ _ _, h.below h3, h2.trans (h3.mono h2.size)⟩
theorem fp_store {U X : World} {g : Nat} {b0 : Bool} {a0 : Option Addr} {n0 k0 : Nat} {b : Bool} {a : Option Addr} {n c : Nat} {z : Int} (hr : Row X g 24 [.bool b0, .slice a0 n0 k0]) (hg : U.heap.size ≤ g) (h : ApiV X (.agg #[.bool b, .slice a n c]) z) (hX : Below U.heap.size U X) :
    FP U z (.pointer (some ⟨g, 0, none⟩)) ((X.setCell ⟨g, 0, none⟩ (.bool b)).setCell ⟨g, 1, none⟩ (.slice a n c)) :=
  ⟨g, b, a, n, c, rfl, hg, (hr.store_any 0 _).store_any 1 _, ApiV.to h (fun _ _ hl => hl.pair hr _ _), below_store (below_store hX hg _) hg _⟩

def tbl (k : Nat) : Int := if k = 4 then 3 else if k = 5 then 7 else if k = 6 then 104729 else 0
def expo (k : Nat) : Nat := if k = 0 then 61 else if k = 1 then 89 else if k = 2 then 107 else 127
theorem expo_flt (k : Nat) (h : k < 4) : Fermat.Flt (2 ^ expo k - 1) ∧ (rep (2 ^ expo k - 1)).length ≤ 4 ∧ 1 ≤ expo k ∧ expo k ≤ 127 := by
  have : k = 0 ∨ k = 1 ∨ k = 2 ∨ k = 3 := by omega
  rcases this with rfl | rfl | rfl | rfl
  · exact ⟨Fermat.f2305843009213693951, by decide +kernel, by decide, by decide⟩
  · exact ⟨Fermat.f618970019642690137449562111, by decide +kernel, by decide, by decide⟩
  · exact ⟨Fermat.f162259276829213363391578010288127, by decide +kernel, by decide, by decide⟩
  · exact ⟨Fermat.f170141183460469231731687303715884105727, by decide +kernel, by decide, by decide⟩
theorem tbl_flt (k : Nat) (h : ¬ k < 4) (h7 : k < 7) : ∃ P : Nat, Fermat.Flt P ∧ (rep P).length ≤ 4 ∧ tbl k = (P : Int) := by
  have : k = 4 ∨ k = 5 ∨ k = 6 := by omega
  rcases this with rfl | rfl | rfl
  · exact ⟨3, Fermat.f3, by decide, rfl⟩
  · exact ⟨7, Fermat.f7, by decide, rfl⟩
  · exact ⟨104729, Fermat.f104729, by decide, rfl⟩

/-- 2 to a power. -/
theorem api_pow2 (X : World) (v : Value) (k : Nat) (h : ApiV X v 2) (h1 : 1 ≤ k) (h2 : k ≤ 127) :
    Calls Tryd.prog 30 #[v, .int .i64 k] X fun e X' => ∃ b a n c, e = .returned (.tuple #[.agg #[.bool b, .slice a n c], .int .i64 0]) ∧ Hid (ApiV X' (.agg #[.bool b, .slice a n c]) ((2 : Int) ^ k)) ∧ Below X.heap.size X X' := by
  obtain ⟨b1, a1, n1, c1, rfl, k1, e1, _, m1, s1⟩ := h.may (by decide)
  have hb : bitsN ((2 : Int).natAbs) = 2 := by decide
  refine (large_pow_big X b1 a1 _ n1 c1 k 2 k1 (rep_lim _) e1 m1 s1.symm (by decide) h1 (by omega) (by rw [hb]; omega)).mono ?_
  intro e X' he
  have hl : (rep ((2 : Int) ^ k).natAbs).length ≤ 4 := by
    rw [Int.natAbs_pow]
    refine rep_length_le.2 ?_
    rw [W_two]
    exact Nat.pow_lt_pow_right (by decide) (by omega)
  exact he.ok (by omega)
theorem api_modpow (X : World) (v1 v2 v3 : Value) (x y m : Int) (h1 : ApiV X v1 x) (h2 : ApiV X v2 y) (h3 : ApiV X v3 m) (l1 : (rep x.natAbs).length ≤ 1024) (l2 : (rep y.natAbs).length ≤ 1024) (l3 : (rep m.natAbs).length ≤ 1024) (hy : 0 ≤ y) (hm : m ≠ 0) :
    Calls Tryd.prog 31 #[v1, v2, v3] X fun e X' => Answer true X X' e (modpowZ x y m) := by
  obtain ⟨b1, a1, n1, c1, rfl, k1, e1, _, t1, s1⟩ := h1.may l1
  obtain ⟨b3, a3, n3, c3, rfl, k3, e3, _, t3, s3⟩ := h3.may l3
  obtain ⟨a2, c2, rfl, _, k2⟩ := h2
  have hb : decide (y < 0) = false := by rw [decide_eq_false_iff_not]; omega
  have t2 := mayB_small l2
  have s2 := signed_rep y
  rw [hb] at t2 s2 ⊢
  exact large_modpow X b1 b3 a1 a2 a3 _ _ _ n1 _ n3 c1 c2 c3 x y m k1 k2 k3 (rep_lim _) (rep_lim _) (rep_lim _) e1 rfl e3 t1 t2 t3 s1.symm s2.symm s3.symm hm

/-- The law's last test, in numbers. -/
theorem flt_law (x : Int) (P : Nat) (h : Fermat.Flt P) : (x.fmod (P : Int) = 0 → modpowZ x ((P : Int) - 1) (P : Int) = 0) ∧ (x.fmod (P : Int) ≠ 0 → modpowZ x ((P : Int) - 1) (P : Int) = 1) := by
  have hP := h.1
  have hf : x.fmod (P : Int) = x % (P : Int) := Int.fmod_eq_emod_of_nonneg x (by omega)
  have h0 := Int.emod_nonneg x (show (P : Int) ≠ 0 by omega)
  have h1 := Int.emod_lt_of_pos x (show (0 : Int) < P by omega)
  have e1 : ((P : Int) - 1).natAbs = P - 1 := by omega
  have e2 : modpowZ x ((P : Int) - 1) (P : Int) = ((x % (P : Int)).natAbs ^ (P - 1) % P : Nat) := by
    unfold modpowZ
    simp only [Int.natAbs_natCast, e1]
    rw [if_neg (fun hh => by omega)]
  rw [hf, e2]
  constructor
  · intro hz
    rw [hz]
    have : (0 : Int).natAbs ^ (P - 1) = 0 := by rw [Int.natAbs_zero]; exact Nat.zero_pow (by omega)
    rw [this, Nat.zero_mod]; rfl
  · intro hz
    have h2 : (x % (P : Int)).natAbs % P ≠ 0 := by
      rw [Nat.mod_eq_of_lt (by omega)]; omega
    have h3 := h.2 _ h2
    rw [h3]; rfl

end Go.Proofs.YtbffpkmfhkphdaaDoor
