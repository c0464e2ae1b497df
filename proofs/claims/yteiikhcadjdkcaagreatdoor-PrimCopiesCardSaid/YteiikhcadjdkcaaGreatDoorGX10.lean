/- The kernel's boot over 4096 words, evaluated: the program's order of steps comes to a heap. The walk of large.narrow. The walks of package oop: Small, Value. The variable oop.spares, out of the row's condition. -/
import Derived.Test.YteiikhcadjdkcaaGreatDoorGX09
import Derived.Test.YteiikhcadjdkcaaGreatDoorGX08
import Derived.Deep.DeepCutAuto
import Derived.Deep.CutBlock
import Derived.Test.YteiikhcadjdkcaaGreatDoorRows
import Derived.Lib.LaidTab
import Derived.LaidMore
import Derived.Lay
import Derived.OpenShut
import Derived.SevenTiedAt
import Derived.Stop.Joined
import Derived.Lib.SmallJoins
import Derived.Carry
import Derived.ProofKit
set_option linter.unusedVariables false
set_option linter.unusedSimpArgs false
namespace Go.Proofs.YteiikhcadjdkcaaGreatDoor.Limb
theorem boot1_of {n : Nat} (h1 : 64 ≤ n) (h2 : n ≤ 1048576) (ht : (qboot n).isSome = true) : ∃ h, bootP n = some h := by
  obtain ⟨p, hp⟩ := Option.isSome_iff_exists.1 ht
  obtain ⟨h, e1, _, _⟩ := up_boot h1 h2 p hp
  exact ⟨h, e1⟩
theorem steps_4096 : ∃ hA hP hE ms, Steps 4096 hA hP ms hE ∧ Paired (clsAll bareCls (wireAll ms 0 plans hP)) ms := by
  obtain ⟨hE, e⟩ := boot1_of (n := 4096) (by decide) (by decide) (by decide +kernel)
  obtain ⟨a, b, ms, st⟩ := steps_of (by decide) (by decide) e (by decide +kernel)
  exact ⟨a, b, hE, ms, st, steps2_of (by decide) (by decide) st (by decide +kernel)⟩
end Go.Proofs.YteiikhcadjdkcaaGreatDoor.Limb
namespace Go.Proofs.YteiikhcadjdkcaaGreatDoor
open Go Go.RowKit Limb
def CapB (B : Nat) (a : Option Addr) (n cap : Nat) : Prop := n ≤ cap ∧ ∀ b off, a = some ⟨b, off, none⟩ → B ≤ b
theorem CapB.mono {B C : Nat} {a : Option Addr} {n cap : Nat} (h : CapB B a n cap) (k : C ≤ B) : CapB C a n cap := ⟨h.1, fun b off e => Nat.le_trans k (h.2 b off e)⟩
theorem CapB.none {B n cap : Nat} (h : n ≤ cap) : CapB B none n cap := ⟨h, fun _ _ e => by cases e⟩
theorem CapB.new {B g off n cap : Nat} (h : n ≤ cap) (k : B ≤ g) : CapB B (some ⟨g, off, Option.none⟩) n cap := ⟨h, fun _ _ e => by simp only [Option.some.injEq, Addr.mk.injEq] at e; omega⟩
end Go.Proofs.YteiikhcadjdkcaaGreatDoor
namespace Go.Proofs.YteiikhcadjdkcaaGreatDoor
open Go Go.RowKit Limb
def smallO (n : Int) : Nat := ((2 * n + 1) % 4294967296).toNat
def valueO (o : Nat) : Int := (if o < 2147483648 then (o : Int) - 1 else (o : Int) - 4294967296 - 1) / 2
def isSm (n : Int) : Bool := decide (-1073741824 ≤ n) && decide (n ≤ 1073741823)
theorem or_one {x : Int} (h0 : 0 ≤ x) (h1 : x < 4294967296) (h2 : x % 2 = 0) : bits .or .u32 x 1 = x + 1 := by
  obtain ⟨a, rfl⟩ : ∃ a : Nat, x = a := ⟨x.toNat, by omega⟩
  have h3 := u32_or_nat a 1 (by omega) (by omega)
  rw [nat_join 1 a 1 (by omega) (by decide)] at h3
  simpa using h3
set_option maxRecDepth 100000 in
theorem oop_small (w : World) (n : Int) (hn : isSm n = true) :
    Calls Tryz.prog 34 #[.int .i64 n] w fun e w' => e = .returned (.tuple #[.int .u32 (smallO n), .int .i64 0]) ∧ w = w' := by
  have HF := oop_fits w n
  unfold isSm at hn
  rw [hn] at HF
  have HF := Lib.hid HF
  go_enter Tryz.func34, Tryz.ntmps34
  go_wp2_with fail
  refine (HF.out).mono ?_
  rintro e W ⟨rfl, rfl⟩
  (try dsimp only)
  go_wp2_with fail
  have e1 : bits .or .u32 (n % 4294967296 * 2 % 4294967296) 1 = (smallO n : Int) := by
    rw [or_one (by omega) (by omega) (by omega)]
    unfold smallO; omega
  rw [e1]
  go_ret2
  exact ⟨rfl, rfl⟩
set_option maxRecDepth 100000 in
theorem oop_value (w : World) (o : Nat) (ho : o < 4294967296) (h1 : o % 2 = 1) :
    Calls Tryz.prog 207 #[.int .u32 o] w fun e w' => e = .returned (.tuple #[.int .i64 (valueO o), .int .i64 0]) ∧ w = w' := by
  have hk := oop_kind w o ho
  rw [show kindN o = 1 from by unfold kindN; rw [if_neg (by omega), if_pos h1]] at hk
  have HF := Lib.hid hk
  go_enter Tryz.func207, Tryz.ntmps207
  go_wp2_with fail
  refine (HF.out).mono ?_
  rintro e W ⟨rfl, rfl⟩
  (try dsimp only)
  go_wp2_with fail
  have e1 : wrap64 (wrap32 (o : Int) / 2) = valueO o := by
    have h3 : valueO o = (if o < 2147483648 then (o : Int) - 1 else (o : Int) - 4294967296 - 1) / 2 := rfl
    simp only [wrap32, wrap64]
    split at h3 <;> omega
  rw [e1]
  go_ret2
  exact ⟨rfl, rfl⟩
end Go.Proofs.YteiikhcadjdkcaaGreatDoor
namespace Go.Proofs.YteiikhcadjdkcaaGreatDoor
open Go Go.ChangeShapes Go.WideShapes Go.ChangeAt Go.RowKit Limb
theorem cells_of_bools {H : Type} {enc : TypeId × Value → H} {P : Program} {w : World} {base : Nat} {sp : Nat → Bool} {held : Bool} {fuel : Nat} {t e : TypeId} {n : Nat} {cs : List Value} {zs : List Bool} {p : List MemPlace}
    (ht : P.underlying t = some (.array n e)) (he : P.underlying e = some .bool) (hce : P.cellsOf e = 1) (hct : P.cellsOf t = n)
    (h : DataW.trod enc P w base sp held fuel t cs = some (.agg (zs.map fun z => .lit (.bool z)), p)) : cs = zs.map fun z => Value.bool z := by
  cases fuel with
  | zero => simp [DataW.trod] at h
  | succ fuel =>
    simp only [DataW.trod, ht, hce, hct, Nat.mul_one] at h
    split at h
    · rename_i hl
      obtain ⟨xs, hm, hx⟩ := Option.map_eq_some_iff.1 h
      have hxs : xs.map (·.1) = zs.map fun z => (DataW.lit (.bool z) : DataW H) := by
        have := congrArg Prod.fst hx
        simpa using this
      have hxl : xs.length = n := by simpa using Lib.mapM_length hm
      have hzl : zs.length = n := by
        have := congrArg List.length hxs
        simp at this
        omega
      apply List.ext_getElem?
      intro i
      by_cases hi : i < n
      · obtain ⟨b, hb, hf⟩ := Lib.mapM_at hm i i (by simp [hi])
        obtain ⟨z, hc, rfl⟩ := DataW.trod_bool he hf
        have h1 : cs[i]? = some (.bool z) := by
          have := congrArg (·[0]?) hc
          simpa [List.getElem?_take, List.getElem?_drop] using this
        have h2 : (xs.map (·.1))[i]? = some (DataW.lit (.bool z) : DataW H) := by simp [hb]
        rw [hxs] at h2
        simp only [List.getElem?_map, Option.map_eq_some_iff, DataW.lit.injEq, Lit.bool.injEq] at h2
        obtain ⟨z', hz', rfl⟩ := h2
        simp [h1, hz']
      · rw [List.getElem?_eq_none (by omega), List.getElem?_eq_none (by simp; omega)]
    · cases h
theorem g_spares : Tryz.prog.globalNamed "effigy/oop.spares" = some 0 := by kernel_rfl
theorem t_spares : (Tryz.prog.globals[0]?).map (·.type) = some 266 := by kernel_rfl
theorem g_four : Tryz.prog.globalNamed "unicode/utf8.acceptRanges" = some 5 := by kernel_rfl
theorem spares_of {W : World} (hX : laidMetH Tryz.prog Rows.primCopiesRow.laid W) : Spares W := by
  rw [MakeChecks.laidMetH_plain _ _ _ (by kernel_rfl)] at hX
  obtain ⟨ps, hv, -, -⟩ := hX
  have hv : DataW.LaidVars Tryz.prog W [("math/bits.deBruijn32tab", Rows.laid_math_bits_deBruijn32tab), ("math/bits.deBruijn64tab", Rows.laid_math_bits_deBruijn64tab), ("internal/strconv.uint64pow10", Rows.laid_internal_strconv_uint64pow10), ("unicode/utf8.acceptRanges", Rows.laid_unicode_utf8_acceptRanges), ("strconv.ErrRange", Rows.laid_strconv_ErrRange), ("strconv.ErrSyntax", Rows.laid_strconv_ErrSyntax), ("effigy/oop.spares", Rows.laid_effigy_oop_spares), ("unicode/utf8.first", Rows.laid_unicode_utf8_first)] ps := hv
  obtain ⟨_, _, _, _, _, _, _, _, _, _, ⟨_, _, _, _, _, _, _, _, _, _, ⟨_, _, _, _, _, _, _, _, _, _, ⟨g0, t0, cs0, f0, p0, q0, a0, b0, v0, d0, ⟨_, _, _, _, _, _, _, _, _, _, ⟨_, _, _, _, _, _, _, _, _, _, ⟨g1, t1, cs1, f1, p1, q1, a1, b1, v1, d1, -⟩, -⟩, -⟩, -⟩, -⟩, -⟩, -⟩ := hv
  obtain rfl := Option.some.inj (g_spares.symm.trans a1)
  obtain rfl := Option.some.inj (t_spares.symm.trans b1)
  have hcs := cells_of_bools (zs := [false, false, true, false, false]) Tryz.underlying266 Tryz.underlying4 (by kernel_rfl) (by kernel_rfl) d1
  have h4 : 5 < W.heap.size := by
    have hg := g_four
    have hvv : W.var? Tryz.prog "unicode/utf8.acceptRanges" = some cs0 := v0
    unfold World.var? at hvv
    rw [hg, Option.bind_some] at hvv
    cases e : W.heap[5]? with
    | none => rw [e] at hvv; cases hvv
    | some x => exact (Array.getElem?_eq_some_iff.1 e).1
  refine ⟨by omega, fun i hi => ?_⟩
  rw [World.var?_cell g_spares v1 i, ← Array.getElem?_toList, hcs]
  have : i = 0 ∨ i = 1 ∨ i = 2 ∨ i = 3 ∨ i = 4 := by omega
  rcases this with rfl | rfl | rfl | rfl | rfl <;> rfl
end Go.Proofs.YteiikhcadjdkcaaGreatDoor
