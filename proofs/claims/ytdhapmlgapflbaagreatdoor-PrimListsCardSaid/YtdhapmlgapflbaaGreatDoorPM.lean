/- A map that the call has made, entry by entry: its elements as they are. -/
import Derived.Test.YtdhapmlgapflbaaGreatDoorPB
import Derived.Test.YtdhapmlgapflbaaGreatDoorChecked
import Derived.WalkKit
import Derived.Maps.Ext
import Derived.Maps.RangeWalk
import Derived.Maps.OwnIn
import Derived.Lib.SlMapMerge
set_option linter.unusedVariables false
set_option linter.unusedSimpArgs false
namespace Go.Proofs.YtdhapmlgapflbaaGreatDoor
open Go Go.RowKit Go.Maps Limb

/-- An entry: how many arguments, and a function. -/
def entV (c : Int × Fn × Array Value × Array Value) : Value := .agg #[.int .i64 c.1, .func c.2.1 c.2.2.1 c.2.2.2]
def heldR (v : Value) : Option (DataW Value × List MemPlace) :=
  match v with
  | .agg ⟨[.int .i64 _, .func _ _ _]⟩ => some (.held v, [])
  | _ => none
theorem heldR_inv (v : Value) (y : DataW Value × List MemPlace) (h : heldR v = some y) : ∃ c, v = entV c := by
  unfold heldR at h
  split at h
  · rename_i n f a b
    exact ⟨(n, f, a, b), rfl⟩
  · cases h
theorem heldR_ent (c : Int × Fn × Array Value × Array Value) : heldR (entV c) = some (.held (entV c), []) := rfl
theorem wpList_insert_own {H : Type} {P : Program} (w : World) {ops : Array Oper} {rest : List Oper} {o : Oper} {a : Act} {Q : Exit → Act → World → Prop}
    (hg : o.guard = none) (m x v : Operand) (t : TypeId) (hop : o.op = Op.insert t m x v)
    (k e : TypeId) (K : Keyed P k) (ht : P.underlying t = some (.map k e)) (R : Value → Option (DataW H × List MemPlace)) (b n : Nat) (D : DataW H)
    (hm : a.eval m = .map (some b)) (hown : w.ownsMap P k R b n D) (hn : n < maxLen) (key val : Value) (kl : Lit) (hx : a.eval x = key) (hv : a.eval v = val) (hkey : keyOf P k key = some kl)
    (d : DataW H) (ps : List MemPlace) (hval : R val = some (d, ps))
    (hK : ∀ w', w'.ownsMap P k R b (n + 1) (D.put kl d) → w.grownBy w' (some b) → wpList P ops Q rest (a.put o.dst undef) w') :
    wpList P ops Q (o :: rest) a w := by
  refine wpList_plain hg fun K' hK' => ?_
  obtain ⟨w', hrun, r1, r2⟩ := hown.update K ht hn hkey hval
  unfold Oper.wp
  simp [execOp, hop, hm, hx, hv, hrun, Result.andThen]
  exact hK' _ _ (hK w' r1 r2)
theorem Only.of_grown {w w' : World} {b : Nat} (h : w.grownBy w' (some b)) : Only [b] w w' :=
  ⟨h.os, h.tape, h.output, h.size, fun k hk hn => h.block k hk (fun e => hn (by rw [Option.some.inj e]; exact List.mem_singleton.2 rfl))⟩
/-- Entries laid one by one. -/
def putsD (l : List (Int × Value)) : DataW Value := l.foldl (fun D p => D.put (.int .i64 p.1) (.held p.2)) (.map [])
theorem putsD_snoc (l : List (Int × Value)) (n : Int) (v : Value) : (putsD l).put (.int .i64 n) (.held v) = putsD (l ++ [(n, v)]) := by
  unfold putsD; rw [List.foldl_append]; rfl
/-- Block b is a map of these entries. -/
def MapL (w : World) (b : Nat) (l : List (Int × Value)) : Prop := w.ownsMap Tryz.prog 3 heldR b l.length (putsD l)
theorem keyed_int : Keyed Tryz.prog 3 := int_keyed Tryz.underlying3
theorem key_int {n : Int} (h : (Lit.int .i64 n).wf = true) : keyOf Tryz.prog 3 (.int .i64 n) = some (.int .i64 n) := keyOf_int_mk Tryz.underlying3 h
theorem MapL.start (w : World) : MapL (w.alloc (.map #[] 0)) w.heap.size [] := World.ownsMap_made w _ _ _
theorem MapL.only {w w' : World} {b : Nat} {l : List (Int × Value)} (h : MapL w b l) {ps : List Nat} (ho : Only ps w w') (hb : b ∉ ps) : MapL w' b l := by
  obtain ⟨es, clock, hh, r⟩ := h
  exact ⟨es, clock, (ho.block b (by exact World.ownsMap.lt (P := Tryz.prog) (k := 3) (R := heldR) (D := putsD l) (n := l.length) ⟨es, clock, hh, r⟩) hb).trans hh, r⟩
theorem MapL.lt {w : World} {b : Nat} {l : List (Int × Value)} (h : MapL w b l) : b < w.heap.size := World.ownsMap.lt h
theorem MapL.below {w w' : World} {b : Nat} {l : List (Int × Value)} (h : MapL w b l) (hb : Below w.heap.size w w') : MapL w' b l := h.only (ps := []) (Only.of_below hb) (by simp)
/-- One entry more. -/
theorem wpList_insert_map (w : World) {ops : Array Oper} {rest : List Oper} {o : Oper} {a : Act} {Q : Exit → Act → World → Prop} {b : Nat} {l : List (Int × Value)} (n : Int) (v : Value)
    (hown : MapL w b l) (hR : heldR v = some (.held v, [])) (m x y : Operand) (hg : o.guard = none) (hop : o.op = Op.insert 39 m x y) (hm : a.eval m = .map (some b)) (hx : a.eval x = .int .i64 n) (hv : a.eval y = v) (hn : (Lit.int .i64 n).wf = true) (hl : l.length ≤ 1000)
    (hK : ∀ w', MapL w' b (l ++ [(n, v)]) → Only [b] w w' → wpList Tryz.prog ops Q rest (a.put o.dst undef) w') : wpList Tryz.prog ops Q (o :: rest) a w :=
  wpList_insert_own w hg m x y 39 hop 3 43 keyed_int Tryz.underlying39 heldR b l.length (putsD l) hm hown (by unfold maxLen; omega) _ v _ hx hv (key_int hn) _ [] hR fun w' h1 h2 => hK w' (by
    unfold MapL
    rw [List.length_append, ← putsD_snoc]
    exact h1) (.of_grown h2)
end Go.Proofs.YtdhapmlgapflbaaGreatDoor
