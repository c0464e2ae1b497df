/- What LargeTexts' walk asks besides: its calls' contracts. -/
import Derived.Test.YtbffpkmfhkphdaaGreatDoorGX44
import Derived.Test.YtbffpkmfhkphdaaGreatDoorRefParseBC
import Derived.Test.YtbffpkmfhkphdaaGreatDoorGX30
import Derived.Test.YtbffpkmfhkphdaaGreatDoorGX41
set_option linter.unusedVariables false
set_option linter.unusedSimpArgs false
namespace Go.Proofs.YtbffpkmfhkphdaaGreatDoor
open Go Go.RowKit Limb

/-- Is a base one of those from 2 to 36? -/
def okBase (b : Int) : Bool := decide (2 ≤ b) && decide (b ≤ 36)
theorem okBase_iff {b : Int} : okBase b = true ↔ 2 ≤ b ∧ b ≤ 36 := by unfold okBase; simp
theorem okBase_no {b : Int} (h : okBase b = false) : b < 2 ∨ 36 < b := by
  rw [Bool.eq_false_iff, Ne, okBase_iff] at h; omega

/-- What Print answers: the text, or none. -/
def PrintRes (ok : Bool) (S : ByteArray) (X X' : World) (e : Ending) : Prop :=
  e = .returned (.tuple #[.string (if ok = true then S else ⟨#[]⟩), .int .i64 (if ok = true then 0 else 1)]) ∧ Below X.heap.size X X'
theorem since_print {W X : World} {b : Bool} {a : Option Addr} {l : List Nat} {m c : Nat} {base : Int} {S : ByteArray} (h1 : Came W b a m l) (hS : S = ⟨(utxt base.toNat (signed b (val l))).toArray⟩) (h : Below W.heap.size W X) :
    Calls Tryz.prog 29 #[.agg #[.bool b, .slice a m c], .int .i64 base] X fun e X' => PrintRes (okBase base && mayB b l) S X X' e := by
  cases hb : okBase base with
  | false => exact print_base X b a m c base (okBase_no hb)
  | true =>
    rw [okBase_iff] at hb
    cases hm : mayB b l with
    | false => exact print_no X b a l m c base (h1.below h) hm hb.1 hb.2
    | true =>
      obtain ⟨k, rfl⟩ : ∃ k : Nat, base = (k : Int) := ⟨base.toNat, by omega⟩
      refine (large_print_ok X b a l m c k (h1.1.below h) h1.2.1 h1.2.2.1 hm (by omega) (by omega)).mono ?_
      rintro e X' ⟨⟨s, rfl, hs⟩, hb'⟩
      refine ⟨?_, hb'⟩
      rw [hS, Int.toNat_natCast, str_eq hs]; rfl

def parseCode (base : Int) (s : ByteArray) : Int := if okBase base = false then 1 else if badT base.toNat (parseT (bytesN s)) = true then 91 else 0
theorem since_parse (X : World) (s : ByteArray) (base : Int) (hs : s.size ≤ 140737488355328) :
    Calls Tryz.prog 30 #[.string s, .int .i64 base] X fun e X' => AnsR (parseCode base s) (parseZ base.toNat (bytesN s)) X X' e := by
  cases hb : okBase base with
  | false =>
    rw [show parseCode base s = 1 by unfold parseCode; rw [if_pos hb]]
    exact (parse_base X s base (okBase_no hb)).mono fun e X' he => AnsR.bad (d := 1) (by decide) he
  | true =>
    have hb' := okBase_iff.1 hb
    obtain ⟨k, rfl⟩ : ∃ k : Nat, base = (k : Int) := ⟨base.toNat, by omega⟩
    rw [Int.toNat_natCast]
    cases hbad : badT k (parseT (bytesN s)) with
    | true =>
      rw [show parseCode k s = 91 by unfold parseCode; rw [if_neg (by rw [hb]; decide), Int.toNat_natCast, if_pos hbad]]
      exact (parse_bad X s k (by omega) (by omega) hs hbad).mono fun e X' he => AnsR.bad (d := 91) (by decide) he
    | false =>
      rw [show parseCode k s = 0 by unfold parseCode; rw [if_neg (by rw [hb]; decide), Int.toNat_natCast, if_neg (by rw [hbad]; decide)]]
      exact (parse_ok X s k (by omega) (by omega) hs hbad).mono fun e X' he => AnsR.ok he

theorem since_lint {W X : World} {b : Bool} {a : Option Addr} {l : List Nat} {m c : Nat} {z : Int} (h1 : Came W b a m l) (hz : z = signed b (val l)) (h : Below W.heap.size W X) :
    Calls Tryz.prog 31 #[.agg #[.bool b, .slice a m c]] X fun e X' => e = lintRes (mayB b l && inI64 z) z ∧ Below X.heap.size X X' := by
  rw [hz]
  exact large_int X b a l m c (h1.1.below h) h1.2.1 h1.2.2.1 h1.2.2.2
theorem since_rint {W X : World} {b : Bool} {a : Option Addr} {l : List Nat} {m c : Nat} {z : Int} (h1 : Came W b a m l) (hz : z = signed b (val l)) (h : Below W.heap.size W X) :
    Calls Tryz.prog 33 #[.agg #[.bool b, .slice a m c]] X fun e X' => ∃ v ok, e = .returned (.tuple #[.int .i64 v, .bool ok]) ∧ Hid ((mayB b l = true → ok = inI64 z) ∧ (ok = true → v = z)) ∧ Below X.heap.size X X' := by
  rw [hz]
  exact ref_int X b a l m c (h1.below h)
theorem since_may' {W X : World} {b : Bool} {a : Option Addr} {l : List Nat} {n c : Nat} (h1 : Came W b a n l) (h : Below W.heap.size W X) :
    Calls Tryz.prog 12 #[.agg #[.bool b, .slice a n c]] X fun e X' => e = .returned (.bool (mayB b l)) ∧ Below X.heap.size X X' :=
  ref_May X b a l n c (h1.1.below h) h1.2.1 h1.2.2.1 h1.2.2.2
/-- The law's same, of two that are one integer. -/
theorem same_api (X : World) (b b' : Bool) (a a' : Option Addr) (n n' c c' : Nat) (z : Int) (h : ApiV X (.agg #[.bool b, .slice a n c]) z) (h' : ApiV X (.agg #[.bool b', .slice a' n' c']) z) (hl : (rep z.natAbs).length ≤ 9223372036854775807) :
    Calls Tryz.prog 15 #[.agg #[.bool b, .slice a n c], .agg #[.bool b', .slice a' n' c']] X fun e X' => e = .returned (.bool true) ∧ Below X.heap.size X X' := by
  obtain ⟨e1, e2, e3, e4⟩ := h.parts
  obtain ⟨f1, f2, f3, f4⟩ := h'.parts
  obtain rfl : b' = b := f1.trans e1.symm
  obtain rfl : n' = n := f2.trans e2.symm
  exact law_same X b' a a' _ n' c c' e4 f4 e2 (by omega)

end Go.Proofs.YtbffpkmfhkphdaaGreatDoor
