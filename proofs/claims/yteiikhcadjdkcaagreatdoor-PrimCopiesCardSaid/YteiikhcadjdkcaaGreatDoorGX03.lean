/- The kernel's calls over a plain heap. Plain arithmetic of one step of a long division, on words. The walks of big.norm and big.digit. -/
import Derived.Test.YteiikhcadjdkcaaGreatDoorGX02
import Derived.Test.YteiikhcadjdkcaaGreatDoorChecked
set_option linter.unusedVariables false
set_option linter.unusedSimpArgs false
namespace Go.Proofs.YteiikhcadjdkcaaGreatDoor.Limb
def packB : List Nat → List Nat
  | a :: b :: c :: d :: t => (a + 256 * b + 65536 * c + 16777216 * d) :: packB t
  | [a, b, c] => [a + 256 * b + 65536 * c]
  | [a, b] => [a + 256 * b]
  | [a] => [a]
  | [] => []
def by4 (a : Nat) : List Nat := [a % 256, a / 256 % 256, a / 65536 % 256, a / 16777216 % 256]
def unpB : List Nat → List Nat
  | [] => []
  | a :: t => by4 a ++ unpB t
def flds (h : Hp) (o : Nat) : List Nat := (h.ws.drop (o / 2 + 3)).take (hdO h o).size
def bytO (h : Hp) (o : Nat) : List Nat := (unpB (flds h o)).take (hdO h o).len
def allocP (h : Hp) (c f n : Nat) : Option (Nat × Hp) :=
  if clsO h c && room h n then some (newO h, addO h f 0 c (List.replicate n (if f = 1 ∨ f = 4 then wd h.rt 0 else 0))) else none
def makeP (h : Hp) (c : Nat) (bs : List Nat) : Option (Nat × Hp) :=
  if clsO h c && room h ((bs.length + 3) / 4) then some (newO h, addO h 2 (4 * ((bs.length + 3) / 4) - bs.length) c (packB bs)) else none
def putF (h : Hp) (o i v : Nat) : Hp := putW h (o / 2 + 3 + i) v
def setC (h : Hp) (o c : Nat) : Hp := putW h (o / 2 + 1) c
def isF (h : Hp) (o f n : Nat) : Bool := isO h o && decide ((hdO h o).fmt = f) && decide (n ≤ (hdO h o).size)
def getF (h : Hp) (o i : Nat) : Nat := if isF h o 1 (i + 1) then fld h o i else 0
def ahead (z : Nat) : List Nat → List Nat
  | [] => []
  | a :: t => if a = z then [] else a :: ahead z t
def entries (h : Hp) (r : Nat) : List Nat := if isF h (wd h.rt r) 1 0 then ahead (wd h.rt 0) (flds h (wd h.rt r)) else []
def readsO (h : Hp) (t : List Nat) (o : Nat) : Bool := isF h o 2 0 && decide ((hdO h o).len = t.length) && decide (bytO h o = t)
def symP (h : Hp) (t : List Nat) : Nat := ((entries h 3).find? (readsO h t)).getD 0
def isGlob (h : Hp) (t : List Nat) (o : Nat) : Bool := isF h o 1 2 && readsO h t (fld h o 0)
def globP (h : Hp) (t : List Nat) : Nat := ((entries h 4).find? (isGlob h t)).getD 0
def putL (h : Hp) (r o : Nat) : Option Hp :=
  let l := wd h.rt r
  let n := (entries h r).length
  if isF h l 1 (n + 1) then some (putF h l n o) else none
def internP (h : Hp) (t : List Nat) : Option (Nat × Hp) :=
  let s := symP h t
  if s = 0 then (makeP h (wd h.rt 18) t).bind fun x => (putL x.2 3 x.1).map fun h2 => (x.1, h2) else some (s, h)
def setGlobP (h : Hp) (t : List Nat) (v : Nat) : Option (Nat × Hp) :=
  if globP h t = 0 then (internP h t).bind fun k => (allocP k.2 (wd k.2.rt 23) 1 2).bind fun a => (putL (putF (putF a.2 a.1 0 k.1) a.1 1 v) 4 a.1).map fun h2 => (a.1, h2) else none
structure Plan where
  name : List Nat
  sup : Nat
  fmt : Nat
  idx : Bool
  fields : List (List Nat)
def plans : List Plan := [⟨[79, 98, 106, 101, 99, 116], 0, 1, false, []⟩,
  ⟨[67, 108, 97, 115, 115], 10, 1, false, [[110, 97, 109, 101], [115, 117, 112, 101, 114, 99, 108, 97, 115, 115], [109, 101, 116, 104, 111, 100, 115], [102, 105, 101, 108, 100, 115], [102, 111, 114, 109, 97, 116], [116, 104, 105, 115]]⟩,
  ⟨[77, 101, 116, 97, 99, 108, 97, 115, 115], 11, 1, false, []⟩,
  ⟨[85, 110, 100, 101, 102, 105, 110, 101, 100, 79, 98, 106, 101, 99, 116], 10, 1, false, []⟩,
  ⟨[84, 114, 117, 101], 10, 1, false, []⟩,
  ⟨[70, 97, 108, 115, 101], 10, 1, false, []⟩,
  ⟨[83, 109, 97, 108, 108, 73, 110, 116, 101, 103, 101, 114], 31, 1, false, []⟩,
  ⟨[76, 97, 114, 103, 101, 73, 110, 116, 101, 103, 101, 114], 31, 3, true, []⟩,
  ⟨[83, 121, 109, 98, 111, 108], 19, 2, true, []⟩,
  ⟨[83, 116, 114, 105, 110, 103], 10, 2, true, []⟩,
  ⟨[65, 114, 114, 97, 121], 10, 1, true, []⟩,
  ⟨[87, 101, 97, 107, 65, 114, 114, 97, 121], 10, 4, true, []⟩,
  ⟨[66, 121, 116, 101, 65, 114, 114, 97, 121], 10, 2, true, []⟩,
  ⟨[65, 115, 115, 111, 99, 105, 97, 116, 105, 111, 110], 10, 1, false, [[107, 101, 121], [118, 97, 108, 117, 101]]⟩,
  ⟨[77, 101, 116, 104, 111, 100], 10, 1, false, [[104, 101, 97, 100, 101, 114], [115, 101, 108, 101, 99, 116, 111, 114], [99, 108, 97, 115, 115], [108, 105, 116, 101, 114, 97, 108, 115], [99, 111, 100, 101], [115, 111, 117, 114, 99, 101], [112, 114, 105, 109, 105, 116, 105, 118, 101]]⟩,
  ⟨[66, 108, 111, 99, 107], 10, 1, false, [[111, 117, 116, 101, 114], [112, 99], [97, 114, 103, 117, 109, 101, 110, 116, 115], [116, 101, 109, 112, 111, 114, 97, 114, 105, 101, 115], [104, 111, 109, 101], [115, 116, 97, 99, 107]]⟩,
  ⟨[67, 111, 110, 116, 101, 120, 116], 10, 1, true, [[115, 101, 110, 100, 101, 114], [112, 99], [116, 111, 112], [109, 101, 116, 104, 111, 100], [114, 101, 99, 101, 105, 118, 101, 114], [99, 108, 111, 115, 117, 114, 101], [109, 97, 114, 107]]⟩,
  ⟨[77, 101, 115, 115, 97, 103, 101], 10, 1, false, [[115, 101, 108, 101, 99, 116, 111, 114], [97, 114, 103, 117, 109, 101, 110, 116, 115]]⟩,
  ⟨[80, 114, 111, 99, 101, 115, 115], 10, 1, false, [[99, 111, 110, 116, 101, 120, 116], [112, 114, 105, 111, 114, 105, 116, 121], [110, 101, 120, 116], [110, 97, 109, 101], [119, 97, 107, 101], [119, 97, 105, 116, 105, 110, 103], [114, 101, 115, 117, 108, 116]]⟩,
  ⟨[83, 101, 109, 97, 112, 104, 111, 114, 101], 10, 1, false, [[115, 105, 103, 110, 97, 108, 115], [102, 105, 114, 115, 116], [108, 97, 115, 116]]⟩,
  ⟨[69, 120, 99, 101, 112, 116, 105, 111, 110], 10, 1, false, [[109, 101, 115, 115, 97, 103, 101, 84, 101, 120, 116], [115, 105, 103, 110, 97, 108, 67, 111, 110, 116, 101, 120, 116], [104, 97, 110, 100, 108, 101, 114, 67, 111, 110, 116, 101, 120, 116], [116, 97, 103]]⟩,
  ⟨[73, 110, 116, 101, 103, 101, 114], 10, 1, false, []⟩]
def sels : List (List Nat) := [[100, 111, 101, 115, 78, 111, 116, 85, 110, 100, 101, 114, 115, 116, 97, 110, 100, 58],
  [109, 117, 115, 116, 66, 101, 66, 111, 111, 108, 101, 97, 110],
  [99, 97, 110, 110, 111, 116, 82, 101, 116, 117, 114, 110, 58],
  [97, 98, 111, 117, 116, 84, 111, 82, 101, 116, 117, 114, 110, 58, 116, 104, 114, 111, 117, 103, 104, 58],
  [118, 97, 108, 117, 101],
  [118, 97, 108, 117, 101, 58],
  [118, 97, 108, 117, 101, 58, 118, 97, 108, 117, 101, 58],
  [118, 97, 108, 117, 101, 58, 118, 97, 108, 117, 101, 58, 118, 97, 108, 117, 101, 58],
  [100, 111, 73, 116],
  [115, 105, 103, 110, 97, 108],
  [117, 110, 119, 105, 110, 100]]
def fixedN : Nat → Nat → Nat
  | 0, _ => 0
  | k + 1, r => if r = 0 then 0 else match plans[r - 10]? with | none => 0 | some p => p.fields.length + fixedN k p.sup
def writtenN (f fx : Nat) (i : Bool) : Nat := f + 8 * fx + (if i then 65536 else 0)
def allocR (h : Hp) (r n : Nat) : Option Hp := (allocP h 0 1 n).map fun x => setR x.2 r x.1
def pairsP : List Nat → Hp → Option (List Nat × Hp)
  | [], h => some ([], h)
  | r :: t, h => (allocR h r 6).bind fun h1 => (allocP h1 0 1 6).bind fun m => (pairsP t m.2).map fun x => (m.1 :: x.1, x.2)
def wireP (h : Hp) (ms : List Nat) (i : Nat) (p : Plan) : Hp :=
  let c := wd h.rt (10 + i)
  let m := wd ms i
  let h := putF h c 4 (2 * writtenN p.fmt (fixedN 6 (10 + i)) p.idx + 1)
  let h := putF h m 4 (2 * 49 + 1)
  let h := putF h m 5 c
  let h := putF h m 1 (wd h.rt 11)
  let h := if p.sup = 0 then h else putF (putF h c 1 (wd h.rt p.sup)) m 1 (wd ms (p.sup - 10))
  setC (setC h c m) m (wd h.rt 12)
def wireAll (ms : List Nat) : Nat → List Plan → Hp → Hp
  | _, [], h => h
  | i, p :: t, h => wireAll ms (i + 1) t (wireP h ms i p)
def nameAll : Nat → List Plan → Hp → Option Hp
  | _, [], h => some h
  | i, p :: t, h => (internP h p.name).bind fun s => (setGlobP (putF s.2 (wd s.2.rt (10 + i)) 0 s.1) p.name (wd s.2.rt (10 + i))).bind fun x => nameAll (i + 1) t x.2
def selAll : Nat → List (List Nat) → Hp → Option Hp
  | _, [], h => some h
  | i, p :: t, h => (internP h p).bind fun s => selAll (i + 1) t (putF s.2 (wd s.2.rt 8) i s.1)
def internAll : List (List Nat) → Hp → Option (List Nat × Hp)
  | [], h => some ([], h)
  | s :: t, h => (internP h s).bind fun x => (internAll t x.2).map fun y => (x.1 :: y.1, y.2)
def putAll (a : Nat) : Nat → List Nat → Hp → Hp
  | _, [], h => h
  | i, v :: t, h => putAll a (i + 1) t (putF h a i v)
def ownF (h : Hp) (c : Nat) (fs : List (List Nat)) : Option Hp :=
  (internAll fs h).bind fun x => (allocP x.2 (wd x.2.rt 20) 1 fs.length).map fun a => putF (putAll a.1 0 x.1 a.2) c 3 a.1
def fieldAll : Nat → List Plan → Hp → Option Hp
  | _, [], h => some h
  | i, p :: t, h => if p.fields = [] then fieldAll (i + 1) t h else (ownF h (wd h.rt (10 + i)) p.fields).bind (fieldAll (i + 1) t)
end Go.Proofs.YteiikhcadjdkcaaGreatDoor.Limb
namespace Go.Proofs.YteiikhcadjdkcaaGreatDoor.Limb
def seg (us : List Nat) (o k : Nat) : Nat := val ((us.drop o).take k)
structure Guess (U V T v1 v2 u2 R : Nat) : Prop where
  hR : 0 < R
  hU1 : (T * 4294967296 + u2) * R ≤ U
  hU2 : U < (T * 4294967296 + u2 + 1) * R
  hV1 : (v1 * 4294967296 + v2) * R ≤ V
  hV2 : V < (v1 * 4294967296 + v2 + 1) * R
  hv : 2147483648 ≤ v1
  hv1 : v1 < 4294967296
  hv2 : v2 < 4294967296
  hu2 : u2 < 4294967296
  hlt : U < V * 4294967296
section
variable {U V T v1 v2 u2 R g r : Nat} (G : Guess U V T v1 v2 u2 R)
include G
theorem Guess.first : U / V ≤ T / v1 := by
  refine guess_ge (R := 4294967296 * R) (Nat.mul_pos (by decide) G.hR) ?_ ?_ (by have := G.hv; omega)
  · refine Nat.lt_of_lt_of_le G.hU2 ?_
    rw [← Nat.mul_assoc]
    exact Nat.mul_le_mul_right R (by have := G.hu2; omega)
  · refine Nat.le_trans ?_ G.hV1
    rw [← Nat.mul_assoc]
    exact Nat.mul_le_mul_right R (by omega)
theorem Guess.small {u0 u1 : Nat} (hT : g * v1 + r = T) (hTd : T = u0 * 4294967296 + u1) (hu1 : u1 < 4294967296) (hr : 4294967296 ≤ r) : g < 4294967296 := by
  refine guess_small hT hTd ?_ hu1 hr
  have h1 : U < V * 4294967296 := G.hlt
  have h2 : V * 4294967296 ≤ (v1 + 1) * 4294967296 * R * 4294967296 := by
    refine Nat.mul_le_mul_right _ (Nat.le_trans (Nat.le_of_lt G.hV2) (Nat.mul_le_mul_right R ?_))
    have := G.hv2; omega
  have h3 : u0 * 4294967296 * 4294967296 * R ≤ U := by
    refine Nat.le_trans (Nat.mul_le_mul_right R ?_) G.hU1
    rw [hTd, Nat.add_mul, Nat.add_assoc]; exact Nat.le_add_right _ _
  have h4 : u0 * 4294967296 * 4294967296 * R < (v1 + 1) * 4294967296 * 4294967296 * R := by
    have e : (v1 + 1) * 4294967296 * R * 4294967296 = (v1 + 1) * 4294967296 * 4294967296 * R := by rw [Nat.mul_right_comm]
    omega
  have := Nat.lt_of_mul_lt_mul_right h4
  omega
end
end Go.Proofs.YteiikhcadjdkcaaGreatDoor.Limb
namespace Go.Proofs.YteiikhcadjdkcaaGreatDoor
open Go Go.RowKit Limb
theorem size32 (W : World) : (sizeOf 29).run Tryz.prog W = .ok 1 W := by kernel_rfl
end Go.Proofs.YteiikhcadjdkcaaGreatDoor
