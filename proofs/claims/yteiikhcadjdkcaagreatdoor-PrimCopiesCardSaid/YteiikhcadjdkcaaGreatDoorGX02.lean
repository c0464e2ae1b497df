/- A heap of words, plain: objects, their headers, roots; no function of the program is named here. Plain arithmetic of one step of a long division (Knuth's D3 to D6), by numbers. What a slice of words is in memory, and laws on it; no function of the program is named here. Plain arithmetic of bytes and words. -/
import Derived.Test.YteiikhcadjdkcaaGreatDoorGX01
import Derived.Handy
import Derived.Lib.Hide
import Derived.Laws.AppendOwnNone
import Derived.BigQuiet
import Derived.Deep.QuietTactic
import Derived.WalkSpells
import Derived.WalkLawsBesides
import Derived.Lib.BitFns
set_option linter.unusedVariables false
set_option linter.unusedSimpArgs false
namespace Go.Proofs.YteiikhcadjdkcaaGreatDoor.Limb
structure Hp where
  ws : List Nat
  st : List Bool
  rt : List Nat
  size : Nat
  last : Nat
structure Hd where
  size : Nat
  fmt : Nat
  spare : Nat
  cls : Nat
  ser : Nat
structure Hd.Ok (h : Hd) : Prop where
  size : h.size ≤ 65535
  f1 : 1 ≤ h.fmt
  f4 : h.fmt ≤ 4
  spare : h.spare ≤ 3
  sp : h.spare = 0 ∨ (h.fmt = 2 ∧ 0 < h.size)
def Hd.w0 (h : Hd) : Nat := h.size + h.fmt * 16777216 + h.spare * 134217728
def unp (a c s : Nat) : Hd := ⟨a % 16777216, a / 16777216 % 8, a / 134217728 % 4, c, s⟩
theorem Hd.w0_lt {h : Hd} (k : h.Ok) : h.w0 < 536870912 := by
  have := k.size; have := k.f4; have := k.spare
  unfold Hd.w0; omega
theorem unp_w0 {h : Hd} (k : h.Ok) : unp h.w0 h.cls h.ser = h := by
  obtain ⟨a, b, c, d, e⟩ := h
  have h1 : a ≤ 65535 := k.size
  have h2 : b ≤ 4 := k.f4
  have h3 : c ≤ 3 := k.spare
  have e1 : Hd.w0 ⟨a, b, c, d, e⟩ = a + b * 16777216 + c * 134217728 := rfl
  rw [e1]
  unfold unp
  rw [Hd.mk.injEq]
  refine ⟨?_, ?_, ?_, rfl, rfl⟩ <;> omega
theorem wd_zero (a : Nat) (l : List Nat) : wd (a :: l) 0 = a := rfl
theorem wd_succ (a : Nat) (l : List Nat) (i : Nat) : wd (a :: l) (i + 1) = wd l i := rfl
theorem w0_unp {a c s : Nat} (h : a < 536870912) : (unp a c s).w0 = a := by
  unfold unp Hd.w0; simp only; omega
def begins (h : Hp) (i : Nat) : Bool := h.st.getD i false
def hd (h : Hp) (i : Nat) : Hd := unp (wd h.ws i) (wd h.ws (i + 1)) (wd h.ws (i + 2))
structure Good (h : Hp) : Prop where
  len : h.st.length = h.ws.length
  lim : Lim h.ws
  rlim : Lim h.rt
  rlen : h.rt.length = 64
  pos : 1 ≤ h.ws.length
  fits : h.ws.length ≤ h.size
  s64 : 64 ≤ h.size
  sM : h.size ≤ 1048576
  last : h.last < 4294967296
  first : ∀ i, begins h i = true → 1 ≤ i
  inside : ∀ i, begins h i = true → i + 3 + (hd h i).size ≤ h.ws.length
  ok : ∀ i, begins h i = true → (hd h i).Ok ∧ wd h.ws i < 536870912
  apart : ∀ i j, begins h i = true → begins h j = true → i < j → i + 3 + (hd h i).size ≤ j
  spz : ∀ i, begins h i = true → (hd h i).fmt = 2 → 0 < (hd h i).spare → wd h.ws (i + 2 + (hd h i).size) < 2 ^ (32 - 8 * (hd h i).spare)
theorem begins_lt {h : Hp} {i : Nat} (k : begins h i = true) : i < h.st.length := by
  unfold begins at k
  rw [List.getD_eq_getElem?_getD] at k
  by_cases hi : i < h.st.length
  · exact hi
  · rw [List.getElem?_eq_none (by omega)] at k; cases k
def isO (h : Hp) (o : Nat) : Bool := decide (o ≠ 0) && decide (o % 2 = 0) && begins h (o / 2)
theorem isO_iff {h : Hp} {o : Nat} : isO h o = true ↔ o ≠ 0 ∧ o % 2 = 0 ∧ begins h (o / 2) = true := by
  unfold isO; simp [and_assoc]
def valO (h : Hp) (o : Nat) : Bool := decide (o = 0) || decide (o % 2 = 1) || isO h o
def clsO (h : Hp) (o : Nat) : Bool := decide (o = 0) || isO h o
def hdO (h : Hp) (o : Nat) : Hd := hd h (o / 2)
def Hd.len (x : Hd) : Nat := if x.fmt = 2 then 4 * x.size - x.spare else x.size
def fld (h : Hp) (o i : Nat) : Nat := wd h.ws (o / 2 + 3 + i)
def room (h : Hp) (n : Nat) : Bool := decide (h.ws.length + 3 + n ≤ h.size) && decide (h.last ≠ 4294967295)
def addO (h : Hp) (f spare c : Nat) (fs : List Nat) : Hp :=
  { ws := h.ws ++ (Hd.w0 ⟨fs.length, f, spare, c, h.last + 1⟩ :: c :: (h.last + 1) :: fs), st := h.st ++ (true :: List.replicate (2 + fs.length) false), rt := h.rt, size := h.size, last := h.last + 1 }
def newO (h : Hp) : Nat := 2 * h.ws.length
theorem addO_len (h : Hp) (f spare c : Nat) (fs : List Nat) : (addO h f spare c fs).ws.length = h.ws.length + 3 + fs.length := by
  unfold addO; simp; omega
theorem addO_old (h : Hp) (f spare c : Nat) (fs : List Nat) {i : Nat} (hi : i < h.ws.length) : wd (addO h f spare c fs).ws i = wd h.ws i := by
  unfold addO; exact wd_append_lt hi
theorem addO_new (h : Hp) (f spare c : Nat) (fs : List Nat) (i : Nat) : wd (addO h f spare c fs).ws (h.ws.length + i) = wd (Hd.w0 ⟨fs.length, f, spare, c, h.last + 1⟩ :: c :: (h.last + 1) :: fs) i := by
  unfold addO; rw [wd_append_ge (by omega), Nat.add_sub_cancel_left]
theorem addO_begins (h : Hp) (f spare c : Nat) (fs : List Nat) (k : Good h) (i : Nat) : begins (addO h f spare c fs) i = if i = h.ws.length then true else begins h i := by
  unfold addO begins
  simp only [List.getD_eq_getElem?_getD]
  by_cases h1 : i < h.st.length
  · rw [List.getElem?_append_left h1, if_neg (by rw [← k.len]; omega)]
  · rw [List.getElem?_append_right (by omega)]
    by_cases h2 : i = h.ws.length
    · rw [if_pos h2, k.len, h2, Nat.sub_self]; rfl
    · rw [if_neg h2, List.getElem?_eq_none (l := h.st) (by omega)]
      obtain ⟨j, hj⟩ : ∃ j, i - h.st.length = j + 1 := ⟨i - h.st.length - 1, by have := k.len; omega⟩
      rw [hj, List.getElem?_cons_succ]
      by_cases h3 : j < 2 + fs.length
      · rw [List.getElem?_replicate, if_pos h3]; rfl
      · rw [List.getElem?_replicate, if_neg h3]
theorem addO_hd_new {h : Hp} {f spare c : Nat} {fs : List Nat} (k : (⟨fs.length, f, spare, c, h.last + 1⟩ : Hd).Ok) : hd (addO h f spare c fs) h.ws.length = ⟨fs.length, f, spare, c, h.last + 1⟩ := by
  unfold hd
  have e0 := addO_new h f spare c fs 0
  have e1 := addO_new h f spare c fs 1
  have e2 := addO_new h f spare c fs 2
  rw [Nat.add_zero, wd_zero] at e0
  rw [wd_succ, wd_zero] at e1
  rw [show (2 : Nat) = 0 + 1 + 1 from rfl, wd_succ, wd_succ, wd_zero] at e2
  rw [e0, e1, e2]
  exact unp_w0 k
theorem hd_old {h : Hp} (k : Good h) {f spare c : Nat} {fs : List Nat} {i : Nat} (hi : begins h i = true) : hd (addO h f spare c fs) i = hd h i := by
  have := k.inside i hi
  unfold hd
  rw [addO_old _ _ _ _ _ (by omega), addO_old _ _ _ _ _ (by omega), addO_old _ _ _ _ _ (by omega)]
theorem Good.add {h : Hp} (k : Good h) {f spare c : Nat} {fs : List Nat} (hr : room h fs.length = true) (hok : (⟨fs.length, f, spare, c, h.last + 1⟩ : Hd).Ok) (hc : c < 4294967296) (hl : Lim fs)
    (hz : f = 2 → 0 < spare → wd fs (fs.length - 1) < 2 ^ (32 - 8 * spare)) : Good (addO h f spare c fs) := by
  unfold room at hr
  rw [Bool.and_eq_true, decide_eq_true_eq, decide_eq_true_eq] at hr
  have hlast := k.last
  have hlen := addO_len h f spare c fs
  have hb := addO_begins h f spare c fs k
  have cases2 : ∀ {i}, begins (addO h f spare c fs) i = true → i = h.ws.length ∨ begins h i = true := fun {i} hi => by
    rw [hb] at hi
    by_cases e : i = h.ws.length
    · exact .inl e
    · rw [if_neg e] at hi; exact .inr hi
  have hwlt : wd (addO h f spare c fs).ws h.ws.length < 536870912 := by
    have e0 := addO_new h f spare c fs 0
    rw [Nat.add_zero, wd_zero] at e0
    rw [e0]; exact Hd.w0_lt hok
  refine ⟨?_, ?_, k.rlim, k.rlen, by omega, by rw [hlen]; exact hr.1, k.s64, k.sM, by show h.last + 1 < _; omega, ?_, ?_, ?_, ?_, ?_⟩
  · rw [hlen]; show (h.st ++ _).length = _
    rw [List.length_append, k.len]; simp; omega
  · refine k.lim.append (Lim.cons ?_ (Lim.cons hc (Lim.cons (by omega) hl)))
    have := Hd.w0_lt hok; omega
  · intro i hi
    rcases cases2 hi with rfl | hi
    · exact k.pos
    · exact k.first i hi
  · intro i hi
    rw [hlen]
    rcases cases2 hi with rfl | hi
    · rw [addO_hd_new hok]; simp
    · rw [hd_old k hi]; have := k.inside i hi; omega
  · intro i hi
    rcases cases2 hi with rfl | hi
    · rw [addO_hd_new hok]; exact ⟨hok, hwlt⟩
    · rw [hd_old k hi, addO_old _ _ _ _ _ (by have := begins_lt hi; rw [k.len] at this; exact this)]
      exact k.ok i hi
  · intro i j hi hj hij
    rcases cases2 hi with rfl | hi
    · rcases cases2 hj with rfl | hj
      · omega
      · have := begins_lt hj; rw [k.len] at this; omega
    · rw [hd_old k hi]
      rcases cases2 hj with rfl | hj
      · exact k.inside i hi
      · exact k.apart i j hi hj hij
  · intro i hi
    rcases cases2 hi with rfl | hi
    · rw [addO_hd_new hok]
      intro h2 h3
      have h2' : f = 2 := h2
      have h3' : 0 < spare := h3
      show wd _ (h.ws.length + 2 + fs.length) < _
      have hs := hok.sp
      have hpos : 0 < fs.length := by rcases hs with hs | ⟨_, hs⟩ <;> simp at hs <;> omega
      obtain ⟨m, hm⟩ : ∃ m, fs.length = m + 1 := ⟨fs.length - 1, by omega⟩
      rw [Nat.add_assoc, addO_new, hm, show 2 + (m + 1) = m + 1 + 1 + 1 by omega, wd_succ, wd_succ, wd_succ]
      have := hz h2' h3'
      rwa [hm, Nat.add_sub_cancel] at this
    · rw [hd_old k hi]
      intro h2 h3
      have hin := k.inside i hi
      rw [addO_old _ _ _ _ _ (by omega)]
      exact k.spz i hi h2 h3
def putW (h : Hp) (i v : Nat) : Hp := { h with ws := h.ws.set i v }
theorem putW_len (h : Hp) (i v : Nat) : (putW h i v).ws.length = h.ws.length := by unfold putW; simp
theorem putW_begins (h : Hp) (i v j : Nat) : begins (putW h i v) j = begins h j := rfl
theorem putW_wd (h : Hp) {i v : Nat} (hi : i < h.ws.length) (j : Nat) : wd (putW h i v).ws j = if j = i then v else wd h.ws j := wd_set hi j
theorem putW_hd {h : Hp} (k : Good h) {i n v : Nat} (hi : begins h i = true) (hn : n < (hd h i).size) {j : Nat} (hj : begins h j = true) : hd (putW h (i + 3 + n) v) j = hd h j := by
  have h1 := k.inside i hi
  have h2 := k.inside j hj
  have h3 : j + 2 < i + 3 + n ∨ i + 3 + n < j := by
    rcases Nat.lt_trichotomy i j with e | e | e
    · have := k.apart i j hi hj e; omega
    · omega
    · have := k.apart j i hj hi e; omega
  unfold hd
  rw [putW_wd h (by omega), putW_wd h (by omega), putW_wd h (by omega), if_neg (by omega), if_neg (by omega), if_neg (by omega)]
theorem Good.putW {h : Hp} (k : Good h) {i n v : Nat} (hi : begins h i = true) (hn : n < (hd h i).size) (hv : v < 4294967296)
    (hz : (hd h i).fmt = 2 → 0 < (hd h i).spare → n + 1 = (hd h i).size → v < 2 ^ (32 - 8 * (hd h i).spare)) : Good (putW h (i + 3 + n) v) := by
  have hin := k.inside i hi
  have hH := fun j (hj : begins h j = true) => putW_hd (v := v) k hi hn hj
  have hb := putW_begins h (i + 3 + n) v
  have hl := putW_len h (i + 3 + n) v
  have hw := putW_wd h (i := i + 3 + n) (v := v) (by omega)
  refine ⟨by rw [hl]; exact k.len, k.lim.set hv, k.rlim, k.rlen, by rw [hl]; exact k.pos, by rw [hl]; exact k.fits, k.s64, k.sM, k.last, fun j hj => k.first j hj, fun j hj => ?_, fun j hj => ?_, fun a b ha hb' hab => ?_, fun j hj => ?_⟩
  · rw [hH j hj, hl]; exact k.inside j hj
  · rw [hH j hj]
    refine ⟨(k.ok j hj).1, ?_⟩
    rw [hw]
    split
    · rename_i e
      have h1 := k.inside j hj
      rcases Nat.lt_trichotomy i j with e' | e' | e'
      · have := k.apart i j hi hj e'; omega
      · omega
      · have := k.apart j i hj hi e'; omega
    · exact (k.ok j hj).2
  · rw [hH a ha]; exact k.apart a b ha hb' hab
  · rw [hH j hj]
    intro h2 h3
    rw [hw]
    have h1 := k.inside j hj
    split
    · rename_i e
      have : j = i := by
        rcases Nat.lt_trichotomy i j with e' | e' | e'
        · have := k.apart i j hi hj e'; omega
        · exact e'.symm
        · have := k.apart j i hj hi e'; omega
      subst this
      exact hz h2 h3 (by omega)
    · exact k.spz j hj h2 h3
theorem setC_hd {h : Hp} (k : Good h) {i c : Nat} (hi : begins h i = true) {j : Nat} (hj : begins h j = true) :
    hd (putW h (i + 1) c) j = if j = i then { hd h i with cls := c } else hd h j := by
  have h1 := k.inside i hi
  have h2 := k.inside j hj
  unfold hd
  rw [putW_wd h (by omega), putW_wd h (by omega), putW_wd h (by omega)]
  by_cases e : j = i
  · subst e
    rw [if_pos rfl, if_neg (by omega), if_pos rfl, if_neg (by omega)]; rfl
  · rw [if_neg e]
    have h3 : j + 3 ≤ i ∨ i + 3 ≤ j := by
      rcases Nat.lt_trichotomy i j with e' | e' | e'
      · have := k.apart i j hi hj e'; omega
      · omega
      · have := k.apart j i hj hi e'; omega
    rw [if_neg (by omega), if_neg (by omega), if_neg (by omega)]
theorem Good.setC {h : Hp} (k : Good h) {i c : Nat} (hi : begins h i = true) (hc : c < 4294967296) : Good (Limb.putW h (i + 1) c) := by
  have hin := k.inside i hi
  have hH := fun j (hj : begins h j = true) => setC_hd (c := c) k hi hj
  have hl := putW_len h (i + 1) c
  have hw := putW_wd h (i := i + 1) (v := c) (by omega)
  have hsz : ∀ j, begins h j = true → (hd (Limb.putW h (i + 1) c) j).size = (hd h j).size ∧ (hd (Limb.putW h (i + 1) c) j).fmt = (hd h j).fmt ∧ (hd (Limb.putW h (i + 1) c) j).spare = (hd h j).spare := fun j hj => by
    rw [hH j hj]; split
    · rename_i e; subst e; exact ⟨rfl, rfl, rfl⟩
    · exact ⟨rfl, rfl, rfl⟩
  have hne : ∀ j, begins h j = true → j ≠ i + 1 := fun j hj e => by
    have := k.apart i j hi hj (by omega); omega
  refine ⟨by rw [hl]; exact k.len, k.lim.set hc, k.rlim, k.rlen, by rw [hl]; exact k.pos, by rw [hl]; exact k.fits, k.s64, k.sM, k.last, fun j hj => k.first j hj, fun j hj => ?_, fun j hj => ?_, fun a b ha hb' hab => ?_, fun j hj => ?_⟩
  · rw [(hsz j hj).1, hl]; exact k.inside j hj
  · obtain ⟨s1, s2, s3⟩ := hsz j hj
    obtain ⟨o1, o2⟩ := k.ok j hj
    refine ⟨⟨by rw [s1]; exact o1.size, by rw [s2]; exact o1.f1, by rw [s2]; exact o1.f4, by rw [s3]; exact o1.spare, by rw [s1, s2, s3]; exact o1.sp⟩, ?_⟩
    rw [hw, if_neg (hne j hj)]; exact o2
  · rw [(hsz a ha).1]; exact k.apart a b ha hb' hab
  · obtain ⟨s1, s2, s3⟩ := hsz j hj
    rw [s1, s2, s3]
    intro h2 h3
    have h1 := k.inside j hj
    rw [hw, if_neg ?_]
    · exact k.spz j hj h2 h3
    · intro e
      have : j = i := by
        rcases Nat.lt_trichotomy i j with e' | e' | e'
        · have := k.apart i j hi hj e'; omega
        · exact e'.symm
        · have := k.apart j i hj hi e'; omega
      subst this
      have hp : 0 < (hd h j).size := by
        have := (k.ok j hj).1.sp; omega
      omega
def setR (h : Hp) (i v : Nat) : Hp := { h with rt := h.rt.set i v }
theorem Good.setR {h : Hp} (k : Good h) {i v : Nat} (hv : v < 4294967296) : Good (setR h i v) :=
  ⟨k.len, k.lim, k.rlim.set hv, by show (h.rt.set i v).length = 64; rw [List.length_set]; exact k.rlen, k.pos, k.fits, k.s64, k.sM, k.last, k.first, k.inside, k.ok, k.apart, k.spz⟩
def emptyH (n : Nat) : Hp := ⟨[0], [false], List.replicate 64 0, n, 0⟩
theorem good_empty {n : Nat} (h1 : 64 ≤ n) (h2 : n ≤ 1048576) : Good (emptyH n) := by
  have hb : ∀ i, begins (emptyH n) i = true → False := fun i h => by
    have := begins_lt h
    have : i = 0 := by simpa [emptyH] using this
    subst this; cases h
  exact ⟨rfl, Lim.cons (by decide) Lim.nil, Lim.replicate _ (by decide), by simp [emptyH], by simp [emptyH], by show 1 ≤ n; omega, h1, h2, by show 0 < _; decide, fun i h => (hb i h).elim, fun i h => (hb i h).elim, fun i h => (hb i h).elim, fun i j h => (hb i h).elim, fun i h => (hb i h).elim⟩
end Go.Proofs.YteiikhcadjdkcaaGreatDoor.Limb
namespace Go.Proofs.YteiikhcadjdkcaaGreatDoor.Limb
theorem guess_ge {U V T v1 R : Nat} (hR : 0 < R) (hU : U < (T + 1) * R) (hV : v1 * R ≤ V) (hv : 0 < v1) : U / V ≤ T / v1 := by
  have hVp : 0 < V := Nat.lt_of_lt_of_le (Nat.mul_pos hv hR) hV
  rw [Nat.le_div_iff_mul_le hv]
  have h1 : U / V * V ≤ U := Nat.div_mul_le_self _ _
  have h2 : U / V * v1 * R ≤ U := by
    rw [Nat.mul_assoc]; exact Nat.le_trans (Nat.mul_le_mul_left _ hV) h1
  have h3 : U / V * v1 * R < (T + 1) * R := Nat.lt_of_le_of_lt h2 hU
  have := Nat.lt_of_mul_lt_mul_right h3
  omega
theorem guess_small {g v1 r T u0 u1 : Nat} (hT : g * v1 + r = T) (hTd : T = u0 * 4294967296 + u1) (hu : u0 ≤ v1) (h1 : u1 < 4294967296) (hr : 4294967296 ≤ r) : g < 4294967296 := by
  rcases Nat.lt_or_ge g 4294967296 with h | h
  · exact h
  · exfalso
    have h2 : 4294967296 * v1 ≤ g * v1 := Nat.mul_le_mul_right _ h
    have h3 : u0 * 4294967296 ≤ v1 * 4294967296 := Nat.mul_le_mul_right _ hu
    omega
end Go.Proofs.YteiikhcadjdkcaaGreatDoor.Limb
namespace Go.Proofs.YteiikhcadjdkcaaGreatDoor
open Go Go.RowKit
def Lay (K : IntKind) (w : World) (a : Option Addr) (l : List Nat) : Prop :=
  ∃ b off, (0 < l.length → a = some ⟨b, off, none⟩ ∧ b < w.heap.size) ∧ ∀ i, i < l.length → w.cell? ⟨b, off + i, none⟩ = some (.int K (Limb.wd l i : Nat))
theorem Lay.nil (K : IntKind) (w : World) (a : Option Addr) : Lay K w a [] := ⟨0, 0, fun h => absurd h (by simp), fun i h => absurd h (by simp)⟩
theorem Lay.below {K : IntKind} {w w' : World} {a : Option Addr} {l : List Nat} (h : Lay K w a l) (hb : Below w.heap.size w w') : Lay K w' a l := by
  obtain ⟨b, off, h1, h2⟩ := h
  refine ⟨b, off, fun hl => ⟨(h1 hl).1, by have := hb.size; have := (h1 hl).2; omega⟩, fun i hi => ?_⟩
  rw [hb.cell (by exact (h1 (by omega)).2)]
  exact h2 i hi
theorem Lay.take {K : IntKind} {w : World} {a : Option Addr} {l : List Nat} (h : Lay K w a l) (k : Nat) : Lay K w a (l.take k) := by
  obtain ⟨b, off, h1, h2⟩ := h
  refine ⟨b, off, fun hl => h1 (by rw [List.length_take] at hl; omega), fun i hi => ?_⟩
  rw [List.length_take] at hi
  rw [h2 i (by omega)]
  rw [Limb.wd_take (by omega)]
section
variable {P : Program} {K : IntKind} {w : World} {a : Option Addr} {l : List Nat}
theorem Lay.use (h : Lay K w a l) (t e : TypeId) (ht : P.underlying t = some (.slice e)) (hs : ∀ W, (sizeOf e).run P W = .ok 1 W) (cap : Nat) :
    ∃ b off, (∀ (W : World) (k : IntKind) (i : Int), 0 ≤ i → i < (l.length : Int) → (Instr.indexAt t (.slice a l.length cap) (.int k i)).run P W = .ok (.pointer (some ⟨b, off + i.toNat, none⟩)) W) ∧
      (∀ w', Below w.heap.size w w' → ∀ i, i < l.length → w'.cell? ⟨b, off + i, none⟩ = some (.int K (Limb.wd l i : Nat))) ∧ (0 < l.length → b < w.heap.size) := by
  obtain ⟨b, off, h1, h2⟩ := h
  refine ⟨b, off, fun W k i hi0 hi1 => ?_, fun w' hb i hi => by rw [hb.cell (by exact (h1 (by omega)).2)]; exact h2 i hi, fun h => (h1 h).2⟩
  rw [(h1 (by omega)).1]
  simp [Instr.indexAt, run_underlying ht, asIntOf, hi0, hi1, hs, Result.andThen, Addr.add]
end
def Row (w : World) (g : Nat) (e : TypeId) (cs : List Value) : Prop := w.heap[g]? = some (.cells cs.toArray e (0, 0))
def nums (k : IntKind) (zs : List Nat) : List Value := zs.map fun n => Value.int k (n : Nat)
theorem nums_length (k : IntKind) (zs : List Nat) : (nums k zs).length = zs.length := by simp [nums]
theorem nums_replicate (k : IntKind) (n : Nat) : nums k (List.replicate n 0) = List.replicate n (Value.int k 0) := by simp [nums]
theorem nums_get {k : IntKind} {zs : List Nat} {i : Nat} (h : i < zs.length) : (nums k zs)[i]? = some (.int k (Limb.wd zs i : Nat)) := by
  rw [Limb.wd_lt h]; simp [nums, h]
theorem nums_set (k : IntKind) (zs : List Nat) (i d : Nat) : nums k (zs.set i d) = (nums k zs).set i (.int k d) := by
  simp [nums, List.map_set]
theorem nums_take (k : IntKind) (zs : List Nat) (n : Nat) : (nums k zs).take n = nums k (zs.take n) := by simp [nums, List.map_take]
theorem nums_append (k : IntKind) (a b : List Nat) : nums k (a ++ b) = nums k a ++ nums k b := by simp [nums]
section
variable {w : World} {g : Nat} {e : TypeId} {cs : List Value}
theorem Row.cell_at (h : Row w g e cs) (i : Nat) : w.cell? ⟨g, i, none⟩ = cs[i]? := by
  unfold Row at h; simp [World.cell?, h]
theorem Row.free (h : Row w g e cs) (i : Nat) : w.frozen? ⟨g, i, none⟩ = false := by
  unfold Row at h; simp [World.frozen?, h]
theorem Row.lt (h : Row w g e cs) : g < w.heap.size := by
  unfold Row at h; exact (Array.getElem?_eq_some_iff.1 h).1
theorem Row.cell {k : IntKind} {zs : List Nat} (h : Row w g e (nums k zs)) {i : Nat} (hi : i < zs.length) : w.cell? ⟨g, i, none⟩ = some (.int k (Limb.wd zs i : Nat)) := by
  rw [h.cell_at, nums_get hi]
theorem Row.below {w' : World} {B : Nat} (h : Row w g e cs) (hb : Below B w w') (hg : g < B) : Row w' g e cs := by
  unfold Row at *; rw [hb.block g hg]; exact h
theorem Row.store_any (h : Row w g e cs) (i : Nat) (v : Value) : Row (w.setCell ⟨g, i, none⟩ v) g e (cs.set i v) := by
  unfold Row at *
  simp only [World.setCell, Array.getElem?_modify, if_true, h, Option.map_some]
  simp
theorem Row.store {k : IntKind} {zs : List Nat} (h : Row w g e (nums k zs)) (i : Nat) (v : Int) (d : Nat) (hv : v = d) : Row (w.setCell ⟨g, i, none⟩ (.int k v)) g e (nums k (zs.set i d)) := by
  rw [nums_set, hv]; exact h.store_any i _
theorem Row.other (h : Row w g e cs) {a : Addr} (ha : g ≠ a.block) (v : Value) : Row (w.setCell a v) g e cs := by
  unfold Row at *; rw [Below.heap_setCell _ _ _ _ ha]; exact h
theorem Row.alloc (h : Row w g e cs) (o : Obj) : Row (w.alloc o) g e cs := by
  have := h.lt
  unfold Row at *; rw [Below.heap_alloc _ _ _ this]; exact h
theorem Row.drew (h : Row w g e cs) : Row w.drew g e cs := h
theorem Row.lay {K : IntKind} {zs : List Nat} (h : Row w g e (nums K zs)) : Lay K w (some ⟨g, 0, none⟩) zs :=
  ⟨g, 0, fun _ => ⟨rfl, h.lt⟩, fun i hi => by rw [Nat.zero_add]; exact h.cell hi⟩
end
theorem below_store {B : Nat} {a w : World} (h : Below B a w) {g i : Nat} (hp : B ≤ g) (u : Value) : Below B a (w.setCell ⟨g, i, none⟩ u) := h.setCell (by exact hp) u
theorem wpList_make_row {P : Program} {w : World} {ops : Array Oper} {rest : List Oper} {o : Oper} {a : Act} {Q : Exit → Act → World → Prop}
    (hg : o.guard = none) (l c : Operand) (t : TypeId) (hop : o.op = Op.makeSlice t l c) (e : TypeId) (z : Value) (bytes : Nat)
    (h1 : P.underlying t = some (.slice e)) (h2 : (P.info? e).map (fun i => (i.zero, i.size, i.bytes)) = some (some z, 1, bytes)) (hz : z.cells = #[z])
    (kl kc : IntKind) (L C : Int) (n m : Nat) (hl : a.eval l = .int kl L) (hc : a.eval c = .int kc C) (hL : L = n) (hC : C = m) (hnm : n ≤ m)
    (b2 : bytes * m ≤ 281474976710656) (b3 : m ≤ 9223372036854775807)
    (hK : ∀ w1 g, w.heap.size ≤ g → w1.heap.size = g + 1 → Row w1 g e (List.replicate m z) → Below w.heap.size w w1 → wpList P ops Q rest (a.put o.dst (.slice (some ⟨g, 0, none⟩) n m)) w1) :
    wpList P ops Q (o :: rest) a w := by
  refine wpList_plain hg fun K hK' => ?_
  obtain ⟨i, hi, hz0, hs, hbts⟩ := info_parts h2
  subst hL hC
  have hb' : (i.bytes : Int) * (m : Int) ≤ 281474976710656 := by
    rw [hbts]
    have h : ((bytes * m : Nat) : Int) ≤ 281474976710656 := by omega
    rwa [Int.natCast_mul] at h
  have hrun := run_make (P := P) w t e i z h1 hi hz0 kl kc n m (by omega) (by omega) hb' (by omega)
  unfold Oper.wp
  simp [execOp, hop, hl, hc, hrun, Result.andThen]
  refine hK' _ _ (hK _ w.heap.size (Nat.le_refl _) (World.size_alloc _ _) ?_ ((Below.refl _ _).alloc (Nat.le_refl _) _))
  unfold Row
  rw [heap_alloc_new, hs, Nat.mul_one, hz]
  have : (madeCells #[z] m) = (List.replicate m z).toArray := by
    rw [← toList_madeCells_one]
  rw [this]
theorem Lay.drop {K : IntKind} {w : World} {b off : Nat} {l : List Nat} (h : Lay K w (some ⟨b, off, none⟩) l) (k : Nat) : Lay K w (some ⟨b, off + k, none⟩) (l.drop k) := by
  obtain ⟨b', off', h1, h2⟩ := h
  by_cases hl : 0 < l.length
  · have h3 := (h1 hl).1
    simp only [Option.some.injEq, Addr.mk.injEq, and_true] at h3
    obtain ⟨rfl, rfl⟩ := h3
    refine ⟨b, off + k, fun _ => ⟨rfl, (h1 hl).2⟩, fun i hi => ?_⟩
    rw [List.length_drop] at hi
    rw [Nat.add_assoc, h2 (k + i) (by omega), Limb.wd_drop]
  · exact ⟨b, off + k, fun h => absurd h (by rw [List.length_drop]; omega), fun i hi => absurd hi (by rw [List.length_drop]; omega)⟩
theorem Lay.drewN {K : IntKind} {w : World} {a : Option Addr} {l : List Nat} (h : Lay K w a l) (n : Nat) : Lay K (w.drewN n) a l := h
theorem Row.drewN {w : World} {g : Nat} {e : TypeId} {cs : List Value} (h : Row w g e cs) (n : Nat) : Row (w.drewN n) g e cs := h
end Go.Proofs.YteiikhcadjdkcaaGreatDoor
namespace Go.Proofs.YteiikhcadjdkcaaGreatDoor.Limb
def bval (f : Nat → Nat) : Nat → Nat
  | 0 => 0
  | k + 1 => bval f k + 256 ^ k * f k
theorem val_set_add {l : List Nat} {i e : Nat} (h : i < l.length) : val (l.set i (wd l i + e)) = val l + W i * e := by
  induction l generalizing i with
  | nil => simp at h
  | cons d t ih =>
    cases i with
    | zero => simp [wd, val, W_zero]; omega
    | succ i =>
      have h' : i < t.length := by simpa using h
      have e1 : wd (d :: t) (i + 1) = wd t i := by unfold wd; rw [List.getD_cons_succ]
      rw [e1, List.set_cons_succ, val, val, ih h', W_succ, Nat.mul_add, Nat.mul_assoc]; omega
theorem W_256 (k : Nat) : W (k / 4) * 256 ^ (k % 4) = 256 ^ k := by
  rw [show W (k / 4) = 256 ^ (4 * (k / 4)) from by unfold W; rw [Nat.pow_mul], ← Nat.pow_add, show 4 * (k / 4) + k % 4 = k from by omega]
structure Laid (f : Nat → Nat) (xs : List Nat) (m k : Nat) : Prop where
  len : xs.length = m
  lim : Lim xs
  eq : val xs = bval f k
  here : wd xs (k / 4) < 256 ^ (k % 4)
  beyond : ∀ j, k / 4 < j → wd xs j = 0
theorem Laid.start (f : Nat → Nat) (m : Nat) : Laid f (List.replicate m 0) m 0 :=
  ⟨by simp, Lim.replicate _ (by decide), by rw [val_replicate]; rfl, by rw [wd_replicate]; decide, fun j _ => wd_replicate _ _⟩
theorem pow256_le {r : Nat} (h : r < 4) : 256 ^ (r + 1) ≤ 4294967296 := Nat.pow_le_pow_right (n := 256) (by decide) (show r + 1 ≤ 4 by omega)
theorem Laid.new_lt {f : Nat → Nat} {xs : List Nat} {m k : Nat} (D : Laid f xs m k) (hf : f k < 256) : wd xs (k / 4) + f k * 256 ^ (k % 4) < 256 ^ (k % 4 + 1) := by
  have h := D.here
  have h2 := Nat.mul_le_mul_right (256 ^ (k % 4)) (show f k ≤ 255 by omega)
  rw [Nat.pow_succ]; omega
theorem Laid.step {f : Nat → Nat} {xs : List Nat} {m k : Nat} (D : Laid f xs m k) (hf : f k < 256) (hk : k / 4 < m) :
    Laid f (xs.set (k / 4) (wd xs (k / 4) + f k * 256 ^ (k % 4))) m (k + 1) := by
  have hl := D.len
  have hn := D.new_lt hf
  have hp := pow256_le (r := k % 4) (by omega)
  refine ⟨by rw [List.length_set]; exact hl, D.lim.set (by omega), ?_, ?_, ?_⟩
  · rw [val_set_add (by omega), D.eq, bval, Nat.mul_comm (f k), ← Nat.mul_assoc, W_256]
  · rw [wd_set (by omega)]
    by_cases h : k % 4 = 3
    · rw [if_neg (by omega), show (k + 1) % 4 = 0 from by omega, D.beyond _ (by omega)]; decide
    · rw [if_pos (by omega), show (k + 1) % 4 = k % 4 + 1 from by omega]; exact hn
  · intro j hj
    rw [wd_set (by omega), if_neg (by omega)]
    exact D.beyond j (by omega)
def byt (l : List Nat) (j : Nat) : Nat := wd l (j / 4) / 256 ^ (j % 4) % 256
end Go.Proofs.YteiikhcadjdkcaaGreatDoor.Limb
