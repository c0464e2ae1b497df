/- The kernel's boot, evaluated: the program's order of steps and the document's come to one heap. What the kernel's calls keep of a heap: its roots, and which objects there are. Integers of package big in memory; the walk of made. -/
import Derived.Test.YteiikhcadjdkcaaGreatDoorGX06
import Derived.Deep.RegionHeld3
set_option linter.unusedVariables false
set_option linter.unusedSimpArgs false
namespace Go.Proofs.YteiikhcadjdkcaaGreatDoor.Limb
def qallocR (h : Pk) (r n : Nat) : Option Pk := (qalloc h 0 1 n).bind fun x => qsetr x.2 r x.1
theorem up_allocR {h : Hp} (k : Good h) (r n : Nat) : Up1 (allocR h r n) (qallocR (pk h) r n) := by
  have e : allocR h r n = (allocP h 0 1 n).bind fun x => some (setR x.2 r x.1) := by unfold allocR; cases allocP h 0 1 n <;> rfl
  rw [e]
  exact (up_alloc k _ _ _).bind1 fun a h1 k1 => up_setr k1 r a
def qpairs : List Nat → Pk → Option (List Nat × Pk)
  | [], h => some ([], h)
  | r :: t, h => (qallocR h r 6).bind fun h1 => (qalloc h1 0 1 6).bind fun m => (qpairs t m.2).map fun x => (m.1 :: x.1, x.2)
theorem up_pairs : ∀ (l : List Nat) (h : Hp), Good h → Up (pairsP l h) (qpairs l (pk h))
  | [], h, k => Up.ret k _
  | r :: t, h, k => (up_allocR k r 6).bind fun _ k1 => (up_alloc k1 0 1 6).bind fun a h2 k2 => (up_pairs t h2 k2).map (fun y => a :: y)
def qwire (h : Pk) (ms : List Nat) (i : Nat) (p : Plan) : Option Pk :=
  let c := rd h.R (10 + i)
  let m := wd ms i
  (qput h c 4 (2 * writtenN p.fmt (fixedN 6 (10 + i)) p.idx + 1)).bind fun h => (qput h m 4 (2 * 49 + 1)).bind fun h => (qput h m 5 c).bind fun h => (qput h m 1 (rd h.R 11)).bind fun h =>
  ((if p.sup = 0 then some h else (qput h c 1 (rd h.R p.sup)).bind fun h1 => qput h1 m 1 (wd ms (p.sup - 10)))).bind fun h => (qcls h c m).bind fun h => qcls h m (rd h.R 12)
theorem up_wire {h : Hp} (k : Good h) (ms : List Nat) (i : Nat) (p : Plan) : Up1 (some (wireP h ms i p)) (qwire (pk h) ms i p) := by
  have e : some (wireP h ms i p) = (some (putF h (wd h.rt (10 + i)) 4 (2 * writtenN p.fmt (fixedN 6 (10 + i)) p.idx + 1))).bind fun h1 => (some (putF h1 (wd ms i) 4 (2 * 49 + 1))).bind fun h1 => (some (putF h1 (wd ms i) 5 (wd h.rt (10 + i)))).bind fun h1 => (some (putF h1 (wd ms i) 1 (wd h1.rt 11))).bind fun h1 =>
    (if p.sup = 0 then some h1 else (some (putF h1 (wd h.rt (10 + i)) 1 (wd h1.rt p.sup))).bind fun h2 => some (putF h2 (wd ms i) 1 (wd ms (p.sup - 10)))).bind fun h1 => (some (setC h1 (wd h.rt (10 + i)) (wd ms i))).bind fun h1 => some (setC h1 (wd ms i) (wd h1.rt 12)) := by
    unfold wireP
    by_cases h0 : p.sup = 0
    · simp only [if_pos h0]; rfl
    · simp only [if_neg h0]; rfl
  rw [e]
  unfold qwire
  simp only [rd_root k]
  refine (up_put k _ _ _).bind1 fun h1 k1 => (up_put k1 _ _ _).bind1 fun h2 k2 => (up_put k2 _ _ _).bind1 fun h3 k3 => ?_
  simp only [rd_root k3]
  refine (up_put k3 _ _ _).bind1 fun h4 k4 => Up1.bind1 ?_ fun h5 k5 => ?_
  · by_cases h0 : p.sup = 0
    · simp only [if_pos h0]; exact Up1.ret k4
    · simp only [if_neg h0, rd_root k4]
      exact (up_put k4 _ _ _).bind1 fun h6 k6 => up_put k6 _ _ _
  · refine (up_cls k5 _ _).bind1 fun h6 k6 => ?_
    simp only [rd_root k6]
    exact up_cls k6 _ _
def qwireAll (ms : List Nat) : Nat → List Plan → Pk → Option Pk
  | _, [], h => some h
  | i, p :: t, h => (qwire h ms i p).bind fun x => qwireAll ms (i + 1) t x
theorem up_wireAll (ms : List Nat) : ∀ (l : List Plan) (i : Nat) (h : Hp), Good h → Up1 (some (wireAll ms i l h)) (qwireAll ms i l (pk h))
  | [], _, h, k => Up1.ret k
  | p :: t, i, h, k => by
    show Up1 ((some (wireP h ms i p)).bind fun x => some (wireAll ms (i + 1) t x)) _
    exact (up_wire k ms i p).bind1 fun h2 k2 => up_wireAll ms t (i + 1) h2 k2
def clsAll : List (Nat × Nat) → Hp → Hp
  | [], h => h
  | (r, c) :: t, h => clsAll t (setC h (wd h.rt r) (wd h.rt c))
def qclsAll : List (Nat × Nat) → Pk → Option Pk
  | [], h => some h
  | (r, c) :: t, h => (qcls h (rd h.R r) (rd h.R c)).bind fun x => qclsAll t x
theorem up_clsAll : ∀ (l : List (Nat × Nat)) (h : Hp), Good h → Up1 (some (clsAll l h)) (qclsAll l (pk h))
  | [], h, k => Up1.ret k
  | (r, c) :: t, h, k => by
    show Up1 ((some (setC h (wd h.rt r) (wd h.rt c))).bind fun x => some (clsAll t x)) _
    unfold qclsAll
    simp only [rd_root k]
    exact (up_cls k _ _).bind1 fun h2 k2 => up_clsAll t h2 k2
def bareCls : List (Nat × Nat) := [(0, 13), (1, 14), (2, 15), (3, 20), (4, 20), (6, 20), (8, 20)]
def tenOn : List Nat := [10, 11, 12, 13, 14, 15, 16, 17, 18, 19, 20, 21, 22, 23, 24, 25, 26, 27, 28, 29, 30, 31]
def classesP (h : Hp) : Option Hp := (pairsP tenOn h).map fun x => clsAll bareCls (wireAll x.1 0 plans x.2)
def qclasses (h : Pk) : Option Pk := (qpairs tenOn h).bind fun x => (qwireAll x.1 0 plans x.2).bind fun y => qclsAll bareCls y
theorem up_classes {h : Hp} (k : Good h) : Up1 (classesP h) (qclasses (pk h)) := by
  have e : classesP h = (pairsP tenOn h).bind fun x => (some (wireAll x.1 0 plans x.2)).bind fun y => some (clsAll bareCls y) := by unfold classesP; cases pairsP tenOn h <;> rfl
  rw [e]
  exact (up_pairs _ h k).bind1 fun a h1 k1 => (up_wireAll a plans 0 h1 k1).bind1 fun h2 k2 => up_clsAll _ h2 k2
def firstAll : List (Nat × Nat) → Hp → Option Hp
  | [], h => some h
  | (r, n) :: t, h => (allocR h r n).bind fun x => firstAll t x
def qfirstAll : List (Nat × Nat) → Pk → Option Pk
  | [], h => some h
  | (r, n) :: t, h => (qallocR h r n).bind fun x => qfirstAll t x
theorem up_firstAll : ∀ (l : List (Nat × Nat)) (h : Hp), Good h → Up1 (firstAll l h) (qfirstAll l (pk h))
  | [], h, k => Up1.ret k
  | (r, n) :: t, h, k => (up_allocR k r n).bind1 fun h1 k1 => up_firstAll t h1 k1
def first7 : List (Nat × Nat) := [(0, 0), (1, 0), (2, 0), (3, 128), (4, 32), (6, 8), (8, 16)]
def nilR : List Nat → Hp → Hp
  | [], h => h
  | r :: t, h => nilR t (setR h r (wd h.rt 0))
def qnilR : List Nat → Pk → Option Pk
  | [], h => some h
  | r :: t, h => (qsetr h r (rd h.R 0)).bind fun x => qnilR t x
theorem up_nilR : ∀ (l : List Nat) (h : Hp), Good h → Up1 (some (nilR l h)) (qnilR l (pk h))
  | [], h, k => Up1.ret k
  | r :: t, h, k => by
    show Up1 ((some (setR h r (wd h.rt 0))).bind fun x => some (nilR t x)) _
    unfold qnilR
    simp only [rd_root k]
    exact (up_setr k _ _).bind1 fun h2 k2 => up_nilR t h2 k2
def bonesP (n : Nat) : Option Hp := (firstAll first7 (emptyH n)).bind fun h => classesP (nilR [5, 7, 9] h)
def qbones (n : Nat) : Option Pk := (qfirstAll first7 (pk (emptyH n))).bind fun h => (qnilR [5, 7, 9] h).bind qclasses
theorem up_bones {n : Nat} (h1 : 64 ≤ n) (h2 : n ≤ 1048576) : Up1 (bonesP n) (qbones n) := by
  refine (up_firstAll first7 _ (good_empty h1 h2)).bind1 fun h k => ?_
  show Up1 ((some (nilR [5, 7, 9] h)).bind classesP) _
  exact (up_nilR _ h k).bind1 fun h3 k3 => up_classes k3
def bootP (n : Nat) : Option Hp := (bonesP n).bind fun h => (nameAll 0 plans h).bind fun h => (selAll 0 sels h).bind fun h => fieldAll 0 plans h
def qboot (n : Nat) : Option Pk := (qbones n).bind fun h => (qnameAll 0 plans h).bind fun h => (qselAll 0 sels h).bind fun h => qfieldAll 0 plans h
theorem up_boot {n : Nat} (h1 : 64 ≤ n) (h2 : n ≤ 1048576) : Up1 (bootP n) (qboot n) :=
  (up_bones h1 h2).bind1 fun h k => (up_nameAll plans 0 h k (by decide +kernel)).bind1 fun h k => (up_selAll sels 0 h k (by decide +kernel)).bind1 fun h k => up_fieldAll plans 0 h k (by decide +kernel)
end Go.Proofs.YteiikhcadjdkcaaGreatDoor.Limb
namespace Go.Proofs.YteiikhcadjdkcaaGreatDoor.Limb
structure Grow (h h' : Hp) : Prop where
  good : Good h'
  rt : h'.rt = h.rt
  size : h'.size = h.size
  isF : ∀ o f n, isF h o f n = true → isF h' o f n = true
theorem Grow.refl {h : Hp} (k : Good h) : Grow h h := ⟨k, rfl, rfl, fun _ _ _ e => e⟩
theorem Grow.trans {a b c : Hp} (x : Grow a b) (y : Grow b c) : Grow a c := ⟨y.good, y.rt.trans x.rt, y.size.trans x.size, fun o f n e => y.isF o f n (x.isF o f n e)⟩
theorem isF_iff {h : Hp} {o f n : Nat} : isF h o f n = true ↔ isO h o = true ∧ (hdO h o).fmt = f ∧ n ≤ (hdO h o).size := by
  unfold Limb.isF; simp [and_assoc]
theorem isF_le {h : Hp} {o f n m : Nat} (e : isF h o f n = true) (hm : m ≤ n) : isF h o f m = true := by
  rw [isF_iff] at e ⊢; exact ⟨e.1, e.2.1, by omega⟩
theorem isF_isO {h : Hp} {o f n : Nat} (e : isF h o f n = true) : isO h o = true := (isF_iff.1 e).1
theorem isO_isF {h : Hp} {o : Nat} (e : isO h o = true) : isF h o (hdO h o).fmt 0 = true := isF_iff.2 ⟨e, rfl, Nat.zero_le _⟩
theorem Grow.isO {h h' : Hp} (x : Grow h h') {o : Nat} (e : isO h o = true) : isO h' o = true := isF_isO (x.isF _ _ _ (isO_isF e))
theorem Grow.val {h h' : Hp} (x : Grow h h') {o : Nat} (e : valO h o = true) : valO h' o = true := by
  unfold valO at e ⊢
  simp only [Bool.or_eq_true] at e ⊢
  rcases e with e | e
  · exact .inl e
  · exact .inr (x.isO e)
theorem Grow.cls {h h' : Hp} (x : Grow h h') {o : Nat} (e : clsO h o = true) : clsO h' o = true := by
  unfold clsO at e ⊢
  simp only [Bool.or_eq_true] at e ⊢
  rcases e with e | e
  · exact .inl e
  · exact .inr (x.isO e)
theorem isO_lt {h : Hp} (k : Good h) {o : Nat} (e : isO h o = true) : o < 4294967296 := by
  have := isO_iff.1 e
  have h1 := begins_lt this.2.2
  have := k.len; have := k.fits; have := k.sM
  omega
theorem isO_val {h : Hp} {o : Nat} (e : isO h o = true) : valO h o = true := by
  unfold valO; rw [e]; simp
theorem isO_cls {h : Hp} {o : Nat} (e : isO h o = true) : clsO h o = true := by
  unfold clsO; rw [e]; simp
theorem grow_add {h : Hp} (k : Good h) {f spare c : Nat} {fs : List Nat} (g : Good (addO h f spare c fs)) : Grow h (addO h f spare c fs) := by
  refine ⟨g, rfl, rfl, fun o f' n e => ?_⟩
  rw [isF_iff] at e ⊢
  obtain ⟨e1, e2, e3⟩ := e
  have e4 := isO_iff.1 e1
  have hh : hdO (addO h f spare c fs) o = hdO h o := hd_old k e4.2.2
  refine ⟨isO_iff.2 ⟨e4.1, e4.2.1, ?_⟩, by rw [hh]; exact e2, by rw [hh]; exact e3⟩
  rw [addO_begins _ _ _ _ _ k]
  split
  · rfl
  · exact e4.2.2
theorem new_isF {h : Hp} (k : Good h) {f spare c : Nat} {fs : List Nat} (hok : (⟨fs.length, f, spare, c, h.last + 1⟩ : Hd).Ok) : isF (addO h f spare c fs) (newO h) f fs.length = true := by
  have e : newO h / 2 = h.ws.length := by unfold newO; omega
  have hh : hdO (addO h f spare c fs) (newO h) = ⟨fs.length, f, spare, c, h.last + 1⟩ := by unfold hdO; rw [e]; exact addO_hd_new hok
  rw [isF_iff]
  refine ⟨isO_iff.2 ⟨by have := k.pos; unfold newO; omega, by unfold newO; omega, ?_⟩, by rw [hh], by rw [hh]; exact Nat.le_refl _⟩
  rw [e, addO_begins _ _ _ _ _ k, if_pos rfl]
theorem grow_alloc {h h' : Hp} (k : Good h) {c f n o : Nat} (h1 : 1 ≤ f) (h4 : f ≤ 4) (hn : n ≤ 65535) (e : allocP h c f n = some (o, h')) : Grow h h' ∧ isF h' o f n = true := by
  unfold allocP at e
  split at e
  · rename_i hc
    rw [Bool.and_eq_true] at hc
    rw [Option.some.injEq, Prod.mk.injEq] at e
    obtain ⟨rfl, rfl⟩ := e
    have hv : (if f = 1 ∨ f = 4 then wd h.rt 0 else 0) < 4294967296 := by
      split
      · exact k.rlim.wd 0
      · decide
    have g := good_alloc k h1 h4 hn hv hc.1 hc.2
    refine ⟨grow_add k g, ?_⟩
    have := new_isF (spare := 0) (c := c) (fs := List.replicate n (if f = 1 ∨ f = 4 then wd h.rt 0 else 0)) (f := f) k ⟨by simpa using hn, h1, h4, Nat.zero_le _, .inl rfl⟩
    rwa [List.length_replicate] at this
  · cases e
theorem grow_make {h h' : Hp} (k : Good h) {c o : Nat} {t : List Nat} (ht : B8 t) (hl : t.length ≤ 262140) (e : makeP h c t = some (o, h')) : Grow h h' ∧ isF h' o 2 0 = true := by
  unfold makeP at e
  split at e
  · rename_i hc
    rw [Bool.and_eq_true] at hc
    rw [Option.some.injEq, Prod.mk.injEq] at e
    obtain ⟨rfl, rfl⟩ := e
    have g := good_make k ht hl hc.1 hc.2
    have e2 := packB_length t
    exact ⟨grow_add k g, isF_le (new_isF k ⟨by show (packB t).length ≤ 65535; omega, by show 1 ≤ 2; decide, by show 2 ≤ 4; decide, by show 4 * ((t.length + 3) / 4) - t.length ≤ 3; omega, by show 4 * ((t.length + 3) / 4) - t.length = 0 ∨ (2 = 2 ∧ 0 < (packB t).length); rw [e2]; omega⟩) (Nat.zero_le _)⟩
  · cases e
theorem grow_put {h : Hp} (k : Good h) {o i v : Nat} (hf : isF h o 1 (i + 1) = true) (hv : v < 4294967296) : Grow h (putF h o i v) := by
  have g := good_put k hf (by decide) hv
  rw [isF_iff] at hf
  obtain ⟨h1, h3, h4⟩ := hf
  refine ⟨g, rfl, rfl, fun p f n e => ?_⟩
  rw [isF_iff] at e ⊢
  have hh : hdO (putF h o i v) p = hdO h p := putW_hd k (isO_iff.1 h1).2.2 (show i < (hd h (o / 2)).size from h4) (isO_iff.1 e.1).2.2
  rw [hh]
  exact ⟨e.1, e.2⟩
theorem grow_setC {h : Hp} (k : Good h) {o c : Nat} (ho : isO h o = true) (hc : clsO h c = true) : Grow h (setC h o c) := by
  have hb := (isO_iff.1 ho).2.2
  have hcl := clsO_lt k hc
  refine ⟨k.setC hb hcl, rfl, rfl, fun p f n e => ?_⟩
  rw [isF_iff] at e ⊢
  have hh : hdO (setC h o c) p = if p / 2 = o / 2 then { hd h (o / 2) with cls := c } else hd h (p / 2) := setC_hd k hb (isO_iff.1 e.1).2.2
  refine ⟨e.1, ?_, ?_⟩
  · rw [hh]; split
    · rename_i ee; rw [← ee]; exact e.2.1
    · exact e.2.1
  · rw [hh]; split
    · rename_i ee; rw [← ee]; exact e.2.2
    · exact e.2.2
theorem grow_putL {h h' : Hp} (k : Good h) {r o : Nat} (ho : o < 4294967296) (e : putL h r o = some h') : Grow h h' := by
  unfold putL at e
  simp only at e
  split at e
  · rename_i hc
    rw [← Option.some.inj e]
    exact grow_put k hc ho
  · cases e
theorem symP_isF {h : Hp} {t : List Nat} (h0 : symP h t ≠ 0) : isF h (symP h t) 2 0 = true := by
  unfold symP at h0 ⊢
  cases e : (entries h 3).find? (readsO h t) with
  | none => rw [e] at h0; exact absurd rfl h0
  | some a =>
    have := List.find?_some e
    unfold readsO at this
    simp only [Bool.and_eq_true] at this
    exact this.1.1
theorem grow_intern {h h' : Hp} (k : Good h) {o : Nat} {t : List Nat} (ht : B8 t) (hl : t.length ≤ 262140) (e : internP h t = some (o, h')) : Grow h h' ∧ isF h' o 2 0 = true := by
  unfold internP at e
  simp only at e
  split at e
  · obtain ⟨⟨o1, h1⟩, e1, e2⟩ := Option.bind_eq_some_iff.1 e
    obtain ⟨h2, e3, e4⟩ := Option.map_eq_some_iff.1 e2
    rw [Prod.mk.injEq] at e4
    obtain ⟨rfl, rfl⟩ := e4
    obtain ⟨g1, i1⟩ := grow_make k ht hl e1
    have g2 := grow_putL g1.good (isO_lt g1.good (isF_isO i1)) e3
    exact ⟨g1.trans g2, g2.isF _ _ _ i1⟩
  · rename_i h0
    rw [Option.some.injEq, Prod.mk.injEq] at e
    obtain ⟨rfl, rfl⟩ := e
    exact ⟨Grow.refl k, symP_isF h0⟩
theorem grow_setGlob {h h' : Hp} (k : Good h) {o v : Nat} {t : List Nat} (ht : B8 t) (hl : t.length ≤ 262140) (hv : v < 4294967296) (e : setGlobP h t v = some (o, h')) : Grow h h' ∧ isF h' o 1 2 = true := by
  unfold setGlobP at e
  split at e
  · obtain ⟨⟨o1, h1⟩, e1, e2⟩ := Option.bind_eq_some_iff.1 e
    obtain ⟨⟨o2, h2⟩, e3, e4⟩ := Option.bind_eq_some_iff.1 e2
    obtain ⟨h3, e5, e6⟩ := Option.map_eq_some_iff.1 e4
    rw [Prod.mk.injEq] at e6
    obtain ⟨rfl, rfl⟩ := e6
    obtain ⟨g1, i1⟩ := grow_intern k ht hl e1
    obtain ⟨g2, i2⟩ := grow_alloc g1.good (by decide) (by decide) (by decide) e3
    have g3 := grow_put g2.good (i := 0) (isF_le i2 (by decide)) (isO_lt g1.good (isF_isO i1))
    have g4 := grow_put g3.good (i := 1) (g3.isF _ _ _ i2) hv
    have g5 := grow_putL g4.good (isO_lt g2.good (isF_isO i2)) e5
    exact ⟨(((g1.trans g2).trans g3).trans g4).trans g5, g5.isF _ _ _ (g4.isF _ _ _ (g3.isF _ _ _ i2))⟩
  · cases e
structure Ker (h : Hp) : Prop where
  live : ∀ j, j < 5 → isO h (wd h.rt (wd [12, 18, 19, 20, 23] j)) = true
  l3 : isF h (wd h.rt 3) 1 0 = true
  l4 : isF h (wd h.rt 4) 1 0 = true
theorem Ker.grow {h h' : Hp} (x : Ker h) (g : Grow h h') : Ker h' := by
  refine ⟨fun j hj => ?_, ?_, ?_⟩
  · rw [g.rt]; exact g.isO (x.live j hj)
  · rw [g.rt]; exact g.isF _ _ _ x.l3
  · rw [g.rt]; exact g.isF _ _ _ x.l4
end Go.Proofs.YteiikhcadjdkcaaGreatDoor.Limb
namespace Go.Proofs.YteiikhcadjdkcaaGreatDoor
open Go Go.RowKit Limb
structure Only (ps : List Nat) (w w' : World) : Prop where
  os : w'.os = w.os
  tape : w'.tape = w.tape
  output : w'.output = w.output
  size : w.heap.size ≤ w'.heap.size
  block : ∀ k, k < w.heap.size → k ∉ ps → w'.heap[k]? = w.heap[k]?
theorem Only.refl (ps : List Nat) (w : World) : Only ps w w := ⟨rfl, rfl, rfl, Nat.le_refl _, fun _ _ _ => rfl⟩
theorem Only.of_below {ps : List Nat} {w w' : World} (h : Below w.heap.size w w') : Only ps w w' := ⟨h.os, h.tape, h.output, h.size, fun k hk _ => h.block k hk⟩
theorem Only.below {w w' : World} (h : Only [] w w') : Below w.heap.size w w' := ⟨h.os, h.tape, h.output, h.size, fun k hk => h.block k hk (by simp)⟩
theorem Only.belowB {ps : List Nat} {w w' : World} (h : Only ps w w') {B : Nat} (hB : B ≤ w.heap.size) (hp : ∀ p ∈ ps, B ≤ p) : Below B w w' :=
  ⟨h.os, h.tape, h.output, h.size, fun k hk => h.block k (by omega) (fun hm => by have := hp k hm; omega)⟩
theorem Only.trans {ps qs : List Nat} {w w1 w2 : World} (h : Only ps w w1) (k : Only qs w1 w2) (hq : ∀ q ∈ qs, q ∈ ps ∨ w.heap.size ≤ q) : Only ps w w2 :=
  ⟨k.os.trans h.os, k.tape.trans h.tape, k.output.trans h.output, Nat.le_trans h.size k.size, fun i hi hn => by
    rw [k.block i (Nat.lt_of_lt_of_le hi h.size) (fun hm => by rcases hq i hm with h | h; exact hn h; omega), h.block i hi hn]⟩
theorem Only.mono {ps qs : List Nat} {w w' : World} (h : Only ps w w') (hq : ∀ q ∈ ps, q ∈ qs) : Only qs w w' :=
  ⟨h.os, h.tape, h.output, h.size, fun k hk hn => h.block k hk (fun hm => hn (hq k hm))⟩
theorem Only.setCell {ps : List Nat} {w w' : World} (h : Only ps w w') {a : Addr} (ha : a.block ∈ ps) (v : Value) : Only ps w (w'.setCell a v) :=
  ⟨h.os, h.tape, h.output, by have := h.size; simpa [World.setCell] using this, fun k hk hn => by rw [Below.heap_setCell _ _ _ _ (fun e => hn (by rw [e]; exact ha))]; exact h.block k hk hn⟩
theorem Only.drewN {ps : List Nat} {w w' : World} (h : Only ps w w') (n : Nat) : Only ps w (w'.drewN n) := ⟨h.os, h.tape, h.output, h.size, h.block⟩
theorem Only.drew {ps : List Nat} {w w' : World} (h : Only ps w w') : Only ps w w'.drew := ⟨h.os, h.tape, h.output, h.size, h.block⟩
theorem Only.alloc {ps : List Nat} {w w' : World} (h : Only ps w w') (o : Obj) : Only ps w (w'.alloc o) :=
  h.trans (Only.of_below (ps := []) ((Below.refl _ _).alloc (Nat.le_refl _) o)) (fun q hq => by cases hq)
theorem Row.only {ps : List Nat} {w w' : World} {g : Nat} {e : TypeId} {cs : List Value} (h : Row w g e cs) (ho : Only ps w w') (hg : g ∉ ps) : Row w' g e cs := by
  have := h.lt; unfold Row at *; rw [ho.block g this hg]; exact h
theorem Lay.only {ps : List Nat} {K : IntKind} {w w' : World} {a : Option Addr} {l : List Nat} (h : Lay K w a l) (ho : Only ps w w') (hne : 0 < l.length → ∀ b off, a = some ⟨b, off, none⟩ → b ∉ ps) : Lay K w' a l := by
  obtain ⟨b, off, h1, h2⟩ := h
  refine ⟨b, off, fun hl => ⟨(h1 hl).1, by have := ho.size; have := (h1 hl).2; omega⟩, fun i hi => ?_⟩
  have h3 := h1 (by omega)
  rw [← h2 i hi]
  exact World.cell?_of_block (ho.block b h3.2 (hne (by omega) b off h3.1))
end Go.Proofs.YteiikhcadjdkcaaGreatDoor
