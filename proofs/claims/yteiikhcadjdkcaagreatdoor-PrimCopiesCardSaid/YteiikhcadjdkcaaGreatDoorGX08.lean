/- What a boot's walk asks of the heaps on its way. Objects of bytes: made, kept, written: plain laws. The walks of package oop: kinds, indices, small integers. The walks of Neg, Abs, Sign, BitLen, Bit, Cmp of package big's integers. -/
import Derived.Test.YteiikhcadjdkcaaGreatDoorGX07
import Derived.Test.YteiikhcadjdkcaaGreatDoorGX02
import Derived.Laws.BitsAll
import Derived.StillTailTactics
import Derived.Deep.RegionWith
set_option linter.unusedVariables false
set_option linter.unusedSimpArgs false
namespace Go.Proofs.YteiikhcadjdkcaaGreatDoor.Limb
theorem setR_root {h : Hp} (k : Good h) {i v : Nat} (hi : i < 64) (j : Nat) : wd (setR h i v).rt j = if j = i then v else wd h.rt j := wd_set (by rw [k.rlen]; exact hi) j
def okPk (p : Pk) (ms : List Nat) : Bool :=
  decide (ms.length = 22) && ((List.range 22).all fun i => qF p (rd p.R (10 + i)) 1 6 && qF p (wd ms i) 1 6) && ([0, 1, 2, 3, 4, 6, 8].all fun r => qO p (rd p.R r)) && qF p (rd p.R 3) 1 128 && qF p (rd p.R 4) 1 32 && qF p (rd p.R 8) 1 11
structure Paired (h : Hp) (ms : List Nat) : Prop where
  good : Good h
  len : ms.length = 22
  cls : ∀ i, i < 22 → isF h (wd h.rt (10 + i)) 1 6 = true
  met : ∀ i, i < 22 → isF h (wd ms i) 1 6 = true
  low : ∀ r, r ∈ [0, 1, 2, 3, 4, 6, 8] → isO h (wd h.rt r) = true
  l3 : isF h (wd h.rt 3) 1 128 = true
  l4 : isF h (wd h.rt 4) 1 32 = true
  l8 : isF h (wd h.rt 8) 1 11 = true
theorem paired_of {h : Hp} (k : Good h) {ms : List Nat} (e : okPk (pk h) ms = true) : Paired h ms := by
  unfold okPk at e
  simp only [Bool.and_eq_true, decide_eq_true_eq, List.all_eq_true, List.mem_range, qF_eq k, qO_eq, rd_root k] at e
  obtain ⟨⟨⟨⟨⟨e1, e2⟩, e3⟩, e4⟩, e5⟩, e6⟩ := e
  exact ⟨k, e1, fun i hi => (e2 i hi).1, fun i hi => (e2 i hi).2, e3, e4, e5, e6⟩
theorem Paired.grow {h h' : Hp} {ms : List Nat} (x : Paired h ms) (g : Grow h h') : Paired h' ms :=
  ⟨g.good, x.len, fun i hi => by rw [g.rt]; exact g.isF _ _ _ (x.cls i hi), fun i hi => g.isF _ _ _ (x.met i hi), fun r hr => by rw [g.rt]; exact g.isO (x.low r hr), by rw [g.rt]; exact g.isF _ _ _ x.l3, by rw [g.rt]; exact g.isF _ _ _ x.l4, by rw [g.rt]; exact g.isF _ _ _ x.l8⟩
theorem Paired.ker {h : Hp} {ms : List Nat} (x : Paired h ms) : Ker h := by
  refine ⟨fun j hj => ?_, isF_le x.l3 (Nat.zero_le _), isF_le x.l4 (Nat.zero_le _)⟩
  have : j = 0 ∨ j = 1 ∨ j = 2 ∨ j = 3 ∨ j = 4 := by omega
  rcases this with rfl | rfl | rfl | rfl | rfl
  · exact isF_isO (x.cls 2 (by decide))
  · exact isF_isO (x.cls 8 (by decide))
  · exact isF_isO (x.cls 9 (by decide))
  · exact isF_isO (x.cls 10 (by decide))
  · exact isF_isO (x.cls 13 (by decide))
structure Steps (n : Nat) (h1 h2 : Hp) (ms : List Nat) (hE : Hp) : Prop where
  first : firstAll first7 (emptyH n) = some h1
  nil0 : isO h1 (wd h1.rt 0) = true
  pairs : pairsP tenOn (nilR [5, 7, 9] h1) = some (ms, h2)
  paired : Paired h2 ms
  rest : ((nameAll 0 plans (clsAll bareCls (wireAll ms 0 plans h2))).bind fun h => (selAll 0 sels h).bind fun h => fieldAll 0 plans h) = some hE
def qsteps (n : Nat) : Bool :=
  match qfirstAll first7 (pk (emptyH n)) with
  | none => false
  | some p1 => qO p1 (rd p1.R 0) && match (qnilR [5, 7, 9] p1).bind fun x => qpairs tenOn x with
    | none => false
    | some (ms, p2) => okPk p2 ms
theorem steps_of {n : Nat} (h1 : 64 ≤ n) (h2 : n ≤ 1048576) {hE : Hp} (hb : bootP n = some hE) (hq : qsteps n = true) : ∃ a b ms, Steps n a b ms hE := by
  unfold bootP at hb
  obtain ⟨hB, e1, e2⟩ := Option.bind_eq_some_iff.1 hb
  unfold bonesP at e1
  obtain ⟨hA, e3, e4⟩ := Option.bind_eq_some_iff.1 e1
  unfold classesP at e4
  obtain ⟨⟨ms, hP⟩, e5, e6⟩ := Option.map_eq_some_iff.1 e4
  have k0 := good_empty h1 h2
  unfold qsteps at hq
  split at hq
  · cases hq
  · rename_i p1 hp1
    rw [Bool.and_eq_true] at hq
    obtain ⟨q1, q2⟩ := hq
    obtain ⟨hA', x1, rfl, kA⟩ := up_firstAll first7 _ k0 p1 hp1
    obtain rfl : hA' = hA := Option.some.inj (x1.symm.trans e3)
    split at q2
    · cases q2
    · rename_i ms2 p2 hp2
      obtain ⟨p3, y1, y2⟩ := Option.bind_eq_some_iff.1 hp2
      obtain ⟨hN, z1, rfl, kN⟩ := up_nilR [5, 7, 9] hA' kA p3 y1
      obtain rfl := Option.some.inj z1
      obtain ⟨hP', z2, rfl, kP⟩ := up_pairs tenOn _ kN ms2 p2 y2
      have z3 := Option.some.inj (z2.symm.trans e5)
      rw [Prod.mk.injEq] at z3
      obtain ⟨rfl, rfl⟩ := z3
      refine ⟨hA', hP', ms2, e3, ?_, z2, paired_of kP q2, ?_⟩
      · rw [qO_eq, rd_root kA] at q1; exact q1
      · rw [e6]; exact e2
end Go.Proofs.YteiikhcadjdkcaaGreatDoor.Limb
namespace Go.Proofs.YteiikhcadjdkcaaGreatDoor.Limb
structure Bs (h : Hp) (o c : Nat) (t : List Nat) : Prop where
  is : isO h o = true
  fmt : (hdO h o).fmt = 2
  cls : (hdO h o).cls = c
  byt : bytO h o = t
  len : (hdO h o).len = t.length
  b8 : B8 t
structure Ext (h h' : Hp) : Prop where
  good : Good h'
  rt : h'.rt = h.rt
  sz : h'.size = h.size
  le : h.ws.length ≤ h'.ws.length
  ws : ∀ i, i < h.ws.length → wd h'.ws i = wd h.ws i
  bg : ∀ i, i < h.ws.length → begins h' i = begins h i
theorem Ext.refl {h : Hp} (k : Good h) : Ext h h := ⟨k, rfl, rfl, Nat.le_refl _, fun _ _ => rfl, fun _ _ => rfl⟩
theorem Ext.trans {a b c : Hp} (x : Ext a b) (y : Ext b c) : Ext a c :=
  ⟨y.good, y.rt.trans x.rt, y.sz.trans x.sz, Nat.le_trans x.le y.le, fun i hi => (y.ws i (Nat.lt_of_lt_of_le hi x.le)).trans (x.ws i hi), fun i hi => (y.bg i (Nat.lt_of_lt_of_le hi x.le)).trans (x.bg i hi)⟩
theorem Ext.hd {h h' : Hp} (x : Ext h h') (k : Good h) {i : Nat} (hi : begins h i = true) : hd h' i = hd h i := by
  have := k.inside i hi
  unfold Limb.hd
  rw [x.ws _ (by omega), x.ws _ (by omega), x.ws _ (by omega)]
theorem Ext.isO {h h' : Hp} (x : Ext h h') (k : Good h) {o : Nat} (ho : isO h o = true) : isO h' o = true := by
  have h1 := isO_iff.1 ho
  have h2 := begins_lt h1.2.2
  rw [k.len] at h2
  exact isO_iff.2 ⟨h1.1, h1.2.1, by rw [x.bg _ h2]; exact h1.2.2⟩
theorem Ext.hdO {h h' : Hp} (x : Ext h h') (k : Good h) {o : Nat} (ho : Limb.isO h o = true) : hdO h' o = hdO h o := x.hd k (isO_iff.1 ho).2.2
theorem Ext.fld {h h' : Hp} (x : Ext h h') (k : Good h) {o i : Nat} (ho : Limb.isO h o = true) (hi : i < (Limb.hdO h o).size) : fld h' o i = fld h o i := by
  have := k.inside _ (isO_iff.1 ho).2.2
  have hi2 : i < (Limb.hd h (o / 2)).size := hi
  exact x.ws _ (by omega)
theorem Ext.flds {h h' : Hp} (x : Ext h h') (k : Good h) {o : Nat} (ho : Limb.isO h o = true) : flds h' o = flds h o := by
  have hl : (Limb.flds h' o).length = (Limb.flds h o).length := by rw [flds_length x.good (x.isO k ho), flds_length k ho, x.hdO k ho]
  refine ext_wd hl fun i hi => ?_
  rw [flds_length x.good (x.isO k ho)] at hi
  rw [flds_wd hi, flds_wd (by rwa [x.hdO k ho] at hi), x.fld k ho (by rwa [x.hdO k ho] at hi)]
theorem Ext.bs {h h' : Hp} (x : Ext h h') (k : Good h) {o c : Nat} {t : List Nat} (b : Bs h o c t) : Bs h' o c t := by
  have e := x.hdO k b.is
  refine ⟨x.isO k b.is, by rw [e]; exact b.fmt, by rw [e]; exact b.cls, ?_, by rw [e]; exact b.len, b.b8⟩
  rw [← b.byt]
  unfold bytO
  rw [x.flds k b.is, e]
theorem Ext.isF {h h' : Hp} (x : Ext h h') (k : Good h) {o f n : Nat} (e : isF h o f n = true) : isF h' o f n = true := by
  rw [isF_iff] at e ⊢
  rw [x.hdO k e.1]
  exact ⟨x.isO k e.1, e.2⟩
theorem Ext.getF {h h' : Hp} (x : Ext h h') (k : Good h) {o i : Nat} (e : Limb.isF h o 1 (i + 1) = true) : getF h' o i = getF h o i := by
  unfold Limb.getF
  rw [if_pos e, if_pos (x.isF k e)]
  have := isF_iff.1 e
  exact x.fld k this.1 (by omega)
theorem ext_add {h : Hp} (k : Good h) {f spare c : Nat} {fs : List Nat} (g : Good (addO h f spare c fs)) : Ext h (addO h f spare c fs) :=
  ⟨g, rfl, rfl, by rw [addO_len]; omega, fun i hi => addO_old _ _ _ _ _ hi, fun i hi => by rw [addO_begins _ _ _ _ _ k, if_neg (by omega)]⟩
theorem new_flds {h : Hp} {f spare c : Nat} {fs : List Nat} (hok : (⟨fs.length, f, spare, c, h.last + 1⟩ : Hd).Ok) : flds (addO h f spare c fs) (newO h) = fs := by
  have e : newO h / 2 = h.ws.length := by unfold newO; omega
  have hh : hdO (addO h f spare c fs) (newO h) = ⟨fs.length, f, spare, c, h.last + 1⟩ := by unfold Limb.hdO; rw [e]; exact addO_hd_new hok
  unfold Limb.flds
  rw [hh, e]
  show ((h.ws ++ (Hd.w0 _ :: c :: (h.last + 1) :: fs)).drop (h.ws.length + 3)).take fs.length = fs
  rw [List.drop_append]
  simp
  rw [List.drop_of_length_le (by omega), List.nil_append, List.take_length]
theorem bs_make {h h' : Hp} (k : Good h) {c o : Nat} {t : List Nat} (ht : B8 t) (hl : t.length ≤ 262140) (e : makeP h c t = some (o, h')) : Ext h h' ∧ Bs h' o c t ∧ o = newO h := by
  unfold makeP at e
  split at e
  · rename_i hc
    rw [Bool.and_eq_true] at hc
    rw [Option.some.injEq, Prod.mk.injEq] at e
    obtain ⟨rfl, rfl⟩ := e
    have g := good_make k ht hl hc.1 hc.2
    have e2 := packB_length t
    have hok : (⟨(packB t).length, 2, 4 * ((t.length + 3) / 4) - t.length, c, h.last + 1⟩ : Hd).Ok := ⟨by show (packB t).length ≤ 65535; omega, by show 1 ≤ 2; decide, by show 2 ≤ 4; decide, by show 4 * ((t.length + 3) / 4) - t.length ≤ 3; omega, by show 4 * ((t.length + 3) / 4) - t.length = 0 ∨ (2 = 2 ∧ 0 < (packB t).length); rw [e2]; omega⟩
    have en : newO h / 2 = h.ws.length := by unfold newO; omega
    have hh : hdO (addO h 2 (4 * ((t.length + 3) / 4) - t.length) c (packB t)) (newO h) = ⟨(packB t).length, 2, 4 * ((t.length + 3) / 4) - t.length, c, h.last + 1⟩ := by unfold Limb.hdO; rw [en]; exact addO_hd_new hok
    have hi := isF_isO (new_isF (f := 2) (spare := 4 * ((t.length + 3) / 4) - t.length) (c := c) (fs := packB t) k hok)
    have hln : (hdO (addO h 2 (4 * ((t.length + 3) / 4) - t.length) c (packB t)) (newO h)).len = t.length := by
      rw [hh]; unfold Hd.len; rw [if_pos rfl]; show 4 * (packB t).length - (4 * ((t.length + 3) / 4) - t.length) = t.length; omega
    exact ⟨ext_add k g, ⟨hi, by rw [hh], by rw [hh], (bytO_eq g hi (by rw [hh]) ht hln).2 (new_flds hok), hln, ht⟩, rfl⟩
  · cases e
theorem make_some {h : Hp} {c : Nat} {t : List Nat} (hc : clsO h c = true) (hr : room h ((t.length + 3) / 4) = true) : ∃ o h', makeP h c t = some (o, h') := by
  unfold makeP; rw [hc, hr]; exact ⟨_, _, rfl⟩
def byW (w b : Nat) : Nat → Nat
  | 0 => w - w % 256 + b
  | 1 => w - (w / 256 % 256) * 256 + b * 256
  | 2 => w - (w / 65536 % 256) * 65536 + b * 65536
  | _ => w - (w / 16777216 % 256) * 16777216 + b * 16777216
theorem byW_lt {w b j s : Nat} (hs : s ≤ 3) (hw : w < 2 ^ (32 - 8 * s)) (hb : b < 256) (hj : j < 4 - s) : byW w b j < 2 ^ (32 - 8 * s) := by
  have c1 : s = 0 ∨ s = 1 ∨ s = 2 ∨ s = 3 := by omega
  have c2 : j = 0 ∨ j = 1 ∨ j = 2 ∨ j = 3 := by omega
  rcases c1 with rfl | rfl | rfl | rfl <;> rcases c2 with rfl | rfl | rfl | rfl <;> simp only [byW, Nat.reduceMul, Nat.reduceSub, Nat.reducePow] at * <;> omega
def setB (h : Hp) (o i b : Nat) : Hp := putW h (o / 2 + 3 + i / 4) (byW (fld h o (i / 4)) b (i % 4))
theorem setB_place {h : Hp} (k : Good h) {o i : Nat} (ho : isO h o = true) (hf : (hdO h o).fmt = 2) (hi : i < (hdO h o).len) : i / 4 < (hdO h o).size ∧ (i / 4 + 1 = (hdO h o).size → i % 4 < 4 - (hdO h o).spare) := by
  have hlen : (hdO h o).len = 4 * (hdO h o).size - (hdO h o).spare := by unfold Hd.len; rw [if_pos hf]
  omega
theorem good_setB {h : Hp} (k : Good h) {o i b : Nat} (ho : isO h o = true) (hf : (hdO h o).fmt = 2) (hi : i < (hdO h o).len) (hb : b < 256) : Good (setB h o i b) := by
  have hb0 := (isO_iff.1 ho).2.2
  obtain ⟨p1, p2⟩ := setB_place k ho hf hi
  have hlim : fld h o (i / 4) < 4294967296 := k.lim.wd _
  have hj : i % 4 < 4 := Nat.mod_lt _ (by decide)
  refine k.putW hb0 (show i / 4 < (hd h (o / 2)).size from p1) ?_ (fun _ h3 h4 => ?_)
  · have := byW_lt (s := 0) (j := i % 4) (by decide) (by simpa using hlim) hb (by omega)
    simpa using this
  · have h3' : 0 < (hdO h o).spare := h3
    have h4' : i / 4 + 1 = (hdO h o).size := h4
    have hok : (hdO h o).Ok := (k.ok _ hb0).1
    refine byW_lt hok.spare ?_ hb (p2 h4')
    have := k.spz _ hb0 hf h3
    have e : o / 2 + 2 + (hd h (o / 2)).size = o / 2 + 3 + i / 4 := by show o / 2 + 2 + (hdO h o).size = _; omega
    rw [e] at this
    exact this
theorem setB_hd {h : Hp} (k : Good h) {o i b : Nat} (ho : isO h o = true) (hf : (hdO h o).fmt = 2) (hi : i < (hdO h o).len) {p : Nat} (hp : isO h p = true) : hdO (setB h o i b) p = hdO h p :=
  putW_hd k (isO_iff.1 ho).2.2 (show i / 4 < (hd h (o / 2)).size from (setB_place k ho hf hi).1) (isO_iff.1 hp).2.2
theorem setB_other {h : Hp} (k : Good h) {o i b : Nat} (ho : isO h o = true) (hf : (hdO h o).fmt = 2) (hi : i < (hdO h o).len) (hb : b < 256) {p c : Nat} {t : List Nat} (hp : Bs h p c t) (hne : p ≠ o) : Bs (setB h o i b) p c t := by
  have g := good_setB k ho hf hi hb
  have e := setB_hd (b := b) k ho hf hi hp.is
  have q1 := isO_iff.1 ho
  have q2 := isO_iff.1 hp.is
  have hi2 : isO (setB h o i b) p = true := isO_iff.2 ⟨q2.1, q2.2.1, q2.2.2⟩
  have p1 := (setB_place k ho hf hi).1
  have n1 := k.inside _ q1.2.2
  refine ⟨hi2, by rw [e]; exact hp.fmt, by rw [e]; exact hp.cls, ?_, by rw [e]; exact hp.len, hp.b8⟩
  rw [← hp.byt]
  unfold bytO
  rw [e]
  have hfl : flds (setB h o i b) p = flds h p := by
    have hl : (flds (setB h o i b) p).length = (flds h p).length := by rw [flds_length g hi2, flds_length k hp.is, e]
    refine ext_wd hl fun j hj => ?_
    rw [flds_length g hi2, e] at hj
    rw [flds_wd (by rw [e]; exact hj), flds_wd hj]
    unfold fld setB
    have p1' : i / 4 < (hd h (o / 2)).size := p1
    have hj' : j < (hd h (p / 2)).size := hj
    rw [putW_wd h (by omega), if_neg]
    intro ee
    rcases Nat.lt_trichotomy (p / 2) (o / 2) with x | x | x
    · have := k.apart _ _ q2.2.2 q1.2.2 x; omega
    · omega
    · have := k.apart _ _ q1.2.2 q2.2.2 x; omega
  rw [hfl]
end Go.Proofs.YteiikhcadjdkcaaGreatDoor.Limb
namespace Go.Proofs.YteiikhcadjdkcaaGreatDoor
open Go Go.RowKit Limb
def kindN (o : Nat) : Nat := if o = 0 then 0 else if o % 2 = 1 then 1 else 2
theorem and_one (o : Nat) (ho : o < 4294967296) : bits .and .u32 (o : Int) 1 = ((o % 2 : Nat) : Int) := by
  rw [show (1 : Int) = ((1 : Nat) : Int) from rfl, u32_and_nat o 1 ho (by decide), nat_mask1]
set_option maxRecDepth 100000 in
theorem oop_kind (w : World) (o : Nat) (ho : o < 4294967296) :
    Calls Tryz.prog 23 #[.int .u32 o] w fun e w' => e = .returned (.int .i64 (kindN o)) ∧ w = w' := by
  have hb := and_one o ho
  by_cases h0 : o = 0
  · subst h0
    clear hb
    go_enter Tryz.func23, Tryz.ntmps23
    go_wp2
    go_ret
    exact ⟨rfl, rfl⟩
  · have q0 : ((o : Int) == 0) = false := by rw [beq_eq_false_iff_ne]; omega
    have q0' : (o == 0) = false := by rw [beq_eq_false_iff_ne]; omega
    by_cases h1 : o % 2 = 1
    · have e : kindN o = 1 := by unfold kindN; rw [if_neg h0, if_pos h1]
      rw [e]; rw [h1] at hb
      clear h0 h1 e ho
      go_enter Tryz.func23, Tryz.ntmps23
      go_wp2
      go_ret
      exact ⟨rfl, rfl⟩
    · have e : kindN o = 2 := by unfold kindN; rw [if_neg h0, if_neg h1]
      have h2 : o % 2 = 0 := by omega
      rw [e]; rw [h2] at hb
      clear h0 h1 h2 e ho
      go_enter Tryz.func23, Tryz.ntmps23
      go_wp2
      go_ret
      exact ⟨rfl, rfl⟩
def idxN (o : Nat) : Nat := if kindN o = 2 then o / 2 else 0
def idxE (o : Nat) : Nat := if kindN o = 2 then 0 else 3
set_option maxRecDepth 100000 in
theorem oop_index (w : World) (o : Nat) (ho : o < 4294967296) :
    Calls Tryz.prog 50 #[.int .u32 o] w fun e w' => e = .returned (.tuple #[.int .i64 (idxN o), .int .i64 (idxE o)]) ∧ w = w' := by
  have hk := oop_kind w o ho
  have HD := Lib.hid (show ((o / 2 : Nat) : Int) = (o : Int) / 2 from by omega)
  by_cases h2 : kindN o = 2
  · have e1 : idxN o = o / 2 := by unfold idxN; rw [if_pos h2]
    have e2 : idxE o = 0 := by unfold idxE; rw [if_pos h2]
    rw [h2] at hk
    rw [e1, e2]
    have HK := Lib.hid hk
    clear hk h2 e1 e2
    go_enter Tryz.func50, Tryz.ntmps50
    go_wp2_with fail
    refine HK.out.mono ?_
    rintro e w1 ⟨rfl, rfl⟩
    (try dsimp only)
    go_wp2_with fail
    go_ret2
    exact ⟨rfl, rfl⟩
  · have e1 : idxN o = 0 := by unfold idxN; rw [if_neg h2]
    have e2 : idxE o = 3 := by unfold idxE; rw [if_neg h2]
    have q : (((kindN o : Nat) : Int) != 2) = true := by rw [bne_iff_ne]; omega
    have q2 : (((kindN o : Nat) : Int) == 2) = false := by rw [beq_eq_false_iff_ne]; omega
    generalize kindN o = kk at *
    rw [e1, e2]
    have HK := Lib.hid hk
    clear hk h2 e1 e2
    go_enter Tryz.func50, Tryz.ntmps50
    go_wp2_with fail
    refine HK.out.mono ?_
    rintro e w1 ⟨rfl, rfl⟩
    (try dsimp only)
    go_wp2_with fail
    go_ret2
    exact ⟨rfl, rfl⟩
set_option maxRecDepth 100000 in
theorem oop_fits (w : World) (n : Int) :
    Calls Tryz.prog 59 #[.int .i64 n] w fun e w' => e = .returned (.bool (decide (-1073741824 ≤ n) && decide (n ≤ 1073741823))) ∧ w = w' := by
  by_cases h1 : -1073741824 ≤ n
  · have d1 : decide (-1073741824 ≤ n) = true := decide_eq_true h1
    by_cases h2 : n ≤ 1073741823
    · have d2 : decide (n ≤ 1073741823) = true := decide_eq_true h2
      rw [d1, d2]
      go_enter Tryz.func59, Tryz.ntmps59
      go_wp2_with fail
      go_ret
      exact ⟨rfl, rfl⟩
    · have d2 : decide (n ≤ 1073741823) = false := decide_eq_false h2
      rw [d1, d2]
      go_enter Tryz.func59, Tryz.ntmps59
      go_wp2_with fail
      go_ret
      exact ⟨rfl, rfl⟩
  · have d1 : decide (-1073741824 ≤ n) = false := decide_eq_false h1
    rw [d1]
    go_enter Tryz.func59, Tryz.ntmps59
    go_wp2_with fail
    go_ret
    exact ⟨rfl, rfl⟩
set_option maxRecDepth 100000 in
theorem oop_at (w : World) (n : Nat) (h1 : 1 ≤ n) (h2 : n ≤ 2147483647) :
    Calls Tryz.prog 75 #[.int .i64 n] w fun e w' => e = .returned (.tuple #[.int .u32 (2 * n : Nat), .int .i64 0]) ∧ w = w' := by
  have d1 : decide ((n : Int) < 1) = false := decide_eq_false (by omega)
  have d2 : decide (2147483647 < (n : Int)) = false := decide_eq_false (by omega)
  have d3 : decide (2147483647 < n) = false := decide_eq_false (by omega)
  have d4 : decide (n < 1) = false := decide_eq_false (by omega)
  go_enter Tryz.func75, Tryz.ntmps75
  go_wp2_with fail
  go_ret2
  exact ⟨by rw [Int.natCast_mul]; rfl, rfl⟩
end Go.Proofs.YteiikhcadjdkcaaGreatDoor
namespace Go.Proofs.YteiikhcadjdkcaaGreatDoor
open Go Go.RowKit Limb
theorem Lay.drew {K : IntKind} {w : World} {a : Option Addr} {l : List Nat} (h : Lay K w a l) : Lay K w.drew a l := h
end Go.Proofs.YteiikhcadjdkcaaGreatDoor
