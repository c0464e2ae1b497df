/- The kernel's boot, evaluated in packed form; what it is over lists. The walk of big.quotient: a long division. -/
import Derived.Test.YteiikhcadjdkcaaGreatDoorGX05
import Derived.Test.YteiikhcadjdkcaaGreatDoorGX04
import Derived.Test.YteiikhcadjdkcaaGreatDoorGX01
import Derived.Lib.BitFns
set_option linter.unusedVariables false
set_option linter.unusedSimpArgs false
namespace Go.Proofs.YteiikhcadjdkcaaGreatDoor.Limb
def Up {α : Type} (x : Option (α × Hp)) (y : Option (α × Pk)) : Prop := ∀ a p, y = some (a, p) → ∃ h, x = some (a, h) ∧ pk h = p ∧ Good h
def Up1 (x : Option Hp) (y : Option Pk) : Prop := ∀ p, y = some p → ∃ h, x = some h ∧ pk h = p ∧ Good h
theorem clsO_lt {h : Hp} (k : Good h) {c : Nat} (hc : clsO h c = true) : c < 4294967296 := by
  unfold clsO at hc
  simp only [Bool.or_eq_true, decide_eq_true_eq] at hc
  rcases hc with rfl | hc
  · decide
  · have := isO_iff.1 hc
    have h1 := begins_lt this.2.2
    have := k.len; have := k.fits; have := k.sM
    omega
theorem packB_last : ∀ t : List Nat, B8 t → wd (packB t) ((packB t).length - 1) < 2 ^ (32 - 8 * (4 * ((t.length + 3) / 4) - t.length))
  | [], _ => by decide
  | [a], h => by
    rw [show 4 * (([a].length + 3) / 4) - [a].length = 3 by simp]
    show a < 256; exact h.head
  | [a, b], h => by
    rw [show 4 * (([a, b].length + 3) / 4) - [a, b].length = 2 by simp]
    show a + 256 * b < 65536; have := h.head; have := h.tail.head; omega
  | [a, b, c], h => by
    rw [show 4 * (([a, b, c].length + 3) / 4) - [a, b, c].length = 1 by simp]
    show a + 256 * b + 65536 * c < 16777216; have := h.head; have := h.tail.head; have := h.tail.tail.head; omega
  | a :: b :: c :: d :: t, h => by
    have e : 4 * (((a :: b :: c :: d :: t).length + 3) / 4) - (a :: b :: c :: d :: t).length = 4 * ((t.length + 3) / 4) - t.length := by
      simp only [List.length_cons]; omega
    rw [e]
    have ih := packB_last t h.tail.tail.tail.tail
    by_cases h0 : t = []
    · subst h0
      show a + 256 * b + 65536 * c + 16777216 * d < 4294967296
      have := h.head; have := h.tail.head; have := h.tail.tail.head; have := h.tail.tail.tail.head; omega
    · have hp : 0 < (packB t).length := by rw [packB_length]; have := List.length_pos_iff.2 h0; omega
      obtain ⟨n, hn⟩ : ∃ n, (packB t).length = n + 1 := ⟨(packB t).length - 1, by omega⟩
      rw [hn, Nat.add_sub_cancel] at ih
      show wd (_ :: packB t) ((packB t).length + 1 - 1) < _
      rw [hn, Nat.add_sub_cancel, wd_succ]; exact ih
theorem good_make {h : Hp} (k : Good h) {c : Nat} {t : List Nat} (ht : B8 t) (hl : t.length ≤ 262140) (hc : clsO h c = true) (hr : room h ((t.length + 3) / 4) = true) : Good (addO h 2 (4 * ((t.length + 3) / 4) - t.length) c (packB t)) := by
  have e := packB_length t
  refine k.add (by rw [e]; exact hr) ⟨?_, ?_, ?_, ?_, ?_⟩ (clsO_lt k hc) (packB_lim t ht) ?_
  · show (packB t).length ≤ 65535; omega
  · show 1 ≤ 2; decide
  · show 2 ≤ 4; decide
  · show 4 * ((t.length + 3) / 4) - t.length ≤ 3; omega
  · show 4 * ((t.length + 3) / 4) - t.length = 0 ∨ (2 = 2 ∧ 0 < (packB t).length)
    rw [e]; omega
  · intro _ _; exact packB_last t ht
theorem good_alloc {h : Hp} (k : Good h) {c f n v : Nat} (hf : 1 ≤ f) (hf4 : f ≤ 4) (hn : n ≤ 65535) (hv : v < 4294967296) (hc : clsO h c = true) (hr : room h n = true) : Good (addO h f 0 c (List.replicate n v)) := by
  refine k.add (by rw [List.length_replicate]; exact hr) ⟨?_, hf, hf4, ?_, .inl rfl⟩ (clsO_lt k hc) (Lim.replicate _ hv) (fun _ h => absurd h (by decide))
  · show (List.replicate n v).length ≤ 65535; rw [List.length_replicate]; exact hn
  · show 0 ≤ 3; decide
def qalloc (p : Pk) (c f n : Nat) : Option (Nat × Pk) :=
  if qC p c && qroom p n && decide (1 ≤ f) && decide (f ≤ 4) && decide (n ≤ 65535) then some (2 * p.n, qadd p f 0 c n (val (List.replicate n (if f = 1 ∨ f = 4 then rd p.R 0 else 0)))) else none
theorem up_alloc {h : Hp} (k : Good h) (c f n : Nat) : Up (allocP h c f n) (qalloc (pk h) c f n) := by
  intro a p hp
  unfold qalloc at hp
  split at hp
  · rename_i hc
    simp only [Bool.and_eq_true, decide_eq_true_eq] at hc
    obtain ⟨⟨⟨⟨c1, c2⟩, c3⟩, c4⟩, c5⟩ := hc
    rw [qC_eq] at c1; rw [qroom_eq] at c2
    rw [Option.some.injEq, Prod.mk.injEq] at hp
    obtain ⟨rfl, rfl⟩ := hp
    refine ⟨_, by unfold allocP; rw [if_pos (by rw [c1, c2]; rfl)]; rfl, ?_, ?_⟩
    · rw [qadd_eq k, List.length_replicate, rd_root k]
    · refine good_alloc k c3 c4 c5 ?_ c1 c2
      split
      · exact k.rlim.wd 0
      · decide
  · cases hp
def qmake (p : Pk) (c : Nat) (t : List Nat) : Option (Nat × Pk) :=
  if qC p c && qroom p ((t.length + 3) / 4) then some (2 * p.n, qadd p 2 (4 * ((t.length + 3) / 4) - t.length) c ((t.length + 3) / 4) (val (packB t))) else none
theorem up_make {h : Hp} (k : Good h) (c : Nat) {t : List Nat} (ht : B8 t) (hl : t.length ≤ 262140) : Up (makeP h c t) (qmake (pk h) c t) := by
  intro a p hp
  unfold qmake at hp
  split at hp
  · rename_i hc
    simp only [Bool.and_eq_true] at hc
    rw [qC_eq, qroom_eq] at hc
    rw [Option.some.injEq, Prod.mk.injEq] at hp
    obtain ⟨rfl, rfl⟩ := hp
    refine ⟨_, by unfold makeP; rw [if_pos (by rw [hc.1, hc.2]; rfl)]; rfl, ?_, good_make k ht hl hc.1 hc.2⟩
    rw [qadd_eq k, packB_length]
  · cases hp
def qput (p : Pk) (o i v : Nat) : Option Pk := if qF p o 1 (i + 1) && decide (v < 4294967296) then some (qset p (o / 2 + 3 + i) v) else none
theorem good_put {h : Hp} (k : Good h) {o i v f : Nat} (hf : isF h o f (i + 1) = true) (h2 : f ≠ 2) (hv : v < 4294967296) : Good (putF h o i v) := by
  unfold isF at hf
  simp only [Bool.and_eq_true, decide_eq_true_eq] at hf
  obtain ⟨⟨h1, h3⟩, h4⟩ := hf
  exact k.putW (isO_iff.1 h1).2.2 (show i < (hd h (o / 2)).size from h4) hv (fun e => absurd (h3.symm.trans e) h2)
theorem put_lt {h : Hp} (k : Good h) {o i f : Nat} (hf : isF h o f (i + 1) = true) : o / 2 + 3 + i < h.ws.length := by
  unfold isF at hf
  simp only [Bool.and_eq_true, decide_eq_true_eq] at hf
  have := k.inside _ (isO_iff.1 hf.1.1).2.2
  have h4 : i + 1 ≤ (hd h (o / 2)).size := hf.2
  omega
theorem up_put {h : Hp} (k : Good h) (o i v : Nat) : Up1 (some (putF h o i v)) (qput (pk h) o i v) := by
  intro p hp
  unfold qput at hp
  split at hp
  · rename_i hc
    simp only [Bool.and_eq_true, decide_eq_true_eq] at hc
    rw [qF_eq k] at hc
    obtain ⟨h1, h2⟩ := hc
    exact ⟨_, rfl, by rw [← Option.some.inj hp]; exact qset_eq k (put_lt k h1), good_put k h1 (by decide) h2⟩
  · cases hp
def qcls (p : Pk) (o c : Nat) : Option Pk := if qO p o && qC p c then some (qset p (o / 2 + 1) c) else none
theorem up_cls {h : Hp} (k : Good h) (o c : Nat) : Up1 (some (setC h o c)) (qcls (pk h) o c) := by
  intro p hp
  unfold qcls at hp
  split at hp
  · rename_i hc
    simp only [Bool.and_eq_true] at hc
    rw [qO_eq, qC_eq] at hc
    have hb := (isO_iff.1 hc.1).2.2
    have := k.inside _ hb
    exact ⟨_, rfl, by rw [← Option.some.inj hp]; exact qset_eq k (by omega), k.setC hb (clsO_lt k hc.2)⟩
  · cases hp
def qsetr (p : Pk) (i v : Nat) : Option Pk := if decide (i < 64) && decide (v < 4294967296) then some (qroot p i v) else none
theorem up_setr {h : Hp} (k : Good h) (i v : Nat) : Up1 (some (setR h i v)) (qsetr (pk h) i v) := by
  intro p hp
  unfold qsetr at hp
  split at hp
  · rename_i hc
    simp only [Bool.and_eq_true, decide_eq_true_eq] at hc
    exact ⟨_, rfl, by rw [← Option.some.inj hp]; exact qroot_eq k hc.1, k.setR hc.2⟩
  · cases hp
def qputL (p : Pk) (r o : Nat) : Option Pk := qput p (rd p.R r) (qent p r).length o
theorem up_putL {h : Hp} (k : Good h) (r o : Nat) : Up1 (putL h r o) (qputL (pk h) r o) := by
  intro p hp
  unfold qputL at hp
  rw [rd_root k, qent_eq k] at hp
  obtain ⟨h1, e, h2, h3⟩ := up_put k _ _ _ p hp
  refine ⟨h1, ?_, h2, h3⟩
  unfold putL
  unfold qput at hp
  split at hp
  · rename_i hc
    simp only [Bool.and_eq_true] at hc
    rw [qF_eq k] at hc
    simp only [if_pos hc.1]; exact e
  · cases hp
theorem Up.bind {α β : Type} {x : Option (α × Hp)} {y : Option (α × Pk)} {f : α × Hp → Option (β × Hp)} {g : α × Pk → Option (β × Pk)} (h : Up x y) (hf : ∀ a h1, Good h1 → Up (f (a, h1)) (g (a, pk h1))) : Up (x.bind f) (y.bind g) := by
  intro b p hp
  obtain ⟨⟨a, q⟩, e1, e2⟩ := Option.bind_eq_some_iff.1 hp
  obtain ⟨h1, e3, rfl, k⟩ := h a q e1
  obtain ⟨h2, e4, e5, k2⟩ := hf a h1 k b p e2
  exact ⟨h2, by rw [e3]; exact e4, e5, k2⟩
theorem Up.bind1 {α : Type} {x : Option (α × Hp)} {y : Option (α × Pk)} {f : α × Hp → Option Hp} {g : α × Pk → Option Pk} (h : Up x y) (hf : ∀ a h1, Good h1 → Up1 (f (a, h1)) (g (a, pk h1))) : Up1 (x.bind f) (y.bind g) := by
  intro p hp
  obtain ⟨⟨a, q⟩, e1, e2⟩ := Option.bind_eq_some_iff.1 hp
  obtain ⟨h1, e3, rfl, k⟩ := h a q e1
  obtain ⟨h2, e4, e5, k2⟩ := hf a h1 k p e2
  exact ⟨h2, by rw [e3]; exact e4, e5, k2⟩
theorem Up1.bind {β : Type} {x : Option Hp} {y : Option Pk} {f : Hp → Option (β × Hp)} {g : Pk → Option (β × Pk)} (h : Up1 x y) (hf : ∀ h1, Good h1 → Up (f h1) (g (pk h1))) : Up (x.bind f) (y.bind g) := by
  intro b p hp
  obtain ⟨q, e1, e2⟩ := Option.bind_eq_some_iff.1 hp
  obtain ⟨h1, e3, rfl, k⟩ := h q e1
  obtain ⟨h2, e4, e5, k2⟩ := hf h1 k b p e2
  exact ⟨h2, by rw [e3]; exact e4, e5, k2⟩
theorem Up1.bind1 {x : Option Hp} {y : Option Pk} {f : Hp → Option Hp} {g : Pk → Option Pk} (h : Up1 x y) (hf : ∀ h1, Good h1 → Up1 (f h1) (g (pk h1))) : Up1 (x.bind f) (y.bind g) := by
  intro p hp
  obtain ⟨q, e1, e2⟩ := Option.bind_eq_some_iff.1 hp
  obtain ⟨h1, e3, rfl, k⟩ := h q e1
  obtain ⟨h2, e4, e5, k2⟩ := hf h1 k p e2
  exact ⟨h2, by rw [e3]; exact e4, e5, k2⟩
theorem Up1.map {β : Type} {x : Option Hp} {y : Option Pk} (h : Up1 x y) (b : β) : Up (x.map fun z => (b, z)) (y.map fun z => (b, z)) := by
  intro c p hp
  obtain ⟨q, e1, e2⟩ := Option.map_eq_some_iff.1 hp
  obtain ⟨h1, e3, rfl, k⟩ := h q e1
  rw [Prod.mk.injEq] at e2
  obtain ⟨rfl, rfl⟩ := e2
  exact ⟨h1, by rw [e3]; rfl, rfl, k⟩
theorem Up.map {α β : Type} {x : Option (α × Hp)} {y : Option (α × Pk)} (h : Up x y) (f : α → β) : Up (x.map fun z => (f z.1, z.2)) (y.map fun z => (f z.1, z.2)) := by
  intro c p hp
  obtain ⟨⟨a, q⟩, e1, e2⟩ := Option.map_eq_some_iff.1 hp
  obtain ⟨h1, e3, rfl, k⟩ := h a q e1
  rw [Prod.mk.injEq] at e2
  obtain ⟨rfl, rfl⟩ := e2
  exact ⟨h1, by rw [e3]; rfl, rfl, k⟩
theorem Up.ret {α : Type} {h : Hp} (k : Good h) (a : α) : Up (some (a, h)) (some (a, pk h)) := by
  intro b p hp
  rw [Option.some.injEq, Prod.mk.injEq] at hp
  exact ⟨h, by rw [hp.1], hp.2, k⟩
theorem Up1.ret {h : Hp} (k : Good h) : Up1 (some h) (some (pk h)) := fun p hp => ⟨h, rfl, Option.some.inj hp, k⟩
theorem Up1.then {x : Option Hp} {y : Option Pk} {f : Hp → Hp} {g : Pk → Option Pk} (h : Up1 x y) (hf : ∀ h1, Good h1 → Up1 (some (f h1)) (g (pk h1))) : Up1 (x.map f) (y.bind g) := by
  intro p hp
  obtain ⟨q, e1, e2⟩ := Option.bind_eq_some_iff.1 hp
  obtain ⟨h1, e3, rfl, k⟩ := h q e1
  obtain ⟨h2, e4, e5, k2⟩ := hf h1 k p e2
  exact ⟨h2, by rw [e3]; exact e4, e5, k2⟩
def qsym (p : Pk) (t : List Nat) : Nat := ((qent p 3).find? (qreads p t)).getD 0
def qglobo (p : Pk) (t : List Nat) : Nat := ((qent p 4).find? (qglob p t)).getD 0
theorem qsym_eq {h : Hp} (k : Good h) {t : List Nat} (ht : B8 t) : qsym (pk h) t = symP h t := by
  unfold qsym symP; rw [qent_eq k, show qreads (pk h) t = readsO h t from funext (qreads_eq k ht)]
theorem qglobo_eq {h : Hp} (k : Good h) {t : List Nat} (ht : B8 t) : qglobo (pk h) t = globP h t := by
  unfold qglobo globP; rw [qent_eq k, show qglob (pk h) t = isGlob h t from funext (qglob_eq k ht)]
def qintern (p : Pk) (t : List Nat) : Option (Nat × Pk) :=
  if qsym p t = 0 then (qmake p (rd p.R 18) t).bind fun x => (qputL x.2 3 x.1).map fun h2 => (x.1, h2) else some (qsym p t, p)
theorem up_intern {h : Hp} (k : Good h) {t : List Nat} (ht : B8 t) (hl : t.length ≤ 262140) : Up (internP h t) (qintern (pk h) t) := by
  unfold internP qintern
  rw [qsym_eq k ht, rd_root k]
  by_cases h0 : symP h t = 0
  · simp only [if_pos h0]
    exact (up_make k _ ht hl).bind fun a h1 k1 => (up_putL k1 3 a).map a
  · simp only [if_neg h0]
    exact Up.ret k _
def qsetg (p : Pk) (t : List Nat) (v : Nat) : Option (Nat × Pk) :=
  if qglobo p t = 0 then (qintern p t).bind fun x => (qalloc x.2 (rd x.2.R 23) 1 2).bind fun a => (qput a.2 a.1 0 x.1).bind fun h1 => (qput h1 a.1 1 v).bind fun h2 => (qputL h2 4 a.1).map fun h3 => (a.1, h3) else none
theorem up_setg {h : Hp} (k : Good h) {t : List Nat} (ht : B8 t) (hl : t.length ≤ 262140) (v : Nat) : Up (setGlobP h t v) (qsetg (pk h) t v) := by
  unfold setGlobP qsetg
  rw [qglobo_eq k ht]
  by_cases h0 : globP h t = 0
  · simp only [if_pos h0]
    refine (up_intern k ht hl).bind fun a h1 k1 => ?_
    simp only [rd_root k1]
    refine (up_alloc k1 _ _ _).bind fun b h2 k2 => ?_
    show Up ((some (putF h2 b 0 a)).bind fun h3 => (some (putF h3 b 1 v)).bind fun h4 => (putL h4 4 b).map fun h5 => (b, h5)) _
    exact (up_put k2 _ _ _).bind fun h3 k3 => (up_put k3 _ _ _).bind fun h4 k4 => (up_putL k4 4 b).map b
  · simp only [if_neg h0]
    intro a p hp; cases hp
def okT (t : List Nat) : Bool := t.all (fun x => decide (x < 256)) && decide (t.length ≤ 262140)
theorem okT_iff {t : List Nat} (h : okT t = true) : B8 t ∧ t.length ≤ 262140 := by
  unfold okT at h
  simp only [Bool.and_eq_true, decide_eq_true_eq, List.all_eq_true] at h
  exact h
def qnameAll : Nat → List Plan → Pk → Option Pk
  | _, [], h => some h
  | i, p :: t, h => (qintern h p.name).bind fun s => (qput s.2 (rd s.2.R (10 + i)) 0 s.1).bind fun x => (qsetg x p.name (rd s.2.R (10 + i))).bind fun x => qnameAll (i + 1) t x.2
theorem up_nameAll : ∀ (l : List Plan) (i : Nat) (h : Hp), Good h → l.all (fun p => okT p.name) = true → Up1 (nameAll i l h) (qnameAll i l (pk h))
  | [], _, h, k, _ => Up1.ret k
  | p :: t, i, h, k, hl => by
    simp only [List.all_cons, Bool.and_eq_true] at hl
    obtain ⟨b, l⟩ := okT_iff hl.1
    refine (up_intern k b l).bind1 fun a h1 k1 => ?_
    simp only [rd_root k1]
    show Up1 ((some (putF h1 (wd h1.rt (10 + i)) 0 a)).bind fun x => (setGlobP x p.name (wd h1.rt (10 + i))).bind fun x => nameAll (i + 1) t x.2) _
    exact (up_put k1 _ _ _).bind1 fun h2 k2 => (up_setg k2 b l _).bind1 fun c h3 k3 => up_nameAll t (i + 1) h3 k3 hl.2
def qselAll : Nat → List (List Nat) → Pk → Option Pk
  | _, [], h => some h
  | i, p :: t, h => (qintern h p).bind fun s => (qput s.2 (rd s.2.R 8) i s.1).bind fun x => qselAll (i + 1) t x
theorem up_selAll : ∀ (l : List (List Nat)) (i : Nat) (h : Hp), Good h → l.all okT = true → Up1 (selAll i l h) (qselAll i l (pk h))
  | [], _, h, k, _ => Up1.ret k
  | p :: t, i, h, k, hl => by
    simp only [List.all_cons, Bool.and_eq_true] at hl
    obtain ⟨b, l⟩ := okT_iff hl.1
    refine (up_intern k b l).bind1 fun a h1 k1 => ?_
    simp only [rd_root k1]
    show Up1 ((some (putF h1 (wd h1.rt 8) i a)).bind fun x => selAll (i + 1) t x) _
    exact (up_put k1 _ _ _).bind1 fun h2 k2 => up_selAll t (i + 1) h2 k2 hl.2
def qinternAll : List (List Nat) → Pk → Option (List Nat × Pk)
  | [], h => some ([], h)
  | s :: t, h => (qintern h s).bind fun x => (qinternAll t x.2).map fun y => (x.1 :: y.1, y.2)
theorem up_internAll : ∀ (l : List (List Nat)) (h : Hp), Good h → l.all okT = true → Up (internAll l h) (qinternAll l (pk h))
  | [], h, k, _ => Up.ret k _
  | p :: t, h, k, hl => by
    simp only [List.all_cons, Bool.and_eq_true] at hl
    obtain ⟨b, l⟩ := okT_iff hl.1
    exact (up_intern k b l).bind fun a h1 k1 => (up_internAll t h1 k1 hl.2).map (fun y => a :: y)
def qputAll (a : Nat) : Nat → List Nat → Pk → Option Pk
  | _, [], h => some h
  | i, v :: t, h => (qput h a i v).bind fun x => qputAll a (i + 1) t x
theorem up_putAll (a : Nat) : ∀ (l : List Nat) (i : Nat) (h : Hp), Good h → Up1 (some (putAll a i l h)) (qputAll a i l (pk h))
  | [], _, h, k => Up1.ret k
  | v :: t, i, h, k => by
    show Up1 ((some (putF h a i v)).bind fun x => some (putAll a (i + 1) t x)) _
    exact (up_put k _ _ _).bind1 fun h2 k2 => up_putAll a t (i + 1) h2 k2
def qownF (h : Pk) (c : Nat) (fs : List (List Nat)) : Option Pk :=
  (qinternAll fs h).bind fun x => (qalloc x.2 (rd x.2.R 20) 1 fs.length).bind fun a => (qputAll a.1 0 x.1 a.2).bind fun y => qput y c 3 a.1
theorem up_ownF {h : Hp} (k : Good h) (c : Nat) (fs : List (List Nat)) (hl : fs.all okT = true) : Up1 (ownF h c fs) (qownF (pk h) c fs) := by
  refine (up_internAll fs h k hl).bind1 fun l h1 k1 => ?_
  simp only [rd_root k1]
  have e : ((allocP h1 (wd h1.rt 20) 1 fs.length).map fun a => putF (putAll a.1 0 l a.2) c 3 a.1) = (allocP h1 (wd h1.rt 20) 1 fs.length).bind fun a => (some (putAll a.1 0 l a.2)).bind fun y => some (putF y c 3 a.1) := by
    cases allocP h1 (wd h1.rt 20) 1 fs.length <;> rfl
  rw [e]
  exact (up_alloc k1 _ _ _).bind1 fun a h2 k2 => (up_putAll a l 0 h2 k2).bind1 fun h3 k3 => up_put k3 _ _ _
def qfieldAll : Nat → List Plan → Pk → Option Pk
  | _, [], h => some h
  | i, p :: t, h => if p.fields = [] then qfieldAll (i + 1) t h else (qownF h (rd h.R (10 + i)) p.fields).bind (qfieldAll (i + 1) t)
theorem up_fieldAll : ∀ (l : List Plan) (i : Nat) (h : Hp), Good h → l.all (fun p => p.fields.all okT) = true → Up1 (fieldAll i l h) (qfieldAll i l (pk h))
  | [], _, h, k, _ => Up1.ret k
  | p :: t, i, h, k, hl => by
    simp only [List.all_cons, Bool.and_eq_true] at hl
    unfold fieldAll qfieldAll
    by_cases h0 : p.fields = []
    · rw [if_pos h0, if_pos h0]; exact up_fieldAll t (i + 1) h k hl.2
    · rw [if_neg h0, if_neg h0, rd_root k]
      exact (up_ownF k _ _ hl.1).bind1 fun h2 k2 => up_fieldAll t (i + 1) h2 k2 hl.2
end Go.Proofs.YteiikhcadjdkcaaGreatDoor.Limb
namespace Go.Proofs.YteiikhcadjdkcaaGreatDoor
open Go Go.RowKit Limb
theorem Lay.grown {K : IntKind} {w w' : World} {a : Option Addr} {l : List Nat} {g : Nat} (h : Lay K w a l) (hg : w.grownBy w' (some g)) (hne : ∀ b off, a = some ⟨b, off, none⟩ → b ≠ g) : Lay K w' a l := by
  obtain ⟨b, off, h1, h2⟩ := h
  refine ⟨b, off, fun hl => ⟨(h1 hl).1, by have := hg.size; have := (h1 hl).2; omega⟩, fun i hi => ?_⟩
  have h3 := h1 (by omega)
  rw [← h2 i hi]
  exact World.cell?_of_block (hg.block b h3.2 (fun e => hne b off h3.1 (by injection e)))
theorem Lay.other {K : IntKind} {w : World} {a : Option Addr} {l : List Nat} {g : Nat} (h : Lay K w a l) (hne : ∀ b off, a = some ⟨b, off, none⟩ → b ≠ g) (i : Nat) (v : Value) : Lay K (w.setCell ⟨g, i, none⟩ v) a l :=
  h.grown (grown_store (World.grownBy.refl _ _) i v) hne
theorem Row.grown {w w' : World} {g h : Nat} {e : TypeId} {cs : List Value} (hr : Row w h e cs) (hg : w.grownBy w' (some g)) (hne : h ≠ g) : Row w' h e cs := by
  have := hr.lt; unfold Row at *; rw [hg.block h this (fun e => hne (by injection e))]; exact hr
end Go.Proofs.YteiikhcadjdkcaaGreatDoor
