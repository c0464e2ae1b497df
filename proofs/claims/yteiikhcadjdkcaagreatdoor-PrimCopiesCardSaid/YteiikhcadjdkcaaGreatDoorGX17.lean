/- A map that the call has made, entry by entry: its elements as they are. The walk of package heap's alloc. -/
import Derived.Test.YteiikhcadjdkcaaGreatDoorGX16
import Derived.Test.YteiikhcadjdkcaaGreatDoorChecked
import Derived.WalkKit
import Derived.Maps.Ext
import Derived.Maps.RangeWalk
import Derived.Maps.OwnIn
import Derived.Lib.SlMapMerge
import Derived.Test.YteiikhcadjdkcaaGreatDoorGX12
import Derived.Deep.DeepCutAuto
set_option linter.unusedVariables false
set_option linter.unusedSimpArgs false
namespace Go.Proofs.YteiikhcadjdkcaaGreatDoor
open Go Go.RowKit Go.Maps Limb
def entV (c : Int × Fn × Array Value × Array Value) : Value := .agg #[.int .i64 c.1, .func c.2.1 c.2.2.1 c.2.2.2]
def heldR (v : Value) : Option (DataW Value × List MemPlace) :=
  match v with
  | .agg ⟨[.int .i64 _, .func _ _ _]⟩ => some (.held v, [])
  | _ => none
theorem heldR_inv (v : Value) (y : DataW Value × List MemPlace) (h : heldR v = some y) : ∃ c, v = entV c := by
  unfold heldR at h
  split at h
  · rename_i n f a b
    exact ⟨(n, f, a, b), rfl⟩
  · cases h
theorem heldR_ent (c : Int × Fn × Array Value × Array Value) : heldR (entV c) = some (.held (entV c), []) := rfl
theorem wpList_insert_own {H : Type} {P : Program} (w : World) {ops : Array Oper} {rest : List Oper} {o : Oper} {a : Act} {Q : Exit → Act → World → Prop}
    (hg : o.guard = none) (m x v : Operand) (t : TypeId) (hop : o.op = Op.insert t m x v)
    (k e : TypeId) (K : Keyed P k) (ht : P.underlying t = some (.map k e)) (R : Value → Option (DataW H × List MemPlace)) (b n : Nat) (D : DataW H)
    (hm : a.eval m = .map (some b)) (hown : w.ownsMap P k R b n D) (hn : n < maxLen) (key val : Value) (kl : Lit) (hx : a.eval x = key) (hv : a.eval v = val) (hkey : keyOf P k key = some kl)
    (d : DataW H) (ps : List MemPlace) (hval : R val = some (d, ps))
    (hK : ∀ w', w'.ownsMap P k R b (n + 1) (D.put kl d) → w.grownBy w' (some b) → wpList P ops Q rest (a.put o.dst undef) w') :
    wpList P ops Q (o :: rest) a w := by
  refine wpList_plain hg fun K' hK' => ?_
  obtain ⟨w', hrun, r1, r2⟩ := hown.update K ht hn hkey hval
  unfold Oper.wp
  simp [execOp, hop, hm, hx, hv, hrun, Result.andThen]
  exact hK' _ _ (hK w' r1 r2)
theorem Only.of_grown {w w' : World} {b : Nat} (h : w.grownBy w' (some b)) : Only [b] w w' :=
  ⟨h.os, h.tape, h.output, h.size, fun k hk hn => h.block k hk (fun e => hn (by rw [Option.some.inj e]; exact List.mem_singleton.2 rfl))⟩
def putsD (l : List (Int × Value)) : DataW Value := l.foldl (fun D p => D.put (.int .i64 p.1) (.held p.2)) (.map [])
theorem putsD_snoc (l : List (Int × Value)) (n : Int) (v : Value) : (putsD l).put (.int .i64 n) (.held v) = putsD (l ++ [(n, v)]) := by
  unfold putsD; rw [List.foldl_append]; rfl
def MapL (w : World) (b : Nat) (l : List (Int × Value)) : Prop := w.ownsMap Tryz.prog 3 heldR b l.length (putsD l)
theorem keyed_int : Keyed Tryz.prog 3 := int_keyed Tryz.underlying3
theorem key_int {n : Int} (h : (Lit.int .i64 n).wf = true) : keyOf Tryz.prog 3 (.int .i64 n) = some (.int .i64 n) := keyOf_int_mk Tryz.underlying3 h
theorem MapL.start (w : World) : MapL (w.alloc (.map #[] 0)) w.heap.size [] := World.ownsMap_made w _ _ _
theorem MapL.only {w w' : World} {b : Nat} {l : List (Int × Value)} (h : MapL w b l) {ps : List Nat} (ho : Only ps w w') (hb : b ∉ ps) : MapL w' b l := by
  obtain ⟨es, clock, hh, r⟩ := h
  exact ⟨es, clock, (ho.block b (by exact World.ownsMap.lt (P := Tryz.prog) (k := 3) (R := heldR) (D := putsD l) (n := l.length) ⟨es, clock, hh, r⟩) hb).trans hh, r⟩
theorem MapL.lt {w : World} {b : Nat} {l : List (Int × Value)} (h : MapL w b l) : b < w.heap.size := World.ownsMap.lt h
theorem MapL.below {w w' : World} {b : Nat} {l : List (Int × Value)} (h : MapL w b l) (hb : Below w.heap.size w w') : MapL w' b l := h.only (ps := []) (Only.of_below hb) (by simp)
theorem wpList_insert_map (w : World) {ops : Array Oper} {rest : List Oper} {o : Oper} {a : Act} {Q : Exit → Act → World → Prop} {b : Nat} {l : List (Int × Value)} (n : Int) (v : Value)
    (hown : MapL w b l) (hR : heldR v = some (.held v, [])) (m x y : Operand) (hg : o.guard = none) (hop : o.op = Op.insert 66 m x y) (hm : a.eval m = .map (some b)) (hx : a.eval x = .int .i64 n) (hv : a.eval y = v) (hn : (Lit.int .i64 n).wf = true) (hl : l.length ≤ 1000)
    (hK : ∀ w', MapL w' b (l ++ [(n, v)]) → Only [b] w w' → wpList Tryz.prog ops Q rest (a.put o.dst undef) w') : wpList Tryz.prog ops Q (o :: rest) a w :=
  wpList_insert_own w hg m x y 66 hop 3 64 keyed_int Tryz.underlying66 heldR b l.length (putsD l) hm hown (by unfold maxLen; omega) _ v _ hx hv (key_int hn) _ [] hR fun w' h1 h2 => hK w' (by
    unfold MapL
    rw [List.length_append, ← putsD_snoc]
    exact h1) (.of_grown h2)
end Go.Proofs.YteiikhcadjdkcaaGreatDoor
namespace Go.Proofs.YteiikhcadjdkcaaGreatDoor
open Go Go.RowKit Limb
def newHd (h : Hp) (x : Hd) : Hd := ⟨x.size, x.fmt, x.spare, x.cls, h.last + 1⟩
section
variable {w : World} {F : Foot} {h : Hp}
theorem HeapAt.drewN (H : HeapAt w F h) (n : Nat) : HeapAt (w.drewN n) F h := H.below ⟨rfl, rfl, rfl, Nat.le_refl _, fun _ _ => rfl⟩
theorem info_bool : (Tryz.prog.info? 4).map (fun i => (i.zero, i.size, i.bytes)) = some (some (.bool false), 1, 1) := by kernel_rfl
theorem Grew.only {w w' : World} {g n : Nat} {e : TypeId} {v : Value} {ys : List Value} (h : Grew w w' g e n v ys) : Only [g] w w' := by obtain ⟨_, _, _, _, _, h⟩ := h; exact h
theorem row_news {w : World} {g : Nat} {e : TypeId} {xs : List Value} (h : Row w g e xs) : ∀ j u, xs[j]? = some u → w.cell? ((⟨g, 0, none⟩ : Addr).add j) = some u := by
  intro j u hj
  have ha : (⟨g, 0, none⟩ : Addr).add j = ⟨g, j, none⟩ := by
    unfold Addr.add
    by_cases h0 : j = 0
    · subst h0; rfl
    · simp [h0]
  rw [ha, h.cell_at]; exact hj
def Mid (w : World) (F : Foot) (h : Hp) (box : List Value) (la : Nat) (ws : List Nat) (gw c cs : Nat) (X : World) : Prop :=
  Row X F.p 74 [.slice (some ⟨gw, 0, none⟩) ws.length c, .slice (some ⟨F.gs, 0, none⟩) h.ws.length cs, .slice (some ⟨F.gr, 0, none⟩) 64 64, .int .i64 h.size, .int .u32 la] ∧
  Sl X gw 29 ws.length c (nums .u32 ws) ∧ (gw = F.gw ∨ w.heap.size ≤ gw) ∧ Sl X F.gs 4 h.ws.length cs (bools h.st) ∧ Row X F.gr 30 (nums .u32 h.rt) ∧ Row X w.heap.size 102 box ∧ Only F.l w X ∧ Spares X ∧ w.heap.size < X.heap.size
theorem Mid.below {w : World} {F : Foot} {h : Hp} {box : List Value} {la : Nat} {ws : List Nat} {gw c cs : Nat} {X Y : World} (m : Mid w F h box la ws gw c cs X) (hb : Below X.heap.size X Y) (h5 : 5 ≤ w.heap.size) : Mid w F h box la ws gw c cs Y := by
  obtain ⟨m1, m2, m3, m4, m5, m6, m7, m8, m9⟩ := m
  exact ⟨m1.below hb m1.lt, m2.below hb, m3, m4.below hb, m5.below hb m5.lt, m6.below hb m6.lt, m7.trans (qs := []) (Only.of_below hb) (fun q hq => by cases hq), m8.below hb (by omega), by have := hb.size; omega⟩
theorem Mid.start {w W : World} {F : Foot} {h : Hp} {cw cs la n : Nat} {u0 u1 u2 u3 u4 l0 : Value} (hB : Below w.heap.size w W) (hF : ∀ g ∈ F.l, g < w.heap.size)
    (rp : Row W F.p 74 [.slice (some ⟨F.gw, 0, none⟩) h.ws.length cw, .slice (some ⟨F.gs, 0, none⟩) h.ws.length cs, .slice (some ⟨F.gr, 0, none⟩) 64 64, .int .i64 h.size, l0])
    (r0 : Row W w.heap.size 102 [u0, u1, u2, u3, u4]) (sw : Sl W F.gw 29 h.ws.length cw (nums .u32 h.ws)) (ss : Sl W F.gs 4 h.ws.length cs (bools h.st)) (rr : Row W F.gr 30 (nums .u32 h.rt)) (hs : Spares W) (h5 : 5 ≤ F.p) :
    Mid w F h [u0, u1, u2, u3, .int .u32 (la : Nat)] la h.ws F.gw cw cs (((W.drewN n).setCell ⟨F.p, 4, none⟩ (.int .u32 (la : Nat))).setCell ⟨w.heap.size, 4, none⟩ (.int .u32 (la : Nat))) := by
  have mp := hF _ (show F.p ∈ F.l by unfold Foot.l; simp)
  have mw := hF _ (show F.gw ∈ F.l by unfold Foot.l; simp)
  have ms := hF _ (show F.gs ∈ F.l by unfold Foot.l; simp)
  have mr := hF _ (show F.gr ∈ F.l by unfold Foot.l; simp)
  have e1 : F.p ≠ F.gw := by obtain ⟨_, q⟩ := sw.row; exact rp.ne q (by decide)
  have e2 : F.p ≠ F.gs := by obtain ⟨_, q⟩ := ss.row; exact rp.ne q (by decide)
  have e3 : F.p ≠ F.gr := rp.ne rr (by decide)
  have hd : Below W.heap.size W (W.drewN n) := ⟨rfl, rfl, rfl, Nat.le_refl _, fun _ _ => rfl⟩
  have r0' := (r0.drewN n).other (a := ⟨F.p, 4, none⟩) (by show w.heap.size ≠ F.p; omega) (.int .u32 (la : Nat))
  have hO : Only F.l w (W.drewN n) := Only.of_below (hB.trans (hd.mono hB.size))
  refine ⟨((rp.drewN n).store_any 4 _).other (by show F.p ≠ w.heap.size; omega) _, ((sw.below hd).other (by exact e1.symm) _).other (by show F.gw ≠ w.heap.size; omega) _, .inl rfl, ((ss.below hd).other (by exact e2.symm) _).other (by show F.gs ≠ w.heap.size; omega) _,
    ((rr.drewN n).other (by exact e3.symm) _).other (by show F.gr ≠ w.heap.size; omega) _, r0'.store_any 4 _, ?_, ?_, ?_⟩
  · refine (hO.setCell (by unfold Foot.l; simp) _).trans (qs := [w.heap.size]) ((Only.refl _ _).setCell (by simp) _) (fun q hq => ?_)
    rw [List.mem_singleton] at hq; exact .inr (by omega)
  · have h5w := hs.1
    refine (((hs.below hd hs.1).only ((Only.refl [F.p] _).setCell (by simp) _) (by simp; omega)).only ((Only.refl [w.heap.size] _).setCell (by simp) _) ?_)
    simp
    have := hF _ (show F.p ∈ F.l by unfold Foot.l; simp)
    omega
  · have := r0.lt
    simp [World.setCell, World.drewN]; omega
theorem Mid.grow {w : World} {F : Foot} {h : Hp} {box : List Value} {la : Nat} {ws news : List Nat} {gw c cs m : Nat} {X Y : World} {v : Value} (hm : Mid w F h box la ws gw c cs X) (hF : ∀ g ∈ F.l, g < w.heap.size) (h5 : 5 ≤ F.p ∧ 5 ≤ F.gw) (hap : F.gw ≠ F.p ∧ F.gw ≠ F.gs ∧ F.gw ≠ F.gr)
    (hg : Grew X Y gw 29 (ws.length + m) v (nums .u32 ws ++ nums .u32 news)) (hn : news.length = m) :
    ∃ gw' c', v = .slice (some ⟨gw', 0, none⟩) (ws.length + m) c' ∧ Row Y F.p 74 [.slice (some ⟨gw, 0, none⟩) ws.length c, .slice (some ⟨F.gs, 0, none⟩) h.ws.length cs, .slice (some ⟨F.gr, 0, none⟩) 64 64, .int .i64 h.size, .int .u32 la] ∧ Mid w F h box la (ws ++ news) gw' c' cs (Y.setCell ⟨F.p, 0, none⟩ v) := by
  obtain ⟨m1, m2, m3, m4, m5, m6, m7, m8, m9⟩ := hm
  obtain ⟨gw', c', rfl, hs, hgg, ho⟩ := hg
  have mp := hF _ (show F.p ∈ F.l by unfold Foot.l; simp)
  have ms := hF _ (show F.gs ∈ F.l by unfold Foot.l; simp)
  have mr := hF _ (show F.gr ∈ F.l by unfold Foot.l; simp)
  obtain ⟨b1, b2, b3⟩ := hap
  have k1 : F.p ∉ [gw] := by simp; rintro rfl; omega
  have k2 : F.gs ∉ [gw] := by simp; rintro rfl; omega
  have k3 : F.gr ∉ [gw] := by simp; rintro rfl; omega
  have hsz := m7.size
  have r1 := m1.only ho k1
  have r4 := m4.only ho k2
  have r5 := m5.only ho k3
  obtain ⟨xs, rgw⟩ := m2.row
  have kb : w.heap.size ≠ gw := fun e => by
    have := m6.ne rgw (by decide); exact this e
  have r6 := m6.only ho (by simp; exact kb)
  have hgw' : gw' = F.gw ∨ w.heap.size ≤ gw' := by
    rcases hgg with rfl | rfl
    · exact m3
    · exact .inr hsz
  obtain ⟨ys, rgw'⟩ := hs.row
  have e1 : F.p ≠ gw' := r1.ne rgw' (by decide)
  have e2 : F.p ≠ F.gs := by obtain ⟨_, q⟩ := r4.row; exact r1.ne q (by decide)
  have e3 : F.p ≠ F.gr := r1.ne r5 (by decide)
  have hl : (ws ++ news).length = ws.length + m := by rw [List.length_append, hn]
  have hoW : Only F.l w Y := m7.trans ho (fun q hq => by
    rw [List.mem_singleton] at hq; subst hq
    rcases m3 with e | e
    · exact .inl (by rw [e]; unfold Foot.l; simp)
    · exact .inr e)
  refine ⟨gw', c', rfl, r1, ?_, ?_, hgw', r4.other (by exact e2.symm) _, r5.other (by exact e3.symm) _, r6.other (by show w.heap.size ≠ F.p; omega) _, hoW.setCell (by unfold Foot.l; simp) _, ?_, ?_⟩
  · rw [hl]; exact r1.store_any 0 _
  · rw [hl, nums_append]; exact hs.other (by exact e1.symm) _
  · have h2 : 0 ∉ [gw] := by
      simp; rintro rfl
      have := m8.1
      rcases m3 with e | e <;> omega
    exact (m8.only ho h2).only ((Only.refl [F.p] _).setCell (by simp) _) (by simp; omega)
  · have := ho.size
    simp [World.setCell]; omega
theorem bools_grown (l : List Bool) (k n : Nat) (hn : n = l.length) : (bools l ++ List.replicate (3 + k) (Value.bool false)).set n (.bool true) = bools (l ++ (true :: List.replicate (2 + k) false)) := by
  subst hn
  rw [show 3 + k = (2 + k) + 1 by omega, List.replicate_succ]
  unfold bools
  rw [List.set_append_right _ _ (by simp)]
  simp
theorem Mid.finish {w : World} {F : Foot} {h : Hp} {box : List Value} {gw c cs : Nat} {X Y : World} {v : Value} {f sp cl : Nat} {fs : List Nat}
    (hm : Mid w F h box (h.last + 1) (h.ws ++ [Hd.w0 ⟨fs.length, f, sp, cl, h.last + 1⟩, cl, h.last + 1] ++ fs) gw c cs X) (hF : ∀ g ∈ F.l, g < w.heap.size) (hlen : h.st.length = h.ws.length) (hlow : 5 ≤ F.p ∧ 5 ≤ F.gw ∧ 5 ≤ F.gs ∧ 5 ≤ F.gr) (hG : Limb.Good (addO h f sp cl fs)) (hpos : 0 < h.ws.length)
    (hg : Grew X Y F.gs 4 (h.ws.length + (3 + fs.length)) v (bools h.st ++ List.replicate (3 + fs.length) (.bool false))) :
    ∃ gs' c', v = .slice (some ⟨gs', 0, none⟩) (h.ws.length + (3 + fs.length)) c' ∧ (∃ l0 l1 l2 l3 l4, Row Y F.p 74 [l0, l1, l2, l3, l4]) ∧ Sl (Y.setCell ⟨F.p, 1, none⟩ v) gs' 4 (h.ws.length + (3 + fs.length)) c' (bools h.st ++ List.replicate (3 + fs.length) (.bool false)) ∧
      (Y.setCell ⟨F.p, 1, none⟩ v).cell? ⟨F.p, 1, none⟩ = some v ∧
      Step w F ((Y.setCell ⟨F.p, 1, none⟩ v).setCell ⟨gs', h.ws.length, none⟩ (.bool true)) ⟨F.p, gw, gs', F.gr⟩ (addO h f sp cl fs) := by
  obtain ⟨m1, m2, m3, m4, m5, m6, m7, m8, m9⟩ := hm
  obtain ⟨gs', c', rfl, hs, hgg, ho⟩ := hg
  have mp := hF _ (show F.p ∈ F.l by unfold Foot.l; simp)
  have ms := hF _ (show F.gs ∈ F.l by unfold Foot.l; simp)
  have mr := hF _ (show F.gr ∈ F.l by unfold Foot.l; simp)
  have hsz := m7.size
  obtain ⟨xs, rgs⟩ := m4.row
  obtain ⟨ys, rgw⟩ := m2.row
  have k1 : F.p ≠ F.gs := m1.ne rgs (by decide)
  have k2 : gw ≠ F.gs := rgw.ne rgs (by decide)
  have k3 : F.gr ≠ F.gs := m5.ne rgs (by decide)
  have r1 := m1.only ho (by simp; exact k1)
  have r2 := m2.only ho (by simp; exact k2)
  have r5 := m5.only ho (by simp; exact k3)
  obtain ⟨zs, rgs'⟩ := hs.row
  obtain ⟨ys, rgw⟩ := r2.row
  have e1 : F.p ≠ gs' := r1.ne rgs' (by decide)
  have e2 : gw ≠ gs' := rgw.ne rgs' (by decide)
  have e3 : F.gr ≠ gs' := r5.ne rgs' (by decide)
  have e4 : F.p ≠ gw := r1.ne rgw (by decide)
  have e5 : F.p ≠ F.gr := r1.ne r5 (by decide)
  have hl : (addO h f sp cl fs).ws.length = h.ws.length + (3 + fs.length) := by rw [addO_len]; omega
  have hw : (addO h f sp cl fs).ws = h.ws ++ [Hd.w0 ⟨fs.length, f, sp, cl, h.last + 1⟩, cl, h.last + 1] ++ fs := by unfold addO; simp
  rw [← hw] at m2 r2 m1 r1
  have hgs' : gs' = F.gs ∨ w.heap.size ≤ gs' := by
    rcases hgg with e | e
    · exact .inl e
    · exact .inr (by omega)
  have hoY : Only F.l w Y := m7.trans ho (fun q hq => by rw [List.mem_singleton] at hq; subst hq; exact .inl (by unfold Foot.l; simp))
  have hs1 := hs.other (a := ⟨F.p, 1, none⟩) (by exact e1.symm) (.slice (some ⟨gs', 0, none⟩) (h.ws.length + (3 + fs.length)) c')
  have r11 := r1.store_any 1 (.slice (some ⟨gs', 0, none⟩) (h.ws.length + (3 + fs.length)) c')
  have hsp : Spares Y := m8.only ho (by simp; omega)
  refine ⟨gs', c', rfl, ⟨_, _, _, _, _, r1⟩, hs1, ?_, ⟨hG, ?_, ⟨c, c', ?_, ?_, ?_⟩, ?_, ?_⟩, ⟨rfl, rfl, m3, hgs'⟩, ?_⟩
  · exact r11.cell_at 1
  · refine (hsp.only ((Only.refl [F.p] _).setCell (by simp) _) (by simp; omega)).only ((Only.refl [gs'] _).setCell (by simp) _) ?_
    simp; have := m8.1; omega
  · have := r11.other (a := ⟨gs', h.ws.length, none⟩) (by exact e1) (.bool true)
    rw [hl] at this ⊢
    exact this
  · exact ((r2.other (a := ⟨F.p, 1, none⟩) (by exact e4.symm) _).other (by exact e2) _)
  · have := hs1.store (i := h.ws.length) (by omega) (.bool true)
    rw [bools_grown _ _ _ hlen.symm] at this
    rw [hl]; exact this
  · exact (r5.other (a := ⟨F.p, 1, none⟩) (by exact e5.symm) _).other (by exact e3) _
  · refine ⟨hlow.1, ?_, ?_, hlow.2.2.2⟩
    · rcases m3 with e | e
      · rw [e]; exact hlow.2.1
      · show 5 ≤ gw; omega
    · rcases hgs' with e | e
      · show 5 ≤ gs'; rw [e]; exact hlow.2.2.1
      · show 5 ≤ gs'; omega
  · have h1 := hoY.setCell (a := ⟨F.p, 1, none⟩) (by unfold Foot.l; simp) (.slice (some ⟨gs', 0, none⟩) (h.ws.length + (3 + fs.length)) c')
    refine h1.trans (qs := [gs']) ((Only.refl _ _).setCell (by simp) _) (fun q hq => ?_)
    rw [List.mem_singleton] at hq; subst hq
    rcases hgs' with e | e
    · exact .inl (by rw [e]; unfold Foot.l; simp)
    · exact .inr e
set_option maxHeartbeats 6400000 in
set_option maxRecDepth 100000 in
theorem heap_alloc (H : HeapAt w F h) (x : Hd) (hc : clsO h x.cls = true) (hc2 : x.cls < 4294967296) (hok : (newHd h x).Ok) (hr : room h x.size = true) (fill : Nat) (hfill : fill = if x.fmt = 1 ∨ x.fmt = 4 then wd h.rt 0 else 0)
    (hG : Limb.Good (addO h x.fmt x.spare x.cls (List.replicate x.size fill))) :
    Calls Tryz.prog 48 #[.pointer (some ⟨F.p, 0, none⟩), hdV x] w fun e w' => ∃ F', e = .returned (.tuple #[.int .u32 (newO h : Nat), .int .i64 0]) ∧ Step w F w' F' (addO h x.fmt x.spare x.cls (List.replicate x.size fill)) := by
  have ex : hdV x = .agg #[.int .i64 x.size, .int .i64 x.fmt, .int .i64 x.spare, .int .u32 x.cls, .int .u32 x.ser] := rfl
  obtain ⟨W, hW, r0, hB, hz⟩ := alloc_row w 102 [.int .i64 x.size, .int .i64 x.fmt, .int .i64 x.spare, .int .u32 x.cls, .int .u32 x.ser]
  have HW := Lib.hid hW
  have HH := H.belowB hB (Nat.le_refl _)
  have hC := heap_class HH x.cls hc2
  rw [hc] at hC
  have HC := Lib.hid hC
  have HM := Lib.hid (fun n => heap_made (HH.drewN n))
  have hsm := H.small
  have hlim := H.lt
  obtain ⟨lp, lw, ls, lr⟩ := H.low
  obtain ⟨a1, a2, a3, a4, a5, a6⟩ := HH.apart
  have HP := Lib.hid (fun X (hx : Spares X) => oop_pack X (newHd h x) hok hx)
  have e1 : hdV (newHd h x) = .agg #[.int .i64 x.size, .int .i64 x.fmt, .int .i64 x.spare, .int .u32 x.cls, .int .u32 (h.last + 1 : Nat)] := rfl
  have e2 : (newHd h x).cls = x.cls := rfl
  have e3 : (newHd h x).ser = h.last + 1 := rfl
  have HPt := Lib.hid (fun X => heap_pointers (newHd h x) X)
  have e4 : (newHd h x).fmt = x.fmt := rfl
  rw [e1, e2, e3] at HP
  rw [e1, e4] at HPt
  obtain ⟨w0, hw0⟩ : ∃ a, a = (newHd h x).w0 := ⟨_, rfl⟩
  rw [← hw0] at HP
  unfold w3V at HP
  have Hw0 := Lib.hid hw0
  have hlen := H.good.len
  have hx0 : x.size ≤ 65535 := hok.size
  have HFl := Lib.hid (show fill < 4294967296 by rw [hfill]; split; exact H.good.rlim.wd 0; decide)
  obtain ⟨cw, cs, rp, sw, ss⟩ := HH.row
  have rr := HH.roots
  have hsp := HH.spares
  unfold room at hr
  rw [Bool.and_eq_true, decide_eq_true_eq, decide_eq_true_eq] at hr
  obtain ⟨hr1, hr2⟩ := hr
  have hl := H.good.last
  have mp := hlim _ (mem_p F)
  have mw := hlim _ (mem_gw F)
  have mr := hlim _ (mem_gr F)
  have ms : F.gs < w.heap.size := hlim _ (by unfold Foot.l; simp)
  obtain ⟨c0, c1, c2, c3, c4⟩ := rp.cells5
  have z4 := rp.free 4
  obtain ⟨p0, p1, p2, p3, p4⟩ := r0.cells5
  have y4 := r0.free 4
  have d1 : decide ((h.size : Int) < (h.ws.length : Int) + 3 + (x.size : Int)) = false := decide_eq_false (by omega)
  have d1' : decide (h.size < h.ws.length + 3 + x.size) = false := decide_eq_false (by omega)
  have q1 : ((h.last : Int) == 4294967295) = false := by rw [beq_eq_false_iff_ne]; omega
  have q2 : (h.last == 4294967295) = false := by rw [beq_eq_false_iff_ne]; omega
  have n1 : F.p ≠ w.heap.size := by omega
  have n2 : w.heap.size ≠ F.p := by omega
  rw [ex]
  clear hW ex hc hc2 e1 e2 e3 e4 hw0 hC
  go_enter Tryz.func48, Tryz.ntmps48
  go_wp2_with fail
  rw [← HW.out]
  refine (HC.out).mono ?_
  rintro e V ⟨rfl, rfl⟩
  (try dsimp only)
  go_wp2_with fail
  go_quiet ((go_at_call 29; exact Calls.quiet_of_same ((HM.out _).mono (fun e w' h => ⟨h.1, h.2.symm⟩))))
  go_wp2_with fail
  rw [show ((h.last : Int) + 1) = ((h.last + 1 : Nat) : Int) from rfl]
  obtain ⟨la, hla⟩ : ∃ a, a = h.last + 1 := ⟨_, rfl⟩
  rw [← hla] at HP HPt ⊢
  have Hla := Lib.hid hla; clear hla
  obtain ⟨X1, hX1⟩ : ∃ X, X = ((W.drewN nq).setCell ⟨F.p, 4, none⟩ (.int .u32 (la : Nat))).setCell ⟨w.heap.size, 4, none⟩ (.int .u32 (la : Nat)) := ⟨_, rfl⟩
  rw [← hX1]
  have hm : Mid w F h [.int .i64 x.size, .int .i64 x.fmt, .int .i64 x.spare, .int .u32 x.cls, .int .u32 la] la h.ws F.gw cw cs X1 := by
    rw [hX1]; exact Mid.start hB hlim rp r0 sw ss rr hsp lp
  have h5w : 5 ≤ w.heap.size := by omega
  clear hX1 HM HC HW hB rp r0 sw ss rr hsp c0 c1 c2 c3 c4 z4 p0 p1 p2 p3 p4 y4 d1 d1' q1 q2
  refine (HP.out X1 hm.2.2.2.2.2.2.2.1).mono ?_
  rintro e X2 ⟨rfl, hb2⟩
  (try dsimp only)
  replace hm := hm.below hb2 h5w
  have hB1 := hm.2.2.2.2.2.2.2.2
  obtain ⟨X3, hX3, r7, hb3, hz3⟩ := alloc_row X2 122 [.int .u32 w0, .int .u32 x.cls, .int .u32 la]
  have HX3 := Lib.hid hX3
  replace hm := hm.below hb3 h5w
  clear HP hb2 hX3 hb3
  go_wp2_with fail
  rw [← HX3.out]
  obtain ⟨i0, hi, hz0, hz1, hz2⟩ := info_parts info32
  have hmd := hm.below (Below.refl _ X3).drew h5w
  have r7d : Row X3.drew X2.heap.size 122 (nums .u32 [w0, x.cls, la]) := r7
  obtain ⟨v4, X4, hr4, hg4⟩ := run_sl_append (P := Tryz.prog) (t := 71) (ty := 71) Tryz.underlying71 hi hz0 hz1 hz2 rfl hmd.2.1 ⟨X2.heap.size, 0, none⟩ 3 3 (by omega) (nums .u32 [w0, x.cls, la]) rfl (row_news r7d) (by simp [nums, Value.oneCell']) (Nat.le_trans (show h.ws.length + 3 ≤ 1048579 by omega) (by decide)) (by omega)
  have ho4 := hg4.only
  obtain ⟨gw4, cp4, rfl, rp4, hm4⟩ := hmd.grow hlim ⟨lp, lw⟩ ⟨Ne.symm a1, a4, a5⟩ hg4 rfl
  obtain ⟨k0, -⟩ := hmd.1.cells5
  obtain ⟨k4, -⟩ := rp4.cells5
  have z4 := rp4.free 0
  have hX : Only [F.gw, F.p] X3 X3.drew := (Only.refl _ _).drew
  have hX4 : Only [F.gw, F.p] X3 X4 := hX.trans ho4 (fun q hq => by rw [List.mem_singleton] at hq; subst hq; exact .inl (by simp))
  have HR4 := Lib.hid hr4
  clear hr4 ho4
  refine wp_region_held (S := fun X => Only [F.gw, F.p] X3 X) (by kernel_rfl) ?_
  refine wpAnyH_take_at (i := 0) (v := .pointer (some ⟨F.p, 0, none⟩)) 65 rfl rfl (by kernel_rfl) (by kernel_rfl) (by kernel_rfl) (fun _ _ _ h => h) (.inl ⟨rfl, fun X hX => by go_simp⟩) hX ?_
  simp only [Act.put, List.setIfInBounds_toArray, List.set_cons_zero, List.set_cons_succ]
  refine wpAnyH_take_at (i := 1) (v := .pointer (some ⟨F.p, 0, none⟩)) 66 rfl rfl (by kernel_rfl) (by kernel_rfl) (by kernel_rfl) (fun _ _ _ h => h) (.inl ⟨rfl, fun X hX => by go_simp⟩) hX ?_
  simp only [Act.put, List.setIfInBounds_toArray, List.set_cons_zero, List.set_cons_succ]
  refine wpAnyH_take_at (i := 2) (v := .pointer (some ⟨F.p, 0, none⟩)) 67 rfl rfl (by kernel_rfl) (by kernel_rfl) (by kernel_rfl) (fun _ _ _ h => h) (.inl ⟨rfl, fun X hX => by go_simp⟩) hX ?_
  simp only [Act.put, List.setIfInBounds_toArray, List.set_cons_zero, List.set_cons_succ]
  refine wpAnyH_take_at (i := 3) (v := .pointer (some ⟨F.p, 0, none⟩)) 68 rfl rfl (by kernel_rfl) (by kernel_rfl) (by kernel_rfl) (fun _ _ _ h => h) (.inl ⟨rfl, fun X hX => by go_simp⟩) hX ?_
  simp only [Act.put, List.setIfInBounds_toArray, List.set_cons_zero, List.set_cons_succ]
  refine wpAnyH_take_at (i := 5) (v := .slice (some ⟨X2.heap.size, 0, none⟩) 3 3) 70 rfl rfl (by kernel_rfl) (by kernel_rfl) (by kernel_rfl) (fun _ _ _ h => h) (.inl ⟨rfl, fun X hX => by go_simp⟩) hX ?_
  simp only [Act.put, List.setIfInBounds_toArray, List.set_cons_zero, List.set_cons_succ]
  refine wpAnyH_all (rs := [4]) (by kernel_rfl) (by decide) (fun i hi => ?_)
  rw [List.mem_singleton] at hi
  subst hi
  have HX := Lib.hid hX; clear hX
  unfold wpOp
  go_simp
  have hX := HX.out
  refine .inl ⟨hX, ?_⟩
  refine wpAnyH_all (rs := [6]) (by kernel_rfl) (by decide) (fun i hi => ?_)
  rw [List.mem_singleton] at hi
  subst hi
  refine wpOp_plain rfl rfl ?_
  refine Lib.wp_append_run _ (.tmp 69) (.tmp 70) 71 71 rfl _ _ rfl rfl _ _ HR4.out ?_
  replace hX := hX4
  refine ⟨hX, ?_⟩
  simp only [Act.put, List.setIfInBounds_toArray, List.set_cons_zero, List.set_cons_succ]
  refine wpAnyH_take_at (i := 7) (v := .pointer (some ⟨F.p, 0, none⟩)) 72 rfl rfl (by kernel_rfl) (by kernel_rfl) (by kernel_rfl) (fun _ _ _ h => h) (.inl ⟨rfl, fun X hX => by go_simp⟩) hX ?_
  simp only [Act.put, List.setIfInBounds_toArray, List.set_cons_zero, List.set_cons_succ]
  refine wpAnyH_take_at (i := 8) (v := .pointer (some ⟨F.p, 0, none⟩)) 73 rfl rfl (by kernel_rfl) (by kernel_rfl) (by kernel_rfl) (fun _ _ _ h => h) (.inl ⟨rfl, fun X hX => by go_simp⟩) hX ?_
  simp only [Act.put, List.setIfInBounds_toArray, List.set_cons_zero, List.set_cons_succ]
  refine wpAnyH_all (rs := [9]) (by kernel_rfl) (by decide) (fun i hi => ?_)
  rw [List.mem_singleton] at hi
  subst hi
  unfold wpOp
  go_simp
  replace hX := hX.setCell (a := ⟨F.p, 0, none⟩) (by simp) (.slice (some ⟨gw4, 0, none⟩) (h.ws.length + 3) cp4)
  refine .inl ⟨hX, ?_⟩
  refine wpAnyH_done (by kernel_rfl) ?_ _
  obtain ⟨X5, hX5⟩ : ∃ X, X = X4.setCell ⟨F.p, 0, none⟩ (.slice (some ⟨gw4, 0, none⟩) (h.ws.length + 3) cp4) := ⟨_, rfl⟩
  rw [← hX5] at hm4 ⊢
  clear hX5 hX hX4 HR4 k0 k4 z4 rp4 hmd r7d r7 hm HX3 hz3
  obtain ⟨p0, p1, p2, p3, p4⟩ := hm4.2.2.2.2.2.1.cells5
  go_wp2_with fail
  refine (HPt.out X5).mono ?_
  rintro e X6 ⟨rfl, hb6⟩
  (try dsimp only)
  have hm6 := hm4.below hb6 h5w
  clear hm4 hb6 HPt p0 p1 p2 p3 p4
  obtain ⟨bt, hbt⟩ : ∃ b, b = (decide (x.fmt = 1) || decide (x.fmt = 4)) := ⟨_, rfl⟩
  rw [← hbt]
  have hft : fill = if bt = true then wd h.rt 0 else 0 := by
    rw [hfill, hbt]
    by_cases c1 : x.fmt = 1 ∨ x.fmt = 4
    · rw [if_pos c1, if_pos (by simpa using c1)]
    · rw [if_neg c1, if_neg (by simpa using c1)]
  have Hft := Lib.hid hft
  clear hft hfill hbt
  obtain ⟨p0, p1, p2, p3, p4⟩ := hm6.2.2.2.2.2.1.cells5
  obtain ⟨c0, c1, c2, c3, c4⟩ := hm6.1.cells5
  go_upto_if 75 with fail
  go_cut [9] (fun s9 wx => s9 = .int .u32 (fill : Nat) ∧ X6 = wx)
  case first =>
    cases bt with
    | false =>
      obtain rfl : fill = 0 := Hft.out
      clear Hft
      go_wp2_with fail
      go_meet
      exact ⟨rfl, rfl⟩
    | true =>
      obtain rfl : fill = wd h.rt 0 := Hft.out
      clear Hft
      have rr6 := hm6.2.2.2.2.1
      have cx := rr6.cell (i := 0) (by rw [H.good.rlen]; decide)
      have sl := rr6.sl (n := 64) (by rw [nums_length]; exact H.good.rlen.symm) (by decide)
      have ix := fun W => sl.index 53 Tryz.underlying53 size_oop W .i64 0 (by decide)
      rw [show ((0 : Nat) : Int) = 0 from rfl] at ix
      clear sl rr6
      go_wp2_with fail
      go_meet
      exact ⟨rfl, rfl⟩
  case rest =>
    obtain ⟨rfl, rfl⟩ := hcut
    clear Hft c0 c1 c2 c3 c4
    have hfl : fill < 4294967296 := HFl.out
    go_wp2_with fail
    clear p0 p1 p2 p3 p4
    go_loopw [84] (fun i wr => ∃ (k gw c : Nat), k ≤ x.size ∧ i = .int .i64 k ∧ Mid w F h [.int .i64 x.size, .int .i64 x.fmt, .int .i64 x.spare, .int .u32 x.cls, .int .u32 la] la (h.ws ++ [w0, x.cls, la] ++ List.replicate k fill) gw c cs wr) (fun i _ => x.size - (RowKit.intOf i).toNat)
    case atStart => exact ⟨0, gw4, cp4, Nat.zero_le _, rfl, by rw [List.replicate_zero, List.append_nil]; exact hm6⟩
    case round =>
      clear hm6
      obtain ⟨k, gw, cp, hk, rfl, hm7⟩ := hrel
      by_cases h0 : k < x.size
      · have d1 : decide ((k : Int) < (x.size : Int)) = true := decide_eq_true (by omega)
        have d2 : decide (k < x.size) = true := decide_eq_true h0
        have hb8 : Below wr.heap.size wr (wr.alloc (.cells #[.int .u32 (fill : Nat)] 29)) := (Below.refl _ _).alloc (Nat.le_refl _) _
        have hm8 := hm7.below hb8 h5w
        have hLen : (h.ws ++ [w0, x.cls, la] ++ List.replicate k fill).length = h.ws.length + 3 + k := by simp; omega
        obtain ⟨v9, X9, hr9, hg9⟩ := run_sl_append (P := Tryz.prog) (t := 71) (ty := 71) Tryz.underlying71 hi hz0 hz1 hz2 rfl hm8.2.1 ⟨wr.heap.size, 0, none⟩ 1 1 (by omega) (nums .u32 [fill]) rfl (cell_one_new _ _ _) (by simp [nums, Value.oneCell']) (Nat.le_trans (show (h.ws ++ [w0, x.cls, la] ++ List.replicate k fill).length + 1 ≤ 1048577 by omega) (by decide)) (by omega)
        obtain ⟨gw9, cp9, rfl, rp9, hm9⟩ := hm8.grow hlim ⟨lp, lw⟩ ⟨Ne.symm a1, a4, a5⟩ hg9 rfl
        rw [hLen] at hr9 rp9
        have e9 : h.ws ++ [w0, x.cls, la] ++ List.replicate k fill ++ [fill] = h.ws ++ [w0, x.cls, la] ++ List.replicate (k + 1) fill := by rw [List.append_assoc, ← List.replicate_succ']
        rw [e9] at hm9
        have HM9 := Lib.hid hm9
        have HR9 := Lib.hid hr9
        obtain ⟨c0, -⟩ := hm7.1.cells5
        rw [hLen] at c0
        obtain ⟨k4, -⟩ := rp9.cells5
        have z4 := rp9.free 0
        clear hr9 hm9 hm8 hm7 hg9 e9 rp9 hb8
        rw [hLen] at HM9
        go_wp2_with (at_builtin; refine Lib.wpList_append_run _ rfl _ _ _ _ rfl _ _ rfl rfl _ _ HR9.out ?_)
        go_roundw
        case rel => exact ⟨k + 1, gw9, cp9, h0, by simp, HM9.out⟩
        case measure => simp [RowKit.intOf]; omega
      · obtain rfl : k = x.size := by omega
        have d1 : decide ((x.size : Int) < (x.size : Int)) = false := decide_eq_false (by omega)
        have d2 : decide (x.size < x.size) = false := decide_eq_false (by omega)
        go_wp2_with fail
        have hm8 : Mid w F h [.int .i64 x.size, .int .i64 x.fmt, .int .i64 x.spare, .int .u32 x.cls, .int .u32 la] (h.last + 1) (h.ws ++ [Hd.w0 ⟨(List.replicate x.size fill).length, x.fmt, x.spare, x.cls, h.last + 1⟩, x.cls, h.last + 1] ++ List.replicate x.size fill) gw cp cs wr.drew := by
          have e : Hd.w0 ⟨x.size, x.fmt, x.spare, x.cls, la⟩ = w0 := by rw [Hw0.out, Hla.out]; rfl
          rw [List.length_replicate, ← Hla.out, e]
          exact hm7.below (Below.refl _ wr).drew h5w
        obtain ⟨i1, ki, kz0, kz1, kz2⟩ := info_parts info_bool
        have hLs : (List.replicate x.size fill).length = x.size := List.length_replicate
        obtain ⟨v9, X9, hr9, hg9⟩ := run_sl_zeros (P := Tryz.prog) (t := 72) (tn := 3) (ty := 72) Tryz.underlying72 (kn := .i64) Tryz.underlying3 ki kz0 kz1 kz2 rfl rfl hm8.2.2.2.1 .i64 (3 + x.size) (by omega) (Nat.le_trans (show h.ws.length + (3 + x.size) ≤ 1048576 by omega) (by decide)) (by omega)
        have ho9 := hg9.only
        have hg9' := hg9
        rw [← hLs] at hg9'
        rw [List.length_replicate] at hg9'
        obtain ⟨gs9, cp9, rfl, ⟨l0, l1, l2, l3, l4, rp9⟩, hs9, hc9, hst9⟩ := hm8.finish hlim hlen H.low hG H.good.pos (by rw [hLs]; exact hg9)
        rw [hLs] at hs9 hc9 hst9 hr9
        obtain ⟨-, k1, -⟩ := hm8.1.cells5
        obtain ⟨-, k4, -⟩ := rp9.cells5
        have z4 := rp9.free 1
        have hX : Only [F.gs, F.p] wr wr.drew := (Only.refl _ _).drew
        have hX9 : Only [F.gs, F.p] wr X9 := hX.trans ho9 (fun q hq => by rw [List.mem_singleton] at hq; subst hq; exact .inl (by simp))
        have HKb := Lib.hid (fun X (hX : Only [F.gs, F.p] wr X) => show X.cell? ⟨w.heap.size, 0, none⟩ = some (.int .i64 x.size) from (hm7.2.2.2.2.2.1.only hX (by simp; omega)).cell_at 0)
        have HR9 := Lib.hid hr9
        have HS9 := Lib.hid hst9
        have HG9 := Lib.hid hs9
        have HC9 := Lib.hid hc9
        clear hr9 hst9 hs9 hc9 hg9 hg9' hm7 hm8 rp9 ho9
        refine wp_region_held (S := fun X => Only [F.gs, F.p] wr X) (by kernel_rfl) ?_
        refine wpAnyH_take_at (i := 0) (v := .pointer (some ⟨F.p, 0, none⟩)) 97 rfl rfl (by kernel_rfl) (by kernel_rfl) (by kernel_rfl) (fun _ _ _ h => h) (.inl ⟨rfl, fun X hX => by go_simp⟩) hX ?_
        simp only [Act.put, List.setIfInBounds_toArray, List.set_cons_zero, List.set_cons_succ]
        refine wpAnyH_take_at (i := 1) (v := .pointer (some ⟨F.p, 0, none⟩)) 98 rfl rfl (by kernel_rfl) (by kernel_rfl) (by kernel_rfl) (fun _ _ _ h => h) (.inl ⟨rfl, fun X hX => by go_simp⟩) hX ?_
        simp only [Act.put, List.setIfInBounds_toArray, List.set_cons_zero, List.set_cons_succ]
        refine wpAnyH_take_at (i := 2) (v := .pointer (some ⟨F.p, 0, none⟩)) 99 rfl rfl (by kernel_rfl) (by kernel_rfl) (by kernel_rfl) (fun _ _ _ h => h) (.inl ⟨rfl, fun X hX => by go_simp⟩) hX ?_
        simp only [Act.put, List.setIfInBounds_toArray, List.set_cons_zero, List.set_cons_succ]
        refine wpAnyH_take_at (i := 3) (v := .pointer (some ⟨F.p, 1, none⟩)) 100 rfl rfl (by kernel_rfl) (by kernel_rfl) (by kernel_rfl) (fun _ _ _ h => h) (.inl ⟨rfl, fun X hX => by go_simp⟩) hX ?_
        simp only [Act.put, List.setIfInBounds_toArray, List.set_cons_zero, List.set_cons_succ]
        refine wpAnyH_take_at (i := 5) (v := .pointer (some ⟨w.heap.size, 0, none⟩)) 102 rfl rfl (by kernel_rfl) (by kernel_rfl) (by kernel_rfl) (fun _ _ _ h => h) (.inl ⟨rfl, fun X hX => by go_simp⟩) hX ?_
        simp only [Act.put, List.setIfInBounds_toArray, List.set_cons_zero, List.set_cons_succ]
        refine wpAnyH_take_at (i := 6) (v := .int .i64 x.size) 103 rfl rfl (by kernel_rfl) (by kernel_rfl) (by kernel_rfl) (fun _ _ _ h => h) (.inl ⟨rfl, fun X hX => by have kb := HKb.out X hX; go_simp⟩) hX ?_
        simp only [Act.put, List.setIfInBounds_toArray, List.set_cons_zero, List.set_cons_succ]
        refine wpAnyH_take_at (i := 7) (v := .int .i64 ((3 + x.size : Nat) : Int)) 104 rfl rfl (by kernel_rfl) (by kernel_rfl) (by kernel_rfl) (fun _ _ _ h => h) (.inl ⟨rfl, fun X hX => by go_simp; (first | done | exact i64_self (by omega) (by omega) | (rw [i64_self (by omega) (by omega)]; omega))⟩) hX ?_
        simp only [Act.put, List.setIfInBounds_toArray, List.set_cons_zero, List.set_cons_succ]
        refine wpAnyH_all (rs := [4]) (by kernel_rfl) (by decide) (fun i hi => ?_)
        rw [List.mem_singleton] at hi
        subst hi
        have HX := Lib.hid hX; clear hX
        unfold wpOp
        go_simp
        have hX := HX.out
        refine .inl ⟨hX, ?_⟩
        refine wpAnyH_all (rs := [8]) (by kernel_rfl) (by decide) (fun i hi => ?_)
        rw [List.mem_singleton] at hi
        subst hi
        refine wpOp_plain rfl rfl ?_
        refine Lib.wp_append_run _ (.tmp 101) (.tmp 104) 72 3 rfl _ _ rfl rfl _ _ HR9.out ?_
        replace hX := hX9
        refine ⟨hX, ?_⟩
        simp only [Act.put, List.setIfInBounds_toArray, List.set_cons_zero, List.set_cons_succ]
        refine wpAnyH_take_at (i := 9) (v := .pointer (some ⟨F.p, 0, none⟩)) 106 rfl rfl (by kernel_rfl) (by kernel_rfl) (by kernel_rfl) (fun _ _ _ h => h) (.inl ⟨rfl, fun X hX => by go_simp⟩) hX ?_
        simp only [Act.put, List.setIfInBounds_toArray, List.set_cons_zero, List.set_cons_succ]
        refine wpAnyH_take_at (i := 10) (v := .pointer (some ⟨F.p, 1, none⟩)) 107 rfl rfl (by kernel_rfl) (by kernel_rfl) (by kernel_rfl) (fun _ _ _ h => h) (.inl ⟨rfl, fun X hX => by go_simp⟩) hX ?_
        simp only [Act.put, List.setIfInBounds_toArray, List.set_cons_zero, List.set_cons_succ]
        refine wpAnyH_all (rs := [11]) (by kernel_rfl) (by decide) (fun i hi => ?_)
        rw [List.mem_singleton] at hi
        subst hi
        unfold wpOp
        go_simp
        replace hX := hX.setCell (a := ⟨F.p, 1, none⟩) (by simp) (.slice (some ⟨gs9, 0, none⟩) (h.ws.length + (3 + x.size)) cp9)
        refine .inl ⟨hX, ?_⟩
        refine wpAnyH_done (by kernel_rfl) ?_ _
        have hs9 := HG9.out
        have hc9 := HC9.out
        have HST := HS9.out
        generalize X9.setCell ⟨F.p, 1, none⟩ (.slice (some ⟨gs9, 0, none⟩) (h.ws.length + (3 + x.size)) cp9) = Z at *
        have HSZ := Lib.hid HST
        clear HST
        have ix := fun W => hs9.index 72 Tryz.underlying72 size_bool W .i64 h.ws.length (by omega)
        have cx := hs9.cell (i := h.ws.length) (by omega)
        rw [List.getElem?_append_right (by unfold bools; rw [List.length_map]; omega), show h.ws.length - (bools h.st).length = 0 from by unfold bools; rw [List.length_map]; omega, show (List.replicate (3 + x.size) (Value.bool false))[0]? = some (.bool false) from by rw [List.getElem?_replicate, if_pos (by omega)]] at cx
        have zx := hs9.free h.ws.length
        have HA := Lib.hid (fun X => oop_at X h.ws.length (by have := H.good.pos; omega) (by omega))
        clear hs9 HS9 HG9 HC9 HR9 HKb hX9 hX k1 k4 z4
        go_wp2_with fail
        refine (HA.out _).mono ?_
        rintro e Z1 ⟨rfl, rfl⟩
        (try dsimp only)
        go_wp2_with fail
        go_ret2
        exact ⟨_, rfl, HSZ.out⟩
end
end Go.Proofs.YteiikhcadjdkcaaGreatDoor
