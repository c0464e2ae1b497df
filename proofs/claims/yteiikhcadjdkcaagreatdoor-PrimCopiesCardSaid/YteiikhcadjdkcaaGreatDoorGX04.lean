/- Bytes in words, plain. Plain arithmetic of a long division, on words. The walk of big.sum: the sum of two numbers. -/
import Derived.Test.YteiikhcadjdkcaaGreatDoorGX03
import Derived.Test.YteiikhcadjdkcaaGreatDoorGX01
import Derived.Lib.BitFns
set_option linter.unusedVariables false
set_option linter.unusedSimpArgs false
namespace Go.Proofs.YteiikhcadjdkcaaGreatDoor.Limb
def B8 (t : List Nat) : Prop := ∀ x ∈ t, x < 256
theorem B8.tail {a : Nat} {t : List Nat} (h : B8 (a :: t)) : B8 t := fun x hx => h x (by simp [hx])
theorem B8.head {a : Nat} {t : List Nat} (h : B8 (a :: t)) : a < 256 := h a (by simp)
theorem packB_length : ∀ t : List Nat, (packB t).length = (t.length + 3) / 4
  | [] => rfl
  | [_] => by simp [packB]
  | [_, _] => by simp [packB]
  | [_, _, _] => by simp [packB]
  | a :: b :: c :: d :: t => by
    show (packB t).length + 1 = _
    rw [packB_length t]; simp only [List.length_cons]; omega
theorem packB_lim : ∀ t : List Nat, B8 t → Lim (packB t)
  | [], _ => Lim.nil
  | [a], h => Lim.cons (by have := h.head; omega) Lim.nil
  | [a, b], h => Lim.cons (by have := h.head; have := h.tail.head; omega) Lim.nil
  | [a, b, c], h => Lim.cons (by have := h.head; have := h.tail.head; have := h.tail.tail.head; omega) Lim.nil
  | a :: b :: c :: d :: t, h => by
    refine Lim.cons (by have := h.head; have := h.tail.head; have := h.tail.tail.head; have := h.tail.tail.tail.head; omega) (packB_lim t h.tail.tail.tail.tail)
theorem by4_of {a b c d : Nat} (ha : a < 256) (hb : b < 256) (hc : c < 256) (hd : d < 256) : by4 (a + 256 * b + 65536 * c + 16777216 * d) = [a, b, c, d] := by
  unfold by4
  rw [List.cons.injEq, List.cons.injEq, List.cons.injEq, List.cons.injEq]
  refine ⟨?_, ?_, ?_, ?_, rfl⟩ <;> omega
theorem of_by4 {a : Nat} (h : a < 4294967296) : a % 256 + 256 * (a / 256 % 256) + 65536 * (a / 65536 % 256) + 16777216 * (a / 16777216 % 256) = a := by omega
theorem unpB_length (l : List Nat) : (unpB l).length = 4 * l.length := by
  induction l with
  | nil => rfl
  | cons a t ih => show (by4 a ++ unpB t).length = _; rw [List.length_append, ih]; show 4 + _ = _; simp only [List.length_cons]; omega
theorem unpB_b8 (l : List Nat) : B8 (unpB l) := by
  induction l with
  | nil => intro x hx; cases hx
  | cons a t ih =>
    intro x hx
    rcases List.mem_append.1 (show x ∈ by4 a ++ unpB t from hx) with h | h
    · unfold by4 at h
      simp only [List.mem_cons, List.not_mem_nil, or_false] at h
      rcases h with rfl | rfl | rfl | rfl <;> omega
    · exact ih x h
theorem pack_unp (l : List Nat) (h : Lim l) : packB (unpB l) = l := by
  induction l with
  | nil => rfl
  | cons a t ih =>
    show (a % 256 + 256 * (a / 256 % 256) + 65536 * (a / 65536 % 256) + 16777216 * (a / 16777216 % 256)) :: packB (unpB t) = _
    rw [ih h.tail, of_by4 h.head]
theorem unp_pack : ∀ t : List Nat, B8 t → unpB (packB t) = t ++ List.replicate (4 * ((t.length + 3) / 4) - t.length) 0
  | [], _ => rfl
  | [a], h => by
    have e := by4_of h.head (b := 0) (c := 0) (d := 0) (by decide) (by decide) (by decide)
    show by4 a ++ [] = _
    rw [show a + 256 * 0 + 65536 * 0 + 16777216 * 0 = a by omega] at e
    rw [e, show 4 * (([a].length + 3) / 4) - [a].length = 3 by simp]; rfl
  | [a, b], h => by
    have e := by4_of h.head h.tail.head (c := 0) (d := 0) (by decide) (by decide)
    show by4 (a + 256 * b) ++ [] = _
    rw [show a + 256 * b + 65536 * 0 + 16777216 * 0 = a + 256 * b by omega] at e
    rw [e, show 4 * (([a, b].length + 3) / 4) - [a, b].length = 2 by simp]; rfl
  | [a, b, c], h => by
    have e := by4_of h.head h.tail.head h.tail.tail.head (d := 0) (by decide)
    show by4 (a + 256 * b + 65536 * c) ++ [] = _
    rw [show a + 256 * b + 65536 * c + 16777216 * 0 = a + 256 * b + 65536 * c by omega] at e
    rw [e, show 4 * (([a, b, c].length + 3) / 4) - [a, b, c].length = 1 by simp]; rfl
  | a :: b :: c :: d :: t, h => by
    show by4 (a + 256 * b + 65536 * c + 16777216 * d) ++ unpB (packB t) = _
    rw [by4_of h.head h.tail.head h.tail.tail.head h.tail.tail.tail.head, unp_pack t h.tail.tail.tail.tail]
    have e : 4 * (((a :: b :: c :: d :: t).length + 3) / 4) - (a :: b :: c :: d :: t).length = 4 * ((t.length + 3) / 4) - t.length := by
      simp only [List.length_cons]; omega
    rw [e]; rfl
theorem unpB_append (a b : List Nat) : unpB (a ++ b) = unpB a ++ unpB b := by
  induction a with
  | nil => rfl
  | cons x t ih => show by4 x ++ unpB (t ++ b) = by4 x ++ unpB t ++ unpB b; rw [ih, List.append_assoc]
theorem unpB_spare {l : List Nat} {s n : Nat} (hs : s ≤ 3) (hn : l.length = n + 1) (h : wd l n < 2 ^ (32 - 8 * s)) : (unpB l).drop (4 * l.length - s) = List.replicate s 0 := by
  have e : l = l.take n ++ [wd l n] := by rw [← take_wd (by omega), List.take_of_length_le (by omega)]
  have hl : (l.take n).length = n := by rw [List.length_take]; omega
  rw [hn, e, unpB_append, List.drop_append, unpB_length, hl, List.drop_of_length_le (by rw [unpB_length, hl]; omega), List.nil_append]
  have e2 : 4 * (n + 1) - s - 4 * n = 4 - s := by omega
  rw [e2]
  generalize wd l n = a at h
  show (by4 a ++ []).drop (4 - s) = _
  rw [List.append_nil]
  unfold by4
  have : s = 0 ∨ s = 1 ∨ s = 2 ∨ s = 3 := by omega
  rcases this with rfl | rfl | rfl | rfl
  · rfl
  · show [a / 16777216 % 256] = [0]
    have : a < 16777216 := h
    rw [show a / 16777216 % 256 = 0 by omega]
  · show [a / 65536 % 256, a / 16777216 % 256] = [0, 0]
    have : a < 65536 := h
    rw [show a / 16777216 % 256 = 0 by omega, show a / 65536 % 256 = 0 by omega]
  · show [a / 256 % 256, a / 65536 % 256, a / 16777216 % 256] = [0, 0, 0]
    have : a < 256 := h
    rw [show a / 16777216 % 256 = 0 by omega, show a / 65536 % 256 = 0 by omega, show a / 256 % 256 = 0 by omega]
theorem val_inj {a b : List Nat} (ha : Lim a) (hb : Lim b) (hl : a.length = b.length) (h : val a = val b) : a = b :=
  ext_wd hl fun i _ => by rw [wd_val ha, wd_val hb, h]
theorem flds_length {h : Hp} (k : Good h) {o : Nat} (ho : isO h o = true) : (flds h o).length = (hdO h o).size := by
  have := k.inside _ (isO_iff.1 ho).2.2
  unfold flds; rw [List.length_take, List.length_drop]
  show min (hd h (o / 2)).size _ = (hd h (o / 2)).size
  omega
theorem flds_lim {h : Hp} (k : Good h) (o : Nat) : Lim (flds h o) := (k.lim.drop _).take _
theorem flds_wd {h : Hp} {o i : Nat} (hi : i < (hdO h o).size) : wd (flds h o) i = fld h o i := by
  unfold flds fld; rw [wd_take hi, wd_drop]
theorem bytO_eq {h : Hp} (k : Good h) {o : Nat} (ho : isO h o = true) (hf : (hdO h o).fmt = 2) {t : List Nat} (ht : B8 t) (hl : (hdO h o).len = t.length) : bytO h o = t ↔ flds h o = packB t := by
  have hb := (isO_iff.1 ho).2.2
  obtain ⟨hok, _⟩ := k.ok _ hb
  have hok : (hdO h o).Ok := hok
  have hln := flds_length k ho
  have hsp := hok.spare
  have hss := hok.sp
  have hlen : (hdO h o).len = 4 * (hdO h o).size - (hdO h o).spare := by unfold Hd.len; rw [if_pos hf]
  have hsz : (t.length + 3) / 4 = (hdO h o).size := by omega
  have hspz : (unpB (flds h o)).drop (4 * (flds h o).length - (hdO h o).spare) = List.replicate (hdO h o).spare 0 := by
    by_cases h0 : (hdO h o).spare = 0
    · rw [h0, List.drop_of_length_le (by rw [unpB_length]; omega)]; rfl
    · obtain ⟨n, hn⟩ : ∃ n, (hdO h o).size = n + 1 := ⟨(hdO h o).size - 1, by rcases hss with h1 | h1 <;> omega⟩
      refine unpB_spare hsp (hln.trans hn) ?_
      rw [flds_wd (by omega)]
      have := k.spz _ hb hf (show 0 < (hd h (o / 2)).spare from Nat.pos_of_ne_zero h0)
      rw [show o / 2 + 2 + (hd h (o / 2)).size = o / 2 + 3 + n by show o / 2 + 2 + (hdO h o).size = _; omega] at this
      exact this
  constructor
  · intro e
    have e2 : unpB (flds h o) = t ++ List.replicate (hdO h o).spare 0 := by
      rw [← hspz, ← e]
      unfold bytO
      rw [hlen, hln]
      exact (List.take_append_drop _ _).symm
    have e3 := unp_pack t ht
    rw [hsz, show 4 * (hdO h o).size - t.length = (hdO h o).spare by omega, ← e2] at e3
    rw [← pack_unp _ (flds_lim k o), ← e3, pack_unp _ (packB_lim t ht)]
  · intro e
    unfold bytO
    rw [e, unp_pack t ht, hl, List.take_append_of_le_length (Nat.le_refl _), List.take_length]
end Go.Proofs.YteiikhcadjdkcaaGreatDoor.Limb
namespace Go.Proofs.YteiikhcadjdkcaaGreatDoor.Limb
theorem drop_val (us : List Nat) (j : Nat) (h : j < us.length) : val (us.drop j) = wd us j + 4294967296 * val (us.drop (j + 1)) := by
  rw [List.drop_eq_getElem_cons h, ← wd_lt h, val]
structure Div (us0 us qs : List Nat) (V n k : Nat) : Prop where
  len : us.length = us0.length
  lim : Lim us
  qlim : Lim qs
  qlen : qs.length + n = us0.length
  kle : k ≤ qs.length
  low : us.take k = us0.take k
  rest : val (us.drop k) < V
  eq : val (us0.drop k) = V * val (qs.drop k) + val (us.drop k)
theorem Div.seg_eq {us0 us qs : List Nat} {V n j : Nat} (D : Div us0 us qs V n (j + 1)) (hV : V < W n) (hn : 0 < n) :
    seg us j (n + 1) = wd us j + 4294967296 * val (us.drop (j + 1)) ∧ val (us.drop (j + n + 1)) = 0 := by
  have hl := D.len; have hk := D.kle; have hq := D.qlen
  have h1 : val (us.drop (j + n + 1)) = 0 := by
    rw [show j + n + 1 = (j + 1) + n from by omega, ← List.drop_drop, val_drop (D.lim.drop _)]
    exact Nat.div_eq_of_lt (Nat.lt_trans D.rest hV)
  refine ⟨?_, h1⟩
  have h2 := val_take_drop (us.drop j) (n + 1) (by rw [List.length_drop]; omega)
  rw [List.drop_drop, show j + (n + 1) = j + n + 1 from by omega, h1, Nat.mul_zero, Nat.add_zero] at h2
  unfold seg
  rw [← h2, drop_val us j (by omega)]
theorem Div.seg_lt' {us0 us qs : List Nat} {V n j : Nat} (D : Div us0 us qs V n (j + 1)) (hV : V < W n) (hn : 0 < n) : seg us j (n + 1) < V * 4294967296 := by
  rw [(D.seg_eq hV hn).1]
  have h1 := D.rest
  have h2 := D.lim.wd j
  have := Nat.mul_le_mul_left 4294967296 (show val (us.drop (j + 1)) + 1 ≤ V from h1)
  rw [Nat.mul_comm V]; omega
theorem Div.step {us0 us us' qs : List Nat} {V n j : Nat} (D : Div us0 us qs V n (j + 1)) (hV : V < W n) (hn : 0 < n) (hl : us'.length = us.length) (hlim : Lim us') (htk : us'.take j = us.take j)
    (hdr : us'.drop (j + n + 1) = us.drop (j + n + 1)) (hs : seg us' j (n + 1) = seg us j (n + 1) % V) :
    Div us0 us' (qs.set j (seg us j (n + 1) / V)) V n j := by
  have hlen := D.len; have hk := D.kle; have hq := D.qlen
  have hpos : 0 < V := Nat.lt_of_le_of_lt (Nat.zero_le _) D.rest
  obtain ⟨h1, h2⟩ := D.seg_eq hV hn
  have hlt := D.seg_lt' hV hn
  have hqlt : seg us j (n + 1) / V < 4294967296 := by rw [Nat.div_lt_iff_lt_mul hpos, Nat.mul_comm]; exact hlt
  have e1 : val (us'.drop j) = seg us j (n + 1) % V := by
    have h3 := val_take_drop (us'.drop j) (n + 1) (by rw [List.length_drop]; omega)
    rw [List.drop_drop, show j + (n + 1) = j + n + 1 from by omega, hdr, h2, Nat.mul_zero, Nat.add_zero] at h3
    rw [h3]; exact hs
  refine ⟨by rw [hl, hlen], hlim, D.qlim.set hqlt, by rw [List.length_set]; exact hq, by rw [List.length_set]; omega, ?_, by rw [e1]; exact Nat.mod_lt _ hpos, ?_⟩
  · rw [htk]
    have := congrArg (List.take j) D.low
    rwa [List.take_take, List.take_take, Nat.min_eq_left (by omega)] at this
  · have hw : wd us0 j = wd us j := by
      have h5 : wd (us.take (j + 1)) j = wd (us0.take (j + 1)) j := by rw [D.low]
      rw [wd_take (by omega), wd_take (by omega)] at h5
      exact h5.symm
    have hq2 : val ((qs.set j (seg us j (n + 1) / V)).drop j) = seg us j (n + 1) / V + 4294967296 * val (qs.drop (j + 1)) := by
      rw [drop_val _ _ (by rw [List.length_set]; omega), wd_set (by omega), if_pos rfl, List.drop_set_of_lt (by omega)]
    rw [drop_val us0 j (by omega), D.eq, hq2, e1, hw]
    have h4 := Nat.div_add_mod (seg us j (n + 1)) V
    rw [h1] at h4 ⊢
    generalize (wd us j + 4294967296 * val (us.drop (j + 1))) / V = q at *
    generalize (wd us j + 4294967296 * val (us.drop (j + 1))) % V = r at *
    rw [Nat.mul_add, Nat.mul_add, Nat.mul_left_comm V 4294967296]
    omega
theorem Div.start {xs ys us0 : List Nat} {L k s : Nat} (hx : Lim xs) (hy : Lim ys) (ny : Norm ys) (hlx : xs.length = L) (hly : ys.length = k + 1) (hkL : k + 1 ≤ L)
    (hu : us0.length = L + 1) (hul : Lim us0) (huv : val us0 = val xs * 2 ^ s) : Div us0 us0 (List.replicate (L - k) 0) (val ys * 2 ^ s) (k + 1) (L - k) := by
  have h0 : val ((List.replicate (L - k) 0).drop (L - k)) = 0 := by rw [List.drop_of_length_le (by simp)]; rfl
  have hp : 0 < 2 ^ s := Nat.pow_pos (by decide)
  refine ⟨rfl, hul, Lim.replicate _ (by decide), by simp; omega, by simp, rfl, ?_, by rw [h0]; omega⟩
  rw [val_drop hul, huv, Nat.div_lt_iff_lt_mul (W_pos _)]
  have h1 := val_lt hx
  rw [hlx] at h1
  have h2 : W k ≤ val ys := by rw [← rep_length_lt, rep_val hy ny]; omega
  have h3 : W L = W k * W (L - k) := by rw [← W_add]; congr 1; omega
  rw [Nat.mul_right_comm]
  refine Nat.mul_lt_mul_of_pos_right (Nat.lt_of_lt_of_le h1 ?_) hp
  rw [h3]; exact Nat.mul_le_mul_right _ h2
end Go.Proofs.YteiikhcadjdkcaaGreatDoor.Limb
namespace Go.Proofs.YteiikhcadjdkcaaGreatDoor
open Go Go.RowKit Limb
theorem info32 : (Tryz.prog.info? 29).map (fun i => (i.zero, i.size, i.bytes)) = some (some (.int .u32 0), 1, 4) := by kernel_rfl
end Go.Proofs.YteiikhcadjdkcaaGreatDoor
