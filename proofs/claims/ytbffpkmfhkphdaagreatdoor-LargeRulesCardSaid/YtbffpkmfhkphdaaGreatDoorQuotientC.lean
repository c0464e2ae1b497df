/- The walk of big.quotient: a long division. -/
import Derived.Test.YtbffpkmfhkphdaaGreatDoorGX05
import Derived.Test.YtbffpkmfhkphdaaGreatDoorGX08
import Derived.Test.YtbffpkmfhkphdaaGreatDoorGX07
import Derived.Test.YtbffpkmfhkphdaaGreatDoorGX06
set_option linter.unusedVariables false
set_option linter.unusedSimpArgs false
namespace Go.Proofs.YtbffpkmfhkphdaaGreatDoor
open Go Go.RowKit Limb

theorem Lay.grown {K : IntKind} {w w' : World} {a : Option Addr} {l : List Nat} {g : Nat} (h : Lay K w a l) (hg : w.grownBy w' (some g)) (hne : ∀ b off, a = some ⟨b, off, none⟩ → b ≠ g) : Lay K w' a l := by
  obtain ⟨b, off, h1, h2⟩ := h
  refine ⟨b, off, fun hl => ⟨(h1 hl).1, by have := hg.size; have := (h1 hl).2; omega⟩, fun i hi => ?_⟩
  have h3 := h1 (by omega)
  rw [← h2 i hi]
  exact World.cell?_of_block (hg.block b h3.2 (fun e => hne b off h3.1 (by injection e)))
theorem Lay.other {K : IntKind} {w : World} {a : Option Addr} {l : List Nat} {g : Nat} (h : Lay K w a l) (hne : ∀ b off, a = some ⟨b, off, none⟩ → b ≠ g) (i : Nat) (v : Value) : Lay K (w.setCell ⟨g, i, none⟩ v) a l :=
  h.grown (grown_store (World.grownBy.refl _ _) i v) hne
theorem Row.grown {w w' : World} {g h : Nat} {e : TypeId} {cs : List Value} (hr : Row w h e cs) (hg : w.grownBy w' (some g)) (hne : h ≠ g) : Row w' h e cs := by
  have := hr.lt; unfold Row at *; rw [hg.block h this (fun e => hne (by injection e))]; exact hr
theorem below_of_grown {w w' : World} {g B : Nat} (hg : w.grownBy w' (some g)) (hB : B ≤ g) (hs : B ≤ w.heap.size) : Below B w w' :=
  ⟨hg.os, hg.tape, hg.output, hg.size, fun k hk => hg.block k (by omega) (fun e => by injection e; omega)⟩
theorem Lay.block_lt {K : IntKind} {w : World} {a : Option Addr} {l : List Nat} (h : Lay K w a l) (hl : 0 < l.length) : ∀ b off, a = some ⟨b, off, none⟩ → b < w.heap.size := by
  obtain ⟨b', off', h1, _⟩ := h
  intro b off e
  have := h1 hl
  rw [e] at this
  have h3 := this.1
  simp only [Option.some.injEq, Addr.mk.injEq, and_true] at h3
  rw [h3.1]; exact this.2

theorem Lay.olds {K : IntKind} {w : World} {a : Option Addr} {l : List Nat} (h : Lay K w a l) : ∀ b, a = some b → ∀ j u, (nums K l)[j]? = some u → w.cell? (b.add j) = some u := by
  intro b hb j u hj
  have hjl : j < l.length := by have := (List.getElem?_eq_some_iff.1 hj).1; rwa [nums_length] at this
  obtain ⟨b', off', h1, h2⟩ := h
  have h3 := (h1 (by omega)).1
  rw [hb] at h3
  obtain rfl := Option.some.inj h3
  rw [nums_get hjl] at hj
  rw [Addr.add_lit, h2 j hjl]; exact hj

theorem below_over {w w' : World} {o : Obj} (h : Below (w.alloc o).heap.size (w.alloc o) w') : Below w.heap.size w w' :=
  ((Below.refl _ _).alloc (Nat.le_refl _) o).trans (h.mono (by rw [World.size_alloc]; omega))
/-- One call behind another. -/
theorem belc {w0 w1 w2 : World} (h1 : Below w0.heap.size w0 w1) (h2 : Below w1.heap.size w1 w2) : Below w0.heap.size w0 w2 := h1.trans (h2.mono h1.size)

/-- An 'append' that must grow: a new row. -/
theorem wpList_append_new {P : Program} {w : World} {ops : Array Oper} {rest : List Oper} {o : Oper} {a : Act} {Q : Exit → Act → World → Prop}
    (hg : o.guard = none) (s x : Operand) (t : TypeId) (hop : o.op = Op.call { callee := Callee.builtin Builtin.append, args := #[s, x], argTypes := #[t, t] })
    (e : TypeId) (z : Value) (bytes : Nat) (h1 : P.underlying t = some (.slice e)) (h2 : (P.info? e).map (fun i => (i.zero, i.size, i.bytes)) = some (some z, 1, bytes)) (h6 : z.cells.size = 1)
    (K : IntKind) (ao : Option Addr) (n cap : Nat) (l : List Nat) (hs : a.eval s = .slice ao n cap) (hlay : Lay K w ao l) (hl : n = l.length) (hn0 : 0 < n)
    (ad : Addr) (m c : Nat) (news : List Value) (hx : a.eval x = .slice (some ad) m c) (hn : news.length = m) (hc : ∀ j u, news[j]? = some u → w.cell? (ad.add j) = some u) (h1c : ∀ u ∈ news, u.oneCell' = true)
    (hfull : cap < n + m) (b1 : n + m ≤ 9223372036854775807) (b2 : (n + m) * bytes ≤ 140737488355328)
    (hK : ∀ g cs cap' w', w.heap.size ≤ g → Row w' g e cs → cs.length = cap' → n + m ≤ cap' → cs.take (n + m) = nums K l ++ news → Below w.heap.size w w' → wpList P ops Q rest (a.put o.dst (.slice (some ⟨g, 0, none⟩) (n + m) cap')) w') :
    wpList P ops Q (o :: rest) a w := by
  obtain ⟨i, hi, hz0, hsz, hbt⟩ := info_parts h2
  refine wpList_append_grows w hg s x t hop e i z 1 bytes h1 hi hz0 hsz hbt h6 (by decide) ao n cap (nums K l) hs ?_ (by rw [nums_length, hl, Nat.mul_one]) hlay.olds ad m c news hx (by rw [hn, Nat.mul_one]) hc h1c hfull b1 b2 ?_
  · intro h; obtain ⟨b', off', h1, _⟩ := hlay
    have := (h1 (by omega)).1; rw [h] at this; cases this
  · intro v' w' hown hgr
    rcases hown.2 with ⟨_, h0⟩ | ⟨g, cap', cur, rfl, hbg, hh, hc1, _, hc3, hc4⟩
    · omega
    · rw [Nat.mul_one] at hc3 hc4
      refine hK g cur.toList cap' w' hbg (by unfold Row; simpa using hh) (by simpa using hc3) hc1 hc4 ?_
      exact ⟨hgr.os, hgr.tape, hgr.output, hgr.size, fun k hk => hgr.block k hk (by simp)⟩

theorem left_v (w : World) (b : Option Addr) (ys : List Nat) (m cb s : Nat) (hb : Lay .u32 w b ys) (hy : Lim ys) (hm : m = ys.length) (lm : m ≤ 274877906944) (ls : s ≤ 4294967296) (hup : (rep (val ys * 2 ^ s)).length = m) :
    Calls Tryz.prog 149 #[.slice b m cb, .int .u64 s] w fun e w' => ∃ av cv, e = .returned (.slice av m cv) ∧ Lay .u32 w' av (rep (val ys * 2 ^ s)) ∧ Below w.heap.size w w' :=
  (big_left w b ys m cb s hb hy hm (by omega) ls).mono fun e w' ⟨av, cv, h1, _, _, h4, h5⟩ => ⟨av, cv, by rw [h1, hup], h4, h5⟩

theorem left_u (w : World) (b : Option Addr) (xs : List Nat) (n cb s : Nat) (hb : Lay .u32 w b xs) (hx : Lim xs) (hn : n = xs.length) (ln : n ≤ 274877906944) (ls : s ≤ 31) :
    Calls Tryz.prog 149 #[.slice b n cb, .int .u64 s] w fun e w' => ∃ au p cu, e = .returned (.slice au p cu) ∧ Lay .u32 w' au (rep (val xs * 2 ^ s)) ∧ p = (rep (val xs * 2 ^ s)).length ∧ cu ≤ n + 1 ∧ Below w.heap.size w w' :=
  (big_left w b xs n cb s hb hx hn (by omega) (by omega)).mono fun e w' ⟨av, cv, h1, _, h3, h4, h5⟩ => ⟨av, _, cv, h1, h4, rfl, by omega, h5⟩

/-- Two results: the words of two numbers. -/
def NatRes2 (w w' : World) (e : Ending) (p q : Nat) : Prop :=
  ∃ a ca b cb, e = .returned (.tuple #[.slice a (rep p).length ca, .slice b (rep q).length cb]) ∧ (rep p).length ≤ ca ∧ (rep q).length ≤ cb ∧ Lay .u32 w' a (rep p) ∧ Lay .u32 w' b (rep q) ∧ Below w.heap.size w w'

set_option maxHeartbeats 3200000 in
set_option maxRecDepth 100000 in
theorem big_quotient (w : World) (a b : Option Addr) (xs ys : List Nat) (n m ca cb : Nat) (ha : Lay .u32 w a xs) (hb : Lay .u32 w b ys) (hx : Lim xs) (hy : Lim ys) (nx : Norm xs) (ny : Norm ys)
    (hn : n = xs.length) (hm : m = ys.length) (ln : n ≤ 274877906944) (lm : m ≤ 274877906944) (hca : n ≤ ca) (hpos : 0 < val ys) :
    Calls Tryz.prog 162 #[.slice a n ca, .slice b m cb] w fun e w' => NatRes2 w w' e (val xs / val ys) (val xs % val ys) := by
  by_cases hlt : val xs < val ys
  · have hc1 : cmpI (val xs) (val ys) = -1 := by unfold cmpI; rw [if_pos hlt]
    have hd0 := Lib.hid (Nat.div_eq_of_lt hlt)
    have hd1 := Lib.hid (Nat.mod_eq_of_lt hlt)
    have hxr := Lib.hid (rep_val hx nx)
    have hcmp := big_compare w a b xs ys n m ca cb ha hb hx hy nx ny hn hm (by omega) (by omega)
    rw [hc1] at hcmp
    have HC := Lib.hid hcmp; clear hcmp
    have Hn := Lib.hid hn; clear hn
    have Hm := Lib.hid hm; clear hm
    clear hlt hc1
    go_enter Tryz.func162, Tryz.ntmps162
    go_wp2_with (first | (go_at_call 182; refine HC.out.mono ?_; rintro e w' ⟨rfl, q, rfl⟩) | (go_at_call 155; fail_if_success skip))
    refine (big_clone _ a xs n ca (ha.drewN q) Hn.out (by omega)).mono ?_
    rintro e w1 ⟨a', c', rfl, h1, h2, h3⟩
    go_wp2
    go_ret2
    unfold NatRes2
    rw [hd0.out, hd1.out, hxr.out]
    exact ⟨none, 0, a', c', by rw [← Hn.out]; rfl, by simp [rep_zero], by rw [← Hn.out]; omega, Lay.nil _ _ _, h2, (below_drewN (Below.refl _ _) q).trans h3⟩
  · have hc0 : decide (cmpI (val xs) (val ys) < 0) = false := by unfold cmpI; rw [if_neg hlt]; split <;> decide
    have hmpos : 0 < m := by
      rcases Nat.eq_zero_or_pos m with h | h
      · rw [List.eq_nil_of_length_eq_zero (hm.symm.trans h)] at hpos; simp [val] at hpos
      · exact h
    by_cases h1 : m = 1
    · subst h1
      have hy0 : val ys = wd ys 0 := by
        have e := val_snoc_wd (l := ys) (k := 0) (by omega)
        rw [List.take_of_length_le (by omega)] at e
        rw [e]; simp [val, W_zero]
      obtain ⟨b2, off2, hiy, hcy, _⟩ := hb.use 115 60 Tryz.underlying115 size32 cb
      rw [← hm] at hiy hcy
      have iy := fun q => hiy (w.drewN q) .i64 0 (by omega) (by omega)
      have cy := hcy w (Below.refl _ _) 0 (by omega)
      simp only [Int.toNat_zero, Nat.add_zero] at iy cy
      have b_y := hy.wd 0
      rw [hy0] at hpos hc0
      obtain ⟨d, hd⟩ : ∃ d, d = wd ys 0 := ⟨_, rfl⟩
      rw [← hd] at cy b_y hpos hc0
      have hmd : val xs % d < d := Nat.mod_lt _ hpos
      have Hd := Lib.hid (show val ys = d by rw [hy0, hd])
      rw [Hd.out]
      have hcmp := big_compare w a b xs ys n 1 ca cb ha hb hx hy nx ny hn hm (by omega) (by omega)
      rw [Hd.out] at hcmp
      have HC := Lib.hid hcmp; clear hcmp
      have Hn := Lib.hid hn; clear hn
      have Hm := Lib.hid hm; clear hm
      clear hiy hcy hy0 hd hlt
      go_enter Tryz.func162, Tryz.ntmps162
      go_wp2_with (first | (go_at_call 182; refine HC.out.mono ?_; rintro e w' ⟨rfl, q, rfl⟩) | (go_at_call 241; fail_if_success skip))
      refine (big_short _ a xs n ca d (ha.drewN _) hx Hn.out (by omega) hpos b_y).mono ?_
      rintro e w1 ⟨a', c', rfl, h1, h2, h3, h4⟩
      go_wp2_with fail
      refine (big_word _ (val xs % d) (by omega)).mono ?_
      rintro e w2 ⟨a2, c2, rfl, k1, k2, k3, k4⟩
      go_wp2
      go_ret2
      exact ⟨a', c', a2, c2, rfl, h1, k1, h3.below k4, k3, belc ((below_drewN (Below.refl _ _) q).trans h4) k4⟩
    · have hmn : m ≤ n := by
        rcases Nat.lt_or_ge n m with h | h
        · exfalso; have := cmp_len_lt hx hy ny (by omega); unfold cmpI at this; rw [if_neg hlt] at this; split at this <;> simp at this
        · exact h
      have hm2 : 2 ≤ m := by omega
      have hq1 : ((m : Int) == 1) = false := by rw [beq_eq_false_iff_ne]; omega
      obtain ⟨k, hmk⟩ : ∃ k, m = k + 1 := ⟨m - 1, by omega⟩
      obtain ⟨hup1, hup2, hbl32, hbl1⟩ := up_words hy ny (hm.symm.trans hmk)
      obtain ⟨b2, off2, hiy, hcy, _⟩ := hb.use 115 60 Tryz.underlying115 size32 cb
      rw [← hm] at hiy hcy
      have iy := fun q => hiy (w.drewN q) .i64 ((m : Int) - 1) (by omega) (by omega)
      have hj : off2 + ((m : Int) - 1).toNat = off2 + k := by omega
      rw [hj] at iy
      have cy := hcy w (Below.refl _ _) k (by omega)
      have b_y := hy.wd k
      obtain ⟨s, hs⟩ : ∃ s, s = 32 - Lib.bitLen (wd ys k) := ⟨_, rfl⟩
      have es : (32 : Int) - (Lib.bitLen (wd ys k) : Int) = s := by omega
      rw [← hs] at hup1 hup2
      have s31 : s ≤ 31 := by omega
      have Hs := Lib.hid hs; clear hs
      have Hmk := Lib.hid hmk; clear hmk
      have Hn := Lib.hid hn; clear hn
      have Hm := Lib.hid hm; clear hm
      have Hup := Lib.hid hup1; clear hup1
      clear hj hiy hcy hlt h1
      go_enter Tryz.func162, Tryz.ntmps162
      have hupm := Lib.hid (Hup.out.trans Hmk.out.symm)
      obtain ⟨hud1, hud2, hud3⟩ := up_dividend (s := s) hx nx Hn.out.symm (by omega) (by omega)
      go_wp2_with (first | (go_at_call 182; refine (big_compare _ _ _ xs ys _ _ _ _ ha hb hx hy nx ny Hn.out Hm.out (by omega) (by omega)).mono ?_; rintro e w' ⟨rfl, q, rfl⟩) | (go_at_call 242; refine (Tryz.bits_LeadingZeros32 _ _ (by omega) (by omega)).mono ?_; rw [Int.toNat_natCast, es]; rintro e w' ⟨rfl, hw'⟩; subst hw') | (go_at_call 149; fail_if_success skip))
      refine (left_v _ b ys m cb s (hb.drewN q) hy Hm.out lm (by omega) hupm.out).mono ?_
      rintro e w1 ⟨av, cv, rfl, hvl, hvb⟩
      have hB1 : Below w.heap.size w w1 := (below_drewN (Below.refl _ _) q).trans hvb
      go_wp2_with fail
      refine (left_u _ a xs n ca s (ha.below hB1) hx Hn.out ln s31).mono ?_
      rintro e w2 ⟨au, p, cu, rfl, hul, hp, hcu, hub⟩
      have hB2 : Below w.heap.size w w2 := hB1.trans (hub.mono hB1.size)
      rw [← hp] at hud1 hud2
      have Hp := Lib.hid hp; clear hp
      obtain ⟨qn, hqn1, hqn2⟩ : ∃ qn, qn + m ≤ n + 1 ∧ n + 1 ≤ qn + m := ⟨n + 1 - m, by omega, by omega⟩
      go_wp2_with (first | (at_builtin; refine wpList_append_new rfl _ _ 115 rfl 60 (.int .u32 0) 4 Tryz.underlying115 info32 rfl .u32 au p cu (rep (val xs * 2 ^ s)) rfl (hul.below ((Below.refl _ _).alloc (Nat.le_refl _) _)) Hp.out (by omega) ⟨w2.heap.size, 0, none⟩ 2 2 [.int .u32 0, .int .u32 0] rfl rfl (cell_two_new _ _ _ _) (by simp [Value.oneCell']) (by omega) (by omega) (by omega) ?_; intro g0 cs capu w3 hg0 hrow hcl hcap hct hbel3) | (at_make; refine wpList_make_row rfl _ _ _ rfl 60 (.int .u32 0) 4 Tryz.underlying115 info32 rfl _ _ _ _ qn qn rfl rfl (by omega) (by omega) (by omega) (by omega) (by omega) ?_; intro w4 gq hgq1 hgq2 hrowq hbel4))
      obtain ⟨us0, hus0⟩ : ∃ us0, us0 = (rep (val xs * 2 ^ s) ++ [0, 0]).take (n + 1) := ⟨_, rfl⟩
      obtain ⟨hu1, hu2, hu3⟩ := hud3 us0 hus0
      have hrow0 : Row w3 g0 60 (nums .u32 us0 ++ cs.drop (n + 1)) := by
        have e : nums .u32 us0 = cs.take (n + 1) := by
          have h := congrArg (List.take (n + 1)) hct
          rw [List.take_take, Nat.min_eq_left (by omega)] at h
          rw [h, hus0, ← nums_take, nums_append]; rfl
        rw [e, List.take_append_drop]; exact hrow
      have hD := Div.start hx hy ny Hn.out.symm (Hm.out.symm.trans Hmk.out) (by have := Hmk.out; omega) hu1 hu2 hu3
      clear hud3 hus0 hct hrow
      obtain ⟨ex, hex⟩ : ∃ ex, ex = cs.drop (n + 1) := ⟨_, rfl⟩
      rw [← hex] at hrow0
      clear hex
      have hb3 := below_over hbel3
      have hB3 := belc hB2 hb3
      have hvl3 := (hvl.below hub).below hb3
      have hvg : ∀ b off, av = some ⟨b, off, none⟩ → b ≠ g0 := by
        intro b off e
        have h1 := hvl.block_lt (by rw [hupm.out]; exact hmpos) b off e
        have := hub.size
        rw [World.size_alloc] at hg0
        omega
      have hg0B : w.heap.size ≤ g0 := by have := hB2.size; rw [World.size_alloc] at hg0; omega
      clear hvl hul hub hvb hB1 hB2 hbel3 hb3 hg0
      have hqk : n - k = qn := by have := Hmk.out; omega
      rw [hqk, Hmk.out.symm] at hD
      have HD := Lib.hid hD; clear hD
      have hVW := Lib.hid (show val ys * 2 ^ s < W m by have := rep_len_hi (val ys * 2 ^ s); rwa [hupm.out] at this)
      have HK := Lib.hid hqk; clear hqk
      have HU1 := Lib.hid hu1; clear hu1
      have HU3 := Lib.hid hu3; clear hu3
      clear cy iy
      have hg0lt := hrow0.lt
      have hvq : ∀ b off, av = some ⟨b, off, none⟩ → b ≠ gq := by
        intro b off e
        have h1 := hvl3.block_lt (by rw [hupm.out]; exact hmpos) b off e
        omega
      go_loopw [13] (fun i wr => ∃ (k2 : Nat) (us qs : List Nat), k2 ≤ qn ∧ i = .int .i64 ((k2 : Int) - 1) ∧ Div us0 us qs (val ys * 2 ^ s) m k2 ∧ Row wr g0 60 (nums .u32 us ++ ex) ∧ Row wr gq 60 (nums .u32 qs) ∧
          Lay .u32 wr av (rep (val ys * 2 ^ s)) ∧ Below w.heap.size w wr) (fun i _ => (intOf i + 1).toNat)
      case atStart => exact ⟨qn, us0, List.replicate qn 0, Nat.le_refl _, by go_num, HD.out, hrow0.below hbel4 hg0lt, by rw [nums_replicate]; exact hrowq, hvl3.below hbel4, belc hB3 hbel4⟩
      case round =>
        obtain ⟨k2, us, qs, hk2, rfl, hdiv, hru, hrq, hlv, hbl⟩ := hrel
        have HDv := Lib.hid hdiv; clear hdiv
        by_cases h0 : k2 = 0
        · subst h0
          have hul := HDv.out.lim
          have hql := HDv.out.qlim
          have hlu := hru.layX
          have hlq := hrq.lay
          have l1 : n + 1 = us.length := by rw [HDv.out.len, HU1.out]
          have l2 : qn = qs.length := by have := HDv.out.qlen; rw [HU1.out] at this; omega
          have hle1 := rep_val_le hul
          rw [← l1] at hle1
          have hle2 := rep_val_le hql
          rw [← l2] at hle2
          have L1 := Lib.hid l1; clear l1
          have L2 := Lib.hid l2; clear l2
          have p2 : 0 < 2 ^ s := Nat.pow_pos (by decide)
          have hq : Hid (val qs = val xs / val ys) := by
            unfold Hid; rw [HDv.out.done.1, HU3.out, Nat.mul_div_mul_right _ _ p2]
          have hr : Hid (val us / 2 ^ s = val xs % val ys) := by
            unfold Hid; rw [HDv.out.done.2, HU3.out, Nat.mul_mod_mul_right, Nat.mul_div_cancel _ p2]
          have hln := hlu.norm hul
          have hlim2 := rep_lim (val us)
          have hnorm2 := rep_norm (val us)
          clear hbl32 hbl1 hcu
          go_wp2_with fail
          refine (big_norm _ _ us _ _ hlu hul L1.out (by omega) (by omega)).mono ?_
          rintro e w' ⟨rfl, rfl⟩
          go_wp2_with fail
          refine (big_right _ _ (rep (val us)) _ _ s hln hlim2 hnorm2 rfl (by omega) (by omega) (by omega)).mono ?_
          rintro e w5 ⟨ar, car, rfl, hr1, hr2, hr3⟩
          rw [val_rep] at hr1 hr2
          rw [val_rep]
          have hlq5 := hlq.below hr3
          go_wp2_with (go_at_call 236; refine (big_norm _ _ qs _ _ hlq5 hql L2.out (by omega) (by omega)).mono ?_; rintro e w' ⟨rfl, rfl⟩)
          go_ret2
          rw [← hq.out, ← hr.out]
          exact ⟨_, _, _, _, rfl, hle2, hr1, hlq5.norm hql, hr2, belc hbl hr3⟩
        · obtain ⟨j, rfl⟩ : ∃ j, k2 = j + 1 := ⟨k2 - 1, by omega⟩
          have hj : ((j + 1 : Nat) : Int) - 1 = (j : Int) := by omega
          rw [hj]
          clear hj h0
          have l1 : us.length = n + 1 := by rw [HDv.out.len, HU1.out]
          have l2 : qs.length = qn := by have := HDv.out.qlen; rw [HU1.out] at this; omega
          have hlt := HDv.out.seg_lt' hVW.out hmpos
          have hqlt : seg us j (m + 1) / (val ys * 2 ^ s) < 4294967296 := by
            rw [Nat.div_lt_iff_lt_mul (Nat.lt_of_le_of_lt (Nat.zero_le _) HDv.out.rest), Nat.mul_comm]; exact hlt
          have hst := big_step wr g0 j (capu - j) cv m av us (rep (val ys * 2 ^ s)) ex hru HDv.out.lim hlv (rep_lim _) hvg hupm.out.symm (by omega) (by omega) (by omega) (by rw [show m - 1 = k from by have := Hmk.out; omega]; exact hup2) (by rw [val_rep]; exact hlt)
          simp only [val_rep] at hst
          have HS := Lib.hid hst; clear hst
          have L1 := Lib.hid l1; clear l1
          have L2 := Lib.hid l2; clear l2
          have hq0 := hrq.cell (i := j) (by rw [L2.out]; omega)
          obtain ⟨qd, hqd⟩ : ∃ qd, qd = seg us j (m + 1) / (val ys * 2 ^ s) := ⟨_, rfl⟩
          have Hqd := Lib.hid hqd; clear hqd
          rw [← Hqd.out] at hqlt
          have hsl1 : j < capu := by omega
          have hsl2 : (j : Int) + (m : Int) + 1 ≤ (capu : Int) := by omega
          have hgne : gq ≠ g0 := by omega
          clear hlt hbl32 hbl1 hud1 hud2 hcu
          go_wp2_with fail
          rw [show j + m + 1 - j = m + 1 from by omega]
          refine HS.out.mono ?_
          rw [← Hqd.out]
          rintro e w5 ⟨rfl, us', hs1, hs2, hs3, hs4, hs5, hs6, hs7⟩
          have hdn := HDv.out.step hVW.out hmpos hs1 hs2 hs4 hs5 hs6
          have HDn := Lib.hid hdn; clear hdn
          have hrq5 := hrq.grown hs7 hgne
          have hq0' := hrq5.cell (i := j) (by rw [L2.out]; omega)
          have hfk := hrq5.free j
          have hlv5 := hlv.grown hs7 hvg
          have hbl5 := hbl.trans (below_of_grown hs7 hg0B hbl.size)
          clear hs1 hs4 hs5 hs6 hq0
          go_wp2
          go_roundw
          case rel => exact ⟨j, us', qs.set j qd, by omega, by go_num, by rw [Hqd.out]; exact HDn.out, hs3.other (by exact fun e => hgne e.symm) _, hrq5.store _ _ _ (by omega), hlv5.other hvq _ _, below_store hbl5 (by omega) _⟩
          case measure => first | (simp [intOf]; done) | (simp [intOf]; omega)

end Go.Proofs.YtbffpkmfhkphdaaGreatDoor
