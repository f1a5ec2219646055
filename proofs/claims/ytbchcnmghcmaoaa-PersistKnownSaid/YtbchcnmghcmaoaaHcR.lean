/- The heap calculus, part R: blocks of rows, and pieces of them: copied, written, cleared, appended to in place. -/
import Derived.Test.YtbchcnmghcmaoaaHcQ
set_option linter.unusedSimpArgs false
set_option linter.unusedVariables false
namespace Go.Hc
open Go

def Blk (sz : Nat) (H : Heap) (b cap : Nat) (f : Nat → Array Value) : Prop := ∃ c, own H b = some c ∧ Rows sz c cap f
/-- the slice v is the n rows from d on of the block b -/
def Sub (sz b d n : Nat) (v : Value) : Prop := ∃ o cn, v = .slice (some ⟨b, o, none⟩) n cn ∧ (o = d * sz ∨ (n = 0 ∧ o = 0))
/-- what the slice v, of m elements, shows, as rows: the first q of them -/
def Srq (sz : Nat) (H : Heap) (v : Value) (m q : Nat) (g : Nat → Array Value) : Prop := ∃ xb cm, v = .slice xb m cm ∧ (∀ p ≤ q, ∃ cs, rdS H sz p xb = some cs ∧ Rows sz cs p g) ∧ ∀ i < q, (g i).all isCell = true
abbrev Src (sz : Nat) (H : Heap) (v : Value) (m : Nat) (g : Nat → Array Value) : Prop := Srq sz H v m m g

section
variable {sz : Nat} {H H' : Heap} {b cap d n m : Nat} {f g : Nat → Array Value} {v w : Value} {k : Value → Heap → Prop}
theorem Blk.ext {S : List Nat} (h : Blk sz H b cap f) (he : Ext S H H') (hb : b ∉ S) : Blk sz H' b cap f := by
  obtain ⟨c, h1, h2⟩ := h; exact ⟨c, he.own h1 hb, h2⟩
theorem Blk.lt (h : Blk sz H b cap f) : b < H.size := by obtain ⟨c, h1, _⟩ := h; exact own_lt h1
theorem Blk.congr (h : Blk sz H b cap f) (hg : ∀ i < cap, f i = g i) : Blk sz H b cap g := by
  obtain ⟨c, h1, h2⟩ := h; exact ⟨c, h1, h2.congr hg⟩
theorem rdS_ext' {S : List Nat} {a : Option Addr} {p : Nat} {cs : Array Value} (h : rdS H sz p a = some cs) (he : Ext S H H') (hs : ∀ x, a = some x → x.block ∉ S) : rdS H' sz p a = some cs := by
  cases a with
  | none => exact h
  | some a =>
    obtain ⟨b, o, s⟩ := a
    cases s with
    | some _ => simp [rdS] at h
    | none =>
      simp only [rdS, rdA] at h ⊢
      cases hb : blk H b with
      | none => simp [hb] at h
      | some c => rw [he.blk hb (hs _ rfl)]; rw [hb] at h; exact h
theorem Srq.ext {S : List Nat} {q : Nat} (h : Srq sz H v m q g) (he : Ext S H H') (hs : ∀ b o s n c, v = .slice (some ⟨b, o, s⟩) n c → b ∉ S) : Srq sz H' v m q g := by
  obtain ⟨xb, cm, rfl, h1, h2⟩ := h
  refine ⟨xb, cm, rfl, fun p hp => ?_, h2⟩
  obtain ⟨cs, a, c⟩ := h1 p hp
  exact ⟨cs, rdS_ext' a he (fun x hx => by subst hx; obtain ⟨b, o, s⟩ := x; exact hs _ _ _ _ _ rfl), c⟩
theorem Rows.sub {c : Array Value} (h : Rows sz c cap f) {d p : Nat} (hd : d + p ≤ cap) : getC c (d * sz) (p * sz) = some (c.extract (d * sz) (d * sz + p * sz)) ∧ Rows sz (c.extract (d * sz) (d * sz + p * sz)) p (fun i => f (d + i)) := by
  have h1 := Nat.mul_le_mul_right sz hd
  rw [Nat.add_mul] at h1
  have h2 := h.size
  refine ⟨by unfold getC; rw [if_pos (by omega)], ⟨by simp; omega, fun i hi j hj => ?_, fun i hi => h.len _ (by omega)⟩⟩
  have h3 := row_lt (sz := sz) hi
  rw [Array.getElem?_extract, if_pos (by omega), ← h.row (d + i) (by omega) j hj, Nat.add_mul]; congr 1; omega
/-- a piece of a block of ours, read -/
theorem Sub.src {q : Nat} (h : Sub sz b d n v) (hb : Blk sz H b cap f) (hd : d + q ≤ cap) (hc : ∀ i < q, (f (d + i)).all isCell = true) (hq : q ≤ n) : Srq sz H v n q (fun i => f (d + i)) := by
  obtain ⟨o, cn, rfl, ho⟩ := h
  obtain ⟨c, hc1, hr⟩ := hb
  refine ⟨_, cn, rfl, fun p hp => ?_, hc⟩
  rcases ho with rfl | ⟨rfl, rfl⟩
  · have := hr.sub (d := d) (p := p) (by omega)
    exact ⟨_, by simp only [rdS, rdA, own_blk hc1, this.1], this.2⟩
  · have h0 : p = 0 := by omega
    subst h0
    refine ⟨#[], by simp only [rdS, rdA, own_blk hc1]; simp [getC], ⟨by simp, fun i hi => by omega, fun i hi => by omega⟩⟩
theorem Srq.of_show {A : Type} {E : Enc A} {l : List A} (h : ShowL E H v l) : Src E.sz H v l.length (fun i => ((l[i]?).map E.c).getD #[]) := by
  obtain ⟨base, cap, rfl, hm, cs, hcs, hr⟩ := h
  refine ⟨base, cap, rfl, fun p hp => ?_, fun i hi => by simp [hi, E.cell]⟩
  cases base with
  | none =>
    simp only [rdS, Option.some.injEq] at hcs; subst hcs
    refine ⟨#[], rfl, ?_⟩
    have := hr.take hp
    simpa using this
  | some a =>
    obtain ⟨b, o, s⟩ := a
    cases s with
    | some _ => simp [rdS] at hcs
    | none =>
      simp only [rdS, rdA] at hcs ⊢
      cases hb : blk H b with
      | none => simp [hb] at hcs
      | some c =>
        rw [hb] at hcs
        simp only [getC] at hcs ⊢
        split at hcs
        · rename_i hle
          simp only [Option.some.injEq] at hcs; subst hcs
          have h1 := Nat.mul_le_mul_right E.sz hp
          refine ⟨c.extract o (o + p * E.sz), by rw [if_pos (by omega)], ?_⟩
          have h2 := hr.take hp
          have e : (c.extract o (o + l.length * E.sz)).extract 0 (p * E.sz) = c.extract o (o + p * E.sz) := by
            apply Array.ext_getElem?; intro i
            rw [Array.getElem?_extract, Array.getElem?_extract]
            by_cases hi : i < p * E.sz
            · rw [if_pos (by simp; omega), if_pos (by omega), Array.getElem?_extract, if_pos (by omega)]; congr 1; omega
            · rw [if_neg (by simp; omega), Array.getElem?_extract, if_neg (by omega)]
          rw [e] at h2; exact h2
        · simp at hcs
/-- x[l:h] of a whole slice of ours -/
theorem sub_mk {l h : Nat} {lo hi : Option Value} (hl : boundV 0 h lo = some l) (hh : boundV n cap hi = some h) (hle : l ≤ h ∧ h ≤ cap) :
    ∃ o, sliceV sz (.slice (some ⟨b, 0, none⟩) n cap) lo hi = some (.slice (some ⟨b, o, none⟩) (h - l) (cap - l)) ∧ (o = l * sz ∨ (h - l = 0 ∧ o = 0)) := by
  simp only [sliceV, hh, hl]
  by_cases hc : cap = l
  · exact ⟨0, by simp [hc], .inr ⟨by omega, rfl⟩⟩
  · exact ⟨l * sz, by rw [if_neg hc]; simp, .inl rfl⟩
theorem nmin (a b : Nat) : Nat.min a b = if a ≤ b then a else b := Nat.min_def
theorem bound_n (d hi : Nat) : boundV d hi none = some d := rfl
theorem bound_i {d hi l : Nat} {k : IntKind} {j : Int} (hj : j = l) (h : l ≤ hi) : boundV d hi (some (.int k j)) = some l := by
  subst hj; show (if 0 ≤ (l : Int) ∧ (l : Int) ≤ hi then some (l : Int).toNat else none) = _; rw [if_pos (by omega)]; simp

theorem cells_flat {cs : Array Value} {p : Nat} {g : Nat → Array Value} (hr : Rows sz cs p g) (hc : ∀ i < p, (g i).all isCell = true) : cs.toList.all isCell = true := by
  rw [List.all_eq_true]; intro x hx
  obtain ⟨i, hi, rfl⟩ := List.getElem_of_mem hx
  have hi' : i < cs.size := by simpa using hi
  have hns := hr.size
  have hsz0 : 0 < sz := by rcases Nat.eq_zero_or_pos sz with h | h
                           · subst h; omega
                           · exact h
  have hq : i / sz < p := Nat.div_lt_of_lt_mul (by rw [Nat.mul_comm]; omega)
  have hrow := hr.row (i / sz) hq (i % sz) (Nat.mod_lt _ hsz0)
  rw [Nat.mul_comm, Nat.div_add_mod, Array.getElem?_eq_getElem hi'] at hrow
  have := hc _ hq
  rw [Array.all_eq_true'] at this
  simpa using this _ (Array.mem_of_getElem? hrow.symm)
/-- rows are written -/
theorem blk_write (hb : Blk sz H b cap f) {cs : Array Value} {p : Nat} (hr : Rows sz cs p g) (hc : ∀ i < p, (g i).all isCell = true) (hd : d + p ≤ cap) {o : Nat} (ho : o = d * sz ∨ (p = 0 ∧ o = 0)) :
    ∃ H', wrA H b o cs.toList = some H' ∧ Ext [b] H H' ∧ H'.size = H.size ∧ Blk sz H' b cap (fun i => if d ≤ i ∧ i < d + p then g (i - d) else f i) := by
  obtain ⟨c, hc1, hr0⟩ := hb
  have h1 := Nat.mul_le_mul_right sz hd
  rw [Nat.add_mul] at h1
  have h2 := hr0.size
  have h3 := hr.size
  rw [wrA_b, hc1, Option.bind_some]
  rcases ho with rfl | ⟨rfl, rfl⟩
  · rw [if_pos ⟨by simp; omega, cells_flat hr hc⟩]
    exact ⟨_, rfl, (Ext.refl _ _).setB _ _ (Or.inl (by simp)), size_setB _ _ _, _, own_setB_same hc1, hr0.setN hd (by simpa using hr)⟩
  · have h0 : cs = #[] := Array.eq_empty_of_size_eq_zero (by rw [h3]; simp)
    subst h0
    rw [if_pos ⟨by simp, by simp⟩]
    refine ⟨_, rfl, (Ext.refl _ _).setB _ _ (Or.inl (by simp)), size_setB _ _ _, _, own_setB_same hc1, ?_⟩
    exact hr0.congr fun i hi => by rw [if_neg (by omega)]
/-- copy into a block of ours -/
theorem cpy_blk (hb : Blk sz H b cap f) {q : Nat} (hd : Sub sz b d n v) (hw : Srq sz H w m q g) (hq : Nat.min m n ≤ q) (hle : d + Nat.min m n ≤ cap)
    (hk : ∀ H', Ext [b] H H' → H'.size = H.size → Blk sz H' b cap (fun i => if d ≤ i ∧ i < d + Nat.min m n then g (i - d) else f i) → k (.int .i64 (Nat.min m n : Nat)) H') : cpyE sz v w H k := by
  obtain ⟨o, cn, rfl, ho⟩ := hd
  obtain ⟨xb, cm, rfl, hs, hc⟩ := hw
  obtain ⟨cs, h1, h2⟩ := hs (Nat.min m n) hq
  have hmn : Nat.min m n ≤ m := Nat.min_le_left _ _
  have hmn2 : Nat.min m n ≤ n := Nat.min_le_right _ _
  unfold cpyE
  simp only [h1, bnd_some]
  obtain ⟨H', w1, w2, w3, w4⟩ := blk_write hb h2 (fun i hi => hc i (by omega)) hle (o := o) (ho.imp id fun h => ⟨by omega, h.2⟩)
  simp only [wrS, Nat.add_zero, w1, bnd_some]
  exact hk H' w2 w3 w4
/-- a piece of a block of ours is cleared -/
theorem clr_blk {z : Array Value} (hz : z.size = sz ∧ z.all isCell = true) (hb : Blk sz H b cap f) (hd : Sub sz b d n v) (hle : d + n ≤ cap)
    (hk : ∀ H', Ext [b] H H' → H'.size = H.size → Blk sz H' b cap (fun i => if d ≤ i ∧ i < d + n then z else f i) → k (.tuple #[]) H') : clrE z v H k := by
  obtain ⟨o, cn, rfl, ho⟩ := hd
  unfold clrE
  by_cases h0 : n = 0
  · subst h0
    simp only [if_true]
    exact hk H (Ext.refl _ _) rfl (hb.congr fun i hi => by rw [if_neg (by omega)])
  · simp only [h0, if_false]
    have hr := Rows.zero (sz := sz) n hz.1
    obtain ⟨H', w1, w2, w3, w4⟩ := blk_write hb hr (fun i hi => hz.2) hle (o := o) (ho.imp id fun h => absurd h.1 h0)
    simp only [w1, bnd_some]
    exact hk H' w2 w3 w4
/-- appended to in place -/
theorem app_blk {t : TypeId} {z : Array Value} {bytes : Nat} (hb : Blk sz H b cap f) (hw : Src sz H w m g) (hle : n + m ≤ cap)
    (hk : ∀ H', Ext [b] H H' → H'.size = H.size → Blk sz H' b cap (fun i => if n ≤ i ∧ i < n + m then g (i - n) else f i) → k (.slice (some ⟨b, 0, none⟩) (n + m) cap) H') : appE t z sz bytes (.slice (some ⟨b, 0, none⟩) n cap) w H k := by
  obtain ⟨xb, cm, rfl, hs, hc⟩ := hw
  obtain ⟨cs, h1, h2⟩ := hs m (Nat.le_refl _)
  unfold appE
  simp only [h1, bnd_some]
  rw [if_pos hle]
  obtain ⟨H', w1, w2, w3, w4⟩ := blk_write hb h2 hc hle (o := n * sz) (.inl rfl)
  simp only [wrS, Nat.zero_add, w1, bnd_some]
  exact hk H' w2 w3 w4
/-- append(s, make(S, j)...), where there is no room -/
theorem appZ_new {t : TypeId} {z : Array Value} {bytes p : Nat} {j : Int} {ik : IntKind} (hz : z.size = sz) (hb : Blk sz H b cap f) (hp : p ≤ cap) (hj : j = n) (hroom : cap < p + n) (hbig : p + n ≤ 2 ^ 30) (hby : bytes ≠ 0 ∧ bytes ≤ 64)
    (hk : ∀ H' c, Ext [] H H' → H'.size = H.size + 1 → p + n ≤ c → c < 2 ^ 63 → Blk sz H' H.size c (fun i => if i < p then f i else z) → k (.slice (some ⟨H.size, 0, none⟩) (p + n) c) H') :
    appZE t z sz bytes (.slice (some ⟨b, 0, none⟩) p cap) (.int ik j) H k := by
  subst hj
  obtain ⟨c, hc1, hr⟩ := hb
  have hm1 : (2 * (p + n) + 200) * bytes ≤ (2 * (p + n) + 200) * 64 := Nat.mul_le_mul_left _ hby.2
  have hm2 : n * bytes ≤ n * 64 := Nat.mul_le_mul_left _ hby.2
  have hm3 : ((n * bytes : Nat) : Int) = (n : Int) * (bytes : Int) := by simp
  refine ⟨⟨by omega, by omega, by omega⟩, ?_⟩
  simp only [Int.toNat_natCast]
  rw [if_neg (by omega)]
  have h1 := (hr.take hp)
  have h2 := Nat.mul_le_mul_right sz hp
  have h3 := hr.size
  simp only [rdS, rdA, own_blk hc1, getC, Nat.zero_add]
  rw [if_pos (by omega), bnd_some]
  refine ⟨⟨by omega, hby.1⟩, fun c' hc' hc2 => ?_⟩
  refine hk _ c' ((Ext.refl _ _).newB _ _) (size_newB _ _ _) hc' hc2 ⟨_, own_newB_self, ?_⟩
  have := (h1.app (Rows.zero (sz := sz) n hz)).app (Rows.zero (sz := sz) (c' - (p + n)) hz)
  rw [show p + n + (c' - (p + n)) = c' from by omega] at this
  refine this.congr fun i hi => ?_
  by_cases h : i < p
  · simp [h]; omega
  · simp [h]
end

section
variable {A : Type} {E : Enc A} {H H' : Heap} {v : Value} {S : List Nat} {l : List A}
theorem OwnL.blk {b cap n : Nat} (h : OwnL E H (.slice (some ⟨b, 0, none⟩) n cap) S l) : n = l.length ∧ S = [b] ∧ l.length ≤ cap ∧ l.length < 2 ^ 63 ∧ ∃ f, Blk E.sz H b cap f ∧ ∀ i (h : i < l.length), f i = E.c l[i] := by
  generalize hv : Value.slice (some ⟨b, 0, none⟩) n cap = v at h
  cases h with
  | nil => cases hv
  | mk ho hr hc hl hm => cases hv; exact ⟨rfl, rfl, hc, hm, _, ⟨_, ho, hr⟩, hl⟩
theorem OwnL.of_blk {b cap n : Nat} {f : Nat → Array Value} (h : Blk E.sz H b cap f) (hn : n = l.length) (hc : l.length ≤ cap) (hm : l.length < 2 ^ 63) (hl : ∀ i (h : i < l.length), f i = E.c l[i]) : OwnL E H (.slice (some ⟨b, 0, none⟩) n cap) [b] l := by
  obtain ⟨c, h1, h2⟩ := h; subst hn
  exact .mk h1 h2 hc hl hm
end
end Go.Hc
