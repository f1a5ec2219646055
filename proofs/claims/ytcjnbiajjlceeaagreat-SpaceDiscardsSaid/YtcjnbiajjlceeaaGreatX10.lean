/- The heap calculus, part R: blocks of rows, and pieces of them: copied, written, cleared, appended to in place. -/
import Derived.Test.YtcjnbiajjlceeaaGreatX1
import Derived.WalkKit
import Derived.ProofKit
import Derived.OpenShut
import Derived.ChangeArms
import Derived.Deep.Slices
import Derived.WideKeyPair
import Derived.WideShapes
set_option linter.unusedSimpArgs false
set_option linter.unusedVariables false
namespace Go.Hc
open Go

def Blk (sz : Nat) (H : Heap) (b cap : Nat) (f : Nat → Array Value) : Prop := ∃ c, own H b = some c ∧ Rows sz c cap f
/-- the slice v is the n rows from d on of the block b -/
def Sub (sz b d n : Nat) (v : Value) : Prop := ∃ o cn, v = .slice (some ⟨b, o, none⟩) n cn ∧ (o = d * sz ∨ (n = 0 ∧ o = 0))
/-- what the slice v, of m elements, shows, as rows: the first q of them -/
def Srq (sz : Nat) (H : Heap) (v : Value) (m q : Nat) (g : Nat → Array Value) : Prop := ∃ xb cm, v = .slice xb m cm ∧ (∀ p ≤ q, ∃ cs, rdS H sz p xb = some cs ∧ Rows sz cs p g) ∧ ∀ i < q, (g i).all isCell = true
abbrev Src (sz : Nat) (H : Heap) (v : Value) (m : Nat) (g : Nat → Array Value) : Prop := Srq sz H v m m g

section
variable {sz : Nat} {H H' : Heap} {b cap d n m : Nat} {f g : Nat → Array Value} {v w : Value} {k : Value → Heap → Prop}
theorem Blk.ext {S : List Nat} (h : Blk sz H b cap f) (he : Ext S H H') (hb : b ∉ S) : Blk sz H' b cap f := by
  obtain ⟨c, h1, h2⟩ := h; exact ⟨c, he.own h1 hb, h2⟩
theorem Blk.lt (h : Blk sz H b cap f) : b < H.size := by obtain ⟨c, h1, _⟩ := h; exact own_lt h1
theorem Blk.congr (h : Blk sz H b cap f) (hg : ∀ i < cap, f i = g i) : Blk sz H b cap g := by
  obtain ⟨c, h1, h2⟩ := h; exact ⟨c, h1, h2.congr hg⟩
theorem rdS_ext' {S : List Nat} {a : Option Addr} {p : Nat} {cs : Array Value} (h : rdS H sz p a = some cs) (he : Ext S H H') (hs : ∀ x, a = some x → x.block ∉ S) : rdS H' sz p a = some cs := by
  cases a with
  | none => exact h
  | some a =>
    obtain ⟨b, o, s⟩ := a
    cases s with
    | some _ => simp [rdS] at h
    | none =>
      simp only [rdS, rdA] at h ⊢
      cases hb : blk H b with
      | none => simp [hb] at h
      | some c => rw [he.blk hb (hs _ rfl)]; rw [hb] at h; exact h
theorem Srq.ext {S : List Nat} {q : Nat} (h : Srq sz H v m q g) (he : Ext S H H') (hs : ∀ b o s n c, v = .slice (some ⟨b, o, s⟩) n c → b ∉ S) : Srq sz H' v m q g := by
  obtain ⟨xb, cm, rfl, h1, h2⟩ := h
  refine ⟨xb, cm, rfl, fun p hp => ?_, h2⟩
  obtain ⟨cs, a, c⟩ := h1 p hp
  exact ⟨cs, rdS_ext' a he (fun x hx => by subst hx; obtain ⟨b, o, s⟩ := x; exact hs _ _ _ _ _ rfl), c⟩
theorem Rows.sub {c : Array Value} (h : Rows sz c cap f) {d p : Nat} (hd : d + p ≤ cap) : getC c (d * sz) (p * sz) = some (c.extract (d * sz) (d * sz + p * sz)) ∧ Rows sz (c.extract (d * sz) (d * sz + p * sz)) p (fun i => f (d + i)) := by
  have h1 := Nat.mul_le_mul_right sz hd
  rw [Nat.add_mul] at h1
  have h2 := h.size
  refine ⟨by unfold getC; rw [if_pos (by omega)], ⟨by simp; omega, fun i hi j hj => ?_, fun i hi => h.len _ (by omega)⟩⟩
  have h3 := row_lt (sz := sz) hi
  rw [Array.getElem?_extract, if_pos (by omega), ← h.row (d + i) (by omega) j hj, Nat.add_mul]; congr 1; omega
/-- a piece of a block of ours, read -/
theorem Sub.src {q : Nat} (h : Sub sz b d n v) (hb : Blk sz H b cap f) (hd : d + q ≤ cap) (hc : ∀ i < q, (f (d + i)).all isCell = true) (hq : q ≤ n) : Srq sz H v n q (fun i => f (d + i)) := by
  obtain ⟨o, cn, rfl, ho⟩ := h
  obtain ⟨c, hc1, hr⟩ := hb
  refine ⟨_, cn, rfl, fun p hp => ?_, hc⟩
  rcases ho with rfl | ⟨rfl, rfl⟩
  · have := hr.sub (d := d) (p := p) (by omega)
    exact ⟨_, by simp only [rdS, rdA, own_blk hc1, this.1], this.2⟩
  · have h0 : p = 0 := by omega
    subst h0
    refine ⟨#[], by simp only [rdS, rdA, own_blk hc1]; simp [getC], ⟨by simp, fun i hi => by omega, fun i hi => by omega⟩⟩
theorem Srq.of_show {A : Type} {E : Enc A} {l : List A} (h : ShowL E H v l) : Src E.sz H v l.length (fun i => ((l[i]?).map E.c).getD #[]) := by
  obtain ⟨base, cap, rfl, hm, cs, hcs, hr⟩ := h
  refine ⟨base, cap, rfl, fun p hp => ?_, fun i hi => by simp [hi, E.cell]⟩
  cases base with
  | none =>
    simp only [rdS, Option.some.injEq] at hcs; subst hcs
    refine ⟨#[], rfl, ?_⟩
    have := hr.take hp
    simpa using this
  | some a =>
    obtain ⟨b, o, s⟩ := a
    cases s with
    | some _ => simp [rdS] at hcs
    | none =>
      simp only [rdS, rdA] at hcs ⊢
      cases hb : blk H b with
      | none => simp [hb] at hcs
      | some c =>
        rw [hb] at hcs
        simp only [getC] at hcs ⊢
        split at hcs
        · rename_i hle
          simp only [Option.some.injEq] at hcs; subst hcs
          have h1 := Nat.mul_le_mul_right E.sz hp
          refine ⟨c.extract o (o + p * E.sz), by rw [if_pos (by omega)], ?_⟩
          have h2 := hr.take hp
          have e : (c.extract o (o + l.length * E.sz)).extract 0 (p * E.sz) = c.extract o (o + p * E.sz) := by
            apply Array.ext_getElem?; intro i
            rw [Array.getElem?_extract, Array.getElem?_extract]
            by_cases hi : i < p * E.sz
            · rw [if_pos (by simp; omega), if_pos (by omega), Array.getElem?_extract, if_pos (by omega)]; congr 1; omega
            · rw [if_neg (by simp; omega), Array.getElem?_extract, if_neg (by omega)]
          rw [e] at h2; exact h2
        · simp at hcs
/-- x[l:h] of a whole slice of ours -/
theorem sub_mk {l h : Nat} {lo hi : Option Value} (hl : boundV 0 h lo = some l) (hh : boundV n cap hi = some h) (hle : l ≤ h ∧ h ≤ cap) :
    ∃ o, sliceV sz (.slice (some ⟨b, 0, none⟩) n cap) lo hi = some (.slice (some ⟨b, o, none⟩) (h - l) (cap - l)) ∧ (o = l * sz ∨ (h - l = 0 ∧ o = 0)) := by
  simp only [sliceV, hh, hl]
  by_cases hc : cap = l
  · exact ⟨0, by simp [hc], .inr ⟨by omega, rfl⟩⟩
  · exact ⟨l * sz, by rw [if_neg hc]; simp, .inl rfl⟩
theorem nmin (a b : Nat) : Nat.min a b = if a ≤ b then a else b := Nat.min_def
theorem bound_n (d hi : Nat) : boundV d hi none = some d := rfl
theorem bound_i {d hi l : Nat} {k : IntKind} {j : Int} (hj : j = l) (h : l ≤ hi) : boundV d hi (some (.int k j)) = some l := by
  subst hj; show (if 0 ≤ (l : Int) ∧ (l : Int) ≤ hi then some (l : Int).toNat else none) = _; rw [if_pos (by omega)]; simp

theorem cells_flat {cs : Array Value} {p : Nat} {g : Nat → Array Value} (hr : Rows sz cs p g) (hc : ∀ i < p, (g i).all isCell = true) : cs.toList.all isCell = true := by
  rw [List.all_eq_true]; intro x hx
  obtain ⟨i, hi, rfl⟩ := List.getElem_of_mem hx
  have hi' : i < cs.size := by simpa using hi
  have hns := hr.size
  have hsz0 : 0 < sz := by rcases Nat.eq_zero_or_pos sz with h | h
                           · subst h; omega
                           · exact h
  have hq : i / sz < p := Nat.div_lt_of_lt_mul (by rw [Nat.mul_comm]; omega)
  have hrow := hr.row (i / sz) hq (i % sz) (Nat.mod_lt _ hsz0)
  rw [Nat.mul_comm, Nat.div_add_mod, Array.getElem?_eq_getElem hi'] at hrow
  have := hc _ hq
  rw [Array.all_eq_true'] at this
  simpa using this _ (Array.mem_of_getElem? hrow.symm)
/-- rows are written -/
theorem blk_write (hb : Blk sz H b cap f) {cs : Array Value} {p : Nat} (hr : Rows sz cs p g) (hc : ∀ i < p, (g i).all isCell = true) (hd : d + p ≤ cap) {o : Nat} (ho : o = d * sz ∨ (p = 0 ∧ o = 0)) :
    ∃ H', wrA H b o cs.toList = some H' ∧ Ext [b] H H' ∧ H'.size = H.size ∧ Blk sz H' b cap (fun i => if d ≤ i ∧ i < d + p then g (i - d) else f i) := by
  obtain ⟨c, hc1, hr0⟩ := hb
  have h1 := Nat.mul_le_mul_right sz hd
  rw [Nat.add_mul] at h1
  have h2 := hr0.size
  have h3 := hr.size
  rw [wrA_b, hc1, Option.bind_some]
  rcases ho with rfl | ⟨rfl, rfl⟩
  · rw [if_pos ⟨by simp; omega, cells_flat hr hc⟩]
    exact ⟨_, rfl, (Ext.refl _ _).setB _ _ (Or.inl (by simp)), size_setB _ _ _, _, own_setB_same hc1, hr0.setN hd (by simpa using hr)⟩
  · have h0 : cs = #[] := Array.eq_empty_of_size_eq_zero (by rw [h3]; simp)
    subst h0
    rw [if_pos ⟨by simp, by simp⟩]
    refine ⟨_, rfl, (Ext.refl _ _).setB _ _ (Or.inl (by simp)), size_setB _ _ _, _, own_setB_same hc1, ?_⟩
    exact hr0.congr fun i hi => by rw [if_neg (by omega)]
/-- copy into a block of ours -/
theorem cpy_blk (hb : Blk sz H b cap f) {q : Nat} (hd : Sub sz b d n v) (hw : Srq sz H w m q g) (hq : Nat.min m n ≤ q) (hle : d + Nat.min m n ≤ cap)
    (hk : ∀ H', Ext [b] H H' → H'.size = H.size → Blk sz H' b cap (fun i => if d ≤ i ∧ i < d + Nat.min m n then g (i - d) else f i) → k (.int .i64 (Nat.min m n : Nat)) H') : cpyE sz v w H k := by
  obtain ⟨o, cn, rfl, ho⟩ := hd
  obtain ⟨xb, cm, rfl, hs, hc⟩ := hw
  obtain ⟨cs, h1, h2⟩ := hs (Nat.min m n) hq
  have hmn : Nat.min m n ≤ m := Nat.min_le_left _ _
  have hmn2 : Nat.min m n ≤ n := Nat.min_le_right _ _
  unfold cpyE
  simp only [h1, bnd_some]
  obtain ⟨H', w1, w2, w3, w4⟩ := blk_write hb h2 (fun i hi => hc i (by omega)) hle (o := o) (ho.imp id fun h => ⟨by omega, h.2⟩)
  simp only [wrS, Nat.add_zero, w1, bnd_some]
  exact hk H' w2 w3 w4
/-- a piece of a block of ours is cleared -/
theorem clr_blk {z : Array Value} (hz : z.size = sz ∧ z.all isCell = true) (hb : Blk sz H b cap f) (hd : Sub sz b d n v) (hle : d + n ≤ cap)
    (hk : ∀ H', Ext [b] H H' → H'.size = H.size → Blk sz H' b cap (fun i => if d ≤ i ∧ i < d + n then z else f i) → k (.tuple #[]) H') : clrE z v H k := by
  obtain ⟨o, cn, rfl, ho⟩ := hd
  unfold clrE
  by_cases h0 : n = 0
  · subst h0
    simp only [if_true]
    exact hk H (Ext.refl _ _) rfl (hb.congr fun i hi => by rw [if_neg (by omega)])
  · simp only [h0, if_false]
    have hr := Rows.zero (sz := sz) n hz.1
    obtain ⟨H', w1, w2, w3, w4⟩ := blk_write hb hr (fun i hi => hz.2) hle (o := o) (ho.imp id fun h => absurd h.1 h0)
    simp only [w1, bnd_some]
    exact hk H' w2 w3 w4
/-- appended to in place -/
theorem app_blk {t : TypeId} {z : Array Value} {bytes : Nat} (hb : Blk sz H b cap f) (hw : Src sz H w m g) (hle : n + m ≤ cap)
    (hk : ∀ H', Ext [b] H H' → H'.size = H.size → Blk sz H' b cap (fun i => if n ≤ i ∧ i < n + m then g (i - n) else f i) → k (.slice (some ⟨b, 0, none⟩) (n + m) cap) H') : appE t z sz bytes (.slice (some ⟨b, 0, none⟩) n cap) w H k := by
  obtain ⟨xb, cm, rfl, hs, hc⟩ := hw
  obtain ⟨cs, h1, h2⟩ := hs m (Nat.le_refl _)
  unfold appE
  simp only [h1, bnd_some]
  rw [if_pos hle]
  obtain ⟨H', w1, w2, w3, w4⟩ := blk_write hb h2 hc hle (o := n * sz) (.inl rfl)
  simp only [wrS, Nat.zero_add, w1, bnd_some]
  exact hk H' w2 w3 w4
/-- append(s, make(S, j)...), where there is no room -/
theorem appZ_new {t : TypeId} {z : Array Value} {bytes p : Nat} {j : Int} {ik : IntKind} (hz : z.size = sz) (hb : Blk sz H b cap f) (hp : p ≤ cap) (hj : j = n) (hroom : cap < p + n) (hbig : p + n ≤ 2 ^ 30) (hby : bytes ≠ 0 ∧ bytes ≤ 64)
    (hk : ∀ H' c, Ext [] H H' → H'.size = H.size + 1 → p + n ≤ c → c < 2 ^ 63 → Blk sz H' H.size c (fun i => if i < p then f i else z) → k (.slice (some ⟨H.size, 0, none⟩) (p + n) c) H') :
    appZE t z sz bytes (.slice (some ⟨b, 0, none⟩) p cap) (.int ik j) H k := by
  subst hj
  obtain ⟨c, hc1, hr⟩ := hb
  have hm1 : (2 * (p + n) + 200) * bytes ≤ (2 * (p + n) + 200) * 64 := Nat.mul_le_mul_left _ hby.2
  have hm2 : n * bytes ≤ n * 64 := Nat.mul_le_mul_left _ hby.2
  have hm3 : ((n * bytes : Nat) : Int) = (n : Int) * (bytes : Int) := by simp
  refine ⟨⟨by omega, by omega, by omega⟩, ?_⟩
  simp only [Int.toNat_natCast]
  rw [if_neg (by omega)]
  have h1 := (hr.take hp)
  have h2 := Nat.mul_le_mul_right sz hp
  have h3 := hr.size
  simp only [rdS, rdA, own_blk hc1, getC, Nat.zero_add]
  rw [if_pos (by omega), bnd_some]
  refine ⟨⟨by omega, hby.1⟩, fun c' hc' hc2 => ?_⟩
  refine hk _ c' ((Ext.refl _ _).newB _ _) (size_newB _ _ _) hc' hc2 ⟨_, own_newB_self, ?_⟩
  have := (h1.app (Rows.zero (sz := sz) n hz)).app (Rows.zero (sz := sz) (c' - (p + n)) hz)
  rw [show p + n + (c' - (p + n)) = c' from by omega] at this
  refine this.congr fun i hi => ?_
  by_cases h : i < p
  · simp [h]; omega
  · simp [h]
end

section
variable {A : Type} {E : Enc A} {H H' : Heap} {v : Value} {S : List Nat} {l : List A}
theorem OwnL.blk {b cap n : Nat} (h : OwnL E H (.slice (some ⟨b, 0, none⟩) n cap) S l) : n = l.length ∧ S = [b] ∧ l.length ≤ cap ∧ l.length < 2 ^ 63 ∧ ∃ f, Blk E.sz H b cap f ∧ ∀ i (h : i < l.length), f i = E.c l[i] := by
  generalize hv : Value.slice (some ⟨b, 0, none⟩) n cap = v at h
  cases h with
  | nil => cases hv
  | mk ho hr hc hl hm => cases hv; exact ⟨rfl, rfl, hc, hm, _, ⟨_, ho, hr⟩, hl⟩
theorem OwnL.of_blk {b cap n : Nat} {f : Nat → Array Value} (h : Blk E.sz H b cap f) (hn : n = l.length) (hc : l.length ≤ cap) (hm : l.length < 2 ^ 63) (hl : ∀ i (h : i < l.length), f i = E.c l[i]) : OwnL E H (.slice (some ⟨b, 0, none⟩) n cap) [b] l := by
  obtain ⟨c, h1, h2⟩ := h; subst hn
  exact .mk h1 h2 hc hl hm
end
end Go.Hc
set_option linter.unusedSimpArgs false
set_option linter.unusedVariables false
namespace Go.Hc
open Go

section
variable {H H' : Heap} {S : List Nat} {o : Obj} {i b : Nat}
theorem size_pushO : (pushO H o).size = H.size + 1 := by simp [pushO, Heap.size]
theorem size_setO : (setO H i o).size = H.size := by simp [setO, Heap.size]
theorem Ext.pushO (h : Ext S H H') (o : Obj) : Ext S H (pushO H' o) := by
  refine ⟨by rw [size_pushO]; have := h.size; omega, fun b hb hs => ?_, h.rest⟩
  have h1 : b < H'.arr.size := by have := h.size; unfold Heap.size at *; omega
  rw [← h.same b hb hs, Hc.pushO, Array.getElem?_push_lt h1]
  simp [h1]
theorem Ext.setO (h : Ext S H H') (i : Nat) (o : Obj) (hb : i ∈ S ∨ H.size ≤ i) : Ext S H (setO H' i o) :=
  ⟨by rw [size_setO]; exact h.size, fun b' hb' hs => by
    rw [← h.same b' hb' hs, Hc.setO, Array.getElem?_setIfInBounds]
    have hne : i ≠ b' := fun e => by subst e; exact hb.elim hs (fun hl => by omega)
    simp [hne], h.rest⟩
theorem arr_pushO_self : (pushO H o).arr[H.size]? = some o := by simp [pushO, Heap.size]
theorem arr_pushO_at (h : i = H.size) : (pushO H o).arr[i]? = some o := by subst h; exact arr_pushO_self
theorem arr_setO_self (h : i < H.size) : (setO H i o).arr[i]? = some o := by
  unfold Heap.size at h; simp [setO, Array.getElem?_setIfInBounds, h]
theorem arr_setO_ne (h : b ≠ i) : (setO H i o).arr[b]? = H.arr[b]? := by simp [setO, Array.getElem?_setIfInBounds, Ne.symm h]
theorem arr_lt {o : Obj} (h : H.arr[i]? = some o) : i < H.size := (Array.getElem?_eq_some_iff.1 h).1
theorem own_setO_ne (h : b ≠ i) : own (setO H i o) b = own H b := by unfold own; rw [arr_setO_ne h]
theorem blk_setO_ne (h : b ≠ i) : blk (setO H i o) b = blk H b := by unfold blk; rw [arr_setO_ne h]
theorem own_ne {c : Array Value} {r : Loop} (h : own H b = some c) (hl : H.arr[i]? = some (.loop r)) : b ≠ i := by
  intro e; subst e; unfold own at h; rw [hl] at h; cases h
theorem own_ned {c : Array Value} {r : Option (List Deferred)} (h : own H b = some c) (hl : H.arr[i]? = some (.deferred r)) : b ≠ i := by
  intro e; subst e; unfold own at h; rw [hl] at h; cases h
theorem OwnL.has {A : Type} {E : Enc A} {v : Value} {l : List A} (h : OwnL E H v S l) : ∀ b ∈ S, ∃ c, own H b = some c := by
  cases h with
  | nil => simp
  | mk ho => simp; exact ⟨_, ho⟩
theorem Ext.arr (h : Ext S H H') (ha : H.arr[i]? = some o) (hi : i ∉ S) : H'.arr[i]? = some o := by rw [h.same i (arr_lt ha) hi]; exact ha
end

theorem OwnL.cell {A : Type} {E : Enc A} {H : Heap} {v : Value} {S : List Nat} {l : List A} (h : OwnL E H v S l) : v.cells = #[v] ∧ isCell v = true := by
  cases h with
  | nil => exact ⟨rfl, rfl⟩
  | mk => exact ⟨rfl, rfl⟩
/-- The function value 'seq' hands, one behind the other, the elements of l to what it is given, whatever that does beyond the blocks U of H0. -/
def Yields {A : Type} (P : Program) (seq : Value) (H0 : Heap) (U : List Nat) (l : List A) (c : A → List Value) : Prop :=
  ∀ (y : Value) (H1 : Heap) (I : Nat → Heap → Prop), I 0 H1 → (∀ k H, I k H → ∀ b ∈ U, H.arr[b]? = H0.arr[b]?) →
    (∀ k (hk : k < l.length) H, I k H → callV P y (c l[k]) H fun v H' => v = .bool true ∧ I (k + 1) H') → callL P seq [y] H1 fun _ H' => I l.length H'
theorem OwnL.same {A : Type} {E : Enc A} {H H' : Heap} {v : Value} {S : List Nat} {l : List A} (h : OwnL E H v S l) (he : ∀ b ∈ S, H'.arr[b]? = H.arr[b]?) : OwnL E H' v S l := by
  cases h with
  | nil => exact .nil
  | mk ho hr hc hl hm => exact .mk (own_same ho (he _ (by simp))) hr hc hl hm
theorem callV_y {P : Program} {l : Nat} {as : List Value} {H : Heap} {k : Value → Heap → Prop} (h : EvY P l as.toArray H k) : callV P (.func (.yield l) #[] #[]) as H k := by
  simpa [callV] using h
end Go.Hc
set_option linter.unusedSimpArgs false
set_option linter.unusedVariables false
namespace Go.Hc
open Go

theorem appE_sep {A : Type} {E : Enc A} {H0 H : Heap} {Qs : List Asr} {t : TypeId} {bytes : Nat} {v w : Value} {l m : List A} {k : Value → Heap → Prop} (h : Sep H0 H (lstA E v l :: Qs)) (hw : ShowL E H w m)
    (hb : (2 * (l.length + m.length) + 200) * bytes ≤ 2 ^ 48) (hb0 : bytes ≠ 0) (hsm : l.length + m.length < 2 ^ 62)
    (hk : ∀ H' v', Sep H0 H' (lstA E v' (l ++ m) :: Qs) → k v' H') : appE t E.z E.sz bytes v w H k := by
  obtain ⟨T, ho, hn⟩ := h.get
  exact appE_l (show OwnL E H v T l from ho) hw hb hb0 hsm fun v' S' H' he hs hv' => hk H' v' (hn (lstA E v' _) H' S' he hv' hs)
/-- The values of a literal, each with its place. -/
def number : Nat → List Value → List (Nat × Value)
  | _, [] => []
  | k, v :: vs => (k, v) :: number (k + 1) vs
theorem fill_list {A : Type} {E : Enc A} {n : Nat} : ∀ (vs : List Value) (l : List A) (k : Nat) (c : Array Value) (f : Nat → Array Value), Rows E.sz c n f → k + l.length ≤ n → vs.length = l.length → (∀ i (h : i < l.length), (vs.getD i undef).cells = E.c l[i]) →
    ∃ c', fillA (every E.sz) c (number k vs) = some c' ∧ Rows E.sz c' n (fun i => if h : k ≤ i ∧ i < k + l.length then E.c (l[i - k]'(by omega)) else f i)
  | [], [], k, c, f, hr, _, _, _ => ⟨c, rfl, hr.congr fun i _ => by rw [dif_neg (by simp)]⟩
  | v :: vs, a :: l, k, c, f, hr, hk, hl, hc => by
    simp only [List.length_cons] at hk hl
    have h0 : v.cells = E.c a := hc 0 (by simp)
    have hsz := E.len a
    have h1 := row_lt (sz := E.sz) (show k < n by omega)
    have hrs := hr.size
    have hset := hr.set (i := k) (l := v.cells.toList) (by omega) (by rw [h0]; simpa using hsz)
    obtain ⟨c', e, hr'⟩ := fill_list vs l (k + 1) _ _ hset (by omega) (by omega) (fun i h => by have := hc (i + 1) (by simp; omega); simpa using this)
    refine ⟨c', ?_, hr'.congr fun i hi => ?_⟩
    · simp only [number, fillA, every]
      rw [if_pos ⟨by rw [h0]; exact hsz, by omega⟩]
      exact e
    · by_cases h2 : k + 1 ≤ i ∧ i < k + 1 + l.length
      · rw [dif_pos h2, dif_pos (by simp only [List.length_cons]; omega)]
        have e2 : i - k = (i - (k + 1)) + 1 := by omega
        simp only [e2, List.getElem_cons_succ]
      · rw [dif_neg h2]
        by_cases h3 : i = k
        · subst h3
          rw [dif_pos (by simp only [List.length_cons]; omega)]
          simp [h0]
        · rw [dif_neg (by simp only [List.length_cons]; omega), if_neg h3]
/-- a literal of a slice -/
theorem bslE_l {A : Type} {E : Enc A} {H : Heap} {t : TypeId} {n : Nat} {vs : List Value} {l : List A} {k : Value → Heap → Prop} (hn : l.length = n) (hl : vs.length = l.length) (hc : ∀ i (h : i < l.length), (vs.getD i undef).cells = E.c l[i])
    (hsz : n * E.sz ≤ 2 ^ 24) (hsm : n < 2 ^ 60) (hk : ∀ H', H'.size = H.size + 1 → Ext [] H H' → OwnL E H' (.slice (some ⟨H.size, 0, none⟩) n n) [H.size] l → k (.slice (some ⟨H.size, 0, none⟩) n n) H') : bslE t E.z E.sz n (number 0 vs) H k := by
  subst hn
  refine ⟨hsz, ?_⟩
  obtain ⟨c', e, hr⟩ := fill_list (E := E) (n := l.length) vs l 0 (repZ E.z l.length) (fun _ => E.z) (Rows.zero _ E.zlen) (by omega) hl hc
  rw [e, bnd_some]
  refine hk _ (size_newB _ _ _) ((Ext.refl _ _).newB _ _) (.mk own_newB_self hr (Nat.le_refl _) (fun i h => ?_) (by omega))
  rw [dif_pos (by omega)]; simp
theorem bslE_sep {A : Type} {E : Enc A} {H0 H : Heap} {Qs : List Asr} {t : TypeId} {n : Nat} {vs : List Value} {l : List A} {k : Value → Heap → Prop} (h : Sep H0 H Qs) (hn : l.length = n) (hl : vs.length = l.length) (hc : ∀ i (h : i < l.length), (vs.getD i undef).cells = E.c l[i])
    (hsz : n * E.sz ≤ 2 ^ 24) (hsm : n < 2 ^ 60) (hk : ∀ H' v, Sep H0 H' (lstA E v l :: Qs) → k v H') : bslE t E.z E.sz n (number 0 vs) H k :=
  bslE_l hn hl hc hsz hsm fun H' _ e o => hk H' _ (h.new e (Q := lstA E _ l) (T := [H.size]) o (by simp))
/-- the evaluation lemmas, as one -/
theorem ew : type_of% (And.intro @bnd_some (And.intro @brV_t (And.intro @brV_f (And.intro @brG_t (And.intro @brG_f (And.intro @newE_u (And.intro @pickE_t (And.intro @pickE_f (And.intro @nilV_p (And.intro @faV_p (And.intro @cells_int (And.intro @cells_bool (And.intro @cells_ptr (And.intro @cells_slice (And.intro @cells_func (And.intro @cells_agg (And.intro @bin_eql (And.intro @bin_neq (And.intro @bin_lss (And.intro @bin_leq (And.intro @bin_gtr (And.intro @bin_geq (And.intro @bin_eqlb (And.intro @bin_neqb (And.intro @bin_eqlp (And.intro @bin_eqlp0 (And.intro @bin_neqp (And.intro @bin_neqp0 (And.intro @bin_eqls (And.intro @bin_eqls0 (And.intro @un_not (And.intro @un_neg (And.intro @len_s (And.intro @cap_s (And.intro @ex_t (And.intro @cv_i (And.intro @callV_f (And.intro @Option.bind_some.{0, 0} (And.intro @Option.map_some.{0, 0} (And.intro @Nat.zero_add (And.intro @Nat.add_zero (And.intro @size_newB (And.intro @size_setB (And.intro @blk_newB_self (And.intro @own_newB_self (And.intro @setB_setB (And.intro @List.getElem?_toArray.{0} (And.intro @List.getElem?_cons_zero.{0} (And.intro @List.getElem?_cons_succ.{0} (And.intro @List.length_cons.{0} (And.intro @List.length_nil.{0} (And.intro @List.all_cons.{0} (And.intro @List.all_nil.{0} (And.intro @isCell_int (And.intro @isCell_bool (And.intro @isCell_ptr (And.intro @isCell_slice (And.intro @isCell_func (And.intro @Bool.and_true (And.intro @Bool.and_self (And.intro @and_self (And.intro @if_true.{1} (And.intro @List.size_toArray.{0} (And.intro @and_true (And.intro @true_and (And.intro @Nat.le_refl (And.intro @Bool.not_true (And.intro @Bool.not_false (And.intro @Bool.true_and (And.intro @Bool.false_and (And.intro @Bool.and_false (And.intro @decide_true (And.intro @decide_false (@if_true.{0})))))))))))))))))))))))))))))))))))))))))))))))))))))))))))))))))))))))))) := And.intro @bnd_some (And.intro @brV_t (And.intro @brV_f (And.intro @brG_t (And.intro @brG_f (And.intro @newE_u (And.intro @pickE_t (And.intro @pickE_f (And.intro @nilV_p (And.intro @faV_p (And.intro @cells_int (And.intro @cells_bool (And.intro @cells_ptr (And.intro @cells_slice (And.intro @cells_func (And.intro @cells_agg (And.intro @bin_eql (And.intro @bin_neq (And.intro @bin_lss (And.intro @bin_leq (And.intro @bin_gtr (And.intro @bin_geq (And.intro @bin_eqlb (And.intro @bin_neqb (And.intro @bin_eqlp (And.intro @bin_eqlp0 (And.intro @bin_neqp (And.intro @bin_neqp0 (And.intro @bin_eqls (And.intro @bin_eqls0 (And.intro @un_not (And.intro @un_neg (And.intro @len_s (And.intro @cap_s (And.intro @ex_t (And.intro @cv_i (And.intro @callV_f (And.intro @Option.bind_some.{0, 0} (And.intro @Option.map_some.{0, 0} (And.intro @Nat.zero_add (And.intro @Nat.add_zero (And.intro @size_newB (And.intro @size_setB (And.intro @blk_newB_self (And.intro @own_newB_self (And.intro @setB_setB (And.intro @List.getElem?_toArray.{0} (And.intro @List.getElem?_cons_zero.{0} (And.intro @List.getElem?_cons_succ.{0} (And.intro @List.length_cons.{0} (And.intro @List.length_nil.{0} (And.intro @List.all_cons.{0} (And.intro @List.all_nil.{0} (And.intro @isCell_int (And.intro @isCell_bool (And.intro @isCell_ptr (And.intro @isCell_slice (And.intro @isCell_func (And.intro @Bool.and_true (And.intro @Bool.and_self (And.intro @and_self (And.intro @if_true.{1} (And.intro @List.size_toArray.{0} (And.intro @and_true (And.intro @true_and (And.intro @Nat.le_refl (And.intro @Bool.not_true (And.intro @Bool.not_false (And.intro @Bool.true_and (And.intro @Bool.false_and (And.intro @Bool.and_false (And.intro @decide_true (And.intro @decide_false (@if_true.{0})))))))))))))))))))))))))))))))))))))))))))))))))))))))))))))))))))))))))
end Go.Hc
set_option linter.unusedSimpArgs false
set_option linter.unusedVariables false
namespace Go.Hc
open Go

def intE : Enc Int := ⟨1, #[.int .i64 0], fun i => #[.int .i64 i], fun _ => rfl, rfl, fun _ => by simp [isCell], by simp [isCell]⟩
def In64 (i : Int) : Prop := -9223372036854775808 ≤ i ∧ i ≤ 9223372036854775807
theorem In64.of_wf {n : Int} (h : (Lit.int .i64 n).wf = true) : In64 n := by
  have h1 : IntKind.min .i64 = -9223372036854775808 := by decide
  have h2 : IntKind.max .i64 = 9223372036854775807 := by decide
  simp only [Lit.wf, Bool.and_eq_true, decide_eq_true_eq, h1, h2] at h
  exact h
/-- a slice of numbers that came in -/
theorem ShowA.of_ints {w : World} {a : Option Addr} {len cap : Nat} {zs : List Int}
    (h : (a = none ∧ len = 0 ∧ cap = 0 ∧ zs = []) ∨ ∃ x, a = some x ∧ len ≤ cap ∧ cap ≤ maxLen ∧ zs.length = cap ∧ (∀ i, i < zs.length → w.cell? (x.add i) = some (.int .i64 (zs.getD i 0))) ∧ ∀ n ∈ zs, (Lit.int .i64 n).wf = true) :
    ShowA intE w.hp (.slice a len cap) (zs.take len) ∧ ∀ x ∈ zs.take len, In64 x := by
  rcases h with ⟨rfl, rfl, rfl, rfl⟩ | ⟨x, rfl, hl, hm, hz, hc, hw⟩
  · exact ⟨⟨⟨_, _, rfl, by simp⟩, Or.inl (by simp)⟩, by simp⟩
  · have hlen : (zs.take len).length = len := by rw [List.length_take]; omega
    have hmx : maxLen < 2 ^ 63 := by decide
    refine ⟨ShowA.of_cells hlen (by omega) (by decide) fun _ => ⟨x, rfl, fun i hi j hj => ?_⟩, fun y hy => In64.of_wf (hw y (List.mem_of_mem_take hy))⟩
    have hj0 : j = 0 := by have : j < 1 := hj
                           omega
    subst hj0
    rw [hlen] at hi
    have h1 := hc i (by omega)
    have h2 : i * intE.sz + 0 = i := by show i * 1 + 0 = i; omega
    rw [h2, h1]
    have h3 : zs.getD i 0 = (zs.take len)[i]'(by rw [hlen]; exact hi) := by rw [List.getElem_take, List.getD_eq_getElem?_getD, List.getElem?_eq_getElem (by omega)]; rfl
    rw [h3]; rfl
end Go.Hc
set_option linter.unusedSimpArgs false
set_option linter.unusedVariables false
namespace Go.Hc
open Go

def isLeaf : Bool → Value → Prop
  | true, .int .i64 n => In64 n
  | false, .bool _ => True
  | _, _ => False
/-- The kind of the cell at a place of a type's row: a number, or a bool. -/
def leafAt (P : Program) : Nat → TypeId → Nat → Option Bool
  | 0, _, _ => none
  | n + 1, t, j => match P.underlying t with
    | some .bool => if j = 0 then some false else none
    | some (.int .i64) => if j = 0 then some true else none
    | some (.struct fs) => fs.toList.findSome? fun f => if f.offset ≤ j ∧ j < f.offset + P.cellsOf f.type then leafAt P n f.type (j - f.offset) else none
    | some (.array m e) => if j / P.cellsOf e < m ∧ 0 < P.cellsOf e then leafAt P n e (j % P.cellsOf e) else none
    | _ => none
section
variable {H : Type} {enc : TypeId × Value → H} {P : Program} {w : World} {base : Nat} {sp : Nat → Bool} {held : Bool}
theorem leaf_of_trod : ∀ (n : Nat) (t : TypeId) (j : Nat) (k : Bool) (fuel : Nat) (cs : List Value) (x : DataW H × List MemPlace), leafAt P n t j = some k →
    DataW.trod enc P w base sp held fuel t cs = some x → ∃ v, cs[j]? = some v ∧ isLeaf k v
  | 0, _, _, _, _, _, _, h, _ => by simp [leafAt] at h
  | n + 1, t, j, k, fuel, cs, x, h, hx => by
    unfold leafAt at h
    split at h
    · rename_i hu
      split at h
      · rename_i hj; subst hj; cases h
        obtain ⟨b, rfl, _⟩ := DataW.trod_bool hu hx
        exact ⟨_, rfl, trivial⟩
      · cases h
    · rename_i hu
      split at h
      · rename_i hj; subst hj; cases h
        obtain ⟨a, rfl, _, wa⟩ := DataW.trod_int hu hx
        exact ⟨_, rfl, In64.of_wf wa⟩
      · cases h
    · rename_i fs hu
      obtain ⟨f, hf, hl⟩ := List.exists_of_findSome?_eq_some h
      split at hl
      · rename_i hj
        obtain ⟨xs, m, rfl, _, _, hlen, hall⟩ := DataW.trod_struct hu hx
        obtain ⟨i, hi, hif⟩ := List.getElem_of_mem hf
        have hi' : fs[i]? = some f := by rw [← hif, ← Array.getElem?_toList]; exact List.getElem?_eq_getElem hi
        have h1 := hall i f hi'
        have hix : i < xs.length := by rw [hlen]; simpa using hi
        rw [List.getElem?_eq_getElem hix] at h1
        obtain ⟨v, hv, hk⟩ := leaf_of_trod n f.type (j - f.offset) k m _ _ hl h1
        refine ⟨v, ?_, hk⟩
        rw [List.getElem?_take] at hv
        split at hv
        · rw [List.getElem?_drop] at hv; rw [← hv]; congr 1; omega
        · cases hv
      · cases hl
    · rename_i m e hu
      split at h
      · rename_i hj
        obtain ⟨xs, k', rfl, _, _, hlen, hall⟩ := DataW.trod_array hu hx
        have h1 := hall (j / P.cellsOf e) hj.1
        have hix : j / P.cellsOf e < xs.length := by rw [hlen]; exact hj.1
        rw [List.getElem?_eq_getElem hix] at h1
        obtain ⟨v, hv, hk⟩ := leaf_of_trod n e (j % P.cellsOf e) k k' _ _ h h1
        refine ⟨v, ?_, hk⟩
        rw [List.getElem?_take] at hv
        split at hv
        · rw [List.getElem?_drop] at hv; rw [← hv]; congr 1
          rw [Nat.mul_comm, Nat.div_add_mod]
        · cases hv
      · cases h
    · cases h
theorem build_list {A : Type} {Q : Nat → A → Prop} : ∀ n, (∀ i, i < n → ∃ y, Q i y) → ∃ l : List A, l.length = n ∧ ∀ i (hi : i < l.length), Q i l[i]
  | 0, _ => ⟨[], rfl, fun i hi => by simp at hi⟩
  | k + 1, h => by
    obtain ⟨l, hll, hal⟩ := build_list k fun i hi => h i (by omega)
    obtain ⟨y, hy⟩ := h k (by omega)
    refine ⟨l ++ [y], by simp [hll], fun i hi => ?_⟩
    by_cases hik : i < l.length
    · rw [List.getElem_append_left hik]; exact hal i hik
    · have : i = k := by simp at hi; omega
      subst this
      rw [List.getElem_append_right (by omega)]; simpa [hll] using hy
/-- A slice of structs that came in. -/
theorem ShowA.of_rows {A : Type} {E : Enc A} {Good : A → Prop} {t e : TypeId} {a : Option Addr} {len cap : Nat} {d : DataW H} {ps : List MemPlace}
    (ht : P.underlying t = some (.slice e)) (hc : P.cellsOf e = E.sz) (h0 : 0 < E.sz)
    (hel : ∀ (n : Nat) (cs : List Value) (x : DataW H × List MemPlace), cs.length = E.sz → DataW.trod enc P w base sp held n e cs = some x → ∃ y, E.c y = cs.toArray ∧ Good y)
    (h : DataW.Trod enc P w base sp held t (.slice a len cap) d ps) : ∃ l : List A, ShowA E w.hp (.slice a len cap) l ∧ ∀ y ∈ l, Good y := by
  obtain ⟨fuel, hf⟩ := h
  rcases Deep.open_slice ht hf with ⟨hcs, _⟩ | ⟨x, l, c, m, n, D, Pl, hcs, _, hl, hm, hmm, _, hall⟩
  · simp [Value.cells] at hcs
    obtain ⟨rfl, rfl, rfl⟩ := hcs
    exact ⟨[], ⟨⟨none, 0, rfl, by simp⟩, Or.inl rfl⟩, by simp⟩
  · simp [Value.cells] at hcs
    obtain ⟨rfl, rfl, rfl⟩ := hcs
    have hlm : len ≤ m := by rw [hmm]; split <;> omega
    have each : ∀ i, i < len → ∃ y, (∀ j < E.sz, w.cell? (x.add (i * E.sz + j)) = (E.c y)[j]?) ∧ Good y := fun i hi => by
      obtain ⟨cs', h1, h2⟩ := hall i (by omega)
      rw [hc] at h1
      obtain ⟨_, hlen, hcell⟩ := World.cells?_some h1
      obtain ⟨y, hy, hg⟩ := hel _ _ _ hlen h2
      refine ⟨y, fun j hj => ?_, hg⟩
      have := hcell j hj
      rw [hy, List.getElem?_toArray, ← this]
      congr 1
      unfold Addr.add
      by_cases hi0 : i * E.sz = 0
      · simp [hi0]
      · by_cases hj0 : j = 0
        · simp [hj0]
        · rw [if_neg (by omega), if_neg hj0, if_neg hi0]; simp [Nat.add_assoc]
    have hmx : maxLen < 2 ^ 63 := by decide
    have := build_list len each
    obtain ⟨l, hll, hal⟩ := this
    refine ⟨l, ShowA.of_cells hll (by omega) h0 fun _ => ⟨x, rfl, fun i hi => (hal i hi).1⟩, fun y hy => ?_⟩
    obtain ⟨i, hi, rfl⟩ := List.getElem_of_mem hy
    exact (hal i hi).2
end

/-- a slice that came in, and that may be cut -/
def CutOK (v : Value) : Prop := ∃ base n cap, v = .slice base n cap ∧ n ≤ cap ∧ (cap = 0 ∨ ∀ a, base = some a → a.spot = none)
theorem ShowA.take {A : Type} {E : Enc A} {H : Heap} {v : Value} {l : List A} (h : ShowA E H v l) (hc : CutOK v) {m : Nat} (hm : m ≤ l.length) {k : IntKind} {j : Int} (hj : j = m) :
    ∃ v', sliceV E.sz v none (some (.int k j)) = some v' ∧ ShowA E H v' (l.take m) ∧ CutOK v' := by
  subst hj
  obtain ⟨⟨base, cap, rfl, hsm⟩, hs⟩ := h
  obtain ⟨base', n', cap', he, hle, hsp⟩ := hc
  cases he
  have hb : boundV l.length cap (some (.int k (m : Int))) = some m := by
    show (if 0 ≤ (m : Int) ∧ (m : Int) ≤ cap then some (m : Int).toNat else none) = _
    rw [if_pos (by omega)]; simp
  have hlen : (l.take m).length = m := by rw [List.length_take]; omega
  have hb0 : boundV 0 m none = some 0 := rfl
  have fin : ∀ b', (cap = 0 → b' = base) → (cap ≠ 0 → b' = base) → ShowA E H (.slice b' m cap) (l.take m) ∧ CutOK (.slice b' m cap) := fun b' h1 h2 => by
    have : b' = base := by
      by_cases hc0 : cap = 0
      · exact h1 hc0
      · exact h2 hc0
    subst this
    refine ⟨⟨⟨_, _, by rw [hlen], by omega⟩, ?_⟩, _, _, _, rfl, by omega, hsp⟩
    rcases hs with hs | hs
    · subst hs; exact .inl (by simp)
    · refine .inr ?_
      obtain ⟨b2, c2, e, h3, cs, hcs, hr⟩ := hs
      cases e
      refine ⟨_, _, by rw [hlen], by omega, ?_⟩
      rw [hlen]
      cases b' with
      | none =>
        simp only [rdS, Option.some.injEq] at hcs; subst hcs
        refine ⟨#[], rfl, ?_⟩
        have := hr.take hm
        refine Rows.congr (f := fun i => ((l[i]?).map E.c).getD #[]) (by simpa using this) fun i hi => ?_
        rw [List.getElem?_take, if_pos hi]
      | some a =>
        obtain ⟨b, o, s⟩ := a
        cases s with
        | some _ => simp [rdS] at hcs
        | none =>
          simp only [rdS, rdA] at hcs ⊢
          cases hbk : blk H b with
          | none => simp [hbk] at hcs
          | some c =>
            rw [hbk] at hcs
            simp only [getC] at hcs ⊢
            split at hcs
            · rename_i hle2
              simp only [Option.some.injEq] at hcs; subst hcs
              have h1 := Nat.mul_le_mul_right E.sz hm
              refine ⟨c.extract o (o + m * E.sz), by rw [if_pos (by omega)], ?_⟩
              have h2 := hr.take hm
              have e : (c.extract o (o + l.length * E.sz)).extract 0 (m * E.sz) = c.extract o (o + m * E.sz) := by
                apply Array.ext_getElem?; intro i
                rw [Array.getElem?_extract, Array.getElem?_extract]
                by_cases hi : i < m * E.sz
                · rw [if_pos (by simp; omega), if_pos (by omega), Array.getElem?_extract, if_pos (by omega)]; congr 1; omega
                · rw [if_neg (by simp; omega), Array.getElem?_extract, if_neg (by omega)]
              rw [e] at h2
              exact h2.congr fun i hi => by rw [List.getElem?_take, if_pos hi]
            · simp at hcs
  simp only [sliceV, hb, hb0]
  by_cases hc0 : cap = 0
  · rw [if_pos hc0]
    have := fin base (fun _ => rfl) (fun _ => rfl)
    exact ⟨_, rfl, by simpa using this.1, by simpa using this.2⟩
  · rw [if_neg hc0]
    have hno := hsp.resolve_left hc0
    have hmap : (base.map fun a => (⟨a.block, a.off + 0 * E.sz, none⟩ : Addr)) = base := by
      cases base with
      | none => rfl
      | some a =>
        obtain ⟨b, o, s⟩ := a
        have : s = none := hno _ rfl
        subst this; simp
    have := fin base (fun _ => rfl) (fun _ => rfl)
    split
    · rename_i b o s he
      have := hno _ rfl
      cases this
    · exact ⟨_, rfl, by rw [hmap]; simpa using this.1, by rw [hmap]; simpa using this.2⟩
section
variable {H : Type} {enc : TypeId × Value → H} {P : Program} {w : World} {base : Nat} {held : Bool}
theorem CutOK.of_rows {t e : TypeId} {a : Option Addr} {len cap : Nat} {d : DataW H} {ps : List MemPlace} (ht : P.underlying t = some (.slice e)) (h0 : 0 < P.cellsOf e)
    (h : DataW.Trod enc P w base (fun _ => true) held t (.slice a len cap) d ps) : CutOK (.slice a len cap) := by
  obtain ⟨fuel, hf⟩ := h
  rcases Deep.open_slice ht hf with ⟨hcs, _⟩ | ⟨x, l, c, m, n, D, Pl, hcs, _, hl, hm, hmm, _, hall⟩
  · simp [Value.cells] at hcs
    obtain ⟨rfl, rfl, rfl⟩ := hcs
    exact ⟨none, 0, 0, rfl, by omega, .inl rfl⟩
  · simp [Value.cells] at hcs
    obtain ⟨rfl, rfl, rfl⟩ := hcs
    refine ⟨_, _, _, rfl, hl, ?_⟩
    by_cases hc0 : cap = 0
    · exact .inl hc0
    · refine .inr fun y hy => ?_
      cases hy
      obtain ⟨cs', h1, _⟩ := hall 0 (by rw [hmm]; simp; omega)
      obtain ⟨_, hlen, hcell⟩ := World.cells?_some h1
      have h2 := hcell 0 (by omega)
      have h3 : cs'[0]? = some (cs'[0]'(by omega)) := List.getElem?_eq_getElem _
      rw [h3] at h2
      simp only [Nat.zero_mul, Addr.add, if_true] at h2
      unfold World.cell? at h2
      split at h2
      · cases hs : x.spot with
        | none => rfl
        | some _ => rw [hs] at h2; simp at h2
      · cases h2
end
/-- a row of n numbers -/
def intsE (n : Nat) : Enc (Fin n → Int) := ⟨n, (List.replicate n (.int .i64 0)).toArray, fun f => (List.ofFn fun i => Value.int .i64 (f i)).toArray, fun _ => by simp, by simp, fun _ => by simp [isCell], by rw [Array.all_eq_true]; intro i hi; simp [isCell]⟩
theorem intsE_at {n : Nat} {f : Fin n → Int} {j : Nat} (h : j < n) : ((intsE n).c f)[j]? = some (.int .i64 (f ⟨j, h⟩)) := by simp [intsE, h]
theorem leaf_int {v : Value} (h : isLeaf true v) : ∃ n, v = .int .i64 n ∧ In64 n := by
  cases v with
  | int k n => cases k <;> first | exact ⟨n, rfl, h⟩ | exact h.elim
  | _ => exact h.elim
theorem leaf_bool {v : Value} (h : isLeaf false v) : ∃ b, v = .bool b := by
  cases v with
  | bool b => exact ⟨b, rfl⟩
  | _ => exact h.elim
theorem ints_of_cells {n : Nat} {cs : List Value} (hl : cs.length = n) (hall : ∀ j, j < n → ∃ v, cs[j]? = some v ∧ isLeaf true v) : ∃ y : Fin n → Int, (intsE n).c y = cs.toArray ∧ ∀ i, In64 (y i) := by
  have h1 : ∀ i : Fin n, ∃ m, cs[i.1]? = some (.int .i64 m) ∧ In64 m := fun i => by
    obtain ⟨v, hv, hk⟩ := hall i.1 i.2
    obtain ⟨m, rfl, hm⟩ := leaf_int hk
    exact ⟨m, hv, hm⟩
  refine ⟨fun i => Classical.choose (h1 i), ?_, fun i => (Classical.choose_spec (h1 i)).2⟩
  apply Array.ext_getElem?; intro j
  by_cases hj : j < n
  · rw [intsE_at hj, List.getElem?_toArray]; exact (Classical.choose_spec (h1 ⟨j, hj⟩)).1.symm
  · rw [Array.getElem?_eq_none (by rw [(intsE n).len]; show n ≤ j; omega), Array.getElem?_eq_none (by simp; omega)]
section
variable {H : Type} {enc : TypeId × Value → H} {P : Program} {w : World} {base : Nat} {sp : Nat → Bool} {held : Bool}
theorem ints_of_trod {n : Nat} {t : TypeId} (hleaf : (List.range n).all (fun j => leafAt P 9 t j == some true) = true) (k : Nat) (cs : List Value) (x : DataW H × List MemPlace) (hl : cs.length = n)
    (h : DataW.trod enc P w base sp held k t cs = some x) : ∃ y : Fin n → Int, (intsE n).c y = cs.toArray ∧ ∀ i, In64 (y i) := by
  refine ints_of_cells hl fun j hj => ?_
  have := List.all_eq_true.1 hleaf j (by simpa using hj)
  exact leaf_of_trod 9 t j true k cs x (by simpa using this) h
theorem int_of_trod {t : TypeId} (hleaf : leafAt P 9 t 0 = some true) (k : Nat) (cs : List Value) (x : DataW H × List MemPlace) (hl : cs.length = 1)
    (h : DataW.trod enc P w base sp held k t cs = some x) : ∃ y : Int, intE.c y = cs.toArray ∧ In64 y := by
  obtain ⟨v, h0, g0⟩ := leaf_of_trod 9 t 0 true k cs x hleaf h
  obtain ⟨a, rfl, i⟩ := leaf_int g0
  match cs, hl with
  | [c], _ =>
    simp only [List.getElem?_cons_zero, Option.some.injEq] at h0
    subst h0; exact ⟨a, rfl, i⟩
end
end Go.Hc
set_option linter.unusedSimpArgs false
set_option linter.unusedVariables false
namespace Go.Hc
open Go

theorem okWide_array {P : Program} {w : World} {r : Reach} {base : Nat} {t e : TypeId} {n : Nat} {v : Value} (ht : P.underlying t = some (.array n e)) (h : Value.okWide P w r base t v) : ∃ cs, v = .agg cs ∧ cs.size = P.cellsOf t := by
  simp only [Value.okWide, ht] at h
  obtain ⟨cs, h1, h2, _⟩ := h
  exact ⟨cs, h1, h2⟩
theorem ints_of_arg {H : Type} {enc : TypeId × Value → H} {P : Program} {w : World} {base : Nat} {sp : Nat → Bool} {held : Bool} {n : Nat} {t : TypeId} {cs : Array Value} {d : DataW H} {ps : List MemPlace}
    (hleaf : (List.range n).all (fun j => leafAt P 9 t j == some true) = true) (hn : cs.size = n) (h : DataW.Trod enc P w base sp held t (.agg cs) d ps) : ∃ y : Fin n → Int, cs = (intsE n).c y ∧ ∀ i, In64 (y i) := by
  obtain ⟨k, hk⟩ := h
  obtain ⟨y, h1, h2⟩ := ints_of_trod hleaf k cs.toList (d, ps) (by simpa using hn) hk
  exact ⟨y, by rw [h1], h2⟩
theorem ints2 {y : Fin 2 → Int} : (intsE 2).c y = #[.int .i64 (y 0), .int .i64 (y 1)] := by simp [intsE, List.ofFn_succ]
theorem ints3 {y : Fin 3 → Int} : (intsE 3).c y = #[.int .i64 (y 0), .int .i64 (y 1), .int .i64 (y 2)] := by simp [intsE, List.ofFn_succ]
end Go.Hc
