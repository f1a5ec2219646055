/- The heap calculus, part M: more words at known values; lists in slices. -/
import Derived.Test.YtbchcnmghcmaoaaHcL
set_option linter.unusedSimpArgs false
set_option linter.unusedVariables false
namespace Go.Hc
open Go

theorem Ext.thru {S T : List Nat} {H H' H'' : Heap} (h : Ext S H H') (k : Ext T H' H'') (ht : ∀ b ∈ T, b ∈ S ∨ H.size ≤ b) : Ext S H H'' :=
  ⟨Nat.le_trans h.size k.size, fun b hb hs => (k.same b (Nat.lt_of_lt_of_le hb h.size) (fun hm => (ht b hm).elim hs (fun hl => by omega))).trans (h.same b hb hs), k.rest.1.trans h.rest.1, k.rest.2.1.trans h.rest.2.1, k.rest.2.2.trans h.rest.2.2⟩
section
variable {H : Heap}
theorem wrA_b {b o : Nat} {l : List Value} : wrA H b o l = (own H b).bind fun c => if o + l.length ≤ c.size ∧ l.all isCell = true then some (setB H b (splice c o l)) else none := by
  unfold wrA; cases own H b <;> rfl
theorem own_setB_m {b : Nat} {c : Array Value} : own (setB H b c) b = (own H b).map fun _ => c := by
  cases h : own H b with
  | some c0 => rw [own_setB_same h]; rfl
  | none =>
    unfold own setB at *; rw [Array.getElem?_modify]; simp only [if_true, Option.map_none]
    cases h1 : H.arr[b]? with
    | none => rfl
    | some o =>
      rw [h1] at h
      cases o <;> simp_all
theorem blk_setB_m {b : Nat} {c : Array Value} : blk (setB H b c) b = (blk H b).map fun _ => c := by
  cases h : blk H b with
  | some c0 => rw [blk_setB_same h]; rfl
  | none =>
    unfold blk setB at *; rw [Array.getElem?_modify]; simp only [if_true, Option.map_none]
    cases h1 : H.arr[b]? with
    | none => rfl
    | some o =>
      rw [h1] at h
      cases o <;> simp_all
theorem getC_all {c : Array Value} {n : Nat} (h : c.size = n) : getC c 0 n = some c := by
  subst h; simp [getC]
theorem splice_all {c : Array Value} {l : List Value} (h : l.length = c.size) : splice c 0 l = l.toArray := by
  apply Array.ext_getElem?; intro i
  rw [getElem?_splice _ _ _ (by omega)]
  by_cases hi : i < l.length
  · rw [if_pos (by omega)]; simp
  · rw [if_neg (by omega), Array.getElem?_eq_none (by omega), Array.getElem?_eq_none (by simpa using hi)]
end

/-! ### lists in slices -/
/-- how an element lies: sz cells each -/
structure Enc (A : Type) where
  sz : Nat
  z : Array Value
  c : A → Array Value
  len : ∀ a, (c a).size = sz
  zlen : z.size = sz
  cell : ∀ a, (c a).all isCell = true
  zcell : z.all isCell = true

variable {A : Type}

/-- the slice v shows the list l -/
def ShowL (E : Enc A) (H : Heap) (v : Value) (l : List A) : Prop :=
  ∃ base cap, v = .slice base l.length cap ∧ l.length < 2 ^ 63 ∧ ∃ cs, rdS H E.sz l.length base = some cs ∧ Rows E.sz cs l.length (fun i => ((l[i]?).map E.c).getD #[])
/-- the slice v, whose block is ours, shows the list l -/
inductive OwnL (E : Enc A) (H : Heap) : Value → List Nat → List A → Prop
  | nil : OwnL E H (.slice none 0 0) [] []
  | mk {b cap : Nat} {c : Array Value} {f : Nat → Array Value} {l : List A} (ho : own H b = some c) (hr : Rows E.sz c cap f) (hc : l.length ≤ cap) (hl : ∀ i (h : i < l.length), f i = E.c l[i]) (hm : l.length < 2 ^ 63) : OwnL E H (.slice (some ⟨b, 0, none⟩) l.length cap) [b] l

theorem rdS_ext {E : Enc A} {S : List Nat} {H H' : Heap} {n : Nat} {b : Option Addr} {cs : Array Value} (h : rdS H E.sz n b = some cs) (he : Ext S H H') (hs : ∀ a, b = some a → a.block ∉ S) : rdS H' E.sz n b = some cs := by
  cases b with
  | none => exact h
  | some a =>
    obtain ⟨b, o, s⟩ := a
    cases s with
    | some _ => simp [rdS] at h
    | none =>
      simp only [rdS, rdA] at h ⊢
      cases hb : blk H b with
      | none => simp [hb] at h
      | some c => rw [he.blk hb (hs _ rfl)]; rw [hb] at h; exact h

theorem OwnL.show {E : Enc A} {H : Heap} {v : Value} {S : List Nat} {l : List A} (h : OwnL E H v S l) : ShowL E H v l := by
  cases h with
  | nil => exact ⟨none, 0, rfl, by simp, #[], rfl, ⟨by simp, fun i hi => by simp at hi, fun i hi => by simp at hi⟩⟩
  | mk ho hr hc hl hm =>
    refine ⟨_, _, rfl, hm, ?_⟩
    have hs := hr.size
    have h1 := Nat.mul_le_mul_right E.sz hc
    refine ⟨_, by simp only [rdS, rdA, own_blk ho, getC, Nat.zero_add]; rw [if_pos (by omega)], ?_⟩
    exact (hr.take hc).congr fun i hi => by simp [hl i hi, hi]
theorem OwnL.ext {E : Enc A} {H H' : Heap} {v : Value} {S T : List Nat} {l : List A} (h : OwnL E H v S l) (he : Ext T H H') (hs : ∀ b ∈ S, b ∉ T) : OwnL E H' v S l := by
  cases h with
  | nil => exact .nil
  | mk ho hr hc hl hm => exact .mk (he.own ho (hs _ (by simp))) hr hc hl hm
theorem OwnL.lt {E : Enc A} {H : Heap} {v : Value} {S : List Nat} {l : List A} (h : OwnL E H v S l) : ∀ b ∈ S, b < H.size := by
  cases h with
  | nil => simp
  | mk ho => simp; exact own_lt ho
theorem OwnL.len {E : Enc A} {H : Heap} {v : Value} {S : List Nat} {l : List A} (h : OwnL E H v S l) : lenV v = some (.int .i64 l.length) := by cases h <;> rfl
theorem ShowL.len {E : Enc A} {H : Heap} {v : Value} {l : List A} (h : ShowL E H v l) : lenV v = some (.int .i64 l.length) := by
  obtain ⟨_, _, rfl, _⟩ := h; rfl
theorem ShowL.small {E : Enc A} {H : Heap} {v : Value} {l : List A} (h : ShowL E H v l) : (l.length : Int) ≤ 9223372036854775807 := by
  obtain ⟨_, _, _, h, _⟩ := h; omega
/-- the i-th element's address, and what lies there -/
theorem ShowL.at {E : Enc A} {H : Heap} {v : Value} {l : List A} (h : ShowL E H v l) {i : Nat} (hi : i < l.length) (h0 : 0 < E.sz) :
    ∃ b o c, (∀ j : Int, j = i → ∀ k, ixSV E.sz v (.int k j) = some (.pointer (some ⟨b, o, none⟩))) ∧ blk H b = some c ∧
      (∀ j < E.sz, c[o + j]? = (E.c l[i])[j]?) ∧ (∀ p m, p + m ≤ E.sz → getC c (o + p) m = some ((E.c l[i]).extract p (p + m))) := by
  obtain ⟨base, cap, rfl, hm, cs, hcs, hr⟩ := h
  cases base with
  | none =>
    simp only [rdS, Option.some.injEq] at hcs; subst hcs
    have := hr.size; have h2 := row_lt (sz := E.sz) hi
    have h3 : 0 = l.length * E.sz := this
    omega
  | some a =>
    obtain ⟨b, o, s⟩ := a
    cases s with
    | some _ => simp [rdS] at hcs
    | none =>
      simp only [rdS, rdA] at hcs
      cases hb : blk H b with
      | none => simp [hb] at hcs
      | some c =>
        rw [hb] at hcs
        simp only [getC] at hcs
        split at hcs
        case isFalse => simp at hcs
        case isTrue hle =>
        simp only [Option.some.injEq] at hcs; subst hcs
        have h2 := row_lt (sz := E.sz) hi
        have hcell : ∀ j < E.sz, c[o + i * E.sz + j]? = (E.c l[i])[j]? := fun j hj => by
          have := hr.row i hi j hj
          rw [Array.getElem?_extract, if_pos (by omega)] at this
          simp only [List.getElem?_eq_getElem hi, Option.map_some, Option.getD_some] at this
          rw [← this]; congr 1; omega
        refine ⟨b, o + i * E.sz, c, fun j hj k => ?_, hb, hcell, fun p m hpm => ?_⟩
        · subst hj; rw [ixS_u (by omega)]; simp
        · unfold getC; rw [if_pos (by omega)]; congr 1
          apply Array.ext_getElem?; intro j
          rw [Array.getElem?_extract, Array.getElem?_extract, E.len]
          by_cases hj : j < m
          · rw [if_pos (by omega), if_pos (by omega), ← hcell (p + j) (by omega)]; congr 1; omega
          · rw [if_neg (by omega), if_neg (by omega)]

theorem ShowL.ext {E : Enc A} {S : List Nat} {H H' : Heap} {v : Value} {l : List A} (h : ShowL E H v l) (he : Ext S H H') (hs : ∀ b n m o s, v = .slice (some ⟨b, o, s⟩) n m → b ∉ S) : ShowL E H' v l := by
  obtain ⟨base, cap, rfl, hm, cs, hcs, hr⟩ := h
  exact ⟨base, cap, rfl, hm, cs, rdS_ext hcs he (fun a ha => by obtain ⟨b, o, s⟩ := a; subst ha; exact hs _ _ _ _ _ rfl), hr⟩

/-- a literal of a slice -/
theorem bslE_1 {E : Enc A} {H : Heap} {t : TypeId} {v : Value} {a : A} {k : Value → Heap → Prop} (hv : v.cells = E.c a)
    (hk : ∀ H', H'.size = H.size + 1 → Ext [] H H' → OwnL E H' (.slice (some ⟨H.size, 0, none⟩) 1 1) [H.size] [a] → k (.slice (some ⟨H.size, 0, none⟩) 1 1) H')
    (hsz : E.sz ≤ 2 ^ 20) : bslE t E.z E.sz 1 [(0, v)] H k := by
  have hl := E.len a
  have hz := E.zlen
  refine ⟨by omega, ?_⟩
  have e : fillA (every E.sz) (repZ E.z 1) [(0, v)] = some (E.c a) := by
    have e1 : repZ E.z 1 = E.z := by simp [repZ]
    simp only [fillA, every, Nat.zero_mul, Nat.zero_add, hv, e1]
    rw [if_pos (by omega), splice_all (by simp; omega)]
  rw [e, bnd_some]
  refine hk _ (size_newB _ _ _) ((Ext.refl _ _).newB _ _) ?_
  refine .mk (l := [a]) (f := fun _ => E.c a) own_newB_self ⟨by omega, fun i hi j hj => ?_, fun i _ => hl⟩ (by simp) (fun i hi => ?_) (by simp)
  · have : i = 0 := by omega
    subst this; simp
  · simp
/-- append of a list -/
theorem appE_l {E : Enc A} {H : Heap} {t : TypeId} {bytes : Nat} {v w : Value} {S : List Nat} {l m : List A} {k : Value → Heap → Prop}
    (hv : OwnL E H v S l) (hw : ShowL E H w m) (hb : (2 * (l.length + m.length) + 200) * bytes ≤ 2 ^ 48) (hb0 : bytes ≠ 0) (hsm : l.length + m.length < 2 ^ 62)
    (hk : ∀ v' S' H', Ext S H H' → (∀ b ∈ S', b ∈ S ∨ H.size ≤ b) → OwnL E H' v' S' (l ++ m) → k v' H') :
    appE t E.z E.sz bytes v w H k := by
  obtain ⟨wb, wc, rfl, hwm, new, hnew, hnr⟩ := hw
  have hnr' : Rows E.sz new m.length fun i => ((m[i]?).map E.c).getD #[] := hnr
  have grow : ∀ (base : Option Addr) (cap : Nat) (old : Array Value), v = .slice base l.length cap → rdS H E.sz l.length base = some old → Rows E.sz old l.length (fun i => ((l[i]?).map E.c).getD #[]) →
      bnd (rdS H E.sz l.length base) fun old => ((2 * (l.length + m.length) + 200) * bytes ≤ 2 ^ 48 ∧ bytes ≠ 0) ∧
      ∀ c, l.length + m.length ≤ c → c < 2 ^ 63 → k (.slice (some ⟨H.size, 0, none⟩) (l.length + m.length) c) (newB H t (old ++ new ++ repZ E.z (c - (l.length + m.length)))) := by
    intro base cap old _ hold hor
    rw [hold, bnd_some]
    refine ⟨⟨hb, hb0⟩, fun c hc hc' => ?_⟩
    have hr := (hor.app hnr').app (Rows.zero (sz := E.sz) (c - (l.length + m.length)) E.zlen)
    have := OwnL.mk (E := E) (H := newB H t (old ++ new ++ repZ E.z (c - (l.length + m.length)))) (b := H.size) (cap := c) (l := l ++ m) own_newB_self (by
      rw [show l.length + m.length + (c - (l.length + m.length)) = c from by omega] at hr; exact hr) (by simpa using hc) (fun i hi => by
        simp only [List.length_append] at hi
        simp only [hi, if_true]
        by_cases h : i < l.length
        · simp [h]
        · have h2 : i - l.length < m.length := by omega
          simp [h, List.getElem_append_right (Nat.le_of_not_lt h), h2]) (by simp; omega)
    simp only [List.length_append] at this
    exact hk _ _ _ ((Ext.refl _ _).newB _ _) (by simp) this
  unfold appE
  cases hv with
  | nil =>
    simp only [List.length_nil, Nat.zero_add] at *
    rw [hnew, bnd_some]
    by_cases hm0 : m.length ≤ 0
    · have hm1 : m = [] := by cases m <;> simp_all
      subst hm1
      have hn0 : new = #[] := by have := hnr.size; simp at this; exact this
      subst hn0
      simp only [List.length_nil, Nat.le_refl, if_true, wrS, bnd_some, Array.toList_empty]
      exact hk _ [] _ (Ext.refl _ _) (by simp) OwnL.nil
    · rw [if_neg (by omega)]
      exact grow none 0 #[] rfl rfl ⟨by simp, fun i hi => by simp at hi, fun i hi => by simp at hi⟩
  | @mk b cap c f l ho hr hc hl hm =>
    dsimp only
    rw [hnew, bnd_some]
    have hs := hr.size
    have h1 := Nat.mul_le_mul_right E.sz hc
    by_cases hroom : l.length + m.length ≤ cap
    · rw [if_pos hroom]
      have hns := hnr'.size
      have h2 := Nat.mul_le_mul_right E.sz hroom
      rw [Nat.add_mul] at h2
      have hcell : new.toList.all isCell = true := by
        rw [List.all_eq_true]; intro x hx
        obtain ⟨i, hi, rfl⟩ := List.getElem_of_mem hx
        have hi' : i < new.size := by simpa using hi
        have hsz0 : 0 < E.sz := by rcases Nat.eq_zero_or_pos E.sz with h | h
                                   · rw [h] at hns; omega
                                   · exact h
        have hq : i / E.sz < m.length := Nat.div_lt_of_lt_mul (by rw [Nat.mul_comm]; omega)
        have hrow := hnr'.row (i / E.sz) hq (i % E.sz) (Nat.mod_lt _ hsz0)
        rw [Nat.mul_comm, Nat.div_add_mod] at hrow
        simp only [List.getElem?_eq_getElem hq, Option.map_some, Option.getD_some, Array.getElem?_eq_getElem hi'] at hrow
        have hc := E.cell m[i / E.sz]
        rw [Array.all_eq_true'] at hc
        have := hc _ (Array.mem_of_getElem? hrow.symm)
        simpa using this
      simp only [wrS, wrA_b, Nat.zero_add, ho, Option.bind_some]
      rw [if_pos ⟨by simp; omega, hcell⟩, bnd_some]
      have hsn := hr.setN (l := new.toList) (m := m.length) (i := l.length) hroom (by simpa using hnr')
      have := OwnL.mk (E := E) (H := setB H b (splice c (l.length * E.sz) new.toList)) (b := b) (l := l ++ m) (own_setB_same ho) hsn (by simpa using hroom) (fun i hi => by
        simp only [List.length_append] at hi
        by_cases h : i < l.length
        · rw [if_neg (by omega), hl i h]; simp [h]
        · have h2 : i - l.length < m.length := by omega
          rw [if_pos (by omega)]
          simp [List.getElem_append_right (Nat.le_of_not_lt h), h2]) (by simp; omega)
      simp only [List.length_append] at this
      exact hk _ _ _ ((Ext.refl _ _).setB _ _ (Or.inl (by simp))) (by simp) this
    · rw [if_neg hroom]
      refine grow _ cap (c.extract 0 (l.length * E.sz)) rfl ?_ ((hr.take hc).congr fun i hi => by simp [hl i hi, hi])
      simp only [rdS, rdA, own_blk ho, getC, Nat.zero_add]; rw [if_pos (by omega)]
end Go.Hc
