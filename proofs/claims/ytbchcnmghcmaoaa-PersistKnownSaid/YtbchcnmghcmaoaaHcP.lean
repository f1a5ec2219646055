/- The heap calculus, part P: rows that came in. -/
import Derived.Test.YtbchcnmghcmaoaaHcO
import Derived.OpenShut
import Derived.ChangeArms
import Derived.Deep.Slices
import Derived.WideKeyPair
set_option linter.unusedSimpArgs false
set_option linter.unusedVariables false
namespace Go.Hc
open Go

def isLeaf : Bool → Value → Prop
  | true, .int .i64 n => In64 n
  | false, .bool _ => True
  | _, _ => False
/-- The kind of the cell at a place of a type's row: a number, or a bool. -/
def leafAt (P : Program) : Nat → TypeId → Nat → Option Bool
  | 0, _, _ => none
  | n + 1, t, j => match P.underlying t with
    | some .bool => if j = 0 then some false else none
    | some (.int .i64) => if j = 0 then some true else none
    | some (.struct fs) => fs.toList.findSome? fun f => if f.offset ≤ j ∧ j < f.offset + P.cellsOf f.type then leafAt P n f.type (j - f.offset) else none
    | some (.array m e) => if j / P.cellsOf e < m ∧ 0 < P.cellsOf e then leafAt P n e (j % P.cellsOf e) else none
    | _ => none
section
variable {H : Type} {enc : TypeId × Value → H} {P : Program} {w : World} {base : Nat} {sp : Nat → Bool} {held : Bool}
theorem leaf_of_trod : ∀ (n : Nat) (t : TypeId) (j : Nat) (k : Bool) (fuel : Nat) (cs : List Value) (x : DataW H × List MemPlace), leafAt P n t j = some k →
    DataW.trod enc P w base sp held fuel t cs = some x → ∃ v, cs[j]? = some v ∧ isLeaf k v
  | 0, _, _, _, _, _, _, h, _ => by simp [leafAt] at h
  | n + 1, t, j, k, fuel, cs, x, h, hx => by
    unfold leafAt at h
    split at h
    · rename_i hu
      split at h
      · rename_i hj; subst hj; cases h
        obtain ⟨b, rfl, _⟩ := DataW.trod_bool hu hx
        exact ⟨_, rfl, trivial⟩
      · cases h
    · rename_i hu
      split at h
      · rename_i hj; subst hj; cases h
        obtain ⟨a, rfl, _, wa⟩ := DataW.trod_int hu hx
        exact ⟨_, rfl, In64.of_wf wa⟩
      · cases h
    · rename_i fs hu
      obtain ⟨f, hf, hl⟩ := List.exists_of_findSome?_eq_some h
      split at hl
      · rename_i hj
        obtain ⟨xs, m, rfl, _, _, hlen, hall⟩ := DataW.trod_struct hu hx
        obtain ⟨i, hi, hif⟩ := List.getElem_of_mem hf
        have hi' : fs[i]? = some f := by rw [← hif, ← Array.getElem?_toList]; exact List.getElem?_eq_getElem hi
        have h1 := hall i f hi'
        have hix : i < xs.length := by rw [hlen]; simpa using hi
        rw [List.getElem?_eq_getElem hix] at h1
        obtain ⟨v, hv, hk⟩ := leaf_of_trod n f.type (j - f.offset) k m _ _ hl h1
        refine ⟨v, ?_, hk⟩
        rw [List.getElem?_take] at hv
        split at hv
        · rw [List.getElem?_drop] at hv; rw [← hv]; congr 1; omega
        · cases hv
      · cases hl
    · rename_i m e hu
      split at h
      · rename_i hj
        obtain ⟨xs, k', rfl, _, _, hlen, hall⟩ := DataW.trod_array hu hx
        have h1 := hall (j / P.cellsOf e) hj.1
        have hix : j / P.cellsOf e < xs.length := by rw [hlen]; exact hj.1
        rw [List.getElem?_eq_getElem hix] at h1
        obtain ⟨v, hv, hk⟩ := leaf_of_trod n e (j % P.cellsOf e) k k' _ _ h h1
        refine ⟨v, ?_, hk⟩
        rw [List.getElem?_take] at hv
        split at hv
        · rw [List.getElem?_drop] at hv; rw [← hv]; congr 1
          rw [Nat.mul_comm, Nat.div_add_mod]
        · cases hv
      · cases h
    · cases h
theorem build_list {A : Type} {Q : Nat → A → Prop} : ∀ n, (∀ i, i < n → ∃ y, Q i y) → ∃ l : List A, l.length = n ∧ ∀ i (hi : i < l.length), Q i l[i]
  | 0, _ => ⟨[], rfl, fun i hi => by simp at hi⟩
  | k + 1, h => by
    obtain ⟨l, hll, hal⟩ := build_list k fun i hi => h i (by omega)
    obtain ⟨y, hy⟩ := h k (by omega)
    refine ⟨l ++ [y], by simp [hll], fun i hi => ?_⟩
    by_cases hik : i < l.length
    · rw [List.getElem_append_left hik]; exact hal i hik
    · have : i = k := by simp at hi; omega
      subst this
      rw [List.getElem_append_right (by omega)]; simpa [hll] using hy
/-- A slice of structs that came in. -/
theorem ShowA.of_rows {A : Type} {E : Enc A} {Good : A → Prop} {t e : TypeId} {a : Option Addr} {len cap : Nat} {d : DataW H} {ps : List MemPlace}
    (ht : P.underlying t = some (.slice e)) (hc : P.cellsOf e = E.sz) (h0 : 0 < E.sz)
    (hel : ∀ (n : Nat) (cs : List Value) (x : DataW H × List MemPlace), cs.length = E.sz → DataW.trod enc P w base sp held n e cs = some x → ∃ y, E.c y = cs.toArray ∧ Good y)
    (h : DataW.Trod enc P w base sp held t (.slice a len cap) d ps) : ∃ l : List A, ShowA E w.hp (.slice a len cap) l ∧ ∀ y ∈ l, Good y := by
  obtain ⟨fuel, hf⟩ := h
  rcases Deep.open_slice ht hf with ⟨hcs, _⟩ | ⟨x, l, c, m, n, D, Pl, hcs, _, hl, hm, hmm, _, hall⟩
  · simp [Value.cells] at hcs
    obtain ⟨rfl, rfl, rfl⟩ := hcs
    exact ⟨[], ⟨⟨none, 0, rfl, by simp⟩, Or.inl rfl⟩, by simp⟩
  · simp [Value.cells] at hcs
    obtain ⟨rfl, rfl, rfl⟩ := hcs
    have hlm : len ≤ m := by rw [hmm]; split <;> omega
    have each : ∀ i, i < len → ∃ y, (∀ j < E.sz, w.cell? (x.add (i * E.sz + j)) = (E.c y)[j]?) ∧ Good y := fun i hi => by
      obtain ⟨cs', h1, h2⟩ := hall i (by omega)
      rw [hc] at h1
      obtain ⟨_, hlen, hcell⟩ := World.cells?_some h1
      obtain ⟨y, hy, hg⟩ := hel _ _ _ hlen h2
      refine ⟨y, fun j hj => ?_, hg⟩
      have := hcell j hj
      rw [hy, List.getElem?_toArray, ← this]
      congr 1
      unfold Addr.add
      by_cases hi0 : i * E.sz = 0
      · simp [hi0]
      · by_cases hj0 : j = 0
        · simp [hj0]
        · rw [if_neg (by omega), if_neg hj0, if_neg hi0]; simp [Nat.add_assoc]
    have hmx : maxLen < 2 ^ 63 := by decide
    have := build_list len each
    obtain ⟨l, hll, hal⟩ := this
    refine ⟨l, ShowA.of_cells hll (by omega) h0 fun _ => ⟨x, rfl, fun i hi => (hal i hi).1⟩, fun y hy => ?_⟩
    obtain ⟨i, hi, rfl⟩ := List.getElem_of_mem hy
    exact (hal i hi).2
end

/-- a slice that came in, and that may be cut -/
def CutOK (v : Value) : Prop := ∃ base n cap, v = .slice base n cap ∧ n ≤ cap ∧ (cap = 0 ∨ ∀ a, base = some a → a.spot = none)
theorem ShowA.take {A : Type} {E : Enc A} {H : Heap} {v : Value} {l : List A} (h : ShowA E H v l) (hc : CutOK v) {m : Nat} (hm : m ≤ l.length) {k : IntKind} {j : Int} (hj : j = m) :
    ∃ v', sliceV E.sz v none (some (.int k j)) = some v' ∧ ShowA E H v' (l.take m) ∧ CutOK v' := by
  subst hj
  obtain ⟨⟨base, cap, rfl, hsm⟩, hs⟩ := h
  obtain ⟨base', n', cap', he, hle, hsp⟩ := hc
  cases he
  have hb : boundV l.length cap (some (.int k (m : Int))) = some m := by
    show (if 0 ≤ (m : Int) ∧ (m : Int) ≤ cap then some (m : Int).toNat else none) = _
    rw [if_pos (by omega)]; simp
  have hlen : (l.take m).length = m := by rw [List.length_take]; omega
  have hb0 : boundV 0 m none = some 0 := rfl
  have fin : ∀ b', (cap = 0 → b' = base) → (cap ≠ 0 → b' = base) → ShowA E H (.slice b' m cap) (l.take m) ∧ CutOK (.slice b' m cap) := fun b' h1 h2 => by
    have : b' = base := by
      by_cases hc0 : cap = 0
      · exact h1 hc0
      · exact h2 hc0
    subst this
    refine ⟨⟨⟨_, _, by rw [hlen], by omega⟩, ?_⟩, _, _, _, rfl, by omega, hsp⟩
    rcases hs with hs | hs
    · subst hs; exact .inl (by simp)
    · refine .inr ?_
      obtain ⟨b2, c2, e, h3, cs, hcs, hr⟩ := hs
      cases e
      refine ⟨_, _, by rw [hlen], by omega, ?_⟩
      rw [hlen]
      cases b' with
      | none =>
        simp only [rdS, Option.some.injEq] at hcs; subst hcs
        refine ⟨#[], rfl, ?_⟩
        have := hr.take hm
        refine Rows.congr (f := fun i => ((l[i]?).map E.c).getD #[]) (by simpa using this) fun i hi => ?_
        rw [List.getElem?_take, if_pos hi]
      | some a =>
        obtain ⟨b, o, s⟩ := a
        cases s with
        | some _ => simp [rdS] at hcs
        | none =>
          simp only [rdS, rdA] at hcs ⊢
          cases hbk : blk H b with
          | none => simp [hbk] at hcs
          | some c =>
            rw [hbk] at hcs
            simp only [getC] at hcs ⊢
            split at hcs
            · rename_i hle2
              simp only [Option.some.injEq] at hcs; subst hcs
              have h1 := Nat.mul_le_mul_right E.sz hm
              refine ⟨c.extract o (o + m * E.sz), by rw [if_pos (by omega)], ?_⟩
              have h2 := hr.take hm
              have e : (c.extract o (o + l.length * E.sz)).extract 0 (m * E.sz) = c.extract o (o + m * E.sz) := by
                apply Array.ext_getElem?; intro i
                rw [Array.getElem?_extract, Array.getElem?_extract]
                by_cases hi : i < m * E.sz
                · rw [if_pos (by simp; omega), if_pos (by omega), Array.getElem?_extract, if_pos (by omega)]; congr 1; omega
                · rw [if_neg (by simp; omega), Array.getElem?_extract, if_neg (by omega)]
              rw [e] at h2
              exact h2.congr fun i hi => by rw [List.getElem?_take, if_pos hi]
            · simp at hcs
  simp only [sliceV, hb, hb0]
  by_cases hc0 : cap = 0
  · rw [if_pos hc0]
    have := fin base (fun _ => rfl) (fun _ => rfl)
    exact ⟨_, rfl, by simpa using this.1, by simpa using this.2⟩
  · rw [if_neg hc0]
    have hno := hsp.resolve_left hc0
    have hmap : (base.map fun a => (⟨a.block, a.off + 0 * E.sz, none⟩ : Addr)) = base := by
      cases base with
      | none => rfl
      | some a =>
        obtain ⟨b, o, s⟩ := a
        have : s = none := hno _ rfl
        subst this; simp
    have := fin base (fun _ => rfl) (fun _ => rfl)
    split
    · rename_i b o s he
      have := hno _ rfl
      cases this
    · exact ⟨_, rfl, by rw [hmap]; simpa using this.1, by rw [hmap]; simpa using this.2⟩
section
variable {H : Type} {enc : TypeId × Value → H} {P : Program} {w : World} {base : Nat} {held : Bool}
theorem CutOK.of_rows {t e : TypeId} {a : Option Addr} {len cap : Nat} {d : DataW H} {ps : List MemPlace} (ht : P.underlying t = some (.slice e)) (h0 : 0 < P.cellsOf e)
    (h : DataW.Trod enc P w base (fun _ => true) held t (.slice a len cap) d ps) : CutOK (.slice a len cap) := by
  obtain ⟨fuel, hf⟩ := h
  rcases Deep.open_slice ht hf with ⟨hcs, _⟩ | ⟨x, l, c, m, n, D, Pl, hcs, _, hl, hm, hmm, _, hall⟩
  · simp [Value.cells] at hcs
    obtain ⟨rfl, rfl, rfl⟩ := hcs
    exact ⟨none, 0, 0, rfl, by omega, .inl rfl⟩
  · simp [Value.cells] at hcs
    obtain ⟨rfl, rfl, rfl⟩ := hcs
    refine ⟨_, _, _, rfl, hl, ?_⟩
    by_cases hc0 : cap = 0
    · exact .inl hc0
    · refine .inr fun y hy => ?_
      cases hy
      obtain ⟨cs', h1, _⟩ := hall 0 (by rw [hmm]; simp; omega)
      obtain ⟨_, hlen, hcell⟩ := World.cells?_some h1
      have h2 := hcell 0 (by omega)
      have h3 : cs'[0]? = some (cs'[0]'(by omega)) := List.getElem?_eq_getElem _
      rw [h3] at h2
      simp only [Nat.zero_mul, Addr.add, if_true] at h2
      unfold World.cell? at h2
      split at h2
      · cases hs : x.spot with
        | none => rfl
        | some _ => rw [hs] at h2; simp at h2
      · cases h2
end
/-- a row of n numbers -/
def intsE (n : Nat) : Enc (Fin n → Int) := ⟨n, (List.replicate n (.int .i64 0)).toArray, fun f => (List.ofFn fun i => Value.int .i64 (f i)).toArray, fun _ => by simp, by simp, fun _ => by simp [isCell], by rw [Array.all_eq_true]; intro i hi; simp [isCell]⟩
theorem intsE_at {n : Nat} {f : Fin n → Int} {j : Nat} (h : j < n) : ((intsE n).c f)[j]? = some (.int .i64 (f ⟨j, h⟩)) := by simp [intsE, h]
theorem leaf_int {v : Value} (h : isLeaf true v) : ∃ n, v = .int .i64 n ∧ In64 n := by
  cases v with
  | int k n => cases k <;> first | exact ⟨n, rfl, h⟩ | exact h.elim
  | _ => exact h.elim
theorem leaf_bool {v : Value} (h : isLeaf false v) : ∃ b, v = .bool b := by
  cases v with
  | bool b => exact ⟨b, rfl⟩
  | _ => exact h.elim
theorem ints_of_cells {n : Nat} {cs : List Value} (hl : cs.length = n) (hall : ∀ j, j < n → ∃ v, cs[j]? = some v ∧ isLeaf true v) : ∃ y : Fin n → Int, (intsE n).c y = cs.toArray ∧ ∀ i, In64 (y i) := by
  have h1 : ∀ i : Fin n, ∃ m, cs[i.1]? = some (.int .i64 m) ∧ In64 m := fun i => by
    obtain ⟨v, hv, hk⟩ := hall i.1 i.2
    obtain ⟨m, rfl, hm⟩ := leaf_int hk
    exact ⟨m, hv, hm⟩
  refine ⟨fun i => Classical.choose (h1 i), ?_, fun i => (Classical.choose_spec (h1 i)).2⟩
  apply Array.ext_getElem?; intro j
  by_cases hj : j < n
  · rw [intsE_at hj, List.getElem?_toArray]; exact (Classical.choose_spec (h1 ⟨j, hj⟩)).1.symm
  · rw [Array.getElem?_eq_none (by rw [(intsE n).len]; show n ≤ j; omega), Array.getElem?_eq_none (by simp; omega)]
section
variable {H : Type} {enc : TypeId × Value → H} {P : Program} {w : World} {base : Nat} {sp : Nat → Bool} {held : Bool}
theorem ints_of_trod {n : Nat} {t : TypeId} (hleaf : (List.range n).all (fun j => leafAt P 9 t j == some true) = true) (k : Nat) (cs : List Value) (x : DataW H × List MemPlace) (hl : cs.length = n)
    (h : DataW.trod enc P w base sp held k t cs = some x) : ∃ y : Fin n → Int, (intsE n).c y = cs.toArray ∧ ∀ i, In64 (y i) := by
  refine ints_of_cells hl fun j hj => ?_
  have := List.all_eq_true.1 hleaf j (by simpa using hj)
  exact leaf_of_trod 9 t j true k cs x (by simpa using this) h
theorem int_of_trod {t : TypeId} (hleaf : leafAt P 9 t 0 = some true) (k : Nat) (cs : List Value) (x : DataW H × List MemPlace) (hl : cs.length = 1)
    (h : DataW.trod enc P w base sp held k t cs = some x) : ∃ y : Int, intE.c y = cs.toArray ∧ In64 y := by
  obtain ⟨v, h0, g0⟩ := leaf_of_trod 9 t 0 true k cs x hleaf h
  obtain ⟨a, rfl, i⟩ := leaf_int g0
  match cs, hl with
  | [c], _ =>
    simp only [List.getElem?_cons_zero, Option.some.injEq] at h0
    subst h0; exact ⟨a, rfl, i⟩
end
end Go.Hc
