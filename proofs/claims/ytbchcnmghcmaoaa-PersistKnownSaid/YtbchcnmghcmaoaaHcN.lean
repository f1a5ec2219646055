/- The heap calculus, part N: things that lie apart. -/
import Derived.Test.YtbchcnmghcmaoaaHcM
import Derived.Below
set_option linter.unusedSimpArgs false
set_option linter.unusedVariables false
namespace Go.Hc
open Go

/-- What holds of some blocks, whatever the others have. -/
structure Asr where
  holds : Heap → List Nat → Prop
  stable : ∀ {H H' : Heap} {T : List Nat}, holds H T → (∀ x ∈ T, H'.arr[x]? = H.arr[x]?) → holds H' T
  lt : ∀ {H : Heap} {T : List Nat}, holds H T → ∀ x ∈ T, x < H.size
def SepL (H : Heap) : List Asr → List Nat → Prop
  | [], U => U = []
  | Q :: Qs, U => ∃ T V, U = T ++ V ∧ Q.holds H T ∧ SepL H Qs V ∧ ∀ x ∈ T, x ∉ V
/-- Since the heap H0, things have come, which lie apart; what was there stands. -/
def Sep (H0 H : Heap) (Qs : List Asr) : Prop := Ext [] H0 H ∧ ∃ U, SepL H Qs U ∧ ∀ x ∈ U, H0.size ≤ x

theorem SepL.stable {H H' : Heap} : ∀ {Qs : List Asr} {U : List Nat}, SepL H Qs U → (∀ x ∈ U, H'.arr[x]? = H.arr[x]?) → SepL H' Qs U
  | [], _, h, _ => h
  | Q :: Qs, _, ⟨T, V, rfl, hq, hs, hd⟩, hx => ⟨T, V, rfl, Q.stable hq fun x hm => hx x (by simp [hm]), SepL.stable hs fun x hm => hx x (by simp [hm]), hd⟩
theorem SepL.lt {H : Heap} : ∀ {Qs : List Asr} {U : List Nat}, SepL H Qs U → ∀ x ∈ U, x < H.size
  | [], _, h, x, hx => by cases h; simp at hx
  | Q :: Qs, _, ⟨T, V, rfl, hq, hs, hd⟩, x, hx => by
    rcases List.mem_append.1 hx with h | h
    · exact Q.lt hq x h
    · exact SepL.lt hs x h
theorem SepL.pick {H : Heap} : ∀ {Qs : List Asr} {U : List Nat} (i : Nat) (_ : SepL H Qs U) (hi : i < Qs.length), ∃ U', SepL H (Qs[i] :: Qs.eraseIdx i) U' ∧ ∀ x, x ∈ U' ↔ x ∈ U
  | Q :: Qs, U, 0, h, _ => ⟨U, h, fun _ => Iff.rfl⟩
  | Q :: Qs, _, i + 1, ⟨T, V, rfl, hq, hs, hd⟩, hi => by
    obtain ⟨U', ⟨T2, V2, rfl, hq2, hs2, hd2⟩, hu⟩ := SepL.pick i hs (by simpa using hi)
    refine ⟨T2 ++ (T ++ V2), ⟨T2, T ++ V2, rfl, hq2, ⟨T, V2, rfl, hq, hs2, fun x hx hv => hd x hx ((hu x).1 (by simp [hv]))⟩, fun x hx hv => ?_⟩, fun x => ?_⟩
    · rcases List.mem_append.1 hv with h | h
      · exact hd x h ((hu x).1 (by simp [hx]))
      · exact hd2 x hx h
    · have := hu x
      simp only [List.mem_append] at this ⊢
      constructor
      · rintro (h | h | h)
        · exact Or.inr (this.1 (Or.inl h))
        · exact Or.inl h
        · exact Or.inr (this.1 (Or.inr h))
      · rintro (h | h)
        · exact Or.inr (Or.inl h)
        · rcases this.2 h with h | h
          · exact Or.inl h
          · exact Or.inr (Or.inr h)

theorem Sep.nil (H : Heap) : Sep H H [] := ⟨Ext.refl _ _, [], rfl, by simp⟩
theorem Sep.ext {H0 H H' : Heap} {Qs : List Asr} (h : Sep H0 H Qs) (he : Ext [] H H') : Sep H0 H' Qs := by
  obtain ⟨e, U, hs, hu⟩ := h
  exact ⟨e.trans he, U, hs.stable fun x hx => he.same x (hs.lt x hx) (by simp), hu⟩
theorem Sep.new {H0 H H' : Heap} {Qs : List Asr} {Q : Asr} {T : List Nat} (h : Sep H0 H Qs) (he : Ext [] H H') (hq : Q.holds H' T) (ht : ∀ x ∈ T, H.size ≤ x) : Sep H0 H' (Q :: Qs) := by
  obtain ⟨e, U, hs, hu⟩ := h
  refine ⟨e.trans he, T ++ U, ⟨T, U, rfl, hq, hs.stable fun x hx => he.same x (hs.lt x hx) (by simp), fun x hx hv => ?_⟩, fun x hx => ?_⟩
  · have := ht x hx; have := hs.lt x hv; omega
  · have := e.size
    rcases List.mem_append.1 hx with h | h
    · have := ht x h; omega
    · exact hu x h
theorem Sep.get {H0 H : Heap} {Qs : List Asr} {Q : Asr} (h : Sep H0 H (Q :: Qs)) :
    ∃ T, Q.holds H T ∧ ∀ (Q' : Asr) (H' : Heap) (T' : List Nat), Ext T H H' → Q'.holds H' T' → (∀ x ∈ T', x ∈ T ∨ H.size ≤ x) → Sep H0 H' (Q' :: Qs) := by
  obtain ⟨e, U, ⟨T, V, rfl, hq, hs, hd⟩, hu⟩ := h
  refine ⟨T, hq, fun Q' H' T' he hq' ht => ⟨e.thru he fun x hx => Or.inr (hu x (by simp [hx])), T' ++ V, ⟨T', V, rfl, hq', hs.stable fun x hx => he.same x (hs.lt x hx) fun hm => hd x hm hx, fun x hx hv => ?_⟩, fun x hx => ?_⟩⟩
  · rcases ht x hx with h | h
    · exact hd x h hv
    · have := hs.lt x hv; omega
  · have := e.size
    rcases List.mem_append.1 hx with h | h
    · rcases ht x h with h | h
      · exact hu x (by simp [h])
      · omega
    · exact hu x (by simp [h])
theorem Sep.drop {H0 H : Heap} {Qs : List Asr} {Q : Asr} (h : Sep H0 H (Q :: Qs)) : Sep H0 H Qs := by
  obtain ⟨e, U, ⟨T, V, rfl, hq, hs, hd⟩, hu⟩ := h
  exact ⟨e, V, hs, fun x hx => hu x (by simp [hx])⟩
theorem Sep.pick {H0 H : Heap} {Qs : List Asr} (i : Nat) (h : Sep H0 H Qs) (hi : i < Qs.length) : Sep H0 H (Qs[i] :: Qs.eraseIdx i) := by
  obtain ⟨e, U, hs, hu⟩ := h
  obtain ⟨U', h1, h2⟩ := hs.pick i hi
  exact ⟨e, U', h1, fun x hx => hu x ((h2 x).1 hx)⟩
theorem Sep.b1 {H0 H : Heap} {A B : Asr} {Qs : List Asr} (h : Sep H0 H (A :: B :: Qs)) : Sep H0 H (B :: A :: Qs) := h.pick 1 (by simp)
theorem Sep.b2 {H0 H : Heap} {A B C : Asr} {Qs : List Asr} (h : Sep H0 H (A :: B :: C :: Qs)) : Sep H0 H (C :: A :: B :: Qs) := h.pick 2 (by simp)
theorem Sep.b3 {H0 H : Heap} {A B C D : Asr} {Qs : List Asr} (h : Sep H0 H (A :: B :: C :: D :: Qs)) : Sep H0 H (D :: A :: B :: C :: Qs) := h.pick 3 (by simp)
theorem Sep.b4 {H0 H : Heap} {A B C D E : Asr} {Qs : List Asr} (h : Sep H0 H (A :: B :: C :: D :: E :: Qs)) : Sep H0 H (E :: A :: B :: C :: D :: Qs) := h.pick 4 (by simp)
theorem ld_ext {H H' : Heap} {agg : Bool} {n b o : Nat} {v : Value} (he : Ext [] H H') (h : ldE agg n (.pointer (some ⟨b, o, none⟩)) H = some v) : ldE agg n (.pointer (some ⟨b, o, none⟩)) H' = some v := by
  cases hb : blk H b with
  | none => cases agg
            · rw [ldE_f, hb] at h; simp at h
            · rw [ldE_t, rdA_u, hb] at h; simp at h
  | some c => cases agg
              · rw [ldE_f, hb] at h; rw [ldE_f, he.blk hb (by simp)]; exact h
              · rw [ldE_t, rdA_u, hb] at h; rw [ldE_t, rdA_u, he.blk hb (by simp)]; exact h
theorem Sep.only {H0 H : Heap} {Qs : List Asr} (h : Sep H0 H Qs) : Ext [] H0 H := h.1
theorem own_same {H H' : Heap} {b : Nat} {c : Array Value} (h : own H b = some c) (e : H'.arr[b]? = H.arr[b]?) : own H' b = some c := by unfold own at *; rw [e]; exact h
theorem blk_same {H H' : Heap} {b : Nat} {c : Array Value} (h : blk H b = some c) (e : H'.arr[b]? = H.arr[b]?) : blk H' b = some c := by unfold blk at *; rw [e]; exact h

/-- one block of ours -/
def cellsA (x : Nat) (c : Array Value) : Asr where
  holds H T := T = [x] ∧ own H x = some c
  stable := fun ⟨a, b⟩ h => by subst a; exact ⟨rfl, own_same b (h x (by simp))⟩
  lt := fun ⟨a, b⟩ y hy => by subst a; simp at hy; subst hy; exact own_lt b
/-- a list of ours -/
def lstA {A : Type} (E : Enc A) (v : Value) (l : List A) : Asr where
  holds H T := OwnL E H v T l
  stable := fun {H H' T} a h => by
    cases a with
    | nil => exact .nil
    | mk ho hr hc hl hm => exact .mk (own_same ho (h _ (by simp))) hr hc hl hm
  lt := fun a => a.lt
theorem Sep.cells {H0 H : Heap} {Qs : List Asr} {x : Nat} {c : Array Value} (h : Sep H0 H (cellsA x c :: Qs)) : own H x = some c := by
  obtain ⟨T, ⟨_, h⟩, _⟩ := h.get; exact h
theorem Sep.list {A : Type} {E : Enc A} {H0 H : Heap} {Qs : List Asr} {v : Value} {l : List A} (h : Sep H0 H (lstA E v l :: Qs)) : ∃ T, OwnL E H v T l := by
  obtain ⟨T, h, _⟩ := h.get; exact ⟨T, h⟩
/-- a cell block is written -/
theorem Sep.set {H0 H : Heap} {Qs : List Asr} {x : Nat} {c c' : Array Value} (h : Sep H0 H (cellsA x c :: Qs)) : Sep H0 (setB H x c') (cellsA x c' :: Qs) := by
  obtain ⟨T, ⟨rfl, ho⟩, hk⟩ := h.get
  exact hk _ _ _ ((Ext.refl _ _).setB _ _ (Or.inl (by simp))) ⟨rfl, own_setB_same ho⟩ fun y hy => Or.inl hy
theorem Sep.newC {H0 H : Heap} {Qs : List Asr} {t : TypeId} {c : Array Value} (h : Sep H0 H Qs) : Sep H0 (newB H t c) (cellsA H.size c :: Qs) :=
  h.new ((Ext.refl _ _).newB _ _) (T := [H.size]) ⟨rfl, own_newB_self⟩ (by simp)

/-- an argument: the slice v shows the list l -/
def ShowA {A : Type} (E : Enc A) (H : Heap) (v : Value) (l : List A) : Prop := (∃ base cap, v = .slice base l.length cap ∧ l.length < 2 ^ 63) ∧ (l = [] ∨ ShowL E H v l)
section
variable {A : Type} {E : Enc A} {H H' : Heap} {v : Value} {l : List A}
theorem ShowA.len (h : ShowA E H v l) : lenV v = some (.int .i64 l.length) := by
  obtain ⟨⟨_, _, rfl, _⟩, _⟩ := h; rfl
theorem ShowA.small (h : ShowA E H v l) : (l.length : Int) ≤ 9223372036854775807 := by
  obtain ⟨⟨_, _, _, h⟩, _⟩ := h; omega
theorem ShowA.ext (h : ShowA E H v l) (he : Ext [] H H') : ShowA E H' v l := ⟨h.1, h.2.imp id fun h => h.ext he (by simp)⟩
theorem ShowL.ix (h : ShowL E H v l) (h0 : 0 < E.sz) {i : Nat} (hi : i < l.length) {j : Int} (hj : j = i) :
    ∃ b o c, ixSV E.sz v (.int .i64 j) = some (.pointer (some ⟨b, o, none⟩)) ∧ blk H b = some c ∧ (∀ j < E.sz, c[o + j]? = (E.c l[i])[j]?) ∧ ldE true E.sz (.pointer (some ⟨b, o, none⟩)) H = some (.agg (E.c l[i])) := by
  obtain ⟨b, o, c, h1, h2, h3, h4⟩ := h.at hi h0
  refine ⟨b, o, c, h1 j hj _, h2, h3, ?_⟩
  have := h4 0 E.sz (by omega)
  have hl := E.len l[i]
  rw [Nat.add_zero] at this
  rw [ldE_t, rdA_u, h2, Option.bind_some, this, Option.map_some]
  congr 2
  apply Array.ext_getElem?; intro k
  rw [Array.getElem?_extract]
  by_cases hk : k < E.sz
  · rw [if_pos (by omega)]; simp
  · rw [if_neg (by omega), Array.getElem?_eq_none (by omega)]
theorem ShowA.ix (h : ShowA E H v l) (h0 : 0 < E.sz) {i : Nat} (hi : i < l.length) {j : Int} (hj : j = i) :
    ∃ b o c, ixSV E.sz v (.int .i64 j) = some (.pointer (some ⟨b, o, none⟩)) ∧ blk H b = some c ∧ (∀ j < E.sz, c[o + j]? = (E.c l[i])[j]?) ∧ ldE true E.sz (.pointer (some ⟨b, o, none⟩)) H = some (.agg (E.c l[i])) := by
  rcases h.2 with h2 | h2
  · subst h2; simp at hi
  · exact h2.ix h0 hi hj
/-- cells that are told one by one make a slice's list -/
theorem ShowA.of_cells {w : World} {a : Option Addr} {len cap : Nat} (hl : l.length = len) (hm : len < 2 ^ 63) (h0 : 0 < E.sz)
    (hc : l ≠ [] → ∃ x, a = some x ∧ ∀ i (hi : i < l.length), ∀ j < E.sz, w.cell? (x.add (i * E.sz + j)) = (E.c l[i])[j]?) : ShowA E w.hp (.slice a len cap) l := by
  subst hl
  refine ⟨⟨a, cap, rfl, hm⟩, ?_⟩
  by_cases hn : l = []
  · exact Or.inl hn
  · obtain ⟨⟨b, o, s⟩, rfl, hx⟩ := hc hn
    have hpos : 0 < l.length := List.length_pos_iff.2 hn
    have hsome : ∀ i (hi : i < l.length), ∀ j < E.sz, ∃ v, (E.c l[i])[j]? = some v := fun i hi j hj => ⟨_, Array.getElem?_eq_getElem (by rw [E.len]; exact hj)⟩
    have hadd : ∀ k, (⟨b, o, none⟩ : Addr).add k = ⟨b, o + k, none⟩ := fun k => by
      unfold Addr.add; split
      · rename_i h; subst h; rfl
      · rfl
    have hb : s = none ∧ ∃ c, blk w.hp b = some c ∧ ∀ k v, w.cell? ⟨b, k, none⟩ = some v → c[k]? = some v := by
      obtain ⟨v, hv⟩ := hsome 0 hpos 0 h0
      have h1 := hx 0 hpos 0 h0
      rw [hv, Nat.zero_mul, Nat.add_zero] at h1
      have h2 : (⟨b, o, s⟩ : Addr).add 0 = ⟨b, o, s⟩ := by unfold Addr.add; simp
      rw [h2] at h1
      simp only [World.cell?] at h1
      split at h1
      · rename_i c e f hb
        cases s with
        | some _ => simp at h1
        | none =>
          refine ⟨rfl, c, by unfold blk; rw [hp_arr, hb], fun k v hk => ?_⟩
          simp only [World.cell?] at hk
          rw [hb] at hk
          simpa using hk
      · simp at h1
    obtain ⟨rfl, c, hb, hcell⟩ := hb
    have hc2 : ∀ i (hi : i < l.length), ∀ j < E.sz, c[o + (i * E.sz + j)]? = (E.c l[i])[j]? := fun i hi j hj => by
      obtain ⟨v, hv⟩ := hsome i hi j hj
      rw [hv]; exact hcell _ _ (by have := hx i hi j hj; rw [hv, hadd] at this; exact this)
    have hlast : o + l.length * E.sz ≤ c.size := by
      have h1 := hc2 (l.length - 1) (by omega) (E.sz - 1) (by omega)
      obtain ⟨v, hv⟩ := hsome (l.length - 1) (by omega) (E.sz - 1) (by omega)
      rw [hv] at h1
      have h2 := (Array.getElem?_eq_some_iff.1 h1).1
      have h3 : (l.length - 1) * E.sz + E.sz = l.length * E.sz := by
        rw [← Nat.succ_mul]; congr 1; omega
      omega
    refine Or.inr ⟨_, cap, rfl, hm, _, by simp only [rdS, rdA, hb, getC]; rw [if_pos hlast], ⟨by simp; omega, fun i hi j hj => ?_, fun i hi => by simp [hi, E.len]⟩⟩
    have h2 := row_lt (sz := E.sz) hi
    rw [Array.getElem?_extract, if_pos (by omega)]
    simp only [List.getElem?_eq_getElem hi, Option.map_some, Option.getD_some]
    exact hc2 i hi j hj
theorem Ext.below {w w' : World} (h : Ext [] w.hp w'.hp) : RowKit.Below w.heap.size w w' :=
  ⟨h.rest.2.1, h.rest.1, h.rest.2.2, h.size, fun k hk => h.same k hk (by simp)⟩
end
end Go.Hc
