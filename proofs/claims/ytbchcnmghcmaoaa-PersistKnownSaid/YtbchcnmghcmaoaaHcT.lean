/- The heap calculus, part T: literals of slices; appending, among things that lie apart. -/
import Derived.Test.YtbchcnmghcmaoaaHcS
set_option linter.unusedSimpArgs false
set_option linter.unusedVariables false
namespace Go.Hc
open Go

theorem appE_sep {A : Type} {E : Enc A} {H0 H : Heap} {Qs : List Asr} {t : TypeId} {bytes : Nat} {v w : Value} {l m : List A} {k : Value → Heap → Prop} (h : Sep H0 H (lstA E v l :: Qs)) (hw : ShowL E H w m)
    (hb : (2 * (l.length + m.length) + 200) * bytes ≤ 2 ^ 48) (hb0 : bytes ≠ 0) (hsm : l.length + m.length < 2 ^ 62)
    (hk : ∀ H' v', Sep H0 H' (lstA E v' (l ++ m) :: Qs) → k v' H') : appE t E.z E.sz bytes v w H k := by
  obtain ⟨T, ho, hn⟩ := h.get
  exact appE_l (show OwnL E H v T l from ho) hw hb hb0 hsm fun v' S' H' he hs hv' => hk H' v' (hn (lstA E v' _) H' S' he hv' hs)
/-- The values of a literal, each with its place. -/
def number : Nat → List Value → List (Nat × Value)
  | _, [] => []
  | k, v :: vs => (k, v) :: number (k + 1) vs
theorem fill_list {A : Type} {E : Enc A} {n : Nat} : ∀ (vs : List Value) (l : List A) (k : Nat) (c : Array Value) (f : Nat → Array Value), Rows E.sz c n f → k + l.length ≤ n → vs.length = l.length → (∀ i (h : i < l.length), (vs.getD i undef).cells = E.c l[i]) →
    ∃ c', fillA (every E.sz) c (number k vs) = some c' ∧ Rows E.sz c' n (fun i => if h : k ≤ i ∧ i < k + l.length then E.c (l[i - k]'(by omega)) else f i)
  | [], [], k, c, f, hr, _, _, _ => ⟨c, rfl, hr.congr fun i _ => by rw [dif_neg (by simp)]⟩
  | v :: vs, a :: l, k, c, f, hr, hk, hl, hc => by
    simp only [List.length_cons] at hk hl
    have h0 : v.cells = E.c a := hc 0 (by simp)
    have hsz := E.len a
    have h1 := row_lt (sz := E.sz) (show k < n by omega)
    have hrs := hr.size
    have hset := hr.set (i := k) (l := v.cells.toList) (by omega) (by rw [h0]; simpa using hsz)
    obtain ⟨c', e, hr'⟩ := fill_list vs l (k + 1) _ _ hset (by omega) (by omega) (fun i h => by have := hc (i + 1) (by simp; omega); simpa using this)
    refine ⟨c', ?_, hr'.congr fun i hi => ?_⟩
    · simp only [number, fillA, every]
      rw [if_pos ⟨by rw [h0]; exact hsz, by omega⟩]
      exact e
    · by_cases h2 : k + 1 ≤ i ∧ i < k + 1 + l.length
      · rw [dif_pos h2, dif_pos (by simp only [List.length_cons]; omega)]
        have e2 : i - k = (i - (k + 1)) + 1 := by omega
        simp only [e2, List.getElem_cons_succ]
      · rw [dif_neg h2]
        by_cases h3 : i = k
        · subst h3
          rw [dif_pos (by simp only [List.length_cons]; omega)]
          simp [h0]
        · rw [dif_neg (by simp only [List.length_cons]; omega), if_neg h3]
/-- a literal of a slice -/
theorem bslE_l {A : Type} {E : Enc A} {H : Heap} {t : TypeId} {n : Nat} {vs : List Value} {l : List A} {k : Value → Heap → Prop} (hn : l.length = n) (hl : vs.length = l.length) (hc : ∀ i (h : i < l.length), (vs.getD i undef).cells = E.c l[i])
    (hsz : n * E.sz ≤ 2 ^ 24) (hsm : n < 2 ^ 60) (hk : ∀ H', H'.size = H.size + 1 → Ext [] H H' → OwnL E H' (.slice (some ⟨H.size, 0, none⟩) n n) [H.size] l → k (.slice (some ⟨H.size, 0, none⟩) n n) H') : bslE t E.z E.sz n (number 0 vs) H k := by
  subst hn
  refine ⟨hsz, ?_⟩
  obtain ⟨c', e, hr⟩ := fill_list (E := E) (n := l.length) vs l 0 (repZ E.z l.length) (fun _ => E.z) (Rows.zero _ E.zlen) (by omega) hl hc
  rw [e, bnd_some]
  refine hk _ (size_newB _ _ _) ((Ext.refl _ _).newB _ _) (.mk own_newB_self hr (Nat.le_refl _) (fun i h => ?_) (by omega))
  rw [dif_pos (by omega)]; simp
theorem bslE_sep {A : Type} {E : Enc A} {H0 H : Heap} {Qs : List Asr} {t : TypeId} {n : Nat} {vs : List Value} {l : List A} {k : Value → Heap → Prop} (h : Sep H0 H Qs) (hn : l.length = n) (hl : vs.length = l.length) (hc : ∀ i (h : i < l.length), (vs.getD i undef).cells = E.c l[i])
    (hsz : n * E.sz ≤ 2 ^ 24) (hsm : n < 2 ^ 60) (hk : ∀ H' v, Sep H0 H' (lstA E v l :: Qs) → k v H') : bslE t E.z E.sz n (number 0 vs) H k :=
  bslE_l hn hl hc hsz hsm fun H' _ e o => hk H' _ (h.new e (Q := lstA E _ l) (T := [H.size]) o (by simp))
end Go.Hc
