/- The heap calculus, part D: '==', the operators, what is built, append, copy, clear. -/
import Derived.Test.YtbchcnmghcmaoaaHcC
import Derived.Laws.StructEq
import Derived.ChangeKeysEq
set_option linter.unusedSimpArgs false
set_option linter.unusedVariables false
namespace Go.Hc
open Go

/-- A type whose values are held against each other cell by cell. -/
def EqOK (P : Program) (t : TypeId) (m : List Bool) : Prop :=
  P.eqGuardType P.depth t = false ∧ ∀ (xs ys : Array Value) (r : Bool) (w : World), cellsEq m xs.toList ys.toList = some r →
    (Op.equal t (.agg xs) (.agg ys)).run P w = .ok r w

theorem cellsEq_len : ∀ {m : List Bool} {xs ys : List Value} {r : Bool}, cellsEq m xs ys = some r → xs.length = m.length ∧ ys.length = m.length
  | [], [], [], _, _ => ⟨rfl, rfl⟩
  | m :: ms, x :: xs, y :: ys, r, h => by
    simp only [cellsEq] at h
    split at h
    · split at h
      · rename_i h2
        obtain ⟨a, b⟩ := cellsEq_len h2
        simp [a, b]
      · cases h
    · cases h

def FlatF (P : Program) : List Field → List Bool → Nat → Prop
  | [], [], _ => True
  | f :: fs, m :: ms, i => (f.name == "_") = false ∧ f.offset = i ∧ (m = false ∧ P.underlying f.type = some .bool ∨ m = true ∧ ∃ k, P.underlying f.type = some (.int k)) ∧ FlatF P fs ms (i + 1)
  | _, _, _ => False

theorem eqFields_flat {P : Program} {w : World} {xs ys : Array Value} (d : Nat) : ∀ (fs : List Field) (ms : List Bool) (i : Nat), FlatF P fs ms i →
    ∀ r, cellsEq ms (xs.toList.drop i) (ys.toList.drop i) = some r → (Op.eqFields (d + 1) xs ys fs).run P w = .ok r w
  | [], [], i, _, r, h => by
    have hl := cellsEq_len h
    rw [List.eq_nil_of_length_eq_zero hl.1, List.eq_nil_of_length_eq_zero hl.2] at h
    simp only [cellsEq, Option.some.injEq] at h
    subst h; simp [Op.eqFields]
  | f :: fs, m :: ms, i, hf, r, h => by
    obtain ⟨hn, ho, ht, hr⟩ := hf
    have hl := cellsEq_len h
    simp only [List.length_cons, List.length_drop, Array.length_toList] at hl
    have hix : i < xs.size := by omega
    have hiy : i < ys.size := by omega
    rw [List.drop_eq_getElem_cons (by simpa using hix), List.drop_eq_getElem_cons (l := ys.toList) (by simpa using hiy)] at h
    simp only [cellsEq, Array.getElem_toList] at h
    have hn' : f.name ≠ "_" := by simpa using hn
    split at h
    · rename_i r1 h1
      split at h
      · rename_i s h2
        cases h
        have ih := eqFields_flat (w := w) d fs ms (i + 1) hr s h2
        have px : (part f.type xs f.offset).run P w = .ok xs[i] w := by
          rcases ht with ⟨_, ht⟩ | ⟨_, k, ht⟩ <;> simp [part, agg_run ht, isAggD, go_sem, ho, hix]
        have py : (part f.type ys f.offset).run P w = .ok ys[i] w := by
          rcases ht with ⟨_, ht⟩ | ⟨_, k, ht⟩ <;> simp [part, agg_run ht, isAggD, go_sem, ho, hiy]
        have he : (Op.equalIn (d + 1) f.type xs[i] ys[i]).run P w = .ok r1 w := by
          unfold cellEq at h1
          split at h1
          · rename_i k a k' b ha hb
            split at h1
            · rename_i hk; subst hk
              simp only [Option.some.injEq] at h1; subst h1
              rw [ha, hb]
              rcases ht with ⟨hm, ht⟩ | ⟨_, k', ht⟩
              · cases hm
              · exact run_equalIn_int w d f.type k k' a b ht
            · cases h1
          · rename_i a b ha hb
            simp only [Option.some.injEq] at h1; subst h1
            rw [ha, hb]
            rcases ht with ⟨_, ht⟩ | ⟨hm, k', ht⟩
            · exact run_equalIn_bool' w d f.type a b ht
            · cases hm
          · cases h1
        rw [Op.eqFields]
        simp only [if_pos hn', Sem.run_bind, px, py, he, Result.andThen]
        cases r1
        · simp
        · simpa using ih
      · cases h
    · cases h
theorem eqOK_struct {P : Program} {t : TypeId} {fs : Array Field} {m : List Bool} (hd : P.underlying t = some (.struct fs)) (hg : P.eqGuardType P.depth t = false) (hs : P.stoodInHeld t = false)
    (hf : FlatF P fs.toList m 0) : EqOK P t m := by
  refine ⟨hg, fun xs ys r w h => ?_⟩
  have hfo : P.fieldsOf t = fs := by simp [Program.fieldsOf, hd]
  unfold Op.equal
  show (Op.equalIn (9999 + 1) t (.agg xs) (.agg ys)).run P w = .ok r w
  rw [run_equalIn_struct w 9999 t xs ys (by rw [hfo]; exact hd) hs, hfo]
  exact eqFields_flat 9998 fs.toList m 0 hf r (by simpa using h)

/-- An array of numbers. -/
theorem eqOK_array {P : Program} {t e : TypeId} {n : Nat} {k : IntKind} {i : TypeInfo} (hd : P.underlying t = some (.array n e)) (hi : P.info? e = some i) (he : P.underlying e = some (.int k)) (hc : P.cellsOf e = 1) (hg : P.eqGuardType P.depth t = false) :
    EqOK P t (List.replicate n true) := by
  refine ⟨hg, fun xs ys r w h => ?_⟩
  unfold Op.equal
  show (Op.equalIn (9999 + 1) t (.agg xs) (.agg ys)).run P w = .ok r w
  have hl := cellsEq_len h
  simp only [Array.length_toList, List.length_replicate] at hl
  rw [run_equalIn_array (w := w) 9999 xs ys hd hi, hc]
  have key : ∀ (m j : Nat) (r : Bool), j + m = n → cellsEq (List.replicate m true) (xs.toList.drop j) (ys.toList.drop j) = some r → (Op.eqItems 9999 e 1 xs ys (List.range' j m)).run P w = .ok r w := by
    intro m
    induction m with
    | zero =>
      intro j r hj h
      rw [List.drop_of_length_le (by simp; omega), List.drop_of_length_le (by simp; omega)] at h
      simp only [List.replicate_zero, cellsEq, Option.some.injEq] at h
      subst h; simp [Op.eqItems]
    | succ m ih =>
      intro j r hj h
      have hix : j < xs.size := by omega
      have hiy : j < ys.size := by omega
      rw [List.drop_eq_getElem_cons (by simpa using hix), List.drop_eq_getElem_cons (l := ys.toList) (by simpa using hiy), List.replicate_succ] at h
      simp only [cellsEq, Array.getElem_toList] at h
      split at h
      · rename_i r1 h1
        split at h
        · rename_i s h2
          cases h
          have ih := ih (j + 1) s (by omega) h2
          unfold cellEq at h1
          split at h1
          · rename_i ka a kb b _ ha hb
            split at h1
            · rename_i hk; subst hk
              simp only [Option.some.injEq] at h1; subst h1
              have px : (part e xs (j * 1)).run P w = .ok xs[j] w := by simp [part, agg_run he, isAggD, go_sem, hix]
              have py : (part e ys (j * 1)).run P w = .ok ys[j] w := by simp [part, agg_run he, isAggD, go_sem, hiy]
              have hq : (Op.equalIn 9999 e xs[j] ys[j]).run P w = .ok (a == b) w := by rw [ha, hb]; exact run_equalIn_int w 9998 e ka k a b he
              rw [List.range'_succ, Op.eqItems]
              simp only [Sem.run_bind, px, py, hq, Result.andThen]
              cases (a == b)
              · simp
              · simpa using ih
            · cases h1
          · rename_i hh _ _; exact absurd hh (by decide)
          · cases h1
        · cases h
      · cases h
  rw [List.range_eq_range']
  exact key n 0 r (by omega) (by simpa using h)

section
variable {P : Program} {w : World}
theorem equalIn_ptr1 (d : Nat) {t e : TypeId} (h : P.underlying t = some (.pointer e)) (b : Option Addr) : (Op.equalIn (d + 1) t (.pointer none) (.pointer b)).run P w = .ok b.isNone w := by
  simp [Op.equalIn, go_sem, under_run h]
theorem equalIn_ptr2 (d : Nat) {t e : TypeId} (h : P.underlying t = some (.pointer e)) (b : Addr) : (Op.equalIn (d + 1) t (.pointer (some b)) (.pointer none)).run P w = .ok false w := by
  simp [Op.equalIn, go_sem, under_run h]
theorem equalIn_sl1 (d : Nat) {t e : TypeId} (h : P.underlying t = some (.slice e)) (n m : Nat) (b : Option Addr) (k l : Nat) : (Op.equalIn (d + 1) t (.slice none n m) (.slice b k l)).run P w = .ok b.isNone w := by
  simp [Op.equalIn, go_sem, under_run h]
theorem equalIn_sl2 (d : Nat) {t e : TypeId} (h : P.underlying t = some (.slice e)) (n m : Nat) (b : Addr) (k l : Nat) : (Op.equalIn (d + 1) t (.slice (some b) n m) (.slice none k l)).run P w = .ok false w := by
  simp [Op.equalIn, go_sem, under_run h]
theorem eqV_run {t : TypeId} {m : EqM} {x y : Value} {r : Bool} (hm : match m with
    | .int => True
    | .bool => P.underlying t = some .bool
    | .ptr => ∃ e, P.underlying t = some (.pointer e)
    | .slice => ∃ e, P.underlying t = some (.slice e)
    | .agg m => EqOK P t m) (h : eqV m x y = some r) : (Op.equal t x y).run P w = .ok r w := by
  unfold eqV at h
  split at h
  · cases h; exact run_equalIn_bool' w 9999 t _ _ hm
  · cases h; obtain ⟨e, he⟩ := hm
    exact equalIn_ptr1 9999 he _
  · cases h; obtain ⟨e, he⟩ := hm
    exact equalIn_ptr2 9999 he _
  · cases h; obtain ⟨e, he⟩ := hm
    exact equalIn_sl1 9999 he _ _ _ _ _
  · cases h; obtain ⟨e, he⟩ := hm
    exact equalIn_sl2 9999 he _ _ _ _ _
  · exact hm.2 _ _ _ _ h
  · cases h
theorem eqGuard_ok {op : BinOp} {t : TypeId} {x y : Operand} {a b : Value} (h : ∀ xs ys, a = .agg xs → b = .agg ys → P.eqGuardType P.depth t = false) (hn : a ≠ .nilIface) :
    (eqGuard op t x y a b).run P w = .ok () w := by
  have k1 : (eqGuard .eql t x y a b).run P w = .ok () w := by
    unfold eqGuard
    cases a <;> cases b <;> first | exact absurd rfl hn | (simp [go_sem]; done) | (simp [go_sem, h _ _ rfl rfl]; done)
  have k2 : (eqGuard .neq t x y a b).run P w = .ok () w := by
    unfold eqGuard
    cases a <;> cases b <;> first | exact absurd rfl hn | (simp [go_sem]; done) | (simp [go_sem, h _ _ rfl rfl]; done)
  cases op <;> first | exact k1 | exact k2 | rfl
theorem binV_run {t : TypeId} {m : EqM} {op : BinOp} {ox oy : Operand} {x y v : Value} (hm : match m with
    | .int => True
    | .bool => P.underlying t = some .bool
    | .ptr => ∃ e, P.underlying t = some (.pointer e)
    | .slice => ∃ e, P.underlying t = some (.slice e)
    | .agg m => EqOK P t m) (h : binV m op x y = some v) : (do eqGuard op t ox oy x y; binOp op t x y : Sem Value).run P w = .ok v w := by
  unfold binV at h
  split at h
  · unfold shV at h
    split at h
    · cases h
    · rename_i hb
      cases h
      rw [Sem.run_bind, eqGuard_ok (by intro _ _ h; cases h) (by intro h; cases h)]
      simp [Result.andThen, binOp, Op.shift, hb, go_sem]
  · unfold shV at h
    split at h
    · cases h
    · rename_i hb
      cases h
      rw [Sem.run_bind, eqGuard_ok (by intro _ _ h; cases h) (by intro h; cases h)]
      simp [Result.andThen, binOp, Op.shift, hb, go_sem]
  · split at h
    · rename_i k a k' b hs1 hs2 hk
      subst hk
      rw [Sem.run_bind, eqGuard_ok (by intro _ _ h; cases h) (by intro h; cases h)]
      unfold intBin at h
      split at h
      · cases h; simp [Result.andThen, binOp, Op.intArith, go_sem]
      · cases h; simp [Result.andThen, binOp, Op.intArith, go_sem]
      · cases h; simp [Result.andThen, binOp, Op.intArith, go_sem]
      · split at h
        · cases h
        · rename_i hb; cases h; simp [Result.andThen, binOp, Op.intDiv, go_sem, hb]
      · split at h
        · cases h
        · rename_i hb; cases h; simp [Result.andThen, binOp, Op.intDiv, go_sem, hb]
      · cases h; simp [Result.andThen, binOp, Op.intCmp, go_sem]
      · cases h; simp [Result.andThen, binOp, Op.intCmp, go_sem]
      · cases h; simp [Result.andThen, binOp, Op.intCmp, go_sem]
      · cases h; simp [Result.andThen, binOp, Op.intCmp, go_sem]
      · cases h; simp [Result.andThen, binOp, Op.intCmp, go_sem]
      · cases h; simp [Result.andThen, binOp, Op.intCmp, go_sem]
      · cases h
    · cases h
  · unfold isO at h
    split at h
    · rename_i r hr
      cases h
      have h1 := eqV_run (w := w) hm hr
      have hg : (eqGuard .eql t ox oy x y).run P w = .ok () w := by
        refine eqGuard_ok (fun xs ys hx hy => ?_) (fun hx => ?_)
        · subst hx; subst hy
          cases m <;> simp [eqV] at hr
          exact hm.1
        · subst hx; cases m <;> simp [eqV] at hr
      rw [Sem.run_bind, hg]
      cases m <;> cases x <;> cases y <;> simp [eqV] at hr <;> simp [Result.andThen, binOp, go_sem, h1]
    · cases h
  · unfold notO at h
    split at h
    · rename_i r hr
      cases h
      have h1 := eqV_run (w := w) hm hr
      have hg : (eqGuard .neq t ox oy x y).run P w = .ok () w := by
        refine eqGuard_ok (fun xs ys hx hy => ?_) (fun hx => ?_)
        · subst hx; subst hy
          cases m <;> simp [eqV] at hr
          exact hm.1
        · subst hx; cases m <;> simp [eqV] at hr
      rw [Sem.run_bind, hg]
      cases m <;> cases x <;> cases y <;> simp [eqV] at hr <;> simp [Result.andThen, binOp, go_sem, h1]
    · cases h
  · cases h
end
end Go.Hc
