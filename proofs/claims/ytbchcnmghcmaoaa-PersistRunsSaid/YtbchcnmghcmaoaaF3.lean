/- Functions, printed by gen.py. -/
import Derived.Test.YtbchcnmghcmaoaaT
set_option linter.unusedSimpArgs false
set_option linter.unusedVariables false
set_option maxRecDepth 100000
namespace Go.Hc
open Go Go.Proofs
/- 32: (*sounder/span.Set).at -/
def span_Set_at_rs : List ResultVar := [.cell 4 45, .tmp 5]
noncomputable def span_Set_at_c2 : Code := subC (bodyC Try.f32) [0]
noncomputable def span_Set_at_c5 : Code := subC (bodyC Try.f32) [1, 0, 0]
noncomputable def span_Set_at_c8 : Code := subC (bodyC Try.f32) [1, 0, 1, 0, 0]
noncomputable def span_Set_at_c7 : Code := .seq span_Set_at_c8 Code.ret
noncomputable def span_Set_at_c6 : Code := .cond (.tmp 8) span_Set_at_c7 Code.skip
noncomputable def span_Set_at_c4 : Code := .seq span_Set_at_c5 span_Set_at_c6
noncomputable def span_Set_at_c10 : Code := subC (bodyC Try.f32) [1, 1, 0]
noncomputable def span_Set_at_c13 : Code := subC (bodyC Try.f32) [1, 1, 1, 0, 0]
noncomputable def span_Set_at_c16 : Code := subC (bodyC Try.f32) [1, 1, 1, 0, 1, 0, 0]
noncomputable def span_Set_at_c15 : Code := .seq span_Set_at_c16 Code.ret
noncomputable def span_Set_at_c14 : Code := .cond (.tmp 31) span_Set_at_c15 Code.skip
noncomputable def span_Set_at_c12 : Code := .seq span_Set_at_c13 span_Set_at_c14
noncomputable def span_Set_at_c18 : Code := subC (bodyC Try.f32) [1, 1, 1, 1, 0]
noncomputable def span_Set_at_c17 : Code := .seq span_Set_at_c18 Code.ret
noncomputable def span_Set_at_c11 : Code := .seq span_Set_at_c12 span_Set_at_c17
noncomputable def span_Set_at_c9 : Code := .seq span_Set_at_c10 span_Set_at_c11
noncomputable def span_Set_at_c3 : Code := .seq span_Set_at_c4 span_Set_at_c9
noncomputable def span_Set_at_c1 : Code := .seq span_Set_at_c2 span_Set_at_c3
def span_Set_at_pi (_ : Nat) : Pl := .nil
def span_Set_at_g19 (S : Value → Value → Value → Heap → Prop) (x0 x1 : Value) (H : Heap) : Prop :=
  newE 45 #[(.int .i64 0), (.int .i64 0)] H fun v4 H1 =>
  S x0 x1 v4 H1
theorem span_Set_at_g19_e (S : Value → Value → Value → Heap → Prop) (x : Nat → Value) (H : Heap) : wpE tab P span_Set_at_pi span_Set_at_c2 (nQ fun l H => S (l.getD 0 undef) (l.getD 1 undef) (l.getD 4 undef) H) ((List.range 40).map x) H = span_Set_at_g19 S (x 0) (x 1) H := by kernel_rfl
def span_Set_at_g20 (S : Value → Value → Value → Value → Heap → Prop) (x0 x1 x4 : Value) (H : Heap) : Prop :=
  EvF P N.span_Set_none #[x0] H fun v8 H1 =>
  S x0 x1 x4 v8 H1
theorem span_Set_at_g20_e (S : Value → Value → Value → Value → Heap → Prop) (x : Nat → Value) (H : Heap) : wpE tab P span_Set_at_pi span_Set_at_c5 (nQ fun l H => S (l.getD 0 undef) (l.getD 1 undef) (l.getD 4 undef) (l.getD 8 undef) H) ((List.range 40).map x) H = span_Set_at_g20 S (x 0) (x 1) (x 4) H := by kernel_rfl
def span_Set_at_g21 (S : Value → Value → Heap → Prop) (x4 : Value) (H : Heap) : Prop :=
  bnd (ldE true 2 x4 H) fun v9 =>
  bnd (stE 2 x4 v9 H) fun H1 =>
  S x4 (.bool false) H1
theorem span_Set_at_g21_e (S : Value → Value → Heap → Prop) (x : Nat → Value) (H : Heap) : wpE tab P span_Set_at_pi span_Set_at_c8 (nQ fun l H => S (l.getD 4 undef) (l.getD 5 undef) H) ((List.range 40).map x) H = span_Set_at_g21 S (x 4) H := by kernel_rfl
def span_Set_at_g22 (S : Value → Value → Value → Value → Heap → Prop) (x0 x1 x4 : Value) (H : Heap) : Prop :=
  EvF P N.span_Set_first #[x0, x1] H fun v12 H1 =>
  S x0 x1 x4 v12 H1
theorem span_Set_at_g22_e (S : Value → Value → Value → Value → Heap → Prop) (x : Nat → Value) (H : Heap) : wpE tab P span_Set_at_pi span_Set_at_c10 (nQ fun l H => S (l.getD 0 undef) (l.getD 1 undef) (l.getD 4 undef) (l.getD 6 undef) H) ((List.range 40).map x) H = span_Set_at_g22 S (x 0) (x 1) (x 4) H := by kernel_rfl
def span_Set_at_g23 (S : Value → Value → Value → Value → Heap → Prop) (x0 x1 x4 x6 : Value) (H : Heap) : Prop :=
  bnd (nilV x0) fun v15 =>
  bnd (faV 1 v15) fun v16 =>
  bnd (ldE false 1 v16 H) fun v17 =>
  bnd (lenV v17) fun v18 =>
  bnd (binV .int .eql x6 v18) fun v19 =>
  brV v19
  (S x0 x4 x6 (.bool true) H)
  (bnd (nilV x0) fun v22 =>
  bnd (faV 1 v22) fun v23 =>
  bnd (ldE false 1 v23 H) fun v24 =>
  bnd (ixSV 2 v24 x6) fun v26 =>
  bnd (faV 0 v26) fun v27 =>
  bnd (ldE false 1 v27 H) fun v28 =>
  bnd (binV .int .gtr v28 x1) fun v30 =>
  S x0 x4 x6 v30 H)
theorem span_Set_at_g23_e (S : Value → Value → Value → Value → Heap → Prop) (x : Nat → Value) (H : Heap) : wpE tab P span_Set_at_pi span_Set_at_c13 (nQ fun l H => S (l.getD 0 undef) (l.getD 4 undef) (l.getD 6 undef) (l.getD 31 undef) H) ((List.range 40).map x) H = span_Set_at_g23 S (x 0) (x 1) (x 4) (x 6) H := by kernel_rfl
def span_Set_at_g24 (S : Value → Value → Heap → Prop) (x4 : Value) (H : Heap) : Prop :=
  bnd (ldE true 2 x4 H) fun v32 =>
  bnd (stE 2 x4 v32 H) fun H1 =>
  S x4 (.bool false) H1
theorem span_Set_at_g24_e (S : Value → Value → Heap → Prop) (x : Nat → Value) (H : Heap) : wpE tab P span_Set_at_pi span_Set_at_c16 (nQ fun l H => S (l.getD 4 undef) (l.getD 5 undef) H) ((List.range 40).map x) H = span_Set_at_g24 S (x 4) H := by kernel_rfl
def span_Set_at_g25 (S : Value → Value → Heap → Prop) (x0 x4 x6 : Value) (H : Heap) : Prop :=
  bnd (nilV x0) fun v34 =>
  bnd (faV 1 v34) fun v35 =>
  bnd (ldE false 1 v35 H) fun v36 =>
  bnd (ixSV 2 v36 x6) fun v38 =>
  bnd (ldE true 2 v38 H) fun v39 =>
  bnd (stE 2 x4 v39 H) fun H1 =>
  S x4 (.bool true) H1
theorem span_Set_at_g25_e (S : Value → Value → Heap → Prop) (x : Nat → Value) (H : Heap) : wpE tab P span_Set_at_pi span_Set_at_c18 (nQ fun l H => S (l.getD 4 undef) (l.getD 5 undef) H) ((List.range 40).map x) H = span_Set_at_g25 S (x 0) (x 4) (x 6) H := by kernel_rfl
def span_Set_at (x0 x1 : Value) (R : Value → Heap → Prop) (H : Heap) : Prop :=
  span_Set_at_g19 (fun x0 x1 x4 H => span_Set_at_g20 (fun x0 x1 x4 x8 H => brV x8
  (span_Set_at_g21 (fun x4 x5 H => bnd (ldE true 2 x4 H) fun r0 =>
  R (.tuple #[r0, x5]) H) x4 H)
  (span_Set_at_g22 (fun x0 x1 x4 x6 H => span_Set_at_g23 (fun x0 x4 x6 x31 H => brV x31
  (span_Set_at_g24 (fun x4 x5 H => bnd (ldE true 2 x4 H) fun r0 =>
  R (.tuple #[r0, x5]) H) x4 H)
  (span_Set_at_g25 (fun x4 x5 H => bnd (ldE true 2 x4 H) fun r0 =>
  R (.tuple #[r0, x5]) H) x0 x4 x6 H)) x0 x1 x4 x6 H) x0 x1 x4 H)) x0 x1 x4 H) x0 x1 H
theorem span_Set_at_i (R : Value → Heap → Prop) (x0 x1 : Value) (H : Heap) (h : span_Set_at x0 x1 R H) : wpE tab P span_Set_at_pi span_Set_at_c1 (retQ tab span_Set_at_rs R) [x0, x1, undef, undef, undef, undef, undef, undef, undef, undef, undef, undef, undef, undef, undef, undef, undef, undef, undef, undef, undef, undef, undef, undef, undef, undef, undef, undef, undef, undef, undef, undef, undef, undef, undef, undef, undef, undef, undef, undef] H := by
  obtain ⟨l, hl, el⟩ : ∃ l : List Value, l.length = 40 ∧ l = [x0, x1, undef, undef, undef, undef, undef, undef, undef, undef, undef, undef, undef, undef, undef, undef, undef, undef, undef, undef, undef, undef, undef, undef, undef, undef, undef, undef, undef, undef, undef, undef, undef, undef, undef, undef, undef, undef, undef, undef] := ⟨_, rfl, rfl⟩
  rw [← el]
  have h : (fun (x0 x1 : Value) => span_Set_at_g19 (fun x0 x1 x4 H => span_Set_at_g20 (fun x0 x1 x4 x8 H => brV x8
(span_Set_at_g21 (fun x4 x5 H => bnd (ldE true 2 x4 H) fun r0 =>
R (.tuple #[r0, x5]) H) x4 H)
(span_Set_at_g22 (fun x0 x1 x4 x6 H => span_Set_at_g23 (fun x0 x4 x6 x31 H => brV x31
(span_Set_at_g24 (fun x4 x5 H => bnd (ldE true 2 x4 H) fun r0 =>
R (.tuple #[r0, x5]) H) x4 H)
(span_Set_at_g25 (fun x4 x5 H => bnd (ldE true 2 x4 H) fun r0 =>
R (.tuple #[r0, x5]) H) x0 x4 x6 H)) x0 x1 x4 x6 H) x0 x1 x4 H)) x0 x1 x4 H) x0 x1 H) (l.getD 0 undef) (l.getD 1 undef) := by rw [el]; exact h
  clear el
  refine seqI (c := span_Set_at_c1) rfl ?_
  refine regI hl (Eq.mpr (span_Set_at_g19_e _ (fun i => l.getD i undef) _) h) ?_
  clear h hl
  intro l H hl h
  refine thenN ?_
  refine seqI (c := span_Set_at_c3) rfl ?_
  refine seqI (c := span_Set_at_c4) rfl ?_
  refine regI hl (Eq.mpr (span_Set_at_g20_e _ (fun i => l.getD i undef) _) h) ?_
  clear h hl
  intro l H hl h
  refine thenN ?_
  refine condI (c := span_Set_at_c6) rfl h ?_ ?_
  · clear h; intro h
    refine seqI (c := span_Set_at_c7) rfl ?_
    refine regI hl (Eq.mpr (span_Set_at_g21_e _ (fun i => l.getD i undef) _) h) ?_
    clear h hl
    intro l H hl h
    refine thenN ?_
    refine retI rfl ?_
    refine thenR ?_
    exact h
  · clear h; intro h
    refine skipI rfl ?_
    refine thenN ?_
    refine seqI (c := span_Set_at_c9) rfl ?_
    refine regI hl (Eq.mpr (span_Set_at_g22_e _ (fun i => l.getD i undef) _) h) ?_
    clear h hl
    intro l H hl h
    refine thenN ?_
    refine seqI (c := span_Set_at_c11) rfl ?_
    refine seqI (c := span_Set_at_c12) rfl ?_
    refine regI hl (Eq.mpr (span_Set_at_g23_e _ (fun i => l.getD i undef) _) h) ?_
    clear h hl
    intro l H hl h
    refine thenN ?_
    refine condI (c := span_Set_at_c14) rfl h ?_ ?_
    · clear h; intro h
      refine seqI (c := span_Set_at_c15) rfl ?_
      refine regI hl (Eq.mpr (span_Set_at_g24_e _ (fun i => l.getD i undef) _) h) ?_
      clear h hl
      intro l H hl h
      refine thenN ?_
      refine retI rfl ?_
      refine thenR ?_
      exact h
    · clear h; intro h
      refine skipI rfl ?_
      refine thenN ?_
      refine seqI (c := span_Set_at_c17) rfl ?_
      refine regI hl (Eq.mpr (span_Set_at_g25_e _ (fun i => l.getD i undef) _) h) ?_
      clear h hl
      intro l H hl h
      refine thenN ?_
      refine retI rfl ?_
      exact h
theorem span_Set_at_ok : okB span_Set_at_pi span_Set_at_c1 = true := by kernel_rfl
theorem span_Set_at_ev0 (x0 x1 : Value) (R : Value → Heap → Prop) (H : Heap) (h : span_Set_at x0 x1 R H) : EvL P N.span_Set_at #[x0, x1] H R :=
  EvF_intro (args := [x0, x1]) (k := 38) (rs := span_Set_at_rs) tab_ok mixed Try.func32 (show Try.f32.body = some span_Set_at_c1 by kernel_rfl) Try.call32 Try.ntmps32 (by kernel_rfl) (okCode_of _ span_Set_at_ok) rfl (span_Set_at_i R x0 x1 H h)
theorem span_Set_at_ev (x0 x1 : Value) (R : Value → Heap → Prop) (H : Heap) (h : span_Set_at x0 x1 R H) : EvF P N.span_Set_at #[x0, x1] H R := .inl (span_Set_at_ev0 x0 x1 R H h)
/- 33: (*sounder/span.Set).none -/
def span_Set_none_rs : List ResultVar := [.tmp 2]
noncomputable def span_Set_none_c2 : Code := subC (bodyC Try.f33) [0]
noncomputable def span_Set_none_c4 : Code := subC (bodyC Try.f33) [1, 0]
noncomputable def span_Set_none_c3 : Code := .seq span_Set_none_c4 Code.ret
noncomputable def span_Set_none_c1 : Code := .seq span_Set_none_c2 span_Set_none_c3
def span_Set_none_pi (_ : Nat) : Pl := .nil
def span_Set_none_g5 (S : Value → Heap → Prop) (x0 : Value) (H : Heap) : Prop :=
  S x0 H
theorem span_Set_none_g5_e (S : Value → Heap → Prop) (x : Nat → Value) (H : Heap) : wpE tab P span_Set_none_pi span_Set_none_c2 (nQ fun l H => S (l.getD 0 undef) H) ((List.range 12).map x) H = span_Set_none_g5 S (x 0) H := by kernel_rfl
def span_Set_none_g6 (S : Value → Heap → Prop) (x0 : Value) (H : Heap) : Prop :=
  bnd (binV .ptr .eql x0 (.pointer none)) fun v4 =>
  brV v4
  (S (.bool true) H)
  (bnd (nilV x0) fun v7 =>
  bnd (faV 0 v7) fun v8 =>
  bnd (ldE false 1 v8 H) fun v9 =>
  bnd (binV .int .eql v9 (.int .i64 0)) fun v10 =>
  S v10 H)
theorem span_Set_none_g6_e (S : Value → Heap → Prop) (x : Nat → Value) (H : Heap) : wpE tab P span_Set_none_pi span_Set_none_c4 (nQ fun l H => S (l.getD 2 undef) H) ((List.range 12).map x) H = span_Set_none_g6 S (x 0) H := by kernel_rfl
def span_Set_none (x0 : Value) (R : Value → Heap → Prop) (H : Heap) : Prop :=
  span_Set_none_g5 (fun x0 H => span_Set_none_g6 (fun x2 H => R x2 H) x0 H) x0 H
theorem span_Set_none_i (R : Value → Heap → Prop) (x0 : Value) (H : Heap) (h : span_Set_none x0 R H) : wpE tab P span_Set_none_pi span_Set_none_c1 (retQ tab span_Set_none_rs R) [x0, undef, undef, undef, undef, undef, undef, undef, undef, undef, undef, undef] H := by
  obtain ⟨l, hl, el⟩ : ∃ l : List Value, l.length = 12 ∧ l = [x0, undef, undef, undef, undef, undef, undef, undef, undef, undef, undef, undef] := ⟨_, rfl, rfl⟩
  rw [← el]
  have h : (fun (x0 : Value) => span_Set_none_g5 (fun x0 H => span_Set_none_g6 (fun x2 H => R x2 H) x0 H) x0 H) (l.getD 0 undef) := by rw [el]; exact h
  clear el
  refine seqI (c := span_Set_none_c1) rfl ?_
  refine regI hl (Eq.mpr (span_Set_none_g5_e _ (fun i => l.getD i undef) _) h) ?_
  clear h hl
  intro l H hl h
  refine thenN ?_
  refine seqI (c := span_Set_none_c3) rfl ?_
  refine regI hl (Eq.mpr (span_Set_none_g6_e _ (fun i => l.getD i undef) _) h) ?_
  clear h hl
  intro l H hl h
  refine thenN ?_
  refine retI rfl ?_
  exact h
theorem span_Set_none_ok : okB span_Set_none_pi span_Set_none_c1 = true := by kernel_rfl
theorem span_Set_none_ev0 (x0 : Value) (R : Value → Heap → Prop) (H : Heap) (h : span_Set_none x0 R H) : EvL P N.span_Set_none #[x0] H R :=
  EvF_intro (args := [x0]) (k := 11) (rs := span_Set_none_rs) tab_ok mixed Try.func33 (show Try.f33.body = some span_Set_none_c1 by kernel_rfl) Try.call33 Try.ntmps33 (by kernel_rfl) (okCode_of _ span_Set_none_ok) rfl (span_Set_none_i R x0 H h)
theorem span_Set_none_ev (x0 : Value) (R : Value → Heap → Prop) (H : Heap) (h : span_Set_none x0 R H) : EvF P N.span_Set_none #[x0] H R := .inl (span_Set_none_ev0 x0 R H h)
/- 34: sounder/span.is -/
def span_is_rs : List ResultVar := [.tmp 2]
noncomputable def span_is_c2 : Code := subC (bodyC Try.f34) [0]
noncomputable def span_is_c4 : Code := subC (bodyC Try.f34) [1, 0]
noncomputable def span_is_c3 : Code := .seq span_is_c4 Code.ret
noncomputable def span_is_c1 : Code := .seq span_is_c2 span_is_c3
def span_is_pi (_ : Nat) : Pl := .nil
def span_is_g5 (S : Value → Heap → Prop) (x0 : Value) (H : Heap) : Prop :=
  S x0 H
theorem span_is_g5_e (S : Value → Heap → Prop) (x : Nat → Value) (H : Heap) : wpE tab P span_is_pi span_is_c2 (nQ fun l H => S (l.getD 0 undef) H) ((List.range 9).map x) H = span_is_g5 S (x 0) H := by kernel_rfl
def span_is_g6 (S : Value → Heap → Prop) (x0 : Value) (H : Heap) : Prop :=
  bnd (binV .int .geq x0 (.int .i64 0)) fun v4 =>
  brV v4
  (bnd (binV .int .leq x0 (.int .i64 9007199254740991)) fun v7 =>
  S v7 H)
  (S (.bool false) H)
theorem span_is_g6_e (S : Value → Heap → Prop) (x : Nat → Value) (H : Heap) : wpE tab P span_is_pi span_is_c4 (nQ fun l H => S (l.getD 2 undef) H) ((List.range 9).map x) H = span_is_g6 S (x 0) H := by kernel_rfl
def span_is (x0 : Value) (R : Value → Heap → Prop) (H : Heap) : Prop :=
  span_is_g5 (fun x0 H => span_is_g6 (fun x2 H => R x2 H) x0 H) x0 H
theorem span_is_i (R : Value → Heap → Prop) (x0 : Value) (H : Heap) (h : span_is x0 R H) : wpE tab P span_is_pi span_is_c1 (retQ tab span_is_rs R) [x0, undef, undef, undef, undef, undef, undef, undef, undef] H := by
  obtain ⟨l, hl, el⟩ : ∃ l : List Value, l.length = 9 ∧ l = [x0, undef, undef, undef, undef, undef, undef, undef, undef] := ⟨_, rfl, rfl⟩
  rw [← el]
  have h : (fun (x0 : Value) => span_is_g5 (fun x0 H => span_is_g6 (fun x2 H => R x2 H) x0 H) x0 H) (l.getD 0 undef) := by rw [el]; exact h
  clear el
  refine seqI (c := span_is_c1) rfl ?_
  refine regI hl (Eq.mpr (span_is_g5_e _ (fun i => l.getD i undef) _) h) ?_
  clear h hl
  intro l H hl h
  refine thenN ?_
  refine seqI (c := span_is_c3) rfl ?_
  refine regI hl (Eq.mpr (span_is_g6_e _ (fun i => l.getD i undef) _) h) ?_
  clear h hl
  intro l H hl h
  refine thenN ?_
  refine retI rfl ?_
  exact h
theorem span_is_ok : okB span_is_pi span_is_c1 = true := by kernel_rfl
theorem span_is_ev0 (x0 : Value) (R : Value → Heap → Prop) (H : Heap) (h : span_is x0 R H) : EvL P N.span_is #[x0] H R :=
  EvF_intro (args := [x0]) (k := 8) (rs := span_is_rs) tab_ok mixed Try.func34 (show Try.f34.body = some span_is_c1 by kernel_rfl) Try.call34 Try.ntmps34 (by kernel_rfl) (okCode_of _ span_is_ok) rfl (span_is_i R x0 H h)
theorem span_is_ev (x0 : Value) (R : Value → Heap → Prop) (H : Heap) (h : span_is x0 R H) : EvF P N.span_is #[x0] H R := .inl (span_is_ev0 x0 R H h)
/- 35: (*sounder/span.Set).first -/
def span_Set_first_rs : List ResultVar := [.tmp 4]
noncomputable def span_Set_first_c2 : Code := subC (bodyC Try.f35) [0]
noncomputable def span_Set_first_c4 : Code := subC (bodyC Try.f35) [1, 0]
noncomputable def span_Set_first_c3 : Code := .seq span_Set_first_c4 Code.ret
noncomputable def span_Set_first_c1 : Code := .seq span_Set_first_c2 span_Set_first_c3
def span_Set_first_pi (_ : Nat) : Pl := .nil
def span_Set_first_g5 (S : Value → Value → Heap → Prop) (x0 x1 : Value) (H : Heap) : Prop :=
  newE 28 (Value.cells x0) H fun v2 H1 =>
  newE 3 (Value.cells x1) H1 fun v3 H2 =>
  S v2 v3 H2
theorem span_Set_first_g5_e (S : Value → Value → Heap → Prop) (x : Nat → Value) (H : Heap) : wpE tab P span_Set_first_pi span_Set_first_c2 (nQ fun l H => S (l.getD 2 undef) (l.getD 3 undef) H) ((List.range 12).map x) H = span_Set_first_g5 S (x 0) (x 1) H := by kernel_rfl
def span_Set_first_g6 (S : Value → Heap → Prop) (x2 x3 : Value) (H : Heap) : Prop :=
  bnd (ldE false 1 x2 H) fun v5 =>
  bnd (nilV v5) fun v6 =>
  bnd (faV 1 v6) fun v7 =>
  bnd (ldE false 1 v7 H) fun v8 =>
  bnd (lenV v8) fun v9 =>
  EvF P N.sort_Search #[v9, (.func (.func N.span_Set_first_1) #[] #[x2, x3])] H fun v11 H1 =>
  S v11 H1
theorem span_Set_first_g6_e (S : Value → Heap → Prop) (x : Nat → Value) (H : Heap) : wpE tab P span_Set_first_pi span_Set_first_c4 (nQ fun l H => S (l.getD 4 undef) H) ((List.range 12).map x) H = span_Set_first_g6 S (x 2) (x 3) H := by kernel_rfl
def span_Set_first (x0 x1 : Value) (R : Value → Heap → Prop) (H : Heap) : Prop :=
  span_Set_first_g5 (fun x2 x3 H => span_Set_first_g6 (fun x4 H => R x4 H) x2 x3 H) x0 x1 H
theorem span_Set_first_i (R : Value → Heap → Prop) (x0 x1 : Value) (H : Heap) (h : span_Set_first x0 x1 R H) : wpE tab P span_Set_first_pi span_Set_first_c1 (retQ tab span_Set_first_rs R) [x0, x1, undef, undef, undef, undef, undef, undef, undef, undef, undef, undef] H := by
  obtain ⟨l, hl, el⟩ : ∃ l : List Value, l.length = 12 ∧ l = [x0, x1, undef, undef, undef, undef, undef, undef, undef, undef, undef, undef] := ⟨_, rfl, rfl⟩
  rw [← el]
  have h : (fun (x0 x1 : Value) => span_Set_first_g5 (fun x2 x3 H => span_Set_first_g6 (fun x4 H => R x4 H) x2 x3 H) x0 x1 H) (l.getD 0 undef) (l.getD 1 undef) := by rw [el]; exact h
  clear el
  refine seqI (c := span_Set_first_c1) rfl ?_
  refine regI hl (Eq.mpr (span_Set_first_g5_e _ (fun i => l.getD i undef) _) h) ?_
  clear h hl
  intro l H hl h
  refine thenN ?_
  refine seqI (c := span_Set_first_c3) rfl ?_
  refine regI hl (Eq.mpr (span_Set_first_g6_e _ (fun i => l.getD i undef) _) h) ?_
  clear h hl
  intro l H hl h
  refine thenN ?_
  refine retI rfl ?_
  exact h
theorem span_Set_first_ok : okB span_Set_first_pi span_Set_first_c1 = true := by kernel_rfl
theorem span_Set_first_ev0 (x0 x1 : Value) (R : Value → Heap → Prop) (H : Heap) (h : span_Set_first x0 x1 R H) : EvL P N.span_Set_first #[x0, x1] H R :=
  EvF_intro (args := [x0, x1]) (k := 10) (rs := span_Set_first_rs) tab_ok mixed Try.func35 (show Try.f35.body = some span_Set_first_c1 by kernel_rfl) Try.call35 Try.ntmps35 (by kernel_rfl) (okCode_of _ span_Set_first_ok) rfl (span_Set_first_i R x0 x1 H h)
theorem span_Set_first_ev (x0 x1 : Value) (R : Value → Heap → Prop) (H : Heap) (h : span_Set_first x0 x1 R H) : EvF P N.span_Set_first #[x0, x1] H R := .inl (span_Set_first_ev0 x0 x1 R H h)
/- 36: sort.Search -/
def sort_Search_rs : List ResultVar := [.tmp 4]
noncomputable def sort_Search_c2 : Code := subC (bodyC Try.f36) [0]
noncomputable def sort_Search_c4 : Code := subC (bodyC Try.f36) [1, 0]
noncomputable def sort_Search_c10 : Code := subC (bodyC Try.f36) [1, 1, 0, 0, 0, 0, 0]
noncomputable def sort_Search_c12 : Code := .exit 0
noncomputable def sort_Search_c11 : Code := .cond (.tmp 11) Code.skip sort_Search_c12
noncomputable def sort_Search_c9 : Code := .seq sort_Search_c10 sort_Search_c11
noncomputable def sort_Search_c15 : Code := subC (bodyC Try.f36) [1, 1, 0, 0, 0, 1, 0, 0]
noncomputable def sort_Search_c17 : Code := subC (bodyC Try.f36) [1, 1, 0, 0, 0, 1, 0, 1, 0]
noncomputable def sort_Search_c19 : Code := subC (bodyC Try.f36) [1, 1, 0, 0, 0, 1, 0, 1, 1, 0]
noncomputable def sort_Search_c20 : Code := subC (bodyC Try.f36) [1, 1, 0, 0, 0, 1, 0, 1, 1, 1]
noncomputable def sort_Search_c18 : Code := .cond (.tmp 21) sort_Search_c19 sort_Search_c20
noncomputable def sort_Search_c16 : Code := .seq sort_Search_c17 sort_Search_c18
noncomputable def sort_Search_c14 : Code := .seq sort_Search_c15 sort_Search_c16
noncomputable def sort_Search_c13 : Code := .block 1 sort_Search_c14
noncomputable def sort_Search_c8 : Code := .seq sort_Search_c9 sort_Search_c13
noncomputable def sort_Search_c7 : Code := .loop sort_Search_c8
noncomputable def sort_Search_c6 : Code := .block 0 sort_Search_c7
noncomputable def sort_Search_c22 : Code := subC (bodyC Try.f36) [1, 1, 1, 0]
noncomputable def sort_Search_c21 : Code := .seq sort_Search_c22 Code.ret
noncomputable def sort_Search_c5 : Code := .seq sort_Search_c6 sort_Search_c21
noncomputable def sort_Search_c3 : Code := .seq sort_Search_c4 sort_Search_c5
noncomputable def sort_Search_c1 : Code := .seq sort_Search_c2 sort_Search_c3
def sort_Search_pi (_ : Nat) : Pl := .nil
def sort_Search_g23 (S : Value → Value → Heap → Prop) (x0 x1 : Value) (H : Heap) : Prop :=
  S x0 x1 H
theorem sort_Search_g23_e (S : Value → Value → Heap → Prop) (x : Nat → Value) (H : Heap) : wpE tab P sort_Search_pi sort_Search_c2 (nQ fun l H => S (l.getD 0 undef) (l.getD 1 undef) H) ((List.range 26).map x) H = sort_Search_g23 S (x 0) (x 1) H := by kernel_rfl
def sort_Search_g24 (S : Value → Value → Value → Heap → Prop) (x0 x1 : Value) (H : Heap) : Prop :=
  S x1 (.int .i64 0) x0 H
theorem sort_Search_g24_e (S : Value → Value → Value → Heap → Prop) (x : Nat → Value) (H : Heap) : wpE tab P sort_Search_pi sort_Search_c4 (nQ fun l H => S (l.getD 1 undef) (l.getD 5 undef) (l.getD 6 undef) H) ((List.range 26).map x) H = sort_Search_g24 S (x 0) (x 1) H := by kernel_rfl
def sort_Search_g26 (S : Value → Value → Value → Value → Heap → Prop) (x1 x5 x6 : Value) (H : Heap) : Prop :=
  bnd (binV .int .lss x5 x6) fun v11 =>
  S x1 x5 x6 v11 H
theorem sort_Search_g26_e (S : Value → Value → Value → Value → Heap → Prop) (x : Nat → Value) (H : Heap) : wpE tab P sort_Search_pi sort_Search_c10 (nQ fun l H => S (l.getD 1 undef) (l.getD 5 undef) (l.getD 6 undef) (l.getD 11 undef) H) ((List.range 26).map x) H = sort_Search_g26 S (x 1) (x 5) (x 6) H := by kernel_rfl
def sort_Search_g27 (S : Value → Value → Value → Value → Heap → Prop) (x1 x5 x6 : Value) (H : Heap) : Prop :=
  bnd (binV .int .add x5 x6) fun v14 =>
  bnd (cvV .u64 v14) fun v15 =>
  bnd (binV .int .shr v15 (.int .u64 1)) fun v16 =>
  bnd (cvV .i64 v16) fun v17 =>
  S x1 x5 x6 v17 H
theorem sort_Search_g27_e (S : Value → Value → Value → Value → Heap → Prop) (x : Nat → Value) (H : Heap) : wpE tab P sort_Search_pi sort_Search_c15 (nQ fun l H => S (l.getD 1 undef) (l.getD 5 undef) (l.getD 6 undef) (l.getD 7 undef) H) ((List.range 26).map x) H = sort_Search_g27 S (x 1) (x 5) (x 6) H := by kernel_rfl
def sort_Search_g28 (S : Value → Value → Value → Value → Value → Heap → Prop) (x1 x5 x6 x7 : Value) (H : Heap) : Prop :=
  callV P x1 [x7] H fun v20 H1 =>
  bnd (unV .not v20) fun v21 =>
  S x1 x5 x6 x7 v21 H1
theorem sort_Search_g28_e (S : Value → Value → Value → Value → Value → Heap → Prop) (x : Nat → Value) (H : Heap) : wpE tab P sort_Search_pi sort_Search_c17 (nQ fun l H => S (l.getD 1 undef) (l.getD 5 undef) (l.getD 6 undef) (l.getD 7 undef) (l.getD 21 undef) H) ((List.range 26).map x) H = sort_Search_g28 S (x 1) (x 5) (x 6) (x 7) H := by kernel_rfl
def sort_Search_g29 (S : Value → Value → Value → Heap → Prop) (x1 x6 x7 : Value) (H : Heap) : Prop :=
  bnd (binV .int .add x7 (.int .i64 1)) fun v23 =>
  S x1 v23 x6 H
theorem sort_Search_g29_e (S : Value → Value → Value → Heap → Prop) (x : Nat → Value) (H : Heap) : wpE tab P sort_Search_pi sort_Search_c19 (nQ fun l H => S (l.getD 1 undef) (l.getD 5 undef) (l.getD 6 undef) H) ((List.range 26).map x) H = sort_Search_g29 S (x 1) (x 6) (x 7) H := by kernel_rfl
def sort_Search_g30 (S : Value → Value → Value → Heap → Prop) (x1 x5 x7 : Value) (H : Heap) : Prop :=
  S x1 x5 x7 H
theorem sort_Search_g30_e (S : Value → Value → Value → Heap → Prop) (x : Nat → Value) (H : Heap) : wpE tab P sort_Search_pi sort_Search_c20 (nQ fun l H => S (l.getD 1 undef) (l.getD 5 undef) (l.getD 6 undef) H) ((List.range 26).map x) H = sort_Search_g30 S (x 1) (x 5) (x 7) H := by kernel_rfl
def sort_Search_g31 (S : Value → Heap → Prop) (x5 : Value) (H : Heap) : Prop :=
  S x5 H
theorem sort_Search_g31_e (S : Value → Heap → Prop) (x : Nat → Value) (H : Heap) : wpE tab P sort_Search_pi sort_Search_c22 (nQ fun l H => S (l.getD 4 undef) H) ((List.range 26).map x) H = sort_Search_g31 S (x 5) H := by kernel_rfl
def sort_Search_s25 (x1 x5 x6 : Value) (K1 : Value → Value → Value →  Heap → Prop) (R : Value → Heap → Prop) (H : Heap) : Prop :=
  sort_Search_g26 (fun x1 x5 x6 x11 H => brV x11
  (sort_Search_g27 (fun x1 x5 x6 x7 H => sort_Search_g28 (fun x1 x5 x6 x7 x21 H => brV x21
  (sort_Search_g29 (fun x1 x5 x6 H => K1 x1 x5 x6 H) x1 x6 x7 H)
  (sort_Search_g30 (fun x1 x5 x6 H => K1 x1 x5 x6 H) x1 x5 x7 H)) x1 x5 x6 x7 H) x1 x5 x6 H)
  (sort_Search_g31 (fun x4 H => R x4 H) x5 H)) x1 x5 x6 H
noncomputable def sort_Search_q32 (R : Value → Heap → Prop) : Exit → List Value → Heap → Prop := (retQ tab sort_Search_rs R)
noncomputable def sort_Search_q33 (R : Value → Heap → Prop) : Exit → List Value → Heap → Prop := (thenE (fun l H => wpE tab P sort_Search_pi sort_Search_c21 (sort_Search_q32 R) l H) (sort_Search_q32 R))
noncomputable def sort_Search_q34 (R : Value → Heap → Prop) : Exit → List Value → Heap → Prop := (blkE 0 (sort_Search_q33 R))
noncomputable def sort_Search_q35 (K1 : Value → Value → Value →  Heap → Prop) (R : Value → Heap → Prop) : Exit → List Value → Heap → Prop := (thenE (fun l H => K1 (l.getD 1 undef) (l.getD 5 undef) (l.getD 6 undef) H) (sort_Search_q34 R))
theorem sort_Search_s25_i (K1 : Value → Value → Value →  Heap → Prop) (R : Value → Heap → Prop) (l : List Value) (H : Heap) (hl : l.length = 26) (h : sort_Search_s25 (l.getD 1 undef) (l.getD 5 undef) (l.getD 6 undef) K1 R H) : wpE tab P sort_Search_pi sort_Search_c8 (sort_Search_q35 K1 R) l H := by
  refine seqI (c := sort_Search_c8) rfl ?_
  refine seqI (c := sort_Search_c9) rfl ?_
  refine regI hl (Eq.mpr (sort_Search_g26_e _ (fun i => l.getD i undef) _) h) ?_
  clear h hl
  intro l H hl h
  refine thenN ?_
  refine condI (c := sort_Search_c11) rfl h ?_ ?_
  · clear h; intro h
    refine skipI rfl ?_
    refine thenN ?_
    refine blockI (c := sort_Search_c13) rfl ?_
    refine seqI (c := sort_Search_c14) rfl ?_
    refine regI hl (Eq.mpr (sort_Search_g27_e _ (fun i => l.getD i undef) _) h) ?_
    clear h hl
    intro l H hl h
    refine thenN ?_
    refine seqI (c := sort_Search_c16) rfl ?_
    refine regI hl (Eq.mpr (sort_Search_g28_e _ (fun i => l.getD i undef) _) h) ?_
    clear h hl
    intro l H hl h
    refine thenN ?_
    refine condI (c := sort_Search_c18) rfl h ?_ ?_
    · clear h; intro h
      refine regI hl (Eq.mpr (sort_Search_g29_e _ (fun i => l.getD i undef) _) h) ?_
      clear h hl
      intro l H hl h
      refine blkN ?_
      refine thenN ?_
      exact h
    · clear h; intro h
      refine regI hl (Eq.mpr (sort_Search_g30_e _ (fun i => l.getD i undef) _) h) ?_
      clear h hl
      intro l H hl h
      refine blkN ?_
      refine thenN ?_
      exact h
  · clear h; intro h
    refine exitI (c := sort_Search_c12) rfl ?_
    refine thenX ?_
    refine thenX ?_
    refine blkX ?_
    refine thenN ?_
    refine seqI (c := sort_Search_c21) rfl ?_
    refine regI hl (Eq.mpr (sort_Search_g31_e _ (fun i => l.getD i undef) _) h) ?_
    clear h hl
    intro l H hl h
    refine thenN ?_
    refine retI rfl ?_
    exact h
def sort_Search_l36 (x1 x5 x6 : Value) (R : Value → Heap → Prop) (H : Heap) : Prop :=
  ∃ (I : Value → Value → Heap → Prop) (μ : Value → Value → Heap → Nat), I x5 x6 H ∧ ∀ (y5 : Value) (y6 : Value) (H : Heap), I y5 y6 H → sort_Search_s25 x1 y5 y6 (fun z1 z5 z6 H' => z1 = x1 ∧ (I z5 z6 H' ∧ μ z5 z6 H' < μ y5 y6 H)) R H
def sort_Search (x0 x1 : Value) (R : Value → Heap → Prop) (H : Heap) : Prop :=
  sort_Search_g23 (fun x0 x1 H => sort_Search_g24 (fun x1 x5 x6 H => sort_Search_l36 x1 x5 x6 R H) x0 x1 H) x0 x1 H
theorem sort_Search_i (R : Value → Heap → Prop) (x0 x1 : Value) (H : Heap) (h : sort_Search x0 x1 R H) : wpE tab P sort_Search_pi sort_Search_c1 (retQ tab sort_Search_rs R) [x0, x1, undef, undef, undef, undef, undef, undef, undef, undef, undef, undef, undef, undef, undef, undef, undef, undef, undef, undef, undef, undef, undef, undef, undef, undef] H := by
  obtain ⟨l, hl, el⟩ : ∃ l : List Value, l.length = 26 ∧ l = [x0, x1, undef, undef, undef, undef, undef, undef, undef, undef, undef, undef, undef, undef, undef, undef, undef, undef, undef, undef, undef, undef, undef, undef, undef, undef] := ⟨_, rfl, rfl⟩
  rw [← el]
  have h : (fun (x0 x1 : Value) => sort_Search_g23 (fun x0 x1 H => sort_Search_g24 (fun x1 x5 x6 H => sort_Search_l36 x1 x5 x6 R H) x0 x1 H) x0 x1 H) (l.getD 0 undef) (l.getD 1 undef) := by rw [el]; exact h
  clear el
  refine seqI (c := sort_Search_c1) rfl ?_
  refine regI hl (Eq.mpr (sort_Search_g23_e _ (fun i => l.getD i undef) _) h) ?_
  clear h hl
  intro l H hl h
  refine thenN ?_
  refine seqI (c := sort_Search_c3) rfl ?_
  refine regI hl (Eq.mpr (sort_Search_g24_e _ (fun i => l.getD i undef) _) h) ?_
  clear h hl
  intro l H hl h
  refine thenN ?_
  refine seqI (c := sort_Search_c5) rfl ?_
  refine blockI (c := sort_Search_c6) rfl ?_
  obtain ⟨I, μ, h0, hr⟩ := h
  refine loopI (c := sort_Search_c7) rfl (fun l' H' => l'.getD 1 undef = l.getD 1 undef ∧ I (l'.getD 5 undef) (l'.getD 6 undef) H') (fun l' H' => μ (l'.getD 5 undef) (l'.getD 6 undef) H') hl ⟨rfl, h0⟩ ?_
  rintro l1 H1 hl1 ⟨e1, hI⟩
  have hb := hr (l1.getD 5 undef) (l1.getD 6 undef) H1 hI
  rw [← e1] at hb
  refine wpE_mono _ l1 H1 hl1 ?_ (sort_Search_s25_i _ R l1 H1 hl1 hb)
  intro e l2 H2 hl2 hq
  cases e with
  | normal => exact fun _ => (by obtain ⟨d1, g1, g2⟩ := hq; exact ⟨⟨d1.trans e1, g1⟩, g2⟩)
  | _ => exact hq
theorem sort_Search_ok : okB sort_Search_pi sort_Search_c1 = true := by kernel_rfl
theorem sort_Search_ev0 (x0 x1 : Value) (R : Value → Heap → Prop) (H : Heap) (h : sort_Search x0 x1 R H) : EvL P N.sort_Search #[x0, x1] H R :=
  EvF_intro (args := [x0, x1]) (k := 24) (rs := sort_Search_rs) tab_ok mixed Try.func36 (show Try.f36.body = some sort_Search_c1 by kernel_rfl) Try.call36 Try.ntmps36 (by kernel_rfl) (okCode_of _ sort_Search_ok) rfl (sort_Search_i R x0 x1 H h)
theorem sort_Search_ev (x0 x1 : Value) (R : Value → Heap → Prop) (H : Heap) (h : sort_Search x0 x1 R H) : EvF P N.sort_Search #[x0, x1] H R := .inl (sort_Search_ev0 x0 x1 R H h)
/- 37: (*sounder/span.Set).Add$1 -/
def span_Set_Add_1_rs : List ResultVar := [.tmp 4]
noncomputable def span_Set_Add_1_c2 : Code := subC (bodyC Try.f37) [0]
noncomputable def span_Set_Add_1_c4 : Code := subC (bodyC Try.f37) [1, 0]
noncomputable def span_Set_Add_1_c3 : Code := .seq span_Set_Add_1_c4 Code.ret
noncomputable def span_Set_Add_1_c1 : Code := .seq span_Set_Add_1_c2 span_Set_Add_1_c3
def span_Set_Add_1_pi (i : Nat) : Pl := match i with
  | 1 => (ones [0, 1, 2, 3, 4, 5, 6, 7, 8, 9, 10, 11] .nil)
  | _ => .nil
def span_Set_Add_1_g5 (S : Value → Value → Value → Heap → Prop) (x0 x1 x2 : Value) (H : Heap) : Prop :=
  S x0 x1 x2 H
theorem span_Set_Add_1_g5_e (S : Value → Value → Value → Heap → Prop) (x : Nat → Value) (H : Heap) : wpE tab P span_Set_Add_1_pi span_Set_Add_1_c2 (nQ fun l H => S (l.getD 0 undef) (l.getD 1 undef) (l.getD 2 undef) H) ((List.range 16).map x) H = span_Set_Add_1_g5 S (x 0) (x 1) (x 2) H := by kernel_rfl
def span_Set_Add_1_g6 (S : Value → Heap → Prop) (x0 x1 x2 : Value) (H : Heap) : Prop :=
  bnd (ldE false 1 x1 H) fun v5 =>
  bnd (nilV v5) fun v6 =>
  bnd (faV 1 v6) fun v7 =>
  bnd (ldE false 1 v7 H) fun v8 =>
  bnd (ixSV 2 v8 x0) fun v10 =>
  bnd (faV 0 v10) fun v11 =>
  bnd (ldE false 1 v11 H) fun v12 =>
  bnd (ldE false 1 x2 H) fun v13 =>
  bnd (binV .int .add v13 (.int .i64 1)) fun v14 =>
  bnd (binV .int .gtr v12 v14) fun v15 =>
  S v15 H
theorem span_Set_Add_1_g6_e (S : Value → Heap → Prop) (x : Nat → Value) (H : Heap) : wpE tab P span_Set_Add_1_pi span_Set_Add_1_c4 (nQ fun l H => S (l.getD 4 undef) H) ((List.range 16).map x) H = span_Set_Add_1_g6 S (x 0) (x 1) (x 2) H := by kernel_rfl
def span_Set_Add_1 (x0 x1 x2 : Value) (R : Value → Heap → Prop) (H : Heap) : Prop :=
  span_Set_Add_1_g5 (fun x0 x1 x2 H => span_Set_Add_1_g6 (fun x4 H => R x4 H) x0 x1 x2 H) x0 x1 x2 H
theorem span_Set_Add_1_i (R : Value → Heap → Prop) (x0 x1 x2 : Value) (H : Heap) (h : span_Set_Add_1 x0 x1 x2 R H) : wpE tab P span_Set_Add_1_pi span_Set_Add_1_c1 (retQ tab span_Set_Add_1_rs R) [x0, x1, x2, undef, undef, undef, undef, undef, undef, undef, undef, undef, undef, undef, undef, undef] H := by
  obtain ⟨l, hl, el⟩ : ∃ l : List Value, l.length = 16 ∧ l = [x0, x1, x2, undef, undef, undef, undef, undef, undef, undef, undef, undef, undef, undef, undef, undef] := ⟨_, rfl, rfl⟩
  rw [← el]
  have h : (fun (x0 x1 x2 : Value) => span_Set_Add_1_g5 (fun x0 x1 x2 H => span_Set_Add_1_g6 (fun x4 H => R x4 H) x0 x1 x2 H) x0 x1 x2 H) (l.getD 0 undef) (l.getD 1 undef) (l.getD 2 undef) := by rw [el]; exact h
  clear el
  refine seqI (c := span_Set_Add_1_c1) rfl ?_
  refine regI hl (Eq.mpr (span_Set_Add_1_g5_e _ (fun i => l.getD i undef) _) h) ?_
  clear h hl
  intro l H hl h
  refine thenN ?_
  refine seqI (c := span_Set_Add_1_c3) rfl ?_
  refine regI hl (Eq.mpr (span_Set_Add_1_g6_e _ (fun i => l.getD i undef) _) h) ?_
  clear h hl
  intro l H hl h
  refine thenN ?_
  refine retI rfl ?_
  exact h
theorem span_Set_Add_1_ok : okB span_Set_Add_1_pi span_Set_Add_1_c1 = true := by kernel_rfl
theorem span_Set_Add_1_ev0 (x0 x1 x2 : Value) (R : Value → Heap → Prop) (H : Heap) (h : span_Set_Add_1 x0 x1 x2 R H) : EvL P N.span_Set_Add_1 #[x0, x1, x2] H R :=
  EvF_intro (args := [x0, x1, x2]) (k := 13) (rs := span_Set_Add_1_rs) tab_ok mixed Try.func37 (show Try.f37.body = some span_Set_Add_1_c1 by kernel_rfl) Try.call37 Try.ntmps37 (by kernel_rfl) (okCode_of _ span_Set_Add_1_ok) rfl (span_Set_Add_1_i R x0 x1 x2 H h)
theorem span_Set_Add_1_ev (x0 x1 x2 : Value) (R : Value → Heap → Prop) (H : Heap) (h : span_Set_Add_1 x0 x1 x2 R H) : EvF P N.span_Set_Add_1 #[x0, x1, x2] H R := .inl (span_Set_Add_1_ev0 x0 x1 x2 R H h)
/- 38: slices.Replace[[]sounder/api.Range,sounder/api.Range] -/
def slices_Replace_Range_rs : List ResultVar := [.tmp 8]
noncomputable def slices_Replace_Range_c2 : Code := subC (bodyC Try.f38) [0]
noncomputable def slices_Replace_Range_c4 : Code := subC (bodyC Try.f38) [1, 0]
noncomputable def slices_Replace_Range_c7 : Code := subC (bodyC Try.f38) [1, 1, 0, 0]
noncomputable def slices_Replace_Range_c10 : Code := subC (bodyC Try.f38) [1, 1, 0, 1, 0, 0]
noncomputable def slices_Replace_Range_c9 : Code := .seq slices_Replace_Range_c10 Code.ret
noncomputable def slices_Replace_Range_c8 : Code := .cond (.tmp 21) slices_Replace_Range_c9 Code.skip
noncomputable def slices_Replace_Range_c6 : Code := .seq slices_Replace_Range_c7 slices_Replace_Range_c8
noncomputable def slices_Replace_Range_c13 : Code := subC (bodyC Try.f38) [1, 1, 1, 0, 0]
noncomputable def slices_Replace_Range_c16 : Code := subC (bodyC Try.f38) [1, 1, 1, 0, 1, 0, 0]
noncomputable def slices_Replace_Range_c19 : Code := subC (bodyC Try.f38) [1, 1, 1, 0, 1, 0, 1, 0, 0]
noncomputable def slices_Replace_Range_c21 : Code := subC (bodyC Try.f38) [1, 1, 1, 0, 1, 0, 1, 0, 1, 0]
noncomputable def slices_Replace_Range_c20 : Code := .cond (.tmp 39) slices_Replace_Range_c21 Code.skip
noncomputable def slices_Replace_Range_c18 : Code := .seq slices_Replace_Range_c19 slices_Replace_Range_c20
noncomputable def slices_Replace_Range_c23 : Code := subC (bodyC Try.f38) [1, 1, 1, 0, 1, 0, 1, 1, 0]
noncomputable def slices_Replace_Range_c22 : Code := .seq slices_Replace_Range_c23 Code.ret
noncomputable def slices_Replace_Range_c17 : Code := .seq slices_Replace_Range_c18 slices_Replace_Range_c22
noncomputable def slices_Replace_Range_c15 : Code := .seq slices_Replace_Range_c16 slices_Replace_Range_c17
noncomputable def slices_Replace_Range_c14 : Code := .cond (.tmp 29) slices_Replace_Range_c15 Code.skip
noncomputable def slices_Replace_Range_c12 : Code := .seq slices_Replace_Range_c13 slices_Replace_Range_c14
noncomputable def slices_Replace_Range_c25 : Code := subC (bodyC Try.f38) [1, 1, 1, 1, 0]
noncomputable def slices_Replace_Range_c28 : Code := subC (bodyC Try.f38) [1, 1, 1, 1, 1, 0, 0]
noncomputable def slices_Replace_Range_c31 : Code := subC (bodyC Try.f38) [1, 1, 1, 1, 1, 0, 1, 0, 0]
noncomputable def slices_Replace_Range_c33 : Code := subC (bodyC Try.f38) [1, 1, 1, 1, 1, 0, 1, 0, 1, 0]
noncomputable def slices_Replace_Range_c35 : Code := subC (bodyC Try.f38) [1, 1, 1, 1, 1, 0, 1, 0, 1, 1, 0]
noncomputable def slices_Replace_Range_c37 : Code := subC (bodyC Try.f38) [1, 1, 1, 1, 1, 0, 1, 0, 1, 1, 1, 0]
noncomputable def slices_Replace_Range_c36 : Code := .seq slices_Replace_Range_c37 Code.ret
noncomputable def slices_Replace_Range_c34 : Code := .seq slices_Replace_Range_c35 slices_Replace_Range_c36
noncomputable def slices_Replace_Range_c32 : Code := .seq slices_Replace_Range_c33 slices_Replace_Range_c34
noncomputable def slices_Replace_Range_c30 : Code := .seq slices_Replace_Range_c31 slices_Replace_Range_c32
noncomputable def slices_Replace_Range_c29 : Code := .cond (.tmp 60) slices_Replace_Range_c30 Code.skip
noncomputable def slices_Replace_Range_c27 : Code := .seq slices_Replace_Range_c28 slices_Replace_Range_c29
noncomputable def slices_Replace_Range_c39 : Code := subC (bodyC Try.f38) [1, 1, 1, 1, 1, 1, 0]
noncomputable def slices_Replace_Range_c42 : Code := subC (bodyC Try.f38) [1, 1, 1, 1, 1, 1, 1, 0, 0]
noncomputable def slices_Replace_Range_c45 : Code := subC (bodyC Try.f38) [1, 1, 1, 1, 1, 1, 1, 0, 1, 0, 0]
noncomputable def slices_Replace_Range_c47 : Code := subC (bodyC Try.f38) [1, 1, 1, 1, 1, 1, 1, 0, 1, 0, 1, 0]
noncomputable def slices_Replace_Range_c49 : Code := subC (bodyC Try.f38) [1, 1, 1, 1, 1, 1, 1, 0, 1, 0, 1, 1, 0]
noncomputable def slices_Replace_Range_c51 : Code := subC (bodyC Try.f38) [1, 1, 1, 1, 1, 1, 1, 0, 1, 0, 1, 1, 1, 0]
noncomputable def slices_Replace_Range_c50 : Code := .seq slices_Replace_Range_c51 Code.ret
noncomputable def slices_Replace_Range_c48 : Code := .seq slices_Replace_Range_c49 slices_Replace_Range_c50
noncomputable def slices_Replace_Range_c46 : Code := .seq slices_Replace_Range_c47 slices_Replace_Range_c48
noncomputable def slices_Replace_Range_c44 : Code := .seq slices_Replace_Range_c45 slices_Replace_Range_c46
noncomputable def slices_Replace_Range_c43 : Code := .cond (.tmp 92) slices_Replace_Range_c44 Code.skip
noncomputable def slices_Replace_Range_c41 : Code := .seq slices_Replace_Range_c42 slices_Replace_Range_c43
noncomputable def slices_Replace_Range_c54 : Code := subC (bodyC Try.f38) [1, 1, 1, 1, 1, 1, 1, 1, 0, 0]
noncomputable def slices_Replace_Range_c57 : Code := subC (bodyC Try.f38) [1, 1, 1, 1, 1, 1, 1, 1, 0, 1, 0, 0]
noncomputable def slices_Replace_Range_c59 : Code := subC (bodyC Try.f38) [1, 1, 1, 1, 1, 1, 1, 1, 0, 1, 0, 1, 0]
noncomputable def slices_Replace_Range_c61 : Code := subC (bodyC Try.f38) [1, 1, 1, 1, 1, 1, 1, 1, 0, 1, 0, 1, 1, 0]
noncomputable def slices_Replace_Range_c60 : Code := .seq slices_Replace_Range_c61 Code.ret
noncomputable def slices_Replace_Range_c58 : Code := .seq slices_Replace_Range_c59 slices_Replace_Range_c60
noncomputable def slices_Replace_Range_c56 : Code := .seq slices_Replace_Range_c57 slices_Replace_Range_c58
noncomputable def slices_Replace_Range_c55 : Code := .cond (.tmp 120) slices_Replace_Range_c56 Code.skip
noncomputable def slices_Replace_Range_c53 : Code := .seq slices_Replace_Range_c54 slices_Replace_Range_c55
noncomputable def slices_Replace_Range_c63 : Code := subC (bodyC Try.f38) [1, 1, 1, 1, 1, 1, 1, 1, 1, 0]
noncomputable def slices_Replace_Range_c66 : Code := subC (bodyC Try.f38) [1, 1, 1, 1, 1, 1, 1, 1, 1, 1, 0, 0]
noncomputable def slices_Replace_Range_c69 : Code := subC (bodyC Try.f38) [1, 1, 1, 1, 1, 1, 1, 1, 1, 1, 0, 1, 0, 0]
noncomputable def slices_Replace_Range_c71 : Code := subC (bodyC Try.f38) [1, 1, 1, 1, 1, 1, 1, 1, 1, 1, 0, 1, 0, 1, 0]
noncomputable def slices_Replace_Range_c73 : Code := subC (bodyC Try.f38) [1, 1, 1, 1, 1, 1, 1, 1, 1, 1, 0, 1, 0, 1, 1, 0]
noncomputable def slices_Replace_Range_c75 : Code := subC (bodyC Try.f38) [1, 1, 1, 1, 1, 1, 1, 1, 1, 1, 0, 1, 0, 1, 1, 1, 0]
noncomputable def slices_Replace_Range_c74 : Code := .seq slices_Replace_Range_c75 Code.ret
noncomputable def slices_Replace_Range_c72 : Code := .seq slices_Replace_Range_c73 slices_Replace_Range_c74
noncomputable def slices_Replace_Range_c70 : Code := .seq slices_Replace_Range_c71 slices_Replace_Range_c72
noncomputable def slices_Replace_Range_c68 : Code := .seq slices_Replace_Range_c69 slices_Replace_Range_c70
noncomputable def slices_Replace_Range_c67 : Code := .cond (.tmp 149) slices_Replace_Range_c68 Code.skip
noncomputable def slices_Replace_Range_c65 : Code := .seq slices_Replace_Range_c66 slices_Replace_Range_c67
noncomputable def slices_Replace_Range_c78 : Code := subC (bodyC Try.f38) [1, 1, 1, 1, 1, 1, 1, 1, 1, 1, 1, 0, 0]
noncomputable def slices_Replace_Range_c81 : Code := subC (bodyC Try.f38) [1, 1, 1, 1, 1, 1, 1, 1, 1, 1, 1, 0, 1, 0, 0]
noncomputable def slices_Replace_Range_c83 : Code := subC (bodyC Try.f38) [1, 1, 1, 1, 1, 1, 1, 1, 1, 1, 1, 0, 1, 0, 1, 0]
noncomputable def slices_Replace_Range_c85 : Code := subC (bodyC Try.f38) [1, 1, 1, 1, 1, 1, 1, 1, 1, 1, 1, 0, 1, 0, 1, 1, 0]
noncomputable def slices_Replace_Range_c87 : Code := subC (bodyC Try.f38) [1, 1, 1, 1, 1, 1, 1, 1, 1, 1, 1, 0, 1, 0, 1, 1, 1, 0]
noncomputable def slices_Replace_Range_c86 : Code := .seq slices_Replace_Range_c87 Code.ret
noncomputable def slices_Replace_Range_c84 : Code := .seq slices_Replace_Range_c85 slices_Replace_Range_c86
noncomputable def slices_Replace_Range_c82 : Code := .seq slices_Replace_Range_c83 slices_Replace_Range_c84
noncomputable def slices_Replace_Range_c80 : Code := .seq slices_Replace_Range_c81 slices_Replace_Range_c82
noncomputable def slices_Replace_Range_c79 : Code := .cond (.tmp 178) slices_Replace_Range_c80 Code.skip
noncomputable def slices_Replace_Range_c77 : Code := .seq slices_Replace_Range_c78 slices_Replace_Range_c79
noncomputable def slices_Replace_Range_c89 : Code := subC (bodyC Try.f38) [1, 1, 1, 1, 1, 1, 1, 1, 1, 1, 1, 1, 0]
noncomputable def slices_Replace_Range_c91 : Code := subC (bodyC Try.f38) [1, 1, 1, 1, 1, 1, 1, 1, 1, 1, 1, 1, 1, 0]
noncomputable def slices_Replace_Range_c93 : Code := subC (bodyC Try.f38) [1, 1, 1, 1, 1, 1, 1, 1, 1, 1, 1, 1, 1, 1, 0]
noncomputable def slices_Replace_Range_c95 : Code := subC (bodyC Try.f38) [1, 1, 1, 1, 1, 1, 1, 1, 1, 1, 1, 1, 1, 1, 1, 0]
noncomputable def slices_Replace_Range_c94 : Code := .seq slices_Replace_Range_c95 Code.ret
noncomputable def slices_Replace_Range_c92 : Code := .seq slices_Replace_Range_c93 slices_Replace_Range_c94
noncomputable def slices_Replace_Range_c90 : Code := .seq slices_Replace_Range_c91 slices_Replace_Range_c92
noncomputable def slices_Replace_Range_c88 : Code := .seq slices_Replace_Range_c89 slices_Replace_Range_c90
noncomputable def slices_Replace_Range_c76 : Code := .seq slices_Replace_Range_c77 slices_Replace_Range_c88
noncomputable def slices_Replace_Range_c64 : Code := .seq slices_Replace_Range_c65 slices_Replace_Range_c76
noncomputable def slices_Replace_Range_c62 : Code := .seq slices_Replace_Range_c63 slices_Replace_Range_c64
noncomputable def slices_Replace_Range_c52 : Code := .seq slices_Replace_Range_c53 slices_Replace_Range_c62
noncomputable def slices_Replace_Range_c40 : Code := .seq slices_Replace_Range_c41 slices_Replace_Range_c52
noncomputable def slices_Replace_Range_c38 : Code := .seq slices_Replace_Range_c39 slices_Replace_Range_c40
noncomputable def slices_Replace_Range_c26 : Code := .seq slices_Replace_Range_c27 slices_Replace_Range_c38
noncomputable def slices_Replace_Range_c24 : Code := .seq slices_Replace_Range_c25 slices_Replace_Range_c26
noncomputable def slices_Replace_Range_c11 : Code := .seq slices_Replace_Range_c12 slices_Replace_Range_c24
noncomputable def slices_Replace_Range_c5 : Code := .seq slices_Replace_Range_c6 slices_Replace_Range_c11
noncomputable def slices_Replace_Range_c3 : Code := .seq slices_Replace_Range_c4 slices_Replace_Range_c5
noncomputable def slices_Replace_Range_c1 : Code := .seq slices_Replace_Range_c2 slices_Replace_Range_c3
def slices_Replace_Range_pi (i : Nat) : Pl := match i with
  | 9 => (ones [0, 1, 2, 3, 4, 5, 6, 7, 8, 9, 10, 11, 12] .nil)
  | 13 => (ones [0, 1, 2, 3, 4, 5, 6, 7, 8, 9] .nil)
  | 18 => (ones [0, 1, 2, 3, 4, 5, 6, 7, 8, 9] .nil)
  | 22 => (ones [0, 1, 2, 3, 4, 5, 6, 7, 8, 9] .nil)
  | 27 => (ones [0, 1, 2, 3, 4, 5, 6, 7] .nil)
  | 28 => (ones [0, 1, 2, 3, 4, 5, 6, 7] .nil)
  | 32 => (ones [0, 1, 2, 3, 4, 5, 6, 7] .nil)
  | 33 => (ones [0, 1, 2, 3, 4, 5, 6, 7] .nil)
  | 38 => (ones [0, 1, 2, 3, 4, 5, 6, 7, 8, 9, 10, 11] .nil)
  | _ => .nil
def slices_Replace_Range_g96 (S : Value → Value → Value → Value → Heap → Prop) (x0 x1 x2 x3 : Value) (H : Heap) : Prop :=
  S x0 x1 x2 x3 H
theorem slices_Replace_Range_g96_e (S : Value → Value → Value → Value → Heap → Prop) (x : Nat → Value) (H : Heap) : wpE tab P slices_Replace_Range_pi slices_Replace_Range_c2 (nQ fun l H => S (l.getD 0 undef) (l.getD 1 undef) (l.getD 2 undef) (l.getD 3 undef) H) ((List.range 224).map x) H = slices_Replace_Range_g96 S (x 0) (x 1) (x 2) (x 3) H := by kernel_rfl
def slices_Replace_Range_g97 (S : Value → Value → Value → Value → Heap → Prop) (x0 x1 x2 x3 : Value) (H : Heap) : Prop :=
  bnd (sliceV 2 x0 (some x1) (some x2)) fun _ =>
  S x0 x1 x2 x3 H
theorem slices_Replace_Range_g97_e (S : Value → Value → Value → Value → Heap → Prop) (x : Nat → Value) (H : Heap) : wpE tab P slices_Replace_Range_pi slices_Replace_Range_c4 (nQ fun l H => S (l.getD 0 undef) (l.getD 1 undef) (l.getD 2 undef) (l.getD 3 undef) H) ((List.range 224).map x) H = slices_Replace_Range_g97 S (x 0) (x 1) (x 2) (x 3) H := by kernel_rfl
def slices_Replace_Range_g98 (S : Value → Value → Value → Value → Value → Heap → Prop) (x0 x1 x2 x3 : Value) (H : Heap) : Prop :=
  bnd (binV .int .eql x1 x2) fun v21 =>
  S x0 x1 x2 x3 v21 H
theorem slices_Replace_Range_g98_e (S : Value → Value → Value → Value → Value → Heap → Prop) (x : Nat → Value) (H : Heap) : wpE tab P slices_Replace_Range_pi slices_Replace_Range_c7 (nQ fun l H => S (l.getD 0 undef) (l.getD 1 undef) (l.getD 2 undef) (l.getD 3 undef) (l.getD 21 undef) H) ((List.range 224).map x) H = slices_Replace_Range_g98 S (x 0) (x 1) (x 2) (x 3) H := by kernel_rfl
def slices_Replace_Range_g99 (S : Value → Heap → Prop) (x0 x1 x3 : Value) (H : Heap) : Prop :=
  EvF P N.slices_Insert_Range #[x0, x1, x3] H fun v25 H1 =>
  S v25 H1
theorem slices_Replace_Range_g99_e (S : Value → Heap → Prop) (x : Nat → Value) (H : Heap) : wpE tab P slices_Replace_Range_pi slices_Replace_Range_c10 (nQ fun l H => S (l.getD 8 undef) H) ((List.range 224).map x) H = slices_Replace_Range_g99 S (x 0) (x 1) (x 3) H := by kernel_rfl
def slices_Replace_Range_g100 (S : Value → Value → Value → Value → Value → Heap → Prop) (x0 x1 x2 x3 : Value) (H : Heap) : Prop :=
  bnd (lenV x0) fun v28 =>
  bnd (binV .int .eql x2 v28) fun v29 =>
  S x0 x1 x2 x3 v29 H
theorem slices_Replace_Range_g100_e (S : Value → Value → Value → Value → Value → Heap → Prop) (x : Nat → Value) (H : Heap) : wpE tab P slices_Replace_Range_pi slices_Replace_Range_c13 (nQ fun l H => S (l.getD 0 undef) (l.getD 1 undef) (l.getD 2 undef) (l.getD 3 undef) (l.getD 29 undef) H) ((List.range 224).map x) H = slices_Replace_Range_g100 S (x 0) (x 1) (x 2) (x 3) H := by kernel_rfl
def slices_Replace_Range_g101 (S : Value → Value → Heap → Prop) (x0 x1 x3 : Value) (H : Heap) : Prop :=
  bnd (sliceV 2 x0 none (some x1)) fun v32 =>
  appE 45 #[(.int .i64 0), (.int .i64 0)] 2 16 v32 x3 H fun v34 H1 =>
  S x0 v34 H1
theorem slices_Replace_Range_g101_e (S : Value → Value → Heap → Prop) (x : Nat → Value) (H : Heap) : wpE tab P slices_Replace_Range_pi slices_Replace_Range_c16 (nQ fun l H => S (l.getD 0 undef) (l.getD 9 undef) H) ((List.range 224).map x) H = slices_Replace_Range_g101 S (x 0) (x 1) (x 3) H := by kernel_rfl
def slices_Replace_Range_g103 (S : Value → Heap → Prop) (x9 : Value) (H : Heap) : Prop :=
  S x9 H
theorem slices_Replace_Range_g103_e (S : Value → Heap → Prop) (x : Nat → Value) (H : Heap) : wpE tab P slices_Replace_Range_pi slices_Replace_Range_c23 (nQ fun l H => S (l.getD 8 undef) H) ((List.range 224).map x) H = slices_Replace_Range_g103 S (x 9) H := by kernel_rfl
def slices_Replace_Range_s102 (x9 : Value) (R : Value → Heap → Prop) (H : Heap) : Prop :=
  slices_Replace_Range_g103 (fun x8 H => R x8 H) x9 H
noncomputable def slices_Replace_Range_q104 (R : Value → Heap → Prop) : Exit → List Value → Heap → Prop := (retQ tab slices_Replace_Range_rs R)
noncomputable def slices_Replace_Range_q105 (R : Value → Heap → Prop) : Exit → List Value → Heap → Prop := (thenE (fun l H => wpE tab P slices_Replace_Range_pi slices_Replace_Range_c24 (slices_Replace_Range_q104 R) l H) (slices_Replace_Range_q104 R))
theorem slices_Replace_Range_s102_i (R : Value → Heap → Prop) (l : List Value) (H : Heap) (hl : l.length = 224) (h : slices_Replace_Range_s102 (l.getD 9 undef) R H) : wpE tab P slices_Replace_Range_pi slices_Replace_Range_c22 (slices_Replace_Range_q105 R) l H := by
  refine seqI (c := slices_Replace_Range_c22) rfl ?_
  refine regI hl (Eq.mpr (slices_Replace_Range_g103_e _ (fun i => l.getD i undef) _) h) ?_
  clear h hl
  intro l H hl h
  refine thenN ?_
  refine retI rfl ?_
  refine thenR ?_
  exact h
def slices_Replace_Range_g106 (S : Value → Value → Value → Heap → Prop) (x0 x9 : Value) (H : Heap) : Prop :=
  bnd (lenV x9) fun v36 =>
  bnd (lenV x0) fun v38 =>
  bnd (binV .int .lss v36 v38) fun v39 =>
  S x0 x9 v39 H
theorem slices_Replace_Range_g106_e (S : Value → Value → Value → Heap → Prop) (x : Nat → Value) (H : Heap) : wpE tab P slices_Replace_Range_pi slices_Replace_Range_c19 (nQ fun l H => S (l.getD 0 undef) (l.getD 9 undef) (l.getD 39 undef) H) ((List.range 224).map x) H = slices_Replace_Range_g106 S (x 0) (x 9) H := by kernel_rfl
def slices_Replace_Range_g107 (S : Value → Heap → Prop) (x0 x9 : Value) (H : Heap) : Prop :=
  bnd (lenV x9) fun v42 =>
  bnd (sliceV 2 x0 (some v42) none) fun v43 =>
  clrE #[(.int .i64 0), (.int .i64 0)] v43 H fun _ H1 =>
  S x9 H1
theorem slices_Replace_Range_g107_e (S : Value → Heap → Prop) (x : Nat → Value) (H : Heap) : wpE tab P slices_Replace_Range_pi slices_Replace_Range_c21 (nQ fun l H => S (l.getD 9 undef) H) ((List.range 224).map x) H = slices_Replace_Range_g107 S (x 0) (x 9) H := by kernel_rfl
def slices_Replace_Range_g108 (S : Value → Value → Value → Value → Value → Heap → Prop) (x0 x1 x2 x3 : Value) (H : Heap) : Prop :=
  bnd (sliceV 2 x0 none (some x1)) fun v47 =>
  bnd (lenV v47) fun v48 =>
  bnd (lenV x3) fun v50 =>
  bnd (binV .int .add v48 v50) fun v51 =>
  bnd (sliceV 2 x0 (some x2) none) fun v54 =>
  bnd (lenV v54) fun v55 =>
  bnd (binV .int .add v51 v55) fun v56 =>
  S x0 x1 x2 x3 v56 H
theorem slices_Replace_Range_g108_e (S : Value → Value → Value → Value → Value → Heap → Prop) (x : Nat → Value) (H : Heap) : wpE tab P slices_Replace_Range_pi slices_Replace_Range_c25 (nQ fun l H => S (l.getD 0 undef) (l.getD 1 undef) (l.getD 2 undef) (l.getD 3 undef) (l.getD 10 undef) H) ((List.range 224).map x) H = slices_Replace_Range_g108 S (x 0) (x 1) (x 2) (x 3) H := by kernel_rfl
def slices_Replace_Range_g109 (S : Value → Value → Value → Value → Value → Value → Heap → Prop) (x0 x1 x2 x3 x10 : Value) (H : Heap) : Prop :=
  bnd (capV x0) fun v59 =>
  bnd (binV .int .gtr x10 v59) fun v60 =>
  S x0 x1 x2 x3 x10 v60 H
theorem slices_Replace_Range_g109_e (S : Value → Value → Value → Value → Value → Value → Heap → Prop) (x : Nat → Value) (H : Heap) : wpE tab P slices_Replace_Range_pi slices_Replace_Range_c28 (nQ fun l H => S (l.getD 0 undef) (l.getD 1 undef) (l.getD 2 undef) (l.getD 3 undef) (l.getD 10 undef) (l.getD 60 undef) H) ((List.range 224).map x) H = slices_Replace_Range_g109 S (x 0) (x 1) (x 2) (x 3) (x 10) H := by kernel_rfl
def slices_Replace_Range_g110 (S : Value → Value → Value → Value → Value → Heap → Prop) (x0 x1 x2 x3 x10 : Value) (H : Heap) : Prop :=
  bnd (sliceV 2 x0 none (some x1)) fun v63 =>
  bnd (binV .int .sub x10 x1) fun v66 =>
  appZE 45 #[(.int .i64 0), (.int .i64 0)] 2 16 v63 v66 H fun v67 H1 =>
  S x0 x1 x2 x3 v67 H1
theorem slices_Replace_Range_g110_e (S : Value → Value → Value → Value → Value → Heap → Prop) (x : Nat → Value) (H : Heap) : wpE tab P slices_Replace_Range_pi slices_Replace_Range_c31 (nQ fun l H => S (l.getD 0 undef) (l.getD 1 undef) (l.getD 2 undef) (l.getD 3 undef) (l.getD 11 undef) H) ((List.range 224).map x) H = slices_Replace_Range_g110 S (x 0) (x 1) (x 2) (x 3) (x 10) H := by kernel_rfl
def slices_Replace_Range_g111 (S : Value → Value → Value → Value → Value → Heap → Prop) (x0 x1 x2 x3 x11 : Value) (H : Heap) : Prop :=
  bnd (sliceV 2 x11 (some x1) none) fun v70 =>
  cpyE 2 v70 x3 H fun _ H1 =>
  S x0 x1 x2 x3 x11 H1
theorem slices_Replace_Range_g111_e (S : Value → Value → Value → Value → Value → Heap → Prop) (x : Nat → Value) (H : Heap) : wpE tab P slices_Replace_Range_pi slices_Replace_Range_c33 (nQ fun l H => S (l.getD 0 undef) (l.getD 1 undef) (l.getD 2 undef) (l.getD 3 undef) (l.getD 11 undef) H) ((List.range 224).map x) H = slices_Replace_Range_g111 S (x 0) (x 1) (x 2) (x 3) (x 11) H := by kernel_rfl
def slices_Replace_Range_g112 (S : Value → Heap → Prop) (x0 x1 x2 x3 x11 : Value) (H : Heap) : Prop :=
  bnd (lenV x3) fun v76 =>
  bnd (binV .int .add x1 v76) fun v77 =>
  bnd (sliceV 2 x11 (some v77) none) fun v78 =>
  bnd (sliceV 2 x0 (some x2) none) fun v81 =>
  cpyE 2 v78 v81 H fun _ H1 =>
  S x11 H1
theorem slices_Replace_Range_g112_e (S : Value → Heap → Prop) (x : Nat → Value) (H : Heap) : wpE tab P slices_Replace_Range_pi slices_Replace_Range_c35 (nQ fun l H => S (l.getD 11 undef) H) ((List.range 224).map x) H = slices_Replace_Range_g112 S (x 0) (x 1) (x 2) (x 3) (x 11) H := by kernel_rfl
def slices_Replace_Range_g113 (S : Value → Heap → Prop) (x11 : Value) (H : Heap) : Prop :=
  S x11 H
theorem slices_Replace_Range_g113_e (S : Value → Heap → Prop) (x : Nat → Value) (H : Heap) : wpE tab P slices_Replace_Range_pi slices_Replace_Range_c37 (nQ fun l H => S (l.getD 8 undef) H) ((List.range 224).map x) H = slices_Replace_Range_g113 S (x 11) H := by kernel_rfl
def slices_Replace_Range_g114 (S : Value → Value → Value → Value → Value → Value → Heap → Prop) (x0 x1 x2 x3 x10 : Value) (H : Heap) : Prop :=
  bnd (sliceV 2 x0 none (some x10)) fun v86 =>
  S x0 x1 x2 x3 x10 v86 H
theorem slices_Replace_Range_g114_e (S : Value → Value → Value → Value → Value → Value → Heap → Prop) (x : Nat → Value) (H : Heap) : wpE tab P slices_Replace_Range_pi slices_Replace_Range_c39 (nQ fun l H => S (l.getD 0 undef) (l.getD 1 undef) (l.getD 2 undef) (l.getD 3 undef) (l.getD 10 undef) (l.getD 12 undef) H) ((List.range 224).map x) H = slices_Replace_Range_g114 S (x 0) (x 1) (x 2) (x 3) (x 10) H := by kernel_rfl
def slices_Replace_Range_g115 (S : Value → Value → Value → Value → Value → Value → Value → Heap → Prop) (x0 x1 x2 x3 x10 x12 : Value) (H : Heap) : Prop :=
  bnd (lenV x3) fun v89 =>
  bnd (binV .int .add x1 v89) fun v90 =>
  bnd (binV .int .leq v90 x2) fun v92 =>
  S x0 x1 x2 x3 x10 x12 v92 H
theorem slices_Replace_Range_g115_e (S : Value → Value → Value → Value → Value → Value → Value → Heap → Prop) (x : Nat → Value) (H : Heap) : wpE tab P slices_Replace_Range_pi slices_Replace_Range_c42 (nQ fun l H => S (l.getD 0 undef) (l.getD 1 undef) (l.getD 2 undef) (l.getD 3 undef) (l.getD 10 undef) (l.getD 12 undef) (l.getD 92 undef) H) ((List.range 224).map x) H = slices_Replace_Range_g115 S (x 0) (x 1) (x 2) (x 3) (x 10) (x 12) H := by kernel_rfl
def slices_Replace_Range_g116 (S : Value → Value → Value → Value → Value → Value → Heap → Prop) (x0 x1 x2 x3 x10 x12 : Value) (H : Heap) : Prop :=
  bnd (sliceV 2 x12 (some x1) none) fun v95 =>
  cpyE 2 v95 x3 H fun _ H1 =>
  S x0 x1 x2 x3 x10 x12 H1
theorem slices_Replace_Range_g116_e (S : Value → Value → Value → Value → Value → Value → Heap → Prop) (x : Nat → Value) (H : Heap) : wpE tab P slices_Replace_Range_pi slices_Replace_Range_c45 (nQ fun l H => S (l.getD 0 undef) (l.getD 1 undef) (l.getD 2 undef) (l.getD 3 undef) (l.getD 10 undef) (l.getD 12 undef) H) ((List.range 224).map x) H = slices_Replace_Range_g116 S (x 0) (x 1) (x 2) (x 3) (x 10) (x 12) H := by kernel_rfl
def slices_Replace_Range_g117 (S : Value → Value → Value → Heap → Prop) (x0 x1 x2 x3 x10 x12 : Value) (H : Heap) : Prop :=
  bnd (lenV x3) fun v101 =>
  bnd (binV .int .add x1 v101) fun v102 =>
  bnd (sliceV 2 x12 (some v102) none) fun v103 =>
  bnd (sliceV 2 x0 (some x2) none) fun v106 =>
  cpyE 2 v103 v106 H fun _ H1 =>
  S x0 x10 x12 H1
theorem slices_Replace_Range_g117_e (S : Value → Value → Value → Heap → Prop) (x : Nat → Value) (H : Heap) : wpE tab P slices_Replace_Range_pi slices_Replace_Range_c47 (nQ fun l H => S (l.getD 0 undef) (l.getD 10 undef) (l.getD 12 undef) H) ((List.range 224).map x) H = slices_Replace_Range_g117 S (x 0) (x 1) (x 2) (x 3) (x 10) (x 12) H := by kernel_rfl
def slices_Replace_Range_g118 (S : Value → Heap → Prop) (x0 x10 x12 : Value) (H : Heap) : Prop :=
  bnd (sliceV 2 x0 (some x10) none) fun v110 =>
  clrE #[(.int .i64 0), (.int .i64 0)] v110 H fun _ H1 =>
  S x12 H1
theorem slices_Replace_Range_g118_e (S : Value → Heap → Prop) (x : Nat → Value) (H : Heap) : wpE tab P slices_Replace_Range_pi slices_Replace_Range_c49 (nQ fun l H => S (l.getD 12 undef) H) ((List.range 224).map x) H = slices_Replace_Range_g118 S (x 0) (x 10) (x 12) H := by kernel_rfl
def slices_Replace_Range_g119 (S : Value → Heap → Prop) (x12 : Value) (H : Heap) : Prop :=
  S x12 H
theorem slices_Replace_Range_g119_e (S : Value → Heap → Prop) (x : Nat → Value) (H : Heap) : wpE tab P slices_Replace_Range_pi slices_Replace_Range_c51 (nQ fun l H => S (l.getD 8 undef) H) ((List.range 224).map x) H = slices_Replace_Range_g119 S (x 12) H := by kernel_rfl
def slices_Replace_Range_g120 (S : Value → Value → Value → Value → Value → Value → Heap → Prop) (x0 x1 x2 x3 x12 : Value) (H : Heap) : Prop :=
  bnd (lenV x3) fun v115 =>
  bnd (binV .int .add x1 v115) fun v116 =>
  bnd (sliceV 2 x12 (some v116) none) fun v117 =>
  EvF P N.slices_overlaps_Range #[v117, x3] H fun v119 H1 =>
  bnd (unV .not v119) fun v120 =>
  S x0 x1 x2 x3 x12 v120 H1
theorem slices_Replace_Range_g120_e (S : Value → Value → Value → Value → Value → Value → Heap → Prop) (x : Nat → Value) (H : Heap) : wpE tab P slices_Replace_Range_pi slices_Replace_Range_c54 (nQ fun l H => S (l.getD 0 undef) (l.getD 1 undef) (l.getD 2 undef) (l.getD 3 undef) (l.getD 12 undef) (l.getD 120 undef) H) ((List.range 224).map x) H = slices_Replace_Range_g120 S (x 0) (x 1) (x 2) (x 3) (x 12) H := by kernel_rfl
def slices_Replace_Range_g121 (S : Value → Value → Value → Heap → Prop) (x0 x1 x2 x3 x12 : Value) (H : Heap) : Prop :=
  bnd (lenV x3) fun v124 =>
  bnd (binV .int .add x1 v124) fun v125 =>
  bnd (sliceV 2 x12 (some v125) none) fun v126 =>
  bnd (sliceV 2 x0 (some x2) none) fun v129 =>
  cpyE 2 v126 v129 H fun _ H1 =>
  S x1 x3 x12 H1
theorem slices_Replace_Range_g121_e (S : Value → Value → Value → Heap → Prop) (x : Nat → Value) (H : Heap) : wpE tab P slices_Replace_Range_pi slices_Replace_Range_c57 (nQ fun l H => S (l.getD 1 undef) (l.getD 3 undef) (l.getD 12 undef) H) ((List.range 224).map x) H = slices_Replace_Range_g121 S (x 0) (x 1) (x 2) (x 3) (x 12) H := by kernel_rfl
def slices_Replace_Range_g122 (S : Value → Heap → Prop) (x1 x3 x12 : Value) (H : Heap) : Prop :=
  bnd (sliceV 2 x12 (some x1) none) fun v133 =>
  cpyE 2 v133 x3 H fun _ H1 =>
  S x12 H1
theorem slices_Replace_Range_g122_e (S : Value → Heap → Prop) (x : Nat → Value) (H : Heap) : wpE tab P slices_Replace_Range_pi slices_Replace_Range_c59 (nQ fun l H => S (l.getD 12 undef) H) ((List.range 224).map x) H = slices_Replace_Range_g122 S (x 1) (x 3) (x 12) H := by kernel_rfl
def slices_Replace_Range_g123 (S : Value → Heap → Prop) (x12 : Value) (H : Heap) : Prop :=
  S x12 H
theorem slices_Replace_Range_g123_e (S : Value → Heap → Prop) (x : Nat → Value) (H : Heap) : wpE tab P slices_Replace_Range_pi slices_Replace_Range_c61 (nQ fun l H => S (l.getD 8 undef) H) ((List.range 224).map x) H = slices_Replace_Range_g123 S (x 12) H := by kernel_rfl
def slices_Replace_Range_g124 (S : Value → Value → Value → Value → Value → Value → Heap → Prop) (x0 x1 x2 x3 x12 : Value) (H : Heap) : Prop :=
  bnd (lenV x3) fun v138 =>
  bnd (binV .int .sub x2 x1) fun v141 =>
  bnd (binV .int .sub v138 v141) fun v142 =>
  S x0 x1 x2 x3 x12 v142 H
theorem slices_Replace_Range_g124_e (S : Value → Value → Value → Value → Value → Value → Heap → Prop) (x : Nat → Value) (H : Heap) : wpE tab P slices_Replace_Range_pi slices_Replace_Range_c63 (nQ fun l H => S (l.getD 0 undef) (l.getD 1 undef) (l.getD 2 undef) (l.getD 3 undef) (l.getD 12 undef) (l.getD 13 undef) H) ((List.range 224).map x) H = slices_Replace_Range_g124 S (x 0) (x 1) (x 2) (x 3) (x 12) H := by kernel_rfl
def slices_Replace_Range_g125 (S : Value → Value → Value → Value → Value → Value → Value → Heap → Prop) (x0 x1 x2 x3 x12 x13 : Value) (H : Heap) : Prop :=
  bnd (sliceV 2 x12 (some x1) (some x2)) fun v146 =>
  EvF P N.slices_overlaps_Range #[v146, x3] H fun v148 H1 =>
  bnd (unV .not v148) fun v149 =>
  S x0 x1 x2 x3 x12 x13 v149 H1
theorem slices_Replace_Range_g125_e (S : Value → Value → Value → Value → Value → Value → Value → Heap → Prop) (x : Nat → Value) (H : Heap) : wpE tab P slices_Replace_Range_pi slices_Replace_Range_c66 (nQ fun l H => S (l.getD 0 undef) (l.getD 1 undef) (l.getD 2 undef) (l.getD 3 undef) (l.getD 12 undef) (l.getD 13 undef) (l.getD 149 undef) H) ((List.range 224).map x) H = slices_Replace_Range_g125 S (x 0) (x 1) (x 2) (x 3) (x 12) (x 13) H := by kernel_rfl
def slices_Replace_Range_g126 (S : Value → Value → Value → Value → Value → Heap → Prop) (x0 x1 x2 x3 x12 x13 : Value) (H : Heap) : Prop :=
  bnd (sliceV 2 x12 (some x1) (some x2)) fun v153 =>
  bnd (sliceV 2 x3 (some x13) none) fun v156 =>
  cpyE 2 v153 v156 H fun _ H1 =>
  S x0 x1 x3 x12 x13 H1
theorem slices_Replace_Range_g126_e (S : Value → Value → Value → Value → Value → Heap → Prop) (x : Nat → Value) (H : Heap) : wpE tab P slices_Replace_Range_pi slices_Replace_Range_c69 (nQ fun l H => S (l.getD 0 undef) (l.getD 1 undef) (l.getD 3 undef) (l.getD 12 undef) (l.getD 13 undef) H) ((List.range 224).map x) H = slices_Replace_Range_g126 S (x 0) (x 1) (x 2) (x 3) (x 12) (x 13) H := by kernel_rfl
def slices_Replace_Range_g127 (S : Value → Value → Value → Heap → Prop) (x0 x1 x3 x12 x13 : Value) (H : Heap) : Prop :=
  bnd (lenV x0) fun v160 =>
  bnd (sliceV 2 x12 (some v160) none) fun v161 =>
  bnd (sliceV 2 x3 none (some x13)) fun v164 =>
  cpyE 2 v161 v164 H fun _ H1 =>
  S x1 x12 x13 H1
theorem slices_Replace_Range_g127_e (S : Value → Value → Value → Heap → Prop) (x : Nat → Value) (H : Heap) : wpE tab P slices_Replace_Range_pi slices_Replace_Range_c71 (nQ fun l H => S (l.getD 1 undef) (l.getD 12 undef) (l.getD 13 undef) H) ((List.range 224).map x) H = slices_Replace_Range_g127 S (x 0) (x 1) (x 3) (x 12) (x 13) H := by kernel_rfl
def slices_Replace_Range_g128 (S : Value → Heap → Prop) (x1 x12 x13 : Value) (H : Heap) : Prop :=
  bnd (sliceV 2 x12 (some x1) none) fun v168 =>
  EvF P N.slices_rotateRight_Range #[v168, x13] H fun _ H1 =>
  S x12 H1
theorem slices_Replace_Range_g128_e (S : Value → Heap → Prop) (x : Nat → Value) (H : Heap) : wpE tab P slices_Replace_Range_pi slices_Replace_Range_c73 (nQ fun l H => S (l.getD 12 undef) H) ((List.range 224).map x) H = slices_Replace_Range_g128 S (x 1) (x 12) (x 13) H := by kernel_rfl
def slices_Replace_Range_g129 (S : Value → Heap → Prop) (x12 : Value) (H : Heap) : Prop :=
  S x12 H
theorem slices_Replace_Range_g129_e (S : Value → Heap → Prop) (x : Nat → Value) (H : Heap) : wpE tab P slices_Replace_Range_pi slices_Replace_Range_c75 (nQ fun l H => S (l.getD 8 undef) H) ((List.range 224).map x) H = slices_Replace_Range_g129 S (x 12) H := by kernel_rfl
def slices_Replace_Range_g130 (S : Value → Value → Value → Value → Value → Value → Value → Heap → Prop) (x0 x1 x2 x3 x12 x13 : Value) (H : Heap) : Prop :=
  bnd (lenV x0) fun v174 =>
  bnd (sliceV 2 x12 (some v174) none) fun v175 =>
  EvF P N.slices_overlaps_Range #[v175, x3] H fun v177 H1 =>
  bnd (unV .not v177) fun v178 =>
  S x0 x1 x2 x3 x12 x13 v178 H1
theorem slices_Replace_Range_g130_e (S : Value → Value → Value → Value → Value → Value → Value → Heap → Prop) (x : Nat → Value) (H : Heap) : wpE tab P slices_Replace_Range_pi slices_Replace_Range_c78 (nQ fun l H => S (l.getD 0 undef) (l.getD 1 undef) (l.getD 2 undef) (l.getD 3 undef) (l.getD 12 undef) (l.getD 13 undef) (l.getD 178 undef) H) ((List.range 224).map x) H = slices_Replace_Range_g130 S (x 0) (x 1) (x 2) (x 3) (x 12) (x 13) H := by kernel_rfl
def slices_Replace_Range_g131 (S : Value → Value → Value → Value → Value → Heap → Prop) (x0 x1 x2 x3 x12 x13 : Value) (H : Heap) : Prop :=
  bnd (lenV x0) fun v181 =>
  bnd (sliceV 2 x12 (some v181) none) fun v182 =>
  bnd (sliceV 2 x3 none (some x13)) fun v185 =>
  cpyE 2 v182 v185 H fun _ H1 =>
  S x1 x2 x3 x12 x13 H1
theorem slices_Replace_Range_g131_e (S : Value → Value → Value → Value → Value → Heap → Prop) (x : Nat → Value) (H : Heap) : wpE tab P slices_Replace_Range_pi slices_Replace_Range_c81 (nQ fun l H => S (l.getD 1 undef) (l.getD 2 undef) (l.getD 3 undef) (l.getD 12 undef) (l.getD 13 undef) H) ((List.range 224).map x) H = slices_Replace_Range_g131 S (x 0) (x 1) (x 2) (x 3) (x 12) (x 13) H := by kernel_rfl
def slices_Replace_Range_g132 (S : Value → Value → Value → Heap → Prop) (x1 x2 x3 x12 x13 : Value) (H : Heap) : Prop :=
  bnd (sliceV 2 x12 (some x1) (some x2)) fun v190 =>
  bnd (sliceV 2 x3 (some x13) none) fun v193 =>
  cpyE 2 v190 v193 H fun _ H1 =>
  S x1 x12 x13 H1
theorem slices_Replace_Range_g132_e (S : Value → Value → Value → Heap → Prop) (x : Nat → Value) (H : Heap) : wpE tab P slices_Replace_Range_pi slices_Replace_Range_c83 (nQ fun l H => S (l.getD 1 undef) (l.getD 12 undef) (l.getD 13 undef) H) ((List.range 224).map x) H = slices_Replace_Range_g132 S (x 1) (x 2) (x 3) (x 12) (x 13) H := by kernel_rfl
def slices_Replace_Range_g133 (S : Value → Heap → Prop) (x1 x12 x13 : Value) (H : Heap) : Prop :=
  bnd (sliceV 2 x12 (some x1) none) fun v197 =>
  EvF P N.slices_rotateRight_Range #[v197, x13] H fun _ H1 =>
  S x12 H1
theorem slices_Replace_Range_g133_e (S : Value → Heap → Prop) (x : Nat → Value) (H : Heap) : wpE tab P slices_Replace_Range_pi slices_Replace_Range_c85 (nQ fun l H => S (l.getD 12 undef) H) ((List.range 224).map x) H = slices_Replace_Range_g133 S (x 1) (x 12) (x 13) H := by kernel_rfl
def slices_Replace_Range_g134 (S : Value → Heap → Prop) (x12 : Value) (H : Heap) : Prop :=
  S x12 H
theorem slices_Replace_Range_g134_e (S : Value → Heap → Prop) (x : Nat → Value) (H : Heap) : wpE tab P slices_Replace_Range_pi slices_Replace_Range_c87 (nQ fun l H => S (l.getD 8 undef) H) ((List.range 224).map x) H = slices_Replace_Range_g134 S (x 12) H := by kernel_rfl
def slices_Replace_Range_g135 (S : Value → Value → Value → Value → Heap → Prop) (x0 x1 x2 x3 x12 : Value) (H : Heap) : Prop :=
  bnd (sliceV 2 x0 (some x2) none) fun v204 =>
  EvF P N.slices_startIdx_Range #[x3, v204] H fun v205 H1 =>
  S x1 x3 x12 v205 H1
theorem slices_Replace_Range_g135_e (S : Value → Value → Value → Value → Heap → Prop) (x : Nat → Value) (H : Heap) : wpE tab P slices_Replace_Range_pi slices_Replace_Range_c89 (nQ fun l H => S (l.getD 1 undef) (l.getD 3 undef) (l.getD 12 undef) (l.getD 14 undef) H) ((List.range 224).map x) H = slices_Replace_Range_g135 S (x 0) (x 1) (x 2) (x 3) (x 12) H := by kernel_rfl
def slices_Replace_Range_g136 (S : Value → Value → Value → Value → Heap → Prop) (x1 x3 x12 x14 : Value) (H : Heap) : Prop :=
  bnd (sliceV 2 x12 (some x1) none) fun v208 =>
  cpyE 2 v208 x3 H fun _ H1 =>
  S x1 x3 x12 x14 H1
theorem slices_Replace_Range_g136_e (S : Value → Value → Value → Value → Heap → Prop) (x : Nat → Value) (H : Heap) : wpE tab P slices_Replace_Range_pi slices_Replace_Range_c91 (nQ fun l H => S (l.getD 1 undef) (l.getD 3 undef) (l.getD 12 undef) (l.getD 14 undef) H) ((List.range 224).map x) H = slices_Replace_Range_g136 S (x 1) (x 3) (x 12) (x 14) H := by kernel_rfl
def slices_Replace_Range_g137 (S : Value → Heap → Prop) (x1 x3 x12 x14 : Value) (H : Heap) : Prop :=
  bnd (lenV x3) fun v214 =>
  bnd (binV .int .add x1 v214) fun v215 =>
  bnd (sliceV 2 x12 (some v215) none) fun v216 =>
  bnd (binV .int .add x1 x14) fun v220 =>
  bnd (sliceV 2 x12 (some v220) none) fun v221 =>
  cpyE 2 v216 v221 H fun _ H1 =>
  S x12 H1
theorem slices_Replace_Range_g137_e (S : Value → Heap → Prop) (x : Nat → Value) (H : Heap) : wpE tab P slices_Replace_Range_pi slices_Replace_Range_c93 (nQ fun l H => S (l.getD 12 undef) H) ((List.range 224).map x) H = slices_Replace_Range_g137 S (x 1) (x 3) (x 12) (x 14) H := by kernel_rfl
def slices_Replace_Range_g138 (S : Value → Heap → Prop) (x12 : Value) (H : Heap) : Prop :=
  S x12 H
theorem slices_Replace_Range_g138_e (S : Value → Heap → Prop) (x : Nat → Value) (H : Heap) : wpE tab P slices_Replace_Range_pi slices_Replace_Range_c95 (nQ fun l H => S (l.getD 8 undef) H) ((List.range 224).map x) H = slices_Replace_Range_g138 S (x 12) H := by kernel_rfl
def slices_Replace_Range (x0 x1 x2 x3 : Value) (R : Value → Heap → Prop) (H : Heap) : Prop :=
  slices_Replace_Range_g96 (fun x0 x1 x2 x3 H => slices_Replace_Range_g97 (fun x0 x1 x2 x3 H => slices_Replace_Range_g98 (fun x0 x1 x2 x3 x21 H => brV x21
  (slices_Replace_Range_g99 (fun x8 H => R x8 H) x0 x1 x3 H)
  (slices_Replace_Range_g100 (fun x0 x1 x2 x3 x29 H => brV x29
  (slices_Replace_Range_g101 (fun x0 x9 H => slices_Replace_Range_g106 (fun x0 x9 x39 H => brV x39
  (slices_Replace_Range_g107 (fun x9 H => slices_Replace_Range_s102 x9 R H) x0 x9 H)
  (slices_Replace_Range_s102 x9 R H)) x0 x9 H) x0 x1 x3 H)
  (slices_Replace_Range_g108 (fun x0 x1 x2 x3 x10 H => slices_Replace_Range_g109 (fun x0 x1 x2 x3 x10 x60 H => brV x60
  (slices_Replace_Range_g110 (fun x0 x1 x2 x3 x11 H => slices_Replace_Range_g111 (fun x0 x1 x2 x3 x11 H => slices_Replace_Range_g112 (fun x11 H => slices_Replace_Range_g113 (fun x8 H => R x8 H) x11 H) x0 x1 x2 x3 x11 H) x0 x1 x2 x3 x11 H) x0 x1 x2 x3 x10 H)
  (slices_Replace_Range_g114 (fun x0 x1 x2 x3 x10 x12 H => slices_Replace_Range_g115 (fun x0 x1 x2 x3 x10 x12 x92 H => brV x92
  (slices_Replace_Range_g116 (fun x0 x1 x2 x3 x10 x12 H => slices_Replace_Range_g117 (fun x0 x10 x12 H => slices_Replace_Range_g118 (fun x12 H => slices_Replace_Range_g119 (fun x8 H => R x8 H) x12 H) x0 x10 x12 H) x0 x1 x2 x3 x10 x12 H) x0 x1 x2 x3 x10 x12 H)
  (slices_Replace_Range_g120 (fun x0 x1 x2 x3 x12 x120 H => brV x120
  (slices_Replace_Range_g121 (fun x1 x3 x12 H => slices_Replace_Range_g122 (fun x12 H => slices_Replace_Range_g123 (fun x8 H => R x8 H) x12 H) x1 x3 x12 H) x0 x1 x2 x3 x12 H)
  (slices_Replace_Range_g124 (fun x0 x1 x2 x3 x12 x13 H => slices_Replace_Range_g125 (fun x0 x1 x2 x3 x12 x13 x149 H => brV x149
  (slices_Replace_Range_g126 (fun x0 x1 x3 x12 x13 H => slices_Replace_Range_g127 (fun x1 x12 x13 H => slices_Replace_Range_g128 (fun x12 H => slices_Replace_Range_g129 (fun x8 H => R x8 H) x12 H) x1 x12 x13 H) x0 x1 x3 x12 x13 H) x0 x1 x2 x3 x12 x13 H)
  (slices_Replace_Range_g130 (fun x0 x1 x2 x3 x12 x13 x178 H => brV x178
  (slices_Replace_Range_g131 (fun x1 x2 x3 x12 x13 H => slices_Replace_Range_g132 (fun x1 x12 x13 H => slices_Replace_Range_g133 (fun x12 H => slices_Replace_Range_g134 (fun x8 H => R x8 H) x12 H) x1 x12 x13 H) x1 x2 x3 x12 x13 H) x0 x1 x2 x3 x12 x13 H)
  (slices_Replace_Range_g135 (fun x1 x3 x12 x14 H => slices_Replace_Range_g136 (fun x1 x3 x12 x14 H => slices_Replace_Range_g137 (fun x12 H => slices_Replace_Range_g138 (fun x8 H => R x8 H) x12 H) x1 x3 x12 x14 H) x1 x3 x12 x14 H) x0 x1 x2 x3 x12 H)) x0 x1 x2 x3 x12 x13 H)) x0 x1 x2 x3 x12 x13 H) x0 x1 x2 x3 x12 H)) x0 x1 x2 x3 x12 H)) x0 x1 x2 x3 x10 x12 H) x0 x1 x2 x3 x10 H)) x0 x1 x2 x3 x10 H) x0 x1 x2 x3 H)) x0 x1 x2 x3 H)) x0 x1 x2 x3 H) x0 x1 x2 x3 H) x0 x1 x2 x3 H
theorem slices_Replace_Range_i (R : Value → Heap → Prop) (x0 x1 x2 x3 : Value) (H : Heap) (h : slices_Replace_Range x0 x1 x2 x3 R H) : wpE tab P slices_Replace_Range_pi slices_Replace_Range_c1 (retQ tab slices_Replace_Range_rs R) [x0, x1, x2, x3, undef, undef, undef, undef, undef, undef, undef, undef, undef, undef, undef, undef, undef, undef, undef, undef, undef, undef, undef, undef, undef, undef, undef, undef, undef, undef, undef, undef, undef, undef, undef, undef, undef, undef, undef, undef, undef, undef, undef, undef, undef, undef, undef, undef, undef, undef, undef, undef, undef, undef, undef, undef, undef, undef, undef, undef, undef, undef, undef, undef, undef, undef, undef, undef, undef, undef, undef, undef, undef, undef, undef, undef, undef, undef, undef, undef, undef, undef, undef, undef, undef, undef, undef, undef, undef, undef, undef, undef, undef, undef, undef, undef, undef, undef, undef, undef, undef, undef, undef, undef, undef, undef, undef, undef, undef, undef, undef, undef, undef, undef, undef, undef, undef, undef, undef, undef, undef, undef, undef, undef, undef, undef, undef, undef, undef, undef, undef, undef, undef, undef, undef, undef, undef, undef, undef, undef, undef, undef, undef, undef, undef, undef, undef, undef, undef, undef, undef, undef, undef, undef, undef, undef, undef, undef, undef, undef, undef, undef, undef, undef, undef, undef, undef, undef, undef, undef, undef, undef, undef, undef, undef, undef, undef, undef, undef, undef, undef, undef, undef, undef, undef, undef, undef, undef, undef, undef, undef, undef, undef, undef, undef, undef, undef, undef, undef, undef, undef, undef, undef, undef, undef, undef, undef, undef, undef, undef, undef, undef, undef, undef, undef, undef, undef, undef, undef, undef, undef, undef, undef, undef] H := by
  obtain ⟨l, hl, el⟩ : ∃ l : List Value, l.length = 224 ∧ l = [x0, x1, x2, x3, undef, undef, undef, undef, undef, undef, undef, undef, undef, undef, undef, undef, undef, undef, undef, undef, undef, undef, undef, undef, undef, undef, undef, undef, undef, undef, undef, undef, undef, undef, undef, undef, undef, undef, undef, undef, undef, undef, undef, undef, undef, undef, undef, undef, undef, undef, undef, undef, undef, undef, undef, undef, undef, undef, undef, undef, undef, undef, undef, undef, undef, undef, undef, undef, undef, undef, undef, undef, undef, undef, undef, undef, undef, undef, undef, undef, undef, undef, undef, undef, undef, undef, undef, undef, undef, undef, undef, undef, undef, undef, undef, undef, undef, undef, undef, undef, undef, undef, undef, undef, undef, undef, undef, undef, undef, undef, undef, undef, undef, undef, undef, undef, undef, undef, undef, undef, undef, undef, undef, undef, undef, undef, undef, undef, undef, undef, undef, undef, undef, undef, undef, undef, undef, undef, undef, undef, undef, undef, undef, undef, undef, undef, undef, undef, undef, undef, undef, undef, undef, undef, undef, undef, undef, undef, undef, undef, undef, undef, undef, undef, undef, undef, undef, undef, undef, undef, undef, undef, undef, undef, undef, undef, undef, undef, undef, undef, undef, undef, undef, undef, undef, undef, undef, undef, undef, undef, undef, undef, undef, undef, undef, undef, undef, undef, undef, undef, undef, undef, undef, undef, undef, undef, undef, undef, undef, undef, undef, undef, undef, undef, undef, undef, undef, undef, undef, undef, undef, undef, undef, undef] := ⟨_, rfl, rfl⟩
  rw [← el]
  have h : (fun (x0 x1 x2 x3 : Value) => slices_Replace_Range_g96 (fun x0 x1 x2 x3 H => slices_Replace_Range_g97 (fun x0 x1 x2 x3 H => slices_Replace_Range_g98 (fun x0 x1 x2 x3 x21 H => brV x21
(slices_Replace_Range_g99 (fun x8 H => R x8 H) x0 x1 x3 H)
(slices_Replace_Range_g100 (fun x0 x1 x2 x3 x29 H => brV x29
(slices_Replace_Range_g101 (fun x0 x9 H => slices_Replace_Range_g106 (fun x0 x9 x39 H => brV x39
(slices_Replace_Range_g107 (fun x9 H => slices_Replace_Range_s102 x9 R H) x0 x9 H)
(slices_Replace_Range_s102 x9 R H)) x0 x9 H) x0 x1 x3 H)
(slices_Replace_Range_g108 (fun x0 x1 x2 x3 x10 H => slices_Replace_Range_g109 (fun x0 x1 x2 x3 x10 x60 H => brV x60
(slices_Replace_Range_g110 (fun x0 x1 x2 x3 x11 H => slices_Replace_Range_g111 (fun x0 x1 x2 x3 x11 H => slices_Replace_Range_g112 (fun x11 H => slices_Replace_Range_g113 (fun x8 H => R x8 H) x11 H) x0 x1 x2 x3 x11 H) x0 x1 x2 x3 x11 H) x0 x1 x2 x3 x10 H)
(slices_Replace_Range_g114 (fun x0 x1 x2 x3 x10 x12 H => slices_Replace_Range_g115 (fun x0 x1 x2 x3 x10 x12 x92 H => brV x92
(slices_Replace_Range_g116 (fun x0 x1 x2 x3 x10 x12 H => slices_Replace_Range_g117 (fun x0 x10 x12 H => slices_Replace_Range_g118 (fun x12 H => slices_Replace_Range_g119 (fun x8 H => R x8 H) x12 H) x0 x10 x12 H) x0 x1 x2 x3 x10 x12 H) x0 x1 x2 x3 x10 x12 H)
(slices_Replace_Range_g120 (fun x0 x1 x2 x3 x12 x120 H => brV x120
(slices_Replace_Range_g121 (fun x1 x3 x12 H => slices_Replace_Range_g122 (fun x12 H => slices_Replace_Range_g123 (fun x8 H => R x8 H) x12 H) x1 x3 x12 H) x0 x1 x2 x3 x12 H)
(slices_Replace_Range_g124 (fun x0 x1 x2 x3 x12 x13 H => slices_Replace_Range_g125 (fun x0 x1 x2 x3 x12 x13 x149 H => brV x149
(slices_Replace_Range_g126 (fun x0 x1 x3 x12 x13 H => slices_Replace_Range_g127 (fun x1 x12 x13 H => slices_Replace_Range_g128 (fun x12 H => slices_Replace_Range_g129 (fun x8 H => R x8 H) x12 H) x1 x12 x13 H) x0 x1 x3 x12 x13 H) x0 x1 x2 x3 x12 x13 H)
(slices_Replace_Range_g130 (fun x0 x1 x2 x3 x12 x13 x178 H => brV x178
(slices_Replace_Range_g131 (fun x1 x2 x3 x12 x13 H => slices_Replace_Range_g132 (fun x1 x12 x13 H => slices_Replace_Range_g133 (fun x12 H => slices_Replace_Range_g134 (fun x8 H => R x8 H) x12 H) x1 x12 x13 H) x1 x2 x3 x12 x13 H) x0 x1 x2 x3 x12 x13 H)
(slices_Replace_Range_g135 (fun x1 x3 x12 x14 H => slices_Replace_Range_g136 (fun x1 x3 x12 x14 H => slices_Replace_Range_g137 (fun x12 H => slices_Replace_Range_g138 (fun x8 H => R x8 H) x12 H) x1 x3 x12 x14 H) x1 x3 x12 x14 H) x0 x1 x2 x3 x12 H)) x0 x1 x2 x3 x12 x13 H)) x0 x1 x2 x3 x12 x13 H) x0 x1 x2 x3 x12 H)) x0 x1 x2 x3 x12 H)) x0 x1 x2 x3 x10 x12 H) x0 x1 x2 x3 x10 H)) x0 x1 x2 x3 x10 H) x0 x1 x2 x3 H)) x0 x1 x2 x3 H)) x0 x1 x2 x3 H) x0 x1 x2 x3 H) x0 x1 x2 x3 H) (l.getD 0 undef) (l.getD 1 undef) (l.getD 2 undef) (l.getD 3 undef) := by rw [el]; exact h
  clear el
  refine seqI (c := slices_Replace_Range_c1) rfl ?_
  refine regI hl (Eq.mpr (slices_Replace_Range_g96_e _ (fun i => l.getD i undef) _) h) ?_
  clear h hl
  intro l H hl h
  refine thenN ?_
  refine seqI (c := slices_Replace_Range_c3) rfl ?_
  refine regI hl (Eq.mpr (slices_Replace_Range_g97_e _ (fun i => l.getD i undef) _) h) ?_
  clear h hl
  intro l H hl h
  refine thenN ?_
  refine seqI (c := slices_Replace_Range_c5) rfl ?_
  refine seqI (c := slices_Replace_Range_c6) rfl ?_
  refine regI hl (Eq.mpr (slices_Replace_Range_g98_e _ (fun i => l.getD i undef) _) h) ?_
  clear h hl
  intro l H hl h
  refine thenN ?_
  refine condI (c := slices_Replace_Range_c8) rfl h ?_ ?_
  · clear h; intro h
    refine seqI (c := slices_Replace_Range_c9) rfl ?_
    refine regI hl (Eq.mpr (slices_Replace_Range_g99_e _ (fun i => l.getD i undef) _) h) ?_
    clear h hl
    intro l H hl h
    refine thenN ?_
    refine retI rfl ?_
    refine thenR ?_
    exact h
  · clear h; intro h
    refine skipI rfl ?_
    refine thenN ?_
    refine seqI (c := slices_Replace_Range_c11) rfl ?_
    refine seqI (c := slices_Replace_Range_c12) rfl ?_
    refine regI hl (Eq.mpr (slices_Replace_Range_g100_e _ (fun i => l.getD i undef) _) h) ?_
    clear h hl
    intro l H hl h
    refine thenN ?_
    refine condI (c := slices_Replace_Range_c14) rfl h ?_ ?_
    · clear h; intro h
      refine seqI (c := slices_Replace_Range_c15) rfl ?_
      refine regI hl (Eq.mpr (slices_Replace_Range_g101_e _ (fun i => l.getD i undef) _) h) ?_
      clear h hl
      intro l H hl h
      refine thenN ?_
      refine seqI (c := slices_Replace_Range_c17) rfl ?_
      refine seqI (c := slices_Replace_Range_c18) rfl ?_
      refine regI hl (Eq.mpr (slices_Replace_Range_g106_e _ (fun i => l.getD i undef) _) h) ?_
      clear h hl
      intro l H hl h
      refine thenN ?_
      refine condI (c := slices_Replace_Range_c20) rfl h ?_ ?_
      · clear h; intro h
        refine regI hl (Eq.mpr (slices_Replace_Range_g107_e _ (fun i => l.getD i undef) _) h) ?_
        clear h hl
        intro l H hl h
        refine thenN ?_
        exact slices_Replace_Range_s102_i R l H hl h
      · clear h; intro h
        refine skipI rfl ?_
        refine thenN ?_
        exact slices_Replace_Range_s102_i R l H hl h
    · clear h; intro h
      refine skipI rfl ?_
      refine thenN ?_
      refine seqI (c := slices_Replace_Range_c24) rfl ?_
      refine regI hl (Eq.mpr (slices_Replace_Range_g108_e _ (fun i => l.getD i undef) _) h) ?_
      clear h hl
      intro l H hl h
      refine thenN ?_
      refine seqI (c := slices_Replace_Range_c26) rfl ?_
      refine seqI (c := slices_Replace_Range_c27) rfl ?_
      refine regI hl (Eq.mpr (slices_Replace_Range_g109_e _ (fun i => l.getD i undef) _) h) ?_
      clear h hl
      intro l H hl h
      refine thenN ?_
      refine condI (c := slices_Replace_Range_c29) rfl h ?_ ?_
      · clear h; intro h
        refine seqI (c := slices_Replace_Range_c30) rfl ?_
        refine regI hl (Eq.mpr (slices_Replace_Range_g110_e _ (fun i => l.getD i undef) _) h) ?_
        clear h hl
        intro l H hl h
        refine thenN ?_
        refine seqI (c := slices_Replace_Range_c32) rfl ?_
        refine regI hl (Eq.mpr (slices_Replace_Range_g111_e _ (fun i => l.getD i undef) _) h) ?_
        clear h hl
        intro l H hl h
        refine thenN ?_
        refine seqI (c := slices_Replace_Range_c34) rfl ?_
        refine regI hl (Eq.mpr (slices_Replace_Range_g112_e _ (fun i => l.getD i undef) _) h) ?_
        clear h hl
        intro l H hl h
        refine thenN ?_
        refine seqI (c := slices_Replace_Range_c36) rfl ?_
        refine regI hl (Eq.mpr (slices_Replace_Range_g113_e _ (fun i => l.getD i undef) _) h) ?_
        clear h hl
        intro l H hl h
        refine thenN ?_
        refine retI rfl ?_
        refine thenR ?_
        exact h
      · clear h; intro h
        refine skipI rfl ?_
        refine thenN ?_
        refine seqI (c := slices_Replace_Range_c38) rfl ?_
        refine regI hl (Eq.mpr (slices_Replace_Range_g114_e _ (fun i => l.getD i undef) _) h) ?_
        clear h hl
        intro l H hl h
        refine thenN ?_
        refine seqI (c := slices_Replace_Range_c40) rfl ?_
        refine seqI (c := slices_Replace_Range_c41) rfl ?_
        refine regI hl (Eq.mpr (slices_Replace_Range_g115_e _ (fun i => l.getD i undef) _) h) ?_
        clear h hl
        intro l H hl h
        refine thenN ?_
        refine condI (c := slices_Replace_Range_c43) rfl h ?_ ?_
        · clear h; intro h
          refine seqI (c := slices_Replace_Range_c44) rfl ?_
          refine regI hl (Eq.mpr (slices_Replace_Range_g116_e _ (fun i => l.getD i undef) _) h) ?_
          clear h hl
          intro l H hl h
          refine thenN ?_
          refine seqI (c := slices_Replace_Range_c46) rfl ?_
          refine regI hl (Eq.mpr (slices_Replace_Range_g117_e _ (fun i => l.getD i undef) _) h) ?_
          clear h hl
          intro l H hl h
          refine thenN ?_
          refine seqI (c := slices_Replace_Range_c48) rfl ?_
          refine regI hl (Eq.mpr (slices_Replace_Range_g118_e _ (fun i => l.getD i undef) _) h) ?_
          clear h hl
          intro l H hl h
          refine thenN ?_
          refine seqI (c := slices_Replace_Range_c50) rfl ?_
          refine regI hl (Eq.mpr (slices_Replace_Range_g119_e _ (fun i => l.getD i undef) _) h) ?_
          clear h hl
          intro l H hl h
          refine thenN ?_
          refine retI rfl ?_
          refine thenR ?_
          exact h
        · clear h; intro h
          refine skipI rfl ?_
          refine thenN ?_
          refine seqI (c := slices_Replace_Range_c52) rfl ?_
          refine seqI (c := slices_Replace_Range_c53) rfl ?_
          refine regI hl (Eq.mpr (slices_Replace_Range_g120_e _ (fun i => l.getD i undef) _) h) ?_
          clear h hl
          intro l H hl h
          refine thenN ?_
          refine condI (c := slices_Replace_Range_c55) rfl h ?_ ?_
          · clear h; intro h
            refine seqI (c := slices_Replace_Range_c56) rfl ?_
            refine regI hl (Eq.mpr (slices_Replace_Range_g121_e _ (fun i => l.getD i undef) _) h) ?_
            clear h hl
            intro l H hl h
            refine thenN ?_
            refine seqI (c := slices_Replace_Range_c58) rfl ?_
            refine regI hl (Eq.mpr (slices_Replace_Range_g122_e _ (fun i => l.getD i undef) _) h) ?_
            clear h hl
            intro l H hl h
            refine thenN ?_
            refine seqI (c := slices_Replace_Range_c60) rfl ?_
            refine regI hl (Eq.mpr (slices_Replace_Range_g123_e _ (fun i => l.getD i undef) _) h) ?_
            clear h hl
            intro l H hl h
            refine thenN ?_
            refine retI rfl ?_
            refine thenR ?_
            exact h
          · clear h; intro h
            refine skipI rfl ?_
            refine thenN ?_
            refine seqI (c := slices_Replace_Range_c62) rfl ?_
            refine regI hl (Eq.mpr (slices_Replace_Range_g124_e _ (fun i => l.getD i undef) _) h) ?_
            clear h hl
            intro l H hl h
            refine thenN ?_
            refine seqI (c := slices_Replace_Range_c64) rfl ?_
            refine seqI (c := slices_Replace_Range_c65) rfl ?_
            refine regI hl (Eq.mpr (slices_Replace_Range_g125_e _ (fun i => l.getD i undef) _) h) ?_
            clear h hl
            intro l H hl h
            refine thenN ?_
            refine condI (c := slices_Replace_Range_c67) rfl h ?_ ?_
            · clear h; intro h
              refine seqI (c := slices_Replace_Range_c68) rfl ?_
              refine regI hl (Eq.mpr (slices_Replace_Range_g126_e _ (fun i => l.getD i undef) _) h) ?_
              clear h hl
              intro l H hl h
              refine thenN ?_
              refine seqI (c := slices_Replace_Range_c70) rfl ?_
              refine regI hl (Eq.mpr (slices_Replace_Range_g127_e _ (fun i => l.getD i undef) _) h) ?_
              clear h hl
              intro l H hl h
              refine thenN ?_
              refine seqI (c := slices_Replace_Range_c72) rfl ?_
              refine regI hl (Eq.mpr (slices_Replace_Range_g128_e _ (fun i => l.getD i undef) _) h) ?_
              clear h hl
              intro l H hl h
              refine thenN ?_
              refine seqI (c := slices_Replace_Range_c74) rfl ?_
              refine regI hl (Eq.mpr (slices_Replace_Range_g129_e _ (fun i => l.getD i undef) _) h) ?_
              clear h hl
              intro l H hl h
              refine thenN ?_
              refine retI rfl ?_
              refine thenR ?_
              exact h
            · clear h; intro h
              refine skipI rfl ?_
              refine thenN ?_
              refine seqI (c := slices_Replace_Range_c76) rfl ?_
              refine seqI (c := slices_Replace_Range_c77) rfl ?_
              refine regI hl (Eq.mpr (slices_Replace_Range_g130_e _ (fun i => l.getD i undef) _) h) ?_
              clear h hl
              intro l H hl h
              refine thenN ?_
              refine condI (c := slices_Replace_Range_c79) rfl h ?_ ?_
              · clear h; intro h
                refine seqI (c := slices_Replace_Range_c80) rfl ?_
                refine regI hl (Eq.mpr (slices_Replace_Range_g131_e _ (fun i => l.getD i undef) _) h) ?_
                clear h hl
                intro l H hl h
                refine thenN ?_
                refine seqI (c := slices_Replace_Range_c82) rfl ?_
                refine regI hl (Eq.mpr (slices_Replace_Range_g132_e _ (fun i => l.getD i undef) _) h) ?_
                clear h hl
                intro l H hl h
                refine thenN ?_
                refine seqI (c := slices_Replace_Range_c84) rfl ?_
                refine regI hl (Eq.mpr (slices_Replace_Range_g133_e _ (fun i => l.getD i undef) _) h) ?_
                clear h hl
                intro l H hl h
                refine thenN ?_
                refine seqI (c := slices_Replace_Range_c86) rfl ?_
                refine regI hl (Eq.mpr (slices_Replace_Range_g134_e _ (fun i => l.getD i undef) _) h) ?_
                clear h hl
                intro l H hl h
                refine thenN ?_
                refine retI rfl ?_
                refine thenR ?_
                exact h
              · clear h; intro h
                refine skipI rfl ?_
                refine thenN ?_
                refine seqI (c := slices_Replace_Range_c88) rfl ?_
                refine regI hl (Eq.mpr (slices_Replace_Range_g135_e _ (fun i => l.getD i undef) _) h) ?_
                clear h hl
                intro l H hl h
                refine thenN ?_
                refine seqI (c := slices_Replace_Range_c90) rfl ?_
                refine regI hl (Eq.mpr (slices_Replace_Range_g136_e _ (fun i => l.getD i undef) _) h) ?_
                clear h hl
                intro l H hl h
                refine thenN ?_
                refine seqI (c := slices_Replace_Range_c92) rfl ?_
                refine regI hl (Eq.mpr (slices_Replace_Range_g137_e _ (fun i => l.getD i undef) _) h) ?_
                clear h hl
                intro l H hl h
                refine thenN ?_
                refine seqI (c := slices_Replace_Range_c94) rfl ?_
                refine regI hl (Eq.mpr (slices_Replace_Range_g138_e _ (fun i => l.getD i undef) _) h) ?_
                clear h hl
                intro l H hl h
                refine thenN ?_
                refine retI rfl ?_
                exact h
theorem slices_Replace_Range_ok : okB slices_Replace_Range_pi slices_Replace_Range_c1 = true := by kernel_rfl
theorem slices_Replace_Range_ev0 (x0 x1 x2 x3 : Value) (R : Value → Heap → Prop) (H : Heap) (h : slices_Replace_Range x0 x1 x2 x3 R H) : EvL P N.slices_Replace_Range #[x0, x1, x2, x3] H R :=
  EvF_intro (args := [x0, x1, x2, x3]) (k := 220) (rs := slices_Replace_Range_rs) tab_ok mixed Try.func38 (show Try.f38.body = some slices_Replace_Range_c1 by kernel_rfl) Try.call38 Try.ntmps38 (by kernel_rfl) (okCode_of _ slices_Replace_Range_ok) rfl (slices_Replace_Range_i R x0 x1 x2 x3 H h)
theorem slices_Replace_Range_ev (x0 x1 x2 x3 : Value) (R : Value → Heap → Prop) (H : Heap) (h : slices_Replace_Range x0 x1 x2 x3 R H) : EvF P N.slices_Replace_Range #[x0, x1, x2, x3] H R := .inl (slices_Replace_Range_ev0 x0 x1 x2 x3 R H h)
/- 39: sounder/loss.Check$1 -/
def loss_Check_1_rs : List ResultVar := [.tmp 3]
noncomputable def loss_Check_1_c2 : Code := subC (bodyC Try.f39) [0]
noncomputable def loss_Check_1_c4 : Code := subC (bodyC Try.f39) [1, 0]
noncomputable def loss_Check_1_c6 : Code := subC (bodyC Try.f39) [1, 1, 0]
noncomputable def loss_Check_1_c8 : Code := subC (bodyC Try.f39) [1, 1, 1, 0]
noncomputable def loss_Check_1_c7 : Code := .seq loss_Check_1_c8 Code.ret
noncomputable def loss_Check_1_c5 : Code := .seq loss_Check_1_c6 loss_Check_1_c7
noncomputable def loss_Check_1_c3 : Code := .seq loss_Check_1_c4 loss_Check_1_c5
noncomputable def loss_Check_1_c1 : Code := .seq loss_Check_1_c2 loss_Check_1_c3
def loss_Check_1_pi (_ : Nat) : Pl := .nil
def loss_Check_1_g9 (S : Value → Value → Heap → Prop) (x0 x1 : Value) (H : Heap) : Prop :=
  newE 38 (Value.cells x0) H fun v2 H1 =>
  S x1 v2 H1
theorem loss_Check_1_g9_e (S : Value → Value → Heap → Prop) (x : Nat → Value) (H : Heap) : wpE tab P loss_Check_1_pi loss_Check_1_c2 (nQ fun l H => S (l.getD 1 undef) (l.getD 2 undef) H) ((List.range 33).map x) H = loss_Check_1_g9 S (x 0) (x 1) H := by kernel_rfl
def loss_Check_1_g10 (S : Value → Value → Value → Heap → Prop) (x1 x2 : Value) (H : Heap) : Prop :=
  bnd (faV 0 x2) fun v5 =>
  bnd (ldE false 1 v5 H) fun v6 =>
  bnd (ldE false 1 x1 H) fun v7 =>
  bnd (binV .int .leq v6 v7) fun v8 =>
  brV v8
  (S x1 x2 (.bool true) H)
  (bnd (faV 0 x2) fun v10 =>
  bnd (ldE false 1 v10 H) fun v11 =>
  bnd (binV .int .gtr v11 (.int .i64 9007199254740991)) fun v12 =>
  brV v12
  (S x1 x2 (.bool true) H)
  (bnd (faV 1 x2) fun v15 =>
  bnd (ldE false 1 v15 H) fun v16 =>
  EvF P N.loss_isTime #[v16] H fun v17 H1 =>
  bnd (unV .not v17) fun v18 =>
  brV v18
  (S x1 x2 (.bool true) H1)
  (bnd (faV 2 x2) fun v21 =>
  bnd (ldE false 1 v21 H1) fun v22 =>
  bnd (binV .int .lss v22 (.int .i64 1)) fun v23 =>
  brV v23
  (S x1 x2 (.bool true) H1)
  (bnd (faV 2 x2) fun v26 =>
  bnd (ldE false 1 v26 H1) fun v27 =>
  bnd (binV .int .gtr v27 (.int .i64 65535)) fun v28 =>
  S x1 x2 v28 H1))))
theorem loss_Check_1_g10_e (S : Value → Value → Value → Heap → Prop) (x : Nat → Value) (H : Heap) : wpE tab P loss_Check_1_pi loss_Check_1_c4 (nQ fun l H => S (l.getD 1 undef) (l.getD 2 undef) (l.getD 4 undef) H) ((List.range 33).map x) H = loss_Check_1_g10 S (x 1) (x 2) H := by kernel_rfl
def loss_Check_1_g11 (S : Value → Heap → Prop) (x1 x2 x4 : Value) (H : Heap) : Prop :=
  bnd (faV 0 x2) fun v30 =>
  bnd (ldE false 1 v30 H) fun v31 =>
  bnd (stE 1 x1 v31 H) fun H1 =>
  S x4 H1
theorem loss_Check_1_g11_e (S : Value → Heap → Prop) (x : Nat → Value) (H : Heap) : wpE tab P loss_Check_1_pi loss_Check_1_c6 (nQ fun l H => S (l.getD 4 undef) H) ((List.range 33).map x) H = loss_Check_1_g11 S (x 1) (x 2) (x 4) H := by kernel_rfl
def loss_Check_1_g12 (S : Value → Heap → Prop) (x4 : Value) (H : Heap) : Prop :=
  S x4 H
theorem loss_Check_1_g12_e (S : Value → Heap → Prop) (x : Nat → Value) (H : Heap) : wpE tab P loss_Check_1_pi loss_Check_1_c8 (nQ fun l H => S (l.getD 3 undef) H) ((List.range 33).map x) H = loss_Check_1_g12 S (x 4) H := by kernel_rfl
def loss_Check_1 (x0 x1 : Value) (R : Value → Heap → Prop) (H : Heap) : Prop :=
  loss_Check_1_g9 (fun x1 x2 H => loss_Check_1_g10 (fun x1 x2 x4 H => loss_Check_1_g11 (fun x4 H => loss_Check_1_g12 (fun x3 H => R x3 H) x4 H) x1 x2 x4 H) x1 x2 H) x0 x1 H
theorem loss_Check_1_i (R : Value → Heap → Prop) (x0 x1 : Value) (H : Heap) (h : loss_Check_1 x0 x1 R H) : wpE tab P loss_Check_1_pi loss_Check_1_c1 (retQ tab loss_Check_1_rs R) [x0, x1, undef, undef, undef, undef, undef, undef, undef, undef, undef, undef, undef, undef, undef, undef, undef, undef, undef, undef, undef, undef, undef, undef, undef, undef, undef, undef, undef, undef, undef, undef, undef] H := by
  obtain ⟨l, hl, el⟩ : ∃ l : List Value, l.length = 33 ∧ l = [x0, x1, undef, undef, undef, undef, undef, undef, undef, undef, undef, undef, undef, undef, undef, undef, undef, undef, undef, undef, undef, undef, undef, undef, undef, undef, undef, undef, undef, undef, undef, undef, undef] := ⟨_, rfl, rfl⟩
  rw [← el]
  have h : (fun (x0 x1 : Value) => loss_Check_1_g9 (fun x1 x2 H => loss_Check_1_g10 (fun x1 x2 x4 H => loss_Check_1_g11 (fun x4 H => loss_Check_1_g12 (fun x3 H => R x3 H) x4 H) x1 x2 x4 H) x1 x2 H) x0 x1 H) (l.getD 0 undef) (l.getD 1 undef) := by rw [el]; exact h
  clear el
  refine seqI (c := loss_Check_1_c1) rfl ?_
  refine regI hl (Eq.mpr (loss_Check_1_g9_e _ (fun i => l.getD i undef) _) h) ?_
  clear h hl
  intro l H hl h
  refine thenN ?_
  refine seqI (c := loss_Check_1_c3) rfl ?_
  refine regI hl (Eq.mpr (loss_Check_1_g10_e _ (fun i => l.getD i undef) _) h) ?_
  clear h hl
  intro l H hl h
  refine thenN ?_
  refine seqI (c := loss_Check_1_c5) rfl ?_
  refine regI hl (Eq.mpr (loss_Check_1_g11_e _ (fun i => l.getD i undef) _) h) ?_
  clear h hl
  intro l H hl h
  refine thenN ?_
  refine seqI (c := loss_Check_1_c7) rfl ?_
  refine regI hl (Eq.mpr (loss_Check_1_g12_e _ (fun i => l.getD i undef) _) h) ?_
  clear h hl
  intro l H hl h
  refine thenN ?_
  refine retI rfl ?_
  exact h
theorem loss_Check_1_ok : okB loss_Check_1_pi loss_Check_1_c1 = true := by kernel_rfl
theorem loss_Check_1_ev0 (x0 x1 : Value) (R : Value → Heap → Prop) (H : Heap) (h : loss_Check_1 x0 x1 R H) : EvL P N.loss_Check_1 #[x0, x1] H R :=
  EvF_intro (args := [x0, x1]) (k := 31) (rs := loss_Check_1_rs) tab_ok mixed Try.func39 (show Try.f39.body = some loss_Check_1_c1 by kernel_rfl) Try.call39 Try.ntmps39 (by kernel_rfl) (okCode_of _ loss_Check_1_ok) rfl (loss_Check_1_i R x0 x1 H h)
theorem loss_Check_1_ev (x0 x1 : Value) (R : Value → Heap → Prop) (H : Heap) (h : loss_Check_1 x0 x1 R H) : EvF P N.loss_Check_1 #[x0, x1] H R := .inl (loss_Check_1_ev0 x0 x1 R H h)
/- 40: sounder/loss.isTime -/
def loss_isTime_rs : List ResultVar := [.tmp 2]
noncomputable def loss_isTime_c2 : Code := subC (bodyC Try.f40) [0]
noncomputable def loss_isTime_c4 : Code := subC (bodyC Try.f40) [1, 0]
noncomputable def loss_isTime_c3 : Code := .seq loss_isTime_c4 Code.ret
noncomputable def loss_isTime_c1 : Code := .seq loss_isTime_c2 loss_isTime_c3
def loss_isTime_pi (_ : Nat) : Pl := .nil
def loss_isTime_g5 (S : Value → Heap → Prop) (x0 : Value) (H : Heap) : Prop :=
  S x0 H
theorem loss_isTime_g5_e (S : Value → Heap → Prop) (x : Nat → Value) (H : Heap) : wpE tab P loss_isTime_pi loss_isTime_c2 (nQ fun l H => S (l.getD 0 undef) H) ((List.range 9).map x) H = loss_isTime_g5 S (x 0) H := by kernel_rfl
def loss_isTime_g6 (S : Value → Heap → Prop) (x0 : Value) (H : Heap) : Prop :=
  bnd (binV .int .geq x0 (.int .i64 0)) fun v4 =>
  brV v4
  (bnd (binV .int .leq x0 (.int .i64 9007199254740991)) fun v7 =>
  S v7 H)
  (S (.bool false) H)
theorem loss_isTime_g6_e (S : Value → Heap → Prop) (x : Nat → Value) (H : Heap) : wpE tab P loss_isTime_pi loss_isTime_c4 (nQ fun l H => S (l.getD 2 undef) H) ((List.range 9).map x) H = loss_isTime_g6 S (x 0) H := by kernel_rfl
def loss_isTime (x0 : Value) (R : Value → Heap → Prop) (H : Heap) : Prop :=
  loss_isTime_g5 (fun x0 H => loss_isTime_g6 (fun x2 H => R x2 H) x0 H) x0 H
theorem loss_isTime_i (R : Value → Heap → Prop) (x0 : Value) (H : Heap) (h : loss_isTime x0 R H) : wpE tab P loss_isTime_pi loss_isTime_c1 (retQ tab loss_isTime_rs R) [x0, undef, undef, undef, undef, undef, undef, undef, undef] H := by
  obtain ⟨l, hl, el⟩ : ∃ l : List Value, l.length = 9 ∧ l = [x0, undef, undef, undef, undef, undef, undef, undef, undef] := ⟨_, rfl, rfl⟩
  rw [← el]
  have h : (fun (x0 : Value) => loss_isTime_g5 (fun x0 H => loss_isTime_g6 (fun x2 H => R x2 H) x0 H) x0 H) (l.getD 0 undef) := by rw [el]; exact h
  clear el
  refine seqI (c := loss_isTime_c1) rfl ?_
  refine regI hl (Eq.mpr (loss_isTime_g5_e _ (fun i => l.getD i undef) _) h) ?_
  clear h hl
  intro l H hl h
  refine thenN ?_
  refine seqI (c := loss_isTime_c3) rfl ?_
  refine regI hl (Eq.mpr (loss_isTime_g6_e _ (fun i => l.getD i undef) _) h) ?_
  clear h hl
  intro l H hl h
  refine thenN ?_
  refine retI rfl ?_
  exact h
theorem loss_isTime_ok : okB loss_isTime_pi loss_isTime_c1 = true := by kernel_rfl
theorem loss_isTime_ev0 (x0 : Value) (R : Value → Heap → Prop) (H : Heap) (h : loss_isTime x0 R H) : EvL P N.loss_isTime #[x0] H R :=
  EvF_intro (args := [x0]) (k := 8) (rs := loss_isTime_rs) tab_ok mixed Try.func40 (show Try.f40.body = some loss_isTime_c1 by kernel_rfl) Try.call40 Try.ntmps40 (by kernel_rfl) (okCode_of _ loss_isTime_ok) rfl (loss_isTime_i R x0 H h)
theorem loss_isTime_ev (x0 : Value) (R : Value → Heap → Prop) (H : Heap) (h : loss_isTime x0 R H) : EvF P N.loss_isTime #[x0] H R := .inl (loss_isTime_ev0 x0 R H h)
/- 41: slices.ContainsFunc[[]sounder/api.Packet,sounder/api.Packet] -/
def slices_ContainsFunc_Packet_rs : List ResultVar := [.tmp 4]
noncomputable def slices_ContainsFunc_Packet_c2 : Code := subC (bodyC Try.f41) [0]
noncomputable def slices_ContainsFunc_Packet_c4 : Code := subC (bodyC Try.f41) [1, 0]
noncomputable def slices_ContainsFunc_Packet_c3 : Code := .seq slices_ContainsFunc_Packet_c4 Code.ret
noncomputable def slices_ContainsFunc_Packet_c1 : Code := .seq slices_ContainsFunc_Packet_c2 slices_ContainsFunc_Packet_c3
def slices_ContainsFunc_Packet_pi (_ : Nat) : Pl := .nil
def slices_ContainsFunc_Packet_g5 (S : Value → Value → Heap → Prop) (x0 x1 : Value) (H : Heap) : Prop :=
  S x0 x1 H
theorem slices_ContainsFunc_Packet_g5_e (S : Value → Value → Heap → Prop) (x : Nat → Value) (H : Heap) : wpE tab P slices_ContainsFunc_Packet_pi slices_ContainsFunc_Packet_c2 (nQ fun l H => S (l.getD 0 undef) (l.getD 1 undef) H) ((List.range 9).map x) H = slices_ContainsFunc_Packet_g5 S (x 0) (x 1) H := by kernel_rfl
def slices_ContainsFunc_Packet_g6 (S : Value → Heap → Prop) (x0 x1 : Value) (H : Heap) : Prop :=
  EvF P N.slices_IndexFunc_Packet #[x0, x1] H fun v7 H1 =>
  bnd (binV .int .geq v7 (.int .i64 0)) fun v8 =>
  S v8 H1
theorem slices_ContainsFunc_Packet_g6_e (S : Value → Heap → Prop) (x : Nat → Value) (H : Heap) : wpE tab P slices_ContainsFunc_Packet_pi slices_ContainsFunc_Packet_c4 (nQ fun l H => S (l.getD 4 undef) H) ((List.range 9).map x) H = slices_ContainsFunc_Packet_g6 S (x 0) (x 1) H := by kernel_rfl
def slices_ContainsFunc_Packet (x0 x1 : Value) (R : Value → Heap → Prop) (H : Heap) : Prop :=
  slices_ContainsFunc_Packet_g5 (fun x0 x1 H => slices_ContainsFunc_Packet_g6 (fun x4 H => R x4 H) x0 x1 H) x0 x1 H
theorem slices_ContainsFunc_Packet_i (R : Value → Heap → Prop) (x0 x1 : Value) (H : Heap) (h : slices_ContainsFunc_Packet x0 x1 R H) : wpE tab P slices_ContainsFunc_Packet_pi slices_ContainsFunc_Packet_c1 (retQ tab slices_ContainsFunc_Packet_rs R) [x0, x1, undef, undef, undef, undef, undef, undef, undef] H := by
  obtain ⟨l, hl, el⟩ : ∃ l : List Value, l.length = 9 ∧ l = [x0, x1, undef, undef, undef, undef, undef, undef, undef] := ⟨_, rfl, rfl⟩
  rw [← el]
  have h : (fun (x0 x1 : Value) => slices_ContainsFunc_Packet_g5 (fun x0 x1 H => slices_ContainsFunc_Packet_g6 (fun x4 H => R x4 H) x0 x1 H) x0 x1 H) (l.getD 0 undef) (l.getD 1 undef) := by rw [el]; exact h
  clear el
  refine seqI (c := slices_ContainsFunc_Packet_c1) rfl ?_
  refine regI hl (Eq.mpr (slices_ContainsFunc_Packet_g5_e _ (fun i => l.getD i undef) _) h) ?_
  clear h hl
  intro l H hl h
  refine thenN ?_
  refine seqI (c := slices_ContainsFunc_Packet_c3) rfl ?_
  refine regI hl (Eq.mpr (slices_ContainsFunc_Packet_g6_e _ (fun i => l.getD i undef) _) h) ?_
  clear h hl
  intro l H hl h
  refine thenN ?_
  refine retI rfl ?_
  exact h
theorem slices_ContainsFunc_Packet_ok : okB slices_ContainsFunc_Packet_pi slices_ContainsFunc_Packet_c1 = true := by kernel_rfl
theorem slices_ContainsFunc_Packet_ev0 (x0 x1 : Value) (R : Value → Heap → Prop) (H : Heap) (h : slices_ContainsFunc_Packet x0 x1 R H) : EvL P N.slices_ContainsFunc_Packet #[x0, x1] H R :=
  EvF_intro (args := [x0, x1]) (k := 7) (rs := slices_ContainsFunc_Packet_rs) tab_ok mixed Try.func41 (show Try.f41.body = some slices_ContainsFunc_Packet_c1 by kernel_rfl) Try.call41 Try.ntmps41 (by kernel_rfl) (okCode_of _ slices_ContainsFunc_Packet_ok) rfl (slices_ContainsFunc_Packet_i R x0 x1 H h)
theorem slices_ContainsFunc_Packet_ev (x0 x1 : Value) (R : Value → Heap → Prop) (H : Heap) (h : slices_ContainsFunc_Packet x0 x1 R H) : EvF P N.slices_ContainsFunc_Packet #[x0, x1] H R := .inl (slices_ContainsFunc_Packet_ev0 x0 x1 R H h)
/- 42: sounder/sat.Num -/
def sat_Num_rs : List ResultVar := [.tmp 2]
noncomputable def sat_Num_c2 : Code := subC (bodyC Try.f42) [0]
noncomputable def sat_Num_c4 : Code := subC (bodyC Try.f42) [1, 0]
noncomputable def sat_Num_c3 : Code := .seq sat_Num_c4 Code.ret
noncomputable def sat_Num_c1 : Code := .seq sat_Num_c2 sat_Num_c3
def sat_Num_pi (_ : Nat) : Pl := .nil
def sat_Num_g5 (S : Value → Heap → Prop) (x0 : Value) (H : Heap) : Prop :=
  S x0 H
theorem sat_Num_g5_e (S : Value → Heap → Prop) (x : Nat → Value) (H : Heap) : wpE tab P sat_Num_pi sat_Num_c2 (nQ fun l H => S (l.getD 0 undef) H) ((List.range 5).map x) H = sat_Num_g5 S (x 0) H := by kernel_rfl
def sat_Num_g6 (S : Value → Heap → Prop) (x0 : Value) (H : Heap) : Prop :=
  EvF P N.sat_clamp_int #[x0, (.int .i64 0), (.int .i64 9007199254740991)] H fun v4 H1 =>
  S v4 H1
theorem sat_Num_g6_e (S : Value → Heap → Prop) (x : Nat → Value) (H : Heap) : wpE tab P sat_Num_pi sat_Num_c4 (nQ fun l H => S (l.getD 2 undef) H) ((List.range 5).map x) H = sat_Num_g6 S (x 0) H := by kernel_rfl
def sat_Num (x0 : Value) (R : Value → Heap → Prop) (H : Heap) : Prop :=
  sat_Num_g5 (fun x0 H => sat_Num_g6 (fun x2 H => R x2 H) x0 H) x0 H
theorem sat_Num_i (R : Value → Heap → Prop) (x0 : Value) (H : Heap) (h : sat_Num x0 R H) : wpE tab P sat_Num_pi sat_Num_c1 (retQ tab sat_Num_rs R) [x0, undef, undef, undef, undef] H := by
  obtain ⟨l, hl, el⟩ : ∃ l : List Value, l.length = 5 ∧ l = [x0, undef, undef, undef, undef] := ⟨_, rfl, rfl⟩
  rw [← el]
  have h : (fun (x0 : Value) => sat_Num_g5 (fun x0 H => sat_Num_g6 (fun x2 H => R x2 H) x0 H) x0 H) (l.getD 0 undef) := by rw [el]; exact h
  clear el
  refine seqI (c := sat_Num_c1) rfl ?_
  refine regI hl (Eq.mpr (sat_Num_g5_e _ (fun i => l.getD i undef) _) h) ?_
  clear h hl
  intro l H hl h
  refine thenN ?_
  refine seqI (c := sat_Num_c3) rfl ?_
  refine regI hl (Eq.mpr (sat_Num_g6_e _ (fun i => l.getD i undef) _) h) ?_
  clear h hl
  intro l H hl h
  refine thenN ?_
  refine retI rfl ?_
  exact h
theorem sat_Num_ok : okB sat_Num_pi sat_Num_c1 = true := by kernel_rfl
theorem sat_Num_ev0 (x0 : Value) (R : Value → Heap → Prop) (H : Heap) (h : sat_Num x0 R H) : EvL P N.sat_Num #[x0] H R :=
  EvF_intro (args := [x0]) (k := 4) (rs := sat_Num_rs) tab_ok mixed Try.func42 (show Try.f42.body = some sat_Num_c1 by kernel_rfl) Try.call42 Try.ntmps42 (by kernel_rfl) (okCode_of _ sat_Num_ok) rfl (sat_Num_i R x0 H h)
theorem sat_Num_ev (x0 : Value) (R : Value → Heap → Prop) (H : Heap) (h : sat_Num x0 R H) : EvF P N.sat_Num #[x0] H R := .inl (sat_Num_ev0 x0 R H h)
/- 43: sounder/persist.pairs$1 -/
def persist_pairs_1_rs : List ResultVar := [.tmp 3]
noncomputable def persist_pairs_1_c2 : Code := subC (bodyC Try.f43) [0]
noncomputable def persist_pairs_1_c4 : Code := subC (bodyC Try.f43) [1, 0]
noncomputable def persist_pairs_1_c3 : Code := .seq persist_pairs_1_c4 Code.ret
noncomputable def persist_pairs_1_c1 : Code := .seq persist_pairs_1_c2 persist_pairs_1_c3
def persist_pairs_1_pi (_ : Nat) : Pl := .nil
def persist_pairs_1_g5 (S : Value → Value → Heap → Prop) (x0 x1 : Value) (H : Heap) : Prop :=
  newE 38 (Value.cells x0) H fun v2 H1 =>
  S x1 v2 H1
theorem persist_pairs_1_g5_e (S : Value → Value → Heap → Prop) (x : Nat → Value) (H : Heap) : wpE tab P persist_pairs_1_pi persist_pairs_1_c2 (nQ fun l H => S (l.getD 1 undef) (l.getD 2 undef) H) ((List.range 12).map x) H = persist_pairs_1_g5 S (x 0) (x 1) H := by kernel_rfl
def persist_pairs_1_g6 (S : Value → Heap → Prop) (x1 x2 : Value) (H : Heap) : Prop :=
  bnd (faV 3 x2) fun v4 =>
  bnd (ldE false 1 v4 H) fun v5 =>
  brV v5
  (bnd (faV 1 x2) fun v7 =>
  bnd (ldE false 1 v7 H) fun v8 =>
  bnd (ldE false 1 x1 H) fun v9 =>
  bnd (binV .int .gtr v8 v9) fun v10 =>
  S v10 H)
  (S (.bool false) H)
theorem persist_pairs_1_g6_e (S : Value → Heap → Prop) (x : Nat → Value) (H : Heap) : wpE tab P persist_pairs_1_pi persist_pairs_1_c4 (nQ fun l H => S (l.getD 3 undef) H) ((List.range 12).map x) H = persist_pairs_1_g6 S (x 1) (x 2) H := by kernel_rfl
def persist_pairs_1 (x0 x1 : Value) (R : Value → Heap → Prop) (H : Heap) : Prop :=
  persist_pairs_1_g5 (fun x1 x2 H => persist_pairs_1_g6 (fun x3 H => R x3 H) x1 x2 H) x0 x1 H
theorem persist_pairs_1_i (R : Value → Heap → Prop) (x0 x1 : Value) (H : Heap) (h : persist_pairs_1 x0 x1 R H) : wpE tab P persist_pairs_1_pi persist_pairs_1_c1 (retQ tab persist_pairs_1_rs R) [x0, x1, undef, undef, undef, undef, undef, undef, undef, undef, undef, undef] H := by
  obtain ⟨l, hl, el⟩ : ∃ l : List Value, l.length = 12 ∧ l = [x0, x1, undef, undef, undef, undef, undef, undef, undef, undef, undef, undef] := ⟨_, rfl, rfl⟩
  rw [← el]
  have h : (fun (x0 x1 : Value) => persist_pairs_1_g5 (fun x1 x2 H => persist_pairs_1_g6 (fun x3 H => R x3 H) x1 x2 H) x0 x1 H) (l.getD 0 undef) (l.getD 1 undef) := by rw [el]; exact h
  clear el
  refine seqI (c := persist_pairs_1_c1) rfl ?_
  refine regI hl (Eq.mpr (persist_pairs_1_g5_e _ (fun i => l.getD i undef) _) h) ?_
  clear h hl
  intro l H hl h
  refine thenN ?_
  refine seqI (c := persist_pairs_1_c3) rfl ?_
  refine regI hl (Eq.mpr (persist_pairs_1_g6_e _ (fun i => l.getD i undef) _) h) ?_
  clear h hl
  intro l H hl h
  refine thenN ?_
  refine retI rfl ?_
  exact h
theorem persist_pairs_1_ok : okB persist_pairs_1_pi persist_pairs_1_c1 = true := by kernel_rfl
theorem persist_pairs_1_ev0 (x0 x1 : Value) (R : Value → Heap → Prop) (H : Heap) (h : persist_pairs_1 x0 x1 R H) : EvL P N.persist_pairs_1 #[x0, x1] H R :=
  EvF_intro (args := [x0, x1]) (k := 10) (rs := persist_pairs_1_rs) tab_ok mixed Try.func43 (show Try.f43.body = some persist_pairs_1_c1 by kernel_rfl) Try.call43 Try.ntmps43 (by kernel_rfl) (okCode_of _ persist_pairs_1_ok) rfl (persist_pairs_1_i R x0 x1 H h)
theorem persist_pairs_1_ev (x0 x1 : Value) (R : Value → Heap → Prop) (H : Heap) (h : persist_pairs_1 x0 x1 R H) : EvF P N.persist_pairs_1 #[x0, x1] H R := .inl (persist_pairs_1_ev0 x0 x1 R H h)
/- 44: sounder/persist.pairs$2 -/
def persist_pairs_2_rs : List ResultVar := [.tmp 5]
noncomputable def persist_pairs_2_c2 : Code := subC (bodyC Try.f44) [0]
noncomputable def persist_pairs_2_c4 : Code := subC (bodyC Try.f44) [1, 0]
noncomputable def persist_pairs_2_c6 : Code := subC (bodyC Try.f44) [1, 1, 0]
noncomputable def persist_pairs_2_c5 : Code := .seq persist_pairs_2_c6 Code.ret
noncomputable def persist_pairs_2_c3 : Code := .seq persist_pairs_2_c4 persist_pairs_2_c5
noncomputable def persist_pairs_2_c1 : Code := .seq persist_pairs_2_c2 persist_pairs_2_c3
def persist_pairs_2_pi (_ : Nat) : Pl := .nil
def persist_pairs_2_g7 (S : Value → Value → Value → Heap → Prop) (x0 x1 x2 : Value) (H : Heap) : Prop :=
  newE 38 (Value.cells x0) H fun v3 H1 =>
  newE 38 (Value.cells x1) H1 fun v4 H2 =>
  S x2 v3 v4 H2
theorem persist_pairs_2_g7_e (S : Value → Value → Value → Heap → Prop) (x : Nat → Value) (H : Heap) : wpE tab P persist_pairs_2_pi persist_pairs_2_c2 (nQ fun l H => S (l.getD 2 undef) (l.getD 3 undef) (l.getD 4 undef) H) ((List.range 13).map x) H = persist_pairs_2_g7 S (x 0) (x 1) (x 2) H := by kernel_rfl
def persist_pairs_2_g8 (S : Value → Value → Heap → Prop) (x2 x3 x4 : Value) (H : Heap) : Prop :=
  S x2 (.func (.func N.persist_pairs_2_1) #[] #[x3, x4]) H
theorem persist_pairs_2_g8_e (S : Value → Value → Heap → Prop) (x : Nat → Value) (H : Heap) : wpE tab P persist_pairs_2_pi persist_pairs_2_c4 (nQ fun l H => S (l.getD 2 undef) (l.getD 6 undef) H) ((List.range 13).map x) H = persist_pairs_2_g8 S (x 2) (x 3) (x 4) H := by kernel_rfl
def persist_pairs_2_g9 (S : Value → Heap → Prop) (x2 x6 : Value) (H : Heap) : Prop :=
  bnd (ldE false 1 x2 H) fun v8 =>
  EvF P N.span_Set_Ranges #[v8] H fun v9 H1 =>
  EvF P N.slices_ContainsFunc_Range #[v9, x6] H1 fun v11 H2 =>
  bnd (unV .not v11) fun v12 =>
  S v12 H2
theorem persist_pairs_2_g9_e (S : Value → Heap → Prop) (x : Nat → Value) (H : Heap) : wpE tab P persist_pairs_2_pi persist_pairs_2_c6 (nQ fun l H => S (l.getD 5 undef) H) ((List.range 13).map x) H = persist_pairs_2_g9 S (x 2) (x 6) H := by kernel_rfl
def persist_pairs_2 (x0 x1 x2 : Value) (R : Value → Heap → Prop) (H : Heap) : Prop :=
  persist_pairs_2_g7 (fun x2 x3 x4 H => persist_pairs_2_g8 (fun x2 x6 H => persist_pairs_2_g9 (fun x5 H => R x5 H) x2 x6 H) x2 x3 x4 H) x0 x1 x2 H
theorem persist_pairs_2_i (R : Value → Heap → Prop) (x0 x1 x2 : Value) (H : Heap) (h : persist_pairs_2 x0 x1 x2 R H) : wpE tab P persist_pairs_2_pi persist_pairs_2_c1 (retQ tab persist_pairs_2_rs R) [x0, x1, x2, undef, undef, undef, undef, undef, undef, undef, undef, undef, undef] H := by
  obtain ⟨l, hl, el⟩ : ∃ l : List Value, l.length = 13 ∧ l = [x0, x1, x2, undef, undef, undef, undef, undef, undef, undef, undef, undef, undef] := ⟨_, rfl, rfl⟩
  rw [← el]
  have h : (fun (x0 x1 x2 : Value) => persist_pairs_2_g7 (fun x2 x3 x4 H => persist_pairs_2_g8 (fun x2 x6 H => persist_pairs_2_g9 (fun x5 H => R x5 H) x2 x6 H) x2 x3 x4 H) x0 x1 x2 H) (l.getD 0 undef) (l.getD 1 undef) (l.getD 2 undef) := by rw [el]; exact h
  clear el
  refine seqI (c := persist_pairs_2_c1) rfl ?_
  refine regI hl (Eq.mpr (persist_pairs_2_g7_e _ (fun i => l.getD i undef) _) h) ?_
  clear h hl
  intro l H hl h
  refine thenN ?_
  refine seqI (c := persist_pairs_2_c3) rfl ?_
  refine regI hl (Eq.mpr (persist_pairs_2_g8_e _ (fun i => l.getD i undef) _) h) ?_
  clear h hl
  intro l H hl h
  refine thenN ?_
  refine seqI (c := persist_pairs_2_c5) rfl ?_
  refine regI hl (Eq.mpr (persist_pairs_2_g9_e _ (fun i => l.getD i undef) _) h) ?_
  clear h hl
  intro l H hl h
  refine thenN ?_
  refine retI rfl ?_
  exact h
theorem persist_pairs_2_ok : okB persist_pairs_2_pi persist_pairs_2_c1 = true := by kernel_rfl
theorem persist_pairs_2_ev0 (x0 x1 x2 : Value) (R : Value → Heap → Prop) (H : Heap) (h : persist_pairs_2 x0 x1 x2 R H) : EvL P N.persist_pairs_2 #[x0, x1, x2] H R :=
  EvF_intro (args := [x0, x1, x2]) (k := 10) (rs := persist_pairs_2_rs) tab_ok mixed Try.func44 (show Try.f44.body = some persist_pairs_2_c1 by kernel_rfl) Try.call44 Try.ntmps44 (by kernel_rfl) (okCode_of _ persist_pairs_2_ok) rfl (persist_pairs_2_i R x0 x1 x2 H h)
theorem persist_pairs_2_ev (x0 x1 x2 : Value) (R : Value → Heap → Prop) (H : Heap) (h : persist_pairs_2 x0 x1 x2 R H) : EvF P N.persist_pairs_2 #[x0, x1, x2] H R := .inl (persist_pairs_2_ev0 x0 x1 x2 R H h)
/- 45: sounder/persist.pairs$2$1 -/
def persist_pairs_2_1_rs : List ResultVar := [.tmp 4]
noncomputable def persist_pairs_2_1_c2 : Code := subC (bodyC Try.f45) [0]
noncomputable def persist_pairs_2_1_c4 : Code := subC (bodyC Try.f45) [1, 0]
noncomputable def persist_pairs_2_1_c3 : Code := .seq persist_pairs_2_1_c4 Code.ret
noncomputable def persist_pairs_2_1_c1 : Code := .seq persist_pairs_2_1_c2 persist_pairs_2_1_c3
def persist_pairs_2_1_pi (_ : Nat) : Pl := .nil
def persist_pairs_2_1_g5 (S : Value → Value → Value → Heap → Prop) (x0 x1 x2 : Value) (H : Heap) : Prop :=
  newE 45 (Value.cells x0) H fun v3 H1 =>
  S x1 x2 v3 H1
theorem persist_pairs_2_1_g5_e (S : Value → Value → Value → Heap → Prop) (x : Nat → Value) (H : Heap) : wpE tab P persist_pairs_2_1_pi persist_pairs_2_1_c2 (nQ fun l H => S (l.getD 1 undef) (l.getD 2 undef) (l.getD 3 undef) H) ((List.range 18).map x) H = persist_pairs_2_1_g5 S (x 0) (x 1) (x 2) H := by kernel_rfl
def persist_pairs_2_1_g6 (S : Value → Heap → Prop) (x1 x2 x3 : Value) (H : Heap) : Prop :=
  bnd (faV 0 x3) fun v5 =>
  bnd (ldE false 1 v5 H) fun v6 =>
  bnd (faV 0 x1) fun v7 =>
  bnd (ldE false 1 v7 H) fun v8 =>
  bnd (binV .int .add v8 (.int .i64 1)) fun v9 =>
  bnd (foldV max2V v6 [v9]) fun v10 =>
  bnd (faV 1 x3) fun v11 =>
  bnd (ldE false 1 v11 H) fun v12 =>
  bnd (faV 0 x2) fun v13 =>
  bnd (ldE false 1 v13 H) fun v14 =>
  bnd (binV .int .sub v14 (.int .i64 1)) fun v15 =>
  bnd (foldV min2V v12 [v15]) fun v16 =>
  bnd (binV .int .leq v10 v16) fun v17 =>
  S v17 H
theorem persist_pairs_2_1_g6_e (S : Value → Heap → Prop) (x : Nat → Value) (H : Heap) : wpE tab P persist_pairs_2_1_pi persist_pairs_2_1_c4 (nQ fun l H => S (l.getD 4 undef) H) ((List.range 18).map x) H = persist_pairs_2_1_g6 S (x 1) (x 2) (x 3) H := by kernel_rfl
def persist_pairs_2_1 (x0 x1 x2 : Value) (R : Value → Heap → Prop) (H : Heap) : Prop :=
  persist_pairs_2_1_g5 (fun x1 x2 x3 H => persist_pairs_2_1_g6 (fun x4 H => R x4 H) x1 x2 x3 H) x0 x1 x2 H
theorem persist_pairs_2_1_i (R : Value → Heap → Prop) (x0 x1 x2 : Value) (H : Heap) (h : persist_pairs_2_1 x0 x1 x2 R H) : wpE tab P persist_pairs_2_1_pi persist_pairs_2_1_c1 (retQ tab persist_pairs_2_1_rs R) [x0, x1, x2, undef, undef, undef, undef, undef, undef, undef, undef, undef, undef, undef, undef, undef, undef, undef] H := by
  obtain ⟨l, hl, el⟩ : ∃ l : List Value, l.length = 18 ∧ l = [x0, x1, x2, undef, undef, undef, undef, undef, undef, undef, undef, undef, undef, undef, undef, undef, undef, undef] := ⟨_, rfl, rfl⟩
  rw [← el]
  have h : (fun (x0 x1 x2 : Value) => persist_pairs_2_1_g5 (fun x1 x2 x3 H => persist_pairs_2_1_g6 (fun x4 H => R x4 H) x1 x2 x3 H) x0 x1 x2 H) (l.getD 0 undef) (l.getD 1 undef) (l.getD 2 undef) := by rw [el]; exact h
  clear el
  refine seqI (c := persist_pairs_2_1_c1) rfl ?_
  refine regI hl (Eq.mpr (persist_pairs_2_1_g5_e _ (fun i => l.getD i undef) _) h) ?_
  clear h hl
  intro l H hl h
  refine thenN ?_
  refine seqI (c := persist_pairs_2_1_c3) rfl ?_
  refine regI hl (Eq.mpr (persist_pairs_2_1_g6_e _ (fun i => l.getD i undef) _) h) ?_
  clear h hl
  intro l H hl h
  refine thenN ?_
  refine retI rfl ?_
  exact h
theorem persist_pairs_2_1_ok : okB persist_pairs_2_1_pi persist_pairs_2_1_c1 = true := by kernel_rfl
theorem persist_pairs_2_1_ev0 (x0 x1 x2 : Value) (R : Value → Heap → Prop) (H : Heap) (h : persist_pairs_2_1 x0 x1 x2 R H) : EvL P N.persist_pairs_2_1 #[x0, x1, x2] H R :=
  EvF_intro (args := [x0, x1, x2]) (k := 15) (rs := persist_pairs_2_1_rs) tab_ok mixed Try.func45 (show Try.f45.body = some persist_pairs_2_1_c1 by kernel_rfl) Try.call45 Try.ntmps45 (by kernel_rfl) (okCode_of _ persist_pairs_2_1_ok) rfl (persist_pairs_2_1_i R x0 x1 x2 H h)
theorem persist_pairs_2_1_ev (x0 x1 x2 : Value) (R : Value → Heap → Prop) (H : Heap) (h : persist_pairs_2_1 x0 x1 x2 R H) : EvF P N.persist_pairs_2_1 #[x0, x1, x2] H R := .inl (persist_pairs_2_1_ev0 x0 x1 x2 R H h)
end Go.Hc
