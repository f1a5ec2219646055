/- Functions, printed by gen.py. -/
import Derived.Test.YtbchcnmghcmaoaaT
set_option linter.unusedSimpArgs false
set_option linter.unusedVariables false
set_option maxRecDepth 100000
namespace Go.Hc
open Go Go.Proofs
/- 46: slices.ContainsFunc[[]sounder/api.Range,sounder/api.Range] -/
def slices_ContainsFunc_Range_rs : List ResultVar := [.tmp 4]
noncomputable def slices_ContainsFunc_Range_c2 : Code := subC (bodyC Try.f46) [0]
noncomputable def slices_ContainsFunc_Range_c4 : Code := subC (bodyC Try.f46) [1, 0]
noncomputable def slices_ContainsFunc_Range_c3 : Code := .seq slices_ContainsFunc_Range_c4 Code.ret
noncomputable def slices_ContainsFunc_Range_c1 : Code := .seq slices_ContainsFunc_Range_c2 slices_ContainsFunc_Range_c3
def slices_ContainsFunc_Range_pi (_ : Nat) : Pl := .nil
def slices_ContainsFunc_Range_g5 (S : Value → Value → Heap → Prop) (x0 x1 : Value) (H : Heap) : Prop :=
  S x0 x1 H
theorem slices_ContainsFunc_Range_g5_e (S : Value → Value → Heap → Prop) (x : Nat → Value) (H : Heap) : wpE tab P slices_ContainsFunc_Range_pi slices_ContainsFunc_Range_c2 (nQ fun l H => S (l.getD 0 undef) (l.getD 1 undef) H) ((List.range 9).map x) H = slices_ContainsFunc_Range_g5 S (x 0) (x 1) H := by kernel_rfl
def slices_ContainsFunc_Range_g6 (S : Value → Heap → Prop) (x0 x1 : Value) (H : Heap) : Prop :=
  EvF P N.slices_IndexFunc_Range #[x0, x1] H fun v7 H1 =>
  bnd (binV .int .geq v7 (.int .i64 0)) fun v8 =>
  S v8 H1
theorem slices_ContainsFunc_Range_g6_e (S : Value → Heap → Prop) (x : Nat → Value) (H : Heap) : wpE tab P slices_ContainsFunc_Range_pi slices_ContainsFunc_Range_c4 (nQ fun l H => S (l.getD 4 undef) H) ((List.range 9).map x) H = slices_ContainsFunc_Range_g6 S (x 0) (x 1) H := by kernel_rfl
def slices_ContainsFunc_Range (x0 x1 : Value) (R : Value → Heap → Prop) (H : Heap) : Prop :=
  slices_ContainsFunc_Range_g5 (fun x0 x1 H => slices_ContainsFunc_Range_g6 (fun x4 H => R x4 H) x0 x1 H) x0 x1 H
theorem slices_ContainsFunc_Range_i (R : Value → Heap → Prop) (x0 x1 : Value) (H : Heap) (h : slices_ContainsFunc_Range x0 x1 R H) : wpE tab P slices_ContainsFunc_Range_pi slices_ContainsFunc_Range_c1 (retQ tab slices_ContainsFunc_Range_rs R) [x0, x1, undef, undef, undef, undef, undef, undef, undef] H := by
  obtain ⟨l, hl, el⟩ : ∃ l : List Value, l.length = 9 ∧ l = [x0, x1, undef, undef, undef, undef, undef, undef, undef] := ⟨_, rfl, rfl⟩
  rw [← el]
  have h : (fun (x0 x1 : Value) => slices_ContainsFunc_Range_g5 (fun x0 x1 H => slices_ContainsFunc_Range_g6 (fun x4 H => R x4 H) x0 x1 H) x0 x1 H) (l.getD 0 undef) (l.getD 1 undef) := by rw [el]; exact h
  clear el
  refine seqI (c := slices_ContainsFunc_Range_c1) rfl ?_
  refine regI hl (Eq.mpr (slices_ContainsFunc_Range_g5_e _ (fun i => l.getD i undef) _) h) ?_
  clear h hl
  intro l H hl h
  refine thenN ?_
  refine seqI (c := slices_ContainsFunc_Range_c3) rfl ?_
  refine regI hl (Eq.mpr (slices_ContainsFunc_Range_g6_e _ (fun i => l.getD i undef) _) h) ?_
  clear h hl
  intro l H hl h
  refine thenN ?_
  refine retI rfl ?_
  exact h
theorem slices_ContainsFunc_Range_ok : okB slices_ContainsFunc_Range_pi slices_ContainsFunc_Range_c1 = true := by kernel_rfl
theorem slices_ContainsFunc_Range_ev0 (x0 x1 : Value) (R : Value → Heap → Prop) (H : Heap) (h : slices_ContainsFunc_Range x0 x1 R H) : EvL P N.slices_ContainsFunc_Range #[x0, x1] H R :=
  EvF_intro (args := [x0, x1]) (k := 7) (rs := slices_ContainsFunc_Range_rs) tab_ok mixed Try.func46 (show Try.f46.body = some slices_ContainsFunc_Range_c1 by kernel_rfl) Try.call46 Try.ntmps46 (by kernel_rfl) (okCode_of _ slices_ContainsFunc_Range_ok) rfl (slices_ContainsFunc_Range_i R x0 x1 H h)
theorem slices_ContainsFunc_Range_ev (x0 x1 : Value) (R : Value → Heap → Prop) (H : Heap) (h : slices_ContainsFunc_Range x0 x1 R H) : EvF P N.slices_ContainsFunc_Range #[x0, x1] H R := .inl (slices_ContainsFunc_Range_ev0 x0 x1 R H h)
/- 47: (*sounder/span.Set).Ranges -/
def span_Set_Ranges_rs : List ResultVar := [.tmp 2]
noncomputable def span_Set_Ranges_c2 : Code := subC (bodyC Try.f47) [0]
noncomputable def span_Set_Ranges_c5 : Code := subC (bodyC Try.f47) [1, 0, 0]
noncomputable def span_Set_Ranges_c8 : Code := subC (bodyC Try.f47) [1, 0, 1, 0, 0]
noncomputable def span_Set_Ranges_c7 : Code := .seq span_Set_Ranges_c8 Code.ret
noncomputable def span_Set_Ranges_c6 : Code := .cond (.tmp 4) span_Set_Ranges_c7 Code.skip
noncomputable def span_Set_Ranges_c4 : Code := .seq span_Set_Ranges_c5 span_Set_Ranges_c6
noncomputable def span_Set_Ranges_c10 : Code := subC (bodyC Try.f47) [1, 1, 0]
noncomputable def span_Set_Ranges_c9 : Code := .seq span_Set_Ranges_c10 Code.ret
noncomputable def span_Set_Ranges_c3 : Code := .seq span_Set_Ranges_c4 span_Set_Ranges_c9
noncomputable def span_Set_Ranges_c1 : Code := .seq span_Set_Ranges_c2 span_Set_Ranges_c3
def span_Set_Ranges_pi (_ : Nat) : Pl := .nil
def span_Set_Ranges_g11 (S : Value → Heap → Prop) (x0 : Value) (H : Heap) : Prop :=
  S x0 H
theorem span_Set_Ranges_g11_e (S : Value → Heap → Prop) (x : Nat → Value) (H : Heap) : wpE tab P span_Set_Ranges_pi span_Set_Ranges_c2 (nQ fun l H => S (l.getD 0 undef) H) ((List.range 8).map x) H = span_Set_Ranges_g11 S (x 0) H := by kernel_rfl
def span_Set_Ranges_g12 (S : Value → Value → Heap → Prop) (x0 : Value) (H : Heap) : Prop :=
  EvF P N.span_Set_none #[x0] H fun v4 H1 =>
  S x0 v4 H1
theorem span_Set_Ranges_g12_e (S : Value → Value → Heap → Prop) (x : Nat → Value) (H : Heap) : wpE tab P span_Set_Ranges_pi span_Set_Ranges_c5 (nQ fun l H => S (l.getD 0 undef) (l.getD 4 undef) H) ((List.range 8).map x) H = span_Set_Ranges_g12 S (x 0) H := by kernel_rfl
def span_Set_Ranges_g13 (S : Value → Heap → Prop) (H : Heap) : Prop :=
  S (.slice none 0 0) H
theorem span_Set_Ranges_g13_e (S : Value → Heap → Prop) (x : Nat → Value) (H : Heap) : wpE tab P span_Set_Ranges_pi span_Set_Ranges_c8 (nQ fun l H => S (l.getD 2 undef) H) ((List.range 8).map x) H = span_Set_Ranges_g13 S  H := by kernel_rfl
def span_Set_Ranges_g14 (S : Value → Heap → Prop) (x0 : Value) (H : Heap) : Prop :=
  EvF P N.span_Set_falling #[x0] H fun v6 H1 =>
  EvF P N.slices_Collect_Range #[v6] H1 fun v7 H2 =>
  S v7 H2
theorem span_Set_Ranges_g14_e (S : Value → Heap → Prop) (x : Nat → Value) (H : Heap) : wpE tab P span_Set_Ranges_pi span_Set_Ranges_c10 (nQ fun l H => S (l.getD 2 undef) H) ((List.range 8).map x) H = span_Set_Ranges_g14 S (x 0) H := by kernel_rfl
def span_Set_Ranges (x0 : Value) (R : Value → Heap → Prop) (H : Heap) : Prop :=
  span_Set_Ranges_g11 (fun x0 H => span_Set_Ranges_g12 (fun x0 x4 H => brV x4
  (span_Set_Ranges_g13 (fun x2 H => R x2 H) H)
  (span_Set_Ranges_g14 (fun x2 H => R x2 H) x0 H)) x0 H) x0 H
theorem span_Set_Ranges_i (R : Value → Heap → Prop) (x0 : Value) (H : Heap) (h : span_Set_Ranges x0 R H) : wpE tab P span_Set_Ranges_pi span_Set_Ranges_c1 (retQ tab span_Set_Ranges_rs R) [x0, undef, undef, undef, undef, undef, undef, undef] H := by
  obtain ⟨l, hl, el⟩ : ∃ l : List Value, l.length = 8 ∧ l = [x0, undef, undef, undef, undef, undef, undef, undef] := ⟨_, rfl, rfl⟩
  rw [← el]
  have h : (fun (x0 : Value) => span_Set_Ranges_g11 (fun x0 H => span_Set_Ranges_g12 (fun x0 x4 H => brV x4
(span_Set_Ranges_g13 (fun x2 H => R x2 H) H)
(span_Set_Ranges_g14 (fun x2 H => R x2 H) x0 H)) x0 H) x0 H) (l.getD 0 undef) := by rw [el]; exact h
  clear el
  refine seqI (c := span_Set_Ranges_c1) rfl ?_
  refine regI hl (Eq.mpr (span_Set_Ranges_g11_e _ (fun i => l.getD i undef) _) h) ?_
  clear h hl
  intro l H hl h
  refine thenN ?_
  refine seqI (c := span_Set_Ranges_c3) rfl ?_
  refine seqI (c := span_Set_Ranges_c4) rfl ?_
  refine regI hl (Eq.mpr (span_Set_Ranges_g12_e _ (fun i => l.getD i undef) _) h) ?_
  clear h hl
  intro l H hl h
  refine thenN ?_
  refine condI (c := span_Set_Ranges_c6) rfl h ?_ ?_
  · clear h; intro h
    refine seqI (c := span_Set_Ranges_c7) rfl ?_
    refine regI hl (Eq.mpr (span_Set_Ranges_g13_e _ (fun i => l.getD i undef) _) h) ?_
    clear h hl
    intro l H hl h
    refine thenN ?_
    refine retI rfl ?_
    refine thenR ?_
    exact h
  · clear h; intro h
    refine skipI rfl ?_
    refine thenN ?_
    refine seqI (c := span_Set_Ranges_c9) rfl ?_
    refine regI hl (Eq.mpr (span_Set_Ranges_g14_e _ (fun i => l.getD i undef) _) h) ?_
    clear h hl
    intro l H hl h
    refine thenN ?_
    refine retI rfl ?_
    exact h
theorem span_Set_Ranges_ok : okB span_Set_Ranges_pi span_Set_Ranges_c1 = true := by kernel_rfl
theorem span_Set_Ranges_ev0 (x0 : Value) (R : Value → Heap → Prop) (H : Heap) (h : span_Set_Ranges x0 R H) : EvL P N.span_Set_Ranges #[x0] H R :=
  EvF_intro (args := [x0]) (k := 7) (rs := span_Set_Ranges_rs) tab_ok mixed Try.func47 (show Try.f47.body = some span_Set_Ranges_c1 by kernel_rfl) Try.call47 Try.ntmps47 (by kernel_rfl) (okCode_of _ span_Set_Ranges_ok) rfl (span_Set_Ranges_i R x0 H h)
theorem span_Set_Ranges_ev (x0 : Value) (R : Value → Heap → Prop) (H : Heap) (h : span_Set_Ranges x0 R H) : EvF P N.span_Set_Ranges #[x0] H R := .inl (span_Set_Ranges_ev0 x0 R H h)
/- 48: sounder/persist.pairs$3 -/
def persist_pairs_3_rs : List ResultVar := []
noncomputable def persist_pairs_3_c2 : Code := subC (bodyC Try.f48) [0]
noncomputable def persist_pairs_3_c6 : Code := subC (bodyC Try.f48) [1, 0, 0, 0]
noncomputable def persist_pairs_3_c9 : Code := .exit 0
noncomputable def persist_pairs_3_c8 : Code := .cond (.tmp 12) Code.skip persist_pairs_3_c9
noncomputable def persist_pairs_3_c13 : Code := subC (bodyC Try.f48) [1, 0, 0, 1, 1, 0, 0, 0]
noncomputable def persist_pairs_3_c15 : Code := subC (bodyC Try.f48) [1, 0, 0, 1, 1, 0, 0, 1, 0]
noncomputable def persist_pairs_3_c19 : Code := subC (bodyC Try.f48) [1, 0, 0, 1, 1, 0, 0, 1, 1, 0, 0, 0]
noncomputable def persist_pairs_3_c22 : Code := .exit 2
noncomputable def persist_pairs_3_c21 : Code := .cond (.tmp 22) Code.skip persist_pairs_3_c22
noncomputable def persist_pairs_3_c26 : Code := subC (bodyC Try.f48) [1, 0, 0, 1, 1, 0, 0, 1, 1, 0, 0, 1, 1, 0, 0, 0]
noncomputable def persist_pairs_3_c28 : Code := subC (bodyC Try.f48) [1, 0, 0, 1, 1, 0, 0, 1, 1, 0, 0, 1, 1, 0, 0, 1, 0]
noncomputable def persist_pairs_3_c29 : Code := .cond (.tmp 52) Code.ret Code.skip
noncomputable def persist_pairs_3_c27 : Code := .seq persist_pairs_3_c28 persist_pairs_3_c29
noncomputable def persist_pairs_3_c25 : Code := .seq persist_pairs_3_c26 persist_pairs_3_c27
noncomputable def persist_pairs_3_c24 : Code := .block 3 persist_pairs_3_c25
noncomputable def persist_pairs_3_c30 : Code := subC (bodyC Try.f48) [1, 0, 0, 1, 1, 0, 0, 1, 1, 0, 0, 1, 1, 1]
noncomputable def persist_pairs_3_c23 : Code := .seq persist_pairs_3_c24 persist_pairs_3_c30
noncomputable def persist_pairs_3_c20 : Code := .seq persist_pairs_3_c21 persist_pairs_3_c23
noncomputable def persist_pairs_3_c18 : Code := .seq persist_pairs_3_c19 persist_pairs_3_c20
noncomputable def persist_pairs_3_c17 : Code := .loop persist_pairs_3_c18
noncomputable def persist_pairs_3_c16 : Code := .block 2 persist_pairs_3_c17
noncomputable def persist_pairs_3_c14 : Code := .seq persist_pairs_3_c15 persist_pairs_3_c16
noncomputable def persist_pairs_3_c12 : Code := .seq persist_pairs_3_c13 persist_pairs_3_c14
noncomputable def persist_pairs_3_c11 : Code := .block 1 persist_pairs_3_c12
noncomputable def persist_pairs_3_c31 : Code := subC (bodyC Try.f48) [1, 0, 0, 1, 1, 1]
noncomputable def persist_pairs_3_c10 : Code := .seq persist_pairs_3_c11 persist_pairs_3_c31
noncomputable def persist_pairs_3_c7 : Code := .seq persist_pairs_3_c8 persist_pairs_3_c10
noncomputable def persist_pairs_3_c5 : Code := .seq persist_pairs_3_c6 persist_pairs_3_c7
noncomputable def persist_pairs_3_c4 : Code := .loop persist_pairs_3_c5
noncomputable def persist_pairs_3_c3 : Code := .block 0 persist_pairs_3_c4
noncomputable def persist_pairs_3_c1 : Code := .seq persist_pairs_3_c2 persist_pairs_3_c3
def persist_pairs_3_pi (_ : Nat) : Pl := .nil
def persist_pairs_3_g32 (S : Value → Value → Value → Value → Value → Value → Value → Heap → Prop) (x0 x1 x2 x3 : Value) (H : Heap) : Prop :=
  bnd (ldE false 1 x1 H) fun v9 =>
  bnd (lenV v9) fun v10 =>
  S x0 x1 x2 x3 v9 v10 (.int .i64 0) H
theorem persist_pairs_3_g32_e (S : Value → Value → Value → Value → Value → Value → Value → Heap → Prop) (x : Nat → Value) (H : Heap) : wpE tab P persist_pairs_3_pi persist_pairs_3_c2 (nQ fun l H => S (l.getD 0 undef) (l.getD 1 undef) (l.getD 2 undef) (l.getD 3 undef) (l.getD 9 undef) (l.getD 10 undef) (l.getD 11 undef) H) ((List.range 55).map x) H = persist_pairs_3_g32 S (x 0) (x 1) (x 2) (x 3) H := by kernel_rfl
def persist_pairs_3_g34 (S : Value → Value → Value → Value → Value → Value → Value → Value → Heap → Prop) (x0 x1 x2 x3 x9 x10 x11 : Value) (H : Heap) : Prop :=
  bnd (binV .int .lss x11 x10) fun v12 =>
  S x0 x1 x2 x3 x9 x10 x11 v12 H
theorem persist_pairs_3_g34_e (S : Value → Value → Value → Value → Value → Value → Value → Value → Heap → Prop) (x : Nat → Value) (H : Heap) : wpE tab P persist_pairs_3_pi persist_pairs_3_c6 (nQ fun l H => S (l.getD 0 undef) (l.getD 1 undef) (l.getD 2 undef) (l.getD 3 undef) (l.getD 9 undef) (l.getD 10 undef) (l.getD 11 undef) (l.getD 12 undef) H) ((List.range 55).map x) H = persist_pairs_3_g34 S (x 0) (x 1) (x 2) (x 3) (x 9) (x 10) (x 11) H := by kernel_rfl
def persist_pairs_3_g35 (S : Value → Value → Value → Value → Value → Value → Value → Value → Value → Heap → Prop) (x0 x1 x2 x3 x9 x10 x11 : Value) (H : Heap) : Prop :=
  bnd (ixSV 6 x9 x11) fun v14 =>
  bnd (ldE true 6 v14 H) fun v15 =>
  newE 38 #[(.int .i64 0), (.int .i64 0), (.int .i64 0), (.bool false), (.bool false), (.bool false)] H fun v6 H1 =>
  bnd (stE 6 v6 v15 H1) fun H2 =>
  S x0 x1 x2 x3 x11 v6 x9 x10 x11 H2
theorem persist_pairs_3_g35_e (S : Value → Value → Value → Value → Value → Value → Value → Value → Value → Heap → Prop) (x : Nat → Value) (H : Heap) : wpE tab P persist_pairs_3_pi persist_pairs_3_c13 (nQ fun l H => S (l.getD 0 undef) (l.getD 1 undef) (l.getD 2 undef) (l.getD 3 undef) (l.getD 5 undef) (l.getD 6 undef) (l.getD 9 undef) (l.getD 10 undef) (l.getD 11 undef) H) ((List.range 55).map x) H = persist_pairs_3_g35 S (x 0) (x 1) (x 2) (x 3) (x 9) (x 10) (x 11) H := by kernel_rfl
def persist_pairs_3_g36 (S : Value → Value → Value → Value → Value → Value → Value → Value → Value → Value → Value → Heap → Prop) (x0 x1 x2 x3 x5 x6 x9 x10 x11 : Value) (H : Heap) : Prop :=
  bnd (ldE false 1 x1 H) fun v16 =>
  bnd (binV .int .add x5 (.int .i64 1)) fun v18 =>
  bnd (sliceV 6 v16 (some v18) none) fun v19 =>
  bnd (lenV v19) fun v20 =>
  S x0 x1 x2 x3 x6 x9 x10 x11 v19 v20 (.int .i64 0) H
theorem persist_pairs_3_g36_e (S : Value → Value → Value → Value → Value → Value → Value → Value → Value → Value → Value → Heap → Prop) (x : Nat → Value) (H : Heap) : wpE tab P persist_pairs_3_pi persist_pairs_3_c15 (nQ fun l H => S (l.getD 0 undef) (l.getD 1 undef) (l.getD 2 undef) (l.getD 3 undef) (l.getD 6 undef) (l.getD 9 undef) (l.getD 10 undef) (l.getD 11 undef) (l.getD 19 undef) (l.getD 20 undef) (l.getD 21 undef) H) ((List.range 55).map x) H = persist_pairs_3_g36 S (x 0) (x 1) (x 2) (x 3) (x 5) (x 6) (x 9) (x 10) (x 11) H := by kernel_rfl
def persist_pairs_3_g38 (S : Value → Value → Value → Value → Value → Value → Value → Value → Value → Value → Value → Value → Heap → Prop) (x0 x1 x2 x3 x6 x9 x10 x11 x19 x20 x21 : Value) (H : Heap) : Prop :=
  bnd (binV .int .lss x21 x20) fun v22 =>
  S x0 x1 x2 x3 x6 x9 x10 x11 x19 x20 x21 v22 H
theorem persist_pairs_3_g38_e (S : Value → Value → Value → Value → Value → Value → Value → Value → Value → Value → Value → Value → Heap → Prop) (x : Nat → Value) (H : Heap) : wpE tab P persist_pairs_3_pi persist_pairs_3_c19 (nQ fun l H => S (l.getD 0 undef) (l.getD 1 undef) (l.getD 2 undef) (l.getD 3 undef) (l.getD 6 undef) (l.getD 9 undef) (l.getD 10 undef) (l.getD 11 undef) (l.getD 19 undef) (l.getD 20 undef) (l.getD 21 undef) (l.getD 22 undef) H) ((List.range 55).map x) H = persist_pairs_3_g38 S (x 0) (x 1) (x 2) (x 3) (x 6) (x 9) (x 10) (x 11) (x 19) (x 20) (x 21) H := by kernel_rfl
def persist_pairs_3_g39 (S : Value → Value → Value → Value → Value → Value → Value → Value → Value → Value → Value → Value → Heap → Prop) (x0 x1 x2 x3 x6 x9 x10 x11 x19 x20 x21 : Value) (H : Heap) : Prop :=
  bnd (ixSV 6 x19 x21) fun v23 =>
  bnd (ldE true 6 v23 H) fun v24 =>
  newE 38 #[(.int .i64 0), (.int .i64 0), (.int .i64 0), (.bool false), (.bool false), (.bool false)] H fun v8 H1 =>
  bnd (stE 6 v8 v24 H1) fun H2 =>
  S x0 x1 x2 x3 x6 v8 x9 x10 x11 x19 x20 x21 H2
theorem persist_pairs_3_g39_e (S : Value → Value → Value → Value → Value → Value → Value → Value → Value → Value → Value → Value → Heap → Prop) (x : Nat → Value) (H : Heap) : wpE tab P persist_pairs_3_pi persist_pairs_3_c26 (nQ fun l H => S (l.getD 0 undef) (l.getD 1 undef) (l.getD 2 undef) (l.getD 3 undef) (l.getD 6 undef) (l.getD 8 undef) (l.getD 9 undef) (l.getD 10 undef) (l.getD 11 undef) (l.getD 19 undef) (l.getD 20 undef) (l.getD 21 undef) H) ((List.range 55).map x) H = persist_pairs_3_g39 S (x 0) (x 1) (x 2) (x 3) (x 6) (x 9) (x 10) (x 11) (x 19) (x 20) (x 21) H := by kernel_rfl
def persist_pairs_3_g40 (S : Value → Value → Value → Value → Value → Value → Value → Value → Value → Value → Value → Value → Heap → Prop) (x0 x1 x2 x3 x6 x8 x9 x10 x11 x19 x20 x21 : Value) (H : Heap) : Prop :=
  bnd (ldE false 1 x2 H) fun v25 =>
  bnd (ldE true 6 x6 H) fun v26 =>
  callV P v25 [v26] H fun v27 H1 =>
  brV v27
  (bnd (ldE false 1 x2 H1) fun v29 =>
  bnd (ldE true 6 x8 H1) fun v30 =>
  callV P v29 [v30] H1 fun v31 H2 =>
  brV v31
  (bnd (faV 1 x8) fun v34 =>
  bnd (ldE false 1 v34 H2) fun v35 =>
  bnd (faV 1 x6) fun v36 =>
  bnd (ldE false 1 v36 H2) fun v37 =>
  bnd (binV .int .geq v35 v37) fun v38 =>
  brV v38
  (bnd (ldE false 1 x3 H2) fun v41 =>
  bnd (ldE true 6 x6 H2) fun v42 =>
  bnd (ldE true 6 x8 H2) fun v43 =>
  callV P v41 [v42, v43] H2 fun v44 H3 =>
  brV v44
  (bnd (ldE true 6 x6 H3) fun v48 =>
  bnd (ldE true 6 x8 H3) fun v49 =>
  callV P x0 [v48, v49] H3 fun v50 H4 =>
  bnd (unV .not v50) fun v51 =>
  S x0 x1 x2 x3 x6 x9 x10 x11 x19 x20 x21 v51 H4)
  (S x0 x1 x2 x3 x6 x9 x10 x11 x19 x20 x21 (.bool false) H3))
  (S x0 x1 x2 x3 x6 x9 x10 x11 x19 x20 x21 (.bool false) H2))
  (S x0 x1 x2 x3 x6 x9 x10 x11 x19 x20 x21 (.bool false) H2))
  (S x0 x1 x2 x3 x6 x9 x10 x11 x19 x20 x21 (.bool false) H1)
theorem persist_pairs_3_g40_e (S : Value → Value → Value → Value → Value → Value → Value → Value → Value → Value → Value → Value → Heap → Prop) (x : Nat → Value) (H : Heap) : wpE tab P persist_pairs_3_pi persist_pairs_3_c28 (nQ fun l H => S (l.getD 0 undef) (l.getD 1 undef) (l.getD 2 undef) (l.getD 3 undef) (l.getD 6 undef) (l.getD 9 undef) (l.getD 10 undef) (l.getD 11 undef) (l.getD 19 undef) (l.getD 20 undef) (l.getD 21 undef) (l.getD 52 undef) H) ((List.range 55).map x) H = persist_pairs_3_g40 S (x 0) (x 1) (x 2) (x 3) (x 6) (x 8) (x 9) (x 10) (x 11) (x 19) (x 20) (x 21) H := by kernel_rfl
def persist_pairs_3_g41 (S : Value → Value → Value → Value → Value → Value → Value → Value → Value → Value → Value → Heap → Prop) (x0 x1 x2 x3 x6 x9 x10 x11 x19 x20 x21 : Value) (H : Heap) : Prop :=
  bnd (binV .int .add x21 (.int .i64 1)) fun v53 =>
  S x0 x1 x2 x3 x6 x9 x10 x11 x19 x20 v53 H
theorem persist_pairs_3_g41_e (S : Value → Value → Value → Value → Value → Value → Value → Value → Value → Value → Value → Heap → Prop) (x : Nat → Value) (H : Heap) : wpE tab P persist_pairs_3_pi persist_pairs_3_c30 (nQ fun l H => S (l.getD 0 undef) (l.getD 1 undef) (l.getD 2 undef) (l.getD 3 undef) (l.getD 6 undef) (l.getD 9 undef) (l.getD 10 undef) (l.getD 11 undef) (l.getD 19 undef) (l.getD 20 undef) (l.getD 21 undef) H) ((List.range 55).map x) H = persist_pairs_3_g41 S (x 0) (x 1) (x 2) (x 3) (x 6) (x 9) (x 10) (x 11) (x 19) (x 20) (x 21) H := by kernel_rfl
def persist_pairs_3_g42 (S : Value → Value → Value → Value → Value → Value → Value → Heap → Prop) (x0 x1 x2 x3 x9 x10 x11 : Value) (H : Heap) : Prop :=
  bnd (binV .int .add x11 (.int .i64 1)) fun v54 =>
  S x0 x1 x2 x3 x9 x10 v54 H
theorem persist_pairs_3_g42_e (S : Value → Value → Value → Value → Value → Value → Value → Heap → Prop) (x : Nat → Value) (H : Heap) : wpE tab P persist_pairs_3_pi persist_pairs_3_c31 (nQ fun l H => S (l.getD 0 undef) (l.getD 1 undef) (l.getD 2 undef) (l.getD 3 undef) (l.getD 9 undef) (l.getD 10 undef) (l.getD 11 undef) H) ((List.range 55).map x) H = persist_pairs_3_g42 S (x 0) (x 1) (x 2) (x 3) (x 9) (x 10) (x 11) H := by kernel_rfl
def persist_pairs_3_s37 (x0 x1 x2 x3 x6 x9 x10 x11 x19 x20 x21 : Value) (K1 : Value → Value → Value → Value → Value → Value → Value →  Heap → Prop) (K2 : Value → Value → Value → Value → Value → Value → Value → Value → Value → Value → Value →  Heap → Prop) (R : Value → Heap → Prop) (H : Heap) : Prop :=
  persist_pairs_3_g38 (fun x0 x1 x2 x3 x6 x9 x10 x11 x19 x20 x21 x22 H => brV x22
  (persist_pairs_3_g39 (fun x0 x1 x2 x3 x6 x8 x9 x10 x11 x19 x20 x21 H => persist_pairs_3_g40 (fun x0 x1 x2 x3 x6 x9 x10 x11 x19 x20 x21 x52 H => brV x52
  (R (.tuple #[]) H)
  (persist_pairs_3_g41 (fun x0 x1 x2 x3 x6 x9 x10 x11 x19 x20 x21 H => K2 x0 x1 x2 x3 x6 x9 x10 x11 x19 x20 x21 H) x0 x1 x2 x3 x6 x9 x10 x11 x19 x20 x21 H)) x0 x1 x2 x3 x6 x8 x9 x10 x11 x19 x20 x21 H) x0 x1 x2 x3 x6 x9 x10 x11 x19 x20 x21 H)
  (persist_pairs_3_g42 (fun x0 x1 x2 x3 x9 x10 x11 H => K1 x0 x1 x2 x3 x9 x10 x11 H) x0 x1 x2 x3 x9 x10 x11 H)) x0 x1 x2 x3 x6 x9 x10 x11 x19 x20 x21 H
noncomputable def persist_pairs_3_q43 (R : Value → Heap → Prop) : Exit → List Value → Heap → Prop := (retQ tab persist_pairs_3_rs R)
noncomputable def persist_pairs_3_q44 (R : Value → Heap → Prop) : Exit → List Value → Heap → Prop := (blkE 0 (persist_pairs_3_q43 R))
noncomputable def persist_pairs_3_q45 (K1 : Value → Value → Value → Value → Value → Value → Value →  Heap → Prop) (R : Value → Heap → Prop) : Exit → List Value → Heap → Prop := (thenE (fun l H => K1 (l.getD 0 undef) (l.getD 1 undef) (l.getD 2 undef) (l.getD 3 undef) (l.getD 9 undef) (l.getD 10 undef) (l.getD 11 undef) H) (persist_pairs_3_q44 R))
noncomputable def persist_pairs_3_q46 (K1 : Value → Value → Value → Value → Value → Value → Value →  Heap → Prop) (R : Value → Heap → Prop) : Exit → List Value → Heap → Prop := (thenE (fun l H => wpE tab P persist_pairs_3_pi persist_pairs_3_c31 (persist_pairs_3_q45 K1 R) l H) (persist_pairs_3_q45 K1 R))
noncomputable def persist_pairs_3_q47 (K1 : Value → Value → Value → Value → Value → Value → Value →  Heap → Prop) (R : Value → Heap → Prop) : Exit → List Value → Heap → Prop := (blkE 1 (persist_pairs_3_q46 K1 R))
noncomputable def persist_pairs_3_q48 (K1 : Value → Value → Value → Value → Value → Value → Value →  Heap → Prop) (R : Value → Heap → Prop) : Exit → List Value → Heap → Prop := (blkE 2 (persist_pairs_3_q47 K1 R))
noncomputable def persist_pairs_3_q49 (K1 : Value → Value → Value → Value → Value → Value → Value →  Heap → Prop) (K2 : Value → Value → Value → Value → Value → Value → Value → Value → Value → Value → Value →  Heap → Prop) (R : Value → Heap → Prop) : Exit → List Value → Heap → Prop := (thenE (fun l H => K2 (l.getD 0 undef) (l.getD 1 undef) (l.getD 2 undef) (l.getD 3 undef) (l.getD 6 undef) (l.getD 9 undef) (l.getD 10 undef) (l.getD 11 undef) (l.getD 19 undef) (l.getD 20 undef) (l.getD 21 undef) H) (persist_pairs_3_q48 K1 R))
theorem persist_pairs_3_s37_i (K1 : Value → Value → Value → Value → Value → Value → Value →  Heap → Prop) (K2 : Value → Value → Value → Value → Value → Value → Value → Value → Value → Value → Value →  Heap → Prop) (R : Value → Heap → Prop) (l : List Value) (H : Heap) (hl : l.length = 55) (h : persist_pairs_3_s37 (l.getD 0 undef) (l.getD 1 undef) (l.getD 2 undef) (l.getD 3 undef) (l.getD 6 undef) (l.getD 9 undef) (l.getD 10 undef) (l.getD 11 undef) (l.getD 19 undef) (l.getD 20 undef) (l.getD 21 undef) K1 K2 R H) : wpE tab P persist_pairs_3_pi persist_pairs_3_c18 (persist_pairs_3_q49 K1 K2 R) l H := by
  refine seqI (c := persist_pairs_3_c18) rfl ?_
  refine regI hl (Eq.mpr (persist_pairs_3_g38_e _ (fun i => l.getD i undef) _) h) ?_
  clear h hl
  intro l H hl h
  refine thenN ?_
  refine seqI (c := persist_pairs_3_c20) rfl ?_
  refine condI (c := persist_pairs_3_c21) rfl h ?_ ?_
  · clear h; intro h
    refine skipI rfl ?_
    refine thenN ?_
    refine seqI (c := persist_pairs_3_c23) rfl ?_
    refine blockI (c := persist_pairs_3_c24) rfl ?_
    refine seqI (c := persist_pairs_3_c25) rfl ?_
    refine regI hl (Eq.mpr (persist_pairs_3_g39_e _ (fun i => l.getD i undef) _) h) ?_
    clear h hl
    intro l H hl h
    refine thenN ?_
    refine seqI (c := persist_pairs_3_c27) rfl ?_
    refine regI hl (Eq.mpr (persist_pairs_3_g40_e _ (fun i => l.getD i undef) _) h) ?_
    clear h hl
    intro l H hl h
    refine thenN ?_
    refine condI (c := persist_pairs_3_c29) rfl h ?_ ?_
    · clear h; intro h
      refine retI rfl ?_
      refine blkR ?_
      refine thenR ?_
      refine thenR ?_
      refine blkR ?_
      refine blkR ?_
      refine thenR ?_
      refine thenR ?_
      refine blkR ?_
      exact h
    · clear h; intro h
      refine skipI rfl ?_
      refine blkN ?_
      refine thenN ?_
      refine regI hl (Eq.mpr (persist_pairs_3_g41_e _ (fun i => l.getD i undef) _) h) ?_
      clear h hl
      intro l H hl h
      refine thenN ?_
      exact h
  · clear h; intro h
    refine exitI (c := persist_pairs_3_c22) rfl ?_
    refine thenX ?_
    refine thenX ?_
    refine blkX ?_
    refine blkN ?_
    refine thenN ?_
    refine regI hl (Eq.mpr (persist_pairs_3_g42_e _ (fun i => l.getD i undef) _) h) ?_
    clear h hl
    intro l H hl h
    refine thenN ?_
    exact h
def persist_pairs_3_l50 (x0 x1 x2 x3 x6 x9 x10 x11 x19 x20 x21 : Value) (K1 : Value → Value → Value → Value → Value → Value → Value →  Heap → Prop) (R : Value → Heap → Prop) (H : Heap) : Prop :=
  ∃ (I : Value → Heap → Prop) (μ : Value → Heap → Nat), I x21 H ∧ ∀ (y21 : Value) (H : Heap), I y21 H → persist_pairs_3_s37 x0 x1 x2 x3 x6 x9 x10 x11 x19 x20 y21 K1 (fun z0 z1 z2 z3 z6 z9 z10 z11 z19 z20 z21 H' => z0 = x0 ∧ z1 = x1 ∧ z2 = x2 ∧ z3 = x3 ∧ z6 = x6 ∧ z9 = x9 ∧ z10 = x10 ∧ z11 = x11 ∧ z19 = x19 ∧ z20 = x20 ∧ (I z21 H' ∧ μ z21 H' < μ y21 H)) R H
def persist_pairs_3_s33 (x0 x1 x2 x3 x9 x10 x11 : Value) (K1 : Value → Value → Value → Value → Value → Value → Value →  Heap → Prop) (R : Value → Heap → Prop) (H : Heap) : Prop :=
  persist_pairs_3_g34 (fun x0 x1 x2 x3 x9 x10 x11 x12 H => brV x12
  (persist_pairs_3_g35 (fun x0 x1 x2 x3 x5 x6 x9 x10 x11 H => persist_pairs_3_g36 (fun x0 x1 x2 x3 x6 x9 x10 x11 x19 x20 x21 H => persist_pairs_3_l50 x0 x1 x2 x3 x6 x9 x10 x11 x19 x20 x21 K1 R H) x0 x1 x2 x3 x5 x6 x9 x10 x11 H) x0 x1 x2 x3 x9 x10 x11 H)
  (R (.tuple #[]) H)) x0 x1 x2 x3 x9 x10 x11 H
theorem persist_pairs_3_s33_i (K1 : Value → Value → Value → Value → Value → Value → Value →  Heap → Prop) (R : Value → Heap → Prop) (l : List Value) (H : Heap) (hl : l.length = 55) (h : persist_pairs_3_s33 (l.getD 0 undef) (l.getD 1 undef) (l.getD 2 undef) (l.getD 3 undef) (l.getD 9 undef) (l.getD 10 undef) (l.getD 11 undef) K1 R H) : wpE tab P persist_pairs_3_pi persist_pairs_3_c5 (persist_pairs_3_q45 K1 R) l H := by
  refine seqI (c := persist_pairs_3_c5) rfl ?_
  refine regI hl (Eq.mpr (persist_pairs_3_g34_e _ (fun i => l.getD i undef) _) h) ?_
  clear h hl
  intro l H hl h
  refine thenN ?_
  refine seqI (c := persist_pairs_3_c7) rfl ?_
  refine condI (c := persist_pairs_3_c8) rfl h ?_ ?_
  · clear h; intro h
    refine skipI rfl ?_
    refine thenN ?_
    refine seqI (c := persist_pairs_3_c10) rfl ?_
    refine blockI (c := persist_pairs_3_c11) rfl ?_
    refine seqI (c := persist_pairs_3_c12) rfl ?_
    refine regI hl (Eq.mpr (persist_pairs_3_g35_e _ (fun i => l.getD i undef) _) h) ?_
    clear h hl
    intro l H hl h
    refine thenN ?_
    refine seqI (c := persist_pairs_3_c14) rfl ?_
    refine regI hl (Eq.mpr (persist_pairs_3_g36_e _ (fun i => l.getD i undef) _) h) ?_
    clear h hl
    intro l H hl h
    refine thenN ?_
    refine blockI (c := persist_pairs_3_c16) rfl ?_
    obtain ⟨I, μ, h0, hr⟩ := h
    refine loopI (c := persist_pairs_3_c17) rfl (fun l' H' => l'.getD 0 undef = l.getD 0 undef ∧ l'.getD 1 undef = l.getD 1 undef ∧ l'.getD 2 undef = l.getD 2 undef ∧ l'.getD 3 undef = l.getD 3 undef ∧ l'.getD 6 undef = l.getD 6 undef ∧ l'.getD 9 undef = l.getD 9 undef ∧ l'.getD 10 undef = l.getD 10 undef ∧ l'.getD 11 undef = l.getD 11 undef ∧ l'.getD 19 undef = l.getD 19 undef ∧ l'.getD 20 undef = l.getD 20 undef ∧ I (l'.getD 21 undef) H') (fun l' H' => μ (l'.getD 21 undef) H') hl ⟨rfl, rfl, rfl, rfl, rfl, rfl, rfl, rfl, rfl, rfl, h0⟩ ?_
    rintro l1 H1 hl1 ⟨e0, e1, e2, e3, e6, e9, e10, e11, e19, e20, hI⟩
    have hb := hr (l1.getD 21 undef) H1 hI
    rw [← e0, ← e1, ← e2, ← e3, ← e6, ← e9, ← e10, ← e11, ← e19, ← e20] at hb
    refine wpE_mono _ l1 H1 hl1 ?_ (persist_pairs_3_s37_i K1 _ R l1 H1 hl1 hb)
    intro e l2 H2 hl2 hq
    cases e with
    | normal => exact fun _ => (by obtain ⟨d0, d1, d2, d3, d6, d9, d10, d11, d19, d20, g1, g2⟩ := hq; exact ⟨⟨d0.trans e0, d1.trans e1, d2.trans e2, d3.trans e3, d6.trans e6, d9.trans e9, d10.trans e10, d11.trans e11, d19.trans e19, d20.trans e20, g1⟩, g2⟩)
    | _ => exact hq
  · clear h; intro h
    refine exitI (c := persist_pairs_3_c9) rfl ?_
    refine thenX ?_
    refine thenX ?_
    refine blkX ?_
    exact h
def persist_pairs_3_l51 (x0 x1 x2 x3 x9 x10 x11 : Value) (R : Value → Heap → Prop) (H : Heap) : Prop :=
  ∃ (I : Value → Heap → Prop) (μ : Value → Heap → Nat), I x11 H ∧ ∀ (y11 : Value) (H : Heap), I y11 H → persist_pairs_3_s33 x0 x1 x2 x3 x9 x10 y11 (fun z0 z1 z2 z3 z9 z10 z11 H' => z0 = x0 ∧ z1 = x1 ∧ z2 = x2 ∧ z3 = x3 ∧ z9 = x9 ∧ z10 = x10 ∧ (I z11 H' ∧ μ z11 H' < μ y11 H)) R H
def persist_pairs_3 (x0 x1 x2 x3 : Value) (R : Value → Heap → Prop) (H : Heap) : Prop :=
  persist_pairs_3_g32 (fun x0 x1 x2 x3 x9 x10 x11 H => persist_pairs_3_l51 x0 x1 x2 x3 x9 x10 x11 R H) x0 x1 x2 x3 H
theorem persist_pairs_3_i (R : Value → Heap → Prop) (x0 x1 x2 x3 : Value) (H : Heap) (h : persist_pairs_3 x0 x1 x2 x3 R H) : wpE tab P persist_pairs_3_pi persist_pairs_3_c1 (retQ tab persist_pairs_3_rs R) [x0, x1, x2, x3, undef, undef, undef, undef, undef, undef, undef, undef, undef, undef, undef, undef, undef, undef, undef, undef, undef, undef, undef, undef, undef, undef, undef, undef, undef, undef, undef, undef, undef, undef, undef, undef, undef, undef, undef, undef, undef, undef, undef, undef, undef, undef, undef, undef, undef, undef, undef, undef, undef, undef, undef] H := by
  obtain ⟨l, hl, el⟩ : ∃ l : List Value, l.length = 55 ∧ l = [x0, x1, x2, x3, undef, undef, undef, undef, undef, undef, undef, undef, undef, undef, undef, undef, undef, undef, undef, undef, undef, undef, undef, undef, undef, undef, undef, undef, undef, undef, undef, undef, undef, undef, undef, undef, undef, undef, undef, undef, undef, undef, undef, undef, undef, undef, undef, undef, undef, undef, undef, undef, undef, undef, undef] := ⟨_, rfl, rfl⟩
  rw [← el]
  have h : (fun (x0 x1 x2 x3 : Value) => persist_pairs_3_g32 (fun x0 x1 x2 x3 x9 x10 x11 H => persist_pairs_3_l51 x0 x1 x2 x3 x9 x10 x11 R H) x0 x1 x2 x3 H) (l.getD 0 undef) (l.getD 1 undef) (l.getD 2 undef) (l.getD 3 undef) := by rw [el]; exact h
  clear el
  refine seqI (c := persist_pairs_3_c1) rfl ?_
  refine regI hl (Eq.mpr (persist_pairs_3_g32_e _ (fun i => l.getD i undef) _) h) ?_
  clear h hl
  intro l H hl h
  refine thenN ?_
  refine blockI (c := persist_pairs_3_c3) rfl ?_
  obtain ⟨I, μ, h0, hr⟩ := h
  refine loopI (c := persist_pairs_3_c4) rfl (fun l' H' => l'.getD 0 undef = l.getD 0 undef ∧ l'.getD 1 undef = l.getD 1 undef ∧ l'.getD 2 undef = l.getD 2 undef ∧ l'.getD 3 undef = l.getD 3 undef ∧ l'.getD 9 undef = l.getD 9 undef ∧ l'.getD 10 undef = l.getD 10 undef ∧ I (l'.getD 11 undef) H') (fun l' H' => μ (l'.getD 11 undef) H') hl ⟨rfl, rfl, rfl, rfl, rfl, rfl, h0⟩ ?_
  rintro l1 H1 hl1 ⟨e0, e1, e2, e3, e9, e10, hI⟩
  have hb := hr (l1.getD 11 undef) H1 hI
  rw [← e0, ← e1, ← e2, ← e3, ← e9, ← e10] at hb
  refine wpE_mono _ l1 H1 hl1 ?_ (persist_pairs_3_s33_i _ R l1 H1 hl1 hb)
  intro e l2 H2 hl2 hq
  cases e with
  | normal => exact fun _ => (by obtain ⟨d0, d1, d2, d3, d9, d10, g1, g2⟩ := hq; exact ⟨⟨d0.trans e0, d1.trans e1, d2.trans e2, d3.trans e3, d9.trans e9, d10.trans e10, g1⟩, g2⟩)
  | _ => exact hq
theorem persist_pairs_3_ok : okB persist_pairs_3_pi persist_pairs_3_c1 = true := by kernel_rfl
theorem persist_pairs_3_ev0 (x0 x1 x2 x3 : Value) (R : Value → Heap → Prop) (H : Heap) (h : persist_pairs_3 x0 x1 x2 x3 R H) : EvL P N.persist_pairs_3 #[x0, x1, x2, x3] H R :=
  EvF_intro (args := [x0, x1, x2, x3]) (k := 51) (rs := persist_pairs_3_rs) tab_ok mixed Try.func48 (show Try.f48.body = some persist_pairs_3_c1 by kernel_rfl) Try.call48 Try.ntmps48 (by kernel_rfl) (okCode_of _ persist_pairs_3_ok) rfl (persist_pairs_3_i R x0 x1 x2 x3 H h)
theorem persist_pairs_3_ev (x0 x1 x2 x3 : Value) (R : Value → Heap → Prop) (H : Heap) (h : persist_pairs_3 x0 x1 x2 x3 R H) : EvF P N.persist_pairs_3 #[x0, x1, x2, x3] H R := .inl (persist_pairs_3_ev0 x0 x1 x2 x3 R H h)
/- 49: sounder/rtt.New -/
def rtt_New_rs : List ResultVar := [.cell 2 36, .tmp 3]
noncomputable def rtt_New_c2 : Code := subC (bodyC Try.f49) [0]
noncomputable def rtt_New_c5 : Code := subC (bodyC Try.f49) [1, 0, 0]
noncomputable def rtt_New_c8 : Code := subC (bodyC Try.f49) [1, 0, 1, 0, 0]
noncomputable def rtt_New_c7 : Code := .seq rtt_New_c8 Code.ret
noncomputable def rtt_New_c6 : Code := .cond (.tmp 9) rtt_New_c7 Code.skip
noncomputable def rtt_New_c4 : Code := .seq rtt_New_c5 rtt_New_c6
noncomputable def rtt_New_c10 : Code := subC (bodyC Try.f49) [1, 1, 0]
noncomputable def rtt_New_c9 : Code := .seq rtt_New_c10 Code.ret
noncomputable def rtt_New_c3 : Code := .seq rtt_New_c4 rtt_New_c9
noncomputable def rtt_New_c1 : Code := .seq rtt_New_c2 rtt_New_c3
def rtt_New_pi (_ : Nat) : Pl := .nil
def rtt_New_g11 (S : Value → Value → Heap → Prop) (x0 : Value) (H : Heap) : Prop :=
  newE 36 #[(.int .i64 0), (.int .i64 0), (.int .i64 0), (.int .i64 0), (.int .i64 0)] H fun v2 H1 =>
  S x0 v2 H1
theorem rtt_New_g11_e (S : Value → Value → Heap → Prop) (x : Nat → Value) (H : Heap) : wpE tab P rtt_New_pi rtt_New_c2 (nQ fun l H => S (l.getD 0 undef) (l.getD 2 undef) H) ((List.range 15).map x) H = rtt_New_g11 S (x 0) H := by kernel_rfl
def rtt_New_g12 (S : Value → Value → Value → Heap → Prop) (x0 x2 : Value) (H : Heap) : Prop :=
  bnd (binV .int .lss x0 (.int .i64 1000000)) fun v5 =>
  brV v5
  (S x0 x2 (.bool true) H)
  (bnd (binV .int .gtr x0 (.int .i64 60000000000)) fun v8 =>
  S x0 x2 v8 H)
theorem rtt_New_g12_e (S : Value → Value → Value → Heap → Prop) (x : Nat → Value) (H : Heap) : wpE tab P rtt_New_pi rtt_New_c5 (nQ fun l H => S (l.getD 0 undef) (l.getD 2 undef) (l.getD 9 undef) H) ((List.range 15).map x) H = rtt_New_g12 S (x 0) (x 2) H := by kernel_rfl
def rtt_New_g13 (S : Value → Value → Heap → Prop) (x2 : Value) (H : Heap) : Prop :=
  bnd (buildV #[(.int .i64 0), (.int .i64 0), (.int .i64 0), (.int .i64 0), (.int .i64 0)] (places [(0, 1), (1, 1), (2, 1), (3, 1), (4, 1)]) []) fun v10 =>
  bnd (stE 5 x2 v10 H) fun H1 =>
  S x2 (.int .i64 9) H1
theorem rtt_New_g13_e (S : Value → Value → Heap → Prop) (x : Nat → Value) (H : Heap) : wpE tab P rtt_New_pi rtt_New_c8 (nQ fun l H => S (l.getD 2 undef) (l.getD 3 undef) H) ((List.range 15).map x) H = rtt_New_g13 S (x 2) H := by kernel_rfl
def rtt_New_g14 (S : Value → Value → Heap → Prop) (x0 x2 : Value) (H : Heap) : Prop :=
  bnd (binV .int .quo x0 (.int .i64 2)) fun v13 =>
  bnd (buildV #[(.int .i64 0), (.int .i64 0), (.int .i64 0), (.int .i64 0), (.int .i64 0)] (places [(0, 1), (1, 1), (2, 1), (3, 1), (4, 1)]) [(2, x0), (3, v13), (4, (.int .i64 (-1)))]) fun v14 =>
  bnd (stE 5 x2 v14 H) fun H1 =>
  S x2 (.int .i64 0) H1
theorem rtt_New_g14_e (S : Value → Value → Heap → Prop) (x : Nat → Value) (H : Heap) : wpE tab P rtt_New_pi rtt_New_c10 (nQ fun l H => S (l.getD 2 undef) (l.getD 3 undef) H) ((List.range 15).map x) H = rtt_New_g14 S (x 0) (x 2) H := by kernel_rfl
def rtt_New (x0 : Value) (R : Value → Heap → Prop) (H : Heap) : Prop :=
  rtt_New_g11 (fun x0 x2 H => rtt_New_g12 (fun x0 x2 x9 H => brV x9
  (rtt_New_g13 (fun x2 x3 H => bnd (ldE true 5 x2 H) fun r0 =>
  R (.tuple #[r0, x3]) H) x2 H)
  (rtt_New_g14 (fun x2 x3 H => bnd (ldE true 5 x2 H) fun r0 =>
  R (.tuple #[r0, x3]) H) x0 x2 H)) x0 x2 H) x0 H
theorem rtt_New_i (R : Value → Heap → Prop) (x0 : Value) (H : Heap) (h : rtt_New x0 R H) : wpE tab P rtt_New_pi rtt_New_c1 (retQ tab rtt_New_rs R) [x0, undef, undef, undef, undef, undef, undef, undef, undef, undef, undef, undef, undef, undef, undef] H := by
  obtain ⟨l, hl, el⟩ : ∃ l : List Value, l.length = 15 ∧ l = [x0, undef, undef, undef, undef, undef, undef, undef, undef, undef, undef, undef, undef, undef, undef] := ⟨_, rfl, rfl⟩
  rw [← el]
  have h : (fun (x0 : Value) => rtt_New_g11 (fun x0 x2 H => rtt_New_g12 (fun x0 x2 x9 H => brV x9
(rtt_New_g13 (fun x2 x3 H => bnd (ldE true 5 x2 H) fun r0 =>
R (.tuple #[r0, x3]) H) x2 H)
(rtt_New_g14 (fun x2 x3 H => bnd (ldE true 5 x2 H) fun r0 =>
R (.tuple #[r0, x3]) H) x0 x2 H)) x0 x2 H) x0 H) (l.getD 0 undef) := by rw [el]; exact h
  clear el
  refine seqI (c := rtt_New_c1) rfl ?_
  refine regI hl (Eq.mpr (rtt_New_g11_e _ (fun i => l.getD i undef) _) h) ?_
  clear h hl
  intro l H hl h
  refine thenN ?_
  refine seqI (c := rtt_New_c3) rfl ?_
  refine seqI (c := rtt_New_c4) rfl ?_
  refine regI hl (Eq.mpr (rtt_New_g12_e _ (fun i => l.getD i undef) _) h) ?_
  clear h hl
  intro l H hl h
  refine thenN ?_
  refine condI (c := rtt_New_c6) rfl h ?_ ?_
  · clear h; intro h
    refine seqI (c := rtt_New_c7) rfl ?_
    refine regI hl (Eq.mpr (rtt_New_g13_e _ (fun i => l.getD i undef) _) h) ?_
    clear h hl
    intro l H hl h
    refine thenN ?_
    refine retI rfl ?_
    refine thenR ?_
    exact h
  · clear h; intro h
    refine skipI rfl ?_
    refine thenN ?_
    refine seqI (c := rtt_New_c9) rfl ?_
    refine regI hl (Eq.mpr (rtt_New_g14_e _ (fun i => l.getD i undef) _) h) ?_
    clear h hl
    intro l H hl h
    refine thenN ?_
    refine retI rfl ?_
    exact h
theorem rtt_New_ok : okB rtt_New_pi rtt_New_c1 = true := by kernel_rfl
theorem rtt_New_ev0 (x0 : Value) (R : Value → Heap → Prop) (H : Heap) (h : rtt_New x0 R H) : EvL P N.rtt_New #[x0] H R :=
  EvF_intro (args := [x0]) (k := 14) (rs := rtt_New_rs) tab_ok mixed Try.func49 (show Try.f49.body = some rtt_New_c1 by kernel_rfl) Try.call49 Try.ntmps49 (by kernel_rfl) (okCode_of _ rtt_New_ok) rfl (rtt_New_i R x0 H h)
theorem rtt_New_ev (x0 : Value) (R : Value → Heap → Prop) (H : Heap) (h : rtt_New x0 R H) : EvF P N.rtt_New #[x0] H R := .inl (rtt_New_ev0 x0 R H h)
/- 50: sounder/rtt.isTime -/
def rtt_isTime_rs : List ResultVar := [.tmp 2]
noncomputable def rtt_isTime_c2 : Code := subC (bodyC Try.f50) [0]
noncomputable def rtt_isTime_c5 : Code := subC (bodyC Try.f50) [1, 0, 0]
noncomputable def rtt_isTime_c9 : Code := subC (bodyC Try.f50) [1, 0, 1, 0, 0, 0]
noncomputable def rtt_isTime_c12 : Code := .exit 0
noncomputable def rtt_isTime_c11 : Code := .cond (.tmp 8) Code.skip rtt_isTime_c12
noncomputable def rtt_isTime_c16 : Code := subC (bodyC Try.f50) [1, 0, 1, 0, 0, 1, 1, 0, 0, 0]
noncomputable def rtt_isTime_c18 : Code := subC (bodyC Try.f50) [1, 0, 1, 0, 0, 1, 1, 0, 0, 1, 0]
noncomputable def rtt_isTime_c21 : Code := subC (bodyC Try.f50) [1, 0, 1, 0, 0, 1, 1, 0, 0, 1, 1, 0, 0]
noncomputable def rtt_isTime_c20 : Code := .seq rtt_isTime_c21 Code.ret
noncomputable def rtt_isTime_c19 : Code := .cond (.tmp 16) rtt_isTime_c20 Code.skip
noncomputable def rtt_isTime_c17 : Code := .seq rtt_isTime_c18 rtt_isTime_c19
noncomputable def rtt_isTime_c15 : Code := .seq rtt_isTime_c16 rtt_isTime_c17
noncomputable def rtt_isTime_c14 : Code := .block 1 rtt_isTime_c15
noncomputable def rtt_isTime_c22 : Code := subC (bodyC Try.f50) [1, 0, 1, 0, 0, 1, 1, 1]
noncomputable def rtt_isTime_c13 : Code := .seq rtt_isTime_c14 rtt_isTime_c22
noncomputable def rtt_isTime_c10 : Code := .seq rtt_isTime_c11 rtt_isTime_c13
noncomputable def rtt_isTime_c8 : Code := .seq rtt_isTime_c9 rtt_isTime_c10
noncomputable def rtt_isTime_c7 : Code := .loop rtt_isTime_c8
noncomputable def rtt_isTime_c6 : Code := .block 0 rtt_isTime_c7
noncomputable def rtt_isTime_c4 : Code := .seq rtt_isTime_c5 rtt_isTime_c6
noncomputable def rtt_isTime_c24 : Code := subC (bodyC Try.f50) [1, 1, 0]
noncomputable def rtt_isTime_c23 : Code := .seq rtt_isTime_c24 Code.ret
noncomputable def rtt_isTime_c3 : Code := .seq rtt_isTime_c4 rtt_isTime_c23
noncomputable def rtt_isTime_c1 : Code := .seq rtt_isTime_c2 rtt_isTime_c3
def rtt_isTime_pi (_ : Nat) : Pl := .nil
def rtt_isTime_g25 (S : Value → Heap → Prop) (x0 : Value) (H : Heap) : Prop :=
  S x0 H
theorem rtt_isTime_g25_e (S : Value → Heap → Prop) (x : Nat → Value) (H : Heap) : wpE tab P rtt_isTime_pi rtt_isTime_c2 (nQ fun l H => S (l.getD 0 undef) H) ((List.range 18).map x) H = rtt_isTime_g25 S (x 0) H := by kernel_rfl
def rtt_isTime_g26 (S : Value → Value → Value → Heap → Prop) (x0 : Value) (H : Heap) : Prop :=
  bnd (lenV x0) fun v6 =>
  S x0 v6 (.int .i64 0) H
theorem rtt_isTime_g26_e (S : Value → Value → Value → Heap → Prop) (x : Nat → Value) (H : Heap) : wpE tab P rtt_isTime_pi rtt_isTime_c5 (nQ fun l H => S (l.getD 5 undef) (l.getD 6 undef) (l.getD 7 undef) H) ((List.range 18).map x) H = rtt_isTime_g26 S (x 0) H := by kernel_rfl
def rtt_isTime_g28 (S : Value → Value → Value → Value → Heap → Prop) (x5 x6 x7 : Value) (H : Heap) : Prop :=
  bnd (binV .int .lss x7 x6) fun v8 =>
  S x5 x6 x7 v8 H
theorem rtt_isTime_g28_e (S : Value → Value → Value → Value → Heap → Prop) (x : Nat → Value) (H : Heap) : wpE tab P rtt_isTime_pi rtt_isTime_c9 (nQ fun l H => S (l.getD 5 undef) (l.getD 6 undef) (l.getD 7 undef) (l.getD 8 undef) H) ((List.range 18).map x) H = rtt_isTime_g28 S (x 5) (x 6) (x 7) H := by kernel_rfl
def rtt_isTime_g29 (S : Value → Value → Value → Value → Heap → Prop) (x5 x6 x7 : Value) (H : Heap) : Prop :=
  bnd (ixSV 1 x5 x7) fun v9 =>
  bnd (ldE false 1 v9 H) fun v10 =>
  S v10 x5 x6 x7 H
theorem rtt_isTime_g29_e (S : Value → Value → Value → Value → Heap → Prop) (x : Nat → Value) (H : Heap) : wpE tab P rtt_isTime_pi rtt_isTime_c16 (nQ fun l H => S (l.getD 4 undef) (l.getD 5 undef) (l.getD 6 undef) (l.getD 7 undef) H) ((List.range 18).map x) H = rtt_isTime_g29 S (x 5) (x 6) (x 7) H := by kernel_rfl
def rtt_isTime_g30 (S : Value → Value → Value → Value → Heap → Prop) (x4 x5 x6 x7 : Value) (H : Heap) : Prop :=
  bnd (binV .int .lss x4 (.int .i64 0)) fun v12 =>
  brV v12
  (S x5 x6 x7 (.bool true) H)
  (bnd (binV .int .gtr x4 (.int .i64 9007199254740991)) fun v15 =>
  S x5 x6 x7 v15 H)
theorem rtt_isTime_g30_e (S : Value → Value → Value → Value → Heap → Prop) (x : Nat → Value) (H : Heap) : wpE tab P rtt_isTime_pi rtt_isTime_c18 (nQ fun l H => S (l.getD 5 undef) (l.getD 6 undef) (l.getD 7 undef) (l.getD 16 undef) H) ((List.range 18).map x) H = rtt_isTime_g30 S (x 4) (x 5) (x 6) (x 7) H := by kernel_rfl
def rtt_isTime_g31 (S : Value → Heap → Prop) (H : Heap) : Prop :=
  S (.bool false) H
theorem rtt_isTime_g31_e (S : Value → Heap → Prop) (x : Nat → Value) (H : Heap) : wpE tab P rtt_isTime_pi rtt_isTime_c21 (nQ fun l H => S (l.getD 2 undef) H) ((List.range 18).map x) H = rtt_isTime_g31 S  H := by kernel_rfl
def rtt_isTime_g32 (S : Value → Value → Value → Heap → Prop) (x5 x6 x7 : Value) (H : Heap) : Prop :=
  bnd (binV .int .add x7 (.int .i64 1)) fun v17 =>
  S x5 x6 v17 H
theorem rtt_isTime_g32_e (S : Value → Value → Value → Heap → Prop) (x : Nat → Value) (H : Heap) : wpE tab P rtt_isTime_pi rtt_isTime_c22 (nQ fun l H => S (l.getD 5 undef) (l.getD 6 undef) (l.getD 7 undef) H) ((List.range 18).map x) H = rtt_isTime_g32 S (x 5) (x 6) (x 7) H := by kernel_rfl
def rtt_isTime_g33 (S : Value → Heap → Prop) (H : Heap) : Prop :=
  S (.bool true) H
theorem rtt_isTime_g33_e (S : Value → Heap → Prop) (x : Nat → Value) (H : Heap) : wpE tab P rtt_isTime_pi rtt_isTime_c24 (nQ fun l H => S (l.getD 2 undef) H) ((List.range 18).map x) H = rtt_isTime_g33 S  H := by kernel_rfl
def rtt_isTime_s27 (x5 x6 x7 : Value) (K1 : Value → Value → Value →  Heap → Prop) (R : Value → Heap → Prop) (H : Heap) : Prop :=
  rtt_isTime_g28 (fun x5 x6 x7 x8 H => brV x8
  (rtt_isTime_g29 (fun x4 x5 x6 x7 H => rtt_isTime_g30 (fun x5 x6 x7 x16 H => brV x16
  (rtt_isTime_g31 (fun x2 H => R x2 H) H)
  (rtt_isTime_g32 (fun x5 x6 x7 H => K1 x5 x6 x7 H) x5 x6 x7 H)) x4 x5 x6 x7 H) x5 x6 x7 H)
  (rtt_isTime_g33 (fun x2 H => R x2 H) H)) x5 x6 x7 H
noncomputable def rtt_isTime_q34 (R : Value → Heap → Prop) : Exit → List Value → Heap → Prop := (retQ tab rtt_isTime_rs R)
noncomputable def rtt_isTime_q35 (R : Value → Heap → Prop) : Exit → List Value → Heap → Prop := (thenE (fun l H => wpE tab P rtt_isTime_pi rtt_isTime_c23 (rtt_isTime_q34 R) l H) (rtt_isTime_q34 R))
noncomputable def rtt_isTime_q36 (R : Value → Heap → Prop) : Exit → List Value → Heap → Prop := (blkE 0 (rtt_isTime_q35 R))
noncomputable def rtt_isTime_q37 (K1 : Value → Value → Value →  Heap → Prop) (R : Value → Heap → Prop) : Exit → List Value → Heap → Prop := (thenE (fun l H => K1 (l.getD 5 undef) (l.getD 6 undef) (l.getD 7 undef) H) (rtt_isTime_q36 R))
theorem rtt_isTime_s27_i (K1 : Value → Value → Value →  Heap → Prop) (R : Value → Heap → Prop) (l : List Value) (H : Heap) (hl : l.length = 18) (h : rtt_isTime_s27 (l.getD 5 undef) (l.getD 6 undef) (l.getD 7 undef) K1 R H) : wpE tab P rtt_isTime_pi rtt_isTime_c8 (rtt_isTime_q37 K1 R) l H := by
  refine seqI (c := rtt_isTime_c8) rfl ?_
  refine regI hl (Eq.mpr (rtt_isTime_g28_e _ (fun i => l.getD i undef) _) h) ?_
  clear h hl
  intro l H hl h
  refine thenN ?_
  refine seqI (c := rtt_isTime_c10) rfl ?_
  refine condI (c := rtt_isTime_c11) rfl h ?_ ?_
  · clear h; intro h
    refine skipI rfl ?_
    refine thenN ?_
    refine seqI (c := rtt_isTime_c13) rfl ?_
    refine blockI (c := rtt_isTime_c14) rfl ?_
    refine seqI (c := rtt_isTime_c15) rfl ?_
    refine regI hl (Eq.mpr (rtt_isTime_g29_e _ (fun i => l.getD i undef) _) h) ?_
    clear h hl
    intro l H hl h
    refine thenN ?_
    refine seqI (c := rtt_isTime_c17) rfl ?_
    refine regI hl (Eq.mpr (rtt_isTime_g30_e _ (fun i => l.getD i undef) _) h) ?_
    clear h hl
    intro l H hl h
    refine thenN ?_
    refine condI (c := rtt_isTime_c19) rfl h ?_ ?_
    · clear h; intro h
      refine seqI (c := rtt_isTime_c20) rfl ?_
      refine regI hl (Eq.mpr (rtt_isTime_g31_e _ (fun i => l.getD i undef) _) h) ?_
      clear h hl
      intro l H hl h
      refine thenN ?_
      refine retI rfl ?_
      refine blkR ?_
      refine thenR ?_
      refine thenR ?_
      refine blkR ?_
      refine thenR ?_
      exact h
    · clear h; intro h
      refine skipI rfl ?_
      refine blkN ?_
      refine thenN ?_
      refine regI hl (Eq.mpr (rtt_isTime_g32_e _ (fun i => l.getD i undef) _) h) ?_
      clear h hl
      intro l H hl h
      refine thenN ?_
      exact h
  · clear h; intro h
    refine exitI (c := rtt_isTime_c12) rfl ?_
    refine thenX ?_
    refine thenX ?_
    refine blkX ?_
    refine thenN ?_
    refine seqI (c := rtt_isTime_c23) rfl ?_
    refine regI hl (Eq.mpr (rtt_isTime_g33_e _ (fun i => l.getD i undef) _) h) ?_
    clear h hl
    intro l H hl h
    refine thenN ?_
    refine retI rfl ?_
    exact h
def rtt_isTime_l38 (x5 x6 x7 : Value) (R : Value → Heap → Prop) (H : Heap) : Prop :=
  ∃ (I : Value → Heap → Prop) (μ : Value → Heap → Nat), I x7 H ∧ ∀ (y7 : Value) (H : Heap), I y7 H → rtt_isTime_s27 x5 x6 y7 (fun z5 z6 z7 H' => z5 = x5 ∧ z6 = x6 ∧ (I z7 H' ∧ μ z7 H' < μ y7 H)) R H
def rtt_isTime (x0 : Value) (R : Value → Heap → Prop) (H : Heap) : Prop :=
  rtt_isTime_g25 (fun x0 H => rtt_isTime_g26 (fun x5 x6 x7 H => rtt_isTime_l38 x5 x6 x7 R H) x0 H) x0 H
theorem rtt_isTime_i (R : Value → Heap → Prop) (x0 : Value) (H : Heap) (h : rtt_isTime x0 R H) : wpE tab P rtt_isTime_pi rtt_isTime_c1 (retQ tab rtt_isTime_rs R) [x0, undef, undef, undef, undef, undef, undef, undef, undef, undef, undef, undef, undef, undef, undef, undef, undef, undef] H := by
  obtain ⟨l, hl, el⟩ : ∃ l : List Value, l.length = 18 ∧ l = [x0, undef, undef, undef, undef, undef, undef, undef, undef, undef, undef, undef, undef, undef, undef, undef, undef, undef] := ⟨_, rfl, rfl⟩
  rw [← el]
  have h : (fun (x0 : Value) => rtt_isTime_g25 (fun x0 H => rtt_isTime_g26 (fun x5 x6 x7 H => rtt_isTime_l38 x5 x6 x7 R H) x0 H) x0 H) (l.getD 0 undef) := by rw [el]; exact h
  clear el
  refine seqI (c := rtt_isTime_c1) rfl ?_
  refine regI hl (Eq.mpr (rtt_isTime_g25_e _ (fun i => l.getD i undef) _) h) ?_
  clear h hl
  intro l H hl h
  refine thenN ?_
  refine seqI (c := rtt_isTime_c3) rfl ?_
  refine seqI (c := rtt_isTime_c4) rfl ?_
  refine regI hl (Eq.mpr (rtt_isTime_g26_e _ (fun i => l.getD i undef) _) h) ?_
  clear h hl
  intro l H hl h
  refine thenN ?_
  refine blockI (c := rtt_isTime_c6) rfl ?_
  obtain ⟨I, μ, h0, hr⟩ := h
  refine loopI (c := rtt_isTime_c7) rfl (fun l' H' => l'.getD 5 undef = l.getD 5 undef ∧ l'.getD 6 undef = l.getD 6 undef ∧ I (l'.getD 7 undef) H') (fun l' H' => μ (l'.getD 7 undef) H') hl ⟨rfl, rfl, h0⟩ ?_
  rintro l1 H1 hl1 ⟨e5, e6, hI⟩
  have hb := hr (l1.getD 7 undef) H1 hI
  rw [← e5, ← e6] at hb
  refine wpE_mono _ l1 H1 hl1 ?_ (rtt_isTime_s27_i _ R l1 H1 hl1 hb)
  intro e l2 H2 hl2 hq
  cases e with
  | normal => exact fun _ => (by obtain ⟨d5, d6, g1, g2⟩ := hq; exact ⟨⟨d5.trans e5, d6.trans e6, g1⟩, g2⟩)
  | _ => exact hq
theorem rtt_isTime_ok : okB rtt_isTime_pi rtt_isTime_c1 = true := by kernel_rfl
theorem rtt_isTime_ev0 (x0 : Value) (R : Value → Heap → Prop) (H : Heap) (h : rtt_isTime x0 R H) : EvL P N.rtt_isTime #[x0] H R :=
  EvF_intro (args := [x0]) (k := 17) (rs := rtt_isTime_rs) tab_ok mixed Try.func50 (show Try.f50.body = some rtt_isTime_c1 by kernel_rfl) Try.call50 Try.ntmps50 (by kernel_rfl) (okCode_of _ rtt_isTime_ok) rfl (rtt_isTime_i R x0 H h)
theorem rtt_isTime_ev (x0 : Value) (R : Value → Heap → Prop) (H : Heap) (h : rtt_isTime x0 R H) : EvF P N.rtt_isTime #[x0] H R := .inl (rtt_isTime_ev0 x0 R H h)
/- 51: sounder/pto.time -/
def pto_time_rs : List ResultVar := [.tmp 2]
noncomputable def pto_time_c2 : Code := subC (bodyC Try.f51) [0]
noncomputable def pto_time_c4 : Code := subC (bodyC Try.f51) [1, 0]
noncomputable def pto_time_c3 : Code := .seq pto_time_c4 Code.ret
noncomputable def pto_time_c1 : Code := .seq pto_time_c2 pto_time_c3
def pto_time_pi (_ : Nat) : Pl := .nil
def pto_time_g5 (S : Value → Heap → Prop) (x0 : Value) (H : Heap) : Prop :=
  S x0 H
theorem pto_time_g5_e (S : Value → Heap → Prop) (x : Nat → Value) (H : Heap) : wpE tab P pto_time_pi pto_time_c2 (nQ fun l H => S (l.getD 0 undef) H) ((List.range 6).map x) H = pto_time_g5 S (x 0) H := by kernel_rfl
def pto_time_g6 (S : Value → Heap → Prop) (x0 : Value) (H : Heap) : Prop :=
  bnd (foldV min2V x0 [(.int .i64 9007199254740991)]) fun v4 =>
  bnd (foldV max2V (.int .i64 0) [v4]) fun v5 =>
  S v5 H
theorem pto_time_g6_e (S : Value → Heap → Prop) (x : Nat → Value) (H : Heap) : wpE tab P pto_time_pi pto_time_c4 (nQ fun l H => S (l.getD 2 undef) H) ((List.range 6).map x) H = pto_time_g6 S (x 0) H := by kernel_rfl
def pto_time (x0 : Value) (R : Value → Heap → Prop) (H : Heap) : Prop :=
  pto_time_g5 (fun x0 H => pto_time_g6 (fun x2 H => R x2 H) x0 H) x0 H
theorem pto_time_i (R : Value → Heap → Prop) (x0 : Value) (H : Heap) (h : pto_time x0 R H) : wpE tab P pto_time_pi pto_time_c1 (retQ tab pto_time_rs R) [x0, undef, undef, undef, undef, undef] H := by
  obtain ⟨l, hl, el⟩ : ∃ l : List Value, l.length = 6 ∧ l = [x0, undef, undef, undef, undef, undef] := ⟨_, rfl, rfl⟩
  rw [← el]
  have h : (fun (x0 : Value) => pto_time_g5 (fun x0 H => pto_time_g6 (fun x2 H => R x2 H) x0 H) x0 H) (l.getD 0 undef) := by rw [el]; exact h
  clear el
  refine seqI (c := pto_time_c1) rfl ?_
  refine regI hl (Eq.mpr (pto_time_g5_e _ (fun i => l.getD i undef) _) h) ?_
  clear h hl
  intro l H hl h
  refine thenN ?_
  refine seqI (c := pto_time_c3) rfl ?_
  refine regI hl (Eq.mpr (pto_time_g6_e _ (fun i => l.getD i undef) _) h) ?_
  clear h hl
  intro l H hl h
  refine thenN ?_
  refine retI rfl ?_
  exact h
theorem pto_time_ok : okB pto_time_pi pto_time_c1 = true := by kernel_rfl
theorem pto_time_ev0 (x0 : Value) (R : Value → Heap → Prop) (H : Heap) (h : pto_time x0 R H) : EvL P N.pto_time #[x0] H R :=
  EvF_intro (args := [x0]) (k := 5) (rs := pto_time_rs) tab_ok mixed Try.func51 (show Try.f51.body = some pto_time_c1 by kernel_rfl) Try.call51 Try.ntmps51 (by kernel_rfl) (okCode_of _ pto_time_ok) rfl (pto_time_i R x0 H h)
theorem pto_time_ev (x0 : Value) (R : Value → Heap → Prop) (H : Heap) (h : pto_time x0 R H) : EvF P N.pto_time #[x0] H R := .inl (pto_time_ev0 x0 R H h)
/- 52: sounder/pto.Base -/
def pto_Base_rs : List ResultVar := [.tmp 6]
noncomputable def pto_Base_c2 : Code := subC (bodyC Try.f52) [0]
noncomputable def pto_Base_c5 : Code := subC (bodyC Try.f52) [1, 0, 0]
noncomputable def pto_Base_c8 : Code := subC (bodyC Try.f52) [1, 0, 1, 0, 0]
noncomputable def pto_Base_c7 : Code := .seq pto_Base_c8 Code.ret
noncomputable def pto_Base_c6 : Code := .cond (.tmp 18) pto_Base_c7 Code.skip
noncomputable def pto_Base_c4 : Code := .seq pto_Base_c5 pto_Base_c6
noncomputable def pto_Base_c10 : Code := subC (bodyC Try.f52) [1, 1, 0]
noncomputable def pto_Base_c13 : Code := subC (bodyC Try.f52) [1, 1, 1, 0, 0]
noncomputable def pto_Base_c15 : Code := subC (bodyC Try.f52) [1, 1, 1, 0, 1, 0]
noncomputable def pto_Base_c14 : Code := .cond (.tmp 27) pto_Base_c15 Code.skip
noncomputable def pto_Base_c12 : Code := .seq pto_Base_c13 pto_Base_c14
noncomputable def pto_Base_c17 : Code := subC (bodyC Try.f52) [1, 1, 1, 1, 0]
noncomputable def pto_Base_c16 : Code := .seq pto_Base_c17 Code.ret
noncomputable def pto_Base_c11 : Code := .seq pto_Base_c12 pto_Base_c16
noncomputable def pto_Base_c9 : Code := .seq pto_Base_c10 pto_Base_c11
noncomputable def pto_Base_c3 : Code := .seq pto_Base_c4 pto_Base_c9
noncomputable def pto_Base_c1 : Code := .seq pto_Base_c2 pto_Base_c3
def pto_Base_pi (_ : Nat) : Pl := .nil
def pto_Base_g18 (S : Value → Value → Value → Heap → Prop) (x0 x1 x2 : Value) (H : Heap) : Prop :=
  newE 36 (Value.cells x0) H fun v3 H1 =>
  S x1 x2 v3 H1
theorem pto_Base_g18_e (S : Value → Value → Value → Heap → Prop) (x : Nat → Value) (H : Heap) : wpE tab P pto_Base_pi pto_Base_c2 (nQ fun l H => S (l.getD 1 undef) (l.getD 2 undef) (l.getD 3 undef) H) ((List.range 34).map x) H = pto_Base_g18 S (x 0) (x 1) (x 2) H := by kernel_rfl
def pto_Base_g19 (S : Value → Value → Value → Value → Heap → Prop) (x1 x2 x3 : Value) (H : Heap) : Prop :=
  bnd (ldE true 5 x3 H) fun v8 =>
  EvF P N.rtt_Check #[v8] H fun v9 H1 =>
  bnd (binV .int .neq v9 (.int .i64 0)) fun v10 =>
  brV v10
  (S x1 x2 x3 (.bool true) H1)
  (bnd (binV .int .lss x1 (.int .i64 0)) fun v13 =>
  brV v13
  (S x1 x2 x3 (.bool true) H1)
  (bnd (binV .int .geq x1 (.int .i64 3)) fun v17 =>
  S x1 x2 x3 v17 H1))
theorem pto_Base_g19_e (S : Value → Value → Value → Value → Heap → Prop) (x : Nat → Value) (H : Heap) : wpE tab P pto_Base_pi pto_Base_c5 (nQ fun l H => S (l.getD 1 undef) (l.getD 2 undef) (l.getD 3 undef) (l.getD 18 undef) H) ((List.range 34).map x) H = pto_Base_g19 S (x 1) (x 2) (x 3) H := by kernel_rfl
def pto_Base_g20 (S : Value → Heap → Prop) (H : Heap) : Prop :=
  S (.int .i64 0) H
theorem pto_Base_g20_e (S : Value → Heap → Prop) (x : Nat → Value) (H : Heap) : wpE tab P pto_Base_pi pto_Base_c8 (nQ fun l H => S (l.getD 6 undef) H) ((List.range 34).map x) H = pto_Base_g20 S  H := by kernel_rfl
def pto_Base_g21 (S : Value → Value → Value → Heap → Prop) (x1 x2 x3 : Value) (H : Heap) : Prop :=
  bnd (faV 2 x3) fun v19 =>
  bnd (ldE false 1 v19 H) fun v20 =>
  bnd (faV 3 x3) fun v21 =>
  bnd (ldE false 1 v21 H) fun v22 =>
  bnd (binV .int .mul (.int .i64 4) v22) fun v23 =>
  bnd (foldV max2V v23 [(.int .i64 1000000)]) fun v24 =>
  bnd (binV .int .add v20 v24) fun v25 =>
  S x1 x2 v25 H
theorem pto_Base_g21_e (S : Value → Value → Value → Heap → Prop) (x : Nat → Value) (H : Heap) : wpE tab P pto_Base_pi pto_Base_c10 (nQ fun l H => S (l.getD 1 undef) (l.getD 2 undef) (l.getD 7 undef) H) ((List.range 34).map x) H = pto_Base_g21 S (x 1) (x 2) (x 3) H := by kernel_rfl
def pto_Base_g23 (S : Value → Heap → Prop) (x7 : Value) (H : Heap) : Prop :=
  EvF P N.pto_time #[x7] H fun v33 H1 =>
  S v33 H1
theorem pto_Base_g23_e (S : Value → Heap → Prop) (x : Nat → Value) (H : Heap) : wpE tab P pto_Base_pi pto_Base_c17 (nQ fun l H => S (l.getD 6 undef) H) ((List.range 34).map x) H = pto_Base_g23 S (x 7) H := by kernel_rfl
def pto_Base_s22 (x7 : Value) (R : Value → Heap → Prop) (H : Heap) : Prop :=
  pto_Base_g23 (fun x6 H => R x6 H) x7 H
noncomputable def pto_Base_q24 (R : Value → Heap → Prop) : Exit → List Value → Heap → Prop := (retQ tab pto_Base_rs R)
theorem pto_Base_s22_i (R : Value → Heap → Prop) (l : List Value) (H : Heap) (hl : l.length = 34) (h : pto_Base_s22 (l.getD 7 undef) R H) : wpE tab P pto_Base_pi pto_Base_c16 (pto_Base_q24 R) l H := by
  refine seqI (c := pto_Base_c16) rfl ?_
  refine regI hl (Eq.mpr (pto_Base_g23_e _ (fun i => l.getD i undef) _) h) ?_
  clear h hl
  intro l H hl h
  refine thenN ?_
  refine retI rfl ?_
  exact h
def pto_Base_g25 (S : Value → Value → Value → Heap → Prop) (x1 x2 x7 : Value) (H : Heap) : Prop :=
  bnd (binV .int .eql x1 (.int .i64 2)) fun v27 =>
  S x2 x7 v27 H
theorem pto_Base_g25_e (S : Value → Value → Value → Heap → Prop) (x : Nat → Value) (H : Heap) : wpE tab P pto_Base_pi pto_Base_c13 (nQ fun l H => S (l.getD 2 undef) (l.getD 7 undef) (l.getD 27 undef) H) ((List.range 34).map x) H = pto_Base_g25 S (x 1) (x 2) (x 7) H := by kernel_rfl
def pto_Base_g26 (S : Value → Heap → Prop) (x2 x7 : Value) (H : Heap) : Prop :=
  EvF P N.pto_time #[x2] H fun v30 H1 =>
  bnd (binV .int .add x7 v30) fun v31 =>
  S v31 H1
theorem pto_Base_g26_e (S : Value → Heap → Prop) (x : Nat → Value) (H : Heap) : wpE tab P pto_Base_pi pto_Base_c15 (nQ fun l H => S (l.getD 7 undef) H) ((List.range 34).map x) H = pto_Base_g26 S (x 2) (x 7) H := by kernel_rfl
def pto_Base (x0 x1 x2 : Value) (R : Value → Heap → Prop) (H : Heap) : Prop :=
  pto_Base_g18 (fun x1 x2 x3 H => pto_Base_g19 (fun x1 x2 x3 x18 H => brV x18
  (pto_Base_g20 (fun x6 H => R x6 H) H)
  (pto_Base_g21 (fun x1 x2 x7 H => pto_Base_g25 (fun x2 x7 x27 H => brV x27
  (pto_Base_g26 (fun x7 H => pto_Base_s22 x7 R H) x2 x7 H)
  (pto_Base_s22 x7 R H)) x1 x2 x7 H) x1 x2 x3 H)) x1 x2 x3 H) x0 x1 x2 H
theorem pto_Base_i (R : Value → Heap → Prop) (x0 x1 x2 : Value) (H : Heap) (h : pto_Base x0 x1 x2 R H) : wpE tab P pto_Base_pi pto_Base_c1 (retQ tab pto_Base_rs R) [x0, x1, x2, undef, undef, undef, undef, undef, undef, undef, undef, undef, undef, undef, undef, undef, undef, undef, undef, undef, undef, undef, undef, undef, undef, undef, undef, undef, undef, undef, undef, undef, undef, undef] H := by
  obtain ⟨l, hl, el⟩ : ∃ l : List Value, l.length = 34 ∧ l = [x0, x1, x2, undef, undef, undef, undef, undef, undef, undef, undef, undef, undef, undef, undef, undef, undef, undef, undef, undef, undef, undef, undef, undef, undef, undef, undef, undef, undef, undef, undef, undef, undef, undef] := ⟨_, rfl, rfl⟩
  rw [← el]
  have h : (fun (x0 x1 x2 : Value) => pto_Base_g18 (fun x1 x2 x3 H => pto_Base_g19 (fun x1 x2 x3 x18 H => brV x18
(pto_Base_g20 (fun x6 H => R x6 H) H)
(pto_Base_g21 (fun x1 x2 x7 H => pto_Base_g25 (fun x2 x7 x27 H => brV x27
(pto_Base_g26 (fun x7 H => pto_Base_s22 x7 R H) x2 x7 H)
(pto_Base_s22 x7 R H)) x1 x2 x7 H) x1 x2 x3 H)) x1 x2 x3 H) x0 x1 x2 H) (l.getD 0 undef) (l.getD 1 undef) (l.getD 2 undef) := by rw [el]; exact h
  clear el
  refine seqI (c := pto_Base_c1) rfl ?_
  refine regI hl (Eq.mpr (pto_Base_g18_e _ (fun i => l.getD i undef) _) h) ?_
  clear h hl
  intro l H hl h
  refine thenN ?_
  refine seqI (c := pto_Base_c3) rfl ?_
  refine seqI (c := pto_Base_c4) rfl ?_
  refine regI hl (Eq.mpr (pto_Base_g19_e _ (fun i => l.getD i undef) _) h) ?_
  clear h hl
  intro l H hl h
  refine thenN ?_
  refine condI (c := pto_Base_c6) rfl h ?_ ?_
  · clear h; intro h
    refine seqI (c := pto_Base_c7) rfl ?_
    refine regI hl (Eq.mpr (pto_Base_g20_e _ (fun i => l.getD i undef) _) h) ?_
    clear h hl
    intro l H hl h
    refine thenN ?_
    refine retI rfl ?_
    refine thenR ?_
    exact h
  · clear h; intro h
    refine skipI rfl ?_
    refine thenN ?_
    refine seqI (c := pto_Base_c9) rfl ?_
    refine regI hl (Eq.mpr (pto_Base_g21_e _ (fun i => l.getD i undef) _) h) ?_
    clear h hl
    intro l H hl h
    refine thenN ?_
    refine seqI (c := pto_Base_c11) rfl ?_
    refine seqI (c := pto_Base_c12) rfl ?_
    refine regI hl (Eq.mpr (pto_Base_g25_e _ (fun i => l.getD i undef) _) h) ?_
    clear h hl
    intro l H hl h
    refine thenN ?_
    refine condI (c := pto_Base_c14) rfl h ?_ ?_
    · clear h; intro h
      refine regI hl (Eq.mpr (pto_Base_g26_e _ (fun i => l.getD i undef) _) h) ?_
      clear h hl
      intro l H hl h
      refine thenN ?_
      exact pto_Base_s22_i R l H hl h
    · clear h; intro h
      refine skipI rfl ?_
      refine thenN ?_
      exact pto_Base_s22_i R l H hl h
theorem pto_Base_ok : okB pto_Base_pi pto_Base_c1 = true := by kernel_rfl
theorem pto_Base_ev0 (x0 x1 x2 : Value) (R : Value → Heap → Prop) (H : Heap) (h : pto_Base x0 x1 x2 R H) : EvL P N.pto_Base #[x0, x1, x2] H R :=
  EvF_intro (args := [x0, x1, x2]) (k := 31) (rs := pto_Base_rs) tab_ok mixed Try.func52 (show Try.f52.body = some pto_Base_c1 by kernel_rfl) Try.call52 Try.ntmps52 (by kernel_rfl) (okCode_of _ pto_Base_ok) rfl (pto_Base_i R x0 x1 x2 H h)
theorem pto_Base_ev (x0 x1 x2 : Value) (R : Value → Heap → Prop) (H : Heap) (h : pto_Base x0 x1 x2 R H) : EvF P N.pto_Base #[x0, x1, x2] H R := .inl (pto_Base_ev0 x0 x1 x2 R H h)
/- 60: (*sounder/span.Set).first$1 -/
def span_Set_first_1_rs : List ResultVar := [.tmp 4]
noncomputable def span_Set_first_1_c2 : Code := subC (bodyC Try.f60) [0]
noncomputable def span_Set_first_1_c4 : Code := subC (bodyC Try.f60) [1, 0]
noncomputable def span_Set_first_1_c3 : Code := .seq span_Set_first_1_c4 Code.ret
noncomputable def span_Set_first_1_c1 : Code := .seq span_Set_first_1_c2 span_Set_first_1_c3
def span_Set_first_1_pi (i : Nat) : Pl := match i with
  | 1 => (ones [0, 1, 2, 3, 4, 5, 6, 7, 8, 9, 10] .nil)
  | _ => .nil
def span_Set_first_1_g5 (S : Value → Value → Value → Heap → Prop) (x0 x1 x2 : Value) (H : Heap) : Prop :=
  S x0 x1 x2 H
theorem span_Set_first_1_g5_e (S : Value → Value → Value → Heap → Prop) (x : Nat → Value) (H : Heap) : wpE tab P span_Set_first_1_pi span_Set_first_1_c2 (nQ fun l H => S (l.getD 0 undef) (l.getD 1 undef) (l.getD 2 undef) H) ((List.range 15).map x) H = span_Set_first_1_g5 S (x 0) (x 1) (x 2) H := by kernel_rfl
def span_Set_first_1_g6 (S : Value → Heap → Prop) (x0 x1 x2 : Value) (H : Heap) : Prop :=
  bnd (ldE false 1 x1 H) fun v5 =>
  bnd (nilV v5) fun v6 =>
  bnd (faV 1 v6) fun v7 =>
  bnd (ldE false 1 v7 H) fun v8 =>
  bnd (ixSV 2 v8 x0) fun v10 =>
  bnd (faV 1 v10) fun v11 =>
  bnd (ldE false 1 v11 H) fun v12 =>
  bnd (ldE false 1 x2 H) fun v13 =>
  bnd (binV .int .geq v12 v13) fun v14 =>
  S v14 H
theorem span_Set_first_1_g6_e (S : Value → Heap → Prop) (x : Nat → Value) (H : Heap) : wpE tab P span_Set_first_1_pi span_Set_first_1_c4 (nQ fun l H => S (l.getD 4 undef) H) ((List.range 15).map x) H = span_Set_first_1_g6 S (x 0) (x 1) (x 2) H := by kernel_rfl
def span_Set_first_1 (x0 x1 x2 : Value) (R : Value → Heap → Prop) (H : Heap) : Prop :=
  span_Set_first_1_g5 (fun x0 x1 x2 H => span_Set_first_1_g6 (fun x4 H => R x4 H) x0 x1 x2 H) x0 x1 x2 H
theorem span_Set_first_1_i (R : Value → Heap → Prop) (x0 x1 x2 : Value) (H : Heap) (h : span_Set_first_1 x0 x1 x2 R H) : wpE tab P span_Set_first_1_pi span_Set_first_1_c1 (retQ tab span_Set_first_1_rs R) [x0, x1, x2, undef, undef, undef, undef, undef, undef, undef, undef, undef, undef, undef, undef] H := by
  obtain ⟨l, hl, el⟩ : ∃ l : List Value, l.length = 15 ∧ l = [x0, x1, x2, undef, undef, undef, undef, undef, undef, undef, undef, undef, undef, undef, undef] := ⟨_, rfl, rfl⟩
  rw [← el]
  have h : (fun (x0 x1 x2 : Value) => span_Set_first_1_g5 (fun x0 x1 x2 H => span_Set_first_1_g6 (fun x4 H => R x4 H) x0 x1 x2 H) x0 x1 x2 H) (l.getD 0 undef) (l.getD 1 undef) (l.getD 2 undef) := by rw [el]; exact h
  clear el
  refine seqI (c := span_Set_first_1_c1) rfl ?_
  refine regI hl (Eq.mpr (span_Set_first_1_g5_e _ (fun i => l.getD i undef) _) h) ?_
  clear h hl
  intro l H hl h
  refine thenN ?_
  refine seqI (c := span_Set_first_1_c3) rfl ?_
  refine regI hl (Eq.mpr (span_Set_first_1_g6_e _ (fun i => l.getD i undef) _) h) ?_
  clear h hl
  intro l H hl h
  refine thenN ?_
  refine retI rfl ?_
  exact h
theorem span_Set_first_1_ok : okB span_Set_first_1_pi span_Set_first_1_c1 = true := by kernel_rfl
theorem span_Set_first_1_ev0 (x0 x1 x2 : Value) (R : Value → Heap → Prop) (H : Heap) (h : span_Set_first_1 x0 x1 x2 R H) : EvL P N.span_Set_first_1 #[x0, x1, x2] H R :=
  EvF_intro (args := [x0, x1, x2]) (k := 12) (rs := span_Set_first_1_rs) tab_ok mixed Try.func60 (show Try.f60.body = some span_Set_first_1_c1 by kernel_rfl) Try.call60 Try.ntmps60 (by kernel_rfl) (okCode_of _ span_Set_first_1_ok) rfl (span_Set_first_1_i R x0 x1 x2 H h)
theorem span_Set_first_1_ev (x0 x1 x2 : Value) (R : Value → Heap → Prop) (H : Heap) (h : span_Set_first_1 x0 x1 x2 R H) : EvF P N.span_Set_first_1 #[x0, x1, x2] H R := .inl (span_Set_first_1_ev0 x0 x1 x2 R H h)
/- 61: slices.Insert[[]sounder/api.Range,sounder/api.Range] -/
def slices_Insert_Range_rs : List ResultVar := [.tmp 6]
noncomputable def slices_Insert_Range_c2 : Code := subC (bodyC Try.f61) [0]
noncomputable def slices_Insert_Range_c4 : Code := subC (bodyC Try.f61) [1, 0]
noncomputable def slices_Insert_Range_c6 : Code := subC (bodyC Try.f61) [1, 1, 0]
noncomputable def slices_Insert_Range_c9 : Code := subC (bodyC Try.f61) [1, 1, 1, 0, 0]
noncomputable def slices_Insert_Range_c12 : Code := subC (bodyC Try.f61) [1, 1, 1, 0, 1, 0, 0]
noncomputable def slices_Insert_Range_c11 : Code := .seq slices_Insert_Range_c12 Code.ret
noncomputable def slices_Insert_Range_c10 : Code := .cond (.tmp 16) slices_Insert_Range_c11 Code.skip
noncomputable def slices_Insert_Range_c8 : Code := .seq slices_Insert_Range_c9 slices_Insert_Range_c10
noncomputable def slices_Insert_Range_c14 : Code := subC (bodyC Try.f61) [1, 1, 1, 1, 0]
noncomputable def slices_Insert_Range_c17 : Code := subC (bodyC Try.f61) [1, 1, 1, 1, 1, 0, 0]
noncomputable def slices_Insert_Range_c20 : Code := subC (bodyC Try.f61) [1, 1, 1, 1, 1, 0, 1, 0, 0]
noncomputable def slices_Insert_Range_c19 : Code := .seq slices_Insert_Range_c20 Code.ret
noncomputable def slices_Insert_Range_c18 : Code := .cond (.tmp 22) slices_Insert_Range_c19 Code.skip
noncomputable def slices_Insert_Range_c16 : Code := .seq slices_Insert_Range_c17 slices_Insert_Range_c18
noncomputable def slices_Insert_Range_c23 : Code := subC (bodyC Try.f61) [1, 1, 1, 1, 1, 1, 0, 0]
noncomputable def slices_Insert_Range_c26 : Code := subC (bodyC Try.f61) [1, 1, 1, 1, 1, 1, 0, 1, 0, 0]
noncomputable def slices_Insert_Range_c28 : Code := subC (bodyC Try.f61) [1, 1, 1, 1, 1, 1, 0, 1, 0, 1, 0]
noncomputable def slices_Insert_Range_c30 : Code := subC (bodyC Try.f61) [1, 1, 1, 1, 1, 1, 0, 1, 0, 1, 1, 0]
noncomputable def slices_Insert_Range_c32 : Code := subC (bodyC Try.f61) [1, 1, 1, 1, 1, 1, 0, 1, 0, 1, 1, 1, 0]
noncomputable def slices_Insert_Range_c31 : Code := .seq slices_Insert_Range_c32 Code.ret
noncomputable def slices_Insert_Range_c29 : Code := .seq slices_Insert_Range_c30 slices_Insert_Range_c31
noncomputable def slices_Insert_Range_c27 : Code := .seq slices_Insert_Range_c28 slices_Insert_Range_c29
noncomputable def slices_Insert_Range_c25 : Code := .seq slices_Insert_Range_c26 slices_Insert_Range_c27
noncomputable def slices_Insert_Range_c24 : Code := .cond (.tmp 31) slices_Insert_Range_c25 Code.skip
noncomputable def slices_Insert_Range_c22 : Code := .seq slices_Insert_Range_c23 slices_Insert_Range_c24
noncomputable def slices_Insert_Range_c34 : Code := subC (bodyC Try.f61) [1, 1, 1, 1, 1, 1, 1, 0]
noncomputable def slices_Insert_Range_c37 : Code := subC (bodyC Try.f61) [1, 1, 1, 1, 1, 1, 1, 1, 0, 0]
noncomputable def slices_Insert_Range_c40 : Code := subC (bodyC Try.f61) [1, 1, 1, 1, 1, 1, 1, 1, 0, 1, 0, 0]
noncomputable def slices_Insert_Range_c42 : Code := subC (bodyC Try.f61) [1, 1, 1, 1, 1, 1, 1, 1, 0, 1, 0, 1, 0]
noncomputable def slices_Insert_Range_c44 : Code := subC (bodyC Try.f61) [1, 1, 1, 1, 1, 1, 1, 1, 0, 1, 0, 1, 1, 0]
noncomputable def slices_Insert_Range_c43 : Code := .seq slices_Insert_Range_c44 Code.ret
noncomputable def slices_Insert_Range_c41 : Code := .seq slices_Insert_Range_c42 slices_Insert_Range_c43
noncomputable def slices_Insert_Range_c39 : Code := .seq slices_Insert_Range_c40 slices_Insert_Range_c41
noncomputable def slices_Insert_Range_c38 : Code := .cond (.tmp 68) slices_Insert_Range_c39 Code.skip
noncomputable def slices_Insert_Range_c36 : Code := .seq slices_Insert_Range_c37 slices_Insert_Range_c38
noncomputable def slices_Insert_Range_c46 : Code := subC (bodyC Try.f61) [1, 1, 1, 1, 1, 1, 1, 1, 1, 0]
noncomputable def slices_Insert_Range_c48 : Code := subC (bodyC Try.f61) [1, 1, 1, 1, 1, 1, 1, 1, 1, 1, 0]
noncomputable def slices_Insert_Range_c50 : Code := subC (bodyC Try.f61) [1, 1, 1, 1, 1, 1, 1, 1, 1, 1, 1, 0]
noncomputable def slices_Insert_Range_c49 : Code := .seq slices_Insert_Range_c50 Code.ret
noncomputable def slices_Insert_Range_c47 : Code := .seq slices_Insert_Range_c48 slices_Insert_Range_c49
noncomputable def slices_Insert_Range_c45 : Code := .seq slices_Insert_Range_c46 slices_Insert_Range_c47
noncomputable def slices_Insert_Range_c35 : Code := .seq slices_Insert_Range_c36 slices_Insert_Range_c45
noncomputable def slices_Insert_Range_c33 : Code := .seq slices_Insert_Range_c34 slices_Insert_Range_c35
noncomputable def slices_Insert_Range_c21 : Code := .seq slices_Insert_Range_c22 slices_Insert_Range_c33
noncomputable def slices_Insert_Range_c15 : Code := .seq slices_Insert_Range_c16 slices_Insert_Range_c21
noncomputable def slices_Insert_Range_c13 : Code := .seq slices_Insert_Range_c14 slices_Insert_Range_c15
noncomputable def slices_Insert_Range_c7 : Code := .seq slices_Insert_Range_c8 slices_Insert_Range_c13
noncomputable def slices_Insert_Range_c5 : Code := .seq slices_Insert_Range_c6 slices_Insert_Range_c7
noncomputable def slices_Insert_Range_c3 : Code := .seq slices_Insert_Range_c4 slices_Insert_Range_c5
noncomputable def slices_Insert_Range_c1 : Code := .seq slices_Insert_Range_c2 slices_Insert_Range_c3
def slices_Insert_Range_pi (i : Nat) : Pl := match i with
  | 11 => (ones [0, 1, 2, 3, 4, 5, 6, 7, 8] .nil)
  | 15 => (ones [0, 1, 2, 3, 4, 5, 6, 7, 8] .nil)
  | _ => .nil
def slices_Insert_Range_g51 (S : Value → Value → Value → Heap → Prop) (x0 x1 x2 : Value) (H : Heap) : Prop :=
  S x0 x1 x2 H
theorem slices_Insert_Range_g51_e (S : Value → Value → Value → Heap → Prop) (x : Nat → Value) (H : Heap) : wpE tab P slices_Insert_Range_pi slices_Insert_Range_c2 (nQ fun l H => S (l.getD 0 undef) (l.getD 1 undef) (l.getD 2 undef) H) ((List.range 95).map x) H = slices_Insert_Range_g51 S (x 0) (x 1) (x 2) H := by kernel_rfl
def slices_Insert_Range_g52 (S : Value → Value → Value → Heap → Prop) (x0 x1 x2 : Value) (H : Heap) : Prop :=
  bnd (sliceV 2 x0 (some x1) none) fun _ =>
  S x0 x1 x2 H
theorem slices_Insert_Range_g52_e (S : Value → Value → Value → Heap → Prop) (x : Nat → Value) (H : Heap) : wpE tab P slices_Insert_Range_pi slices_Insert_Range_c4 (nQ fun l H => S (l.getD 0 undef) (l.getD 1 undef) (l.getD 2 undef) H) ((List.range 95).map x) H = slices_Insert_Range_g52 S (x 0) (x 1) (x 2) H := by kernel_rfl
def slices_Insert_Range_g53 (S : Value → Value → Value → Value → Heap → Prop) (x0 x1 x2 : Value) (H : Heap) : Prop :=
  bnd (lenV x2) fun v14 =>
  S x0 x1 x2 v14 H
theorem slices_Insert_Range_g53_e (S : Value → Value → Value → Value → Heap → Prop) (x : Nat → Value) (H : Heap) : wpE tab P slices_Insert_Range_pi slices_Insert_Range_c6 (nQ fun l H => S (l.getD 0 undef) (l.getD 1 undef) (l.getD 2 undef) (l.getD 7 undef) H) ((List.range 95).map x) H = slices_Insert_Range_g53 S (x 0) (x 1) (x 2) H := by kernel_rfl
def slices_Insert_Range_g54 (S : Value → Value → Value → Value → Value → Heap → Prop) (x0 x1 x2 x7 : Value) (H : Heap) : Prop :=
  bnd (binV .int .eql x7 (.int .i64 0)) fun v16 =>
  S x0 x1 x2 x7 v16 H
theorem slices_Insert_Range_g54_e (S : Value → Value → Value → Value → Value → Heap → Prop) (x : Nat → Value) (H : Heap) : wpE tab P slices_Insert_Range_pi slices_Insert_Range_c9 (nQ fun l H => S (l.getD 0 undef) (l.getD 1 undef) (l.getD 2 undef) (l.getD 7 undef) (l.getD 16 undef) H) ((List.range 95).map x) H = slices_Insert_Range_g54 S (x 0) (x 1) (x 2) (x 7) H := by kernel_rfl
def slices_Insert_Range_g55 (S : Value → Heap → Prop) (x0 : Value) (H : Heap) : Prop :=
  S x0 H
theorem slices_Insert_Range_g55_e (S : Value → Heap → Prop) (x : Nat → Value) (H : Heap) : wpE tab P slices_Insert_Range_pi slices_Insert_Range_c12 (nQ fun l H => S (l.getD 6 undef) H) ((List.range 95).map x) H = slices_Insert_Range_g55 S (x 0) H := by kernel_rfl
def slices_Insert_Range_g56 (S : Value → Value → Value → Value → Value → Heap → Prop) (x0 x1 x2 x7 : Value) (H : Heap) : Prop :=
  bnd (lenV x0) fun v19 =>
  S x0 x1 x2 x7 v19 H
theorem slices_Insert_Range_g56_e (S : Value → Value → Value → Value → Value → Heap → Prop) (x : Nat → Value) (H : Heap) : wpE tab P slices_Insert_Range_pi slices_Insert_Range_c14 (nQ fun l H => S (l.getD 0 undef) (l.getD 1 undef) (l.getD 2 undef) (l.getD 7 undef) (l.getD 8 undef) H) ((List.range 95).map x) H = slices_Insert_Range_g56 S (x 0) (x 1) (x 2) (x 7) H := by kernel_rfl
def slices_Insert_Range_g57 (S : Value → Value → Value → Value → Value → Value → Heap → Prop) (x0 x1 x2 x7 x8 : Value) (H : Heap) : Prop :=
  bnd (binV .int .eql x1 x8) fun v22 =>
  S x0 x1 x2 x7 x8 v22 H
theorem slices_Insert_Range_g57_e (S : Value → Value → Value → Value → Value → Value → Heap → Prop) (x : Nat → Value) (H : Heap) : wpE tab P slices_Insert_Range_pi slices_Insert_Range_c17 (nQ fun l H => S (l.getD 0 undef) (l.getD 1 undef) (l.getD 2 undef) (l.getD 7 undef) (l.getD 8 undef) (l.getD 22 undef) H) ((List.range 95).map x) H = slices_Insert_Range_g57 S (x 0) (x 1) (x 2) (x 7) (x 8) H := by kernel_rfl
def slices_Insert_Range_g58 (S : Value → Heap → Prop) (x0 x2 : Value) (H : Heap) : Prop :=
  appE 45 #[(.int .i64 0), (.int .i64 0)] 2 16 x0 x2 H fun v25 H1 =>
  S v25 H1
theorem slices_Insert_Range_g58_e (S : Value → Heap → Prop) (x : Nat → Value) (H : Heap) : wpE tab P slices_Insert_Range_pi slices_Insert_Range_c20 (nQ fun l H => S (l.getD 6 undef) H) ((List.range 95).map x) H = slices_Insert_Range_g58 S (x 0) (x 2) H := by kernel_rfl
def slices_Insert_Range_g59 (S : Value → Value → Value → Value → Value → Value → Heap → Prop) (x0 x1 x2 x7 x8 : Value) (H : Heap) : Prop :=
  bnd (binV .int .add x8 x7) fun v28 =>
  bnd (capV x0) fun v30 =>
  bnd (binV .int .gtr v28 v30) fun v31 =>
  S x0 x1 x2 x7 x8 v31 H
theorem slices_Insert_Range_g59_e (S : Value → Value → Value → Value → Value → Value → Heap → Prop) (x : Nat → Value) (H : Heap) : wpE tab P slices_Insert_Range_pi slices_Insert_Range_c23 (nQ fun l H => S (l.getD 0 undef) (l.getD 1 undef) (l.getD 2 undef) (l.getD 7 undef) (l.getD 8 undef) (l.getD 31 undef) H) ((List.range 95).map x) H = slices_Insert_Range_g59 S (x 0) (x 1) (x 2) (x 7) (x 8) H := by kernel_rfl
def slices_Insert_Range_g60 (S : Value → Value → Value → Value → Value → Heap → Prop) (x0 x1 x2 x7 x8 : Value) (H : Heap) : Prop :=
  bnd (sliceV 2 x0 none (some x1)) fun v34 =>
  bnd (binV .int .add x8 x7) fun v37 =>
  bnd (binV .int .sub v37 x1) fun v39 =>
  appZE 45 #[(.int .i64 0), (.int .i64 0)] 2 16 v34 v39 H fun v40 H1 =>
  S x0 x1 x2 x7 v40 H1
theorem slices_Insert_Range_g60_e (S : Value → Value → Value → Value → Value → Heap → Prop) (x : Nat → Value) (H : Heap) : wpE tab P slices_Insert_Range_pi slices_Insert_Range_c26 (nQ fun l H => S (l.getD 0 undef) (l.getD 1 undef) (l.getD 2 undef) (l.getD 7 undef) (l.getD 9 undef) H) ((List.range 95).map x) H = slices_Insert_Range_g60 S (x 0) (x 1) (x 2) (x 7) (x 8) H := by kernel_rfl
def slices_Insert_Range_g61 (S : Value → Value → Value → Value → Heap → Prop) (x0 x1 x2 x7 x9 : Value) (H : Heap) : Prop :=
  bnd (sliceV 2 x9 (some x1) none) fun v43 =>
  cpyE 2 v43 x2 H fun _ H1 =>
  S x0 x1 x7 x9 H1
theorem slices_Insert_Range_g61_e (S : Value → Value → Value → Value → Heap → Prop) (x : Nat → Value) (H : Heap) : wpE tab P slices_Insert_Range_pi slices_Insert_Range_c28 (nQ fun l H => S (l.getD 0 undef) (l.getD 1 undef) (l.getD 7 undef) (l.getD 9 undef) H) ((List.range 95).map x) H = slices_Insert_Range_g61 S (x 0) (x 1) (x 2) (x 7) (x 9) H := by kernel_rfl
def slices_Insert_Range_g62 (S : Value → Heap → Prop) (x0 x1 x7 x9 : Value) (H : Heap) : Prop :=
  bnd (binV .int .add x1 x7) fun v49 =>
  bnd (sliceV 2 x9 (some v49) none) fun v50 =>
  bnd (sliceV 2 x0 (some x1) none) fun v53 =>
  cpyE 2 v50 v53 H fun _ H1 =>
  S x9 H1
theorem slices_Insert_Range_g62_e (S : Value → Heap → Prop) (x : Nat → Value) (H : Heap) : wpE tab P slices_Insert_Range_pi slices_Insert_Range_c30 (nQ fun l H => S (l.getD 9 undef) H) ((List.range 95).map x) H = slices_Insert_Range_g62 S (x 0) (x 1) (x 7) (x 9) H := by kernel_rfl
def slices_Insert_Range_g63 (S : Value → Heap → Prop) (x9 : Value) (H : Heap) : Prop :=
  S x9 H
theorem slices_Insert_Range_g63_e (S : Value → Heap → Prop) (x : Nat → Value) (H : Heap) : wpE tab P slices_Insert_Range_pi slices_Insert_Range_c32 (nQ fun l H => S (l.getD 6 undef) H) ((List.range 95).map x) H = slices_Insert_Range_g63 S (x 9) H := by kernel_rfl
def slices_Insert_Range_g64 (S : Value → Value → Value → Value → Value → Heap → Prop) (x0 x1 x2 x7 x8 : Value) (H : Heap) : Prop :=
  bnd (binV .int .add x8 x7) fun v59 =>
  bnd (sliceV 2 x0 none (some v59)) fun v60 =>
  S v60 x1 x2 x7 x8 H
theorem slices_Insert_Range_g64_e (S : Value → Value → Value → Value → Value → Heap → Prop) (x : Nat → Value) (H : Heap) : wpE tab P slices_Insert_Range_pi slices_Insert_Range_c34 (nQ fun l H => S (l.getD 0 undef) (l.getD 1 undef) (l.getD 2 undef) (l.getD 7 undef) (l.getD 8 undef) H) ((List.range 95).map x) H = slices_Insert_Range_g64 S (x 0) (x 1) (x 2) (x 7) (x 8) H := by kernel_rfl
def slices_Insert_Range_g65 (S : Value → Value → Value → Value → Value → Value → Heap → Prop) (x0 x1 x2 x7 x8 : Value) (H : Heap) : Prop :=
  bnd (binV .int .add x1 x7) fun v65 =>
  bnd (sliceV 2 x0 (some v65) none) fun v66 =>
  EvF P N.slices_overlaps_Range #[x2, v66] H fun v67 H1 =>
  bnd (unV .not v67) fun v68 =>
  S x0 x1 x2 x7 x8 v68 H1
theorem slices_Insert_Range_g65_e (S : Value → Value → Value → Value → Value → Value → Heap → Prop) (x : Nat → Value) (H : Heap) : wpE tab P slices_Insert_Range_pi slices_Insert_Range_c37 (nQ fun l H => S (l.getD 0 undef) (l.getD 1 undef) (l.getD 2 undef) (l.getD 7 undef) (l.getD 8 undef) (l.getD 68 undef) H) ((List.range 95).map x) H = slices_Insert_Range_g65 S (x 0) (x 1) (x 2) (x 7) (x 8) H := by kernel_rfl
def slices_Insert_Range_g66 (S : Value → Value → Value → Heap → Prop) (x0 x1 x2 x7 : Value) (H : Heap) : Prop :=
  bnd (binV .int .add x1 x7) fun v72 =>
  bnd (sliceV 2 x0 (some v72) none) fun v73 =>
  bnd (sliceV 2 x0 (some x1) none) fun v76 =>
  cpyE 2 v73 v76 H fun _ H1 =>
  S x0 x1 x2 H1
theorem slices_Insert_Range_g66_e (S : Value → Value → Value → Heap → Prop) (x : Nat → Value) (H : Heap) : wpE tab P slices_Insert_Range_pi slices_Insert_Range_c40 (nQ fun l H => S (l.getD 0 undef) (l.getD 1 undef) (l.getD 2 undef) H) ((List.range 95).map x) H = slices_Insert_Range_g66 S (x 0) (x 1) (x 2) (x 7) H := by kernel_rfl
def slices_Insert_Range_g67 (S : Value → Heap → Prop) (x0 x1 x2 : Value) (H : Heap) : Prop :=
  bnd (sliceV 2 x0 (some x1) none) fun v80 =>
  cpyE 2 v80 x2 H fun _ H1 =>
  S x0 H1
theorem slices_Insert_Range_g67_e (S : Value → Heap → Prop) (x : Nat → Value) (H : Heap) : wpE tab P slices_Insert_Range_pi slices_Insert_Range_c42 (nQ fun l H => S (l.getD 0 undef) H) ((List.range 95).map x) H = slices_Insert_Range_g67 S (x 0) (x 1) (x 2) H := by kernel_rfl
def slices_Insert_Range_g68 (S : Value → Heap → Prop) (x0 : Value) (H : Heap) : Prop :=
  S x0 H
theorem slices_Insert_Range_g68_e (S : Value → Heap → Prop) (x : Nat → Value) (H : Heap) : wpE tab P slices_Insert_Range_pi slices_Insert_Range_c44 (nQ fun l H => S (l.getD 6 undef) H) ((List.range 95).map x) H = slices_Insert_Range_g68 S (x 0) H := by kernel_rfl
def slices_Insert_Range_g69 (S : Value → Value → Value → Heap → Prop) (x0 x1 x2 x7 x8 : Value) (H : Heap) : Prop :=
  bnd (sliceV 2 x0 (some x8) none) fun v86 =>
  cpyE 2 v86 x2 H fun _ H1 =>
  S x0 x1 x7 H1
theorem slices_Insert_Range_g69_e (S : Value → Value → Value → Heap → Prop) (x : Nat → Value) (H : Heap) : wpE tab P slices_Insert_Range_pi slices_Insert_Range_c46 (nQ fun l H => S (l.getD 0 undef) (l.getD 1 undef) (l.getD 7 undef) H) ((List.range 95).map x) H = slices_Insert_Range_g69 S (x 0) (x 1) (x 2) (x 7) (x 8) H := by kernel_rfl
def slices_Insert_Range_g70 (S : Value → Heap → Prop) (x0 x1 x7 : Value) (H : Heap) : Prop :=
  bnd (sliceV 2 x0 (some x1) none) fun v91 =>
  EvF P N.slices_rotateRight_Range #[v91, x7] H fun _ H1 =>
  S x0 H1
theorem slices_Insert_Range_g70_e (S : Value → Heap → Prop) (x : Nat → Value) (H : Heap) : wpE tab P slices_Insert_Range_pi slices_Insert_Range_c48 (nQ fun l H => S (l.getD 0 undef) H) ((List.range 95).map x) H = slices_Insert_Range_g70 S (x 0) (x 1) (x 7) H := by kernel_rfl
def slices_Insert_Range_g71 (S : Value → Heap → Prop) (x0 : Value) (H : Heap) : Prop :=
  S x0 H
theorem slices_Insert_Range_g71_e (S : Value → Heap → Prop) (x : Nat → Value) (H : Heap) : wpE tab P slices_Insert_Range_pi slices_Insert_Range_c50 (nQ fun l H => S (l.getD 6 undef) H) ((List.range 95).map x) H = slices_Insert_Range_g71 S (x 0) H := by kernel_rfl
def slices_Insert_Range (x0 x1 x2 : Value) (R : Value → Heap → Prop) (H : Heap) : Prop :=
  slices_Insert_Range_g51 (fun x0 x1 x2 H => slices_Insert_Range_g52 (fun x0 x1 x2 H => slices_Insert_Range_g53 (fun x0 x1 x2 x7 H => slices_Insert_Range_g54 (fun x0 x1 x2 x7 x16 H => brV x16
  (slices_Insert_Range_g55 (fun x6 H => R x6 H) x0 H)
  (slices_Insert_Range_g56 (fun x0 x1 x2 x7 x8 H => slices_Insert_Range_g57 (fun x0 x1 x2 x7 x8 x22 H => brV x22
  (slices_Insert_Range_g58 (fun x6 H => R x6 H) x0 x2 H)
  (slices_Insert_Range_g59 (fun x0 x1 x2 x7 x8 x31 H => brV x31
  (slices_Insert_Range_g60 (fun x0 x1 x2 x7 x9 H => slices_Insert_Range_g61 (fun x0 x1 x7 x9 H => slices_Insert_Range_g62 (fun x9 H => slices_Insert_Range_g63 (fun x6 H => R x6 H) x9 H) x0 x1 x7 x9 H) x0 x1 x2 x7 x9 H) x0 x1 x2 x7 x8 H)
  (slices_Insert_Range_g64 (fun x0 x1 x2 x7 x8 H => slices_Insert_Range_g65 (fun x0 x1 x2 x7 x8 x68 H => brV x68
  (slices_Insert_Range_g66 (fun x0 x1 x2 H => slices_Insert_Range_g67 (fun x0 H => slices_Insert_Range_g68 (fun x6 H => R x6 H) x0 H) x0 x1 x2 H) x0 x1 x2 x7 H)
  (slices_Insert_Range_g69 (fun x0 x1 x7 H => slices_Insert_Range_g70 (fun x0 H => slices_Insert_Range_g71 (fun x6 H => R x6 H) x0 H) x0 x1 x7 H) x0 x1 x2 x7 x8 H)) x0 x1 x2 x7 x8 H) x0 x1 x2 x7 x8 H)) x0 x1 x2 x7 x8 H)) x0 x1 x2 x7 x8 H) x0 x1 x2 x7 H)) x0 x1 x2 x7 H) x0 x1 x2 H) x0 x1 x2 H) x0 x1 x2 H
theorem slices_Insert_Range_i (R : Value → Heap → Prop) (x0 x1 x2 : Value) (H : Heap) (h : slices_Insert_Range x0 x1 x2 R H) : wpE tab P slices_Insert_Range_pi slices_Insert_Range_c1 (retQ tab slices_Insert_Range_rs R) [x0, x1, x2, undef, undef, undef, undef, undef, undef, undef, undef, undef, undef, undef, undef, undef, undef, undef, undef, undef, undef, undef, undef, undef, undef, undef, undef, undef, undef, undef, undef, undef, undef, undef, undef, undef, undef, undef, undef, undef, undef, undef, undef, undef, undef, undef, undef, undef, undef, undef, undef, undef, undef, undef, undef, undef, undef, undef, undef, undef, undef, undef, undef, undef, undef, undef, undef, undef, undef, undef, undef, undef, undef, undef, undef, undef, undef, undef, undef, undef, undef, undef, undef, undef, undef, undef, undef, undef, undef, undef, undef, undef, undef, undef, undef] H := by
  obtain ⟨l, hl, el⟩ : ∃ l : List Value, l.length = 95 ∧ l = [x0, x1, x2, undef, undef, undef, undef, undef, undef, undef, undef, undef, undef, undef, undef, undef, undef, undef, undef, undef, undef, undef, undef, undef, undef, undef, undef, undef, undef, undef, undef, undef, undef, undef, undef, undef, undef, undef, undef, undef, undef, undef, undef, undef, undef, undef, undef, undef, undef, undef, undef, undef, undef, undef, undef, undef, undef, undef, undef, undef, undef, undef, undef, undef, undef, undef, undef, undef, undef, undef, undef, undef, undef, undef, undef, undef, undef, undef, undef, undef, undef, undef, undef, undef, undef, undef, undef, undef, undef, undef, undef, undef, undef, undef, undef] := ⟨_, rfl, rfl⟩
  rw [← el]
  have h : (fun (x0 x1 x2 : Value) => slices_Insert_Range_g51 (fun x0 x1 x2 H => slices_Insert_Range_g52 (fun x0 x1 x2 H => slices_Insert_Range_g53 (fun x0 x1 x2 x7 H => slices_Insert_Range_g54 (fun x0 x1 x2 x7 x16 H => brV x16
(slices_Insert_Range_g55 (fun x6 H => R x6 H) x0 H)
(slices_Insert_Range_g56 (fun x0 x1 x2 x7 x8 H => slices_Insert_Range_g57 (fun x0 x1 x2 x7 x8 x22 H => brV x22
(slices_Insert_Range_g58 (fun x6 H => R x6 H) x0 x2 H)
(slices_Insert_Range_g59 (fun x0 x1 x2 x7 x8 x31 H => brV x31
(slices_Insert_Range_g60 (fun x0 x1 x2 x7 x9 H => slices_Insert_Range_g61 (fun x0 x1 x7 x9 H => slices_Insert_Range_g62 (fun x9 H => slices_Insert_Range_g63 (fun x6 H => R x6 H) x9 H) x0 x1 x7 x9 H) x0 x1 x2 x7 x9 H) x0 x1 x2 x7 x8 H)
(slices_Insert_Range_g64 (fun x0 x1 x2 x7 x8 H => slices_Insert_Range_g65 (fun x0 x1 x2 x7 x8 x68 H => brV x68
(slices_Insert_Range_g66 (fun x0 x1 x2 H => slices_Insert_Range_g67 (fun x0 H => slices_Insert_Range_g68 (fun x6 H => R x6 H) x0 H) x0 x1 x2 H) x0 x1 x2 x7 H)
(slices_Insert_Range_g69 (fun x0 x1 x7 H => slices_Insert_Range_g70 (fun x0 H => slices_Insert_Range_g71 (fun x6 H => R x6 H) x0 H) x0 x1 x7 H) x0 x1 x2 x7 x8 H)) x0 x1 x2 x7 x8 H) x0 x1 x2 x7 x8 H)) x0 x1 x2 x7 x8 H)) x0 x1 x2 x7 x8 H) x0 x1 x2 x7 H)) x0 x1 x2 x7 H) x0 x1 x2 H) x0 x1 x2 H) x0 x1 x2 H) (l.getD 0 undef) (l.getD 1 undef) (l.getD 2 undef) := by rw [el]; exact h
  clear el
  refine seqI (c := slices_Insert_Range_c1) rfl ?_
  refine regI hl (Eq.mpr (slices_Insert_Range_g51_e _ (fun i => l.getD i undef) _) h) ?_
  clear h hl
  intro l H hl h
  refine thenN ?_
  refine seqI (c := slices_Insert_Range_c3) rfl ?_
  refine regI hl (Eq.mpr (slices_Insert_Range_g52_e _ (fun i => l.getD i undef) _) h) ?_
  clear h hl
  intro l H hl h
  refine thenN ?_
  refine seqI (c := slices_Insert_Range_c5) rfl ?_
  refine regI hl (Eq.mpr (slices_Insert_Range_g53_e _ (fun i => l.getD i undef) _) h) ?_
  clear h hl
  intro l H hl h
  refine thenN ?_
  refine seqI (c := slices_Insert_Range_c7) rfl ?_
  refine seqI (c := slices_Insert_Range_c8) rfl ?_
  refine regI hl (Eq.mpr (slices_Insert_Range_g54_e _ (fun i => l.getD i undef) _) h) ?_
  clear h hl
  intro l H hl h
  refine thenN ?_
  refine condI (c := slices_Insert_Range_c10) rfl h ?_ ?_
  · clear h; intro h
    refine seqI (c := slices_Insert_Range_c11) rfl ?_
    refine regI hl (Eq.mpr (slices_Insert_Range_g55_e _ (fun i => l.getD i undef) _) h) ?_
    clear h hl
    intro l H hl h
    refine thenN ?_
    refine retI rfl ?_
    refine thenR ?_
    exact h
  · clear h; intro h
    refine skipI rfl ?_
    refine thenN ?_
    refine seqI (c := slices_Insert_Range_c13) rfl ?_
    refine regI hl (Eq.mpr (slices_Insert_Range_g56_e _ (fun i => l.getD i undef) _) h) ?_
    clear h hl
    intro l H hl h
    refine thenN ?_
    refine seqI (c := slices_Insert_Range_c15) rfl ?_
    refine seqI (c := slices_Insert_Range_c16) rfl ?_
    refine regI hl (Eq.mpr (slices_Insert_Range_g57_e _ (fun i => l.getD i undef) _) h) ?_
    clear h hl
    intro l H hl h
    refine thenN ?_
    refine condI (c := slices_Insert_Range_c18) rfl h ?_ ?_
    · clear h; intro h
      refine seqI (c := slices_Insert_Range_c19) rfl ?_
      refine regI hl (Eq.mpr (slices_Insert_Range_g58_e _ (fun i => l.getD i undef) _) h) ?_
      clear h hl
      intro l H hl h
      refine thenN ?_
      refine retI rfl ?_
      refine thenR ?_
      exact h
    · clear h; intro h
      refine skipI rfl ?_
      refine thenN ?_
      refine seqI (c := slices_Insert_Range_c21) rfl ?_
      refine seqI (c := slices_Insert_Range_c22) rfl ?_
      refine regI hl (Eq.mpr (slices_Insert_Range_g59_e _ (fun i => l.getD i undef) _) h) ?_
      clear h hl
      intro l H hl h
      refine thenN ?_
      refine condI (c := slices_Insert_Range_c24) rfl h ?_ ?_
      · clear h; intro h
        refine seqI (c := slices_Insert_Range_c25) rfl ?_
        refine regI hl (Eq.mpr (slices_Insert_Range_g60_e _ (fun i => l.getD i undef) _) h) ?_
        clear h hl
        intro l H hl h
        refine thenN ?_
        refine seqI (c := slices_Insert_Range_c27) rfl ?_
        refine regI hl (Eq.mpr (slices_Insert_Range_g61_e _ (fun i => l.getD i undef) _) h) ?_
        clear h hl
        intro l H hl h
        refine thenN ?_
        refine seqI (c := slices_Insert_Range_c29) rfl ?_
        refine regI hl (Eq.mpr (slices_Insert_Range_g62_e _ (fun i => l.getD i undef) _) h) ?_
        clear h hl
        intro l H hl h
        refine thenN ?_
        refine seqI (c := slices_Insert_Range_c31) rfl ?_
        refine regI hl (Eq.mpr (slices_Insert_Range_g63_e _ (fun i => l.getD i undef) _) h) ?_
        clear h hl
        intro l H hl h
        refine thenN ?_
        refine retI rfl ?_
        refine thenR ?_
        exact h
      · clear h; intro h
        refine skipI rfl ?_
        refine thenN ?_
        refine seqI (c := slices_Insert_Range_c33) rfl ?_
        refine regI hl (Eq.mpr (slices_Insert_Range_g64_e _ (fun i => l.getD i undef) _) h) ?_
        clear h hl
        intro l H hl h
        refine thenN ?_
        refine seqI (c := slices_Insert_Range_c35) rfl ?_
        refine seqI (c := slices_Insert_Range_c36) rfl ?_
        refine regI hl (Eq.mpr (slices_Insert_Range_g65_e _ (fun i => l.getD i undef) _) h) ?_
        clear h hl
        intro l H hl h
        refine thenN ?_
        refine condI (c := slices_Insert_Range_c38) rfl h ?_ ?_
        · clear h; intro h
          refine seqI (c := slices_Insert_Range_c39) rfl ?_
          refine regI hl (Eq.mpr (slices_Insert_Range_g66_e _ (fun i => l.getD i undef) _) h) ?_
          clear h hl
          intro l H hl h
          refine thenN ?_
          refine seqI (c := slices_Insert_Range_c41) rfl ?_
          refine regI hl (Eq.mpr (slices_Insert_Range_g67_e _ (fun i => l.getD i undef) _) h) ?_
          clear h hl
          intro l H hl h
          refine thenN ?_
          refine seqI (c := slices_Insert_Range_c43) rfl ?_
          refine regI hl (Eq.mpr (slices_Insert_Range_g68_e _ (fun i => l.getD i undef) _) h) ?_
          clear h hl
          intro l H hl h
          refine thenN ?_
          refine retI rfl ?_
          refine thenR ?_
          exact h
        · clear h; intro h
          refine skipI rfl ?_
          refine thenN ?_
          refine seqI (c := slices_Insert_Range_c45) rfl ?_
          refine regI hl (Eq.mpr (slices_Insert_Range_g69_e _ (fun i => l.getD i undef) _) h) ?_
          clear h hl
          intro l H hl h
          refine thenN ?_
          refine seqI (c := slices_Insert_Range_c47) rfl ?_
          refine regI hl (Eq.mpr (slices_Insert_Range_g70_e _ (fun i => l.getD i undef) _) h) ?_
          clear h hl
          intro l H hl h
          refine thenN ?_
          refine seqI (c := slices_Insert_Range_c49) rfl ?_
          refine regI hl (Eq.mpr (slices_Insert_Range_g71_e _ (fun i => l.getD i undef) _) h) ?_
          clear h hl
          intro l H hl h
          refine thenN ?_
          refine retI rfl ?_
          exact h
theorem slices_Insert_Range_ok : okB slices_Insert_Range_pi slices_Insert_Range_c1 = true := by kernel_rfl
theorem slices_Insert_Range_ev0 (x0 x1 x2 : Value) (R : Value → Heap → Prop) (H : Heap) (h : slices_Insert_Range x0 x1 x2 R H) : EvL P N.slices_Insert_Range #[x0, x1, x2] H R :=
  EvF_intro (args := [x0, x1, x2]) (k := 92) (rs := slices_Insert_Range_rs) tab_ok mixed Try.func61 (show Try.f61.body = some slices_Insert_Range_c1 by kernel_rfl) Try.call61 Try.ntmps61 (by kernel_rfl) (okCode_of _ slices_Insert_Range_ok) rfl (slices_Insert_Range_i R x0 x1 x2 H h)
theorem slices_Insert_Range_ev (x0 x1 x2 : Value) (R : Value → Heap → Prop) (H : Heap) (h : slices_Insert_Range x0 x1 x2 R H) : EvF P N.slices_Insert_Range #[x0, x1, x2] H R := .inl (slices_Insert_Range_ev0 x0 x1 x2 R H h)
/- 63: slices.rotateRight[sounder/api.Range] -/
def slices_rotateRight_Range_rs : List ResultVar := []
noncomputable def slices_rotateRight_Range_c1 : Code := subC (bodyC Try.f63) []
def slices_rotateRight_Range_pi (_ : Nat) : Pl := .nil
def slices_rotateRight_Range_g2 (S : Heap → Prop) (x0 x1 : Value) (H : Heap) : Prop :=
  bnd (lenV x0) fun v6 =>
  bnd (binV .int .sub v6 x1) fun v8 =>
  EvF P N.slices_rotateLeft_Range #[x0, v8] H fun _ H1 =>
  S H1
theorem slices_rotateRight_Range_g2_e (S : Heap → Prop) (x : Nat → Value) (H : Heap) : wpE tab P slices_rotateRight_Range_pi slices_rotateRight_Range_c1 (nQ fun _ H => S  H) ((List.range 10).map x) H = slices_rotateRight_Range_g2 S (x 0) (x 1) H := by kernel_rfl
def slices_rotateRight_Range (x0 x1 : Value) (R : Value → Heap → Prop) (H : Heap) : Prop :=
  slices_rotateRight_Range_g2 (fun H => R (.tuple #[]) H) x0 x1 H
theorem slices_rotateRight_Range_i (R : Value → Heap → Prop) (x0 x1 : Value) (H : Heap) (h : slices_rotateRight_Range x0 x1 R H) : wpE tab P slices_rotateRight_Range_pi slices_rotateRight_Range_c1 (retQ tab slices_rotateRight_Range_rs R) [x0, x1, undef, undef, undef, undef, undef, undef, undef, undef] H := by
  obtain ⟨l, hl, el⟩ : ∃ l : List Value, l.length = 10 ∧ l = [x0, x1, undef, undef, undef, undef, undef, undef, undef, undef] := ⟨_, rfl, rfl⟩
  rw [← el]
  have h : (fun (x0 x1 : Value) => slices_rotateRight_Range_g2 (fun H => R (.tuple #[]) H) x0 x1 H) (l.getD 0 undef) (l.getD 1 undef) := by rw [el]; exact h
  clear el
  refine regI hl (Eq.mpr (slices_rotateRight_Range_g2_e _ (fun i => l.getD i undef) _) h) ?_
  clear h hl
  intro l H hl h
  exact h
theorem slices_rotateRight_Range_ok : okB slices_rotateRight_Range_pi slices_rotateRight_Range_c1 = true := by kernel_rfl
theorem slices_rotateRight_Range_ev0 (x0 x1 : Value) (R : Value → Heap → Prop) (H : Heap) (h : slices_rotateRight_Range x0 x1 R H) : EvL P N.slices_rotateRight_Range #[x0, x1] H R :=
  EvF_intro (args := [x0, x1]) (k := 8) (rs := slices_rotateRight_Range_rs) tab_ok mixed Try.func63 (show Try.f63.body = some slices_rotateRight_Range_c1 by kernel_rfl) Try.call63 Try.ntmps63 (by kernel_rfl) (okCode_of _ slices_rotateRight_Range_ok) rfl (slices_rotateRight_Range_i R x0 x1 H h)
theorem slices_rotateRight_Range_ev (x0 x1 : Value) (R : Value → Heap → Prop) (H : Heap) (h : slices_rotateRight_Range x0 x1 R H) : EvF P N.slices_rotateRight_Range #[x0, x1] H R := .inl (slices_rotateRight_Range_ev0 x0 x1 R H h)
/- 65: slices.IndexFunc[[]sounder/api.Packet,sounder/api.Packet] -/
def slices_IndexFunc_Packet_rs : List ResultVar := [.tmp 4]
noncomputable def slices_IndexFunc_Packet_c2 : Code := subC (bodyC Try.f65) [0]
noncomputable def slices_IndexFunc_Packet_c5 : Code := subC (bodyC Try.f65) [1, 0, 0]
noncomputable def slices_IndexFunc_Packet_c9 : Code := subC (bodyC Try.f65) [1, 0, 1, 0, 0, 0]
noncomputable def slices_IndexFunc_Packet_c12 : Code := .exit 0
noncomputable def slices_IndexFunc_Packet_c11 : Code := .cond (.tmp 9) Code.skip slices_IndexFunc_Packet_c12
noncomputable def slices_IndexFunc_Packet_c16 : Code := subC (bodyC Try.f65) [1, 0, 1, 0, 0, 1, 1, 0, 0, 0]
noncomputable def slices_IndexFunc_Packet_c18 : Code := subC (bodyC Try.f65) [1, 0, 1, 0, 0, 1, 1, 0, 0, 1, 0]
noncomputable def slices_IndexFunc_Packet_c21 : Code := subC (bodyC Try.f65) [1, 0, 1, 0, 0, 1, 1, 0, 0, 1, 1, 0, 0]
noncomputable def slices_IndexFunc_Packet_c20 : Code := .seq slices_IndexFunc_Packet_c21 Code.ret
noncomputable def slices_IndexFunc_Packet_c19 : Code := .cond (.tmp 16) slices_IndexFunc_Packet_c20 Code.skip
noncomputable def slices_IndexFunc_Packet_c17 : Code := .seq slices_IndexFunc_Packet_c18 slices_IndexFunc_Packet_c19
noncomputable def slices_IndexFunc_Packet_c15 : Code := .seq slices_IndexFunc_Packet_c16 slices_IndexFunc_Packet_c17
noncomputable def slices_IndexFunc_Packet_c14 : Code := .block 1 slices_IndexFunc_Packet_c15
noncomputable def slices_IndexFunc_Packet_c22 : Code := subC (bodyC Try.f65) [1, 0, 1, 0, 0, 1, 1, 1]
noncomputable def slices_IndexFunc_Packet_c13 : Code := .seq slices_IndexFunc_Packet_c14 slices_IndexFunc_Packet_c22
noncomputable def slices_IndexFunc_Packet_c10 : Code := .seq slices_IndexFunc_Packet_c11 slices_IndexFunc_Packet_c13
noncomputable def slices_IndexFunc_Packet_c8 : Code := .seq slices_IndexFunc_Packet_c9 slices_IndexFunc_Packet_c10
noncomputable def slices_IndexFunc_Packet_c7 : Code := .loop slices_IndexFunc_Packet_c8
noncomputable def slices_IndexFunc_Packet_c6 : Code := .block 0 slices_IndexFunc_Packet_c7
noncomputable def slices_IndexFunc_Packet_c4 : Code := .seq slices_IndexFunc_Packet_c5 slices_IndexFunc_Packet_c6
noncomputable def slices_IndexFunc_Packet_c24 : Code := subC (bodyC Try.f65) [1, 1, 0]
noncomputable def slices_IndexFunc_Packet_c23 : Code := .seq slices_IndexFunc_Packet_c24 Code.ret
noncomputable def slices_IndexFunc_Packet_c3 : Code := .seq slices_IndexFunc_Packet_c4 slices_IndexFunc_Packet_c23
noncomputable def slices_IndexFunc_Packet_c1 : Code := .seq slices_IndexFunc_Packet_c2 slices_IndexFunc_Packet_c3
def slices_IndexFunc_Packet_pi (_ : Nat) : Pl := .nil
def slices_IndexFunc_Packet_g25 (S : Value → Value → Heap → Prop) (x0 x1 : Value) (H : Heap) : Prop :=
  S x0 x1 H
theorem slices_IndexFunc_Packet_g25_e (S : Value → Value → Heap → Prop) (x : Nat → Value) (H : Heap) : wpE tab P slices_IndexFunc_Packet_pi slices_IndexFunc_Packet_c2 (nQ fun l H => S (l.getD 0 undef) (l.getD 1 undef) H) ((List.range 19).map x) H = slices_IndexFunc_Packet_g25 S (x 0) (x 1) H := by kernel_rfl
def slices_IndexFunc_Packet_g26 (S : Value → Value → Value → Value → Heap → Prop) (x0 x1 : Value) (H : Heap) : Prop :=
  bnd (lenV x0) fun v7 =>
  S x0 x1 v7 (.int .i64 0) H
theorem slices_IndexFunc_Packet_g26_e (S : Value → Value → Value → Value → Heap → Prop) (x : Nat → Value) (H : Heap) : wpE tab P slices_IndexFunc_Packet_pi slices_IndexFunc_Packet_c5 (nQ fun l H => S (l.getD 0 undef) (l.getD 1 undef) (l.getD 7 undef) (l.getD 8 undef) H) ((List.range 19).map x) H = slices_IndexFunc_Packet_g26 S (x 0) (x 1) H := by kernel_rfl
def slices_IndexFunc_Packet_g28 (S : Value → Value → Value → Value → Value → Heap → Prop) (x0 x1 x7 x8 : Value) (H : Heap) : Prop :=
  bnd (binV .int .lss x8 x7) fun v9 =>
  S x0 x1 x7 x8 v9 H
theorem slices_IndexFunc_Packet_g28_e (S : Value → Value → Value → Value → Value → Heap → Prop) (x : Nat → Value) (H : Heap) : wpE tab P slices_IndexFunc_Packet_pi slices_IndexFunc_Packet_c9 (nQ fun l H => S (l.getD 0 undef) (l.getD 1 undef) (l.getD 7 undef) (l.getD 8 undef) (l.getD 9 undef) H) ((List.range 19).map x) H = slices_IndexFunc_Packet_g28 S (x 0) (x 1) (x 7) (x 8) H := by kernel_rfl
def slices_IndexFunc_Packet_g29 (S : Value → Value → Value → Value → Value → Heap → Prop) (x0 x1 x7 x8 : Value) (H : Heap) : Prop :=
  S x0 x1 x8 x7 x8 H
theorem slices_IndexFunc_Packet_g29_e (S : Value → Value → Value → Value → Value → Heap → Prop) (x : Nat → Value) (H : Heap) : wpE tab P slices_IndexFunc_Packet_pi slices_IndexFunc_Packet_c16 (nQ fun l H => S (l.getD 0 undef) (l.getD 1 undef) (l.getD 5 undef) (l.getD 7 undef) (l.getD 8 undef) H) ((List.range 19).map x) H = slices_IndexFunc_Packet_g29 S (x 0) (x 1) (x 7) (x 8) H := by kernel_rfl
def slices_IndexFunc_Packet_g30 (S : Value → Value → Value → Value → Value → Value → Heap → Prop) (x0 x1 x5 x7 x8 : Value) (H : Heap) : Prop :=
  bnd (ixSV 6 x0 x5) fun v14 =>
  bnd (ldE true 6 v14 H) fun v15 =>
  callV P x1 [v15] H fun v16 H1 =>
  S x0 x1 x5 x7 x8 v16 H1
theorem slices_IndexFunc_Packet_g30_e (S : Value → Value → Value → Value → Value → Value → Heap → Prop) (x : Nat → Value) (H : Heap) : wpE tab P slices_IndexFunc_Packet_pi slices_IndexFunc_Packet_c18 (nQ fun l H => S (l.getD 0 undef) (l.getD 1 undef) (l.getD 5 undef) (l.getD 7 undef) (l.getD 8 undef) (l.getD 16 undef) H) ((List.range 19).map x) H = slices_IndexFunc_Packet_g30 S (x 0) (x 1) (x 5) (x 7) (x 8) H := by kernel_rfl
def slices_IndexFunc_Packet_g31 (S : Value → Heap → Prop) (x5 : Value) (H : Heap) : Prop :=
  S x5 H
theorem slices_IndexFunc_Packet_g31_e (S : Value → Heap → Prop) (x : Nat → Value) (H : Heap) : wpE tab P slices_IndexFunc_Packet_pi slices_IndexFunc_Packet_c21 (nQ fun l H => S (l.getD 4 undef) H) ((List.range 19).map x) H = slices_IndexFunc_Packet_g31 S (x 5) H := by kernel_rfl
def slices_IndexFunc_Packet_g32 (S : Value → Value → Value → Value → Heap → Prop) (x0 x1 x7 x8 : Value) (H : Heap) : Prop :=
  bnd (binV .int .add x8 (.int .i64 1)) fun v18 =>
  S x0 x1 x7 v18 H
theorem slices_IndexFunc_Packet_g32_e (S : Value → Value → Value → Value → Heap → Prop) (x : Nat → Value) (H : Heap) : wpE tab P slices_IndexFunc_Packet_pi slices_IndexFunc_Packet_c22 (nQ fun l H => S (l.getD 0 undef) (l.getD 1 undef) (l.getD 7 undef) (l.getD 8 undef) H) ((List.range 19).map x) H = slices_IndexFunc_Packet_g32 S (x 0) (x 1) (x 7) (x 8) H := by kernel_rfl
def slices_IndexFunc_Packet_g33 (S : Value → Heap → Prop) (H : Heap) : Prop :=
  S (.int .i64 (-1)) H
theorem slices_IndexFunc_Packet_g33_e (S : Value → Heap → Prop) (x : Nat → Value) (H : Heap) : wpE tab P slices_IndexFunc_Packet_pi slices_IndexFunc_Packet_c24 (nQ fun l H => S (l.getD 4 undef) H) ((List.range 19).map x) H = slices_IndexFunc_Packet_g33 S  H := by kernel_rfl
def slices_IndexFunc_Packet_s27 (x0 x1 x7 x8 : Value) (K1 : Value → Value → Value → Value →  Heap → Prop) (R : Value → Heap → Prop) (H : Heap) : Prop :=
  slices_IndexFunc_Packet_g28 (fun x0 x1 x7 x8 x9 H => brV x9
  (slices_IndexFunc_Packet_g29 (fun x0 x1 x5 x7 x8 H => slices_IndexFunc_Packet_g30 (fun x0 x1 x5 x7 x8 x16 H => brV x16
  (slices_IndexFunc_Packet_g31 (fun x4 H => R x4 H) x5 H)
  (slices_IndexFunc_Packet_g32 (fun x0 x1 x7 x8 H => K1 x0 x1 x7 x8 H) x0 x1 x7 x8 H)) x0 x1 x5 x7 x8 H) x0 x1 x7 x8 H)
  (slices_IndexFunc_Packet_g33 (fun x4 H => R x4 H) H)) x0 x1 x7 x8 H
noncomputable def slices_IndexFunc_Packet_q34 (R : Value → Heap → Prop) : Exit → List Value → Heap → Prop := (retQ tab slices_IndexFunc_Packet_rs R)
noncomputable def slices_IndexFunc_Packet_q35 (R : Value → Heap → Prop) : Exit → List Value → Heap → Prop := (thenE (fun l H => wpE tab P slices_IndexFunc_Packet_pi slices_IndexFunc_Packet_c23 (slices_IndexFunc_Packet_q34 R) l H) (slices_IndexFunc_Packet_q34 R))
noncomputable def slices_IndexFunc_Packet_q36 (R : Value → Heap → Prop) : Exit → List Value → Heap → Prop := (blkE 0 (slices_IndexFunc_Packet_q35 R))
noncomputable def slices_IndexFunc_Packet_q37 (K1 : Value → Value → Value → Value →  Heap → Prop) (R : Value → Heap → Prop) : Exit → List Value → Heap → Prop := (thenE (fun l H => K1 (l.getD 0 undef) (l.getD 1 undef) (l.getD 7 undef) (l.getD 8 undef) H) (slices_IndexFunc_Packet_q36 R))
theorem slices_IndexFunc_Packet_s27_i (K1 : Value → Value → Value → Value →  Heap → Prop) (R : Value → Heap → Prop) (l : List Value) (H : Heap) (hl : l.length = 19) (h : slices_IndexFunc_Packet_s27 (l.getD 0 undef) (l.getD 1 undef) (l.getD 7 undef) (l.getD 8 undef) K1 R H) : wpE tab P slices_IndexFunc_Packet_pi slices_IndexFunc_Packet_c8 (slices_IndexFunc_Packet_q37 K1 R) l H := by
  refine seqI (c := slices_IndexFunc_Packet_c8) rfl ?_
  refine regI hl (Eq.mpr (slices_IndexFunc_Packet_g28_e _ (fun i => l.getD i undef) _) h) ?_
  clear h hl
  intro l H hl h
  refine thenN ?_
  refine seqI (c := slices_IndexFunc_Packet_c10) rfl ?_
  refine condI (c := slices_IndexFunc_Packet_c11) rfl h ?_ ?_
  · clear h; intro h
    refine skipI rfl ?_
    refine thenN ?_
    refine seqI (c := slices_IndexFunc_Packet_c13) rfl ?_
    refine blockI (c := slices_IndexFunc_Packet_c14) rfl ?_
    refine seqI (c := slices_IndexFunc_Packet_c15) rfl ?_
    refine regI hl (Eq.mpr (slices_IndexFunc_Packet_g29_e _ (fun i => l.getD i undef) _) h) ?_
    clear h hl
    intro l H hl h
    refine thenN ?_
    refine seqI (c := slices_IndexFunc_Packet_c17) rfl ?_
    refine regI hl (Eq.mpr (slices_IndexFunc_Packet_g30_e _ (fun i => l.getD i undef) _) h) ?_
    clear h hl
    intro l H hl h
    refine thenN ?_
    refine condI (c := slices_IndexFunc_Packet_c19) rfl h ?_ ?_
    · clear h; intro h
      refine seqI (c := slices_IndexFunc_Packet_c20) rfl ?_
      refine regI hl (Eq.mpr (slices_IndexFunc_Packet_g31_e _ (fun i => l.getD i undef) _) h) ?_
      clear h hl
      intro l H hl h
      refine thenN ?_
      refine retI rfl ?_
      refine blkR ?_
      refine thenR ?_
      refine thenR ?_
      refine blkR ?_
      refine thenR ?_
      exact h
    · clear h; intro h
      refine skipI rfl ?_
      refine blkN ?_
      refine thenN ?_
      refine regI hl (Eq.mpr (slices_IndexFunc_Packet_g32_e _ (fun i => l.getD i undef) _) h) ?_
      clear h hl
      intro l H hl h
      refine thenN ?_
      exact h
  · clear h; intro h
    refine exitI (c := slices_IndexFunc_Packet_c12) rfl ?_
    refine thenX ?_
    refine thenX ?_
    refine blkX ?_
    refine thenN ?_
    refine seqI (c := slices_IndexFunc_Packet_c23) rfl ?_
    refine regI hl (Eq.mpr (slices_IndexFunc_Packet_g33_e _ (fun i => l.getD i undef) _) h) ?_
    clear h hl
    intro l H hl h
    refine thenN ?_
    refine retI rfl ?_
    exact h
def slices_IndexFunc_Packet_l38 (x0 x1 x7 x8 : Value) (R : Value → Heap → Prop) (H : Heap) : Prop :=
  ∃ (I : Value → Heap → Prop) (μ : Value → Heap → Nat), I x8 H ∧ ∀ (y8 : Value) (H : Heap), I y8 H → slices_IndexFunc_Packet_s27 x0 x1 x7 y8 (fun z0 z1 z7 z8 H' => z0 = x0 ∧ z1 = x1 ∧ z7 = x7 ∧ (I z8 H' ∧ μ z8 H' < μ y8 H)) R H
def slices_IndexFunc_Packet (x0 x1 : Value) (R : Value → Heap → Prop) (H : Heap) : Prop :=
  slices_IndexFunc_Packet_g25 (fun x0 x1 H => slices_IndexFunc_Packet_g26 (fun x0 x1 x7 x8 H => slices_IndexFunc_Packet_l38 x0 x1 x7 x8 R H) x0 x1 H) x0 x1 H
theorem slices_IndexFunc_Packet_i (R : Value → Heap → Prop) (x0 x1 : Value) (H : Heap) (h : slices_IndexFunc_Packet x0 x1 R H) : wpE tab P slices_IndexFunc_Packet_pi slices_IndexFunc_Packet_c1 (retQ tab slices_IndexFunc_Packet_rs R) [x0, x1, undef, undef, undef, undef, undef, undef, undef, undef, undef, undef, undef, undef, undef, undef, undef, undef, undef] H := by
  obtain ⟨l, hl, el⟩ : ∃ l : List Value, l.length = 19 ∧ l = [x0, x1, undef, undef, undef, undef, undef, undef, undef, undef, undef, undef, undef, undef, undef, undef, undef, undef, undef] := ⟨_, rfl, rfl⟩
  rw [← el]
  have h : (fun (x0 x1 : Value) => slices_IndexFunc_Packet_g25 (fun x0 x1 H => slices_IndexFunc_Packet_g26 (fun x0 x1 x7 x8 H => slices_IndexFunc_Packet_l38 x0 x1 x7 x8 R H) x0 x1 H) x0 x1 H) (l.getD 0 undef) (l.getD 1 undef) := by rw [el]; exact h
  clear el
  refine seqI (c := slices_IndexFunc_Packet_c1) rfl ?_
  refine regI hl (Eq.mpr (slices_IndexFunc_Packet_g25_e _ (fun i => l.getD i undef) _) h) ?_
  clear h hl
  intro l H hl h
  refine thenN ?_
  refine seqI (c := slices_IndexFunc_Packet_c3) rfl ?_
  refine seqI (c := slices_IndexFunc_Packet_c4) rfl ?_
  refine regI hl (Eq.mpr (slices_IndexFunc_Packet_g26_e _ (fun i => l.getD i undef) _) h) ?_
  clear h hl
  intro l H hl h
  refine thenN ?_
  refine blockI (c := slices_IndexFunc_Packet_c6) rfl ?_
  obtain ⟨I, μ, h0, hr⟩ := h
  refine loopI (c := slices_IndexFunc_Packet_c7) rfl (fun l' H' => l'.getD 0 undef = l.getD 0 undef ∧ l'.getD 1 undef = l.getD 1 undef ∧ l'.getD 7 undef = l.getD 7 undef ∧ I (l'.getD 8 undef) H') (fun l' H' => μ (l'.getD 8 undef) H') hl ⟨rfl, rfl, rfl, h0⟩ ?_
  rintro l1 H1 hl1 ⟨e0, e1, e7, hI⟩
  have hb := hr (l1.getD 8 undef) H1 hI
  rw [← e0, ← e1, ← e7] at hb
  refine wpE_mono _ l1 H1 hl1 ?_ (slices_IndexFunc_Packet_s27_i _ R l1 H1 hl1 hb)
  intro e l2 H2 hl2 hq
  cases e with
  | normal => exact fun _ => (by obtain ⟨d0, d1, d7, g1, g2⟩ := hq; exact ⟨⟨d0.trans e0, d1.trans e1, d7.trans e7, g1⟩, g2⟩)
  | _ => exact hq
theorem slices_IndexFunc_Packet_ok : okB slices_IndexFunc_Packet_pi slices_IndexFunc_Packet_c1 = true := by kernel_rfl
theorem slices_IndexFunc_Packet_ev0 (x0 x1 : Value) (R : Value → Heap → Prop) (H : Heap) (h : slices_IndexFunc_Packet x0 x1 R H) : EvL P N.slices_IndexFunc_Packet #[x0, x1] H R :=
  EvF_intro (args := [x0, x1]) (k := 17) (rs := slices_IndexFunc_Packet_rs) tab_ok mixed Try.func65 (show Try.f65.body = some slices_IndexFunc_Packet_c1 by kernel_rfl) Try.call65 Try.ntmps65 (by kernel_rfl) (okCode_of _ slices_IndexFunc_Packet_ok) rfl (slices_IndexFunc_Packet_i R x0 x1 H h)
theorem slices_IndexFunc_Packet_ev (x0 x1 : Value) (R : Value → Heap → Prop) (H : Heap) (h : slices_IndexFunc_Packet x0 x1 R H) : EvF P N.slices_IndexFunc_Packet #[x0, x1] H R := .inl (slices_IndexFunc_Packet_ev0 x0 x1 R H h)
/- 66: sounder/sat.clamp[int] -/
def sat_clamp_int_rs : List ResultVar := [.tmp 6]
noncomputable def sat_clamp_int_c2 : Code := subC (bodyC Try.f66) [0]
noncomputable def sat_clamp_int_c4 : Code := subC (bodyC Try.f66) [1, 0]
noncomputable def sat_clamp_int_c3 : Code := .seq sat_clamp_int_c4 Code.ret
noncomputable def sat_clamp_int_c1 : Code := .seq sat_clamp_int_c2 sat_clamp_int_c3
def sat_clamp_int_pi (_ : Nat) : Pl := .nil
def sat_clamp_int_g5 (S : Value → Value → Value → Heap → Prop) (x0 x1 x2 : Value) (H : Heap) : Prop :=
  S x0 x1 x2 H
theorem sat_clamp_int_g5_e (S : Value → Value → Value → Heap → Prop) (x : Nat → Value) (H : Heap) : wpE tab P sat_clamp_int_pi sat_clamp_int_c2 (nQ fun l H => S (l.getD 0 undef) (l.getD 1 undef) (l.getD 2 undef) H) ((List.range 12).map x) H = sat_clamp_int_g5 S (x 0) (x 1) (x 2) H := by kernel_rfl
def sat_clamp_int_g6 (S : Value → Heap → Prop) (x0 x1 x2 : Value) (H : Heap) : Prop :=
  bnd (foldV min2V x0 [x2]) fun v10 =>
  bnd (foldV max2V x1 [v10]) fun v11 =>
  S v11 H
theorem sat_clamp_int_g6_e (S : Value → Heap → Prop) (x : Nat → Value) (H : Heap) : wpE tab P sat_clamp_int_pi sat_clamp_int_c4 (nQ fun l H => S (l.getD 6 undef) H) ((List.range 12).map x) H = sat_clamp_int_g6 S (x 0) (x 1) (x 2) H := by kernel_rfl
def sat_clamp_int (x0 x1 x2 : Value) (R : Value → Heap → Prop) (H : Heap) : Prop :=
  sat_clamp_int_g5 (fun x0 x1 x2 H => sat_clamp_int_g6 (fun x6 H => R x6 H) x0 x1 x2 H) x0 x1 x2 H
theorem sat_clamp_int_i (R : Value → Heap → Prop) (x0 x1 x2 : Value) (H : Heap) (h : sat_clamp_int x0 x1 x2 R H) : wpE tab P sat_clamp_int_pi sat_clamp_int_c1 (retQ tab sat_clamp_int_rs R) [x0, x1, x2, undef, undef, undef, undef, undef, undef, undef, undef, undef] H := by
  obtain ⟨l, hl, el⟩ : ∃ l : List Value, l.length = 12 ∧ l = [x0, x1, x2, undef, undef, undef, undef, undef, undef, undef, undef, undef] := ⟨_, rfl, rfl⟩
  rw [← el]
  have h : (fun (x0 x1 x2 : Value) => sat_clamp_int_g5 (fun x0 x1 x2 H => sat_clamp_int_g6 (fun x6 H => R x6 H) x0 x1 x2 H) x0 x1 x2 H) (l.getD 0 undef) (l.getD 1 undef) (l.getD 2 undef) := by rw [el]; exact h
  clear el
  refine seqI (c := sat_clamp_int_c1) rfl ?_
  refine regI hl (Eq.mpr (sat_clamp_int_g5_e _ (fun i => l.getD i undef) _) h) ?_
  clear h hl
  intro l H hl h
  refine thenN ?_
  refine seqI (c := sat_clamp_int_c3) rfl ?_
  refine regI hl (Eq.mpr (sat_clamp_int_g6_e _ (fun i => l.getD i undef) _) h) ?_
  clear h hl
  intro l H hl h
  refine thenN ?_
  refine retI rfl ?_
  exact h
theorem sat_clamp_int_ok : okB sat_clamp_int_pi sat_clamp_int_c1 = true := by kernel_rfl
theorem sat_clamp_int_ev0 (x0 x1 x2 : Value) (R : Value → Heap → Prop) (H : Heap) (h : sat_clamp_int x0 x1 x2 R H) : EvL P N.sat_clamp_int #[x0, x1, x2] H R :=
  EvF_intro (args := [x0, x1, x2]) (k := 9) (rs := sat_clamp_int_rs) tab_ok mixed Try.func66 (show Try.f66.body = some sat_clamp_int_c1 by kernel_rfl) Try.call66 Try.ntmps66 (by kernel_rfl) (okCode_of _ sat_clamp_int_ok) rfl (sat_clamp_int_i R x0 x1 x2 H h)
theorem sat_clamp_int_ev (x0 x1 x2 : Value) (R : Value → Heap → Prop) (H : Heap) (h : sat_clamp_int x0 x1 x2 R H) : EvF P N.sat_clamp_int #[x0, x1, x2] H R := .inl (sat_clamp_int_ev0 x0 x1 x2 R H h)
end Go.Hc
