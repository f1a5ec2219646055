/- Functions, printed by gen.py. -/
import Derived.Test.YtecomjpmajbpgaaT
set_option linter.unusedSimpArgs false
set_option linter.unusedVariables false
set_option maxRecDepth 100000
namespace Go.Hc
open Go Go.Proofs
/- 6: sounder/sounderlaw04.SpanRoom -/
def sounderlaw04_SpanRoom_rs : List ResultVar := [.tmp 4]
noncomputable def sounderlaw04_SpanRoom_c2 : Code := subC (bodyC Try.f6) [0]
noncomputable def sounderlaw04_SpanRoom_c4 : Code := subC (bodyC Try.f6) [1, 0]
noncomputable def sounderlaw04_SpanRoom_c6 : Code := subC (bodyC Try.f6) [1, 1, 0]
noncomputable def sounderlaw04_SpanRoom_c8 : Code := subC (bodyC Try.f6) [1, 1, 1, 0]
noncomputable def sounderlaw04_SpanRoom_c11 : Code := subC (bodyC Try.f6) [1, 1, 1, 1, 0, 0]
noncomputable def sounderlaw04_SpanRoom_c14 : Code := subC (bodyC Try.f6) [1, 1, 1, 1, 0, 1, 0, 0]
noncomputable def sounderlaw04_SpanRoom_c13 : Code := .seq sounderlaw04_SpanRoom_c14 Code.ret
noncomputable def sounderlaw04_SpanRoom_c12 : Code := .cond (.tmp 33) sounderlaw04_SpanRoom_c13 Code.skip
noncomputable def sounderlaw04_SpanRoom_c10 : Code := .seq sounderlaw04_SpanRoom_c11 sounderlaw04_SpanRoom_c12
noncomputable def sounderlaw04_SpanRoom_c17 : Code := subC (bodyC Try.f6) [1, 1, 1, 1, 1, 0, 0]
noncomputable def sounderlaw04_SpanRoom_c22 : Code := subC (bodyC Try.f6) [1, 1, 1, 1, 1, 0, 1, 0, 0, 0, 0]
noncomputable def sounderlaw04_SpanRoom_c24 : Code := .exit 0
noncomputable def sounderlaw04_SpanRoom_c23 : Code := .cond (.tmp 41) Code.skip sounderlaw04_SpanRoom_c24
noncomputable def sounderlaw04_SpanRoom_c21 : Code := .seq sounderlaw04_SpanRoom_c22 sounderlaw04_SpanRoom_c23
noncomputable def sounderlaw04_SpanRoom_c28 : Code := subC (bodyC Try.f6) [1, 1, 1, 1, 1, 0, 1, 0, 0, 1, 0, 0, 0]
noncomputable def sounderlaw04_SpanRoom_c30 : Code := subC (bodyC Try.f6) [1, 1, 1, 1, 1, 0, 1, 0, 0, 1, 0, 0, 1, 0]
noncomputable def sounderlaw04_SpanRoom_c32 : Code := subC (bodyC Try.f6) [1, 1, 1, 1, 1, 0, 1, 0, 0, 1, 0, 0, 1, 1, 0]
noncomputable def sounderlaw04_SpanRoom_c34 : Code := subC (bodyC Try.f6) [1, 1, 1, 1, 1, 0, 1, 0, 0, 1, 0, 0, 1, 1, 1, 0]
noncomputable def sounderlaw04_SpanRoom_c37 : Code := subC (bodyC Try.f6) [1, 1, 1, 1, 1, 0, 1, 0, 0, 1, 0, 0, 1, 1, 1, 1, 0, 0]
noncomputable def sounderlaw04_SpanRoom_c40 : Code := subC (bodyC Try.f6) [1, 1, 1, 1, 1, 0, 1, 0, 0, 1, 0, 0, 1, 1, 1, 1, 0, 1, 0, 0]
noncomputable def sounderlaw04_SpanRoom_c39 : Code := .seq sounderlaw04_SpanRoom_c40 Code.ret
noncomputable def sounderlaw04_SpanRoom_c38 : Code := .cond (.tmp 94) sounderlaw04_SpanRoom_c39 Code.skip
noncomputable def sounderlaw04_SpanRoom_c36 : Code := .seq sounderlaw04_SpanRoom_c37 sounderlaw04_SpanRoom_c38
noncomputable def sounderlaw04_SpanRoom_c43 : Code := subC (bodyC Try.f6) [1, 1, 1, 1, 1, 0, 1, 0, 0, 1, 0, 0, 1, 1, 1, 1, 1, 0, 0]
noncomputable def sounderlaw04_SpanRoom_c45 : Code := subC (bodyC Try.f6) [1, 1, 1, 1, 1, 0, 1, 0, 0, 1, 0, 0, 1, 1, 1, 1, 1, 0, 1, 0]
noncomputable def sounderlaw04_SpanRoom_c44 : Code := .cond (.tmp 96) sounderlaw04_SpanRoom_c45 Code.skip
noncomputable def sounderlaw04_SpanRoom_c42 : Code := .seq sounderlaw04_SpanRoom_c43 sounderlaw04_SpanRoom_c44
noncomputable def sounderlaw04_SpanRoom_c47 : Code := subC (bodyC Try.f6) [1, 1, 1, 1, 1, 0, 1, 0, 0, 1, 0, 0, 1, 1, 1, 1, 1, 1, 0]
noncomputable def sounderlaw04_SpanRoom_c50 : Code := subC (bodyC Try.f6) [1, 1, 1, 1, 1, 0, 1, 0, 0, 1, 0, 0, 1, 1, 1, 1, 1, 1, 1, 0, 0]
noncomputable def sounderlaw04_SpanRoom_c49 : Code := .seq sounderlaw04_SpanRoom_c50 Code.ret
noncomputable def sounderlaw04_SpanRoom_c48 : Code := .cond (.tmp 103) sounderlaw04_SpanRoom_c49 Code.skip
noncomputable def sounderlaw04_SpanRoom_c46 : Code := .seq sounderlaw04_SpanRoom_c47 sounderlaw04_SpanRoom_c48
noncomputable def sounderlaw04_SpanRoom_c41 : Code := .seq sounderlaw04_SpanRoom_c42 sounderlaw04_SpanRoom_c46
noncomputable def sounderlaw04_SpanRoom_c35 : Code := .seq sounderlaw04_SpanRoom_c36 sounderlaw04_SpanRoom_c41
noncomputable def sounderlaw04_SpanRoom_c33 : Code := .seq sounderlaw04_SpanRoom_c34 sounderlaw04_SpanRoom_c35
noncomputable def sounderlaw04_SpanRoom_c31 : Code := .seq sounderlaw04_SpanRoom_c32 sounderlaw04_SpanRoom_c33
noncomputable def sounderlaw04_SpanRoom_c29 : Code := .seq sounderlaw04_SpanRoom_c30 sounderlaw04_SpanRoom_c31
noncomputable def sounderlaw04_SpanRoom_c27 : Code := .seq sounderlaw04_SpanRoom_c28 sounderlaw04_SpanRoom_c29
noncomputable def sounderlaw04_SpanRoom_c26 : Code := .block 1 sounderlaw04_SpanRoom_c27
noncomputable def sounderlaw04_SpanRoom_c51 : Code := subC (bodyC Try.f6) [1, 1, 1, 1, 1, 0, 1, 0, 0, 1, 1]
noncomputable def sounderlaw04_SpanRoom_c25 : Code := .seq sounderlaw04_SpanRoom_c26 sounderlaw04_SpanRoom_c51
noncomputable def sounderlaw04_SpanRoom_c20 : Code := .seq sounderlaw04_SpanRoom_c21 sounderlaw04_SpanRoom_c25
noncomputable def sounderlaw04_SpanRoom_c19 : Code := .loop sounderlaw04_SpanRoom_c20
noncomputable def sounderlaw04_SpanRoom_c18 : Code := .block 0 sounderlaw04_SpanRoom_c19
noncomputable def sounderlaw04_SpanRoom_c16 : Code := .seq sounderlaw04_SpanRoom_c17 sounderlaw04_SpanRoom_c18
noncomputable def sounderlaw04_SpanRoom_c53 : Code := subC (bodyC Try.f6) [1, 1, 1, 1, 1, 1, 0]
noncomputable def sounderlaw04_SpanRoom_c52 : Code := .seq sounderlaw04_SpanRoom_c53 Code.ret
noncomputable def sounderlaw04_SpanRoom_c15 : Code := .seq sounderlaw04_SpanRoom_c16 sounderlaw04_SpanRoom_c52
noncomputable def sounderlaw04_SpanRoom_c9 : Code := .seq sounderlaw04_SpanRoom_c10 sounderlaw04_SpanRoom_c15
noncomputable def sounderlaw04_SpanRoom_c7 : Code := .seq sounderlaw04_SpanRoom_c8 sounderlaw04_SpanRoom_c9
noncomputable def sounderlaw04_SpanRoom_c5 : Code := .seq sounderlaw04_SpanRoom_c6 sounderlaw04_SpanRoom_c7
noncomputable def sounderlaw04_SpanRoom_c3 : Code := .seq sounderlaw04_SpanRoom_c4 sounderlaw04_SpanRoom_c5
noncomputable def sounderlaw04_SpanRoom_c1 : Code := .seq sounderlaw04_SpanRoom_c2 sounderlaw04_SpanRoom_c3
def sounderlaw04_SpanRoom_pi (_ : Nat) : Pl := .nil
def sounderlaw04_SpanRoom_g54 (S : Value → Value → Heap → Prop) (x0 x1 : Value) (H : Heap) : Prop :=
  S x0 x1 H
theorem sounderlaw04_SpanRoom_g54_e (S : Value → Value → Heap → Prop) (x : Nat → Value) (H : Heap) : wpE tab P sounderlaw04_SpanRoom_pi sounderlaw04_SpanRoom_c2 (nQ fun l H => S (l.getD 0 undef) (l.getD 1 undef) H) ((List.range 105).map x) H = sounderlaw04_SpanRoom_g54 S (x 0) (x 1) H := by kernel_rfl
def sounderlaw04_SpanRoom_g55 (S : Value → Value → Heap → Prop) (x0 x1 : Value) (H : Heap) : Prop :=
  EvF P N.sounderref00_Bring #[x0, (.int .i64 8)] H fun v17 H1 =>
  bnd (binV .int .add (.int .i64 1) v17) fun v18 =>
  S v18 x1 H1
theorem sounderlaw04_SpanRoom_g55_e (S : Value → Value → Heap → Prop) (x : Nat → Value) (H : Heap) : wpE tab P sounderlaw04_SpanRoom_pi sounderlaw04_SpanRoom_c4 (nQ fun l H => S (l.getD 0 undef) (l.getD 1 undef) H) ((List.range 105).map x) H = sounderlaw04_SpanRoom_g55 S (x 0) (x 1) H := by kernel_rfl
def sounderlaw04_SpanRoom_g56 (S : Value → Value → Value → Value → Heap → Prop) (x0 x1 : Value) (H : Heap) : Prop :=
  EvF P N.span_New #[x0] H fun v21 H1 =>
  bnd (exV 0 v21) fun v22 =>
  bnd (exV 1 v21) fun v23 =>
  S x0 x1 v22 v23 H1
theorem sounderlaw04_SpanRoom_g56_e (S : Value → Value → Value → Value → Heap → Prop) (x : Nat → Value) (H : Heap) : wpE tab P sounderlaw04_SpanRoom_pi sounderlaw04_SpanRoom_c6 (nQ fun l H => S (l.getD 0 undef) (l.getD 1 undef) (l.getD 5 undef) (l.getD 6 undef) H) ((List.range 105).map x) H = sounderlaw04_SpanRoom_g56 S (x 0) (x 1) H := by kernel_rfl
def sounderlaw04_SpanRoom_g57 (S : Value → Value → Value → Value → Value → Value → Heap → Prop) (x0 x1 x5 x6 : Value) (H : Heap) : Prop :=
  EvF P N.span_New #[(.int .i64 256)] H fun v25 H1 =>
  bnd (exV 0 v25) fun v26 =>
  bnd (exV 1 v25) fun v27 =>
  S x0 x1 x5 x6 v26 v27 H1
theorem sounderlaw04_SpanRoom_g57_e (S : Value → Value → Value → Value → Value → Value → Heap → Prop) (x : Nat → Value) (H : Heap) : wpE tab P sounderlaw04_SpanRoom_pi sounderlaw04_SpanRoom_c8 (nQ fun l H => S (l.getD 0 undef) (l.getD 1 undef) (l.getD 5 undef) (l.getD 6 undef) (l.getD 7 undef) (l.getD 8 undef) H) ((List.range 105).map x) H = sounderlaw04_SpanRoom_g57 S (x 0) (x 1) (x 5) (x 6) H := by kernel_rfl
def sounderlaw04_SpanRoom_g58 (S : Value → Value → Value → Value → Value → Heap → Prop) (x0 x1 x5 x6 x7 x8 : Value) (H : Heap) : Prop :=
  bnd (binV .int .neq x6 (.int .i64 0)) fun v29 =>
  brV v29
  (S x0 x1 x5 x7 (.bool true) H)
  (bnd (binV .int .neq x8 (.int .i64 0)) fun v32 =>
  S x0 x1 x5 x7 v32 H)
theorem sounderlaw04_SpanRoom_g58_e (S : Value → Value → Value → Value → Value → Heap → Prop) (x : Nat → Value) (H : Heap) : wpE tab P sounderlaw04_SpanRoom_pi sounderlaw04_SpanRoom_c11 (nQ fun l H => S (l.getD 0 undef) (l.getD 1 undef) (l.getD 5 undef) (l.getD 7 undef) (l.getD 33 undef) H) ((List.range 105).map x) H = sounderlaw04_SpanRoom_g58 S (x 0) (x 1) (x 5) (x 6) (x 7) (x 8) H := by kernel_rfl
def sounderlaw04_SpanRoom_g59 (S : Value → Heap → Prop) (H : Heap) : Prop :=
  S (.bool false) H
theorem sounderlaw04_SpanRoom_g59_e (S : Value → Heap → Prop) (x : Nat → Value) (H : Heap) : wpE tab P sounderlaw04_SpanRoom_pi sounderlaw04_SpanRoom_c14 (nQ fun l H => S (l.getD 4 undef) H) ((List.range 105).map x) H = sounderlaw04_SpanRoom_g59 S  H := by kernel_rfl
def sounderlaw04_SpanRoom_g60 (S : Value → Value → Value → Value → Value → Heap → Prop) (x0 x1 x5 x7 : Value) (H : Heap) : Prop :=
  S x0 x1 x5 x7 (.int .i64 0) H
theorem sounderlaw04_SpanRoom_g60_e (S : Value → Value → Value → Value → Value → Heap → Prop) (x : Nat → Value) (H : Heap) : wpE tab P sounderlaw04_SpanRoom_pi sounderlaw04_SpanRoom_c17 (nQ fun l H => S (l.getD 0 undef) (l.getD 1 undef) (l.getD 5 undef) (l.getD 7 undef) (l.getD 9 undef) H) ((List.range 105).map x) H = sounderlaw04_SpanRoom_g60 S (x 0) (x 1) (x 5) (x 7) H := by kernel_rfl
def sounderlaw04_SpanRoom_g62 (S : Value → Value → Value → Value → Value → Value → Heap → Prop) (x0 x1 x5 x7 x9 : Value) (H : Heap) : Prop :=
  bnd (lenV x1) fun v36 =>
  bnd (binV .int .lss x9 v36) fun v37 =>
  brV v37
  (bnd (binV .int .lss x9 (.int .i64 40)) fun v40 =>
  S x0 x1 x5 x7 x9 v40 H)
  (S x0 x1 x5 x7 x9 (.bool false) H)
theorem sounderlaw04_SpanRoom_g62_e (S : Value → Value → Value → Value → Value → Value → Heap → Prop) (x : Nat → Value) (H : Heap) : wpE tab P sounderlaw04_SpanRoom_pi sounderlaw04_SpanRoom_c22 (nQ fun l H => S (l.getD 0 undef) (l.getD 1 undef) (l.getD 5 undef) (l.getD 7 undef) (l.getD 9 undef) (l.getD 41 undef) H) ((List.range 105).map x) H = sounderlaw04_SpanRoom_g62 S (x 0) (x 1) (x 5) (x 7) (x 9) H := by kernel_rfl
def sounderlaw04_SpanRoom_g63 (S : Value → Value → Value → Value → Value → Value → Value → Heap → Prop) (x0 x1 x5 x7 x9 : Value) (H : Heap) : Prop :=
  bnd (ixSV 2 x1 x9) fun v47 =>
  bnd (ldE true 2 v47 H) fun v48 =>
  EvF P N.sounderlaw04_row #[v48] H fun v49 H1 =>
  bnd (exV 0 v49) fun v50 =>
  bnd (exV 1 v49) fun v51 =>
  S x0 x1 x5 x7 x9 v50 v51 H1
theorem sounderlaw04_SpanRoom_g63_e (S : Value → Value → Value → Value → Value → Value → Value → Heap → Prop) (x : Nat → Value) (H : Heap) : wpE tab P sounderlaw04_SpanRoom_pi sounderlaw04_SpanRoom_c28 (nQ fun l H => S (l.getD 0 undef) (l.getD 1 undef) (l.getD 5 undef) (l.getD 7 undef) (l.getD 9 undef) (l.getD 10 undef) (l.getD 11 undef) H) ((List.range 105).map x) H = sounderlaw04_SpanRoom_g63 S (x 0) (x 1) (x 5) (x 7) (x 9) H := by kernel_rfl
def sounderlaw04_SpanRoom_g64 (S : Value → Value → Value → Value → Value → Value → Value → Value → Heap → Prop) (x0 x1 x5 x7 x9 x10 x11 : Value) (H : Heap) : Prop :=
  EvF P N.span_Set_Copy #[x5] H fun v53 H1 =>
  S x0 x1 x5 x7 x9 x10 x11 v53 H1
theorem sounderlaw04_SpanRoom_g64_e (S : Value → Value → Value → Value → Value → Value → Value → Value → Heap → Prop) (x : Nat → Value) (H : Heap) : wpE tab P sounderlaw04_SpanRoom_pi sounderlaw04_SpanRoom_c30 (nQ fun l H => S (l.getD 0 undef) (l.getD 1 undef) (l.getD 5 undef) (l.getD 7 undef) (l.getD 9 undef) (l.getD 10 undef) (l.getD 11 undef) (l.getD 12 undef) H) ((List.range 105).map x) H = sounderlaw04_SpanRoom_g64 S (x 0) (x 1) (x 5) (x 7) (x 9) (x 10) (x 11) H := by kernel_rfl
def sounderlaw04_SpanRoom_g65 (S : Value → Value → Value → Value → Value → Value → Value → Value → Value → Heap → Prop) (x0 x1 x5 x7 x9 x10 x11 x12 : Value) (H : Heap) : Prop :=
  EvF P N.span_Set_Copy #[x7] H fun v55 H1 =>
  S x0 x1 x5 x7 x9 x10 x11 x12 v55 H1
theorem sounderlaw04_SpanRoom_g65_e (S : Value → Value → Value → Value → Value → Value → Value → Value → Value → Heap → Prop) (x : Nat → Value) (H : Heap) : wpE tab P sounderlaw04_SpanRoom_pi sounderlaw04_SpanRoom_c32 (nQ fun l H => S (l.getD 0 undef) (l.getD 1 undef) (l.getD 5 undef) (l.getD 7 undef) (l.getD 9 undef) (l.getD 10 undef) (l.getD 11 undef) (l.getD 12 undef) (l.getD 13 undef) H) ((List.range 105).map x) H = sounderlaw04_SpanRoom_g65 S (x 0) (x 1) (x 5) (x 7) (x 9) (x 10) (x 11) (x 12) H := by kernel_rfl
def sounderlaw04_SpanRoom_g66 (S : Value → Value → Value → Value → Value → Value → Value → Value → Value → Heap → Prop) (x0 x1 x5 x7 x9 x10 x11 x12 x13 : Value) (H : Heap) : Prop :=
  EvF P N.span_Set_Add #[x5, x10, x11] H fun v59 H1 =>
  EvF P N.span_Set_Add #[x13, x10, x11] H1 fun v63 H2 =>
  S x0 x1 x5 x7 x9 x12 x13 v59 v63 H2
theorem sounderlaw04_SpanRoom_g66_e (S : Value → Value → Value → Value → Value → Value → Value → Value → Value → Heap → Prop) (x : Nat → Value) (H : Heap) : wpE tab P sounderlaw04_SpanRoom_pi sounderlaw04_SpanRoom_c34 (nQ fun l H => S (l.getD 0 undef) (l.getD 1 undef) (l.getD 5 undef) (l.getD 7 undef) (l.getD 9 undef) (l.getD 12 undef) (l.getD 13 undef) (l.getD 14 undef) (l.getD 15 undef) H) ((List.range 105).map x) H = sounderlaw04_SpanRoom_g66 S (x 0) (x 1) (x 5) (x 7) (x 9) (x 10) (x 11) (x 12) (x 13) H := by kernel_rfl
def sounderlaw04_SpanRoom_g67 (S : Value → Value → Value → Value → Value → Value → Value → Value → Heap → Prop) (x0 x1 x5 x7 x9 x12 x13 x14 x15 : Value) (H : Heap) : Prop :=
  bnd (binV .int .neq x15 (.int .i64 0)) fun v65 =>
  brV v65
  (S x0 x1 x5 x7 x9 x13 x14 (.bool true) H)
  (EvF P N.span_Set_Len #[x5] H fun v68 H1 =>
  bnd (binV .int .gtr v68 x0) fun v70 =>
  brV v70
  (S x0 x1 x5 x7 x9 x13 x14 (.bool true) H1)
  (bnd (binV .int .eql x14 (.int .i64 0)) fun v74 =>
  EvF P N.span_Set_Len #[x13] H1 fun v76 H2 =>
  bnd (binV .int .leq v76 x0) fun v78 =>
  bnd (binV .bool .neq v74 v78) fun v79 =>
  brV v79
  (S x0 x1 x5 x7 x9 x13 x14 (.bool true) H2)
  (bnd (binV .int .neq x14 (.int .i64 0)) fun v83 =>
  brG v83
  (bnd (binV .int .neq x14 (.int .i64 5)) fun v86 =>
  brG v86
  (S x0 x1 x5 x7 x9 x13 x14 (.bool true) H2)
  (EvF P N.span_Set_Same #[x5, x12] H2 fun v90 H3 =>
  bnd (unV .not v90) fun v91 =>
  S x0 x1 x5 x7 x9 x13 x14 v91 H3)
  (brG v86
  (S x0 x1 x5 x7 x9 x13 x14 (.bool true) H2)
  (EvF P N.span_Set_Same #[undef, x12] H2 fun v90_2 H4 =>
  bnd (unV .not v90_2) fun v91_2 =>
  S x0 x1 x5 x7 x9 x13 x14 v91_2 H4)
  (brG v86
  (S x0 x1 x5 x7 x9 x13 x14 (.bool true) H2)
  (EvF P N.span_Set_Same #[undef, undef] H2 fun v90_3 H5 =>
  bnd (unV .not v90_3) fun v91_3 =>
  S x0 x1 x5 x7 x9 x13 x14 v91_3 H5)
  (brG v86
  (S x0 x1 x5 x7 x9 x13 x14 (.bool true) H2)
  (bnd (unV .not undef) fun v91_4 =>
  S x0 x1 x5 x7 x9 x13 x14 v91_4 H2)
  (pickE v86 (.bool true) undef H2 fun v92 H6 =>
  S x0 x1 x5 x7 x9 x13 x14 v92 H6)))))
  (S x0 x1 x5 x7 x9 x13 x14 (.bool false) H2)
  (brG v83
  (bnd (binV .int .neq undef (.int .i64 5)) fun v86_2 =>
  brG v86_2
  (S x0 x1 x5 x7 x9 x13 x14 (.bool true) H2)
  (EvF P N.span_Set_Same #[x5, x12] H2 fun v90_4 H7 =>
  bnd (unV .not v90_4) fun v91_5 =>
  S x0 x1 x5 x7 x9 x13 x14 v91_5 H7)
  (brG v86_2
  (S x0 x1 x5 x7 x9 x13 x14 (.bool true) H2)
  (EvF P N.span_Set_Same #[undef, x12] H2 fun v90_5 H8 =>
  bnd (unV .not v90_5) fun v91_6 =>
  S x0 x1 x5 x7 x9 x13 x14 v91_6 H8)
  (brG v86_2
  (S x0 x1 x5 x7 x9 x13 x14 (.bool true) H2)
  (EvF P N.span_Set_Same #[undef, undef] H2 fun v90_6 H9 =>
  bnd (unV .not v90_6) fun v91_7 =>
  S x0 x1 x5 x7 x9 x13 x14 v91_7 H9)
  (brG v86_2
  (S x0 x1 x5 x7 x9 x13 x14 (.bool true) H2)
  (bnd (unV .not undef) fun v91_8 =>
  S x0 x1 x5 x7 x9 x13 x14 v91_8 H2)
  (pickE v86_2 (.bool true) undef H2 fun v92_2 H10 =>
  S x0 x1 x5 x7 x9 x13 x14 v92_2 H10)))))
  (S x0 x1 x5 x7 x9 x13 x14 (.bool false) H2)
  (brG v83
  (pickE undef (.bool true) undef H2 fun v92_3 H11 =>
  S x0 x1 x5 x7 x9 x13 x14 v92_3 H11)
  (S x0 x1 x5 x7 x9 x13 x14 (.bool false) H2)
  (brG v83
  (pickE undef (.bool true) undef H2 fun v92_4 H12 =>
  S x0 x1 x5 x7 x9 x13 x14 v92_4 H12)
  (S x0 x1 x5 x7 x9 x13 x14 (.bool false) H2)
  (pickE v83 undef (.bool false) H2 fun v93 H13 =>
  S x0 x1 x5 x7 x9 x13 x14 v93 H13)))))))
theorem sounderlaw04_SpanRoom_g67_e (S : Value → Value → Value → Value → Value → Value → Value → Value → Heap → Prop) (x : Nat → Value) (H : Heap) : wpE tab P sounderlaw04_SpanRoom_pi sounderlaw04_SpanRoom_c37 (nQ fun l H => S (l.getD 0 undef) (l.getD 1 undef) (l.getD 5 undef) (l.getD 7 undef) (l.getD 9 undef) (l.getD 13 undef) (l.getD 14 undef) (l.getD 94 undef) H) ((List.range 105).map x) H = sounderlaw04_SpanRoom_g67 S (x 0) (x 1) (x 5) (x 7) (x 9) (x 12) (x 13) (x 14) (x 15) H := by kernel_rfl
def sounderlaw04_SpanRoom_g68 (S : Value → Heap → Prop) (H : Heap) : Prop :=
  S (.bool false) H
theorem sounderlaw04_SpanRoom_g68_e (S : Value → Heap → Prop) (x : Nat → Value) (H : Heap) : wpE tab P sounderlaw04_SpanRoom_pi sounderlaw04_SpanRoom_c40 (nQ fun l H => S (l.getD 4 undef) H) ((List.range 105).map x) H = sounderlaw04_SpanRoom_g68 S  H := by kernel_rfl
def sounderlaw04_SpanRoom_g70 (S : Value → Value → Value → Value → Value → Value → Heap → Prop) (x0 x1 x5 x7 x9 : Value) (H : Heap) : Prop :=
  EvF P N.span_Set_Ranges #[x5] H fun v99 H1 =>
  EvF P N.span_Set_Ranges #[x7] H1 fun v101 H2 =>
  EvF P N.sounderlaw04_equal #[v99, v101] H2 fun v102 H3 =>
  bnd (unV .not v102) fun v103 =>
  S x0 x1 x5 x7 x9 v103 H3
theorem sounderlaw04_SpanRoom_g70_e (S : Value → Value → Value → Value → Value → Value → Heap → Prop) (x : Nat → Value) (H : Heap) : wpE tab P sounderlaw04_SpanRoom_pi sounderlaw04_SpanRoom_c47 (nQ fun l H => S (l.getD 0 undef) (l.getD 1 undef) (l.getD 5 undef) (l.getD 7 undef) (l.getD 9 undef) (l.getD 103 undef) H) ((List.range 105).map x) H = sounderlaw04_SpanRoom_g70 S (x 0) (x 1) (x 5) (x 7) (x 9) H := by kernel_rfl
def sounderlaw04_SpanRoom_g71 (S : Value → Heap → Prop) (H : Heap) : Prop :=
  S (.bool false) H
theorem sounderlaw04_SpanRoom_g71_e (S : Value → Heap → Prop) (x : Nat → Value) (H : Heap) : wpE tab P sounderlaw04_SpanRoom_pi sounderlaw04_SpanRoom_c50 (nQ fun l H => S (l.getD 4 undef) H) ((List.range 105).map x) H = sounderlaw04_SpanRoom_g71 S  H := by kernel_rfl
def sounderlaw04_SpanRoom_g72 (S : Value → Value → Value → Value → Value → Heap → Prop) (x0 x1 x5 x7 x9 : Value) (H : Heap) : Prop :=
  bnd (binV .int .add x9 (.int .i64 1)) fun v43 =>
  S x0 x1 x5 x7 v43 H
theorem sounderlaw04_SpanRoom_g72_e (S : Value → Value → Value → Value → Value → Heap → Prop) (x : Nat → Value) (H : Heap) : wpE tab P sounderlaw04_SpanRoom_pi sounderlaw04_SpanRoom_c51 (nQ fun l H => S (l.getD 0 undef) (l.getD 1 undef) (l.getD 5 undef) (l.getD 7 undef) (l.getD 9 undef) H) ((List.range 105).map x) H = sounderlaw04_SpanRoom_g72 S (x 0) (x 1) (x 5) (x 7) (x 9) H := by kernel_rfl
def sounderlaw04_SpanRoom_s69 (x0 x1 x5 x7 x9 : Value) (K1 : Value → Value → Value → Value → Value →  Heap → Prop) (R : Value → Heap → Prop) (H : Heap) : Prop :=
  sounderlaw04_SpanRoom_g70 (fun x0 x1 x5 x7 x9 x103 H => brV x103
  (sounderlaw04_SpanRoom_g71 (fun x4 H => R x4 H) H)
  (sounderlaw04_SpanRoom_g72 (fun x0 x1 x5 x7 x9 H => K1 x0 x1 x5 x7 x9 H) x0 x1 x5 x7 x9 H)) x0 x1 x5 x7 x9 H
noncomputable def sounderlaw04_SpanRoom_q73 (R : Value → Heap → Prop) : Exit → List Value → Heap → Prop := (retQ tab sounderlaw04_SpanRoom_rs R)
noncomputable def sounderlaw04_SpanRoom_q74 (R : Value → Heap → Prop) : Exit → List Value → Heap → Prop := (thenE (fun l H => wpE tab P sounderlaw04_SpanRoom_pi sounderlaw04_SpanRoom_c52 (sounderlaw04_SpanRoom_q73 R) l H) (sounderlaw04_SpanRoom_q73 R))
noncomputable def sounderlaw04_SpanRoom_q75 (R : Value → Heap → Prop) : Exit → List Value → Heap → Prop := (blkE 0 (sounderlaw04_SpanRoom_q74 R))
noncomputable def sounderlaw04_SpanRoom_q76 (K1 : Value → Value → Value → Value → Value →  Heap → Prop) (R : Value → Heap → Prop) : Exit → List Value → Heap → Prop := (thenE (fun l H => K1 (l.getD 0 undef) (l.getD 1 undef) (l.getD 5 undef) (l.getD 7 undef) (l.getD 9 undef) H) (sounderlaw04_SpanRoom_q75 R))
noncomputable def sounderlaw04_SpanRoom_q77 (K1 : Value → Value → Value → Value → Value →  Heap → Prop) (R : Value → Heap → Prop) : Exit → List Value → Heap → Prop := (thenE (fun l H => wpE tab P sounderlaw04_SpanRoom_pi sounderlaw04_SpanRoom_c51 (sounderlaw04_SpanRoom_q76 K1 R) l H) (sounderlaw04_SpanRoom_q76 K1 R))
noncomputable def sounderlaw04_SpanRoom_q78 (K1 : Value → Value → Value → Value → Value →  Heap → Prop) (R : Value → Heap → Prop) : Exit → List Value → Heap → Prop := (blkE 1 (sounderlaw04_SpanRoom_q77 K1 R))
theorem sounderlaw04_SpanRoom_s69_i (K1 : Value → Value → Value → Value → Value →  Heap → Prop) (R : Value → Heap → Prop) (l : List Value) (H : Heap) (hl : l.length = 105) (h : sounderlaw04_SpanRoom_s69 (l.getD 0 undef) (l.getD 1 undef) (l.getD 5 undef) (l.getD 7 undef) (l.getD 9 undef) K1 R H) : wpE tab P sounderlaw04_SpanRoom_pi sounderlaw04_SpanRoom_c46 (sounderlaw04_SpanRoom_q78 K1 R) l H := by
  refine seqI (c := sounderlaw04_SpanRoom_c46) rfl ?_
  refine regI hl (Eq.mpr (sounderlaw04_SpanRoom_g70_e _ (fun i => l.getD i undef) _) h) ?_
  clear h hl
  intro l H hl h
  refine thenN ?_
  refine condI (c := sounderlaw04_SpanRoom_c48) rfl h ?_ ?_
  · clear h; intro h
    refine seqI (c := sounderlaw04_SpanRoom_c49) rfl ?_
    refine regI hl (Eq.mpr (sounderlaw04_SpanRoom_g71_e _ (fun i => l.getD i undef) _) h) ?_
    clear h hl
    intro l H hl h
    refine thenN ?_
    refine retI rfl ?_
    refine blkR ?_
    refine thenR ?_
    refine thenR ?_
    refine blkR ?_
    refine thenR ?_
    exact h
  · clear h; intro h
    refine skipI rfl ?_
    refine blkN ?_
    refine thenN ?_
    refine regI hl (Eq.mpr (sounderlaw04_SpanRoom_g72_e _ (fun i => l.getD i undef) _) h) ?_
    clear h hl
    intro l H hl h
    refine thenN ?_
    exact h
def sounderlaw04_SpanRoom_g79 (S : Value → Value → Value → Value → Value → Value → Value → Heap → Prop) (x0 x1 x5 x7 x9 x13 x14 : Value) (H : Heap) : Prop :=
  bnd (binV .int .eql x14 (.int .i64 0)) fun v96 =>
  S x0 x1 x5 x7 x9 x13 v96 H
theorem sounderlaw04_SpanRoom_g79_e (S : Value → Value → Value → Value → Value → Value → Value → Heap → Prop) (x : Nat → Value) (H : Heap) : wpE tab P sounderlaw04_SpanRoom_pi sounderlaw04_SpanRoom_c43 (nQ fun l H => S (l.getD 0 undef) (l.getD 1 undef) (l.getD 5 undef) (l.getD 7 undef) (l.getD 9 undef) (l.getD 13 undef) (l.getD 96 undef) H) ((List.range 105).map x) H = sounderlaw04_SpanRoom_g79 S (x 0) (x 1) (x 5) (x 7) (x 9) (x 13) (x 14) H := by kernel_rfl
def sounderlaw04_SpanRoom_g80 (S : Value → Value → Value → Value → Value → Heap → Prop) (x0 x1 x5 x9 x13 : Value) (H : Heap) : Prop :=
  S x0 x1 x5 x13 x9 H
theorem sounderlaw04_SpanRoom_g80_e (S : Value → Value → Value → Value → Value → Heap → Prop) (x : Nat → Value) (H : Heap) : wpE tab P sounderlaw04_SpanRoom_pi sounderlaw04_SpanRoom_c45 (nQ fun l H => S (l.getD 0 undef) (l.getD 1 undef) (l.getD 5 undef) (l.getD 7 undef) (l.getD 9 undef) H) ((List.range 105).map x) H = sounderlaw04_SpanRoom_g80 S (x 0) (x 1) (x 5) (x 9) (x 13) H := by kernel_rfl
def sounderlaw04_SpanRoom_g81 (S : Value → Heap → Prop) (H : Heap) : Prop :=
  EvF P N.sounderlaw04_works #[] H fun v104 H1 =>
  S v104 H1
theorem sounderlaw04_SpanRoom_g81_e (S : Value → Heap → Prop) (x : Nat → Value) (H : Heap) : wpE tab P sounderlaw04_SpanRoom_pi sounderlaw04_SpanRoom_c53 (nQ fun l H => S (l.getD 4 undef) H) ((List.range 105).map x) H = sounderlaw04_SpanRoom_g81 S  H := by kernel_rfl
def sounderlaw04_SpanRoom_s61 (x0 x1 x5 x7 x9 : Value) (K1 : Value → Value → Value → Value → Value →  Heap → Prop) (R : Value → Heap → Prop) (H : Heap) : Prop :=
  sounderlaw04_SpanRoom_g62 (fun x0 x1 x5 x7 x9 x41 H => brV x41
  (sounderlaw04_SpanRoom_g63 (fun x0 x1 x5 x7 x9 x10 x11 H => sounderlaw04_SpanRoom_g64 (fun x0 x1 x5 x7 x9 x10 x11 x12 H => sounderlaw04_SpanRoom_g65 (fun x0 x1 x5 x7 x9 x10 x11 x12 x13 H => sounderlaw04_SpanRoom_g66 (fun x0 x1 x5 x7 x9 x12 x13 x14 x15 H => sounderlaw04_SpanRoom_g67 (fun x0 x1 x5 x7 x9 x13 x14 x94 H => brV x94
  (sounderlaw04_SpanRoom_g68 (fun x4 H => R x4 H) H)
  (sounderlaw04_SpanRoom_g79 (fun x0 x1 x5 x7 x9 x13 x96 H => brV x96
  (sounderlaw04_SpanRoom_g80 (fun x0 x1 x5 x7 x9 H => sounderlaw04_SpanRoom_s69 x0 x1 x5 x7 x9 K1 R H) x0 x1 x5 x9 x13 H)
  (sounderlaw04_SpanRoom_s69 x0 x1 x5 x7 x9 K1 R H)) x0 x1 x5 x7 x9 x13 x14 H)) x0 x1 x5 x7 x9 x12 x13 x14 x15 H) x0 x1 x5 x7 x9 x10 x11 x12 x13 H) x0 x1 x5 x7 x9 x10 x11 x12 H) x0 x1 x5 x7 x9 x10 x11 H) x0 x1 x5 x7 x9 H)
  (sounderlaw04_SpanRoom_g81 (fun x4 H => R x4 H) H)) x0 x1 x5 x7 x9 H
theorem sounderlaw04_SpanRoom_s61_i (K1 : Value → Value → Value → Value → Value →  Heap → Prop) (R : Value → Heap → Prop) (l : List Value) (H : Heap) (hl : l.length = 105) (h : sounderlaw04_SpanRoom_s61 (l.getD 0 undef) (l.getD 1 undef) (l.getD 5 undef) (l.getD 7 undef) (l.getD 9 undef) K1 R H) : wpE tab P sounderlaw04_SpanRoom_pi sounderlaw04_SpanRoom_c20 (sounderlaw04_SpanRoom_q76 K1 R) l H := by
  refine seqI (c := sounderlaw04_SpanRoom_c20) rfl ?_
  refine seqI (c := sounderlaw04_SpanRoom_c21) rfl ?_
  refine regI hl (Eq.mpr (sounderlaw04_SpanRoom_g62_e _ (fun i => l.getD i undef) _) h) ?_
  clear h hl
  intro l H hl h
  refine thenN ?_
  refine condI (c := sounderlaw04_SpanRoom_c23) rfl h ?_ ?_
  · clear h; intro h
    refine skipI rfl ?_
    refine thenN ?_
    refine seqI (c := sounderlaw04_SpanRoom_c25) rfl ?_
    refine blockI (c := sounderlaw04_SpanRoom_c26) rfl ?_
    refine seqI (c := sounderlaw04_SpanRoom_c27) rfl ?_
    refine regI hl (Eq.mpr (sounderlaw04_SpanRoom_g63_e _ (fun i => l.getD i undef) _) h) ?_
    clear h hl
    intro l H hl h
    refine thenN ?_
    refine seqI (c := sounderlaw04_SpanRoom_c29) rfl ?_
    refine regI hl (Eq.mpr (sounderlaw04_SpanRoom_g64_e _ (fun i => l.getD i undef) _) h) ?_
    clear h hl
    intro l H hl h
    refine thenN ?_
    refine seqI (c := sounderlaw04_SpanRoom_c31) rfl ?_
    refine regI hl (Eq.mpr (sounderlaw04_SpanRoom_g65_e _ (fun i => l.getD i undef) _) h) ?_
    clear h hl
    intro l H hl h
    refine thenN ?_
    refine seqI (c := sounderlaw04_SpanRoom_c33) rfl ?_
    refine regI hl (Eq.mpr (sounderlaw04_SpanRoom_g66_e _ (fun i => l.getD i undef) _) h) ?_
    clear h hl
    intro l H hl h
    refine thenN ?_
    refine seqI (c := sounderlaw04_SpanRoom_c35) rfl ?_
    refine seqI (c := sounderlaw04_SpanRoom_c36) rfl ?_
    refine regI hl (Eq.mpr (sounderlaw04_SpanRoom_g67_e _ (fun i => l.getD i undef) _) h) ?_
    clear h hl
    intro l H hl h
    refine thenN ?_
    refine condI (c := sounderlaw04_SpanRoom_c38) rfl h ?_ ?_
    · clear h; intro h
      refine seqI (c := sounderlaw04_SpanRoom_c39) rfl ?_
      refine regI hl (Eq.mpr (sounderlaw04_SpanRoom_g68_e _ (fun i => l.getD i undef) _) h) ?_
      clear h hl
      intro l H hl h
      refine thenN ?_
      refine retI rfl ?_
      refine thenR ?_
      refine blkR ?_
      refine thenR ?_
      refine thenR ?_
      refine blkR ?_
      refine thenR ?_
      exact h
    · clear h; intro h
      refine skipI rfl ?_
      refine thenN ?_
      refine seqI (c := sounderlaw04_SpanRoom_c41) rfl ?_
      refine seqI (c := sounderlaw04_SpanRoom_c42) rfl ?_
      refine regI hl (Eq.mpr (sounderlaw04_SpanRoom_g79_e _ (fun i => l.getD i undef) _) h) ?_
      clear h hl
      intro l H hl h
      refine thenN ?_
      refine condI (c := sounderlaw04_SpanRoom_c44) rfl h ?_ ?_
      · clear h; intro h
        refine regI hl (Eq.mpr (sounderlaw04_SpanRoom_g80_e _ (fun i => l.getD i undef) _) h) ?_
        clear h hl
        intro l H hl h
        refine thenN ?_
        exact sounderlaw04_SpanRoom_s69_i K1 R l H hl h
      · clear h; intro h
        refine skipI rfl ?_
        refine thenN ?_
        exact sounderlaw04_SpanRoom_s69_i K1 R l H hl h
  · clear h; intro h
    refine exitI (c := sounderlaw04_SpanRoom_c24) rfl ?_
    refine thenX ?_
    refine thenX ?_
    refine blkX ?_
    refine thenN ?_
    refine seqI (c := sounderlaw04_SpanRoom_c52) rfl ?_
    refine regI hl (Eq.mpr (sounderlaw04_SpanRoom_g81_e _ (fun i => l.getD i undef) _) h) ?_
    clear h hl
    intro l H hl h
    refine thenN ?_
    refine retI rfl ?_
    exact h
def sounderlaw04_SpanRoom_l82 (x0 x1 x5 x7 x9 : Value) (R : Value → Heap → Prop) (H : Heap) : Prop :=
  ∃ (I : Value → Value → Heap → Prop) (μ : Value → Value → Heap → Nat), I x7 x9 H ∧ ∀ (y7 : Value) (y9 : Value) (H : Heap), I y7 y9 H → sounderlaw04_SpanRoom_s61 x0 x1 x5 y7 y9 (fun z0 z1 z5 z7 z9 H' => z0 = x0 ∧ z1 = x1 ∧ z5 = x5 ∧ (I z7 z9 H' ∧ μ z7 z9 H' < μ y7 y9 H)) R H
def sounderlaw04_SpanRoom (x0 x1 : Value) (R : Value → Heap → Prop) (H : Heap) : Prop :=
  sounderlaw04_SpanRoom_g54 (fun x0 x1 H => sounderlaw04_SpanRoom_g55 (fun x0 x1 H => sounderlaw04_SpanRoom_g56 (fun x0 x1 x5 x6 H => sounderlaw04_SpanRoom_g57 (fun x0 x1 x5 x6 x7 x8 H => sounderlaw04_SpanRoom_g58 (fun x0 x1 x5 x7 x33 H => brV x33
  (sounderlaw04_SpanRoom_g59 (fun x4 H => R x4 H) H)
  (sounderlaw04_SpanRoom_g60 (fun x0 x1 x5 x7 x9 H => sounderlaw04_SpanRoom_l82 x0 x1 x5 x7 x9 R H) x0 x1 x5 x7 H)) x0 x1 x5 x6 x7 x8 H) x0 x1 x5 x6 H) x0 x1 H) x0 x1 H) x0 x1 H
theorem sounderlaw04_SpanRoom_i (R : Value → Heap → Prop) (x0 x1 : Value) (H : Heap) (h : sounderlaw04_SpanRoom x0 x1 R H) : wpE tab P sounderlaw04_SpanRoom_pi sounderlaw04_SpanRoom_c1 (retQ tab sounderlaw04_SpanRoom_rs R) [x0, x1, undef, undef, undef, undef, undef, undef, undef, undef, undef, undef, undef, undef, undef, undef, undef, undef, undef, undef, undef, undef, undef, undef, undef, undef, undef, undef, undef, undef, undef, undef, undef, undef, undef, undef, undef, undef, undef, undef, undef, undef, undef, undef, undef, undef, undef, undef, undef, undef, undef, undef, undef, undef, undef, undef, undef, undef, undef, undef, undef, undef, undef, undef, undef, undef, undef, undef, undef, undef, undef, undef, undef, undef, undef, undef, undef, undef, undef, undef, undef, undef, undef, undef, undef, undef, undef, undef, undef, undef, undef, undef, undef, undef, undef, undef, undef, undef, undef, undef, undef, undef, undef, undef, undef] H := by
  obtain ⟨l, hl, el⟩ : ∃ l : List Value, l.length = 105 ∧ l = [x0, x1, undef, undef, undef, undef, undef, undef, undef, undef, undef, undef, undef, undef, undef, undef, undef, undef, undef, undef, undef, undef, undef, undef, undef, undef, undef, undef, undef, undef, undef, undef, undef, undef, undef, undef, undef, undef, undef, undef, undef, undef, undef, undef, undef, undef, undef, undef, undef, undef, undef, undef, undef, undef, undef, undef, undef, undef, undef, undef, undef, undef, undef, undef, undef, undef, undef, undef, undef, undef, undef, undef, undef, undef, undef, undef, undef, undef, undef, undef, undef, undef, undef, undef, undef, undef, undef, undef, undef, undef, undef, undef, undef, undef, undef, undef, undef, undef, undef, undef, undef, undef, undef, undef, undef] := ⟨_, rfl, rfl⟩
  rw [← el]
  have h : (fun (x0 x1 : Value) => sounderlaw04_SpanRoom_g54 (fun x0 x1 H => sounderlaw04_SpanRoom_g55 (fun x0 x1 H => sounderlaw04_SpanRoom_g56 (fun x0 x1 x5 x6 H => sounderlaw04_SpanRoom_g57 (fun x0 x1 x5 x6 x7 x8 H => sounderlaw04_SpanRoom_g58 (fun x0 x1 x5 x7 x33 H => brV x33
(sounderlaw04_SpanRoom_g59 (fun x4 H => R x4 H) H)
(sounderlaw04_SpanRoom_g60 (fun x0 x1 x5 x7 x9 H => sounderlaw04_SpanRoom_l82 x0 x1 x5 x7 x9 R H) x0 x1 x5 x7 H)) x0 x1 x5 x6 x7 x8 H) x0 x1 x5 x6 H) x0 x1 H) x0 x1 H) x0 x1 H) (l.getD 0 undef) (l.getD 1 undef) := by rw [el]; exact h
  clear el
  refine seqI (c := sounderlaw04_SpanRoom_c1) rfl ?_
  refine regI hl (Eq.mpr (sounderlaw04_SpanRoom_g54_e _ (fun i => l.getD i undef) _) h) ?_
  clear h hl
  intro l H hl h
  refine thenN ?_
  refine seqI (c := sounderlaw04_SpanRoom_c3) rfl ?_
  refine regI hl (Eq.mpr (sounderlaw04_SpanRoom_g55_e _ (fun i => l.getD i undef) _) h) ?_
  clear h hl
  intro l H hl h
  refine thenN ?_
  refine seqI (c := sounderlaw04_SpanRoom_c5) rfl ?_
  refine regI hl (Eq.mpr (sounderlaw04_SpanRoom_g56_e _ (fun i => l.getD i undef) _) h) ?_
  clear h hl
  intro l H hl h
  refine thenN ?_
  refine seqI (c := sounderlaw04_SpanRoom_c7) rfl ?_
  refine regI hl (Eq.mpr (sounderlaw04_SpanRoom_g57_e _ (fun i => l.getD i undef) _) h) ?_
  clear h hl
  intro l H hl h
  refine thenN ?_
  refine seqI (c := sounderlaw04_SpanRoom_c9) rfl ?_
  refine seqI (c := sounderlaw04_SpanRoom_c10) rfl ?_
  refine regI hl (Eq.mpr (sounderlaw04_SpanRoom_g58_e _ (fun i => l.getD i undef) _) h) ?_
  clear h hl
  intro l H hl h
  refine thenN ?_
  refine condI (c := sounderlaw04_SpanRoom_c12) rfl h ?_ ?_
  · clear h; intro h
    refine seqI (c := sounderlaw04_SpanRoom_c13) rfl ?_
    refine regI hl (Eq.mpr (sounderlaw04_SpanRoom_g59_e _ (fun i => l.getD i undef) _) h) ?_
    clear h hl
    intro l H hl h
    refine thenN ?_
    refine retI rfl ?_
    refine thenR ?_
    exact h
  · clear h; intro h
    refine skipI rfl ?_
    refine thenN ?_
    refine seqI (c := sounderlaw04_SpanRoom_c15) rfl ?_
    refine seqI (c := sounderlaw04_SpanRoom_c16) rfl ?_
    refine regI hl (Eq.mpr (sounderlaw04_SpanRoom_g60_e _ (fun i => l.getD i undef) _) h) ?_
    clear h hl
    intro l H hl h
    refine thenN ?_
    refine blockI (c := sounderlaw04_SpanRoom_c18) rfl ?_
    obtain ⟨I, μ, h0, hr⟩ := h
    refine loopI (c := sounderlaw04_SpanRoom_c19) rfl (fun l' H' => l'.getD 0 undef = l.getD 0 undef ∧ l'.getD 1 undef = l.getD 1 undef ∧ l'.getD 5 undef = l.getD 5 undef ∧ I (l'.getD 7 undef) (l'.getD 9 undef) H') (fun l' H' => μ (l'.getD 7 undef) (l'.getD 9 undef) H') hl ⟨rfl, rfl, rfl, h0⟩ ?_
    rintro l1 H1 hl1 ⟨e0, e1, e5, hI⟩
    have hb := hr (l1.getD 7 undef) (l1.getD 9 undef) H1 hI
    rw [← e0, ← e1, ← e5] at hb
    refine wpE_mono _ l1 H1 hl1 ?_ (sounderlaw04_SpanRoom_s61_i _ R l1 H1 hl1 hb)
    intro e l2 H2 hl2 hq
    cases e with
    | normal => exact fun _ => (by obtain ⟨d0, d1, d5, g1, g2⟩ := hq; exact ⟨⟨d0.trans e0, d1.trans e1, d5.trans e5, g1⟩, g2⟩)
    | _ => exact hq
theorem sounderlaw04_SpanRoom_ok : okB sounderlaw04_SpanRoom_pi sounderlaw04_SpanRoom_c1 = true := by kernel_rfl
theorem sounderlaw04_SpanRoom_ev0 (x0 x1 : Value) (R : Value → Heap → Prop) (H : Heap) (h : sounderlaw04_SpanRoom x0 x1 R H) : EvL P N.sounderlaw04_SpanRoom #[x0, x1] H R :=
  EvF_intro (args := [x0, x1]) (k := 103) (rs := sounderlaw04_SpanRoom_rs) tab_ok mixed Try.func6 (show Try.f6.body = some sounderlaw04_SpanRoom_c1 by kernel_rfl) Try.call6 Try.ntmps6 (by kernel_rfl) (okCode_of _ sounderlaw04_SpanRoom_ok) rfl (sounderlaw04_SpanRoom_i R x0 x1 H h)
theorem sounderlaw04_SpanRoom_ev (x0 x1 : Value) (R : Value → Heap → Prop) (H : Heap) (h : sounderlaw04_SpanRoom x0 x1 R H) : EvF P N.sounderlaw04_SpanRoom #[x0, x1] H R := .inl (sounderlaw04_SpanRoom_ev0 x0 x1 R H h)
/- 7: sounder/span.New -/
def span_New_rs : List ResultVar := [.tmp 2, .tmp 3]
noncomputable def span_New_c2 : Code := subC (bodyC Try.f7) [0]
noncomputable def span_New_c5 : Code := subC (bodyC Try.f7) [1, 0, 0]
noncomputable def span_New_c8 : Code := subC (bodyC Try.f7) [1, 0, 1, 0, 0]
noncomputable def span_New_c7 : Code := .seq span_New_c8 Code.ret
noncomputable def span_New_c6 : Code := .cond (.tmp 9) span_New_c7 Code.skip
noncomputable def span_New_c4 : Code := .seq span_New_c5 span_New_c6
noncomputable def span_New_c10 : Code := subC (bodyC Try.f7) [1, 1, 0]
noncomputable def span_New_c9 : Code := .seq span_New_c10 Code.ret
noncomputable def span_New_c3 : Code := .seq span_New_c4 span_New_c9
noncomputable def span_New_c1 : Code := .seq span_New_c2 span_New_c3
def span_New_pi (_ : Nat) : Pl := .nil
def span_New_g11 (S : Value → Heap → Prop) (x0 : Value) (H : Heap) : Prop :=
  S x0 H
theorem span_New_g11_e (S : Value → Heap → Prop) (x : Nat → Value) (H : Heap) : wpE tab P span_New_pi span_New_c2 (nQ fun l H => S (l.getD 0 undef) H) ((List.range 13).map x) H = span_New_g11 S (x 0) H := by kernel_rfl
def span_New_g12 (S : Value → Value → Heap → Prop) (x0 : Value) (H : Heap) : Prop :=
  bnd (binV .int .lss x0 (.int .i64 1)) fun v5 =>
  brV v5
  (S x0 (.bool true) H)
  (bnd (binV .int .gtr x0 (.int .i64 256)) fun v8 =>
  S x0 v8 H)
theorem span_New_g12_e (S : Value → Value → Heap → Prop) (x : Nat → Value) (H : Heap) : wpE tab P span_New_pi span_New_c5 (nQ fun l H => S (l.getD 0 undef) (l.getD 9 undef) H) ((List.range 13).map x) H = span_New_g12 S (x 0) H := by kernel_rfl
def span_New_g13 (S : Value → Value → Heap → Prop) (H : Heap) : Prop :=
  S (.pointer none) (.int .i64 2) H
theorem span_New_g13_e (S : Value → Value → Heap → Prop) (x : Nat → Value) (H : Heap) : wpE tab P span_New_pi span_New_c8 (nQ fun l H => S (l.getD 2 undef) (l.getD 3 undef) H) ((List.range 13).map x) H = span_New_g13 S  H := by kernel_rfl
def span_New_g14 (S : Value → Value → Heap → Prop) (x0 : Value) (H : Heap) : Prop :=
  bnd (buildV #[(.int .i64 0), (.slice none 0 0)] (places [(0, 1), (1, 1)]) [(0, x0)]) fun v11 =>
  newE 53 (Value.cells v11) H fun v12 H1 =>
  S v12 (.int .i64 0) H1
theorem span_New_g14_e (S : Value → Value → Heap → Prop) (x : Nat → Value) (H : Heap) : wpE tab P span_New_pi span_New_c10 (nQ fun l H => S (l.getD 2 undef) (l.getD 3 undef) H) ((List.range 13).map x) H = span_New_g14 S (x 0) H := by kernel_rfl
def span_New (x0 : Value) (R : Value → Heap → Prop) (H : Heap) : Prop :=
  span_New_g11 (fun x0 H => span_New_g12 (fun x0 x9 H => brV x9
  (span_New_g13 (fun x2 x3 H => R (.tuple #[x2, x3]) H) H)
  (span_New_g14 (fun x2 x3 H => R (.tuple #[x2, x3]) H) x0 H)) x0 H) x0 H
theorem span_New_i (R : Value → Heap → Prop) (x0 : Value) (H : Heap) (h : span_New x0 R H) : wpE tab P span_New_pi span_New_c1 (retQ tab span_New_rs R) [x0, undef, undef, undef, undef, undef, undef, undef, undef, undef, undef, undef, undef] H := by
  obtain ⟨l, hl, el⟩ : ∃ l : List Value, l.length = 13 ∧ l = [x0, undef, undef, undef, undef, undef, undef, undef, undef, undef, undef, undef, undef] := ⟨_, rfl, rfl⟩
  rw [← el]
  have h : (fun (x0 : Value) => span_New_g11 (fun x0 H => span_New_g12 (fun x0 x9 H => brV x9
(span_New_g13 (fun x2 x3 H => R (.tuple #[x2, x3]) H) H)
(span_New_g14 (fun x2 x3 H => R (.tuple #[x2, x3]) H) x0 H)) x0 H) x0 H) (l.getD 0 undef) := by rw [el]; exact h
  clear el
  refine seqI (c := span_New_c1) rfl ?_
  refine regI hl (Eq.mpr (span_New_g11_e _ (fun i => l.getD i undef) _) h) ?_
  clear h hl
  intro l H hl h
  refine thenN ?_
  refine seqI (c := span_New_c3) rfl ?_
  refine seqI (c := span_New_c4) rfl ?_
  refine regI hl (Eq.mpr (span_New_g12_e _ (fun i => l.getD i undef) _) h) ?_
  clear h hl
  intro l H hl h
  refine thenN ?_
  refine condI (c := span_New_c6) rfl h ?_ ?_
  · clear h; intro h
    refine seqI (c := span_New_c7) rfl ?_
    refine regI hl (Eq.mpr (span_New_g13_e _ (fun i => l.getD i undef) _) h) ?_
    clear h hl
    intro l H hl h
    refine thenN ?_
    refine retI rfl ?_
    refine thenR ?_
    exact h
  · clear h; intro h
    refine skipI rfl ?_
    refine thenN ?_
    refine seqI (c := span_New_c9) rfl ?_
    refine regI hl (Eq.mpr (span_New_g14_e _ (fun i => l.getD i undef) _) h) ?_
    clear h hl
    intro l H hl h
    refine thenN ?_
    refine retI rfl ?_
    exact h
theorem span_New_ok : okB span_New_pi span_New_c1 = true := by kernel_rfl
theorem span_New_ev0 (x0 : Value) (R : Value → Heap → Prop) (H : Heap) (h : span_New x0 R H) : EvL P N.span_New #[x0] H R :=
  EvF_intro (args := [x0]) (k := 12) (rs := span_New_rs) tab_ok mixed Try.func7 (show Try.f7.body = some span_New_c1 by kernel_rfl) Try.call7 Try.ntmps7 (by kernel_rfl) (okCode_of _ span_New_ok) rfl (span_New_i R x0 H h)
theorem span_New_ev (x0 : Value) (R : Value → Heap → Prop) (H : Heap) (h : span_New x0 R H) : EvF P N.span_New #[x0] H R := .inl (span_New_ev0 x0 R H h)
/- 8: sounder/sounderref00.Bring -/
def sounderref00_Bring_rs : List ResultVar := [.tmp 4]
noncomputable def sounderref00_Bring_c2 : Code := subC (bodyC Try.f8) [0]
noncomputable def sounderref00_Bring_c4 : Code := subC (bodyC Try.f8) [1, 0]
noncomputable def sounderref00_Bring_c7 : Code := subC (bodyC Try.f8) [1, 1, 0, 0]
noncomputable def sounderref00_Bring_c9 : Code := subC (bodyC Try.f8) [1, 1, 0, 1, 0]
noncomputable def sounderref00_Bring_c8 : Code := .cond (.tmp 9) sounderref00_Bring_c9 Code.skip
noncomputable def sounderref00_Bring_c6 : Code := .seq sounderref00_Bring_c7 sounderref00_Bring_c8
noncomputable def sounderref00_Bring_c11 : Code := subC (bodyC Try.f8) [1, 1, 1, 0]
noncomputable def sounderref00_Bring_c10 : Code := .seq sounderref00_Bring_c11 Code.ret
noncomputable def sounderref00_Bring_c5 : Code := .seq sounderref00_Bring_c6 sounderref00_Bring_c10
noncomputable def sounderref00_Bring_c3 : Code := .seq sounderref00_Bring_c4 sounderref00_Bring_c5
noncomputable def sounderref00_Bring_c1 : Code := .seq sounderref00_Bring_c2 sounderref00_Bring_c3
def sounderref00_Bring_pi (_ : Nat) : Pl := .nil
def sounderref00_Bring_g12 (S : Value → Value → Heap → Prop) (x0 x1 : Value) (H : Heap) : Prop :=
  S x0 x1 H
theorem sounderref00_Bring_g12_e (S : Value → Value → Heap → Prop) (x : Nat → Value) (H : Heap) : wpE tab P sounderref00_Bring_pi sounderref00_Bring_c2 (nQ fun l H => S (l.getD 0 undef) (l.getD 1 undef) H) ((List.range 14).map x) H = sounderref00_Bring_g12 S (x 0) (x 1) H := by kernel_rfl
def sounderref00_Bring_g13 (S : Value → Value → Heap → Prop) (x0 x1 : Value) (H : Heap) : Prop :=
  bnd (binV .int .rem x0 x1) fun v7 =>
  S v7 x1 H
theorem sounderref00_Bring_g13_e (S : Value → Value → Heap → Prop) (x : Nat → Value) (H : Heap) : wpE tab P sounderref00_Bring_pi sounderref00_Bring_c4 (nQ fun l H => S (l.getD 0 undef) (l.getD 1 undef) H) ((List.range 14).map x) H = sounderref00_Bring_g13 S (x 0) (x 1) H := by kernel_rfl
def sounderref00_Bring_g15 (S : Value → Heap → Prop) (x0 : Value) (H : Heap) : Prop :=
  S x0 H
theorem sounderref00_Bring_g15_e (S : Value → Heap → Prop) (x : Nat → Value) (H : Heap) : wpE tab P sounderref00_Bring_pi sounderref00_Bring_c11 (nQ fun l H => S (l.getD 4 undef) H) ((List.range 14).map x) H = sounderref00_Bring_g15 S (x 0) H := by kernel_rfl
def sounderref00_Bring_s14 (x0 : Value) (R : Value → Heap → Prop) (H : Heap) : Prop :=
  sounderref00_Bring_g15 (fun x4 H => R x4 H) x0 H
noncomputable def sounderref00_Bring_q16 (R : Value → Heap → Prop) : Exit → List Value → Heap → Prop := (retQ tab sounderref00_Bring_rs R)
theorem sounderref00_Bring_s14_i (R : Value → Heap → Prop) (l : List Value) (H : Heap) (hl : l.length = 14) (h : sounderref00_Bring_s14 (l.getD 0 undef) R H) : wpE tab P sounderref00_Bring_pi sounderref00_Bring_c10 (sounderref00_Bring_q16 R) l H := by
  refine seqI (c := sounderref00_Bring_c10) rfl ?_
  refine regI hl (Eq.mpr (sounderref00_Bring_g15_e _ (fun i => l.getD i undef) _) h) ?_
  clear h hl
  intro l H hl h
  refine thenN ?_
  refine retI rfl ?_
  exact h
def sounderref00_Bring_g17 (S : Value → Value → Value → Heap → Prop) (x0 x1 : Value) (H : Heap) : Prop :=
  bnd (binV .int .lss x0 (.int .i64 0)) fun v9 =>
  S x0 x1 v9 H
theorem sounderref00_Bring_g17_e (S : Value → Value → Value → Heap → Prop) (x : Nat → Value) (H : Heap) : wpE tab P sounderref00_Bring_pi sounderref00_Bring_c7 (nQ fun l H => S (l.getD 0 undef) (l.getD 1 undef) (l.getD 9 undef) H) ((List.range 14).map x) H = sounderref00_Bring_g17 S (x 0) (x 1) H := by kernel_rfl
def sounderref00_Bring_g18 (S : Value → Heap → Prop) (x0 x1 : Value) (H : Heap) : Prop :=
  bnd (binV .int .add x0 x1) fun v12 =>
  S v12 H
theorem sounderref00_Bring_g18_e (S : Value → Heap → Prop) (x : Nat → Value) (H : Heap) : wpE tab P sounderref00_Bring_pi sounderref00_Bring_c9 (nQ fun l H => S (l.getD 0 undef) H) ((List.range 14).map x) H = sounderref00_Bring_g18 S (x 0) (x 1) H := by kernel_rfl
def sounderref00_Bring (x0 x1 : Value) (R : Value → Heap → Prop) (H : Heap) : Prop :=
  sounderref00_Bring_g12 (fun x0 x1 H => sounderref00_Bring_g13 (fun x0 x1 H => sounderref00_Bring_g17 (fun x0 x1 x9 H => brV x9
  (sounderref00_Bring_g18 (fun x0 H => sounderref00_Bring_s14 x0 R H) x0 x1 H)
  (sounderref00_Bring_s14 x0 R H)) x0 x1 H) x0 x1 H) x0 x1 H
theorem sounderref00_Bring_i (R : Value → Heap → Prop) (x0 x1 : Value) (H : Heap) (h : sounderref00_Bring x0 x1 R H) : wpE tab P sounderref00_Bring_pi sounderref00_Bring_c1 (retQ tab sounderref00_Bring_rs R) [x0, x1, undef, undef, undef, undef, undef, undef, undef, undef, undef, undef, undef, undef] H := by
  obtain ⟨l, hl, el⟩ : ∃ l : List Value, l.length = 14 ∧ l = [x0, x1, undef, undef, undef, undef, undef, undef, undef, undef, undef, undef, undef, undef] := ⟨_, rfl, rfl⟩
  rw [← el]
  have h : (fun (x0 x1 : Value) => sounderref00_Bring_g12 (fun x0 x1 H => sounderref00_Bring_g13 (fun x0 x1 H => sounderref00_Bring_g17 (fun x0 x1 x9 H => brV x9
(sounderref00_Bring_g18 (fun x0 H => sounderref00_Bring_s14 x0 R H) x0 x1 H)
(sounderref00_Bring_s14 x0 R H)) x0 x1 H) x0 x1 H) x0 x1 H) (l.getD 0 undef) (l.getD 1 undef) := by rw [el]; exact h
  clear el
  refine seqI (c := sounderref00_Bring_c1) rfl ?_
  refine regI hl (Eq.mpr (sounderref00_Bring_g12_e _ (fun i => l.getD i undef) _) h) ?_
  clear h hl
  intro l H hl h
  refine thenN ?_
  refine seqI (c := sounderref00_Bring_c3) rfl ?_
  refine regI hl (Eq.mpr (sounderref00_Bring_g13_e _ (fun i => l.getD i undef) _) h) ?_
  clear h hl
  intro l H hl h
  refine thenN ?_
  refine seqI (c := sounderref00_Bring_c5) rfl ?_
  refine seqI (c := sounderref00_Bring_c6) rfl ?_
  refine regI hl (Eq.mpr (sounderref00_Bring_g17_e _ (fun i => l.getD i undef) _) h) ?_
  clear h hl
  intro l H hl h
  refine thenN ?_
  refine condI (c := sounderref00_Bring_c8) rfl h ?_ ?_
  · clear h; intro h
    refine regI hl (Eq.mpr (sounderref00_Bring_g18_e _ (fun i => l.getD i undef) _) h) ?_
    clear h hl
    intro l H hl h
    refine thenN ?_
    exact sounderref00_Bring_s14_i R l H hl h
  · clear h; intro h
    refine skipI rfl ?_
    refine thenN ?_
    exact sounderref00_Bring_s14_i R l H hl h
theorem sounderref00_Bring_ok : okB sounderref00_Bring_pi sounderref00_Bring_c1 = true := by kernel_rfl
theorem sounderref00_Bring_ev0 (x0 x1 : Value) (R : Value → Heap → Prop) (H : Heap) (h : sounderref00_Bring x0 x1 R H) : EvL P N.sounderref00_Bring #[x0, x1] H R :=
  EvF_intro (args := [x0, x1]) (k := 12) (rs := sounderref00_Bring_rs) tab_ok mixed Try.func8 (show Try.f8.body = some sounderref00_Bring_c1 by kernel_rfl) Try.call8 Try.ntmps8 (by kernel_rfl) (okCode_of _ sounderref00_Bring_ok) rfl (sounderref00_Bring_i R x0 x1 H h)
theorem sounderref00_Bring_ev (x0 x1 : Value) (R : Value → Heap → Prop) (H : Heap) (h : sounderref00_Bring x0 x1 R H) : EvF P N.sounderref00_Bring #[x0, x1] H R := .inl (sounderref00_Bring_ev0 x0 x1 R H h)
/- 9: (*sounder/span.Set).Add -/
def span_Set_Add_rs : List ResultVar := [.tmp 6]
noncomputable def span_Set_Add_c2 : Code := subC (bodyC Try.f9) [0]
noncomputable def span_Set_Add_c6 : Code := subC (bodyC Try.f9) [1, 0, 0, 0]
noncomputable def span_Set_Add_c9 : Code := subC (bodyC Try.f9) [1, 0, 0, 1, 0, 0]
noncomputable def span_Set_Add_c8 : Code := .seq span_Set_Add_c9 Code.ret
noncomputable def span_Set_Add_c12 : Code := subC (bodyC Try.f9) [1, 0, 0, 1, 1, 0, 0]
noncomputable def span_Set_Add_c15 : Code := subC (bodyC Try.f9) [1, 0, 0, 1, 1, 0, 1, 1, 0]
noncomputable def span_Set_Add_c17 : Code := subC (bodyC Try.f9) [1, 0, 0, 1, 1, 0, 1, 1, 1, 1]
noncomputable def span_Set_Add_c16 : Code := .cond (.tmp 13) Code.skip span_Set_Add_c17
noncomputable def span_Set_Add_c14 : Code := .seq span_Set_Add_c15 span_Set_Add_c16
noncomputable def span_Set_Add_c13 : Code := .cond (.tmp 13) Code.skip span_Set_Add_c14
noncomputable def span_Set_Add_c11 : Code := .seq span_Set_Add_c12 span_Set_Add_c13
noncomputable def span_Set_Add_c20 : Code := subC (bodyC Try.f9) [1, 0, 0, 1, 1, 1, 0, 0]
noncomputable def span_Set_Add_c19 : Code := .seq span_Set_Add_c20 Code.ret
noncomputable def span_Set_Add_c18 : Code := .cond (.tmp 13) span_Set_Add_c19 Code.skip
noncomputable def span_Set_Add_c10 : Code := .seq span_Set_Add_c11 span_Set_Add_c18
noncomputable def span_Set_Add_c7 : Code := .cond (.tmp 10) span_Set_Add_c8 span_Set_Add_c10
noncomputable def span_Set_Add_c5 : Code := .seq span_Set_Add_c6 span_Set_Add_c7
noncomputable def span_Set_Add_c4 : Code := .block 0 span_Set_Add_c5
noncomputable def span_Set_Add_c22 : Code := subC (bodyC Try.f9) [1, 1, 0]
noncomputable def span_Set_Add_c24 : Code := subC (bodyC Try.f9) [1, 1, 1, 0]
noncomputable def span_Set_Add_c26 : Code := subC (bodyC Try.f9) [1, 1, 1, 1, 0]
noncomputable def span_Set_Add_c29 : Code := subC (bodyC Try.f9) [1, 1, 1, 1, 1, 0, 0]
noncomputable def span_Set_Add_c31 : Code := subC (bodyC Try.f9) [1, 1, 1, 1, 1, 0, 1, 0]
noncomputable def span_Set_Add_c30 : Code := .cond (.tmp 39) span_Set_Add_c31 Code.skip
noncomputable def span_Set_Add_c28 : Code := .seq span_Set_Add_c29 span_Set_Add_c30
noncomputable def span_Set_Add_c34 : Code := subC (bodyC Try.f9) [1, 1, 1, 1, 1, 1, 0, 0]
noncomputable def span_Set_Add_c37 : Code := subC (bodyC Try.f9) [1, 1, 1, 1, 1, 1, 0, 1, 0, 0]
noncomputable def span_Set_Add_c36 : Code := .seq span_Set_Add_c37 Code.ret
noncomputable def span_Set_Add_c35 : Code := .cond (.tmp 76) span_Set_Add_c36 Code.skip
noncomputable def span_Set_Add_c33 : Code := .seq span_Set_Add_c34 span_Set_Add_c35
noncomputable def span_Set_Add_c39 : Code := subC (bodyC Try.f9) [1, 1, 1, 1, 1, 1, 1, 0]
noncomputable def span_Set_Add_c41 : Code := subC (bodyC Try.f9) [1, 1, 1, 1, 1, 1, 1, 1, 0]
noncomputable def span_Set_Add_c40 : Code := .seq span_Set_Add_c41 Code.ret
noncomputable def span_Set_Add_c38 : Code := .seq span_Set_Add_c39 span_Set_Add_c40
noncomputable def span_Set_Add_c32 : Code := .seq span_Set_Add_c33 span_Set_Add_c38
noncomputable def span_Set_Add_c27 : Code := .seq span_Set_Add_c28 span_Set_Add_c32
noncomputable def span_Set_Add_c25 : Code := .seq span_Set_Add_c26 span_Set_Add_c27
noncomputable def span_Set_Add_c23 : Code := .seq span_Set_Add_c24 span_Set_Add_c25
noncomputable def span_Set_Add_c21 : Code := .seq span_Set_Add_c22 span_Set_Add_c23
noncomputable def span_Set_Add_c3 : Code := .seq span_Set_Add_c4 span_Set_Add_c21
noncomputable def span_Set_Add_c1 : Code := .seq span_Set_Add_c2 span_Set_Add_c3
def span_Set_Add_pi (i : Nat) : Pl := match i with
  | 11 => (ones [0, 1, 2, 3, 4, 5, 6, 7, 8, 9, 10, 11, 12, 13, 14, 15, 16, 17, 18, 19, 20, 21, 22] .nil)
  | 12 => (ones [0, 1, 2, 3, 4, 5, 6, 7, 8, 9, 10, 11, 12, 13, 14] .nil)
  | 14 => (ones [0, 1, 2, 3, 4, 5, 6, 7, 8, 9, 10, 11, 12] .nil)
  | _ => .nil
def span_Set_Add_g42 (S : Value → Value → Value → Heap → Prop) (x0 x1 x2 : Value) (H : Heap) : Prop :=
  newE 23 (Value.cells x0) H fun v3 H1 =>
  newE 3 (Value.cells x2) H1 fun v5 H2 =>
  S x1 v3 v5 H2
theorem span_Set_Add_g42_e (S : Value → Value → Value → Heap → Prop) (x : Nat → Value) (H : Heap) : wpE tab P span_Set_Add_pi span_Set_Add_c2 (nQ fun l H => S (l.getD 1 undef) (l.getD 3 undef) (l.getD 5 undef) H) ((List.range 89).map x) H = span_Set_Add_g42 S (x 0) (x 1) (x 2) H := by kernel_rfl
def span_Set_Add_g43 (S : Value → Value → Value → Value → Heap → Prop) (x1 x3 x5 : Value) (H : Heap) : Prop :=
  bnd (ldE false 1 x3 H) fun v11 =>
  EvF P N.span_Set_none #[v11] H fun v12 H1 =>
  S x1 x3 x5 v12 H1
theorem span_Set_Add_g43_e (S : Value → Value → Value → Value → Heap → Prop) (x : Nat → Value) (H : Heap) : wpE tab P span_Set_Add_pi span_Set_Add_c6 (nQ fun l H => S (l.getD 1 undef) (l.getD 3 undef) (l.getD 5 undef) (l.getD 10 undef) H) ((List.range 89).map x) H = span_Set_Add_g43 S (x 1) (x 3) (x 5) H := by kernel_rfl
def span_Set_Add_g44 (S : Value → Heap → Prop) (H : Heap) : Prop :=
  S (.int .i64 1) H
theorem span_Set_Add_g44_e (S : Value → Heap → Prop) (x : Nat → Value) (H : Heap) : wpE tab P span_Set_Add_pi span_Set_Add_c9 (nQ fun l H => S (l.getD 6 undef) H) ((List.range 89).map x) H = span_Set_Add_g44 S  H := by kernel_rfl
def span_Set_Add_g46 (S : Value → Heap → Prop) (H : Heap) : Prop :=
  S (.int .i64 2) H
theorem span_Set_Add_g46_e (S : Value → Heap → Prop) (x : Nat → Value) (H : Heap) : wpE tab P span_Set_Add_pi span_Set_Add_c20 (nQ fun l H => S (l.getD 6 undef) H) ((List.range 89).map x) H = span_Set_Add_g46 S  H := by kernel_rfl
def span_Set_Add_g47 (S : Value → Value → Value → Value → Heap → Prop) (x1 x3 x5 : Value) (H : Heap) : Prop :=
  bnd (ldE false 1 x3 H) fun v23 =>
  bnd (binV .int .sub x1 (.int .i64 1)) fun v25 =>
  EvF P N.span_Set_first #[v23, v25] H fun v26 H1 =>
  S x1 x3 x5 v26 H1
theorem span_Set_Add_g47_e (S : Value → Value → Value → Value → Heap → Prop) (x : Nat → Value) (H : Heap) : wpE tab P span_Set_Add_pi span_Set_Add_c22 (nQ fun l H => S (l.getD 1 undef) (l.getD 3 undef) (l.getD 5 undef) (l.getD 7 undef) H) ((List.range 89).map x) H = span_Set_Add_g47 S (x 1) (x 3) (x 5) H := by kernel_rfl
def span_Set_Add_g48 (S : Value → Value → Value → Value → Value → Heap → Prop) (x1 x3 x5 x7 : Value) (H : Heap) : Prop :=
  bnd (ldE false 1 x3 H) fun v27 =>
  bnd (nilV v27) fun v28 =>
  bnd (faV 1 v28) fun v29 =>
  bnd (ldE false 1 v29 H) fun v30 =>
  bnd (lenV v30) fun v31 =>
  EvF P N.sort_Search #[v31, (.func (.func N.span_Set_Add_1) #[] #[x3, x5])] H fun v33 H1 =>
  S x1 x3 x5 x7 v33 H1
theorem span_Set_Add_g48_e (S : Value → Value → Value → Value → Value → Heap → Prop) (x : Nat → Value) (H : Heap) : wpE tab P span_Set_Add_pi span_Set_Add_c24 (nQ fun l H => S (l.getD 1 undef) (l.getD 3 undef) (l.getD 5 undef) (l.getD 7 undef) (l.getD 8 undef) H) ((List.range 89).map x) H = span_Set_Add_g48 S (x 1) (x 3) (x 5) (x 7) H := by kernel_rfl
def span_Set_Add_g49 (S : Value → Value → Value → Value → Value → Value → Heap → Prop) (x1 x3 x5 x7 x8 : Value) (H : Heap) : Prop :=
  bnd (ldE false 1 x5 H) fun v35 =>
  bnd (buildV #[(.int .i64 0), (.int .i64 0)] (places [(0, 1), (1, 1)]) [(0, x1), (1, v35)]) fun v36 =>
  newE 48 #[(.int .i64 0), (.int .i64 0)] H fun v9 H1 =>
  bnd (stE 2 v9 v36 H1) fun H2 =>
  S x1 x3 x5 x7 x8 v9 H2
theorem span_Set_Add_g49_e (S : Value → Value → Value → Value → Value → Value → Heap → Prop) (x : Nat → Value) (H : Heap) : wpE tab P span_Set_Add_pi span_Set_Add_c26 (nQ fun l H => S (l.getD 1 undef) (l.getD 3 undef) (l.getD 5 undef) (l.getD 7 undef) (l.getD 8 undef) (l.getD 9 undef) H) ((List.range 89).map x) H = span_Set_Add_g49 S (x 1) (x 3) (x 5) (x 7) (x 8) H := by kernel_rfl
def span_Set_Add_g51 (S : Value → Value → Value → Value → Value → Heap → Prop) (x3 x7 x8 x9 : Value) (H : Heap) : Prop :=
  bnd (ldE false 1 x3 H) fun v62 =>
  bnd (nilV v62) fun v63 =>
  bnd (faV 1 v63) fun v64 =>
  bnd (ldE false 1 v64 H) fun v65 =>
  bnd (lenV v65) fun v66 =>
  bnd (binV .int .sub x8 x7) fun v69 =>
  bnd (binV .int .sub v66 v69) fun v70 =>
  bnd (binV .int .add v70 (.int .i64 1)) fun v71 =>
  bnd (ldE false 1 x3 H) fun v72 =>
  bnd (nilV v72) fun v73 =>
  bnd (faV 0 v73) fun v74 =>
  bnd (ldE false 1 v74 H) fun v75 =>
  bnd (binV .int .gtr v71 v75) fun v76 =>
  S x3 x7 x8 x9 v76 H
theorem span_Set_Add_g51_e (S : Value → Value → Value → Value → Value → Heap → Prop) (x : Nat → Value) (H : Heap) : wpE tab P span_Set_Add_pi span_Set_Add_c34 (nQ fun l H => S (l.getD 3 undef) (l.getD 7 undef) (l.getD 8 undef) (l.getD 9 undef) (l.getD 76 undef) H) ((List.range 89).map x) H = span_Set_Add_g51 S (x 3) (x 7) (x 8) (x 9) H := by kernel_rfl
def span_Set_Add_g52 (S : Value → Heap → Prop) (H : Heap) : Prop :=
  S (.int .i64 5) H
theorem span_Set_Add_g52_e (S : Value → Heap → Prop) (x : Nat → Value) (H : Heap) : wpE tab P span_Set_Add_pi span_Set_Add_c37 (nQ fun l H => S (l.getD 6 undef) H) ((List.range 89).map x) H = span_Set_Add_g52 S  H := by kernel_rfl
def span_Set_Add_g53 (S : Heap → Prop) (x3 x7 x8 x9 : Value) (H : Heap) : Prop :=
  bnd (ldE false 1 x3 H) fun v77 =>
  bnd (ldE false 1 x3 H) fun v78 =>
  bnd (nilV v78) fun v79 =>
  bnd (faV 1 v79) fun v80 =>
  bnd (ldE false 1 v80 H) fun v81 =>
  bnd (ldE true 2 x9 H) fun v84 =>
  bslE 48 #[(.int .i64 0), (.int .i64 0)] 2 1 [(0, v84)] H fun v85 H1 =>
  ((bnd (ldE false 1 v80 H1) fun v' => v' = v81) ∧
  ((bnd (ldE false 1 x3 H1) fun v' => v' = v78) ∧
  ((bnd (ldE false 1 x3 H1) fun v' => v' = v77) ∧
  EvF P N.slices_Replace_Range #[v81, x7, x8, v85] H1 fun v86 H2 =>
  ((bnd (ldE false 1 x3 H2) fun v' => v' = v78) ∧
  ((bnd (ldE false 1 x3 H2) fun v' => v' = v77) ∧
  bnd (nilV v77) fun v87 =>
  bnd (faV 1 v87) fun v88 =>
  bnd (stE 1 v88 v86 H2) fun H3 =>
  S H3)))))
theorem span_Set_Add_g53_e (S : Heap → Prop) (x : Nat → Value) (H : Heap) : wpE tab P span_Set_Add_pi span_Set_Add_c39 (nQ fun _ H => S  H) ((List.range 89).map x) H = span_Set_Add_g53 S (x 3) (x 7) (x 8) (x 9) H := by kernel_rfl
def span_Set_Add_g54 (S : Value → Heap → Prop) (H : Heap) : Prop :=
  S (.int .i64 0) H
theorem span_Set_Add_g54_e (S : Value → Heap → Prop) (x : Nat → Value) (H : Heap) : wpE tab P span_Set_Add_pi span_Set_Add_c41 (nQ fun l H => S (l.getD 6 undef) H) ((List.range 89).map x) H = span_Set_Add_g54 S  H := by kernel_rfl
def span_Set_Add_s50 (x3 x7 x8 x9 : Value) (R : Value → Heap → Prop) (H : Heap) : Prop :=
  span_Set_Add_g51 (fun x3 x7 x8 x9 x76 H => brV x76
  (span_Set_Add_g52 (fun x6 H => R x6 H) H)
  (span_Set_Add_g53 (fun H => span_Set_Add_g54 (fun x6 H => R x6 H) H) x3 x7 x8 x9 H)) x3 x7 x8 x9 H
noncomputable def span_Set_Add_q55 (R : Value → Heap → Prop) : Exit → List Value → Heap → Prop := (retQ tab span_Set_Add_rs R)
theorem span_Set_Add_s50_i (R : Value → Heap → Prop) (l : List Value) (H : Heap) (hl : l.length = 89) (h : span_Set_Add_s50 (l.getD 3 undef) (l.getD 7 undef) (l.getD 8 undef) (l.getD 9 undef) R H) : wpE tab P span_Set_Add_pi span_Set_Add_c32 (span_Set_Add_q55 R) l H := by
  refine seqI (c := span_Set_Add_c32) rfl ?_
  refine seqI (c := span_Set_Add_c33) rfl ?_
  refine regI hl (Eq.mpr (span_Set_Add_g51_e _ (fun i => l.getD i undef) _) h) ?_
  clear h hl
  intro l H hl h
  refine thenN ?_
  refine condI (c := span_Set_Add_c35) rfl h ?_ ?_
  · clear h; intro h
    refine seqI (c := span_Set_Add_c36) rfl ?_
    refine regI hl (Eq.mpr (span_Set_Add_g52_e _ (fun i => l.getD i undef) _) h) ?_
    clear h hl
    intro l H hl h
    refine thenN ?_
    refine retI rfl ?_
    refine thenR ?_
    exact h
  · clear h; intro h
    refine skipI rfl ?_
    refine thenN ?_
    refine seqI (c := span_Set_Add_c38) rfl ?_
    refine regI hl (Eq.mpr (span_Set_Add_g53_e _ (fun i => l.getD i undef) _) h) ?_
    clear h hl
    intro l H hl h
    refine thenN ?_
    refine seqI (c := span_Set_Add_c40) rfl ?_
    refine regI hl (Eq.mpr (span_Set_Add_g54_e _ (fun i => l.getD i undef) _) h) ?_
    clear h hl
    intro l H hl h
    refine thenN ?_
    refine retI rfl ?_
    exact h
def span_Set_Add_g56 (S : Value → Value → Value → Value → Value → Value → Value → Heap → Prop) (x1 x3 x5 x7 x8 x9 : Value) (H : Heap) : Prop :=
  bnd (binV .int .lss x7 x8) fun v39 =>
  S x1 x3 x5 x7 x8 x9 v39 H
theorem span_Set_Add_g56_e (S : Value → Value → Value → Value → Value → Value → Value → Heap → Prop) (x : Nat → Value) (H : Heap) : wpE tab P span_Set_Add_pi span_Set_Add_c29 (nQ fun l H => S (l.getD 1 undef) (l.getD 3 undef) (l.getD 5 undef) (l.getD 7 undef) (l.getD 8 undef) (l.getD 9 undef) (l.getD 39 undef) H) ((List.range 89).map x) H = span_Set_Add_g56 S (x 1) (x 3) (x 5) (x 7) (x 8) (x 9) H := by kernel_rfl
def span_Set_Add_g57 (S : Value → Value → Value → Value → Heap → Prop) (x1 x3 x5 x7 x8 x9 : Value) (H : Heap) : Prop :=
  bnd (ldE false 1 x3 H) fun v41 =>
  bnd (nilV v41) fun v42 =>
  bnd (faV 1 v42) fun v43 =>
  bnd (ldE false 1 v43 H) fun v44 =>
  bnd (ixSV 2 v44 x7) fun v46 =>
  bnd (faV 0 v46) fun v47 =>
  bnd (ldE false 1 v47 H) fun v48 =>
  bnd (foldV min2V x1 [v48]) fun v49 =>
  bnd (ldE false 1 x5 H) fun v50 =>
  bnd (ldE false 1 x3 H) fun v51 =>
  bnd (nilV v51) fun v52 =>
  bnd (faV 1 v52) fun v53 =>
  bnd (ldE false 1 v53 H) fun v54 =>
  bnd (binV .int .sub x8 (.int .i64 1)) fun v56 =>
  bnd (ixSV 2 v54 v56) fun v57 =>
  bnd (faV 1 v57) fun v58 =>
  bnd (ldE false 1 v58 H) fun v59 =>
  bnd (foldV max2V v50 [v59]) fun v60 =>
  bnd (buildV #[(.int .i64 0), (.int .i64 0)] (places [(0, 1), (1, 1)]) [(0, v49), (1, v60)]) fun v61 =>
  bnd (stE 2 x9 v61 H) fun H1 =>
  S x3 x7 x8 x9 H1
theorem span_Set_Add_g57_e (S : Value → Value → Value → Value → Heap → Prop) (x : Nat → Value) (H : Heap) : wpE tab P span_Set_Add_pi span_Set_Add_c31 (nQ fun l H => S (l.getD 3 undef) (l.getD 7 undef) (l.getD 8 undef) (l.getD 9 undef) H) ((List.range 89).map x) H = span_Set_Add_g57 S (x 1) (x 3) (x 5) (x 7) (x 8) (x 9) H := by kernel_rfl
def span_Set_Add_s45 (x1 x3 x5 x13 : Value) (R : Value → Heap → Prop) (H : Heap) : Prop :=
  brV x13
  (span_Set_Add_g46 (fun x6 H => R x6 H) H)
  (span_Set_Add_g47 (fun x1 x3 x5 x7 H => span_Set_Add_g48 (fun x1 x3 x5 x7 x8 H => span_Set_Add_g49 (fun x1 x3 x5 x7 x8 x9 H => span_Set_Add_g56 (fun x1 x3 x5 x7 x8 x9 x39 H => brV x39
  (span_Set_Add_g57 (fun x3 x7 x8 x9 H => span_Set_Add_s50 x3 x7 x8 x9 R H) x1 x3 x5 x7 x8 x9 H)
  (span_Set_Add_s50 x3 x7 x8 x9 R H)) x1 x3 x5 x7 x8 x9 H) x1 x3 x5 x7 x8 H) x1 x3 x5 x7 H) x1 x3 x5 H)
noncomputable def span_Set_Add_q58 (R : Value → Heap → Prop) : Exit → List Value → Heap → Prop := (thenE (fun l H => wpE tab P span_Set_Add_pi span_Set_Add_c21 (span_Set_Add_q55 R) l H) (span_Set_Add_q55 R))
noncomputable def span_Set_Add_q59 (R : Value → Heap → Prop) : Exit → List Value → Heap → Prop := (blkE 0 (span_Set_Add_q58 R))
theorem span_Set_Add_s45_i (R : Value → Heap → Prop) (l : List Value) (H : Heap) (hl : l.length = 89) (h : span_Set_Add_s45 (l.getD 1 undef) (l.getD 3 undef) (l.getD 5 undef) (l.getD 13 undef) R H) : wpE tab P span_Set_Add_pi span_Set_Add_c18 (span_Set_Add_q59 R) l H := by
  refine condI (c := span_Set_Add_c18) rfl h ?_ ?_
  · clear h; intro h
    refine seqI (c := span_Set_Add_c19) rfl ?_
    refine regI hl (Eq.mpr (span_Set_Add_g46_e _ (fun i => l.getD i undef) _) h) ?_
    clear h hl
    intro l H hl h
    refine thenN ?_
    refine retI rfl ?_
    refine blkR ?_
    refine thenR ?_
    exact h
  · clear h; intro h
    refine skipI rfl ?_
    refine blkN ?_
    refine thenN ?_
    refine seqI (c := span_Set_Add_c21) rfl ?_
    refine regI hl (Eq.mpr (span_Set_Add_g47_e _ (fun i => l.getD i undef) _) h) ?_
    clear h hl
    intro l H hl h
    refine thenN ?_
    refine seqI (c := span_Set_Add_c23) rfl ?_
    refine regI hl (Eq.mpr (span_Set_Add_g48_e _ (fun i => l.getD i undef) _) h) ?_
    clear h hl
    intro l H hl h
    refine thenN ?_
    refine seqI (c := span_Set_Add_c25) rfl ?_
    refine regI hl (Eq.mpr (span_Set_Add_g49_e _ (fun i => l.getD i undef) _) h) ?_
    clear h hl
    intro l H hl h
    refine thenN ?_
    refine seqI (c := span_Set_Add_c27) rfl ?_
    refine seqI (c := span_Set_Add_c28) rfl ?_
    refine regI hl (Eq.mpr (span_Set_Add_g56_e _ (fun i => l.getD i undef) _) h) ?_
    clear h hl
    intro l H hl h
    refine thenN ?_
    refine condI (c := span_Set_Add_c30) rfl h ?_ ?_
    · clear h; intro h
      refine regI hl (Eq.mpr (span_Set_Add_g57_e _ (fun i => l.getD i undef) _) h) ?_
      clear h hl
      intro l H hl h
      refine thenN ?_
      exact span_Set_Add_s50_i R l H hl h
    · clear h; intro h
      refine skipI rfl ?_
      refine thenN ?_
      exact span_Set_Add_s50_i R l H hl h
def span_Set_Add_g60 (S : Value → Value → Value → Value → Heap → Prop) (x1 x3 x5 : Value) (H : Heap) : Prop :=
  EvF P N.span_is #[x1] H fun v15 H1 =>
  bnd (unV .not v15) fun v16 =>
  S x1 x3 x5 v16 H1
theorem span_Set_Add_g60_e (S : Value → Value → Value → Value → Heap → Prop) (x : Nat → Value) (H : Heap) : wpE tab P span_Set_Add_pi span_Set_Add_c12 (nQ fun l H => S (l.getD 1 undef) (l.getD 3 undef) (l.getD 5 undef) (l.getD 13 undef) H) ((List.range 89).map x) H = span_Set_Add_g60 S (x 1) (x 3) (x 5) H := by kernel_rfl
def span_Set_Add_g61 (S : Value → Value → Value → Value → Heap → Prop) (x1 x3 x5 : Value) (H : Heap) : Prop :=
  bnd (ldE false 1 x5 H) fun v17 =>
  EvF P N.span_is #[v17] H fun v18 H1 =>
  bnd (unV .not v18) fun v19 =>
  S x1 x3 x5 v19 H1
theorem span_Set_Add_g61_e (S : Value → Value → Value → Value → Heap → Prop) (x : Nat → Value) (H : Heap) : wpE tab P span_Set_Add_pi span_Set_Add_c15 (nQ fun l H => S (l.getD 1 undef) (l.getD 3 undef) (l.getD 5 undef) (l.getD 13 undef) H) ((List.range 89).map x) H = span_Set_Add_g61 S (x 1) (x 3) (x 5) H := by kernel_rfl
def span_Set_Add_g62 (S : Value → Value → Value → Value → Heap → Prop) (x1 x3 x5 : Value) (H : Heap) : Prop :=
  bnd (ldE false 1 x5 H) fun v21 =>
  bnd (binV .int .gtr x1 v21) fun v22 =>
  S x1 x3 x5 v22 H
theorem span_Set_Add_g62_e (S : Value → Value → Value → Value → Heap → Prop) (x : Nat → Value) (H : Heap) : wpE tab P span_Set_Add_pi span_Set_Add_c17 (nQ fun l H => S (l.getD 1 undef) (l.getD 3 undef) (l.getD 5 undef) (l.getD 13 undef) H) ((List.range 89).map x) H = span_Set_Add_g62 S (x 1) (x 3) (x 5) H := by kernel_rfl
def span_Set_Add (x0 x1 x2 : Value) (R : Value → Heap → Prop) (H : Heap) : Prop :=
  span_Set_Add_g42 (fun x1 x3 x5 H => span_Set_Add_g43 (fun x1 x3 x5 x10 H => brV x10
  (span_Set_Add_g44 (fun x6 H => R x6 H) H)
  (span_Set_Add_g60 (fun x1 x3 x5 x13 H => brV x13
  (span_Set_Add_s45 x1 x3 x5 x13 R H)
  (span_Set_Add_g61 (fun x1 x3 x5 x13 H => brV x13
  (span_Set_Add_s45 x1 x3 x5 x13 R H)
  (span_Set_Add_g62 (fun x1 x3 x5 x13 H => span_Set_Add_s45 x1 x3 x5 x13 R H) x1 x3 x5 H)) x1 x3 x5 H)) x1 x3 x5 H)) x1 x3 x5 H) x0 x1 x2 H
theorem span_Set_Add_i (R : Value → Heap → Prop) (x0 x1 x2 : Value) (H : Heap) (h : span_Set_Add x0 x1 x2 R H) : wpE tab P span_Set_Add_pi span_Set_Add_c1 (retQ tab span_Set_Add_rs R) [x0, x1, x2, undef, undef, undef, undef, undef, undef, undef, undef, undef, undef, undef, undef, undef, undef, undef, undef, undef, undef, undef, undef, undef, undef, undef, undef, undef, undef, undef, undef, undef, undef, undef, undef, undef, undef, undef, undef, undef, undef, undef, undef, undef, undef, undef, undef, undef, undef, undef, undef, undef, undef, undef, undef, undef, undef, undef, undef, undef, undef, undef, undef, undef, undef, undef, undef, undef, undef, undef, undef, undef, undef, undef, undef, undef, undef, undef, undef, undef, undef, undef, undef, undef, undef, undef, undef, undef, undef] H := by
  obtain ⟨l, hl, el⟩ : ∃ l : List Value, l.length = 89 ∧ l = [x0, x1, x2, undef, undef, undef, undef, undef, undef, undef, undef, undef, undef, undef, undef, undef, undef, undef, undef, undef, undef, undef, undef, undef, undef, undef, undef, undef, undef, undef, undef, undef, undef, undef, undef, undef, undef, undef, undef, undef, undef, undef, undef, undef, undef, undef, undef, undef, undef, undef, undef, undef, undef, undef, undef, undef, undef, undef, undef, undef, undef, undef, undef, undef, undef, undef, undef, undef, undef, undef, undef, undef, undef, undef, undef, undef, undef, undef, undef, undef, undef, undef, undef, undef, undef, undef, undef, undef, undef] := ⟨_, rfl, rfl⟩
  rw [← el]
  have h : (fun (x0 x1 x2 : Value) => span_Set_Add_g42 (fun x1 x3 x5 H => span_Set_Add_g43 (fun x1 x3 x5 x10 H => brV x10
(span_Set_Add_g44 (fun x6 H => R x6 H) H)
(span_Set_Add_g60 (fun x1 x3 x5 x13 H => brV x13
(span_Set_Add_s45 x1 x3 x5 x13 R H)
(span_Set_Add_g61 (fun x1 x3 x5 x13 H => brV x13
(span_Set_Add_s45 x1 x3 x5 x13 R H)
(span_Set_Add_g62 (fun x1 x3 x5 x13 H => span_Set_Add_s45 x1 x3 x5 x13 R H) x1 x3 x5 H)) x1 x3 x5 H)) x1 x3 x5 H)) x1 x3 x5 H) x0 x1 x2 H) (l.getD 0 undef) (l.getD 1 undef) (l.getD 2 undef) := by rw [el]; exact h
  clear el
  refine seqI (c := span_Set_Add_c1) rfl ?_
  refine regI hl (Eq.mpr (span_Set_Add_g42_e _ (fun i => l.getD i undef) _) h) ?_
  clear h hl
  intro l H hl h
  refine thenN ?_
  refine seqI (c := span_Set_Add_c3) rfl ?_
  refine blockI (c := span_Set_Add_c4) rfl ?_
  refine seqI (c := span_Set_Add_c5) rfl ?_
  refine regI hl (Eq.mpr (span_Set_Add_g43_e _ (fun i => l.getD i undef) _) h) ?_
  clear h hl
  intro l H hl h
  refine thenN ?_
  refine condI (c := span_Set_Add_c7) rfl h ?_ ?_
  · clear h; intro h
    refine seqI (c := span_Set_Add_c8) rfl ?_
    refine regI hl (Eq.mpr (span_Set_Add_g44_e _ (fun i => l.getD i undef) _) h) ?_
    clear h hl
    intro l H hl h
    refine thenN ?_
    refine retI rfl ?_
    refine blkR ?_
    refine thenR ?_
    exact h
  · clear h; intro h
    refine seqI (c := span_Set_Add_c10) rfl ?_
    refine seqI (c := span_Set_Add_c11) rfl ?_
    refine regI hl (Eq.mpr (span_Set_Add_g60_e _ (fun i => l.getD i undef) _) h) ?_
    clear h hl
    intro l H hl h
    refine thenN ?_
    refine condI (c := span_Set_Add_c13) rfl h ?_ ?_
    · clear h; intro h
      refine skipI rfl ?_
      refine thenN ?_
      exact span_Set_Add_s45_i R l H hl h
    · clear h; intro h
      refine seqI (c := span_Set_Add_c14) rfl ?_
      refine regI hl (Eq.mpr (span_Set_Add_g61_e _ (fun i => l.getD i undef) _) h) ?_
      clear h hl
      intro l H hl h
      refine thenN ?_
      refine condI (c := span_Set_Add_c16) rfl h ?_ ?_
      · clear h; intro h
        refine skipI rfl ?_
        refine thenN ?_
        exact span_Set_Add_s45_i R l H hl h
      · clear h; intro h
        refine regI hl (Eq.mpr (span_Set_Add_g62_e _ (fun i => l.getD i undef) _) h) ?_
        clear h hl
        intro l H hl h
        refine thenN ?_
        exact span_Set_Add_s45_i R l H hl h
theorem span_Set_Add_ok : okB span_Set_Add_pi span_Set_Add_c1 = true := by kernel_rfl
theorem span_Set_Add_ev0 (x0 x1 x2 : Value) (R : Value → Heap → Prop) (H : Heap) (h : span_Set_Add x0 x1 x2 R H) : EvL P N.span_Set_Add #[x0, x1, x2] H R :=
  EvF_intro (args := [x0, x1, x2]) (k := 86) (rs := span_Set_Add_rs) tab_ok mixed Try.func9 (show Try.f9.body = some span_Set_Add_c1 by kernel_rfl) Try.call9 Try.ntmps9 (by kernel_rfl) (okCode_of _ span_Set_Add_ok) rfl (span_Set_Add_i R x0 x1 x2 H h)
theorem span_Set_Add_ev (x0 x1 x2 : Value) (R : Value → Heap → Prop) (H : Heap) (h : span_Set_Add x0 x1 x2 R H) : EvF P N.span_Set_Add #[x0, x1, x2] H R := .inl (span_Set_Add_ev0 x0 x1 x2 R H h)
/- 10: (*sounder/span.Set).Len -/
def span_Set_Len_rs : List ResultVar := [.tmp 2]
noncomputable def span_Set_Len_c2 : Code := subC (bodyC Try.f10) [0]
noncomputable def span_Set_Len_c5 : Code := subC (bodyC Try.f10) [1, 0, 0]
noncomputable def span_Set_Len_c8 : Code := subC (bodyC Try.f10) [1, 0, 1, 0, 0]
noncomputable def span_Set_Len_c7 : Code := .seq span_Set_Len_c8 Code.ret
noncomputable def span_Set_Len_c6 : Code := .cond (.tmp 4) span_Set_Len_c7 Code.skip
noncomputable def span_Set_Len_c4 : Code := .seq span_Set_Len_c5 span_Set_Len_c6
noncomputable def span_Set_Len_c10 : Code := subC (bodyC Try.f10) [1, 1, 0]
noncomputable def span_Set_Len_c9 : Code := .seq span_Set_Len_c10 Code.ret
noncomputable def span_Set_Len_c3 : Code := .seq span_Set_Len_c4 span_Set_Len_c9
noncomputable def span_Set_Len_c1 : Code := .seq span_Set_Len_c2 span_Set_Len_c3
def span_Set_Len_pi (_ : Nat) : Pl := .nil
def span_Set_Len_g11 (S : Value → Heap → Prop) (x0 : Value) (H : Heap) : Prop :=
  S x0 H
theorem span_Set_Len_g11_e (S : Value → Heap → Prop) (x : Nat → Value) (H : Heap) : wpE tab P span_Set_Len_pi span_Set_Len_c2 (nQ fun l H => S (l.getD 0 undef) H) ((List.range 10).map x) H = span_Set_Len_g11 S (x 0) H := by kernel_rfl
def span_Set_Len_g12 (S : Value → Value → Heap → Prop) (x0 : Value) (H : Heap) : Prop :=
  EvF P N.span_Set_none #[x0] H fun v4 H1 =>
  S x0 v4 H1
theorem span_Set_Len_g12_e (S : Value → Value → Heap → Prop) (x : Nat → Value) (H : Heap) : wpE tab P span_Set_Len_pi span_Set_Len_c5 (nQ fun l H => S (l.getD 0 undef) (l.getD 4 undef) H) ((List.range 10).map x) H = span_Set_Len_g12 S (x 0) H := by kernel_rfl
def span_Set_Len_g13 (S : Value → Heap → Prop) (H : Heap) : Prop :=
  S (.int .i64 0) H
theorem span_Set_Len_g13_e (S : Value → Heap → Prop) (x : Nat → Value) (H : Heap) : wpE tab P span_Set_Len_pi span_Set_Len_c8 (nQ fun l H => S (l.getD 2 undef) H) ((List.range 10).map x) H = span_Set_Len_g13 S  H := by kernel_rfl
def span_Set_Len_g14 (S : Value → Heap → Prop) (x0 : Value) (H : Heap) : Prop :=
  bnd (nilV x0) fun v6 =>
  bnd (faV 1 v6) fun v7 =>
  bnd (ldE false 1 v7 H) fun v8 =>
  bnd (lenV v8) fun v9 =>
  S v9 H
theorem span_Set_Len_g14_e (S : Value → Heap → Prop) (x : Nat → Value) (H : Heap) : wpE tab P span_Set_Len_pi span_Set_Len_c10 (nQ fun l H => S (l.getD 2 undef) H) ((List.range 10).map x) H = span_Set_Len_g14 S (x 0) H := by kernel_rfl
def span_Set_Len (x0 : Value) (R : Value → Heap → Prop) (H : Heap) : Prop :=
  span_Set_Len_g11 (fun x0 H => span_Set_Len_g12 (fun x0 x4 H => brV x4
  (span_Set_Len_g13 (fun x2 H => R x2 H) H)
  (span_Set_Len_g14 (fun x2 H => R x2 H) x0 H)) x0 H) x0 H
theorem span_Set_Len_i (R : Value → Heap → Prop) (x0 : Value) (H : Heap) (h : span_Set_Len x0 R H) : wpE tab P span_Set_Len_pi span_Set_Len_c1 (retQ tab span_Set_Len_rs R) [x0, undef, undef, undef, undef, undef, undef, undef, undef, undef] H := by
  obtain ⟨l, hl, el⟩ : ∃ l : List Value, l.length = 10 ∧ l = [x0, undef, undef, undef, undef, undef, undef, undef, undef, undef] := ⟨_, rfl, rfl⟩
  rw [← el]
  have h : (fun (x0 : Value) => span_Set_Len_g11 (fun x0 H => span_Set_Len_g12 (fun x0 x4 H => brV x4
(span_Set_Len_g13 (fun x2 H => R x2 H) H)
(span_Set_Len_g14 (fun x2 H => R x2 H) x0 H)) x0 H) x0 H) (l.getD 0 undef) := by rw [el]; exact h
  clear el
  refine seqI (c := span_Set_Len_c1) rfl ?_
  refine regI hl (Eq.mpr (span_Set_Len_g11_e _ (fun i => l.getD i undef) _) h) ?_
  clear h hl
  intro l H hl h
  refine thenN ?_
  refine seqI (c := span_Set_Len_c3) rfl ?_
  refine seqI (c := span_Set_Len_c4) rfl ?_
  refine regI hl (Eq.mpr (span_Set_Len_g12_e _ (fun i => l.getD i undef) _) h) ?_
  clear h hl
  intro l H hl h
  refine thenN ?_
  refine condI (c := span_Set_Len_c6) rfl h ?_ ?_
  · clear h; intro h
    refine seqI (c := span_Set_Len_c7) rfl ?_
    refine regI hl (Eq.mpr (span_Set_Len_g13_e _ (fun i => l.getD i undef) _) h) ?_
    clear h hl
    intro l H hl h
    refine thenN ?_
    refine retI rfl ?_
    refine thenR ?_
    exact h
  · clear h; intro h
    refine skipI rfl ?_
    refine thenN ?_
    refine seqI (c := span_Set_Len_c9) rfl ?_
    refine regI hl (Eq.mpr (span_Set_Len_g14_e _ (fun i => l.getD i undef) _) h) ?_
    clear h hl
    intro l H hl h
    refine thenN ?_
    refine retI rfl ?_
    exact h
theorem span_Set_Len_ok : okB span_Set_Len_pi span_Set_Len_c1 = true := by kernel_rfl
theorem span_Set_Len_ev0 (x0 : Value) (R : Value → Heap → Prop) (H : Heap) (h : span_Set_Len x0 R H) : EvL P N.span_Set_Len #[x0] H R :=
  EvF_intro (args := [x0]) (k := 9) (rs := span_Set_Len_rs) tab_ok mixed Try.func10 (show Try.f10.body = some span_Set_Len_c1 by kernel_rfl) Try.call10 Try.ntmps10 (by kernel_rfl) (okCode_of _ span_Set_Len_ok) rfl (span_Set_Len_i R x0 H h)
theorem span_Set_Len_ev (x0 : Value) (R : Value → Heap → Prop) (H : Heap) (h : span_Set_Len x0 R H) : EvF P N.span_Set_Len #[x0] H R := .inl (span_Set_Len_ev0 x0 R H h)
/- 11: (*sounder/span.Set).Count -/
def span_Set_Count_rs : List ResultVar := [.cell 2 3]
noncomputable def span_Set_Count_c2 : Code := subC (bodyC Try.f11) [0]
noncomputable def span_Set_Count_c5 : Code := subC (bodyC Try.f11) [1, 0, 0]
noncomputable def span_Set_Count_c8 : Code := subC (bodyC Try.f11) [1, 0, 1, 0, 0]
noncomputable def span_Set_Count_c7 : Code := .seq span_Set_Count_c8 Code.ret
noncomputable def span_Set_Count_c6 : Code := .cond (.tmp 5) span_Set_Count_c7 Code.skip
noncomputable def span_Set_Count_c4 : Code := .seq span_Set_Count_c5 span_Set_Count_c6
noncomputable def span_Set_Count_c11 : Code := subC (bodyC Try.f11) [1, 1, 0, 0]
noncomputable def span_Set_Count_c14 : Code := subC (bodyC Try.f11) [1, 1, 0, 1, 0, 0]
noncomputable def span_Set_Count_c16 : Code := subC (bodyC Try.f11) [1, 1, 0, 1, 0, 1, 0]
noncomputable def span_Set_Count_c15 : Code := .block 1 span_Set_Count_c16
noncomputable def span_Set_Count_c13 : Code := .rangeFunc (.tmp 7) #[8] span_Set_Count_c14 span_Set_Count_c15
noncomputable def span_Set_Count_c12 : Code := .block 0 span_Set_Count_c13
noncomputable def span_Set_Count_c10 : Code := .seq span_Set_Count_c11 span_Set_Count_c12
noncomputable def span_Set_Count_c18 : Code := subC (bodyC Try.f11) [1, 1, 1, 0]
noncomputable def span_Set_Count_c17 : Code := .seq span_Set_Count_c18 Code.ret
noncomputable def span_Set_Count_c9 : Code := .seq span_Set_Count_c10 span_Set_Count_c17
noncomputable def span_Set_Count_c3 : Code := .seq span_Set_Count_c4 span_Set_Count_c9
noncomputable def span_Set_Count_c1 : Code := .seq span_Set_Count_c2 span_Set_Count_c3
def span_Set_Count_pi (_ : Nat) : Pl := .nil
def span_Set_Count_g19 (S : Value → Value → Heap → Prop) (x0 : Value) (H : Heap) : Prop :=
  newE 3 #[(.int .i64 0)] H fun v2 H1 =>
  S x0 v2 H1
theorem span_Set_Count_g19_e (S : Value → Value → Heap → Prop) (x : Nat → Value) (H : Heap) : wpE tab P span_Set_Count_pi span_Set_Count_c2 (nQ fun l H => S (l.getD 0 undef) (l.getD 2 undef) H) ((List.range 18).map x) H = span_Set_Count_g19 S (x 0) H := by kernel_rfl
def span_Set_Count_g20 (S : Value → Value → Value → Heap → Prop) (x0 x2 : Value) (H : Heap) : Prop :=
  EvF P N.span_Set_none #[x0] H fun v5 H1 =>
  S x0 x2 v5 H1
theorem span_Set_Count_g20_e (S : Value → Value → Value → Heap → Prop) (x : Nat → Value) (H : Heap) : wpE tab P span_Set_Count_pi span_Set_Count_c5 (nQ fun l H => S (l.getD 0 undef) (l.getD 2 undef) (l.getD 5 undef) H) ((List.range 18).map x) H = span_Set_Count_g20 S (x 0) (x 2) H := by kernel_rfl
def span_Set_Count_g21 (S : Value → Heap → Prop) (x2 : Value) (H : Heap) : Prop :=
  bnd (stE 1 x2 (.int .i64 0) H) fun H1 =>
  S x2 H1
theorem span_Set_Count_g21_e (S : Value → Heap → Prop) (x : Nat → Value) (H : Heap) : wpE tab P span_Set_Count_pi span_Set_Count_c8 (nQ fun l H => S (l.getD 2 undef) H) ((List.range 18).map x) H = span_Set_Count_g21 S (x 2) H := by kernel_rfl
def span_Set_Count_g22 (S : Value → Value → Heap → Prop) (x0 x2 : Value) (H : Heap) : Prop :=
  EvF P N.span_Set_falling #[x0] H fun v7 H1 =>
  S x2 v7 H1
theorem span_Set_Count_g22_e (S : Value → Value → Heap → Prop) (x : Nat → Value) (H : Heap) : wpE tab P span_Set_Count_pi span_Set_Count_c11 (nQ fun l H => S (l.getD 2 undef) (l.getD 7 undef) H) ((List.range 18).map x) H = span_Set_Count_g22 S (x 0) (x 2) H := by kernel_rfl
noncomputable def span_Set_Count_L (fn : FuncId) (l : List Value) (d : Nat) : Loop := mkL fn l #[8] span_Set_Count_c14 span_Set_Count_c15 d
def span_Set_Count_g24 (S : Heap → Prop) (x2 x3 : Value) (H : Heap) : Prop :=
  bnd (ldE false 1 x2 H) fun v9 =>
  bnd (faV 1 x3) fun v10 =>
  bnd (ldE false 1 v10 H) fun v11 =>
  bnd (faV 0 x3) fun v12 =>
  bnd (ldE false 1 v12 H) fun v13 =>
  bnd (binV .int .sub v11 v13) fun v14 =>
  bnd (binV .int .add v14 (.int .i64 1)) fun v15 =>
  bnd (binV .int .add v9 v15) fun v16 =>
  bnd (stE 1 x2 v16 H) fun H1 =>
  S H1
theorem span_Set_Count_g24_e (S : Heap → Prop) (x : Nat → Value) (H : Heap) : wpE tab P span_Set_Count_pi span_Set_Count_c16 (nQ fun _ H => S  H) ((List.range 18).map x) H = span_Set_Count_g24 S (x 2) (x 3) H := by kernel_rfl
def span_Set_Count_s23 (x2 x3 : Value) (lp : Nat) (r : Loop) (R : Value → Heap → Prop) (H : Heap) : Prop :=
  span_Set_Count_g24 (fun H => (H.arr[lp]? = some (.loop (busy r)) ∧ R (.bool true) (setO H lp (.loop r)))) x2 x3 H
noncomputable def span_Set_Count_q25 (lp : Nat) (r : Loop) (R : Value → Heap → Prop) : Exit → List Value → Heap → Prop := (nQ fun _ H2 => H2.arr[lp]? = some (.loop (busy r)) ∧ R (.bool true) (setO H2 lp (.loop r)))
theorem span_Set_Count_s23_i (lp : Nat) (r : Loop) (R : Value → Heap → Prop) (l : List Value) (H : Heap) (hl : l.length = 18) (h : span_Set_Count_s23 (l.getD 2 undef) (l.getD 3 undef) lp r R H) : wpE tab P span_Set_Count_pi span_Set_Count_c15 (span_Set_Count_q25 lp r R) l H := by
  refine blockI (c := span_Set_Count_c15) rfl ?_
  refine regI hl (Eq.mpr (span_Set_Count_g24_e _ (fun i => l.getD i undef) _) h) ?_
  clear h hl
  intro l H hl h
  refine blkN ?_
  exact h
def span_Set_Count_g26 (S : Value → Value → Heap → Prop) (x2 x8 : Value) (H : Heap) : Prop :=
  newE 48 #[(.int .i64 0), (.int .i64 0)] H fun v3 H1 =>
  bnd (stE 2 v3 x8 H1) fun H2 =>
  S x2 v3 H2
theorem span_Set_Count_g26_e (S : Value → Value → Heap → Prop) (x : Nat → Value) (H : Heap) : wpE tab P span_Set_Count_pi span_Set_Count_c14 (nQ fun l H => S (l.getD 2 undef) (l.getD 3 undef) H) ((List.range 18).map x) H = span_Set_Count_g26 S (x 2) (x 8) H := by kernel_rfl
def span_Set_Count_r (lp : Nat) (r : Loop) (R : Value → Heap → Prop) (x2 x8 : Value) (H : Heap) : Prop :=
  span_Set_Count_g26 (fun x2 x3 H => (H.arr[lp]? = some (.loop r) ∧
  span_Set_Count_s23 x2 x3 lp r R (setO H lp (.loop (busy r))))) x2 x8 H
theorem span_Set_Count_ri (lp : Nat) (r : Loop) (R : Value → Heap → Prop) (l : List Value) (H : Heap) (hl : l.length = 18) (h : span_Set_Count_r lp r R (l.getD 2 undef) (l.getD 8 undef) H) : wpE tab P span_Set_Count_pi span_Set_Count_c14 (nQ fun l H => H.arr[lp]? = some (.loop r) ∧ wpE tab P span_Set_Count_pi span_Set_Count_c15 (nQ fun _ H2 => H2.arr[lp]? = some (.loop (busy r)) ∧ R (.bool true) (setO H2 lp (.loop r))) l (setO H lp (.loop (busy r)))) l H := by
  refine regI hl (Eq.mpr (span_Set_Count_g26_e _ (fun i => l.getD i undef) _) h) ?_
  clear h hl
  intro l H hl h
  exact ⟨h.1, span_Set_Count_s23_i lp r R l _ hl h.2⟩
theorem span_Set_Count_y (fn : FuncId) (d : Nat) (l : List Value) (hl : l.length = 18) (lp : Nat) (v8 : Value) (K : Heap) (R : Value → Heap → Prop) (hK : K.arr[lp]? = some (.loop (span_Set_Count_L fn l d))) (h : span_Set_Count_r lp (span_Set_Count_L fn l d) R (l.getD 2 undef) v8 K) : EvY P lp #[v8] K R := by
  refine EvY_intro (t := (l.set 8 v8)) tab_ok mixed hK rfl rfl rfl (by simp [span_Set_Count_L, mkL]) ⟨okCode_of _ (show okB span_Set_Count_pi span_Set_Count_c14 = true by kernel_rfl), okCode_of _ (show okB span_Set_Count_pi span_Set_Count_c15 = true by kernel_rfl)⟩ ?_
  have e2 : (l.set 8 v8).getD 2 undef = l.getD 2 undef := by simp [hl]
  have e8 : (l.set 8 v8).getD 8 undef = v8 := by simp [hl]
  exact span_Set_Count_ri lp (span_Set_Count_L fn l d) R (l.set 8 v8) K (by simp [hl]) (by rw [e2, e8]; exact h)
def span_Set_Count_g27 (S : Value → Heap → Prop) (x2 : Value) (H : Heap) : Prop :=
  bnd (ldE false 1 x2 H) fun v17 =>
  bnd (stE 1 x2 v17 H) fun H1 =>
  S x2 H1
theorem span_Set_Count_g27_e (S : Value → Heap → Prop) (x : Nat → Value) (H : Heap) : wpE tab P span_Set_Count_pi span_Set_Count_c18 (nQ fun l H => S (l.getD 2 undef) H) ((List.range 18).map x) H = span_Set_Count_g27 S (x 2) H := by kernel_rfl
def span_Set_Count (x0 : Value) (R : Value → Heap → Prop) (H : Heap) : Prop :=
  span_Set_Count_g19 (fun x0 x2 H => span_Set_Count_g20 (fun x0 x2 x5 H => brV x5
  (span_Set_Count_g21 (fun x2 H => bnd (ldE false 1 x2 H) fun r0 =>
  R r0 H) x2 H)
  (span_Set_Count_g22 (fun x2 x7 H => (∀ (fn : FuncId) (l : List Value), l.length = 18 → l.getD 2 undef = x2 → callL P x7 [.func (.yield (H.size + 1)) #[] #[]] (pushO (pushO H (.deferred (some []))) (.loop (span_Set_Count_L fn l H.size))) fun _ H2 =>
  H2.arr[H.size + 1]? = some (.loop (span_Set_Count_L fn l H.size)) ∧
  (fun (m : Nat) (H : Heap) =>
  span_Set_Count_g27 (fun x2 H => (H.arr[m]? = some (.deferred (some [])) ∧ (fun H : Heap =>
  bnd (ldE false 1 x2 H) fun r0 =>
  R r0 H) (setO H m (.deferred none)))) x2 H) H.size (setO H2 (H.size + 1) (.loop (done (span_Set_Count_L fn l H.size)))))) x0 x2 H)) x0 x2 H) x0 H
theorem span_Set_Count_i (R : Value → Heap → Prop) (x0 : Value) (H : Heap) (h : span_Set_Count x0 R H) : wpR tab P span_Set_Count_pi span_Set_Count_c1 (retQ tab span_Set_Count_rs R) (retQM tab span_Set_Count_rs R) [x0, undef, undef, undef, undef, undef, undef, undef, undef, undef, undef, undef, undef, undef, undef, undef, undef, undef] H := by
  obtain ⟨l, hl, el⟩ : ∃ l : List Value, l.length = 18 ∧ l = [x0, undef, undef, undef, undef, undef, undef, undef, undef, undef, undef, undef, undef, undef, undef, undef, undef, undef] := ⟨_, rfl, rfl⟩
  rw [← el]
  have h : (fun (x0 : Value) => span_Set_Count_g19 (fun x0 x2 H => span_Set_Count_g20 (fun x0 x2 x5 H => brV x5
(span_Set_Count_g21 (fun x2 H => bnd (ldE false 1 x2 H) fun r0 =>
R r0 H) x2 H)
(span_Set_Count_g22 (fun x2 x7 H => (∀ (fn : FuncId) (l : List Value), l.length = 18 → l.getD 2 undef = x2 → callL P x7 [.func (.yield (H.size + 1)) #[] #[]] (pushO (pushO H (.deferred (some []))) (.loop (span_Set_Count_L fn l H.size))) fun _ H2 =>
H2.arr[H.size + 1]? = some (.loop (span_Set_Count_L fn l H.size)) ∧
(fun (m : Nat) (H : Heap) =>
span_Set_Count_g27 (fun x2 H => (H.arr[m]? = some (.deferred (some [])) ∧ (fun H : Heap =>
bnd (ldE false 1 x2 H) fun r0 =>
R r0 H) (setO H m (.deferred none)))) x2 H) H.size (setO H2 (H.size + 1) (.loop (done (span_Set_Count_L fn l H.size)))))) x0 x2 H)) x0 x2 H) x0 H) (l.getD 0 undef) := by rw [el]; exact h
  clear el
  refine seqR (c := span_Set_Count_c1) rfl ?_
  refine wpR_of _ hl ?_
  refine regI hl (Eq.mpr (span_Set_Count_g19_e _ (fun i => l.getD i undef) _) h) ?_
  clear h hl
  intro l H hl h
  refine thenN ?_
  refine seqR (c := span_Set_Count_c3) rfl ?_
  refine wpR_of _ hl ?_
  refine seqI (c := span_Set_Count_c4) rfl ?_
  refine regI hl (Eq.mpr (span_Set_Count_g20_e _ (fun i => l.getD i undef) _) h) ?_
  clear h hl
  intro l H hl h
  refine thenN ?_
  refine condI (c := span_Set_Count_c6) rfl h ?_ ?_
  · clear h; intro h
    refine seqI (c := span_Set_Count_c7) rfl ?_
    refine regI hl (Eq.mpr (span_Set_Count_g21_e _ (fun i => l.getD i undef) _) h) ?_
    clear h hl
    intro l H hl h
    refine thenN ?_
    refine retI rfl ?_
    refine thenR ?_
    exact h
  · clear h; intro h
    refine skipI rfl ?_
    refine thenN ?_
    refine seqR (c := span_Set_Count_c9) rfl ?_
    refine seqR (c := span_Set_Count_c10) rfl ?_
    refine wpR_of _ hl ?_
    refine regI hl (Eq.mpr (span_Set_Count_g22_e _ (fun i => l.getD i undef) _) h) ?_
    clear h hl
    intro l H hl h
    refine thenN ?_
    refine blockR (c := span_Set_Count_c12) rfl ?_
    refine rangeR (c := span_Set_Count_c13) rfl ?_
    intro fn
    have h := h fn l hl rfl
    refine callL_mono (fun _ H2 h => ?_) h
    refine ⟨h.1, ?_⟩
    have h := h.2
    refine blkN ?_
    refine thenN ?_
    refine seqI (c := span_Set_Count_c17) rfl ?_
    refine regI hl (Eq.mpr (span_Set_Count_g27_e _ (fun i => l.getD i undef) _) h) ?_
    clear h hl
    intro l H hl h
    refine thenN ?_
    refine retI rfl ?_
    exact h
theorem span_Set_Count_ok : okBR span_Set_Count_pi span_Set_Count_c1 = true := by kernel_rfl
theorem span_Set_Count_ev0 (x0 : Value) (R : Value → Heap → Prop) (H : Heap) (h : span_Set_Count x0 R H) : EvL P N.span_Set_Count #[x0] H R :=
  EvR_intro (args := [x0]) (k := 17) (rs := span_Set_Count_rs) tab_ok mixed Try.func11 (show Try.f11.body = some span_Set_Count_c1 by kernel_rfl) Try.call11 Try.ntmps11 (by kernel_rfl) (okCodeR_of _ span_Set_Count_ok) rfl (span_Set_Count_i R x0 H h)
theorem span_Set_Count_ev (x0 : Value) (R : Value → Heap → Prop) (H : Heap) (h : span_Set_Count x0 R H) : EvF P N.span_Set_Count #[x0] H R := .inl (span_Set_Count_ev0 x0 R H h)
/- 12: (*sounder/span.Set).Max -/
def span_Set_Max_rs : List ResultVar := [.tmp 2]
noncomputable def span_Set_Max_c2 : Code := subC (bodyC Try.f12) [0]
noncomputable def span_Set_Max_c5 : Code := subC (bodyC Try.f12) [1, 0, 0]
noncomputable def span_Set_Max_c8 : Code := subC (bodyC Try.f12) [1, 0, 1, 0, 0]
noncomputable def span_Set_Max_c7 : Code := .seq span_Set_Max_c8 Code.ret
noncomputable def span_Set_Max_c6 : Code := .cond (.tmp 12) span_Set_Max_c7 Code.skip
noncomputable def span_Set_Max_c4 : Code := .seq span_Set_Max_c5 span_Set_Max_c6
noncomputable def span_Set_Max_c10 : Code := subC (bodyC Try.f12) [1, 1, 0]
noncomputable def span_Set_Max_c9 : Code := .seq span_Set_Max_c10 Code.ret
noncomputable def span_Set_Max_c3 : Code := .seq span_Set_Max_c4 span_Set_Max_c9
noncomputable def span_Set_Max_c1 : Code := .seq span_Set_Max_c2 span_Set_Max_c3
def span_Set_Max_pi (i : Nat) : Pl := match i with
  | 3 => (ones [0, 1, 2, 3, 4, 5, 6, 7, 8, 9, 10, 11, 12, 13] .nil)
  | _ => .nil
def span_Set_Max_g11 (S : Value → Heap → Prop) (x0 : Value) (H : Heap) : Prop :=
  S x0 H
theorem span_Set_Max_g11_e (S : Value → Heap → Prop) (x : Nat → Value) (H : Heap) : wpE tab P span_Set_Max_pi span_Set_Max_c2 (nQ fun l H => S (l.getD 0 undef) H) ((List.range 26).map x) H = span_Set_Max_g11 S (x 0) H := by kernel_rfl
def span_Set_Max_g12 (S : Value → Value → Heap → Prop) (x0 : Value) (H : Heap) : Prop :=
  EvF P N.span_Set_none #[x0] H fun v4 H1 =>
  brV v4
  (S x0 (.bool true) H1)
  (bnd (nilV x0) fun v7 =>
  bnd (faV 1 v7) fun v8 =>
  bnd (ldE false 1 v8 H1) fun v9 =>
  bnd (lenV v9) fun v10 =>
  bnd (binV .int .eql v10 (.int .i64 0)) fun v11 =>
  S x0 v11 H1)
theorem span_Set_Max_g12_e (S : Value → Value → Heap → Prop) (x : Nat → Value) (H : Heap) : wpE tab P span_Set_Max_pi span_Set_Max_c5 (nQ fun l H => S (l.getD 0 undef) (l.getD 12 undef) H) ((List.range 26).map x) H = span_Set_Max_g12 S (x 0) H := by kernel_rfl
def span_Set_Max_g13 (S : Value → Heap → Prop) (H : Heap) : Prop :=
  S (.int .i64 (-1)) H
theorem span_Set_Max_g13_e (S : Value → Heap → Prop) (x : Nat → Value) (H : Heap) : wpE tab P span_Set_Max_pi span_Set_Max_c8 (nQ fun l H => S (l.getD 2 undef) H) ((List.range 26).map x) H = span_Set_Max_g13 S  H := by kernel_rfl
def span_Set_Max_g14 (S : Value → Heap → Prop) (x0 : Value) (H : Heap) : Prop :=
  bnd (nilV x0) fun v14 =>
  bnd (faV 1 v14) fun v15 =>
  bnd (ldE false 1 v15 H) fun v16 =>
  bnd (nilV x0) fun v18 =>
  bnd (faV 1 v18) fun v19 =>
  bnd (ldE false 1 v19 H) fun v20 =>
  bnd (lenV v20) fun v21 =>
  bnd (binV .int .sub v21 (.int .i64 1)) fun v22 =>
  bnd (ixSV 2 v16 v22) fun v23 =>
  bnd (faV 1 v23) fun v24 =>
  bnd (ldE false 1 v24 H) fun v25 =>
  S v25 H
theorem span_Set_Max_g14_e (S : Value → Heap → Prop) (x : Nat → Value) (H : Heap) : wpE tab P span_Set_Max_pi span_Set_Max_c10 (nQ fun l H => S (l.getD 2 undef) H) ((List.range 26).map x) H = span_Set_Max_g14 S (x 0) H := by kernel_rfl
def span_Set_Max (x0 : Value) (R : Value → Heap → Prop) (H : Heap) : Prop :=
  span_Set_Max_g11 (fun x0 H => span_Set_Max_g12 (fun x0 x12 H => brV x12
  (span_Set_Max_g13 (fun x2 H => R x2 H) H)
  (span_Set_Max_g14 (fun x2 H => R x2 H) x0 H)) x0 H) x0 H
theorem span_Set_Max_i (R : Value → Heap → Prop) (x0 : Value) (H : Heap) (h : span_Set_Max x0 R H) : wpE tab P span_Set_Max_pi span_Set_Max_c1 (retQ tab span_Set_Max_rs R) [x0, undef, undef, undef, undef, undef, undef, undef, undef, undef, undef, undef, undef, undef, undef, undef, undef, undef, undef, undef, undef, undef, undef, undef, undef, undef] H := by
  obtain ⟨l, hl, el⟩ : ∃ l : List Value, l.length = 26 ∧ l = [x0, undef, undef, undef, undef, undef, undef, undef, undef, undef, undef, undef, undef, undef, undef, undef, undef, undef, undef, undef, undef, undef, undef, undef, undef, undef] := ⟨_, rfl, rfl⟩
  rw [← el]
  have h : (fun (x0 : Value) => span_Set_Max_g11 (fun x0 H => span_Set_Max_g12 (fun x0 x12 H => brV x12
(span_Set_Max_g13 (fun x2 H => R x2 H) H)
(span_Set_Max_g14 (fun x2 H => R x2 H) x0 H)) x0 H) x0 H) (l.getD 0 undef) := by rw [el]; exact h
  clear el
  refine seqI (c := span_Set_Max_c1) rfl ?_
  refine regI hl (Eq.mpr (span_Set_Max_g11_e _ (fun i => l.getD i undef) _) h) ?_
  clear h hl
  intro l H hl h
  refine thenN ?_
  refine seqI (c := span_Set_Max_c3) rfl ?_
  refine seqI (c := span_Set_Max_c4) rfl ?_
  refine regI hl (Eq.mpr (span_Set_Max_g12_e _ (fun i => l.getD i undef) _) h) ?_
  clear h hl
  intro l H hl h
  refine thenN ?_
  refine condI (c := span_Set_Max_c6) rfl h ?_ ?_
  · clear h; intro h
    refine seqI (c := span_Set_Max_c7) rfl ?_
    refine regI hl (Eq.mpr (span_Set_Max_g13_e _ (fun i => l.getD i undef) _) h) ?_
    clear h hl
    intro l H hl h
    refine thenN ?_
    refine retI rfl ?_
    refine thenR ?_
    exact h
  · clear h; intro h
    refine skipI rfl ?_
    refine thenN ?_
    refine seqI (c := span_Set_Max_c9) rfl ?_
    refine regI hl (Eq.mpr (span_Set_Max_g14_e _ (fun i => l.getD i undef) _) h) ?_
    clear h hl
    intro l H hl h
    refine thenN ?_
    refine retI rfl ?_
    exact h
theorem span_Set_Max_ok : okB span_Set_Max_pi span_Set_Max_c1 = true := by kernel_rfl
theorem span_Set_Max_ev0 (x0 : Value) (R : Value → Heap → Prop) (H : Heap) (h : span_Set_Max x0 R H) : EvL P N.span_Set_Max #[x0] H R :=
  EvF_intro (args := [x0]) (k := 25) (rs := span_Set_Max_rs) tab_ok mixed Try.func12 (show Try.f12.body = some span_Set_Max_c1 by kernel_rfl) Try.call12 Try.ntmps12 (by kernel_rfl) (okCode_of _ span_Set_Max_ok) rfl (span_Set_Max_i R x0 H h)
theorem span_Set_Max_ev (x0 : Value) (R : Value → Heap → Prop) (H : Heap) (h : span_Set_Max x0 R H) : EvF P N.span_Set_Max #[x0] H R := .inl (span_Set_Max_ev0 x0 R H h)
/- 13: (*sounder/span.Set).Min -/
def span_Set_Min_rs : List ResultVar := [.tmp 2]
noncomputable def span_Set_Min_c2 : Code := subC (bodyC Try.f13) [0]
noncomputable def span_Set_Min_c5 : Code := subC (bodyC Try.f13) [1, 0, 0]
noncomputable def span_Set_Min_c8 : Code := subC (bodyC Try.f13) [1, 0, 1, 0, 0]
noncomputable def span_Set_Min_c7 : Code := .seq span_Set_Min_c8 Code.ret
noncomputable def span_Set_Min_c6 : Code := .cond (.tmp 12) span_Set_Min_c7 Code.skip
noncomputable def span_Set_Min_c4 : Code := .seq span_Set_Min_c5 span_Set_Min_c6
noncomputable def span_Set_Min_c10 : Code := subC (bodyC Try.f13) [1, 1, 0]
noncomputable def span_Set_Min_c9 : Code := .seq span_Set_Min_c10 Code.ret
noncomputable def span_Set_Min_c3 : Code := .seq span_Set_Min_c4 span_Set_Min_c9
noncomputable def span_Set_Min_c1 : Code := .seq span_Set_Min_c2 span_Set_Min_c3
def span_Set_Min_pi (_ : Nat) : Pl := .nil
def span_Set_Min_g11 (S : Value → Heap → Prop) (x0 : Value) (H : Heap) : Prop :=
  S x0 H
theorem span_Set_Min_g11_e (S : Value → Heap → Prop) (x : Nat → Value) (H : Heap) : wpE tab P span_Set_Min_pi span_Set_Min_c2 (nQ fun l H => S (l.getD 0 undef) H) ((List.range 20).map x) H = span_Set_Min_g11 S (x 0) H := by kernel_rfl
def span_Set_Min_g12 (S : Value → Value → Heap → Prop) (x0 : Value) (H : Heap) : Prop :=
  EvF P N.span_Set_none #[x0] H fun v4 H1 =>
  brV v4
  (S x0 (.bool true) H1)
  (bnd (nilV x0) fun v7 =>
  bnd (faV 1 v7) fun v8 =>
  bnd (ldE false 1 v8 H1) fun v9 =>
  bnd (lenV v9) fun v10 =>
  bnd (binV .int .eql v10 (.int .i64 0)) fun v11 =>
  S x0 v11 H1)
theorem span_Set_Min_g12_e (S : Value → Value → Heap → Prop) (x : Nat → Value) (H : Heap) : wpE tab P span_Set_Min_pi span_Set_Min_c5 (nQ fun l H => S (l.getD 0 undef) (l.getD 12 undef) H) ((List.range 20).map x) H = span_Set_Min_g12 S (x 0) H := by kernel_rfl
def span_Set_Min_g13 (S : Value → Heap → Prop) (H : Heap) : Prop :=
  S (.int .i64 (-1)) H
theorem span_Set_Min_g13_e (S : Value → Heap → Prop) (x : Nat → Value) (H : Heap) : wpE tab P span_Set_Min_pi span_Set_Min_c8 (nQ fun l H => S (l.getD 2 undef) H) ((List.range 20).map x) H = span_Set_Min_g13 S  H := by kernel_rfl
def span_Set_Min_g14 (S : Value → Heap → Prop) (x0 : Value) (H : Heap) : Prop :=
  bnd (nilV x0) fun v14 =>
  bnd (faV 1 v14) fun v15 =>
  bnd (ldE false 1 v15 H) fun v16 =>
  bnd (ixSV 2 v16 (.int .i64 0)) fun v17 =>
  bnd (faV 0 v17) fun v18 =>
  bnd (ldE false 1 v18 H) fun v19 =>
  S v19 H
theorem span_Set_Min_g14_e (S : Value → Heap → Prop) (x : Nat → Value) (H : Heap) : wpE tab P span_Set_Min_pi span_Set_Min_c10 (nQ fun l H => S (l.getD 2 undef) H) ((List.range 20).map x) H = span_Set_Min_g14 S (x 0) H := by kernel_rfl
def span_Set_Min (x0 : Value) (R : Value → Heap → Prop) (H : Heap) : Prop :=
  span_Set_Min_g11 (fun x0 H => span_Set_Min_g12 (fun x0 x12 H => brV x12
  (span_Set_Min_g13 (fun x2 H => R x2 H) H)
  (span_Set_Min_g14 (fun x2 H => R x2 H) x0 H)) x0 H) x0 H
theorem span_Set_Min_i (R : Value → Heap → Prop) (x0 : Value) (H : Heap) (h : span_Set_Min x0 R H) : wpE tab P span_Set_Min_pi span_Set_Min_c1 (retQ tab span_Set_Min_rs R) [x0, undef, undef, undef, undef, undef, undef, undef, undef, undef, undef, undef, undef, undef, undef, undef, undef, undef, undef, undef] H := by
  obtain ⟨l, hl, el⟩ : ∃ l : List Value, l.length = 20 ∧ l = [x0, undef, undef, undef, undef, undef, undef, undef, undef, undef, undef, undef, undef, undef, undef, undef, undef, undef, undef, undef] := ⟨_, rfl, rfl⟩
  rw [← el]
  have h : (fun (x0 : Value) => span_Set_Min_g11 (fun x0 H => span_Set_Min_g12 (fun x0 x12 H => brV x12
(span_Set_Min_g13 (fun x2 H => R x2 H) H)
(span_Set_Min_g14 (fun x2 H => R x2 H) x0 H)) x0 H) x0 H) (l.getD 0 undef) := by rw [el]; exact h
  clear el
  refine seqI (c := span_Set_Min_c1) rfl ?_
  refine regI hl (Eq.mpr (span_Set_Min_g11_e _ (fun i => l.getD i undef) _) h) ?_
  clear h hl
  intro l H hl h
  refine thenN ?_
  refine seqI (c := span_Set_Min_c3) rfl ?_
  refine seqI (c := span_Set_Min_c4) rfl ?_
  refine regI hl (Eq.mpr (span_Set_Min_g12_e _ (fun i => l.getD i undef) _) h) ?_
  clear h hl
  intro l H hl h
  refine thenN ?_
  refine condI (c := span_Set_Min_c6) rfl h ?_ ?_
  · clear h; intro h
    refine seqI (c := span_Set_Min_c7) rfl ?_
    refine regI hl (Eq.mpr (span_Set_Min_g13_e _ (fun i => l.getD i undef) _) h) ?_
    clear h hl
    intro l H hl h
    refine thenN ?_
    refine retI rfl ?_
    refine thenR ?_
    exact h
  · clear h; intro h
    refine skipI rfl ?_
    refine thenN ?_
    refine seqI (c := span_Set_Min_c9) rfl ?_
    refine regI hl (Eq.mpr (span_Set_Min_g14_e _ (fun i => l.getD i undef) _) h) ?_
    clear h hl
    intro l H hl h
    refine thenN ?_
    refine retI rfl ?_
    exact h
theorem span_Set_Min_ok : okB span_Set_Min_pi span_Set_Min_c1 = true := by kernel_rfl
theorem span_Set_Min_ev0 (x0 : Value) (R : Value → Heap → Prop) (H : Heap) (h : span_Set_Min x0 R H) : EvL P N.span_Set_Min #[x0] H R :=
  EvF_intro (args := [x0]) (k := 19) (rs := span_Set_Min_rs) tab_ok mixed Try.func13 (show Try.f13.body = some span_Set_Min_c1 by kernel_rfl) Try.call13 Try.ntmps13 (by kernel_rfl) (okCode_of _ span_Set_Min_ok) rfl (span_Set_Min_i R x0 H h)
theorem span_Set_Min_ev (x0 : Value) (R : Value → Heap → Prop) (H : Heap) (h : span_Set_Min x0 R H) : EvF P N.span_Set_Min #[x0] H R := .inl (span_Set_Min_ev0 x0 R H h)
/- 14: (*sounder/span.Set).Next -/
def span_Set_Next_rs : List ResultVar := [.tmp 4]
noncomputable def span_Set_Next_c2 : Code := subC (bodyC Try.f14) [0]
noncomputable def span_Set_Next_c5 : Code := subC (bodyC Try.f14) [1, 0, 0]
noncomputable def span_Set_Next_c8 : Code := subC (bodyC Try.f14) [1, 0, 1, 0, 0]
noncomputable def span_Set_Next_c7 : Code := .seq span_Set_Next_c8 Code.ret
noncomputable def span_Set_Next_c6 : Code := .cond (.tmp 13) span_Set_Next_c7 Code.skip
noncomputable def span_Set_Next_c4 : Code := .seq span_Set_Next_c5 span_Set_Next_c6
noncomputable def span_Set_Next_c11 : Code := subC (bodyC Try.f14) [1, 1, 0, 0]
noncomputable def span_Set_Next_c13 : Code := subC (bodyC Try.f14) [1, 1, 0, 1, 0]
noncomputable def span_Set_Next_c15 : Code := subC (bodyC Try.f14) [1, 1, 0, 1, 1, 0]
noncomputable def span_Set_Next_c14 : Code := .cond (.tmp 20) span_Set_Next_c15 Code.skip
noncomputable def span_Set_Next_c12 : Code := .seq span_Set_Next_c13 span_Set_Next_c14
noncomputable def span_Set_Next_c10 : Code := .seq span_Set_Next_c11 span_Set_Next_c12
noncomputable def span_Set_Next_c18 : Code := subC (bodyC Try.f14) [1, 1, 1, 0, 0]
noncomputable def span_Set_Next_c21 : Code := subC (bodyC Try.f14) [1, 1, 1, 0, 1, 0, 0]
noncomputable def span_Set_Next_c20 : Code := .seq span_Set_Next_c21 Code.ret
noncomputable def span_Set_Next_c19 : Code := .cond (.tmp 26) span_Set_Next_c20 Code.skip
noncomputable def span_Set_Next_c17 : Code := .seq span_Set_Next_c18 span_Set_Next_c19
noncomputable def span_Set_Next_c23 : Code := subC (bodyC Try.f14) [1, 1, 1, 1, 0]
noncomputable def span_Set_Next_c22 : Code := .seq span_Set_Next_c23 Code.ret
noncomputable def span_Set_Next_c16 : Code := .seq span_Set_Next_c17 span_Set_Next_c22
noncomputable def span_Set_Next_c9 : Code := .seq span_Set_Next_c10 span_Set_Next_c16
noncomputable def span_Set_Next_c3 : Code := .seq span_Set_Next_c4 span_Set_Next_c9
noncomputable def span_Set_Next_c1 : Code := .seq span_Set_Next_c2 span_Set_Next_c3
def span_Set_Next_pi (_ : Nat) : Pl := .nil
def span_Set_Next_g24 (S : Value → Value → Heap → Prop) (x0 x1 : Value) (H : Heap) : Prop :=
  S x0 x1 H
theorem span_Set_Next_g24_e (S : Value → Value → Heap → Prop) (x : Nat → Value) (H : Heap) : wpE tab P span_Set_Next_pi span_Set_Next_c2 (nQ fun l H => S (l.getD 0 undef) (l.getD 1 undef) H) ((List.range 28).map x) H = span_Set_Next_g24 S (x 0) (x 1) H := by kernel_rfl
def span_Set_Next_g25 (S : Value → Value → Value → Heap → Prop) (x0 x1 : Value) (H : Heap) : Prop :=
  EvF P N.span_Set_none #[x0] H fun v8 H1 =>
  brV v8
  (S x0 x1 (.bool true) H1)
  (EvF P N.span_is #[x1] H1 fun v11 H2 =>
  bnd (unV .not v11) fun v12 =>
  S x0 x1 v12 H2)
theorem span_Set_Next_g25_e (S : Value → Value → Value → Heap → Prop) (x : Nat → Value) (H : Heap) : wpE tab P span_Set_Next_pi span_Set_Next_c5 (nQ fun l H => S (l.getD 0 undef) (l.getD 1 undef) (l.getD 13 undef) H) ((List.range 28).map x) H = span_Set_Next_g25 S (x 0) (x 1) H := by kernel_rfl
def span_Set_Next_g26 (S : Value → Heap → Prop) (H : Heap) : Prop :=
  S (.int .i64 (-1)) H
theorem span_Set_Next_g26_e (S : Value → Heap → Prop) (x : Nat → Value) (H : Heap) : wpE tab P span_Set_Next_pi span_Set_Next_c8 (nQ fun l H => S (l.getD 4 undef) H) ((List.range 28).map x) H = span_Set_Next_g26 S  H := by kernel_rfl
def span_Set_Next_g28 (S : Value → Value → Heap → Prop) (x1 : Value) (H : Heap) : Prop :=
  EvF P N.span_is #[x1] H fun v25 H1 =>
  bnd (unV .not v25) fun v26 =>
  S x1 v26 H1
theorem span_Set_Next_g28_e (S : Value → Value → Heap → Prop) (x : Nat → Value) (H : Heap) : wpE tab P span_Set_Next_pi span_Set_Next_c18 (nQ fun l H => S (l.getD 1 undef) (l.getD 26 undef) H) ((List.range 28).map x) H = span_Set_Next_g28 S (x 1) H := by kernel_rfl
def span_Set_Next_g29 (S : Value → Heap → Prop) (H : Heap) : Prop :=
  S (.int .i64 (-1)) H
theorem span_Set_Next_g29_e (S : Value → Heap → Prop) (x : Nat → Value) (H : Heap) : wpE tab P span_Set_Next_pi span_Set_Next_c21 (nQ fun l H => S (l.getD 4 undef) H) ((List.range 28).map x) H = span_Set_Next_g29 S  H := by kernel_rfl
def span_Set_Next_g30 (S : Value → Heap → Prop) (x1 : Value) (H : Heap) : Prop :=
  S x1 H
theorem span_Set_Next_g30_e (S : Value → Heap → Prop) (x : Nat → Value) (H : Heap) : wpE tab P span_Set_Next_pi span_Set_Next_c23 (nQ fun l H => S (l.getD 4 undef) H) ((List.range 28).map x) H = span_Set_Next_g30 S (x 1) H := by kernel_rfl
def span_Set_Next_s27 (x1 : Value) (R : Value → Heap → Prop) (H : Heap) : Prop :=
  span_Set_Next_g28 (fun x1 x26 H => brV x26
  (span_Set_Next_g29 (fun x4 H => R x4 H) H)
  (span_Set_Next_g30 (fun x4 H => R x4 H) x1 H)) x1 H
noncomputable def span_Set_Next_q31 (R : Value → Heap → Prop) : Exit → List Value → Heap → Prop := (retQ tab span_Set_Next_rs R)
theorem span_Set_Next_s27_i (R : Value → Heap → Prop) (l : List Value) (H : Heap) (hl : l.length = 28) (h : span_Set_Next_s27 (l.getD 1 undef) R H) : wpE tab P span_Set_Next_pi span_Set_Next_c16 (span_Set_Next_q31 R) l H := by
  refine seqI (c := span_Set_Next_c16) rfl ?_
  refine seqI (c := span_Set_Next_c17) rfl ?_
  refine regI hl (Eq.mpr (span_Set_Next_g28_e _ (fun i => l.getD i undef) _) h) ?_
  clear h hl
  intro l H hl h
  refine thenN ?_
  refine condI (c := span_Set_Next_c19) rfl h ?_ ?_
  · clear h; intro h
    refine seqI (c := span_Set_Next_c20) rfl ?_
    refine regI hl (Eq.mpr (span_Set_Next_g29_e _ (fun i => l.getD i undef) _) h) ?_
    clear h hl
    intro l H hl h
    refine thenN ?_
    refine retI rfl ?_
    refine thenR ?_
    exact h
  · clear h; intro h
    refine skipI rfl ?_
    refine thenN ?_
    refine seqI (c := span_Set_Next_c22) rfl ?_
    refine regI hl (Eq.mpr (span_Set_Next_g30_e _ (fun i => l.getD i undef) _) h) ?_
    clear h hl
    intro l H hl h
    refine thenN ?_
    refine retI rfl ?_
    exact h
def span_Set_Next_g32 (S : Value → Value → Value → Heap → Prop) (x0 x1 : Value) (H : Heap) : Prop :=
  EvF P N.span_Set_at #[x0, x1] H fun v17 H1 =>
  bnd (exV 0 v17) fun v18 =>
  bnd (exV 1 v17) fun v19 =>
  newE 48 #[(.int .i64 0), (.int .i64 0)] H1 fun v5 H2 =>
  bnd (stE 2 v5 v18 H2) fun H3 =>
  S x1 v5 v19 H3
theorem span_Set_Next_g32_e (S : Value → Value → Value → Heap → Prop) (x : Nat → Value) (H : Heap) : wpE tab P span_Set_Next_pi span_Set_Next_c11 (nQ fun l H => S (l.getD 1 undef) (l.getD 5 undef) (l.getD 6 undef) H) ((List.range 28).map x) H = span_Set_Next_g32 S (x 0) (x 1) H := by kernel_rfl
def span_Set_Next_g33 (S : Value → Value → Value → Heap → Prop) (x1 x5 x6 : Value) (H : Heap) : Prop :=
  S x1 x5 x6 H
theorem span_Set_Next_g33_e (S : Value → Value → Value → Heap → Prop) (x : Nat → Value) (H : Heap) : wpE tab P span_Set_Next_pi span_Set_Next_c13 (nQ fun l H => S (l.getD 1 undef) (l.getD 5 undef) (l.getD 20 undef) H) ((List.range 28).map x) H = span_Set_Next_g33 S (x 1) (x 5) (x 6) H := by kernel_rfl
def span_Set_Next_g34 (S : Value → Heap → Prop) (x5 : Value) (H : Heap) : Prop :=
  bnd (faV 1 x5) fun v21 =>
  bnd (ldE false 1 v21 H) fun v22 =>
  bnd (binV .int .add v22 (.int .i64 1)) fun v23 =>
  S v23 H
theorem span_Set_Next_g34_e (S : Value → Heap → Prop) (x : Nat → Value) (H : Heap) : wpE tab P span_Set_Next_pi span_Set_Next_c15 (nQ fun l H => S (l.getD 1 undef) H) ((List.range 28).map x) H = span_Set_Next_g34 S (x 5) H := by kernel_rfl
def span_Set_Next (x0 x1 : Value) (R : Value → Heap → Prop) (H : Heap) : Prop :=
  span_Set_Next_g24 (fun x0 x1 H => span_Set_Next_g25 (fun x0 x1 x13 H => brV x13
  (span_Set_Next_g26 (fun x4 H => R x4 H) H)
  (span_Set_Next_g32 (fun x1 x5 x6 H => span_Set_Next_g33 (fun x1 x5 x20 H => brV x20
  (span_Set_Next_g34 (fun x1 H => span_Set_Next_s27 x1 R H) x5 H)
  (span_Set_Next_s27 x1 R H)) x1 x5 x6 H) x0 x1 H)) x0 x1 H) x0 x1 H
theorem span_Set_Next_i (R : Value → Heap → Prop) (x0 x1 : Value) (H : Heap) (h : span_Set_Next x0 x1 R H) : wpE tab P span_Set_Next_pi span_Set_Next_c1 (retQ tab span_Set_Next_rs R) [x0, x1, undef, undef, undef, undef, undef, undef, undef, undef, undef, undef, undef, undef, undef, undef, undef, undef, undef, undef, undef, undef, undef, undef, undef, undef, undef, undef] H := by
  obtain ⟨l, hl, el⟩ : ∃ l : List Value, l.length = 28 ∧ l = [x0, x1, undef, undef, undef, undef, undef, undef, undef, undef, undef, undef, undef, undef, undef, undef, undef, undef, undef, undef, undef, undef, undef, undef, undef, undef, undef, undef] := ⟨_, rfl, rfl⟩
  rw [← el]
  have h : (fun (x0 x1 : Value) => span_Set_Next_g24 (fun x0 x1 H => span_Set_Next_g25 (fun x0 x1 x13 H => brV x13
(span_Set_Next_g26 (fun x4 H => R x4 H) H)
(span_Set_Next_g32 (fun x1 x5 x6 H => span_Set_Next_g33 (fun x1 x5 x20 H => brV x20
(span_Set_Next_g34 (fun x1 H => span_Set_Next_s27 x1 R H) x5 H)
(span_Set_Next_s27 x1 R H)) x1 x5 x6 H) x0 x1 H)) x0 x1 H) x0 x1 H) (l.getD 0 undef) (l.getD 1 undef) := by rw [el]; exact h
  clear el
  refine seqI (c := span_Set_Next_c1) rfl ?_
  refine regI hl (Eq.mpr (span_Set_Next_g24_e _ (fun i => l.getD i undef) _) h) ?_
  clear h hl
  intro l H hl h
  refine thenN ?_
  refine seqI (c := span_Set_Next_c3) rfl ?_
  refine seqI (c := span_Set_Next_c4) rfl ?_
  refine regI hl (Eq.mpr (span_Set_Next_g25_e _ (fun i => l.getD i undef) _) h) ?_
  clear h hl
  intro l H hl h
  refine thenN ?_
  refine condI (c := span_Set_Next_c6) rfl h ?_ ?_
  · clear h; intro h
    refine seqI (c := span_Set_Next_c7) rfl ?_
    refine regI hl (Eq.mpr (span_Set_Next_g26_e _ (fun i => l.getD i undef) _) h) ?_
    clear h hl
    intro l H hl h
    refine thenN ?_
    refine retI rfl ?_
    refine thenR ?_
    exact h
  · clear h; intro h
    refine skipI rfl ?_
    refine thenN ?_
    refine seqI (c := span_Set_Next_c9) rfl ?_
    refine seqI (c := span_Set_Next_c10) rfl ?_
    refine regI hl (Eq.mpr (span_Set_Next_g32_e _ (fun i => l.getD i undef) _) h) ?_
    clear h hl
    intro l H hl h
    refine thenN ?_
    refine seqI (c := span_Set_Next_c12) rfl ?_
    refine regI hl (Eq.mpr (span_Set_Next_g33_e _ (fun i => l.getD i undef) _) h) ?_
    clear h hl
    intro l H hl h
    refine thenN ?_
    refine condI (c := span_Set_Next_c14) rfl h ?_ ?_
    · clear h; intro h
      refine regI hl (Eq.mpr (span_Set_Next_g34_e _ (fun i => l.getD i undef) _) h) ?_
      clear h hl
      intro l H hl h
      refine thenN ?_
      exact span_Set_Next_s27_i R l H hl h
    · clear h; intro h
      refine skipI rfl ?_
      refine thenN ?_
      exact span_Set_Next_s27_i R l H hl h
theorem span_Set_Next_ok : okB span_Set_Next_pi span_Set_Next_c1 = true := by kernel_rfl
theorem span_Set_Next_ev0 (x0 x1 : Value) (R : Value → Heap → Prop) (H : Heap) (h : span_Set_Next x0 x1 R H) : EvL P N.span_Set_Next #[x0, x1] H R :=
  EvF_intro (args := [x0, x1]) (k := 26) (rs := span_Set_Next_rs) tab_ok mixed Try.func14 (show Try.f14.body = some span_Set_Next_c1 by kernel_rfl) Try.call14 Try.ntmps14 (by kernel_rfl) (okCode_of _ span_Set_Next_ok) rfl (span_Set_Next_i R x0 x1 H h)
theorem span_Set_Next_ev (x0 x1 : Value) (R : Value → Heap → Prop) (H : Heap) (h : span_Set_Next x0 x1 R H) : EvF P N.span_Set_Next #[x0, x1] H R := .inl (span_Set_Next_ev0 x0 x1 R H h)
/- 15: (*sounder/span.Set).Has -/
def span_Set_Has_rs : List ResultVar := [.tmp 4]
noncomputable def span_Set_Has_c2 : Code := subC (bodyC Try.f15) [0]
noncomputable def span_Set_Has_c4 : Code := subC (bodyC Try.f15) [1, 0]
noncomputable def span_Set_Has_c6 : Code := subC (bodyC Try.f15) [1, 1, 0]
noncomputable def span_Set_Has_c5 : Code := .seq span_Set_Has_c6 Code.ret
noncomputable def span_Set_Has_c3 : Code := .seq span_Set_Has_c4 span_Set_Has_c5
noncomputable def span_Set_Has_c1 : Code := .seq span_Set_Has_c2 span_Set_Has_c3
def span_Set_Has_pi (_ : Nat) : Pl := .nil
def span_Set_Has_g7 (S : Value → Value → Heap → Prop) (x0 x1 : Value) (H : Heap) : Prop :=
  S x0 x1 H
theorem span_Set_Has_g7_e (S : Value → Value → Heap → Prop) (x : Nat → Value) (H : Heap) : wpE tab P span_Set_Has_pi span_Set_Has_c2 (nQ fun l H => S (l.getD 0 undef) (l.getD 1 undef) H) ((List.range 14).map x) H = span_Set_Has_g7 S (x 0) (x 1) H := by kernel_rfl
def span_Set_Has_g8 (S : Value → Heap → Prop) (x0 x1 : Value) (H : Heap) : Prop :=
  EvF P N.span_Set_at #[x0, x1] H fun v10 H1 =>
  bnd (exV 0 v10) fun v11 =>
  bnd (exV 1 v10) fun v12 =>
  newE 48 #[(.int .i64 0), (.int .i64 0)] H1 fun v5 H2 =>
  bnd (stE 2 v5 v11 H2) fun H3 =>
  S v12 H3
theorem span_Set_Has_g8_e (S : Value → Heap → Prop) (x : Nat → Value) (H : Heap) : wpE tab P span_Set_Has_pi span_Set_Has_c4 (nQ fun l H => S (l.getD 6 undef) H) ((List.range 14).map x) H = span_Set_Has_g8 S (x 0) (x 1) H := by kernel_rfl
def span_Set_Has_g9 (S : Value → Heap → Prop) (x6 : Value) (H : Heap) : Prop :=
  S x6 H
theorem span_Set_Has_g9_e (S : Value → Heap → Prop) (x : Nat → Value) (H : Heap) : wpE tab P span_Set_Has_pi span_Set_Has_c6 (nQ fun l H => S (l.getD 4 undef) H) ((List.range 14).map x) H = span_Set_Has_g9 S (x 6) H := by kernel_rfl
def span_Set_Has (x0 x1 : Value) (R : Value → Heap → Prop) (H : Heap) : Prop :=
  span_Set_Has_g7 (fun x0 x1 H => span_Set_Has_g8 (fun x6 H => span_Set_Has_g9 (fun x4 H => R x4 H) x6 H) x0 x1 H) x0 x1 H
theorem span_Set_Has_i (R : Value → Heap → Prop) (x0 x1 : Value) (H : Heap) (h : span_Set_Has x0 x1 R H) : wpE tab P span_Set_Has_pi span_Set_Has_c1 (retQ tab span_Set_Has_rs R) [x0, x1, undef, undef, undef, undef, undef, undef, undef, undef, undef, undef, undef, undef] H := by
  obtain ⟨l, hl, el⟩ : ∃ l : List Value, l.length = 14 ∧ l = [x0, x1, undef, undef, undef, undef, undef, undef, undef, undef, undef, undef, undef, undef] := ⟨_, rfl, rfl⟩
  rw [← el]
  have h : (fun (x0 x1 : Value) => span_Set_Has_g7 (fun x0 x1 H => span_Set_Has_g8 (fun x6 H => span_Set_Has_g9 (fun x4 H => R x4 H) x6 H) x0 x1 H) x0 x1 H) (l.getD 0 undef) (l.getD 1 undef) := by rw [el]; exact h
  clear el
  refine seqI (c := span_Set_Has_c1) rfl ?_
  refine regI hl (Eq.mpr (span_Set_Has_g7_e _ (fun i => l.getD i undef) _) h) ?_
  clear h hl
  intro l H hl h
  refine thenN ?_
  refine seqI (c := span_Set_Has_c3) rfl ?_
  refine regI hl (Eq.mpr (span_Set_Has_g8_e _ (fun i => l.getD i undef) _) h) ?_
  clear h hl
  intro l H hl h
  refine thenN ?_
  refine seqI (c := span_Set_Has_c5) rfl ?_
  refine regI hl (Eq.mpr (span_Set_Has_g9_e _ (fun i => l.getD i undef) _) h) ?_
  clear h hl
  intro l H hl h
  refine thenN ?_
  refine retI rfl ?_
  exact h
theorem span_Set_Has_ok : okB span_Set_Has_pi span_Set_Has_c1 = true := by kernel_rfl
theorem span_Set_Has_ev0 (x0 x1 : Value) (R : Value → Heap → Prop) (H : Heap) (h : span_Set_Has x0 x1 R H) : EvL P N.span_Set_Has #[x0, x1] H R :=
  EvF_intro (args := [x0, x1]) (k := 12) (rs := span_Set_Has_rs) tab_ok mixed Try.func15 (show Try.f15.body = some span_Set_Has_c1 by kernel_rfl) Try.call15 Try.ntmps15 (by kernel_rfl) (okCode_of _ span_Set_Has_ok) rfl (span_Set_Has_i R x0 x1 H h)
theorem span_Set_Has_ev (x0 x1 : Value) (R : Value → Heap → Prop) (H : Heap) (h : span_Set_Has x0 x1 R H) : EvF P N.span_Set_Has #[x0, x1] H R := .inl (span_Set_Has_ev0 x0 x1 R H h)
end Go.Hc
