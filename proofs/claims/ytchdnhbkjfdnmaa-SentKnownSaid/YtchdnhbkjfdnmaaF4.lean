/- Functions, printed by gen.py. -/
import Derived.Test.YtchdnhbkjfdnmaaT
set_option linter.unusedSimpArgs false
set_option linter.unusedVariables false
set_option maxRecDepth 100000
namespace Go.Hc
open Go Go.Proofs
/- 16: sounder/sounderlaw06.works -/
def sounderlaw06_works_rs : List ResultVar := [.tmp 0]
noncomputable def sounderlaw06_works_c2 : Code := subC (bodyC Try.f16) [0]
noncomputable def sounderlaw06_works_c4 : Code := subC (bodyC Try.f16) [1, 0]
noncomputable def sounderlaw06_works_c7 : Code := subC (bodyC Try.f16) [1, 1, 0, 0]
noncomputable def sounderlaw06_works_c10 : Code := subC (bodyC Try.f16) [1, 1, 0, 1, 0, 0]
noncomputable def sounderlaw06_works_c9 : Code := .seq sounderlaw06_works_c10 Code.ret
noncomputable def sounderlaw06_works_c8 : Code := .cond (.tmp 54) sounderlaw06_works_c9 Code.skip
noncomputable def sounderlaw06_works_c6 : Code := .seq sounderlaw06_works_c7 sounderlaw06_works_c8
noncomputable def sounderlaw06_works_c12 : Code := subC (bodyC Try.f16) [1, 1, 1, 0]
noncomputable def sounderlaw06_works_c14 : Code := subC (bodyC Try.f16) [1, 1, 1, 1, 0]
noncomputable def sounderlaw06_works_c17 : Code := subC (bodyC Try.f16) [1, 1, 1, 1, 1, 0, 0]
noncomputable def sounderlaw06_works_c20 : Code := subC (bodyC Try.f16) [1, 1, 1, 1, 1, 0, 1, 0, 0]
noncomputable def sounderlaw06_works_c19 : Code := .seq sounderlaw06_works_c20 Code.ret
noncomputable def sounderlaw06_works_c18 : Code := .cond (.tmp 91) sounderlaw06_works_c19 Code.skip
noncomputable def sounderlaw06_works_c16 : Code := .seq sounderlaw06_works_c17 sounderlaw06_works_c18
noncomputable def sounderlaw06_works_c22 : Code := subC (bodyC Try.f16) [1, 1, 1, 1, 1, 1, 0]
noncomputable def sounderlaw06_works_c24 : Code := subC (bodyC Try.f16) [1, 1, 1, 1, 1, 1, 1, 0]
noncomputable def sounderlaw06_works_c26 : Code := subC (bodyC Try.f16) [1, 1, 1, 1, 1, 1, 1, 1, 0]
noncomputable def sounderlaw06_works_c28 : Code := subC (bodyC Try.f16) [1, 1, 1, 1, 1, 1, 1, 1, 1, 0]
noncomputable def sounderlaw06_works_c30 : Code := subC (bodyC Try.f16) [1, 1, 1, 1, 1, 1, 1, 1, 1, 1, 0]
noncomputable def sounderlaw06_works_c29 : Code := .seq sounderlaw06_works_c30 Code.ret
noncomputable def sounderlaw06_works_c27 : Code := .seq sounderlaw06_works_c28 sounderlaw06_works_c29
noncomputable def sounderlaw06_works_c25 : Code := .seq sounderlaw06_works_c26 sounderlaw06_works_c27
noncomputable def sounderlaw06_works_c23 : Code := .seq sounderlaw06_works_c24 sounderlaw06_works_c25
noncomputable def sounderlaw06_works_c21 : Code := .seq sounderlaw06_works_c22 sounderlaw06_works_c23
noncomputable def sounderlaw06_works_c15 : Code := .seq sounderlaw06_works_c16 sounderlaw06_works_c21
noncomputable def sounderlaw06_works_c13 : Code := .seq sounderlaw06_works_c14 sounderlaw06_works_c15
noncomputable def sounderlaw06_works_c11 : Code := .seq sounderlaw06_works_c12 sounderlaw06_works_c13
noncomputable def sounderlaw06_works_c5 : Code := .seq sounderlaw06_works_c6 sounderlaw06_works_c11
noncomputable def sounderlaw06_works_c3 : Code := .seq sounderlaw06_works_c4 sounderlaw06_works_c5
noncomputable def sounderlaw06_works_c1 : Code := .seq sounderlaw06_works_c2 sounderlaw06_works_c3
def sounderlaw06_works_pi (i : Nat) : Pl := match i with
  | 6 => (ones [0, 1, 2, 3, 4, 5, 6, 7, 8, 9, 10, 11, 12, 13, 14, 15, 16, 17, 18, 19, 20, 21, 22, 23, 24, 25, 26] .nil)
  | 12 => (ones [0, 1, 2, 3, 4, 5, 6, 7, 8, 9, 10, 11, 12, 13, 14, 15, 16, 17, 18, 19, 20, 21, 22, 23, 24, 25, 26, 27, 28, 29, 30, 31, 32] .nil)
  | _ => .nil
def sounderlaw06_works_g31 (S : Heap → Prop) (H : Heap) : Prop :=
  S H
theorem sounderlaw06_works_g31_e (S : Heap → Prop) (x : Nat → Value) (H : Heap) : wpE tab P sounderlaw06_works_pi sounderlaw06_works_c2 (nQ fun _ H => S  H) ((List.range 138).map x) H = sounderlaw06_works_g31 S  H := by kernel_rfl
def sounderlaw06_works_g32 (S : Value → Value → Heap → Prop) (H : Heap) : Prop :=
  EvF P N.sent_New #[(.int .i64 2)] H fun v13 H1 =>
  bnd (exV 0 v13) fun v14 =>
  bnd (exV 1 v13) fun v15 =>
  S v14 v15 H1
theorem sounderlaw06_works_g32_e (S : Value → Value → Heap → Prop) (x : Nat → Value) (H : Heap) : wpE tab P sounderlaw06_works_pi sounderlaw06_works_c4 (nQ fun l H => S (l.getD 1 undef) (l.getD 2 undef) H) ((List.range 138).map x) H = sounderlaw06_works_g32 S  H := by kernel_rfl
def sounderlaw06_works_g33 (S : Value → Value → Heap → Prop) (x1 x2 : Value) (H : Heap) : Prop :=
  bnd (binV .int .neq x2 (.int .i64 0)) fun v17 =>
  brV v17
  (S x1 (.bool true) H)
  (bnd (binV .ptr .eql x1 (.pointer none)) fun v20 =>
  brV v20
  (S x1 (.bool true) H)
  (EvF P N.sounderlaw06_one #[(.int .i64 3)] H fun v24 H1 =>
  EvF P N.sent_Log_Put #[x1, v24] H1 fun v25 H2 =>
  bnd (binV .int .neq v25 (.int .i64 0)) fun v26 =>
  brV v26
  (S x1 (.bool true) H2)
  (EvF P N.sounderlaw06_one #[(.int .i64 7)] H2 fun v30 H3 =>
  EvF P N.sent_Log_Put #[x1, v30] H3 fun v31 H4 =>
  bnd (binV .int .neq v31 (.int .i64 0)) fun v32 =>
  brV v32
  (S x1 (.bool true) H4)
  (EvF P N.sounderlaw06_one #[(.int .i64 9)] H4 fun v36 H5 =>
  EvF P N.sent_Log_Put #[x1, v36] H5 fun v37 H6 =>
  bnd (binV .int .neq v37 (.int .i64 5)) fun v38 =>
  brV v38
  (S x1 (.bool true) H6)
  (EvF P N.sent_Log_Flight #[x1] H6 fun v42 H7 =>
  bnd (binV .int .neq v42 (.int .i64 200)) fun v43 =>
  brV v43
  (S x1 (.bool true) H7)
  (EvF P N.sent_Log_Eliciting #[x1] H7 fun v47 H8 =>
  bnd (binV .int .neq v47 (.int .i64 2)) fun v48 =>
  brV v48
  (S x1 (.bool true) H8)
  (EvF P N.sent_Log_Last #[x1] H8 fun v52 H9 =>
  bnd (binV .int .neq v52 (.int .i64 7)) fun v53 =>
  S x1 v53 H9)))))))
theorem sounderlaw06_works_g33_e (S : Value → Value → Heap → Prop) (x : Nat → Value) (H : Heap) : wpE tab P sounderlaw06_works_pi sounderlaw06_works_c7 (nQ fun l H => S (l.getD 1 undef) (l.getD 54 undef) H) ((List.range 138).map x) H = sounderlaw06_works_g33 S (x 1) (x 2) H := by kernel_rfl
def sounderlaw06_works_g34 (S : Value → Heap → Prop) (H : Heap) : Prop :=
  S (.bool false) H
theorem sounderlaw06_works_g34_e (S : Value → Heap → Prop) (x : Nat → Value) (H : Heap) : wpE tab P sounderlaw06_works_pi sounderlaw06_works_c10 (nQ fun l H => S (l.getD 0 undef) H) ((List.range 138).map x) H = sounderlaw06_works_g34 S  H := by kernel_rfl
def sounderlaw06_works_g35 (S : Value → Value → Value → Heap → Prop) (x1 : Value) (H : Heap) : Prop :=
  EvF P N.sent_Log_Drop #[x1, (.int .i64 3)] H fun v57 H1 =>
  bnd (exV 0 v57) fun v58 =>
  bnd (exV 1 v57) fun v59 =>
  newE 30 #[(.int .i64 0), (.int .i64 0), (.int .i64 0), (.bool false), (.bool false), (.bool false)] H1 fun v3 H2 =>
  bnd (stE 6 v3 v58 H2) fun H3 =>
  S x1 v3 v59 H3
theorem sounderlaw06_works_g35_e (S : Value → Value → Value → Heap → Prop) (x : Nat → Value) (H : Heap) : wpE tab P sounderlaw06_works_pi sounderlaw06_works_c12 (nQ fun l H => S (l.getD 1 undef) (l.getD 3 undef) (l.getD 4 undef) H) ((List.range 138).map x) H = sounderlaw06_works_g35 S (x 1) H := by kernel_rfl
def sounderlaw06_works_g36 (S : Value → Value → Value → Value → Heap → Prop) (x1 x3 x4 : Value) (H : Heap) : Prop :=
  EvF P N.sent_Log_Drop #[x1, (.int .i64 3)] H fun v62 H1 =>
  bnd (exV 0 v62) fun v63 =>
  bnd (exV 1 v62) fun v64 =>
  newE 30 #[(.int .i64 0), (.int .i64 0), (.int .i64 0), (.bool false), (.bool false), (.bool false)] H1 fun v5 H2 =>
  bnd (stE 6 v5 v63 H2) fun H3 =>
  S x1 x3 x4 v64 H3
theorem sounderlaw06_works_g36_e (S : Value → Value → Value → Value → Heap → Prop) (x : Nat → Value) (H : Heap) : wpE tab P sounderlaw06_works_pi sounderlaw06_works_c14 (nQ fun l H => S (l.getD 1 undef) (l.getD 3 undef) (l.getD 4 undef) (l.getD 6 undef) H) ((List.range 138).map x) H = sounderlaw06_works_g36 S (x 1) (x 3) (x 4) H := by kernel_rfl
def sounderlaw06_works_g37 (S : Value → Value → Heap → Prop) (x1 x3 x4 x6 : Value) (H : Heap) : Prop :=
  bnd (ldE true 6 x3 H) fun v65 =>
  EvF P N.sounderlaw06_one #[(.int .i64 3)] H fun v66 H1 =>
  ((bnd (ldE true 6 x3 H1) fun v' => v' = v65) ∧
  bnd (binV (.agg [true, true, true, false, false, false]) .neq v65 v66) fun v67 =>
  brV v67
  (S x1 (.bool true) H1)
  (bnd (unV .not x4) fun v70 =>
  brV v70
  (S x1 (.bool true) H1)
  (brV x6
  (S x1 (.bool true) H1)
  (EvF P N.sounderlaw06_one #[(.int .i64 5)] H1 fun v77 H2 =>
  ((bnd (ldE true 6 x3 H2) fun v' => v' = v65) ∧
  EvF P N.sent_Log_Put #[x1, v77] H2 fun v78 H3 =>
  ((bnd (ldE true 6 x3 H3) fun v' => v' = v65) ∧
  bnd (binV .int .neq v78 (.int .i64 60)) fun v79 =>
  brV v79
  (S x1 (.bool true) H3)
  (EvF P N.sounderlaw06_one #[(.int .i64 9)] H3 fun v83 H4 =>
  ((bnd (ldE true 6 x3 H4) fun v' => v' = v65) ∧
  EvF P N.sent_Log_Put #[x1, v83] H4 fun v84 H5 =>
  ((bnd (ldE true 6 x3 H5) fun v' => v' = v65) ∧
  bnd (binV .int .neq v84 (.int .i64 0)) fun v85 =>
  brV v85
  (S x1 (.bool true) H5)
  (EvF P N.sent_Log_Len #[x1] H5 fun v89 H6 =>
  ((bnd (ldE true 6 x3 H6) fun v' => v' = v65) ∧
  bnd (binV .int .neq v89 (.int .i64 2)) fun v90 =>
  S x1 v90 H6)))))))))))
theorem sounderlaw06_works_g37_e (S : Value → Value → Heap → Prop) (x : Nat → Value) (H : Heap) : wpE tab P sounderlaw06_works_pi sounderlaw06_works_c17 (nQ fun l H => S (l.getD 1 undef) (l.getD 91 undef) H) ((List.range 138).map x) H = sounderlaw06_works_g37 S (x 1) (x 3) (x 4) (x 6) H := by kernel_rfl
def sounderlaw06_works_g38 (S : Value → Heap → Prop) (H : Heap) : Prop :=
  S (.bool false) H
theorem sounderlaw06_works_g38_e (S : Value → Heap → Prop) (x : Nat → Value) (H : Heap) : wpE tab P sounderlaw06_works_pi sounderlaw06_works_c20 (nQ fun l H => S (l.getD 0 undef) H) ((List.range 138).map x) H = sounderlaw06_works_g38 S  H := by kernel_rfl
def sounderlaw06_works_g39 (S : Value → Value → Value → Heap → Prop) (x1 : Value) (H : Heap) : Prop :=
  EvF P N.sent_Log_Oldest #[x1] H fun v94 H1 =>
  bnd (exV 0 v94) fun v95 =>
  bnd (exV 1 v94) fun v96 =>
  newE 30 #[(.int .i64 0), (.int .i64 0), (.int .i64 0), (.bool false), (.bool false), (.bool false)] H1 fun v7 H2 =>
  bnd (stE 6 v7 v95 H2) fun H3 =>
  S x1 v7 v96 H3
theorem sounderlaw06_works_g39_e (S : Value → Value → Value → Heap → Prop) (x : Nat → Value) (H : Heap) : wpE tab P sounderlaw06_works_pi sounderlaw06_works_c22 (nQ fun l H => S (l.getD 1 undef) (l.getD 7 undef) (l.getD 8 undef) H) ((List.range 138).map x) H = sounderlaw06_works_g39 S (x 1) H := by kernel_rfl
def sounderlaw06_works_g40 (S : Value → Value → Value → Value → Heap → Prop) (x1 x7 x8 : Value) (H : Heap) : Prop :=
  EvF P N.sent_Log_Between #[x1, (.int .i64 8), (.int .i64 20)] H fun v98 H1 =>
  S x1 x7 x8 v98 H1
theorem sounderlaw06_works_g40_e (S : Value → Value → Value → Value → Heap → Prop) (x : Nat → Value) (H : Heap) : wpE tab P sounderlaw06_works_pi sounderlaw06_works_c24 (nQ fun l H => S (l.getD 1 undef) (l.getD 7 undef) (l.getD 8 undef) (l.getD 9 undef) H) ((List.range 138).map x) H = sounderlaw06_works_g40 S (x 1) (x 7) (x 8) H := by kernel_rfl
def sounderlaw06_works_g41 (S : Value → Value → Value → Value → Heap → Prop) (x1 x7 x8 x9 : Value) (H : Heap) : Prop :=
  EvF P N.sent_Log_Clear #[x1] H fun _ H1 =>
  S x1 x7 x8 x9 H1
theorem sounderlaw06_works_g41_e (S : Value → Value → Value → Value → Heap → Prop) (x : Nat → Value) (H : Heap) : wpE tab P sounderlaw06_works_pi sounderlaw06_works_c26 (nQ fun l H => S (l.getD 1 undef) (l.getD 7 undef) (l.getD 8 undef) (l.getD 9 undef) H) ((List.range 138).map x) H = sounderlaw06_works_g41 S (x 1) (x 7) (x 8) (x 9) H := by kernel_rfl
def sounderlaw06_works_g42 (S : Value → Value → Value → Value → Value → Heap → Prop) (x1 x7 x8 x9 : Value) (H : Heap) : Prop :=
  EvF P N.sent_Log_Get #[x1, (.int .i64 9)] H fun v103 H1 =>
  bnd (exV 0 v103) fun v104 =>
  bnd (exV 1 v103) fun v105 =>
  newE 30 #[(.int .i64 0), (.int .i64 0), (.int .i64 0), (.bool false), (.bool false), (.bool false)] H1 fun v10 H2 =>
  bnd (stE 6 v10 v104 H2) fun H3 =>
  S x1 x7 x8 x9 v105 H3
theorem sounderlaw06_works_g42_e (S : Value → Value → Value → Value → Value → Heap → Prop) (x : Nat → Value) (H : Heap) : wpE tab P sounderlaw06_works_pi sounderlaw06_works_c28 (nQ fun l H => S (l.getD 1 undef) (l.getD 7 undef) (l.getD 8 undef) (l.getD 9 undef) (l.getD 11 undef) H) ((List.range 138).map x) H = sounderlaw06_works_g42 S (x 1) (x 7) (x 8) (x 9) H := by kernel_rfl
def sounderlaw06_works_g43 (S : Value → Heap → Prop) (x1 x7 x8 x9 x11 : Value) (H : Heap) : Prop :=
  bnd (ldE true 6 x7 H) fun v106 =>
  EvF P N.sounderlaw06_one #[(.int .i64 7)] H fun v107 H1 =>
  ((bnd (ldE true 6 x7 H1) fun v' => v' = v106) ∧
  bnd (binV (.agg [true, true, true, false, false, false]) .eql v106 v107) fun v108 =>
  brV v108
  (brV x8
  (bnd (lenV x9) fun v114 =>
  bnd (binV .int .eql v114 (.int .i64 1)) fun v115 =>
  brV v115
  (bnd (ixSV 6 x9 (.int .i64 0)) fun v119 =>
  bnd (ldE true 6 v119 H1) fun v120 =>
  EvF P N.sounderlaw06_one #[(.int .i64 9)] H1 fun v121 H2 =>
  ((bnd (ldE true 6 v119 H2) fun v' => v' = v120) ∧
  ((bnd (ldE true 6 x7 H2) fun v' => v' = v106) ∧
  bnd (binV (.agg [true, true, true, false, false, false]) .eql v120 v121) fun v122 =>
  brV v122
  (EvF P N.sent_Log_Last #[x1] H2 fun v126 H3 =>
  ((bnd (ldE true 6 v119 H3) fun v' => v' = v120) ∧
  ((bnd (ldE true 6 x7 H3) fun v' => v' = v106) ∧
  bnd (binV .int .eql v126 (.int .i64 9)) fun v127 =>
  brV v127
  (EvF P N.sent_Log_Flight #[x1] H3 fun v131 H4 =>
  ((bnd (ldE true 6 v119 H4) fun v' => v' = v120) ∧
  ((bnd (ldE true 6 x7 H4) fun v' => v' = v106) ∧
  bnd (binV .int .eql v131 (.int .i64 0)) fun v132 =>
  brV v132
  (bnd (unV .not x11) fun v136 =>
  S v136 H4)
  (S (.bool false) H4))))
  (S (.bool false) H3))))
  (S (.bool false) H2))))
  (S (.bool false) H1))
  (S (.bool false) H1))
  (S (.bool false) H1))
theorem sounderlaw06_works_g43_e (S : Value → Heap → Prop) (x : Nat → Value) (H : Heap) : wpE tab P sounderlaw06_works_pi sounderlaw06_works_c30 (nQ fun l H => S (l.getD 0 undef) H) ((List.range 138).map x) H = sounderlaw06_works_g43 S (x 1) (x 7) (x 8) (x 9) (x 11) H := by kernel_rfl
def sounderlaw06_works (R : Value → Heap → Prop) (H : Heap) : Prop :=
  sounderlaw06_works_g31 (fun H => sounderlaw06_works_g32 (fun x1 x2 H => sounderlaw06_works_g33 (fun x1 x54 H => brV x54
  (sounderlaw06_works_g34 (fun x0 H => R x0 H) H)
  (sounderlaw06_works_g35 (fun x1 x3 x4 H => sounderlaw06_works_g36 (fun x1 x3 x4 x6 H => sounderlaw06_works_g37 (fun x1 x91 H => brV x91
  (sounderlaw06_works_g38 (fun x0 H => R x0 H) H)
  (sounderlaw06_works_g39 (fun x1 x7 x8 H => sounderlaw06_works_g40 (fun x1 x7 x8 x9 H => sounderlaw06_works_g41 (fun x1 x7 x8 x9 H => sounderlaw06_works_g42 (fun x1 x7 x8 x9 x11 H => sounderlaw06_works_g43 (fun x0 H => R x0 H) x1 x7 x8 x9 x11 H) x1 x7 x8 x9 H) x1 x7 x8 x9 H) x1 x7 x8 H) x1 H)) x1 x3 x4 x6 H) x1 x3 x4 H) x1 H)) x1 x2 H) H) H
theorem sounderlaw06_works_i (R : Value → Heap → Prop) (H : Heap) (h : sounderlaw06_works  R H) : wpE tab P sounderlaw06_works_pi sounderlaw06_works_c1 (retQ tab sounderlaw06_works_rs R) [undef, undef, undef, undef, undef, undef, undef, undef, undef, undef, undef, undef, undef, undef, undef, undef, undef, undef, undef, undef, undef, undef, undef, undef, undef, undef, undef, undef, undef, undef, undef, undef, undef, undef, undef, undef, undef, undef, undef, undef, undef, undef, undef, undef, undef, undef, undef, undef, undef, undef, undef, undef, undef, undef, undef, undef, undef, undef, undef, undef, undef, undef, undef, undef, undef, undef, undef, undef, undef, undef, undef, undef, undef, undef, undef, undef, undef, undef, undef, undef, undef, undef, undef, undef, undef, undef, undef, undef, undef, undef, undef, undef, undef, undef, undef, undef, undef, undef, undef, undef, undef, undef, undef, undef, undef, undef, undef, undef, undef, undef, undef, undef, undef, undef, undef, undef, undef, undef, undef, undef, undef, undef, undef, undef, undef, undef, undef, undef, undef, undef, undef, undef, undef, undef, undef, undef, undef, undef] H := by
  obtain ⟨l, hl, el⟩ : ∃ l : List Value, l.length = 138 ∧ l = [undef, undef, undef, undef, undef, undef, undef, undef, undef, undef, undef, undef, undef, undef, undef, undef, undef, undef, undef, undef, undef, undef, undef, undef, undef, undef, undef, undef, undef, undef, undef, undef, undef, undef, undef, undef, undef, undef, undef, undef, undef, undef, undef, undef, undef, undef, undef, undef, undef, undef, undef, undef, undef, undef, undef, undef, undef, undef, undef, undef, undef, undef, undef, undef, undef, undef, undef, undef, undef, undef, undef, undef, undef, undef, undef, undef, undef, undef, undef, undef, undef, undef, undef, undef, undef, undef, undef, undef, undef, undef, undef, undef, undef, undef, undef, undef, undef, undef, undef, undef, undef, undef, undef, undef, undef, undef, undef, undef, undef, undef, undef, undef, undef, undef, undef, undef, undef, undef, undef, undef, undef, undef, undef, undef, undef, undef, undef, undef, undef, undef, undef, undef, undef, undef, undef, undef, undef, undef] := ⟨_, rfl, rfl⟩
  rw [← el]
  have h : sounderlaw06_works_g31 (fun H => sounderlaw06_works_g32 (fun x1 x2 H => sounderlaw06_works_g33 (fun x1 x54 H => brV x54
(sounderlaw06_works_g34 (fun x0 H => R x0 H) H)
(sounderlaw06_works_g35 (fun x1 x3 x4 H => sounderlaw06_works_g36 (fun x1 x3 x4 x6 H => sounderlaw06_works_g37 (fun x1 x91 H => brV x91
(sounderlaw06_works_g38 (fun x0 H => R x0 H) H)
(sounderlaw06_works_g39 (fun x1 x7 x8 H => sounderlaw06_works_g40 (fun x1 x7 x8 x9 H => sounderlaw06_works_g41 (fun x1 x7 x8 x9 H => sounderlaw06_works_g42 (fun x1 x7 x8 x9 x11 H => sounderlaw06_works_g43 (fun x0 H => R x0 H) x1 x7 x8 x9 x11 H) x1 x7 x8 x9 H) x1 x7 x8 x9 H) x1 x7 x8 H) x1 H)) x1 x3 x4 x6 H) x1 x3 x4 H) x1 H)) x1 x2 H) H) H := by exact h
  clear el
  refine seqI (c := sounderlaw06_works_c1) rfl ?_
  refine regI hl (Eq.mpr (sounderlaw06_works_g31_e _ (fun i => l.getD i undef) _) h) ?_
  clear h hl
  intro l H hl h
  refine thenN ?_
  refine seqI (c := sounderlaw06_works_c3) rfl ?_
  refine regI hl (Eq.mpr (sounderlaw06_works_g32_e _ (fun i => l.getD i undef) _) h) ?_
  clear h hl
  intro l H hl h
  refine thenN ?_
  refine seqI (c := sounderlaw06_works_c5) rfl ?_
  refine seqI (c := sounderlaw06_works_c6) rfl ?_
  refine regI hl (Eq.mpr (sounderlaw06_works_g33_e _ (fun i => l.getD i undef) _) h) ?_
  clear h hl
  intro l H hl h
  refine thenN ?_
  refine condI (c := sounderlaw06_works_c8) rfl h ?_ ?_
  · clear h; intro h
    refine seqI (c := sounderlaw06_works_c9) rfl ?_
    refine regI hl (Eq.mpr (sounderlaw06_works_g34_e _ (fun i => l.getD i undef) _) h) ?_
    clear h hl
    intro l H hl h
    refine thenN ?_
    refine retI rfl ?_
    refine thenR ?_
    exact h
  · clear h; intro h
    refine skipI rfl ?_
    refine thenN ?_
    refine seqI (c := sounderlaw06_works_c11) rfl ?_
    refine regI hl (Eq.mpr (sounderlaw06_works_g35_e _ (fun i => l.getD i undef) _) h) ?_
    clear h hl
    intro l H hl h
    refine thenN ?_
    refine seqI (c := sounderlaw06_works_c13) rfl ?_
    refine regI hl (Eq.mpr (sounderlaw06_works_g36_e _ (fun i => l.getD i undef) _) h) ?_
    clear h hl
    intro l H hl h
    refine thenN ?_
    refine seqI (c := sounderlaw06_works_c15) rfl ?_
    refine seqI (c := sounderlaw06_works_c16) rfl ?_
    refine regI hl (Eq.mpr (sounderlaw06_works_g37_e _ (fun i => l.getD i undef) _) h) ?_
    clear h hl
    intro l H hl h
    refine thenN ?_
    refine condI (c := sounderlaw06_works_c18) rfl h ?_ ?_
    · clear h; intro h
      refine seqI (c := sounderlaw06_works_c19) rfl ?_
      refine regI hl (Eq.mpr (sounderlaw06_works_g38_e _ (fun i => l.getD i undef) _) h) ?_
      clear h hl
      intro l H hl h
      refine thenN ?_
      refine retI rfl ?_
      refine thenR ?_
      exact h
    · clear h; intro h
      refine skipI rfl ?_
      refine thenN ?_
      refine seqI (c := sounderlaw06_works_c21) rfl ?_
      refine regI hl (Eq.mpr (sounderlaw06_works_g39_e _ (fun i => l.getD i undef) _) h) ?_
      clear h hl
      intro l H hl h
      refine thenN ?_
      refine seqI (c := sounderlaw06_works_c23) rfl ?_
      refine regI hl (Eq.mpr (sounderlaw06_works_g40_e _ (fun i => l.getD i undef) _) h) ?_
      clear h hl
      intro l H hl h
      refine thenN ?_
      refine seqI (c := sounderlaw06_works_c25) rfl ?_
      refine regI hl (Eq.mpr (sounderlaw06_works_g41_e _ (fun i => l.getD i undef) _) h) ?_
      clear h hl
      intro l H hl h
      refine thenN ?_
      refine seqI (c := sounderlaw06_works_c27) rfl ?_
      refine regI hl (Eq.mpr (sounderlaw06_works_g42_e _ (fun i => l.getD i undef) _) h) ?_
      clear h hl
      intro l H hl h
      refine thenN ?_
      refine seqI (c := sounderlaw06_works_c29) rfl ?_
      refine regI hl (Eq.mpr (sounderlaw06_works_g43_e _ (fun i => l.getD i undef) _) h) ?_
      clear h hl
      intro l H hl h
      refine thenN ?_
      refine retI rfl ?_
      exact h
theorem sounderlaw06_works_ok : okB sounderlaw06_works_pi sounderlaw06_works_c1 = true := by kernel_rfl
theorem sounderlaw06_works_ev (R : Value → Heap → Prop) (H : Heap) (h : sounderlaw06_works  R H) : EvF P N.sounderlaw06_works #[] H R :=
  EvF_intro (args := []) (k := 138) (rs := sounderlaw06_works_rs) tab_ok mixed Try.func16 (show Try.f16.body = some sounderlaw06_works_c1 by kernel_rfl) Try.call16 Try.ntmps16 (by kernel_rfl) (okCode_of _ sounderlaw06_works_ok) rfl (sounderlaw06_works_i R  H h)
/- 17: (*sounder/sent.Log).Get -/
def sent_Log_Get_rs : List ResultVar := [.cell 4 30, .tmp 5]
noncomputable def sent_Log_Get_c2 : Code := subC (bodyC Try.f17) [0]
noncomputable def sent_Log_Get_c4 : Code := subC (bodyC Try.f17) [1, 0]
noncomputable def sent_Log_Get_c7 : Code := subC (bodyC Try.f17) [1, 1, 0, 0]
noncomputable def sent_Log_Get_c10 : Code := subC (bodyC Try.f17) [1, 1, 0, 1, 0, 0]
noncomputable def sent_Log_Get_c9 : Code := .seq sent_Log_Get_c10 Code.ret
noncomputable def sent_Log_Get_c8 : Code := .cond (.tmp 11) sent_Log_Get_c9 Code.skip
noncomputable def sent_Log_Get_c6 : Code := .seq sent_Log_Get_c7 sent_Log_Get_c8
noncomputable def sent_Log_Get_c12 : Code := subC (bodyC Try.f17) [1, 1, 1, 0]
noncomputable def sent_Log_Get_c11 : Code := .seq sent_Log_Get_c12 Code.ret
noncomputable def sent_Log_Get_c5 : Code := .seq sent_Log_Get_c6 sent_Log_Get_c11
noncomputable def sent_Log_Get_c3 : Code := .seq sent_Log_Get_c4 sent_Log_Get_c5
noncomputable def sent_Log_Get_c1 : Code := .seq sent_Log_Get_c2 sent_Log_Get_c3
def sent_Log_Get_pi (_ : Nat) : Pl := .nil
def sent_Log_Get_g13 (S : Value → Value → Value → Heap → Prop) (x0 x1 : Value) (H : Heap) : Prop :=
  newE 30 #[(.int .i64 0), (.int .i64 0), (.int .i64 0), (.bool false), (.bool false), (.bool false)] H fun v4 H1 =>
  S x0 x1 v4 H1
theorem sent_Log_Get_g13_e (S : Value → Value → Value → Heap → Prop) (x : Nat → Value) (H : Heap) : wpE tab P sent_Log_Get_pi sent_Log_Get_c2 (nQ fun l H => S (l.getD 0 undef) (l.getD 1 undef) (l.getD 4 undef) H) ((List.range 17).map x) H = sent_Log_Get_g13 S (x 0) (x 1) H := by kernel_rfl
def sent_Log_Get_g14 (S : Value → Value → Heap → Prop) (x0 x1 x4 : Value) (H : Heap) : Prop :=
  EvF P N.sent_Log_slot #[x0, x1] H fun v9 H1 =>
  S x4 v9 H1
theorem sent_Log_Get_g14_e (S : Value → Value → Heap → Prop) (x : Nat → Value) (H : Heap) : wpE tab P sent_Log_Get_pi sent_Log_Get_c4 (nQ fun l H => S (l.getD 4 undef) (l.getD 6 undef) H) ((List.range 17).map x) H = sent_Log_Get_g14 S (x 0) (x 1) (x 4) H := by kernel_rfl
def sent_Log_Get_g15 (S : Value → Value → Value → Heap → Prop) (x4 x6 : Value) (H : Heap) : Prop :=
  bnd (binV .ptr .eql x6 (.pointer none)) fun v11 =>
  S x4 x6 v11 H
theorem sent_Log_Get_g15_e (S : Value → Value → Value → Heap → Prop) (x : Nat → Value) (H : Heap) : wpE tab P sent_Log_Get_pi sent_Log_Get_c7 (nQ fun l H => S (l.getD 4 undef) (l.getD 6 undef) (l.getD 11 undef) H) ((List.range 17).map x) H = sent_Log_Get_g15 S (x 4) (x 6) H := by kernel_rfl
def sent_Log_Get_g16 (S : Value → Value → Heap → Prop) (x4 : Value) (H : Heap) : Prop :=
  bnd (ldE true 6 x4 H) fun v12 =>
  bnd (stE 6 x4 v12 H) fun H1 =>
  S x4 (.bool false) H1
theorem sent_Log_Get_g16_e (S : Value → Value → Heap → Prop) (x : Nat → Value) (H : Heap) : wpE tab P sent_Log_Get_pi sent_Log_Get_c10 (nQ fun l H => S (l.getD 4 undef) (l.getD 5 undef) H) ((List.range 17).map x) H = sent_Log_Get_g16 S (x 4) H := by kernel_rfl
def sent_Log_Get_g17 (S : Value → Value → Heap → Prop) (x4 x6 : Value) (H : Heap) : Prop :=
  bnd (nilV x6) fun v14 =>
  bnd (faV 0 v14) fun v15 =>
  bnd (ldE true 6 v15 H) fun v16 =>
  bnd (stE 6 x4 v16 H) fun H1 =>
  S x4 (.bool true) H1
theorem sent_Log_Get_g17_e (S : Value → Value → Heap → Prop) (x : Nat → Value) (H : Heap) : wpE tab P sent_Log_Get_pi sent_Log_Get_c12 (nQ fun l H => S (l.getD 4 undef) (l.getD 5 undef) H) ((List.range 17).map x) H = sent_Log_Get_g17 S (x 4) (x 6) H := by kernel_rfl
def sent_Log_Get (x0 x1 : Value) (R : Value → Heap → Prop) (H : Heap) : Prop :=
  sent_Log_Get_g13 (fun x0 x1 x4 H => sent_Log_Get_g14 (fun x4 x6 H => sent_Log_Get_g15 (fun x4 x6 x11 H => brV x11
  (sent_Log_Get_g16 (fun x4 x5 H => bnd (ldE true 6 x4 H) fun r0 =>
  R (.tuple #[r0, x5]) H) x4 H)
  (sent_Log_Get_g17 (fun x4 x5 H => bnd (ldE true 6 x4 H) fun r0 =>
  R (.tuple #[r0, x5]) H) x4 x6 H)) x4 x6 H) x0 x1 x4 H) x0 x1 H
theorem sent_Log_Get_i (R : Value → Heap → Prop) (x0 x1 : Value) (H : Heap) (h : sent_Log_Get x0 x1 R H) : wpE tab P sent_Log_Get_pi sent_Log_Get_c1 (retQ tab sent_Log_Get_rs R) [x0, x1, undef, undef, undef, undef, undef, undef, undef, undef, undef, undef, undef, undef, undef, undef, undef] H := by
  obtain ⟨l, hl, el⟩ : ∃ l : List Value, l.length = 17 ∧ l = [x0, x1, undef, undef, undef, undef, undef, undef, undef, undef, undef, undef, undef, undef, undef, undef, undef] := ⟨_, rfl, rfl⟩
  rw [← el]
  have h : (fun (x0 x1 : Value) => sent_Log_Get_g13 (fun x0 x1 x4 H => sent_Log_Get_g14 (fun x4 x6 H => sent_Log_Get_g15 (fun x4 x6 x11 H => brV x11
(sent_Log_Get_g16 (fun x4 x5 H => bnd (ldE true 6 x4 H) fun r0 =>
R (.tuple #[r0, x5]) H) x4 H)
(sent_Log_Get_g17 (fun x4 x5 H => bnd (ldE true 6 x4 H) fun r0 =>
R (.tuple #[r0, x5]) H) x4 x6 H)) x4 x6 H) x0 x1 x4 H) x0 x1 H) (l.getD 0 undef) (l.getD 1 undef) := by rw [el]; exact h
  clear el
  refine seqI (c := sent_Log_Get_c1) rfl ?_
  refine regI hl (Eq.mpr (sent_Log_Get_g13_e _ (fun i => l.getD i undef) _) h) ?_
  clear h hl
  intro l H hl h
  refine thenN ?_
  refine seqI (c := sent_Log_Get_c3) rfl ?_
  refine regI hl (Eq.mpr (sent_Log_Get_g14_e _ (fun i => l.getD i undef) _) h) ?_
  clear h hl
  intro l H hl h
  refine thenN ?_
  refine seqI (c := sent_Log_Get_c5) rfl ?_
  refine seqI (c := sent_Log_Get_c6) rfl ?_
  refine regI hl (Eq.mpr (sent_Log_Get_g15_e _ (fun i => l.getD i undef) _) h) ?_
  clear h hl
  intro l H hl h
  refine thenN ?_
  refine condI (c := sent_Log_Get_c8) rfl h ?_ ?_
  · clear h; intro h
    refine seqI (c := sent_Log_Get_c9) rfl ?_
    refine regI hl (Eq.mpr (sent_Log_Get_g16_e _ (fun i => l.getD i undef) _) h) ?_
    clear h hl
    intro l H hl h
    refine thenN ?_
    refine retI rfl ?_
    refine thenR ?_
    exact h
  · clear h; intro h
    refine skipI rfl ?_
    refine thenN ?_
    refine seqI (c := sent_Log_Get_c11) rfl ?_
    refine regI hl (Eq.mpr (sent_Log_Get_g17_e _ (fun i => l.getD i undef) _) h) ?_
    clear h hl
    intro l H hl h
    refine thenN ?_
    refine retI rfl ?_
    exact h
theorem sent_Log_Get_ok : okB sent_Log_Get_pi sent_Log_Get_c1 = true := by kernel_rfl
theorem sent_Log_Get_ev (x0 x1 : Value) (R : Value → Heap → Prop) (H : Heap) (h : sent_Log_Get x0 x1 R H) : EvF P N.sent_Log_Get #[x0, x1] H R :=
  EvF_intro (args := [x0, x1]) (k := 15) (rs := sent_Log_Get_rs) tab_ok mixed Try.func17 (show Try.f17.body = some sent_Log_Get_c1 by kernel_rfl) Try.call17 Try.ntmps17 (by kernel_rfl) (okCode_of _ sent_Log_Get_ok) rfl (sent_Log_Get_i R x0 x1 H h)
/- 18: (*sounder/sent.Log).Flight -/
def sent_Log_Flight_rs : List ResultVar := [.tmp 2]
noncomputable def sent_Log_Flight_c2 : Code := subC (bodyC Try.f18) [0]
noncomputable def sent_Log_Flight_c4 : Code := subC (bodyC Try.f18) [1, 0]
noncomputable def sent_Log_Flight_c3 : Code := .seq sent_Log_Flight_c4 Code.ret
noncomputable def sent_Log_Flight_c1 : Code := .seq sent_Log_Flight_c2 sent_Log_Flight_c3
def sent_Log_Flight_pi (_ : Nat) : Pl := .nil
def sent_Log_Flight_g5 (S : Value → Heap → Prop) (x0 : Value) (H : Heap) : Prop :=
  newE 23 (Value.cells x0) H fun v1 H1 =>
  S v1 H1
theorem sent_Log_Flight_g5_e (S : Value → Heap → Prop) (x : Nat → Value) (H : Heap) : wpE tab P sent_Log_Flight_pi sent_Log_Flight_c2 (nQ fun l H => S (l.getD 1 undef) H) ((List.range 6).map x) H = sent_Log_Flight_g5 S (x 0) H := by kernel_rfl
def sent_Log_Flight_g6 (S : Value → Heap → Prop) (x1 : Value) (H : Heap) : Prop :=
  bnd (ldE false 1 x1 H) fun v3 =>
  EvF P N.sent_Log_total #[v3, (.func (.func N.sent_Log_Flight_1) #[] #[x1])] H fun v5 H1 =>
  S v5 H1
theorem sent_Log_Flight_g6_e (S : Value → Heap → Prop) (x : Nat → Value) (H : Heap) : wpE tab P sent_Log_Flight_pi sent_Log_Flight_c4 (nQ fun l H => S (l.getD 2 undef) H) ((List.range 6).map x) H = sent_Log_Flight_g6 S (x 1) H := by kernel_rfl
def sent_Log_Flight (x0 : Value) (R : Value → Heap → Prop) (H : Heap) : Prop :=
  sent_Log_Flight_g5 (fun x1 H => sent_Log_Flight_g6 (fun x2 H => R x2 H) x1 H) x0 H
theorem sent_Log_Flight_i (R : Value → Heap → Prop) (x0 : Value) (H : Heap) (h : sent_Log_Flight x0 R H) : wpE tab P sent_Log_Flight_pi sent_Log_Flight_c1 (retQ tab sent_Log_Flight_rs R) [x0, undef, undef, undef, undef, undef] H := by
  obtain ⟨l, hl, el⟩ : ∃ l : List Value, l.length = 6 ∧ l = [x0, undef, undef, undef, undef, undef] := ⟨_, rfl, rfl⟩
  rw [← el]
  have h : (fun (x0 : Value) => sent_Log_Flight_g5 (fun x1 H => sent_Log_Flight_g6 (fun x2 H => R x2 H) x1 H) x0 H) (l.getD 0 undef) := by rw [el]; exact h
  clear el
  refine seqI (c := sent_Log_Flight_c1) rfl ?_
  refine regI hl (Eq.mpr (sent_Log_Flight_g5_e _ (fun i => l.getD i undef) _) h) ?_
  clear h hl
  intro l H hl h
  refine thenN ?_
  refine seqI (c := sent_Log_Flight_c3) rfl ?_
  refine regI hl (Eq.mpr (sent_Log_Flight_g6_e _ (fun i => l.getD i undef) _) h) ?_
  clear h hl
  intro l H hl h
  refine thenN ?_
  refine retI rfl ?_
  exact h
theorem sent_Log_Flight_ok : okB sent_Log_Flight_pi sent_Log_Flight_c1 = true := by kernel_rfl
theorem sent_Log_Flight_ev (x0 : Value) (R : Value → Heap → Prop) (H : Heap) (h : sent_Log_Flight x0 R H) : EvF P N.sent_Log_Flight #[x0] H R :=
  EvF_intro (args := [x0]) (k := 5) (rs := sent_Log_Flight_rs) tab_ok mixed Try.func18 (show Try.f18.body = some sent_Log_Flight_c1 by kernel_rfl) Try.call18 Try.ntmps18 (by kernel_rfl) (okCode_of _ sent_Log_Flight_ok) rfl (sent_Log_Flight_i R x0 H h)
/- 19: (*sounder/sent.Log).Eliciting -/
def sent_Log_Eliciting_rs : List ResultVar := [.tmp 2]
noncomputable def sent_Log_Eliciting_c2 : Code := subC (bodyC Try.f19) [0]
noncomputable def sent_Log_Eliciting_c4 : Code := subC (bodyC Try.f19) [1, 0]
noncomputable def sent_Log_Eliciting_c3 : Code := .seq sent_Log_Eliciting_c4 Code.ret
noncomputable def sent_Log_Eliciting_c1 : Code := .seq sent_Log_Eliciting_c2 sent_Log_Eliciting_c3
def sent_Log_Eliciting_pi (_ : Nat) : Pl := .nil
def sent_Log_Eliciting_g5 (S : Value → Heap → Prop) (x0 : Value) (H : Heap) : Prop :=
  newE 23 (Value.cells x0) H fun v1 H1 =>
  S v1 H1
theorem sent_Log_Eliciting_g5_e (S : Value → Heap → Prop) (x : Nat → Value) (H : Heap) : wpE tab P sent_Log_Eliciting_pi sent_Log_Eliciting_c2 (nQ fun l H => S (l.getD 1 undef) H) ((List.range 6).map x) H = sent_Log_Eliciting_g5 S (x 0) H := by kernel_rfl
def sent_Log_Eliciting_g6 (S : Value → Heap → Prop) (x1 : Value) (H : Heap) : Prop :=
  bnd (ldE false 1 x1 H) fun v3 =>
  EvF P N.sent_Log_total #[v3, (.func (.func N.sent_Log_Eliciting_1) #[] #[x1])] H fun v5 H1 =>
  S v5 H1
theorem sent_Log_Eliciting_g6_e (S : Value → Heap → Prop) (x : Nat → Value) (H : Heap) : wpE tab P sent_Log_Eliciting_pi sent_Log_Eliciting_c4 (nQ fun l H => S (l.getD 2 undef) H) ((List.range 6).map x) H = sent_Log_Eliciting_g6 S (x 1) H := by kernel_rfl
def sent_Log_Eliciting (x0 : Value) (R : Value → Heap → Prop) (H : Heap) : Prop :=
  sent_Log_Eliciting_g5 (fun x1 H => sent_Log_Eliciting_g6 (fun x2 H => R x2 H) x1 H) x0 H
theorem sent_Log_Eliciting_i (R : Value → Heap → Prop) (x0 : Value) (H : Heap) (h : sent_Log_Eliciting x0 R H) : wpE tab P sent_Log_Eliciting_pi sent_Log_Eliciting_c1 (retQ tab sent_Log_Eliciting_rs R) [x0, undef, undef, undef, undef, undef] H := by
  obtain ⟨l, hl, el⟩ : ∃ l : List Value, l.length = 6 ∧ l = [x0, undef, undef, undef, undef, undef] := ⟨_, rfl, rfl⟩
  rw [← el]
  have h : (fun (x0 : Value) => sent_Log_Eliciting_g5 (fun x1 H => sent_Log_Eliciting_g6 (fun x2 H => R x2 H) x1 H) x0 H) (l.getD 0 undef) := by rw [el]; exact h
  clear el
  refine seqI (c := sent_Log_Eliciting_c1) rfl ?_
  refine regI hl (Eq.mpr (sent_Log_Eliciting_g5_e _ (fun i => l.getD i undef) _) h) ?_
  clear h hl
  intro l H hl h
  refine thenN ?_
  refine seqI (c := sent_Log_Eliciting_c3) rfl ?_
  refine regI hl (Eq.mpr (sent_Log_Eliciting_g6_e _ (fun i => l.getD i undef) _) h) ?_
  clear h hl
  intro l H hl h
  refine thenN ?_
  refine retI rfl ?_
  exact h
theorem sent_Log_Eliciting_ok : okB sent_Log_Eliciting_pi sent_Log_Eliciting_c1 = true := by kernel_rfl
theorem sent_Log_Eliciting_ev (x0 : Value) (R : Value → Heap → Prop) (H : Heap) (h : sent_Log_Eliciting x0 R H) : EvF P N.sent_Log_Eliciting #[x0] H R :=
  EvF_intro (args := [x0]) (k := 5) (rs := sent_Log_Eliciting_rs) tab_ok mixed Try.func19 (show Try.f19.body = some sent_Log_Eliciting_c1 by kernel_rfl) Try.call19 Try.ntmps19 (by kernel_rfl) (okCode_of _ sent_Log_Eliciting_ok) rfl (sent_Log_Eliciting_i R x0 H h)
/- 20: (*sounder/sent.Log).Len -/
def sent_Log_Len_rs : List ResultVar := [.tmp 2]
noncomputable def sent_Log_Len_c2 : Code := subC (bodyC Try.f20) [0]
noncomputable def sent_Log_Len_c4 : Code := subC (bodyC Try.f20) [1, 0]
noncomputable def sent_Log_Len_c3 : Code := .seq sent_Log_Len_c4 Code.ret
noncomputable def sent_Log_Len_c1 : Code := .seq sent_Log_Len_c2 sent_Log_Len_c3
def sent_Log_Len_pi (_ : Nat) : Pl := .nil
def sent_Log_Len_g5 (S : Value → Heap → Prop) (x0 : Value) (H : Heap) : Prop :=
  newE 23 (Value.cells x0) H fun v1 H1 =>
  S v1 H1
theorem sent_Log_Len_g5_e (S : Value → Heap → Prop) (x : Nat → Value) (H : Heap) : wpE tab P sent_Log_Len_pi sent_Log_Len_c2 (nQ fun l H => S (l.getD 1 undef) H) ((List.range 6).map x) H = sent_Log_Len_g5 S (x 0) H := by kernel_rfl
def sent_Log_Len_g6 (S : Value → Heap → Prop) (x1 : Value) (H : Heap) : Prop :=
  bnd (ldE false 1 x1 H) fun v3 =>
  EvF P N.sent_Log_total #[v3, (.func (.func N.sent_Log_Len_1) #[] #[x1])] H fun v5 H1 =>
  S v5 H1
theorem sent_Log_Len_g6_e (S : Value → Heap → Prop) (x : Nat → Value) (H : Heap) : wpE tab P sent_Log_Len_pi sent_Log_Len_c4 (nQ fun l H => S (l.getD 2 undef) H) ((List.range 6).map x) H = sent_Log_Len_g6 S (x 1) H := by kernel_rfl
def sent_Log_Len (x0 : Value) (R : Value → Heap → Prop) (H : Heap) : Prop :=
  sent_Log_Len_g5 (fun x1 H => sent_Log_Len_g6 (fun x2 H => R x2 H) x1 H) x0 H
theorem sent_Log_Len_i (R : Value → Heap → Prop) (x0 : Value) (H : Heap) (h : sent_Log_Len x0 R H) : wpE tab P sent_Log_Len_pi sent_Log_Len_c1 (retQ tab sent_Log_Len_rs R) [x0, undef, undef, undef, undef, undef] H := by
  obtain ⟨l, hl, el⟩ : ∃ l : List Value, l.length = 6 ∧ l = [x0, undef, undef, undef, undef, undef] := ⟨_, rfl, rfl⟩
  rw [← el]
  have h : (fun (x0 : Value) => sent_Log_Len_g5 (fun x1 H => sent_Log_Len_g6 (fun x2 H => R x2 H) x1 H) x0 H) (l.getD 0 undef) := by rw [el]; exact h
  clear el
  refine seqI (c := sent_Log_Len_c1) rfl ?_
  refine regI hl (Eq.mpr (sent_Log_Len_g5_e _ (fun i => l.getD i undef) _) h) ?_
  clear h hl
  intro l H hl h
  refine thenN ?_
  refine seqI (c := sent_Log_Len_c3) rfl ?_
  refine regI hl (Eq.mpr (sent_Log_Len_g6_e _ (fun i => l.getD i undef) _) h) ?_
  clear h hl
  intro l H hl h
  refine thenN ?_
  refine retI rfl ?_
  exact h
theorem sent_Log_Len_ok : okB sent_Log_Len_pi sent_Log_Len_c1 = true := by kernel_rfl
theorem sent_Log_Len_ev (x0 : Value) (R : Value → Heap → Prop) (H : Heap) (h : sent_Log_Len x0 R H) : EvF P N.sent_Log_Len #[x0] H R :=
  EvF_intro (args := [x0]) (k := 5) (rs := sent_Log_Len_rs) tab_ok mixed Try.func20 (show Try.f20.body = some sent_Log_Len_c1 by kernel_rfl) Try.call20 Try.ntmps20 (by kernel_rfl) (okCode_of _ sent_Log_Len_ok) rfl (sent_Log_Len_i R x0 H h)
/- 21: (*sounder/sent.Log).All -/
def sent_Log_All_rs : List ResultVar := [.tmp 2]
noncomputable def sent_Log_All_c2 : Code := subC (bodyC Try.f21) [0]
noncomputable def sent_Log_All_c4 : Code := subC (bodyC Try.f21) [1, 0]
noncomputable def sent_Log_All_c3 : Code := .seq sent_Log_All_c4 Code.ret
noncomputable def sent_Log_All_c1 : Code := .seq sent_Log_All_c2 sent_Log_All_c3
def sent_Log_All_pi (_ : Nat) : Pl := .nil
def sent_Log_All_g5 (S : Value → Heap → Prop) (x0 : Value) (H : Heap) : Prop :=
  S x0 H
theorem sent_Log_All_g5_e (S : Value → Heap → Prop) (x : Nat → Value) (H : Heap) : wpE tab P sent_Log_All_pi sent_Log_All_c2 (nQ fun l H => S (l.getD 0 undef) H) ((List.range 5).map x) H = sent_Log_All_g5 S (x 0) H := by kernel_rfl
def sent_Log_All_g6 (S : Value → Heap → Prop) (x0 : Value) (H : Heap) : Prop :=
  EvF P N.sent_Log_Between #[x0, (.int .i64 0), (.int .i64 9007199254740991)] H fun v4 H1 =>
  S v4 H1
theorem sent_Log_All_g6_e (S : Value → Heap → Prop) (x : Nat → Value) (H : Heap) : wpE tab P sent_Log_All_pi sent_Log_All_c4 (nQ fun l H => S (l.getD 2 undef) H) ((List.range 5).map x) H = sent_Log_All_g6 S (x 0) H := by kernel_rfl
def sent_Log_All (x0 : Value) (R : Value → Heap → Prop) (H : Heap) : Prop :=
  sent_Log_All_g5 (fun x0 H => sent_Log_All_g6 (fun x2 H => R x2 H) x0 H) x0 H
theorem sent_Log_All_i (R : Value → Heap → Prop) (x0 : Value) (H : Heap) (h : sent_Log_All x0 R H) : wpE tab P sent_Log_All_pi sent_Log_All_c1 (retQ tab sent_Log_All_rs R) [x0, undef, undef, undef, undef] H := by
  obtain ⟨l, hl, el⟩ : ∃ l : List Value, l.length = 5 ∧ l = [x0, undef, undef, undef, undef] := ⟨_, rfl, rfl⟩
  rw [← el]
  have h : (fun (x0 : Value) => sent_Log_All_g5 (fun x0 H => sent_Log_All_g6 (fun x2 H => R x2 H) x0 H) x0 H) (l.getD 0 undef) := by rw [el]; exact h
  clear el
  refine seqI (c := sent_Log_All_c1) rfl ?_
  refine regI hl (Eq.mpr (sent_Log_All_g5_e _ (fun i => l.getD i undef) _) h) ?_
  clear h hl
  intro l H hl h
  refine thenN ?_
  refine seqI (c := sent_Log_All_c3) rfl ?_
  refine regI hl (Eq.mpr (sent_Log_All_g6_e _ (fun i => l.getD i undef) _) h) ?_
  clear h hl
  intro l H hl h
  refine thenN ?_
  refine retI rfl ?_
  exact h
theorem sent_Log_All_ok : okB sent_Log_All_pi sent_Log_All_c1 = true := by kernel_rfl
theorem sent_Log_All_ev (x0 : Value) (R : Value → Heap → Prop) (H : Heap) (h : sent_Log_All x0 R H) : EvF P N.sent_Log_All #[x0] H R :=
  EvF_intro (args := [x0]) (k := 4) (rs := sent_Log_All_rs) tab_ok mixed Try.func21 (show Try.f21.body = some sent_Log_All_c1 by kernel_rfl) Try.call21 Try.ntmps21 (by kernel_rfl) (okCode_of _ sent_Log_All_ok) rfl (sent_Log_All_i R x0 H h)
/- 22: (*sounder/sent.Log).Between -/
def sent_Log_Between_rs : List ResultVar := [.tmp 6]
noncomputable def sent_Log_Between_c2 : Code := subC (bodyC Try.f22) [0]
noncomputable def sent_Log_Between_c4 : Code := subC (bodyC Try.f22) [1, 0]
noncomputable def sent_Log_Between_c6 : Code := subC (bodyC Try.f22) [1, 1, 0]
noncomputable def sent_Log_Between_c8 : Code := subC (bodyC Try.f22) [1, 1, 1, 0]
noncomputable def sent_Log_Between_c7 : Code := .seq sent_Log_Between_c8 Code.ret
noncomputable def sent_Log_Between_c5 : Code := .seq sent_Log_Between_c6 sent_Log_Between_c7
noncomputable def sent_Log_Between_c3 : Code := .seq sent_Log_Between_c4 sent_Log_Between_c5
noncomputable def sent_Log_Between_c1 : Code := .seq sent_Log_Between_c2 sent_Log_Between_c3
def sent_Log_Between_pi (_ : Nat) : Pl := .nil
def sent_Log_Between_g9 (S : Value → Value → Value → Heap → Prop) (x0 x1 x2 : Value) (H : Heap) : Prop :=
  S x0 x1 x2 H
theorem sent_Log_Between_g9_e (S : Value → Value → Value → Heap → Prop) (x : Nat → Value) (H : Heap) : wpE tab P sent_Log_Between_pi sent_Log_Between_c2 (nQ fun l H => S (l.getD 0 undef) (l.getD 1 undef) (l.getD 2 undef) H) ((List.range 14).map x) H = sent_Log_Between_g9 S (x 0) (x 1) (x 2) H := by kernel_rfl
def sent_Log_Between_g10 (S : Value → Value → Value → Value → Heap → Prop) (x0 x1 x2 : Value) (H : Heap) : Prop :=
  newE 70 #[(.slice none 0 0)] H fun v7 H1 =>
  S x0 x1 x2 v7 H1
theorem sent_Log_Between_g10_e (S : Value → Value → Value → Value → Heap → Prop) (x : Nat → Value) (H : Heap) : wpE tab P sent_Log_Between_pi sent_Log_Between_c4 (nQ fun l H => S (l.getD 0 undef) (l.getD 1 undef) (l.getD 2 undef) (l.getD 7 undef) H) ((List.range 14).map x) H = sent_Log_Between_g10 S (x 0) (x 1) (x 2) H := by kernel_rfl
def sent_Log_Between_g11 (S : Value → Heap → Prop) (x0 x1 x2 x7 : Value) (H : Heap) : Prop :=
  EvF P N.sent_Log_each #[x0, x1, x2, (.func (.func N.sent_row_put) #[x7] #[])] H fun _ H1 =>
  S x7 H1
theorem sent_Log_Between_g11_e (S : Value → Heap → Prop) (x : Nat → Value) (H : Heap) : wpE tab P sent_Log_Between_pi sent_Log_Between_c6 (nQ fun l H => S (l.getD 7 undef) H) ((List.range 14).map x) H = sent_Log_Between_g11 S (x 0) (x 1) (x 2) (x 7) H := by kernel_rfl
def sent_Log_Between_g12 (S : Value → Heap → Prop) (x7 : Value) (H : Heap) : Prop :=
  bnd (ldE false 1 x7 H) fun v13 =>
  S v13 H
theorem sent_Log_Between_g12_e (S : Value → Heap → Prop) (x : Nat → Value) (H : Heap) : wpE tab P sent_Log_Between_pi sent_Log_Between_c8 (nQ fun l H => S (l.getD 6 undef) H) ((List.range 14).map x) H = sent_Log_Between_g12 S (x 7) H := by kernel_rfl
def sent_Log_Between (x0 x1 x2 : Value) (R : Value → Heap → Prop) (H : Heap) : Prop :=
  sent_Log_Between_g9 (fun x0 x1 x2 H => sent_Log_Between_g10 (fun x0 x1 x2 x7 H => sent_Log_Between_g11 (fun x7 H => sent_Log_Between_g12 (fun x6 H => R x6 H) x7 H) x0 x1 x2 x7 H) x0 x1 x2 H) x0 x1 x2 H
theorem sent_Log_Between_i (R : Value → Heap → Prop) (x0 x1 x2 : Value) (H : Heap) (h : sent_Log_Between x0 x1 x2 R H) : wpE tab P sent_Log_Between_pi sent_Log_Between_c1 (retQ tab sent_Log_Between_rs R) [x0, x1, x2, undef, undef, undef, undef, undef, undef, undef, undef, undef, undef, undef] H := by
  obtain ⟨l, hl, el⟩ : ∃ l : List Value, l.length = 14 ∧ l = [x0, x1, x2, undef, undef, undef, undef, undef, undef, undef, undef, undef, undef, undef] := ⟨_, rfl, rfl⟩
  rw [← el]
  have h : (fun (x0 x1 x2 : Value) => sent_Log_Between_g9 (fun x0 x1 x2 H => sent_Log_Between_g10 (fun x0 x1 x2 x7 H => sent_Log_Between_g11 (fun x7 H => sent_Log_Between_g12 (fun x6 H => R x6 H) x7 H) x0 x1 x2 x7 H) x0 x1 x2 H) x0 x1 x2 H) (l.getD 0 undef) (l.getD 1 undef) (l.getD 2 undef) := by rw [el]; exact h
  clear el
  refine seqI (c := sent_Log_Between_c1) rfl ?_
  refine regI hl (Eq.mpr (sent_Log_Between_g9_e _ (fun i => l.getD i undef) _) h) ?_
  clear h hl
  intro l H hl h
  refine thenN ?_
  refine seqI (c := sent_Log_Between_c3) rfl ?_
  refine regI hl (Eq.mpr (sent_Log_Between_g10_e _ (fun i => l.getD i undef) _) h) ?_
  clear h hl
  intro l H hl h
  refine thenN ?_
  refine seqI (c := sent_Log_Between_c5) rfl ?_
  refine regI hl (Eq.mpr (sent_Log_Between_g11_e _ (fun i => l.getD i undef) _) h) ?_
  clear h hl
  intro l H hl h
  refine thenN ?_
  refine seqI (c := sent_Log_Between_c7) rfl ?_
  refine regI hl (Eq.mpr (sent_Log_Between_g12_e _ (fun i => l.getD i undef) _) h) ?_
  clear h hl
  intro l H hl h
  refine thenN ?_
  refine retI rfl ?_
  exact h
theorem sent_Log_Between_ok : okB sent_Log_Between_pi sent_Log_Between_c1 = true := by kernel_rfl
theorem sent_Log_Between_ev (x0 x1 x2 : Value) (R : Value → Heap → Prop) (H : Heap) (h : sent_Log_Between x0 x1 x2 R H) : EvF P N.sent_Log_Between #[x0, x1, x2] H R :=
  EvF_intro (args := [x0, x1, x2]) (k := 11) (rs := sent_Log_Between_rs) tab_ok mixed Try.func22 (show Try.f22.body = some sent_Log_Between_c1 by kernel_rfl) Try.call22 Try.ntmps22 (by kernel_rfl) (okCode_of _ sent_Log_Between_ok) rfl (sent_Log_Between_i R x0 x1 x2 H h)
/- 23: sounder/sounderlaw06.equal -/
def sounderlaw06_equal_rs : List ResultVar := [.tmp 4]
noncomputable def sounderlaw06_equal_c2 : Code := subC (bodyC Try.f23) [0]
noncomputable def sounderlaw06_equal_c5 : Code := subC (bodyC Try.f23) [1, 0, 0]
noncomputable def sounderlaw06_equal_c8 : Code := subC (bodyC Try.f23) [1, 0, 1, 0, 0]
noncomputable def sounderlaw06_equal_c7 : Code := .seq sounderlaw06_equal_c8 Code.ret
noncomputable def sounderlaw06_equal_c6 : Code := .cond (.tmp 10) sounderlaw06_equal_c7 Code.skip
noncomputable def sounderlaw06_equal_c4 : Code := .seq sounderlaw06_equal_c5 sounderlaw06_equal_c6
noncomputable def sounderlaw06_equal_c11 : Code := subC (bodyC Try.f23) [1, 1, 0, 0]
noncomputable def sounderlaw06_equal_c16 : Code := subC (bodyC Try.f23) [1, 1, 0, 1, 0, 0, 0, 0]
noncomputable def sounderlaw06_equal_c18 : Code := .exit 0
noncomputable def sounderlaw06_equal_c17 : Code := .cond (.tmp 14) Code.skip sounderlaw06_equal_c18
noncomputable def sounderlaw06_equal_c15 : Code := .seq sounderlaw06_equal_c16 sounderlaw06_equal_c17
noncomputable def sounderlaw06_equal_c22 : Code := subC (bodyC Try.f23) [1, 1, 0, 1, 0, 0, 1, 0, 0, 0]
noncomputable def sounderlaw06_equal_c25 : Code := subC (bodyC Try.f23) [1, 1, 0, 1, 0, 0, 1, 0, 0, 1, 0, 0]
noncomputable def sounderlaw06_equal_c24 : Code := .seq sounderlaw06_equal_c25 Code.ret
noncomputable def sounderlaw06_equal_c23 : Code := .cond (.tmp 25) sounderlaw06_equal_c24 Code.skip
noncomputable def sounderlaw06_equal_c21 : Code := .seq sounderlaw06_equal_c22 sounderlaw06_equal_c23
noncomputable def sounderlaw06_equal_c20 : Code := .block 1 sounderlaw06_equal_c21
noncomputable def sounderlaw06_equal_c26 : Code := subC (bodyC Try.f23) [1, 1, 0, 1, 0, 0, 1, 1]
noncomputable def sounderlaw06_equal_c19 : Code := .seq sounderlaw06_equal_c20 sounderlaw06_equal_c26
noncomputable def sounderlaw06_equal_c14 : Code := .seq sounderlaw06_equal_c15 sounderlaw06_equal_c19
noncomputable def sounderlaw06_equal_c13 : Code := .loop sounderlaw06_equal_c14
noncomputable def sounderlaw06_equal_c12 : Code := .block 0 sounderlaw06_equal_c13
noncomputable def sounderlaw06_equal_c10 : Code := .seq sounderlaw06_equal_c11 sounderlaw06_equal_c12
noncomputable def sounderlaw06_equal_c28 : Code := subC (bodyC Try.f23) [1, 1, 1, 0]
noncomputable def sounderlaw06_equal_c27 : Code := .seq sounderlaw06_equal_c28 Code.ret
noncomputable def sounderlaw06_equal_c9 : Code := .seq sounderlaw06_equal_c10 sounderlaw06_equal_c27
noncomputable def sounderlaw06_equal_c3 : Code := .seq sounderlaw06_equal_c4 sounderlaw06_equal_c9
noncomputable def sounderlaw06_equal_c1 : Code := .seq sounderlaw06_equal_c2 sounderlaw06_equal_c3
def sounderlaw06_equal_pi (i : Nat) : Pl := match i with
  | 6 => (ones [0, 1, 2, 3, 4, 5, 6, 7, 8] .nil)
  | _ => .nil
def sounderlaw06_equal_g29 (S : Value → Value → Heap → Prop) (x0 x1 : Value) (H : Heap) : Prop :=
  S x0 x1 H
theorem sounderlaw06_equal_g29_e (S : Value → Value → Heap → Prop) (x : Nat → Value) (H : Heap) : wpE tab P sounderlaw06_equal_pi sounderlaw06_equal_c2 (nQ fun l H => S (l.getD 0 undef) (l.getD 1 undef) H) ((List.range 26).map x) H = sounderlaw06_equal_g29 S (x 0) (x 1) H := by kernel_rfl
def sounderlaw06_equal_g30 (S : Value → Value → Value → Heap → Prop) (x0 x1 : Value) (H : Heap) : Prop :=
  bnd (lenV x0) fun v7 =>
  bnd (lenV x1) fun v9 =>
  bnd (binV .int .neq v7 v9) fun v10 =>
  S x0 x1 v10 H
theorem sounderlaw06_equal_g30_e (S : Value → Value → Value → Heap → Prop) (x : Nat → Value) (H : Heap) : wpE tab P sounderlaw06_equal_pi sounderlaw06_equal_c5 (nQ fun l H => S (l.getD 0 undef) (l.getD 1 undef) (l.getD 10 undef) H) ((List.range 26).map x) H = sounderlaw06_equal_g30 S (x 0) (x 1) H := by kernel_rfl
def sounderlaw06_equal_g31 (S : Value → Heap → Prop) (H : Heap) : Prop :=
  S (.bool false) H
theorem sounderlaw06_equal_g31_e (S : Value → Heap → Prop) (x : Nat → Value) (H : Heap) : wpE tab P sounderlaw06_equal_pi sounderlaw06_equal_c8 (nQ fun l H => S (l.getD 4 undef) H) ((List.range 26).map x) H = sounderlaw06_equal_g31 S  H := by kernel_rfl
def sounderlaw06_equal_g32 (S : Value → Value → Value → Heap → Prop) (x0 x1 : Value) (H : Heap) : Prop :=
  S x0 x1 (.int .i64 0) H
theorem sounderlaw06_equal_g32_e (S : Value → Value → Value → Heap → Prop) (x : Nat → Value) (H : Heap) : wpE tab P sounderlaw06_equal_pi sounderlaw06_equal_c11 (nQ fun l H => S (l.getD 0 undef) (l.getD 1 undef) (l.getD 5 undef) H) ((List.range 26).map x) H = sounderlaw06_equal_g32 S (x 0) (x 1) H := by kernel_rfl
def sounderlaw06_equal_g34 (S : Value → Value → Value → Value → Heap → Prop) (x0 x1 x5 : Value) (H : Heap) : Prop :=
  bnd (lenV x0) fun v13 =>
  bnd (binV .int .lss x5 v13) fun v14 =>
  S x0 x1 x5 v14 H
theorem sounderlaw06_equal_g34_e (S : Value → Value → Value → Value → Heap → Prop) (x : Nat → Value) (H : Heap) : wpE tab P sounderlaw06_equal_pi sounderlaw06_equal_c16 (nQ fun l H => S (l.getD 0 undef) (l.getD 1 undef) (l.getD 5 undef) (l.getD 14 undef) H) ((List.range 26).map x) H = sounderlaw06_equal_g34 S (x 0) (x 1) (x 5) H := by kernel_rfl
def sounderlaw06_equal_g35 (S : Value → Value → Value → Value → Heap → Prop) (x0 x1 x5 : Value) (H : Heap) : Prop :=
  bnd (ixSV 6 x0 x5) fun v19 =>
  bnd (ldE true 6 v19 H) fun v20 =>
  bnd (ixSV 6 x1 x5) fun v23 =>
  bnd (ldE true 6 v23 H) fun v24 =>
  bnd (binV (.agg [true, true, true, false, false, false]) .neq v20 v24) fun v25 =>
  S x0 x1 x5 v25 H
theorem sounderlaw06_equal_g35_e (S : Value → Value → Value → Value → Heap → Prop) (x : Nat → Value) (H : Heap) : wpE tab P sounderlaw06_equal_pi sounderlaw06_equal_c22 (nQ fun l H => S (l.getD 0 undef) (l.getD 1 undef) (l.getD 5 undef) (l.getD 25 undef) H) ((List.range 26).map x) H = sounderlaw06_equal_g35 S (x 0) (x 1) (x 5) H := by kernel_rfl
def sounderlaw06_equal_g36 (S : Value → Heap → Prop) (H : Heap) : Prop :=
  S (.bool false) H
theorem sounderlaw06_equal_g36_e (S : Value → Heap → Prop) (x : Nat → Value) (H : Heap) : wpE tab P sounderlaw06_equal_pi sounderlaw06_equal_c25 (nQ fun l H => S (l.getD 4 undef) H) ((List.range 26).map x) H = sounderlaw06_equal_g36 S  H := by kernel_rfl
def sounderlaw06_equal_g37 (S : Value → Value → Value → Heap → Prop) (x0 x1 x5 : Value) (H : Heap) : Prop :=
  bnd (binV .int .add x5 (.int .i64 1)) fun v16 =>
  S x0 x1 v16 H
theorem sounderlaw06_equal_g37_e (S : Value → Value → Value → Heap → Prop) (x : Nat → Value) (H : Heap) : wpE tab P sounderlaw06_equal_pi sounderlaw06_equal_c26 (nQ fun l H => S (l.getD 0 undef) (l.getD 1 undef) (l.getD 5 undef) H) ((List.range 26).map x) H = sounderlaw06_equal_g37 S (x 0) (x 1) (x 5) H := by kernel_rfl
def sounderlaw06_equal_g38 (S : Value → Heap → Prop) (H : Heap) : Prop :=
  S (.bool true) H
theorem sounderlaw06_equal_g38_e (S : Value → Heap → Prop) (x : Nat → Value) (H : Heap) : wpE tab P sounderlaw06_equal_pi sounderlaw06_equal_c28 (nQ fun l H => S (l.getD 4 undef) H) ((List.range 26).map x) H = sounderlaw06_equal_g38 S  H := by kernel_rfl
def sounderlaw06_equal_s33 (x0 x1 x5 : Value) (K1 : Value → Value → Value →  Heap → Prop) (R : Value → Heap → Prop) (H : Heap) : Prop :=
  sounderlaw06_equal_g34 (fun x0 x1 x5 x14 H => brV x14
  (sounderlaw06_equal_g35 (fun x0 x1 x5 x25 H => brV x25
  (sounderlaw06_equal_g36 (fun x4 H => R x4 H) H)
  (sounderlaw06_equal_g37 (fun x0 x1 x5 H => K1 x0 x1 x5 H) x0 x1 x5 H)) x0 x1 x5 H)
  (sounderlaw06_equal_g38 (fun x4 H => R x4 H) H)) x0 x1 x5 H
noncomputable def sounderlaw06_equal_q39 (R : Value → Heap → Prop) : Exit → List Value → Heap → Prop := (retQ tab sounderlaw06_equal_rs R)
noncomputable def sounderlaw06_equal_q40 (R : Value → Heap → Prop) : Exit → List Value → Heap → Prop := (thenE (fun l H => wpE tab P sounderlaw06_equal_pi sounderlaw06_equal_c27 (sounderlaw06_equal_q39 R) l H) (sounderlaw06_equal_q39 R))
noncomputable def sounderlaw06_equal_q41 (R : Value → Heap → Prop) : Exit → List Value → Heap → Prop := (blkE 0 (sounderlaw06_equal_q40 R))
noncomputable def sounderlaw06_equal_q42 (K1 : Value → Value → Value →  Heap → Prop) (R : Value → Heap → Prop) : Exit → List Value → Heap → Prop := (thenE (fun l H => K1 (l.getD 0 undef) (l.getD 1 undef) (l.getD 5 undef) H) (sounderlaw06_equal_q41 R))
theorem sounderlaw06_equal_s33_i (K1 : Value → Value → Value →  Heap → Prop) (R : Value → Heap → Prop) (l : List Value) (H : Heap) (hl : l.length = 26) (h : sounderlaw06_equal_s33 (l.getD 0 undef) (l.getD 1 undef) (l.getD 5 undef) K1 R H) : wpE tab P sounderlaw06_equal_pi sounderlaw06_equal_c14 (sounderlaw06_equal_q42 K1 R) l H := by
  refine seqI (c := sounderlaw06_equal_c14) rfl ?_
  refine seqI (c := sounderlaw06_equal_c15) rfl ?_
  refine regI hl (Eq.mpr (sounderlaw06_equal_g34_e _ (fun i => l.getD i undef) _) h) ?_
  clear h hl
  intro l H hl h
  refine thenN ?_
  refine condI (c := sounderlaw06_equal_c17) rfl h ?_ ?_
  · clear h; intro h
    refine skipI rfl ?_
    refine thenN ?_
    refine seqI (c := sounderlaw06_equal_c19) rfl ?_
    refine blockI (c := sounderlaw06_equal_c20) rfl ?_
    refine seqI (c := sounderlaw06_equal_c21) rfl ?_
    refine regI hl (Eq.mpr (sounderlaw06_equal_g35_e _ (fun i => l.getD i undef) _) h) ?_
    clear h hl
    intro l H hl h
    refine thenN ?_
    refine condI (c := sounderlaw06_equal_c23) rfl h ?_ ?_
    · clear h; intro h
      refine seqI (c := sounderlaw06_equal_c24) rfl ?_
      refine regI hl (Eq.mpr (sounderlaw06_equal_g36_e _ (fun i => l.getD i undef) _) h) ?_
      clear h hl
      intro l H hl h
      refine thenN ?_
      refine retI rfl ?_
      refine blkR ?_
      refine thenR ?_
      refine thenR ?_
      refine blkR ?_
      refine thenR ?_
      exact h
    · clear h; intro h
      refine skipI rfl ?_
      refine blkN ?_
      refine thenN ?_
      refine regI hl (Eq.mpr (sounderlaw06_equal_g37_e _ (fun i => l.getD i undef) _) h) ?_
      clear h hl
      intro l H hl h
      refine thenN ?_
      exact h
  · clear h; intro h
    refine exitI (c := sounderlaw06_equal_c18) rfl ?_
    refine thenX ?_
    refine thenX ?_
    refine blkX ?_
    refine thenN ?_
    refine seqI (c := sounderlaw06_equal_c27) rfl ?_
    refine regI hl (Eq.mpr (sounderlaw06_equal_g38_e _ (fun i => l.getD i undef) _) h) ?_
    clear h hl
    intro l H hl h
    refine thenN ?_
    refine retI rfl ?_
    exact h
def sounderlaw06_equal_l43 (x0 x1 x5 : Value) (R : Value → Heap → Prop) (H : Heap) : Prop :=
  ∃ (I : Value → Heap → Prop) (μ : Value → Heap → Nat), I x5 H ∧ ∀ (y5 : Value) (H : Heap), I y5 H → sounderlaw06_equal_s33 x0 x1 y5 (fun z0 z1 z5 H' => z0 = x0 ∧ z1 = x1 ∧ (I z5 H' ∧ μ z5 H' < μ y5 H)) R H
def sounderlaw06_equal (x0 x1 : Value) (R : Value → Heap → Prop) (H : Heap) : Prop :=
  sounderlaw06_equal_g29 (fun x0 x1 H => sounderlaw06_equal_g30 (fun x0 x1 x10 H => brV x10
  (sounderlaw06_equal_g31 (fun x4 H => R x4 H) H)
  (sounderlaw06_equal_g32 (fun x0 x1 x5 H => sounderlaw06_equal_l43 x0 x1 x5 R H) x0 x1 H)) x0 x1 H) x0 x1 H
theorem sounderlaw06_equal_i (R : Value → Heap → Prop) (x0 x1 : Value) (H : Heap) (h : sounderlaw06_equal x0 x1 R H) : wpE tab P sounderlaw06_equal_pi sounderlaw06_equal_c1 (retQ tab sounderlaw06_equal_rs R) [x0, x1, undef, undef, undef, undef, undef, undef, undef, undef, undef, undef, undef, undef, undef, undef, undef, undef, undef, undef, undef, undef, undef, undef, undef, undef] H := by
  obtain ⟨l, hl, el⟩ : ∃ l : List Value, l.length = 26 ∧ l = [x0, x1, undef, undef, undef, undef, undef, undef, undef, undef, undef, undef, undef, undef, undef, undef, undef, undef, undef, undef, undef, undef, undef, undef, undef, undef] := ⟨_, rfl, rfl⟩
  rw [← el]
  have h : (fun (x0 x1 : Value) => sounderlaw06_equal_g29 (fun x0 x1 H => sounderlaw06_equal_g30 (fun x0 x1 x10 H => brV x10
(sounderlaw06_equal_g31 (fun x4 H => R x4 H) H)
(sounderlaw06_equal_g32 (fun x0 x1 x5 H => sounderlaw06_equal_l43 x0 x1 x5 R H) x0 x1 H)) x0 x1 H) x0 x1 H) (l.getD 0 undef) (l.getD 1 undef) := by rw [el]; exact h
  clear el
  refine seqI (c := sounderlaw06_equal_c1) rfl ?_
  refine regI hl (Eq.mpr (sounderlaw06_equal_g29_e _ (fun i => l.getD i undef) _) h) ?_
  clear h hl
  intro l H hl h
  refine thenN ?_
  refine seqI (c := sounderlaw06_equal_c3) rfl ?_
  refine seqI (c := sounderlaw06_equal_c4) rfl ?_
  refine regI hl (Eq.mpr (sounderlaw06_equal_g30_e _ (fun i => l.getD i undef) _) h) ?_
  clear h hl
  intro l H hl h
  refine thenN ?_
  refine condI (c := sounderlaw06_equal_c6) rfl h ?_ ?_
  · clear h; intro h
    refine seqI (c := sounderlaw06_equal_c7) rfl ?_
    refine regI hl (Eq.mpr (sounderlaw06_equal_g31_e _ (fun i => l.getD i undef) _) h) ?_
    clear h hl
    intro l H hl h
    refine thenN ?_
    refine retI rfl ?_
    refine thenR ?_
    exact h
  · clear h; intro h
    refine skipI rfl ?_
    refine thenN ?_
    refine seqI (c := sounderlaw06_equal_c9) rfl ?_
    refine seqI (c := sounderlaw06_equal_c10) rfl ?_
    refine regI hl (Eq.mpr (sounderlaw06_equal_g32_e _ (fun i => l.getD i undef) _) h) ?_
    clear h hl
    intro l H hl h
    refine thenN ?_
    refine blockI (c := sounderlaw06_equal_c12) rfl ?_
    obtain ⟨I, μ, h0, hr⟩ := h
    refine loopI (c := sounderlaw06_equal_c13) rfl (fun l' H' => l'.getD 0 undef = l.getD 0 undef ∧ l'.getD 1 undef = l.getD 1 undef ∧ I (l'.getD 5 undef) H') (fun l' H' => μ (l'.getD 5 undef) H') hl ⟨rfl, rfl, h0⟩ ?_
    rintro l1 H1 hl1 ⟨e0, e1, hI⟩
    have hb := hr (l1.getD 5 undef) H1 hI
    rw [← e0, ← e1] at hb
    refine wpE_mono _ l1 H1 hl1 ?_ (sounderlaw06_equal_s33_i _ R l1 H1 hl1 hb)
    intro e l2 H2 hl2 hq
    cases e with
    | normal => exact fun _ => (by obtain ⟨d0, d1, g1, g2⟩ := hq; exact ⟨⟨d0.trans e0, d1.trans e1, g1⟩, g2⟩)
    | _ => exact hq
theorem sounderlaw06_equal_ok : okB sounderlaw06_equal_pi sounderlaw06_equal_c1 = true := by kernel_rfl
theorem sounderlaw06_equal_ev (x0 x1 : Value) (R : Value → Heap → Prop) (H : Heap) (h : sounderlaw06_equal x0 x1 R H) : EvF P N.sounderlaw06_equal #[x0, x1] H R :=
  EvF_intro (args := [x0, x1]) (k := 24) (rs := sounderlaw06_equal_rs) tab_ok mixed Try.func23 (show Try.f23.body = some sounderlaw06_equal_c1 by kernel_rfl) Try.call23 Try.ntmps23 (by kernel_rfl) (okCode_of _ sounderlaw06_equal_ok) rfl (sounderlaw06_equal_i R x0 x1 H h)
/- 24: sounder/sounderref06.New -/
def sounderref06_New_rs : List ResultVar := [.tmp 2, .tmp 3]
noncomputable def sounderref06_New_c2 : Code := subC (bodyC Try.f24) [0]
noncomputable def sounderref06_New_c5 : Code := subC (bodyC Try.f24) [1, 0, 0]
noncomputable def sounderref06_New_c8 : Code := subC (bodyC Try.f24) [1, 0, 1, 0, 0]
noncomputable def sounderref06_New_c7 : Code := .seq sounderref06_New_c8 Code.ret
noncomputable def sounderref06_New_c6 : Code := .cond (.tmp 9) sounderref06_New_c7 Code.skip
noncomputable def sounderref06_New_c4 : Code := .seq sounderref06_New_c5 sounderref06_New_c6
noncomputable def sounderref06_New_c10 : Code := subC (bodyC Try.f24) [1, 1, 0]
noncomputable def sounderref06_New_c9 : Code := .seq sounderref06_New_c10 Code.ret
noncomputable def sounderref06_New_c3 : Code := .seq sounderref06_New_c4 sounderref06_New_c9
noncomputable def sounderref06_New_c1 : Code := .seq sounderref06_New_c2 sounderref06_New_c3
def sounderref06_New_pi (_ : Nat) : Pl := .nil
def sounderref06_New_g11 (S : Value → Heap → Prop) (x0 : Value) (H : Heap) : Prop :=
  S x0 H
theorem sounderref06_New_g11_e (S : Value → Heap → Prop) (x : Nat → Value) (H : Heap) : wpE tab P sounderref06_New_pi sounderref06_New_c2 (nQ fun l H => S (l.getD 0 undef) H) ((List.range 13).map x) H = sounderref06_New_g11 S (x 0) H := by kernel_rfl
def sounderref06_New_g12 (S : Value → Value → Heap → Prop) (x0 : Value) (H : Heap) : Prop :=
  bnd (binV .int .lss x0 (.int .i64 1)) fun v5 =>
  brV v5
  (S x0 (.bool true) H)
  (bnd (binV .int .gtr x0 (.int .i64 256)) fun v8 =>
  S x0 v8 H)
theorem sounderref06_New_g12_e (S : Value → Value → Heap → Prop) (x : Nat → Value) (H : Heap) : wpE tab P sounderref06_New_pi sounderref06_New_c5 (nQ fun l H => S (l.getD 0 undef) (l.getD 9 undef) H) ((List.range 13).map x) H = sounderref06_New_g12 S (x 0) H := by kernel_rfl
def sounderref06_New_g13 (S : Value → Value → Heap → Prop) (H : Heap) : Prop :=
  S (.pointer none) (.int .i64 2) H
theorem sounderref06_New_g13_e (S : Value → Value → Heap → Prop) (x : Nat → Value) (H : Heap) : wpE tab P sounderref06_New_pi sounderref06_New_c8 (nQ fun l H => S (l.getD 2 undef) (l.getD 3 undef) H) ((List.range 13).map x) H = sounderref06_New_g13 S  H := by kernel_rfl
def sounderref06_New_g14 (S : Value → Value → Heap → Prop) (x0 : Value) (H : Heap) : Prop :=
  bnd (buildV #[(.int .i64 0), (.int .i64 0), (.slice none 0 0)] (places [(0, 1), (1, 1), (2, 1)]) [(0, x0), (1, (.int .i64 (-1)))]) fun v11 =>
  newE 73 (Value.cells v11) H fun v12 H1 =>
  S v12 (.int .i64 0) H1
theorem sounderref06_New_g14_e (S : Value → Value → Heap → Prop) (x : Nat → Value) (H : Heap) : wpE tab P sounderref06_New_pi sounderref06_New_c10 (nQ fun l H => S (l.getD 2 undef) (l.getD 3 undef) H) ((List.range 13).map x) H = sounderref06_New_g14 S (x 0) H := by kernel_rfl
def sounderref06_New (x0 : Value) (R : Value → Heap → Prop) (H : Heap) : Prop :=
  sounderref06_New_g11 (fun x0 H => sounderref06_New_g12 (fun x0 x9 H => brV x9
  (sounderref06_New_g13 (fun x2 x3 H => R (.tuple #[x2, x3]) H) H)
  (sounderref06_New_g14 (fun x2 x3 H => R (.tuple #[x2, x3]) H) x0 H)) x0 H) x0 H
theorem sounderref06_New_i (R : Value → Heap → Prop) (x0 : Value) (H : Heap) (h : sounderref06_New x0 R H) : wpE tab P sounderref06_New_pi sounderref06_New_c1 (retQ tab sounderref06_New_rs R) [x0, undef, undef, undef, undef, undef, undef, undef, undef, undef, undef, undef, undef] H := by
  obtain ⟨l, hl, el⟩ : ∃ l : List Value, l.length = 13 ∧ l = [x0, undef, undef, undef, undef, undef, undef, undef, undef, undef, undef, undef, undef] := ⟨_, rfl, rfl⟩
  rw [← el]
  have h : (fun (x0 : Value) => sounderref06_New_g11 (fun x0 H => sounderref06_New_g12 (fun x0 x9 H => brV x9
(sounderref06_New_g13 (fun x2 x3 H => R (.tuple #[x2, x3]) H) H)
(sounderref06_New_g14 (fun x2 x3 H => R (.tuple #[x2, x3]) H) x0 H)) x0 H) x0 H) (l.getD 0 undef) := by rw [el]; exact h
  clear el
  refine seqI (c := sounderref06_New_c1) rfl ?_
  refine regI hl (Eq.mpr (sounderref06_New_g11_e _ (fun i => l.getD i undef) _) h) ?_
  clear h hl
  intro l H hl h
  refine thenN ?_
  refine seqI (c := sounderref06_New_c3) rfl ?_
  refine seqI (c := sounderref06_New_c4) rfl ?_
  refine regI hl (Eq.mpr (sounderref06_New_g12_e _ (fun i => l.getD i undef) _) h) ?_
  clear h hl
  intro l H hl h
  refine thenN ?_
  refine condI (c := sounderref06_New_c6) rfl h ?_ ?_
  · clear h; intro h
    refine seqI (c := sounderref06_New_c7) rfl ?_
    refine regI hl (Eq.mpr (sounderref06_New_g13_e _ (fun i => l.getD i undef) _) h) ?_
    clear h hl
    intro l H hl h
    refine thenN ?_
    refine retI rfl ?_
    refine thenR ?_
    exact h
  · clear h; intro h
    refine skipI rfl ?_
    refine thenN ?_
    refine seqI (c := sounderref06_New_c9) rfl ?_
    refine regI hl (Eq.mpr (sounderref06_New_g14_e _ (fun i => l.getD i undef) _) h) ?_
    clear h hl
    intro l H hl h
    refine thenN ?_
    refine retI rfl ?_
    exact h
theorem sounderref06_New_ok : okB sounderref06_New_pi sounderref06_New_c1 = true := by kernel_rfl
theorem sounderref06_New_ev (x0 : Value) (R : Value → Heap → Prop) (H : Heap) (h : sounderref06_New x0 R H) : EvF P N.sounderref06_New #[x0] H R :=
  EvF_intro (args := [x0]) (k := 12) (rs := sounderref06_New_rs) tab_ok mixed Try.func24 (show Try.f24.body = some sounderref06_New_c1 by kernel_rfl) Try.call24 Try.ntmps24 (by kernel_rfl) (okCode_of _ sounderref06_New_ok) rfl (sounderref06_New_i R x0 H h)
/- 25: (*sounder/sounderref06.Log).Put -/
def sounderref06_Log_Put_rs : List ResultVar := [.tmp 4]
noncomputable def sounderref06_Log_Put_c2 : Code := subC (bodyC Try.f25) [0]
noncomputable def sounderref06_Log_Put_c5 : Code := subC (bodyC Try.f25) [1, 0, 0]
noncomputable def sounderref06_Log_Put_c8 : Code := subC (bodyC Try.f25) [1, 0, 1, 0, 0]
noncomputable def sounderref06_Log_Put_c7 : Code := .seq sounderref06_Log_Put_c8 Code.ret
noncomputable def sounderref06_Log_Put_c6 : Code := .cond (.tmp 7) sounderref06_Log_Put_c7 Code.skip
noncomputable def sounderref06_Log_Put_c4 : Code := .seq sounderref06_Log_Put_c5 sounderref06_Log_Put_c6
noncomputable def sounderref06_Log_Put_c11 : Code := subC (bodyC Try.f25) [1, 1, 0, 0]
noncomputable def sounderref06_Log_Put_c14 : Code := subC (bodyC Try.f25) [1, 1, 0, 1, 0, 0]
noncomputable def sounderref06_Log_Put_c13 : Code := .seq sounderref06_Log_Put_c14 Code.ret
noncomputable def sounderref06_Log_Put_c12 : Code := .cond (.tmp 14) sounderref06_Log_Put_c13 Code.skip
noncomputable def sounderref06_Log_Put_c10 : Code := .seq sounderref06_Log_Put_c11 sounderref06_Log_Put_c12
noncomputable def sounderref06_Log_Put_c17 : Code := subC (bodyC Try.f25) [1, 1, 1, 0, 0]
noncomputable def sounderref06_Log_Put_c20 : Code := subC (bodyC Try.f25) [1, 1, 1, 0, 1, 0, 0]
noncomputable def sounderref06_Log_Put_c19 : Code := .seq sounderref06_Log_Put_c20 Code.ret
noncomputable def sounderref06_Log_Put_c18 : Code := .cond (.tmp 24) sounderref06_Log_Put_c19 Code.skip
noncomputable def sounderref06_Log_Put_c16 : Code := .seq sounderref06_Log_Put_c17 sounderref06_Log_Put_c18
noncomputable def sounderref06_Log_Put_c22 : Code := subC (bodyC Try.f25) [1, 1, 1, 1, 0]
noncomputable def sounderref06_Log_Put_c24 : Code := subC (bodyC Try.f25) [1, 1, 1, 1, 1, 0]
noncomputable def sounderref06_Log_Put_c26 : Code := subC (bodyC Try.f25) [1, 1, 1, 1, 1, 1, 0]
noncomputable def sounderref06_Log_Put_c25 : Code := .seq sounderref06_Log_Put_c26 Code.ret
noncomputable def sounderref06_Log_Put_c23 : Code := .seq sounderref06_Log_Put_c24 sounderref06_Log_Put_c25
noncomputable def sounderref06_Log_Put_c21 : Code := .seq sounderref06_Log_Put_c22 sounderref06_Log_Put_c23
noncomputable def sounderref06_Log_Put_c15 : Code := .seq sounderref06_Log_Put_c16 sounderref06_Log_Put_c21
noncomputable def sounderref06_Log_Put_c9 : Code := .seq sounderref06_Log_Put_c10 sounderref06_Log_Put_c15
noncomputable def sounderref06_Log_Put_c3 : Code := .seq sounderref06_Log_Put_c4 sounderref06_Log_Put_c9
noncomputable def sounderref06_Log_Put_c1 : Code := .seq sounderref06_Log_Put_c2 sounderref06_Log_Put_c3
def sounderref06_Log_Put_pi (i : Nat) : Pl := match i with
  | 3 => (ones [0, 1, 2, 3, 4, 5, 6] .nil)
  | 5 => (ones [0, 1, 2, 3, 4, 5, 6, 7, 8, 9] .nil)
  | 8 => (ones [0, 1, 3] (.two 2 (ones [4, 5, 6, 7, 8] .nil) 4 (ones [2, 5, 6, 7, 8] .nil)))
  | _ => .nil
def sounderref06_Log_Put_g27 (S : Value → Value → Heap → Prop) (x0 x1 : Value) (H : Heap) : Prop :=
  newE 30 (Value.cells x1) H fun v3 H1 =>
  S x0 v3 H1
theorem sounderref06_Log_Put_g27_e (S : Value → Value → Heap → Prop) (x : Nat → Value) (H : Heap) : wpE tab P sounderref06_Log_Put_pi sounderref06_Log_Put_c2 (nQ fun l H => S (l.getD 0 undef) (l.getD 3 undef) H) ((List.range 38).map x) H = sounderref06_Log_Put_g27 S (x 0) (x 1) H := by kernel_rfl
def sounderref06_Log_Put_g28 (S : Value → Value → Value → Heap → Prop) (x0 x3 : Value) (H : Heap) : Prop :=
  bnd (ldE true 6 x3 H) fun v5 =>
  EvF P N.sounderref06_May #[v5] H fun v6 H1 =>
  bnd (unV .not v6) fun v7 =>
  S x0 x3 v7 H1
theorem sounderref06_Log_Put_g28_e (S : Value → Value → Value → Heap → Prop) (x : Nat → Value) (H : Heap) : wpE tab P sounderref06_Log_Put_pi sounderref06_Log_Put_c5 (nQ fun l H => S (l.getD 0 undef) (l.getD 3 undef) (l.getD 7 undef) H) ((List.range 38).map x) H = sounderref06_Log_Put_g28 S (x 0) (x 3) H := by kernel_rfl
def sounderref06_Log_Put_g29 (S : Value → Heap → Prop) (H : Heap) : Prop :=
  S (.int .i64 2) H
theorem sounderref06_Log_Put_g29_e (S : Value → Heap → Prop) (x : Nat → Value) (H : Heap) : wpE tab P sounderref06_Log_Put_pi sounderref06_Log_Put_c8 (nQ fun l H => S (l.getD 4 undef) H) ((List.range 38).map x) H = sounderref06_Log_Put_g29 S  H := by kernel_rfl
def sounderref06_Log_Put_g30 (S : Value → Value → Value → Heap → Prop) (x0 x3 : Value) (H : Heap) : Prop :=
  bnd (faV 0 x3) fun v8 =>
  bnd (ldE false 1 v8 H) fun v9 =>
  bnd (nilV x0) fun v11 =>
  bnd (faV 1 v11) fun v12 =>
  bnd (ldE false 1 v12 H) fun v13 =>
  bnd (binV .int .leq v9 v13) fun v14 =>
  S x0 x3 v14 H
theorem sounderref06_Log_Put_g30_e (S : Value → Value → Value → Heap → Prop) (x : Nat → Value) (H : Heap) : wpE tab P sounderref06_Log_Put_pi sounderref06_Log_Put_c11 (nQ fun l H => S (l.getD 0 undef) (l.getD 3 undef) (l.getD 14 undef) H) ((List.range 38).map x) H = sounderref06_Log_Put_g30 S (x 0) (x 3) H := by kernel_rfl
def sounderref06_Log_Put_g31 (S : Value → Heap → Prop) (H : Heap) : Prop :=
  S (.int .i64 60) H
theorem sounderref06_Log_Put_g31_e (S : Value → Heap → Prop) (x : Nat → Value) (H : Heap) : wpE tab P sounderref06_Log_Put_pi sounderref06_Log_Put_c14 (nQ fun l H => S (l.getD 4 undef) H) ((List.range 38).map x) H = sounderref06_Log_Put_g31 S  H := by kernel_rfl
def sounderref06_Log_Put_g32 (S : Value → Value → Value → Heap → Prop) (x0 x3 : Value) (H : Heap) : Prop :=
  bnd (nilV x0) fun v16 =>
  bnd (faV 2 v16) fun v17 =>
  bnd (ldE false 1 v17 H) fun v18 =>
  bnd (lenV v18) fun v19 =>
  bnd (nilV x0) fun v21 =>
  bnd (faV 0 v21) fun v22 =>
  bnd (ldE false 1 v22 H) fun v23 =>
  bnd (binV .int .eql v19 v23) fun v24 =>
  S x0 x3 v24 H
theorem sounderref06_Log_Put_g32_e (S : Value → Value → Value → Heap → Prop) (x : Nat → Value) (H : Heap) : wpE tab P sounderref06_Log_Put_pi sounderref06_Log_Put_c17 (nQ fun l H => S (l.getD 0 undef) (l.getD 3 undef) (l.getD 24 undef) H) ((List.range 38).map x) H = sounderref06_Log_Put_g32 S (x 0) (x 3) H := by kernel_rfl
def sounderref06_Log_Put_g33 (S : Value → Heap → Prop) (H : Heap) : Prop :=
  S (.int .i64 5) H
theorem sounderref06_Log_Put_g33_e (S : Value → Heap → Prop) (x : Nat → Value) (H : Heap) : wpE tab P sounderref06_Log_Put_pi sounderref06_Log_Put_c20 (nQ fun l H => S (l.getD 4 undef) H) ((List.range 38).map x) H = sounderref06_Log_Put_g33 S  H := by kernel_rfl
def sounderref06_Log_Put_g34 (S : Value → Value → Heap → Prop) (x0 x3 : Value) (H : Heap) : Prop :=
  bnd (faV 0 x3) fun v26 =>
  bnd (ldE false 1 v26 H) fun v27 =>
  bnd (nilV x0) fun v28 =>
  bnd (faV 1 v28) fun v29 =>
  bnd (stE 1 v29 v27 H) fun H1 =>
  S x0 x3 H1
theorem sounderref06_Log_Put_g34_e (S : Value → Value → Heap → Prop) (x : Nat → Value) (H : Heap) : wpE tab P sounderref06_Log_Put_pi sounderref06_Log_Put_c22 (nQ fun l H => S (l.getD 0 undef) (l.getD 3 undef) H) ((List.range 38).map x) H = sounderref06_Log_Put_g34 S (x 0) (x 3) H := by kernel_rfl
def sounderref06_Log_Put_g35 (S : Heap → Prop) (x0 x3 : Value) (H : Heap) : Prop :=
  bnd (ldE true 6 x3 H) fun v33 =>
  ((EvF P N.sounderref06_Log_All #[x0] H fun v32 H1 =>
  ((bnd (ldE true 6 x3 H1) fun v' => v' = v33) ∧
  bslE 30 #[(.int .i64 0), (.int .i64 0), (.int .i64 0), (.bool false), (.bool false), (.bool false)] 6 1 [(0, v33)] H1 fun v34 H2 =>
  appE 30 #[(.int .i64 0), (.int .i64 0), (.int .i64 0), (.bool false), (.bool false), (.bool false)] 6 32 v32 v34 H2 fun v35 H3 =>
  bnd (nilV x0) fun v36 =>
  bnd (faV 2 v36) fun v37 =>
  bnd (stE 1 v37 v35 H3) fun H4 =>
  S H4)) ∧
  (bslE 30 #[(.int .i64 0), (.int .i64 0), (.int .i64 0), (.bool false), (.bool false), (.bool false)] 6 1 [(0, v33)] H fun v34_2 H5 =>
  EvF P N.sounderref06_Log_All #[x0] H5 fun v32_2 H6 =>
  appE 30 #[(.int .i64 0), (.int .i64 0), (.int .i64 0), (.bool false), (.bool false), (.bool false)] 6 32 v32_2 v34_2 H6 fun v35_2 H7 =>
  bnd (nilV x0) fun v36_2 =>
  bnd (faV 2 v36_2) fun v37_2 =>
  bnd (stE 1 v37_2 v35_2 H7) fun H8 =>
  S H8))
theorem sounderref06_Log_Put_g35_e (S : Heap → Prop) (x : Nat → Value) (H : Heap) : wpE tab P sounderref06_Log_Put_pi sounderref06_Log_Put_c24 (nQ fun _ H => S  H) ((List.range 38).map x) H = sounderref06_Log_Put_g35 S (x 0) (x 3) H := by kernel_rfl
def sounderref06_Log_Put_g36 (S : Value → Heap → Prop) (H : Heap) : Prop :=
  S (.int .i64 0) H
theorem sounderref06_Log_Put_g36_e (S : Value → Heap → Prop) (x : Nat → Value) (H : Heap) : wpE tab P sounderref06_Log_Put_pi sounderref06_Log_Put_c26 (nQ fun l H => S (l.getD 4 undef) H) ((List.range 38).map x) H = sounderref06_Log_Put_g36 S  H := by kernel_rfl
def sounderref06_Log_Put (x0 x1 : Value) (R : Value → Heap → Prop) (H : Heap) : Prop :=
  sounderref06_Log_Put_g27 (fun x0 x3 H => sounderref06_Log_Put_g28 (fun x0 x3 x7 H => brV x7
  (sounderref06_Log_Put_g29 (fun x4 H => R x4 H) H)
  (sounderref06_Log_Put_g30 (fun x0 x3 x14 H => brV x14
  (sounderref06_Log_Put_g31 (fun x4 H => R x4 H) H)
  (sounderref06_Log_Put_g32 (fun x0 x3 x24 H => brV x24
  (sounderref06_Log_Put_g33 (fun x4 H => R x4 H) H)
  (sounderref06_Log_Put_g34 (fun x0 x3 H => sounderref06_Log_Put_g35 (fun H => sounderref06_Log_Put_g36 (fun x4 H => R x4 H) H) x0 x3 H) x0 x3 H)) x0 x3 H)) x0 x3 H)) x0 x3 H) x0 x1 H
theorem sounderref06_Log_Put_i (R : Value → Heap → Prop) (x0 x1 : Value) (H : Heap) (h : sounderref06_Log_Put x0 x1 R H) : wpE tab P sounderref06_Log_Put_pi sounderref06_Log_Put_c1 (retQ tab sounderref06_Log_Put_rs R) [x0, x1, undef, undef, undef, undef, undef, undef, undef, undef, undef, undef, undef, undef, undef, undef, undef, undef, undef, undef, undef, undef, undef, undef, undef, undef, undef, undef, undef, undef, undef, undef, undef, undef, undef, undef, undef, undef] H := by
  obtain ⟨l, hl, el⟩ : ∃ l : List Value, l.length = 38 ∧ l = [x0, x1, undef, undef, undef, undef, undef, undef, undef, undef, undef, undef, undef, undef, undef, undef, undef, undef, undef, undef, undef, undef, undef, undef, undef, undef, undef, undef, undef, undef, undef, undef, undef, undef, undef, undef, undef, undef] := ⟨_, rfl, rfl⟩
  rw [← el]
  have h : (fun (x0 x1 : Value) => sounderref06_Log_Put_g27 (fun x0 x3 H => sounderref06_Log_Put_g28 (fun x0 x3 x7 H => brV x7
(sounderref06_Log_Put_g29 (fun x4 H => R x4 H) H)
(sounderref06_Log_Put_g30 (fun x0 x3 x14 H => brV x14
(sounderref06_Log_Put_g31 (fun x4 H => R x4 H) H)
(sounderref06_Log_Put_g32 (fun x0 x3 x24 H => brV x24
(sounderref06_Log_Put_g33 (fun x4 H => R x4 H) H)
(sounderref06_Log_Put_g34 (fun x0 x3 H => sounderref06_Log_Put_g35 (fun H => sounderref06_Log_Put_g36 (fun x4 H => R x4 H) H) x0 x3 H) x0 x3 H)) x0 x3 H)) x0 x3 H)) x0 x3 H) x0 x1 H) (l.getD 0 undef) (l.getD 1 undef) := by rw [el]; exact h
  clear el
  refine seqI (c := sounderref06_Log_Put_c1) rfl ?_
  refine regI hl (Eq.mpr (sounderref06_Log_Put_g27_e _ (fun i => l.getD i undef) _) h) ?_
  clear h hl
  intro l H hl h
  refine thenN ?_
  refine seqI (c := sounderref06_Log_Put_c3) rfl ?_
  refine seqI (c := sounderref06_Log_Put_c4) rfl ?_
  refine regI hl (Eq.mpr (sounderref06_Log_Put_g28_e _ (fun i => l.getD i undef) _) h) ?_
  clear h hl
  intro l H hl h
  refine thenN ?_
  refine condI (c := sounderref06_Log_Put_c6) rfl h ?_ ?_
  · clear h; intro h
    refine seqI (c := sounderref06_Log_Put_c7) rfl ?_
    refine regI hl (Eq.mpr (sounderref06_Log_Put_g29_e _ (fun i => l.getD i undef) _) h) ?_
    clear h hl
    intro l H hl h
    refine thenN ?_
    refine retI rfl ?_
    refine thenR ?_
    exact h
  · clear h; intro h
    refine skipI rfl ?_
    refine thenN ?_
    refine seqI (c := sounderref06_Log_Put_c9) rfl ?_
    refine seqI (c := sounderref06_Log_Put_c10) rfl ?_
    refine regI hl (Eq.mpr (sounderref06_Log_Put_g30_e _ (fun i => l.getD i undef) _) h) ?_
    clear h hl
    intro l H hl h
    refine thenN ?_
    refine condI (c := sounderref06_Log_Put_c12) rfl h ?_ ?_
    · clear h; intro h
      refine seqI (c := sounderref06_Log_Put_c13) rfl ?_
      refine regI hl (Eq.mpr (sounderref06_Log_Put_g31_e _ (fun i => l.getD i undef) _) h) ?_
      clear h hl
      intro l H hl h
      refine thenN ?_
      refine retI rfl ?_
      refine thenR ?_
      exact h
    · clear h; intro h
      refine skipI rfl ?_
      refine thenN ?_
      refine seqI (c := sounderref06_Log_Put_c15) rfl ?_
      refine seqI (c := sounderref06_Log_Put_c16) rfl ?_
      refine regI hl (Eq.mpr (sounderref06_Log_Put_g32_e _ (fun i => l.getD i undef) _) h) ?_
      clear h hl
      intro l H hl h
      refine thenN ?_
      refine condI (c := sounderref06_Log_Put_c18) rfl h ?_ ?_
      · clear h; intro h
        refine seqI (c := sounderref06_Log_Put_c19) rfl ?_
        refine regI hl (Eq.mpr (sounderref06_Log_Put_g33_e _ (fun i => l.getD i undef) _) h) ?_
        clear h hl
        intro l H hl h
        refine thenN ?_
        refine retI rfl ?_
        refine thenR ?_
        exact h
      · clear h; intro h
        refine skipI rfl ?_
        refine thenN ?_
        refine seqI (c := sounderref06_Log_Put_c21) rfl ?_
        refine regI hl (Eq.mpr (sounderref06_Log_Put_g34_e _ (fun i => l.getD i undef) _) h) ?_
        clear h hl
        intro l H hl h
        refine thenN ?_
        refine seqI (c := sounderref06_Log_Put_c23) rfl ?_
        refine regI hl (Eq.mpr (sounderref06_Log_Put_g35_e _ (fun i => l.getD i undef) _) h) ?_
        clear h hl
        intro l H hl h
        refine thenN ?_
        refine seqI (c := sounderref06_Log_Put_c25) rfl ?_
        refine regI hl (Eq.mpr (sounderref06_Log_Put_g36_e _ (fun i => l.getD i undef) _) h) ?_
        clear h hl
        intro l H hl h
        refine thenN ?_
        refine retI rfl ?_
        exact h
theorem sounderref06_Log_Put_ok : okB sounderref06_Log_Put_pi sounderref06_Log_Put_c1 = true := by kernel_rfl
theorem sounderref06_Log_Put_ev (x0 x1 : Value) (R : Value → Heap → Prop) (H : Heap) (h : sounderref06_Log_Put x0 x1 R H) : EvF P N.sounderref06_Log_Put #[x0, x1] H R :=
  EvF_intro (args := [x0, x1]) (k := 36) (rs := sounderref06_Log_Put_rs) tab_ok mixed Try.func25 (show Try.f25.body = some sounderref06_Log_Put_c1 by kernel_rfl) Try.call25 Try.ntmps25 (by kernel_rfl) (okCode_of _ sounderref06_Log_Put_ok) rfl (sounderref06_Log_Put_i R x0 x1 H h)
/- 26: (*sounder/sounderref06.Log).Drop -/
def sounderref06_Log_Drop_rs : List ResultVar := [.cell 4 30, .tmp 5]
noncomputable def sounderref06_Log_Drop_c2 : Code := subC (bodyC Try.f26) [0]
noncomputable def sounderref06_Log_Drop_c4 : Code := subC (bodyC Try.f26) [1, 0]
noncomputable def sounderref06_Log_Drop_c6 : Code := subC (bodyC Try.f26) [1, 1, 0]
noncomputable def sounderref06_Log_Drop_c9 : Code := subC (bodyC Try.f26) [1, 1, 1, 0, 0]
noncomputable def sounderref06_Log_Drop_c14 : Code := subC (bodyC Try.f26) [1, 1, 1, 0, 1, 0, 0, 0, 0]
noncomputable def sounderref06_Log_Drop_c16 : Code := .exit 0
noncomputable def sounderref06_Log_Drop_c15 : Code := .cond (.tmp 22) Code.skip sounderref06_Log_Drop_c16
noncomputable def sounderref06_Log_Drop_c13 : Code := .seq sounderref06_Log_Drop_c14 sounderref06_Log_Drop_c15
noncomputable def sounderref06_Log_Drop_c20 : Code := subC (bodyC Try.f26) [1, 1, 1, 0, 1, 0, 0, 1, 0, 0, 0]
noncomputable def sounderref06_Log_Drop_c22 : Code := subC (bodyC Try.f26) [1, 1, 1, 0, 1, 0, 0, 1, 0, 0, 1, 0]
noncomputable def sounderref06_Log_Drop_c21 : Code := .cond (.tmp 34) sounderref06_Log_Drop_c22 Code.skip
noncomputable def sounderref06_Log_Drop_c19 : Code := .seq sounderref06_Log_Drop_c20 sounderref06_Log_Drop_c21
noncomputable def sounderref06_Log_Drop_c18 : Code := .block 1 sounderref06_Log_Drop_c19
noncomputable def sounderref06_Log_Drop_c23 : Code := subC (bodyC Try.f26) [1, 1, 1, 0, 1, 0, 0, 1, 1]
noncomputable def sounderref06_Log_Drop_c17 : Code := .seq sounderref06_Log_Drop_c18 sounderref06_Log_Drop_c23
noncomputable def sounderref06_Log_Drop_c12 : Code := .seq sounderref06_Log_Drop_c13 sounderref06_Log_Drop_c17
noncomputable def sounderref06_Log_Drop_c11 : Code := .loop sounderref06_Log_Drop_c12
noncomputable def sounderref06_Log_Drop_c10 : Code := .block 0 sounderref06_Log_Drop_c11
noncomputable def sounderref06_Log_Drop_c8 : Code := .seq sounderref06_Log_Drop_c9 sounderref06_Log_Drop_c10
noncomputable def sounderref06_Log_Drop_c25 : Code := subC (bodyC Try.f26) [1, 1, 1, 1, 0]
noncomputable def sounderref06_Log_Drop_c27 : Code := subC (bodyC Try.f26) [1, 1, 1, 1, 1, 0]
noncomputable def sounderref06_Log_Drop_c26 : Code := .seq sounderref06_Log_Drop_c27 Code.ret
noncomputable def sounderref06_Log_Drop_c24 : Code := .seq sounderref06_Log_Drop_c25 sounderref06_Log_Drop_c26
noncomputable def sounderref06_Log_Drop_c7 : Code := .seq sounderref06_Log_Drop_c8 sounderref06_Log_Drop_c24
noncomputable def sounderref06_Log_Drop_c5 : Code := .seq sounderref06_Log_Drop_c6 sounderref06_Log_Drop_c7
noncomputable def sounderref06_Log_Drop_c3 : Code := .seq sounderref06_Log_Drop_c4 sounderref06_Log_Drop_c5
noncomputable def sounderref06_Log_Drop_c1 : Code := .seq sounderref06_Log_Drop_c2 sounderref06_Log_Drop_c3
def sounderref06_Log_Drop_pi (_ : Nat) : Pl := .nil
def sounderref06_Log_Drop_g28 (S : Value → Value → Value → Heap → Prop) (x0 x1 : Value) (H : Heap) : Prop :=
  newE 30 #[(.int .i64 0), (.int .i64 0), (.int .i64 0), (.bool false), (.bool false), (.bool false)] H fun v4 H1 =>
  S x0 x1 v4 H1
theorem sounderref06_Log_Drop_g28_e (S : Value → Value → Value → Heap → Prop) (x : Nat → Value) (H : Heap) : wpE tab P sounderref06_Log_Drop_pi sounderref06_Log_Drop_c2 (nQ fun l H => S (l.getD 0 undef) (l.getD 1 undef) (l.getD 4 undef) H) ((List.range 51).map x) H = sounderref06_Log_Drop_g28 S (x 0) (x 1) H := by kernel_rfl
def sounderref06_Log_Drop_g29 (S : Value → Value → Value → Value → Value → Heap → Prop) (x0 x1 x4 : Value) (H : Heap) : Prop :=
  EvF P N.sounderref06_Log_Get #[x0, x1] H fun v13 H1 =>
  bnd (exV 0 v13) fun v14 =>
  bnd (exV 1 v13) fun v15 =>
  newE 30 #[(.int .i64 0), (.int .i64 0), (.int .i64 0), (.bool false), (.bool false), (.bool false)] H1 fun v6 H2 =>
  bnd (stE 6 v6 v14 H2) fun H3 =>
  S x0 x1 x4 v6 v15 H3
theorem sounderref06_Log_Drop_g29_e (S : Value → Value → Value → Value → Value → Heap → Prop) (x : Nat → Value) (H : Heap) : wpE tab P sounderref06_Log_Drop_pi sounderref06_Log_Drop_c4 (nQ fun l H => S (l.getD 0 undef) (l.getD 1 undef) (l.getD 4 undef) (l.getD 6 undef) (l.getD 7 undef) H) ((List.range 51).map x) H = sounderref06_Log_Drop_g29 S (x 0) (x 1) (x 4) H := by kernel_rfl
def sounderref06_Log_Drop_g30 (S : Value → Value → Value → Value → Value → Value → Heap → Prop) (x0 x1 x4 x6 x7 : Value) (H : Heap) : Prop :=
  S x0 x1 x4 x6 x7 (.slice none 0 0) H
theorem sounderref06_Log_Drop_g30_e (S : Value → Value → Value → Value → Value → Value → Heap → Prop) (x : Nat → Value) (H : Heap) : wpE tab P sounderref06_Log_Drop_pi sounderref06_Log_Drop_c6 (nQ fun l H => S (l.getD 0 undef) (l.getD 1 undef) (l.getD 4 undef) (l.getD 6 undef) (l.getD 7 undef) (l.getD 8 undef) H) ((List.range 51).map x) H = sounderref06_Log_Drop_g30 S (x 0) (x 1) (x 4) (x 6) (x 7) H := by kernel_rfl
def sounderref06_Log_Drop_g31 (S : Value → Value → Value → Value → Value → Value → Value → Heap → Prop) (x0 x1 x4 x6 x7 x8 : Value) (H : Heap) : Prop :=
  S x0 x1 x4 x6 x7 x8 (.int .i64 0) H
theorem sounderref06_Log_Drop_g31_e (S : Value → Value → Value → Value → Value → Value → Value → Heap → Prop) (x : Nat → Value) (H : Heap) : wpE tab P sounderref06_Log_Drop_pi sounderref06_Log_Drop_c9 (nQ fun l H => S (l.getD 0 undef) (l.getD 1 undef) (l.getD 4 undef) (l.getD 6 undef) (l.getD 7 undef) (l.getD 8 undef) (l.getD 9 undef) H) ((List.range 51).map x) H = sounderref06_Log_Drop_g31 S (x 0) (x 1) (x 4) (x 6) (x 7) (x 8) H := by kernel_rfl
def sounderref06_Log_Drop_g33 (S : Value → Value → Value → Value → Value → Value → Value → Value → Heap → Prop) (x0 x1 x4 x6 x7 x8 x9 : Value) (H : Heap) : Prop :=
  bnd (nilV x0) fun v18 =>
  bnd (faV 2 v18) fun v19 =>
  bnd (ldE false 1 v19 H) fun v20 =>
  bnd (lenV v20) fun v21 =>
  bnd (binV .int .lss x9 v21) fun v22 =>
  S x0 x1 x4 x6 x7 x8 x9 v22 H
theorem sounderref06_Log_Drop_g33_e (S : Value → Value → Value → Value → Value → Value → Value → Value → Heap → Prop) (x : Nat → Value) (H : Heap) : wpE tab P sounderref06_Log_Drop_pi sounderref06_Log_Drop_c14 (nQ fun l H => S (l.getD 0 undef) (l.getD 1 undef) (l.getD 4 undef) (l.getD 6 undef) (l.getD 7 undef) (l.getD 8 undef) (l.getD 9 undef) (l.getD 22 undef) H) ((List.range 51).map x) H = sounderref06_Log_Drop_g33 S (x 0) (x 1) (x 4) (x 6) (x 7) (x 8) (x 9) H := by kernel_rfl
def sounderref06_Log_Drop_g35 (S : Value → Value → Value → Value → Value → Value → Value → Heap → Prop) (x0 x1 x4 x6 x7 x8 x9 : Value) (H : Heap) : Prop :=
  bnd (binV .int .add x9 (.int .i64 1)) fun v24 =>
  S x0 x1 x4 x6 x7 x8 v24 H
theorem sounderref06_Log_Drop_g35_e (S : Value → Value → Value → Value → Value → Value → Value → Heap → Prop) (x : Nat → Value) (H : Heap) : wpE tab P sounderref06_Log_Drop_pi sounderref06_Log_Drop_c23 (nQ fun l H => S (l.getD 0 undef) (l.getD 1 undef) (l.getD 4 undef) (l.getD 6 undef) (l.getD 7 undef) (l.getD 8 undef) (l.getD 9 undef) H) ((List.range 51).map x) H = sounderref06_Log_Drop_g35 S (x 0) (x 1) (x 4) (x 6) (x 7) (x 8) (x 9) H := by kernel_rfl
def sounderref06_Log_Drop_s34 (x0 x1 x4 x6 x7 x8 x9 : Value) (K1 : Value → Value → Value → Value → Value → Value → Value →  Heap → Prop) (_R : Value → Heap → Prop) (H : Heap) : Prop :=
  sounderref06_Log_Drop_g35 (fun x0 x1 x4 x6 x7 x8 x9 H => K1 x0 x1 x4 x6 x7 x8 x9 H) x0 x1 x4 x6 x7 x8 x9 H
noncomputable def sounderref06_Log_Drop_q36 (R : Value → Heap → Prop) : Exit → List Value → Heap → Prop := (retQ tab sounderref06_Log_Drop_rs R)
noncomputable def sounderref06_Log_Drop_q37 (R : Value → Heap → Prop) : Exit → List Value → Heap → Prop := (thenE (fun l H => wpE tab P sounderref06_Log_Drop_pi sounderref06_Log_Drop_c24 (sounderref06_Log_Drop_q36 R) l H) (sounderref06_Log_Drop_q36 R))
noncomputable def sounderref06_Log_Drop_q38 (R : Value → Heap → Prop) : Exit → List Value → Heap → Prop := (blkE 0 (sounderref06_Log_Drop_q37 R))
noncomputable def sounderref06_Log_Drop_q39 (K1 : Value → Value → Value → Value → Value → Value → Value →  Heap → Prop) (R : Value → Heap → Prop) : Exit → List Value → Heap → Prop := (thenE (fun l H => K1 (l.getD 0 undef) (l.getD 1 undef) (l.getD 4 undef) (l.getD 6 undef) (l.getD 7 undef) (l.getD 8 undef) (l.getD 9 undef) H) (sounderref06_Log_Drop_q38 R))
theorem sounderref06_Log_Drop_s34_i (K1 : Value → Value → Value → Value → Value → Value → Value →  Heap → Prop) (R : Value → Heap → Prop) (l : List Value) (H : Heap) (hl : l.length = 51) (h : sounderref06_Log_Drop_s34 (l.getD 0 undef) (l.getD 1 undef) (l.getD 4 undef) (l.getD 6 undef) (l.getD 7 undef) (l.getD 8 undef) (l.getD 9 undef) K1 R H) : wpE tab P sounderref06_Log_Drop_pi sounderref06_Log_Drop_c23 (sounderref06_Log_Drop_q39 K1 R) l H := by
  refine regI hl (Eq.mpr (sounderref06_Log_Drop_g35_e _ (fun i => l.getD i undef) _) h) ?_
  clear h hl
  intro l H hl h
  refine thenN ?_
  exact h
def sounderref06_Log_Drop_g40 (S : Value → Value → Value → Value → Value → Value → Value → Value → Heap → Prop) (x0 x1 x4 x6 x7 x8 x9 : Value) (H : Heap) : Prop :=
  bnd (nilV x0) fun v26 =>
  bnd (faV 2 v26) fun v27 =>
  bnd (ldE false 1 v27 H) fun v28 =>
  bnd (ixSV 6 v28 x9) fun v30 =>
  bnd (faV 0 v30) fun v31 =>
  bnd (ldE false 1 v31 H) fun v32 =>
  bnd (binV .int .neq v32 x1) fun v34 =>
  S x0 x1 x4 x6 x7 x8 x9 v34 H
theorem sounderref06_Log_Drop_g40_e (S : Value → Value → Value → Value → Value → Value → Value → Value → Heap → Prop) (x : Nat → Value) (H : Heap) : wpE tab P sounderref06_Log_Drop_pi sounderref06_Log_Drop_c20 (nQ fun l H => S (l.getD 0 undef) (l.getD 1 undef) (l.getD 4 undef) (l.getD 6 undef) (l.getD 7 undef) (l.getD 8 undef) (l.getD 9 undef) (l.getD 34 undef) H) ((List.range 51).map x) H = sounderref06_Log_Drop_g40 S (x 0) (x 1) (x 4) (x 6) (x 7) (x 8) (x 9) H := by kernel_rfl
def sounderref06_Log_Drop_g41 (S : Value → Value → Value → Value → Value → Value → Value → Heap → Prop) (x0 x1 x4 x6 x7 x8 x9 : Value) (H : Heap) : Prop :=
  bnd (nilV x0) fun v37 =>
  bnd (faV 2 v37) fun v38 =>
  bnd (ldE false 1 v38 H) fun v39 =>
  bnd (ixSV 6 v39 x9) fun v41 =>
  bnd (ldE true 6 v41 H) fun v42 =>
  bslE 30 #[(.int .i64 0), (.int .i64 0), (.int .i64 0), (.bool false), (.bool false), (.bool false)] 6 1 [(0, v42)] H fun v43 H1 =>
  appE 30 #[(.int .i64 0), (.int .i64 0), (.int .i64 0), (.bool false), (.bool false), (.bool false)] 6 32 x8 v43 H1 fun v44 H2 =>
  S x0 x1 x4 x6 x7 v44 x9 H2
theorem sounderref06_Log_Drop_g41_e (S : Value → Value → Value → Value → Value → Value → Value → Heap → Prop) (x : Nat → Value) (H : Heap) : wpE tab P sounderref06_Log_Drop_pi sounderref06_Log_Drop_c22 (nQ fun l H => S (l.getD 0 undef) (l.getD 1 undef) (l.getD 4 undef) (l.getD 6 undef) (l.getD 7 undef) (l.getD 8 undef) (l.getD 9 undef) H) ((List.range 51).map x) H = sounderref06_Log_Drop_g41 S (x 0) (x 1) (x 4) (x 6) (x 7) (x 8) (x 9) H := by kernel_rfl
def sounderref06_Log_Drop_g42 (S : Value → Value → Value → Heap → Prop) (x0 x4 x6 x7 x8 : Value) (H : Heap) : Prop :=
  bnd (nilV x0) fun v47 =>
  bnd (faV 2 v47) fun v48 =>
  bnd (stE 1 v48 x8 H) fun H1 =>
  S x4 x6 x7 H1
theorem sounderref06_Log_Drop_g42_e (S : Value → Value → Value → Heap → Prop) (x : Nat → Value) (H : Heap) : wpE tab P sounderref06_Log_Drop_pi sounderref06_Log_Drop_c25 (nQ fun l H => S (l.getD 4 undef) (l.getD 6 undef) (l.getD 7 undef) H) ((List.range 51).map x) H = sounderref06_Log_Drop_g42 S (x 0) (x 4) (x 6) (x 7) (x 8) H := by kernel_rfl
def sounderref06_Log_Drop_g43 (S : Value → Value → Heap → Prop) (x4 x6 x7 : Value) (H : Heap) : Prop :=
  bnd (ldE true 6 x6 H) fun v49 =>
  bnd (stE 6 x4 v49 H) fun H1 =>
  S x4 x7 H1
theorem sounderref06_Log_Drop_g43_e (S : Value → Value → Heap → Prop) (x : Nat → Value) (H : Heap) : wpE tab P sounderref06_Log_Drop_pi sounderref06_Log_Drop_c27 (nQ fun l H => S (l.getD 4 undef) (l.getD 5 undef) H) ((List.range 51).map x) H = sounderref06_Log_Drop_g43 S (x 4) (x 6) (x 7) H := by kernel_rfl
def sounderref06_Log_Drop_s32 (x0 x1 x4 x6 x7 x8 x9 : Value) (K1 : Value → Value → Value → Value → Value → Value → Value →  Heap → Prop) (R : Value → Heap → Prop) (H : Heap) : Prop :=
  sounderref06_Log_Drop_g33 (fun x0 x1 x4 x6 x7 x8 x9 x22 H => brV x22
  (sounderref06_Log_Drop_g40 (fun x0 x1 x4 x6 x7 x8 x9 x34 H => brV x34
  (sounderref06_Log_Drop_g41 (fun x0 x1 x4 x6 x7 x8 x9 H => sounderref06_Log_Drop_s34 x0 x1 x4 x6 x7 x8 x9 K1 R H) x0 x1 x4 x6 x7 x8 x9 H)
  (sounderref06_Log_Drop_s34 x0 x1 x4 x6 x7 x8 x9 K1 R H)) x0 x1 x4 x6 x7 x8 x9 H)
  (sounderref06_Log_Drop_g42 (fun x4 x6 x7 H => sounderref06_Log_Drop_g43 (fun x4 x5 H => bnd (ldE true 6 x4 H) fun r0 =>
  R (.tuple #[r0, x5]) H) x4 x6 x7 H) x0 x4 x6 x7 x8 H)) x0 x1 x4 x6 x7 x8 x9 H
theorem sounderref06_Log_Drop_s32_i (K1 : Value → Value → Value → Value → Value → Value → Value →  Heap → Prop) (R : Value → Heap → Prop) (l : List Value) (H : Heap) (hl : l.length = 51) (h : sounderref06_Log_Drop_s32 (l.getD 0 undef) (l.getD 1 undef) (l.getD 4 undef) (l.getD 6 undef) (l.getD 7 undef) (l.getD 8 undef) (l.getD 9 undef) K1 R H) : wpE tab P sounderref06_Log_Drop_pi sounderref06_Log_Drop_c12 (sounderref06_Log_Drop_q39 K1 R) l H := by
  refine seqI (c := sounderref06_Log_Drop_c12) rfl ?_
  refine seqI (c := sounderref06_Log_Drop_c13) rfl ?_
  refine regI hl (Eq.mpr (sounderref06_Log_Drop_g33_e _ (fun i => l.getD i undef) _) h) ?_
  clear h hl
  intro l H hl h
  refine thenN ?_
  refine condI (c := sounderref06_Log_Drop_c15) rfl h ?_ ?_
  · clear h; intro h
    refine skipI rfl ?_
    refine thenN ?_
    refine seqI (c := sounderref06_Log_Drop_c17) rfl ?_
    refine blockI (c := sounderref06_Log_Drop_c18) rfl ?_
    refine seqI (c := sounderref06_Log_Drop_c19) rfl ?_
    refine regI hl (Eq.mpr (sounderref06_Log_Drop_g40_e _ (fun i => l.getD i undef) _) h) ?_
    clear h hl
    intro l H hl h
    refine thenN ?_
    refine condI (c := sounderref06_Log_Drop_c21) rfl h ?_ ?_
    · clear h; intro h
      refine regI hl (Eq.mpr (sounderref06_Log_Drop_g41_e _ (fun i => l.getD i undef) _) h) ?_
      clear h hl
      intro l H hl h
      refine blkN ?_
      refine thenN ?_
      exact sounderref06_Log_Drop_s34_i K1 R l H hl h
    · clear h; intro h
      refine skipI rfl ?_
      refine blkN ?_
      refine thenN ?_
      exact sounderref06_Log_Drop_s34_i K1 R l H hl h
  · clear h; intro h
    refine exitI (c := sounderref06_Log_Drop_c16) rfl ?_
    refine thenX ?_
    refine thenX ?_
    refine blkX ?_
    refine thenN ?_
    refine seqI (c := sounderref06_Log_Drop_c24) rfl ?_
    refine regI hl (Eq.mpr (sounderref06_Log_Drop_g42_e _ (fun i => l.getD i undef) _) h) ?_
    clear h hl
    intro l H hl h
    refine thenN ?_
    refine seqI (c := sounderref06_Log_Drop_c26) rfl ?_
    refine regI hl (Eq.mpr (sounderref06_Log_Drop_g43_e _ (fun i => l.getD i undef) _) h) ?_
    clear h hl
    intro l H hl h
    refine thenN ?_
    refine retI rfl ?_
    exact h
def sounderref06_Log_Drop_l44 (x0 x1 x4 x6 x7 x8 x9 : Value) (R : Value → Heap → Prop) (H : Heap) : Prop :=
  ∃ (I : Value → Value → Heap → Prop) (μ : Value → Value → Heap → Nat), I x8 x9 H ∧ ∀ (y8 : Value) (y9 : Value) (H : Heap), I y8 y9 H → sounderref06_Log_Drop_s32 x0 x1 x4 x6 x7 y8 y9 (fun z0 z1 z4 z6 z7 z8 z9 H' => z0 = x0 ∧ z1 = x1 ∧ z4 = x4 ∧ z6 = x6 ∧ z7 = x7 ∧ (I z8 z9 H' ∧ μ z8 z9 H' < μ y8 y9 H)) R H
def sounderref06_Log_Drop (x0 x1 : Value) (R : Value → Heap → Prop) (H : Heap) : Prop :=
  sounderref06_Log_Drop_g28 (fun x0 x1 x4 H => sounderref06_Log_Drop_g29 (fun x0 x1 x4 x6 x7 H => sounderref06_Log_Drop_g30 (fun x0 x1 x4 x6 x7 x8 H => sounderref06_Log_Drop_g31 (fun x0 x1 x4 x6 x7 x8 x9 H => sounderref06_Log_Drop_l44 x0 x1 x4 x6 x7 x8 x9 R H) x0 x1 x4 x6 x7 x8 H) x0 x1 x4 x6 x7 H) x0 x1 x4 H) x0 x1 H
theorem sounderref06_Log_Drop_i (R : Value → Heap → Prop) (x0 x1 : Value) (H : Heap) (h : sounderref06_Log_Drop x0 x1 R H) : wpE tab P sounderref06_Log_Drop_pi sounderref06_Log_Drop_c1 (retQ tab sounderref06_Log_Drop_rs R) [x0, x1, undef, undef, undef, undef, undef, undef, undef, undef, undef, undef, undef, undef, undef, undef, undef, undef, undef, undef, undef, undef, undef, undef, undef, undef, undef, undef, undef, undef, undef, undef, undef, undef, undef, undef, undef, undef, undef, undef, undef, undef, undef, undef, undef, undef, undef, undef, undef, undef, undef] H := by
  obtain ⟨l, hl, el⟩ : ∃ l : List Value, l.length = 51 ∧ l = [x0, x1, undef, undef, undef, undef, undef, undef, undef, undef, undef, undef, undef, undef, undef, undef, undef, undef, undef, undef, undef, undef, undef, undef, undef, undef, undef, undef, undef, undef, undef, undef, undef, undef, undef, undef, undef, undef, undef, undef, undef, undef, undef, undef, undef, undef, undef, undef, undef, undef, undef] := ⟨_, rfl, rfl⟩
  rw [← el]
  have h : (fun (x0 x1 : Value) => sounderref06_Log_Drop_g28 (fun x0 x1 x4 H => sounderref06_Log_Drop_g29 (fun x0 x1 x4 x6 x7 H => sounderref06_Log_Drop_g30 (fun x0 x1 x4 x6 x7 x8 H => sounderref06_Log_Drop_g31 (fun x0 x1 x4 x6 x7 x8 x9 H => sounderref06_Log_Drop_l44 x0 x1 x4 x6 x7 x8 x9 R H) x0 x1 x4 x6 x7 x8 H) x0 x1 x4 x6 x7 H) x0 x1 x4 H) x0 x1 H) (l.getD 0 undef) (l.getD 1 undef) := by rw [el]; exact h
  clear el
  refine seqI (c := sounderref06_Log_Drop_c1) rfl ?_
  refine regI hl (Eq.mpr (sounderref06_Log_Drop_g28_e _ (fun i => l.getD i undef) _) h) ?_
  clear h hl
  intro l H hl h
  refine thenN ?_
  refine seqI (c := sounderref06_Log_Drop_c3) rfl ?_
  refine regI hl (Eq.mpr (sounderref06_Log_Drop_g29_e _ (fun i => l.getD i undef) _) h) ?_
  clear h hl
  intro l H hl h
  refine thenN ?_
  refine seqI (c := sounderref06_Log_Drop_c5) rfl ?_
  refine regI hl (Eq.mpr (sounderref06_Log_Drop_g30_e _ (fun i => l.getD i undef) _) h) ?_
  clear h hl
  intro l H hl h
  refine thenN ?_
  refine seqI (c := sounderref06_Log_Drop_c7) rfl ?_
  refine seqI (c := sounderref06_Log_Drop_c8) rfl ?_
  refine regI hl (Eq.mpr (sounderref06_Log_Drop_g31_e _ (fun i => l.getD i undef) _) h) ?_
  clear h hl
  intro l H hl h
  refine thenN ?_
  refine blockI (c := sounderref06_Log_Drop_c10) rfl ?_
  obtain ⟨I, μ, h0, hr⟩ := h
  refine loopI (c := sounderref06_Log_Drop_c11) rfl (fun l' H' => l'.getD 0 undef = l.getD 0 undef ∧ l'.getD 1 undef = l.getD 1 undef ∧ l'.getD 4 undef = l.getD 4 undef ∧ l'.getD 6 undef = l.getD 6 undef ∧ l'.getD 7 undef = l.getD 7 undef ∧ I (l'.getD 8 undef) (l'.getD 9 undef) H') (fun l' H' => μ (l'.getD 8 undef) (l'.getD 9 undef) H') hl ⟨rfl, rfl, rfl, rfl, rfl, h0⟩ ?_
  rintro l1 H1 hl1 ⟨e0, e1, e4, e6, e7, hI⟩
  have hb := hr (l1.getD 8 undef) (l1.getD 9 undef) H1 hI
  rw [← e0, ← e1, ← e4, ← e6, ← e7] at hb
  refine wpE_mono _ l1 H1 hl1 ?_ (sounderref06_Log_Drop_s32_i _ R l1 H1 hl1 hb)
  intro e l2 H2 hl2 hq
  cases e with
  | normal => exact fun _ => (by obtain ⟨d0, d1, d4, d6, d7, g1, g2⟩ := hq; exact ⟨⟨d0.trans e0, d1.trans e1, d4.trans e4, d6.trans e6, d7.trans e7, g1⟩, g2⟩)
  | _ => exact hq
theorem sounderref06_Log_Drop_ok : okB sounderref06_Log_Drop_pi sounderref06_Log_Drop_c1 = true := by kernel_rfl
theorem sounderref06_Log_Drop_ev (x0 x1 : Value) (R : Value → Heap → Prop) (H : Heap) (h : sounderref06_Log_Drop x0 x1 R H) : EvF P N.sounderref06_Log_Drop #[x0, x1] H R :=
  EvF_intro (args := [x0, x1]) (k := 49) (rs := sounderref06_Log_Drop_rs) tab_ok mixed Try.func26 (show Try.f26.body = some sounderref06_Log_Drop_c1 by kernel_rfl) Try.call26 Try.ntmps26 (by kernel_rfl) (okCode_of _ sounderref06_Log_Drop_ok) rfl (sounderref06_Log_Drop_i R x0 x1 H h)
/- 27: (*sounder/sounderref06.Log).Copy -/
def sounderref06_Log_Copy_rs : List ResultVar := [.tmp 2]
noncomputable def sounderref06_Log_Copy_c2 : Code := subC (bodyC Try.f27) [0]
noncomputable def sounderref06_Log_Copy_c4 : Code := subC (bodyC Try.f27) [1, 0]
noncomputable def sounderref06_Log_Copy_c3 : Code := .seq sounderref06_Log_Copy_c4 Code.ret
noncomputable def sounderref06_Log_Copy_c1 : Code := .seq sounderref06_Log_Copy_c2 sounderref06_Log_Copy_c3
def sounderref06_Log_Copy_pi (i : Nat) : Pl := match i with
  | 1 => (ones [0, 1, 2, 3, 4, 5, 6, 7, 8, 9, 10, 11, 12] .nil)
  | _ => .nil
def sounderref06_Log_Copy_g5 (S : Value → Heap → Prop) (x0 : Value) (H : Heap) : Prop :=
  S x0 H
theorem sounderref06_Log_Copy_g5_e (S : Value → Heap → Prop) (x : Nat → Value) (H : Heap) : wpE tab P sounderref06_Log_Copy_pi sounderref06_Log_Copy_c2 (nQ fun l H => S (l.getD 0 undef) H) ((List.range 15).map x) H = sounderref06_Log_Copy_g5 S (x 0) H := by kernel_rfl
def sounderref06_Log_Copy_g6 (S : Value → Heap → Prop) (x0 : Value) (H : Heap) : Prop :=
  bnd (nilV x0) fun v4 =>
  bnd (faV 0 v4) fun v5 =>
  bnd (ldE false 1 v5 H) fun v6 =>
  bnd (nilV x0) fun v8 =>
  bnd (faV 1 v8) fun v9 =>
  bnd (ldE false 1 v9 H) fun v10 =>
  EvF P N.sounderref06_Log_All #[x0] H fun v12 H1 =>
  ((bnd (ldE false 1 v9 H1) fun v' => v' = v10) ∧
  ((bnd (ldE false 1 v5 H1) fun v' => v' = v6) ∧
  bnd (buildV #[(.int .i64 0), (.int .i64 0), (.slice none 0 0)] (places [(0, 1), (1, 1), (2, 1)]) [(0, v6), (1, v10), (2, v12)]) fun v13 =>
  newE 73 (Value.cells v13) H1 fun v14 H2 =>
  ((bnd (ldE false 1 v9 H2) fun v' => v' = v10) ∧
  ((bnd (ldE false 1 v5 H2) fun v' => v' = v6) ∧
  S v14 H2))))
theorem sounderref06_Log_Copy_g6_e (S : Value → Heap → Prop) (x : Nat → Value) (H : Heap) : wpE tab P sounderref06_Log_Copy_pi sounderref06_Log_Copy_c4 (nQ fun l H => S (l.getD 2 undef) H) ((List.range 15).map x) H = sounderref06_Log_Copy_g6 S (x 0) H := by kernel_rfl
def sounderref06_Log_Copy (x0 : Value) (R : Value → Heap → Prop) (H : Heap) : Prop :=
  sounderref06_Log_Copy_g5 (fun x0 H => sounderref06_Log_Copy_g6 (fun x2 H => R x2 H) x0 H) x0 H
theorem sounderref06_Log_Copy_i (R : Value → Heap → Prop) (x0 : Value) (H : Heap) (h : sounderref06_Log_Copy x0 R H) : wpE tab P sounderref06_Log_Copy_pi sounderref06_Log_Copy_c1 (retQ tab sounderref06_Log_Copy_rs R) [x0, undef, undef, undef, undef, undef, undef, undef, undef, undef, undef, undef, undef, undef, undef] H := by
  obtain ⟨l, hl, el⟩ : ∃ l : List Value, l.length = 15 ∧ l = [x0, undef, undef, undef, undef, undef, undef, undef, undef, undef, undef, undef, undef, undef, undef] := ⟨_, rfl, rfl⟩
  rw [← el]
  have h : (fun (x0 : Value) => sounderref06_Log_Copy_g5 (fun x0 H => sounderref06_Log_Copy_g6 (fun x2 H => R x2 H) x0 H) x0 H) (l.getD 0 undef) := by rw [el]; exact h
  clear el
  refine seqI (c := sounderref06_Log_Copy_c1) rfl ?_
  refine regI hl (Eq.mpr (sounderref06_Log_Copy_g5_e _ (fun i => l.getD i undef) _) h) ?_
  clear h hl
  intro l H hl h
  refine thenN ?_
  refine seqI (c := sounderref06_Log_Copy_c3) rfl ?_
  refine regI hl (Eq.mpr (sounderref06_Log_Copy_g6_e _ (fun i => l.getD i undef) _) h) ?_
  clear h hl
  intro l H hl h
  refine thenN ?_
  refine retI rfl ?_
  exact h
theorem sounderref06_Log_Copy_ok : okB sounderref06_Log_Copy_pi sounderref06_Log_Copy_c1 = true := by kernel_rfl
theorem sounderref06_Log_Copy_ev (x0 : Value) (R : Value → Heap → Prop) (H : Heap) (h : sounderref06_Log_Copy x0 R H) : EvF P N.sounderref06_Log_Copy #[x0] H R :=
  EvF_intro (args := [x0]) (k := 14) (rs := sounderref06_Log_Copy_rs) tab_ok mixed Try.func27 (show Try.f27.body = some sounderref06_Log_Copy_c1 by kernel_rfl) Try.call27 Try.ntmps27 (by kernel_rfl) (okCode_of _ sounderref06_Log_Copy_ok) rfl (sounderref06_Log_Copy_i R x0 H h)
/- 28: (*sounder/sent.Log).Copy -/
def sent_Log_Copy_rs : List ResultVar := [.tmp 2]
noncomputable def sent_Log_Copy_c2 : Code := subC (bodyC Try.f28) [0]
noncomputable def sent_Log_Copy_c5 : Code := subC (bodyC Try.f28) [1, 0, 0]
noncomputable def sent_Log_Copy_c8 : Code := subC (bodyC Try.f28) [1, 0, 1, 0, 0]
noncomputable def sent_Log_Copy_c7 : Code := .seq sent_Log_Copy_c8 Code.ret
noncomputable def sent_Log_Copy_c6 : Code := .cond (.tmp 5) sent_Log_Copy_c7 Code.skip
noncomputable def sent_Log_Copy_c4 : Code := .seq sent_Log_Copy_c5 sent_Log_Copy_c6
noncomputable def sent_Log_Copy_c10 : Code := subC (bodyC Try.f28) [1, 1, 0]
noncomputable def sent_Log_Copy_c12 : Code := subC (bodyC Try.f28) [1, 1, 1, 0]
noncomputable def sent_Log_Copy_c14 : Code := subC (bodyC Try.f28) [1, 1, 1, 1, 0]
noncomputable def sent_Log_Copy_c13 : Code := .seq sent_Log_Copy_c14 Code.ret
noncomputable def sent_Log_Copy_c11 : Code := .seq sent_Log_Copy_c12 sent_Log_Copy_c13
noncomputable def sent_Log_Copy_c9 : Code := .seq sent_Log_Copy_c10 sent_Log_Copy_c11
noncomputable def sent_Log_Copy_c3 : Code := .seq sent_Log_Copy_c4 sent_Log_Copy_c9
noncomputable def sent_Log_Copy_c1 : Code := .seq sent_Log_Copy_c2 sent_Log_Copy_c3
def sent_Log_Copy_pi (_ : Nat) : Pl := .nil
def sent_Log_Copy_g15 (S : Value → Heap → Prop) (x0 : Value) (H : Heap) : Prop :=
  S x0 H
theorem sent_Log_Copy_g15_e (S : Value → Heap → Prop) (x : Nat → Value) (H : Heap) : wpE tab P sent_Log_Copy_pi sent_Log_Copy_c2 (nQ fun l H => S (l.getD 0 undef) H) ((List.range 15).map x) H = sent_Log_Copy_g15 S (x 0) H := by kernel_rfl
def sent_Log_Copy_g16 (S : Value → Value → Heap → Prop) (x0 : Value) (H : Heap) : Prop :=
  EvF P N.sent_Log_none #[x0] H fun v5 H1 =>
  S x0 v5 H1
theorem sent_Log_Copy_g16_e (S : Value → Value → Heap → Prop) (x : Nat → Value) (H : Heap) : wpE tab P sent_Log_Copy_pi sent_Log_Copy_c5 (nQ fun l H => S (l.getD 0 undef) (l.getD 5 undef) H) ((List.range 15).map x) H = sent_Log_Copy_g16 S (x 0) H := by kernel_rfl
def sent_Log_Copy_g17 (S : Value → Heap → Prop) (H : Heap) : Prop :=
  S (.pointer none) H
theorem sent_Log_Copy_g17_e (S : Value → Heap → Prop) (x : Nat → Value) (H : Heap) : wpE tab P sent_Log_Copy_pi sent_Log_Copy_c8 (nQ fun l H => S (l.getD 2 undef) H) ((List.range 15).map x) H = sent_Log_Copy_g17 S  H := by kernel_rfl
def sent_Log_Copy_g18 (S : Value → Value → Heap → Prop) (x0 : Value) (H : Heap) : Prop :=
  bnd (nilV x0) fun v7 =>
  bnd (ldE true 8 v7 H) fun v8 =>
  newE 62 #[(.int .i64 0), (.int .i64 0), (.slice none 0 0), (.int .i64 0), (.int .i64 0), (.int .i64 0), (.int .i64 0), (.int .i64 0)] H fun v3 H1 =>
  bnd (stE 8 v3 v8 H1) fun H2 =>
  S x0 v3 H2
theorem sent_Log_Copy_g18_e (S : Value → Value → Heap → Prop) (x : Nat → Value) (H : Heap) : wpE tab P sent_Log_Copy_pi sent_Log_Copy_c10 (nQ fun l H => S (l.getD 0 undef) (l.getD 3 undef) H) ((List.range 15).map x) H = sent_Log_Copy_g18 S (x 0) H := by kernel_rfl
def sent_Log_Copy_g19 (S : Value → Heap → Prop) (x0 x3 : Value) (H : Heap) : Prop :=
  bnd (nilV x0) fun v10 =>
  bnd (faV 2 v10) fun v11 =>
  bnd (ldE false 1 v11 H) fun v12 =>
  EvF P N.slices_Clone_slot #[v12] H fun v13 H1 =>
  bnd (faV 2 x3) fun v14 =>
  bnd (stE 1 v14 v13 H1) fun H2 =>
  S x3 H2
theorem sent_Log_Copy_g19_e (S : Value → Heap → Prop) (x : Nat → Value) (H : Heap) : wpE tab P sent_Log_Copy_pi sent_Log_Copy_c12 (nQ fun l H => S (l.getD 3 undef) H) ((List.range 15).map x) H = sent_Log_Copy_g19 S (x 0) (x 3) H := by kernel_rfl
def sent_Log_Copy_g20 (S : Value → Heap → Prop) (x3 : Value) (H : Heap) : Prop :=
  S x3 H
theorem sent_Log_Copy_g20_e (S : Value → Heap → Prop) (x : Nat → Value) (H : Heap) : wpE tab P sent_Log_Copy_pi sent_Log_Copy_c14 (nQ fun l H => S (l.getD 2 undef) H) ((List.range 15).map x) H = sent_Log_Copy_g20 S (x 3) H := by kernel_rfl
def sent_Log_Copy (x0 : Value) (R : Value → Heap → Prop) (H : Heap) : Prop :=
  sent_Log_Copy_g15 (fun x0 H => sent_Log_Copy_g16 (fun x0 x5 H => brV x5
  (sent_Log_Copy_g17 (fun x2 H => R x2 H) H)
  (sent_Log_Copy_g18 (fun x0 x3 H => sent_Log_Copy_g19 (fun x3 H => sent_Log_Copy_g20 (fun x2 H => R x2 H) x3 H) x0 x3 H) x0 H)) x0 H) x0 H
theorem sent_Log_Copy_i (R : Value → Heap → Prop) (x0 : Value) (H : Heap) (h : sent_Log_Copy x0 R H) : wpE tab P sent_Log_Copy_pi sent_Log_Copy_c1 (retQ tab sent_Log_Copy_rs R) [x0, undef, undef, undef, undef, undef, undef, undef, undef, undef, undef, undef, undef, undef, undef] H := by
  obtain ⟨l, hl, el⟩ : ∃ l : List Value, l.length = 15 ∧ l = [x0, undef, undef, undef, undef, undef, undef, undef, undef, undef, undef, undef, undef, undef, undef] := ⟨_, rfl, rfl⟩
  rw [← el]
  have h : (fun (x0 : Value) => sent_Log_Copy_g15 (fun x0 H => sent_Log_Copy_g16 (fun x0 x5 H => brV x5
(sent_Log_Copy_g17 (fun x2 H => R x2 H) H)
(sent_Log_Copy_g18 (fun x0 x3 H => sent_Log_Copy_g19 (fun x3 H => sent_Log_Copy_g20 (fun x2 H => R x2 H) x3 H) x0 x3 H) x0 H)) x0 H) x0 H) (l.getD 0 undef) := by rw [el]; exact h
  clear el
  refine seqI (c := sent_Log_Copy_c1) rfl ?_
  refine regI hl (Eq.mpr (sent_Log_Copy_g15_e _ (fun i => l.getD i undef) _) h) ?_
  clear h hl
  intro l H hl h
  refine thenN ?_
  refine seqI (c := sent_Log_Copy_c3) rfl ?_
  refine seqI (c := sent_Log_Copy_c4) rfl ?_
  refine regI hl (Eq.mpr (sent_Log_Copy_g16_e _ (fun i => l.getD i undef) _) h) ?_
  clear h hl
  intro l H hl h
  refine thenN ?_
  refine condI (c := sent_Log_Copy_c6) rfl h ?_ ?_
  · clear h; intro h
    refine seqI (c := sent_Log_Copy_c7) rfl ?_
    refine regI hl (Eq.mpr (sent_Log_Copy_g17_e _ (fun i => l.getD i undef) _) h) ?_
    clear h hl
    intro l H hl h
    refine thenN ?_
    refine retI rfl ?_
    refine thenR ?_
    exact h
  · clear h; intro h
    refine skipI rfl ?_
    refine thenN ?_
    refine seqI (c := sent_Log_Copy_c9) rfl ?_
    refine regI hl (Eq.mpr (sent_Log_Copy_g18_e _ (fun i => l.getD i undef) _) h) ?_
    clear h hl
    intro l H hl h
    refine thenN ?_
    refine seqI (c := sent_Log_Copy_c11) rfl ?_
    refine regI hl (Eq.mpr (sent_Log_Copy_g19_e _ (fun i => l.getD i undef) _) h) ?_
    clear h hl
    intro l H hl h
    refine thenN ?_
    refine seqI (c := sent_Log_Copy_c13) rfl ?_
    refine regI hl (Eq.mpr (sent_Log_Copy_g20_e _ (fun i => l.getD i undef) _) h) ?_
    clear h hl
    intro l H hl h
    refine thenN ?_
    refine retI rfl ?_
    exact h
theorem sent_Log_Copy_ok : okB sent_Log_Copy_pi sent_Log_Copy_c1 = true := by kernel_rfl
theorem sent_Log_Copy_ev (x0 : Value) (R : Value → Heap → Prop) (H : Heap) (h : sent_Log_Copy x0 R H) : EvF P N.sent_Log_Copy #[x0] H R :=
  EvF_intro (args := [x0]) (k := 14) (rs := sent_Log_Copy_rs) tab_ok mixed Try.func28 (show Try.f28.body = some sent_Log_Copy_c1 by kernel_rfl) Try.call28 Try.ntmps28 (by kernel_rfl) (okCode_of _ sent_Log_Copy_ok) rfl (sent_Log_Copy_i R x0 H h)
/- 29: (*sounder/sounderref06.Log).Clear -/
def sounderref06_Log_Clear_rs : List ResultVar := []
noncomputable def sounderref06_Log_Clear_c1 : Code := subC (bodyC Try.f29) []
def sounderref06_Log_Clear_pi (_ : Nat) : Pl := .nil
def sounderref06_Log_Clear_g2 (S : Heap → Prop) (x0 : Value) (H : Heap) : Prop :=
  bnd (nilV x0) fun v3 =>
  bnd (faV 2 v3) fun v4 =>
  bnd (stE 1 v4 (.slice none 0 0) H) fun H1 =>
  S H1
theorem sounderref06_Log_Clear_g2_e (S : Heap → Prop) (x : Nat → Value) (H : Heap) : wpE tab P sounderref06_Log_Clear_pi sounderref06_Log_Clear_c1 (nQ fun _ H => S  H) ((List.range 5).map x) H = sounderref06_Log_Clear_g2 S (x 0) H := by kernel_rfl
def sounderref06_Log_Clear (x0 : Value) (R : Value → Heap → Prop) (H : Heap) : Prop :=
  sounderref06_Log_Clear_g2 (fun H => R (.tuple #[]) H) x0 H
theorem sounderref06_Log_Clear_i (R : Value → Heap → Prop) (x0 : Value) (H : Heap) (h : sounderref06_Log_Clear x0 R H) : wpE tab P sounderref06_Log_Clear_pi sounderref06_Log_Clear_c1 (retQ tab sounderref06_Log_Clear_rs R) [x0, undef, undef, undef, undef] H := by
  obtain ⟨l, hl, el⟩ : ∃ l : List Value, l.length = 5 ∧ l = [x0, undef, undef, undef, undef] := ⟨_, rfl, rfl⟩
  rw [← el]
  have h : (fun (x0 : Value) => sounderref06_Log_Clear_g2 (fun H => R (.tuple #[]) H) x0 H) (l.getD 0 undef) := by rw [el]; exact h
  clear el
  refine regI hl (Eq.mpr (sounderref06_Log_Clear_g2_e _ (fun i => l.getD i undef) _) h) ?_
  clear h hl
  intro l H hl h
  exact h
theorem sounderref06_Log_Clear_ok : okB sounderref06_Log_Clear_pi sounderref06_Log_Clear_c1 = true := by kernel_rfl
theorem sounderref06_Log_Clear_ev (x0 : Value) (R : Value → Heap → Prop) (H : Heap) (h : sounderref06_Log_Clear x0 R H) : EvF P N.sounderref06_Log_Clear #[x0] H R :=
  EvF_intro (args := [x0]) (k := 4) (rs := sounderref06_Log_Clear_rs) tab_ok mixed Try.func29 (show Try.f29.body = some sounderref06_Log_Clear_c1 by kernel_rfl) Try.call29 Try.ntmps29 (by kernel_rfl) (okCode_of _ sounderref06_Log_Clear_ok) rfl (sounderref06_Log_Clear_i R x0 H h)
end Go.Hc
