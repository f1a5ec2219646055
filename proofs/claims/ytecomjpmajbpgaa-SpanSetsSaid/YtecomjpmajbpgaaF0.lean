/- Functions, printed by gen.py. -/
import Derived.Test.YtecomjpmajbpgaaT
set_option linter.unusedSimpArgs false
set_option linter.unusedVariables false
set_option maxRecDepth 100000
namespace Go.Hc
open Go Go.Proofs
/- 3: sounder/sounderlaw04.SpanGreat -/
def sounderlaw04_SpanGreat_rs : List ResultVar := [.tmp 2]
noncomputable def sounderlaw04_SpanGreat_c2 : Code := subC (bodyC Try.f3) [0]
noncomputable def sounderlaw04_SpanGreat_c4 : Code := subC (bodyC Try.f3) [1, 0]
noncomputable def sounderlaw04_SpanGreat_c7 : Code := subC (bodyC Try.f3) [1, 1, 0, 0]
noncomputable def sounderlaw04_SpanGreat_c10 : Code := subC (bodyC Try.f3) [1, 1, 0, 1, 0, 0]
noncomputable def sounderlaw04_SpanGreat_c9 : Code := .seq sounderlaw04_SpanGreat_c10 Code.ret
noncomputable def sounderlaw04_SpanGreat_c8 : Code := .cond (.tmp 14) sounderlaw04_SpanGreat_c9 Code.skip
noncomputable def sounderlaw04_SpanGreat_c6 : Code := .seq sounderlaw04_SpanGreat_c7 sounderlaw04_SpanGreat_c8
noncomputable def sounderlaw04_SpanGreat_c12 : Code := subC (bodyC Try.f3) [1, 1, 1, 0]
noncomputable def sounderlaw04_SpanGreat_c15 : Code := subC (bodyC Try.f3) [1, 1, 1, 1, 0, 0]
noncomputable def sounderlaw04_SpanGreat_c20 : Code := subC (bodyC Try.f3) [1, 1, 1, 1, 0, 1, 0, 0, 0, 0]
noncomputable def sounderlaw04_SpanGreat_c22 : Code := .exit 0
noncomputable def sounderlaw04_SpanGreat_c21 : Code := .cond (.tmp 22) Code.skip sounderlaw04_SpanGreat_c22
noncomputable def sounderlaw04_SpanGreat_c19 : Code := .seq sounderlaw04_SpanGreat_c20 sounderlaw04_SpanGreat_c21
noncomputable def sounderlaw04_SpanGreat_c26 : Code := subC (bodyC Try.f3) [1, 1, 1, 1, 0, 1, 0, 0, 1, 0, 0, 0]
noncomputable def sounderlaw04_SpanGreat_c29 : Code := subC (bodyC Try.f3) [1, 1, 1, 1, 0, 1, 0, 0, 1, 0, 0, 1, 0, 0]
noncomputable def sounderlaw04_SpanGreat_c32 : Code := subC (bodyC Try.f3) [1, 1, 1, 1, 0, 1, 0, 0, 1, 0, 0, 1, 0, 1, 0, 0]
noncomputable def sounderlaw04_SpanGreat_c31 : Code := .seq sounderlaw04_SpanGreat_c32 Code.ret
noncomputable def sounderlaw04_SpanGreat_c30 : Code := .cond (.tmp 43) sounderlaw04_SpanGreat_c31 Code.skip
noncomputable def sounderlaw04_SpanGreat_c28 : Code := .seq sounderlaw04_SpanGreat_c29 sounderlaw04_SpanGreat_c30
noncomputable def sounderlaw04_SpanGreat_c34 : Code := subC (bodyC Try.f3) [1, 1, 1, 1, 0, 1, 0, 0, 1, 0, 0, 1, 1, 0]
noncomputable def sounderlaw04_SpanGreat_c36 : Code := subC (bodyC Try.f3) [1, 1, 1, 1, 0, 1, 0, 0, 1, 0, 0, 1, 1, 1, 0]
noncomputable def sounderlaw04_SpanGreat_c39 : Code := subC (bodyC Try.f3) [1, 1, 1, 1, 0, 1, 0, 0, 1, 0, 0, 1, 1, 1, 1, 0, 0]
noncomputable def sounderlaw04_SpanGreat_c38 : Code := .seq sounderlaw04_SpanGreat_c39 Code.ret
noncomputable def sounderlaw04_SpanGreat_c37 : Code := .cond (.tmp 89) sounderlaw04_SpanGreat_c38 Code.skip
noncomputable def sounderlaw04_SpanGreat_c35 : Code := .seq sounderlaw04_SpanGreat_c36 sounderlaw04_SpanGreat_c37
noncomputable def sounderlaw04_SpanGreat_c33 : Code := .seq sounderlaw04_SpanGreat_c34 sounderlaw04_SpanGreat_c35
noncomputable def sounderlaw04_SpanGreat_c27 : Code := .seq sounderlaw04_SpanGreat_c28 sounderlaw04_SpanGreat_c33
noncomputable def sounderlaw04_SpanGreat_c25 : Code := .seq sounderlaw04_SpanGreat_c26 sounderlaw04_SpanGreat_c27
noncomputable def sounderlaw04_SpanGreat_c24 : Code := .block 1 sounderlaw04_SpanGreat_c25
noncomputable def sounderlaw04_SpanGreat_c40 : Code := subC (bodyC Try.f3) [1, 1, 1, 1, 0, 1, 0, 0, 1, 1]
noncomputable def sounderlaw04_SpanGreat_c23 : Code := .seq sounderlaw04_SpanGreat_c24 sounderlaw04_SpanGreat_c40
noncomputable def sounderlaw04_SpanGreat_c18 : Code := .seq sounderlaw04_SpanGreat_c19 sounderlaw04_SpanGreat_c23
noncomputable def sounderlaw04_SpanGreat_c17 : Code := .loop sounderlaw04_SpanGreat_c18
noncomputable def sounderlaw04_SpanGreat_c16 : Code := .block 0 sounderlaw04_SpanGreat_c17
noncomputable def sounderlaw04_SpanGreat_c14 : Code := .seq sounderlaw04_SpanGreat_c15 sounderlaw04_SpanGreat_c16
noncomputable def sounderlaw04_SpanGreat_c42 : Code := subC (bodyC Try.f3) [1, 1, 1, 1, 1, 0]
noncomputable def sounderlaw04_SpanGreat_c41 : Code := .seq sounderlaw04_SpanGreat_c42 Code.ret
noncomputable def sounderlaw04_SpanGreat_c13 : Code := .seq sounderlaw04_SpanGreat_c14 sounderlaw04_SpanGreat_c41
noncomputable def sounderlaw04_SpanGreat_c11 : Code := .seq sounderlaw04_SpanGreat_c12 sounderlaw04_SpanGreat_c13
noncomputable def sounderlaw04_SpanGreat_c5 : Code := .seq sounderlaw04_SpanGreat_c6 sounderlaw04_SpanGreat_c11
noncomputable def sounderlaw04_SpanGreat_c3 : Code := .seq sounderlaw04_SpanGreat_c4 sounderlaw04_SpanGreat_c5
noncomputable def sounderlaw04_SpanGreat_c1 : Code := .seq sounderlaw04_SpanGreat_c2 sounderlaw04_SpanGreat_c3
def sounderlaw04_SpanGreat_pi (_ : Nat) : Pl := .nil
def sounderlaw04_SpanGreat_g43 (S : Value → Heap → Prop) (x0 : Value) (H : Heap) : Prop :=
  S x0 H
theorem sounderlaw04_SpanGreat_g43_e (S : Value → Heap → Prop) (x : Nat → Value) (H : Heap) : wpE tab P sounderlaw04_SpanGreat_pi sounderlaw04_SpanGreat_c2 (nQ fun l H => S (l.getD 0 undef) H) ((List.range 91).map x) H = sounderlaw04_SpanGreat_g43 S (x 0) H := by kernel_rfl
def sounderlaw04_SpanGreat_g44 (S : Value → Value → Value → Heap → Prop) (x0 : Value) (H : Heap) : Prop :=
  EvF P N.span_New #[(.int .i64 256)] H fun v10 H1 =>
  bnd (exV 0 v10) fun v11 =>
  bnd (exV 1 v10) fun v12 =>
  S x0 v11 v12 H1
theorem sounderlaw04_SpanGreat_g44_e (S : Value → Value → Value → Heap → Prop) (x : Nat → Value) (H : Heap) : wpE tab P sounderlaw04_SpanGreat_pi sounderlaw04_SpanGreat_c4 (nQ fun l H => S (l.getD 0 undef) (l.getD 3 undef) (l.getD 4 undef) H) ((List.range 91).map x) H = sounderlaw04_SpanGreat_g44 S (x 0) H := by kernel_rfl
def sounderlaw04_SpanGreat_g45 (S : Value → Value → Value → Heap → Prop) (x0 x3 x4 : Value) (H : Heap) : Prop :=
  bnd (binV .int .neq x4 (.int .i64 0)) fun v14 =>
  S x0 x3 v14 H
theorem sounderlaw04_SpanGreat_g45_e (S : Value → Value → Value → Heap → Prop) (x : Nat → Value) (H : Heap) : wpE tab P sounderlaw04_SpanGreat_pi sounderlaw04_SpanGreat_c7 (nQ fun l H => S (l.getD 0 undef) (l.getD 3 undef) (l.getD 14 undef) H) ((List.range 91).map x) H = sounderlaw04_SpanGreat_g45 S (x 0) (x 3) (x 4) H := by kernel_rfl
def sounderlaw04_SpanGreat_g46 (S : Value → Heap → Prop) (H : Heap) : Prop :=
  S (.bool false) H
theorem sounderlaw04_SpanGreat_g46_e (S : Value → Heap → Prop) (x : Nat → Value) (H : Heap) : wpE tab P sounderlaw04_SpanGreat_pi sounderlaw04_SpanGreat_c10 (nQ fun l H => S (l.getD 2 undef) H) ((List.range 91).map x) H = sounderlaw04_SpanGreat_g46 S  H := by kernel_rfl
def sounderlaw04_SpanGreat_g47 (S : Value → Value → Value → Value → Heap → Prop) (x0 x3 : Value) (H : Heap) : Prop :=
  S x0 x3 (.int .i64 9007199254740991) (.int .i64 0) H
theorem sounderlaw04_SpanGreat_g47_e (S : Value → Value → Value → Value → Heap → Prop) (x : Nat → Value) (H : Heap) : wpE tab P sounderlaw04_SpanGreat_pi sounderlaw04_SpanGreat_c12 (nQ fun l H => S (l.getD 0 undef) (l.getD 3 undef) (l.getD 5 undef) (l.getD 6 undef) H) ((List.range 91).map x) H = sounderlaw04_SpanGreat_g47 S (x 0) (x 3) H := by kernel_rfl
def sounderlaw04_SpanGreat_g48 (S : Value → Value → Value → Value → Value → Heap → Prop) (x0 x3 x5 x6 : Value) (H : Heap) : Prop :=
  S x0 x3 x5 x6 (.int .i64 0) H
theorem sounderlaw04_SpanGreat_g48_e (S : Value → Value → Value → Value → Value → Heap → Prop) (x : Nat → Value) (H : Heap) : wpE tab P sounderlaw04_SpanGreat_pi sounderlaw04_SpanGreat_c15 (nQ fun l H => S (l.getD 0 undef) (l.getD 3 undef) (l.getD 5 undef) (l.getD 6 undef) (l.getD 7 undef) H) ((List.range 91).map x) H = sounderlaw04_SpanGreat_g48 S (x 0) (x 3) (x 5) (x 6) H := by kernel_rfl
def sounderlaw04_SpanGreat_g50 (S : Value → Value → Value → Value → Value → Value → Heap → Prop) (x0 x3 x5 x6 x7 : Value) (H : Heap) : Prop :=
  bnd (lenV x0) fun v17 =>
  bnd (binV .int .lss x7 v17) fun v18 =>
  brV v18
  (bnd (binV .int .lss x7 (.int .i64 40)) fun v21 =>
  S x0 x3 x5 x6 x7 v21 H)
  (S x0 x3 x5 x6 x7 (.bool false) H)
theorem sounderlaw04_SpanGreat_g50_e (S : Value → Value → Value → Value → Value → Value → Heap → Prop) (x : Nat → Value) (H : Heap) : wpE tab P sounderlaw04_SpanGreat_pi sounderlaw04_SpanGreat_c20 (nQ fun l H => S (l.getD 0 undef) (l.getD 3 undef) (l.getD 5 undef) (l.getD 6 undef) (l.getD 7 undef) (l.getD 22 undef) H) ((List.range 91).map x) H = sounderlaw04_SpanGreat_g50 S (x 0) (x 3) (x 5) (x 6) (x 7) H := by kernel_rfl
def sounderlaw04_SpanGreat_g51 (S : Value → Value → Value → Value → Value → Value → Heap → Prop) (x0 x3 x5 x6 x7 : Value) (H : Heap) : Prop :=
  bnd (ixSV 1 x0 x7) fun v27 =>
  bnd (ldE false 1 v27 H) fun v28 =>
  EvF P N.sounderref00_Bring #[v28, (.int .i64 1099511627776)] H fun v29 H1 =>
  bnd (binV .int .add (.int .i64 1) v29) fun v30 =>
  S x0 x3 x5 x6 x7 v30 H1
theorem sounderlaw04_SpanGreat_g51_e (S : Value → Value → Value → Value → Value → Value → Heap → Prop) (x : Nat → Value) (H : Heap) : wpE tab P sounderlaw04_SpanGreat_pi sounderlaw04_SpanGreat_c26 (nQ fun l H => S (l.getD 0 undef) (l.getD 3 undef) (l.getD 5 undef) (l.getD 6 undef) (l.getD 7 undef) (l.getD 8 undef) H) ((List.range 91).map x) H = sounderlaw04_SpanGreat_g51 S (x 0) (x 3) (x 5) (x 6) (x 7) H := by kernel_rfl
def sounderlaw04_SpanGreat_g52 (S : Value → Value → Value → Value → Value → Value → Value → Heap → Prop) (x0 x3 x5 x6 x7 x8 : Value) (H : Heap) : Prop :=
  bnd (binV .int .sub x5 x8) fun v34 =>
  bnd (binV .int .add v34 (.int .i64 1)) fun v35 =>
  EvF P N.span_Set_Add #[x3, v35, x5] H fun v37 H1 =>
  bnd (binV .int .neq v37 (.int .i64 0)) fun v38 =>
  brV v38
  (S x0 x3 x5 x6 x7 x8 (.bool true) H1)
  (EvF P N.span_Set_Len #[x3] H1 fun v41 H2 =>
  bnd (binV .int .neq v41 (.int .i64 1)) fun v42 =>
  S x0 x3 x5 x6 x7 x8 v42 H2)
theorem sounderlaw04_SpanGreat_g52_e (S : Value → Value → Value → Value → Value → Value → Value → Heap → Prop) (x : Nat → Value) (H : Heap) : wpE tab P sounderlaw04_SpanGreat_pi sounderlaw04_SpanGreat_c29 (nQ fun l H => S (l.getD 0 undef) (l.getD 3 undef) (l.getD 5 undef) (l.getD 6 undef) (l.getD 7 undef) (l.getD 8 undef) (l.getD 43 undef) H) ((List.range 91).map x) H = sounderlaw04_SpanGreat_g52 S (x 0) (x 3) (x 5) (x 6) (x 7) (x 8) H := by kernel_rfl
def sounderlaw04_SpanGreat_g53 (S : Value → Heap → Prop) (H : Heap) : Prop :=
  S (.bool false) H
theorem sounderlaw04_SpanGreat_g53_e (S : Value → Heap → Prop) (x : Nat → Value) (H : Heap) : wpE tab P sounderlaw04_SpanGreat_pi sounderlaw04_SpanGreat_c32 (nQ fun l H => S (l.getD 2 undef) H) ((List.range 91).map x) H = sounderlaw04_SpanGreat_g53 S  H := by kernel_rfl
def sounderlaw04_SpanGreat_g54 (S : Value → Value → Value → Value → Value → Heap → Prop) (x0 x3 x5 x6 x7 x8 : Value) (H : Heap) : Prop :=
  bnd (binV .int .sub x5 x8) fun v46 =>
  bnd (binV .int .add x6 x8) fun v49 =>
  S x0 x3 v46 v49 x7 H
theorem sounderlaw04_SpanGreat_g54_e (S : Value → Value → Value → Value → Value → Heap → Prop) (x : Nat → Value) (H : Heap) : wpE tab P sounderlaw04_SpanGreat_pi sounderlaw04_SpanGreat_c34 (nQ fun l H => S (l.getD 0 undef) (l.getD 3 undef) (l.getD 5 undef) (l.getD 6 undef) (l.getD 7 undef) H) ((List.range 91).map x) H = sounderlaw04_SpanGreat_g54 S (x 0) (x 3) (x 5) (x 6) (x 7) (x 8) H := by kernel_rfl
def sounderlaw04_SpanGreat_g55 (S : Value → Value → Value → Value → Value → Value → Heap → Prop) (x0 x3 x5 x6 x7 : Value) (H : Heap) : Prop :=
  EvF P N.span_Set_Count #[x3] H fun v51 H1 =>
  bnd (binV .int .neq v51 x6) fun v53 =>
  brV v53
  (S x0 x3 x5 x6 x7 (.bool true) H1)
  (EvF P N.span_Set_Max #[x3] H1 fun v56 H2 =>
  bnd (binV .int .neq v56 (.int .i64 9007199254740991)) fun v57 =>
  brV v57
  (S x0 x3 x5 x6 x7 (.bool true) H2)
  (EvF P N.span_Set_Min #[x3] H2 fun v61 H3 =>
  bnd (binV .int .add x5 (.int .i64 1)) fun v63 =>
  bnd (binV .int .neq v61 v63) fun v64 =>
  brV v64
  (S x0 x3 x5 x6 x7 (.bool true) H3)
  (bnd (binV .int .add x5 (.int .i64 1)) fun v69 =>
  EvF P N.span_Set_Next #[x3, v69] H3 fun v70 H4 =>
  bnd (binV .int .neq v70 (.int .i64 (-1))) fun v71 =>
  brV v71
  (S x0 x3 x5 x6 x7 (.bool true) H4)
  (EvF P N.span_Set_Next #[x3, x5] H4 fun v76 H5 =>
  bnd (binV .int .neq v76 x5) fun v78 =>
  brV v78
  (S x0 x3 x5 x6 x7 (.bool true) H5)
  (EvF P N.span_Set_Has #[x3, x5] H5 fun v83 H6 =>
  brV v83
  (S x0 x3 x5 x6 x7 (.bool true) H6)
  (EvF P N.span_Set_Add #[x3, (.int .i64 0), (.int .i64 9007199254740992)] H6 fun v87 H7 =>
  bnd (binV .int .neq v87 (.int .i64 2)) fun v88 =>
  S x0 x3 x5 x6 x7 v88 H7))))))
theorem sounderlaw04_SpanGreat_g55_e (S : Value → Value → Value → Value → Value → Value → Heap → Prop) (x : Nat → Value) (H : Heap) : wpE tab P sounderlaw04_SpanGreat_pi sounderlaw04_SpanGreat_c36 (nQ fun l H => S (l.getD 0 undef) (l.getD 3 undef) (l.getD 5 undef) (l.getD 6 undef) (l.getD 7 undef) (l.getD 89 undef) H) ((List.range 91).map x) H = sounderlaw04_SpanGreat_g55 S (x 0) (x 3) (x 5) (x 6) (x 7) H := by kernel_rfl
def sounderlaw04_SpanGreat_g56 (S : Value → Heap → Prop) (H : Heap) : Prop :=
  S (.bool false) H
theorem sounderlaw04_SpanGreat_g56_e (S : Value → Heap → Prop) (x : Nat → Value) (H : Heap) : wpE tab P sounderlaw04_SpanGreat_pi sounderlaw04_SpanGreat_c39 (nQ fun l H => S (l.getD 2 undef) H) ((List.range 91).map x) H = sounderlaw04_SpanGreat_g56 S  H := by kernel_rfl
def sounderlaw04_SpanGreat_g57 (S : Value → Value → Value → Value → Value → Heap → Prop) (x0 x3 x5 x6 x7 : Value) (H : Heap) : Prop :=
  bnd (binV .int .add x7 (.int .i64 1)) fun v24 =>
  S x0 x3 x5 x6 v24 H
theorem sounderlaw04_SpanGreat_g57_e (S : Value → Value → Value → Value → Value → Heap → Prop) (x : Nat → Value) (H : Heap) : wpE tab P sounderlaw04_SpanGreat_pi sounderlaw04_SpanGreat_c40 (nQ fun l H => S (l.getD 0 undef) (l.getD 3 undef) (l.getD 5 undef) (l.getD 6 undef) (l.getD 7 undef) H) ((List.range 91).map x) H = sounderlaw04_SpanGreat_g57 S (x 0) (x 3) (x 5) (x 6) (x 7) H := by kernel_rfl
def sounderlaw04_SpanGreat_g58 (S : Value → Heap → Prop) (H : Heap) : Prop :=
  EvF P N.sounderlaw04_works #[] H fun v90 H1 =>
  S v90 H1
theorem sounderlaw04_SpanGreat_g58_e (S : Value → Heap → Prop) (x : Nat → Value) (H : Heap) : wpE tab P sounderlaw04_SpanGreat_pi sounderlaw04_SpanGreat_c42 (nQ fun l H => S (l.getD 2 undef) H) ((List.range 91).map x) H = sounderlaw04_SpanGreat_g58 S  H := by kernel_rfl
def sounderlaw04_SpanGreat_s49 (x0 x3 x5 x6 x7 : Value) (K1 : Value → Value → Value → Value → Value →  Heap → Prop) (R : Value → Heap → Prop) (H : Heap) : Prop :=
  sounderlaw04_SpanGreat_g50 (fun x0 x3 x5 x6 x7 x22 H => brV x22
  (sounderlaw04_SpanGreat_g51 (fun x0 x3 x5 x6 x7 x8 H => sounderlaw04_SpanGreat_g52 (fun x0 x3 x5 x6 x7 x8 x43 H => brV x43
  (sounderlaw04_SpanGreat_g53 (fun x2 H => R x2 H) H)
  (sounderlaw04_SpanGreat_g54 (fun x0 x3 x5 x6 x7 H => sounderlaw04_SpanGreat_g55 (fun x0 x3 x5 x6 x7 x89 H => brV x89
  (sounderlaw04_SpanGreat_g56 (fun x2 H => R x2 H) H)
  (sounderlaw04_SpanGreat_g57 (fun x0 x3 x5 x6 x7 H => K1 x0 x3 x5 x6 x7 H) x0 x3 x5 x6 x7 H)) x0 x3 x5 x6 x7 H) x0 x3 x5 x6 x7 x8 H)) x0 x3 x5 x6 x7 x8 H) x0 x3 x5 x6 x7 H)
  (sounderlaw04_SpanGreat_g58 (fun x2 H => R x2 H) H)) x0 x3 x5 x6 x7 H
noncomputable def sounderlaw04_SpanGreat_q59 (R : Value → Heap → Prop) : Exit → List Value → Heap → Prop := (retQ tab sounderlaw04_SpanGreat_rs R)
noncomputable def sounderlaw04_SpanGreat_q60 (R : Value → Heap → Prop) : Exit → List Value → Heap → Prop := (thenE (fun l H => wpE tab P sounderlaw04_SpanGreat_pi sounderlaw04_SpanGreat_c41 (sounderlaw04_SpanGreat_q59 R) l H) (sounderlaw04_SpanGreat_q59 R))
noncomputable def sounderlaw04_SpanGreat_q61 (R : Value → Heap → Prop) : Exit → List Value → Heap → Prop := (blkE 0 (sounderlaw04_SpanGreat_q60 R))
noncomputable def sounderlaw04_SpanGreat_q62 (K1 : Value → Value → Value → Value → Value →  Heap → Prop) (R : Value → Heap → Prop) : Exit → List Value → Heap → Prop := (thenE (fun l H => K1 (l.getD 0 undef) (l.getD 3 undef) (l.getD 5 undef) (l.getD 6 undef) (l.getD 7 undef) H) (sounderlaw04_SpanGreat_q61 R))
theorem sounderlaw04_SpanGreat_s49_i (K1 : Value → Value → Value → Value → Value →  Heap → Prop) (R : Value → Heap → Prop) (l : List Value) (H : Heap) (hl : l.length = 91) (h : sounderlaw04_SpanGreat_s49 (l.getD 0 undef) (l.getD 3 undef) (l.getD 5 undef) (l.getD 6 undef) (l.getD 7 undef) K1 R H) : wpE tab P sounderlaw04_SpanGreat_pi sounderlaw04_SpanGreat_c18 (sounderlaw04_SpanGreat_q62 K1 R) l H := by
  refine seqI (c := sounderlaw04_SpanGreat_c18) rfl ?_
  refine seqI (c := sounderlaw04_SpanGreat_c19) rfl ?_
  refine regI hl (Eq.mpr (sounderlaw04_SpanGreat_g50_e _ (fun i => l.getD i undef) _) h) ?_
  clear h hl
  intro l H hl h
  refine thenN ?_
  refine condI (c := sounderlaw04_SpanGreat_c21) rfl h ?_ ?_
  · clear h; intro h
    refine skipI rfl ?_
    refine thenN ?_
    refine seqI (c := sounderlaw04_SpanGreat_c23) rfl ?_
    refine blockI (c := sounderlaw04_SpanGreat_c24) rfl ?_
    refine seqI (c := sounderlaw04_SpanGreat_c25) rfl ?_
    refine regI hl (Eq.mpr (sounderlaw04_SpanGreat_g51_e _ (fun i => l.getD i undef) _) h) ?_
    clear h hl
    intro l H hl h
    refine thenN ?_
    refine seqI (c := sounderlaw04_SpanGreat_c27) rfl ?_
    refine seqI (c := sounderlaw04_SpanGreat_c28) rfl ?_
    refine regI hl (Eq.mpr (sounderlaw04_SpanGreat_g52_e _ (fun i => l.getD i undef) _) h) ?_
    clear h hl
    intro l H hl h
    refine thenN ?_
    refine condI (c := sounderlaw04_SpanGreat_c30) rfl h ?_ ?_
    · clear h; intro h
      refine seqI (c := sounderlaw04_SpanGreat_c31) rfl ?_
      refine regI hl (Eq.mpr (sounderlaw04_SpanGreat_g53_e _ (fun i => l.getD i undef) _) h) ?_
      clear h hl
      intro l H hl h
      refine thenN ?_
      refine retI rfl ?_
      refine thenR ?_
      refine blkR ?_
      refine thenR ?_
      refine thenR ?_
      refine blkR ?_
      refine thenR ?_
      exact h
    · clear h; intro h
      refine skipI rfl ?_
      refine thenN ?_
      refine seqI (c := sounderlaw04_SpanGreat_c33) rfl ?_
      refine regI hl (Eq.mpr (sounderlaw04_SpanGreat_g54_e _ (fun i => l.getD i undef) _) h) ?_
      clear h hl
      intro l H hl h
      refine thenN ?_
      refine seqI (c := sounderlaw04_SpanGreat_c35) rfl ?_
      refine regI hl (Eq.mpr (sounderlaw04_SpanGreat_g55_e _ (fun i => l.getD i undef) _) h) ?_
      clear h hl
      intro l H hl h
      refine thenN ?_
      refine condI (c := sounderlaw04_SpanGreat_c37) rfl h ?_ ?_
      · clear h; intro h
        refine seqI (c := sounderlaw04_SpanGreat_c38) rfl ?_
        refine regI hl (Eq.mpr (sounderlaw04_SpanGreat_g56_e _ (fun i => l.getD i undef) _) h) ?_
        clear h hl
        intro l H hl h
        refine thenN ?_
        refine retI rfl ?_
        refine blkR ?_
        refine thenR ?_
        refine thenR ?_
        refine blkR ?_
        refine thenR ?_
        exact h
      · clear h; intro h
        refine skipI rfl ?_
        refine blkN ?_
        refine thenN ?_
        refine regI hl (Eq.mpr (sounderlaw04_SpanGreat_g57_e _ (fun i => l.getD i undef) _) h) ?_
        clear h hl
        intro l H hl h
        refine thenN ?_
        exact h
  · clear h; intro h
    refine exitI (c := sounderlaw04_SpanGreat_c22) rfl ?_
    refine thenX ?_
    refine thenX ?_
    refine blkX ?_
    refine thenN ?_
    refine seqI (c := sounderlaw04_SpanGreat_c41) rfl ?_
    refine regI hl (Eq.mpr (sounderlaw04_SpanGreat_g58_e _ (fun i => l.getD i undef) _) h) ?_
    clear h hl
    intro l H hl h
    refine thenN ?_
    refine retI rfl ?_
    exact h
def sounderlaw04_SpanGreat_l63 (x0 x3 x5 x6 x7 : Value) (R : Value → Heap → Prop) (H : Heap) : Prop :=
  ∃ (I : Value → Value → Value → Heap → Prop) (μ : Value → Value → Value → Heap → Nat), I x5 x6 x7 H ∧ ∀ (y5 : Value) (y6 : Value) (y7 : Value) (H : Heap), I y5 y6 y7 H → sounderlaw04_SpanGreat_s49 x0 x3 y5 y6 y7 (fun z0 z3 z5 z6 z7 H' => z0 = x0 ∧ z3 = x3 ∧ (I z5 z6 z7 H' ∧ μ z5 z6 z7 H' < μ y5 y6 y7 H)) R H
def sounderlaw04_SpanGreat (x0 : Value) (R : Value → Heap → Prop) (H : Heap) : Prop :=
  sounderlaw04_SpanGreat_g43 (fun x0 H => sounderlaw04_SpanGreat_g44 (fun x0 x3 x4 H => sounderlaw04_SpanGreat_g45 (fun x0 x3 x14 H => brV x14
  (sounderlaw04_SpanGreat_g46 (fun x2 H => R x2 H) H)
  (sounderlaw04_SpanGreat_g47 (fun x0 x3 x5 x6 H => sounderlaw04_SpanGreat_g48 (fun x0 x3 x5 x6 x7 H => sounderlaw04_SpanGreat_l63 x0 x3 x5 x6 x7 R H) x0 x3 x5 x6 H) x0 x3 H)) x0 x3 x4 H) x0 H) x0 H
theorem sounderlaw04_SpanGreat_i (R : Value → Heap → Prop) (x0 : Value) (H : Heap) (h : sounderlaw04_SpanGreat x0 R H) : wpE tab P sounderlaw04_SpanGreat_pi sounderlaw04_SpanGreat_c1 (retQ tab sounderlaw04_SpanGreat_rs R) [x0, undef, undef, undef, undef, undef, undef, undef, undef, undef, undef, undef, undef, undef, undef, undef, undef, undef, undef, undef, undef, undef, undef, undef, undef, undef, undef, undef, undef, undef, undef, undef, undef, undef, undef, undef, undef, undef, undef, undef, undef, undef, undef, undef, undef, undef, undef, undef, undef, undef, undef, undef, undef, undef, undef, undef, undef, undef, undef, undef, undef, undef, undef, undef, undef, undef, undef, undef, undef, undef, undef, undef, undef, undef, undef, undef, undef, undef, undef, undef, undef, undef, undef, undef, undef, undef, undef, undef, undef, undef, undef] H := by
  obtain ⟨l, hl, el⟩ : ∃ l : List Value, l.length = 91 ∧ l = [x0, undef, undef, undef, undef, undef, undef, undef, undef, undef, undef, undef, undef, undef, undef, undef, undef, undef, undef, undef, undef, undef, undef, undef, undef, undef, undef, undef, undef, undef, undef, undef, undef, undef, undef, undef, undef, undef, undef, undef, undef, undef, undef, undef, undef, undef, undef, undef, undef, undef, undef, undef, undef, undef, undef, undef, undef, undef, undef, undef, undef, undef, undef, undef, undef, undef, undef, undef, undef, undef, undef, undef, undef, undef, undef, undef, undef, undef, undef, undef, undef, undef, undef, undef, undef, undef, undef, undef, undef, undef, undef] := ⟨_, rfl, rfl⟩
  rw [← el]
  have h : (fun (x0 : Value) => sounderlaw04_SpanGreat_g43 (fun x0 H => sounderlaw04_SpanGreat_g44 (fun x0 x3 x4 H => sounderlaw04_SpanGreat_g45 (fun x0 x3 x14 H => brV x14
(sounderlaw04_SpanGreat_g46 (fun x2 H => R x2 H) H)
(sounderlaw04_SpanGreat_g47 (fun x0 x3 x5 x6 H => sounderlaw04_SpanGreat_g48 (fun x0 x3 x5 x6 x7 H => sounderlaw04_SpanGreat_l63 x0 x3 x5 x6 x7 R H) x0 x3 x5 x6 H) x0 x3 H)) x0 x3 x4 H) x0 H) x0 H) (l.getD 0 undef) := by rw [el]; exact h
  clear el
  refine seqI (c := sounderlaw04_SpanGreat_c1) rfl ?_
  refine regI hl (Eq.mpr (sounderlaw04_SpanGreat_g43_e _ (fun i => l.getD i undef) _) h) ?_
  clear h hl
  intro l H hl h
  refine thenN ?_
  refine seqI (c := sounderlaw04_SpanGreat_c3) rfl ?_
  refine regI hl (Eq.mpr (sounderlaw04_SpanGreat_g44_e _ (fun i => l.getD i undef) _) h) ?_
  clear h hl
  intro l H hl h
  refine thenN ?_
  refine seqI (c := sounderlaw04_SpanGreat_c5) rfl ?_
  refine seqI (c := sounderlaw04_SpanGreat_c6) rfl ?_
  refine regI hl (Eq.mpr (sounderlaw04_SpanGreat_g45_e _ (fun i => l.getD i undef) _) h) ?_
  clear h hl
  intro l H hl h
  refine thenN ?_
  refine condI (c := sounderlaw04_SpanGreat_c8) rfl h ?_ ?_
  · clear h; intro h
    refine seqI (c := sounderlaw04_SpanGreat_c9) rfl ?_
    refine regI hl (Eq.mpr (sounderlaw04_SpanGreat_g46_e _ (fun i => l.getD i undef) _) h) ?_
    clear h hl
    intro l H hl h
    refine thenN ?_
    refine retI rfl ?_
    refine thenR ?_
    exact h
  · clear h; intro h
    refine skipI rfl ?_
    refine thenN ?_
    refine seqI (c := sounderlaw04_SpanGreat_c11) rfl ?_
    refine regI hl (Eq.mpr (sounderlaw04_SpanGreat_g47_e _ (fun i => l.getD i undef) _) h) ?_
    clear h hl
    intro l H hl h
    refine thenN ?_
    refine seqI (c := sounderlaw04_SpanGreat_c13) rfl ?_
    refine seqI (c := sounderlaw04_SpanGreat_c14) rfl ?_
    refine regI hl (Eq.mpr (sounderlaw04_SpanGreat_g48_e _ (fun i => l.getD i undef) _) h) ?_
    clear h hl
    intro l H hl h
    refine thenN ?_
    refine blockI (c := sounderlaw04_SpanGreat_c16) rfl ?_
    obtain ⟨I, μ, h0, hr⟩ := h
    refine loopI (c := sounderlaw04_SpanGreat_c17) rfl (fun l' H' => l'.getD 0 undef = l.getD 0 undef ∧ l'.getD 3 undef = l.getD 3 undef ∧ I (l'.getD 5 undef) (l'.getD 6 undef) (l'.getD 7 undef) H') (fun l' H' => μ (l'.getD 5 undef) (l'.getD 6 undef) (l'.getD 7 undef) H') hl ⟨rfl, rfl, h0⟩ ?_
    rintro l1 H1 hl1 ⟨e0, e3, hI⟩
    have hb := hr (l1.getD 5 undef) (l1.getD 6 undef) (l1.getD 7 undef) H1 hI
    rw [← e0, ← e3] at hb
    refine wpE_mono _ l1 H1 hl1 ?_ (sounderlaw04_SpanGreat_s49_i _ R l1 H1 hl1 hb)
    intro e l2 H2 hl2 hq
    cases e with
    | normal => exact fun _ => (by obtain ⟨d0, d3, g1, g2⟩ := hq; exact ⟨⟨d0.trans e0, d3.trans e3, g1⟩, g2⟩)
    | _ => exact hq
theorem sounderlaw04_SpanGreat_ok : okB sounderlaw04_SpanGreat_pi sounderlaw04_SpanGreat_c1 = true := by kernel_rfl
theorem sounderlaw04_SpanGreat_ev0 (x0 : Value) (R : Value → Heap → Prop) (H : Heap) (h : sounderlaw04_SpanGreat x0 R H) : EvL P N.sounderlaw04_SpanGreat #[x0] H R :=
  EvF_intro (args := [x0]) (k := 90) (rs := sounderlaw04_SpanGreat_rs) tab_ok mixed Try.func3 (show Try.f3.body = some sounderlaw04_SpanGreat_c1 by kernel_rfl) Try.call3 Try.ntmps3 (by kernel_rfl) (okCode_of _ sounderlaw04_SpanGreat_ok) rfl (sounderlaw04_SpanGreat_i R x0 H h)
theorem sounderlaw04_SpanGreat_ev (x0 : Value) (R : Value → Heap → Prop) (H : Heap) (h : sounderlaw04_SpanGreat x0 R H) : EvF P N.sounderlaw04_SpanGreat #[x0] H R := .inl (sounderlaw04_SpanGreat_ev0 x0 R H h)
/- 4: sounder/sounderlaw04.SpanSets -/
def sounderlaw04_SpanSets_rs : List ResultVar := [.tmp 6]
noncomputable def sounderlaw04_SpanSets_c2 : Code := subC (bodyC Try.f4) [0]
noncomputable def sounderlaw04_SpanSets_c5 : Code := subC (bodyC Try.f4) [1, 0, 0]
noncomputable def sounderlaw04_SpanSets_c8 : Code := subC (bodyC Try.f4) [1, 0, 1, 0, 0]
noncomputable def sounderlaw04_SpanSets_c7 : Code := .seq sounderlaw04_SpanSets_c8 Code.ret
noncomputable def sounderlaw04_SpanSets_c6 : Code := .cond (.tmp 19) sounderlaw04_SpanSets_c7 Code.skip
noncomputable def sounderlaw04_SpanSets_c4 : Code := .seq sounderlaw04_SpanSets_c5 sounderlaw04_SpanSets_c6
noncomputable def sounderlaw04_SpanSets_c10 : Code := subC (bodyC Try.f4) [1, 1, 0]
noncomputable def sounderlaw04_SpanSets_c12 : Code := subC (bodyC Try.f4) [1, 1, 1, 0]
noncomputable def sounderlaw04_SpanSets_c14 : Code := subC (bodyC Try.f4) [1, 1, 1, 1, 0]
noncomputable def sounderlaw04_SpanSets_c16 : Code := subC (bodyC Try.f4) [1, 1, 1, 1, 1, 0]
noncomputable def sounderlaw04_SpanSets_c19 : Code := subC (bodyC Try.f4) [1, 1, 1, 1, 1, 1, 0, 0]
noncomputable def sounderlaw04_SpanSets_c22 : Code := subC (bodyC Try.f4) [1, 1, 1, 1, 1, 1, 0, 1, 0, 0]
noncomputable def sounderlaw04_SpanSets_c21 : Code := .seq sounderlaw04_SpanSets_c22 Code.ret
noncomputable def sounderlaw04_SpanSets_c20 : Code := .cond (.tmp 40) sounderlaw04_SpanSets_c21 Code.skip
noncomputable def sounderlaw04_SpanSets_c18 : Code := .seq sounderlaw04_SpanSets_c19 sounderlaw04_SpanSets_c20
noncomputable def sounderlaw04_SpanSets_c24 : Code := subC (bodyC Try.f4) [1, 1, 1, 1, 1, 1, 1, 0]
noncomputable def sounderlaw04_SpanSets_c27 : Code := subC (bodyC Try.f4) [1, 1, 1, 1, 1, 1, 1, 1, 0, 0]
noncomputable def sounderlaw04_SpanSets_c32 : Code := subC (bodyC Try.f4) [1, 1, 1, 1, 1, 1, 1, 1, 0, 1, 0, 0, 0, 0]
noncomputable def sounderlaw04_SpanSets_c34 : Code := .exit 0
noncomputable def sounderlaw04_SpanSets_c33 : Code := .cond (.tmp 49) Code.skip sounderlaw04_SpanSets_c34
noncomputable def sounderlaw04_SpanSets_c31 : Code := .seq sounderlaw04_SpanSets_c32 sounderlaw04_SpanSets_c33
noncomputable def sounderlaw04_SpanSets_c38 : Code := subC (bodyC Try.f4) [1, 1, 1, 1, 1, 1, 1, 1, 0, 1, 0, 0, 1, 0, 0, 0]
noncomputable def sounderlaw04_SpanSets_c41 : Code := subC (bodyC Try.f4) [1, 1, 1, 1, 1, 1, 1, 1, 0, 1, 0, 0, 1, 0, 0, 1, 0, 0]
noncomputable def sounderlaw04_SpanSets_c44 : Code := subC (bodyC Try.f4) [1, 1, 1, 1, 1, 1, 1, 1, 0, 1, 0, 0, 1, 0, 0, 1, 0, 1, 0, 0]
noncomputable def sounderlaw04_SpanSets_c43 : Code := .seq sounderlaw04_SpanSets_c44 Code.ret
noncomputable def sounderlaw04_SpanSets_c42 : Code := .cond (.tmp 71) sounderlaw04_SpanSets_c43 Code.skip
noncomputable def sounderlaw04_SpanSets_c40 : Code := .seq sounderlaw04_SpanSets_c41 sounderlaw04_SpanSets_c42
noncomputable def sounderlaw04_SpanSets_c46 : Code := subC (bodyC Try.f4) [1, 1, 1, 1, 1, 1, 1, 1, 0, 1, 0, 0, 1, 0, 0, 1, 1, 0]
noncomputable def sounderlaw04_SpanSets_c48 : Code := subC (bodyC Try.f4) [1, 1, 1, 1, 1, 1, 1, 1, 0, 1, 0, 0, 1, 0, 0, 1, 1, 1, 0]
noncomputable def sounderlaw04_SpanSets_c51 : Code := subC (bodyC Try.f4) [1, 1, 1, 1, 1, 1, 1, 1, 0, 1, 0, 0, 1, 0, 0, 1, 1, 1, 1, 0, 0]
noncomputable def sounderlaw04_SpanSets_c50 : Code := .seq sounderlaw04_SpanSets_c51 Code.ret
noncomputable def sounderlaw04_SpanSets_c49 : Code := .cond (.tmp 89) sounderlaw04_SpanSets_c50 Code.skip
noncomputable def sounderlaw04_SpanSets_c47 : Code := .seq sounderlaw04_SpanSets_c48 sounderlaw04_SpanSets_c49
noncomputable def sounderlaw04_SpanSets_c45 : Code := .seq sounderlaw04_SpanSets_c46 sounderlaw04_SpanSets_c47
noncomputable def sounderlaw04_SpanSets_c39 : Code := .seq sounderlaw04_SpanSets_c40 sounderlaw04_SpanSets_c45
noncomputable def sounderlaw04_SpanSets_c37 : Code := .seq sounderlaw04_SpanSets_c38 sounderlaw04_SpanSets_c39
noncomputable def sounderlaw04_SpanSets_c36 : Code := .block 1 sounderlaw04_SpanSets_c37
noncomputable def sounderlaw04_SpanSets_c52 : Code := subC (bodyC Try.f4) [1, 1, 1, 1, 1, 1, 1, 1, 0, 1, 0, 0, 1, 1]
noncomputable def sounderlaw04_SpanSets_c35 : Code := .seq sounderlaw04_SpanSets_c36 sounderlaw04_SpanSets_c52
noncomputable def sounderlaw04_SpanSets_c30 : Code := .seq sounderlaw04_SpanSets_c31 sounderlaw04_SpanSets_c35
noncomputable def sounderlaw04_SpanSets_c29 : Code := .loop sounderlaw04_SpanSets_c30
noncomputable def sounderlaw04_SpanSets_c28 : Code := .block 0 sounderlaw04_SpanSets_c29
noncomputable def sounderlaw04_SpanSets_c26 : Code := .seq sounderlaw04_SpanSets_c27 sounderlaw04_SpanSets_c28
noncomputable def sounderlaw04_SpanSets_c55 : Code := subC (bodyC Try.f4) [1, 1, 1, 1, 1, 1, 1, 1, 1, 0, 0]
noncomputable def sounderlaw04_SpanSets_c58 : Code := subC (bodyC Try.f4) [1, 1, 1, 1, 1, 1, 1, 1, 1, 0, 1, 0, 0]
noncomputable def sounderlaw04_SpanSets_c57 : Code := .seq sounderlaw04_SpanSets_c58 Code.ret
noncomputable def sounderlaw04_SpanSets_c56 : Code := .cond (.tmp 105) sounderlaw04_SpanSets_c57 Code.skip
noncomputable def sounderlaw04_SpanSets_c54 : Code := .seq sounderlaw04_SpanSets_c55 sounderlaw04_SpanSets_c56
noncomputable def sounderlaw04_SpanSets_c60 : Code := subC (bodyC Try.f4) [1, 1, 1, 1, 1, 1, 1, 1, 1, 1, 0]
noncomputable def sounderlaw04_SpanSets_c62 : Code := subC (bodyC Try.f4) [1, 1, 1, 1, 1, 1, 1, 1, 1, 1, 1, 0]
noncomputable def sounderlaw04_SpanSets_c65 : Code := subC (bodyC Try.f4) [1, 1, 1, 1, 1, 1, 1, 1, 1, 1, 1, 1, 0, 0]
noncomputable def sounderlaw04_SpanSets_c70 : Code := subC (bodyC Try.f4) [1, 1, 1, 1, 1, 1, 1, 1, 1, 1, 1, 1, 0, 1, 0, 0, 0, 0]
noncomputable def sounderlaw04_SpanSets_c72 : Code := .exit 2
noncomputable def sounderlaw04_SpanSets_c71 : Code := .cond (.tmp 110) Code.skip sounderlaw04_SpanSets_c72
noncomputable def sounderlaw04_SpanSets_c69 : Code := .seq sounderlaw04_SpanSets_c70 sounderlaw04_SpanSets_c71
noncomputable def sounderlaw04_SpanSets_c75 : Code := subC (bodyC Try.f4) [1, 1, 1, 1, 1, 1, 1, 1, 1, 1, 1, 1, 0, 1, 0, 0, 1, 0, 0]
noncomputable def sounderlaw04_SpanSets_c74 : Code := .block 3 sounderlaw04_SpanSets_c75
noncomputable def sounderlaw04_SpanSets_c76 : Code := subC (bodyC Try.f4) [1, 1, 1, 1, 1, 1, 1, 1, 1, 1, 1, 1, 0, 1, 0, 0, 1, 1]
noncomputable def sounderlaw04_SpanSets_c73 : Code := .seq sounderlaw04_SpanSets_c74 sounderlaw04_SpanSets_c76
noncomputable def sounderlaw04_SpanSets_c68 : Code := .seq sounderlaw04_SpanSets_c69 sounderlaw04_SpanSets_c73
noncomputable def sounderlaw04_SpanSets_c67 : Code := .loop sounderlaw04_SpanSets_c68
noncomputable def sounderlaw04_SpanSets_c66 : Code := .block 2 sounderlaw04_SpanSets_c67
noncomputable def sounderlaw04_SpanSets_c64 : Code := .seq sounderlaw04_SpanSets_c65 sounderlaw04_SpanSets_c66
noncomputable def sounderlaw04_SpanSets_c78 : Code := subC (bodyC Try.f4) [1, 1, 1, 1, 1, 1, 1, 1, 1, 1, 1, 1, 1, 0]
noncomputable def sounderlaw04_SpanSets_c77 : Code := .seq sounderlaw04_SpanSets_c78 Code.ret
noncomputable def sounderlaw04_SpanSets_c63 : Code := .seq sounderlaw04_SpanSets_c64 sounderlaw04_SpanSets_c77
noncomputable def sounderlaw04_SpanSets_c61 : Code := .seq sounderlaw04_SpanSets_c62 sounderlaw04_SpanSets_c63
noncomputable def sounderlaw04_SpanSets_c59 : Code := .seq sounderlaw04_SpanSets_c60 sounderlaw04_SpanSets_c61
noncomputable def sounderlaw04_SpanSets_c53 : Code := .seq sounderlaw04_SpanSets_c54 sounderlaw04_SpanSets_c59
noncomputable def sounderlaw04_SpanSets_c25 : Code := .seq sounderlaw04_SpanSets_c26 sounderlaw04_SpanSets_c53
noncomputable def sounderlaw04_SpanSets_c23 : Code := .seq sounderlaw04_SpanSets_c24 sounderlaw04_SpanSets_c25
noncomputable def sounderlaw04_SpanSets_c17 : Code := .seq sounderlaw04_SpanSets_c18 sounderlaw04_SpanSets_c23
noncomputable def sounderlaw04_SpanSets_c15 : Code := .seq sounderlaw04_SpanSets_c16 sounderlaw04_SpanSets_c17
noncomputable def sounderlaw04_SpanSets_c13 : Code := .seq sounderlaw04_SpanSets_c14 sounderlaw04_SpanSets_c15
noncomputable def sounderlaw04_SpanSets_c11 : Code := .seq sounderlaw04_SpanSets_c12 sounderlaw04_SpanSets_c13
noncomputable def sounderlaw04_SpanSets_c9 : Code := .seq sounderlaw04_SpanSets_c10 sounderlaw04_SpanSets_c11
noncomputable def sounderlaw04_SpanSets_c3 : Code := .seq sounderlaw04_SpanSets_c4 sounderlaw04_SpanSets_c9
noncomputable def sounderlaw04_SpanSets_c1 : Code := .seq sounderlaw04_SpanSets_c2 sounderlaw04_SpanSets_c3
def sounderlaw04_SpanSets_pi (_ : Nat) : Pl := .nil
def sounderlaw04_SpanSets_g79 (S : Value → Value → Value → Heap → Prop) (x0 x1 x2 : Value) (H : Heap) : Prop :=
  S x0 x1 x2 H
theorem sounderlaw04_SpanSets_g79_e (S : Value → Value → Value → Heap → Prop) (x : Nat → Value) (H : Heap) : wpE tab P sounderlaw04_SpanSets_pi sounderlaw04_SpanSets_c2 (nQ fun l H => S (l.getD 0 undef) (l.getD 1 undef) (l.getD 2 undef) H) ((List.range 132).map x) H = sounderlaw04_SpanSets_g79 S (x 0) (x 1) (x 2) H := by kernel_rfl
def sounderlaw04_SpanSets_g80 (S : Value → Value → Value → Value → Heap → Prop) (x0 x1 x2 : Value) (H : Heap) : Prop :=
  EvF P N.sounderlaw04_works #[] H fun v18 H1 =>
  bnd (unV .not v18) fun v19 =>
  S x0 x1 x2 v19 H1
theorem sounderlaw04_SpanSets_g80_e (S : Value → Value → Value → Value → Heap → Prop) (x : Nat → Value) (H : Heap) : wpE tab P sounderlaw04_SpanSets_pi sounderlaw04_SpanSets_c5 (nQ fun l H => S (l.getD 0 undef) (l.getD 1 undef) (l.getD 2 undef) (l.getD 19 undef) H) ((List.range 132).map x) H = sounderlaw04_SpanSets_g80 S (x 0) (x 1) (x 2) H := by kernel_rfl
def sounderlaw04_SpanSets_g81 (S : Value → Heap → Prop) (H : Heap) : Prop :=
  S (.bool false) H
theorem sounderlaw04_SpanSets_g81_e (S : Value → Heap → Prop) (x : Nat → Value) (H : Heap) : wpE tab P sounderlaw04_SpanSets_pi sounderlaw04_SpanSets_c8 (nQ fun l H => S (l.getD 6 undef) H) ((List.range 132).map x) H = sounderlaw04_SpanSets_g81 S  H := by kernel_rfl
def sounderlaw04_SpanSets_g82 (S : Value → Value → Value → Heap → Prop) (x0 x1 x2 : Value) (H : Heap) : Prop :=
  bnd (lenV x0) fun v22 =>
  bnd (foldV min2V v22 [(.int .i64 40)]) fun v23 =>
  bnd (sliceV 2 x0 none (some v23)) fun v24 =>
  S v24 x1 x2 H
theorem sounderlaw04_SpanSets_g82_e (S : Value → Value → Value → Heap → Prop) (x : Nat → Value) (H : Heap) : wpE tab P sounderlaw04_SpanSets_pi sounderlaw04_SpanSets_c10 (nQ fun l H => S (l.getD 0 undef) (l.getD 1 undef) (l.getD 2 undef) H) ((List.range 132).map x) H = sounderlaw04_SpanSets_g82 S (x 0) (x 1) (x 2) H := by kernel_rfl
def sounderlaw04_SpanSets_g83 (S : Value → Value → Value → Heap → Prop) (x0 x1 x2 : Value) (H : Heap) : Prop :=
  EvF P N.sounderref00_Bring #[x1, (.int .i64 101)] H fun v26 H1 =>
  S x0 v26 x2 H1
theorem sounderlaw04_SpanSets_g83_e (S : Value → Value → Value → Heap → Prop) (x : Nat → Value) (H : Heap) : wpE tab P sounderlaw04_SpanSets_pi sounderlaw04_SpanSets_c12 (nQ fun l H => S (l.getD 0 undef) (l.getD 1 undef) (l.getD 2 undef) H) ((List.range 132).map x) H = sounderlaw04_SpanSets_g83 S (x 0) (x 1) (x 2) H := by kernel_rfl
def sounderlaw04_SpanSets_g84 (S : Value → Value → Value → Value → Value → Heap → Prop) (x0 x1 x2 : Value) (H : Heap) : Prop :=
  EvF P N.span_New #[(.int .i64 256)] H fun v28 H1 =>
  bnd (exV 0 v28) fun v29 =>
  bnd (exV 1 v28) fun v30 =>
  S x0 x1 x2 v29 v30 H1
theorem sounderlaw04_SpanSets_g84_e (S : Value → Value → Value → Value → Value → Heap → Prop) (x : Nat → Value) (H : Heap) : wpE tab P sounderlaw04_SpanSets_pi sounderlaw04_SpanSets_c14 (nQ fun l H => S (l.getD 0 undef) (l.getD 1 undef) (l.getD 2 undef) (l.getD 7 undef) (l.getD 8 undef) H) ((List.range 132).map x) H = sounderlaw04_SpanSets_g84 S (x 0) (x 1) (x 2) H := by kernel_rfl
def sounderlaw04_SpanSets_g85 (S : Value → Value → Value → Value → Value → Value → Value → Heap → Prop) (x0 x1 x2 x7 x8 : Value) (H : Heap) : Prop :=
  EvF P N.span_New #[(.int .i64 256)] H fun v32 H1 =>
  bnd (exV 0 v32) fun v33 =>
  bnd (exV 1 v32) fun v34 =>
  S x0 x1 x2 x7 x8 v33 v34 H1
theorem sounderlaw04_SpanSets_g85_e (S : Value → Value → Value → Value → Value → Value → Value → Heap → Prop) (x : Nat → Value) (H : Heap) : wpE tab P sounderlaw04_SpanSets_pi sounderlaw04_SpanSets_c16 (nQ fun l H => S (l.getD 0 undef) (l.getD 1 undef) (l.getD 2 undef) (l.getD 7 undef) (l.getD 8 undef) (l.getD 9 undef) (l.getD 10 undef) H) ((List.range 132).map x) H = sounderlaw04_SpanSets_g85 S (x 0) (x 1) (x 2) (x 7) (x 8) H := by kernel_rfl
def sounderlaw04_SpanSets_g86 (S : Value → Value → Value → Value → Value → Value → Heap → Prop) (x0 x1 x2 x7 x8 x9 x10 : Value) (H : Heap) : Prop :=
  bnd (binV .int .neq x8 (.int .i64 0)) fun v36 =>
  brV v36
  (S x0 x1 x2 x7 x9 (.bool true) H)
  (bnd (binV .int .neq x10 (.int .i64 0)) fun v39 =>
  S x0 x1 x2 x7 x9 v39 H)
theorem sounderlaw04_SpanSets_g86_e (S : Value → Value → Value → Value → Value → Value → Heap → Prop) (x : Nat → Value) (H : Heap) : wpE tab P sounderlaw04_SpanSets_pi sounderlaw04_SpanSets_c19 (nQ fun l H => S (l.getD 0 undef) (l.getD 1 undef) (l.getD 2 undef) (l.getD 7 undef) (l.getD 9 undef) (l.getD 40 undef) H) ((List.range 132).map x) H = sounderlaw04_SpanSets_g86 S (x 0) (x 1) (x 2) (x 7) (x 8) (x 9) (x 10) H := by kernel_rfl
def sounderlaw04_SpanSets_g87 (S : Value → Heap → Prop) (H : Heap) : Prop :=
  S (.bool false) H
theorem sounderlaw04_SpanSets_g87_e (S : Value → Heap → Prop) (x : Nat → Value) (H : Heap) : wpE tab P sounderlaw04_SpanSets_pi sounderlaw04_SpanSets_c22 (nQ fun l H => S (l.getD 6 undef) H) ((List.range 132).map x) H = sounderlaw04_SpanSets_g87 S  H := by kernel_rfl
def sounderlaw04_SpanSets_g88 (S : Value → Value → Value → Value → Value → Heap → Prop) (x0 x1 x2 x7 x9 : Value) (H : Heap) : Prop :=
  bnd (lenV x0) fun v43 =>
  bnd (binV .int .add v43 (.int .i64 1)) fun v44 =>
  EvF P N.sounderref00_Bring #[x2, v44] H fun v45 H1 =>
  S x0 x1 x7 x9 v45 H1
theorem sounderlaw04_SpanSets_g88_e (S : Value → Value → Value → Value → Value → Heap → Prop) (x : Nat → Value) (H : Heap) : wpE tab P sounderlaw04_SpanSets_pi sounderlaw04_SpanSets_c24 (nQ fun l H => S (l.getD 0 undef) (l.getD 1 undef) (l.getD 7 undef) (l.getD 9 undef) (l.getD 11 undef) H) ((List.range 132).map x) H = sounderlaw04_SpanSets_g88 S (x 0) (x 1) (x 2) (x 7) (x 9) H := by kernel_rfl
def sounderlaw04_SpanSets_g89 (S : Value → Value → Value → Value → Value → Value → Heap → Prop) (x0 x1 x7 x9 x11 : Value) (H : Heap) : Prop :=
  S x0 x1 x7 x9 x11 (.int .i64 0) H
theorem sounderlaw04_SpanSets_g89_e (S : Value → Value → Value → Value → Value → Value → Heap → Prop) (x : Nat → Value) (H : Heap) : wpE tab P sounderlaw04_SpanSets_pi sounderlaw04_SpanSets_c27 (nQ fun l H => S (l.getD 0 undef) (l.getD 1 undef) (l.getD 7 undef) (l.getD 9 undef) (l.getD 11 undef) (l.getD 12 undef) H) ((List.range 132).map x) H = sounderlaw04_SpanSets_g89 S (x 0) (x 1) (x 7) (x 9) (x 11) H := by kernel_rfl
def sounderlaw04_SpanSets_g91 (S : Value → Value → Value → Value → Value → Value → Value → Heap → Prop) (x0 x1 x7 x9 x11 x12 : Value) (H : Heap) : Prop :=
  bnd (lenV x0) fun v48 =>
  bnd (binV .int .lss x12 v48) fun v49 =>
  S x0 x1 x7 x9 x11 x12 v49 H
theorem sounderlaw04_SpanSets_g91_e (S : Value → Value → Value → Value → Value → Value → Value → Heap → Prop) (x : Nat → Value) (H : Heap) : wpE tab P sounderlaw04_SpanSets_pi sounderlaw04_SpanSets_c32 (nQ fun l H => S (l.getD 0 undef) (l.getD 1 undef) (l.getD 7 undef) (l.getD 9 undef) (l.getD 11 undef) (l.getD 12 undef) (l.getD 49 undef) H) ((List.range 132).map x) H = sounderlaw04_SpanSets_g91 S (x 0) (x 1) (x 7) (x 9) (x 11) (x 12) H := by kernel_rfl
def sounderlaw04_SpanSets_g92 (S : Value → Value → Value → Value → Value → Value → Value → Value → Heap → Prop) (x0 x1 x7 x9 x11 x12 : Value) (H : Heap) : Prop :=
  bnd (ixSV 2 x0 x12) fun v55 =>
  bnd (ldE true 2 v55 H) fun v56 =>
  EvF P N.sounderlaw04_row #[v56] H fun v57 H1 =>
  bnd (exV 0 v57) fun v58 =>
  bnd (exV 1 v57) fun v59 =>
  S x0 x1 x7 x9 x11 x12 v58 v59 H1
theorem sounderlaw04_SpanSets_g92_e (S : Value → Value → Value → Value → Value → Value → Value → Value → Heap → Prop) (x : Nat → Value) (H : Heap) : wpE tab P sounderlaw04_SpanSets_pi sounderlaw04_SpanSets_c38 (nQ fun l H => S (l.getD 0 undef) (l.getD 1 undef) (l.getD 7 undef) (l.getD 9 undef) (l.getD 11 undef) (l.getD 12 undef) (l.getD 13 undef) (l.getD 14 undef) H) ((List.range 132).map x) H = sounderlaw04_SpanSets_g92 S (x 0) (x 1) (x 7) (x 9) (x 11) (x 12) H := by kernel_rfl
def sounderlaw04_SpanSets_g93 (S : Value → Value → Value → Value → Value → Value → Value → Heap → Prop) (x0 x1 x7 x9 x11 x12 x13 x14 : Value) (H : Heap) : Prop :=
  EvF P N.span_Set_Add #[x7, x13, x14] H fun v63 H1 =>
  bnd (binV .int .neq v63 (.int .i64 0)) fun v64 =>
  brV v64
  (S x0 x1 x7 x9 x11 x12 (.bool true) H1)
  (EvF P N.span_Set_Add #[x7, x13, x13] H1 fun v69 H2 =>
  bnd (binV .int .neq v69 (.int .i64 0)) fun v70 =>
  S x0 x1 x7 x9 x11 x12 v70 H2)
theorem sounderlaw04_SpanSets_g93_e (S : Value → Value → Value → Value → Value → Value → Value → Heap → Prop) (x : Nat → Value) (H : Heap) : wpE tab P sounderlaw04_SpanSets_pi sounderlaw04_SpanSets_c41 (nQ fun l H => S (l.getD 0 undef) (l.getD 1 undef) (l.getD 7 undef) (l.getD 9 undef) (l.getD 11 undef) (l.getD 12 undef) (l.getD 71 undef) H) ((List.range 132).map x) H = sounderlaw04_SpanSets_g93 S (x 0) (x 1) (x 7) (x 9) (x 11) (x 12) (x 13) (x 14) H := by kernel_rfl
def sounderlaw04_SpanSets_g94 (S : Value → Heap → Prop) (H : Heap) : Prop :=
  S (.bool false) H
theorem sounderlaw04_SpanSets_g94_e (S : Value → Heap → Prop) (x : Nat → Value) (H : Heap) : wpE tab P sounderlaw04_SpanSets_pi sounderlaw04_SpanSets_c44 (nQ fun l H => S (l.getD 6 undef) H) ((List.range 132).map x) H = sounderlaw04_SpanSets_g94 S  H := by kernel_rfl
def sounderlaw04_SpanSets_g95 (S : Value → Value → Value → Value → Value → Value → Value → Value → Heap → Prop) (x0 x1 x7 x9 x11 x12 : Value) (H : Heap) : Prop :=
  bnd (binV .int .add x12 x11) fun v76 =>
  bnd (lenV x0) fun v78 =>
  bnd (binV .int .rem v76 v78) fun v79 =>
  bnd (ixSV 2 x0 v79) fun v80 =>
  bnd (ldE true 2 v80 H) fun v81 =>
  EvF P N.sounderlaw04_row #[v81] H fun v82 H1 =>
  bnd (exV 0 v82) fun v83 =>
  bnd (exV 1 v82) fun v84 =>
  S x0 x1 x7 x9 x11 x12 v83 v84 H1
theorem sounderlaw04_SpanSets_g95_e (S : Value → Value → Value → Value → Value → Value → Value → Value → Heap → Prop) (x : Nat → Value) (H : Heap) : wpE tab P sounderlaw04_SpanSets_pi sounderlaw04_SpanSets_c46 (nQ fun l H => S (l.getD 0 undef) (l.getD 1 undef) (l.getD 7 undef) (l.getD 9 undef) (l.getD 11 undef) (l.getD 12 undef) (l.getD 13 undef) (l.getD 14 undef) H) ((List.range 132).map x) H = sounderlaw04_SpanSets_g95 S (x 0) (x 1) (x 7) (x 9) (x 11) (x 12) H := by kernel_rfl
def sounderlaw04_SpanSets_g96 (S : Value → Value → Value → Value → Value → Value → Value → Heap → Prop) (x0 x1 x7 x9 x11 x12 x13 x14 : Value) (H : Heap) : Prop :=
  EvF P N.span_Set_Add #[x9, x13, x14] H fun v88 H1 =>
  bnd (binV .int .neq v88 (.int .i64 0)) fun v89 =>
  S x0 x1 x7 x9 x11 x12 v89 H1
theorem sounderlaw04_SpanSets_g96_e (S : Value → Value → Value → Value → Value → Value → Value → Heap → Prop) (x : Nat → Value) (H : Heap) : wpE tab P sounderlaw04_SpanSets_pi sounderlaw04_SpanSets_c48 (nQ fun l H => S (l.getD 0 undef) (l.getD 1 undef) (l.getD 7 undef) (l.getD 9 undef) (l.getD 11 undef) (l.getD 12 undef) (l.getD 89 undef) H) ((List.range 132).map x) H = sounderlaw04_SpanSets_g96 S (x 0) (x 1) (x 7) (x 9) (x 11) (x 12) (x 13) (x 14) H := by kernel_rfl
def sounderlaw04_SpanSets_g97 (S : Value → Heap → Prop) (H : Heap) : Prop :=
  S (.bool false) H
theorem sounderlaw04_SpanSets_g97_e (S : Value → Heap → Prop) (x : Nat → Value) (H : Heap) : wpE tab P sounderlaw04_SpanSets_pi sounderlaw04_SpanSets_c51 (nQ fun l H => S (l.getD 6 undef) H) ((List.range 132).map x) H = sounderlaw04_SpanSets_g97 S  H := by kernel_rfl
def sounderlaw04_SpanSets_g98 (S : Value → Value → Value → Value → Value → Value → Heap → Prop) (x0 x1 x7 x9 x11 x12 : Value) (H : Heap) : Prop :=
  bnd (binV .int .add x12 (.int .i64 1)) fun v51 =>
  S x0 x1 x7 x9 x11 v51 H
theorem sounderlaw04_SpanSets_g98_e (S : Value → Value → Value → Value → Value → Value → Heap → Prop) (x : Nat → Value) (H : Heap) : wpE tab P sounderlaw04_SpanSets_pi sounderlaw04_SpanSets_c52 (nQ fun l H => S (l.getD 0 undef) (l.getD 1 undef) (l.getD 7 undef) (l.getD 9 undef) (l.getD 11 undef) (l.getD 12 undef) H) ((List.range 132).map x) H = sounderlaw04_SpanSets_g98 S (x 0) (x 1) (x 7) (x 9) (x 11) (x 12) H := by kernel_rfl
def sounderlaw04_SpanSets_g99 (S : Value → Value → Value → Value → Value → Heap → Prop) (x0 x1 x7 x9 : Value) (H : Heap) : Prop :=
  EvF P N.span_Set_Same #[x7, x9] H fun v92 H1 =>
  bnd (unV .not v92) fun v93 =>
  brV v93
  (S x0 x1 x7 x9 (.bool true) H1)
  (EvF P N.span_Set_Cut #[x7, x1] H1 fun v97 H2 =>
  bnd (binV .int .neq v97 (.int .i64 0)) fun v98 =>
  brV v98
  (S x0 x1 x7 x9 (.bool true) H2)
  (EvF P N.span_Set_Cut #[x9, x1] H2 fun v103 H3 =>
  bnd (binV .int .neq v103 (.int .i64 0)) fun v104 =>
  S x0 x1 x7 x9 v104 H3))
theorem sounderlaw04_SpanSets_g99_e (S : Value → Value → Value → Value → Value → Heap → Prop) (x : Nat → Value) (H : Heap) : wpE tab P sounderlaw04_SpanSets_pi sounderlaw04_SpanSets_c55 (nQ fun l H => S (l.getD 0 undef) (l.getD 1 undef) (l.getD 7 undef) (l.getD 9 undef) (l.getD 105 undef) H) ((List.range 132).map x) H = sounderlaw04_SpanSets_g99 S (x 0) (x 1) (x 7) (x 9) H := by kernel_rfl
def sounderlaw04_SpanSets_g100 (S : Value → Heap → Prop) (H : Heap) : Prop :=
  S (.bool false) H
theorem sounderlaw04_SpanSets_g100_e (S : Value → Heap → Prop) (x : Nat → Value) (H : Heap) : wpE tab P sounderlaw04_SpanSets_pi sounderlaw04_SpanSets_c58 (nQ fun l H => S (l.getD 6 undef) H) ((List.range 132).map x) H = sounderlaw04_SpanSets_g100 S  H := by kernel_rfl
def sounderlaw04_SpanSets_g101 (S : Value → Value → Value → Value → Value → Heap → Prop) (x0 x1 x7 x9 : Value) (H : Heap) : Prop :=
  S x0 x1 x7 x9 (.int .i64 0) H
theorem sounderlaw04_SpanSets_g101_e (S : Value → Value → Value → Value → Value → Heap → Prop) (x : Nat → Value) (H : Heap) : wpE tab P sounderlaw04_SpanSets_pi sounderlaw04_SpanSets_c60 (nQ fun l H => S (l.getD 0 undef) (l.getD 1 undef) (l.getD 7 undef) (l.getD 9 undef) (l.getD 15 undef) H) ((List.range 132).map x) H = sounderlaw04_SpanSets_g101 S (x 0) (x 1) (x 7) (x 9) H := by kernel_rfl
def sounderlaw04_SpanSets_g102 (S : Value → Value → Value → Value → Heap → Prop) (x0 x1 x7 x9 x15 : Value) (H : Heap) : Prop :=
  EvF P N.sounderlaw04_bits #[x0, x1] H fun v108 H1 =>
  newE 40 (zeros 101) H1 fun v16 H2 =>
  bnd (stE 101 v16 v108 H2) fun H3 =>
  S x7 x9 x15 v16 H3
theorem sounderlaw04_SpanSets_g102_e (S : Value → Value → Value → Value → Heap → Prop) (x : Nat → Value) (H : Heap) : wpE tab P sounderlaw04_SpanSets_pi sounderlaw04_SpanSets_c62 (nQ fun l H => S (l.getD 7 undef) (l.getD 9 undef) (l.getD 15 undef) (l.getD 16 undef) H) ((List.range 132).map x) H = sounderlaw04_SpanSets_g102 S (x 0) (x 1) (x 7) (x 9) (x 15) H := by kernel_rfl
def sounderlaw04_SpanSets_g103 (S : Value → Value → Value → Value → Value → Heap → Prop) (x7 x9 x15 x16 : Value) (H : Heap) : Prop :=
  S x7 x9 x15 x16 (.int .i64 0) H
theorem sounderlaw04_SpanSets_g103_e (S : Value → Value → Value → Value → Value → Heap → Prop) (x : Nat → Value) (H : Heap) : wpE tab P sounderlaw04_SpanSets_pi sounderlaw04_SpanSets_c65 (nQ fun l H => S (l.getD 7 undef) (l.getD 9 undef) (l.getD 15 undef) (l.getD 16 undef) (l.getD 17 undef) H) ((List.range 132).map x) H = sounderlaw04_SpanSets_g103 S (x 7) (x 9) (x 15) (x 16) H := by kernel_rfl
def sounderlaw04_SpanSets_g105 (S : Value → Value → Value → Value → Value → Value → Heap → Prop) (x7 x9 x15 x16 x17 : Value) (H : Heap) : Prop :=
  bnd (binV .int .lss x17 (.int .i64 101)) fun v110 =>
  S x7 x9 x15 x16 x17 v110 H
theorem sounderlaw04_SpanSets_g105_e (S : Value → Value → Value → Value → Value → Value → Heap → Prop) (x : Nat → Value) (H : Heap) : wpE tab P sounderlaw04_SpanSets_pi sounderlaw04_SpanSets_c70 (nQ fun l H => S (l.getD 7 undef) (l.getD 9 undef) (l.getD 15 undef) (l.getD 16 undef) (l.getD 17 undef) (l.getD 110 undef) H) ((List.range 132).map x) H = sounderlaw04_SpanSets_g105 S (x 7) (x 9) (x 15) (x 16) (x 17) H := by kernel_rfl
def sounderlaw04_SpanSets_g106 (S : Value → Value → Value → Value → Value → Heap → Prop) (x7 x9 x15 x16 x17 : Value) (H : Heap) : Prop :=
  bnd (ixAV 1 101 x16 x17) fun v115 =>
  bnd (ldE false 1 v115 H) fun v116 =>
  bnd (binV .int .add x15 v116) fun v117 =>
  S x7 x9 v117 x16 x17 H
theorem sounderlaw04_SpanSets_g106_e (S : Value → Value → Value → Value → Value → Heap → Prop) (x : Nat → Value) (H : Heap) : wpE tab P sounderlaw04_SpanSets_pi sounderlaw04_SpanSets_c75 (nQ fun l H => S (l.getD 7 undef) (l.getD 9 undef) (l.getD 15 undef) (l.getD 16 undef) (l.getD 17 undef) H) ((List.range 132).map x) H = sounderlaw04_SpanSets_g106 S (x 7) (x 9) (x 15) (x 16) (x 17) H := by kernel_rfl
def sounderlaw04_SpanSets_g107 (S : Value → Value → Value → Value → Value → Heap → Prop) (x7 x9 x15 x16 x17 : Value) (H : Heap) : Prop :=
  bnd (binV .int .add x17 (.int .i64 1)) fun v112 =>
  S x7 x9 x15 x16 v112 H
theorem sounderlaw04_SpanSets_g107_e (S : Value → Value → Value → Value → Value → Heap → Prop) (x : Nat → Value) (H : Heap) : wpE tab P sounderlaw04_SpanSets_pi sounderlaw04_SpanSets_c76 (nQ fun l H => S (l.getD 7 undef) (l.getD 9 undef) (l.getD 15 undef) (l.getD 16 undef) (l.getD 17 undef) H) ((List.range 132).map x) H = sounderlaw04_SpanSets_g107 S (x 7) (x 9) (x 15) (x 16) (x 17) H := by kernel_rfl
def sounderlaw04_SpanSets_g108 (S : Value → Heap → Prop) (x7 x9 x15 x16 : Value) (H : Heap) : Prop :=
  bnd (ldE true 101 x16 H) fun v119 =>
  EvF P N.sounderlaw04_is #[x7, v119] H fun v120 H1 =>
  brV v120
  (EvF P N.span_Set_Same #[x7, x9] H1 fun v124 H2 =>
  brV v124
  (EvF P N.span_Set_Count #[x7] H2 fun v128 H3 =>
  bnd (binV .int .eql v128 x15) fun v130 =>
  S v130 H3)
  (S (.bool false) H2))
  (S (.bool false) H1)
theorem sounderlaw04_SpanSets_g108_e (S : Value → Heap → Prop) (x : Nat → Value) (H : Heap) : wpE tab P sounderlaw04_SpanSets_pi sounderlaw04_SpanSets_c78 (nQ fun l H => S (l.getD 6 undef) H) ((List.range 132).map x) H = sounderlaw04_SpanSets_g108 S (x 7) (x 9) (x 15) (x 16) H := by kernel_rfl
def sounderlaw04_SpanSets_s104 (x7 x9 x15 x16 x17 : Value) (K2 : Value → Value → Value → Value → Value →  Heap → Prop) (R : Value → Heap → Prop) (H : Heap) : Prop :=
  sounderlaw04_SpanSets_g105 (fun x7 x9 x15 x16 x17 x110 H => brV x110
  (sounderlaw04_SpanSets_g106 (fun x7 x9 x15 x16 x17 H => sounderlaw04_SpanSets_g107 (fun x7 x9 x15 x16 x17 H => K2 x7 x9 x15 x16 x17 H) x7 x9 x15 x16 x17 H) x7 x9 x15 x16 x17 H)
  (sounderlaw04_SpanSets_g108 (fun x6 H => R x6 H) x7 x9 x15 x16 H)) x7 x9 x15 x16 x17 H
noncomputable def sounderlaw04_SpanSets_q109 (R : Value → Heap → Prop) : Exit → List Value → Heap → Prop := (retQ tab sounderlaw04_SpanSets_rs R)
noncomputable def sounderlaw04_SpanSets_q110 (R : Value → Heap → Prop) : Exit → List Value → Heap → Prop := (thenE (fun l H => wpE tab P sounderlaw04_SpanSets_pi sounderlaw04_SpanSets_c77 (sounderlaw04_SpanSets_q109 R) l H) (sounderlaw04_SpanSets_q109 R))
noncomputable def sounderlaw04_SpanSets_q111 (R : Value → Heap → Prop) : Exit → List Value → Heap → Prop := (blkE 2 (sounderlaw04_SpanSets_q110 R))
noncomputable def sounderlaw04_SpanSets_q112 (K2 : Value → Value → Value → Value → Value →  Heap → Prop) (R : Value → Heap → Prop) : Exit → List Value → Heap → Prop := (thenE (fun l H => K2 (l.getD 7 undef) (l.getD 9 undef) (l.getD 15 undef) (l.getD 16 undef) (l.getD 17 undef) H) (sounderlaw04_SpanSets_q111 R))
theorem sounderlaw04_SpanSets_s104_i (K2 : Value → Value → Value → Value → Value →  Heap → Prop) (R : Value → Heap → Prop) (l : List Value) (H : Heap) (hl : l.length = 132) (h : sounderlaw04_SpanSets_s104 (l.getD 7 undef) (l.getD 9 undef) (l.getD 15 undef) (l.getD 16 undef) (l.getD 17 undef) K2 R H) : wpE tab P sounderlaw04_SpanSets_pi sounderlaw04_SpanSets_c68 (sounderlaw04_SpanSets_q112 K2 R) l H := by
  refine seqI (c := sounderlaw04_SpanSets_c68) rfl ?_
  refine seqI (c := sounderlaw04_SpanSets_c69) rfl ?_
  refine regI hl (Eq.mpr (sounderlaw04_SpanSets_g105_e _ (fun i => l.getD i undef) _) h) ?_
  clear h hl
  intro l H hl h
  refine thenN ?_
  refine condI (c := sounderlaw04_SpanSets_c71) rfl h ?_ ?_
  · clear h; intro h
    refine skipI rfl ?_
    refine thenN ?_
    refine seqI (c := sounderlaw04_SpanSets_c73) rfl ?_
    refine blockI (c := sounderlaw04_SpanSets_c74) rfl ?_
    refine regI hl (Eq.mpr (sounderlaw04_SpanSets_g106_e _ (fun i => l.getD i undef) _) h) ?_
    clear h hl
    intro l H hl h
    refine blkN ?_
    refine thenN ?_
    refine regI hl (Eq.mpr (sounderlaw04_SpanSets_g107_e _ (fun i => l.getD i undef) _) h) ?_
    clear h hl
    intro l H hl h
    refine thenN ?_
    exact h
  · clear h; intro h
    refine exitI (c := sounderlaw04_SpanSets_c72) rfl ?_
    refine thenX ?_
    refine thenX ?_
    refine blkX ?_
    refine thenN ?_
    refine seqI (c := sounderlaw04_SpanSets_c77) rfl ?_
    refine regI hl (Eq.mpr (sounderlaw04_SpanSets_g108_e _ (fun i => l.getD i undef) _) h) ?_
    clear h hl
    intro l H hl h
    refine thenN ?_
    refine retI rfl ?_
    exact h
def sounderlaw04_SpanSets_l113 (x7 x9 x15 x16 x17 : Value) (R : Value → Heap → Prop) (H : Heap) : Prop :=
  ∃ (I : Value → Value → Heap → Prop) (μ : Value → Value → Heap → Nat), I x15 x17 H ∧ ∀ (y15 : Value) (y17 : Value) (H : Heap), I y15 y17 H → sounderlaw04_SpanSets_s104 x7 x9 y15 x16 y17 (fun z7 z9 z15 z16 z17 H' => z7 = x7 ∧ z9 = x9 ∧ z16 = x16 ∧ (I z15 z17 H' ∧ μ z15 z17 H' < μ y15 y17 H)) R H
def sounderlaw04_SpanSets_s90 (x0 x1 x7 x9 x11 x12 : Value) (K1 : Value → Value → Value → Value → Value → Value →  Heap → Prop) (R : Value → Heap → Prop) (H : Heap) : Prop :=
  sounderlaw04_SpanSets_g91 (fun x0 x1 x7 x9 x11 x12 x49 H => brV x49
  (sounderlaw04_SpanSets_g92 (fun x0 x1 x7 x9 x11 x12 x13 x14 H => sounderlaw04_SpanSets_g93 (fun x0 x1 x7 x9 x11 x12 x71 H => brV x71
  (sounderlaw04_SpanSets_g94 (fun x6 H => R x6 H) H)
  (sounderlaw04_SpanSets_g95 (fun x0 x1 x7 x9 x11 x12 x13 x14 H => sounderlaw04_SpanSets_g96 (fun x0 x1 x7 x9 x11 x12 x89 H => brV x89
  (sounderlaw04_SpanSets_g97 (fun x6 H => R x6 H) H)
  (sounderlaw04_SpanSets_g98 (fun x0 x1 x7 x9 x11 x12 H => K1 x0 x1 x7 x9 x11 x12 H) x0 x1 x7 x9 x11 x12 H)) x0 x1 x7 x9 x11 x12 x13 x14 H) x0 x1 x7 x9 x11 x12 H)) x0 x1 x7 x9 x11 x12 x13 x14 H) x0 x1 x7 x9 x11 x12 H)
  (sounderlaw04_SpanSets_g99 (fun x0 x1 x7 x9 x105 H => brV x105
  (sounderlaw04_SpanSets_g100 (fun x6 H => R x6 H) H)
  (sounderlaw04_SpanSets_g101 (fun x0 x1 x7 x9 x15 H => sounderlaw04_SpanSets_g102 (fun x7 x9 x15 x16 H => sounderlaw04_SpanSets_g103 (fun x7 x9 x15 x16 x17 H => sounderlaw04_SpanSets_l113 x7 x9 x15 x16 x17 R H) x7 x9 x15 x16 H) x0 x1 x7 x9 x15 H) x0 x1 x7 x9 H)) x0 x1 x7 x9 H)) x0 x1 x7 x9 x11 x12 H
noncomputable def sounderlaw04_SpanSets_q114 (R : Value → Heap → Prop) : Exit → List Value → Heap → Prop := (thenE (fun l H => wpE tab P sounderlaw04_SpanSets_pi sounderlaw04_SpanSets_c53 (sounderlaw04_SpanSets_q109 R) l H) (sounderlaw04_SpanSets_q109 R))
noncomputable def sounderlaw04_SpanSets_q115 (R : Value → Heap → Prop) : Exit → List Value → Heap → Prop := (blkE 0 (sounderlaw04_SpanSets_q114 R))
noncomputable def sounderlaw04_SpanSets_q116 (K1 : Value → Value → Value → Value → Value → Value →  Heap → Prop) (R : Value → Heap → Prop) : Exit → List Value → Heap → Prop := (thenE (fun l H => K1 (l.getD 0 undef) (l.getD 1 undef) (l.getD 7 undef) (l.getD 9 undef) (l.getD 11 undef) (l.getD 12 undef) H) (sounderlaw04_SpanSets_q115 R))
theorem sounderlaw04_SpanSets_s90_i (K1 : Value → Value → Value → Value → Value → Value →  Heap → Prop) (R : Value → Heap → Prop) (l : List Value) (H : Heap) (hl : l.length = 132) (h : sounderlaw04_SpanSets_s90 (l.getD 0 undef) (l.getD 1 undef) (l.getD 7 undef) (l.getD 9 undef) (l.getD 11 undef) (l.getD 12 undef) K1 R H) : wpE tab P sounderlaw04_SpanSets_pi sounderlaw04_SpanSets_c30 (sounderlaw04_SpanSets_q116 K1 R) l H := by
  refine seqI (c := sounderlaw04_SpanSets_c30) rfl ?_
  refine seqI (c := sounderlaw04_SpanSets_c31) rfl ?_
  refine regI hl (Eq.mpr (sounderlaw04_SpanSets_g91_e _ (fun i => l.getD i undef) _) h) ?_
  clear h hl
  intro l H hl h
  refine thenN ?_
  refine condI (c := sounderlaw04_SpanSets_c33) rfl h ?_ ?_
  · clear h; intro h
    refine skipI rfl ?_
    refine thenN ?_
    refine seqI (c := sounderlaw04_SpanSets_c35) rfl ?_
    refine blockI (c := sounderlaw04_SpanSets_c36) rfl ?_
    refine seqI (c := sounderlaw04_SpanSets_c37) rfl ?_
    refine regI hl (Eq.mpr (sounderlaw04_SpanSets_g92_e _ (fun i => l.getD i undef) _) h) ?_
    clear h hl
    intro l H hl h
    refine thenN ?_
    refine seqI (c := sounderlaw04_SpanSets_c39) rfl ?_
    refine seqI (c := sounderlaw04_SpanSets_c40) rfl ?_
    refine regI hl (Eq.mpr (sounderlaw04_SpanSets_g93_e _ (fun i => l.getD i undef) _) h) ?_
    clear h hl
    intro l H hl h
    refine thenN ?_
    refine condI (c := sounderlaw04_SpanSets_c42) rfl h ?_ ?_
    · clear h; intro h
      refine seqI (c := sounderlaw04_SpanSets_c43) rfl ?_
      refine regI hl (Eq.mpr (sounderlaw04_SpanSets_g94_e _ (fun i => l.getD i undef) _) h) ?_
      clear h hl
      intro l H hl h
      refine thenN ?_
      refine retI rfl ?_
      refine thenR ?_
      refine blkR ?_
      refine thenR ?_
      refine thenR ?_
      refine blkR ?_
      refine thenR ?_
      exact h
    · clear h; intro h
      refine skipI rfl ?_
      refine thenN ?_
      refine seqI (c := sounderlaw04_SpanSets_c45) rfl ?_
      refine regI hl (Eq.mpr (sounderlaw04_SpanSets_g95_e _ (fun i => l.getD i undef) _) h) ?_
      clear h hl
      intro l H hl h
      refine thenN ?_
      refine seqI (c := sounderlaw04_SpanSets_c47) rfl ?_
      refine regI hl (Eq.mpr (sounderlaw04_SpanSets_g96_e _ (fun i => l.getD i undef) _) h) ?_
      clear h hl
      intro l H hl h
      refine thenN ?_
      refine condI (c := sounderlaw04_SpanSets_c49) rfl h ?_ ?_
      · clear h; intro h
        refine seqI (c := sounderlaw04_SpanSets_c50) rfl ?_
        refine regI hl (Eq.mpr (sounderlaw04_SpanSets_g97_e _ (fun i => l.getD i undef) _) h) ?_
        clear h hl
        intro l H hl h
        refine thenN ?_
        refine retI rfl ?_
        refine blkR ?_
        refine thenR ?_
        refine thenR ?_
        refine blkR ?_
        refine thenR ?_
        exact h
      · clear h; intro h
        refine skipI rfl ?_
        refine blkN ?_
        refine thenN ?_
        refine regI hl (Eq.mpr (sounderlaw04_SpanSets_g98_e _ (fun i => l.getD i undef) _) h) ?_
        clear h hl
        intro l H hl h
        refine thenN ?_
        exact h
  · clear h; intro h
    refine exitI (c := sounderlaw04_SpanSets_c34) rfl ?_
    refine thenX ?_
    refine thenX ?_
    refine blkX ?_
    refine thenN ?_
    refine seqI (c := sounderlaw04_SpanSets_c53) rfl ?_
    refine seqI (c := sounderlaw04_SpanSets_c54) rfl ?_
    refine regI hl (Eq.mpr (sounderlaw04_SpanSets_g99_e _ (fun i => l.getD i undef) _) h) ?_
    clear h hl
    intro l H hl h
    refine thenN ?_
    refine condI (c := sounderlaw04_SpanSets_c56) rfl h ?_ ?_
    · clear h; intro h
      refine seqI (c := sounderlaw04_SpanSets_c57) rfl ?_
      refine regI hl (Eq.mpr (sounderlaw04_SpanSets_g100_e _ (fun i => l.getD i undef) _) h) ?_
      clear h hl
      intro l H hl h
      refine thenN ?_
      refine retI rfl ?_
      refine thenR ?_
      exact h
    · clear h; intro h
      refine skipI rfl ?_
      refine thenN ?_
      refine seqI (c := sounderlaw04_SpanSets_c59) rfl ?_
      refine regI hl (Eq.mpr (sounderlaw04_SpanSets_g101_e _ (fun i => l.getD i undef) _) h) ?_
      clear h hl
      intro l H hl h
      refine thenN ?_
      refine seqI (c := sounderlaw04_SpanSets_c61) rfl ?_
      refine regI hl (Eq.mpr (sounderlaw04_SpanSets_g102_e _ (fun i => l.getD i undef) _) h) ?_
      clear h hl
      intro l H hl h
      refine thenN ?_
      refine seqI (c := sounderlaw04_SpanSets_c63) rfl ?_
      refine seqI (c := sounderlaw04_SpanSets_c64) rfl ?_
      refine regI hl (Eq.mpr (sounderlaw04_SpanSets_g103_e _ (fun i => l.getD i undef) _) h) ?_
      clear h hl
      intro l H hl h
      refine thenN ?_
      refine blockI (c := sounderlaw04_SpanSets_c66) rfl ?_
      obtain ⟨I, μ, h0, hr⟩ := h
      refine loopI (c := sounderlaw04_SpanSets_c67) rfl (fun l' H' => l'.getD 7 undef = l.getD 7 undef ∧ l'.getD 9 undef = l.getD 9 undef ∧ l'.getD 16 undef = l.getD 16 undef ∧ I (l'.getD 15 undef) (l'.getD 17 undef) H') (fun l' H' => μ (l'.getD 15 undef) (l'.getD 17 undef) H') hl ⟨rfl, rfl, rfl, h0⟩ ?_
      rintro l1 H1 hl1 ⟨e7, e9, e16, hI⟩
      have hb := hr (l1.getD 15 undef) (l1.getD 17 undef) H1 hI
      rw [← e7, ← e9, ← e16] at hb
      refine wpE_mono _ l1 H1 hl1 ?_ (sounderlaw04_SpanSets_s104_i _ R l1 H1 hl1 hb)
      intro e l2 H2 hl2 hq
      cases e with
      | normal => exact fun _ => (by obtain ⟨d7, d9, d16, g1, g2⟩ := hq; exact ⟨⟨d7.trans e7, d9.trans e9, d16.trans e16, g1⟩, g2⟩)
      | _ => exact hq
def sounderlaw04_SpanSets_l117 (x0 x1 x7 x9 x11 x12 : Value) (R : Value → Heap → Prop) (H : Heap) : Prop :=
  ∃ (I : Value → Heap → Prop) (μ : Value → Heap → Nat), I x12 H ∧ ∀ (y12 : Value) (H : Heap), I y12 H → sounderlaw04_SpanSets_s90 x0 x1 x7 x9 x11 y12 (fun z0 z1 z7 z9 z11 z12 H' => z0 = x0 ∧ z1 = x1 ∧ z7 = x7 ∧ z9 = x9 ∧ z11 = x11 ∧ (I z12 H' ∧ μ z12 H' < μ y12 H)) R H
def sounderlaw04_SpanSets (x0 x1 x2 : Value) (R : Value → Heap → Prop) (H : Heap) : Prop :=
  sounderlaw04_SpanSets_g79 (fun x0 x1 x2 H => sounderlaw04_SpanSets_g80 (fun x0 x1 x2 x19 H => brV x19
  (sounderlaw04_SpanSets_g81 (fun x6 H => R x6 H) H)
  (sounderlaw04_SpanSets_g82 (fun x0 x1 x2 H => sounderlaw04_SpanSets_g83 (fun x0 x1 x2 H => sounderlaw04_SpanSets_g84 (fun x0 x1 x2 x7 x8 H => sounderlaw04_SpanSets_g85 (fun x0 x1 x2 x7 x8 x9 x10 H => sounderlaw04_SpanSets_g86 (fun x0 x1 x2 x7 x9 x40 H => brV x40
  (sounderlaw04_SpanSets_g87 (fun x6 H => R x6 H) H)
  (sounderlaw04_SpanSets_g88 (fun x0 x1 x7 x9 x11 H => sounderlaw04_SpanSets_g89 (fun x0 x1 x7 x9 x11 x12 H => sounderlaw04_SpanSets_l117 x0 x1 x7 x9 x11 x12 R H) x0 x1 x7 x9 x11 H) x0 x1 x2 x7 x9 H)) x0 x1 x2 x7 x8 x9 x10 H) x0 x1 x2 x7 x8 H) x0 x1 x2 H) x0 x1 x2 H) x0 x1 x2 H)) x0 x1 x2 H) x0 x1 x2 H
theorem sounderlaw04_SpanSets_i (R : Value → Heap → Prop) (x0 x1 x2 : Value) (H : Heap) (h : sounderlaw04_SpanSets x0 x1 x2 R H) : wpE tab P sounderlaw04_SpanSets_pi sounderlaw04_SpanSets_c1 (retQ tab sounderlaw04_SpanSets_rs R) [x0, x1, x2, undef, undef, undef, undef, undef, undef, undef, undef, undef, undef, undef, undef, undef, undef, undef, undef, undef, undef, undef, undef, undef, undef, undef, undef, undef, undef, undef, undef, undef, undef, undef, undef, undef, undef, undef, undef, undef, undef, undef, undef, undef, undef, undef, undef, undef, undef, undef, undef, undef, undef, undef, undef, undef, undef, undef, undef, undef, undef, undef, undef, undef, undef, undef, undef, undef, undef, undef, undef, undef, undef, undef, undef, undef, undef, undef, undef, undef, undef, undef, undef, undef, undef, undef, undef, undef, undef, undef, undef, undef, undef, undef, undef, undef, undef, undef, undef, undef, undef, undef, undef, undef, undef, undef, undef, undef, undef, undef, undef, undef, undef, undef, undef, undef, undef, undef, undef, undef, undef, undef, undef, undef, undef, undef, undef, undef, undef, undef, undef, undef] H := by
  obtain ⟨l, hl, el⟩ : ∃ l : List Value, l.length = 132 ∧ l = [x0, x1, x2, undef, undef, undef, undef, undef, undef, undef, undef, undef, undef, undef, undef, undef, undef, undef, undef, undef, undef, undef, undef, undef, undef, undef, undef, undef, undef, undef, undef, undef, undef, undef, undef, undef, undef, undef, undef, undef, undef, undef, undef, undef, undef, undef, undef, undef, undef, undef, undef, undef, undef, undef, undef, undef, undef, undef, undef, undef, undef, undef, undef, undef, undef, undef, undef, undef, undef, undef, undef, undef, undef, undef, undef, undef, undef, undef, undef, undef, undef, undef, undef, undef, undef, undef, undef, undef, undef, undef, undef, undef, undef, undef, undef, undef, undef, undef, undef, undef, undef, undef, undef, undef, undef, undef, undef, undef, undef, undef, undef, undef, undef, undef, undef, undef, undef, undef, undef, undef, undef, undef, undef, undef, undef, undef, undef, undef, undef, undef, undef, undef] := ⟨_, rfl, rfl⟩
  rw [← el]
  have h : (fun (x0 x1 x2 : Value) => sounderlaw04_SpanSets_g79 (fun x0 x1 x2 H => sounderlaw04_SpanSets_g80 (fun x0 x1 x2 x19 H => brV x19
(sounderlaw04_SpanSets_g81 (fun x6 H => R x6 H) H)
(sounderlaw04_SpanSets_g82 (fun x0 x1 x2 H => sounderlaw04_SpanSets_g83 (fun x0 x1 x2 H => sounderlaw04_SpanSets_g84 (fun x0 x1 x2 x7 x8 H => sounderlaw04_SpanSets_g85 (fun x0 x1 x2 x7 x8 x9 x10 H => sounderlaw04_SpanSets_g86 (fun x0 x1 x2 x7 x9 x40 H => brV x40
(sounderlaw04_SpanSets_g87 (fun x6 H => R x6 H) H)
(sounderlaw04_SpanSets_g88 (fun x0 x1 x7 x9 x11 H => sounderlaw04_SpanSets_g89 (fun x0 x1 x7 x9 x11 x12 H => sounderlaw04_SpanSets_l117 x0 x1 x7 x9 x11 x12 R H) x0 x1 x7 x9 x11 H) x0 x1 x2 x7 x9 H)) x0 x1 x2 x7 x8 x9 x10 H) x0 x1 x2 x7 x8 H) x0 x1 x2 H) x0 x1 x2 H) x0 x1 x2 H)) x0 x1 x2 H) x0 x1 x2 H) (l.getD 0 undef) (l.getD 1 undef) (l.getD 2 undef) := by rw [el]; exact h
  clear el
  refine seqI (c := sounderlaw04_SpanSets_c1) rfl ?_
  refine regI hl (Eq.mpr (sounderlaw04_SpanSets_g79_e _ (fun i => l.getD i undef) _) h) ?_
  clear h hl
  intro l H hl h
  refine thenN ?_
  refine seqI (c := sounderlaw04_SpanSets_c3) rfl ?_
  refine seqI (c := sounderlaw04_SpanSets_c4) rfl ?_
  refine regI hl (Eq.mpr (sounderlaw04_SpanSets_g80_e _ (fun i => l.getD i undef) _) h) ?_
  clear h hl
  intro l H hl h
  refine thenN ?_
  refine condI (c := sounderlaw04_SpanSets_c6) rfl h ?_ ?_
  · clear h; intro h
    refine seqI (c := sounderlaw04_SpanSets_c7) rfl ?_
    refine regI hl (Eq.mpr (sounderlaw04_SpanSets_g81_e _ (fun i => l.getD i undef) _) h) ?_
    clear h hl
    intro l H hl h
    refine thenN ?_
    refine retI rfl ?_
    refine thenR ?_
    exact h
  · clear h; intro h
    refine skipI rfl ?_
    refine thenN ?_
    refine seqI (c := sounderlaw04_SpanSets_c9) rfl ?_
    refine regI hl (Eq.mpr (sounderlaw04_SpanSets_g82_e _ (fun i => l.getD i undef) _) h) ?_
    clear h hl
    intro l H hl h
    refine thenN ?_
    refine seqI (c := sounderlaw04_SpanSets_c11) rfl ?_
    refine regI hl (Eq.mpr (sounderlaw04_SpanSets_g83_e _ (fun i => l.getD i undef) _) h) ?_
    clear h hl
    intro l H hl h
    refine thenN ?_
    refine seqI (c := sounderlaw04_SpanSets_c13) rfl ?_
    refine regI hl (Eq.mpr (sounderlaw04_SpanSets_g84_e _ (fun i => l.getD i undef) _) h) ?_
    clear h hl
    intro l H hl h
    refine thenN ?_
    refine seqI (c := sounderlaw04_SpanSets_c15) rfl ?_
    refine regI hl (Eq.mpr (sounderlaw04_SpanSets_g85_e _ (fun i => l.getD i undef) _) h) ?_
    clear h hl
    intro l H hl h
    refine thenN ?_
    refine seqI (c := sounderlaw04_SpanSets_c17) rfl ?_
    refine seqI (c := sounderlaw04_SpanSets_c18) rfl ?_
    refine regI hl (Eq.mpr (sounderlaw04_SpanSets_g86_e _ (fun i => l.getD i undef) _) h) ?_
    clear h hl
    intro l H hl h
    refine thenN ?_
    refine condI (c := sounderlaw04_SpanSets_c20) rfl h ?_ ?_
    · clear h; intro h
      refine seqI (c := sounderlaw04_SpanSets_c21) rfl ?_
      refine regI hl (Eq.mpr (sounderlaw04_SpanSets_g87_e _ (fun i => l.getD i undef) _) h) ?_
      clear h hl
      intro l H hl h
      refine thenN ?_
      refine retI rfl ?_
      refine thenR ?_
      exact h
    · clear h; intro h
      refine skipI rfl ?_
      refine thenN ?_
      refine seqI (c := sounderlaw04_SpanSets_c23) rfl ?_
      refine regI hl (Eq.mpr (sounderlaw04_SpanSets_g88_e _ (fun i => l.getD i undef) _) h) ?_
      clear h hl
      intro l H hl h
      refine thenN ?_
      refine seqI (c := sounderlaw04_SpanSets_c25) rfl ?_
      refine seqI (c := sounderlaw04_SpanSets_c26) rfl ?_
      refine regI hl (Eq.mpr (sounderlaw04_SpanSets_g89_e _ (fun i => l.getD i undef) _) h) ?_
      clear h hl
      intro l H hl h
      refine thenN ?_
      refine blockI (c := sounderlaw04_SpanSets_c28) rfl ?_
      obtain ⟨I, μ, h0, hr⟩ := h
      refine loopI (c := sounderlaw04_SpanSets_c29) rfl (fun l' H' => l'.getD 0 undef = l.getD 0 undef ∧ l'.getD 1 undef = l.getD 1 undef ∧ l'.getD 7 undef = l.getD 7 undef ∧ l'.getD 9 undef = l.getD 9 undef ∧ l'.getD 11 undef = l.getD 11 undef ∧ I (l'.getD 12 undef) H') (fun l' H' => μ (l'.getD 12 undef) H') hl ⟨rfl, rfl, rfl, rfl, rfl, h0⟩ ?_
      rintro l1 H1 hl1 ⟨e0, e1, e7, e9, e11, hI⟩
      have hb := hr (l1.getD 12 undef) H1 hI
      rw [← e0, ← e1, ← e7, ← e9, ← e11] at hb
      refine wpE_mono _ l1 H1 hl1 ?_ (sounderlaw04_SpanSets_s90_i _ R l1 H1 hl1 hb)
      intro e l2 H2 hl2 hq
      cases e with
      | normal => exact fun _ => (by obtain ⟨d0, d1, d7, d9, d11, g1, g2⟩ := hq; exact ⟨⟨d0.trans e0, d1.trans e1, d7.trans e7, d9.trans e9, d11.trans e11, g1⟩, g2⟩)
      | _ => exact hq
theorem sounderlaw04_SpanSets_ok : okB sounderlaw04_SpanSets_pi sounderlaw04_SpanSets_c1 = true := by kernel_rfl
theorem sounderlaw04_SpanSets_ev0 (x0 x1 x2 : Value) (R : Value → Heap → Prop) (H : Heap) (h : sounderlaw04_SpanSets x0 x1 x2 R H) : EvL P N.sounderlaw04_SpanSets #[x0, x1, x2] H R :=
  EvF_intro (args := [x0, x1, x2]) (k := 129) (rs := sounderlaw04_SpanSets_rs) tab_ok mixed Try.func4 (show Try.f4.body = some sounderlaw04_SpanSets_c1 by kernel_rfl) Try.call4 Try.ntmps4 (by kernel_rfl) (okCode_of _ sounderlaw04_SpanSets_ok) rfl (sounderlaw04_SpanSets_i R x0 x1 x2 H h)
theorem sounderlaw04_SpanSets_ev (x0 x1 x2 : Value) (R : Value → Heap → Prop) (H : Heap) (h : sounderlaw04_SpanSets x0 x1 x2 R H) : EvF P N.sounderlaw04_SpanSets #[x0, x1, x2] H R := .inl (sounderlaw04_SpanSets_ev0 x0 x1 x2 R H h)
/- 5: sounder/sounderlaw04.SpanTouch -/
def sounderlaw04_SpanTouch_rs : List ResultVar := [.tmp 4]
noncomputable def sounderlaw04_SpanTouch_c2 : Code := subC (bodyC Try.f5) [0]
noncomputable def sounderlaw04_SpanTouch_c4 : Code := subC (bodyC Try.f5) [1, 0]
noncomputable def sounderlaw04_SpanTouch_c7 : Code := subC (bodyC Try.f5) [1, 1, 0, 0]
noncomputable def sounderlaw04_SpanTouch_c10 : Code := subC (bodyC Try.f5) [1, 1, 0, 1, 0, 0]
noncomputable def sounderlaw04_SpanTouch_c9 : Code := .seq sounderlaw04_SpanTouch_c10 Code.ret
noncomputable def sounderlaw04_SpanTouch_c8 : Code := .cond (.tmp 20) sounderlaw04_SpanTouch_c9 Code.skip
noncomputable def sounderlaw04_SpanTouch_c6 : Code := .seq sounderlaw04_SpanTouch_c7 sounderlaw04_SpanTouch_c8
noncomputable def sounderlaw04_SpanTouch_c13 : Code := subC (bodyC Try.f5) [1, 1, 1, 0, 0]
noncomputable def sounderlaw04_SpanTouch_c18 : Code := subC (bodyC Try.f5) [1, 1, 1, 0, 1, 0, 0, 0, 0]
noncomputable def sounderlaw04_SpanTouch_c20 : Code := .exit 0
noncomputable def sounderlaw04_SpanTouch_c19 : Code := .cond (.tmp 28) Code.skip sounderlaw04_SpanTouch_c20
noncomputable def sounderlaw04_SpanTouch_c17 : Code := .seq sounderlaw04_SpanTouch_c18 sounderlaw04_SpanTouch_c19
noncomputable def sounderlaw04_SpanTouch_c24 : Code := subC (bodyC Try.f5) [1, 1, 1, 0, 1, 0, 0, 1, 0, 0, 0]
noncomputable def sounderlaw04_SpanTouch_c26 : Code := subC (bodyC Try.f5) [1, 1, 1, 0, 1, 0, 0, 1, 0, 0, 1, 0]
noncomputable def sounderlaw04_SpanTouch_c29 : Code := subC (bodyC Try.f5) [1, 1, 1, 0, 1, 0, 0, 1, 0, 0, 1, 1, 0, 0]
noncomputable def sounderlaw04_SpanTouch_c28 : Code := .seq sounderlaw04_SpanTouch_c29 Code.ret
noncomputable def sounderlaw04_SpanTouch_c27 : Code := .cond (.tmp 43) sounderlaw04_SpanTouch_c28 Code.skip
noncomputable def sounderlaw04_SpanTouch_c25 : Code := .seq sounderlaw04_SpanTouch_c26 sounderlaw04_SpanTouch_c27
noncomputable def sounderlaw04_SpanTouch_c23 : Code := .seq sounderlaw04_SpanTouch_c24 sounderlaw04_SpanTouch_c25
noncomputable def sounderlaw04_SpanTouch_c22 : Code := .block 1 sounderlaw04_SpanTouch_c23
noncomputable def sounderlaw04_SpanTouch_c30 : Code := subC (bodyC Try.f5) [1, 1, 1, 0, 1, 0, 0, 1, 1]
noncomputable def sounderlaw04_SpanTouch_c21 : Code := .seq sounderlaw04_SpanTouch_c22 sounderlaw04_SpanTouch_c30
noncomputable def sounderlaw04_SpanTouch_c16 : Code := .seq sounderlaw04_SpanTouch_c17 sounderlaw04_SpanTouch_c21
noncomputable def sounderlaw04_SpanTouch_c15 : Code := .loop sounderlaw04_SpanTouch_c16
noncomputable def sounderlaw04_SpanTouch_c14 : Code := .block 0 sounderlaw04_SpanTouch_c15
noncomputable def sounderlaw04_SpanTouch_c12 : Code := .seq sounderlaw04_SpanTouch_c13 sounderlaw04_SpanTouch_c14
noncomputable def sounderlaw04_SpanTouch_c32 : Code := subC (bodyC Try.f5) [1, 1, 1, 1, 0]
noncomputable def sounderlaw04_SpanTouch_c34 : Code := subC (bodyC Try.f5) [1, 1, 1, 1, 1, 0]
noncomputable def sounderlaw04_SpanTouch_c37 : Code := subC (bodyC Try.f5) [1, 1, 1, 1, 1, 1, 0, 0]
noncomputable def sounderlaw04_SpanTouch_c42 : Code := subC (bodyC Try.f5) [1, 1, 1, 1, 1, 1, 0, 1, 0, 0, 0, 0]
noncomputable def sounderlaw04_SpanTouch_c44 : Code := .exit 2
noncomputable def sounderlaw04_SpanTouch_c43 : Code := .cond (.tmp 51) Code.skip sounderlaw04_SpanTouch_c44
noncomputable def sounderlaw04_SpanTouch_c41 : Code := .seq sounderlaw04_SpanTouch_c42 sounderlaw04_SpanTouch_c43
noncomputable def sounderlaw04_SpanTouch_c48 : Code := subC (bodyC Try.f5) [1, 1, 1, 1, 1, 1, 0, 1, 0, 0, 1, 0, 0, 0]
noncomputable def sounderlaw04_SpanTouch_c51 : Code := subC (bodyC Try.f5) [1, 1, 1, 1, 1, 1, 0, 1, 0, 0, 1, 0, 0, 1, 0, 0]
noncomputable def sounderlaw04_SpanTouch_c50 : Code := .seq sounderlaw04_SpanTouch_c51 Code.ret
noncomputable def sounderlaw04_SpanTouch_c49 : Code := .cond (.tmp 81) sounderlaw04_SpanTouch_c50 Code.skip
noncomputable def sounderlaw04_SpanTouch_c47 : Code := .seq sounderlaw04_SpanTouch_c48 sounderlaw04_SpanTouch_c49
noncomputable def sounderlaw04_SpanTouch_c46 : Code := .block 3 sounderlaw04_SpanTouch_c47
noncomputable def sounderlaw04_SpanTouch_c52 : Code := subC (bodyC Try.f5) [1, 1, 1, 1, 1, 1, 0, 1, 0, 0, 1, 1]
noncomputable def sounderlaw04_SpanTouch_c45 : Code := .seq sounderlaw04_SpanTouch_c46 sounderlaw04_SpanTouch_c52
noncomputable def sounderlaw04_SpanTouch_c40 : Code := .seq sounderlaw04_SpanTouch_c41 sounderlaw04_SpanTouch_c45
noncomputable def sounderlaw04_SpanTouch_c39 : Code := .loop sounderlaw04_SpanTouch_c40
noncomputable def sounderlaw04_SpanTouch_c38 : Code := .block 2 sounderlaw04_SpanTouch_c39
noncomputable def sounderlaw04_SpanTouch_c36 : Code := .seq sounderlaw04_SpanTouch_c37 sounderlaw04_SpanTouch_c38
noncomputable def sounderlaw04_SpanTouch_c55 : Code := subC (bodyC Try.f5) [1, 1, 1, 1, 1, 1, 1, 0, 0]
noncomputable def sounderlaw04_SpanTouch_c58 : Code := subC (bodyC Try.f5) [1, 1, 1, 1, 1, 1, 1, 0, 1, 0, 0]
noncomputable def sounderlaw04_SpanTouch_c57 : Code := .seq sounderlaw04_SpanTouch_c58 Code.ret
noncomputable def sounderlaw04_SpanTouch_c56 : Code := .cond (.tmp 98) sounderlaw04_SpanTouch_c57 Code.skip
noncomputable def sounderlaw04_SpanTouch_c54 : Code := .seq sounderlaw04_SpanTouch_c55 sounderlaw04_SpanTouch_c56
noncomputable def sounderlaw04_SpanTouch_c60 : Code := subC (bodyC Try.f5) [1, 1, 1, 1, 1, 1, 1, 1, 0]
noncomputable def sounderlaw04_SpanTouch_c63 : Code := subC (bodyC Try.f5) [1, 1, 1, 1, 1, 1, 1, 1, 1, 0, 0]
noncomputable def sounderlaw04_SpanTouch_c66 : Code := subC (bodyC Try.f5) [1, 1, 1, 1, 1, 1, 1, 1, 1, 0, 1, 0, 0]
noncomputable def sounderlaw04_SpanTouch_c65 : Code := .seq sounderlaw04_SpanTouch_c66 Code.ret
noncomputable def sounderlaw04_SpanTouch_c64 : Code := .cond (.tmp 130) sounderlaw04_SpanTouch_c65 Code.skip
noncomputable def sounderlaw04_SpanTouch_c62 : Code := .seq sounderlaw04_SpanTouch_c63 sounderlaw04_SpanTouch_c64
noncomputable def sounderlaw04_SpanTouch_c68 : Code := subC (bodyC Try.f5) [1, 1, 1, 1, 1, 1, 1, 1, 1, 1, 0]
noncomputable def sounderlaw04_SpanTouch_c70 : Code := subC (bodyC Try.f5) [1, 1, 1, 1, 1, 1, 1, 1, 1, 1, 1, 0]
noncomputable def sounderlaw04_SpanTouch_c69 : Code := .seq sounderlaw04_SpanTouch_c70 Code.ret
noncomputable def sounderlaw04_SpanTouch_c67 : Code := .seq sounderlaw04_SpanTouch_c68 sounderlaw04_SpanTouch_c69
noncomputable def sounderlaw04_SpanTouch_c61 : Code := .seq sounderlaw04_SpanTouch_c62 sounderlaw04_SpanTouch_c67
noncomputable def sounderlaw04_SpanTouch_c59 : Code := .seq sounderlaw04_SpanTouch_c60 sounderlaw04_SpanTouch_c61
noncomputable def sounderlaw04_SpanTouch_c53 : Code := .seq sounderlaw04_SpanTouch_c54 sounderlaw04_SpanTouch_c59
noncomputable def sounderlaw04_SpanTouch_c35 : Code := .seq sounderlaw04_SpanTouch_c36 sounderlaw04_SpanTouch_c53
noncomputable def sounderlaw04_SpanTouch_c33 : Code := .seq sounderlaw04_SpanTouch_c34 sounderlaw04_SpanTouch_c35
noncomputable def sounderlaw04_SpanTouch_c31 : Code := .seq sounderlaw04_SpanTouch_c32 sounderlaw04_SpanTouch_c33
noncomputable def sounderlaw04_SpanTouch_c11 : Code := .seq sounderlaw04_SpanTouch_c12 sounderlaw04_SpanTouch_c31
noncomputable def sounderlaw04_SpanTouch_c5 : Code := .seq sounderlaw04_SpanTouch_c6 sounderlaw04_SpanTouch_c11
noncomputable def sounderlaw04_SpanTouch_c3 : Code := .seq sounderlaw04_SpanTouch_c4 sounderlaw04_SpanTouch_c5
noncomputable def sounderlaw04_SpanTouch_c1 : Code := .seq sounderlaw04_SpanTouch_c2 sounderlaw04_SpanTouch_c3
def sounderlaw04_SpanTouch_pi (i : Nat) : Pl := match i with
  | 15 => (ones [0, 1, 2, 3, 4, 5, 6, 7, 8, 9, 10, 11, 12, 13, 14, 15, 16, 17, 18, 19, 20, 21, 22, 23, 24, 25, 26, 27] .nil)
  | 20 => (ones [0, 1, 2, 3, 4, 5, 6, 7, 8, 9, 10, 11, 12, 13, 14, 15] .nil)
  | 23 => (ones [0, 1, 2, 3, 4, 5, 6, 7, 8, 9, 10, 11, 12, 13, 14, 15, 16, 17, 18, 19, 20, 21, 22, 23, 24, 25, 26, 27, 28] .nil)
  | _ => .nil
def sounderlaw04_SpanTouch_g71 (S : Value → Value → Heap → Prop) (x0 x1 : Value) (H : Heap) : Prop :=
  S x0 x1 H
theorem sounderlaw04_SpanTouch_g71_e (S : Value → Value → Heap → Prop) (x : Nat → Value) (H : Heap) : wpE tab P sounderlaw04_SpanTouch_pi sounderlaw04_SpanTouch_c2 (nQ fun l H => S (l.getD 0 undef) (l.getD 1 undef) H) ((List.range 161).map x) H = sounderlaw04_SpanTouch_g71 S (x 0) (x 1) H := by kernel_rfl
def sounderlaw04_SpanTouch_g72 (S : Value → Value → Value → Value → Heap → Prop) (x0 x1 : Value) (H : Heap) : Prop :=
  EvF P N.span_New #[(.int .i64 256)] H fun v16 H1 =>
  bnd (exV 0 v16) fun v17 =>
  bnd (exV 1 v16) fun v18 =>
  S x0 x1 v17 v18 H1
theorem sounderlaw04_SpanTouch_g72_e (S : Value → Value → Value → Value → Heap → Prop) (x : Nat → Value) (H : Heap) : wpE tab P sounderlaw04_SpanTouch_pi sounderlaw04_SpanTouch_c4 (nQ fun l H => S (l.getD 0 undef) (l.getD 1 undef) (l.getD 5 undef) (l.getD 6 undef) H) ((List.range 161).map x) H = sounderlaw04_SpanTouch_g72 S (x 0) (x 1) H := by kernel_rfl
def sounderlaw04_SpanTouch_g73 (S : Value → Value → Value → Value → Heap → Prop) (x0 x1 x5 x6 : Value) (H : Heap) : Prop :=
  bnd (binV .int .neq x6 (.int .i64 0)) fun v20 =>
  S x0 x1 x5 v20 H
theorem sounderlaw04_SpanTouch_g73_e (S : Value → Value → Value → Value → Heap → Prop) (x : Nat → Value) (H : Heap) : wpE tab P sounderlaw04_SpanTouch_pi sounderlaw04_SpanTouch_c7 (nQ fun l H => S (l.getD 0 undef) (l.getD 1 undef) (l.getD 5 undef) (l.getD 20 undef) H) ((List.range 161).map x) H = sounderlaw04_SpanTouch_g73 S (x 0) (x 1) (x 5) (x 6) H := by kernel_rfl
def sounderlaw04_SpanTouch_g74 (S : Value → Heap → Prop) (H : Heap) : Prop :=
  S (.bool false) H
theorem sounderlaw04_SpanTouch_g74_e (S : Value → Heap → Prop) (x : Nat → Value) (H : Heap) : wpE tab P sounderlaw04_SpanTouch_pi sounderlaw04_SpanTouch_c10 (nQ fun l H => S (l.getD 4 undef) H) ((List.range 161).map x) H = sounderlaw04_SpanTouch_g74 S  H := by kernel_rfl
def sounderlaw04_SpanTouch_g75 (S : Value → Value → Value → Value → Heap → Prop) (x0 x1 x5 : Value) (H : Heap) : Prop :=
  S x0 x1 x5 (.int .i64 0) H
theorem sounderlaw04_SpanTouch_g75_e (S : Value → Value → Value → Value → Heap → Prop) (x : Nat → Value) (H : Heap) : wpE tab P sounderlaw04_SpanTouch_pi sounderlaw04_SpanTouch_c13 (nQ fun l H => S (l.getD 0 undef) (l.getD 1 undef) (l.getD 5 undef) (l.getD 7 undef) H) ((List.range 161).map x) H = sounderlaw04_SpanTouch_g75 S (x 0) (x 1) (x 5) H := by kernel_rfl
def sounderlaw04_SpanTouch_g77 (S : Value → Value → Value → Value → Value → Heap → Prop) (x0 x1 x5 x7 : Value) (H : Heap) : Prop :=
  bnd (lenV x0) fun v23 =>
  bnd (binV .int .lss x7 v23) fun v24 =>
  brV v24
  (bnd (binV .int .lss x7 (.int .i64 30)) fun v27 =>
  S x0 x1 x5 x7 v27 H)
  (S x0 x1 x5 x7 (.bool false) H)
theorem sounderlaw04_SpanTouch_g77_e (S : Value → Value → Value → Value → Value → Heap → Prop) (x : Nat → Value) (H : Heap) : wpE tab P sounderlaw04_SpanTouch_pi sounderlaw04_SpanTouch_c18 (nQ fun l H => S (l.getD 0 undef) (l.getD 1 undef) (l.getD 5 undef) (l.getD 7 undef) (l.getD 28 undef) H) ((List.range 161).map x) H = sounderlaw04_SpanTouch_g77 S (x 0) (x 1) (x 5) (x 7) H := by kernel_rfl
def sounderlaw04_SpanTouch_g78 (S : Value → Value → Value → Value → Value → Value → Heap → Prop) (x0 x1 x5 x7 : Value) (H : Heap) : Prop :=
  bnd (ixSV 2 x0 x7) fun v34 =>
  bnd (ldE true 2 v34 H) fun v35 =>
  EvF P N.sounderlaw04_row #[v35] H fun v36 H1 =>
  bnd (exV 0 v36) fun v37 =>
  bnd (exV 1 v36) fun v38 =>
  S x0 x1 x5 x7 v37 v38 H1
theorem sounderlaw04_SpanTouch_g78_e (S : Value → Value → Value → Value → Value → Value → Heap → Prop) (x : Nat → Value) (H : Heap) : wpE tab P sounderlaw04_SpanTouch_pi sounderlaw04_SpanTouch_c24 (nQ fun l H => S (l.getD 0 undef) (l.getD 1 undef) (l.getD 5 undef) (l.getD 7 undef) (l.getD 8 undef) (l.getD 9 undef) H) ((List.range 161).map x) H = sounderlaw04_SpanTouch_g78 S (x 0) (x 1) (x 5) (x 7) H := by kernel_rfl
def sounderlaw04_SpanTouch_g79 (S : Value → Value → Value → Value → Value → Heap → Prop) (x0 x1 x5 x7 x8 x9 : Value) (H : Heap) : Prop :=
  EvF P N.span_Set_Add #[x5, x8, x9] H fun v42 H1 =>
  bnd (binV .int .neq v42 (.int .i64 0)) fun v43 =>
  S x0 x1 x5 x7 v43 H1
theorem sounderlaw04_SpanTouch_g79_e (S : Value → Value → Value → Value → Value → Heap → Prop) (x : Nat → Value) (H : Heap) : wpE tab P sounderlaw04_SpanTouch_pi sounderlaw04_SpanTouch_c26 (nQ fun l H => S (l.getD 0 undef) (l.getD 1 undef) (l.getD 5 undef) (l.getD 7 undef) (l.getD 43 undef) H) ((List.range 161).map x) H = sounderlaw04_SpanTouch_g79 S (x 0) (x 1) (x 5) (x 7) (x 8) (x 9) H := by kernel_rfl
def sounderlaw04_SpanTouch_g80 (S : Value → Heap → Prop) (H : Heap) : Prop :=
  S (.bool false) H
theorem sounderlaw04_SpanTouch_g80_e (S : Value → Heap → Prop) (x : Nat → Value) (H : Heap) : wpE tab P sounderlaw04_SpanTouch_pi sounderlaw04_SpanTouch_c29 (nQ fun l H => S (l.getD 4 undef) H) ((List.range 161).map x) H = sounderlaw04_SpanTouch_g80 S  H := by kernel_rfl
def sounderlaw04_SpanTouch_g81 (S : Value → Value → Value → Value → Heap → Prop) (x0 x1 x5 x7 : Value) (H : Heap) : Prop :=
  bnd (binV .int .add x7 (.int .i64 1)) fun v30 =>
  S x0 x1 x5 v30 H
theorem sounderlaw04_SpanTouch_g81_e (S : Value → Value → Value → Value → Heap → Prop) (x : Nat → Value) (H : Heap) : wpE tab P sounderlaw04_SpanTouch_pi sounderlaw04_SpanTouch_c30 (nQ fun l H => S (l.getD 0 undef) (l.getD 1 undef) (l.getD 5 undef) (l.getD 7 undef) H) ((List.range 161).map x) H = sounderlaw04_SpanTouch_g81 S (x 0) (x 1) (x 5) (x 7) H := by kernel_rfl
def sounderlaw04_SpanTouch_g82 (S : Value → Value → Value → Heap → Prop) (x1 x5 : Value) (H : Heap) : Prop :=
  EvF P N.span_Set_Copy #[x5] H fun v45 H1 =>
  S x1 x5 v45 H1
theorem sounderlaw04_SpanTouch_g82_e (S : Value → Value → Value → Heap → Prop) (x : Nat → Value) (H : Heap) : wpE tab P sounderlaw04_SpanTouch_pi sounderlaw04_SpanTouch_c32 (nQ fun l H => S (l.getD 1 undef) (l.getD 5 undef) (l.getD 10 undef) H) ((List.range 161).map x) H = sounderlaw04_SpanTouch_g82 S (x 1) (x 5) H := by kernel_rfl
def sounderlaw04_SpanTouch_g83 (S : Value → Value → Value → Value → Heap → Prop) (x1 x5 x10 : Value) (H : Heap) : Prop :=
  EvF P N.span_Set_Ranges #[x5] H fun v47 H1 =>
  S x1 x5 x10 v47 H1
theorem sounderlaw04_SpanTouch_g83_e (S : Value → Value → Value → Value → Heap → Prop) (x : Nat → Value) (H : Heap) : wpE tab P sounderlaw04_SpanTouch_pi sounderlaw04_SpanTouch_c34 (nQ fun l H => S (l.getD 1 undef) (l.getD 5 undef) (l.getD 10 undef) (l.getD 11 undef) H) ((List.range 161).map x) H = sounderlaw04_SpanTouch_g83 S (x 1) (x 5) (x 10) H := by kernel_rfl
def sounderlaw04_SpanTouch_g84 (S : Value → Value → Value → Value → Value → Heap → Prop) (x1 x5 x10 x11 : Value) (H : Heap) : Prop :=
  S x1 x5 x10 x11 (.int .i64 0) H
theorem sounderlaw04_SpanTouch_g84_e (S : Value → Value → Value → Value → Value → Heap → Prop) (x : Nat → Value) (H : Heap) : wpE tab P sounderlaw04_SpanTouch_pi sounderlaw04_SpanTouch_c37 (nQ fun l H => S (l.getD 1 undef) (l.getD 5 undef) (l.getD 10 undef) (l.getD 11 undef) (l.getD 12 undef) H) ((List.range 161).map x) H = sounderlaw04_SpanTouch_g84 S (x 1) (x 5) (x 10) (x 11) H := by kernel_rfl
def sounderlaw04_SpanTouch_g86 (S : Value → Value → Value → Value → Value → Value → Heap → Prop) (x1 x5 x10 x11 x12 : Value) (H : Heap) : Prop :=
  bnd (lenV x11) fun v50 =>
  bnd (binV .int .lss x12 v50) fun v51 =>
  S x1 x5 x10 x11 x12 v51 H
theorem sounderlaw04_SpanTouch_g86_e (S : Value → Value → Value → Value → Value → Value → Heap → Prop) (x : Nat → Value) (H : Heap) : wpE tab P sounderlaw04_SpanTouch_pi sounderlaw04_SpanTouch_c42 (nQ fun l H => S (l.getD 1 undef) (l.getD 5 undef) (l.getD 10 undef) (l.getD 11 undef) (l.getD 12 undef) (l.getD 51 undef) H) ((List.range 161).map x) H = sounderlaw04_SpanTouch_g86 S (x 1) (x 5) (x 10) (x 11) (x 12) H := by kernel_rfl
def sounderlaw04_SpanTouch_g87 (S : Value → Value → Value → Value → Value → Value → Heap → Prop) (x1 x5 x10 x11 x12 : Value) (H : Heap) : Prop :=
  bnd (ixSV 2 x11 x12) fun v57 =>
  bnd (faV 0 v57) fun v58 =>
  bnd (ldE false 1 v58 H) fun v59 =>
  bnd (ixSV 2 x11 x12) fun v62 =>
  bnd (faV 1 v62) fun v63 =>
  bnd (ldE false 1 v63 H) fun v64 =>
  EvF P N.span_Set_Add #[x5, v59, v64] H fun v65 H1 =>
  bnd (binV .int .neq v65 (.int .i64 0)) fun v66 =>
  brV v66
  (S x1 x5 x10 x11 x12 (.bool true) H1)
  (bnd (ixSV 2 x11 x12) fun v71 =>
  bnd (faV 1 v71) fun v72 =>
  bnd (ldE false 1 v72 H1) fun v73 =>
  bnd (ixSV 2 x11 x12) fun v76 =>
  bnd (faV 1 v76) fun v77 =>
  bnd (ldE false 1 v77 H1) fun v78 =>
  EvF P N.span_Set_Add #[x5, v73, v78] H1 fun v79 H2 =>
  bnd (binV .int .neq v79 (.int .i64 0)) fun v80 =>
  S x1 x5 x10 x11 x12 v80 H2)
theorem sounderlaw04_SpanTouch_g87_e (S : Value → Value → Value → Value → Value → Value → Heap → Prop) (x : Nat → Value) (H : Heap) : wpE tab P sounderlaw04_SpanTouch_pi sounderlaw04_SpanTouch_c48 (nQ fun l H => S (l.getD 1 undef) (l.getD 5 undef) (l.getD 10 undef) (l.getD 11 undef) (l.getD 12 undef) (l.getD 81 undef) H) ((List.range 161).map x) H = sounderlaw04_SpanTouch_g87 S (x 1) (x 5) (x 10) (x 11) (x 12) H := by kernel_rfl
def sounderlaw04_SpanTouch_g88 (S : Value → Heap → Prop) (H : Heap) : Prop :=
  S (.bool false) H
theorem sounderlaw04_SpanTouch_g88_e (S : Value → Heap → Prop) (x : Nat → Value) (H : Heap) : wpE tab P sounderlaw04_SpanTouch_pi sounderlaw04_SpanTouch_c51 (nQ fun l H => S (l.getD 4 undef) H) ((List.range 161).map x) H = sounderlaw04_SpanTouch_g88 S  H := by kernel_rfl
def sounderlaw04_SpanTouch_g89 (S : Value → Value → Value → Value → Value → Heap → Prop) (x1 x5 x10 x11 x12 : Value) (H : Heap) : Prop :=
  bnd (binV .int .add x12 (.int .i64 1)) fun v53 =>
  S x1 x5 x10 x11 v53 H
theorem sounderlaw04_SpanTouch_g89_e (S : Value → Value → Value → Value → Value → Heap → Prop) (x : Nat → Value) (H : Heap) : wpE tab P sounderlaw04_SpanTouch_pi sounderlaw04_SpanTouch_c52 (nQ fun l H => S (l.getD 1 undef) (l.getD 5 undef) (l.getD 10 undef) (l.getD 11 undef) (l.getD 12 undef) H) ((List.range 161).map x) H = sounderlaw04_SpanTouch_g89 S (x 1) (x 5) (x 10) (x 11) (x 12) H := by kernel_rfl
def sounderlaw04_SpanTouch_g90 (S : Value → Value → Value → Value → Value → Heap → Prop) (x1 x5 x10 x11 : Value) (H : Heap) : Prop :=
  EvF P N.span_Set_Min #[x5] H fun v84 H1 =>
  bnd (foldV max2V v84 [(.int .i64 0)]) fun v85 =>
  EvF P N.span_Set_Cut #[x5, v85] H1 fun v86 H2 =>
  bnd (binV .int .neq v86 (.int .i64 0)) fun v87 =>
  brV v87
  (S x1 x5 x10 x11 (.bool true) H2)
  (EvF P N.span_Set_Same #[x5, x10] H2 fun v91 H3 =>
  bnd (unV .not v91) fun v92 =>
  brV v92
  (S x1 x5 x10 x11 (.bool true) H3)
  (bnd (lenV x11) fun v96 =>
  bnd (binV .int .lss v96 (.int .i64 2)) fun v97 =>
  S x1 x5 x10 x11 v97 H3))
theorem sounderlaw04_SpanTouch_g90_e (S : Value → Value → Value → Value → Value → Heap → Prop) (x : Nat → Value) (H : Heap) : wpE tab P sounderlaw04_SpanTouch_pi sounderlaw04_SpanTouch_c55 (nQ fun l H => S (l.getD 1 undef) (l.getD 5 undef) (l.getD 10 undef) (l.getD 11 undef) (l.getD 98 undef) H) ((List.range 161).map x) H = sounderlaw04_SpanTouch_g90 S (x 1) (x 5) (x 10) (x 11) H := by kernel_rfl
def sounderlaw04_SpanTouch_g91 (S : Value → Heap → Prop) (x5 x10 x11 : Value) (H : Heap) : Prop :=
  bnd (lenV x11) fun v100 =>
  bnd (binV .int .lss v100 (.int .i64 2)) fun v101 =>
  brV v101
  (EvF P N.span_Set_Same #[x5, x10] H fun v105 H1 =>
  brV v105
  (EvF P N.sounderlaw04_works #[] H1 fun v108 H2 =>
  S v108 H2)
  (S (.bool false) H1))
  (S (.bool false) H)
theorem sounderlaw04_SpanTouch_g91_e (S : Value → Heap → Prop) (x : Nat → Value) (H : Heap) : wpE tab P sounderlaw04_SpanTouch_pi sounderlaw04_SpanTouch_c58 (nQ fun l H => S (l.getD 4 undef) H) ((List.range 161).map x) H = sounderlaw04_SpanTouch_g91 S (x 5) (x 10) (x 11) H := by kernel_rfl
def sounderlaw04_SpanTouch_g92 (S : Value → Value → Value → Heap → Prop) (x1 x5 x11 : Value) (H : Heap) : Prop :=
  bnd (lenV x11) fun v112 =>
  bnd (binV .int .sub v112 (.int .i64 1)) fun v113 =>
  EvF P N.sounderref00_Bring #[x1, v113] H fun v114 H1 =>
  S x5 x11 v114 H1
theorem sounderlaw04_SpanTouch_g92_e (S : Value → Value → Value → Heap → Prop) (x : Nat → Value) (H : Heap) : wpE tab P sounderlaw04_SpanTouch_pi sounderlaw04_SpanTouch_c60 (nQ fun l H => S (l.getD 5 undef) (l.getD 11 undef) (l.getD 13 undef) H) ((List.range 161).map x) H = sounderlaw04_SpanTouch_g92 S (x 1) (x 5) (x 11) H := by kernel_rfl
def sounderlaw04_SpanTouch_g93 (S : Value → Value → Value → Value → Heap → Prop) (x5 x11 x13 : Value) (H : Heap) : Prop :=
  bnd (binV .int .add x13 (.int .i64 1)) fun v118 =>
  bnd (ixSV 2 x11 v118) fun v119 =>
  bnd (faV 1 v119) fun v120 =>
  bnd (ldE false 1 v120 H) fun v121 =>
  bnd (binV .int .add v121 (.int .i64 1)) fun v122 =>
  bnd (ixSV 2 x11 x13) fun v125 =>
  bnd (faV 0 v125) fun v126 =>
  bnd (ldE false 1 v126 H) fun v127 =>
  bnd (binV .int .sub v127 (.int .i64 1)) fun v128 =>
  EvF P N.span_Set_Add #[x5, v122, v128] H fun v129 H1 =>
  ((bnd (ldE false 1 v126 H1) fun v' => v' = v127) ∧
  ((bnd (ldE false 1 v120 H1) fun v' => v' = v121) ∧
  bnd (binV .int .neq v129 (.int .i64 0)) fun v130 =>
  S x5 x11 x13 v130 H1))
theorem sounderlaw04_SpanTouch_g93_e (S : Value → Value → Value → Value → Heap → Prop) (x : Nat → Value) (H : Heap) : wpE tab P sounderlaw04_SpanTouch_pi sounderlaw04_SpanTouch_c63 (nQ fun l H => S (l.getD 5 undef) (l.getD 11 undef) (l.getD 13 undef) (l.getD 130 undef) H) ((List.range 161).map x) H = sounderlaw04_SpanTouch_g93 S (x 5) (x 11) (x 13) H := by kernel_rfl
def sounderlaw04_SpanTouch_g94 (S : Value → Heap → Prop) (H : Heap) : Prop :=
  S (.bool false) H
theorem sounderlaw04_SpanTouch_g94_e (S : Value → Heap → Prop) (x : Nat → Value) (H : Heap) : wpE tab P sounderlaw04_SpanTouch_pi sounderlaw04_SpanTouch_c66 (nQ fun l H => S (l.getD 4 undef) H) ((List.range 161).map x) H = sounderlaw04_SpanTouch_g94 S  H := by kernel_rfl
def sounderlaw04_SpanTouch_g95 (S : Value → Value → Value → Heap → Prop) (x5 x11 x13 : Value) (H : Heap) : Prop :=
  EvF P N.span_Set_Ranges #[x5] H fun v132 H1 =>
  S x11 x13 v132 H1
theorem sounderlaw04_SpanTouch_g95_e (S : Value → Value → Value → Heap → Prop) (x : Nat → Value) (H : Heap) : wpE tab P sounderlaw04_SpanTouch_pi sounderlaw04_SpanTouch_c68 (nQ fun l H => S (l.getD 11 undef) (l.getD 13 undef) (l.getD 14 undef) H) ((List.range 161).map x) H = sounderlaw04_SpanTouch_g95 S (x 5) (x 11) (x 13) H := by kernel_rfl
def sounderlaw04_SpanTouch_g96 (S : Value → Heap → Prop) (x11 x13 x14 : Value) (H : Heap) : Prop :=
  bnd (lenV x14) fun v134 =>
  bnd (lenV x11) fun v136 =>
  bnd (binV .int .sub v136 (.int .i64 1)) fun v137 =>
  bnd (binV .int .eql v134 v137) fun v138 =>
  brV v138
  (bnd (ixSV 2 x14 x13) fun v142 =>
  bnd (ldE true 2 v142 H) fun v143 =>
  bnd (binV .int .add x13 (.int .i64 1)) fun v146 =>
  bnd (ixSV 2 x11 v146) fun v147 =>
  bnd (faV 0 v147) fun v148 =>
  bnd (ldE false 1 v148 H) fun v149 =>
  bnd (ixSV 2 x11 x13) fun v152 =>
  bnd (faV 1 v152) fun v153 =>
  bnd (ldE false 1 v153 H) fun v154 =>
  bnd (buildV #[(.int .i64 0), (.int .i64 0)] (places [(0, 1), (1, 1)]) [(0, v149), (1, v154)]) fun v155 =>
  bnd (binV (.agg [true, true]) .eql v143 v155) fun v156 =>
  brV v156
  (EvF P N.sounderlaw04_works #[] H fun v159 H1 =>
  ((bnd (ldE false 1 v153 H1) fun v' => v' = v154) ∧
  ((bnd (ldE false 1 v148 H1) fun v' => v' = v149) ∧
  ((bnd (ldE true 2 v142 H1) fun v' => v' = v143) ∧
  S v159 H1))))
  (S (.bool false) H))
  (S (.bool false) H)
theorem sounderlaw04_SpanTouch_g96_e (S : Value → Heap → Prop) (x : Nat → Value) (H : Heap) : wpE tab P sounderlaw04_SpanTouch_pi sounderlaw04_SpanTouch_c70 (nQ fun l H => S (l.getD 4 undef) H) ((List.range 161).map x) H = sounderlaw04_SpanTouch_g96 S (x 11) (x 13) (x 14) H := by kernel_rfl
def sounderlaw04_SpanTouch_s85 (x1 x5 x10 x11 x12 : Value) (K2 : Value → Value → Value → Value → Value →  Heap → Prop) (R : Value → Heap → Prop) (H : Heap) : Prop :=
  sounderlaw04_SpanTouch_g86 (fun x1 x5 x10 x11 x12 x51 H => brV x51
  (sounderlaw04_SpanTouch_g87 (fun x1 x5 x10 x11 x12 x81 H => brV x81
  (sounderlaw04_SpanTouch_g88 (fun x4 H => R x4 H) H)
  (sounderlaw04_SpanTouch_g89 (fun x1 x5 x10 x11 x12 H => K2 x1 x5 x10 x11 x12 H) x1 x5 x10 x11 x12 H)) x1 x5 x10 x11 x12 H)
  (sounderlaw04_SpanTouch_g90 (fun x1 x5 x10 x11 x98 H => brV x98
  (sounderlaw04_SpanTouch_g91 (fun x4 H => R x4 H) x5 x10 x11 H)
  (sounderlaw04_SpanTouch_g92 (fun x5 x11 x13 H => sounderlaw04_SpanTouch_g93 (fun x5 x11 x13 x130 H => brV x130
  (sounderlaw04_SpanTouch_g94 (fun x4 H => R x4 H) H)
  (sounderlaw04_SpanTouch_g95 (fun x11 x13 x14 H => sounderlaw04_SpanTouch_g96 (fun x4 H => R x4 H) x11 x13 x14 H) x5 x11 x13 H)) x5 x11 x13 H) x1 x5 x11 H)) x1 x5 x10 x11 H)) x1 x5 x10 x11 x12 H
noncomputable def sounderlaw04_SpanTouch_q97 (R : Value → Heap → Prop) : Exit → List Value → Heap → Prop := (retQ tab sounderlaw04_SpanTouch_rs R)
noncomputable def sounderlaw04_SpanTouch_q98 (R : Value → Heap → Prop) : Exit → List Value → Heap → Prop := (thenE (fun l H => wpE tab P sounderlaw04_SpanTouch_pi sounderlaw04_SpanTouch_c53 (sounderlaw04_SpanTouch_q97 R) l H) (sounderlaw04_SpanTouch_q97 R))
noncomputable def sounderlaw04_SpanTouch_q99 (R : Value → Heap → Prop) : Exit → List Value → Heap → Prop := (blkE 2 (sounderlaw04_SpanTouch_q98 R))
noncomputable def sounderlaw04_SpanTouch_q100 (K2 : Value → Value → Value → Value → Value →  Heap → Prop) (R : Value → Heap → Prop) : Exit → List Value → Heap → Prop := (thenE (fun l H => K2 (l.getD 1 undef) (l.getD 5 undef) (l.getD 10 undef) (l.getD 11 undef) (l.getD 12 undef) H) (sounderlaw04_SpanTouch_q99 R))
theorem sounderlaw04_SpanTouch_s85_i (K2 : Value → Value → Value → Value → Value →  Heap → Prop) (R : Value → Heap → Prop) (l : List Value) (H : Heap) (hl : l.length = 161) (h : sounderlaw04_SpanTouch_s85 (l.getD 1 undef) (l.getD 5 undef) (l.getD 10 undef) (l.getD 11 undef) (l.getD 12 undef) K2 R H) : wpE tab P sounderlaw04_SpanTouch_pi sounderlaw04_SpanTouch_c40 (sounderlaw04_SpanTouch_q100 K2 R) l H := by
  refine seqI (c := sounderlaw04_SpanTouch_c40) rfl ?_
  refine seqI (c := sounderlaw04_SpanTouch_c41) rfl ?_
  refine regI hl (Eq.mpr (sounderlaw04_SpanTouch_g86_e _ (fun i => l.getD i undef) _) h) ?_
  clear h hl
  intro l H hl h
  refine thenN ?_
  refine condI (c := sounderlaw04_SpanTouch_c43) rfl h ?_ ?_
  · clear h; intro h
    refine skipI rfl ?_
    refine thenN ?_
    refine seqI (c := sounderlaw04_SpanTouch_c45) rfl ?_
    refine blockI (c := sounderlaw04_SpanTouch_c46) rfl ?_
    refine seqI (c := sounderlaw04_SpanTouch_c47) rfl ?_
    refine regI hl (Eq.mpr (sounderlaw04_SpanTouch_g87_e _ (fun i => l.getD i undef) _) h) ?_
    clear h hl
    intro l H hl h
    refine thenN ?_
    refine condI (c := sounderlaw04_SpanTouch_c49) rfl h ?_ ?_
    · clear h; intro h
      refine seqI (c := sounderlaw04_SpanTouch_c50) rfl ?_
      refine regI hl (Eq.mpr (sounderlaw04_SpanTouch_g88_e _ (fun i => l.getD i undef) _) h) ?_
      clear h hl
      intro l H hl h
      refine thenN ?_
      refine retI rfl ?_
      refine blkR ?_
      refine thenR ?_
      refine thenR ?_
      refine blkR ?_
      refine thenR ?_
      exact h
    · clear h; intro h
      refine skipI rfl ?_
      refine blkN ?_
      refine thenN ?_
      refine regI hl (Eq.mpr (sounderlaw04_SpanTouch_g89_e _ (fun i => l.getD i undef) _) h) ?_
      clear h hl
      intro l H hl h
      refine thenN ?_
      exact h
  · clear h; intro h
    refine exitI (c := sounderlaw04_SpanTouch_c44) rfl ?_
    refine thenX ?_
    refine thenX ?_
    refine blkX ?_
    refine thenN ?_
    refine seqI (c := sounderlaw04_SpanTouch_c53) rfl ?_
    refine seqI (c := sounderlaw04_SpanTouch_c54) rfl ?_
    refine regI hl (Eq.mpr (sounderlaw04_SpanTouch_g90_e _ (fun i => l.getD i undef) _) h) ?_
    clear h hl
    intro l H hl h
    refine thenN ?_
    refine condI (c := sounderlaw04_SpanTouch_c56) rfl h ?_ ?_
    · clear h; intro h
      refine seqI (c := sounderlaw04_SpanTouch_c57) rfl ?_
      refine regI hl (Eq.mpr (sounderlaw04_SpanTouch_g91_e _ (fun i => l.getD i undef) _) h) ?_
      clear h hl
      intro l H hl h
      refine thenN ?_
      refine retI rfl ?_
      refine thenR ?_
      exact h
    · clear h; intro h
      refine skipI rfl ?_
      refine thenN ?_
      refine seqI (c := sounderlaw04_SpanTouch_c59) rfl ?_
      refine regI hl (Eq.mpr (sounderlaw04_SpanTouch_g92_e _ (fun i => l.getD i undef) _) h) ?_
      clear h hl
      intro l H hl h
      refine thenN ?_
      refine seqI (c := sounderlaw04_SpanTouch_c61) rfl ?_
      refine seqI (c := sounderlaw04_SpanTouch_c62) rfl ?_
      refine regI hl (Eq.mpr (sounderlaw04_SpanTouch_g93_e _ (fun i => l.getD i undef) _) h) ?_
      clear h hl
      intro l H hl h
      refine thenN ?_
      refine condI (c := sounderlaw04_SpanTouch_c64) rfl h ?_ ?_
      · clear h; intro h
        refine seqI (c := sounderlaw04_SpanTouch_c65) rfl ?_
        refine regI hl (Eq.mpr (sounderlaw04_SpanTouch_g94_e _ (fun i => l.getD i undef) _) h) ?_
        clear h hl
        intro l H hl h
        refine thenN ?_
        refine retI rfl ?_
        refine thenR ?_
        exact h
      · clear h; intro h
        refine skipI rfl ?_
        refine thenN ?_
        refine seqI (c := sounderlaw04_SpanTouch_c67) rfl ?_
        refine regI hl (Eq.mpr (sounderlaw04_SpanTouch_g95_e _ (fun i => l.getD i undef) _) h) ?_
        clear h hl
        intro l H hl h
        refine thenN ?_
        refine seqI (c := sounderlaw04_SpanTouch_c69) rfl ?_
        refine regI hl (Eq.mpr (sounderlaw04_SpanTouch_g96_e _ (fun i => l.getD i undef) _) h) ?_
        clear h hl
        intro l H hl h
        refine thenN ?_
        refine retI rfl ?_
        exact h
def sounderlaw04_SpanTouch_l101 (x1 x5 x10 x11 x12 : Value) (R : Value → Heap → Prop) (H : Heap) : Prop :=
  ∃ (I : Value → Heap → Prop) (μ : Value → Heap → Nat), I x12 H ∧ ∀ (y12 : Value) (H : Heap), I y12 H → sounderlaw04_SpanTouch_s85 x1 x5 x10 x11 y12 (fun z1 z5 z10 z11 z12 H' => z1 = x1 ∧ z5 = x5 ∧ z10 = x10 ∧ z11 = x11 ∧ (I z12 H' ∧ μ z12 H' < μ y12 H)) R H
def sounderlaw04_SpanTouch_s76 (x0 x1 x5 x7 : Value) (K1 : Value → Value → Value → Value →  Heap → Prop) (R : Value → Heap → Prop) (H : Heap) : Prop :=
  sounderlaw04_SpanTouch_g77 (fun x0 x1 x5 x7 x28 H => brV x28
  (sounderlaw04_SpanTouch_g78 (fun x0 x1 x5 x7 x8 x9 H => sounderlaw04_SpanTouch_g79 (fun x0 x1 x5 x7 x43 H => brV x43
  (sounderlaw04_SpanTouch_g80 (fun x4 H => R x4 H) H)
  (sounderlaw04_SpanTouch_g81 (fun x0 x1 x5 x7 H => K1 x0 x1 x5 x7 H) x0 x1 x5 x7 H)) x0 x1 x5 x7 x8 x9 H) x0 x1 x5 x7 H)
  (sounderlaw04_SpanTouch_g82 (fun x1 x5 x10 H => sounderlaw04_SpanTouch_g83 (fun x1 x5 x10 x11 H => sounderlaw04_SpanTouch_g84 (fun x1 x5 x10 x11 x12 H => sounderlaw04_SpanTouch_l101 x1 x5 x10 x11 x12 R H) x1 x5 x10 x11 H) x1 x5 x10 H) x1 x5 H)) x0 x1 x5 x7 H
noncomputable def sounderlaw04_SpanTouch_q102 (R : Value → Heap → Prop) : Exit → List Value → Heap → Prop := (thenE (fun l H => wpE tab P sounderlaw04_SpanTouch_pi sounderlaw04_SpanTouch_c31 (sounderlaw04_SpanTouch_q97 R) l H) (sounderlaw04_SpanTouch_q97 R))
noncomputable def sounderlaw04_SpanTouch_q103 (R : Value → Heap → Prop) : Exit → List Value → Heap → Prop := (blkE 0 (sounderlaw04_SpanTouch_q102 R))
noncomputable def sounderlaw04_SpanTouch_q104 (K1 : Value → Value → Value → Value →  Heap → Prop) (R : Value → Heap → Prop) : Exit → List Value → Heap → Prop := (thenE (fun l H => K1 (l.getD 0 undef) (l.getD 1 undef) (l.getD 5 undef) (l.getD 7 undef) H) (sounderlaw04_SpanTouch_q103 R))
theorem sounderlaw04_SpanTouch_s76_i (K1 : Value → Value → Value → Value →  Heap → Prop) (R : Value → Heap → Prop) (l : List Value) (H : Heap) (hl : l.length = 161) (h : sounderlaw04_SpanTouch_s76 (l.getD 0 undef) (l.getD 1 undef) (l.getD 5 undef) (l.getD 7 undef) K1 R H) : wpE tab P sounderlaw04_SpanTouch_pi sounderlaw04_SpanTouch_c16 (sounderlaw04_SpanTouch_q104 K1 R) l H := by
  refine seqI (c := sounderlaw04_SpanTouch_c16) rfl ?_
  refine seqI (c := sounderlaw04_SpanTouch_c17) rfl ?_
  refine regI hl (Eq.mpr (sounderlaw04_SpanTouch_g77_e _ (fun i => l.getD i undef) _) h) ?_
  clear h hl
  intro l H hl h
  refine thenN ?_
  refine condI (c := sounderlaw04_SpanTouch_c19) rfl h ?_ ?_
  · clear h; intro h
    refine skipI rfl ?_
    refine thenN ?_
    refine seqI (c := sounderlaw04_SpanTouch_c21) rfl ?_
    refine blockI (c := sounderlaw04_SpanTouch_c22) rfl ?_
    refine seqI (c := sounderlaw04_SpanTouch_c23) rfl ?_
    refine regI hl (Eq.mpr (sounderlaw04_SpanTouch_g78_e _ (fun i => l.getD i undef) _) h) ?_
    clear h hl
    intro l H hl h
    refine thenN ?_
    refine seqI (c := sounderlaw04_SpanTouch_c25) rfl ?_
    refine regI hl (Eq.mpr (sounderlaw04_SpanTouch_g79_e _ (fun i => l.getD i undef) _) h) ?_
    clear h hl
    intro l H hl h
    refine thenN ?_
    refine condI (c := sounderlaw04_SpanTouch_c27) rfl h ?_ ?_
    · clear h; intro h
      refine seqI (c := sounderlaw04_SpanTouch_c28) rfl ?_
      refine regI hl (Eq.mpr (sounderlaw04_SpanTouch_g80_e _ (fun i => l.getD i undef) _) h) ?_
      clear h hl
      intro l H hl h
      refine thenN ?_
      refine retI rfl ?_
      refine blkR ?_
      refine thenR ?_
      refine thenR ?_
      refine blkR ?_
      refine thenR ?_
      exact h
    · clear h; intro h
      refine skipI rfl ?_
      refine blkN ?_
      refine thenN ?_
      refine regI hl (Eq.mpr (sounderlaw04_SpanTouch_g81_e _ (fun i => l.getD i undef) _) h) ?_
      clear h hl
      intro l H hl h
      refine thenN ?_
      exact h
  · clear h; intro h
    refine exitI (c := sounderlaw04_SpanTouch_c20) rfl ?_
    refine thenX ?_
    refine thenX ?_
    refine blkX ?_
    refine thenN ?_
    refine seqI (c := sounderlaw04_SpanTouch_c31) rfl ?_
    refine regI hl (Eq.mpr (sounderlaw04_SpanTouch_g82_e _ (fun i => l.getD i undef) _) h) ?_
    clear h hl
    intro l H hl h
    refine thenN ?_
    refine seqI (c := sounderlaw04_SpanTouch_c33) rfl ?_
    refine regI hl (Eq.mpr (sounderlaw04_SpanTouch_g83_e _ (fun i => l.getD i undef) _) h) ?_
    clear h hl
    intro l H hl h
    refine thenN ?_
    refine seqI (c := sounderlaw04_SpanTouch_c35) rfl ?_
    refine seqI (c := sounderlaw04_SpanTouch_c36) rfl ?_
    refine regI hl (Eq.mpr (sounderlaw04_SpanTouch_g84_e _ (fun i => l.getD i undef) _) h) ?_
    clear h hl
    intro l H hl h
    refine thenN ?_
    refine blockI (c := sounderlaw04_SpanTouch_c38) rfl ?_
    obtain ⟨I, μ, h0, hr⟩ := h
    refine loopI (c := sounderlaw04_SpanTouch_c39) rfl (fun l' H' => l'.getD 1 undef = l.getD 1 undef ∧ l'.getD 5 undef = l.getD 5 undef ∧ l'.getD 10 undef = l.getD 10 undef ∧ l'.getD 11 undef = l.getD 11 undef ∧ I (l'.getD 12 undef) H') (fun l' H' => μ (l'.getD 12 undef) H') hl ⟨rfl, rfl, rfl, rfl, h0⟩ ?_
    rintro l1 H1 hl1 ⟨e1, e5, e10, e11, hI⟩
    have hb := hr (l1.getD 12 undef) H1 hI
    rw [← e1, ← e5, ← e10, ← e11] at hb
    refine wpE_mono _ l1 H1 hl1 ?_ (sounderlaw04_SpanTouch_s85_i _ R l1 H1 hl1 hb)
    intro e l2 H2 hl2 hq
    cases e with
    | normal => exact fun _ => (by obtain ⟨d1, d5, d10, d11, g1, g2⟩ := hq; exact ⟨⟨d1.trans e1, d5.trans e5, d10.trans e10, d11.trans e11, g1⟩, g2⟩)
    | _ => exact hq
def sounderlaw04_SpanTouch_l105 (x0 x1 x5 x7 : Value) (R : Value → Heap → Prop) (H : Heap) : Prop :=
  ∃ (I : Value → Heap → Prop) (μ : Value → Heap → Nat), I x7 H ∧ ∀ (y7 : Value) (H : Heap), I y7 H → sounderlaw04_SpanTouch_s76 x0 x1 x5 y7 (fun z0 z1 z5 z7 H' => z0 = x0 ∧ z1 = x1 ∧ z5 = x5 ∧ (I z7 H' ∧ μ z7 H' < μ y7 H)) R H
def sounderlaw04_SpanTouch (x0 x1 : Value) (R : Value → Heap → Prop) (H : Heap) : Prop :=
  sounderlaw04_SpanTouch_g71 (fun x0 x1 H => sounderlaw04_SpanTouch_g72 (fun x0 x1 x5 x6 H => sounderlaw04_SpanTouch_g73 (fun x0 x1 x5 x20 H => brV x20
  (sounderlaw04_SpanTouch_g74 (fun x4 H => R x4 H) H)
  (sounderlaw04_SpanTouch_g75 (fun x0 x1 x5 x7 H => sounderlaw04_SpanTouch_l105 x0 x1 x5 x7 R H) x0 x1 x5 H)) x0 x1 x5 x6 H) x0 x1 H) x0 x1 H
theorem sounderlaw04_SpanTouch_i (R : Value → Heap → Prop) (x0 x1 : Value) (H : Heap) (h : sounderlaw04_SpanTouch x0 x1 R H) : wpE tab P sounderlaw04_SpanTouch_pi sounderlaw04_SpanTouch_c1 (retQ tab sounderlaw04_SpanTouch_rs R) [x0, x1, undef, undef, undef, undef, undef, undef, undef, undef, undef, undef, undef, undef, undef, undef, undef, undef, undef, undef, undef, undef, undef, undef, undef, undef, undef, undef, undef, undef, undef, undef, undef, undef, undef, undef, undef, undef, undef, undef, undef, undef, undef, undef, undef, undef, undef, undef, undef, undef, undef, undef, undef, undef, undef, undef, undef, undef, undef, undef, undef, undef, undef, undef, undef, undef, undef, undef, undef, undef, undef, undef, undef, undef, undef, undef, undef, undef, undef, undef, undef, undef, undef, undef, undef, undef, undef, undef, undef, undef, undef, undef, undef, undef, undef, undef, undef, undef, undef, undef, undef, undef, undef, undef, undef, undef, undef, undef, undef, undef, undef, undef, undef, undef, undef, undef, undef, undef, undef, undef, undef, undef, undef, undef, undef, undef, undef, undef, undef, undef, undef, undef, undef, undef, undef, undef, undef, undef, undef, undef, undef, undef, undef, undef, undef, undef, undef, undef, undef, undef, undef, undef, undef, undef, undef, undef, undef, undef, undef, undef, undef] H := by
  obtain ⟨l, hl, el⟩ : ∃ l : List Value, l.length = 161 ∧ l = [x0, x1, undef, undef, undef, undef, undef, undef, undef, undef, undef, undef, undef, undef, undef, undef, undef, undef, undef, undef, undef, undef, undef, undef, undef, undef, undef, undef, undef, undef, undef, undef, undef, undef, undef, undef, undef, undef, undef, undef, undef, undef, undef, undef, undef, undef, undef, undef, undef, undef, undef, undef, undef, undef, undef, undef, undef, undef, undef, undef, undef, undef, undef, undef, undef, undef, undef, undef, undef, undef, undef, undef, undef, undef, undef, undef, undef, undef, undef, undef, undef, undef, undef, undef, undef, undef, undef, undef, undef, undef, undef, undef, undef, undef, undef, undef, undef, undef, undef, undef, undef, undef, undef, undef, undef, undef, undef, undef, undef, undef, undef, undef, undef, undef, undef, undef, undef, undef, undef, undef, undef, undef, undef, undef, undef, undef, undef, undef, undef, undef, undef, undef, undef, undef, undef, undef, undef, undef, undef, undef, undef, undef, undef, undef, undef, undef, undef, undef, undef, undef, undef, undef, undef, undef, undef, undef, undef, undef, undef, undef, undef] := ⟨_, rfl, rfl⟩
  rw [← el]
  have h : (fun (x0 x1 : Value) => sounderlaw04_SpanTouch_g71 (fun x0 x1 H => sounderlaw04_SpanTouch_g72 (fun x0 x1 x5 x6 H => sounderlaw04_SpanTouch_g73 (fun x0 x1 x5 x20 H => brV x20
(sounderlaw04_SpanTouch_g74 (fun x4 H => R x4 H) H)
(sounderlaw04_SpanTouch_g75 (fun x0 x1 x5 x7 H => sounderlaw04_SpanTouch_l105 x0 x1 x5 x7 R H) x0 x1 x5 H)) x0 x1 x5 x6 H) x0 x1 H) x0 x1 H) (l.getD 0 undef) (l.getD 1 undef) := by rw [el]; exact h
  clear el
  refine seqI (c := sounderlaw04_SpanTouch_c1) rfl ?_
  refine regI hl (Eq.mpr (sounderlaw04_SpanTouch_g71_e _ (fun i => l.getD i undef) _) h) ?_
  clear h hl
  intro l H hl h
  refine thenN ?_
  refine seqI (c := sounderlaw04_SpanTouch_c3) rfl ?_
  refine regI hl (Eq.mpr (sounderlaw04_SpanTouch_g72_e _ (fun i => l.getD i undef) _) h) ?_
  clear h hl
  intro l H hl h
  refine thenN ?_
  refine seqI (c := sounderlaw04_SpanTouch_c5) rfl ?_
  refine seqI (c := sounderlaw04_SpanTouch_c6) rfl ?_
  refine regI hl (Eq.mpr (sounderlaw04_SpanTouch_g73_e _ (fun i => l.getD i undef) _) h) ?_
  clear h hl
  intro l H hl h
  refine thenN ?_
  refine condI (c := sounderlaw04_SpanTouch_c8) rfl h ?_ ?_
  · clear h; intro h
    refine seqI (c := sounderlaw04_SpanTouch_c9) rfl ?_
    refine regI hl (Eq.mpr (sounderlaw04_SpanTouch_g74_e _ (fun i => l.getD i undef) _) h) ?_
    clear h hl
    intro l H hl h
    refine thenN ?_
    refine retI rfl ?_
    refine thenR ?_
    exact h
  · clear h; intro h
    refine skipI rfl ?_
    refine thenN ?_
    refine seqI (c := sounderlaw04_SpanTouch_c11) rfl ?_
    refine seqI (c := sounderlaw04_SpanTouch_c12) rfl ?_
    refine regI hl (Eq.mpr (sounderlaw04_SpanTouch_g75_e _ (fun i => l.getD i undef) _) h) ?_
    clear h hl
    intro l H hl h
    refine thenN ?_
    refine blockI (c := sounderlaw04_SpanTouch_c14) rfl ?_
    obtain ⟨I, μ, h0, hr⟩ := h
    refine loopI (c := sounderlaw04_SpanTouch_c15) rfl (fun l' H' => l'.getD 0 undef = l.getD 0 undef ∧ l'.getD 1 undef = l.getD 1 undef ∧ l'.getD 5 undef = l.getD 5 undef ∧ I (l'.getD 7 undef) H') (fun l' H' => μ (l'.getD 7 undef) H') hl ⟨rfl, rfl, rfl, h0⟩ ?_
    rintro l1 H1 hl1 ⟨e0, e1, e5, hI⟩
    have hb := hr (l1.getD 7 undef) H1 hI
    rw [← e0, ← e1, ← e5] at hb
    refine wpE_mono _ l1 H1 hl1 ?_ (sounderlaw04_SpanTouch_s76_i _ R l1 H1 hl1 hb)
    intro e l2 H2 hl2 hq
    cases e with
    | normal => exact fun _ => (by obtain ⟨d0, d1, d5, g1, g2⟩ := hq; exact ⟨⟨d0.trans e0, d1.trans e1, d5.trans e5, g1⟩, g2⟩)
    | _ => exact hq
theorem sounderlaw04_SpanTouch_ok : okB sounderlaw04_SpanTouch_pi sounderlaw04_SpanTouch_c1 = true := by kernel_rfl
theorem sounderlaw04_SpanTouch_ev0 (x0 x1 : Value) (R : Value → Heap → Prop) (H : Heap) (h : sounderlaw04_SpanTouch x0 x1 R H) : EvL P N.sounderlaw04_SpanTouch #[x0, x1] H R :=
  EvF_intro (args := [x0, x1]) (k := 159) (rs := sounderlaw04_SpanTouch_rs) tab_ok mixed Try.func5 (show Try.f5.body = some sounderlaw04_SpanTouch_c1 by kernel_rfl) Try.call5 Try.ntmps5 (by kernel_rfl) (okCode_of _ sounderlaw04_SpanTouch_ok) rfl (sounderlaw04_SpanTouch_i R x0 x1 H h)
theorem sounderlaw04_SpanTouch_ev (x0 x1 : Value) (R : Value → Heap → Prop) (H : Heap) (h : sounderlaw04_SpanTouch x0 x1 R H) : EvF P N.sounderlaw04_SpanTouch #[x0, x1] H R := .inl (sounderlaw04_SpanTouch_ev0 x0 x1 R H h)
end Go.Hc
