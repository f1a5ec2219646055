/- Functions, printed by gen.py. -/
import Derived.Test.YtchdnhbkjfdnmaaT
set_option linter.unusedSimpArgs false
set_option linter.unusedVariables false
set_option maxRecDepth 100000
namespace Go.Hc
open Go Go.Proofs
/- 3: sounder/sounderlaw06.SentOnce -/
def sounderlaw06_SentOnce_rs : List ResultVar := [.tmp 2]
noncomputable def sounderlaw06_SentOnce_c2 : Code := subC (bodyC Try.f3) [0]
noncomputable def sounderlaw06_SentOnce_c4 : Code := subC (bodyC Try.f3) [1, 0]
noncomputable def sounderlaw06_SentOnce_c7 : Code := subC (bodyC Try.f3) [1, 1, 0, 0]
noncomputable def sounderlaw06_SentOnce_c10 : Code := subC (bodyC Try.f3) [1, 1, 0, 1, 0, 0]
noncomputable def sounderlaw06_SentOnce_c9 : Code := .seq sounderlaw06_SentOnce_c10 Code.ret
noncomputable def sounderlaw06_SentOnce_c8 : Code := .cond (.tmp 14) sounderlaw06_SentOnce_c9 Code.skip
noncomputable def sounderlaw06_SentOnce_c6 : Code := .seq sounderlaw06_SentOnce_c7 sounderlaw06_SentOnce_c8
noncomputable def sounderlaw06_SentOnce_c12 : Code := subC (bodyC Try.f3) [1, 1, 1, 0]
noncomputable def sounderlaw06_SentOnce_c15 : Code := subC (bodyC Try.f3) [1, 1, 1, 1, 0, 0]
noncomputable def sounderlaw06_SentOnce_c20 : Code := subC (bodyC Try.f3) [1, 1, 1, 1, 0, 1, 0, 0, 0, 0]
noncomputable def sounderlaw06_SentOnce_c22 : Code := .exit 0
noncomputable def sounderlaw06_SentOnce_c21 : Code := .cond (.tmp 22) Code.skip sounderlaw06_SentOnce_c22
noncomputable def sounderlaw06_SentOnce_c19 : Code := .seq sounderlaw06_SentOnce_c20 sounderlaw06_SentOnce_c21
noncomputable def sounderlaw06_SentOnce_c26 : Code := subC (bodyC Try.f3) [1, 1, 1, 1, 0, 1, 0, 0, 1, 0, 0, 0]
noncomputable def sounderlaw06_SentOnce_c28 : Code := subC (bodyC Try.f3) [1, 1, 1, 1, 0, 1, 0, 0, 1, 0, 0, 1, 0]
noncomputable def sounderlaw06_SentOnce_c31 : Code := subC (bodyC Try.f3) [1, 1, 1, 1, 0, 1, 0, 0, 1, 0, 0, 1, 1, 0, 0]
noncomputable def sounderlaw06_SentOnce_c34 : Code := subC (bodyC Try.f3) [1, 1, 1, 1, 0, 1, 0, 0, 1, 0, 0, 1, 1, 0, 1, 0, 0]
noncomputable def sounderlaw06_SentOnce_c33 : Code := .seq sounderlaw06_SentOnce_c34 Code.ret
noncomputable def sounderlaw06_SentOnce_c32 : Code := .cond (.tmp 47) sounderlaw06_SentOnce_c33 Code.skip
noncomputable def sounderlaw06_SentOnce_c30 : Code := .seq sounderlaw06_SentOnce_c31 sounderlaw06_SentOnce_c32
noncomputable def sounderlaw06_SentOnce_c36 : Code := subC (bodyC Try.f3) [1, 1, 1, 1, 0, 1, 0, 0, 1, 0, 0, 1, 1, 1, 0]
noncomputable def sounderlaw06_SentOnce_c39 : Code := subC (bodyC Try.f3) [1, 1, 1, 1, 0, 1, 0, 0, 1, 0, 0, 1, 1, 1, 1, 0, 0]
noncomputable def sounderlaw06_SentOnce_c41 : Code := subC (bodyC Try.f3) [1, 1, 1, 1, 0, 1, 0, 0, 1, 0, 0, 1, 1, 1, 1, 0, 1, 0]
noncomputable def sounderlaw06_SentOnce_c40 : Code := .cond (.tmp 53) sounderlaw06_SentOnce_c41 Code.skip
noncomputable def sounderlaw06_SentOnce_c38 : Code := .seq sounderlaw06_SentOnce_c39 sounderlaw06_SentOnce_c40
noncomputable def sounderlaw06_SentOnce_c44 : Code := subC (bodyC Try.f3) [1, 1, 1, 1, 0, 1, 0, 0, 1, 0, 0, 1, 1, 1, 1, 1, 0, 0]
noncomputable def sounderlaw06_SentOnce_c46 : Code := subC (bodyC Try.f3) [1, 1, 1, 1, 0, 1, 0, 0, 1, 0, 0, 1, 1, 1, 1, 1, 0, 1, 0]
noncomputable def sounderlaw06_SentOnce_c45 : Code := .cond (.tmp 59) sounderlaw06_SentOnce_c46 Code.skip
noncomputable def sounderlaw06_SentOnce_c43 : Code := .seq sounderlaw06_SentOnce_c44 sounderlaw06_SentOnce_c45
noncomputable def sounderlaw06_SentOnce_c48 : Code := subC (bodyC Try.f3) [1, 1, 1, 1, 0, 1, 0, 0, 1, 0, 0, 1, 1, 1, 1, 1, 1, 0]
noncomputable def sounderlaw06_SentOnce_c51 : Code := subC (bodyC Try.f3) [1, 1, 1, 1, 0, 1, 0, 0, 1, 0, 0, 1, 1, 1, 1, 1, 1, 1, 0, 0]
noncomputable def sounderlaw06_SentOnce_c50 : Code := .seq sounderlaw06_SentOnce_c51 Code.ret
noncomputable def sounderlaw06_SentOnce_c49 : Code := .cond (.tmp 65) sounderlaw06_SentOnce_c50 Code.skip
noncomputable def sounderlaw06_SentOnce_c47 : Code := .seq sounderlaw06_SentOnce_c48 sounderlaw06_SentOnce_c49
noncomputable def sounderlaw06_SentOnce_c42 : Code := .seq sounderlaw06_SentOnce_c43 sounderlaw06_SentOnce_c47
noncomputable def sounderlaw06_SentOnce_c37 : Code := .seq sounderlaw06_SentOnce_c38 sounderlaw06_SentOnce_c42
noncomputable def sounderlaw06_SentOnce_c35 : Code := .seq sounderlaw06_SentOnce_c36 sounderlaw06_SentOnce_c37
noncomputable def sounderlaw06_SentOnce_c29 : Code := .seq sounderlaw06_SentOnce_c30 sounderlaw06_SentOnce_c35
noncomputable def sounderlaw06_SentOnce_c27 : Code := .seq sounderlaw06_SentOnce_c28 sounderlaw06_SentOnce_c29
noncomputable def sounderlaw06_SentOnce_c25 : Code := .seq sounderlaw06_SentOnce_c26 sounderlaw06_SentOnce_c27
noncomputable def sounderlaw06_SentOnce_c24 : Code := .block 1 sounderlaw06_SentOnce_c25
noncomputable def sounderlaw06_SentOnce_c52 : Code := subC (bodyC Try.f3) [1, 1, 1, 1, 0, 1, 0, 0, 1, 1]
noncomputable def sounderlaw06_SentOnce_c23 : Code := .seq sounderlaw06_SentOnce_c24 sounderlaw06_SentOnce_c52
noncomputable def sounderlaw06_SentOnce_c18 : Code := .seq sounderlaw06_SentOnce_c19 sounderlaw06_SentOnce_c23
noncomputable def sounderlaw06_SentOnce_c17 : Code := .loop sounderlaw06_SentOnce_c18
noncomputable def sounderlaw06_SentOnce_c16 : Code := .block 0 sounderlaw06_SentOnce_c17
noncomputable def sounderlaw06_SentOnce_c14 : Code := .seq sounderlaw06_SentOnce_c15 sounderlaw06_SentOnce_c16
noncomputable def sounderlaw06_SentOnce_c54 : Code := subC (bodyC Try.f3) [1, 1, 1, 1, 1, 0]
noncomputable def sounderlaw06_SentOnce_c53 : Code := .seq sounderlaw06_SentOnce_c54 Code.ret
noncomputable def sounderlaw06_SentOnce_c13 : Code := .seq sounderlaw06_SentOnce_c14 sounderlaw06_SentOnce_c53
noncomputable def sounderlaw06_SentOnce_c11 : Code := .seq sounderlaw06_SentOnce_c12 sounderlaw06_SentOnce_c13
noncomputable def sounderlaw06_SentOnce_c5 : Code := .seq sounderlaw06_SentOnce_c6 sounderlaw06_SentOnce_c11
noncomputable def sounderlaw06_SentOnce_c3 : Code := .seq sounderlaw06_SentOnce_c4 sounderlaw06_SentOnce_c5
noncomputable def sounderlaw06_SentOnce_c1 : Code := .seq sounderlaw06_SentOnce_c2 sounderlaw06_SentOnce_c3
def sounderlaw06_SentOnce_pi (_ : Nat) : Pl := .nil
def sounderlaw06_SentOnce_g55 (S : Value → Heap → Prop) (x0 : Value) (H : Heap) : Prop :=
  S x0 H
theorem sounderlaw06_SentOnce_g55_e (S : Value → Heap → Prop) (x : Nat → Value) (H : Heap) : wpE tab P sounderlaw06_SentOnce_pi sounderlaw06_SentOnce_c2 (nQ fun l H => S (l.getD 0 undef) H) ((List.range 67).map x) H = sounderlaw06_SentOnce_g55 S (x 0) H := by kernel_rfl
def sounderlaw06_SentOnce_g56 (S : Value → Value → Value → Heap → Prop) (x0 : Value) (H : Heap) : Prop :=
  EvF P N.sent_New #[(.int .i64 256)] H fun v10 H1 =>
  bnd (exV 0 v10) fun v11 =>
  bnd (exV 1 v10) fun v12 =>
  S x0 v11 v12 H1
theorem sounderlaw06_SentOnce_g56_e (S : Value → Value → Value → Heap → Prop) (x : Nat → Value) (H : Heap) : wpE tab P sounderlaw06_SentOnce_pi sounderlaw06_SentOnce_c4 (nQ fun l H => S (l.getD 0 undef) (l.getD 3 undef) (l.getD 4 undef) H) ((List.range 67).map x) H = sounderlaw06_SentOnce_g56 S (x 0) H := by kernel_rfl
def sounderlaw06_SentOnce_g57 (S : Value → Value → Value → Heap → Prop) (x0 x3 x4 : Value) (H : Heap) : Prop :=
  bnd (binV .int .neq x4 (.int .i64 0)) fun v14 =>
  S x0 x3 v14 H
theorem sounderlaw06_SentOnce_g57_e (S : Value → Value → Value → Heap → Prop) (x : Nat → Value) (H : Heap) : wpE tab P sounderlaw06_SentOnce_pi sounderlaw06_SentOnce_c7 (nQ fun l H => S (l.getD 0 undef) (l.getD 3 undef) (l.getD 14 undef) H) ((List.range 67).map x) H = sounderlaw06_SentOnce_g57 S (x 0) (x 3) (x 4) H := by kernel_rfl
def sounderlaw06_SentOnce_g58 (S : Value → Heap → Prop) (H : Heap) : Prop :=
  S (.bool false) H
theorem sounderlaw06_SentOnce_g58_e (S : Value → Heap → Prop) (x : Nat → Value) (H : Heap) : wpE tab P sounderlaw06_SentOnce_pi sounderlaw06_SentOnce_c10 (nQ fun l H => S (l.getD 2 undef) H) ((List.range 67).map x) H = sounderlaw06_SentOnce_g58 S  H := by kernel_rfl
def sounderlaw06_SentOnce_g59 (S : Value → Value → Value → Heap → Prop) (x0 x3 : Value) (H : Heap) : Prop :=
  S x0 x3 (.int .i64 (-1)) H
theorem sounderlaw06_SentOnce_g59_e (S : Value → Value → Value → Heap → Prop) (x : Nat → Value) (H : Heap) : wpE tab P sounderlaw06_SentOnce_pi sounderlaw06_SentOnce_c12 (nQ fun l H => S (l.getD 0 undef) (l.getD 3 undef) (l.getD 5 undef) H) ((List.range 67).map x) H = sounderlaw06_SentOnce_g59 S (x 0) (x 3) H := by kernel_rfl
def sounderlaw06_SentOnce_g60 (S : Value → Value → Value → Value → Heap → Prop) (x0 x3 x5 : Value) (H : Heap) : Prop :=
  S x0 x3 x5 (.int .i64 0) H
theorem sounderlaw06_SentOnce_g60_e (S : Value → Value → Value → Value → Heap → Prop) (x : Nat → Value) (H : Heap) : wpE tab P sounderlaw06_SentOnce_pi sounderlaw06_SentOnce_c15 (nQ fun l H => S (l.getD 0 undef) (l.getD 3 undef) (l.getD 5 undef) (l.getD 6 undef) H) ((List.range 67).map x) H = sounderlaw06_SentOnce_g60 S (x 0) (x 3) (x 5) H := by kernel_rfl
def sounderlaw06_SentOnce_g62 (S : Value → Value → Value → Value → Value → Heap → Prop) (x0 x3 x5 x6 : Value) (H : Heap) : Prop :=
  bnd (lenV x0) fun v17 =>
  bnd (binV .int .lss x6 v17) fun v18 =>
  brV v18
  (bnd (binV .int .lss x6 (.int .i64 60)) fun v21 =>
  S x0 x3 x5 x6 v21 H)
  (S x0 x3 x5 x6 (.bool false) H)
theorem sounderlaw06_SentOnce_g62_e (S : Value → Value → Value → Value → Value → Heap → Prop) (x : Nat → Value) (H : Heap) : wpE tab P sounderlaw06_SentOnce_pi sounderlaw06_SentOnce_c20 (nQ fun l H => S (l.getD 0 undef) (l.getD 3 undef) (l.getD 5 undef) (l.getD 6 undef) (l.getD 22 undef) H) ((List.range 67).map x) H = sounderlaw06_SentOnce_g62 S (x 0) (x 3) (x 5) (x 6) H := by kernel_rfl
def sounderlaw06_SentOnce_g63 (S : Value → Value → Value → Value → Value → Heap → Prop) (x0 x3 x5 x6 : Value) (H : Heap) : Prop :=
  bnd (ixSV 1 x0 x6) fun v27 =>
  bnd (ldE false 1 v27 H) fun v28 =>
  EvF P N.sounderref00_Bring #[v28, (.int .i64 40)] H fun v29 H1 =>
  S x0 x3 x5 x6 v29 H1
theorem sounderlaw06_SentOnce_g63_e (S : Value → Value → Value → Value → Value → Heap → Prop) (x : Nat → Value) (H : Heap) : wpE tab P sounderlaw06_SentOnce_pi sounderlaw06_SentOnce_c26 (nQ fun l H => S (l.getD 0 undef) (l.getD 3 undef) (l.getD 5 undef) (l.getD 6 undef) (l.getD 7 undef) H) ((List.range 67).map x) H = sounderlaw06_SentOnce_g63 S (x 0) (x 3) (x 5) (x 6) H := by kernel_rfl
def sounderlaw06_SentOnce_g64 (S : Value → Value → Value → Value → Value → Value → Heap → Prop) (x0 x3 x5 x6 x7 : Value) (H : Heap) : Prop :=
  EvF P N.sounderlaw06_one #[x7] H fun v32 H1 =>
  EvF P N.sent_Log_Put #[x3, v32] H1 fun v33 H2 =>
  S x0 x3 x5 x6 x7 v33 H2
theorem sounderlaw06_SentOnce_g64_e (S : Value → Value → Value → Value → Value → Value → Heap → Prop) (x : Nat → Value) (H : Heap) : wpE tab P sounderlaw06_SentOnce_pi sounderlaw06_SentOnce_c28 (nQ fun l H => S (l.getD 0 undef) (l.getD 3 undef) (l.getD 5 undef) (l.getD 6 undef) (l.getD 7 undef) (l.getD 8 undef) H) ((List.range 67).map x) H = sounderlaw06_SentOnce_g64 S (x 0) (x 3) (x 5) (x 6) (x 7) H := by kernel_rfl
def sounderlaw06_SentOnce_g65 (S : Value → Value → Value → Value → Value → Value → Heap → Prop) (x0 x3 x5 x6 x7 x8 : Value) (H : Heap) : Prop :=
  bnd (binV .int .eql x8 (.int .i64 0)) fun v35 =>
  bnd (binV .int .gtr x7 x5) fun v38 =>
  bnd (binV .bool .neq v35 v38) fun v39 =>
  brV v39
  (brV undef
  (bnd (binV .int .neq x8 (.int .i64 60)) fun _ =>
  S x0 x3 x5 x6 x7 (.bool true) H)
  (S x0 x3 x5 x6 x7 (.bool true) H))
  (bnd (binV .int .neq x8 (.int .i64 0)) fun v42 =>
  brV v42
  (bnd (binV .int .neq x8 (.int .i64 60)) fun v45_2 =>
  S x0 x3 x5 x6 x7 v45_2 H)
  (S x0 x3 x5 x6 x7 (.bool false) H))
theorem sounderlaw06_SentOnce_g65_e (S : Value → Value → Value → Value → Value → Value → Heap → Prop) (x : Nat → Value) (H : Heap) : wpE tab P sounderlaw06_SentOnce_pi sounderlaw06_SentOnce_c31 (nQ fun l H => S (l.getD 0 undef) (l.getD 3 undef) (l.getD 5 undef) (l.getD 6 undef) (l.getD 7 undef) (l.getD 47 undef) H) ((List.range 67).map x) H = sounderlaw06_SentOnce_g65 S (x 0) (x 3) (x 5) (x 6) (x 7) (x 8) H := by kernel_rfl
def sounderlaw06_SentOnce_g66 (S : Value → Heap → Prop) (H : Heap) : Prop :=
  S (.bool false) H
theorem sounderlaw06_SentOnce_g66_e (S : Value → Heap → Prop) (x : Nat → Value) (H : Heap) : wpE tab P sounderlaw06_SentOnce_pi sounderlaw06_SentOnce_c34 (nQ fun l H => S (l.getD 2 undef) H) ((List.range 67).map x) H = sounderlaw06_SentOnce_g66 S  H := by kernel_rfl
def sounderlaw06_SentOnce_g67 (S : Value → Value → Value → Value → Value → Heap → Prop) (x0 x3 x5 x6 x7 : Value) (H : Heap) : Prop :=
  bnd (foldV max2V x5 [x7]) fun v50 =>
  S x0 x3 v50 x6 x7 H
theorem sounderlaw06_SentOnce_g67_e (S : Value → Value → Value → Value → Value → Heap → Prop) (x : Nat → Value) (H : Heap) : wpE tab P sounderlaw06_SentOnce_pi sounderlaw06_SentOnce_c36 (nQ fun l H => S (l.getD 0 undef) (l.getD 3 undef) (l.getD 5 undef) (l.getD 6 undef) (l.getD 7 undef) H) ((List.range 67).map x) H = sounderlaw06_SentOnce_g67 S (x 0) (x 3) (x 5) (x 6) (x 7) H := by kernel_rfl
def sounderlaw06_SentOnce_g70 (S : Value → Value → Value → Value → Value → Heap → Prop) (x0 x3 x5 x6 : Value) (H : Heap) : Prop :=
  EvF P N.sent_Log_Last #[x3] H fun v63 H1 =>
  bnd (binV .int .neq v63 x5) fun v65 =>
  S x0 x3 x5 x6 v65 H1
theorem sounderlaw06_SentOnce_g70_e (S : Value → Value → Value → Value → Value → Heap → Prop) (x : Nat → Value) (H : Heap) : wpE tab P sounderlaw06_SentOnce_pi sounderlaw06_SentOnce_c48 (nQ fun l H => S (l.getD 0 undef) (l.getD 3 undef) (l.getD 5 undef) (l.getD 6 undef) (l.getD 65 undef) H) ((List.range 67).map x) H = sounderlaw06_SentOnce_g70 S (x 0) (x 3) (x 5) (x 6) H := by kernel_rfl
def sounderlaw06_SentOnce_g71 (S : Value → Heap → Prop) (H : Heap) : Prop :=
  S (.bool false) H
theorem sounderlaw06_SentOnce_g71_e (S : Value → Heap → Prop) (x : Nat → Value) (H : Heap) : wpE tab P sounderlaw06_SentOnce_pi sounderlaw06_SentOnce_c51 (nQ fun l H => S (l.getD 2 undef) H) ((List.range 67).map x) H = sounderlaw06_SentOnce_g71 S  H := by kernel_rfl
def sounderlaw06_SentOnce_g72 (S : Value → Value → Value → Value → Heap → Prop) (x0 x3 x5 x6 : Value) (H : Heap) : Prop :=
  bnd (binV .int .add x6 (.int .i64 1)) fun v24 =>
  S x0 x3 x5 v24 H
theorem sounderlaw06_SentOnce_g72_e (S : Value → Value → Value → Value → Heap → Prop) (x : Nat → Value) (H : Heap) : wpE tab P sounderlaw06_SentOnce_pi sounderlaw06_SentOnce_c52 (nQ fun l H => S (l.getD 0 undef) (l.getD 3 undef) (l.getD 5 undef) (l.getD 6 undef) H) ((List.range 67).map x) H = sounderlaw06_SentOnce_g72 S (x 0) (x 3) (x 5) (x 6) H := by kernel_rfl
def sounderlaw06_SentOnce_s69 (x0 x3 x5 x6 : Value) (K1 : Value → Value → Value → Value →  Heap → Prop) (R : Value → Heap → Prop) (H : Heap) : Prop :=
  sounderlaw06_SentOnce_g70 (fun x0 x3 x5 x6 x65 H => brV x65
  (sounderlaw06_SentOnce_g71 (fun x2 H => R x2 H) H)
  (sounderlaw06_SentOnce_g72 (fun x0 x3 x5 x6 H => K1 x0 x3 x5 x6 H) x0 x3 x5 x6 H)) x0 x3 x5 x6 H
noncomputable def sounderlaw06_SentOnce_q73 (R : Value → Heap → Prop) : Exit → List Value → Heap → Prop := (retQ tab sounderlaw06_SentOnce_rs R)
noncomputable def sounderlaw06_SentOnce_q74 (R : Value → Heap → Prop) : Exit → List Value → Heap → Prop := (thenE (fun l H => wpE tab P sounderlaw06_SentOnce_pi sounderlaw06_SentOnce_c53 (sounderlaw06_SentOnce_q73 R) l H) (sounderlaw06_SentOnce_q73 R))
noncomputable def sounderlaw06_SentOnce_q75 (R : Value → Heap → Prop) : Exit → List Value → Heap → Prop := (blkE 0 (sounderlaw06_SentOnce_q74 R))
noncomputable def sounderlaw06_SentOnce_q76 (K1 : Value → Value → Value → Value →  Heap → Prop) (R : Value → Heap → Prop) : Exit → List Value → Heap → Prop := (thenE (fun l H => K1 (l.getD 0 undef) (l.getD 3 undef) (l.getD 5 undef) (l.getD 6 undef) H) (sounderlaw06_SentOnce_q75 R))
noncomputable def sounderlaw06_SentOnce_q77 (K1 : Value → Value → Value → Value →  Heap → Prop) (R : Value → Heap → Prop) : Exit → List Value → Heap → Prop := (thenE (fun l H => wpE tab P sounderlaw06_SentOnce_pi sounderlaw06_SentOnce_c52 (sounderlaw06_SentOnce_q76 K1 R) l H) (sounderlaw06_SentOnce_q76 K1 R))
noncomputable def sounderlaw06_SentOnce_q78 (K1 : Value → Value → Value → Value →  Heap → Prop) (R : Value → Heap → Prop) : Exit → List Value → Heap → Prop := (blkE 1 (sounderlaw06_SentOnce_q77 K1 R))
theorem sounderlaw06_SentOnce_s69_i (K1 : Value → Value → Value → Value →  Heap → Prop) (R : Value → Heap → Prop) (l : List Value) (H : Heap) (hl : l.length = 67) (h : sounderlaw06_SentOnce_s69 (l.getD 0 undef) (l.getD 3 undef) (l.getD 5 undef) (l.getD 6 undef) K1 R H) : wpE tab P sounderlaw06_SentOnce_pi sounderlaw06_SentOnce_c47 (sounderlaw06_SentOnce_q78 K1 R) l H := by
  refine seqI (c := sounderlaw06_SentOnce_c47) rfl ?_
  refine regI hl (Eq.mpr (sounderlaw06_SentOnce_g70_e _ (fun i => l.getD i undef) _) h) ?_
  clear h hl
  intro l H hl h
  refine thenN ?_
  refine condI (c := sounderlaw06_SentOnce_c49) rfl h ?_ ?_
  · clear h; intro h
    refine seqI (c := sounderlaw06_SentOnce_c50) rfl ?_
    refine regI hl (Eq.mpr (sounderlaw06_SentOnce_g71_e _ (fun i => l.getD i undef) _) h) ?_
    clear h hl
    intro l H hl h
    refine thenN ?_
    refine retI rfl ?_
    refine blkR ?_
    refine thenR ?_
    refine thenR ?_
    refine blkR ?_
    refine thenR ?_
    exact h
  · clear h; intro h
    refine skipI rfl ?_
    refine blkN ?_
    refine thenN ?_
    refine regI hl (Eq.mpr (sounderlaw06_SentOnce_g72_e _ (fun i => l.getD i undef) _) h) ?_
    clear h hl
    intro l H hl h
    refine thenN ?_
    exact h
def sounderlaw06_SentOnce_g79 (S : Value → Value → Value → Value → Value → Heap → Prop) (x0 x3 x5 x6 : Value) (H : Heap) : Prop :=
  bnd (binV .int .rem x6 (.int .i64 11)) fun v58 =>
  bnd (binV .int .eql v58 (.int .i64 10)) fun v59 =>
  S x0 x3 x5 x6 v59 H
theorem sounderlaw06_SentOnce_g79_e (S : Value → Value → Value → Value → Value → Heap → Prop) (x : Nat → Value) (H : Heap) : wpE tab P sounderlaw06_SentOnce_pi sounderlaw06_SentOnce_c44 (nQ fun l H => S (l.getD 0 undef) (l.getD 3 undef) (l.getD 5 undef) (l.getD 6 undef) (l.getD 59 undef) H) ((List.range 67).map x) H = sounderlaw06_SentOnce_g79 S (x 0) (x 3) (x 5) (x 6) H := by kernel_rfl
def sounderlaw06_SentOnce_g80 (S : Value → Value → Value → Value → Heap → Prop) (x0 x3 x5 x6 : Value) (H : Heap) : Prop :=
  EvF P N.sent_Log_Clear #[x3] H fun _ H1 =>
  S x0 x3 x5 x6 H1
theorem sounderlaw06_SentOnce_g80_e (S : Value → Value → Value → Value → Heap → Prop) (x : Nat → Value) (H : Heap) : wpE tab P sounderlaw06_SentOnce_pi sounderlaw06_SentOnce_c46 (nQ fun l H => S (l.getD 0 undef) (l.getD 3 undef) (l.getD 5 undef) (l.getD 6 undef) H) ((List.range 67).map x) H = sounderlaw06_SentOnce_g80 S (x 0) (x 3) (x 5) (x 6) H := by kernel_rfl
def sounderlaw06_SentOnce_s68 (x0 x3 x5 x6 : Value) (K1 : Value → Value → Value → Value →  Heap → Prop) (R : Value → Heap → Prop) (H : Heap) : Prop :=
  sounderlaw06_SentOnce_g79 (fun x0 x3 x5 x6 x59 H => brV x59
  (sounderlaw06_SentOnce_g80 (fun x0 x3 x5 x6 H => sounderlaw06_SentOnce_s69 x0 x3 x5 x6 K1 R H) x0 x3 x5 x6 H)
  (sounderlaw06_SentOnce_s69 x0 x3 x5 x6 K1 R H)) x0 x3 x5 x6 H
theorem sounderlaw06_SentOnce_s68_i (K1 : Value → Value → Value → Value →  Heap → Prop) (R : Value → Heap → Prop) (l : List Value) (H : Heap) (hl : l.length = 67) (h : sounderlaw06_SentOnce_s68 (l.getD 0 undef) (l.getD 3 undef) (l.getD 5 undef) (l.getD 6 undef) K1 R H) : wpE tab P sounderlaw06_SentOnce_pi sounderlaw06_SentOnce_c42 (sounderlaw06_SentOnce_q78 K1 R) l H := by
  refine seqI (c := sounderlaw06_SentOnce_c42) rfl ?_
  refine seqI (c := sounderlaw06_SentOnce_c43) rfl ?_
  refine regI hl (Eq.mpr (sounderlaw06_SentOnce_g79_e _ (fun i => l.getD i undef) _) h) ?_
  clear h hl
  intro l H hl h
  refine thenN ?_
  refine condI (c := sounderlaw06_SentOnce_c45) rfl h ?_ ?_
  · clear h; intro h
    refine regI hl (Eq.mpr (sounderlaw06_SentOnce_g80_e _ (fun i => l.getD i undef) _) h) ?_
    clear h hl
    intro l H hl h
    refine thenN ?_
    exact sounderlaw06_SentOnce_s69_i K1 R l H hl h
  · clear h; intro h
    refine skipI rfl ?_
    refine thenN ?_
    exact sounderlaw06_SentOnce_s69_i K1 R l H hl h
def sounderlaw06_SentOnce_g81 (S : Value → Value → Value → Value → Value → Value → Heap → Prop) (x0 x3 x5 x6 x7 : Value) (H : Heap) : Prop :=
  bnd (binV .int .rem x7 (.int .i64 2)) fun v52 =>
  bnd (binV .int .eql v52 (.int .i64 0)) fun v53 =>
  S x0 x3 x5 x6 x7 v53 H
theorem sounderlaw06_SentOnce_g81_e (S : Value → Value → Value → Value → Value → Value → Heap → Prop) (x : Nat → Value) (H : Heap) : wpE tab P sounderlaw06_SentOnce_pi sounderlaw06_SentOnce_c39 (nQ fun l H => S (l.getD 0 undef) (l.getD 3 undef) (l.getD 5 undef) (l.getD 6 undef) (l.getD 7 undef) (l.getD 53 undef) H) ((List.range 67).map x) H = sounderlaw06_SentOnce_g81 S (x 0) (x 3) (x 5) (x 6) (x 7) H := by kernel_rfl
def sounderlaw06_SentOnce_g82 (S : Value → Value → Value → Value → Heap → Prop) (x0 x3 x5 x6 x7 : Value) (H : Heap) : Prop :=
  EvF P N.sent_Log_Drop #[x3, x7] H fun _ H1 =>
  S x0 x3 x5 x6 H1
theorem sounderlaw06_SentOnce_g82_e (S : Value → Value → Value → Value → Heap → Prop) (x : Nat → Value) (H : Heap) : wpE tab P sounderlaw06_SentOnce_pi sounderlaw06_SentOnce_c41 (nQ fun l H => S (l.getD 0 undef) (l.getD 3 undef) (l.getD 5 undef) (l.getD 6 undef) H) ((List.range 67).map x) H = sounderlaw06_SentOnce_g82 S (x 0) (x 3) (x 5) (x 6) (x 7) H := by kernel_rfl
def sounderlaw06_SentOnce_g83 (S : Value → Heap → Prop) (H : Heap) : Prop :=
  EvF P N.sounderlaw06_works #[] H fun v66 H1 =>
  S v66 H1
theorem sounderlaw06_SentOnce_g83_e (S : Value → Heap → Prop) (x : Nat → Value) (H : Heap) : wpE tab P sounderlaw06_SentOnce_pi sounderlaw06_SentOnce_c54 (nQ fun l H => S (l.getD 2 undef) H) ((List.range 67).map x) H = sounderlaw06_SentOnce_g83 S  H := by kernel_rfl
def sounderlaw06_SentOnce_s61 (x0 x3 x5 x6 : Value) (K1 : Value → Value → Value → Value →  Heap → Prop) (R : Value → Heap → Prop) (H : Heap) : Prop :=
  sounderlaw06_SentOnce_g62 (fun x0 x3 x5 x6 x22 H => brV x22
  (sounderlaw06_SentOnce_g63 (fun x0 x3 x5 x6 x7 H => sounderlaw06_SentOnce_g64 (fun x0 x3 x5 x6 x7 x8 H => sounderlaw06_SentOnce_g65 (fun x0 x3 x5 x6 x7 x47 H => brV x47
  (sounderlaw06_SentOnce_g66 (fun x2 H => R x2 H) H)
  (sounderlaw06_SentOnce_g67 (fun x0 x3 x5 x6 x7 H => sounderlaw06_SentOnce_g81 (fun x0 x3 x5 x6 x7 x53 H => brV x53
  (sounderlaw06_SentOnce_g82 (fun x0 x3 x5 x6 H => sounderlaw06_SentOnce_s68 x0 x3 x5 x6 K1 R H) x0 x3 x5 x6 x7 H)
  (sounderlaw06_SentOnce_s68 x0 x3 x5 x6 K1 R H)) x0 x3 x5 x6 x7 H) x0 x3 x5 x6 x7 H)) x0 x3 x5 x6 x7 x8 H) x0 x3 x5 x6 x7 H) x0 x3 x5 x6 H)
  (sounderlaw06_SentOnce_g83 (fun x2 H => R x2 H) H)) x0 x3 x5 x6 H
theorem sounderlaw06_SentOnce_s61_i (K1 : Value → Value → Value → Value →  Heap → Prop) (R : Value → Heap → Prop) (l : List Value) (H : Heap) (hl : l.length = 67) (h : sounderlaw06_SentOnce_s61 (l.getD 0 undef) (l.getD 3 undef) (l.getD 5 undef) (l.getD 6 undef) K1 R H) : wpE tab P sounderlaw06_SentOnce_pi sounderlaw06_SentOnce_c18 (sounderlaw06_SentOnce_q76 K1 R) l H := by
  refine seqI (c := sounderlaw06_SentOnce_c18) rfl ?_
  refine seqI (c := sounderlaw06_SentOnce_c19) rfl ?_
  refine regI hl (Eq.mpr (sounderlaw06_SentOnce_g62_e _ (fun i => l.getD i undef) _) h) ?_
  clear h hl
  intro l H hl h
  refine thenN ?_
  refine condI (c := sounderlaw06_SentOnce_c21) rfl h ?_ ?_
  · clear h; intro h
    refine skipI rfl ?_
    refine thenN ?_
    refine seqI (c := sounderlaw06_SentOnce_c23) rfl ?_
    refine blockI (c := sounderlaw06_SentOnce_c24) rfl ?_
    refine seqI (c := sounderlaw06_SentOnce_c25) rfl ?_
    refine regI hl (Eq.mpr (sounderlaw06_SentOnce_g63_e _ (fun i => l.getD i undef) _) h) ?_
    clear h hl
    intro l H hl h
    refine thenN ?_
    refine seqI (c := sounderlaw06_SentOnce_c27) rfl ?_
    refine regI hl (Eq.mpr (sounderlaw06_SentOnce_g64_e _ (fun i => l.getD i undef) _) h) ?_
    clear h hl
    intro l H hl h
    refine thenN ?_
    refine seqI (c := sounderlaw06_SentOnce_c29) rfl ?_
    refine seqI (c := sounderlaw06_SentOnce_c30) rfl ?_
    refine regI hl (Eq.mpr (sounderlaw06_SentOnce_g65_e _ (fun i => l.getD i undef) _) h) ?_
    clear h hl
    intro l H hl h
    refine thenN ?_
    refine condI (c := sounderlaw06_SentOnce_c32) rfl h ?_ ?_
    · clear h; intro h
      refine seqI (c := sounderlaw06_SentOnce_c33) rfl ?_
      refine regI hl (Eq.mpr (sounderlaw06_SentOnce_g66_e _ (fun i => l.getD i undef) _) h) ?_
      clear h hl
      intro l H hl h
      refine thenN ?_
      refine retI rfl ?_
      refine thenR ?_
      refine blkR ?_
      refine thenR ?_
      refine thenR ?_
      refine blkR ?_
      refine thenR ?_
      exact h
    · clear h; intro h
      refine skipI rfl ?_
      refine thenN ?_
      refine seqI (c := sounderlaw06_SentOnce_c35) rfl ?_
      refine regI hl (Eq.mpr (sounderlaw06_SentOnce_g67_e _ (fun i => l.getD i undef) _) h) ?_
      clear h hl
      intro l H hl h
      refine thenN ?_
      refine seqI (c := sounderlaw06_SentOnce_c37) rfl ?_
      refine seqI (c := sounderlaw06_SentOnce_c38) rfl ?_
      refine regI hl (Eq.mpr (sounderlaw06_SentOnce_g81_e _ (fun i => l.getD i undef) _) h) ?_
      clear h hl
      intro l H hl h
      refine thenN ?_
      refine condI (c := sounderlaw06_SentOnce_c40) rfl h ?_ ?_
      · clear h; intro h
        refine regI hl (Eq.mpr (sounderlaw06_SentOnce_g82_e _ (fun i => l.getD i undef) _) h) ?_
        clear h hl
        intro l H hl h
        refine thenN ?_
        exact sounderlaw06_SentOnce_s68_i K1 R l H hl h
      · clear h; intro h
        refine skipI rfl ?_
        refine thenN ?_
        exact sounderlaw06_SentOnce_s68_i K1 R l H hl h
  · clear h; intro h
    refine exitI (c := sounderlaw06_SentOnce_c22) rfl ?_
    refine thenX ?_
    refine thenX ?_
    refine blkX ?_
    refine thenN ?_
    refine seqI (c := sounderlaw06_SentOnce_c53) rfl ?_
    refine regI hl (Eq.mpr (sounderlaw06_SentOnce_g83_e _ (fun i => l.getD i undef) _) h) ?_
    clear h hl
    intro l H hl h
    refine thenN ?_
    refine retI rfl ?_
    exact h
def sounderlaw06_SentOnce_l84 (x0 x3 x5 x6 : Value) (R : Value → Heap → Prop) (H : Heap) : Prop :=
  ∃ (I : Value → Value → Heap → Prop) (μ : Value → Value → Heap → Nat), I x5 x6 H ∧ ∀ (y5 : Value) (y6 : Value) (H : Heap), I y5 y6 H → sounderlaw06_SentOnce_s61 x0 x3 y5 y6 (fun z0 z3 z5 z6 H' => z0 = x0 ∧ z3 = x3 ∧ (I z5 z6 H' ∧ μ z5 z6 H' < μ y5 y6 H)) R H
def sounderlaw06_SentOnce (x0 : Value) (R : Value → Heap → Prop) (H : Heap) : Prop :=
  sounderlaw06_SentOnce_g55 (fun x0 H => sounderlaw06_SentOnce_g56 (fun x0 x3 x4 H => sounderlaw06_SentOnce_g57 (fun x0 x3 x14 H => brV x14
  (sounderlaw06_SentOnce_g58 (fun x2 H => R x2 H) H)
  (sounderlaw06_SentOnce_g59 (fun x0 x3 x5 H => sounderlaw06_SentOnce_g60 (fun x0 x3 x5 x6 H => sounderlaw06_SentOnce_l84 x0 x3 x5 x6 R H) x0 x3 x5 H) x0 x3 H)) x0 x3 x4 H) x0 H) x0 H
theorem sounderlaw06_SentOnce_i (R : Value → Heap → Prop) (x0 : Value) (H : Heap) (h : sounderlaw06_SentOnce x0 R H) : wpE tab P sounderlaw06_SentOnce_pi sounderlaw06_SentOnce_c1 (retQ tab sounderlaw06_SentOnce_rs R) [x0, undef, undef, undef, undef, undef, undef, undef, undef, undef, undef, undef, undef, undef, undef, undef, undef, undef, undef, undef, undef, undef, undef, undef, undef, undef, undef, undef, undef, undef, undef, undef, undef, undef, undef, undef, undef, undef, undef, undef, undef, undef, undef, undef, undef, undef, undef, undef, undef, undef, undef, undef, undef, undef, undef, undef, undef, undef, undef, undef, undef, undef, undef, undef, undef, undef, undef] H := by
  obtain ⟨l, hl, el⟩ : ∃ l : List Value, l.length = 67 ∧ l = [x0, undef, undef, undef, undef, undef, undef, undef, undef, undef, undef, undef, undef, undef, undef, undef, undef, undef, undef, undef, undef, undef, undef, undef, undef, undef, undef, undef, undef, undef, undef, undef, undef, undef, undef, undef, undef, undef, undef, undef, undef, undef, undef, undef, undef, undef, undef, undef, undef, undef, undef, undef, undef, undef, undef, undef, undef, undef, undef, undef, undef, undef, undef, undef, undef, undef, undef] := ⟨_, rfl, rfl⟩
  rw [← el]
  have h : (fun (x0 : Value) => sounderlaw06_SentOnce_g55 (fun x0 H => sounderlaw06_SentOnce_g56 (fun x0 x3 x4 H => sounderlaw06_SentOnce_g57 (fun x0 x3 x14 H => brV x14
(sounderlaw06_SentOnce_g58 (fun x2 H => R x2 H) H)
(sounderlaw06_SentOnce_g59 (fun x0 x3 x5 H => sounderlaw06_SentOnce_g60 (fun x0 x3 x5 x6 H => sounderlaw06_SentOnce_l84 x0 x3 x5 x6 R H) x0 x3 x5 H) x0 x3 H)) x0 x3 x4 H) x0 H) x0 H) (l.getD 0 undef) := by rw [el]; exact h
  clear el
  refine seqI (c := sounderlaw06_SentOnce_c1) rfl ?_
  refine regI hl (Eq.mpr (sounderlaw06_SentOnce_g55_e _ (fun i => l.getD i undef) _) h) ?_
  clear h hl
  intro l H hl h
  refine thenN ?_
  refine seqI (c := sounderlaw06_SentOnce_c3) rfl ?_
  refine regI hl (Eq.mpr (sounderlaw06_SentOnce_g56_e _ (fun i => l.getD i undef) _) h) ?_
  clear h hl
  intro l H hl h
  refine thenN ?_
  refine seqI (c := sounderlaw06_SentOnce_c5) rfl ?_
  refine seqI (c := sounderlaw06_SentOnce_c6) rfl ?_
  refine regI hl (Eq.mpr (sounderlaw06_SentOnce_g57_e _ (fun i => l.getD i undef) _) h) ?_
  clear h hl
  intro l H hl h
  refine thenN ?_
  refine condI (c := sounderlaw06_SentOnce_c8) rfl h ?_ ?_
  · clear h; intro h
    refine seqI (c := sounderlaw06_SentOnce_c9) rfl ?_
    refine regI hl (Eq.mpr (sounderlaw06_SentOnce_g58_e _ (fun i => l.getD i undef) _) h) ?_
    clear h hl
    intro l H hl h
    refine thenN ?_
    refine retI rfl ?_
    refine thenR ?_
    exact h
  · clear h; intro h
    refine skipI rfl ?_
    refine thenN ?_
    refine seqI (c := sounderlaw06_SentOnce_c11) rfl ?_
    refine regI hl (Eq.mpr (sounderlaw06_SentOnce_g59_e _ (fun i => l.getD i undef) _) h) ?_
    clear h hl
    intro l H hl h
    refine thenN ?_
    refine seqI (c := sounderlaw06_SentOnce_c13) rfl ?_
    refine seqI (c := sounderlaw06_SentOnce_c14) rfl ?_
    refine regI hl (Eq.mpr (sounderlaw06_SentOnce_g60_e _ (fun i => l.getD i undef) _) h) ?_
    clear h hl
    intro l H hl h
    refine thenN ?_
    refine blockI (c := sounderlaw06_SentOnce_c16) rfl ?_
    obtain ⟨I, μ, h0, hr⟩ := h
    refine loopI (c := sounderlaw06_SentOnce_c17) rfl (fun l' H' => l'.getD 0 undef = l.getD 0 undef ∧ l'.getD 3 undef = l.getD 3 undef ∧ I (l'.getD 5 undef) (l'.getD 6 undef) H') (fun l' H' => μ (l'.getD 5 undef) (l'.getD 6 undef) H') hl ⟨rfl, rfl, h0⟩ ?_
    rintro l1 H1 hl1 ⟨e0, e3, hI⟩
    have hb := hr (l1.getD 5 undef) (l1.getD 6 undef) H1 hI
    rw [← e0, ← e3] at hb
    refine wpE_mono _ l1 H1 hl1 ?_ (sounderlaw06_SentOnce_s61_i _ R l1 H1 hl1 hb)
    intro e l2 H2 hl2 hq
    cases e with
    | normal => exact fun _ => (by obtain ⟨d0, d3, g1, g2⟩ := hq; exact ⟨⟨d0.trans e0, d3.trans e3, g1⟩, g2⟩)
    | _ => exact hq
theorem sounderlaw06_SentOnce_ok : okB sounderlaw06_SentOnce_pi sounderlaw06_SentOnce_c1 = true := by kernel_rfl
theorem sounderlaw06_SentOnce_ev (x0 : Value) (R : Value → Heap → Prop) (H : Heap) (h : sounderlaw06_SentOnce x0 R H) : EvF P N.sounderlaw06_SentOnce #[x0] H R :=
  EvF_intro (args := [x0]) (k := 66) (rs := sounderlaw06_SentOnce_rs) tab_ok mixed Try.func3 (show Try.f3.body = some sounderlaw06_SentOnce_c1 by kernel_rfl) Try.call3 Try.ntmps3 (by kernel_rfl) (okCode_of _ sounderlaw06_SentOnce_ok) rfl (sounderlaw06_SentOnce_i R x0 H h)
/- 4: sounder/sounderlaw06.SentSums -/
def sounderlaw06_SentSums_rs : List ResultVar := [.tmp 2]
noncomputable def sounderlaw06_SentSums_c2 : Code := subC (bodyC Try.f4) [0]
noncomputable def sounderlaw06_SentSums_c5 : Code := subC (bodyC Try.f4) [1, 0, 0]
noncomputable def sounderlaw06_SentSums_c8 : Code := subC (bodyC Try.f4) [1, 0, 1, 0, 0]
noncomputable def sounderlaw06_SentSums_c7 : Code := .seq sounderlaw06_SentSums_c8 Code.ret
noncomputable def sounderlaw06_SentSums_c6 : Code := .cond (.tmp 21) sounderlaw06_SentSums_c7 Code.skip
noncomputable def sounderlaw06_SentSums_c4 : Code := .seq sounderlaw06_SentSums_c5 sounderlaw06_SentSums_c6
noncomputable def sounderlaw06_SentSums_c10 : Code := subC (bodyC Try.f4) [1, 1, 0]
noncomputable def sounderlaw06_SentSums_c13 : Code := subC (bodyC Try.f4) [1, 1, 1, 0, 0]
noncomputable def sounderlaw06_SentSums_c16 : Code := subC (bodyC Try.f4) [1, 1, 1, 0, 1, 0, 0]
noncomputable def sounderlaw06_SentSums_c15 : Code := .seq sounderlaw06_SentSums_c16 Code.ret
noncomputable def sounderlaw06_SentSums_c14 : Code := .cond (.tmp 27) sounderlaw06_SentSums_c15 Code.skip
noncomputable def sounderlaw06_SentSums_c12 : Code := .seq sounderlaw06_SentSums_c13 sounderlaw06_SentSums_c14
noncomputable def sounderlaw06_SentSums_c18 : Code := subC (bodyC Try.f4) [1, 1, 1, 1, 0]
noncomputable def sounderlaw06_SentSums_c20 : Code := subC (bodyC Try.f4) [1, 1, 1, 1, 1, 0]
noncomputable def sounderlaw06_SentSums_c22 : Code := subC (bodyC Try.f4) [1, 1, 1, 1, 1, 1, 0]
noncomputable def sounderlaw06_SentSums_c25 : Code := subC (bodyC Try.f4) [1, 1, 1, 1, 1, 1, 1, 0, 0]
noncomputable def sounderlaw06_SentSums_c30 : Code := subC (bodyC Try.f4) [1, 1, 1, 1, 1, 1, 1, 0, 1, 0, 0, 0, 0]
noncomputable def sounderlaw06_SentSums_c32 : Code := .exit 0
noncomputable def sounderlaw06_SentSums_c31 : Code := .cond (.tmp 35) Code.skip sounderlaw06_SentSums_c32
noncomputable def sounderlaw06_SentSums_c29 : Code := .seq sounderlaw06_SentSums_c30 sounderlaw06_SentSums_c31
noncomputable def sounderlaw06_SentSums_c36 : Code := subC (bodyC Try.f4) [1, 1, 1, 1, 1, 1, 1, 0, 1, 0, 0, 1, 0, 0, 0]
noncomputable def sounderlaw06_SentSums_c39 : Code := subC (bodyC Try.f4) [1, 1, 1, 1, 1, 1, 1, 0, 1, 0, 0, 1, 0, 0, 1, 0, 0]
noncomputable def sounderlaw06_SentSums_c42 : Code := subC (bodyC Try.f4) [1, 1, 1, 1, 1, 1, 1, 0, 1, 0, 0, 1, 0, 0, 1, 0, 1, 0, 0]
noncomputable def sounderlaw06_SentSums_c44 : Code := subC (bodyC Try.f4) [1, 1, 1, 1, 1, 1, 1, 0, 1, 0, 0, 1, 0, 0, 1, 0, 1, 0, 1, 0]
noncomputable def sounderlaw06_SentSums_c47 : Code := subC (bodyC Try.f4) [1, 1, 1, 1, 1, 1, 1, 0, 1, 0, 0, 1, 0, 0, 1, 0, 1, 0, 1, 1, 0, 0]
noncomputable def sounderlaw06_SentSums_c50 : Code := subC (bodyC Try.f4) [1, 1, 1, 1, 1, 1, 1, 0, 1, 0, 0, 1, 0, 0, 1, 0, 1, 0, 1, 1, 0, 1, 0, 0]
noncomputable def sounderlaw06_SentSums_c49 : Code := .seq sounderlaw06_SentSums_c50 Code.ret
noncomputable def sounderlaw06_SentSums_c48 : Code := .cond (.tmp 70) sounderlaw06_SentSums_c49 Code.skip
noncomputable def sounderlaw06_SentSums_c46 : Code := .seq sounderlaw06_SentSums_c47 sounderlaw06_SentSums_c48
noncomputable def sounderlaw06_SentSums_c51 : Code := subC (bodyC Try.f4) [1, 1, 1, 1, 1, 1, 1, 0, 1, 0, 0, 1, 0, 0, 1, 0, 1, 0, 1, 1, 1]
noncomputable def sounderlaw06_SentSums_c45 : Code := .seq sounderlaw06_SentSums_c46 sounderlaw06_SentSums_c51
noncomputable def sounderlaw06_SentSums_c43 : Code := .seq sounderlaw06_SentSums_c44 sounderlaw06_SentSums_c45
noncomputable def sounderlaw06_SentSums_c41 : Code := .seq sounderlaw06_SentSums_c42 sounderlaw06_SentSums_c43
noncomputable def sounderlaw06_SentSums_c53 : Code := subC (bodyC Try.f4) [1, 1, 1, 1, 1, 1, 1, 0, 1, 0, 0, 1, 0, 0, 1, 0, 1, 1, 0]
noncomputable def sounderlaw06_SentSums_c56 : Code := subC (bodyC Try.f4) [1, 1, 1, 1, 1, 1, 1, 0, 1, 0, 0, 1, 0, 0, 1, 0, 1, 1, 1, 0, 0]
noncomputable def sounderlaw06_SentSums_c58 : Code := subC (bodyC Try.f4) [1, 1, 1, 1, 1, 1, 1, 0, 1, 0, 0, 1, 0, 0, 1, 0, 1, 1, 1, 0, 1, 0]
noncomputable def sounderlaw06_SentSums_c61 : Code := subC (bodyC Try.f4) [1, 1, 1, 1, 1, 1, 1, 0, 1, 0, 0, 1, 0, 0, 1, 0, 1, 1, 1, 0, 1, 1, 0, 0]
noncomputable def sounderlaw06_SentSums_c64 : Code := subC (bodyC Try.f4) [1, 1, 1, 1, 1, 1, 1, 0, 1, 0, 0, 1, 0, 0, 1, 0, 1, 1, 1, 0, 1, 1, 0, 1, 0, 0]
noncomputable def sounderlaw06_SentSums_c63 : Code := .seq sounderlaw06_SentSums_c64 Code.ret
noncomputable def sounderlaw06_SentSums_c62 : Code := .cond (.tmp 112) sounderlaw06_SentSums_c63 Code.skip
noncomputable def sounderlaw06_SentSums_c60 : Code := .seq sounderlaw06_SentSums_c61 sounderlaw06_SentSums_c62
noncomputable def sounderlaw06_SentSums_c65 : Code := subC (bodyC Try.f4) [1, 1, 1, 1, 1, 1, 1, 0, 1, 0, 0, 1, 0, 0, 1, 0, 1, 1, 1, 0, 1, 1, 1]
noncomputable def sounderlaw06_SentSums_c59 : Code := .seq sounderlaw06_SentSums_c60 sounderlaw06_SentSums_c65
noncomputable def sounderlaw06_SentSums_c57 : Code := .seq sounderlaw06_SentSums_c58 sounderlaw06_SentSums_c59
noncomputable def sounderlaw06_SentSums_c55 : Code := .seq sounderlaw06_SentSums_c56 sounderlaw06_SentSums_c57
noncomputable def sounderlaw06_SentSums_c54 : Code := .cond (.tmp 80) sounderlaw06_SentSums_c55 Code.skip
noncomputable def sounderlaw06_SentSums_c52 : Code := .seq sounderlaw06_SentSums_c53 sounderlaw06_SentSums_c54
noncomputable def sounderlaw06_SentSums_c40 : Code := .cond (.tmp 45) sounderlaw06_SentSums_c41 sounderlaw06_SentSums_c52
noncomputable def sounderlaw06_SentSums_c38 : Code := .seq sounderlaw06_SentSums_c39 sounderlaw06_SentSums_c40
noncomputable def sounderlaw06_SentSums_c67 : Code := subC (bodyC Try.f4) [1, 1, 1, 1, 1, 1, 1, 0, 1, 0, 0, 1, 0, 0, 1, 1, 0]
noncomputable def sounderlaw06_SentSums_c70 : Code := subC (bodyC Try.f4) [1, 1, 1, 1, 1, 1, 1, 0, 1, 0, 0, 1, 0, 0, 1, 1, 1, 0, 0]
noncomputable def sounderlaw06_SentSums_c75 : Code := subC (bodyC Try.f4) [1, 1, 1, 1, 1, 1, 1, 0, 1, 0, 0, 1, 0, 0, 1, 1, 1, 0, 1, 0, 0, 0, 0]
noncomputable def sounderlaw06_SentSums_c77 : Code := .exit 2
noncomputable def sounderlaw06_SentSums_c76 : Code := .cond (.tmp 119) Code.skip sounderlaw06_SentSums_c77
noncomputable def sounderlaw06_SentSums_c74 : Code := .seq sounderlaw06_SentSums_c75 sounderlaw06_SentSums_c76
noncomputable def sounderlaw06_SentSums_c81 : Code := subC (bodyC Try.f4) [1, 1, 1, 1, 1, 1, 1, 0, 1, 0, 0, 1, 0, 0, 1, 1, 1, 0, 1, 0, 0, 1, 0, 0, 0]
noncomputable def sounderlaw06_SentSums_c84 : Code := subC (bodyC Try.f4) [1, 1, 1, 1, 1, 1, 1, 0, 1, 0, 0, 1, 0, 0, 1, 1, 1, 0, 1, 0, 0, 1, 0, 0, 1, 0, 0]
noncomputable def sounderlaw06_SentSums_c87 : Code := subC (bodyC Try.f4) [1, 1, 1, 1, 1, 1, 1, 0, 1, 0, 0, 1, 0, 0, 1, 1, 1, 0, 1, 0, 0, 1, 0, 0, 1, 0, 1, 0, 0]
noncomputable def sounderlaw06_SentSums_c86 : Code := .seq sounderlaw06_SentSums_c87 Code.ret
noncomputable def sounderlaw06_SentSums_c85 : Code := .cond (.tmp 148) sounderlaw06_SentSums_c86 Code.skip
noncomputable def sounderlaw06_SentSums_c83 : Code := .seq sounderlaw06_SentSums_c84 sounderlaw06_SentSums_c85
noncomputable def sounderlaw06_SentSums_c90 : Code := subC (bodyC Try.f4) [1, 1, 1, 1, 1, 1, 1, 0, 1, 0, 0, 1, 0, 0, 1, 1, 1, 0, 1, 0, 0, 1, 0, 0, 1, 1, 0, 0]
noncomputable def sounderlaw06_SentSums_c92 : Code := subC (bodyC Try.f4) [1, 1, 1, 1, 1, 1, 1, 0, 1, 0, 0, 1, 0, 0, 1, 1, 1, 0, 1, 0, 0, 1, 0, 0, 1, 1, 0, 1, 0]
noncomputable def sounderlaw06_SentSums_c91 : Code := .cond (.tmp 149) sounderlaw06_SentSums_c92 Code.skip
noncomputable def sounderlaw06_SentSums_c89 : Code := .seq sounderlaw06_SentSums_c90 sounderlaw06_SentSums_c91
noncomputable def sounderlaw06_SentSums_c94 : Code := subC (bodyC Try.f4) [1, 1, 1, 1, 1, 1, 1, 0, 1, 0, 0, 1, 0, 0, 1, 1, 1, 0, 1, 0, 0, 1, 0, 0, 1, 1, 1, 0]
noncomputable def sounderlaw06_SentSums_c97 : Code := subC (bodyC Try.f4) [1, 1, 1, 1, 1, 1, 1, 0, 1, 0, 0, 1, 0, 0, 1, 1, 1, 0, 1, 0, 0, 1, 0, 0, 1, 1, 1, 1, 0, 0]
noncomputable def sounderlaw06_SentSums_c99 : Code := subC (bodyC Try.f4) [1, 1, 1, 1, 1, 1, 1, 0, 1, 0, 0, 1, 0, 0, 1, 1, 1, 0, 1, 0, 0, 1, 0, 0, 1, 1, 1, 1, 0, 1, 0]
noncomputable def sounderlaw06_SentSums_c101 : Code := subC (bodyC Try.f4) [1, 1, 1, 1, 1, 1, 1, 0, 1, 0, 0, 1, 0, 0, 1, 1, 1, 0, 1, 0, 0, 1, 0, 0, 1, 1, 1, 1, 0, 1, 1, 0]
noncomputable def sounderlaw06_SentSums_c100 : Code := .cond (.tmp 162) sounderlaw06_SentSums_c101 Code.skip
noncomputable def sounderlaw06_SentSums_c98 : Code := .seq sounderlaw06_SentSums_c99 sounderlaw06_SentSums_c100
noncomputable def sounderlaw06_SentSums_c96 : Code := .seq sounderlaw06_SentSums_c97 sounderlaw06_SentSums_c98
noncomputable def sounderlaw06_SentSums_c95 : Code := .cond (.tmp 156) sounderlaw06_SentSums_c96 Code.skip
noncomputable def sounderlaw06_SentSums_c93 : Code := .seq sounderlaw06_SentSums_c94 sounderlaw06_SentSums_c95
noncomputable def sounderlaw06_SentSums_c88 : Code := .seq sounderlaw06_SentSums_c89 sounderlaw06_SentSums_c93
noncomputable def sounderlaw06_SentSums_c82 : Code := .seq sounderlaw06_SentSums_c83 sounderlaw06_SentSums_c88
noncomputable def sounderlaw06_SentSums_c80 : Code := .seq sounderlaw06_SentSums_c81 sounderlaw06_SentSums_c82
noncomputable def sounderlaw06_SentSums_c79 : Code := .block 3 sounderlaw06_SentSums_c80
noncomputable def sounderlaw06_SentSums_c102 : Code := subC (bodyC Try.f4) [1, 1, 1, 1, 1, 1, 1, 0, 1, 0, 0, 1, 0, 0, 1, 1, 1, 0, 1, 0, 0, 1, 1]
noncomputable def sounderlaw06_SentSums_c78 : Code := .seq sounderlaw06_SentSums_c79 sounderlaw06_SentSums_c102
noncomputable def sounderlaw06_SentSums_c73 : Code := .seq sounderlaw06_SentSums_c74 sounderlaw06_SentSums_c78
noncomputable def sounderlaw06_SentSums_c72 : Code := .loop sounderlaw06_SentSums_c73
noncomputable def sounderlaw06_SentSums_c71 : Code := .block 2 sounderlaw06_SentSums_c72
noncomputable def sounderlaw06_SentSums_c69 : Code := .seq sounderlaw06_SentSums_c70 sounderlaw06_SentSums_c71
noncomputable def sounderlaw06_SentSums_c104 : Code := subC (bodyC Try.f4) [1, 1, 1, 1, 1, 1, 1, 0, 1, 0, 0, 1, 0, 0, 1, 1, 1, 1, 0]
noncomputable def sounderlaw06_SentSums_c107 : Code := subC (bodyC Try.f4) [1, 1, 1, 1, 1, 1, 1, 0, 1, 0, 0, 1, 0, 0, 1, 1, 1, 1, 1, 0, 0]
noncomputable def sounderlaw06_SentSums_c106 : Code := .seq sounderlaw06_SentSums_c107 Code.ret
noncomputable def sounderlaw06_SentSums_c105 : Code := .cond (.tmp 193) sounderlaw06_SentSums_c106 Code.skip
noncomputable def sounderlaw06_SentSums_c103 : Code := .seq sounderlaw06_SentSums_c104 sounderlaw06_SentSums_c105
noncomputable def sounderlaw06_SentSums_c68 : Code := .seq sounderlaw06_SentSums_c69 sounderlaw06_SentSums_c103
noncomputable def sounderlaw06_SentSums_c66 : Code := .seq sounderlaw06_SentSums_c67 sounderlaw06_SentSums_c68
noncomputable def sounderlaw06_SentSums_c37 : Code := .seq sounderlaw06_SentSums_c38 sounderlaw06_SentSums_c66
noncomputable def sounderlaw06_SentSums_c35 : Code := .seq sounderlaw06_SentSums_c36 sounderlaw06_SentSums_c37
noncomputable def sounderlaw06_SentSums_c34 : Code := .block 1 sounderlaw06_SentSums_c35
noncomputable def sounderlaw06_SentSums_c108 : Code := subC (bodyC Try.f4) [1, 1, 1, 1, 1, 1, 1, 0, 1, 0, 0, 1, 1]
noncomputable def sounderlaw06_SentSums_c33 : Code := .seq sounderlaw06_SentSums_c34 sounderlaw06_SentSums_c108
noncomputable def sounderlaw06_SentSums_c28 : Code := .seq sounderlaw06_SentSums_c29 sounderlaw06_SentSums_c33
noncomputable def sounderlaw06_SentSums_c27 : Code := .loop sounderlaw06_SentSums_c28
noncomputable def sounderlaw06_SentSums_c26 : Code := .block 0 sounderlaw06_SentSums_c27
noncomputable def sounderlaw06_SentSums_c24 : Code := .seq sounderlaw06_SentSums_c25 sounderlaw06_SentSums_c26
noncomputable def sounderlaw06_SentSums_c110 : Code := subC (bodyC Try.f4) [1, 1, 1, 1, 1, 1, 1, 1, 0]
noncomputable def sounderlaw06_SentSums_c109 : Code := .seq sounderlaw06_SentSums_c110 Code.ret
noncomputable def sounderlaw06_SentSums_c23 : Code := .seq sounderlaw06_SentSums_c24 sounderlaw06_SentSums_c109
noncomputable def sounderlaw06_SentSums_c21 : Code := .seq sounderlaw06_SentSums_c22 sounderlaw06_SentSums_c23
noncomputable def sounderlaw06_SentSums_c19 : Code := .seq sounderlaw06_SentSums_c20 sounderlaw06_SentSums_c21
noncomputable def sounderlaw06_SentSums_c17 : Code := .seq sounderlaw06_SentSums_c18 sounderlaw06_SentSums_c19
noncomputable def sounderlaw06_SentSums_c11 : Code := .seq sounderlaw06_SentSums_c12 sounderlaw06_SentSums_c17
noncomputable def sounderlaw06_SentSums_c9 : Code := .seq sounderlaw06_SentSums_c10 sounderlaw06_SentSums_c11
noncomputable def sounderlaw06_SentSums_c3 : Code := .seq sounderlaw06_SentSums_c4 sounderlaw06_SentSums_c9
noncomputable def sounderlaw06_SentSums_c1 : Code := .seq sounderlaw06_SentSums_c2 sounderlaw06_SentSums_c3
def sounderlaw06_SentSums_pi (i : Nat) : Pl := match i with
  | 15 => (ones [0, 1, 2, 3, 6, 7, 10, 11] (.two 4 (ones [5] (.two 8 (ones [9] (.two 12 (ones [13, 14, 15, 16] .nil) 15 (ones [12, 13, 14, 16] .nil))) 15 (ones [8, 9, 12, 13, 14, 16] .nil))) 15 (ones [4, 5, 8, 9, 12, 13, 14, 16] .nil)))
  | 22 => (ones [0, 1, 2, 3, 4, 5, 6, 7, 8, 9, 10, 11, 12, 13, 14, 15, 16] .nil)
  | 30 => (ones [0, 1, 2, 3, 4, 5, 6, 7, 8, 9, 10, 11, 12, 13, 14, 15, 16] .nil)
  | _ => .nil
def sounderlaw06_SentSums_g111 (S : Value → Heap → Prop) (x0 : Value) (H : Heap) : Prop :=
  S x0 H
theorem sounderlaw06_SentSums_g111_e (S : Value → Heap → Prop) (x : Nat → Value) (H : Heap) : wpE tab P sounderlaw06_SentSums_pi sounderlaw06_SentSums_c2 (nQ fun l H => S (l.getD 0 undef) H) ((List.range 194).map x) H = sounderlaw06_SentSums_g111 S (x 0) H := by kernel_rfl
def sounderlaw06_SentSums_g112 (S : Value → Value → Heap → Prop) (x0 : Value) (H : Heap) : Prop :=
  EvF P N.sounderlaw06_works #[] H fun v20 H1 =>
  bnd (unV .not v20) fun v21 =>
  S x0 v21 H1
theorem sounderlaw06_SentSums_g112_e (S : Value → Value → Heap → Prop) (x : Nat → Value) (H : Heap) : wpE tab P sounderlaw06_SentSums_pi sounderlaw06_SentSums_c5 (nQ fun l H => S (l.getD 0 undef) (l.getD 21 undef) H) ((List.range 194).map x) H = sounderlaw06_SentSums_g112 S (x 0) H := by kernel_rfl
def sounderlaw06_SentSums_g113 (S : Value → Heap → Prop) (H : Heap) : Prop :=
  S (.bool false) H
theorem sounderlaw06_SentSums_g113_e (S : Value → Heap → Prop) (x : Nat → Value) (H : Heap) : wpE tab P sounderlaw06_SentSums_pi sounderlaw06_SentSums_c8 (nQ fun l H => S (l.getD 2 undef) H) ((List.range 194).map x) H = sounderlaw06_SentSums_g113 S  H := by kernel_rfl
def sounderlaw06_SentSums_g114 (S : Value → Value → Value → Heap → Prop) (x0 : Value) (H : Heap) : Prop :=
  EvF P N.sent_New #[(.int .i64 256)] H fun v23 H1 =>
  bnd (exV 0 v23) fun v24 =>
  bnd (exV 1 v23) fun v25 =>
  S x0 v24 v25 H1
theorem sounderlaw06_SentSums_g114_e (S : Value → Value → Value → Heap → Prop) (x : Nat → Value) (H : Heap) : wpE tab P sounderlaw06_SentSums_pi sounderlaw06_SentSums_c10 (nQ fun l H => S (l.getD 0 undef) (l.getD 3 undef) (l.getD 4 undef) H) ((List.range 194).map x) H = sounderlaw06_SentSums_g114 S (x 0) H := by kernel_rfl
def sounderlaw06_SentSums_g115 (S : Value → Value → Value → Heap → Prop) (x0 x3 x4 : Value) (H : Heap) : Prop :=
  bnd (binV .int .neq x4 (.int .i64 0)) fun v27 =>
  S x0 x3 v27 H
theorem sounderlaw06_SentSums_g115_e (S : Value → Value → Value → Heap → Prop) (x : Nat → Value) (H : Heap) : wpE tab P sounderlaw06_SentSums_pi sounderlaw06_SentSums_c13 (nQ fun l H => S (l.getD 0 undef) (l.getD 3 undef) (l.getD 27 undef) H) ((List.range 194).map x) H = sounderlaw06_SentSums_g115 S (x 0) (x 3) (x 4) H := by kernel_rfl
def sounderlaw06_SentSums_g116 (S : Value → Heap → Prop) (H : Heap) : Prop :=
  S (.bool false) H
theorem sounderlaw06_SentSums_g116_e (S : Value → Heap → Prop) (x : Nat → Value) (H : Heap) : wpE tab P sounderlaw06_SentSums_pi sounderlaw06_SentSums_c16 (nQ fun l H => S (l.getD 2 undef) H) ((List.range 194).map x) H = sounderlaw06_SentSums_g116 S  H := by kernel_rfl
def sounderlaw06_SentSums_g117 (S : Value → Value → Value → Heap → Prop) (x0 x3 : Value) (H : Heap) : Prop :=
  S x0 x3 (.slice none 0 0) H
theorem sounderlaw06_SentSums_g117_e (S : Value → Value → Value → Heap → Prop) (x : Nat → Value) (H : Heap) : wpE tab P sounderlaw06_SentSums_pi sounderlaw06_SentSums_c18 (nQ fun l H => S (l.getD 0 undef) (l.getD 3 undef) (l.getD 5 undef) H) ((List.range 194).map x) H = sounderlaw06_SentSums_g117 S (x 0) (x 3) H := by kernel_rfl
def sounderlaw06_SentSums_g118 (S : Value → Value → Value → Value → Heap → Prop) (x0 x3 x5 : Value) (H : Heap) : Prop :=
  S x0 x3 x5 (.slice none 0 0) H
theorem sounderlaw06_SentSums_g118_e (S : Value → Value → Value → Value → Heap → Prop) (x : Nat → Value) (H : Heap) : wpE tab P sounderlaw06_SentSums_pi sounderlaw06_SentSums_c20 (nQ fun l H => S (l.getD 0 undef) (l.getD 3 undef) (l.getD 5 undef) (l.getD 6 undef) H) ((List.range 194).map x) H = sounderlaw06_SentSums_g118 S (x 0) (x 3) (x 5) H := by kernel_rfl
def sounderlaw06_SentSums_g119 (S : Value → Value → Value → Value → Value → Heap → Prop) (x0 x3 x5 x6 : Value) (H : Heap) : Prop :=
  S x0 x3 x5 x6 (.int .i64 (-1)) H
theorem sounderlaw06_SentSums_g119_e (S : Value → Value → Value → Value → Value → Heap → Prop) (x : Nat → Value) (H : Heap) : wpE tab P sounderlaw06_SentSums_pi sounderlaw06_SentSums_c22 (nQ fun l H => S (l.getD 0 undef) (l.getD 3 undef) (l.getD 5 undef) (l.getD 6 undef) (l.getD 7 undef) H) ((List.range 194).map x) H = sounderlaw06_SentSums_g119 S (x 0) (x 3) (x 5) (x 6) H := by kernel_rfl
def sounderlaw06_SentSums_g120 (S : Value → Value → Value → Value → Value → Value → Heap → Prop) (x0 x3 x5 x6 x7 : Value) (H : Heap) : Prop :=
  S x0 x3 x5 x6 x7 (.int .i64 0) H
theorem sounderlaw06_SentSums_g120_e (S : Value → Value → Value → Value → Value → Value → Heap → Prop) (x : Nat → Value) (H : Heap) : wpE tab P sounderlaw06_SentSums_pi sounderlaw06_SentSums_c25 (nQ fun l H => S (l.getD 0 undef) (l.getD 3 undef) (l.getD 5 undef) (l.getD 6 undef) (l.getD 7 undef) (l.getD 8 undef) H) ((List.range 194).map x) H = sounderlaw06_SentSums_g120 S (x 0) (x 3) (x 5) (x 6) (x 7) H := by kernel_rfl
def sounderlaw06_SentSums_g122 (S : Value → Value → Value → Value → Value → Value → Value → Heap → Prop) (x0 x3 x5 x6 x7 x8 : Value) (H : Heap) : Prop :=
  bnd (lenV x0) fun v30 =>
  bnd (binV .int .lss x8 v30) fun v31 =>
  brV v31
  (bnd (binV .int .lss x8 (.int .i64 120)) fun v34 =>
  S x0 x3 x5 x6 x7 x8 v34 H)
  (S x0 x3 x5 x6 x7 x8 (.bool false) H)
theorem sounderlaw06_SentSums_g122_e (S : Value → Value → Value → Value → Value → Value → Value → Heap → Prop) (x : Nat → Value) (H : Heap) : wpE tab P sounderlaw06_SentSums_pi sounderlaw06_SentSums_c30 (nQ fun l H => S (l.getD 0 undef) (l.getD 3 undef) (l.getD 5 undef) (l.getD 6 undef) (l.getD 7 undef) (l.getD 8 undef) (l.getD 35 undef) H) ((List.range 194).map x) H = sounderlaw06_SentSums_g122 S (x 0) (x 3) (x 5) (x 6) (x 7) (x 8) H := by kernel_rfl
def sounderlaw06_SentSums_g123 (S : Value → Value → Value → Value → Value → Value → Value → Heap → Prop) (x0 x3 x5 x6 x7 x8 : Value) (H : Heap) : Prop :=
  bnd (ixSV 4 x0 x8) fun v40 =>
  bnd (ldE true 4 v40 H) fun v41 =>
  newE 41 #[(.int .i64 0), (.int .i64 0), (.int .i64 0), (.int .i64 0)] H fun v9 H1 =>
  bnd (stE 4 v9 v41 H1) fun H2 =>
  S x0 x3 x5 x6 x7 x8 v9 H2
theorem sounderlaw06_SentSums_g123_e (S : Value → Value → Value → Value → Value → Value → Value → Heap → Prop) (x : Nat → Value) (H : Heap) : wpE tab P sounderlaw06_SentSums_pi sounderlaw06_SentSums_c36 (nQ fun l H => S (l.getD 0 undef) (l.getD 3 undef) (l.getD 5 undef) (l.getD 6 undef) (l.getD 7 undef) (l.getD 8 undef) (l.getD 9 undef) H) ((List.range 194).map x) H = sounderlaw06_SentSums_g123 S (x 0) (x 3) (x 5) (x 6) (x 7) (x 8) H := by kernel_rfl
def sounderlaw06_SentSums_g125 (S : Value → Value → Value → Value → Value → Value → Value → Value → Value → Heap → Prop) (x0 x3 x5 x6 x7 x8 : Value) (H : Heap) : Prop :=
  S x0 x3 x5 x6 x7 x8 (.int .i64 0) (.int .i64 0) (.int .i64 0) H
theorem sounderlaw06_SentSums_g125_e (S : Value → Value → Value → Value → Value → Value → Value → Value → Value → Heap → Prop) (x : Nat → Value) (H : Heap) : wpE tab P sounderlaw06_SentSums_pi sounderlaw06_SentSums_c67 (nQ fun l H => S (l.getD 0 undef) (l.getD 3 undef) (l.getD 5 undef) (l.getD 6 undef) (l.getD 7 undef) (l.getD 8 undef) (l.getD 14 undef) (l.getD 15 undef) (l.getD 16 undef) H) ((List.range 194).map x) H = sounderlaw06_SentSums_g125 S (x 0) (x 3) (x 5) (x 6) (x 7) (x 8) H := by kernel_rfl
def sounderlaw06_SentSums_g126 (S : Value → Value → Value → Value → Value → Value → Value → Value → Value → Value → Heap → Prop) (x0 x3 x5 x6 x7 x8 x14 x15 x16 : Value) (H : Heap) : Prop :=
  S x0 x3 x5 x6 x7 x8 x14 x15 x16 (.int .i64 0) H
theorem sounderlaw06_SentSums_g126_e (S : Value → Value → Value → Value → Value → Value → Value → Value → Value → Value → Heap → Prop) (x : Nat → Value) (H : Heap) : wpE tab P sounderlaw06_SentSums_pi sounderlaw06_SentSums_c70 (nQ fun l H => S (l.getD 0 undef) (l.getD 3 undef) (l.getD 5 undef) (l.getD 6 undef) (l.getD 7 undef) (l.getD 8 undef) (l.getD 14 undef) (l.getD 15 undef) (l.getD 16 undef) (l.getD 17 undef) H) ((List.range 194).map x) H = sounderlaw06_SentSums_g126 S (x 0) (x 3) (x 5) (x 6) (x 7) (x 8) (x 14) (x 15) (x 16) H := by kernel_rfl
def sounderlaw06_SentSums_g128 (S : Value → Value → Value → Value → Value → Value → Value → Value → Value → Value → Value → Heap → Prop) (x0 x3 x5 x6 x7 x8 x14 x15 x16 x17 : Value) (H : Heap) : Prop :=
  bnd (lenV x5) fun v118 =>
  bnd (binV .int .lss x17 v118) fun v119 =>
  S x0 x3 x5 x6 x7 x8 x14 x15 x16 x17 v119 H
theorem sounderlaw06_SentSums_g128_e (S : Value → Value → Value → Value → Value → Value → Value → Value → Value → Value → Value → Heap → Prop) (x : Nat → Value) (H : Heap) : wpE tab P sounderlaw06_SentSums_pi sounderlaw06_SentSums_c75 (nQ fun l H => S (l.getD 0 undef) (l.getD 3 undef) (l.getD 5 undef) (l.getD 6 undef) (l.getD 7 undef) (l.getD 8 undef) (l.getD 14 undef) (l.getD 15 undef) (l.getD 16 undef) (l.getD 17 undef) (l.getD 119 undef) H) ((List.range 194).map x) H = sounderlaw06_SentSums_g128 S (x 0) (x 3) (x 5) (x 6) (x 7) (x 8) (x 14) (x 15) (x 16) (x 17) H := by kernel_rfl
def sounderlaw06_SentSums_g130 (S : Value → Value → Value → Value → Value → Value → Value → Value → Value → Value → Heap → Prop) (x0 x3 x5 x6 x7 x8 x14 x15 x16 x17 : Value) (H : Heap) : Prop :=
  bnd (binV .int .add x17 (.int .i64 1)) fun v121 =>
  S x0 x3 x5 x6 x7 x8 x14 x15 x16 v121 H
theorem sounderlaw06_SentSums_g130_e (S : Value → Value → Value → Value → Value → Value → Value → Value → Value → Value → Heap → Prop) (x : Nat → Value) (H : Heap) : wpE tab P sounderlaw06_SentSums_pi sounderlaw06_SentSums_c102 (nQ fun l H => S (l.getD 0 undef) (l.getD 3 undef) (l.getD 5 undef) (l.getD 6 undef) (l.getD 7 undef) (l.getD 8 undef) (l.getD 14 undef) (l.getD 15 undef) (l.getD 16 undef) (l.getD 17 undef) H) ((List.range 194).map x) H = sounderlaw06_SentSums_g130 S (x 0) (x 3) (x 5) (x 6) (x 7) (x 8) (x 14) (x 15) (x 16) (x 17) H := by kernel_rfl
def sounderlaw06_SentSums_s129 (x0 x3 x5 x6 x7 x8 x14 x15 x16 x17 : Value) (_K1 : Value → Value → Value → Value → Value → Value →  Heap → Prop) (K2 : Value → Value → Value → Value → Value → Value → Value → Value → Value → Value →  Heap → Prop) (_R : Value → Heap → Prop) (H : Heap) : Prop :=
  sounderlaw06_SentSums_g130 (fun x0 x3 x5 x6 x7 x8 x14 x15 x16 x17 H => K2 x0 x3 x5 x6 x7 x8 x14 x15 x16 x17 H) x0 x3 x5 x6 x7 x8 x14 x15 x16 x17 H
noncomputable def sounderlaw06_SentSums_q131 (R : Value → Heap → Prop) : Exit → List Value → Heap → Prop := (retQ tab sounderlaw06_SentSums_rs R)
noncomputable def sounderlaw06_SentSums_q132 (R : Value → Heap → Prop) : Exit → List Value → Heap → Prop := (thenE (fun l H => wpE tab P sounderlaw06_SentSums_pi sounderlaw06_SentSums_c109 (sounderlaw06_SentSums_q131 R) l H) (sounderlaw06_SentSums_q131 R))
noncomputable def sounderlaw06_SentSums_q133 (R : Value → Heap → Prop) : Exit → List Value → Heap → Prop := (blkE 0 (sounderlaw06_SentSums_q132 R))
noncomputable def sounderlaw06_SentSums_q134 (K1 : Value → Value → Value → Value → Value → Value →  Heap → Prop) (R : Value → Heap → Prop) : Exit → List Value → Heap → Prop := (thenE (fun l H => K1 (l.getD 0 undef) (l.getD 3 undef) (l.getD 5 undef) (l.getD 6 undef) (l.getD 7 undef) (l.getD 8 undef) H) (sounderlaw06_SentSums_q133 R))
noncomputable def sounderlaw06_SentSums_q135 (K1 : Value → Value → Value → Value → Value → Value →  Heap → Prop) (R : Value → Heap → Prop) : Exit → List Value → Heap → Prop := (thenE (fun l H => wpE tab P sounderlaw06_SentSums_pi sounderlaw06_SentSums_c108 (sounderlaw06_SentSums_q134 K1 R) l H) (sounderlaw06_SentSums_q134 K1 R))
noncomputable def sounderlaw06_SentSums_q136 (K1 : Value → Value → Value → Value → Value → Value →  Heap → Prop) (R : Value → Heap → Prop) : Exit → List Value → Heap → Prop := (blkE 1 (sounderlaw06_SentSums_q135 K1 R))
noncomputable def sounderlaw06_SentSums_q137 (K1 : Value → Value → Value → Value → Value → Value →  Heap → Prop) (R : Value → Heap → Prop) : Exit → List Value → Heap → Prop := (thenE (fun l H => wpE tab P sounderlaw06_SentSums_pi sounderlaw06_SentSums_c103 (sounderlaw06_SentSums_q136 K1 R) l H) (sounderlaw06_SentSums_q136 K1 R))
noncomputable def sounderlaw06_SentSums_q138 (K1 : Value → Value → Value → Value → Value → Value →  Heap → Prop) (R : Value → Heap → Prop) : Exit → List Value → Heap → Prop := (blkE 2 (sounderlaw06_SentSums_q137 K1 R))
noncomputable def sounderlaw06_SentSums_q139 (K1 : Value → Value → Value → Value → Value → Value →  Heap → Prop) (K2 : Value → Value → Value → Value → Value → Value → Value → Value → Value → Value →  Heap → Prop) (R : Value → Heap → Prop) : Exit → List Value → Heap → Prop := (thenE (fun l H => K2 (l.getD 0 undef) (l.getD 3 undef) (l.getD 5 undef) (l.getD 6 undef) (l.getD 7 undef) (l.getD 8 undef) (l.getD 14 undef) (l.getD 15 undef) (l.getD 16 undef) (l.getD 17 undef) H) (sounderlaw06_SentSums_q138 K1 R))
theorem sounderlaw06_SentSums_s129_i (K1 : Value → Value → Value → Value → Value → Value →  Heap → Prop) (K2 : Value → Value → Value → Value → Value → Value → Value → Value → Value → Value →  Heap → Prop) (R : Value → Heap → Prop) (l : List Value) (H : Heap) (hl : l.length = 194) (h : sounderlaw06_SentSums_s129 (l.getD 0 undef) (l.getD 3 undef) (l.getD 5 undef) (l.getD 6 undef) (l.getD 7 undef) (l.getD 8 undef) (l.getD 14 undef) (l.getD 15 undef) (l.getD 16 undef) (l.getD 17 undef) K1 K2 R H) : wpE tab P sounderlaw06_SentSums_pi sounderlaw06_SentSums_c102 (sounderlaw06_SentSums_q139 K1 K2 R) l H := by
  refine regI hl (Eq.mpr (sounderlaw06_SentSums_g130_e _ (fun i => l.getD i undef) _) h) ?_
  clear h hl
  intro l H hl h
  refine thenN ?_
  exact h
def sounderlaw06_SentSums_g140 (S : Value → Value → Value → Value → Value → Value → Value → Value → Value → Value → Value → Value → Heap → Prop) (x0 x3 x5 x6 x7 x8 x14 x15 x16 x17 : Value) (H : Heap) : Prop :=
  bnd (ixSV 6 x5 x17) fun v126 =>
  bnd (faV 0 v126) fun v127 =>
  bnd (ldE false 1 v127 H) fun v128 =>
  EvF P N.sent_Log_Get #[x3, v128] H fun v129 H1 =>
  bnd (exV 0 v129) fun v130 =>
  bnd (exV 1 v129) fun v131 =>
  newE 30 #[(.int .i64 0), (.int .i64 0), (.int .i64 0), (.bool false), (.bool false), (.bool false)] H1 fun v18 H2 =>
  bnd (stE 6 v18 v130 H2) fun H3 =>
  S x0 x3 x5 x6 x7 x8 x14 x15 x16 x17 v18 v131 H3
theorem sounderlaw06_SentSums_g140_e (S : Value → Value → Value → Value → Value → Value → Value → Value → Value → Value → Value → Value → Heap → Prop) (x : Nat → Value) (H : Heap) : wpE tab P sounderlaw06_SentSums_pi sounderlaw06_SentSums_c81 (nQ fun l H => S (l.getD 0 undef) (l.getD 3 undef) (l.getD 5 undef) (l.getD 6 undef) (l.getD 7 undef) (l.getD 8 undef) (l.getD 14 undef) (l.getD 15 undef) (l.getD 16 undef) (l.getD 17 undef) (l.getD 18 undef) (l.getD 19 undef) H) ((List.range 194).map x) H = sounderlaw06_SentSums_g140 S (x 0) (x 3) (x 5) (x 6) (x 7) (x 8) (x 14) (x 15) (x 16) (x 17) H := by kernel_rfl
def sounderlaw06_SentSums_g141 (S : Value → Value → Value → Value → Value → Value → Value → Value → Value → Value → Value → Value → Value → Heap → Prop) (x0 x3 x5 x6 x7 x8 x14 x15 x16 x17 x18 x19 : Value) (H : Heap) : Prop :=
  bnd (ixSV 1 x6 x17) fun v135 =>
  bnd (ldE false 1 v135 H) fun v136 =>
  bnd (binV .bool .neq x19 v136) fun v137 =>
  brV v137
  (brV undef
  (bnd (ldE true 6 x18 H) fun v141 =>
  bnd (ixSV 6 x5 x17) fun v144 =>
  bnd (ldE true 6 v144 H) fun v145 =>
  bnd (binV (.agg [true, true, true, false, false, false]) .neq v141 v145) fun _ =>
  S x0 x3 x5 x6 x7 x8 x14 x15 x16 x17 x18 x19 (.bool true) H)
  (S x0 x3 x5 x6 x7 x8 x14 x15 x16 x17 x18 x19 (.bool true) H))
  (brV x19
  (bnd (ldE true 6 x18 H) fun v141_2 =>
  bnd (ixSV 6 x5 x17) fun v144_2 =>
  bnd (ldE true 6 v144_2 H) fun v145_2 =>
  bnd (binV (.agg [true, true, true, false, false, false]) .neq v141_2 v145_2) fun v146_2 =>
  S x0 x3 x5 x6 x7 x8 x14 x15 x16 x17 x18 x19 v146_2 H)
  (S x0 x3 x5 x6 x7 x8 x14 x15 x16 x17 x18 x19 (.bool false) H))
theorem sounderlaw06_SentSums_g141_e (S : Value → Value → Value → Value → Value → Value → Value → Value → Value → Value → Value → Value → Value → Heap → Prop) (x : Nat → Value) (H : Heap) : wpE tab P sounderlaw06_SentSums_pi sounderlaw06_SentSums_c84 (nQ fun l H => S (l.getD 0 undef) (l.getD 3 undef) (l.getD 5 undef) (l.getD 6 undef) (l.getD 7 undef) (l.getD 8 undef) (l.getD 14 undef) (l.getD 15 undef) (l.getD 16 undef) (l.getD 17 undef) (l.getD 18 undef) (l.getD 19 undef) (l.getD 148 undef) H) ((List.range 194).map x) H = sounderlaw06_SentSums_g141 S (x 0) (x 3) (x 5) (x 6) (x 7) (x 8) (x 14) (x 15) (x 16) (x 17) (x 18) (x 19) H := by kernel_rfl
def sounderlaw06_SentSums_g142 (S : Value → Heap → Prop) (H : Heap) : Prop :=
  S (.bool false) H
theorem sounderlaw06_SentSums_g142_e (S : Value → Heap → Prop) (x : Nat → Value) (H : Heap) : wpE tab P sounderlaw06_SentSums_pi sounderlaw06_SentSums_c87 (nQ fun l H => S (l.getD 2 undef) H) ((List.range 194).map x) H = sounderlaw06_SentSums_g142 S  H := by kernel_rfl
def sounderlaw06_SentSums_g144 (S : Value → Value → Value → Value → Value → Value → Value → Value → Value → Value → Value → Value → Heap → Prop) (x0 x3 x5 x6 x7 x8 x14 x15 x16 x17 x18 x19 : Value) (H : Heap) : Prop :=
  brV x19
  (bnd (faV 4 x18) fun v154 =>
  bnd (ldE false 1 v154 H) fun v155 =>
  S x0 x3 x5 x6 x7 x8 x14 x15 x16 x17 x18 v155 H)
  (S x0 x3 x5 x6 x7 x8 x14 x15 x16 x17 x18 (.bool false) H)
theorem sounderlaw06_SentSums_g144_e (S : Value → Value → Value → Value → Value → Value → Value → Value → Value → Value → Value → Value → Heap → Prop) (x : Nat → Value) (H : Heap) : wpE tab P sounderlaw06_SentSums_pi sounderlaw06_SentSums_c94 (nQ fun l H => S (l.getD 0 undef) (l.getD 3 undef) (l.getD 5 undef) (l.getD 6 undef) (l.getD 7 undef) (l.getD 8 undef) (l.getD 14 undef) (l.getD 15 undef) (l.getD 16 undef) (l.getD 17 undef) (l.getD 18 undef) (l.getD 156 undef) H) ((List.range 194).map x) H = sounderlaw06_SentSums_g144 S (x 0) (x 3) (x 5) (x 6) (x 7) (x 8) (x 14) (x 15) (x 16) (x 17) (x 18) (x 19) H := by kernel_rfl
def sounderlaw06_SentSums_g145 (S : Value → Value → Value → Value → Value → Value → Value → Value → Value → Value → Value → Heap → Prop) (x0 x3 x5 x6 x7 x8 x14 x15 x16 x17 x18 : Value) (H : Heap) : Prop :=
  bnd (faV 2 x18) fun v158 =>
  bnd (ldE false 1 v158 H) fun v159 =>
  bnd (binV .int .add x14 v159) fun v160 =>
  S x0 x3 x5 x6 x7 x8 v160 x15 x16 x17 x18 H
theorem sounderlaw06_SentSums_g145_e (S : Value → Value → Value → Value → Value → Value → Value → Value → Value → Value → Value → Heap → Prop) (x : Nat → Value) (H : Heap) : wpE tab P sounderlaw06_SentSums_pi sounderlaw06_SentSums_c97 (nQ fun l H => S (l.getD 0 undef) (l.getD 3 undef) (l.getD 5 undef) (l.getD 6 undef) (l.getD 7 undef) (l.getD 8 undef) (l.getD 14 undef) (l.getD 15 undef) (l.getD 16 undef) (l.getD 17 undef) (l.getD 18 undef) H) ((List.range 194).map x) H = sounderlaw06_SentSums_g145 S (x 0) (x 3) (x 5) (x 6) (x 7) (x 8) (x 14) (x 15) (x 16) (x 17) (x 18) H := by kernel_rfl
def sounderlaw06_SentSums_g146 (S : Value → Value → Value → Value → Value → Value → Value → Value → Value → Value → Value → Heap → Prop) (x0 x3 x5 x6 x7 x8 x14 x15 x16 x17 x18 : Value) (H : Heap) : Prop :=
  bnd (faV 3 x18) fun v161 =>
  bnd (ldE false 1 v161 H) fun v162 =>
  S x0 x3 x5 x6 x7 x8 x14 x15 x16 x17 v162 H
theorem sounderlaw06_SentSums_g146_e (S : Value → Value → Value → Value → Value → Value → Value → Value → Value → Value → Value → Heap → Prop) (x : Nat → Value) (H : Heap) : wpE tab P sounderlaw06_SentSums_pi sounderlaw06_SentSums_c99 (nQ fun l H => S (l.getD 0 undef) (l.getD 3 undef) (l.getD 5 undef) (l.getD 6 undef) (l.getD 7 undef) (l.getD 8 undef) (l.getD 14 undef) (l.getD 15 undef) (l.getD 16 undef) (l.getD 17 undef) (l.getD 162 undef) H) ((List.range 194).map x) H = sounderlaw06_SentSums_g146 S (x 0) (x 3) (x 5) (x 6) (x 7) (x 8) (x 14) (x 15) (x 16) (x 17) (x 18) H := by kernel_rfl
def sounderlaw06_SentSums_g147 (S : Value → Value → Value → Value → Value → Value → Value → Value → Value → Value → Heap → Prop) (x0 x3 x5 x6 x7 x8 x14 x15 x16 x17 : Value) (H : Heap) : Prop :=
  bnd (binV .int .add x15 (.int .i64 1)) fun v164 =>
  S x0 x3 x5 x6 x7 x8 x14 v164 x16 x17 H
theorem sounderlaw06_SentSums_g147_e (S : Value → Value → Value → Value → Value → Value → Value → Value → Value → Value → Heap → Prop) (x : Nat → Value) (H : Heap) : wpE tab P sounderlaw06_SentSums_pi sounderlaw06_SentSums_c101 (nQ fun l H => S (l.getD 0 undef) (l.getD 3 undef) (l.getD 5 undef) (l.getD 6 undef) (l.getD 7 undef) (l.getD 8 undef) (l.getD 14 undef) (l.getD 15 undef) (l.getD 16 undef) (l.getD 17 undef) H) ((List.range 194).map x) H = sounderlaw06_SentSums_g147 S (x 0) (x 3) (x 5) (x 6) (x 7) (x 8) (x 14) (x 15) (x 16) (x 17) H := by kernel_rfl
def sounderlaw06_SentSums_s143 (x0 x3 x5 x6 x7 x8 x14 x15 x16 x17 x18 x19 : Value) (K1 : Value → Value → Value → Value → Value → Value →  Heap → Prop) (K2 : Value → Value → Value → Value → Value → Value → Value → Value → Value → Value →  Heap → Prop) (R : Value → Heap → Prop) (H : Heap) : Prop :=
  sounderlaw06_SentSums_g144 (fun x0 x3 x5 x6 x7 x8 x14 x15 x16 x17 x18 x156 H => brV x156
  (sounderlaw06_SentSums_g145 (fun x0 x3 x5 x6 x7 x8 x14 x15 x16 x17 x18 H => sounderlaw06_SentSums_g146 (fun x0 x3 x5 x6 x7 x8 x14 x15 x16 x17 x162 H => brV x162
  (sounderlaw06_SentSums_g147 (fun x0 x3 x5 x6 x7 x8 x14 x15 x16 x17 H => sounderlaw06_SentSums_s129 x0 x3 x5 x6 x7 x8 x14 x15 x16 x17 K1 K2 R H) x0 x3 x5 x6 x7 x8 x14 x15 x16 x17 H)
  (sounderlaw06_SentSums_s129 x0 x3 x5 x6 x7 x8 x14 x15 x16 x17 K1 K2 R H)) x0 x3 x5 x6 x7 x8 x14 x15 x16 x17 x18 H) x0 x3 x5 x6 x7 x8 x14 x15 x16 x17 x18 H)
  (sounderlaw06_SentSums_s129 x0 x3 x5 x6 x7 x8 x14 x15 x16 x17 K1 K2 R H)) x0 x3 x5 x6 x7 x8 x14 x15 x16 x17 x18 x19 H
noncomputable def sounderlaw06_SentSums_q148 (K1 : Value → Value → Value → Value → Value → Value →  Heap → Prop) (K2 : Value → Value → Value → Value → Value → Value → Value → Value → Value → Value →  Heap → Prop) (R : Value → Heap → Prop) : Exit → List Value → Heap → Prop := (thenE (fun l H => wpE tab P sounderlaw06_SentSums_pi sounderlaw06_SentSums_c102 (sounderlaw06_SentSums_q139 K1 K2 R) l H) (sounderlaw06_SentSums_q139 K1 K2 R))
noncomputable def sounderlaw06_SentSums_q149 (K1 : Value → Value → Value → Value → Value → Value →  Heap → Prop) (K2 : Value → Value → Value → Value → Value → Value → Value → Value → Value → Value →  Heap → Prop) (R : Value → Heap → Prop) : Exit → List Value → Heap → Prop := (blkE 3 (sounderlaw06_SentSums_q148 K1 K2 R))
theorem sounderlaw06_SentSums_s143_i (K1 : Value → Value → Value → Value → Value → Value →  Heap → Prop) (K2 : Value → Value → Value → Value → Value → Value → Value → Value → Value → Value →  Heap → Prop) (R : Value → Heap → Prop) (l : List Value) (H : Heap) (hl : l.length = 194) (h : sounderlaw06_SentSums_s143 (l.getD 0 undef) (l.getD 3 undef) (l.getD 5 undef) (l.getD 6 undef) (l.getD 7 undef) (l.getD 8 undef) (l.getD 14 undef) (l.getD 15 undef) (l.getD 16 undef) (l.getD 17 undef) (l.getD 18 undef) (l.getD 19 undef) K1 K2 R H) : wpE tab P sounderlaw06_SentSums_pi sounderlaw06_SentSums_c93 (sounderlaw06_SentSums_q149 K1 K2 R) l H := by
  refine seqI (c := sounderlaw06_SentSums_c93) rfl ?_
  refine regI hl (Eq.mpr (sounderlaw06_SentSums_g144_e _ (fun i => l.getD i undef) _) h) ?_
  clear h hl
  intro l H hl h
  refine thenN ?_
  refine condI (c := sounderlaw06_SentSums_c95) rfl h ?_ ?_
  · clear h; intro h
    refine seqI (c := sounderlaw06_SentSums_c96) rfl ?_
    refine regI hl (Eq.mpr (sounderlaw06_SentSums_g145_e _ (fun i => l.getD i undef) _) h) ?_
    clear h hl
    intro l H hl h
    refine thenN ?_
    refine seqI (c := sounderlaw06_SentSums_c98) rfl ?_
    refine regI hl (Eq.mpr (sounderlaw06_SentSums_g146_e _ (fun i => l.getD i undef) _) h) ?_
    clear h hl
    intro l H hl h
    refine thenN ?_
    refine condI (c := sounderlaw06_SentSums_c100) rfl h ?_ ?_
    · clear h; intro h
      refine regI hl (Eq.mpr (sounderlaw06_SentSums_g147_e _ (fun i => l.getD i undef) _) h) ?_
      clear h hl
      intro l H hl h
      refine blkN ?_
      refine thenN ?_
      exact sounderlaw06_SentSums_s129_i K1 K2 R l H hl h
    · clear h; intro h
      refine skipI rfl ?_
      refine blkN ?_
      refine thenN ?_
      exact sounderlaw06_SentSums_s129_i K1 K2 R l H hl h
  · clear h; intro h
    refine skipI rfl ?_
    refine blkN ?_
    refine thenN ?_
    exact sounderlaw06_SentSums_s129_i K1 K2 R l H hl h
def sounderlaw06_SentSums_g150 (S : Value → Value → Value → Value → Value → Value → Value → Value → Value → Value → Value → Value → Value → Heap → Prop) (x0 x3 x5 x6 x7 x8 x14 x15 x16 x17 x18 x19 : Value) (H : Heap) : Prop :=
  S x0 x3 x5 x6 x7 x8 x14 x15 x16 x17 x18 x19 x19 H
theorem sounderlaw06_SentSums_g150_e (S : Value → Value → Value → Value → Value → Value → Value → Value → Value → Value → Value → Value → Value → Heap → Prop) (x : Nat → Value) (H : Heap) : wpE tab P sounderlaw06_SentSums_pi sounderlaw06_SentSums_c90 (nQ fun l H => S (l.getD 0 undef) (l.getD 3 undef) (l.getD 5 undef) (l.getD 6 undef) (l.getD 7 undef) (l.getD 8 undef) (l.getD 14 undef) (l.getD 15 undef) (l.getD 16 undef) (l.getD 17 undef) (l.getD 18 undef) (l.getD 19 undef) (l.getD 149 undef) H) ((List.range 194).map x) H = sounderlaw06_SentSums_g150 S (x 0) (x 3) (x 5) (x 6) (x 7) (x 8) (x 14) (x 15) (x 16) (x 17) (x 18) (x 19) H := by kernel_rfl
def sounderlaw06_SentSums_g151 (S : Value → Value → Value → Value → Value → Value → Value → Value → Value → Value → Value → Value → Heap → Prop) (x0 x3 x5 x6 x7 x8 x14 x15 x16 x17 x18 x19 : Value) (H : Heap) : Prop :=
  bnd (binV .int .add x16 (.int .i64 1)) fun v151 =>
  S x0 x3 x5 x6 x7 x8 x14 x15 v151 x17 x18 x19 H
theorem sounderlaw06_SentSums_g151_e (S : Value → Value → Value → Value → Value → Value → Value → Value → Value → Value → Value → Value → Heap → Prop) (x : Nat → Value) (H : Heap) : wpE tab P sounderlaw06_SentSums_pi sounderlaw06_SentSums_c92 (nQ fun l H => S (l.getD 0 undef) (l.getD 3 undef) (l.getD 5 undef) (l.getD 6 undef) (l.getD 7 undef) (l.getD 8 undef) (l.getD 14 undef) (l.getD 15 undef) (l.getD 16 undef) (l.getD 17 undef) (l.getD 18 undef) (l.getD 19 undef) H) ((List.range 194).map x) H = sounderlaw06_SentSums_g151 S (x 0) (x 3) (x 5) (x 6) (x 7) (x 8) (x 14) (x 15) (x 16) (x 17) (x 18) (x 19) H := by kernel_rfl
def sounderlaw06_SentSums_g152 (S : Value → Value → Value → Value → Value → Value → Value → Heap → Prop) (x0 x3 x5 x6 x7 x8 x14 x15 x16 : Value) (H : Heap) : Prop :=
  EvF P N.sent_Log_Flight #[x3] H fun v166 H1 =>
  bnd (binV .int .neq v166 x14) fun v168 =>
  brV v168
  (S x0 x3 x5 x6 x7 x8 (.bool true) H1)
  (EvF P N.sent_Log_Eliciting #[x3] H1 fun v171 H2 =>
  bnd (binV .int .neq v171 x15) fun v173 =>
  brV v173
  (S x0 x3 x5 x6 x7 x8 (.bool true) H2)
  (EvF P N.sent_Log_Len #[x3] H2 fun v177 H3 =>
  bnd (binV .int .neq v177 x16) fun v179 =>
  brV v179
  (S x0 x3 x5 x6 x7 x8 (.bool true) H3)
  (EvF P N.sent_Log_All #[x3] H3 fun v183 H4 =>
  bnd (lenV v183) fun v184 =>
  bnd (binV .int .neq v184 x16) fun v186 =>
  brV v186
  (S x0 x3 x5 x6 x7 x8 (.bool true) H4)
  (EvF P N.sent_Log_Last #[x3] H4 fun v190 H5 =>
  bnd (binV .int .neq v190 x7) fun v192 =>
  S x0 x3 x5 x6 x7 x8 v192 H5))))
theorem sounderlaw06_SentSums_g152_e (S : Value → Value → Value → Value → Value → Value → Value → Heap → Prop) (x : Nat → Value) (H : Heap) : wpE tab P sounderlaw06_SentSums_pi sounderlaw06_SentSums_c104 (nQ fun l H => S (l.getD 0 undef) (l.getD 3 undef) (l.getD 5 undef) (l.getD 6 undef) (l.getD 7 undef) (l.getD 8 undef) (l.getD 193 undef) H) ((List.range 194).map x) H = sounderlaw06_SentSums_g152 S (x 0) (x 3) (x 5) (x 6) (x 7) (x 8) (x 14) (x 15) (x 16) H := by kernel_rfl
def sounderlaw06_SentSums_g153 (S : Value → Heap → Prop) (H : Heap) : Prop :=
  S (.bool false) H
theorem sounderlaw06_SentSums_g153_e (S : Value → Heap → Prop) (x : Nat → Value) (H : Heap) : wpE tab P sounderlaw06_SentSums_pi sounderlaw06_SentSums_c107 (nQ fun l H => S (l.getD 2 undef) H) ((List.range 194).map x) H = sounderlaw06_SentSums_g153 S  H := by kernel_rfl
def sounderlaw06_SentSums_g154 (S : Value → Value → Value → Value → Value → Value → Heap → Prop) (x0 x3 x5 x6 x7 x8 : Value) (H : Heap) : Prop :=
  bnd (binV .int .add x8 (.int .i64 1)) fun v37 =>
  S x0 x3 x5 x6 x7 v37 H
theorem sounderlaw06_SentSums_g154_e (S : Value → Value → Value → Value → Value → Value → Heap → Prop) (x : Nat → Value) (H : Heap) : wpE tab P sounderlaw06_SentSums_pi sounderlaw06_SentSums_c108 (nQ fun l H => S (l.getD 0 undef) (l.getD 3 undef) (l.getD 5 undef) (l.getD 6 undef) (l.getD 7 undef) (l.getD 8 undef) H) ((List.range 194).map x) H = sounderlaw06_SentSums_g154 S (x 0) (x 3) (x 5) (x 6) (x 7) (x 8) H := by kernel_rfl
def sounderlaw06_SentSums_s127 (x0 x3 x5 x6 x7 x8 x14 x15 x16 x17 : Value) (K1 : Value → Value → Value → Value → Value → Value →  Heap → Prop) (K2 : Value → Value → Value → Value → Value → Value → Value → Value → Value → Value →  Heap → Prop) (R : Value → Heap → Prop) (H : Heap) : Prop :=
  sounderlaw06_SentSums_g128 (fun x0 x3 x5 x6 x7 x8 x14 x15 x16 x17 x119 H => brV x119
  (sounderlaw06_SentSums_g140 (fun x0 x3 x5 x6 x7 x8 x14 x15 x16 x17 x18 x19 H => sounderlaw06_SentSums_g141 (fun x0 x3 x5 x6 x7 x8 x14 x15 x16 x17 x18 x19 x148 H => brV x148
  (sounderlaw06_SentSums_g142 (fun x2 H => R x2 H) H)
  (sounderlaw06_SentSums_g150 (fun x0 x3 x5 x6 x7 x8 x14 x15 x16 x17 x18 x19 x149 H => brV x149
  (sounderlaw06_SentSums_g151 (fun x0 x3 x5 x6 x7 x8 x14 x15 x16 x17 x18 x19 H => sounderlaw06_SentSums_s143 x0 x3 x5 x6 x7 x8 x14 x15 x16 x17 x18 x19 K1 K2 R H) x0 x3 x5 x6 x7 x8 x14 x15 x16 x17 x18 x19 H)
  (sounderlaw06_SentSums_s143 x0 x3 x5 x6 x7 x8 x14 x15 x16 x17 x18 x19 K1 K2 R H)) x0 x3 x5 x6 x7 x8 x14 x15 x16 x17 x18 x19 H)) x0 x3 x5 x6 x7 x8 x14 x15 x16 x17 x18 x19 H) x0 x3 x5 x6 x7 x8 x14 x15 x16 x17 H)
  (sounderlaw06_SentSums_g152 (fun x0 x3 x5 x6 x7 x8 x193 H => brV x193
  (sounderlaw06_SentSums_g153 (fun x2 H => R x2 H) H)
  (sounderlaw06_SentSums_g154 (fun x0 x3 x5 x6 x7 x8 H => K1 x0 x3 x5 x6 x7 x8 H) x0 x3 x5 x6 x7 x8 H)) x0 x3 x5 x6 x7 x8 x14 x15 x16 H)) x0 x3 x5 x6 x7 x8 x14 x15 x16 x17 H
theorem sounderlaw06_SentSums_s127_i (K1 : Value → Value → Value → Value → Value → Value →  Heap → Prop) (K2 : Value → Value → Value → Value → Value → Value → Value → Value → Value → Value →  Heap → Prop) (R : Value → Heap → Prop) (l : List Value) (H : Heap) (hl : l.length = 194) (h : sounderlaw06_SentSums_s127 (l.getD 0 undef) (l.getD 3 undef) (l.getD 5 undef) (l.getD 6 undef) (l.getD 7 undef) (l.getD 8 undef) (l.getD 14 undef) (l.getD 15 undef) (l.getD 16 undef) (l.getD 17 undef) K1 K2 R H) : wpE tab P sounderlaw06_SentSums_pi sounderlaw06_SentSums_c73 (sounderlaw06_SentSums_q139 K1 K2 R) l H := by
  refine seqI (c := sounderlaw06_SentSums_c73) rfl ?_
  refine seqI (c := sounderlaw06_SentSums_c74) rfl ?_
  refine regI hl (Eq.mpr (sounderlaw06_SentSums_g128_e _ (fun i => l.getD i undef) _) h) ?_
  clear h hl
  intro l H hl h
  refine thenN ?_
  refine condI (c := sounderlaw06_SentSums_c76) rfl h ?_ ?_
  · clear h; intro h
    refine skipI rfl ?_
    refine thenN ?_
    refine seqI (c := sounderlaw06_SentSums_c78) rfl ?_
    refine blockI (c := sounderlaw06_SentSums_c79) rfl ?_
    refine seqI (c := sounderlaw06_SentSums_c80) rfl ?_
    refine regI hl (Eq.mpr (sounderlaw06_SentSums_g140_e _ (fun i => l.getD i undef) _) h) ?_
    clear h hl
    intro l H hl h
    refine thenN ?_
    refine seqI (c := sounderlaw06_SentSums_c82) rfl ?_
    refine seqI (c := sounderlaw06_SentSums_c83) rfl ?_
    refine regI hl (Eq.mpr (sounderlaw06_SentSums_g141_e _ (fun i => l.getD i undef) _) h) ?_
    clear h hl
    intro l H hl h
    refine thenN ?_
    refine condI (c := sounderlaw06_SentSums_c85) rfl h ?_ ?_
    · clear h; intro h
      refine seqI (c := sounderlaw06_SentSums_c86) rfl ?_
      refine regI hl (Eq.mpr (sounderlaw06_SentSums_g142_e _ (fun i => l.getD i undef) _) h) ?_
      clear h hl
      intro l H hl h
      refine thenN ?_
      refine retI rfl ?_
      refine thenR ?_
      refine blkR ?_
      refine thenR ?_
      refine thenR ?_
      refine blkR ?_
      refine thenR ?_
      refine blkR ?_
      refine thenR ?_
      refine thenR ?_
      refine blkR ?_
      refine thenR ?_
      exact h
    · clear h; intro h
      refine skipI rfl ?_
      refine thenN ?_
      refine seqI (c := sounderlaw06_SentSums_c88) rfl ?_
      refine seqI (c := sounderlaw06_SentSums_c89) rfl ?_
      refine regI hl (Eq.mpr (sounderlaw06_SentSums_g150_e _ (fun i => l.getD i undef) _) h) ?_
      clear h hl
      intro l H hl h
      refine thenN ?_
      refine condI (c := sounderlaw06_SentSums_c91) rfl h ?_ ?_
      · clear h; intro h
        refine regI hl (Eq.mpr (sounderlaw06_SentSums_g151_e _ (fun i => l.getD i undef) _) h) ?_
        clear h hl
        intro l H hl h
        refine thenN ?_
        exact sounderlaw06_SentSums_s143_i K1 K2 R l H hl h
      · clear h; intro h
        refine skipI rfl ?_
        refine thenN ?_
        exact sounderlaw06_SentSums_s143_i K1 K2 R l H hl h
  · clear h; intro h
    refine exitI (c := sounderlaw06_SentSums_c77) rfl ?_
    refine thenX ?_
    refine thenX ?_
    refine blkX ?_
    refine thenN ?_
    refine seqI (c := sounderlaw06_SentSums_c103) rfl ?_
    refine regI hl (Eq.mpr (sounderlaw06_SentSums_g152_e _ (fun i => l.getD i undef) _) h) ?_
    clear h hl
    intro l H hl h
    refine thenN ?_
    refine condI (c := sounderlaw06_SentSums_c105) rfl h ?_ ?_
    · clear h; intro h
      refine seqI (c := sounderlaw06_SentSums_c106) rfl ?_
      refine regI hl (Eq.mpr (sounderlaw06_SentSums_g153_e _ (fun i => l.getD i undef) _) h) ?_
      clear h hl
      intro l H hl h
      refine thenN ?_
      refine retI rfl ?_
      refine blkR ?_
      refine thenR ?_
      refine thenR ?_
      refine blkR ?_
      refine thenR ?_
      exact h
    · clear h; intro h
      refine skipI rfl ?_
      refine blkN ?_
      refine thenN ?_
      refine regI hl (Eq.mpr (sounderlaw06_SentSums_g154_e _ (fun i => l.getD i undef) _) h) ?_
      clear h hl
      intro l H hl h
      refine thenN ?_
      exact h
def sounderlaw06_SentSums_l155 (x0 x3 x5 x6 x7 x8 x14 x15 x16 x17 : Value) (K1 : Value → Value → Value → Value → Value → Value →  Heap → Prop) (R : Value → Heap → Prop) (H : Heap) : Prop :=
  ∃ (I : Value → Value → Value → Value → Heap → Prop) (μ : Value → Value → Value → Value → Heap → Nat), I x14 x15 x16 x17 H ∧ ∀ (y14 : Value) (y15 : Value) (y16 : Value) (y17 : Value) (H : Heap), I y14 y15 y16 y17 H → sounderlaw06_SentSums_s127 x0 x3 x5 x6 x7 x8 y14 y15 y16 y17 K1 (fun z0 z3 z5 z6 z7 z8 z14 z15 z16 z17 H' => z0 = x0 ∧ z3 = x3 ∧ z5 = x5 ∧ z6 = x6 ∧ z7 = x7 ∧ z8 = x8 ∧ (I z14 z15 z16 z17 H' ∧ μ z14 z15 z16 z17 H' < μ y14 y15 y16 y17 H)) R H
def sounderlaw06_SentSums_s124 (x0 x3 x5 x6 x7 x8 : Value) (K1 : Value → Value → Value → Value → Value → Value →  Heap → Prop) (R : Value → Heap → Prop) (H : Heap) : Prop :=
  sounderlaw06_SentSums_g125 (fun x0 x3 x5 x6 x7 x8 x14 x15 x16 H => sounderlaw06_SentSums_g126 (fun x0 x3 x5 x6 x7 x8 x14 x15 x16 x17 H => sounderlaw06_SentSums_l155 x0 x3 x5 x6 x7 x8 x14 x15 x16 x17 K1 R H) x0 x3 x5 x6 x7 x8 x14 x15 x16 H) x0 x3 x5 x6 x7 x8 H
theorem sounderlaw06_SentSums_s124_i (K1 : Value → Value → Value → Value → Value → Value →  Heap → Prop) (R : Value → Heap → Prop) (l : List Value) (H : Heap) (hl : l.length = 194) (h : sounderlaw06_SentSums_s124 (l.getD 0 undef) (l.getD 3 undef) (l.getD 5 undef) (l.getD 6 undef) (l.getD 7 undef) (l.getD 8 undef) K1 R H) : wpE tab P sounderlaw06_SentSums_pi sounderlaw06_SentSums_c66 (sounderlaw06_SentSums_q136 K1 R) l H := by
  refine seqI (c := sounderlaw06_SentSums_c66) rfl ?_
  refine regI hl (Eq.mpr (sounderlaw06_SentSums_g125_e _ (fun i => l.getD i undef) _) h) ?_
  clear h hl
  intro l H hl h
  refine thenN ?_
  refine seqI (c := sounderlaw06_SentSums_c68) rfl ?_
  refine seqI (c := sounderlaw06_SentSums_c69) rfl ?_
  refine regI hl (Eq.mpr (sounderlaw06_SentSums_g126_e _ (fun i => l.getD i undef) _) h) ?_
  clear h hl
  intro l H hl h
  refine thenN ?_
  refine blockI (c := sounderlaw06_SentSums_c71) rfl ?_
  obtain ⟨I, μ, h0, hr⟩ := h
  refine loopI (c := sounderlaw06_SentSums_c72) rfl (fun l' H' => l'.getD 0 undef = l.getD 0 undef ∧ l'.getD 3 undef = l.getD 3 undef ∧ l'.getD 5 undef = l.getD 5 undef ∧ l'.getD 6 undef = l.getD 6 undef ∧ l'.getD 7 undef = l.getD 7 undef ∧ l'.getD 8 undef = l.getD 8 undef ∧ I (l'.getD 14 undef) (l'.getD 15 undef) (l'.getD 16 undef) (l'.getD 17 undef) H') (fun l' H' => μ (l'.getD 14 undef) (l'.getD 15 undef) (l'.getD 16 undef) (l'.getD 17 undef) H') hl ⟨rfl, rfl, rfl, rfl, rfl, rfl, h0⟩ ?_
  rintro l1 H1 hl1 ⟨e0, e3, e5, e6, e7, e8, hI⟩
  have hb := hr (l1.getD 14 undef) (l1.getD 15 undef) (l1.getD 16 undef) (l1.getD 17 undef) H1 hI
  rw [← e0, ← e3, ← e5, ← e6, ← e7, ← e8] at hb
  refine wpE_mono _ l1 H1 hl1 ?_ (sounderlaw06_SentSums_s127_i K1 _ R l1 H1 hl1 hb)
  intro e l2 H2 hl2 hq
  cases e with
  | normal => exact fun _ => (by obtain ⟨d0, d3, d5, d6, d7, d8, g1, g2⟩ := hq; exact ⟨⟨d0.trans e0, d3.trans e3, d5.trans e5, d6.trans e6, d7.trans e7, d8.trans e8, g1⟩, g2⟩)
  | _ => exact hq
def sounderlaw06_SentSums_g156 (S : Value → Value → Value → Value → Value → Value → Value → Value → Heap → Prop) (x0 x3 x5 x6 x7 x8 x9 : Value) (H : Heap) : Prop :=
  bnd (faV 0 x9) fun v42 =>
  bnd (ldE false 1 v42 H) fun v43 =>
  EvF P N.sounderref00_Bring #[v43, (.int .i64 4)] H fun v44 H1 =>
  bnd (binV .int .lss v44 (.int .i64 2)) fun v45 =>
  S x0 x3 x5 x6 x7 x8 x9 v45 H1
theorem sounderlaw06_SentSums_g156_e (S : Value → Value → Value → Value → Value → Value → Value → Value → Heap → Prop) (x : Nat → Value) (H : Heap) : wpE tab P sounderlaw06_SentSums_pi sounderlaw06_SentSums_c39 (nQ fun l H => S (l.getD 0 undef) (l.getD 3 undef) (l.getD 5 undef) (l.getD 6 undef) (l.getD 7 undef) (l.getD 8 undef) (l.getD 9 undef) (l.getD 45 undef) H) ((List.range 194).map x) H = sounderlaw06_SentSums_g156 S (x 0) (x 3) (x 5) (x 6) (x 7) (x 8) (x 9) H := by kernel_rfl
def sounderlaw06_SentSums_g157 (S : Value → Value → Value → Value → Value → Value → Value → Heap → Prop) (x0 x3 x5 x6 x7 x8 x9 : Value) (H : Heap) : Prop :=
  bnd (binV .int .add x7 (.int .i64 1)) fun v47 =>
  bnd (faV 1 x9) fun v48 =>
  bnd (ldE false 1 v48 H) fun v49 =>
  EvF P N.sounderref00_Bring #[v49, (.int .i64 5)] H fun v50 H1 =>
  bnd (binV .int .add v47 v50) fun v51 =>
  S x0 x3 x5 x6 v51 x8 x9 H1
theorem sounderlaw06_SentSums_g157_e (S : Value → Value → Value → Value → Value → Value → Value → Heap → Prop) (x : Nat → Value) (H : Heap) : wpE tab P sounderlaw06_SentSums_pi sounderlaw06_SentSums_c42 (nQ fun l H => S (l.getD 0 undef) (l.getD 3 undef) (l.getD 5 undef) (l.getD 6 undef) (l.getD 7 undef) (l.getD 8 undef) (l.getD 9 undef) H) ((List.range 194).map x) H = sounderlaw06_SentSums_g157 S (x 0) (x 3) (x 5) (x 6) (x 7) (x 8) (x 9) H := by kernel_rfl
def sounderlaw06_SentSums_g158 (S : Value → Value → Value → Value → Value → Value → Value → Heap → Prop) (x0 x3 x5 x6 x7 x8 x9 : Value) (H : Heap) : Prop :=
  bnd (faV 2 x9) fun v54 =>
  bnd (ldE false 1 v54 H) fun v55 =>
  bnd (faV 3 x9) fun v58 =>
  bnd (ldE false 1 v58 H) fun v59 =>
  bnd (faV 3 x9) fun v62 =>
  bnd (ldE false 1 v62 H) fun v63 =>
  ((EvF P N.sounderref00_Bring #[v55, (.int .i64 65535)] H fun v56 H1 =>
  ((bnd (ldE false 1 v62 H1) fun v' => v' = v63) ∧
  ((bnd (ldE false 1 v58 H1) fun v' => v' = v59) ∧
  bnd (binV .int .add (.int .i64 1) v56) fun v57 =>
  ((EvF P N.sounderref00_Bring #[v59, (.int .i64 2)] H1 fun v60 H2 =>
  ((bnd (ldE false 1 v62 H2) fun v' => v' = v63) ∧
  bnd (binV .int .eql v60 (.int .i64 1)) fun v61 =>
  ((EvF P N.sounderref00_Bring #[v63, (.int .i64 4)] H2 fun v64 H3 =>
  bnd (binV .int .gtr v64 (.int .i64 1)) fun v65 =>
  bnd (buildV #[(.int .i64 0), (.int .i64 0), (.int .i64 0), (.bool false), (.bool false), (.bool false)] (places [(0, 1), (1, 1), (2, 1), (3, 1), (4, 1), (5, 1)]) [(0, x7), (1, x8), (2, v57), (3, v61), (4, v65)]) fun v66 =>
  newE 30 #[(.int .i64 0), (.int .i64 0), (.int .i64 0), (.bool false), (.bool false), (.bool false)] H3 fun v10 H4 =>
  bnd (stE 6 v10 v66 H4) fun H5 =>
  S x0 x3 x5 x6 x7 x8 v10 H5) ∧
  (newE 30 #[(.int .i64 0), (.int .i64 0), (.int .i64 0), (.bool false), (.bool false), (.bool false)] H2 fun v10_2 H6 =>
  ((bnd (ldE false 1 v62 H6) fun v' => v' = v63) ∧
  EvF P N.sounderref00_Bring #[v63, (.int .i64 4)] H6 fun v64_2 H7 =>
  bnd (binV .int .gtr v64_2 (.int .i64 1)) fun v65_2 =>
  bnd (buildV #[(.int .i64 0), (.int .i64 0), (.int .i64 0), (.bool false), (.bool false), (.bool false)] (places [(0, 1), (1, 1), (2, 1), (3, 1), (4, 1), (5, 1)]) [(0, x7), (1, x8), (2, v57), (3, v61), (4, v65_2)]) fun v66_2 =>
  bnd (stE 6 v10_2 v66_2 H7) fun H8 =>
  S x0 x3 x5 x6 x7 x8 v10_2 H8))))) ∧
  (newE 30 #[(.int .i64 0), (.int .i64 0), (.int .i64 0), (.bool false), (.bool false), (.bool false)] H1 fun v10_3 H9 =>
  ((bnd (ldE false 1 v62 H9) fun v' => v' = v63) ∧
  ((bnd (ldE false 1 v58 H9) fun v' => v' = v59) ∧
  EvF P N.sounderref00_Bring #[v59, (.int .i64 2)] H9 fun v60_2 H10 =>
  ((bnd (ldE false 1 v62 H10) fun v' => v' = v63) ∧
  bnd (binV .int .eql v60_2 (.int .i64 1)) fun v61_2 =>
  EvF P N.sounderref00_Bring #[v63, (.int .i64 4)] H10 fun v64_3 H11 =>
  bnd (binV .int .gtr v64_3 (.int .i64 1)) fun v65_3 =>
  bnd (buildV #[(.int .i64 0), (.int .i64 0), (.int .i64 0), (.bool false), (.bool false), (.bool false)] (places [(0, 1), (1, 1), (2, 1), (3, 1), (4, 1), (5, 1)]) [(0, x7), (1, x8), (2, v57), (3, v61_2), (4, v65_3)]) fun v66_3 =>
  bnd (stE 6 v10_3 v66_3 H11) fun H12 =>
  S x0 x3 x5 x6 x7 x8 v10_3 H12)))))))) ∧
  (newE 30 #[(.int .i64 0), (.int .i64 0), (.int .i64 0), (.bool false), (.bool false), (.bool false)] H fun v10_4 H13 =>
  ((bnd (ldE false 1 v62 H13) fun v' => v' = v63) ∧
  ((bnd (ldE false 1 v58 H13) fun v' => v' = v59) ∧
  ((bnd (ldE false 1 v54 H13) fun v' => v' = v55) ∧
  EvF P N.sounderref00_Bring #[v55, (.int .i64 65535)] H13 fun v56_2 H14 =>
  ((bnd (ldE false 1 v62 H14) fun v' => v' = v63) ∧
  ((bnd (ldE false 1 v58 H14) fun v' => v' = v59) ∧
  bnd (binV .int .add (.int .i64 1) v56_2) fun v57_2 =>
  EvF P N.sounderref00_Bring #[v59, (.int .i64 2)] H14 fun v60_3 H15 =>
  ((bnd (ldE false 1 v62 H15) fun v' => v' = v63) ∧
  bnd (binV .int .eql v60_3 (.int .i64 1)) fun v61_3 =>
  EvF P N.sounderref00_Bring #[v63, (.int .i64 4)] H15 fun v64_4 H16 =>
  bnd (binV .int .gtr v64_4 (.int .i64 1)) fun v65_4 =>
  bnd (buildV #[(.int .i64 0), (.int .i64 0), (.int .i64 0), (.bool false), (.bool false), (.bool false)] (places [(0, 1), (1, 1), (2, 1), (3, 1), (4, 1), (5, 1)]) [(0, x7), (1, x8), (2, v57_2), (3, v61_3), (4, v65_4)]) fun v66_4 =>
  bnd (stE 6 v10_4 v66_4 H16) fun H17 =>
  S x0 x3 x5 x6 x7 x8 v10_4 H17))))))))
theorem sounderlaw06_SentSums_g158_e (S : Value → Value → Value → Value → Value → Value → Value → Heap → Prop) (x : Nat → Value) (H : Heap) : wpE tab P sounderlaw06_SentSums_pi sounderlaw06_SentSums_c44 (nQ fun l H => S (l.getD 0 undef) (l.getD 3 undef) (l.getD 5 undef) (l.getD 6 undef) (l.getD 7 undef) (l.getD 8 undef) (l.getD 10 undef) H) ((List.range 194).map x) H = sounderlaw06_SentSums_g158 S (x 0) (x 3) (x 5) (x 6) (x 7) (x 8) (x 9) H := by kernel_rfl
def sounderlaw06_SentSums_g159 (S : Value → Value → Value → Value → Value → Value → Value → Value → Heap → Prop) (x0 x3 x5 x6 x7 x8 x10 : Value) (H : Heap) : Prop :=
  bnd (ldE true 6 x10 H) fun v68 =>
  EvF P N.sent_Log_Put #[x3, v68] H fun v69 H1 =>
  bnd (binV .int .neq v69 (.int .i64 0)) fun v70 =>
  S x0 x3 x5 x6 x7 x8 x10 v70 H1
theorem sounderlaw06_SentSums_g159_e (S : Value → Value → Value → Value → Value → Value → Value → Value → Heap → Prop) (x : Nat → Value) (H : Heap) : wpE tab P sounderlaw06_SentSums_pi sounderlaw06_SentSums_c47 (nQ fun l H => S (l.getD 0 undef) (l.getD 3 undef) (l.getD 5 undef) (l.getD 6 undef) (l.getD 7 undef) (l.getD 8 undef) (l.getD 10 undef) (l.getD 70 undef) H) ((List.range 194).map x) H = sounderlaw06_SentSums_g159 S (x 0) (x 3) (x 5) (x 6) (x 7) (x 8) (x 10) H := by kernel_rfl
def sounderlaw06_SentSums_g160 (S : Value → Heap → Prop) (H : Heap) : Prop :=
  S (.bool false) H
theorem sounderlaw06_SentSums_g160_e (S : Value → Heap → Prop) (x : Nat → Value) (H : Heap) : wpE tab P sounderlaw06_SentSums_pi sounderlaw06_SentSums_c50 (nQ fun l H => S (l.getD 2 undef) H) ((List.range 194).map x) H = sounderlaw06_SentSums_g160 S  H := by kernel_rfl
def sounderlaw06_SentSums_g161 (S : Value → Value → Value → Value → Value → Value → Heap → Prop) (x0 x3 x5 x6 x7 x8 x10 : Value) (H : Heap) : Prop :=
  bnd (ldE true 6 x10 H) fun v72 =>
  bslE 30 #[(.int .i64 0), (.int .i64 0), (.int .i64 0), (.bool false), (.bool false), (.bool false)] 6 1 [(0, v72)] H fun v73 H1 =>
  appE 30 #[(.int .i64 0), (.int .i64 0), (.int .i64 0), (.bool false), (.bool false), (.bool false)] 6 32 x5 v73 H1 fun v74 H2 =>
  bslE 4 #[(.bool false)] 1 1 [(0, (.bool true))] H2 fun v76 H3 =>
  appE 4 #[(.bool false)] 1 1 x6 v76 H3 fun v77 H4 =>
  S x0 x3 v74 v77 x7 x8 H4
theorem sounderlaw06_SentSums_g161_e (S : Value → Value → Value → Value → Value → Value → Heap → Prop) (x : Nat → Value) (H : Heap) : wpE tab P sounderlaw06_SentSums_pi sounderlaw06_SentSums_c51 (nQ fun l H => S (l.getD 0 undef) (l.getD 3 undef) (l.getD 5 undef) (l.getD 6 undef) (l.getD 7 undef) (l.getD 8 undef) H) ((List.range 194).map x) H = sounderlaw06_SentSums_g161 S (x 0) (x 3) (x 5) (x 6) (x 7) (x 8) (x 10) H := by kernel_rfl
def sounderlaw06_SentSums_g162 (S : Value → Value → Value → Value → Value → Value → Value → Value → Heap → Prop) (x0 x3 x5 x6 x7 x8 x9 : Value) (H : Heap) : Prop :=
  bnd (lenV x5) fun v79 =>
  bnd (binV .int .gtr v79 (.int .i64 0)) fun v80 =>
  S x0 x3 x5 x6 x7 x8 x9 v80 H
theorem sounderlaw06_SentSums_g162_e (S : Value → Value → Value → Value → Value → Value → Value → Value → Heap → Prop) (x : Nat → Value) (H : Heap) : wpE tab P sounderlaw06_SentSums_pi sounderlaw06_SentSums_c53 (nQ fun l H => S (l.getD 0 undef) (l.getD 3 undef) (l.getD 5 undef) (l.getD 6 undef) (l.getD 7 undef) (l.getD 8 undef) (l.getD 9 undef) (l.getD 80 undef) H) ((List.range 194).map x) H = sounderlaw06_SentSums_g162 S (x 0) (x 3) (x 5) (x 6) (x 7) (x 8) (x 9) H := by kernel_rfl
def sounderlaw06_SentSums_g163 (S : Value → Value → Value → Value → Value → Value → Value → Heap → Prop) (x0 x3 x5 x6 x7 x8 x9 : Value) (H : Heap) : Prop :=
  bnd (faV 1 x9) fun v81 =>
  bnd (ldE false 1 v81 H) fun v82 =>
  bnd (lenV x5) fun v84 =>
  EvF P N.sounderref00_Bring #[v82, v84] H fun v85 H1 =>
  S x0 x3 x5 x6 x7 x8 v85 H1
theorem sounderlaw06_SentSums_g163_e (S : Value → Value → Value → Value → Value → Value → Value → Heap → Prop) (x : Nat → Value) (H : Heap) : wpE tab P sounderlaw06_SentSums_pi sounderlaw06_SentSums_c56 (nQ fun l H => S (l.getD 0 undef) (l.getD 3 undef) (l.getD 5 undef) (l.getD 6 undef) (l.getD 7 undef) (l.getD 8 undef) (l.getD 11 undef) H) ((List.range 194).map x) H = sounderlaw06_SentSums_g163 S (x 0) (x 3) (x 5) (x 6) (x 7) (x 8) (x 9) H := by kernel_rfl
def sounderlaw06_SentSums_g164 (S : Value → Value → Value → Value → Value → Value → Value → Value → Value → Heap → Prop) (x0 x3 x5 x6 x7 x8 x11 : Value) (H : Heap) : Prop :=
  bnd (ixSV 6 x5 x11) fun v90 =>
  bnd (faV 0 v90) fun v91 =>
  bnd (ldE false 1 v91 H) fun v92 =>
  EvF P N.sent_Log_Drop #[x3, v92] H fun v93 H1 =>
  bnd (exV 0 v93) fun v94 =>
  bnd (exV 1 v93) fun v95 =>
  newE 30 #[(.int .i64 0), (.int .i64 0), (.int .i64 0), (.bool false), (.bool false), (.bool false)] H1 fun v12 H2 =>
  bnd (stE 6 v12 v94 H2) fun H3 =>
  S x0 x3 x5 x6 x7 x8 x11 v12 v95 H3
theorem sounderlaw06_SentSums_g164_e (S : Value → Value → Value → Value → Value → Value → Value → Value → Value → Heap → Prop) (x : Nat → Value) (H : Heap) : wpE tab P sounderlaw06_SentSums_pi sounderlaw06_SentSums_c58 (nQ fun l H => S (l.getD 0 undef) (l.getD 3 undef) (l.getD 5 undef) (l.getD 6 undef) (l.getD 7 undef) (l.getD 8 undef) (l.getD 11 undef) (l.getD 12 undef) (l.getD 13 undef) H) ((List.range 194).map x) H = sounderlaw06_SentSums_g164 S (x 0) (x 3) (x 5) (x 6) (x 7) (x 8) (x 11) H := by kernel_rfl
def sounderlaw06_SentSums_g165 (S : Value → Value → Value → Value → Value → Value → Value → Value → Heap → Prop) (x0 x3 x5 x6 x7 x8 x11 x12 x13 : Value) (H : Heap) : Prop :=
  bnd (ixSV 1 x6 x11) fun v99 =>
  bnd (ldE false 1 v99 H) fun v100 =>
  bnd (binV .bool .neq x13 v100) fun v101 =>
  brV v101
  (brV undef
  (bnd (ldE true 6 x12 H) fun v105 =>
  bnd (ixSV 6 x5 x11) fun v108 =>
  bnd (ldE true 6 v108 H) fun v109 =>
  bnd (binV (.agg [true, true, true, false, false, false]) .neq v105 v109) fun _ =>
  S x0 x3 x5 x6 x7 x8 x11 (.bool true) H)
  (S x0 x3 x5 x6 x7 x8 x11 (.bool true) H))
  (brV x13
  (bnd (ldE true 6 x12 H) fun v105_2 =>
  bnd (ixSV 6 x5 x11) fun v108_2 =>
  bnd (ldE true 6 v108_2 H) fun v109_2 =>
  bnd (binV (.agg [true, true, true, false, false, false]) .neq v105_2 v109_2) fun v110_2 =>
  S x0 x3 x5 x6 x7 x8 x11 v110_2 H)
  (S x0 x3 x5 x6 x7 x8 x11 (.bool false) H))
theorem sounderlaw06_SentSums_g165_e (S : Value → Value → Value → Value → Value → Value → Value → Value → Heap → Prop) (x : Nat → Value) (H : Heap) : wpE tab P sounderlaw06_SentSums_pi sounderlaw06_SentSums_c61 (nQ fun l H => S (l.getD 0 undef) (l.getD 3 undef) (l.getD 5 undef) (l.getD 6 undef) (l.getD 7 undef) (l.getD 8 undef) (l.getD 11 undef) (l.getD 112 undef) H) ((List.range 194).map x) H = sounderlaw06_SentSums_g165 S (x 0) (x 3) (x 5) (x 6) (x 7) (x 8) (x 11) (x 12) (x 13) H := by kernel_rfl
def sounderlaw06_SentSums_g166 (S : Value → Heap → Prop) (H : Heap) : Prop :=
  S (.bool false) H
theorem sounderlaw06_SentSums_g166_e (S : Value → Heap → Prop) (x : Nat → Value) (H : Heap) : wpE tab P sounderlaw06_SentSums_pi sounderlaw06_SentSums_c64 (nQ fun l H => S (l.getD 2 undef) H) ((List.range 194).map x) H = sounderlaw06_SentSums_g166 S  H := by kernel_rfl
def sounderlaw06_SentSums_g167 (S : Value → Value → Value → Value → Value → Value → Heap → Prop) (x0 x3 x5 x6 x7 x8 x11 : Value) (H : Heap) : Prop :=
  bnd (ixSV 1 x6 x11) fun v115 =>
  bnd (stE 1 v115 (.bool false) H) fun H1 =>
  S x0 x3 x5 x6 x7 x8 H1
theorem sounderlaw06_SentSums_g167_e (S : Value → Value → Value → Value → Value → Value → Heap → Prop) (x : Nat → Value) (H : Heap) : wpE tab P sounderlaw06_SentSums_pi sounderlaw06_SentSums_c65 (nQ fun l H => S (l.getD 0 undef) (l.getD 3 undef) (l.getD 5 undef) (l.getD 6 undef) (l.getD 7 undef) (l.getD 8 undef) H) ((List.range 194).map x) H = sounderlaw06_SentSums_g167 S (x 0) (x 3) (x 5) (x 6) (x 7) (x 8) (x 11) H := by kernel_rfl
def sounderlaw06_SentSums_g168 (S : Value → Heap → Prop) (H : Heap) : Prop :=
  S (.bool true) H
theorem sounderlaw06_SentSums_g168_e (S : Value → Heap → Prop) (x : Nat → Value) (H : Heap) : wpE tab P sounderlaw06_SentSums_pi sounderlaw06_SentSums_c110 (nQ fun l H => S (l.getD 2 undef) H) ((List.range 194).map x) H = sounderlaw06_SentSums_g168 S  H := by kernel_rfl
def sounderlaw06_SentSums_s121 (x0 x3 x5 x6 x7 x8 : Value) (K1 : Value → Value → Value → Value → Value → Value →  Heap → Prop) (R : Value → Heap → Prop) (H : Heap) : Prop :=
  sounderlaw06_SentSums_g122 (fun x0 x3 x5 x6 x7 x8 x35 H => brV x35
  (sounderlaw06_SentSums_g123 (fun x0 x3 x5 x6 x7 x8 x9 H => sounderlaw06_SentSums_g156 (fun x0 x3 x5 x6 x7 x8 x9 x45 H => brV x45
  (sounderlaw06_SentSums_g157 (fun x0 x3 x5 x6 x7 x8 x9 H => sounderlaw06_SentSums_g158 (fun x0 x3 x5 x6 x7 x8 x10 H => sounderlaw06_SentSums_g159 (fun x0 x3 x5 x6 x7 x8 x10 x70 H => brV x70
  (sounderlaw06_SentSums_g160 (fun x2 H => R x2 H) H)
  (sounderlaw06_SentSums_g161 (fun x0 x3 x5 x6 x7 x8 H => sounderlaw06_SentSums_s124 x0 x3 x5 x6 x7 x8 K1 R H) x0 x3 x5 x6 x7 x8 x10 H)) x0 x3 x5 x6 x7 x8 x10 H) x0 x3 x5 x6 x7 x8 x9 H) x0 x3 x5 x6 x7 x8 x9 H)
  (sounderlaw06_SentSums_g162 (fun x0 x3 x5 x6 x7 x8 x9 x80 H => brV x80
  (sounderlaw06_SentSums_g163 (fun x0 x3 x5 x6 x7 x8 x11 H => sounderlaw06_SentSums_g164 (fun x0 x3 x5 x6 x7 x8 x11 x12 x13 H => sounderlaw06_SentSums_g165 (fun x0 x3 x5 x6 x7 x8 x11 x112 H => brV x112
  (sounderlaw06_SentSums_g166 (fun x2 H => R x2 H) H)
  (sounderlaw06_SentSums_g167 (fun x0 x3 x5 x6 x7 x8 H => sounderlaw06_SentSums_s124 x0 x3 x5 x6 x7 x8 K1 R H) x0 x3 x5 x6 x7 x8 x11 H)) x0 x3 x5 x6 x7 x8 x11 x12 x13 H) x0 x3 x5 x6 x7 x8 x11 H) x0 x3 x5 x6 x7 x8 x9 H)
  (sounderlaw06_SentSums_s124 x0 x3 x5 x6 x7 x8 K1 R H)) x0 x3 x5 x6 x7 x8 x9 H)) x0 x3 x5 x6 x7 x8 x9 H) x0 x3 x5 x6 x7 x8 H)
  (sounderlaw06_SentSums_g168 (fun x2 H => R x2 H) H)) x0 x3 x5 x6 x7 x8 H
theorem sounderlaw06_SentSums_s121_i (K1 : Value → Value → Value → Value → Value → Value →  Heap → Prop) (R : Value → Heap → Prop) (l : List Value) (H : Heap) (hl : l.length = 194) (h : sounderlaw06_SentSums_s121 (l.getD 0 undef) (l.getD 3 undef) (l.getD 5 undef) (l.getD 6 undef) (l.getD 7 undef) (l.getD 8 undef) K1 R H) : wpE tab P sounderlaw06_SentSums_pi sounderlaw06_SentSums_c28 (sounderlaw06_SentSums_q134 K1 R) l H := by
  refine seqI (c := sounderlaw06_SentSums_c28) rfl ?_
  refine seqI (c := sounderlaw06_SentSums_c29) rfl ?_
  refine regI hl (Eq.mpr (sounderlaw06_SentSums_g122_e _ (fun i => l.getD i undef) _) h) ?_
  clear h hl
  intro l H hl h
  refine thenN ?_
  refine condI (c := sounderlaw06_SentSums_c31) rfl h ?_ ?_
  · clear h; intro h
    refine skipI rfl ?_
    refine thenN ?_
    refine seqI (c := sounderlaw06_SentSums_c33) rfl ?_
    refine blockI (c := sounderlaw06_SentSums_c34) rfl ?_
    refine seqI (c := sounderlaw06_SentSums_c35) rfl ?_
    refine regI hl (Eq.mpr (sounderlaw06_SentSums_g123_e _ (fun i => l.getD i undef) _) h) ?_
    clear h hl
    intro l H hl h
    refine thenN ?_
    refine seqI (c := sounderlaw06_SentSums_c37) rfl ?_
    refine seqI (c := sounderlaw06_SentSums_c38) rfl ?_
    refine regI hl (Eq.mpr (sounderlaw06_SentSums_g156_e _ (fun i => l.getD i undef) _) h) ?_
    clear h hl
    intro l H hl h
    refine thenN ?_
    refine condI (c := sounderlaw06_SentSums_c40) rfl h ?_ ?_
    · clear h; intro h
      refine seqI (c := sounderlaw06_SentSums_c41) rfl ?_
      refine regI hl (Eq.mpr (sounderlaw06_SentSums_g157_e _ (fun i => l.getD i undef) _) h) ?_
      clear h hl
      intro l H hl h
      refine thenN ?_
      refine seqI (c := sounderlaw06_SentSums_c43) rfl ?_
      refine regI hl (Eq.mpr (sounderlaw06_SentSums_g158_e _ (fun i => l.getD i undef) _) h) ?_
      clear h hl
      intro l H hl h
      refine thenN ?_
      refine seqI (c := sounderlaw06_SentSums_c45) rfl ?_
      refine seqI (c := sounderlaw06_SentSums_c46) rfl ?_
      refine regI hl (Eq.mpr (sounderlaw06_SentSums_g159_e _ (fun i => l.getD i undef) _) h) ?_
      clear h hl
      intro l H hl h
      refine thenN ?_
      refine condI (c := sounderlaw06_SentSums_c48) rfl h ?_ ?_
      · clear h; intro h
        refine seqI (c := sounderlaw06_SentSums_c49) rfl ?_
        refine regI hl (Eq.mpr (sounderlaw06_SentSums_g160_e _ (fun i => l.getD i undef) _) h) ?_
        clear h hl
        intro l H hl h
        refine thenN ?_
        refine retI rfl ?_
        refine thenR ?_
        refine thenR ?_
        refine blkR ?_
        refine thenR ?_
        refine thenR ?_
        refine blkR ?_
        refine thenR ?_
        exact h
      · clear h; intro h
        refine skipI rfl ?_
        refine thenN ?_
        refine regI hl (Eq.mpr (sounderlaw06_SentSums_g161_e _ (fun i => l.getD i undef) _) h) ?_
        clear h hl
        intro l H hl h
        refine thenN ?_
        exact sounderlaw06_SentSums_s124_i K1 R l H hl h
    · clear h; intro h
      refine seqI (c := sounderlaw06_SentSums_c52) rfl ?_
      refine regI hl (Eq.mpr (sounderlaw06_SentSums_g162_e _ (fun i => l.getD i undef) _) h) ?_
      clear h hl
      intro l H hl h
      refine thenN ?_
      refine condI (c := sounderlaw06_SentSums_c54) rfl h ?_ ?_
      · clear h; intro h
        refine seqI (c := sounderlaw06_SentSums_c55) rfl ?_
        refine regI hl (Eq.mpr (sounderlaw06_SentSums_g163_e _ (fun i => l.getD i undef) _) h) ?_
        clear h hl
        intro l H hl h
        refine thenN ?_
        refine seqI (c := sounderlaw06_SentSums_c57) rfl ?_
        refine regI hl (Eq.mpr (sounderlaw06_SentSums_g164_e _ (fun i => l.getD i undef) _) h) ?_
        clear h hl
        intro l H hl h
        refine thenN ?_
        refine seqI (c := sounderlaw06_SentSums_c59) rfl ?_
        refine seqI (c := sounderlaw06_SentSums_c60) rfl ?_
        refine regI hl (Eq.mpr (sounderlaw06_SentSums_g165_e _ (fun i => l.getD i undef) _) h) ?_
        clear h hl
        intro l H hl h
        refine thenN ?_
        refine condI (c := sounderlaw06_SentSums_c62) rfl h ?_ ?_
        · clear h; intro h
          refine seqI (c := sounderlaw06_SentSums_c63) rfl ?_
          refine regI hl (Eq.mpr (sounderlaw06_SentSums_g166_e _ (fun i => l.getD i undef) _) h) ?_
          clear h hl
          intro l H hl h
          refine thenN ?_
          refine retI rfl ?_
          refine thenR ?_
          refine thenR ?_
          refine blkR ?_
          refine thenR ?_
          refine thenR ?_
          refine blkR ?_
          refine thenR ?_
          exact h
        · clear h; intro h
          refine skipI rfl ?_
          refine thenN ?_
          refine regI hl (Eq.mpr (sounderlaw06_SentSums_g167_e _ (fun i => l.getD i undef) _) h) ?_
          clear h hl
          intro l H hl h
          refine thenN ?_
          exact sounderlaw06_SentSums_s124_i K1 R l H hl h
      · clear h; intro h
        refine skipI rfl ?_
        refine thenN ?_
        exact sounderlaw06_SentSums_s124_i K1 R l H hl h
  · clear h; intro h
    refine exitI (c := sounderlaw06_SentSums_c32) rfl ?_
    refine thenX ?_
    refine thenX ?_
    refine blkX ?_
    refine thenN ?_
    refine seqI (c := sounderlaw06_SentSums_c109) rfl ?_
    refine regI hl (Eq.mpr (sounderlaw06_SentSums_g168_e _ (fun i => l.getD i undef) _) h) ?_
    clear h hl
    intro l H hl h
    refine thenN ?_
    refine retI rfl ?_
    exact h
def sounderlaw06_SentSums_l169 (x0 x3 x5 x6 x7 x8 : Value) (R : Value → Heap → Prop) (H : Heap) : Prop :=
  ∃ (I : Value → Value → Value → Value → Heap → Prop) (μ : Value → Value → Value → Value → Heap → Nat), I x5 x6 x7 x8 H ∧ ∀ (y5 : Value) (y6 : Value) (y7 : Value) (y8 : Value) (H : Heap), I y5 y6 y7 y8 H → sounderlaw06_SentSums_s121 x0 x3 y5 y6 y7 y8 (fun z0 z3 z5 z6 z7 z8 H' => z0 = x0 ∧ z3 = x3 ∧ (I z5 z6 z7 z8 H' ∧ μ z5 z6 z7 z8 H' < μ y5 y6 y7 y8 H)) R H
def sounderlaw06_SentSums (x0 : Value) (R : Value → Heap → Prop) (H : Heap) : Prop :=
  sounderlaw06_SentSums_g111 (fun x0 H => sounderlaw06_SentSums_g112 (fun x0 x21 H => brV x21
  (sounderlaw06_SentSums_g113 (fun x2 H => R x2 H) H)
  (sounderlaw06_SentSums_g114 (fun x0 x3 x4 H => sounderlaw06_SentSums_g115 (fun x0 x3 x27 H => brV x27
  (sounderlaw06_SentSums_g116 (fun x2 H => R x2 H) H)
  (sounderlaw06_SentSums_g117 (fun x0 x3 x5 H => sounderlaw06_SentSums_g118 (fun x0 x3 x5 x6 H => sounderlaw06_SentSums_g119 (fun x0 x3 x5 x6 x7 H => sounderlaw06_SentSums_g120 (fun x0 x3 x5 x6 x7 x8 H => sounderlaw06_SentSums_l169 x0 x3 x5 x6 x7 x8 R H) x0 x3 x5 x6 x7 H) x0 x3 x5 x6 H) x0 x3 x5 H) x0 x3 H)) x0 x3 x4 H) x0 H)) x0 H) x0 H
theorem sounderlaw06_SentSums_i (R : Value → Heap → Prop) (x0 : Value) (H : Heap) (h : sounderlaw06_SentSums x0 R H) : wpE tab P sounderlaw06_SentSums_pi sounderlaw06_SentSums_c1 (retQ tab sounderlaw06_SentSums_rs R) [x0, undef, undef, undef, undef, undef, undef, undef, undef, undef, undef, undef, undef, undef, undef, undef, undef, undef, undef, undef, undef, undef, undef, undef, undef, undef, undef, undef, undef, undef, undef, undef, undef, undef, undef, undef, undef, undef, undef, undef, undef, undef, undef, undef, undef, undef, undef, undef, undef, undef, undef, undef, undef, undef, undef, undef, undef, undef, undef, undef, undef, undef, undef, undef, undef, undef, undef, undef, undef, undef, undef, undef, undef, undef, undef, undef, undef, undef, undef, undef, undef, undef, undef, undef, undef, undef, undef, undef, undef, undef, undef, undef, undef, undef, undef, undef, undef, undef, undef, undef, undef, undef, undef, undef, undef, undef, undef, undef, undef, undef, undef, undef, undef, undef, undef, undef, undef, undef, undef, undef, undef, undef, undef, undef, undef, undef, undef, undef, undef, undef, undef, undef, undef, undef, undef, undef, undef, undef, undef, undef, undef, undef, undef, undef, undef, undef, undef, undef, undef, undef, undef, undef, undef, undef, undef, undef, undef, undef, undef, undef, undef, undef, undef, undef, undef, undef, undef, undef, undef, undef, undef, undef, undef, undef, undef, undef, undef, undef, undef, undef, undef, undef, undef, undef, undef, undef, undef, undef, undef, undef, undef, undef, undef, undef] H := by
  obtain ⟨l, hl, el⟩ : ∃ l : List Value, l.length = 194 ∧ l = [x0, undef, undef, undef, undef, undef, undef, undef, undef, undef, undef, undef, undef, undef, undef, undef, undef, undef, undef, undef, undef, undef, undef, undef, undef, undef, undef, undef, undef, undef, undef, undef, undef, undef, undef, undef, undef, undef, undef, undef, undef, undef, undef, undef, undef, undef, undef, undef, undef, undef, undef, undef, undef, undef, undef, undef, undef, undef, undef, undef, undef, undef, undef, undef, undef, undef, undef, undef, undef, undef, undef, undef, undef, undef, undef, undef, undef, undef, undef, undef, undef, undef, undef, undef, undef, undef, undef, undef, undef, undef, undef, undef, undef, undef, undef, undef, undef, undef, undef, undef, undef, undef, undef, undef, undef, undef, undef, undef, undef, undef, undef, undef, undef, undef, undef, undef, undef, undef, undef, undef, undef, undef, undef, undef, undef, undef, undef, undef, undef, undef, undef, undef, undef, undef, undef, undef, undef, undef, undef, undef, undef, undef, undef, undef, undef, undef, undef, undef, undef, undef, undef, undef, undef, undef, undef, undef, undef, undef, undef, undef, undef, undef, undef, undef, undef, undef, undef, undef, undef, undef, undef, undef, undef, undef, undef, undef, undef, undef, undef, undef, undef, undef, undef, undef, undef, undef, undef, undef, undef, undef, undef, undef, undef, undef] := ⟨_, rfl, rfl⟩
  rw [← el]
  have h : (fun (x0 : Value) => sounderlaw06_SentSums_g111 (fun x0 H => sounderlaw06_SentSums_g112 (fun x0 x21 H => brV x21
(sounderlaw06_SentSums_g113 (fun x2 H => R x2 H) H)
(sounderlaw06_SentSums_g114 (fun x0 x3 x4 H => sounderlaw06_SentSums_g115 (fun x0 x3 x27 H => brV x27
(sounderlaw06_SentSums_g116 (fun x2 H => R x2 H) H)
(sounderlaw06_SentSums_g117 (fun x0 x3 x5 H => sounderlaw06_SentSums_g118 (fun x0 x3 x5 x6 H => sounderlaw06_SentSums_g119 (fun x0 x3 x5 x6 x7 H => sounderlaw06_SentSums_g120 (fun x0 x3 x5 x6 x7 x8 H => sounderlaw06_SentSums_l169 x0 x3 x5 x6 x7 x8 R H) x0 x3 x5 x6 x7 H) x0 x3 x5 x6 H) x0 x3 x5 H) x0 x3 H)) x0 x3 x4 H) x0 H)) x0 H) x0 H) (l.getD 0 undef) := by rw [el]; exact h
  clear el
  refine seqI (c := sounderlaw06_SentSums_c1) rfl ?_
  refine regI hl (Eq.mpr (sounderlaw06_SentSums_g111_e _ (fun i => l.getD i undef) _) h) ?_
  clear h hl
  intro l H hl h
  refine thenN ?_
  refine seqI (c := sounderlaw06_SentSums_c3) rfl ?_
  refine seqI (c := sounderlaw06_SentSums_c4) rfl ?_
  refine regI hl (Eq.mpr (sounderlaw06_SentSums_g112_e _ (fun i => l.getD i undef) _) h) ?_
  clear h hl
  intro l H hl h
  refine thenN ?_
  refine condI (c := sounderlaw06_SentSums_c6) rfl h ?_ ?_
  · clear h; intro h
    refine seqI (c := sounderlaw06_SentSums_c7) rfl ?_
    refine regI hl (Eq.mpr (sounderlaw06_SentSums_g113_e _ (fun i => l.getD i undef) _) h) ?_
    clear h hl
    intro l H hl h
    refine thenN ?_
    refine retI rfl ?_
    refine thenR ?_
    exact h
  · clear h; intro h
    refine skipI rfl ?_
    refine thenN ?_
    refine seqI (c := sounderlaw06_SentSums_c9) rfl ?_
    refine regI hl (Eq.mpr (sounderlaw06_SentSums_g114_e _ (fun i => l.getD i undef) _) h) ?_
    clear h hl
    intro l H hl h
    refine thenN ?_
    refine seqI (c := sounderlaw06_SentSums_c11) rfl ?_
    refine seqI (c := sounderlaw06_SentSums_c12) rfl ?_
    refine regI hl (Eq.mpr (sounderlaw06_SentSums_g115_e _ (fun i => l.getD i undef) _) h) ?_
    clear h hl
    intro l H hl h
    refine thenN ?_
    refine condI (c := sounderlaw06_SentSums_c14) rfl h ?_ ?_
    · clear h; intro h
      refine seqI (c := sounderlaw06_SentSums_c15) rfl ?_
      refine regI hl (Eq.mpr (sounderlaw06_SentSums_g116_e _ (fun i => l.getD i undef) _) h) ?_
      clear h hl
      intro l H hl h
      refine thenN ?_
      refine retI rfl ?_
      refine thenR ?_
      exact h
    · clear h; intro h
      refine skipI rfl ?_
      refine thenN ?_
      refine seqI (c := sounderlaw06_SentSums_c17) rfl ?_
      refine regI hl (Eq.mpr (sounderlaw06_SentSums_g117_e _ (fun i => l.getD i undef) _) h) ?_
      clear h hl
      intro l H hl h
      refine thenN ?_
      refine seqI (c := sounderlaw06_SentSums_c19) rfl ?_
      refine regI hl (Eq.mpr (sounderlaw06_SentSums_g118_e _ (fun i => l.getD i undef) _) h) ?_
      clear h hl
      intro l H hl h
      refine thenN ?_
      refine seqI (c := sounderlaw06_SentSums_c21) rfl ?_
      refine regI hl (Eq.mpr (sounderlaw06_SentSums_g119_e _ (fun i => l.getD i undef) _) h) ?_
      clear h hl
      intro l H hl h
      refine thenN ?_
      refine seqI (c := sounderlaw06_SentSums_c23) rfl ?_
      refine seqI (c := sounderlaw06_SentSums_c24) rfl ?_
      refine regI hl (Eq.mpr (sounderlaw06_SentSums_g120_e _ (fun i => l.getD i undef) _) h) ?_
      clear h hl
      intro l H hl h
      refine thenN ?_
      refine blockI (c := sounderlaw06_SentSums_c26) rfl ?_
      obtain ⟨I, μ, h0, hr⟩ := h
      refine loopI (c := sounderlaw06_SentSums_c27) rfl (fun l' H' => l'.getD 0 undef = l.getD 0 undef ∧ l'.getD 3 undef = l.getD 3 undef ∧ I (l'.getD 5 undef) (l'.getD 6 undef) (l'.getD 7 undef) (l'.getD 8 undef) H') (fun l' H' => μ (l'.getD 5 undef) (l'.getD 6 undef) (l'.getD 7 undef) (l'.getD 8 undef) H') hl ⟨rfl, rfl, h0⟩ ?_
      rintro l1 H1 hl1 ⟨e0, e3, hI⟩
      have hb := hr (l1.getD 5 undef) (l1.getD 6 undef) (l1.getD 7 undef) (l1.getD 8 undef) H1 hI
      rw [← e0, ← e3] at hb
      refine wpE_mono _ l1 H1 hl1 ?_ (sounderlaw06_SentSums_s121_i _ R l1 H1 hl1 hb)
      intro e l2 H2 hl2 hq
      cases e with
      | normal => exact fun _ => (by obtain ⟨d0, d3, g1, g2⟩ := hq; exact ⟨⟨d0.trans e0, d3.trans e3, g1⟩, g2⟩)
      | _ => exact hq
theorem sounderlaw06_SentSums_ok : okB sounderlaw06_SentSums_pi sounderlaw06_SentSums_c1 = true := by kernel_rfl
theorem sounderlaw06_SentSums_ev (x0 : Value) (R : Value → Heap → Prop) (H : Heap) (h : sounderlaw06_SentSums x0 R H) : EvF P N.sounderlaw06_SentSums #[x0] H R :=
  EvF_intro (args := [x0]) (k := 193) (rs := sounderlaw06_SentSums_rs) tab_ok mixed Try.func4 (show Try.f4.body = some sounderlaw06_SentSums_c1 by kernel_rfl) Try.call4 Try.ntmps4 (by kernel_rfl) (okCode_of _ sounderlaw06_SentSums_ok) rfl (sounderlaw06_SentSums_i R x0 H h)
end Go.Hc
