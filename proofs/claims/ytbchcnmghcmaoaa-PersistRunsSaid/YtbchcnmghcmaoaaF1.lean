/- Functions, printed by gen.py. -/
import Derived.Test.YtbchcnmghcmaoaaT
set_option linter.unusedSimpArgs false
set_option linter.unusedVariables false
set_option maxRecDepth 100000
namespace Go.Hc
open Go Go.Proofs
/- 7: sounder/sounderlaw10.PersistQuiet -/
def sounderlaw10_PersistQuiet_rs : List ResultVar := [.tmp 6]
noncomputable def sounderlaw10_PersistQuiet_c2 : Code := subC (bodyC Try.f7) [0]
noncomputable def sounderlaw10_PersistQuiet_c4 : Code := subC (bodyC Try.f7) [1, 0]
noncomputable def sounderlaw10_PersistQuiet_c6 : Code := subC (bodyC Try.f7) [1, 1, 0]
noncomputable def sounderlaw10_PersistQuiet_c8 : Code := subC (bodyC Try.f7) [1, 1, 1, 0]
noncomputable def sounderlaw10_PersistQuiet_c11 : Code := subC (bodyC Try.f7) [1, 1, 1, 1, 0, 0]
noncomputable def sounderlaw10_PersistQuiet_c16 : Code := subC (bodyC Try.f7) [1, 1, 1, 1, 0, 1, 0, 0, 0, 0]
noncomputable def sounderlaw10_PersistQuiet_c18 : Code := .exit 0
noncomputable def sounderlaw10_PersistQuiet_c17 : Code := .cond (.tmp 32) Code.skip sounderlaw10_PersistQuiet_c18
noncomputable def sounderlaw10_PersistQuiet_c15 : Code := .seq sounderlaw10_PersistQuiet_c16 sounderlaw10_PersistQuiet_c17
noncomputable def sounderlaw10_PersistQuiet_c22 : Code := subC (bodyC Try.f7) [1, 1, 1, 1, 0, 1, 0, 0, 1, 0, 0, 0]
noncomputable def sounderlaw10_PersistQuiet_c24 : Code := subC (bodyC Try.f7) [1, 1, 1, 1, 0, 1, 0, 0, 1, 0, 0, 1, 0]
noncomputable def sounderlaw10_PersistQuiet_c23 : Code := .cond (.tmp 39) sounderlaw10_PersistQuiet_c24 Code.skip
noncomputable def sounderlaw10_PersistQuiet_c21 : Code := .seq sounderlaw10_PersistQuiet_c22 sounderlaw10_PersistQuiet_c23
noncomputable def sounderlaw10_PersistQuiet_c20 : Code := .block 1 sounderlaw10_PersistQuiet_c21
noncomputable def sounderlaw10_PersistQuiet_c25 : Code := subC (bodyC Try.f7) [1, 1, 1, 1, 0, 1, 0, 0, 1, 1]
noncomputable def sounderlaw10_PersistQuiet_c19 : Code := .seq sounderlaw10_PersistQuiet_c20 sounderlaw10_PersistQuiet_c25
noncomputable def sounderlaw10_PersistQuiet_c14 : Code := .seq sounderlaw10_PersistQuiet_c15 sounderlaw10_PersistQuiet_c19
noncomputable def sounderlaw10_PersistQuiet_c13 : Code := .loop sounderlaw10_PersistQuiet_c14
noncomputable def sounderlaw10_PersistQuiet_c12 : Code := .block 0 sounderlaw10_PersistQuiet_c13
noncomputable def sounderlaw10_PersistQuiet_c10 : Code := .seq sounderlaw10_PersistQuiet_c11 sounderlaw10_PersistQuiet_c12
noncomputable def sounderlaw10_PersistQuiet_c27 : Code := subC (bodyC Try.f7) [1, 1, 1, 1, 1, 0]
noncomputable def sounderlaw10_PersistQuiet_c29 : Code := subC (bodyC Try.f7) [1, 1, 1, 1, 1, 1, 0]
noncomputable def sounderlaw10_PersistQuiet_c32 : Code := subC (bodyC Try.f7) [1, 1, 1, 1, 1, 1, 1, 0, 0]
noncomputable def sounderlaw10_PersistQuiet_c35 : Code := subC (bodyC Try.f7) [1, 1, 1, 1, 1, 1, 1, 0, 1, 0, 0]
noncomputable def sounderlaw10_PersistQuiet_c34 : Code := .seq sounderlaw10_PersistQuiet_c35 Code.ret
noncomputable def sounderlaw10_PersistQuiet_c33 : Code := .cond (.tmp 82) sounderlaw10_PersistQuiet_c34 Code.skip
noncomputable def sounderlaw10_PersistQuiet_c31 : Code := .seq sounderlaw10_PersistQuiet_c32 sounderlaw10_PersistQuiet_c33
noncomputable def sounderlaw10_PersistQuiet_c38 : Code := subC (bodyC Try.f7) [1, 1, 1, 1, 1, 1, 1, 1, 0, 0]
noncomputable def sounderlaw10_PersistQuiet_c41 : Code := subC (bodyC Try.f7) [1, 1, 1, 1, 1, 1, 1, 1, 0, 1, 0, 0]
noncomputable def sounderlaw10_PersistQuiet_c40 : Code := .seq sounderlaw10_PersistQuiet_c41 Code.ret
noncomputable def sounderlaw10_PersistQuiet_c39 : Code := .cond (.tmp 84) sounderlaw10_PersistQuiet_c40 Code.skip
noncomputable def sounderlaw10_PersistQuiet_c37 : Code := .seq sounderlaw10_PersistQuiet_c38 sounderlaw10_PersistQuiet_c39
noncomputable def sounderlaw10_PersistQuiet_c44 : Code := subC (bodyC Try.f7) [1, 1, 1, 1, 1, 1, 1, 1, 1, 0, 0]
noncomputable def sounderlaw10_PersistQuiet_c49 : Code := subC (bodyC Try.f7) [1, 1, 1, 1, 1, 1, 1, 1, 1, 0, 1, 0, 0, 0, 0]
noncomputable def sounderlaw10_PersistQuiet_c51 : Code := .exit 2
noncomputable def sounderlaw10_PersistQuiet_c50 : Code := .cond (.tmp 90) Code.skip sounderlaw10_PersistQuiet_c51
noncomputable def sounderlaw10_PersistQuiet_c48 : Code := .seq sounderlaw10_PersistQuiet_c49 sounderlaw10_PersistQuiet_c50
noncomputable def sounderlaw10_PersistQuiet_c55 : Code := subC (bodyC Try.f7) [1, 1, 1, 1, 1, 1, 1, 1, 1, 0, 1, 0, 0, 1, 0, 0, 0]
noncomputable def sounderlaw10_PersistQuiet_c58 : Code := subC (bodyC Try.f7) [1, 1, 1, 1, 1, 1, 1, 1, 1, 0, 1, 0, 0, 1, 0, 0, 1, 0, 0]
noncomputable def sounderlaw10_PersistQuiet_c57 : Code := .seq sounderlaw10_PersistQuiet_c58 Code.ret
noncomputable def sounderlaw10_PersistQuiet_c56 : Code := .cond (.tmp 95) sounderlaw10_PersistQuiet_c57 Code.skip
noncomputable def sounderlaw10_PersistQuiet_c54 : Code := .seq sounderlaw10_PersistQuiet_c55 sounderlaw10_PersistQuiet_c56
noncomputable def sounderlaw10_PersistQuiet_c53 : Code := .block 3 sounderlaw10_PersistQuiet_c54
noncomputable def sounderlaw10_PersistQuiet_c59 : Code := subC (bodyC Try.f7) [1, 1, 1, 1, 1, 1, 1, 1, 1, 0, 1, 0, 0, 1, 1]
noncomputable def sounderlaw10_PersistQuiet_c52 : Code := .seq sounderlaw10_PersistQuiet_c53 sounderlaw10_PersistQuiet_c59
noncomputable def sounderlaw10_PersistQuiet_c47 : Code := .seq sounderlaw10_PersistQuiet_c48 sounderlaw10_PersistQuiet_c52
noncomputable def sounderlaw10_PersistQuiet_c46 : Code := .loop sounderlaw10_PersistQuiet_c47
noncomputable def sounderlaw10_PersistQuiet_c45 : Code := .block 2 sounderlaw10_PersistQuiet_c46
noncomputable def sounderlaw10_PersistQuiet_c43 : Code := .seq sounderlaw10_PersistQuiet_c44 sounderlaw10_PersistQuiet_c45
noncomputable def sounderlaw10_PersistQuiet_c61 : Code := subC (bodyC Try.f7) [1, 1, 1, 1, 1, 1, 1, 1, 1, 1, 0]
noncomputable def sounderlaw10_PersistQuiet_c64 : Code := subC (bodyC Try.f7) [1, 1, 1, 1, 1, 1, 1, 1, 1, 1, 1, 0, 0]
noncomputable def sounderlaw10_PersistQuiet_c69 : Code := subC (bodyC Try.f7) [1, 1, 1, 1, 1, 1, 1, 1, 1, 1, 1, 0, 1, 0, 0, 0, 0]
noncomputable def sounderlaw10_PersistQuiet_c71 : Code := .exit 4
noncomputable def sounderlaw10_PersistQuiet_c70 : Code := .cond (.tmp 99) Code.skip sounderlaw10_PersistQuiet_c71
noncomputable def sounderlaw10_PersistQuiet_c68 : Code := .seq sounderlaw10_PersistQuiet_c69 sounderlaw10_PersistQuiet_c70
noncomputable def sounderlaw10_PersistQuiet_c76 : Code := subC (bodyC Try.f7) [1, 1, 1, 1, 1, 1, 1, 1, 1, 1, 1, 0, 1, 0, 0, 1, 0, 0, 0, 0]
noncomputable def sounderlaw10_PersistQuiet_c78 : Code := subC (bodyC Try.f7) [1, 1, 1, 1, 1, 1, 1, 1, 1, 1, 1, 0, 1, 0, 0, 1, 0, 0, 0, 1, 0]
noncomputable def sounderlaw10_PersistQuiet_c77 : Code := .cond (.tmp 108) sounderlaw10_PersistQuiet_c78 Code.skip
noncomputable def sounderlaw10_PersistQuiet_c75 : Code := .seq sounderlaw10_PersistQuiet_c76 sounderlaw10_PersistQuiet_c77
noncomputable def sounderlaw10_PersistQuiet_c80 : Code := subC (bodyC Try.f7) [1, 1, 1, 1, 1, 1, 1, 1, 1, 1, 1, 0, 1, 0, 0, 1, 0, 0, 1, 0]
noncomputable def sounderlaw10_PersistQuiet_c82 : Code := subC (bodyC Try.f7) [1, 1, 1, 1, 1, 1, 1, 1, 1, 1, 1, 0, 1, 0, 0, 1, 0, 0, 1, 1, 0]
noncomputable def sounderlaw10_PersistQuiet_c81 : Code := .cond (.tmp 120) sounderlaw10_PersistQuiet_c82 Code.skip
noncomputable def sounderlaw10_PersistQuiet_c79 : Code := .seq sounderlaw10_PersistQuiet_c80 sounderlaw10_PersistQuiet_c81
noncomputable def sounderlaw10_PersistQuiet_c74 : Code := .seq sounderlaw10_PersistQuiet_c75 sounderlaw10_PersistQuiet_c79
noncomputable def sounderlaw10_PersistQuiet_c73 : Code := .block 5 sounderlaw10_PersistQuiet_c74
noncomputable def sounderlaw10_PersistQuiet_c83 : Code := subC (bodyC Try.f7) [1, 1, 1, 1, 1, 1, 1, 1, 1, 1, 1, 0, 1, 0, 0, 1, 1]
noncomputable def sounderlaw10_PersistQuiet_c72 : Code := .seq sounderlaw10_PersistQuiet_c73 sounderlaw10_PersistQuiet_c83
noncomputable def sounderlaw10_PersistQuiet_c67 : Code := .seq sounderlaw10_PersistQuiet_c68 sounderlaw10_PersistQuiet_c72
noncomputable def sounderlaw10_PersistQuiet_c66 : Code := .loop sounderlaw10_PersistQuiet_c67
noncomputable def sounderlaw10_PersistQuiet_c65 : Code := .block 4 sounderlaw10_PersistQuiet_c66
noncomputable def sounderlaw10_PersistQuiet_c63 : Code := .seq sounderlaw10_PersistQuiet_c64 sounderlaw10_PersistQuiet_c65
noncomputable def sounderlaw10_PersistQuiet_c85 : Code := subC (bodyC Try.f7) [1, 1, 1, 1, 1, 1, 1, 1, 1, 1, 1, 1, 0]
noncomputable def sounderlaw10_PersistQuiet_c84 : Code := .seq sounderlaw10_PersistQuiet_c85 Code.ret
noncomputable def sounderlaw10_PersistQuiet_c62 : Code := .seq sounderlaw10_PersistQuiet_c63 sounderlaw10_PersistQuiet_c84
noncomputable def sounderlaw10_PersistQuiet_c60 : Code := .seq sounderlaw10_PersistQuiet_c61 sounderlaw10_PersistQuiet_c62
noncomputable def sounderlaw10_PersistQuiet_c42 : Code := .seq sounderlaw10_PersistQuiet_c43 sounderlaw10_PersistQuiet_c60
noncomputable def sounderlaw10_PersistQuiet_c36 : Code := .seq sounderlaw10_PersistQuiet_c37 sounderlaw10_PersistQuiet_c42
noncomputable def sounderlaw10_PersistQuiet_c30 : Code := .seq sounderlaw10_PersistQuiet_c31 sounderlaw10_PersistQuiet_c36
noncomputable def sounderlaw10_PersistQuiet_c28 : Code := .seq sounderlaw10_PersistQuiet_c29 sounderlaw10_PersistQuiet_c30
noncomputable def sounderlaw10_PersistQuiet_c26 : Code := .seq sounderlaw10_PersistQuiet_c27 sounderlaw10_PersistQuiet_c28
noncomputable def sounderlaw10_PersistQuiet_c9 : Code := .seq sounderlaw10_PersistQuiet_c10 sounderlaw10_PersistQuiet_c26
noncomputable def sounderlaw10_PersistQuiet_c7 : Code := .seq sounderlaw10_PersistQuiet_c8 sounderlaw10_PersistQuiet_c9
noncomputable def sounderlaw10_PersistQuiet_c5 : Code := .seq sounderlaw10_PersistQuiet_c6 sounderlaw10_PersistQuiet_c7
noncomputable def sounderlaw10_PersistQuiet_c3 : Code := .seq sounderlaw10_PersistQuiet_c4 sounderlaw10_PersistQuiet_c5
noncomputable def sounderlaw10_PersistQuiet_c1 : Code := .seq sounderlaw10_PersistQuiet_c2 sounderlaw10_PersistQuiet_c3
def sounderlaw10_PersistQuiet_pi (_ : Nat) : Pl := .nil
def sounderlaw10_PersistQuiet_g86 (S : Value → Value → Value → Heap → Prop) (x0 x1 x2 : Value) (H : Heap) : Prop :=
  S x0 x1 x2 H
theorem sounderlaw10_PersistQuiet_g86_e (S : Value → Value → Value → Heap → Prop) (x : Nat → Value) (H : Heap) : wpE tab P sounderlaw10_PersistQuiet_pi sounderlaw10_PersistQuiet_c2 (nQ fun l H => S (l.getD 0 undef) (l.getD 1 undef) (l.getD 2 undef) H) ((List.range 139).map x) H = sounderlaw10_PersistQuiet_g86 S (x 0) (x 1) (x 2) H := by kernel_rfl
def sounderlaw10_PersistQuiet_g87 (S : Value → Value → Value → Heap → Prop) (x0 x1 x2 : Value) (H : Heap) : Prop :=
  EvF P N.sounderlaw10_made #[x0] H fun v24 H1 =>
  EvF P N.sounderlaw10_marks #[x1] H1 fun v26 H2 =>
  S x2 v24 v26 H2
theorem sounderlaw10_PersistQuiet_g87_e (S : Value → Value → Value → Heap → Prop) (x : Nat → Value) (H : Heap) : wpE tab P sounderlaw10_PersistQuiet_pi sounderlaw10_PersistQuiet_c4 (nQ fun l H => S (l.getD 2 undef) (l.getD 7 undef) (l.getD 8 undef) H) ((List.range 139).map x) H = sounderlaw10_PersistQuiet_g87 S (x 0) (x 1) (x 2) H := by kernel_rfl
def sounderlaw10_PersistQuiet_g88 (S : Value → Value → Value → Heap → Prop) (x2 x7 x8 : Value) (H : Heap) : Prop :=
  EvF P N.sounderref00_Bring #[x2, (.int .i64 34359738368)] H fun v28 H1 =>
  S v28 x7 x8 H1
theorem sounderlaw10_PersistQuiet_g88_e (S : Value → Value → Value → Heap → Prop) (x : Nat → Value) (H : Heap) : wpE tab P sounderlaw10_PersistQuiet_pi sounderlaw10_PersistQuiet_c6 (nQ fun l H => S (l.getD 2 undef) (l.getD 7 undef) (l.getD 8 undef) H) ((List.range 139).map x) H = sounderlaw10_PersistQuiet_g88 S (x 2) (x 7) (x 8) H := by kernel_rfl
def sounderlaw10_PersistQuiet_g89 (S : Value → Value → Value → Value → Heap → Prop) (x2 x7 x8 : Value) (H : Heap) : Prop :=
  S x2 x7 x8 (.slice none 0 0) H
theorem sounderlaw10_PersistQuiet_g89_e (S : Value → Value → Value → Value → Heap → Prop) (x : Nat → Value) (H : Heap) : wpE tab P sounderlaw10_PersistQuiet_pi sounderlaw10_PersistQuiet_c8 (nQ fun l H => S (l.getD 2 undef) (l.getD 7 undef) (l.getD 8 undef) (l.getD 9 undef) H) ((List.range 139).map x) H = sounderlaw10_PersistQuiet_g89 S (x 2) (x 7) (x 8) H := by kernel_rfl
def sounderlaw10_PersistQuiet_g90 (S : Value → Value → Value → Value → Value → Heap → Prop) (x2 x7 x8 x9 : Value) (H : Heap) : Prop :=
  S x2 x7 x8 x9 (.int .i64 0) H
theorem sounderlaw10_PersistQuiet_g90_e (S : Value → Value → Value → Value → Value → Heap → Prop) (x : Nat → Value) (H : Heap) : wpE tab P sounderlaw10_PersistQuiet_pi sounderlaw10_PersistQuiet_c11 (nQ fun l H => S (l.getD 2 undef) (l.getD 7 undef) (l.getD 8 undef) (l.getD 9 undef) (l.getD 10 undef) H) ((List.range 139).map x) H = sounderlaw10_PersistQuiet_g90 S (x 2) (x 7) (x 8) (x 9) H := by kernel_rfl
def sounderlaw10_PersistQuiet_g92 (S : Value → Value → Value → Value → Value → Value → Heap → Prop) (x2 x7 x8 x9 x10 : Value) (H : Heap) : Prop :=
  bnd (lenV x7) fun v31 =>
  bnd (binV .int .lss x10 v31) fun v32 =>
  S x2 x7 x8 x9 x10 v32 H
theorem sounderlaw10_PersistQuiet_g92_e (S : Value → Value → Value → Value → Value → Value → Heap → Prop) (x : Nat → Value) (H : Heap) : wpE tab P sounderlaw10_PersistQuiet_pi sounderlaw10_PersistQuiet_c16 (nQ fun l H => S (l.getD 2 undef) (l.getD 7 undef) (l.getD 8 undef) (l.getD 9 undef) (l.getD 10 undef) (l.getD 32 undef) H) ((List.range 139).map x) H = sounderlaw10_PersistQuiet_g92 S (x 2) (x 7) (x 8) (x 9) (x 10) H := by kernel_rfl
def sounderlaw10_PersistQuiet_g94 (S : Value → Value → Value → Value → Value → Heap → Prop) (x2 x7 x8 x9 x10 : Value) (H : Heap) : Prop :=
  bnd (binV .int .add x10 (.int .i64 1)) fun v34 =>
  S x2 x7 x8 x9 v34 H
theorem sounderlaw10_PersistQuiet_g94_e (S : Value → Value → Value → Value → Value → Heap → Prop) (x : Nat → Value) (H : Heap) : wpE tab P sounderlaw10_PersistQuiet_pi sounderlaw10_PersistQuiet_c25 (nQ fun l H => S (l.getD 2 undef) (l.getD 7 undef) (l.getD 8 undef) (l.getD 9 undef) (l.getD 10 undef) H) ((List.range 139).map x) H = sounderlaw10_PersistQuiet_g94 S (x 2) (x 7) (x 8) (x 9) (x 10) H := by kernel_rfl
def sounderlaw10_PersistQuiet_s93 (x2 x7 x8 x9 x10 : Value) (K1 : Value → Value → Value → Value → Value →  Heap → Prop) (_R : Value → Heap → Prop) (H : Heap) : Prop :=
  sounderlaw10_PersistQuiet_g94 (fun x2 x7 x8 x9 x10 H => K1 x2 x7 x8 x9 x10 H) x2 x7 x8 x9 x10 H
noncomputable def sounderlaw10_PersistQuiet_q95 (R : Value → Heap → Prop) : Exit → List Value → Heap → Prop := (retQ tab sounderlaw10_PersistQuiet_rs R)
noncomputable def sounderlaw10_PersistQuiet_q96 (R : Value → Heap → Prop) : Exit → List Value → Heap → Prop := (thenE (fun l H => wpE tab P sounderlaw10_PersistQuiet_pi sounderlaw10_PersistQuiet_c26 (sounderlaw10_PersistQuiet_q95 R) l H) (sounderlaw10_PersistQuiet_q95 R))
noncomputable def sounderlaw10_PersistQuiet_q97 (R : Value → Heap → Prop) : Exit → List Value → Heap → Prop := (blkE 0 (sounderlaw10_PersistQuiet_q96 R))
noncomputable def sounderlaw10_PersistQuiet_q98 (K1 : Value → Value → Value → Value → Value →  Heap → Prop) (R : Value → Heap → Prop) : Exit → List Value → Heap → Prop := (thenE (fun l H => K1 (l.getD 2 undef) (l.getD 7 undef) (l.getD 8 undef) (l.getD 9 undef) (l.getD 10 undef) H) (sounderlaw10_PersistQuiet_q97 R))
theorem sounderlaw10_PersistQuiet_s93_i (K1 : Value → Value → Value → Value → Value →  Heap → Prop) (R : Value → Heap → Prop) (l : List Value) (H : Heap) (hl : l.length = 139) (h : sounderlaw10_PersistQuiet_s93 (l.getD 2 undef) (l.getD 7 undef) (l.getD 8 undef) (l.getD 9 undef) (l.getD 10 undef) K1 R H) : wpE tab P sounderlaw10_PersistQuiet_pi sounderlaw10_PersistQuiet_c25 (sounderlaw10_PersistQuiet_q98 K1 R) l H := by
  refine regI hl (Eq.mpr (sounderlaw10_PersistQuiet_g94_e _ (fun i => l.getD i undef) _) h) ?_
  clear h hl
  intro l H hl h
  refine thenN ?_
  exact h
def sounderlaw10_PersistQuiet_g99 (S : Value → Value → Value → Value → Value → Value → Heap → Prop) (x2 x7 x8 x9 x10 : Value) (H : Heap) : Prop :=
  bnd (ixSV 6 x7 x10) fun v37 =>
  bnd (faV 3 v37) fun v38 =>
  bnd (ldE false 1 v38 H) fun v39 =>
  S x2 x7 x8 x9 x10 v39 H
theorem sounderlaw10_PersistQuiet_g99_e (S : Value → Value → Value → Value → Value → Value → Heap → Prop) (x : Nat → Value) (H : Heap) : wpE tab P sounderlaw10_PersistQuiet_pi sounderlaw10_PersistQuiet_c22 (nQ fun l H => S (l.getD 2 undef) (l.getD 7 undef) (l.getD 8 undef) (l.getD 9 undef) (l.getD 10 undef) (l.getD 39 undef) H) ((List.range 139).map x) H = sounderlaw10_PersistQuiet_g99 S (x 2) (x 7) (x 8) (x 9) (x 10) H := by kernel_rfl
def sounderlaw10_PersistQuiet_g100 (S : Value → Value → Value → Value → Value → Heap → Prop) (x2 x7 x8 x9 x10 : Value) (H : Heap) : Prop :=
  bnd (ixSV 6 x7 x10) fun v43 =>
  bnd (ldE true 6 v43 H) fun v44 =>
  bslE 38 #[(.int .i64 0), (.int .i64 0), (.int .i64 0), (.bool false), (.bool false), (.bool false)] 6 1 [(0, v44)] H fun v45 H1 =>
  appE 38 #[(.int .i64 0), (.int .i64 0), (.int .i64 0), (.bool false), (.bool false), (.bool false)] 6 32 x9 v45 H1 fun v46 H2 =>
  S x2 x7 x8 v46 x10 H2
theorem sounderlaw10_PersistQuiet_g100_e (S : Value → Value → Value → Value → Value → Heap → Prop) (x : Nat → Value) (H : Heap) : wpE tab P sounderlaw10_PersistQuiet_pi sounderlaw10_PersistQuiet_c24 (nQ fun l H => S (l.getD 2 undef) (l.getD 7 undef) (l.getD 8 undef) (l.getD 9 undef) (l.getD 10 undef) H) ((List.range 139).map x) H = sounderlaw10_PersistQuiet_g100 S (x 2) (x 7) (x 8) (x 9) (x 10) H := by kernel_rfl
def sounderlaw10_PersistQuiet_g101 (S : Value → Value → Value → Value → Value → Value → Value → Heap → Prop) (x2 x7 x8 x9 : Value) (H : Heap) : Prop :=
  EvF P N.persist_Period #[x7, x8, x2] H fun v51 H1 =>
  bnd (exV 0 v51) fun v52 =>
  bnd (exV 1 v51) fun v53 =>
  bnd (exV 2 v51) fun v54 =>
  bnd (exV 3 v51) fun v55 =>
  S x2 x8 x9 v52 v53 v54 v55 H1
theorem sounderlaw10_PersistQuiet_g101_e (S : Value → Value → Value → Value → Value → Value → Value → Heap → Prop) (x : Nat → Value) (H : Heap) : wpE tab P sounderlaw10_PersistQuiet_pi sounderlaw10_PersistQuiet_c27 (nQ fun l H => S (l.getD 2 undef) (l.getD 8 undef) (l.getD 9 undef) (l.getD 11 undef) (l.getD 12 undef) (l.getD 13 undef) (l.getD 14 undef) H) ((List.range 139).map x) H = sounderlaw10_PersistQuiet_g101 S (x 2) (x 7) (x 8) (x 9) H := by kernel_rfl
def sounderlaw10_PersistQuiet_g102 (S : Value → Value → Value → Value → Value → Value → Value → Value → Value → Value → Value → Heap → Prop) (x2 x8 x9 x11 x12 x13 x14 : Value) (H : Heap) : Prop :=
  EvF P N.persist_Period #[x9, x8, x2] H fun v60 H1 =>
  bnd (exV 0 v60) fun v61 =>
  bnd (exV 1 v60) fun v62 =>
  bnd (exV 2 v60) fun v63 =>
  bnd (exV 3 v60) fun v64 =>
  S x2 x8 x9 x11 x12 x13 x14 v61 v62 v63 v64 H1
theorem sounderlaw10_PersistQuiet_g102_e (S : Value → Value → Value → Value → Value → Value → Value → Value → Value → Value → Value → Heap → Prop) (x : Nat → Value) (H : Heap) : wpE tab P sounderlaw10_PersistQuiet_pi sounderlaw10_PersistQuiet_c29 (nQ fun l H => S (l.getD 2 undef) (l.getD 8 undef) (l.getD 9 undef) (l.getD 11 undef) (l.getD 12 undef) (l.getD 13 undef) (l.getD 14 undef) (l.getD 15 undef) (l.getD 16 undef) (l.getD 17 undef) (l.getD 18 undef) H) ((List.range 139).map x) H = sounderlaw10_PersistQuiet_g102 S (x 2) (x 8) (x 9) (x 11) (x 12) (x 13) (x 14) H := by kernel_rfl
def sounderlaw10_PersistQuiet_g103 (S : Value → Value → Value → Value → Value → Value → Value → Value → Heap → Prop) (x2 x8 x9 x11 x12 x13 x14 x15 x16 x17 x18 : Value) (H : Heap) : Prop :=
  bnd (binV .int .neq x11 x15) fun v67 =>
  brV v67
  (S x2 x8 x9 x11 x12 x13 x14 (.bool true) H)
  (bnd (binV .int .neq x12 x16) fun v71 =>
  brV v71
  (S x2 x8 x9 x11 x12 x13 x14 (.bool true) H)
  (bnd (binV .int .neq x13 x17) fun v76 =>
  brV v76
  (S x2 x8 x9 x11 x12 x13 x14 (.bool true) H)
  (bnd (binV .bool .neq x14 x18) fun v81 =>
  S x2 x8 x9 x11 x12 x13 x14 v81 H)))
theorem sounderlaw10_PersistQuiet_g103_e (S : Value → Value → Value → Value → Value → Value → Value → Value → Heap → Prop) (x : Nat → Value) (H : Heap) : wpE tab P sounderlaw10_PersistQuiet_pi sounderlaw10_PersistQuiet_c32 (nQ fun l H => S (l.getD 2 undef) (l.getD 8 undef) (l.getD 9 undef) (l.getD 11 undef) (l.getD 12 undef) (l.getD 13 undef) (l.getD 14 undef) (l.getD 82 undef) H) ((List.range 139).map x) H = sounderlaw10_PersistQuiet_g103 S (x 2) (x 8) (x 9) (x 11) (x 12) (x 13) (x 14) (x 15) (x 16) (x 17) (x 18) H := by kernel_rfl
def sounderlaw10_PersistQuiet_g104 (S : Value → Heap → Prop) (H : Heap) : Prop :=
  S (.bool false) H
theorem sounderlaw10_PersistQuiet_g104_e (S : Value → Heap → Prop) (x : Nat → Value) (H : Heap) : wpE tab P sounderlaw10_PersistQuiet_pi sounderlaw10_PersistQuiet_c35 (nQ fun l H => S (l.getD 6 undef) H) ((List.range 139).map x) H = sounderlaw10_PersistQuiet_g104 S  H := by kernel_rfl
def sounderlaw10_PersistQuiet_g105 (S : Value → Value → Value → Value → Value → Value → Value → Heap → Prop) (x2 x8 x9 x11 x12 x13 x14 : Value) (H : Heap) : Prop :=
  bnd (unV .not x14) fun v84 =>
  S x2 x8 x9 x11 x12 x13 v84 H
theorem sounderlaw10_PersistQuiet_g105_e (S : Value → Value → Value → Value → Value → Value → Value → Heap → Prop) (x : Nat → Value) (H : Heap) : wpE tab P sounderlaw10_PersistQuiet_pi sounderlaw10_PersistQuiet_c38 (nQ fun l H => S (l.getD 2 undef) (l.getD 8 undef) (l.getD 9 undef) (l.getD 11 undef) (l.getD 12 undef) (l.getD 13 undef) (l.getD 84 undef) H) ((List.range 139).map x) H = sounderlaw10_PersistQuiet_g105 S (x 2) (x 8) (x 9) (x 11) (x 12) (x 13) (x 14) H := by kernel_rfl
def sounderlaw10_PersistQuiet_g106 (S : Value → Heap → Prop) (H : Heap) : Prop :=
  EvF P N.sounderlaw10_works #[] H fun v85 H1 =>
  S v85 H1
theorem sounderlaw10_PersistQuiet_g106_e (S : Value → Heap → Prop) (x : Nat → Value) (H : Heap) : wpE tab P sounderlaw10_PersistQuiet_pi sounderlaw10_PersistQuiet_c41 (nQ fun l H => S (l.getD 6 undef) H) ((List.range 139).map x) H = sounderlaw10_PersistQuiet_g106 S  H := by kernel_rfl
def sounderlaw10_PersistQuiet_g107 (S : Value → Value → Value → Value → Value → Value → Value → Heap → Prop) (x2 x8 x9 x11 x12 x13 : Value) (H : Heap) : Prop :=
  bnd (binV .int .add x12 (.int .i64 1)) fun v87 =>
  S x2 x8 x9 x11 x12 x13 v87 H
theorem sounderlaw10_PersistQuiet_g107_e (S : Value → Value → Value → Value → Value → Value → Value → Heap → Prop) (x : Nat → Value) (H : Heap) : wpE tab P sounderlaw10_PersistQuiet_pi sounderlaw10_PersistQuiet_c44 (nQ fun l H => S (l.getD 2 undef) (l.getD 8 undef) (l.getD 9 undef) (l.getD 11 undef) (l.getD 12 undef) (l.getD 13 undef) (l.getD 19 undef) H) ((List.range 139).map x) H = sounderlaw10_PersistQuiet_g107 S (x 2) (x 8) (x 9) (x 11) (x 12) (x 13) H := by kernel_rfl
def sounderlaw10_PersistQuiet_g109 (S : Value → Value → Value → Value → Value → Value → Value → Value → Heap → Prop) (x2 x8 x9 x11 x12 x13 x19 : Value) (H : Heap) : Prop :=
  bnd (binV .int .lss x19 x13) fun v90 =>
  S x2 x8 x9 x11 x12 x13 x19 v90 H
theorem sounderlaw10_PersistQuiet_g109_e (S : Value → Value → Value → Value → Value → Value → Value → Value → Heap → Prop) (x : Nat → Value) (H : Heap) : wpE tab P sounderlaw10_PersistQuiet_pi sounderlaw10_PersistQuiet_c49 (nQ fun l H => S (l.getD 2 undef) (l.getD 8 undef) (l.getD 9 undef) (l.getD 11 undef) (l.getD 12 undef) (l.getD 13 undef) (l.getD 19 undef) (l.getD 90 undef) H) ((List.range 139).map x) H = sounderlaw10_PersistQuiet_g109 S (x 2) (x 8) (x 9) (x 11) (x 12) (x 13) (x 19) H := by kernel_rfl
def sounderlaw10_PersistQuiet_g110 (S : Value → Value → Value → Value → Value → Value → Value → Value → Heap → Prop) (x2 x8 x9 x11 x12 x13 x19 : Value) (H : Heap) : Prop :=
  EvF P N.span_Set_Has #[x8, x19] H fun v95 H1 =>
  S x2 x8 x9 x11 x12 x13 x19 v95 H1
theorem sounderlaw10_PersistQuiet_g110_e (S : Value → Value → Value → Value → Value → Value → Value → Value → Heap → Prop) (x : Nat → Value) (H : Heap) : wpE tab P sounderlaw10_PersistQuiet_pi sounderlaw10_PersistQuiet_c55 (nQ fun l H => S (l.getD 2 undef) (l.getD 8 undef) (l.getD 9 undef) (l.getD 11 undef) (l.getD 12 undef) (l.getD 13 undef) (l.getD 19 undef) (l.getD 95 undef) H) ((List.range 139).map x) H = sounderlaw10_PersistQuiet_g110 S (x 2) (x 8) (x 9) (x 11) (x 12) (x 13) (x 19) H := by kernel_rfl
def sounderlaw10_PersistQuiet_g111 (S : Value → Heap → Prop) (H : Heap) : Prop :=
  S (.bool false) H
theorem sounderlaw10_PersistQuiet_g111_e (S : Value → Heap → Prop) (x : Nat → Value) (H : Heap) : wpE tab P sounderlaw10_PersistQuiet_pi sounderlaw10_PersistQuiet_c58 (nQ fun l H => S (l.getD 6 undef) H) ((List.range 139).map x) H = sounderlaw10_PersistQuiet_g111 S  H := by kernel_rfl
def sounderlaw10_PersistQuiet_g112 (S : Value → Value → Value → Value → Value → Value → Value → Heap → Prop) (x2 x8 x9 x11 x12 x13 x19 : Value) (H : Heap) : Prop :=
  bnd (binV .int .add x19 (.int .i64 1)) fun v92 =>
  S x2 x8 x9 x11 x12 x13 v92 H
theorem sounderlaw10_PersistQuiet_g112_e (S : Value → Value → Value → Value → Value → Value → Value → Heap → Prop) (x : Nat → Value) (H : Heap) : wpE tab P sounderlaw10_PersistQuiet_pi sounderlaw10_PersistQuiet_c59 (nQ fun l H => S (l.getD 2 undef) (l.getD 8 undef) (l.getD 9 undef) (l.getD 11 undef) (l.getD 12 undef) (l.getD 13 undef) (l.getD 19 undef) H) ((List.range 139).map x) H = sounderlaw10_PersistQuiet_g112 S (x 2) (x 8) (x 9) (x 11) (x 12) (x 13) (x 19) H := by kernel_rfl
def sounderlaw10_PersistQuiet_g113 (S : Value → Value → Value → Value → Value → Value → Value → Heap → Prop) (x2 x9 x11 x12 x13 : Value) (H : Heap) : Prop :=
  S x2 x9 x11 x12 x13 (.int .i64 (-1)) (.int .i64 (-1)) H
theorem sounderlaw10_PersistQuiet_g113_e (S : Value → Value → Value → Value → Value → Value → Value → Heap → Prop) (x : Nat → Value) (H : Heap) : wpE tab P sounderlaw10_PersistQuiet_pi sounderlaw10_PersistQuiet_c61 (nQ fun l H => S (l.getD 2 undef) (l.getD 9 undef) (l.getD 11 undef) (l.getD 12 undef) (l.getD 13 undef) (l.getD 20 undef) (l.getD 21 undef) H) ((List.range 139).map x) H = sounderlaw10_PersistQuiet_g113 S (x 2) (x 9) (x 11) (x 12) (x 13) H := by kernel_rfl
def sounderlaw10_PersistQuiet_g114 (S : Value → Value → Value → Value → Value → Value → Value → Value → Heap → Prop) (x2 x9 x11 x12 x13 x20 x21 : Value) (H : Heap) : Prop :=
  S x2 x9 x11 x12 x13 x20 x21 (.int .i64 0) H
theorem sounderlaw10_PersistQuiet_g114_e (S : Value → Value → Value → Value → Value → Value → Value → Value → Heap → Prop) (x : Nat → Value) (H : Heap) : wpE tab P sounderlaw10_PersistQuiet_pi sounderlaw10_PersistQuiet_c64 (nQ fun l H => S (l.getD 2 undef) (l.getD 9 undef) (l.getD 11 undef) (l.getD 12 undef) (l.getD 13 undef) (l.getD 20 undef) (l.getD 21 undef) (l.getD 22 undef) H) ((List.range 139).map x) H = sounderlaw10_PersistQuiet_g114 S (x 2) (x 9) (x 11) (x 12) (x 13) (x 20) (x 21) H := by kernel_rfl
def sounderlaw10_PersistQuiet_g116 (S : Value → Value → Value → Value → Value → Value → Value → Value → Value → Heap → Prop) (x2 x9 x11 x12 x13 x20 x21 x22 : Value) (H : Heap) : Prop :=
  bnd (lenV x9) fun v98 =>
  bnd (binV .int .lss x22 v98) fun v99 =>
  S x2 x9 x11 x12 x13 x20 x21 x22 v99 H
theorem sounderlaw10_PersistQuiet_g116_e (S : Value → Value → Value → Value → Value → Value → Value → Value → Value → Heap → Prop) (x : Nat → Value) (H : Heap) : wpE tab P sounderlaw10_PersistQuiet_pi sounderlaw10_PersistQuiet_c69 (nQ fun l H => S (l.getD 2 undef) (l.getD 9 undef) (l.getD 11 undef) (l.getD 12 undef) (l.getD 13 undef) (l.getD 20 undef) (l.getD 21 undef) (l.getD 22 undef) (l.getD 99 undef) H) ((List.range 139).map x) H = sounderlaw10_PersistQuiet_g116 S (x 2) (x 9) (x 11) (x 12) (x 13) (x 20) (x 21) (x 22) H := by kernel_rfl
def sounderlaw10_PersistQuiet_g118 (S : Value → Value → Value → Value → Value → Value → Value → Value → Heap → Prop) (x2 x9 x11 x12 x13 x20 x21 x22 : Value) (H : Heap) : Prop :=
  bnd (binV .int .add x22 (.int .i64 1)) fun v101 =>
  S x2 x9 x11 x12 x13 x20 x21 v101 H
theorem sounderlaw10_PersistQuiet_g118_e (S : Value → Value → Value → Value → Value → Value → Value → Value → Heap → Prop) (x : Nat → Value) (H : Heap) : wpE tab P sounderlaw10_PersistQuiet_pi sounderlaw10_PersistQuiet_c83 (nQ fun l H => S (l.getD 2 undef) (l.getD 9 undef) (l.getD 11 undef) (l.getD 12 undef) (l.getD 13 undef) (l.getD 20 undef) (l.getD 21 undef) (l.getD 22 undef) H) ((List.range 139).map x) H = sounderlaw10_PersistQuiet_g118 S (x 2) (x 9) (x 11) (x 12) (x 13) (x 20) (x 21) (x 22) H := by kernel_rfl
def sounderlaw10_PersistQuiet_s117 (x2 x9 x11 x12 x13 x20 x21 x22 : Value) (K3 : Value → Value → Value → Value → Value → Value → Value → Value →  Heap → Prop) (_R : Value → Heap → Prop) (H : Heap) : Prop :=
  sounderlaw10_PersistQuiet_g118 (fun x2 x9 x11 x12 x13 x20 x21 x22 H => K3 x2 x9 x11 x12 x13 x20 x21 x22 H) x2 x9 x11 x12 x13 x20 x21 x22 H
noncomputable def sounderlaw10_PersistQuiet_q119 (R : Value → Heap → Prop) : Exit → List Value → Heap → Prop := (thenE (fun l H => wpE tab P sounderlaw10_PersistQuiet_pi sounderlaw10_PersistQuiet_c84 (sounderlaw10_PersistQuiet_q95 R) l H) (sounderlaw10_PersistQuiet_q95 R))
noncomputable def sounderlaw10_PersistQuiet_q120 (R : Value → Heap → Prop) : Exit → List Value → Heap → Prop := (blkE 4 (sounderlaw10_PersistQuiet_q119 R))
noncomputable def sounderlaw10_PersistQuiet_q121 (K3 : Value → Value → Value → Value → Value → Value → Value → Value →  Heap → Prop) (R : Value → Heap → Prop) : Exit → List Value → Heap → Prop := (thenE (fun l H => K3 (l.getD 2 undef) (l.getD 9 undef) (l.getD 11 undef) (l.getD 12 undef) (l.getD 13 undef) (l.getD 20 undef) (l.getD 21 undef) (l.getD 22 undef) H) (sounderlaw10_PersistQuiet_q120 R))
theorem sounderlaw10_PersistQuiet_s117_i (K3 : Value → Value → Value → Value → Value → Value → Value → Value →  Heap → Prop) (R : Value → Heap → Prop) (l : List Value) (H : Heap) (hl : l.length = 139) (h : sounderlaw10_PersistQuiet_s117 (l.getD 2 undef) (l.getD 9 undef) (l.getD 11 undef) (l.getD 12 undef) (l.getD 13 undef) (l.getD 20 undef) (l.getD 21 undef) (l.getD 22 undef) K3 R H) : wpE tab P sounderlaw10_PersistQuiet_pi sounderlaw10_PersistQuiet_c83 (sounderlaw10_PersistQuiet_q121 K3 R) l H := by
  refine regI hl (Eq.mpr (sounderlaw10_PersistQuiet_g118_e _ (fun i => l.getD i undef) _) h) ?_
  clear h hl
  intro l H hl h
  refine thenN ?_
  exact h
def sounderlaw10_PersistQuiet_g123 (S : Value → Value → Value → Value → Value → Value → Value → Value → Value → Heap → Prop) (x2 x9 x11 x12 x13 x20 x21 x22 : Value) (H : Heap) : Prop :=
  bnd (ixSV 6 x9 x22) fun v116 =>
  bnd (faV 0 v116) fun v117 =>
  bnd (ldE false 1 v117 H) fun v118 =>
  bnd (binV .int .eql v118 x13) fun v120 =>
  S x2 x9 x11 x12 x13 x20 x21 x22 v120 H
theorem sounderlaw10_PersistQuiet_g123_e (S : Value → Value → Value → Value → Value → Value → Value → Value → Value → Heap → Prop) (x : Nat → Value) (H : Heap) : wpE tab P sounderlaw10_PersistQuiet_pi sounderlaw10_PersistQuiet_c80 (nQ fun l H => S (l.getD 2 undef) (l.getD 9 undef) (l.getD 11 undef) (l.getD 12 undef) (l.getD 13 undef) (l.getD 20 undef) (l.getD 21 undef) (l.getD 22 undef) (l.getD 120 undef) H) ((List.range 139).map x) H = sounderlaw10_PersistQuiet_g123 S (x 2) (x 9) (x 11) (x 12) (x 13) (x 20) (x 21) (x 22) H := by kernel_rfl
def sounderlaw10_PersistQuiet_g124 (S : Value → Value → Value → Value → Value → Value → Value → Value → Heap → Prop) (x2 x9 x11 x12 x13 x20 x22 : Value) (H : Heap) : Prop :=
  bnd (ixSV 6 x9 x22) fun v123 =>
  bnd (faV 1 v123) fun v124 =>
  bnd (ldE false 1 v124 H) fun v125 =>
  S x2 x9 x11 x12 x13 x20 v125 x22 H
theorem sounderlaw10_PersistQuiet_g124_e (S : Value → Value → Value → Value → Value → Value → Value → Value → Heap → Prop) (x : Nat → Value) (H : Heap) : wpE tab P sounderlaw10_PersistQuiet_pi sounderlaw10_PersistQuiet_c82 (nQ fun l H => S (l.getD 2 undef) (l.getD 9 undef) (l.getD 11 undef) (l.getD 12 undef) (l.getD 13 undef) (l.getD 20 undef) (l.getD 21 undef) (l.getD 22 undef) H) ((List.range 139).map x) H = sounderlaw10_PersistQuiet_g124 S (x 2) (x 9) (x 11) (x 12) (x 13) (x 20) (x 22) H := by kernel_rfl
def sounderlaw10_PersistQuiet_s122 (x2 x9 x11 x12 x13 x20 x21 x22 : Value) (K3 : Value → Value → Value → Value → Value → Value → Value → Value →  Heap → Prop) (R : Value → Heap → Prop) (H : Heap) : Prop :=
  sounderlaw10_PersistQuiet_g123 (fun x2 x9 x11 x12 x13 x20 x21 x22 x120 H => brV x120
  (sounderlaw10_PersistQuiet_g124 (fun x2 x9 x11 x12 x13 x20 x21 x22 H => sounderlaw10_PersistQuiet_s117 x2 x9 x11 x12 x13 x20 x21 x22 K3 R H) x2 x9 x11 x12 x13 x20 x22 H)
  (sounderlaw10_PersistQuiet_s117 x2 x9 x11 x12 x13 x20 x21 x22 K3 R H)) x2 x9 x11 x12 x13 x20 x21 x22 H
noncomputable def sounderlaw10_PersistQuiet_q125 (K3 : Value → Value → Value → Value → Value → Value → Value → Value →  Heap → Prop) (R : Value → Heap → Prop) : Exit → List Value → Heap → Prop := (thenE (fun l H => wpE tab P sounderlaw10_PersistQuiet_pi sounderlaw10_PersistQuiet_c83 (sounderlaw10_PersistQuiet_q121 K3 R) l H) (sounderlaw10_PersistQuiet_q121 K3 R))
noncomputable def sounderlaw10_PersistQuiet_q126 (K3 : Value → Value → Value → Value → Value → Value → Value → Value →  Heap → Prop) (R : Value → Heap → Prop) : Exit → List Value → Heap → Prop := (blkE 5 (sounderlaw10_PersistQuiet_q125 K3 R))
theorem sounderlaw10_PersistQuiet_s122_i (K3 : Value → Value → Value → Value → Value → Value → Value → Value →  Heap → Prop) (R : Value → Heap → Prop) (l : List Value) (H : Heap) (hl : l.length = 139) (h : sounderlaw10_PersistQuiet_s122 (l.getD 2 undef) (l.getD 9 undef) (l.getD 11 undef) (l.getD 12 undef) (l.getD 13 undef) (l.getD 20 undef) (l.getD 21 undef) (l.getD 22 undef) K3 R H) : wpE tab P sounderlaw10_PersistQuiet_pi sounderlaw10_PersistQuiet_c79 (sounderlaw10_PersistQuiet_q126 K3 R) l H := by
  refine seqI (c := sounderlaw10_PersistQuiet_c79) rfl ?_
  refine regI hl (Eq.mpr (sounderlaw10_PersistQuiet_g123_e _ (fun i => l.getD i undef) _) h) ?_
  clear h hl
  intro l H hl h
  refine thenN ?_
  refine condI (c := sounderlaw10_PersistQuiet_c81) rfl h ?_ ?_
  · clear h; intro h
    refine regI hl (Eq.mpr (sounderlaw10_PersistQuiet_g124_e _ (fun i => l.getD i undef) _) h) ?_
    clear h hl
    intro l H hl h
    refine blkN ?_
    refine thenN ?_
    exact sounderlaw10_PersistQuiet_s117_i K3 R l H hl h
  · clear h; intro h
    refine skipI rfl ?_
    refine blkN ?_
    refine thenN ?_
    exact sounderlaw10_PersistQuiet_s117_i K3 R l H hl h
def sounderlaw10_PersistQuiet_g127 (S : Value → Value → Value → Value → Value → Value → Value → Value → Value → Heap → Prop) (x2 x9 x11 x12 x13 x20 x21 x22 : Value) (H : Heap) : Prop :=
  bnd (ixSV 6 x9 x22) fun v104 =>
  bnd (faV 0 v104) fun v105 =>
  bnd (ldE false 1 v105 H) fun v106 =>
  bnd (binV .int .eql v106 x12) fun v108 =>
  S x2 x9 x11 x12 x13 x20 x21 x22 v108 H
theorem sounderlaw10_PersistQuiet_g127_e (S : Value → Value → Value → Value → Value → Value → Value → Value → Value → Heap → Prop) (x : Nat → Value) (H : Heap) : wpE tab P sounderlaw10_PersistQuiet_pi sounderlaw10_PersistQuiet_c76 (nQ fun l H => S (l.getD 2 undef) (l.getD 9 undef) (l.getD 11 undef) (l.getD 12 undef) (l.getD 13 undef) (l.getD 20 undef) (l.getD 21 undef) (l.getD 22 undef) (l.getD 108 undef) H) ((List.range 139).map x) H = sounderlaw10_PersistQuiet_g127 S (x 2) (x 9) (x 11) (x 12) (x 13) (x 20) (x 21) (x 22) H := by kernel_rfl
def sounderlaw10_PersistQuiet_g128 (S : Value → Value → Value → Value → Value → Value → Value → Value → Heap → Prop) (x2 x9 x11 x12 x13 x21 x22 : Value) (H : Heap) : Prop :=
  bnd (ixSV 6 x9 x22) fun v111 =>
  bnd (faV 1 v111) fun v112 =>
  bnd (ldE false 1 v112 H) fun v113 =>
  S x2 x9 x11 x12 x13 v113 x21 x22 H
theorem sounderlaw10_PersistQuiet_g128_e (S : Value → Value → Value → Value → Value → Value → Value → Value → Heap → Prop) (x : Nat → Value) (H : Heap) : wpE tab P sounderlaw10_PersistQuiet_pi sounderlaw10_PersistQuiet_c78 (nQ fun l H => S (l.getD 2 undef) (l.getD 9 undef) (l.getD 11 undef) (l.getD 12 undef) (l.getD 13 undef) (l.getD 20 undef) (l.getD 21 undef) (l.getD 22 undef) H) ((List.range 139).map x) H = sounderlaw10_PersistQuiet_g128 S (x 2) (x 9) (x 11) (x 12) (x 13) (x 21) (x 22) H := by kernel_rfl
def sounderlaw10_PersistQuiet_g129 (S : Value → Heap → Prop) (x2 x11 x20 x21 : Value) (H : Heap) : Prop :=
  bnd (binV .int .gtr x20 x2) fun v128 =>
  brV v128
  (bnd (binV .int .sub x21 x20) fun v132 =>
  bnd (binV .int .eql v132 x11) fun v134 =>
  brV v134
  (EvF P N.sounderlaw10_works #[] H fun v137 H1 =>
  S v137 H1)
  (S (.bool false) H))
  (S (.bool false) H)
theorem sounderlaw10_PersistQuiet_g129_e (S : Value → Heap → Prop) (x : Nat → Value) (H : Heap) : wpE tab P sounderlaw10_PersistQuiet_pi sounderlaw10_PersistQuiet_c85 (nQ fun l H => S (l.getD 6 undef) H) ((List.range 139).map x) H = sounderlaw10_PersistQuiet_g129 S (x 2) (x 11) (x 20) (x 21) H := by kernel_rfl
def sounderlaw10_PersistQuiet_s115 (x2 x9 x11 x12 x13 x20 x21 x22 : Value) (K3 : Value → Value → Value → Value → Value → Value → Value → Value →  Heap → Prop) (R : Value → Heap → Prop) (H : Heap) : Prop :=
  sounderlaw10_PersistQuiet_g116 (fun x2 x9 x11 x12 x13 x20 x21 x22 x99 H => brV x99
  (sounderlaw10_PersistQuiet_g127 (fun x2 x9 x11 x12 x13 x20 x21 x22 x108 H => brV x108
  (sounderlaw10_PersistQuiet_g128 (fun x2 x9 x11 x12 x13 x20 x21 x22 H => sounderlaw10_PersistQuiet_s122 x2 x9 x11 x12 x13 x20 x21 x22 K3 R H) x2 x9 x11 x12 x13 x21 x22 H)
  (sounderlaw10_PersistQuiet_s122 x2 x9 x11 x12 x13 x20 x21 x22 K3 R H)) x2 x9 x11 x12 x13 x20 x21 x22 H)
  (sounderlaw10_PersistQuiet_g129 (fun x6 H => R x6 H) x2 x11 x20 x21 H)) x2 x9 x11 x12 x13 x20 x21 x22 H
theorem sounderlaw10_PersistQuiet_s115_i (K3 : Value → Value → Value → Value → Value → Value → Value → Value →  Heap → Prop) (R : Value → Heap → Prop) (l : List Value) (H : Heap) (hl : l.length = 139) (h : sounderlaw10_PersistQuiet_s115 (l.getD 2 undef) (l.getD 9 undef) (l.getD 11 undef) (l.getD 12 undef) (l.getD 13 undef) (l.getD 20 undef) (l.getD 21 undef) (l.getD 22 undef) K3 R H) : wpE tab P sounderlaw10_PersistQuiet_pi sounderlaw10_PersistQuiet_c67 (sounderlaw10_PersistQuiet_q121 K3 R) l H := by
  refine seqI (c := sounderlaw10_PersistQuiet_c67) rfl ?_
  refine seqI (c := sounderlaw10_PersistQuiet_c68) rfl ?_
  refine regI hl (Eq.mpr (sounderlaw10_PersistQuiet_g116_e _ (fun i => l.getD i undef) _) h) ?_
  clear h hl
  intro l H hl h
  refine thenN ?_
  refine condI (c := sounderlaw10_PersistQuiet_c70) rfl h ?_ ?_
  · clear h; intro h
    refine skipI rfl ?_
    refine thenN ?_
    refine seqI (c := sounderlaw10_PersistQuiet_c72) rfl ?_
    refine blockI (c := sounderlaw10_PersistQuiet_c73) rfl ?_
    refine seqI (c := sounderlaw10_PersistQuiet_c74) rfl ?_
    refine seqI (c := sounderlaw10_PersistQuiet_c75) rfl ?_
    refine regI hl (Eq.mpr (sounderlaw10_PersistQuiet_g127_e _ (fun i => l.getD i undef) _) h) ?_
    clear h hl
    intro l H hl h
    refine thenN ?_
    refine condI (c := sounderlaw10_PersistQuiet_c77) rfl h ?_ ?_
    · clear h; intro h
      refine regI hl (Eq.mpr (sounderlaw10_PersistQuiet_g128_e _ (fun i => l.getD i undef) _) h) ?_
      clear h hl
      intro l H hl h
      refine thenN ?_
      exact sounderlaw10_PersistQuiet_s122_i K3 R l H hl h
    · clear h; intro h
      refine skipI rfl ?_
      refine thenN ?_
      exact sounderlaw10_PersistQuiet_s122_i K3 R l H hl h
  · clear h; intro h
    refine exitI (c := sounderlaw10_PersistQuiet_c71) rfl ?_
    refine thenX ?_
    refine thenX ?_
    refine blkX ?_
    refine thenN ?_
    refine seqI (c := sounderlaw10_PersistQuiet_c84) rfl ?_
    refine regI hl (Eq.mpr (sounderlaw10_PersistQuiet_g129_e _ (fun i => l.getD i undef) _) h) ?_
    clear h hl
    intro l H hl h
    refine thenN ?_
    refine retI rfl ?_
    exact h
def sounderlaw10_PersistQuiet_l130 (x2 x9 x11 x12 x13 x20 x21 x22 : Value) (R : Value → Heap → Prop) (H : Heap) : Prop :=
  ∃ (I : Value → Value → Value → Heap → Prop) (μ : Value → Value → Value → Heap → Nat), I x20 x21 x22 H ∧ ∀ (y20 : Value) (y21 : Value) (y22 : Value) (H : Heap), I y20 y21 y22 H → sounderlaw10_PersistQuiet_s115 x2 x9 x11 x12 x13 y20 y21 y22 (fun z2 z9 z11 z12 z13 z20 z21 z22 H' => z2 = x2 ∧ z9 = x9 ∧ z11 = x11 ∧ z12 = x12 ∧ z13 = x13 ∧ (I z20 z21 z22 H' ∧ μ z20 z21 z22 H' < μ y20 y21 y22 H)) R H
def sounderlaw10_PersistQuiet_s108 (x2 x8 x9 x11 x12 x13 x19 : Value) (K2 : Value → Value → Value → Value → Value → Value → Value →  Heap → Prop) (R : Value → Heap → Prop) (H : Heap) : Prop :=
  sounderlaw10_PersistQuiet_g109 (fun x2 x8 x9 x11 x12 x13 x19 x90 H => brV x90
  (sounderlaw10_PersistQuiet_g110 (fun x2 x8 x9 x11 x12 x13 x19 x95 H => brV x95
  (sounderlaw10_PersistQuiet_g111 (fun x6 H => R x6 H) H)
  (sounderlaw10_PersistQuiet_g112 (fun x2 x8 x9 x11 x12 x13 x19 H => K2 x2 x8 x9 x11 x12 x13 x19 H) x2 x8 x9 x11 x12 x13 x19 H)) x2 x8 x9 x11 x12 x13 x19 H)
  (sounderlaw10_PersistQuiet_g113 (fun x2 x9 x11 x12 x13 x20 x21 H => sounderlaw10_PersistQuiet_g114 (fun x2 x9 x11 x12 x13 x20 x21 x22 H => sounderlaw10_PersistQuiet_l130 x2 x9 x11 x12 x13 x20 x21 x22 R H) x2 x9 x11 x12 x13 x20 x21 H) x2 x9 x11 x12 x13 H)) x2 x8 x9 x11 x12 x13 x19 H
noncomputable def sounderlaw10_PersistQuiet_q131 (R : Value → Heap → Prop) : Exit → List Value → Heap → Prop := (thenE (fun l H => wpE tab P sounderlaw10_PersistQuiet_pi sounderlaw10_PersistQuiet_c60 (sounderlaw10_PersistQuiet_q95 R) l H) (sounderlaw10_PersistQuiet_q95 R))
noncomputable def sounderlaw10_PersistQuiet_q132 (R : Value → Heap → Prop) : Exit → List Value → Heap → Prop := (blkE 2 (sounderlaw10_PersistQuiet_q131 R))
noncomputable def sounderlaw10_PersistQuiet_q133 (K2 : Value → Value → Value → Value → Value → Value → Value →  Heap → Prop) (R : Value → Heap → Prop) : Exit → List Value → Heap → Prop := (thenE (fun l H => K2 (l.getD 2 undef) (l.getD 8 undef) (l.getD 9 undef) (l.getD 11 undef) (l.getD 12 undef) (l.getD 13 undef) (l.getD 19 undef) H) (sounderlaw10_PersistQuiet_q132 R))
theorem sounderlaw10_PersistQuiet_s108_i (K2 : Value → Value → Value → Value → Value → Value → Value →  Heap → Prop) (R : Value → Heap → Prop) (l : List Value) (H : Heap) (hl : l.length = 139) (h : sounderlaw10_PersistQuiet_s108 (l.getD 2 undef) (l.getD 8 undef) (l.getD 9 undef) (l.getD 11 undef) (l.getD 12 undef) (l.getD 13 undef) (l.getD 19 undef) K2 R H) : wpE tab P sounderlaw10_PersistQuiet_pi sounderlaw10_PersistQuiet_c47 (sounderlaw10_PersistQuiet_q133 K2 R) l H := by
  refine seqI (c := sounderlaw10_PersistQuiet_c47) rfl ?_
  refine seqI (c := sounderlaw10_PersistQuiet_c48) rfl ?_
  refine regI hl (Eq.mpr (sounderlaw10_PersistQuiet_g109_e _ (fun i => l.getD i undef) _) h) ?_
  clear h hl
  intro l H hl h
  refine thenN ?_
  refine condI (c := sounderlaw10_PersistQuiet_c50) rfl h ?_ ?_
  · clear h; intro h
    refine skipI rfl ?_
    refine thenN ?_
    refine seqI (c := sounderlaw10_PersistQuiet_c52) rfl ?_
    refine blockI (c := sounderlaw10_PersistQuiet_c53) rfl ?_
    refine seqI (c := sounderlaw10_PersistQuiet_c54) rfl ?_
    refine regI hl (Eq.mpr (sounderlaw10_PersistQuiet_g110_e _ (fun i => l.getD i undef) _) h) ?_
    clear h hl
    intro l H hl h
    refine thenN ?_
    refine condI (c := sounderlaw10_PersistQuiet_c56) rfl h ?_ ?_
    · clear h; intro h
      refine seqI (c := sounderlaw10_PersistQuiet_c57) rfl ?_
      refine regI hl (Eq.mpr (sounderlaw10_PersistQuiet_g111_e _ (fun i => l.getD i undef) _) h) ?_
      clear h hl
      intro l H hl h
      refine thenN ?_
      refine retI rfl ?_
      refine blkR ?_
      refine thenR ?_
      refine thenR ?_
      refine blkR ?_
      refine thenR ?_
      exact h
    · clear h; intro h
      refine skipI rfl ?_
      refine blkN ?_
      refine thenN ?_
      refine regI hl (Eq.mpr (sounderlaw10_PersistQuiet_g112_e _ (fun i => l.getD i undef) _) h) ?_
      clear h hl
      intro l H hl h
      refine thenN ?_
      exact h
  · clear h; intro h
    refine exitI (c := sounderlaw10_PersistQuiet_c51) rfl ?_
    refine thenX ?_
    refine thenX ?_
    refine blkX ?_
    refine thenN ?_
    refine seqI (c := sounderlaw10_PersistQuiet_c60) rfl ?_
    refine regI hl (Eq.mpr (sounderlaw10_PersistQuiet_g113_e _ (fun i => l.getD i undef) _) h) ?_
    clear h hl
    intro l H hl h
    refine thenN ?_
    refine seqI (c := sounderlaw10_PersistQuiet_c62) rfl ?_
    refine seqI (c := sounderlaw10_PersistQuiet_c63) rfl ?_
    refine regI hl (Eq.mpr (sounderlaw10_PersistQuiet_g114_e _ (fun i => l.getD i undef) _) h) ?_
    clear h hl
    intro l H hl h
    refine thenN ?_
    refine blockI (c := sounderlaw10_PersistQuiet_c65) rfl ?_
    obtain ⟨I, μ, h0, hr⟩ := h
    refine loopI (c := sounderlaw10_PersistQuiet_c66) rfl (fun l' H' => l'.getD 2 undef = l.getD 2 undef ∧ l'.getD 9 undef = l.getD 9 undef ∧ l'.getD 11 undef = l.getD 11 undef ∧ l'.getD 12 undef = l.getD 12 undef ∧ l'.getD 13 undef = l.getD 13 undef ∧ I (l'.getD 20 undef) (l'.getD 21 undef) (l'.getD 22 undef) H') (fun l' H' => μ (l'.getD 20 undef) (l'.getD 21 undef) (l'.getD 22 undef) H') hl ⟨rfl, rfl, rfl, rfl, rfl, h0⟩ ?_
    rintro l1 H1 hl1 ⟨e2, e9, e11, e12, e13, hI⟩
    have hb := hr (l1.getD 20 undef) (l1.getD 21 undef) (l1.getD 22 undef) H1 hI
    rw [← e2, ← e9, ← e11, ← e12, ← e13] at hb
    refine wpE_mono _ l1 H1 hl1 ?_ (sounderlaw10_PersistQuiet_s115_i _ R l1 H1 hl1 hb)
    intro e l2 H2 hl2 hq
    cases e with
    | normal => exact fun _ => (by obtain ⟨d2, d9, d11, d12, d13, g1, g2⟩ := hq; exact ⟨⟨d2.trans e2, d9.trans e9, d11.trans e11, d12.trans e12, d13.trans e13, g1⟩, g2⟩)
    | _ => exact hq
def sounderlaw10_PersistQuiet_l134 (x2 x8 x9 x11 x12 x13 x19 : Value) (R : Value → Heap → Prop) (H : Heap) : Prop :=
  ∃ (I : Value → Heap → Prop) (μ : Value → Heap → Nat), I x19 H ∧ ∀ (y19 : Value) (H : Heap), I y19 H → sounderlaw10_PersistQuiet_s108 x2 x8 x9 x11 x12 x13 y19 (fun z2 z8 z9 z11 z12 z13 z19 H' => z2 = x2 ∧ z8 = x8 ∧ z9 = x9 ∧ z11 = x11 ∧ z12 = x12 ∧ z13 = x13 ∧ (I z19 H' ∧ μ z19 H' < μ y19 H)) R H
def sounderlaw10_PersistQuiet_s91 (x2 x7 x8 x9 x10 : Value) (K1 : Value → Value → Value → Value → Value →  Heap → Prop) (R : Value → Heap → Prop) (H : Heap) : Prop :=
  sounderlaw10_PersistQuiet_g92 (fun x2 x7 x8 x9 x10 x32 H => brV x32
  (sounderlaw10_PersistQuiet_g99 (fun x2 x7 x8 x9 x10 x39 H => brV x39
  (sounderlaw10_PersistQuiet_g100 (fun x2 x7 x8 x9 x10 H => sounderlaw10_PersistQuiet_s93 x2 x7 x8 x9 x10 K1 R H) x2 x7 x8 x9 x10 H)
  (sounderlaw10_PersistQuiet_s93 x2 x7 x8 x9 x10 K1 R H)) x2 x7 x8 x9 x10 H)
  (sounderlaw10_PersistQuiet_g101 (fun x2 x8 x9 x11 x12 x13 x14 H => sounderlaw10_PersistQuiet_g102 (fun x2 x8 x9 x11 x12 x13 x14 x15 x16 x17 x18 H => sounderlaw10_PersistQuiet_g103 (fun x2 x8 x9 x11 x12 x13 x14 x82 H => brV x82
  (sounderlaw10_PersistQuiet_g104 (fun x6 H => R x6 H) H)
  (sounderlaw10_PersistQuiet_g105 (fun x2 x8 x9 x11 x12 x13 x84 H => brV x84
  (sounderlaw10_PersistQuiet_g106 (fun x6 H => R x6 H) H)
  (sounderlaw10_PersistQuiet_g107 (fun x2 x8 x9 x11 x12 x13 x19 H => sounderlaw10_PersistQuiet_l134 x2 x8 x9 x11 x12 x13 x19 R H) x2 x8 x9 x11 x12 x13 H)) x2 x8 x9 x11 x12 x13 x14 H)) x2 x8 x9 x11 x12 x13 x14 x15 x16 x17 x18 H) x2 x8 x9 x11 x12 x13 x14 H) x2 x7 x8 x9 H)) x2 x7 x8 x9 x10 H
theorem sounderlaw10_PersistQuiet_s91_i (K1 : Value → Value → Value → Value → Value →  Heap → Prop) (R : Value → Heap → Prop) (l : List Value) (H : Heap) (hl : l.length = 139) (h : sounderlaw10_PersistQuiet_s91 (l.getD 2 undef) (l.getD 7 undef) (l.getD 8 undef) (l.getD 9 undef) (l.getD 10 undef) K1 R H) : wpE tab P sounderlaw10_PersistQuiet_pi sounderlaw10_PersistQuiet_c14 (sounderlaw10_PersistQuiet_q98 K1 R) l H := by
  refine seqI (c := sounderlaw10_PersistQuiet_c14) rfl ?_
  refine seqI (c := sounderlaw10_PersistQuiet_c15) rfl ?_
  refine regI hl (Eq.mpr (sounderlaw10_PersistQuiet_g92_e _ (fun i => l.getD i undef) _) h) ?_
  clear h hl
  intro l H hl h
  refine thenN ?_
  refine condI (c := sounderlaw10_PersistQuiet_c17) rfl h ?_ ?_
  · clear h; intro h
    refine skipI rfl ?_
    refine thenN ?_
    refine seqI (c := sounderlaw10_PersistQuiet_c19) rfl ?_
    refine blockI (c := sounderlaw10_PersistQuiet_c20) rfl ?_
    refine seqI (c := sounderlaw10_PersistQuiet_c21) rfl ?_
    refine regI hl (Eq.mpr (sounderlaw10_PersistQuiet_g99_e _ (fun i => l.getD i undef) _) h) ?_
    clear h hl
    intro l H hl h
    refine thenN ?_
    refine condI (c := sounderlaw10_PersistQuiet_c23) rfl h ?_ ?_
    · clear h; intro h
      refine regI hl (Eq.mpr (sounderlaw10_PersistQuiet_g100_e _ (fun i => l.getD i undef) _) h) ?_
      clear h hl
      intro l H hl h
      refine blkN ?_
      refine thenN ?_
      exact sounderlaw10_PersistQuiet_s93_i K1 R l H hl h
    · clear h; intro h
      refine skipI rfl ?_
      refine blkN ?_
      refine thenN ?_
      exact sounderlaw10_PersistQuiet_s93_i K1 R l H hl h
  · clear h; intro h
    refine exitI (c := sounderlaw10_PersistQuiet_c18) rfl ?_
    refine thenX ?_
    refine thenX ?_
    refine blkX ?_
    refine thenN ?_
    refine seqI (c := sounderlaw10_PersistQuiet_c26) rfl ?_
    refine regI hl (Eq.mpr (sounderlaw10_PersistQuiet_g101_e _ (fun i => l.getD i undef) _) h) ?_
    clear h hl
    intro l H hl h
    refine thenN ?_
    refine seqI (c := sounderlaw10_PersistQuiet_c28) rfl ?_
    refine regI hl (Eq.mpr (sounderlaw10_PersistQuiet_g102_e _ (fun i => l.getD i undef) _) h) ?_
    clear h hl
    intro l H hl h
    refine thenN ?_
    refine seqI (c := sounderlaw10_PersistQuiet_c30) rfl ?_
    refine seqI (c := sounderlaw10_PersistQuiet_c31) rfl ?_
    refine regI hl (Eq.mpr (sounderlaw10_PersistQuiet_g103_e _ (fun i => l.getD i undef) _) h) ?_
    clear h hl
    intro l H hl h
    refine thenN ?_
    refine condI (c := sounderlaw10_PersistQuiet_c33) rfl h ?_ ?_
    · clear h; intro h
      refine seqI (c := sounderlaw10_PersistQuiet_c34) rfl ?_
      refine regI hl (Eq.mpr (sounderlaw10_PersistQuiet_g104_e _ (fun i => l.getD i undef) _) h) ?_
      clear h hl
      intro l H hl h
      refine thenN ?_
      refine retI rfl ?_
      refine thenR ?_
      exact h
    · clear h; intro h
      refine skipI rfl ?_
      refine thenN ?_
      refine seqI (c := sounderlaw10_PersistQuiet_c36) rfl ?_
      refine seqI (c := sounderlaw10_PersistQuiet_c37) rfl ?_
      refine regI hl (Eq.mpr (sounderlaw10_PersistQuiet_g105_e _ (fun i => l.getD i undef) _) h) ?_
      clear h hl
      intro l H hl h
      refine thenN ?_
      refine condI (c := sounderlaw10_PersistQuiet_c39) rfl h ?_ ?_
      · clear h; intro h
        refine seqI (c := sounderlaw10_PersistQuiet_c40) rfl ?_
        refine regI hl (Eq.mpr (sounderlaw10_PersistQuiet_g106_e _ (fun i => l.getD i undef) _) h) ?_
        clear h hl
        intro l H hl h
        refine thenN ?_
        refine retI rfl ?_
        refine thenR ?_
        exact h
      · clear h; intro h
        refine skipI rfl ?_
        refine thenN ?_
        refine seqI (c := sounderlaw10_PersistQuiet_c42) rfl ?_
        refine seqI (c := sounderlaw10_PersistQuiet_c43) rfl ?_
        refine regI hl (Eq.mpr (sounderlaw10_PersistQuiet_g107_e _ (fun i => l.getD i undef) _) h) ?_
        clear h hl
        intro l H hl h
        refine thenN ?_
        refine blockI (c := sounderlaw10_PersistQuiet_c45) rfl ?_
        obtain ⟨I, μ, h0, hr⟩ := h
        refine loopI (c := sounderlaw10_PersistQuiet_c46) rfl (fun l' H' => l'.getD 2 undef = l.getD 2 undef ∧ l'.getD 8 undef = l.getD 8 undef ∧ l'.getD 9 undef = l.getD 9 undef ∧ l'.getD 11 undef = l.getD 11 undef ∧ l'.getD 12 undef = l.getD 12 undef ∧ l'.getD 13 undef = l.getD 13 undef ∧ I (l'.getD 19 undef) H') (fun l' H' => μ (l'.getD 19 undef) H') hl ⟨rfl, rfl, rfl, rfl, rfl, rfl, h0⟩ ?_
        rintro l1 H1 hl1 ⟨e2, e8, e9, e11, e12, e13, hI⟩
        have hb := hr (l1.getD 19 undef) H1 hI
        rw [← e2, ← e8, ← e9, ← e11, ← e12, ← e13] at hb
        refine wpE_mono _ l1 H1 hl1 ?_ (sounderlaw10_PersistQuiet_s108_i _ R l1 H1 hl1 hb)
        intro e l2 H2 hl2 hq
        cases e with
        | normal => exact fun _ => (by obtain ⟨d2, d8, d9, d11, d12, d13, g1, g2⟩ := hq; exact ⟨⟨d2.trans e2, d8.trans e8, d9.trans e9, d11.trans e11, d12.trans e12, d13.trans e13, g1⟩, g2⟩)
        | _ => exact hq
def sounderlaw10_PersistQuiet_l135 (x2 x7 x8 x9 x10 : Value) (R : Value → Heap → Prop) (H : Heap) : Prop :=
  ∃ (I : Value → Value → Heap → Prop) (μ : Value → Value → Heap → Nat), I x9 x10 H ∧ ∀ (y9 : Value) (y10 : Value) (H : Heap), I y9 y10 H → sounderlaw10_PersistQuiet_s91 x2 x7 x8 y9 y10 (fun z2 z7 z8 z9 z10 H' => z2 = x2 ∧ z7 = x7 ∧ z8 = x8 ∧ (I z9 z10 H' ∧ μ z9 z10 H' < μ y9 y10 H)) R H
def sounderlaw10_PersistQuiet (x0 x1 x2 : Value) (R : Value → Heap → Prop) (H : Heap) : Prop :=
  sounderlaw10_PersistQuiet_g86 (fun x0 x1 x2 H => sounderlaw10_PersistQuiet_g87 (fun x2 x7 x8 H => sounderlaw10_PersistQuiet_g88 (fun x2 x7 x8 H => sounderlaw10_PersistQuiet_g89 (fun x2 x7 x8 x9 H => sounderlaw10_PersistQuiet_g90 (fun x2 x7 x8 x9 x10 H => sounderlaw10_PersistQuiet_l135 x2 x7 x8 x9 x10 R H) x2 x7 x8 x9 H) x2 x7 x8 H) x2 x7 x8 H) x0 x1 x2 H) x0 x1 x2 H
theorem sounderlaw10_PersistQuiet_i (R : Value → Heap → Prop) (x0 x1 x2 : Value) (H : Heap) (h : sounderlaw10_PersistQuiet x0 x1 x2 R H) : wpE tab P sounderlaw10_PersistQuiet_pi sounderlaw10_PersistQuiet_c1 (retQ tab sounderlaw10_PersistQuiet_rs R) [x0, x1, x2, undef, undef, undef, undef, undef, undef, undef, undef, undef, undef, undef, undef, undef, undef, undef, undef, undef, undef, undef, undef, undef, undef, undef, undef, undef, undef, undef, undef, undef, undef, undef, undef, undef, undef, undef, undef, undef, undef, undef, undef, undef, undef, undef, undef, undef, undef, undef, undef, undef, undef, undef, undef, undef, undef, undef, undef, undef, undef, undef, undef, undef, undef, undef, undef, undef, undef, undef, undef, undef, undef, undef, undef, undef, undef, undef, undef, undef, undef, undef, undef, undef, undef, undef, undef, undef, undef, undef, undef, undef, undef, undef, undef, undef, undef, undef, undef, undef, undef, undef, undef, undef, undef, undef, undef, undef, undef, undef, undef, undef, undef, undef, undef, undef, undef, undef, undef, undef, undef, undef, undef, undef, undef, undef, undef, undef, undef, undef, undef, undef, undef, undef, undef, undef, undef, undef, undef] H := by
  obtain ⟨l, hl, el⟩ : ∃ l : List Value, l.length = 139 ∧ l = [x0, x1, x2, undef, undef, undef, undef, undef, undef, undef, undef, undef, undef, undef, undef, undef, undef, undef, undef, undef, undef, undef, undef, undef, undef, undef, undef, undef, undef, undef, undef, undef, undef, undef, undef, undef, undef, undef, undef, undef, undef, undef, undef, undef, undef, undef, undef, undef, undef, undef, undef, undef, undef, undef, undef, undef, undef, undef, undef, undef, undef, undef, undef, undef, undef, undef, undef, undef, undef, undef, undef, undef, undef, undef, undef, undef, undef, undef, undef, undef, undef, undef, undef, undef, undef, undef, undef, undef, undef, undef, undef, undef, undef, undef, undef, undef, undef, undef, undef, undef, undef, undef, undef, undef, undef, undef, undef, undef, undef, undef, undef, undef, undef, undef, undef, undef, undef, undef, undef, undef, undef, undef, undef, undef, undef, undef, undef, undef, undef, undef, undef, undef, undef, undef, undef, undef, undef, undef, undef] := ⟨_, rfl, rfl⟩
  rw [← el]
  have h : (fun (x0 x1 x2 : Value) => sounderlaw10_PersistQuiet_g86 (fun x0 x1 x2 H => sounderlaw10_PersistQuiet_g87 (fun x2 x7 x8 H => sounderlaw10_PersistQuiet_g88 (fun x2 x7 x8 H => sounderlaw10_PersistQuiet_g89 (fun x2 x7 x8 x9 H => sounderlaw10_PersistQuiet_g90 (fun x2 x7 x8 x9 x10 H => sounderlaw10_PersistQuiet_l135 x2 x7 x8 x9 x10 R H) x2 x7 x8 x9 H) x2 x7 x8 H) x2 x7 x8 H) x0 x1 x2 H) x0 x1 x2 H) (l.getD 0 undef) (l.getD 1 undef) (l.getD 2 undef) := by rw [el]; exact h
  clear el
  refine seqI (c := sounderlaw10_PersistQuiet_c1) rfl ?_
  refine regI hl (Eq.mpr (sounderlaw10_PersistQuiet_g86_e _ (fun i => l.getD i undef) _) h) ?_
  clear h hl
  intro l H hl h
  refine thenN ?_
  refine seqI (c := sounderlaw10_PersistQuiet_c3) rfl ?_
  refine regI hl (Eq.mpr (sounderlaw10_PersistQuiet_g87_e _ (fun i => l.getD i undef) _) h) ?_
  clear h hl
  intro l H hl h
  refine thenN ?_
  refine seqI (c := sounderlaw10_PersistQuiet_c5) rfl ?_
  refine regI hl (Eq.mpr (sounderlaw10_PersistQuiet_g88_e _ (fun i => l.getD i undef) _) h) ?_
  clear h hl
  intro l H hl h
  refine thenN ?_
  refine seqI (c := sounderlaw10_PersistQuiet_c7) rfl ?_
  refine regI hl (Eq.mpr (sounderlaw10_PersistQuiet_g89_e _ (fun i => l.getD i undef) _) h) ?_
  clear h hl
  intro l H hl h
  refine thenN ?_
  refine seqI (c := sounderlaw10_PersistQuiet_c9) rfl ?_
  refine seqI (c := sounderlaw10_PersistQuiet_c10) rfl ?_
  refine regI hl (Eq.mpr (sounderlaw10_PersistQuiet_g90_e _ (fun i => l.getD i undef) _) h) ?_
  clear h hl
  intro l H hl h
  refine thenN ?_
  refine blockI (c := sounderlaw10_PersistQuiet_c12) rfl ?_
  obtain ⟨I, μ, h0, hr⟩ := h
  refine loopI (c := sounderlaw10_PersistQuiet_c13) rfl (fun l' H' => l'.getD 2 undef = l.getD 2 undef ∧ l'.getD 7 undef = l.getD 7 undef ∧ l'.getD 8 undef = l.getD 8 undef ∧ I (l'.getD 9 undef) (l'.getD 10 undef) H') (fun l' H' => μ (l'.getD 9 undef) (l'.getD 10 undef) H') hl ⟨rfl, rfl, rfl, h0⟩ ?_
  rintro l1 H1 hl1 ⟨e2, e7, e8, hI⟩
  have hb := hr (l1.getD 9 undef) (l1.getD 10 undef) H1 hI
  rw [← e2, ← e7, ← e8] at hb
  refine wpE_mono _ l1 H1 hl1 ?_ (sounderlaw10_PersistQuiet_s91_i _ R l1 H1 hl1 hb)
  intro e l2 H2 hl2 hq
  cases e with
  | normal => exact fun _ => (by obtain ⟨d2, d7, d8, g1, g2⟩ := hq; exact ⟨⟨d2.trans e2, d7.trans e7, d8.trans e8, g1⟩, g2⟩)
  | _ => exact hq
theorem sounderlaw10_PersistQuiet_ok : okB sounderlaw10_PersistQuiet_pi sounderlaw10_PersistQuiet_c1 = true := by kernel_rfl
theorem sounderlaw10_PersistQuiet_ev0 (x0 x1 x2 : Value) (R : Value → Heap → Prop) (H : Heap) (h : sounderlaw10_PersistQuiet x0 x1 x2 R H) : EvL P N.sounderlaw10_PersistQuiet #[x0, x1, x2] H R :=
  EvF_intro (args := [x0, x1, x2]) (k := 136) (rs := sounderlaw10_PersistQuiet_rs) tab_ok mixed Try.func7 (show Try.f7.body = some sounderlaw10_PersistQuiet_c1 by kernel_rfl) Try.call7 Try.ntmps7 (by kernel_rfl) (okCode_of _ sounderlaw10_PersistQuiet_ok) rfl (sounderlaw10_PersistQuiet_i R x0 x1 x2 H h)
theorem sounderlaw10_PersistQuiet_ev (x0 x1 x2 : Value) (R : Value → Heap → Prop) (H : Heap) (h : sounderlaw10_PersistQuiet x0 x1 x2 R H) : EvF P N.sounderlaw10_PersistQuiet #[x0, x1, x2] H R := .inl (sounderlaw10_PersistQuiet_ev0 x0 x1 x2 R H h)
/- 8: sounder/sounderlaw10.made -/
def sounderlaw10_made_rs : List ResultVar := [.tmp 2]
noncomputable def sounderlaw10_made_c2 : Code := subC (bodyC Try.f8) [0]
noncomputable def sounderlaw10_made_c4 : Code := subC (bodyC Try.f8) [1, 0]
noncomputable def sounderlaw10_made_c6 : Code := subC (bodyC Try.f8) [1, 1, 0]
noncomputable def sounderlaw10_made_c9 : Code := subC (bodyC Try.f8) [1, 1, 1, 0, 0]
noncomputable def sounderlaw10_made_c14 : Code := subC (bodyC Try.f8) [1, 1, 1, 0, 1, 0, 0, 0, 0]
noncomputable def sounderlaw10_made_c16 : Code := .exit 0
noncomputable def sounderlaw10_made_c15 : Code := .cond (.tmp 15) Code.skip sounderlaw10_made_c16
noncomputable def sounderlaw10_made_c13 : Code := .seq sounderlaw10_made_c14 sounderlaw10_made_c15
noncomputable def sounderlaw10_made_c20 : Code := subC (bodyC Try.f8) [1, 1, 1, 0, 1, 0, 0, 1, 0, 0, 0]
noncomputable def sounderlaw10_made_c22 : Code := subC (bodyC Try.f8) [1, 1, 1, 0, 1, 0, 0, 1, 0, 0, 1, 0]
noncomputable def sounderlaw10_made_c24 : Code := subC (bodyC Try.f8) [1, 1, 1, 0, 1, 0, 0, 1, 0, 0, 1, 1, 0]
noncomputable def sounderlaw10_made_c25 : Code := subC (bodyC Try.f8) [1, 1, 1, 0, 1, 0, 0, 1, 0, 0, 1, 1, 1]
noncomputable def sounderlaw10_made_c23 : Code := .seq sounderlaw10_made_c24 sounderlaw10_made_c25
noncomputable def sounderlaw10_made_c21 : Code := .seq sounderlaw10_made_c22 sounderlaw10_made_c23
noncomputable def sounderlaw10_made_c19 : Code := .seq sounderlaw10_made_c20 sounderlaw10_made_c21
noncomputable def sounderlaw10_made_c18 : Code := .block 1 sounderlaw10_made_c19
noncomputable def sounderlaw10_made_c26 : Code := subC (bodyC Try.f8) [1, 1, 1, 0, 1, 0, 0, 1, 1]
noncomputable def sounderlaw10_made_c17 : Code := .seq sounderlaw10_made_c18 sounderlaw10_made_c26
noncomputable def sounderlaw10_made_c12 : Code := .seq sounderlaw10_made_c13 sounderlaw10_made_c17
noncomputable def sounderlaw10_made_c11 : Code := .loop sounderlaw10_made_c12
noncomputable def sounderlaw10_made_c10 : Code := .block 0 sounderlaw10_made_c11
noncomputable def sounderlaw10_made_c8 : Code := .seq sounderlaw10_made_c9 sounderlaw10_made_c10
noncomputable def sounderlaw10_made_c28 : Code := subC (bodyC Try.f8) [1, 1, 1, 1, 0]
noncomputable def sounderlaw10_made_c27 : Code := .seq sounderlaw10_made_c28 Code.ret
noncomputable def sounderlaw10_made_c7 : Code := .seq sounderlaw10_made_c8 sounderlaw10_made_c27
noncomputable def sounderlaw10_made_c5 : Code := .seq sounderlaw10_made_c6 sounderlaw10_made_c7
noncomputable def sounderlaw10_made_c3 : Code := .seq sounderlaw10_made_c4 sounderlaw10_made_c5
noncomputable def sounderlaw10_made_c1 : Code := .seq sounderlaw10_made_c2 sounderlaw10_made_c3
def sounderlaw10_made_pi (i : Nat) : Pl := match i with
  | 6 => (ones [0, 1, 2, 3, 4, 5, 6, 9, 10, 11, 12, 13, 14, 7, 8, 15, 16, 17, 18] .nil)
  | _ => .nil
def sounderlaw10_made_g29 (S : Value → Heap → Prop) (x0 : Value) (H : Heap) : Prop :=
  S x0 H
theorem sounderlaw10_made_g29_e (S : Value → Heap → Prop) (x : Nat → Value) (H : Heap) : wpE tab P sounderlaw10_made_pi sounderlaw10_made_c2 (nQ fun l H => S (l.getD 0 undef) H) ((List.range 51).map x) H = sounderlaw10_made_g29 S (x 0) H := by kernel_rfl
def sounderlaw10_made_g30 (S : Value → Value → Heap → Prop) (x0 : Value) (H : Heap) : Prop :=
  S x0 (.slice none 0 0) H
theorem sounderlaw10_made_g30_e (S : Value → Value → Heap → Prop) (x : Nat → Value) (H : Heap) : wpE tab P sounderlaw10_made_pi sounderlaw10_made_c4 (nQ fun l H => S (l.getD 0 undef) (l.getD 3 undef) H) ((List.range 51).map x) H = sounderlaw10_made_g30 S (x 0) H := by kernel_rfl
def sounderlaw10_made_g31 (S : Value → Value → Value → Value → Heap → Prop) (x0 x3 : Value) (H : Heap) : Prop :=
  S x0 x3 (.int .i64 0) (.int .i64 0) H
theorem sounderlaw10_made_g31_e (S : Value → Value → Value → Value → Heap → Prop) (x : Nat → Value) (H : Heap) : wpE tab P sounderlaw10_made_pi sounderlaw10_made_c6 (nQ fun l H => S (l.getD 0 undef) (l.getD 3 undef) (l.getD 4 undef) (l.getD 5 undef) H) ((List.range 51).map x) H = sounderlaw10_made_g31 S (x 0) (x 3) H := by kernel_rfl
def sounderlaw10_made_g32 (S : Value → Value → Value → Value → Value → Heap → Prop) (x0 x3 x4 x5 : Value) (H : Heap) : Prop :=
  S x0 x3 x4 x5 (.int .i64 0) H
theorem sounderlaw10_made_g32_e (S : Value → Value → Value → Value → Value → Heap → Prop) (x : Nat → Value) (H : Heap) : wpE tab P sounderlaw10_made_pi sounderlaw10_made_c9 (nQ fun l H => S (l.getD 0 undef) (l.getD 3 undef) (l.getD 4 undef) (l.getD 5 undef) (l.getD 6 undef) H) ((List.range 51).map x) H = sounderlaw10_made_g32 S (x 0) (x 3) (x 4) (x 5) H := by kernel_rfl
def sounderlaw10_made_g34 (S : Value → Value → Value → Value → Value → Value → Heap → Prop) (x0 x3 x4 x5 x6 : Value) (H : Heap) : Prop :=
  bnd (lenV x0) fun v10 =>
  bnd (binV .int .lss x6 v10) fun v11 =>
  brV v11
  (bnd (binV .int .lss x6 (.int .i64 40)) fun v14 =>
  S x0 x3 x4 x5 x6 v14 H)
  (S x0 x3 x4 x5 x6 (.bool false) H)
theorem sounderlaw10_made_g34_e (S : Value → Value → Value → Value → Value → Value → Heap → Prop) (x : Nat → Value) (H : Heap) : wpE tab P sounderlaw10_made_pi sounderlaw10_made_c14 (nQ fun l H => S (l.getD 0 undef) (l.getD 3 undef) (l.getD 4 undef) (l.getD 5 undef) (l.getD 6 undef) (l.getD 15 undef) H) ((List.range 51).map x) H = sounderlaw10_made_g34 S (x 0) (x 3) (x 4) (x 5) (x 6) H := by kernel_rfl
def sounderlaw10_made_g35 (S : Value → Value → Value → Value → Value → Heap → Prop) (x0 x3 x4 x5 x6 : Value) (H : Heap) : Prop :=
  bnd (binV .int .add x4 (.int .i64 1)) fun v19 =>
  bnd (ixSV 3 x0 x6) fun v22 =>
  bnd (faV 0 v22) fun v23 =>
  bnd (ldE false 1 v23 H) fun v24 =>
  bnd (ixSV 3 x0 x6) fun v30 =>
  bnd (faV 1 v30) fun v31 =>
  bnd (ldE false 1 v31 H) fun v32 =>
  EvF P N.sounderref00_Bring #[v24, (.int .i64 3)] H fun v25 H1 =>
  ((bnd (ldE false 1 v31 H1) fun v' => v' = v32) ∧
  bnd (binV .int .add v19 v25) fun v26 =>
  EvF P N.sounderref00_Bring #[v32, (.int .i64 17179869184)] H1 fun v33 H2 =>
  bnd (binV .int .add x5 v33) fun v34 =>
  S x0 x3 v26 v34 x6 H2)
theorem sounderlaw10_made_g35_e (S : Value → Value → Value → Value → Value → Heap → Prop) (x : Nat → Value) (H : Heap) : wpE tab P sounderlaw10_made_pi sounderlaw10_made_c20 (nQ fun l H => S (l.getD 0 undef) (l.getD 3 undef) (l.getD 4 undef) (l.getD 5 undef) (l.getD 6 undef) H) ((List.range 51).map x) H = sounderlaw10_made_g35 S (x 0) (x 3) (x 4) (x 5) (x 6) H := by kernel_rfl
def sounderlaw10_made_g36 (S : Value → Value → Value → Value → Value → Value → Heap → Prop) (x0 x3 x4 x5 x6 : Value) (H : Heap) : Prop :=
  EvF P N.sounderlaw10_at #[x4, x5] H fun v37 H1 =>
  newE 38 #[(.int .i64 0), (.int .i64 0), (.int .i64 0), (.bool false), (.bool false), (.bool false)] H1 fun v7 H2 =>
  bnd (stE 6 v7 v37 H2) fun H3 =>
  S x0 x3 x4 x5 x6 v7 H3
theorem sounderlaw10_made_g36_e (S : Value → Value → Value → Value → Value → Value → Heap → Prop) (x : Nat → Value) (H : Heap) : wpE tab P sounderlaw10_made_pi sounderlaw10_made_c22 (nQ fun l H => S (l.getD 0 undef) (l.getD 3 undef) (l.getD 4 undef) (l.getD 5 undef) (l.getD 6 undef) (l.getD 7 undef) H) ((List.range 51).map x) H = sounderlaw10_made_g36 S (x 0) (x 3) (x 4) (x 5) (x 6) H := by kernel_rfl
def sounderlaw10_made_g37 (S : Value → Value → Value → Value → Value → Value → Heap → Prop) (x0 x3 x4 x5 x6 x7 : Value) (H : Heap) : Prop :=
  bnd (ixSV 3 x0 x6) fun v40 =>
  bnd (faV 2 v40) fun v41 =>
  bnd (ldE false 1 v41 H) fun v42 =>
  EvF P N.sounderref00_Bring #[v42, (.int .i64 4)] H fun v43 H1 =>
  bnd (binV .int .neq v43 (.int .i64 0)) fun v44 =>
  bnd (faV 3 x7) fun v45 =>
  bnd (stE 1 v45 v44 H1) fun H2 =>
  S x0 x3 x4 x5 x6 x7 H2
theorem sounderlaw10_made_g37_e (S : Value → Value → Value → Value → Value → Value → Heap → Prop) (x : Nat → Value) (H : Heap) : wpE tab P sounderlaw10_made_pi sounderlaw10_made_c24 (nQ fun l H => S (l.getD 0 undef) (l.getD 3 undef) (l.getD 4 undef) (l.getD 5 undef) (l.getD 6 undef) (l.getD 7 undef) H) ((List.range 51).map x) H = sounderlaw10_made_g37 S (x 0) (x 3) (x 4) (x 5) (x 6) (x 7) H := by kernel_rfl
def sounderlaw10_made_g38 (S : Value → Value → Value → Value → Value → Heap → Prop) (x0 x3 x4 x5 x6 x7 : Value) (H : Heap) : Prop :=
  bnd (ldE true 6 x7 H) fun v47 =>
  bslE 38 #[(.int .i64 0), (.int .i64 0), (.int .i64 0), (.bool false), (.bool false), (.bool false)] 6 1 [(0, v47)] H fun v48 H1 =>
  appE 38 #[(.int .i64 0), (.int .i64 0), (.int .i64 0), (.bool false), (.bool false), (.bool false)] 6 32 x3 v48 H1 fun v49 H2 =>
  S x0 v49 x4 x5 x6 H2
theorem sounderlaw10_made_g38_e (S : Value → Value → Value → Value → Value → Heap → Prop) (x : Nat → Value) (H : Heap) : wpE tab P sounderlaw10_made_pi sounderlaw10_made_c25 (nQ fun l H => S (l.getD 0 undef) (l.getD 3 undef) (l.getD 4 undef) (l.getD 5 undef) (l.getD 6 undef) H) ((List.range 51).map x) H = sounderlaw10_made_g38 S (x 0) (x 3) (x 4) (x 5) (x 6) (x 7) H := by kernel_rfl
def sounderlaw10_made_g39 (S : Value → Value → Value → Value → Value → Heap → Prop) (x0 x3 x4 x5 x6 : Value) (H : Heap) : Prop :=
  bnd (binV .int .add x6 (.int .i64 1)) fun v17 =>
  S x0 x3 x4 x5 v17 H
theorem sounderlaw10_made_g39_e (S : Value → Value → Value → Value → Value → Heap → Prop) (x : Nat → Value) (H : Heap) : wpE tab P sounderlaw10_made_pi sounderlaw10_made_c26 (nQ fun l H => S (l.getD 0 undef) (l.getD 3 undef) (l.getD 4 undef) (l.getD 5 undef) (l.getD 6 undef) H) ((List.range 51).map x) H = sounderlaw10_made_g39 S (x 0) (x 3) (x 4) (x 5) (x 6) H := by kernel_rfl
def sounderlaw10_made_g40 (S : Value → Heap → Prop) (x3 : Value) (H : Heap) : Prop :=
  S x3 H
theorem sounderlaw10_made_g40_e (S : Value → Heap → Prop) (x : Nat → Value) (H : Heap) : wpE tab P sounderlaw10_made_pi sounderlaw10_made_c28 (nQ fun l H => S (l.getD 2 undef) H) ((List.range 51).map x) H = sounderlaw10_made_g40 S (x 3) H := by kernel_rfl
def sounderlaw10_made_s33 (x0 x3 x4 x5 x6 : Value) (K1 : Value → Value → Value → Value → Value →  Heap → Prop) (R : Value → Heap → Prop) (H : Heap) : Prop :=
  sounderlaw10_made_g34 (fun x0 x3 x4 x5 x6 x15 H => brV x15
  (sounderlaw10_made_g35 (fun x0 x3 x4 x5 x6 H => sounderlaw10_made_g36 (fun x0 x3 x4 x5 x6 x7 H => sounderlaw10_made_g37 (fun x0 x3 x4 x5 x6 x7 H => sounderlaw10_made_g38 (fun x0 x3 x4 x5 x6 H => sounderlaw10_made_g39 (fun x0 x3 x4 x5 x6 H => K1 x0 x3 x4 x5 x6 H) x0 x3 x4 x5 x6 H) x0 x3 x4 x5 x6 x7 H) x0 x3 x4 x5 x6 x7 H) x0 x3 x4 x5 x6 H) x0 x3 x4 x5 x6 H)
  (sounderlaw10_made_g40 (fun x2 H => R x2 H) x3 H)) x0 x3 x4 x5 x6 H
noncomputable def sounderlaw10_made_q41 (R : Value → Heap → Prop) : Exit → List Value → Heap → Prop := (retQ tab sounderlaw10_made_rs R)
noncomputable def sounderlaw10_made_q42 (R : Value → Heap → Prop) : Exit → List Value → Heap → Prop := (thenE (fun l H => wpE tab P sounderlaw10_made_pi sounderlaw10_made_c27 (sounderlaw10_made_q41 R) l H) (sounderlaw10_made_q41 R))
noncomputable def sounderlaw10_made_q43 (R : Value → Heap → Prop) : Exit → List Value → Heap → Prop := (blkE 0 (sounderlaw10_made_q42 R))
noncomputable def sounderlaw10_made_q44 (K1 : Value → Value → Value → Value → Value →  Heap → Prop) (R : Value → Heap → Prop) : Exit → List Value → Heap → Prop := (thenE (fun l H => K1 (l.getD 0 undef) (l.getD 3 undef) (l.getD 4 undef) (l.getD 5 undef) (l.getD 6 undef) H) (sounderlaw10_made_q43 R))
theorem sounderlaw10_made_s33_i (K1 : Value → Value → Value → Value → Value →  Heap → Prop) (R : Value → Heap → Prop) (l : List Value) (H : Heap) (hl : l.length = 51) (h : sounderlaw10_made_s33 (l.getD 0 undef) (l.getD 3 undef) (l.getD 4 undef) (l.getD 5 undef) (l.getD 6 undef) K1 R H) : wpE tab P sounderlaw10_made_pi sounderlaw10_made_c12 (sounderlaw10_made_q44 K1 R) l H := by
  refine seqI (c := sounderlaw10_made_c12) rfl ?_
  refine seqI (c := sounderlaw10_made_c13) rfl ?_
  refine regI hl (Eq.mpr (sounderlaw10_made_g34_e _ (fun i => l.getD i undef) _) h) ?_
  clear h hl
  intro l H hl h
  refine thenN ?_
  refine condI (c := sounderlaw10_made_c15) rfl h ?_ ?_
  · clear h; intro h
    refine skipI rfl ?_
    refine thenN ?_
    refine seqI (c := sounderlaw10_made_c17) rfl ?_
    refine blockI (c := sounderlaw10_made_c18) rfl ?_
    refine seqI (c := sounderlaw10_made_c19) rfl ?_
    refine regI hl (Eq.mpr (sounderlaw10_made_g35_e _ (fun i => l.getD i undef) _) h) ?_
    clear h hl
    intro l H hl h
    refine thenN ?_
    refine seqI (c := sounderlaw10_made_c21) rfl ?_
    refine regI hl (Eq.mpr (sounderlaw10_made_g36_e _ (fun i => l.getD i undef) _) h) ?_
    clear h hl
    intro l H hl h
    refine thenN ?_
    refine seqI (c := sounderlaw10_made_c23) rfl ?_
    refine regI hl (Eq.mpr (sounderlaw10_made_g37_e _ (fun i => l.getD i undef) _) h) ?_
    clear h hl
    intro l H hl h
    refine thenN ?_
    refine regI hl (Eq.mpr (sounderlaw10_made_g38_e _ (fun i => l.getD i undef) _) h) ?_
    clear h hl
    intro l H hl h
    refine blkN ?_
    refine thenN ?_
    refine regI hl (Eq.mpr (sounderlaw10_made_g39_e _ (fun i => l.getD i undef) _) h) ?_
    clear h hl
    intro l H hl h
    refine thenN ?_
    exact h
  · clear h; intro h
    refine exitI (c := sounderlaw10_made_c16) rfl ?_
    refine thenX ?_
    refine thenX ?_
    refine blkX ?_
    refine thenN ?_
    refine seqI (c := sounderlaw10_made_c27) rfl ?_
    refine regI hl (Eq.mpr (sounderlaw10_made_g40_e _ (fun i => l.getD i undef) _) h) ?_
    clear h hl
    intro l H hl h
    refine thenN ?_
    refine retI rfl ?_
    exact h
def sounderlaw10_made_l45 (x0 x3 x4 x5 x6 : Value) (R : Value → Heap → Prop) (H : Heap) : Prop :=
  ∃ (I : Value → Value → Value → Value → Heap → Prop) (μ : Value → Value → Value → Value → Heap → Nat), I x3 x4 x5 x6 H ∧ ∀ (y3 : Value) (y4 : Value) (y5 : Value) (y6 : Value) (H : Heap), I y3 y4 y5 y6 H → sounderlaw10_made_s33 x0 y3 y4 y5 y6 (fun z0 z3 z4 z5 z6 H' => z0 = x0 ∧ (I z3 z4 z5 z6 H' ∧ μ z3 z4 z5 z6 H' < μ y3 y4 y5 y6 H)) R H
def sounderlaw10_made (x0 : Value) (R : Value → Heap → Prop) (H : Heap) : Prop :=
  sounderlaw10_made_g29 (fun x0 H => sounderlaw10_made_g30 (fun x0 x3 H => sounderlaw10_made_g31 (fun x0 x3 x4 x5 H => sounderlaw10_made_g32 (fun x0 x3 x4 x5 x6 H => sounderlaw10_made_l45 x0 x3 x4 x5 x6 R H) x0 x3 x4 x5 H) x0 x3 H) x0 H) x0 H
theorem sounderlaw10_made_i (R : Value → Heap → Prop) (x0 : Value) (H : Heap) (h : sounderlaw10_made x0 R H) : wpE tab P sounderlaw10_made_pi sounderlaw10_made_c1 (retQ tab sounderlaw10_made_rs R) [x0, undef, undef, undef, undef, undef, undef, undef, undef, undef, undef, undef, undef, undef, undef, undef, undef, undef, undef, undef, undef, undef, undef, undef, undef, undef, undef, undef, undef, undef, undef, undef, undef, undef, undef, undef, undef, undef, undef, undef, undef, undef, undef, undef, undef, undef, undef, undef, undef, undef, undef] H := by
  obtain ⟨l, hl, el⟩ : ∃ l : List Value, l.length = 51 ∧ l = [x0, undef, undef, undef, undef, undef, undef, undef, undef, undef, undef, undef, undef, undef, undef, undef, undef, undef, undef, undef, undef, undef, undef, undef, undef, undef, undef, undef, undef, undef, undef, undef, undef, undef, undef, undef, undef, undef, undef, undef, undef, undef, undef, undef, undef, undef, undef, undef, undef, undef, undef] := ⟨_, rfl, rfl⟩
  rw [← el]
  have h : (fun (x0 : Value) => sounderlaw10_made_g29 (fun x0 H => sounderlaw10_made_g30 (fun x0 x3 H => sounderlaw10_made_g31 (fun x0 x3 x4 x5 H => sounderlaw10_made_g32 (fun x0 x3 x4 x5 x6 H => sounderlaw10_made_l45 x0 x3 x4 x5 x6 R H) x0 x3 x4 x5 H) x0 x3 H) x0 H) x0 H) (l.getD 0 undef) := by rw [el]; exact h
  clear el
  refine seqI (c := sounderlaw10_made_c1) rfl ?_
  refine regI hl (Eq.mpr (sounderlaw10_made_g29_e _ (fun i => l.getD i undef) _) h) ?_
  clear h hl
  intro l H hl h
  refine thenN ?_
  refine seqI (c := sounderlaw10_made_c3) rfl ?_
  refine regI hl (Eq.mpr (sounderlaw10_made_g30_e _ (fun i => l.getD i undef) _) h) ?_
  clear h hl
  intro l H hl h
  refine thenN ?_
  refine seqI (c := sounderlaw10_made_c5) rfl ?_
  refine regI hl (Eq.mpr (sounderlaw10_made_g31_e _ (fun i => l.getD i undef) _) h) ?_
  clear h hl
  intro l H hl h
  refine thenN ?_
  refine seqI (c := sounderlaw10_made_c7) rfl ?_
  refine seqI (c := sounderlaw10_made_c8) rfl ?_
  refine regI hl (Eq.mpr (sounderlaw10_made_g32_e _ (fun i => l.getD i undef) _) h) ?_
  clear h hl
  intro l H hl h
  refine thenN ?_
  refine blockI (c := sounderlaw10_made_c10) rfl ?_
  obtain ⟨I, μ, h0, hr⟩ := h
  refine loopI (c := sounderlaw10_made_c11) rfl (fun l' H' => l'.getD 0 undef = l.getD 0 undef ∧ I (l'.getD 3 undef) (l'.getD 4 undef) (l'.getD 5 undef) (l'.getD 6 undef) H') (fun l' H' => μ (l'.getD 3 undef) (l'.getD 4 undef) (l'.getD 5 undef) (l'.getD 6 undef) H') hl ⟨rfl, h0⟩ ?_
  rintro l1 H1 hl1 ⟨e0, hI⟩
  have hb := hr (l1.getD 3 undef) (l1.getD 4 undef) (l1.getD 5 undef) (l1.getD 6 undef) H1 hI
  rw [← e0] at hb
  refine wpE_mono _ l1 H1 hl1 ?_ (sounderlaw10_made_s33_i _ R l1 H1 hl1 hb)
  intro e l2 H2 hl2 hq
  cases e with
  | normal => exact fun _ => (by obtain ⟨d0, g1, g2⟩ := hq; exact ⟨⟨d0.trans e0, g1⟩, g2⟩)
  | _ => exact hq
theorem sounderlaw10_made_ok : okB sounderlaw10_made_pi sounderlaw10_made_c1 = true := by kernel_rfl
theorem sounderlaw10_made_ev0 (x0 : Value) (R : Value → Heap → Prop) (H : Heap) (h : sounderlaw10_made x0 R H) : EvL P N.sounderlaw10_made #[x0] H R :=
  EvF_intro (args := [x0]) (k := 50) (rs := sounderlaw10_made_rs) tab_ok mixed Try.func8 (show Try.f8.body = some sounderlaw10_made_c1 by kernel_rfl) Try.call8 Try.ntmps8 (by kernel_rfl) (okCode_of _ sounderlaw10_made_ok) rfl (sounderlaw10_made_i R x0 H h)
theorem sounderlaw10_made_ev (x0 : Value) (R : Value → Heap → Prop) (H : Heap) (h : sounderlaw10_made x0 R H) : EvF P N.sounderlaw10_made #[x0] H R := .inl (sounderlaw10_made_ev0 x0 R H h)
/- 9: sounder/sounderref00.Bring -/
def sounderref00_Bring_rs : List ResultVar := [.tmp 4]
noncomputable def sounderref00_Bring_c2 : Code := subC (bodyC Try.f9) [0]
noncomputable def sounderref00_Bring_c4 : Code := subC (bodyC Try.f9) [1, 0]
noncomputable def sounderref00_Bring_c7 : Code := subC (bodyC Try.f9) [1, 1, 0, 0]
noncomputable def sounderref00_Bring_c9 : Code := subC (bodyC Try.f9) [1, 1, 0, 1, 0]
noncomputable def sounderref00_Bring_c8 : Code := .cond (.tmp 9) sounderref00_Bring_c9 Code.skip
noncomputable def sounderref00_Bring_c6 : Code := .seq sounderref00_Bring_c7 sounderref00_Bring_c8
noncomputable def sounderref00_Bring_c11 : Code := subC (bodyC Try.f9) [1, 1, 1, 0]
noncomputable def sounderref00_Bring_c10 : Code := .seq sounderref00_Bring_c11 Code.ret
noncomputable def sounderref00_Bring_c5 : Code := .seq sounderref00_Bring_c6 sounderref00_Bring_c10
noncomputable def sounderref00_Bring_c3 : Code := .seq sounderref00_Bring_c4 sounderref00_Bring_c5
noncomputable def sounderref00_Bring_c1 : Code := .seq sounderref00_Bring_c2 sounderref00_Bring_c3
def sounderref00_Bring_pi (_ : Nat) : Pl := .nil
def sounderref00_Bring_g12 (S : Value → Value → Heap → Prop) (x0 x1 : Value) (H : Heap) : Prop :=
  S x0 x1 H
theorem sounderref00_Bring_g12_e (S : Value → Value → Heap → Prop) (x : Nat → Value) (H : Heap) : wpE tab P sounderref00_Bring_pi sounderref00_Bring_c2 (nQ fun l H => S (l.getD 0 undef) (l.getD 1 undef) H) ((List.range 14).map x) H = sounderref00_Bring_g12 S (x 0) (x 1) H := by kernel_rfl
def sounderref00_Bring_g13 (S : Value → Value → Heap → Prop) (x0 x1 : Value) (H : Heap) : Prop :=
  bnd (binV .int .rem x0 x1) fun v7 =>
  S v7 x1 H
theorem sounderref00_Bring_g13_e (S : Value → Value → Heap → Prop) (x : Nat → Value) (H : Heap) : wpE tab P sounderref00_Bring_pi sounderref00_Bring_c4 (nQ fun l H => S (l.getD 0 undef) (l.getD 1 undef) H) ((List.range 14).map x) H = sounderref00_Bring_g13 S (x 0) (x 1) H := by kernel_rfl
def sounderref00_Bring_g15 (S : Value → Heap → Prop) (x0 : Value) (H : Heap) : Prop :=
  S x0 H
theorem sounderref00_Bring_g15_e (S : Value → Heap → Prop) (x : Nat → Value) (H : Heap) : wpE tab P sounderref00_Bring_pi sounderref00_Bring_c11 (nQ fun l H => S (l.getD 4 undef) H) ((List.range 14).map x) H = sounderref00_Bring_g15 S (x 0) H := by kernel_rfl
def sounderref00_Bring_s14 (x0 : Value) (R : Value → Heap → Prop) (H : Heap) : Prop :=
  sounderref00_Bring_g15 (fun x4 H => R x4 H) x0 H
noncomputable def sounderref00_Bring_q16 (R : Value → Heap → Prop) : Exit → List Value → Heap → Prop := (retQ tab sounderref00_Bring_rs R)
theorem sounderref00_Bring_s14_i (R : Value → Heap → Prop) (l : List Value) (H : Heap) (hl : l.length = 14) (h : sounderref00_Bring_s14 (l.getD 0 undef) R H) : wpE tab P sounderref00_Bring_pi sounderref00_Bring_c10 (sounderref00_Bring_q16 R) l H := by
  refine seqI (c := sounderref00_Bring_c10) rfl ?_
  refine regI hl (Eq.mpr (sounderref00_Bring_g15_e _ (fun i => l.getD i undef) _) h) ?_
  clear h hl
  intro l H hl h
  refine thenN ?_
  refine retI rfl ?_
  exact h
def sounderref00_Bring_g17 (S : Value → Value → Value → Heap → Prop) (x0 x1 : Value) (H : Heap) : Prop :=
  bnd (binV .int .lss x0 (.int .i64 0)) fun v9 =>
  S x0 x1 v9 H
theorem sounderref00_Bring_g17_e (S : Value → Value → Value → Heap → Prop) (x : Nat → Value) (H : Heap) : wpE tab P sounderref00_Bring_pi sounderref00_Bring_c7 (nQ fun l H => S (l.getD 0 undef) (l.getD 1 undef) (l.getD 9 undef) H) ((List.range 14).map x) H = sounderref00_Bring_g17 S (x 0) (x 1) H := by kernel_rfl
def sounderref00_Bring_g18 (S : Value → Heap → Prop) (x0 x1 : Value) (H : Heap) : Prop :=
  bnd (binV .int .add x0 x1) fun v12 =>
  S v12 H
theorem sounderref00_Bring_g18_e (S : Value → Heap → Prop) (x : Nat → Value) (H : Heap) : wpE tab P sounderref00_Bring_pi sounderref00_Bring_c9 (nQ fun l H => S (l.getD 0 undef) H) ((List.range 14).map x) H = sounderref00_Bring_g18 S (x 0) (x 1) H := by kernel_rfl
def sounderref00_Bring (x0 x1 : Value) (R : Value → Heap → Prop) (H : Heap) : Prop :=
  sounderref00_Bring_g12 (fun x0 x1 H => sounderref00_Bring_g13 (fun x0 x1 H => sounderref00_Bring_g17 (fun x0 x1 x9 H => brV x9
  (sounderref00_Bring_g18 (fun x0 H => sounderref00_Bring_s14 x0 R H) x0 x1 H)
  (sounderref00_Bring_s14 x0 R H)) x0 x1 H) x0 x1 H) x0 x1 H
theorem sounderref00_Bring_i (R : Value → Heap → Prop) (x0 x1 : Value) (H : Heap) (h : sounderref00_Bring x0 x1 R H) : wpE tab P sounderref00_Bring_pi sounderref00_Bring_c1 (retQ tab sounderref00_Bring_rs R) [x0, x1, undef, undef, undef, undef, undef, undef, undef, undef, undef, undef, undef, undef] H := by
  obtain ⟨l, hl, el⟩ : ∃ l : List Value, l.length = 14 ∧ l = [x0, x1, undef, undef, undef, undef, undef, undef, undef, undef, undef, undef, undef, undef] := ⟨_, rfl, rfl⟩
  rw [← el]
  have h : (fun (x0 x1 : Value) => sounderref00_Bring_g12 (fun x0 x1 H => sounderref00_Bring_g13 (fun x0 x1 H => sounderref00_Bring_g17 (fun x0 x1 x9 H => brV x9
(sounderref00_Bring_g18 (fun x0 H => sounderref00_Bring_s14 x0 R H) x0 x1 H)
(sounderref00_Bring_s14 x0 R H)) x0 x1 H) x0 x1 H) x0 x1 H) (l.getD 0 undef) (l.getD 1 undef) := by rw [el]; exact h
  clear el
  refine seqI (c := sounderref00_Bring_c1) rfl ?_
  refine regI hl (Eq.mpr (sounderref00_Bring_g12_e _ (fun i => l.getD i undef) _) h) ?_
  clear h hl
  intro l H hl h
  refine thenN ?_
  refine seqI (c := sounderref00_Bring_c3) rfl ?_
  refine regI hl (Eq.mpr (sounderref00_Bring_g13_e _ (fun i => l.getD i undef) _) h) ?_
  clear h hl
  intro l H hl h
  refine thenN ?_
  refine seqI (c := sounderref00_Bring_c5) rfl ?_
  refine seqI (c := sounderref00_Bring_c6) rfl ?_
  refine regI hl (Eq.mpr (sounderref00_Bring_g17_e _ (fun i => l.getD i undef) _) h) ?_
  clear h hl
  intro l H hl h
  refine thenN ?_
  refine condI (c := sounderref00_Bring_c8) rfl h ?_ ?_
  · clear h; intro h
    refine regI hl (Eq.mpr (sounderref00_Bring_g18_e _ (fun i => l.getD i undef) _) h) ?_
    clear h hl
    intro l H hl h
    refine thenN ?_
    exact sounderref00_Bring_s14_i R l H hl h
  · clear h; intro h
    refine skipI rfl ?_
    refine thenN ?_
    exact sounderref00_Bring_s14_i R l H hl h
theorem sounderref00_Bring_ok : okB sounderref00_Bring_pi sounderref00_Bring_c1 = true := by kernel_rfl
theorem sounderref00_Bring_ev0 (x0 x1 : Value) (R : Value → Heap → Prop) (H : Heap) (h : sounderref00_Bring x0 x1 R H) : EvL P N.sounderref00_Bring #[x0, x1] H R :=
  EvF_intro (args := [x0, x1]) (k := 12) (rs := sounderref00_Bring_rs) tab_ok mixed Try.func9 (show Try.f9.body = some sounderref00_Bring_c1 by kernel_rfl) Try.call9 Try.ntmps9 (by kernel_rfl) (okCode_of _ sounderref00_Bring_ok) rfl (sounderref00_Bring_i R x0 x1 H h)
theorem sounderref00_Bring_ev (x0 x1 : Value) (R : Value → Heap → Prop) (H : Heap) (h : sounderref00_Bring x0 x1 R H) : EvF P N.sounderref00_Bring #[x0, x1] H R := .inl (sounderref00_Bring_ev0 x0 x1 R H h)
/- 10: sounder/sounderlaw10.marks -/
def sounderlaw10_marks_rs : List ResultVar := [.tmp 2]
noncomputable def sounderlaw10_marks_c2 : Code := subC (bodyC Try.f10) [0]
noncomputable def sounderlaw10_marks_c4 : Code := subC (bodyC Try.f10) [1, 0]
noncomputable def sounderlaw10_marks_c7 : Code := subC (bodyC Try.f10) [1, 1, 0, 0]
noncomputable def sounderlaw10_marks_c12 : Code := subC (bodyC Try.f10) [1, 1, 0, 1, 0, 0, 0, 0]
noncomputable def sounderlaw10_marks_c14 : Code := .exit 0
noncomputable def sounderlaw10_marks_c13 : Code := .cond (.tmp 14) Code.skip sounderlaw10_marks_c14
noncomputable def sounderlaw10_marks_c11 : Code := .seq sounderlaw10_marks_c12 sounderlaw10_marks_c13
noncomputable def sounderlaw10_marks_c18 : Code := subC (bodyC Try.f10) [1, 1, 0, 1, 0, 0, 1, 0, 0, 0]
noncomputable def sounderlaw10_marks_c19 : Code := subC (bodyC Try.f10) [1, 1, 0, 1, 0, 0, 1, 0, 0, 1]
noncomputable def sounderlaw10_marks_c17 : Code := .seq sounderlaw10_marks_c18 sounderlaw10_marks_c19
noncomputable def sounderlaw10_marks_c16 : Code := .block 1 sounderlaw10_marks_c17
noncomputable def sounderlaw10_marks_c20 : Code := subC (bodyC Try.f10) [1, 1, 0, 1, 0, 0, 1, 1]
noncomputable def sounderlaw10_marks_c15 : Code := .seq sounderlaw10_marks_c16 sounderlaw10_marks_c20
noncomputable def sounderlaw10_marks_c10 : Code := .seq sounderlaw10_marks_c11 sounderlaw10_marks_c15
noncomputable def sounderlaw10_marks_c9 : Code := .loop sounderlaw10_marks_c10
noncomputable def sounderlaw10_marks_c8 : Code := .block 0 sounderlaw10_marks_c9
noncomputable def sounderlaw10_marks_c6 : Code := .seq sounderlaw10_marks_c7 sounderlaw10_marks_c8
noncomputable def sounderlaw10_marks_c22 : Code := subC (bodyC Try.f10) [1, 1, 1, 0]
noncomputable def sounderlaw10_marks_c21 : Code := .seq sounderlaw10_marks_c22 Code.ret
noncomputable def sounderlaw10_marks_c5 : Code := .seq sounderlaw10_marks_c6 sounderlaw10_marks_c21
noncomputable def sounderlaw10_marks_c3 : Code := .seq sounderlaw10_marks_c4 sounderlaw10_marks_c5
noncomputable def sounderlaw10_marks_c1 : Code := .seq sounderlaw10_marks_c2 sounderlaw10_marks_c3
def sounderlaw10_marks_pi (_ : Nat) : Pl := .nil
def sounderlaw10_marks_g23 (S : Value → Heap → Prop) (x0 : Value) (H : Heap) : Prop :=
  S x0 H
theorem sounderlaw10_marks_g23_e (S : Value → Heap → Prop) (x : Nat → Value) (H : Heap) : wpE tab P sounderlaw10_marks_pi sounderlaw10_marks_c2 (nQ fun l H => S (l.getD 0 undef) H) ((List.range 27).map x) H = sounderlaw10_marks_g23 S (x 0) H := by kernel_rfl
def sounderlaw10_marks_g24 (S : Value → Value → Heap → Prop) (x0 : Value) (H : Heap) : Prop :=
  EvF P N.sounderlaw10_set #[(.slice none 0 0)] H fun v6 H1 =>
  S x0 v6 H1
theorem sounderlaw10_marks_g24_e (S : Value → Value → Heap → Prop) (x : Nat → Value) (H : Heap) : wpE tab P sounderlaw10_marks_pi sounderlaw10_marks_c4 (nQ fun l H => S (l.getD 0 undef) (l.getD 3 undef) H) ((List.range 27).map x) H = sounderlaw10_marks_g24 S (x 0) H := by kernel_rfl
def sounderlaw10_marks_g25 (S : Value → Value → Value → Heap → Prop) (x0 x3 : Value) (H : Heap) : Prop :=
  S x0 x3 (.int .i64 0) H
theorem sounderlaw10_marks_g25_e (S : Value → Value → Value → Heap → Prop) (x : Nat → Value) (H : Heap) : wpE tab P sounderlaw10_marks_pi sounderlaw10_marks_c7 (nQ fun l H => S (l.getD 0 undef) (l.getD 3 undef) (l.getD 4 undef) H) ((List.range 27).map x) H = sounderlaw10_marks_g25 S (x 0) (x 3) H := by kernel_rfl
def sounderlaw10_marks_g27 (S : Value → Value → Value → Value → Heap → Prop) (x0 x3 x4 : Value) (H : Heap) : Prop :=
  bnd (lenV x0) fun v9 =>
  bnd (binV .int .lss x4 v9) fun v10 =>
  brV v10
  (bnd (binV .int .lss x4 (.int .i64 40)) fun v13 =>
  S x0 x3 x4 v13 H)
  (S x0 x3 x4 (.bool false) H)
theorem sounderlaw10_marks_g27_e (S : Value → Value → Value → Value → Heap → Prop) (x : Nat → Value) (H : Heap) : wpE tab P sounderlaw10_marks_pi sounderlaw10_marks_c12 (nQ fun l H => S (l.getD 0 undef) (l.getD 3 undef) (l.getD 4 undef) (l.getD 14 undef) H) ((List.range 27).map x) H = sounderlaw10_marks_g27 S (x 0) (x 3) (x 4) H := by kernel_rfl
def sounderlaw10_marks_g28 (S : Value → Value → Value → Value → Heap → Prop) (x0 x3 x4 : Value) (H : Heap) : Prop :=
  bnd (ixSV 1 x0 x4) fun v19 =>
  bnd (ldE false 1 v19 H) fun v20 =>
  EvF P N.sounderref00_Bring #[v20, (.int .i64 200)] H fun v21 H1 =>
  S x0 x3 x4 v21 H1
theorem sounderlaw10_marks_g28_e (S : Value → Value → Value → Value → Heap → Prop) (x : Nat → Value) (H : Heap) : wpE tab P sounderlaw10_marks_pi sounderlaw10_marks_c18 (nQ fun l H => S (l.getD 0 undef) (l.getD 3 undef) (l.getD 4 undef) (l.getD 5 undef) H) ((List.range 27).map x) H = sounderlaw10_marks_g28 S (x 0) (x 3) (x 4) H := by kernel_rfl
def sounderlaw10_marks_g29 (S : Value → Value → Value → Heap → Prop) (x0 x3 x4 x5 : Value) (H : Heap) : Prop :=
  EvF P N.span_Set_Add #[x3, x5, x5] H fun _ H1 =>
  S x0 x3 x4 H1
theorem sounderlaw10_marks_g29_e (S : Value → Value → Value → Heap → Prop) (x : Nat → Value) (H : Heap) : wpE tab P sounderlaw10_marks_pi sounderlaw10_marks_c19 (nQ fun l H => S (l.getD 0 undef) (l.getD 3 undef) (l.getD 4 undef) H) ((List.range 27).map x) H = sounderlaw10_marks_g29 S (x 0) (x 3) (x 4) (x 5) H := by kernel_rfl
def sounderlaw10_marks_g30 (S : Value → Value → Value → Heap → Prop) (x0 x3 x4 : Value) (H : Heap) : Prop :=
  bnd (binV .int .add x4 (.int .i64 1)) fun v16 =>
  S x0 x3 v16 H
theorem sounderlaw10_marks_g30_e (S : Value → Value → Value → Heap → Prop) (x : Nat → Value) (H : Heap) : wpE tab P sounderlaw10_marks_pi sounderlaw10_marks_c20 (nQ fun l H => S (l.getD 0 undef) (l.getD 3 undef) (l.getD 4 undef) H) ((List.range 27).map x) H = sounderlaw10_marks_g30 S (x 0) (x 3) (x 4) H := by kernel_rfl
def sounderlaw10_marks_g31 (S : Value → Heap → Prop) (x3 : Value) (H : Heap) : Prop :=
  S x3 H
theorem sounderlaw10_marks_g31_e (S : Value → Heap → Prop) (x : Nat → Value) (H : Heap) : wpE tab P sounderlaw10_marks_pi sounderlaw10_marks_c22 (nQ fun l H => S (l.getD 2 undef) H) ((List.range 27).map x) H = sounderlaw10_marks_g31 S (x 3) H := by kernel_rfl
def sounderlaw10_marks_s26 (x0 x3 x4 : Value) (K1 : Value → Value → Value →  Heap → Prop) (R : Value → Heap → Prop) (H : Heap) : Prop :=
  sounderlaw10_marks_g27 (fun x0 x3 x4 x14 H => brV x14
  (sounderlaw10_marks_g28 (fun x0 x3 x4 x5 H => sounderlaw10_marks_g29 (fun x0 x3 x4 H => sounderlaw10_marks_g30 (fun x0 x3 x4 H => K1 x0 x3 x4 H) x0 x3 x4 H) x0 x3 x4 x5 H) x0 x3 x4 H)
  (sounderlaw10_marks_g31 (fun x2 H => R x2 H) x3 H)) x0 x3 x4 H
noncomputable def sounderlaw10_marks_q32 (R : Value → Heap → Prop) : Exit → List Value → Heap → Prop := (retQ tab sounderlaw10_marks_rs R)
noncomputable def sounderlaw10_marks_q33 (R : Value → Heap → Prop) : Exit → List Value → Heap → Prop := (thenE (fun l H => wpE tab P sounderlaw10_marks_pi sounderlaw10_marks_c21 (sounderlaw10_marks_q32 R) l H) (sounderlaw10_marks_q32 R))
noncomputable def sounderlaw10_marks_q34 (R : Value → Heap → Prop) : Exit → List Value → Heap → Prop := (blkE 0 (sounderlaw10_marks_q33 R))
noncomputable def sounderlaw10_marks_q35 (K1 : Value → Value → Value →  Heap → Prop) (R : Value → Heap → Prop) : Exit → List Value → Heap → Prop := (thenE (fun l H => K1 (l.getD 0 undef) (l.getD 3 undef) (l.getD 4 undef) H) (sounderlaw10_marks_q34 R))
theorem sounderlaw10_marks_s26_i (K1 : Value → Value → Value →  Heap → Prop) (R : Value → Heap → Prop) (l : List Value) (H : Heap) (hl : l.length = 27) (h : sounderlaw10_marks_s26 (l.getD 0 undef) (l.getD 3 undef) (l.getD 4 undef) K1 R H) : wpE tab P sounderlaw10_marks_pi sounderlaw10_marks_c10 (sounderlaw10_marks_q35 K1 R) l H := by
  refine seqI (c := sounderlaw10_marks_c10) rfl ?_
  refine seqI (c := sounderlaw10_marks_c11) rfl ?_
  refine regI hl (Eq.mpr (sounderlaw10_marks_g27_e _ (fun i => l.getD i undef) _) h) ?_
  clear h hl
  intro l H hl h
  refine thenN ?_
  refine condI (c := sounderlaw10_marks_c13) rfl h ?_ ?_
  · clear h; intro h
    refine skipI rfl ?_
    refine thenN ?_
    refine seqI (c := sounderlaw10_marks_c15) rfl ?_
    refine blockI (c := sounderlaw10_marks_c16) rfl ?_
    refine seqI (c := sounderlaw10_marks_c17) rfl ?_
    refine regI hl (Eq.mpr (sounderlaw10_marks_g28_e _ (fun i => l.getD i undef) _) h) ?_
    clear h hl
    intro l H hl h
    refine thenN ?_
    refine regI hl (Eq.mpr (sounderlaw10_marks_g29_e _ (fun i => l.getD i undef) _) h) ?_
    clear h hl
    intro l H hl h
    refine blkN ?_
    refine thenN ?_
    refine regI hl (Eq.mpr (sounderlaw10_marks_g30_e _ (fun i => l.getD i undef) _) h) ?_
    clear h hl
    intro l H hl h
    refine thenN ?_
    exact h
  · clear h; intro h
    refine exitI (c := sounderlaw10_marks_c14) rfl ?_
    refine thenX ?_
    refine thenX ?_
    refine blkX ?_
    refine thenN ?_
    refine seqI (c := sounderlaw10_marks_c21) rfl ?_
    refine regI hl (Eq.mpr (sounderlaw10_marks_g31_e _ (fun i => l.getD i undef) _) h) ?_
    clear h hl
    intro l H hl h
    refine thenN ?_
    refine retI rfl ?_
    exact h
def sounderlaw10_marks_l36 (x0 x3 x4 : Value) (R : Value → Heap → Prop) (H : Heap) : Prop :=
  ∃ (I : Value → Heap → Prop) (μ : Value → Heap → Nat), I x4 H ∧ ∀ (y4 : Value) (H : Heap), I y4 H → sounderlaw10_marks_s26 x0 x3 y4 (fun z0 z3 z4 H' => z0 = x0 ∧ z3 = x3 ∧ (I z4 H' ∧ μ z4 H' < μ y4 H)) R H
def sounderlaw10_marks (x0 : Value) (R : Value → Heap → Prop) (H : Heap) : Prop :=
  sounderlaw10_marks_g23 (fun x0 H => sounderlaw10_marks_g24 (fun x0 x3 H => sounderlaw10_marks_g25 (fun x0 x3 x4 H => sounderlaw10_marks_l36 x0 x3 x4 R H) x0 x3 H) x0 H) x0 H
theorem sounderlaw10_marks_i (R : Value → Heap → Prop) (x0 : Value) (H : Heap) (h : sounderlaw10_marks x0 R H) : wpE tab P sounderlaw10_marks_pi sounderlaw10_marks_c1 (retQ tab sounderlaw10_marks_rs R) [x0, undef, undef, undef, undef, undef, undef, undef, undef, undef, undef, undef, undef, undef, undef, undef, undef, undef, undef, undef, undef, undef, undef, undef, undef, undef, undef] H := by
  obtain ⟨l, hl, el⟩ : ∃ l : List Value, l.length = 27 ∧ l = [x0, undef, undef, undef, undef, undef, undef, undef, undef, undef, undef, undef, undef, undef, undef, undef, undef, undef, undef, undef, undef, undef, undef, undef, undef, undef, undef] := ⟨_, rfl, rfl⟩
  rw [← el]
  have h : (fun (x0 : Value) => sounderlaw10_marks_g23 (fun x0 H => sounderlaw10_marks_g24 (fun x0 x3 H => sounderlaw10_marks_g25 (fun x0 x3 x4 H => sounderlaw10_marks_l36 x0 x3 x4 R H) x0 x3 H) x0 H) x0 H) (l.getD 0 undef) := by rw [el]; exact h
  clear el
  refine seqI (c := sounderlaw10_marks_c1) rfl ?_
  refine regI hl (Eq.mpr (sounderlaw10_marks_g23_e _ (fun i => l.getD i undef) _) h) ?_
  clear h hl
  intro l H hl h
  refine thenN ?_
  refine seqI (c := sounderlaw10_marks_c3) rfl ?_
  refine regI hl (Eq.mpr (sounderlaw10_marks_g24_e _ (fun i => l.getD i undef) _) h) ?_
  clear h hl
  intro l H hl h
  refine thenN ?_
  refine seqI (c := sounderlaw10_marks_c5) rfl ?_
  refine seqI (c := sounderlaw10_marks_c6) rfl ?_
  refine regI hl (Eq.mpr (sounderlaw10_marks_g25_e _ (fun i => l.getD i undef) _) h) ?_
  clear h hl
  intro l H hl h
  refine thenN ?_
  refine blockI (c := sounderlaw10_marks_c8) rfl ?_
  obtain ⟨I, μ, h0, hr⟩ := h
  refine loopI (c := sounderlaw10_marks_c9) rfl (fun l' H' => l'.getD 0 undef = l.getD 0 undef ∧ l'.getD 3 undef = l.getD 3 undef ∧ I (l'.getD 4 undef) H') (fun l' H' => μ (l'.getD 4 undef) H') hl ⟨rfl, rfl, h0⟩ ?_
  rintro l1 H1 hl1 ⟨e0, e3, hI⟩
  have hb := hr (l1.getD 4 undef) H1 hI
  rw [← e0, ← e3] at hb
  refine wpE_mono _ l1 H1 hl1 ?_ (sounderlaw10_marks_s26_i _ R l1 H1 hl1 hb)
  intro e l2 H2 hl2 hq
  cases e with
  | normal => exact fun _ => (by obtain ⟨d0, d3, g1, g2⟩ := hq; exact ⟨⟨d0.trans e0, d3.trans e3, g1⟩, g2⟩)
  | _ => exact hq
theorem sounderlaw10_marks_ok : okB sounderlaw10_marks_pi sounderlaw10_marks_c1 = true := by kernel_rfl
theorem sounderlaw10_marks_ev0 (x0 : Value) (R : Value → Heap → Prop) (H : Heap) (h : sounderlaw10_marks x0 R H) : EvL P N.sounderlaw10_marks #[x0] H R :=
  EvF_intro (args := [x0]) (k := 26) (rs := sounderlaw10_marks_rs) tab_ok mixed Try.func10 (show Try.f10.body = some sounderlaw10_marks_c1 by kernel_rfl) Try.call10 Try.ntmps10 (by kernel_rfl) (okCode_of _ sounderlaw10_marks_ok) rfl (sounderlaw10_marks_i R x0 H h)
theorem sounderlaw10_marks_ev (x0 : Value) (R : Value → Heap → Prop) (H : Heap) (h : sounderlaw10_marks x0 R H) : EvF P N.sounderlaw10_marks #[x0] H R := .inl (sounderlaw10_marks_ev0 x0 R H h)
/- 11: sounder/persist.Period -/
def persist_Period_rs : List ResultVar := [.cell 6 3, .cell 7 3, .cell 8 3, .cell 9 4]
noncomputable def persist_Period_c2 : Code := subC (bodyC Try.f11) [0]
noncomputable def persist_Period_c5 : Code := subC (bodyC Try.f11) [1, 0, 0]
noncomputable def persist_Period_c8 : Code := subC (bodyC Try.f11) [1, 0, 1, 0, 0]
noncomputable def persist_Period_c7 : Code := .seq persist_Period_c8 Code.ret
noncomputable def persist_Period_c6 : Code := .cond (.tmp 20) persist_Period_c7 Code.skip
noncomputable def persist_Period_c4 : Code := .seq persist_Period_c5 persist_Period_c6
noncomputable def persist_Period_c10 : Code := subC (bodyC Try.f11) [1, 1, 0]
noncomputable def persist_Period_c13 : Code := subC (bodyC Try.f11) [1, 1, 1, 0, 0]
noncomputable def persist_Period_c17 : Code := subC (bodyC Try.f11) [1, 1, 1, 0, 1, 0, 0, 0]
noncomputable def persist_Period_c18 : Code := subC (bodyC Try.f11) [1, 1, 1, 0, 1, 0, 0, 1]
noncomputable def persist_Period_c16 : Code := .seq persist_Period_c17 persist_Period_c18
noncomputable def persist_Period_c20 : Code := subC (bodyC Try.f11) [1, 1, 1, 0, 1, 0, 1, 0]
noncomputable def persist_Period_c19 : Code := .block 1 persist_Period_c20
noncomputable def persist_Period_c15 : Code := .rangeFunc (.tmp 25) #[26, 27] persist_Period_c16 persist_Period_c19
noncomputable def persist_Period_c14 : Code := .block 0 persist_Period_c15
noncomputable def persist_Period_c12 : Code := .seq persist_Period_c13 persist_Period_c14
noncomputable def persist_Period_c22 : Code := subC (bodyC Try.f11) [1, 1, 1, 1, 0]
noncomputable def persist_Period_c21 : Code := .seq persist_Period_c22 Code.ret
noncomputable def persist_Period_c11 : Code := .seq persist_Period_c12 persist_Period_c21
noncomputable def persist_Period_c9 : Code := .seq persist_Period_c10 persist_Period_c11
noncomputable def persist_Period_c3 : Code := .seq persist_Period_c4 persist_Period_c9
noncomputable def persist_Period_c1 : Code := .seq persist_Period_c2 persist_Period_c3
def persist_Period_pi (i : Nat) : Pl := match i with
  | 8 => (ones [0, 1, 2, 3, 4, 5, 6, 7] .nil)
  | _ => .nil
def persist_Period_g23 (S : Value → Value → Value → Value → Value → Value → Value → Heap → Prop) (x0 x1 x2 : Value) (H : Heap) : Prop :=
  newE 3 #[(.int .i64 0)] H fun v6 H1 =>
  newE 3 #[(.int .i64 0)] H1 fun v7 H2 =>
  newE 3 #[(.int .i64 0)] H2 fun v8 H3 =>
  newE 4 #[(.bool false)] H3 fun v9 H4 =>
  S x0 x1 x2 v6 v7 v8 v9 H4
theorem persist_Period_g23_e (S : Value → Value → Value → Value → Value → Value → Value → Heap → Prop) (x : Nat → Value) (H : Heap) : wpE tab P persist_Period_pi persist_Period_c2 (nQ fun l H => S (l.getD 0 undef) (l.getD 1 undef) (l.getD 2 undef) (l.getD 6 undef) (l.getD 7 undef) (l.getD 8 undef) (l.getD 9 undef) H) ((List.range 36).map x) H = persist_Period_g23 S (x 0) (x 1) (x 2) H := by kernel_rfl
def persist_Period_g24 (S : Value → Value → Value → Value → Value → Value → Value → Value → Heap → Prop) (x0 x1 x2 x6 x7 x8 x9 : Value) (H : Heap) : Prop :=
  EvF P N.loss_Check #[x0] H fun v14 H1 =>
  bnd (binV .int .neq v14 (.int .i64 0)) fun v15 =>
  brV v15
  (S x0 x1 x2 x6 x7 x8 x9 (.bool true) H1)
  (EvF P N.sat_Is #[x2] H1 fun v18 H2 =>
  bnd (unV .not v18) fun v19 =>
  S x0 x1 x2 x6 x7 x8 x9 v19 H2)
theorem persist_Period_g24_e (S : Value → Value → Value → Value → Value → Value → Value → Value → Heap → Prop) (x : Nat → Value) (H : Heap) : wpE tab P persist_Period_pi persist_Period_c5 (nQ fun l H => S (l.getD 0 undef) (l.getD 1 undef) (l.getD 2 undef) (l.getD 6 undef) (l.getD 7 undef) (l.getD 8 undef) (l.getD 9 undef) (l.getD 20 undef) H) ((List.range 36).map x) H = persist_Period_g24 S (x 0) (x 1) (x 2) (x 6) (x 7) (x 8) (x 9) H := by kernel_rfl
def persist_Period_g25 (S : Value → Value → Value → Value → Heap → Prop) (x6 x7 x8 x9 : Value) (H : Heap) : Prop :=
  bnd (stE 1 x6 (.int .i64 0) H) fun H1 =>
  bnd (stE 1 x7 (.int .i64 0) H1) fun H2 =>
  bnd (stE 1 x8 (.int .i64 0) H2) fun H3 =>
  bnd (stE 1 x9 (.bool false) H3) fun H4 =>
  S x6 x7 x8 x9 H4
theorem persist_Period_g25_e (S : Value → Value → Value → Value → Heap → Prop) (x : Nat → Value) (H : Heap) : wpE tab P persist_Period_pi persist_Period_c8 (nQ fun l H => S (l.getD 6 undef) (l.getD 7 undef) (l.getD 8 undef) (l.getD 9 undef) H) ((List.range 36).map x) H = persist_Period_g25 S (x 6) (x 7) (x 8) (x 9) H := by kernel_rfl
def persist_Period_g26 (S : Value → Value → Value → Value → Value → Value → Value → Value → Heap → Prop) (x0 x1 x2 x6 x7 x8 x9 : Value) (H : Heap) : Prop :=
  newE 57 #[.nilFunc] H fun v10 H1 =>
  bnd (stE 1 v10 (.func (.func N.persist_Period_1) #[] #[x9, x6, x7, x8]) H1) fun H2 =>
  S x0 x1 x2 x6 x7 x8 x9 v10 H2
theorem persist_Period_g26_e (S : Value → Value → Value → Value → Value → Value → Value → Value → Heap → Prop) (x : Nat → Value) (H : Heap) : wpE tab P persist_Period_pi persist_Period_c10 (nQ fun l H => S (l.getD 0 undef) (l.getD 1 undef) (l.getD 2 undef) (l.getD 6 undef) (l.getD 7 undef) (l.getD 8 undef) (l.getD 9 undef) (l.getD 10 undef) H) ((List.range 36).map x) H = persist_Period_g26 S (x 0) (x 1) (x 2) (x 6) (x 7) (x 8) (x 9) H := by kernel_rfl
def persist_Period_g27 (S : Value → Value → Value → Value → Value → Value → Heap → Prop) (x0 x1 x2 x6 x7 x8 x9 x10 : Value) (H : Heap) : Prop :=
  EvF P N.persist_pairs #[x0, x1, x2] H fun v25 H1 =>
  S x6 x7 x8 x9 x10 v25 H1
theorem persist_Period_g27_e (S : Value → Value → Value → Value → Value → Value → Heap → Prop) (x : Nat → Value) (H : Heap) : wpE tab P persist_Period_pi persist_Period_c13 (nQ fun l H => S (l.getD 6 undef) (l.getD 7 undef) (l.getD 8 undef) (l.getD 9 undef) (l.getD 10 undef) (l.getD 25 undef) H) ((List.range 36).map x) H = persist_Period_g27 S (x 0) (x 1) (x 2) (x 6) (x 7) (x 8) (x 9) (x 10) H := by kernel_rfl
noncomputable def persist_Period_L (fn : FuncId) (l : List Value) (d : Nat) : Loop := mkL fn l #[26, 27] persist_Period_c16 persist_Period_c19 d
def persist_Period_g29 (S : Heap → Prop) (x10 x11 x12 : Value) (H : Heap) : Prop :=
  bnd (ldE false 1 x10 H) fun v28 =>
  bnd (ldE true 6 x11 H) fun v29 =>
  bnd (ldE true 6 x12 H) fun v30 =>
  callV P v28 [v29, v30] H fun _ H1 =>
  S H1
theorem persist_Period_g29_e (S : Heap → Prop) (x : Nat → Value) (H : Heap) : wpE tab P persist_Period_pi persist_Period_c20 (nQ fun _ H => S  H) ((List.range 36).map x) H = persist_Period_g29 S (x 10) (x 11) (x 12) H := by kernel_rfl
def persist_Period_s28 (x10 x11 x12 : Value) (lp : Nat) (r : Loop) (R : Value → Heap → Prop) (H : Heap) : Prop :=
  persist_Period_g29 (fun H => (H.arr[lp]? = some (.loop (busy r)) ∧ R (.bool true) (setO H lp (.loop r)))) x10 x11 x12 H
noncomputable def persist_Period_q30 (lp : Nat) (r : Loop) (R : Value → Heap → Prop) : Exit → List Value → Heap → Prop := (nQ fun _ H2 => H2.arr[lp]? = some (.loop (busy r)) ∧ R (.bool true) (setO H2 lp (.loop r)))
theorem persist_Period_s28_i (lp : Nat) (r : Loop) (R : Value → Heap → Prop) (l : List Value) (H : Heap) (hl : l.length = 36) (h : persist_Period_s28 (l.getD 10 undef) (l.getD 11 undef) (l.getD 12 undef) lp r R H) : wpE tab P persist_Period_pi persist_Period_c19 (persist_Period_q30 lp r R) l H := by
  refine blockI (c := persist_Period_c19) rfl ?_
  refine regI hl (Eq.mpr (persist_Period_g29_e _ (fun i => l.getD i undef) _) h) ?_
  clear h hl
  intro l H hl h
  refine blkN ?_
  exact h
def persist_Period_g31 (S : Value → Value → Value → Heap → Prop) (x10 x26 x27 : Value) (H : Heap) : Prop :=
  newE 38 #[(.int .i64 0), (.int .i64 0), (.int .i64 0), (.bool false), (.bool false), (.bool false)] H fun v11 H1 =>
  bnd (stE 6 v11 x26 H1) fun H2 =>
  S x10 v11 x27 H2
theorem persist_Period_g31_e (S : Value → Value → Value → Heap → Prop) (x : Nat → Value) (H : Heap) : wpE tab P persist_Period_pi persist_Period_c17 (nQ fun l H => S (l.getD 10 undef) (l.getD 11 undef) (l.getD 27 undef) H) ((List.range 36).map x) H = persist_Period_g31 S (x 10) (x 26) (x 27) H := by kernel_rfl
def persist_Period_g32 (S : Value → Value → Value → Heap → Prop) (x10 x11 x27 : Value) (H : Heap) : Prop :=
  newE 38 #[(.int .i64 0), (.int .i64 0), (.int .i64 0), (.bool false), (.bool false), (.bool false)] H fun v12 H1 =>
  bnd (stE 6 v12 x27 H1) fun H2 =>
  S x10 x11 v12 H2
theorem persist_Period_g32_e (S : Value → Value → Value → Heap → Prop) (x : Nat → Value) (H : Heap) : wpE tab P persist_Period_pi persist_Period_c18 (nQ fun l H => S (l.getD 10 undef) (l.getD 11 undef) (l.getD 12 undef) H) ((List.range 36).map x) H = persist_Period_g32 S (x 10) (x 11) (x 27) H := by kernel_rfl
def persist_Period_r (lp : Nat) (r : Loop) (R : Value → Heap → Prop) (x10 x26 x27 : Value) (H : Heap) : Prop :=
  persist_Period_g31 (fun x10 x11 x27 H => persist_Period_g32 (fun x10 x11 x12 H => (H.arr[lp]? = some (.loop r) ∧
  persist_Period_s28 x10 x11 x12 lp r R (setO H lp (.loop (busy r))))) x10 x11 x27 H) x10 x26 x27 H
theorem persist_Period_ri (lp : Nat) (r : Loop) (R : Value → Heap → Prop) (l : List Value) (H : Heap) (hl : l.length = 36) (h : persist_Period_r lp r R (l.getD 10 undef) (l.getD 26 undef) (l.getD 27 undef) H) : wpE tab P persist_Period_pi persist_Period_c16 (nQ fun l H => H.arr[lp]? = some (.loop r) ∧ wpE tab P persist_Period_pi persist_Period_c19 (nQ fun _ H2 => H2.arr[lp]? = some (.loop (busy r)) ∧ R (.bool true) (setO H2 lp (.loop r))) l (setO H lp (.loop (busy r)))) l H := by
  refine seqI (c := persist_Period_c16) rfl ?_
  refine regI hl (Eq.mpr (persist_Period_g31_e _ (fun i => l.getD i undef) _) h) ?_
  clear h hl
  intro l H hl h
  refine thenN ?_
  refine regI hl (Eq.mpr (persist_Period_g32_e _ (fun i => l.getD i undef) _) h) ?_
  clear h hl
  intro l H hl h
  exact ⟨h.1, persist_Period_s28_i lp r R l _ hl h.2⟩
theorem persist_Period_y (fn : FuncId) (d : Nat) (l : List Value) (hl : l.length = 36) (lp : Nat) (v26 : Value) (v27 : Value) (K : Heap) (R : Value → Heap → Prop) (hK : K.arr[lp]? = some (.loop (persist_Period_L fn l d))) (h : persist_Period_r lp (persist_Period_L fn l d) R (l.getD 10 undef) v26 v27 K) : EvY P lp #[v26, v27] K R := by
  refine EvY_intro (t := ((l.set 26 v26).set 27 v27)) tab_ok mixed hK rfl rfl rfl (by simp [persist_Period_L, mkL]) ⟨okCode_of _ (show okB persist_Period_pi persist_Period_c16 = true by kernel_rfl), okCode_of _ (show okB persist_Period_pi persist_Period_c19 = true by kernel_rfl)⟩ ?_
  have e10 : ((l.set 26 v26).set 27 v27).getD 10 undef = l.getD 10 undef := by simp [hl]
  have e26 : ((l.set 26 v26).set 27 v27).getD 26 undef = v26 := by simp [hl]
  have e27 : ((l.set 26 v26).set 27 v27).getD 27 undef = v27 := by simp [hl]
  exact persist_Period_ri lp (persist_Period_L fn l d) R ((l.set 26 v26).set 27 v27) K (by simp [hl]) (by rw [e10, e26, e27]; exact h)
def persist_Period_g33 (S : Value → Value → Value → Value → Heap → Prop) (x6 x7 x8 x9 : Value) (H : Heap) : Prop :=
  bnd (ldE false 1 x6 H) fun v32 =>
  bnd (ldE false 1 x7 H) fun v33 =>
  bnd (ldE false 1 x8 H) fun v34 =>
  bnd (ldE false 1 x9 H) fun v35 =>
  bnd (stE 1 x6 v32 H) fun H1 =>
  ((bnd (ldE false 1 x9 H1) fun v' => v' = v35) ∧
  ((bnd (ldE false 1 x8 H1) fun v' => v' = v34) ∧
  ((bnd (ldE false 1 x7 H1) fun v' => v' = v33) ∧
  bnd (stE 1 x7 v33 H1) fun H2 =>
  ((bnd (ldE false 1 x9 H2) fun v' => v' = v35) ∧
  ((bnd (ldE false 1 x8 H2) fun v' => v' = v34) ∧
  bnd (stE 1 x8 v34 H2) fun H3 =>
  ((bnd (ldE false 1 x9 H3) fun v' => v' = v35) ∧
  bnd (stE 1 x9 v35 H3) fun H4 =>
  S x6 x7 x8 x9 H4))))))
theorem persist_Period_g33_e (S : Value → Value → Value → Value → Heap → Prop) (x : Nat → Value) (H : Heap) : wpE tab P persist_Period_pi persist_Period_c22 (nQ fun l H => S (l.getD 6 undef) (l.getD 7 undef) (l.getD 8 undef) (l.getD 9 undef) H) ((List.range 36).map x) H = persist_Period_g33 S (x 6) (x 7) (x 8) (x 9) H := by kernel_rfl
def persist_Period (x0 x1 x2 : Value) (R : Value → Heap → Prop) (H : Heap) : Prop :=
  persist_Period_g23 (fun x0 x1 x2 x6 x7 x8 x9 H => persist_Period_g24 (fun x0 x1 x2 x6 x7 x8 x9 x20 H => brV x20
  (persist_Period_g25 (fun x6 x7 x8 x9 H => bnd (ldE false 1 x6 H) fun r0 =>
  bnd (ldE false 1 x7 H) fun r1 =>
  bnd (ldE false 1 x8 H) fun r2 =>
  bnd (ldE false 1 x9 H) fun r3 =>
  R (.tuple #[r0, r1, r2, r3]) H) x6 x7 x8 x9 H)
  (persist_Period_g26 (fun x0 x1 x2 x6 x7 x8 x9 x10 H => persist_Period_g27 (fun x6 x7 x8 x9 x10 x25 H => (∀ (fn : FuncId) (l : List Value), l.length = 36 → l.getD 10 undef = x10 → callL P x25 [.func (.yield (H.size + 1)) #[] #[]] (pushO (pushO H (.deferred (some []))) (.loop (persist_Period_L fn l H.size))) fun _ H2 =>
  H2.arr[H.size + 1]? = some (.loop (persist_Period_L fn l H.size)) ∧
  (fun (m : Nat) (H : Heap) =>
  persist_Period_g33 (fun x6 x7 x8 x9 H => (H.arr[m]? = some (.deferred (some [])) ∧ (fun H : Heap =>
  bnd (ldE false 1 x6 H) fun r0 =>
  bnd (ldE false 1 x7 H) fun r1 =>
  bnd (ldE false 1 x8 H) fun r2 =>
  bnd (ldE false 1 x9 H) fun r3 =>
  R (.tuple #[r0, r1, r2, r3]) H) (setO H m (.deferred none)))) x6 x7 x8 x9 H) H.size (setO H2 (H.size + 1) (.loop (done (persist_Period_L fn l H.size)))))) x0 x1 x2 x6 x7 x8 x9 x10 H) x0 x1 x2 x6 x7 x8 x9 H)) x0 x1 x2 x6 x7 x8 x9 H) x0 x1 x2 H
theorem persist_Period_i (R : Value → Heap → Prop) (x0 x1 x2 : Value) (H : Heap) (h : persist_Period x0 x1 x2 R H) : wpR tab P persist_Period_pi persist_Period_c1 (retQ tab persist_Period_rs R) (retQM tab persist_Period_rs R) [x0, x1, x2, undef, undef, undef, undef, undef, undef, undef, undef, undef, undef, undef, undef, undef, undef, undef, undef, undef, undef, undef, undef, undef, undef, undef, undef, undef, undef, undef, undef, undef, undef, undef, undef, undef] H := by
  obtain ⟨l, hl, el⟩ : ∃ l : List Value, l.length = 36 ∧ l = [x0, x1, x2, undef, undef, undef, undef, undef, undef, undef, undef, undef, undef, undef, undef, undef, undef, undef, undef, undef, undef, undef, undef, undef, undef, undef, undef, undef, undef, undef, undef, undef, undef, undef, undef, undef] := ⟨_, rfl, rfl⟩
  rw [← el]
  have h : (fun (x0 x1 x2 : Value) => persist_Period_g23 (fun x0 x1 x2 x6 x7 x8 x9 H => persist_Period_g24 (fun x0 x1 x2 x6 x7 x8 x9 x20 H => brV x20
(persist_Period_g25 (fun x6 x7 x8 x9 H => bnd (ldE false 1 x6 H) fun r0 =>
bnd (ldE false 1 x7 H) fun r1 =>
bnd (ldE false 1 x8 H) fun r2 =>
bnd (ldE false 1 x9 H) fun r3 =>
R (.tuple #[r0, r1, r2, r3]) H) x6 x7 x8 x9 H)
(persist_Period_g26 (fun x0 x1 x2 x6 x7 x8 x9 x10 H => persist_Period_g27 (fun x6 x7 x8 x9 x10 x25 H => (∀ (fn : FuncId) (l : List Value), l.length = 36 → l.getD 10 undef = x10 → callL P x25 [.func (.yield (H.size + 1)) #[] #[]] (pushO (pushO H (.deferred (some []))) (.loop (persist_Period_L fn l H.size))) fun _ H2 =>
H2.arr[H.size + 1]? = some (.loop (persist_Period_L fn l H.size)) ∧
(fun (m : Nat) (H : Heap) =>
persist_Period_g33 (fun x6 x7 x8 x9 H => (H.arr[m]? = some (.deferred (some [])) ∧ (fun H : Heap =>
bnd (ldE false 1 x6 H) fun r0 =>
bnd (ldE false 1 x7 H) fun r1 =>
bnd (ldE false 1 x8 H) fun r2 =>
bnd (ldE false 1 x9 H) fun r3 =>
R (.tuple #[r0, r1, r2, r3]) H) (setO H m (.deferred none)))) x6 x7 x8 x9 H) H.size (setO H2 (H.size + 1) (.loop (done (persist_Period_L fn l H.size)))))) x0 x1 x2 x6 x7 x8 x9 x10 H) x0 x1 x2 x6 x7 x8 x9 H)) x0 x1 x2 x6 x7 x8 x9 H) x0 x1 x2 H) (l.getD 0 undef) (l.getD 1 undef) (l.getD 2 undef) := by rw [el]; exact h
  clear el
  refine seqR (c := persist_Period_c1) rfl ?_
  refine wpR_of _ hl ?_
  refine regI hl (Eq.mpr (persist_Period_g23_e _ (fun i => l.getD i undef) _) h) ?_
  clear h hl
  intro l H hl h
  refine thenN ?_
  refine seqR (c := persist_Period_c3) rfl ?_
  refine wpR_of _ hl ?_
  refine seqI (c := persist_Period_c4) rfl ?_
  refine regI hl (Eq.mpr (persist_Period_g24_e _ (fun i => l.getD i undef) _) h) ?_
  clear h hl
  intro l H hl h
  refine thenN ?_
  refine condI (c := persist_Period_c6) rfl h ?_ ?_
  · clear h; intro h
    refine seqI (c := persist_Period_c7) rfl ?_
    refine regI hl (Eq.mpr (persist_Period_g25_e _ (fun i => l.getD i undef) _) h) ?_
    clear h hl
    intro l H hl h
    refine thenN ?_
    refine retI rfl ?_
    refine thenR ?_
    exact h
  · clear h; intro h
    refine skipI rfl ?_
    refine thenN ?_
    refine seqR (c := persist_Period_c9) rfl ?_
    refine wpR_of _ hl ?_
    refine regI hl (Eq.mpr (persist_Period_g26_e _ (fun i => l.getD i undef) _) h) ?_
    clear h hl
    intro l H hl h
    refine thenN ?_
    refine seqR (c := persist_Period_c11) rfl ?_
    refine seqR (c := persist_Period_c12) rfl ?_
    refine wpR_of _ hl ?_
    refine regI hl (Eq.mpr (persist_Period_g27_e _ (fun i => l.getD i undef) _) h) ?_
    clear h hl
    intro l H hl h
    refine thenN ?_
    refine blockR (c := persist_Period_c14) rfl ?_
    refine rangeR (c := persist_Period_c15) rfl ?_
    intro fn
    have h := h fn l hl rfl
    refine callL_mono (fun _ H2 h => ?_) h
    refine ⟨h.1, ?_⟩
    have h := h.2
    refine blkN ?_
    refine thenN ?_
    refine seqI (c := persist_Period_c21) rfl ?_
    refine regI hl (Eq.mpr (persist_Period_g33_e _ (fun i => l.getD i undef) _) h) ?_
    clear h hl
    intro l H hl h
    refine thenN ?_
    refine retI rfl ?_
    exact h
theorem persist_Period_ok : okBR persist_Period_pi persist_Period_c1 = true := by kernel_rfl
theorem persist_Period_ev0 (x0 x1 x2 : Value) (R : Value → Heap → Prop) (H : Heap) (h : persist_Period x0 x1 x2 R H) : EvL P N.persist_Period #[x0, x1, x2] H R :=
  EvR_intro (args := [x0, x1, x2]) (k := 33) (rs := persist_Period_rs) tab_ok mixed Try.func11 (show Try.f11.body = some persist_Period_c1 by kernel_rfl) Try.call11 Try.ntmps11 (by kernel_rfl) (okCodeR_of _ persist_Period_ok) rfl (persist_Period_i R x0 x1 x2 H h)
theorem persist_Period_ev (x0 x1 x2 : Value) (R : Value → Heap → Prop) (H : Heap) (h : persist_Period x0 x1 x2 R H) : EvF P N.persist_Period #[x0, x1, x2] H R := .inl (persist_Period_ev0 x0 x1 x2 R H h)
end Go.Hc
