/- Functions, printed by gen.py. -/
import Derived.Test.YtchdnhbkjfdnmaaT
set_option linter.unusedSimpArgs false
set_option linter.unusedVariables false
set_option maxRecDepth 100000
namespace Go.Hc
open Go Go.Proofs
/- 8: sounder/sounderlaw06.SentKnown -/
def sounderlaw06_SentKnown_rs : List ResultVar := [.tmp 0]
noncomputable def sounderlaw06_SentKnown_c2 : Code := subC (bodyC Try.f8) [0]
noncomputable def sounderlaw06_SentKnown_c4 : Code := subC (bodyC Try.f8) [1, 0]
noncomputable def sounderlaw06_SentKnown_c7 : Code := subC (bodyC Try.f8) [1, 1, 0, 0]
noncomputable def sounderlaw06_SentKnown_c12 : Code := subC (bodyC Try.f8) [1, 1, 0, 1, 0, 0, 0, 0]
noncomputable def sounderlaw06_SentKnown_c14 : Code := .exit 0
noncomputable def sounderlaw06_SentKnown_c13 : Code := .cond (.tmp 18) Code.skip sounderlaw06_SentKnown_c14
noncomputable def sounderlaw06_SentKnown_c11 : Code := .seq sounderlaw06_SentKnown_c12 sounderlaw06_SentKnown_c13
noncomputable def sounderlaw06_SentKnown_c18 : Code := subC (bodyC Try.f8) [1, 1, 0, 1, 0, 0, 1, 0, 0, 0]
noncomputable def sounderlaw06_SentKnown_c23 : Code := subC (bodyC Try.f8) [1, 1, 0, 1, 0, 0, 1, 0, 0, 1, 0, 0, 0, 0]
noncomputable def sounderlaw06_SentKnown_c25 : Code := .exit 2
noncomputable def sounderlaw06_SentKnown_c24 : Code := .cond (.tmp 24) Code.skip sounderlaw06_SentKnown_c25
noncomputable def sounderlaw06_SentKnown_c22 : Code := .seq sounderlaw06_SentKnown_c23 sounderlaw06_SentKnown_c24
noncomputable def sounderlaw06_SentKnown_c29 : Code := subC (bodyC Try.f8) [1, 1, 0, 1, 0, 0, 1, 0, 0, 1, 0, 0, 1, 0, 0, 0]
noncomputable def sounderlaw06_SentKnown_c31 : Code := subC (bodyC Try.f8) [1, 1, 0, 1, 0, 0, 1, 0, 0, 1, 0, 0, 1, 0, 0, 1, 0]
noncomputable def sounderlaw06_SentKnown_c33 : Code := subC (bodyC Try.f8) [1, 1, 0, 1, 0, 0, 1, 0, 0, 1, 0, 0, 1, 0, 0, 1, 1, 0]
noncomputable def sounderlaw06_SentKnown_c36 : Code := subC (bodyC Try.f8) [1, 1, 0, 1, 0, 0, 1, 0, 0, 1, 0, 0, 1, 0, 0, 1, 1, 1, 0, 0]
noncomputable def sounderlaw06_SentKnown_c35 : Code := .seq sounderlaw06_SentKnown_c36 Code.ret
noncomputable def sounderlaw06_SentKnown_c34 : Code := .cond (.tmp 82) sounderlaw06_SentKnown_c35 Code.skip
noncomputable def sounderlaw06_SentKnown_c32 : Code := .seq sounderlaw06_SentKnown_c33 sounderlaw06_SentKnown_c34
noncomputable def sounderlaw06_SentKnown_c30 : Code := .seq sounderlaw06_SentKnown_c31 sounderlaw06_SentKnown_c32
noncomputable def sounderlaw06_SentKnown_c28 : Code := .seq sounderlaw06_SentKnown_c29 sounderlaw06_SentKnown_c30
noncomputable def sounderlaw06_SentKnown_c27 : Code := .block 3 sounderlaw06_SentKnown_c28
noncomputable def sounderlaw06_SentKnown_c37 : Code := subC (bodyC Try.f8) [1, 1, 0, 1, 0, 0, 1, 0, 0, 1, 0, 0, 1, 1]
noncomputable def sounderlaw06_SentKnown_c26 : Code := .seq sounderlaw06_SentKnown_c27 sounderlaw06_SentKnown_c37
noncomputable def sounderlaw06_SentKnown_c21 : Code := .seq sounderlaw06_SentKnown_c22 sounderlaw06_SentKnown_c26
noncomputable def sounderlaw06_SentKnown_c20 : Code := .loop sounderlaw06_SentKnown_c21
noncomputable def sounderlaw06_SentKnown_c19 : Code := .block 2 sounderlaw06_SentKnown_c20
noncomputable def sounderlaw06_SentKnown_c17 : Code := .seq sounderlaw06_SentKnown_c18 sounderlaw06_SentKnown_c19
noncomputable def sounderlaw06_SentKnown_c16 : Code := .block 1 sounderlaw06_SentKnown_c17
noncomputable def sounderlaw06_SentKnown_c38 : Code := subC (bodyC Try.f8) [1, 1, 0, 1, 0, 0, 1, 1]
noncomputable def sounderlaw06_SentKnown_c15 : Code := .seq sounderlaw06_SentKnown_c16 sounderlaw06_SentKnown_c38
noncomputable def sounderlaw06_SentKnown_c10 : Code := .seq sounderlaw06_SentKnown_c11 sounderlaw06_SentKnown_c15
noncomputable def sounderlaw06_SentKnown_c9 : Code := .loop sounderlaw06_SentKnown_c10
noncomputable def sounderlaw06_SentKnown_c8 : Code := .block 0 sounderlaw06_SentKnown_c9
noncomputable def sounderlaw06_SentKnown_c6 : Code := .seq sounderlaw06_SentKnown_c7 sounderlaw06_SentKnown_c8
noncomputable def sounderlaw06_SentKnown_c40 : Code := subC (bodyC Try.f8) [1, 1, 1, 0]
noncomputable def sounderlaw06_SentKnown_c43 : Code := subC (bodyC Try.f8) [1, 1, 1, 1, 0, 0]
noncomputable def sounderlaw06_SentKnown_c48 : Code := subC (bodyC Try.f8) [1, 1, 1, 1, 0, 1, 0, 0, 0, 0]
noncomputable def sounderlaw06_SentKnown_c50 : Code := .exit 4
noncomputable def sounderlaw06_SentKnown_c49 : Code := .cond (.tmp 84) Code.skip sounderlaw06_SentKnown_c50
noncomputable def sounderlaw06_SentKnown_c47 : Code := .seq sounderlaw06_SentKnown_c48 sounderlaw06_SentKnown_c49
noncomputable def sounderlaw06_SentKnown_c54 : Code := subC (bodyC Try.f8) [1, 1, 1, 1, 0, 1, 0, 0, 1, 0, 0, 0]
noncomputable def sounderlaw06_SentKnown_c56 : Code := subC (bodyC Try.f8) [1, 1, 1, 1, 0, 1, 0, 0, 1, 0, 0, 1, 0]
noncomputable def sounderlaw06_SentKnown_c58 : Code := subC (bodyC Try.f8) [1, 1, 1, 1, 0, 1, 0, 0, 1, 0, 0, 1, 1, 0]
noncomputable def sounderlaw06_SentKnown_c60 : Code := subC (bodyC Try.f8) [1, 1, 1, 1, 0, 1, 0, 0, 1, 0, 0, 1, 1, 1, 0]
noncomputable def sounderlaw06_SentKnown_c63 : Code := subC (bodyC Try.f8) [1, 1, 1, 1, 0, 1, 0, 0, 1, 0, 0, 1, 1, 1, 1, 0, 0]
noncomputable def sounderlaw06_SentKnown_c66 : Code := subC (bodyC Try.f8) [1, 1, 1, 1, 0, 1, 0, 0, 1, 0, 0, 1, 1, 1, 1, 0, 1, 0, 0]
noncomputable def sounderlaw06_SentKnown_c65 : Code := .seq sounderlaw06_SentKnown_c66 Code.ret
noncomputable def sounderlaw06_SentKnown_c64 : Code := .cond (.tmp 145) sounderlaw06_SentKnown_c65 Code.skip
noncomputable def sounderlaw06_SentKnown_c62 : Code := .seq sounderlaw06_SentKnown_c63 sounderlaw06_SentKnown_c64
noncomputable def sounderlaw06_SentKnown_c67 : Code := subC (bodyC Try.f8) [1, 1, 1, 1, 0, 1, 0, 0, 1, 0, 0, 1, 1, 1, 1, 1]
noncomputable def sounderlaw06_SentKnown_c61 : Code := .seq sounderlaw06_SentKnown_c62 sounderlaw06_SentKnown_c67
noncomputable def sounderlaw06_SentKnown_c59 : Code := .seq sounderlaw06_SentKnown_c60 sounderlaw06_SentKnown_c61
noncomputable def sounderlaw06_SentKnown_c57 : Code := .seq sounderlaw06_SentKnown_c58 sounderlaw06_SentKnown_c59
noncomputable def sounderlaw06_SentKnown_c55 : Code := .seq sounderlaw06_SentKnown_c56 sounderlaw06_SentKnown_c57
noncomputable def sounderlaw06_SentKnown_c53 : Code := .seq sounderlaw06_SentKnown_c54 sounderlaw06_SentKnown_c55
noncomputable def sounderlaw06_SentKnown_c52 : Code := .block 5 sounderlaw06_SentKnown_c53
noncomputable def sounderlaw06_SentKnown_c68 : Code := subC (bodyC Try.f8) [1, 1, 1, 1, 0, 1, 0, 0, 1, 1]
noncomputable def sounderlaw06_SentKnown_c51 : Code := .seq sounderlaw06_SentKnown_c52 sounderlaw06_SentKnown_c68
noncomputable def sounderlaw06_SentKnown_c46 : Code := .seq sounderlaw06_SentKnown_c47 sounderlaw06_SentKnown_c51
noncomputable def sounderlaw06_SentKnown_c45 : Code := .loop sounderlaw06_SentKnown_c46
noncomputable def sounderlaw06_SentKnown_c44 : Code := .block 4 sounderlaw06_SentKnown_c45
noncomputable def sounderlaw06_SentKnown_c42 : Code := .seq sounderlaw06_SentKnown_c43 sounderlaw06_SentKnown_c44
noncomputable def sounderlaw06_SentKnown_c70 : Code := subC (bodyC Try.f8) [1, 1, 1, 1, 1, 0]
noncomputable def sounderlaw06_SentKnown_c69 : Code := .seq sounderlaw06_SentKnown_c70 Code.ret
noncomputable def sounderlaw06_SentKnown_c41 : Code := .seq sounderlaw06_SentKnown_c42 sounderlaw06_SentKnown_c69
noncomputable def sounderlaw06_SentKnown_c39 : Code := .seq sounderlaw06_SentKnown_c40 sounderlaw06_SentKnown_c41
noncomputable def sounderlaw06_SentKnown_c5 : Code := .seq sounderlaw06_SentKnown_c6 sounderlaw06_SentKnown_c39
noncomputable def sounderlaw06_SentKnown_c3 : Code := .seq sounderlaw06_SentKnown_c4 sounderlaw06_SentKnown_c5
noncomputable def sounderlaw06_SentKnown_c1 : Code := .seq sounderlaw06_SentKnown_c2 sounderlaw06_SentKnown_c3
def sounderlaw06_SentKnown_pi (i : Nat) : Pl := match i with
  | 8 => (ones [0, 1, 2, 3, 4, 5, 6, 7, 8, 9, 10] .nil)
  | 10 => (ones [0, 1, 4, 5, 6, 7, 8, 9, 10, 11, 12, 13, 14, 15, 16, 17, 18, 19, 20, 21, 22, 23, 24, 25, 26, 27, 2, 3, 28, 29, 30, 31, 32, 33, 34, 35, 36, 37, 38, 39, 40, 41] .nil)
  | _ => .nil
def sounderlaw06_SentKnown_g71 (S : Heap → Prop) (H : Heap) : Prop :=
  S H
theorem sounderlaw06_SentKnown_g71_e (S : Heap → Prop) (x : Nat → Value) (H : Heap) : wpE tab P sounderlaw06_SentKnown_pi sounderlaw06_SentKnown_c2 (nQ fun _ H => S  H) ((List.range 151).map x) H = sounderlaw06_SentKnown_g71 S  H := by kernel_rfl
def sounderlaw06_SentKnown_g72 (S : Value → Heap → Prop) (H : Heap) : Prop :=
  bslE 3 #[(.int .i64 0)] 1 12 [(0, (.int .i64 (-9223372036854775808))), (1, (.int .i64 (-1))), (2, (.int .i64 0)), (3, (.int .i64 1)), (4, (.int .i64 255)), (5, (.int .i64 256)), (6, (.int .i64 257)), (7, (.int .i64 65535)), (8, (.int .i64 65536)), (9, (.int .i64 9007199254740991)), (10, (.int .i64 9007199254740992)), (11, (.int .i64 9223372036854775807))] H fun v14 H1 =>
  S v14 H1
theorem sounderlaw06_SentKnown_g72_e (S : Value → Heap → Prop) (x : Nat → Value) (H : Heap) : wpE tab P sounderlaw06_SentKnown_pi sounderlaw06_SentKnown_c4 (nQ fun l H => S (l.getD 1 undef) H) ((List.range 151).map x) H = sounderlaw06_SentKnown_g72 S  H := by kernel_rfl
def sounderlaw06_SentKnown_g73 (S : Value → Value → Heap → Prop) (x1 : Value) (H : Heap) : Prop :=
  S x1 (.int .i64 0) H
theorem sounderlaw06_SentKnown_g73_e (S : Value → Value → Heap → Prop) (x : Nat → Value) (H : Heap) : wpE tab P sounderlaw06_SentKnown_pi sounderlaw06_SentKnown_c7 (nQ fun l H => S (l.getD 1 undef) (l.getD 2 undef) H) ((List.range 151).map x) H = sounderlaw06_SentKnown_g73 S (x 1) H := by kernel_rfl
def sounderlaw06_SentKnown_g75 (S : Value → Value → Value → Heap → Prop) (x1 x2 : Value) (H : Heap) : Prop :=
  bnd (lenV x1) fun v17 =>
  bnd (binV .int .lss x2 v17) fun v18 =>
  S x1 x2 v18 H
theorem sounderlaw06_SentKnown_g75_e (S : Value → Value → Value → Heap → Prop) (x : Nat → Value) (H : Heap) : wpE tab P sounderlaw06_SentKnown_pi sounderlaw06_SentKnown_c12 (nQ fun l H => S (l.getD 1 undef) (l.getD 2 undef) (l.getD 18 undef) H) ((List.range 151).map x) H = sounderlaw06_SentKnown_g75 S (x 1) (x 2) H := by kernel_rfl
def sounderlaw06_SentKnown_g76 (S : Value → Value → Value → Heap → Prop) (x1 x2 : Value) (H : Heap) : Prop :=
  S x1 x2 (.int .i64 0) H
theorem sounderlaw06_SentKnown_g76_e (S : Value → Value → Value → Heap → Prop) (x : Nat → Value) (H : Heap) : wpE tab P sounderlaw06_SentKnown_pi sounderlaw06_SentKnown_c18 (nQ fun l H => S (l.getD 1 undef) (l.getD 2 undef) (l.getD 3 undef) H) ((List.range 151).map x) H = sounderlaw06_SentKnown_g76 S (x 1) (x 2) H := by kernel_rfl
def sounderlaw06_SentKnown_g78 (S : Value → Value → Value → Value → Heap → Prop) (x1 x2 x3 : Value) (H : Heap) : Prop :=
  bnd (lenV x1) fun v23 =>
  bnd (binV .int .lss x3 v23) fun v24 =>
  S x1 x2 x3 v24 H
theorem sounderlaw06_SentKnown_g78_e (S : Value → Value → Value → Value → Heap → Prop) (x : Nat → Value) (H : Heap) : wpE tab P sounderlaw06_SentKnown_pi sounderlaw06_SentKnown_c23 (nQ fun l H => S (l.getD 1 undef) (l.getD 2 undef) (l.getD 3 undef) (l.getD 24 undef) H) ((List.range 151).map x) H = sounderlaw06_SentKnown_g78 S (x 1) (x 2) (x 3) H := by kernel_rfl
def sounderlaw06_SentKnown_g79 (S : Value → Value → Value → Value → Heap → Prop) (x1 x2 x3 : Value) (H : Heap) : Prop :=
  bnd (ixSV 1 x1 x2) fun v29 =>
  bnd (ldE false 1 v29 H) fun v30 =>
  bnd (ixSV 1 x1 x3) fun v33 =>
  bnd (ldE false 1 v33 H) fun v34 =>
  bnd (buildV #[(.int .i64 0), (.int .i64 0), (.int .i64 0), (.bool false), (.bool false), (.bool false)] (places [(0, 1), (1, 1), (2, 1), (3, 1), (4, 1), (5, 1)]) [(0, v30), (1, (.int .i64 5)), (2, v34), (4, (.bool true))]) fun v35 =>
  newE 30 #[(.int .i64 0), (.int .i64 0), (.int .i64 0), (.bool false), (.bool false), (.bool false)] H fun v4 H1 =>
  ((bnd (ldE false 1 v33 H1) fun v' => v' = v34) ∧
  ((bnd (ldE false 1 v29 H1) fun v' => v' = v30) ∧
  bnd (stE 6 v4 v35 H1) fun H2 =>
  S x1 x2 x3 v4 H2))
theorem sounderlaw06_SentKnown_g79_e (S : Value → Value → Value → Value → Heap → Prop) (x : Nat → Value) (H : Heap) : wpE tab P sounderlaw06_SentKnown_pi sounderlaw06_SentKnown_c29 (nQ fun l H => S (l.getD 1 undef) (l.getD 2 undef) (l.getD 3 undef) (l.getD 4 undef) H) ((List.range 151).map x) H = sounderlaw06_SentKnown_g79 S (x 1) (x 2) (x 3) H := by kernel_rfl
def sounderlaw06_SentKnown_g80 (S : Value → Value → Value → Value → Value → Heap → Prop) (x1 x2 x3 x4 : Value) (H : Heap) : Prop :=
  bnd (ixSV 1 x1 x3) fun v38 =>
  bnd (ldE false 1 v38 H) fun v39 =>
  bnd (buildV #[(.int .i64 0), (.int .i64 0), (.int .i64 0), (.bool false), (.bool false), (.bool false)] (places [(0, 1), (1, 1), (2, 1), (3, 1), (4, 1), (5, 1)]) [(0, (.int .i64 4503599627370496)), (1, v39), (2, (.int .i64 7)), (3, (.bool true))]) fun v40 =>
  newE 30 #[(.int .i64 0), (.int .i64 0), (.int .i64 0), (.bool false), (.bool false), (.bool false)] H fun v5 H1 =>
  bnd (stE 6 v5 v40 H1) fun H2 =>
  S x1 x2 x3 x4 v5 H2
theorem sounderlaw06_SentKnown_g80_e (S : Value → Value → Value → Value → Value → Heap → Prop) (x : Nat → Value) (H : Heap) : wpE tab P sounderlaw06_SentKnown_pi sounderlaw06_SentKnown_c31 (nQ fun l H => S (l.getD 1 undef) (l.getD 2 undef) (l.getD 3 undef) (l.getD 4 undef) (l.getD 5 undef) H) ((List.range 151).map x) H = sounderlaw06_SentKnown_g80 S (x 1) (x 2) (x 3) (x 4) H := by kernel_rfl
def sounderlaw06_SentKnown_g81 (S : Value → Value → Value → Value → Heap → Prop) (x1 x2 x3 x4 x5 : Value) (H : Heap) : Prop :=
  bnd (ldE true 6 x4 H) fun v41 =>
  bnd (buildV #[(.int .i64 0), (.int .i64 0), (.int .i64 0), (.int .i64 0), (.int .i64 0), (.int .i64 0), (.bool false), (.bool false), (.bool false)] (places [(0, 1), (1, 1), (2, 1), (3, 6)]) [(3, v41)]) fun v42 =>
  bnd (ixSV 1 x1 x2) fun v47 =>
  bnd (ldE false 1 v47 H) fun v48 =>
  bnd (ixSV 1 x1 x3) fun v51 =>
  bnd (ldE false 1 v51 H) fun v52 =>
  bnd (buildV #[(.int .i64 0), (.int .i64 0), (.int .i64 0), (.int .i64 0), (.int .i64 0), (.int .i64 0), (.bool false), (.bool false), (.bool false)] (places [(0, 1), (1, 1), (2, 1), (3, 6)]) [(0, (.int .i64 7)), (1, v48), (2, v52)]) fun v53 =>
  bnd (ldE true 6 x5 H) fun v54 =>
  bnd (buildV #[(.int .i64 0), (.int .i64 0), (.int .i64 0), (.int .i64 0), (.int .i64 0), (.int .i64 0), (.bool false), (.bool false), (.bool false)] (places [(0, 1), (1, 1), (2, 1), (3, 6)]) [(3, v54)]) fun v55 =>
  bnd (ixSV 1 x1 x2) fun v58 =>
  bnd (ldE false 1 v58 H) fun v59 =>
  bnd (buildV #[(.int .i64 0), (.int .i64 0), (.int .i64 0), (.int .i64 0), (.int .i64 0), (.int .i64 0), (.bool false), (.bool false), (.bool false)] (places [(0, 1), (1, 1), (2, 1), (3, 6)]) [(0, (.int .i64 6)), (1, v59)]) fun v60 =>
  bnd (ixSV 1 x1 x2) fun v63 =>
  bnd (ldE false 1 v63 H) fun v64 =>
  bnd (buildV #[(.int .i64 0), (.int .i64 0), (.int .i64 0), (.int .i64 0), (.int .i64 0), (.int .i64 0), (.bool false), (.bool false), (.bool false)] (places [(0, 1), (1, 1), (2, 1), (3, 6)]) [(0, (.int .i64 4)), (1, v64)]) fun v65 =>
  bnd (buildV #[(.int .i64 0), (.int .i64 0), (.int .i64 0), (.int .i64 0), (.int .i64 0), (.int .i64 0), (.bool false), (.bool false), (.bool false)] (places [(0, 1), (1, 1), (2, 1), (3, 6)]) [(0, (.int .i64 15))]) fun v66 =>
  bnd (ldE true 6 x4 H) fun v67 =>
  bnd (buildV #[(.int .i64 0), (.int .i64 0), (.int .i64 0), (.int .i64 0), (.int .i64 0), (.int .i64 0), (.bool false), (.bool false), (.bool false)] (places [(0, 1), (1, 1), (2, 1), (3, 6)]) [(3, v67)]) fun v68 =>
  EvF P N.sounderlaw06_one #[(.int .i64 9)] H fun v43 H1 =>
  ((bnd (ldE true 6 x4 H1) fun v' => v' = v67) ∧
  ((bnd (ldE false 1 v63 H1) fun v' => v' = v64) ∧
  ((bnd (ldE false 1 v58 H1) fun v' => v' = v59) ∧
  ((bnd (ldE true 6 x5 H1) fun v' => v' = v54) ∧
  ((bnd (ldE false 1 v51 H1) fun v' => v' = v52) ∧
  ((bnd (ldE false 1 v47 H1) fun v' => v' = v48) ∧
  ((bnd (ldE true 6 x4 H1) fun v' => v' = v41) ∧
  bnd (buildV #[(.int .i64 0), (.int .i64 0), (.int .i64 0), (.int .i64 0), (.int .i64 0), (.int .i64 0), (.bool false), (.bool false), (.bool false)] (places [(0, 1), (1, 1), (2, 1), (3, 6)]) [(3, v43)]) fun v44 =>
  bslE 54 #[(.int .i64 0), (.int .i64 0), (.int .i64 0), (.int .i64 0), (.int .i64 0), (.int .i64 0), (.bool false), (.bool false), (.bool false)] 9 8 [(0, v42), (1, v44), (2, v53), (3, v55), (4, v60), (5, v65), (6, v66), (7, v68)] H1 fun v69 H2 =>
  ((bnd (ldE true 6 x4 H2) fun v' => v' = v67) ∧
  ((bnd (ldE false 1 v63 H2) fun v' => v' = v64) ∧
  ((bnd (ldE false 1 v58 H2) fun v' => v' = v59) ∧
  ((bnd (ldE true 6 x5 H2) fun v' => v' = v54) ∧
  ((bnd (ldE false 1 v51 H2) fun v' => v' = v52) ∧
  ((bnd (ldE false 1 v47 H2) fun v' => v' = v48) ∧
  ((bnd (ldE true 6 x4 H2) fun v' => v' = v41) ∧
  EvF P N.sounderlaw06_SentPlays #[(.int .i64 2), v69] H2 fun v70 H3 =>
  ((bnd (ldE true 6 x4 H3) fun v' => v' = v67) ∧
  ((bnd (ldE false 1 v63 H3) fun v' => v' = v64) ∧
  ((bnd (ldE false 1 v58 H3) fun v' => v' = v59) ∧
  ((bnd (ldE true 6 x5 H3) fun v' => v' = v54) ∧
  ((bnd (ldE false 1 v51 H3) fun v' => v' = v52) ∧
  ((bnd (ldE false 1 v47 H3) fun v' => v' = v48) ∧
  ((bnd (ldE true 6 x4 H3) fun v' => v' = v41) ∧
  bnd (unV .not v70) fun v71 =>
  brV v71
  (S x1 x2 x3 (.bool true) H3)
  (bnd (ixSV 1 x1 x2) fun v75 =>
  bnd (ldE false 1 v75 H3) fun v76 =>
  bnd (ldE true 6 x4 H3) fun v77 =>
  bnd (buildV #[(.int .i64 0), (.int .i64 0), (.int .i64 0), (.int .i64 0), (.int .i64 0), (.int .i64 0), (.bool false), (.bool false), (.bool false)] (places [(0, 1), (1, 1), (2, 1), (3, 6)]) [(3, v77)]) fun v78 =>
  bslE 54 #[(.int .i64 0), (.int .i64 0), (.int .i64 0), (.int .i64 0), (.int .i64 0), (.int .i64 0), (.bool false), (.bool false), (.bool false)] 9 1 [(0, v78)] H3 fun v79 H4 =>
  ((bnd (ldE true 6 x4 H4) fun v' => v' = v77) ∧
  ((bnd (ldE false 1 v75 H4) fun v' => v' = v76) ∧
  ((bnd (ldE true 6 x4 H4) fun v' => v' = v67) ∧
  ((bnd (ldE false 1 v63 H4) fun v' => v' = v64) ∧
  ((bnd (ldE false 1 v58 H4) fun v' => v' = v59) ∧
  ((bnd (ldE true 6 x5 H4) fun v' => v' = v54) ∧
  ((bnd (ldE false 1 v51 H4) fun v' => v' = v52) ∧
  ((bnd (ldE false 1 v47 H4) fun v' => v' = v48) ∧
  ((bnd (ldE true 6 x4 H4) fun v' => v' = v41) ∧
  EvF P N.sounderlaw06_SentPlays #[v76, v79] H4 fun v80 H5 =>
  ((bnd (ldE true 6 x4 H5) fun v' => v' = v77) ∧
  ((bnd (ldE true 6 x4 H5) fun v' => v' = v67) ∧
  ((bnd (ldE false 1 v63 H5) fun v' => v' = v64) ∧
  ((bnd (ldE false 1 v58 H5) fun v' => v' = v59) ∧
  ((bnd (ldE true 6 x5 H5) fun v' => v' = v54) ∧
  ((bnd (ldE false 1 v51 H5) fun v' => v' = v52) ∧
  ((bnd (ldE false 1 v47 H5) fun v' => v' = v48) ∧
  ((bnd (ldE true 6 x4 H5) fun v' => v' = v41) ∧
  bnd (unV .not v80) fun v81 =>
  S x1 x2 x3 v81 H5)))))))))))))))))))))))))))))))))))))))
theorem sounderlaw06_SentKnown_g81_e (S : Value → Value → Value → Value → Heap → Prop) (x : Nat → Value) (H : Heap) : wpE tab P sounderlaw06_SentKnown_pi sounderlaw06_SentKnown_c33 (nQ fun l H => S (l.getD 1 undef) (l.getD 2 undef) (l.getD 3 undef) (l.getD 82 undef) H) ((List.range 151).map x) H = sounderlaw06_SentKnown_g81 S (x 1) (x 2) (x 3) (x 4) (x 5) H := by kernel_rfl
def sounderlaw06_SentKnown_g82 (S : Value → Heap → Prop) (H : Heap) : Prop :=
  S (.bool false) H
theorem sounderlaw06_SentKnown_g82_e (S : Value → Heap → Prop) (x : Nat → Value) (H : Heap) : wpE tab P sounderlaw06_SentKnown_pi sounderlaw06_SentKnown_c36 (nQ fun l H => S (l.getD 0 undef) H) ((List.range 151).map x) H = sounderlaw06_SentKnown_g82 S  H := by kernel_rfl
def sounderlaw06_SentKnown_g83 (S : Value → Value → Value → Heap → Prop) (x1 x2 x3 : Value) (H : Heap) : Prop :=
  bnd (binV .int .add x3 (.int .i64 1)) fun v26 =>
  S x1 x2 v26 H
theorem sounderlaw06_SentKnown_g83_e (S : Value → Value → Value → Heap → Prop) (x : Nat → Value) (H : Heap) : wpE tab P sounderlaw06_SentKnown_pi sounderlaw06_SentKnown_c37 (nQ fun l H => S (l.getD 1 undef) (l.getD 2 undef) (l.getD 3 undef) H) ((List.range 151).map x) H = sounderlaw06_SentKnown_g83 S (x 1) (x 2) (x 3) H := by kernel_rfl
def sounderlaw06_SentKnown_g84 (S : Value → Value → Heap → Prop) (x1 x2 : Value) (H : Heap) : Prop :=
  bnd (binV .int .add x2 (.int .i64 1)) fun v20 =>
  S x1 v20 H
theorem sounderlaw06_SentKnown_g84_e (S : Value → Value → Heap → Prop) (x : Nat → Value) (H : Heap) : wpE tab P sounderlaw06_SentKnown_pi sounderlaw06_SentKnown_c38 (nQ fun l H => S (l.getD 1 undef) (l.getD 2 undef) H) ((List.range 151).map x) H = sounderlaw06_SentKnown_g84 S (x 1) (x 2) H := by kernel_rfl
def sounderlaw06_SentKnown_s77 (x1 x2 x3 : Value) (K1 : Value → Value →  Heap → Prop) (K2 : Value → Value → Value →  Heap → Prop) (R : Value → Heap → Prop) (H : Heap) : Prop :=
  sounderlaw06_SentKnown_g78 (fun x1 x2 x3 x24 H => brV x24
  (sounderlaw06_SentKnown_g79 (fun x1 x2 x3 x4 H => sounderlaw06_SentKnown_g80 (fun x1 x2 x3 x4 x5 H => sounderlaw06_SentKnown_g81 (fun x1 x2 x3 x82 H => brV x82
  (sounderlaw06_SentKnown_g82 (fun x0 H => R x0 H) H)
  (sounderlaw06_SentKnown_g83 (fun x1 x2 x3 H => K2 x1 x2 x3 H) x1 x2 x3 H)) x1 x2 x3 x4 x5 H) x1 x2 x3 x4 H) x1 x2 x3 H)
  (sounderlaw06_SentKnown_g84 (fun x1 x2 H => K1 x1 x2 H) x1 x2 H)) x1 x2 x3 H
noncomputable def sounderlaw06_SentKnown_q85 (R : Value → Heap → Prop) : Exit → List Value → Heap → Prop := (retQ tab sounderlaw06_SentKnown_rs R)
noncomputable def sounderlaw06_SentKnown_q86 (R : Value → Heap → Prop) : Exit → List Value → Heap → Prop := (thenE (fun l H => wpE tab P sounderlaw06_SentKnown_pi sounderlaw06_SentKnown_c39 (sounderlaw06_SentKnown_q85 R) l H) (sounderlaw06_SentKnown_q85 R))
noncomputable def sounderlaw06_SentKnown_q87 (R : Value → Heap → Prop) : Exit → List Value → Heap → Prop := (blkE 0 (sounderlaw06_SentKnown_q86 R))
noncomputable def sounderlaw06_SentKnown_q88 (K1 : Value → Value →  Heap → Prop) (R : Value → Heap → Prop) : Exit → List Value → Heap → Prop := (thenE (fun l H => K1 (l.getD 1 undef) (l.getD 2 undef) H) (sounderlaw06_SentKnown_q87 R))
noncomputable def sounderlaw06_SentKnown_q89 (K1 : Value → Value →  Heap → Prop) (R : Value → Heap → Prop) : Exit → List Value → Heap → Prop := (thenE (fun l H => wpE tab P sounderlaw06_SentKnown_pi sounderlaw06_SentKnown_c38 (sounderlaw06_SentKnown_q88 K1 R) l H) (sounderlaw06_SentKnown_q88 K1 R))
noncomputable def sounderlaw06_SentKnown_q90 (K1 : Value → Value →  Heap → Prop) (R : Value → Heap → Prop) : Exit → List Value → Heap → Prop := (blkE 1 (sounderlaw06_SentKnown_q89 K1 R))
noncomputable def sounderlaw06_SentKnown_q91 (K1 : Value → Value →  Heap → Prop) (R : Value → Heap → Prop) : Exit → List Value → Heap → Prop := (blkE 2 (sounderlaw06_SentKnown_q90 K1 R))
noncomputable def sounderlaw06_SentKnown_q92 (K1 : Value → Value →  Heap → Prop) (K2 : Value → Value → Value →  Heap → Prop) (R : Value → Heap → Prop) : Exit → List Value → Heap → Prop := (thenE (fun l H => K2 (l.getD 1 undef) (l.getD 2 undef) (l.getD 3 undef) H) (sounderlaw06_SentKnown_q91 K1 R))
theorem sounderlaw06_SentKnown_s77_i (K1 : Value → Value →  Heap → Prop) (K2 : Value → Value → Value →  Heap → Prop) (R : Value → Heap → Prop) (l : List Value) (H : Heap) (hl : l.length = 151) (h : sounderlaw06_SentKnown_s77 (l.getD 1 undef) (l.getD 2 undef) (l.getD 3 undef) K1 K2 R H) : wpE tab P sounderlaw06_SentKnown_pi sounderlaw06_SentKnown_c21 (sounderlaw06_SentKnown_q92 K1 K2 R) l H := by
  refine seqI (c := sounderlaw06_SentKnown_c21) rfl ?_
  refine seqI (c := sounderlaw06_SentKnown_c22) rfl ?_
  refine regI hl (Eq.mpr (sounderlaw06_SentKnown_g78_e _ (fun i => l.getD i undef) _) h) ?_
  clear h hl
  intro l H hl h
  refine thenN ?_
  refine condI (c := sounderlaw06_SentKnown_c24) rfl h ?_ ?_
  · clear h; intro h
    refine skipI rfl ?_
    refine thenN ?_
    refine seqI (c := sounderlaw06_SentKnown_c26) rfl ?_
    refine blockI (c := sounderlaw06_SentKnown_c27) rfl ?_
    refine seqI (c := sounderlaw06_SentKnown_c28) rfl ?_
    refine regI hl (Eq.mpr (sounderlaw06_SentKnown_g79_e _ (fun i => l.getD i undef) _) h) ?_
    clear h hl
    intro l H hl h
    refine thenN ?_
    refine seqI (c := sounderlaw06_SentKnown_c30) rfl ?_
    refine regI hl (Eq.mpr (sounderlaw06_SentKnown_g80_e _ (fun i => l.getD i undef) _) h) ?_
    clear h hl
    intro l H hl h
    refine thenN ?_
    refine seqI (c := sounderlaw06_SentKnown_c32) rfl ?_
    refine regI hl (Eq.mpr (sounderlaw06_SentKnown_g81_e _ (fun i => l.getD i undef) _) h) ?_
    clear h hl
    intro l H hl h
    refine thenN ?_
    refine condI (c := sounderlaw06_SentKnown_c34) rfl h ?_ ?_
    · clear h; intro h
      refine seqI (c := sounderlaw06_SentKnown_c35) rfl ?_
      refine regI hl (Eq.mpr (sounderlaw06_SentKnown_g82_e _ (fun i => l.getD i undef) _) h) ?_
      clear h hl
      intro l H hl h
      refine thenN ?_
      refine retI rfl ?_
      refine blkR ?_
      refine thenR ?_
      refine thenR ?_
      refine blkR ?_
      refine blkR ?_
      refine thenR ?_
      refine thenR ?_
      refine blkR ?_
      refine thenR ?_
      exact h
    · clear h; intro h
      refine skipI rfl ?_
      refine blkN ?_
      refine thenN ?_
      refine regI hl (Eq.mpr (sounderlaw06_SentKnown_g83_e _ (fun i => l.getD i undef) _) h) ?_
      clear h hl
      intro l H hl h
      refine thenN ?_
      exact h
  · clear h; intro h
    refine exitI (c := sounderlaw06_SentKnown_c25) rfl ?_
    refine thenX ?_
    refine thenX ?_
    refine blkX ?_
    refine blkN ?_
    refine thenN ?_
    refine regI hl (Eq.mpr (sounderlaw06_SentKnown_g84_e _ (fun i => l.getD i undef) _) h) ?_
    clear h hl
    intro l H hl h
    refine thenN ?_
    exact h
def sounderlaw06_SentKnown_l93 (x1 x2 x3 : Value) (K1 : Value → Value →  Heap → Prop) (R : Value → Heap → Prop) (H : Heap) : Prop :=
  ∃ (I : Value → Heap → Prop) (μ : Value → Heap → Nat), I x3 H ∧ ∀ (y3 : Value) (H : Heap), I y3 H → sounderlaw06_SentKnown_s77 x1 x2 y3 K1 (fun z1 z2 z3 H' => z1 = x1 ∧ z2 = x2 ∧ (I z3 H' ∧ μ z3 H' < μ y3 H)) R H
def sounderlaw06_SentKnown_g94 (S : Value → Heap → Prop) (H : Heap) : Prop :=
  S (.pointer none) H
theorem sounderlaw06_SentKnown_g94_e (S : Value → Heap → Prop) (x : Nat → Value) (H : Heap) : wpE tab P sounderlaw06_SentKnown_pi sounderlaw06_SentKnown_c40 (nQ fun l H => S (l.getD 6 undef) H) ((List.range 151).map x) H = sounderlaw06_SentKnown_g94 S  H := by kernel_rfl
def sounderlaw06_SentKnown_g95 (S : Value → Value → Heap → Prop) (x6 : Value) (H : Heap) : Prop :=
  S x6 (.int .i64 0) H
theorem sounderlaw06_SentKnown_g95_e (S : Value → Value → Heap → Prop) (x : Nat → Value) (H : Heap) : wpE tab P sounderlaw06_SentKnown_pi sounderlaw06_SentKnown_c43 (nQ fun l H => S (l.getD 6 undef) (l.getD 7 undef) H) ((List.range 151).map x) H = sounderlaw06_SentKnown_g95 S (x 6) H := by kernel_rfl
def sounderlaw06_SentKnown_g97 (S : Value → Value → Value → Heap → Prop) (x6 x7 : Value) (H : Heap) : Prop :=
  bnd (binV .int .lss x7 (.int .i64 2)) fun v84 =>
  S x6 x7 v84 H
theorem sounderlaw06_SentKnown_g97_e (S : Value → Value → Value → Heap → Prop) (x : Nat → Value) (H : Heap) : wpE tab P sounderlaw06_SentKnown_pi sounderlaw06_SentKnown_c48 (nQ fun l H => S (l.getD 6 undef) (l.getD 7 undef) (l.getD 84 undef) H) ((List.range 151).map x) H = sounderlaw06_SentKnown_g97 S (x 6) (x 7) H := by kernel_rfl
def sounderlaw06_SentKnown_g98 (S : Value → Value → Value → Heap → Prop) (x6 x7 : Value) (H : Heap) : Prop :=
  EvF P N.sent_Log_Get #[x6, (.int .i64 0)] H fun v89 H1 =>
  bnd (exV 0 v89) fun v90 =>
  bnd (exV 1 v89) fun v91 =>
  newE 30 #[(.int .i64 0), (.int .i64 0), (.int .i64 0), (.bool false), (.bool false), (.bool false)] H1 fun v8 H2 =>
  bnd (stE 6 v8 v90 H2) fun H3 =>
  S x6 x7 v91 H3
theorem sounderlaw06_SentKnown_g98_e (S : Value → Value → Value → Heap → Prop) (x : Nat → Value) (H : Heap) : wpE tab P sounderlaw06_SentKnown_pi sounderlaw06_SentKnown_c54 (nQ fun l H => S (l.getD 6 undef) (l.getD 7 undef) (l.getD 9 undef) H) ((List.range 151).map x) H = sounderlaw06_SentKnown_g98 S (x 6) (x 7) H := by kernel_rfl
def sounderlaw06_SentKnown_g99 (S : Value → Value → Value → Value → Heap → Prop) (x6 x7 x9 : Value) (H : Heap) : Prop :=
  EvF P N.sent_Log_Drop #[x6, (.int .i64 0)] H fun v94 H1 =>
  bnd (exV 0 v94) fun v95 =>
  bnd (exV 1 v94) fun v96 =>
  newE 30 #[(.int .i64 0), (.int .i64 0), (.int .i64 0), (.bool false), (.bool false), (.bool false)] H1 fun v10 H2 =>
  bnd (stE 6 v10 v95 H2) fun H3 =>
  S x6 x7 x9 v96 H3
theorem sounderlaw06_SentKnown_g99_e (S : Value → Value → Value → Value → Heap → Prop) (x : Nat → Value) (H : Heap) : wpE tab P sounderlaw06_SentKnown_pi sounderlaw06_SentKnown_c56 (nQ fun l H => S (l.getD 6 undef) (l.getD 7 undef) (l.getD 9 undef) (l.getD 11 undef) H) ((List.range 151).map x) H = sounderlaw06_SentKnown_g99 S (x 6) (x 7) (x 9) H := by kernel_rfl
def sounderlaw06_SentKnown_g100 (S : Value → Value → Value → Value → Value → Heap → Prop) (x6 x7 x9 x11 : Value) (H : Heap) : Prop :=
  EvF P N.sent_Log_Oldest #[x6] H fun v99 H1 =>
  bnd (exV 0 v99) fun v100 =>
  bnd (exV 1 v99) fun v101 =>
  newE 30 #[(.int .i64 0), (.int .i64 0), (.int .i64 0), (.bool false), (.bool false), (.bool false)] H1 fun v12 H2 =>
  bnd (stE 6 v12 v100 H2) fun H3 =>
  S x6 x7 x9 x11 v101 H3
theorem sounderlaw06_SentKnown_g100_e (S : Value → Value → Value → Value → Value → Heap → Prop) (x : Nat → Value) (H : Heap) : wpE tab P sounderlaw06_SentKnown_pi sounderlaw06_SentKnown_c58 (nQ fun l H => S (l.getD 6 undef) (l.getD 7 undef) (l.getD 9 undef) (l.getD 11 undef) (l.getD 13 undef) H) ((List.range 151).map x) H = sounderlaw06_SentKnown_g100 S (x 6) (x 7) (x 9) (x 11) H := by kernel_rfl
def sounderlaw06_SentKnown_g101 (S : Value → Value → Value → Value → Value → Heap → Prop) (x6 x7 x9 x11 x13 : Value) (H : Heap) : Prop :=
  EvF P N.sent_Log_Clear #[x6] H fun _ H1 =>
  S x6 x7 x9 x11 x13 H1
theorem sounderlaw06_SentKnown_g101_e (S : Value → Value → Value → Value → Value → Heap → Prop) (x : Nat → Value) (H : Heap) : wpE tab P sounderlaw06_SentKnown_pi sounderlaw06_SentKnown_c60 (nQ fun l H => S (l.getD 6 undef) (l.getD 7 undef) (l.getD 9 undef) (l.getD 11 undef) (l.getD 13 undef) H) ((List.range 151).map x) H = sounderlaw06_SentKnown_g101 S (x 6) (x 7) (x 9) (x 11) (x 13) H := by kernel_rfl
def sounderlaw06_SentKnown_g102 (S : Value → Value → Heap → Prop) (x6 x7 x9 x11 x13 : Value) (H : Heap) : Prop :=
  EvF P N.sounderlaw06_one #[(.int .i64 1)] H fun v105 H1 =>
  EvF P N.sent_Log_Put #[x6, v105] H1 fun v106 H2 =>
  bnd (binV .int .neq v106 (.int .i64 1)) fun v107 =>
  brV v107
  (S x7 (.bool true) H2)
  (brV x9
  (S x7 (.bool true) H2)
  (brV x11
  (S x7 (.bool true) H2)
  (brV x13
  (S x7 (.bool true) H2)
  (EvF P N.sent_Log_Last #[x6] H2 fun v119 H3 =>
  bnd (binV .int .neq v119 (.int .i64 (-1))) fun v120 =>
  brV v120
  (S x7 (.bool true) H3)
  (EvF P N.sent_Log_Len #[x6] H3 fun v124 H4 =>
  EvF P N.sent_Log_Flight #[x6] H4 fun v126 H5 =>
  bnd (binV .int .add v124 v126) fun v127 =>
  EvF P N.sent_Log_Eliciting #[x6] H5 fun v129 H6 =>
  bnd (binV .int .add v127 v129) fun v130 =>
  EvF P N.sent_Log_All #[x6] H6 fun v132 H7 =>
  bnd (lenV v132) fun v133 =>
  bnd (binV .int .add v130 v133) fun v134 =>
  EvF P N.sent_Log_Between #[x6, (.int .i64 0), (.int .i64 9)] H7 fun v136 H8 =>
  bnd (lenV v136) fun v137 =>
  bnd (binV .int .add v134 v137) fun v138 =>
  bnd (binV .int .neq v138 (.int .i64 0)) fun v139 =>
  brV v139
  (S x7 (.bool true) H8)
  (EvF P N.sent_Log_Copy #[x6] H8 fun v143 H9 =>
  bnd (binV .ptr .neq v143 (.pointer none)) fun v144 =>
  S x7 v144 H9))))))
theorem sounderlaw06_SentKnown_g102_e (S : Value → Value → Heap → Prop) (x : Nat → Value) (H : Heap) : wpE tab P sounderlaw06_SentKnown_pi sounderlaw06_SentKnown_c63 (nQ fun l H => S (l.getD 7 undef) (l.getD 145 undef) H) ((List.range 151).map x) H = sounderlaw06_SentKnown_g102 S (x 6) (x 7) (x 9) (x 11) (x 13) H := by kernel_rfl
def sounderlaw06_SentKnown_g103 (S : Value → Heap → Prop) (H : Heap) : Prop :=
  S (.bool false) H
theorem sounderlaw06_SentKnown_g103_e (S : Value → Heap → Prop) (x : Nat → Value) (H : Heap) : wpE tab P sounderlaw06_SentKnown_pi sounderlaw06_SentKnown_c66 (nQ fun l H => S (l.getD 0 undef) H) ((List.range 151).map x) H = sounderlaw06_SentKnown_g103 S  H := by kernel_rfl
def sounderlaw06_SentKnown_g104 (S : Value → Value → Heap → Prop) (x7 : Value) (H : Heap) : Prop :=
  bnd (buildV #[(.int .i64 0), (.int .i64 0), (.slice none 0 0), (.int .i64 0), (.int .i64 0), (.int .i64 0), (.int .i64 0), (.int .i64 0)] (places [(0, 1), (1, 1), (2, 1), (3, 1), (4, 1), (5, 1), (6, 1), (7, 1)]) []) fun v146 =>
  newE 62 (Value.cells v146) H fun v147 H1 =>
  S v147 x7 H1
theorem sounderlaw06_SentKnown_g104_e (S : Value → Value → Heap → Prop) (x : Nat → Value) (H : Heap) : wpE tab P sounderlaw06_SentKnown_pi sounderlaw06_SentKnown_c67 (nQ fun l H => S (l.getD 6 undef) (l.getD 7 undef) H) ((List.range 151).map x) H = sounderlaw06_SentKnown_g104 S (x 7) H := by kernel_rfl
def sounderlaw06_SentKnown_g105 (S : Value → Value → Heap → Prop) (x6 x7 : Value) (H : Heap) : Prop :=
  bnd (binV .int .add x7 (.int .i64 1)) fun v86 =>
  S x6 v86 H
theorem sounderlaw06_SentKnown_g105_e (S : Value → Value → Heap → Prop) (x : Nat → Value) (H : Heap) : wpE tab P sounderlaw06_SentKnown_pi sounderlaw06_SentKnown_c68 (nQ fun l H => S (l.getD 6 undef) (l.getD 7 undef) H) ((List.range 151).map x) H = sounderlaw06_SentKnown_g105 S (x 6) (x 7) H := by kernel_rfl
def sounderlaw06_SentKnown_g106 (S : Value → Heap → Prop) (H : Heap) : Prop :=
  EvF P N.sounderlaw06_works #[] H fun v149 H1 =>
  S v149 H1
theorem sounderlaw06_SentKnown_g106_e (S : Value → Heap → Prop) (x : Nat → Value) (H : Heap) : wpE tab P sounderlaw06_SentKnown_pi sounderlaw06_SentKnown_c70 (nQ fun l H => S (l.getD 0 undef) H) ((List.range 151).map x) H = sounderlaw06_SentKnown_g106 S  H := by kernel_rfl
def sounderlaw06_SentKnown_s96 (x6 x7 : Value) (K3 : Value → Value →  Heap → Prop) (R : Value → Heap → Prop) (H : Heap) : Prop :=
  sounderlaw06_SentKnown_g97 (fun x6 x7 x84 H => brV x84
  (sounderlaw06_SentKnown_g98 (fun x6 x7 x9 H => sounderlaw06_SentKnown_g99 (fun x6 x7 x9 x11 H => sounderlaw06_SentKnown_g100 (fun x6 x7 x9 x11 x13 H => sounderlaw06_SentKnown_g101 (fun x6 x7 x9 x11 x13 H => sounderlaw06_SentKnown_g102 (fun x7 x145 H => brV x145
  (sounderlaw06_SentKnown_g103 (fun x0 H => R x0 H) H)
  (sounderlaw06_SentKnown_g104 (fun x6 x7 H => sounderlaw06_SentKnown_g105 (fun x6 x7 H => K3 x6 x7 H) x6 x7 H) x7 H)) x6 x7 x9 x11 x13 H) x6 x7 x9 x11 x13 H) x6 x7 x9 x11 H) x6 x7 x9 H) x6 x7 H)
  (sounderlaw06_SentKnown_g106 (fun x0 H => R x0 H) H)) x6 x7 H
noncomputable def sounderlaw06_SentKnown_q107 (R : Value → Heap → Prop) : Exit → List Value → Heap → Prop := (thenE (fun l H => wpE tab P sounderlaw06_SentKnown_pi sounderlaw06_SentKnown_c69 (sounderlaw06_SentKnown_q85 R) l H) (sounderlaw06_SentKnown_q85 R))
noncomputable def sounderlaw06_SentKnown_q108 (R : Value → Heap → Prop) : Exit → List Value → Heap → Prop := (blkE 4 (sounderlaw06_SentKnown_q107 R))
noncomputable def sounderlaw06_SentKnown_q109 (K3 : Value → Value →  Heap → Prop) (R : Value → Heap → Prop) : Exit → List Value → Heap → Prop := (thenE (fun l H => K3 (l.getD 6 undef) (l.getD 7 undef) H) (sounderlaw06_SentKnown_q108 R))
theorem sounderlaw06_SentKnown_s96_i (K3 : Value → Value →  Heap → Prop) (R : Value → Heap → Prop) (l : List Value) (H : Heap) (hl : l.length = 151) (h : sounderlaw06_SentKnown_s96 (l.getD 6 undef) (l.getD 7 undef) K3 R H) : wpE tab P sounderlaw06_SentKnown_pi sounderlaw06_SentKnown_c46 (sounderlaw06_SentKnown_q109 K3 R) l H := by
  refine seqI (c := sounderlaw06_SentKnown_c46) rfl ?_
  refine seqI (c := sounderlaw06_SentKnown_c47) rfl ?_
  refine regI hl (Eq.mpr (sounderlaw06_SentKnown_g97_e _ (fun i => l.getD i undef) _) h) ?_
  clear h hl
  intro l H hl h
  refine thenN ?_
  refine condI (c := sounderlaw06_SentKnown_c49) rfl h ?_ ?_
  · clear h; intro h
    refine skipI rfl ?_
    refine thenN ?_
    refine seqI (c := sounderlaw06_SentKnown_c51) rfl ?_
    refine blockI (c := sounderlaw06_SentKnown_c52) rfl ?_
    refine seqI (c := sounderlaw06_SentKnown_c53) rfl ?_
    refine regI hl (Eq.mpr (sounderlaw06_SentKnown_g98_e _ (fun i => l.getD i undef) _) h) ?_
    clear h hl
    intro l H hl h
    refine thenN ?_
    refine seqI (c := sounderlaw06_SentKnown_c55) rfl ?_
    refine regI hl (Eq.mpr (sounderlaw06_SentKnown_g99_e _ (fun i => l.getD i undef) _) h) ?_
    clear h hl
    intro l H hl h
    refine thenN ?_
    refine seqI (c := sounderlaw06_SentKnown_c57) rfl ?_
    refine regI hl (Eq.mpr (sounderlaw06_SentKnown_g100_e _ (fun i => l.getD i undef) _) h) ?_
    clear h hl
    intro l H hl h
    refine thenN ?_
    refine seqI (c := sounderlaw06_SentKnown_c59) rfl ?_
    refine regI hl (Eq.mpr (sounderlaw06_SentKnown_g101_e _ (fun i => l.getD i undef) _) h) ?_
    clear h hl
    intro l H hl h
    refine thenN ?_
    refine seqI (c := sounderlaw06_SentKnown_c61) rfl ?_
    refine seqI (c := sounderlaw06_SentKnown_c62) rfl ?_
    refine regI hl (Eq.mpr (sounderlaw06_SentKnown_g102_e _ (fun i => l.getD i undef) _) h) ?_
    clear h hl
    intro l H hl h
    refine thenN ?_
    refine condI (c := sounderlaw06_SentKnown_c64) rfl h ?_ ?_
    · clear h; intro h
      refine seqI (c := sounderlaw06_SentKnown_c65) rfl ?_
      refine regI hl (Eq.mpr (sounderlaw06_SentKnown_g103_e _ (fun i => l.getD i undef) _) h) ?_
      clear h hl
      intro l H hl h
      refine thenN ?_
      refine retI rfl ?_
      refine thenR ?_
      refine blkR ?_
      refine thenR ?_
      refine thenR ?_
      refine blkR ?_
      refine thenR ?_
      exact h
    · clear h; intro h
      refine skipI rfl ?_
      refine thenN ?_
      refine regI hl (Eq.mpr (sounderlaw06_SentKnown_g104_e _ (fun i => l.getD i undef) _) h) ?_
      clear h hl
      intro l H hl h
      refine blkN ?_
      refine thenN ?_
      refine regI hl (Eq.mpr (sounderlaw06_SentKnown_g105_e _ (fun i => l.getD i undef) _) h) ?_
      clear h hl
      intro l H hl h
      refine thenN ?_
      exact h
  · clear h; intro h
    refine exitI (c := sounderlaw06_SentKnown_c50) rfl ?_
    refine thenX ?_
    refine thenX ?_
    refine blkX ?_
    refine thenN ?_
    refine seqI (c := sounderlaw06_SentKnown_c69) rfl ?_
    refine regI hl (Eq.mpr (sounderlaw06_SentKnown_g106_e _ (fun i => l.getD i undef) _) h) ?_
    clear h hl
    intro l H hl h
    refine thenN ?_
    refine retI rfl ?_
    exact h
def sounderlaw06_SentKnown_l110 (x6 x7 : Value) (R : Value → Heap → Prop) (H : Heap) : Prop :=
  ∃ (I : Value → Value → Heap → Prop) (μ : Value → Value → Heap → Nat), I x6 x7 H ∧ ∀ (y6 : Value) (y7 : Value) (H : Heap), I y6 y7 H → sounderlaw06_SentKnown_s96 y6 y7 (fun z6 z7 H' => (I z6 z7 H' ∧ μ z6 z7 H' < μ y6 y7 H)) R H
def sounderlaw06_SentKnown_s74 (x1 x2 : Value) (K1 : Value → Value →  Heap → Prop) (R : Value → Heap → Prop) (H : Heap) : Prop :=
  sounderlaw06_SentKnown_g75 (fun x1 x2 x18 H => brV x18
  (sounderlaw06_SentKnown_g76 (fun x1 x2 x3 H => sounderlaw06_SentKnown_l93 x1 x2 x3 K1 R H) x1 x2 H)
  (sounderlaw06_SentKnown_g94 (fun x6 H => sounderlaw06_SentKnown_g95 (fun x6 x7 H => sounderlaw06_SentKnown_l110 x6 x7 R H) x6 H) H)) x1 x2 H
theorem sounderlaw06_SentKnown_s74_i (K1 : Value → Value →  Heap → Prop) (R : Value → Heap → Prop) (l : List Value) (H : Heap) (hl : l.length = 151) (h : sounderlaw06_SentKnown_s74 (l.getD 1 undef) (l.getD 2 undef) K1 R H) : wpE tab P sounderlaw06_SentKnown_pi sounderlaw06_SentKnown_c10 (sounderlaw06_SentKnown_q88 K1 R) l H := by
  refine seqI (c := sounderlaw06_SentKnown_c10) rfl ?_
  refine seqI (c := sounderlaw06_SentKnown_c11) rfl ?_
  refine regI hl (Eq.mpr (sounderlaw06_SentKnown_g75_e _ (fun i => l.getD i undef) _) h) ?_
  clear h hl
  intro l H hl h
  refine thenN ?_
  refine condI (c := sounderlaw06_SentKnown_c13) rfl h ?_ ?_
  · clear h; intro h
    refine skipI rfl ?_
    refine thenN ?_
    refine seqI (c := sounderlaw06_SentKnown_c15) rfl ?_
    refine blockI (c := sounderlaw06_SentKnown_c16) rfl ?_
    refine seqI (c := sounderlaw06_SentKnown_c17) rfl ?_
    refine regI hl (Eq.mpr (sounderlaw06_SentKnown_g76_e _ (fun i => l.getD i undef) _) h) ?_
    clear h hl
    intro l H hl h
    refine thenN ?_
    refine blockI (c := sounderlaw06_SentKnown_c19) rfl ?_
    obtain ⟨I, μ, h0, hr⟩ := h
    refine loopI (c := sounderlaw06_SentKnown_c20) rfl (fun l' H' => l'.getD 1 undef = l.getD 1 undef ∧ l'.getD 2 undef = l.getD 2 undef ∧ I (l'.getD 3 undef) H') (fun l' H' => μ (l'.getD 3 undef) H') hl ⟨rfl, rfl, h0⟩ ?_
    rintro l1 H1 hl1 ⟨e1, e2, hI⟩
    have hb := hr (l1.getD 3 undef) H1 hI
    rw [← e1, ← e2] at hb
    refine wpE_mono _ l1 H1 hl1 ?_ (sounderlaw06_SentKnown_s77_i K1 _ R l1 H1 hl1 hb)
    intro e l2 H2 hl2 hq
    cases e with
    | normal => exact fun _ => (by obtain ⟨d1, d2, g1, g2⟩ := hq; exact ⟨⟨d1.trans e1, d2.trans e2, g1⟩, g2⟩)
    | _ => exact hq
  · clear h; intro h
    refine exitI (c := sounderlaw06_SentKnown_c14) rfl ?_
    refine thenX ?_
    refine thenX ?_
    refine blkX ?_
    refine thenN ?_
    refine seqI (c := sounderlaw06_SentKnown_c39) rfl ?_
    refine regI hl (Eq.mpr (sounderlaw06_SentKnown_g94_e _ (fun i => l.getD i undef) _) h) ?_
    clear h hl
    intro l H hl h
    refine thenN ?_
    refine seqI (c := sounderlaw06_SentKnown_c41) rfl ?_
    refine seqI (c := sounderlaw06_SentKnown_c42) rfl ?_
    refine regI hl (Eq.mpr (sounderlaw06_SentKnown_g95_e _ (fun i => l.getD i undef) _) h) ?_
    clear h hl
    intro l H hl h
    refine thenN ?_
    refine blockI (c := sounderlaw06_SentKnown_c44) rfl ?_
    obtain ⟨I, μ, h0, hr⟩ := h
    refine loopI (c := sounderlaw06_SentKnown_c45) rfl (fun l' H' => I (l'.getD 6 undef) (l'.getD 7 undef) H') (fun l' H' => μ (l'.getD 6 undef) (l'.getD 7 undef) H') hl h0 ?_
    rintro l1 H1 hl1 hI
    have hb := hr (l1.getD 6 undef) (l1.getD 7 undef) H1 hI
    refine wpE_mono _ l1 H1 hl1 ?_ (sounderlaw06_SentKnown_s96_i _ R l1 H1 hl1 hb)
    intro e l2 H2 hl2 hq
    cases e with
    | normal => exact fun _ => hq
    | _ => exact hq
def sounderlaw06_SentKnown_l111 (x1 x2 : Value) (R : Value → Heap → Prop) (H : Heap) : Prop :=
  ∃ (I : Value → Heap → Prop) (μ : Value → Heap → Nat), I x2 H ∧ ∀ (y2 : Value) (H : Heap), I y2 H → sounderlaw06_SentKnown_s74 x1 y2 (fun z1 z2 H' => z1 = x1 ∧ (I z2 H' ∧ μ z2 H' < μ y2 H)) R H
def sounderlaw06_SentKnown (R : Value → Heap → Prop) (H : Heap) : Prop :=
  sounderlaw06_SentKnown_g71 (fun H => sounderlaw06_SentKnown_g72 (fun x1 H => sounderlaw06_SentKnown_g73 (fun x1 x2 H => sounderlaw06_SentKnown_l111 x1 x2 R H) x1 H) H) H
theorem sounderlaw06_SentKnown_i (R : Value → Heap → Prop) (H : Heap) (h : sounderlaw06_SentKnown  R H) : wpE tab P sounderlaw06_SentKnown_pi sounderlaw06_SentKnown_c1 (retQ tab sounderlaw06_SentKnown_rs R) [undef, undef, undef, undef, undef, undef, undef, undef, undef, undef, undef, undef, undef, undef, undef, undef, undef, undef, undef, undef, undef, undef, undef, undef, undef, undef, undef, undef, undef, undef, undef, undef, undef, undef, undef, undef, undef, undef, undef, undef, undef, undef, undef, undef, undef, undef, undef, undef, undef, undef, undef, undef, undef, undef, undef, undef, undef, undef, undef, undef, undef, undef, undef, undef, undef, undef, undef, undef, undef, undef, undef, undef, undef, undef, undef, undef, undef, undef, undef, undef, undef, undef, undef, undef, undef, undef, undef, undef, undef, undef, undef, undef, undef, undef, undef, undef, undef, undef, undef, undef, undef, undef, undef, undef, undef, undef, undef, undef, undef, undef, undef, undef, undef, undef, undef, undef, undef, undef, undef, undef, undef, undef, undef, undef, undef, undef, undef, undef, undef, undef, undef, undef, undef, undef, undef, undef, undef, undef, undef, undef, undef, undef, undef, undef, undef, undef, undef, undef, undef, undef, undef] H := by
  obtain ⟨l, hl, el⟩ : ∃ l : List Value, l.length = 151 ∧ l = [undef, undef, undef, undef, undef, undef, undef, undef, undef, undef, undef, undef, undef, undef, undef, undef, undef, undef, undef, undef, undef, undef, undef, undef, undef, undef, undef, undef, undef, undef, undef, undef, undef, undef, undef, undef, undef, undef, undef, undef, undef, undef, undef, undef, undef, undef, undef, undef, undef, undef, undef, undef, undef, undef, undef, undef, undef, undef, undef, undef, undef, undef, undef, undef, undef, undef, undef, undef, undef, undef, undef, undef, undef, undef, undef, undef, undef, undef, undef, undef, undef, undef, undef, undef, undef, undef, undef, undef, undef, undef, undef, undef, undef, undef, undef, undef, undef, undef, undef, undef, undef, undef, undef, undef, undef, undef, undef, undef, undef, undef, undef, undef, undef, undef, undef, undef, undef, undef, undef, undef, undef, undef, undef, undef, undef, undef, undef, undef, undef, undef, undef, undef, undef, undef, undef, undef, undef, undef, undef, undef, undef, undef, undef, undef, undef, undef, undef, undef, undef, undef, undef] := ⟨_, rfl, rfl⟩
  rw [← el]
  have h : sounderlaw06_SentKnown_g71 (fun H => sounderlaw06_SentKnown_g72 (fun x1 H => sounderlaw06_SentKnown_g73 (fun x1 x2 H => sounderlaw06_SentKnown_l111 x1 x2 R H) x1 H) H) H := by exact h
  clear el
  refine seqI (c := sounderlaw06_SentKnown_c1) rfl ?_
  refine regI hl (Eq.mpr (sounderlaw06_SentKnown_g71_e _ (fun i => l.getD i undef) _) h) ?_
  clear h hl
  intro l H hl h
  refine thenN ?_
  refine seqI (c := sounderlaw06_SentKnown_c3) rfl ?_
  refine regI hl (Eq.mpr (sounderlaw06_SentKnown_g72_e _ (fun i => l.getD i undef) _) h) ?_
  clear h hl
  intro l H hl h
  refine thenN ?_
  refine seqI (c := sounderlaw06_SentKnown_c5) rfl ?_
  refine seqI (c := sounderlaw06_SentKnown_c6) rfl ?_
  refine regI hl (Eq.mpr (sounderlaw06_SentKnown_g73_e _ (fun i => l.getD i undef) _) h) ?_
  clear h hl
  intro l H hl h
  refine thenN ?_
  refine blockI (c := sounderlaw06_SentKnown_c8) rfl ?_
  obtain ⟨I, μ, h0, hr⟩ := h
  refine loopI (c := sounderlaw06_SentKnown_c9) rfl (fun l' H' => l'.getD 1 undef = l.getD 1 undef ∧ I (l'.getD 2 undef) H') (fun l' H' => μ (l'.getD 2 undef) H') hl ⟨rfl, h0⟩ ?_
  rintro l1 H1 hl1 ⟨e1, hI⟩
  have hb := hr (l1.getD 2 undef) H1 hI
  rw [← e1] at hb
  refine wpE_mono _ l1 H1 hl1 ?_ (sounderlaw06_SentKnown_s74_i _ R l1 H1 hl1 hb)
  intro e l2 H2 hl2 hq
  cases e with
  | normal => exact fun _ => (by obtain ⟨d1, g1, g2⟩ := hq; exact ⟨⟨d1.trans e1, g1⟩, g2⟩)
  | _ => exact hq
theorem sounderlaw06_SentKnown_ok : okB sounderlaw06_SentKnown_pi sounderlaw06_SentKnown_c1 = true := by kernel_rfl
theorem sounderlaw06_SentKnown_ev (R : Value → Heap → Prop) (H : Heap) (h : sounderlaw06_SentKnown  R H) : EvF P N.sounderlaw06_SentKnown #[] H R :=
  EvF_intro (args := []) (k := 151) (rs := sounderlaw06_SentKnown_rs) tab_ok mixed Try.func8 (show Try.f8.body = some sounderlaw06_SentKnown_c1 by kernel_rfl) Try.call8 Try.ntmps8 (by kernel_rfl) (okCode_of _ sounderlaw06_SentKnown_ok) rfl (sounderlaw06_SentKnown_i R  H h)
/- 9: sounder/sent.New -/
def sent_New_rs : List ResultVar := [.tmp 2, .tmp 3]
noncomputable def sent_New_c2 : Code := subC (bodyC Try.f9) [0]
noncomputable def sent_New_c5 : Code := subC (bodyC Try.f9) [1, 0, 0]
noncomputable def sent_New_c8 : Code := subC (bodyC Try.f9) [1, 0, 1, 0, 0]
noncomputable def sent_New_c7 : Code := .seq sent_New_c8 Code.ret
noncomputable def sent_New_c6 : Code := .cond (.tmp 9) sent_New_c7 Code.skip
noncomputable def sent_New_c4 : Code := .seq sent_New_c5 sent_New_c6
noncomputable def sent_New_c10 : Code := subC (bodyC Try.f9) [1, 1, 0]
noncomputable def sent_New_c9 : Code := .seq sent_New_c10 Code.ret
noncomputable def sent_New_c3 : Code := .seq sent_New_c4 sent_New_c9
noncomputable def sent_New_c1 : Code := .seq sent_New_c2 sent_New_c3
def sent_New_pi (_ : Nat) : Pl := .nil
def sent_New_g11 (S : Value → Heap → Prop) (x0 : Value) (H : Heap) : Prop :=
  S x0 H
theorem sent_New_g11_e (S : Value → Heap → Prop) (x : Nat → Value) (H : Heap) : wpE tab P sent_New_pi sent_New_c2 (nQ fun l H => S (l.getD 0 undef) H) ((List.range 16).map x) H = sent_New_g11 S (x 0) H := by kernel_rfl
def sent_New_g12 (S : Value → Value → Heap → Prop) (x0 : Value) (H : Heap) : Prop :=
  bnd (binV .int .lss x0 (.int .i64 1)) fun v5 =>
  brV v5
  (S x0 (.bool true) H)
  (bnd (binV .int .gtr x0 (.int .i64 256)) fun v8 =>
  S x0 v8 H)
theorem sent_New_g12_e (S : Value → Value → Heap → Prop) (x : Nat → Value) (H : Heap) : wpE tab P sent_New_pi sent_New_c5 (nQ fun l H => S (l.getD 0 undef) (l.getD 9 undef) H) ((List.range 16).map x) H = sent_New_g12 S (x 0) H := by kernel_rfl
def sent_New_g13 (S : Value → Value → Heap → Prop) (H : Heap) : Prop :=
  S (.pointer none) (.int .i64 2) H
theorem sent_New_g13_e (S : Value → Value → Heap → Prop) (x : Nat → Value) (H : Heap) : wpE tab P sent_New_pi sent_New_c8 (nQ fun l H => S (l.getD 2 undef) (l.getD 3 undef) H) ((List.range 16).map x) H = sent_New_g13 S  H := by kernel_rfl
def sent_New_g14 (S : Value → Value → Heap → Prop) (x0 : Value) (H : Heap) : Prop :=
  bnd (binV .int .mul (.int .i64 2) x0) fun v12 =>
  mslE 65 #[(.int .i64 0), (.int .i64 0), (.int .i64 0), (.bool false), (.bool false), (.bool false), (.bool false)] 40 v12 v12 H fun v13 H1 =>
  bnd (buildV #[(.int .i64 0), (.int .i64 0), (.slice none 0 0), (.int .i64 0), (.int .i64 0), (.int .i64 0), (.int .i64 0), (.int .i64 0)] (places [(0, 1), (1, 1), (2, 1), (3, 1), (4, 1), (5, 1), (6, 1), (7, 1)]) [(0, x0), (1, (.int .i64 (-1))), (2, v13)]) fun v14 =>
  newE 62 (Value.cells v14) H1 fun v15 H2 =>
  S v15 (.int .i64 0) H2
theorem sent_New_g14_e (S : Value → Value → Heap → Prop) (x : Nat → Value) (H : Heap) : wpE tab P sent_New_pi sent_New_c10 (nQ fun l H => S (l.getD 2 undef) (l.getD 3 undef) H) ((List.range 16).map x) H = sent_New_g14 S (x 0) H := by kernel_rfl
def sent_New (x0 : Value) (R : Value → Heap → Prop) (H : Heap) : Prop :=
  sent_New_g11 (fun x0 H => sent_New_g12 (fun x0 x9 H => brV x9
  (sent_New_g13 (fun x2 x3 H => R (.tuple #[x2, x3]) H) H)
  (sent_New_g14 (fun x2 x3 H => R (.tuple #[x2, x3]) H) x0 H)) x0 H) x0 H
theorem sent_New_i (R : Value → Heap → Prop) (x0 : Value) (H : Heap) (h : sent_New x0 R H) : wpE tab P sent_New_pi sent_New_c1 (retQ tab sent_New_rs R) [x0, undef, undef, undef, undef, undef, undef, undef, undef, undef, undef, undef, undef, undef, undef, undef] H := by
  obtain ⟨l, hl, el⟩ : ∃ l : List Value, l.length = 16 ∧ l = [x0, undef, undef, undef, undef, undef, undef, undef, undef, undef, undef, undef, undef, undef, undef, undef] := ⟨_, rfl, rfl⟩
  rw [← el]
  have h : (fun (x0 : Value) => sent_New_g11 (fun x0 H => sent_New_g12 (fun x0 x9 H => brV x9
(sent_New_g13 (fun x2 x3 H => R (.tuple #[x2, x3]) H) H)
(sent_New_g14 (fun x2 x3 H => R (.tuple #[x2, x3]) H) x0 H)) x0 H) x0 H) (l.getD 0 undef) := by rw [el]; exact h
  clear el
  refine seqI (c := sent_New_c1) rfl ?_
  refine regI hl (Eq.mpr (sent_New_g11_e _ (fun i => l.getD i undef) _) h) ?_
  clear h hl
  intro l H hl h
  refine thenN ?_
  refine seqI (c := sent_New_c3) rfl ?_
  refine seqI (c := sent_New_c4) rfl ?_
  refine regI hl (Eq.mpr (sent_New_g12_e _ (fun i => l.getD i undef) _) h) ?_
  clear h hl
  intro l H hl h
  refine thenN ?_
  refine condI (c := sent_New_c6) rfl h ?_ ?_
  · clear h; intro h
    refine seqI (c := sent_New_c7) rfl ?_
    refine regI hl (Eq.mpr (sent_New_g13_e _ (fun i => l.getD i undef) _) h) ?_
    clear h hl
    intro l H hl h
    refine thenN ?_
    refine retI rfl ?_
    refine thenR ?_
    exact h
  · clear h; intro h
    refine skipI rfl ?_
    refine thenN ?_
    refine seqI (c := sent_New_c9) rfl ?_
    refine regI hl (Eq.mpr (sent_New_g14_e _ (fun i => l.getD i undef) _) h) ?_
    clear h hl
    intro l H hl h
    refine thenN ?_
    refine retI rfl ?_
    exact h
theorem sent_New_ok : okB sent_New_pi sent_New_c1 = true := by kernel_rfl
theorem sent_New_ev (x0 : Value) (R : Value → Heap → Prop) (H : Heap) (h : sent_New x0 R H) : EvF P N.sent_New #[x0] H R :=
  EvF_intro (args := [x0]) (k := 15) (rs := sent_New_rs) tab_ok mixed Try.func9 (show Try.f9.body = some sent_New_c1 by kernel_rfl) Try.call9 Try.ntmps9 (by kernel_rfl) (okCode_of _ sent_New_ok) rfl (sent_New_i R x0 H h)
/- 10: sounder/sounderref00.Bring -/
def sounderref00_Bring_rs : List ResultVar := [.tmp 4]
noncomputable def sounderref00_Bring_c2 : Code := subC (bodyC Try.f10) [0]
noncomputable def sounderref00_Bring_c4 : Code := subC (bodyC Try.f10) [1, 0]
noncomputable def sounderref00_Bring_c7 : Code := subC (bodyC Try.f10) [1, 1, 0, 0]
noncomputable def sounderref00_Bring_c9 : Code := subC (bodyC Try.f10) [1, 1, 0, 1, 0]
noncomputable def sounderref00_Bring_c8 : Code := .cond (.tmp 9) sounderref00_Bring_c9 Code.skip
noncomputable def sounderref00_Bring_c6 : Code := .seq sounderref00_Bring_c7 sounderref00_Bring_c8
noncomputable def sounderref00_Bring_c11 : Code := subC (bodyC Try.f10) [1, 1, 1, 0]
noncomputable def sounderref00_Bring_c10 : Code := .seq sounderref00_Bring_c11 Code.ret
noncomputable def sounderref00_Bring_c5 : Code := .seq sounderref00_Bring_c6 sounderref00_Bring_c10
noncomputable def sounderref00_Bring_c3 : Code := .seq sounderref00_Bring_c4 sounderref00_Bring_c5
noncomputable def sounderref00_Bring_c1 : Code := .seq sounderref00_Bring_c2 sounderref00_Bring_c3
def sounderref00_Bring_pi (_ : Nat) : Pl := .nil
def sounderref00_Bring_g12 (S : Value → Value → Heap → Prop) (x0 x1 : Value) (H : Heap) : Prop :=
  S x0 x1 H
theorem sounderref00_Bring_g12_e (S : Value → Value → Heap → Prop) (x : Nat → Value) (H : Heap) : wpE tab P sounderref00_Bring_pi sounderref00_Bring_c2 (nQ fun l H => S (l.getD 0 undef) (l.getD 1 undef) H) ((List.range 14).map x) H = sounderref00_Bring_g12 S (x 0) (x 1) H := by kernel_rfl
def sounderref00_Bring_g13 (S : Value → Value → Heap → Prop) (x0 x1 : Value) (H : Heap) : Prop :=
  bnd (binV .int .rem x0 x1) fun v7 =>
  S v7 x1 H
theorem sounderref00_Bring_g13_e (S : Value → Value → Heap → Prop) (x : Nat → Value) (H : Heap) : wpE tab P sounderref00_Bring_pi sounderref00_Bring_c4 (nQ fun l H => S (l.getD 0 undef) (l.getD 1 undef) H) ((List.range 14).map x) H = sounderref00_Bring_g13 S (x 0) (x 1) H := by kernel_rfl
def sounderref00_Bring_g15 (S : Value → Heap → Prop) (x0 : Value) (H : Heap) : Prop :=
  S x0 H
theorem sounderref00_Bring_g15_e (S : Value → Heap → Prop) (x : Nat → Value) (H : Heap) : wpE tab P sounderref00_Bring_pi sounderref00_Bring_c11 (nQ fun l H => S (l.getD 4 undef) H) ((List.range 14).map x) H = sounderref00_Bring_g15 S (x 0) H := by kernel_rfl
def sounderref00_Bring_s14 (x0 : Value) (R : Value → Heap → Prop) (H : Heap) : Prop :=
  sounderref00_Bring_g15 (fun x4 H => R x4 H) x0 H
noncomputable def sounderref00_Bring_q16 (R : Value → Heap → Prop) : Exit → List Value → Heap → Prop := (retQ tab sounderref00_Bring_rs R)
theorem sounderref00_Bring_s14_i (R : Value → Heap → Prop) (l : List Value) (H : Heap) (hl : l.length = 14) (h : sounderref00_Bring_s14 (l.getD 0 undef) R H) : wpE tab P sounderref00_Bring_pi sounderref00_Bring_c10 (sounderref00_Bring_q16 R) l H := by
  refine seqI (c := sounderref00_Bring_c10) rfl ?_
  refine regI hl (Eq.mpr (sounderref00_Bring_g15_e _ (fun i => l.getD i undef) _) h) ?_
  clear h hl
  intro l H hl h
  refine thenN ?_
  refine retI rfl ?_
  exact h
def sounderref00_Bring_g17 (S : Value → Value → Value → Heap → Prop) (x0 x1 : Value) (H : Heap) : Prop :=
  bnd (binV .int .lss x0 (.int .i64 0)) fun v9 =>
  S x0 x1 v9 H
theorem sounderref00_Bring_g17_e (S : Value → Value → Value → Heap → Prop) (x : Nat → Value) (H : Heap) : wpE tab P sounderref00_Bring_pi sounderref00_Bring_c7 (nQ fun l H => S (l.getD 0 undef) (l.getD 1 undef) (l.getD 9 undef) H) ((List.range 14).map x) H = sounderref00_Bring_g17 S (x 0) (x 1) H := by kernel_rfl
def sounderref00_Bring_g18 (S : Value → Heap → Prop) (x0 x1 : Value) (H : Heap) : Prop :=
  bnd (binV .int .add x0 x1) fun v12 =>
  S v12 H
theorem sounderref00_Bring_g18_e (S : Value → Heap → Prop) (x : Nat → Value) (H : Heap) : wpE tab P sounderref00_Bring_pi sounderref00_Bring_c9 (nQ fun l H => S (l.getD 0 undef) H) ((List.range 14).map x) H = sounderref00_Bring_g18 S (x 0) (x 1) H := by kernel_rfl
def sounderref00_Bring (x0 x1 : Value) (R : Value → Heap → Prop) (H : Heap) : Prop :=
  sounderref00_Bring_g12 (fun x0 x1 H => sounderref00_Bring_g13 (fun x0 x1 H => sounderref00_Bring_g17 (fun x0 x1 x9 H => brV x9
  (sounderref00_Bring_g18 (fun x0 H => sounderref00_Bring_s14 x0 R H) x0 x1 H)
  (sounderref00_Bring_s14 x0 R H)) x0 x1 H) x0 x1 H) x0 x1 H
theorem sounderref00_Bring_i (R : Value → Heap → Prop) (x0 x1 : Value) (H : Heap) (h : sounderref00_Bring x0 x1 R H) : wpE tab P sounderref00_Bring_pi sounderref00_Bring_c1 (retQ tab sounderref00_Bring_rs R) [x0, x1, undef, undef, undef, undef, undef, undef, undef, undef, undef, undef, undef, undef] H := by
  obtain ⟨l, hl, el⟩ : ∃ l : List Value, l.length = 14 ∧ l = [x0, x1, undef, undef, undef, undef, undef, undef, undef, undef, undef, undef, undef, undef] := ⟨_, rfl, rfl⟩
  rw [← el]
  have h : (fun (x0 x1 : Value) => sounderref00_Bring_g12 (fun x0 x1 H => sounderref00_Bring_g13 (fun x0 x1 H => sounderref00_Bring_g17 (fun x0 x1 x9 H => brV x9
(sounderref00_Bring_g18 (fun x0 H => sounderref00_Bring_s14 x0 R H) x0 x1 H)
(sounderref00_Bring_s14 x0 R H)) x0 x1 H) x0 x1 H) x0 x1 H) (l.getD 0 undef) (l.getD 1 undef) := by rw [el]; exact h
  clear el
  refine seqI (c := sounderref00_Bring_c1) rfl ?_
  refine regI hl (Eq.mpr (sounderref00_Bring_g12_e _ (fun i => l.getD i undef) _) h) ?_
  clear h hl
  intro l H hl h
  refine thenN ?_
  refine seqI (c := sounderref00_Bring_c3) rfl ?_
  refine regI hl (Eq.mpr (sounderref00_Bring_g13_e _ (fun i => l.getD i undef) _) h) ?_
  clear h hl
  intro l H hl h
  refine thenN ?_
  refine seqI (c := sounderref00_Bring_c5) rfl ?_
  refine seqI (c := sounderref00_Bring_c6) rfl ?_
  refine regI hl (Eq.mpr (sounderref00_Bring_g17_e _ (fun i => l.getD i undef) _) h) ?_
  clear h hl
  intro l H hl h
  refine thenN ?_
  refine condI (c := sounderref00_Bring_c8) rfl h ?_ ?_
  · clear h; intro h
    refine regI hl (Eq.mpr (sounderref00_Bring_g18_e _ (fun i => l.getD i undef) _) h) ?_
    clear h hl
    intro l H hl h
    refine thenN ?_
    exact sounderref00_Bring_s14_i R l H hl h
  · clear h; intro h
    refine skipI rfl ?_
    refine thenN ?_
    exact sounderref00_Bring_s14_i R l H hl h
theorem sounderref00_Bring_ok : okB sounderref00_Bring_pi sounderref00_Bring_c1 = true := by kernel_rfl
theorem sounderref00_Bring_ev (x0 x1 : Value) (R : Value → Heap → Prop) (H : Heap) (h : sounderref00_Bring x0 x1 R H) : EvF P N.sounderref00_Bring #[x0, x1] H R :=
  EvF_intro (args := [x0, x1]) (k := 12) (rs := sounderref00_Bring_rs) tab_ok mixed Try.func10 (show Try.f10.body = some sounderref00_Bring_c1 by kernel_rfl) Try.call10 Try.ntmps10 (by kernel_rfl) (okCode_of _ sounderref00_Bring_ok) rfl (sounderref00_Bring_i R x0 x1 H h)
/- 11: (*sounder/sent.Log).Put -/
def sent_Log_Put_rs : List ResultVar := [.tmp 4]
noncomputable def sent_Log_Put_c2 : Code := subC (bodyC Try.f11) [0]
noncomputable def sent_Log_Put_c6 : Code := subC (bodyC Try.f11) [1, 0, 0, 0]
noncomputable def sent_Log_Put_c9 : Code := subC (bodyC Try.f11) [1, 0, 0, 1, 0, 0]
noncomputable def sent_Log_Put_c8 : Code := .seq sent_Log_Put_c9 Code.ret
noncomputable def sent_Log_Put_c11 : Code := subC (bodyC Try.f11) [1, 0, 0, 1, 1, 0]
noncomputable def sent_Log_Put_c14 : Code := subC (bodyC Try.f11) [1, 0, 0, 1, 1, 1, 0, 0]
noncomputable def sent_Log_Put_c13 : Code := .seq sent_Log_Put_c14 Code.ret
noncomputable def sent_Log_Put_c16 : Code := subC (bodyC Try.f11) [1, 0, 0, 1, 1, 1, 1, 0]
noncomputable def sent_Log_Put_c19 : Code := subC (bodyC Try.f11) [1, 0, 0, 1, 1, 1, 1, 1, 0, 0]
noncomputable def sent_Log_Put_c18 : Code := .seq sent_Log_Put_c19 Code.ret
noncomputable def sent_Log_Put_c21 : Code := subC (bodyC Try.f11) [1, 0, 0, 1, 1, 1, 1, 1, 1, 0]
noncomputable def sent_Log_Put_c24 : Code := subC (bodyC Try.f11) [1, 0, 0, 1, 1, 1, 1, 1, 1, 1, 0, 0]
noncomputable def sent_Log_Put_c23 : Code := .seq sent_Log_Put_c24 Code.ret
noncomputable def sent_Log_Put_c22 : Code := .cond (.tmp 20) sent_Log_Put_c23 Code.skip
noncomputable def sent_Log_Put_c20 : Code := .seq sent_Log_Put_c21 sent_Log_Put_c22
noncomputable def sent_Log_Put_c17 : Code := .cond (.tmp 12) sent_Log_Put_c18 sent_Log_Put_c20
noncomputable def sent_Log_Put_c15 : Code := .seq sent_Log_Put_c16 sent_Log_Put_c17
noncomputable def sent_Log_Put_c12 : Code := .cond (.tmp 8) sent_Log_Put_c13 sent_Log_Put_c15
noncomputable def sent_Log_Put_c10 : Code := .seq sent_Log_Put_c11 sent_Log_Put_c12
noncomputable def sent_Log_Put_c7 : Code := .cond (.tmp 5) sent_Log_Put_c8 sent_Log_Put_c10
noncomputable def sent_Log_Put_c5 : Code := .seq sent_Log_Put_c6 sent_Log_Put_c7
noncomputable def sent_Log_Put_c4 : Code := .block 0 sent_Log_Put_c5
noncomputable def sent_Log_Put_c27 : Code := subC (bodyC Try.f11) [1, 1, 0, 0]
noncomputable def sent_Log_Put_c29 : Code := subC (bodyC Try.f11) [1, 1, 0, 1, 0]
noncomputable def sent_Log_Put_c28 : Code := .cond (.tmp 39) sent_Log_Put_c29 Code.skip
noncomputable def sent_Log_Put_c26 : Code := .seq sent_Log_Put_c27 sent_Log_Put_c28
noncomputable def sent_Log_Put_c31 : Code := subC (bodyC Try.f11) [1, 1, 1, 0]
noncomputable def sent_Log_Put_c33 : Code := subC (bodyC Try.f11) [1, 1, 1, 1, 0]
noncomputable def sent_Log_Put_c35 : Code := subC (bodyC Try.f11) [1, 1, 1, 1, 1, 0]
noncomputable def sent_Log_Put_c37 : Code := subC (bodyC Try.f11) [1, 1, 1, 1, 1, 1, 0]
noncomputable def sent_Log_Put_c39 : Code := subC (bodyC Try.f11) [1, 1, 1, 1, 1, 1, 1, 0]
noncomputable def sent_Log_Put_c38 : Code := .seq sent_Log_Put_c39 Code.ret
noncomputable def sent_Log_Put_c36 : Code := .seq sent_Log_Put_c37 sent_Log_Put_c38
noncomputable def sent_Log_Put_c34 : Code := .seq sent_Log_Put_c35 sent_Log_Put_c36
noncomputable def sent_Log_Put_c32 : Code := .seq sent_Log_Put_c33 sent_Log_Put_c34
noncomputable def sent_Log_Put_c30 : Code := .seq sent_Log_Put_c31 sent_Log_Put_c32
noncomputable def sent_Log_Put_c25 : Code := .seq sent_Log_Put_c26 sent_Log_Put_c30
noncomputable def sent_Log_Put_c3 : Code := .seq sent_Log_Put_c4 sent_Log_Put_c25
noncomputable def sent_Log_Put_c1 : Code := .seq sent_Log_Put_c2 sent_Log_Put_c3
def sent_Log_Put_pi (i : Nat) : Pl := match i with
  | 5 => (ones [0, 1, 2, 3, 4, 5, 6, 7] .nil)
  | 7 => (ones [0, 1, 2, 3, 4, 5, 6, 7, 8, 9] .nil)
  | 9 => (ones [0, 1, 2, 3, 4, 5, 6, 7, 8, 9] .nil)
  | 11 => (ones [0, 1, 2, 3, 4, 6, 7, 5, 8, 9] .nil)
  | _ => .nil
def sent_Log_Put_g40 (S : Value → Value → Heap → Prop) (x0 x1 : Value) (H : Heap) : Prop :=
  newE 30 (Value.cells x1) H fun v3 H1 =>
  S x0 v3 H1
theorem sent_Log_Put_g40_e (S : Value → Value → Heap → Prop) (x : Nat → Value) (H : Heap) : wpE tab P sent_Log_Put_pi sent_Log_Put_c2 (nQ fun l H => S (l.getD 0 undef) (l.getD 3 undef) H) ((List.range 66).map x) H = sent_Log_Put_g40 S (x 0) (x 1) H := by kernel_rfl
def sent_Log_Put_g41 (S : Value → Value → Value → Heap → Prop) (x0 x3 : Value) (H : Heap) : Prop :=
  EvF P N.sent_Log_none #[x0] H fun v7 H1 =>
  S x0 x3 v7 H1
theorem sent_Log_Put_g41_e (S : Value → Value → Value → Heap → Prop) (x : Nat → Value) (H : Heap) : wpE tab P sent_Log_Put_pi sent_Log_Put_c6 (nQ fun l H => S (l.getD 0 undef) (l.getD 3 undef) (l.getD 5 undef) H) ((List.range 66).map x) H = sent_Log_Put_g41 S (x 0) (x 3) H := by kernel_rfl
def sent_Log_Put_g42 (S : Value → Heap → Prop) (H : Heap) : Prop :=
  S (.int .i64 1) H
theorem sent_Log_Put_g42_e (S : Value → Heap → Prop) (x : Nat → Value) (H : Heap) : wpE tab P sent_Log_Put_pi sent_Log_Put_c9 (nQ fun l H => S (l.getD 4 undef) H) ((List.range 66).map x) H = sent_Log_Put_g42 S  H := by kernel_rfl
def sent_Log_Put_g43 (S : Value → Value → Value → Heap → Prop) (x0 x3 : Value) (H : Heap) : Prop :=
  bnd (ldE true 6 x3 H) fun v9 =>
  EvF P N.sent_may #[v9] H fun v10 H1 =>
  bnd (unV .not v10) fun v11 =>
  S x0 x3 v11 H1
theorem sent_Log_Put_g43_e (S : Value → Value → Value → Heap → Prop) (x : Nat → Value) (H : Heap) : wpE tab P sent_Log_Put_pi sent_Log_Put_c11 (nQ fun l H => S (l.getD 0 undef) (l.getD 3 undef) (l.getD 8 undef) H) ((List.range 66).map x) H = sent_Log_Put_g43 S (x 0) (x 3) H := by kernel_rfl
def sent_Log_Put_g44 (S : Value → Heap → Prop) (H : Heap) : Prop :=
  S (.int .i64 2) H
theorem sent_Log_Put_g44_e (S : Value → Heap → Prop) (x : Nat → Value) (H : Heap) : wpE tab P sent_Log_Put_pi sent_Log_Put_c14 (nQ fun l H => S (l.getD 4 undef) H) ((List.range 66).map x) H = sent_Log_Put_g44 S  H := by kernel_rfl
def sent_Log_Put_g45 (S : Value → Value → Value → Heap → Prop) (x0 x3 : Value) (H : Heap) : Prop :=
  bnd (faV 0 x3) fun v13 =>
  bnd (ldE false 1 v13 H) fun v14 =>
  bnd (nilV x0) fun v16 =>
  bnd (faV 1 v16) fun v17 =>
  bnd (ldE false 1 v17 H) fun v18 =>
  bnd (binV .int .leq v14 v18) fun v19 =>
  S x0 x3 v19 H
theorem sent_Log_Put_g45_e (S : Value → Value → Value → Heap → Prop) (x : Nat → Value) (H : Heap) : wpE tab P sent_Log_Put_pi sent_Log_Put_c16 (nQ fun l H => S (l.getD 0 undef) (l.getD 3 undef) (l.getD 12 undef) H) ((List.range 66).map x) H = sent_Log_Put_g45 S (x 0) (x 3) H := by kernel_rfl
def sent_Log_Put_g46 (S : Value → Heap → Prop) (H : Heap) : Prop :=
  S (.int .i64 60) H
theorem sent_Log_Put_g46_e (S : Value → Heap → Prop) (x : Nat → Value) (H : Heap) : wpE tab P sent_Log_Put_pi sent_Log_Put_c19 (nQ fun l H => S (l.getD 4 undef) H) ((List.range 66).map x) H = sent_Log_Put_g46 S  H := by kernel_rfl
def sent_Log_Put_g47 (S : Value → Value → Value → Heap → Prop) (x0 x3 : Value) (H : Heap) : Prop :=
  bnd (nilV x0) fun v22 =>
  bnd (faV 5 v22) fun v23 =>
  bnd (ldE false 1 v23 H) fun v24 =>
  bnd (nilV x0) fun v26 =>
  bnd (faV 0 v26) fun v27 =>
  bnd (ldE false 1 v27 H) fun v28 =>
  bnd (binV .int .eql v24 v28) fun v29 =>
  S x0 x3 v29 H
theorem sent_Log_Put_g47_e (S : Value → Value → Value → Heap → Prop) (x : Nat → Value) (H : Heap) : wpE tab P sent_Log_Put_pi sent_Log_Put_c21 (nQ fun l H => S (l.getD 0 undef) (l.getD 3 undef) (l.getD 20 undef) H) ((List.range 66).map x) H = sent_Log_Put_g47 S (x 0) (x 3) H := by kernel_rfl
def sent_Log_Put_g48 (S : Value → Heap → Prop) (H : Heap) : Prop :=
  S (.int .i64 5) H
theorem sent_Log_Put_g48_e (S : Value → Heap → Prop) (x : Nat → Value) (H : Heap) : wpE tab P sent_Log_Put_pi sent_Log_Put_c24 (nQ fun l H => S (l.getD 4 undef) H) ((List.range 66).map x) H = sent_Log_Put_g48 S  H := by kernel_rfl
def sent_Log_Put_g50 (S : Value → Value → Heap → Prop) (x0 x3 : Value) (H : Heap) : Prop :=
  bnd (nilV x0) fun v44 =>
  bnd (faV 4 v44) fun v45 =>
  bnd (ldE false 1 v45 H) fun v46 =>
  bnd (ldE true 6 x3 H) fun v48 =>
  bnd (buildV #[(.int .i64 0), (.int .i64 0), (.int .i64 0), (.bool false), (.bool false), (.bool false), (.bool false)] (places [(0, 6), (6, 1)]) [(0, v48), (1, (.bool true))]) fun v49 =>
  EvF P N.sent_Log_at #[x0, v46] H fun v47 H1 =>
  ((bnd (ldE true 6 x3 H1) fun v' => v' = v48) ∧
  bnd (nilV v47) fun v50 =>
  bnd (stE 7 v50 v49 H1) fun H2 =>
  S x0 x3 H2)
theorem sent_Log_Put_g50_e (S : Value → Value → Heap → Prop) (x : Nat → Value) (H : Heap) : wpE tab P sent_Log_Put_pi sent_Log_Put_c31 (nQ fun l H => S (l.getD 0 undef) (l.getD 3 undef) H) ((List.range 66).map x) H = sent_Log_Put_g50 S (x 0) (x 3) H := by kernel_rfl
def sent_Log_Put_g51 (S : Value → Value → Heap → Prop) (x0 x3 : Value) (H : Heap) : Prop :=
  bnd (nilV x0) fun v52 =>
  bnd (faV 4 v52) fun v53 =>
  bnd (ldE false 1 v53 H) fun v54 =>
  bnd (binV .int .add v54 (.int .i64 1)) fun v55 =>
  bnd (nilV x0) fun v56 =>
  bnd (faV 4 v56) fun v57 =>
  bnd (stE 1 v57 v55 H) fun H1 =>
  S x0 x3 H1
theorem sent_Log_Put_g51_e (S : Value → Value → Heap → Prop) (x : Nat → Value) (H : Heap) : wpE tab P sent_Log_Put_pi sent_Log_Put_c33 (nQ fun l H => S (l.getD 0 undef) (l.getD 3 undef) H) ((List.range 66).map x) H = sent_Log_Put_g51 S (x 0) (x 3) H := by kernel_rfl
def sent_Log_Put_g52 (S : Value → Value → Heap → Prop) (x0 x3 : Value) (H : Heap) : Prop :=
  bnd (faV 0 x3) fun v59 =>
  bnd (ldE false 1 v59 H) fun v60 =>
  bnd (nilV x0) fun v61 =>
  bnd (faV 1 v61) fun v62 =>
  bnd (stE 1 v62 v60 H) fun H1 =>
  S x0 x3 H1
theorem sent_Log_Put_g52_e (S : Value → Value → Heap → Prop) (x : Nat → Value) (H : Heap) : wpE tab P sent_Log_Put_pi sent_Log_Put_c35 (nQ fun l H => S (l.getD 0 undef) (l.getD 3 undef) H) ((List.range 66).map x) H = sent_Log_Put_g52 S (x 0) (x 3) H := by kernel_rfl
def sent_Log_Put_g53 (S : Heap → Prop) (x0 x3 : Value) (H : Heap) : Prop :=
  bnd (ldE true 6 x3 H) fun v64 =>
  EvF P N.sent_Log_more #[x0, v64] H fun _ H1 =>
  S H1
theorem sent_Log_Put_g53_e (S : Heap → Prop) (x : Nat → Value) (H : Heap) : wpE tab P sent_Log_Put_pi sent_Log_Put_c37 (nQ fun _ H => S  H) ((List.range 66).map x) H = sent_Log_Put_g53 S (x 0) (x 3) H := by kernel_rfl
def sent_Log_Put_g54 (S : Value → Heap → Prop) (H : Heap) : Prop :=
  S (.int .i64 0) H
theorem sent_Log_Put_g54_e (S : Value → Heap → Prop) (x : Nat → Value) (H : Heap) : wpE tab P sent_Log_Put_pi sent_Log_Put_c39 (nQ fun l H => S (l.getD 4 undef) H) ((List.range 66).map x) H = sent_Log_Put_g54 S  H := by kernel_rfl
def sent_Log_Put_s49 (x0 x3 : Value) (R : Value → Heap → Prop) (H : Heap) : Prop :=
  sent_Log_Put_g50 (fun x0 x3 H => sent_Log_Put_g51 (fun x0 x3 H => sent_Log_Put_g52 (fun x0 x3 H => sent_Log_Put_g53 (fun H => sent_Log_Put_g54 (fun x4 H => R x4 H) H) x0 x3 H) x0 x3 H) x0 x3 H) x0 x3 H
noncomputable def sent_Log_Put_q55 (R : Value → Heap → Prop) : Exit → List Value → Heap → Prop := (retQ tab sent_Log_Put_rs R)
theorem sent_Log_Put_s49_i (R : Value → Heap → Prop) (l : List Value) (H : Heap) (hl : l.length = 66) (h : sent_Log_Put_s49 (l.getD 0 undef) (l.getD 3 undef) R H) : wpE tab P sent_Log_Put_pi sent_Log_Put_c30 (sent_Log_Put_q55 R) l H := by
  refine seqI (c := sent_Log_Put_c30) rfl ?_
  refine regI hl (Eq.mpr (sent_Log_Put_g50_e _ (fun i => l.getD i undef) _) h) ?_
  clear h hl
  intro l H hl h
  refine thenN ?_
  refine seqI (c := sent_Log_Put_c32) rfl ?_
  refine regI hl (Eq.mpr (sent_Log_Put_g51_e _ (fun i => l.getD i undef) _) h) ?_
  clear h hl
  intro l H hl h
  refine thenN ?_
  refine seqI (c := sent_Log_Put_c34) rfl ?_
  refine regI hl (Eq.mpr (sent_Log_Put_g52_e _ (fun i => l.getD i undef) _) h) ?_
  clear h hl
  intro l H hl h
  refine thenN ?_
  refine seqI (c := sent_Log_Put_c36) rfl ?_
  refine regI hl (Eq.mpr (sent_Log_Put_g53_e _ (fun i => l.getD i undef) _) h) ?_
  clear h hl
  intro l H hl h
  refine thenN ?_
  refine seqI (c := sent_Log_Put_c38) rfl ?_
  refine regI hl (Eq.mpr (sent_Log_Put_g54_e _ (fun i => l.getD i undef) _) h) ?_
  clear h hl
  intro l H hl h
  refine thenN ?_
  refine retI rfl ?_
  exact h
def sent_Log_Put_g56 (S : Value → Value → Value → Heap → Prop) (x0 x3 : Value) (H : Heap) : Prop :=
  bnd (nilV x0) fun v31 =>
  bnd (faV 4 v31) fun v32 =>
  bnd (ldE false 1 v32 H) fun v33 =>
  bnd (nilV x0) fun v35 =>
  bnd (faV 2 v35) fun v36 =>
  bnd (ldE false 1 v36 H) fun v37 =>
  bnd (lenV v37) fun v38 =>
  bnd (binV .int .eql v33 v38) fun v39 =>
  S x0 x3 v39 H
theorem sent_Log_Put_g56_e (S : Value → Value → Value → Heap → Prop) (x : Nat → Value) (H : Heap) : wpE tab P sent_Log_Put_pi sent_Log_Put_c27 (nQ fun l H => S (l.getD 0 undef) (l.getD 3 undef) (l.getD 39 undef) H) ((List.range 66).map x) H = sent_Log_Put_g56 S (x 0) (x 3) H := by kernel_rfl
def sent_Log_Put_g57 (S : Value → Value → Heap → Prop) (x0 x3 : Value) (H : Heap) : Prop :=
  EvF P N.sent_Log_pack #[x0] H fun _ H1 =>
  S x0 x3 H1
theorem sent_Log_Put_g57_e (S : Value → Value → Heap → Prop) (x : Nat → Value) (H : Heap) : wpE tab P sent_Log_Put_pi sent_Log_Put_c29 (nQ fun l H => S (l.getD 0 undef) (l.getD 3 undef) H) ((List.range 66).map x) H = sent_Log_Put_g57 S (x 0) (x 3) H := by kernel_rfl
def sent_Log_Put (x0 x1 : Value) (R : Value → Heap → Prop) (H : Heap) : Prop :=
  sent_Log_Put_g40 (fun x0 x3 H => sent_Log_Put_g41 (fun x0 x3 x5 H => brV x5
  (sent_Log_Put_g42 (fun x4 H => R x4 H) H)
  (sent_Log_Put_g43 (fun x0 x3 x8 H => brV x8
  (sent_Log_Put_g44 (fun x4 H => R x4 H) H)
  (sent_Log_Put_g45 (fun x0 x3 x12 H => brV x12
  (sent_Log_Put_g46 (fun x4 H => R x4 H) H)
  (sent_Log_Put_g47 (fun x0 x3 x20 H => brV x20
  (sent_Log_Put_g48 (fun x4 H => R x4 H) H)
  (sent_Log_Put_g56 (fun x0 x3 x39 H => brV x39
  (sent_Log_Put_g57 (fun x0 x3 H => sent_Log_Put_s49 x0 x3 R H) x0 x3 H)
  (sent_Log_Put_s49 x0 x3 R H)) x0 x3 H)) x0 x3 H)) x0 x3 H)) x0 x3 H)) x0 x3 H) x0 x1 H
theorem sent_Log_Put_i (R : Value → Heap → Prop) (x0 x1 : Value) (H : Heap) (h : sent_Log_Put x0 x1 R H) : wpE tab P sent_Log_Put_pi sent_Log_Put_c1 (retQ tab sent_Log_Put_rs R) [x0, x1, undef, undef, undef, undef, undef, undef, undef, undef, undef, undef, undef, undef, undef, undef, undef, undef, undef, undef, undef, undef, undef, undef, undef, undef, undef, undef, undef, undef, undef, undef, undef, undef, undef, undef, undef, undef, undef, undef, undef, undef, undef, undef, undef, undef, undef, undef, undef, undef, undef, undef, undef, undef, undef, undef, undef, undef, undef, undef, undef, undef, undef, undef, undef, undef] H := by
  obtain ⟨l, hl, el⟩ : ∃ l : List Value, l.length = 66 ∧ l = [x0, x1, undef, undef, undef, undef, undef, undef, undef, undef, undef, undef, undef, undef, undef, undef, undef, undef, undef, undef, undef, undef, undef, undef, undef, undef, undef, undef, undef, undef, undef, undef, undef, undef, undef, undef, undef, undef, undef, undef, undef, undef, undef, undef, undef, undef, undef, undef, undef, undef, undef, undef, undef, undef, undef, undef, undef, undef, undef, undef, undef, undef, undef, undef, undef, undef] := ⟨_, rfl, rfl⟩
  rw [← el]
  have h : (fun (x0 x1 : Value) => sent_Log_Put_g40 (fun x0 x3 H => sent_Log_Put_g41 (fun x0 x3 x5 H => brV x5
(sent_Log_Put_g42 (fun x4 H => R x4 H) H)
(sent_Log_Put_g43 (fun x0 x3 x8 H => brV x8
(sent_Log_Put_g44 (fun x4 H => R x4 H) H)
(sent_Log_Put_g45 (fun x0 x3 x12 H => brV x12
(sent_Log_Put_g46 (fun x4 H => R x4 H) H)
(sent_Log_Put_g47 (fun x0 x3 x20 H => brV x20
(sent_Log_Put_g48 (fun x4 H => R x4 H) H)
(sent_Log_Put_g56 (fun x0 x3 x39 H => brV x39
(sent_Log_Put_g57 (fun x0 x3 H => sent_Log_Put_s49 x0 x3 R H) x0 x3 H)
(sent_Log_Put_s49 x0 x3 R H)) x0 x3 H)) x0 x3 H)) x0 x3 H)) x0 x3 H)) x0 x3 H) x0 x1 H) (l.getD 0 undef) (l.getD 1 undef) := by rw [el]; exact h
  clear el
  refine seqI (c := sent_Log_Put_c1) rfl ?_
  refine regI hl (Eq.mpr (sent_Log_Put_g40_e _ (fun i => l.getD i undef) _) h) ?_
  clear h hl
  intro l H hl h
  refine thenN ?_
  refine seqI (c := sent_Log_Put_c3) rfl ?_
  refine blockI (c := sent_Log_Put_c4) rfl ?_
  refine seqI (c := sent_Log_Put_c5) rfl ?_
  refine regI hl (Eq.mpr (sent_Log_Put_g41_e _ (fun i => l.getD i undef) _) h) ?_
  clear h hl
  intro l H hl h
  refine thenN ?_
  refine condI (c := sent_Log_Put_c7) rfl h ?_ ?_
  · clear h; intro h
    refine seqI (c := sent_Log_Put_c8) rfl ?_
    refine regI hl (Eq.mpr (sent_Log_Put_g42_e _ (fun i => l.getD i undef) _) h) ?_
    clear h hl
    intro l H hl h
    refine thenN ?_
    refine retI rfl ?_
    refine blkR ?_
    refine thenR ?_
    exact h
  · clear h; intro h
    refine seqI (c := sent_Log_Put_c10) rfl ?_
    refine regI hl (Eq.mpr (sent_Log_Put_g43_e _ (fun i => l.getD i undef) _) h) ?_
    clear h hl
    intro l H hl h
    refine thenN ?_
    refine condI (c := sent_Log_Put_c12) rfl h ?_ ?_
    · clear h; intro h
      refine seqI (c := sent_Log_Put_c13) rfl ?_
      refine regI hl (Eq.mpr (sent_Log_Put_g44_e _ (fun i => l.getD i undef) _) h) ?_
      clear h hl
      intro l H hl h
      refine thenN ?_
      refine retI rfl ?_
      refine blkR ?_
      refine thenR ?_
      exact h
    · clear h; intro h
      refine seqI (c := sent_Log_Put_c15) rfl ?_
      refine regI hl (Eq.mpr (sent_Log_Put_g45_e _ (fun i => l.getD i undef) _) h) ?_
      clear h hl
      intro l H hl h
      refine thenN ?_
      refine condI (c := sent_Log_Put_c17) rfl h ?_ ?_
      · clear h; intro h
        refine seqI (c := sent_Log_Put_c18) rfl ?_
        refine regI hl (Eq.mpr (sent_Log_Put_g46_e _ (fun i => l.getD i undef) _) h) ?_
        clear h hl
        intro l H hl h
        refine thenN ?_
        refine retI rfl ?_
        refine blkR ?_
        refine thenR ?_
        exact h
      · clear h; intro h
        refine seqI (c := sent_Log_Put_c20) rfl ?_
        refine regI hl (Eq.mpr (sent_Log_Put_g47_e _ (fun i => l.getD i undef) _) h) ?_
        clear h hl
        intro l H hl h
        refine thenN ?_
        refine condI (c := sent_Log_Put_c22) rfl h ?_ ?_
        · clear h; intro h
          refine seqI (c := sent_Log_Put_c23) rfl ?_
          refine regI hl (Eq.mpr (sent_Log_Put_g48_e _ (fun i => l.getD i undef) _) h) ?_
          clear h hl
          intro l H hl h
          refine thenN ?_
          refine retI rfl ?_
          refine blkR ?_
          refine thenR ?_
          exact h
        · clear h; intro h
          refine skipI rfl ?_
          refine blkN ?_
          refine thenN ?_
          refine seqI (c := sent_Log_Put_c25) rfl ?_
          refine seqI (c := sent_Log_Put_c26) rfl ?_
          refine regI hl (Eq.mpr (sent_Log_Put_g56_e _ (fun i => l.getD i undef) _) h) ?_
          clear h hl
          intro l H hl h
          refine thenN ?_
          refine condI (c := sent_Log_Put_c28) rfl h ?_ ?_
          · clear h; intro h
            refine regI hl (Eq.mpr (sent_Log_Put_g57_e _ (fun i => l.getD i undef) _) h) ?_
            clear h hl
            intro l H hl h
            refine thenN ?_
            exact sent_Log_Put_s49_i R l H hl h
          · clear h; intro h
            refine skipI rfl ?_
            refine thenN ?_
            exact sent_Log_Put_s49_i R l H hl h
theorem sent_Log_Put_ok : okB sent_Log_Put_pi sent_Log_Put_c1 = true := by kernel_rfl
theorem sent_Log_Put_ev (x0 x1 : Value) (R : Value → Heap → Prop) (H : Heap) (h : sent_Log_Put x0 x1 R H) : EvF P N.sent_Log_Put #[x0, x1] H R :=
  EvF_intro (args := [x0, x1]) (k := 64) (rs := sent_Log_Put_rs) tab_ok mixed Try.func11 (show Try.f11.body = some sent_Log_Put_c1 by kernel_rfl) Try.call11 Try.ntmps11 (by kernel_rfl) (okCode_of _ sent_Log_Put_ok) rfl (sent_Log_Put_i R x0 x1 H h)
/- 12: sounder/sounderlaw06.one -/
def sounderlaw06_one_rs : List ResultVar := [.cell 2 30]
noncomputable def sounderlaw06_one_c2 : Code := subC (bodyC Try.f12) [0]
noncomputable def sounderlaw06_one_c4 : Code := subC (bodyC Try.f12) [1, 0]
noncomputable def sounderlaw06_one_c3 : Code := .seq sounderlaw06_one_c4 Code.ret
noncomputable def sounderlaw06_one_c1 : Code := .seq sounderlaw06_one_c2 sounderlaw06_one_c3
def sounderlaw06_one_pi (_ : Nat) : Pl := .nil
def sounderlaw06_one_g5 (S : Value → Value → Heap → Prop) (x0 : Value) (H : Heap) : Prop :=
  newE 30 #[(.int .i64 0), (.int .i64 0), (.int .i64 0), (.bool false), (.bool false), (.bool false)] H fun v2 H1 =>
  S x0 v2 H1
theorem sounderlaw06_one_g5_e (S : Value → Value → Heap → Prop) (x : Nat → Value) (H : Heap) : wpE tab P sounderlaw06_one_pi sounderlaw06_one_c2 (nQ fun l H => S (l.getD 0 undef) (l.getD 2 undef) H) ((List.range 5).map x) H = sounderlaw06_one_g5 S (x 0) H := by kernel_rfl
def sounderlaw06_one_g6 (S : Value → Heap → Prop) (x0 x2 : Value) (H : Heap) : Prop :=
  bnd (buildV #[(.int .i64 0), (.int .i64 0), (.int .i64 0), (.bool false), (.bool false), (.bool false)] (places [(0, 1), (1, 1), (2, 1), (3, 1), (4, 1), (5, 1)]) [(0, x0), (2, (.int .i64 100)), (3, (.bool true)), (4, (.bool true))]) fun v4 =>
  bnd (stE 6 x2 v4 H) fun H1 =>
  S x2 H1
theorem sounderlaw06_one_g6_e (S : Value → Heap → Prop) (x : Nat → Value) (H : Heap) : wpE tab P sounderlaw06_one_pi sounderlaw06_one_c4 (nQ fun l H => S (l.getD 2 undef) H) ((List.range 5).map x) H = sounderlaw06_one_g6 S (x 0) (x 2) H := by kernel_rfl
def sounderlaw06_one (x0 : Value) (R : Value → Heap → Prop) (H : Heap) : Prop :=
  sounderlaw06_one_g5 (fun x0 x2 H => sounderlaw06_one_g6 (fun x2 H => bnd (ldE true 6 x2 H) fun r0 =>
  R r0 H) x0 x2 H) x0 H
theorem sounderlaw06_one_i (R : Value → Heap → Prop) (x0 : Value) (H : Heap) (h : sounderlaw06_one x0 R H) : wpE tab P sounderlaw06_one_pi sounderlaw06_one_c1 (retQ tab sounderlaw06_one_rs R) [x0, undef, undef, undef, undef] H := by
  obtain ⟨l, hl, el⟩ : ∃ l : List Value, l.length = 5 ∧ l = [x0, undef, undef, undef, undef] := ⟨_, rfl, rfl⟩
  rw [← el]
  have h : (fun (x0 : Value) => sounderlaw06_one_g5 (fun x0 x2 H => sounderlaw06_one_g6 (fun x2 H => bnd (ldE true 6 x2 H) fun r0 =>
R r0 H) x0 x2 H) x0 H) (l.getD 0 undef) := by rw [el]; exact h
  clear el
  refine seqI (c := sounderlaw06_one_c1) rfl ?_
  refine regI hl (Eq.mpr (sounderlaw06_one_g5_e _ (fun i => l.getD i undef) _) h) ?_
  clear h hl
  intro l H hl h
  refine thenN ?_
  refine seqI (c := sounderlaw06_one_c3) rfl ?_
  refine regI hl (Eq.mpr (sounderlaw06_one_g6_e _ (fun i => l.getD i undef) _) h) ?_
  clear h hl
  intro l H hl h
  refine thenN ?_
  refine retI rfl ?_
  exact h
theorem sounderlaw06_one_ok : okB sounderlaw06_one_pi sounderlaw06_one_c1 = true := by kernel_rfl
theorem sounderlaw06_one_ev (x0 : Value) (R : Value → Heap → Prop) (H : Heap) (h : sounderlaw06_one x0 R H) : EvF P N.sounderlaw06_one #[x0] H R :=
  EvF_intro (args := [x0]) (k := 4) (rs := sounderlaw06_one_rs) tab_ok mixed Try.func12 (show Try.f12.body = some sounderlaw06_one_c1 by kernel_rfl) Try.call12 Try.ntmps12 (by kernel_rfl) (okCode_of _ sounderlaw06_one_ok) rfl (sounderlaw06_one_i R x0 H h)
/- 13: (*sounder/sent.Log).Drop -/
def sent_Log_Drop_rs : List ResultVar := [.cell 4 30, .tmp 5]
noncomputable def sent_Log_Drop_c2 : Code := subC (bodyC Try.f13) [0]
noncomputable def sent_Log_Drop_c4 : Code := subC (bodyC Try.f13) [1, 0]
noncomputable def sent_Log_Drop_c7 : Code := subC (bodyC Try.f13) [1, 1, 0, 0]
noncomputable def sent_Log_Drop_c10 : Code := subC (bodyC Try.f13) [1, 1, 0, 1, 0, 0]
noncomputable def sent_Log_Drop_c9 : Code := .seq sent_Log_Drop_c10 Code.ret
noncomputable def sent_Log_Drop_c8 : Code := .cond (.tmp 11) sent_Log_Drop_c9 Code.skip
noncomputable def sent_Log_Drop_c6 : Code := .seq sent_Log_Drop_c7 sent_Log_Drop_c8
noncomputable def sent_Log_Drop_c12 : Code := subC (bodyC Try.f13) [1, 1, 1, 0]
noncomputable def sent_Log_Drop_c14 : Code := subC (bodyC Try.f13) [1, 1, 1, 1, 0]
noncomputable def sent_Log_Drop_c16 : Code := subC (bodyC Try.f13) [1, 1, 1, 1, 1, 0]
noncomputable def sent_Log_Drop_c22 : Code := subC (bodyC Try.f13) [1, 1, 1, 1, 1, 1, 0, 0, 0, 0, 0]
noncomputable def sent_Log_Drop_c24 : Code := .exit 0
noncomputable def sent_Log_Drop_c23 : Code := .cond (.tmp 38) Code.skip sent_Log_Drop_c24
noncomputable def sent_Log_Drop_c21 : Code := .seq sent_Log_Drop_c22 sent_Log_Drop_c23
noncomputable def sent_Log_Drop_c27 : Code := subC (bodyC Try.f13) [1, 1, 1, 1, 1, 1, 0, 0, 0, 1, 0, 0]
noncomputable def sent_Log_Drop_c28 : Code := subC (bodyC Try.f13) [1, 1, 1, 1, 1, 1, 0, 0, 0, 1, 0, 1]
noncomputable def sent_Log_Drop_c26 : Code := .seq sent_Log_Drop_c27 sent_Log_Drop_c28
noncomputable def sent_Log_Drop_c25 : Code := .block 1 sent_Log_Drop_c26
noncomputable def sent_Log_Drop_c20 : Code := .seq sent_Log_Drop_c21 sent_Log_Drop_c25
noncomputable def sent_Log_Drop_c19 : Code := .loop sent_Log_Drop_c20
noncomputable def sent_Log_Drop_c18 : Code := .block 0 sent_Log_Drop_c19
noncomputable def sent_Log_Drop_c30 : Code := subC (bodyC Try.f13) [1, 1, 1, 1, 1, 1, 1, 0]
noncomputable def sent_Log_Drop_c29 : Code := .seq sent_Log_Drop_c30 Code.ret
noncomputable def sent_Log_Drop_c17 : Code := .seq sent_Log_Drop_c18 sent_Log_Drop_c29
noncomputable def sent_Log_Drop_c15 : Code := .seq sent_Log_Drop_c16 sent_Log_Drop_c17
noncomputable def sent_Log_Drop_c13 : Code := .seq sent_Log_Drop_c14 sent_Log_Drop_c15
noncomputable def sent_Log_Drop_c11 : Code := .seq sent_Log_Drop_c12 sent_Log_Drop_c13
noncomputable def sent_Log_Drop_c5 : Code := .seq sent_Log_Drop_c6 sent_Log_Drop_c11
noncomputable def sent_Log_Drop_c3 : Code := .seq sent_Log_Drop_c4 sent_Log_Drop_c5
noncomputable def sent_Log_Drop_c1 : Code := .seq sent_Log_Drop_c2 sent_Log_Drop_c3
def sent_Log_Drop_pi (i : Nat) : Pl := match i with
  | 8 => (ones [0, 1, 2, 3, 4, 5, 6, 7, 8, 9, 10, 11, 12, 13, 14] .nil)
  | _ => .nil
def sent_Log_Drop_g31 (S : Value → Value → Value → Heap → Prop) (x0 x1 : Value) (H : Heap) : Prop :=
  newE 30 #[(.int .i64 0), (.int .i64 0), (.int .i64 0), (.bool false), (.bool false), (.bool false)] H fun v4 H1 =>
  S x0 x1 v4 H1
theorem sent_Log_Drop_g31_e (S : Value → Value → Value → Heap → Prop) (x : Nat → Value) (H : Heap) : wpE tab P sent_Log_Drop_pi sent_Log_Drop_c2 (nQ fun l H => S (l.getD 0 undef) (l.getD 1 undef) (l.getD 4 undef) H) ((List.range 61).map x) H = sent_Log_Drop_g31 S (x 0) (x 1) H := by kernel_rfl
def sent_Log_Drop_g32 (S : Value → Value → Value → Heap → Prop) (x0 x1 x4 : Value) (H : Heap) : Prop :=
  EvF P N.sent_Log_slot #[x0, x1] H fun v9 H1 =>
  S x0 x4 v9 H1
theorem sent_Log_Drop_g32_e (S : Value → Value → Value → Heap → Prop) (x : Nat → Value) (H : Heap) : wpE tab P sent_Log_Drop_pi sent_Log_Drop_c4 (nQ fun l H => S (l.getD 0 undef) (l.getD 4 undef) (l.getD 6 undef) H) ((List.range 61).map x) H = sent_Log_Drop_g32 S (x 0) (x 1) (x 4) H := by kernel_rfl
def sent_Log_Drop_g33 (S : Value → Value → Value → Value → Heap → Prop) (x0 x4 x6 : Value) (H : Heap) : Prop :=
  bnd (binV .ptr .eql x6 (.pointer none)) fun v11 =>
  S x0 x4 x6 v11 H
theorem sent_Log_Drop_g33_e (S : Value → Value → Value → Value → Heap → Prop) (x : Nat → Value) (H : Heap) : wpE tab P sent_Log_Drop_pi sent_Log_Drop_c7 (nQ fun l H => S (l.getD 0 undef) (l.getD 4 undef) (l.getD 6 undef) (l.getD 11 undef) H) ((List.range 61).map x) H = sent_Log_Drop_g33 S (x 0) (x 4) (x 6) H := by kernel_rfl
def sent_Log_Drop_g34 (S : Value → Value → Heap → Prop) (x4 : Value) (H : Heap) : Prop :=
  bnd (ldE true 6 x4 H) fun v12 =>
  bnd (stE 6 x4 v12 H) fun H1 =>
  S x4 (.bool false) H1
theorem sent_Log_Drop_g34_e (S : Value → Value → Heap → Prop) (x : Nat → Value) (H : Heap) : wpE tab P sent_Log_Drop_pi sent_Log_Drop_c10 (nQ fun l H => S (l.getD 4 undef) (l.getD 5 undef) H) ((List.range 61).map x) H = sent_Log_Drop_g34 S (x 4) H := by kernel_rfl
def sent_Log_Drop_g35 (S : Value → Value → Value → Heap → Prop) (x0 x4 x6 : Value) (H : Heap) : Prop :=
  bnd (nilV x6) fun v14 =>
  bnd (faV 6 v14) fun v15 =>
  bnd (stE 1 v15 (.bool false) H) fun H1 =>
  S x0 x4 x6 H1
theorem sent_Log_Drop_g35_e (S : Value → Value → Value → Heap → Prop) (x : Nat → Value) (H : Heap) : wpE tab P sent_Log_Drop_pi sent_Log_Drop_c12 (nQ fun l H => S (l.getD 0 undef) (l.getD 4 undef) (l.getD 6 undef) H) ((List.range 61).map x) H = sent_Log_Drop_g35 S (x 0) (x 4) (x 6) H := by kernel_rfl
def sent_Log_Drop_g36 (S : Value → Value → Value → Heap → Prop) (x0 x4 x6 : Value) (H : Heap) : Prop :=
  bnd (nilV x6) fun v18 =>
  bnd (faV 0 v18) fun v19 =>
  bnd (ldE true 6 v19 H) fun v20 =>
  EvF P N.sent_Log_less #[x0, v20] H fun _ H1 =>
  S x0 x4 x6 H1
theorem sent_Log_Drop_g36_e (S : Value → Value → Value → Heap → Prop) (x : Nat → Value) (H : Heap) : wpE tab P sent_Log_Drop_pi sent_Log_Drop_c14 (nQ fun l H => S (l.getD 0 undef) (l.getD 4 undef) (l.getD 6 undef) H) ((List.range 61).map x) H = sent_Log_Drop_g36 S (x 0) (x 4) (x 6) H := by kernel_rfl
def sent_Log_Drop_g37 (S : Value → Value → Heap → Prop) (x0 x4 x6 : Value) (H : Heap) : Prop :=
  bnd (nilV x6) fun v23 =>
  bnd (faV 0 v23) fun v24 =>
  bnd (ldE true 6 v24 H) fun v25 =>
  bnd (stE 6 x4 v25 H) fun H1 =>
  S x0 x4 H1
theorem sent_Log_Drop_g37_e (S : Value → Value → Heap → Prop) (x : Nat → Value) (H : Heap) : wpE tab P sent_Log_Drop_pi sent_Log_Drop_c16 (nQ fun l H => S (l.getD 0 undef) (l.getD 4 undef) H) ((List.range 61).map x) H = sent_Log_Drop_g37 S (x 0) (x 4) (x 6) H := by kernel_rfl
def sent_Log_Drop_g39 (S : Value → Value → Value → Heap → Prop) (x0 x4 : Value) (H : Heap) : Prop :=
  bnd (nilV x0) fun v27 =>
  bnd (faV 4 v27) fun v28 =>
  bnd (ldE false 1 v28 H) fun v29 =>
  bnd (binV .int .gtr v29 (.int .i64 0)) fun v30 =>
  brV v30
  (EvF P N.sent_Log_at #[x0, (.int .i64 0)] H fun v33 H1 =>
  bnd (nilV v33) fun v34 =>
  bnd (faV 6 v34) fun v35 =>
  bnd (ldE false 1 v35 H1) fun v36 =>
  bnd (unV .not v36) fun v37 =>
  S x0 x4 v37 H1)
  (S x0 x4 (.bool false) H)
theorem sent_Log_Drop_g39_e (S : Value → Value → Value → Heap → Prop) (x : Nat → Value) (H : Heap) : wpE tab P sent_Log_Drop_pi sent_Log_Drop_c22 (nQ fun l H => S (l.getD 0 undef) (l.getD 4 undef) (l.getD 38 undef) H) ((List.range 61).map x) H = sent_Log_Drop_g39 S (x 0) (x 4) H := by kernel_rfl
def sent_Log_Drop_g40 (S : Value → Value → Heap → Prop) (x0 x4 : Value) (H : Heap) : Prop :=
  bnd (nilV x0) fun v41 =>
  bnd (faV 3 v41) fun v42 =>
  bnd (ldE false 1 v42 H) fun v43 =>
  bnd (binV .int .add v43 (.int .i64 1)) fun v44 =>
  bnd (nilV x0) fun v46 =>
  bnd (faV 2 v46) fun v47 =>
  bnd (ldE false 1 v47 H) fun v48 =>
  bnd (lenV v48) fun v49 =>
  bnd (binV .int .rem v44 v49) fun v50 =>
  bnd (nilV x0) fun v51 =>
  bnd (faV 3 v51) fun v52 =>
  bnd (stE 1 v52 v50 H) fun H1 =>
  S x0 x4 H1
theorem sent_Log_Drop_g40_e (S : Value → Value → Heap → Prop) (x : Nat → Value) (H : Heap) : wpE tab P sent_Log_Drop_pi sent_Log_Drop_c27 (nQ fun l H => S (l.getD 0 undef) (l.getD 4 undef) H) ((List.range 61).map x) H = sent_Log_Drop_g40 S (x 0) (x 4) H := by kernel_rfl
def sent_Log_Drop_g41 (S : Value → Value → Heap → Prop) (x0 x4 : Value) (H : Heap) : Prop :=
  bnd (nilV x0) fun v54 =>
  bnd (faV 4 v54) fun v55 =>
  bnd (ldE false 1 v55 H) fun v56 =>
  bnd (binV .int .sub v56 (.int .i64 1)) fun v57 =>
  bnd (nilV x0) fun v58 =>
  bnd (faV 4 v58) fun v59 =>
  bnd (stE 1 v59 v57 H) fun H1 =>
  S x0 x4 H1
theorem sent_Log_Drop_g41_e (S : Value → Value → Heap → Prop) (x : Nat → Value) (H : Heap) : wpE tab P sent_Log_Drop_pi sent_Log_Drop_c28 (nQ fun l H => S (l.getD 0 undef) (l.getD 4 undef) H) ((List.range 61).map x) H = sent_Log_Drop_g41 S (x 0) (x 4) H := by kernel_rfl
def sent_Log_Drop_g42 (S : Value → Value → Heap → Prop) (x4 : Value) (H : Heap) : Prop :=
  bnd (ldE true 6 x4 H) fun v60 =>
  bnd (stE 6 x4 v60 H) fun H1 =>
  S x4 (.bool true) H1
theorem sent_Log_Drop_g42_e (S : Value → Value → Heap → Prop) (x : Nat → Value) (H : Heap) : wpE tab P sent_Log_Drop_pi sent_Log_Drop_c30 (nQ fun l H => S (l.getD 4 undef) (l.getD 5 undef) H) ((List.range 61).map x) H = sent_Log_Drop_g42 S (x 4) H := by kernel_rfl
def sent_Log_Drop_s38 (x0 x4 : Value) (K1 : Value → Value →  Heap → Prop) (R : Value → Heap → Prop) (H : Heap) : Prop :=
  sent_Log_Drop_g39 (fun x0 x4 x38 H => brV x38
  (sent_Log_Drop_g40 (fun x0 x4 H => sent_Log_Drop_g41 (fun x0 x4 H => K1 x0 x4 H) x0 x4 H) x0 x4 H)
  (sent_Log_Drop_g42 (fun x4 x5 H => bnd (ldE true 6 x4 H) fun r0 =>
  R (.tuple #[r0, x5]) H) x4 H)) x0 x4 H
noncomputable def sent_Log_Drop_q43 (R : Value → Heap → Prop) : Exit → List Value → Heap → Prop := (retQ tab sent_Log_Drop_rs R)
noncomputable def sent_Log_Drop_q44 (R : Value → Heap → Prop) : Exit → List Value → Heap → Prop := (thenE (fun l H => wpE tab P sent_Log_Drop_pi sent_Log_Drop_c29 (sent_Log_Drop_q43 R) l H) (sent_Log_Drop_q43 R))
noncomputable def sent_Log_Drop_q45 (R : Value → Heap → Prop) : Exit → List Value → Heap → Prop := (blkE 0 (sent_Log_Drop_q44 R))
noncomputable def sent_Log_Drop_q46 (K1 : Value → Value →  Heap → Prop) (R : Value → Heap → Prop) : Exit → List Value → Heap → Prop := (thenE (fun l H => K1 (l.getD 0 undef) (l.getD 4 undef) H) (sent_Log_Drop_q45 R))
theorem sent_Log_Drop_s38_i (K1 : Value → Value →  Heap → Prop) (R : Value → Heap → Prop) (l : List Value) (H : Heap) (hl : l.length = 61) (h : sent_Log_Drop_s38 (l.getD 0 undef) (l.getD 4 undef) K1 R H) : wpE tab P sent_Log_Drop_pi sent_Log_Drop_c20 (sent_Log_Drop_q46 K1 R) l H := by
  refine seqI (c := sent_Log_Drop_c20) rfl ?_
  refine seqI (c := sent_Log_Drop_c21) rfl ?_
  refine regI hl (Eq.mpr (sent_Log_Drop_g39_e _ (fun i => l.getD i undef) _) h) ?_
  clear h hl
  intro l H hl h
  refine thenN ?_
  refine condI (c := sent_Log_Drop_c23) rfl h ?_ ?_
  · clear h; intro h
    refine skipI rfl ?_
    refine thenN ?_
    refine blockI (c := sent_Log_Drop_c25) rfl ?_
    refine seqI (c := sent_Log_Drop_c26) rfl ?_
    refine regI hl (Eq.mpr (sent_Log_Drop_g40_e _ (fun i => l.getD i undef) _) h) ?_
    clear h hl
    intro l H hl h
    refine thenN ?_
    refine regI hl (Eq.mpr (sent_Log_Drop_g41_e _ (fun i => l.getD i undef) _) h) ?_
    clear h hl
    intro l H hl h
    refine blkN ?_
    refine thenN ?_
    exact h
  · clear h; intro h
    refine exitI (c := sent_Log_Drop_c24) rfl ?_
    refine thenX ?_
    refine thenX ?_
    refine blkX ?_
    refine thenN ?_
    refine seqI (c := sent_Log_Drop_c29) rfl ?_
    refine regI hl (Eq.mpr (sent_Log_Drop_g42_e _ (fun i => l.getD i undef) _) h) ?_
    clear h hl
    intro l H hl h
    refine thenN ?_
    refine retI rfl ?_
    exact h
def sent_Log_Drop_l47 (x0 x4 : Value) (R : Value → Heap → Prop) (H : Heap) : Prop :=
  ∃ (I : Heap → Prop) (μ : Heap → Nat), I  H ∧ ∀ (H : Heap), I  H → sent_Log_Drop_s38 x0 x4 (fun z0 z4 H' => z0 = x0 ∧ z4 = x4 ∧ (I  H' ∧ μ  H' < μ  H)) R H
def sent_Log_Drop (x0 x1 : Value) (R : Value → Heap → Prop) (H : Heap) : Prop :=
  sent_Log_Drop_g31 (fun x0 x1 x4 H => sent_Log_Drop_g32 (fun x0 x4 x6 H => sent_Log_Drop_g33 (fun x0 x4 x6 x11 H => brV x11
  (sent_Log_Drop_g34 (fun x4 x5 H => bnd (ldE true 6 x4 H) fun r0 =>
  R (.tuple #[r0, x5]) H) x4 H)
  (sent_Log_Drop_g35 (fun x0 x4 x6 H => sent_Log_Drop_g36 (fun x0 x4 x6 H => sent_Log_Drop_g37 (fun x0 x4 H => sent_Log_Drop_l47 x0 x4 R H) x0 x4 x6 H) x0 x4 x6 H) x0 x4 x6 H)) x0 x4 x6 H) x0 x1 x4 H) x0 x1 H
theorem sent_Log_Drop_i (R : Value → Heap → Prop) (x0 x1 : Value) (H : Heap) (h : sent_Log_Drop x0 x1 R H) : wpE tab P sent_Log_Drop_pi sent_Log_Drop_c1 (retQ tab sent_Log_Drop_rs R) [x0, x1, undef, undef, undef, undef, undef, undef, undef, undef, undef, undef, undef, undef, undef, undef, undef, undef, undef, undef, undef, undef, undef, undef, undef, undef, undef, undef, undef, undef, undef, undef, undef, undef, undef, undef, undef, undef, undef, undef, undef, undef, undef, undef, undef, undef, undef, undef, undef, undef, undef, undef, undef, undef, undef, undef, undef, undef, undef, undef, undef] H := by
  obtain ⟨l, hl, el⟩ : ∃ l : List Value, l.length = 61 ∧ l = [x0, x1, undef, undef, undef, undef, undef, undef, undef, undef, undef, undef, undef, undef, undef, undef, undef, undef, undef, undef, undef, undef, undef, undef, undef, undef, undef, undef, undef, undef, undef, undef, undef, undef, undef, undef, undef, undef, undef, undef, undef, undef, undef, undef, undef, undef, undef, undef, undef, undef, undef, undef, undef, undef, undef, undef, undef, undef, undef, undef, undef] := ⟨_, rfl, rfl⟩
  rw [← el]
  have h : (fun (x0 x1 : Value) => sent_Log_Drop_g31 (fun x0 x1 x4 H => sent_Log_Drop_g32 (fun x0 x4 x6 H => sent_Log_Drop_g33 (fun x0 x4 x6 x11 H => brV x11
(sent_Log_Drop_g34 (fun x4 x5 H => bnd (ldE true 6 x4 H) fun r0 =>
R (.tuple #[r0, x5]) H) x4 H)
(sent_Log_Drop_g35 (fun x0 x4 x6 H => sent_Log_Drop_g36 (fun x0 x4 x6 H => sent_Log_Drop_g37 (fun x0 x4 H => sent_Log_Drop_l47 x0 x4 R H) x0 x4 x6 H) x0 x4 x6 H) x0 x4 x6 H)) x0 x4 x6 H) x0 x1 x4 H) x0 x1 H) (l.getD 0 undef) (l.getD 1 undef) := by rw [el]; exact h
  clear el
  refine seqI (c := sent_Log_Drop_c1) rfl ?_
  refine regI hl (Eq.mpr (sent_Log_Drop_g31_e _ (fun i => l.getD i undef) _) h) ?_
  clear h hl
  intro l H hl h
  refine thenN ?_
  refine seqI (c := sent_Log_Drop_c3) rfl ?_
  refine regI hl (Eq.mpr (sent_Log_Drop_g32_e _ (fun i => l.getD i undef) _) h) ?_
  clear h hl
  intro l H hl h
  refine thenN ?_
  refine seqI (c := sent_Log_Drop_c5) rfl ?_
  refine seqI (c := sent_Log_Drop_c6) rfl ?_
  refine regI hl (Eq.mpr (sent_Log_Drop_g33_e _ (fun i => l.getD i undef) _) h) ?_
  clear h hl
  intro l H hl h
  refine thenN ?_
  refine condI (c := sent_Log_Drop_c8) rfl h ?_ ?_
  · clear h; intro h
    refine seqI (c := sent_Log_Drop_c9) rfl ?_
    refine regI hl (Eq.mpr (sent_Log_Drop_g34_e _ (fun i => l.getD i undef) _) h) ?_
    clear h hl
    intro l H hl h
    refine thenN ?_
    refine retI rfl ?_
    refine thenR ?_
    exact h
  · clear h; intro h
    refine skipI rfl ?_
    refine thenN ?_
    refine seqI (c := sent_Log_Drop_c11) rfl ?_
    refine regI hl (Eq.mpr (sent_Log_Drop_g35_e _ (fun i => l.getD i undef) _) h) ?_
    clear h hl
    intro l H hl h
    refine thenN ?_
    refine seqI (c := sent_Log_Drop_c13) rfl ?_
    refine regI hl (Eq.mpr (sent_Log_Drop_g36_e _ (fun i => l.getD i undef) _) h) ?_
    clear h hl
    intro l H hl h
    refine thenN ?_
    refine seqI (c := sent_Log_Drop_c15) rfl ?_
    refine regI hl (Eq.mpr (sent_Log_Drop_g37_e _ (fun i => l.getD i undef) _) h) ?_
    clear h hl
    intro l H hl h
    refine thenN ?_
    refine seqI (c := sent_Log_Drop_c17) rfl ?_
    refine blockI (c := sent_Log_Drop_c18) rfl ?_
    obtain ⟨I, μ, h0, hr⟩ := h
    refine loopI (c := sent_Log_Drop_c19) rfl (fun l' H' => l'.getD 0 undef = l.getD 0 undef ∧ l'.getD 4 undef = l.getD 4 undef ∧ I  H') (fun l' H' => μ  H') hl ⟨rfl, rfl, h0⟩ ?_
    rintro l1 H1 hl1 ⟨e0, e4, hI⟩
    have hb := hr  H1 hI
    rw [← e0, ← e4] at hb
    refine wpE_mono _ l1 H1 hl1 ?_ (sent_Log_Drop_s38_i _ R l1 H1 hl1 hb)
    intro e l2 H2 hl2 hq
    cases e with
    | normal => exact fun _ => (by obtain ⟨d0, d4, g1, g2⟩ := hq; exact ⟨⟨d0.trans e0, d4.trans e4, g1⟩, g2⟩)
    | _ => exact hq
theorem sent_Log_Drop_ok : okB sent_Log_Drop_pi sent_Log_Drop_c1 = true := by kernel_rfl
theorem sent_Log_Drop_ev (x0 x1 : Value) (R : Value → Heap → Prop) (H : Heap) (h : sent_Log_Drop x0 x1 R H) : EvF P N.sent_Log_Drop #[x0, x1] H R :=
  EvF_intro (args := [x0, x1]) (k := 59) (rs := sent_Log_Drop_rs) tab_ok mixed Try.func13 (show Try.f13.body = some sent_Log_Drop_c1 by kernel_rfl) Try.call13 Try.ntmps13 (by kernel_rfl) (okCode_of _ sent_Log_Drop_ok) rfl (sent_Log_Drop_i R x0 x1 H h)
/- 14: (*sounder/sent.Log).Clear -/
def sent_Log_Clear_rs : List ResultVar := []
noncomputable def sent_Log_Clear_c3 : Code := subC (bodyC Try.f14) [0, 0]
noncomputable def sent_Log_Clear_c4 : Code := .cond (.tmp 3) Code.ret Code.skip
noncomputable def sent_Log_Clear_c2 : Code := .seq sent_Log_Clear_c3 sent_Log_Clear_c4
noncomputable def sent_Log_Clear_c5 : Code := subC (bodyC Try.f14) [1]
noncomputable def sent_Log_Clear_c1 : Code := .seq sent_Log_Clear_c2 sent_Log_Clear_c5
def sent_Log_Clear_pi (_ : Nat) : Pl := .nil
def sent_Log_Clear_g6 (S : Value → Value → Heap → Prop) (x0 : Value) (H : Heap) : Prop :=
  EvF P N.sent_Log_none #[x0] H fun v3 H1 =>
  S x0 v3 H1
theorem sent_Log_Clear_g6_e (S : Value → Value → Heap → Prop) (x : Nat → Value) (H : Heap) : wpE tab P sent_Log_Clear_pi sent_Log_Clear_c3 (nQ fun l H => S (l.getD 0 undef) (l.getD 3 undef) H) ((List.range 19).map x) H = sent_Log_Clear_g6 S (x 0) H := by kernel_rfl
def sent_Log_Clear_g7 (S : Heap → Prop) (x0 : Value) (H : Heap) : Prop :=
  bnd (nilV x0) fun v9 =>
  bnd (faV 3 v9) fun v10 =>
  bnd (stE 1 v10 (.int .i64 0) H) fun H1 =>
  bnd (nilV x0) fun v11 =>
  bnd (faV 4 v11) fun v12 =>
  bnd (stE 1 v12 (.int .i64 0) H1) fun H2 =>
  bnd (nilV x0) fun v13 =>
  bnd (faV 5 v13) fun v14 =>
  bnd (stE 1 v14 (.int .i64 0) H2) fun H3 =>
  bnd (nilV x0) fun v15 =>
  bnd (faV 6 v15) fun v16 =>
  bnd (stE 1 v16 (.int .i64 0) H3) fun H4 =>
  bnd (nilV x0) fun v17 =>
  bnd (faV 7 v17) fun v18 =>
  bnd (stE 1 v18 (.int .i64 0) H4) fun H5 =>
  S H5
theorem sent_Log_Clear_g7_e (S : Heap → Prop) (x : Nat → Value) (H : Heap) : wpE tab P sent_Log_Clear_pi sent_Log_Clear_c5 (nQ fun _ H => S  H) ((List.range 19).map x) H = sent_Log_Clear_g7 S (x 0) H := by kernel_rfl
def sent_Log_Clear (x0 : Value) (R : Value → Heap → Prop) (H : Heap) : Prop :=
  sent_Log_Clear_g6 (fun x0 x3 H => brV x3
  (R (.tuple #[]) H)
  (sent_Log_Clear_g7 (fun H => R (.tuple #[]) H) x0 H)) x0 H
theorem sent_Log_Clear_i (R : Value → Heap → Prop) (x0 : Value) (H : Heap) (h : sent_Log_Clear x0 R H) : wpE tab P sent_Log_Clear_pi sent_Log_Clear_c1 (retQ tab sent_Log_Clear_rs R) [x0, undef, undef, undef, undef, undef, undef, undef, undef, undef, undef, undef, undef, undef, undef, undef, undef, undef, undef] H := by
  obtain ⟨l, hl, el⟩ : ∃ l : List Value, l.length = 19 ∧ l = [x0, undef, undef, undef, undef, undef, undef, undef, undef, undef, undef, undef, undef, undef, undef, undef, undef, undef, undef] := ⟨_, rfl, rfl⟩
  rw [← el]
  have h : (fun (x0 : Value) => sent_Log_Clear_g6 (fun x0 x3 H => brV x3
(R (.tuple #[]) H)
(sent_Log_Clear_g7 (fun H => R (.tuple #[]) H) x0 H)) x0 H) (l.getD 0 undef) := by rw [el]; exact h
  clear el
  refine seqI (c := sent_Log_Clear_c1) rfl ?_
  refine seqI (c := sent_Log_Clear_c2) rfl ?_
  refine regI hl (Eq.mpr (sent_Log_Clear_g6_e _ (fun i => l.getD i undef) _) h) ?_
  clear h hl
  intro l H hl h
  refine thenN ?_
  refine condI (c := sent_Log_Clear_c4) rfl h ?_ ?_
  · clear h; intro h
    refine retI rfl ?_
    refine thenR ?_
    exact h
  · clear h; intro h
    refine skipI rfl ?_
    refine thenN ?_
    refine regI hl (Eq.mpr (sent_Log_Clear_g7_e _ (fun i => l.getD i undef) _) h) ?_
    clear h hl
    intro l H hl h
    exact h
theorem sent_Log_Clear_ok : okB sent_Log_Clear_pi sent_Log_Clear_c1 = true := by kernel_rfl
theorem sent_Log_Clear_ev (x0 : Value) (R : Value → Heap → Prop) (H : Heap) (h : sent_Log_Clear x0 R H) : EvF P N.sent_Log_Clear #[x0] H R :=
  EvF_intro (args := [x0]) (k := 18) (rs := sent_Log_Clear_rs) tab_ok mixed Try.func14 (show Try.f14.body = some sent_Log_Clear_c1 by kernel_rfl) Try.call14 Try.ntmps14 (by kernel_rfl) (okCode_of _ sent_Log_Clear_ok) rfl (sent_Log_Clear_i R x0 H h)
/- 15: (*sounder/sent.Log).Last -/
def sent_Log_Last_rs : List ResultVar := [.tmp 2]
noncomputable def sent_Log_Last_c2 : Code := subC (bodyC Try.f15) [0]
noncomputable def sent_Log_Last_c5 : Code := subC (bodyC Try.f15) [1, 0, 0]
noncomputable def sent_Log_Last_c8 : Code := subC (bodyC Try.f15) [1, 0, 1, 0, 0]
noncomputable def sent_Log_Last_c7 : Code := .seq sent_Log_Last_c8 Code.ret
noncomputable def sent_Log_Last_c6 : Code := .cond (.tmp 4) sent_Log_Last_c7 Code.skip
noncomputable def sent_Log_Last_c4 : Code := .seq sent_Log_Last_c5 sent_Log_Last_c6
noncomputable def sent_Log_Last_c10 : Code := subC (bodyC Try.f15) [1, 1, 0]
noncomputable def sent_Log_Last_c9 : Code := .seq sent_Log_Last_c10 Code.ret
noncomputable def sent_Log_Last_c3 : Code := .seq sent_Log_Last_c4 sent_Log_Last_c9
noncomputable def sent_Log_Last_c1 : Code := .seq sent_Log_Last_c2 sent_Log_Last_c3
def sent_Log_Last_pi (_ : Nat) : Pl := .nil
def sent_Log_Last_g11 (S : Value → Heap → Prop) (x0 : Value) (H : Heap) : Prop :=
  S x0 H
theorem sent_Log_Last_g11_e (S : Value → Heap → Prop) (x : Nat → Value) (H : Heap) : wpE tab P sent_Log_Last_pi sent_Log_Last_c2 (nQ fun l H => S (l.getD 0 undef) H) ((List.range 9).map x) H = sent_Log_Last_g11 S (x 0) H := by kernel_rfl
def sent_Log_Last_g12 (S : Value → Value → Heap → Prop) (x0 : Value) (H : Heap) : Prop :=
  EvF P N.sent_Log_none #[x0] H fun v4 H1 =>
  S x0 v4 H1
theorem sent_Log_Last_g12_e (S : Value → Value → Heap → Prop) (x : Nat → Value) (H : Heap) : wpE tab P sent_Log_Last_pi sent_Log_Last_c5 (nQ fun l H => S (l.getD 0 undef) (l.getD 4 undef) H) ((List.range 9).map x) H = sent_Log_Last_g12 S (x 0) H := by kernel_rfl
def sent_Log_Last_g13 (S : Value → Heap → Prop) (H : Heap) : Prop :=
  S (.int .i64 (-1)) H
theorem sent_Log_Last_g13_e (S : Value → Heap → Prop) (x : Nat → Value) (H : Heap) : wpE tab P sent_Log_Last_pi sent_Log_Last_c8 (nQ fun l H => S (l.getD 2 undef) H) ((List.range 9).map x) H = sent_Log_Last_g13 S  H := by kernel_rfl
def sent_Log_Last_g14 (S : Value → Heap → Prop) (x0 : Value) (H : Heap) : Prop :=
  bnd (nilV x0) fun v6 =>
  bnd (faV 1 v6) fun v7 =>
  bnd (ldE false 1 v7 H) fun v8 =>
  S v8 H
theorem sent_Log_Last_g14_e (S : Value → Heap → Prop) (x : Nat → Value) (H : Heap) : wpE tab P sent_Log_Last_pi sent_Log_Last_c10 (nQ fun l H => S (l.getD 2 undef) H) ((List.range 9).map x) H = sent_Log_Last_g14 S (x 0) H := by kernel_rfl
def sent_Log_Last (x0 : Value) (R : Value → Heap → Prop) (H : Heap) : Prop :=
  sent_Log_Last_g11 (fun x0 H => sent_Log_Last_g12 (fun x0 x4 H => brV x4
  (sent_Log_Last_g13 (fun x2 H => R x2 H) H)
  (sent_Log_Last_g14 (fun x2 H => R x2 H) x0 H)) x0 H) x0 H
theorem sent_Log_Last_i (R : Value → Heap → Prop) (x0 : Value) (H : Heap) (h : sent_Log_Last x0 R H) : wpE tab P sent_Log_Last_pi sent_Log_Last_c1 (retQ tab sent_Log_Last_rs R) [x0, undef, undef, undef, undef, undef, undef, undef, undef] H := by
  obtain ⟨l, hl, el⟩ : ∃ l : List Value, l.length = 9 ∧ l = [x0, undef, undef, undef, undef, undef, undef, undef, undef] := ⟨_, rfl, rfl⟩
  rw [← el]
  have h : (fun (x0 : Value) => sent_Log_Last_g11 (fun x0 H => sent_Log_Last_g12 (fun x0 x4 H => brV x4
(sent_Log_Last_g13 (fun x2 H => R x2 H) H)
(sent_Log_Last_g14 (fun x2 H => R x2 H) x0 H)) x0 H) x0 H) (l.getD 0 undef) := by rw [el]; exact h
  clear el
  refine seqI (c := sent_Log_Last_c1) rfl ?_
  refine regI hl (Eq.mpr (sent_Log_Last_g11_e _ (fun i => l.getD i undef) _) h) ?_
  clear h hl
  intro l H hl h
  refine thenN ?_
  refine seqI (c := sent_Log_Last_c3) rfl ?_
  refine seqI (c := sent_Log_Last_c4) rfl ?_
  refine regI hl (Eq.mpr (sent_Log_Last_g12_e _ (fun i => l.getD i undef) _) h) ?_
  clear h hl
  intro l H hl h
  refine thenN ?_
  refine condI (c := sent_Log_Last_c6) rfl h ?_ ?_
  · clear h; intro h
    refine seqI (c := sent_Log_Last_c7) rfl ?_
    refine regI hl (Eq.mpr (sent_Log_Last_g13_e _ (fun i => l.getD i undef) _) h) ?_
    clear h hl
    intro l H hl h
    refine thenN ?_
    refine retI rfl ?_
    refine thenR ?_
    exact h
  · clear h; intro h
    refine skipI rfl ?_
    refine thenN ?_
    refine seqI (c := sent_Log_Last_c9) rfl ?_
    refine regI hl (Eq.mpr (sent_Log_Last_g14_e _ (fun i => l.getD i undef) _) h) ?_
    clear h hl
    intro l H hl h
    refine thenN ?_
    refine retI rfl ?_
    exact h
theorem sent_Log_Last_ok : okB sent_Log_Last_pi sent_Log_Last_c1 = true := by kernel_rfl
theorem sent_Log_Last_ev (x0 : Value) (R : Value → Heap → Prop) (H : Heap) (h : sent_Log_Last x0 R H) : EvF P N.sent_Log_Last #[x0] H R :=
  EvF_intro (args := [x0]) (k := 8) (rs := sent_Log_Last_rs) tab_ok mixed Try.func15 (show Try.f15.body = some sent_Log_Last_c1 by kernel_rfl) Try.call15 Try.ntmps15 (by kernel_rfl) (okCode_of _ sent_Log_Last_ok) rfl (sent_Log_Last_i R x0 H h)
end Go.Hc
