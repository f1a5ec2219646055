/- Functions, printed by gen.py. -/
import Derived.Test.YtchdnhbkjfdnmaaT
set_option linter.unusedSimpArgs false
set_option linter.unusedVariables false
set_option maxRecDepth 100000
namespace Go.Hc
open Go Go.Proofs
/- 7: sounder/sounderlaw06.SentPlays -/
def sounderlaw06_SentPlays_rs : List ResultVar := [.tmp 4]
noncomputable def sounderlaw06_SentPlays_c2 : Code := subC (bodyC Try.f7) [0]
noncomputable def sounderlaw06_SentPlays_c4 : Code := subC (bodyC Try.f7) [1, 0]
noncomputable def sounderlaw06_SentPlays_c6 : Code := subC (bodyC Try.f7) [1, 1, 0]
noncomputable def sounderlaw06_SentPlays_c9 : Code := subC (bodyC Try.f7) [1, 1, 1, 0, 0]
noncomputable def sounderlaw06_SentPlays_c12 : Code := subC (bodyC Try.f7) [1, 1, 1, 0, 1, 0, 0]
noncomputable def sounderlaw06_SentPlays_c11 : Code := .seq sounderlaw06_SentPlays_c12 Code.ret
noncomputable def sounderlaw06_SentPlays_c10 : Code := .cond (.tmp 36) sounderlaw06_SentPlays_c11 Code.skip
noncomputable def sounderlaw06_SentPlays_c8 : Code := .seq sounderlaw06_SentPlays_c9 sounderlaw06_SentPlays_c10
noncomputable def sounderlaw06_SentPlays_c15 : Code := subC (bodyC Try.f7) [1, 1, 1, 1, 0, 0]
noncomputable def sounderlaw06_SentPlays_c20 : Code := subC (bodyC Try.f7) [1, 1, 1, 1, 0, 1, 0, 0, 0, 0]
noncomputable def sounderlaw06_SentPlays_c22 : Code := .exit 0
noncomputable def sounderlaw06_SentPlays_c21 : Code := .cond (.tmp 48) Code.skip sounderlaw06_SentPlays_c22
noncomputable def sounderlaw06_SentPlays_c19 : Code := .seq sounderlaw06_SentPlays_c20 sounderlaw06_SentPlays_c21
noncomputable def sounderlaw06_SentPlays_c26 : Code := subC (bodyC Try.f7) [1, 1, 1, 1, 0, 1, 0, 0, 1, 0, 0, 0]
noncomputable def sounderlaw06_SentPlays_c29 : Code := subC (bodyC Try.f7) [1, 1, 1, 1, 0, 1, 0, 0, 1, 0, 0, 1, 0, 0]
noncomputable def sounderlaw06_SentPlays_c33 : Code := subC (bodyC Try.f7) [1, 1, 1, 1, 0, 1, 0, 0, 1, 0, 0, 1, 0, 1, 0, 0, 0]
noncomputable def sounderlaw06_SentPlays_c36 : Code := subC (bodyC Try.f7) [1, 1, 1, 1, 0, 1, 0, 0, 1, 0, 0, 1, 0, 1, 0, 0, 1, 1, 0]
noncomputable def sounderlaw06_SentPlays_c39 : Code := subC (bodyC Try.f7) [1, 1, 1, 1, 0, 1, 0, 0, 1, 0, 0, 1, 0, 1, 0, 0, 1, 1, 1, 1, 0]
noncomputable def sounderlaw06_SentPlays_c42 : Code := subC (bodyC Try.f7) [1, 1, 1, 1, 0, 1, 0, 0, 1, 0, 0, 1, 0, 1, 0, 0, 1, 1, 1, 1, 1, 1, 0]
noncomputable def sounderlaw06_SentPlays_c45 : Code := subC (bodyC Try.f7) [1, 1, 1, 1, 0, 1, 0, 0, 1, 0, 0, 1, 0, 1, 0, 0, 1, 1, 1, 1, 1, 1, 1, 1, 0]
noncomputable def sounderlaw06_SentPlays_c48 : Code := subC (bodyC Try.f7) [1, 1, 1, 1, 0, 1, 0, 0, 1, 0, 0, 1, 0, 1, 0, 0, 1, 1, 1, 1, 1, 1, 1, 1, 1, 1, 0]
noncomputable def sounderlaw06_SentPlays_c51 : Code := subC (bodyC Try.f7) [1, 1, 1, 1, 0, 1, 0, 0, 1, 0, 0, 1, 0, 1, 0, 0, 1, 1, 1, 1, 1, 1, 1, 1, 1, 1, 1, 1, 0]
noncomputable def sounderlaw06_SentPlays_c53 : Code := subC (bodyC Try.f7) [1, 1, 1, 1, 0, 1, 0, 0, 1, 0, 0, 1, 0, 1, 0, 0, 1, 1, 1, 1, 1, 1, 1, 1, 1, 1, 1, 1, 1, 1]
noncomputable def sounderlaw06_SentPlays_c52 : Code := .cond (.tmp 62) Code.skip sounderlaw06_SentPlays_c53
noncomputable def sounderlaw06_SentPlays_c50 : Code := .seq sounderlaw06_SentPlays_c51 sounderlaw06_SentPlays_c52
noncomputable def sounderlaw06_SentPlays_c49 : Code := .cond (.tmp 62) Code.skip sounderlaw06_SentPlays_c50
noncomputable def sounderlaw06_SentPlays_c47 : Code := .seq sounderlaw06_SentPlays_c48 sounderlaw06_SentPlays_c49
noncomputable def sounderlaw06_SentPlays_c46 : Code := .cond (.tmp 62) Code.skip sounderlaw06_SentPlays_c47
noncomputable def sounderlaw06_SentPlays_c44 : Code := .seq sounderlaw06_SentPlays_c45 sounderlaw06_SentPlays_c46
noncomputable def sounderlaw06_SentPlays_c43 : Code := .cond (.tmp 62) Code.skip sounderlaw06_SentPlays_c44
noncomputable def sounderlaw06_SentPlays_c41 : Code := .seq sounderlaw06_SentPlays_c42 sounderlaw06_SentPlays_c43
noncomputable def sounderlaw06_SentPlays_c40 : Code := .cond (.tmp 62) Code.skip sounderlaw06_SentPlays_c41
noncomputable def sounderlaw06_SentPlays_c38 : Code := .seq sounderlaw06_SentPlays_c39 sounderlaw06_SentPlays_c40
noncomputable def sounderlaw06_SentPlays_c37 : Code := .cond (.tmp 62) Code.skip sounderlaw06_SentPlays_c38
noncomputable def sounderlaw06_SentPlays_c35 : Code := .seq sounderlaw06_SentPlays_c36 sounderlaw06_SentPlays_c37
noncomputable def sounderlaw06_SentPlays_c34 : Code := .cond (.tmp 62) Code.skip sounderlaw06_SentPlays_c35
noncomputable def sounderlaw06_SentPlays_c32 : Code := .seq sounderlaw06_SentPlays_c33 sounderlaw06_SentPlays_c34
noncomputable def sounderlaw06_SentPlays_c56 : Code := subC (bodyC Try.f7) [1, 1, 1, 1, 0, 1, 0, 0, 1, 0, 0, 1, 0, 1, 0, 1, 0, 0]
noncomputable def sounderlaw06_SentPlays_c59 : Code := subC (bodyC Try.f7) [1, 1, 1, 1, 0, 1, 0, 0, 1, 0, 0, 1, 0, 1, 0, 1, 0, 1, 0, 0]
noncomputable def sounderlaw06_SentPlays_c58 : Code := .seq sounderlaw06_SentPlays_c59 Code.ret
noncomputable def sounderlaw06_SentPlays_c57 : Code := .cond (.tmp 79) sounderlaw06_SentPlays_c58 Code.skip
noncomputable def sounderlaw06_SentPlays_c55 : Code := .seq sounderlaw06_SentPlays_c56 sounderlaw06_SentPlays_c57
noncomputable def sounderlaw06_SentPlays_c62 : Code := subC (bodyC Try.f7) [1, 1, 1, 1, 0, 1, 0, 0, 1, 0, 0, 1, 0, 1, 0, 1, 1, 0, 0]
noncomputable def sounderlaw06_SentPlays_c65 : Code := subC (bodyC Try.f7) [1, 1, 1, 1, 0, 1, 0, 0, 1, 0, 0, 1, 0, 1, 0, 1, 1, 0, 1, 1, 0]
noncomputable def sounderlaw06_SentPlays_c68 : Code := subC (bodyC Try.f7) [1, 1, 1, 1, 0, 1, 0, 0, 1, 0, 0, 1, 0, 1, 0, 1, 1, 0, 1, 1, 1, 1, 0]
noncomputable def sounderlaw06_SentPlays_c70 : Code := subC (bodyC Try.f7) [1, 1, 1, 1, 0, 1, 0, 0, 1, 0, 0, 1, 0, 1, 0, 1, 1, 0, 1, 1, 1, 1, 1, 1]
noncomputable def sounderlaw06_SentPlays_c69 : Code := .cond (.tmp 80) Code.skip sounderlaw06_SentPlays_c70
noncomputable def sounderlaw06_SentPlays_c67 : Code := .seq sounderlaw06_SentPlays_c68 sounderlaw06_SentPlays_c69
noncomputable def sounderlaw06_SentPlays_c66 : Code := .cond (.tmp 80) Code.skip sounderlaw06_SentPlays_c67
noncomputable def sounderlaw06_SentPlays_c64 : Code := .seq sounderlaw06_SentPlays_c65 sounderlaw06_SentPlays_c66
noncomputable def sounderlaw06_SentPlays_c63 : Code := .cond (.tmp 80) Code.skip sounderlaw06_SentPlays_c64
noncomputable def sounderlaw06_SentPlays_c61 : Code := .seq sounderlaw06_SentPlays_c62 sounderlaw06_SentPlays_c63
noncomputable def sounderlaw06_SentPlays_c73 : Code := subC (bodyC Try.f7) [1, 1, 1, 1, 0, 1, 0, 0, 1, 0, 0, 1, 0, 1, 0, 1, 1, 1, 0, 0]
noncomputable def sounderlaw06_SentPlays_c75 : Code := subC (bodyC Try.f7) [1, 1, 1, 1, 0, 1, 0, 0, 1, 0, 0, 1, 0, 1, 0, 1, 1, 1, 0, 1, 0]
noncomputable def sounderlaw06_SentPlays_c77 : Code := subC (bodyC Try.f7) [1, 1, 1, 1, 0, 1, 0, 0, 1, 0, 0, 1, 0, 1, 0, 1, 1, 1, 0, 1, 1, 0]
noncomputable def sounderlaw06_SentPlays_c80 : Code := subC (bodyC Try.f7) [1, 1, 1, 1, 0, 1, 0, 0, 1, 0, 0, 1, 0, 1, 0, 1, 1, 1, 0, 1, 1, 1, 0, 0]
noncomputable def sounderlaw06_SentPlays_c79 : Code := .seq sounderlaw06_SentPlays_c80 Code.ret
noncomputable def sounderlaw06_SentPlays_c78 : Code := .cond (.tmp 106) sounderlaw06_SentPlays_c79 Code.skip
noncomputable def sounderlaw06_SentPlays_c76 : Code := .seq sounderlaw06_SentPlays_c77 sounderlaw06_SentPlays_c78
noncomputable def sounderlaw06_SentPlays_c74 : Code := .seq sounderlaw06_SentPlays_c75 sounderlaw06_SentPlays_c76
noncomputable def sounderlaw06_SentPlays_c72 : Code := .seq sounderlaw06_SentPlays_c73 sounderlaw06_SentPlays_c74
noncomputable def sounderlaw06_SentPlays_c83 : Code := subC (bodyC Try.f7) [1, 1, 1, 1, 0, 1, 0, 0, 1, 0, 0, 1, 0, 1, 0, 1, 1, 1, 1, 0, 0]
noncomputable def sounderlaw06_SentPlays_c85 : Code := subC (bodyC Try.f7) [1, 1, 1, 1, 0, 1, 0, 0, 1, 0, 0, 1, 0, 1, 0, 1, 1, 1, 1, 0, 1, 1]
noncomputable def sounderlaw06_SentPlays_c84 : Code := .cond (.tmp 107) Code.skip sounderlaw06_SentPlays_c85
noncomputable def sounderlaw06_SentPlays_c82 : Code := .seq sounderlaw06_SentPlays_c83 sounderlaw06_SentPlays_c84
noncomputable def sounderlaw06_SentPlays_c88 : Code := subC (bodyC Try.f7) [1, 1, 1, 1, 0, 1, 0, 0, 1, 0, 0, 1, 0, 1, 0, 1, 1, 1, 1, 1, 0, 0]
noncomputable def sounderlaw06_SentPlays_c90 : Code := subC (bodyC Try.f7) [1, 1, 1, 1, 0, 1, 0, 0, 1, 0, 0, 1, 0, 1, 0, 1, 1, 1, 1, 1, 0, 1, 0]
noncomputable def sounderlaw06_SentPlays_c92 : Code := subC (bodyC Try.f7) [1, 1, 1, 1, 0, 1, 0, 0, 1, 0, 0, 1, 0, 1, 0, 1, 1, 1, 1, 1, 0, 1, 1, 0]
noncomputable def sounderlaw06_SentPlays_c94 : Code := subC (bodyC Try.f7) [1, 1, 1, 1, 0, 1, 0, 0, 1, 0, 0, 1, 0, 1, 0, 1, 1, 1, 1, 1, 0, 1, 1, 1, 0]
noncomputable def sounderlaw06_SentPlays_c96 : Code := subC (bodyC Try.f7) [1, 1, 1, 1, 0, 1, 0, 0, 1, 0, 0, 1, 0, 1, 0, 1, 1, 1, 1, 1, 0, 1, 1, 1, 1, 0]
noncomputable def sounderlaw06_SentPlays_c99 : Code := subC (bodyC Try.f7) [1, 1, 1, 1, 0, 1, 0, 0, 1, 0, 0, 1, 0, 1, 0, 1, 1, 1, 1, 1, 0, 1, 1, 1, 1, 1, 0, 0]
noncomputable def sounderlaw06_SentPlays_c98 : Code := .seq sounderlaw06_SentPlays_c99 Code.ret
noncomputable def sounderlaw06_SentPlays_c97 : Code := .cond (.tmp 135) sounderlaw06_SentPlays_c98 Code.skip
noncomputable def sounderlaw06_SentPlays_c95 : Code := .seq sounderlaw06_SentPlays_c96 sounderlaw06_SentPlays_c97
noncomputable def sounderlaw06_SentPlays_c93 : Code := .seq sounderlaw06_SentPlays_c94 sounderlaw06_SentPlays_c95
noncomputable def sounderlaw06_SentPlays_c91 : Code := .seq sounderlaw06_SentPlays_c92 sounderlaw06_SentPlays_c93
noncomputable def sounderlaw06_SentPlays_c89 : Code := .seq sounderlaw06_SentPlays_c90 sounderlaw06_SentPlays_c91
noncomputable def sounderlaw06_SentPlays_c87 : Code := .seq sounderlaw06_SentPlays_c88 sounderlaw06_SentPlays_c89
noncomputable def sounderlaw06_SentPlays_c101 : Code := subC (bodyC Try.f7) [1, 1, 1, 1, 0, 1, 0, 0, 1, 0, 0, 1, 0, 1, 0, 1, 1, 1, 1, 1, 1, 0]
noncomputable def sounderlaw06_SentPlays_c104 : Code := subC (bodyC Try.f7) [1, 1, 1, 1, 0, 1, 0, 0, 1, 0, 0, 1, 0, 1, 0, 1, 1, 1, 1, 1, 1, 1, 0, 0]
noncomputable def sounderlaw06_SentPlays_c107 : Code := subC (bodyC Try.f7) [1, 1, 1, 1, 0, 1, 0, 0, 1, 0, 0, 1, 0, 1, 0, 1, 1, 1, 1, 1, 1, 1, 0, 1, 0, 0]
noncomputable def sounderlaw06_SentPlays_c106 : Code := .seq sounderlaw06_SentPlays_c107 Code.ret
noncomputable def sounderlaw06_SentPlays_c105 : Code := .cond (.tmp 151) sounderlaw06_SentPlays_c106 Code.skip
noncomputable def sounderlaw06_SentPlays_c103 : Code := .seq sounderlaw06_SentPlays_c104 sounderlaw06_SentPlays_c105
noncomputable def sounderlaw06_SentPlays_c109 : Code := subC (bodyC Try.f7) [1, 1, 1, 1, 0, 1, 0, 0, 1, 0, 0, 1, 0, 1, 0, 1, 1, 1, 1, 1, 1, 1, 1, 0]
noncomputable def sounderlaw06_SentPlays_c110 : Code := subC (bodyC Try.f7) [1, 1, 1, 1, 0, 1, 0, 0, 1, 0, 0, 1, 0, 1, 0, 1, 1, 1, 1, 1, 1, 1, 1, 1]
noncomputable def sounderlaw06_SentPlays_c108 : Code := .seq sounderlaw06_SentPlays_c109 sounderlaw06_SentPlays_c110
noncomputable def sounderlaw06_SentPlays_c102 : Code := .cond (.tmp 136) sounderlaw06_SentPlays_c103 sounderlaw06_SentPlays_c108
noncomputable def sounderlaw06_SentPlays_c100 : Code := .seq sounderlaw06_SentPlays_c101 sounderlaw06_SentPlays_c102
noncomputable def sounderlaw06_SentPlays_c86 : Code := .cond (.tmp 107) sounderlaw06_SentPlays_c87 sounderlaw06_SentPlays_c100
noncomputable def sounderlaw06_SentPlays_c81 : Code := .seq sounderlaw06_SentPlays_c82 sounderlaw06_SentPlays_c86
noncomputable def sounderlaw06_SentPlays_c71 : Code := .cond (.tmp 80) sounderlaw06_SentPlays_c72 sounderlaw06_SentPlays_c81
noncomputable def sounderlaw06_SentPlays_c60 : Code := .seq sounderlaw06_SentPlays_c61 sounderlaw06_SentPlays_c71
noncomputable def sounderlaw06_SentPlays_c54 : Code := .cond (.tmp 62) sounderlaw06_SentPlays_c55 sounderlaw06_SentPlays_c60
noncomputable def sounderlaw06_SentPlays_c31 : Code := .seq sounderlaw06_SentPlays_c32 sounderlaw06_SentPlays_c54
noncomputable def sounderlaw06_SentPlays_c30 : Code := .block 2 sounderlaw06_SentPlays_c31
noncomputable def sounderlaw06_SentPlays_c28 : Code := .seq sounderlaw06_SentPlays_c29 sounderlaw06_SentPlays_c30
noncomputable def sounderlaw06_SentPlays_c112 : Code := subC (bodyC Try.f7) [1, 1, 1, 1, 0, 1, 0, 0, 1, 0, 0, 1, 1, 0]
noncomputable def sounderlaw06_SentPlays_c115 : Code := subC (bodyC Try.f7) [1, 1, 1, 1, 0, 1, 0, 0, 1, 0, 0, 1, 1, 1, 0, 0]
noncomputable def sounderlaw06_SentPlays_c114 : Code := .seq sounderlaw06_SentPlays_c115 Code.ret
noncomputable def sounderlaw06_SentPlays_c113 : Code := .cond (.tmp 157) sounderlaw06_SentPlays_c114 Code.skip
noncomputable def sounderlaw06_SentPlays_c111 : Code := .seq sounderlaw06_SentPlays_c112 sounderlaw06_SentPlays_c113
noncomputable def sounderlaw06_SentPlays_c27 : Code := .seq sounderlaw06_SentPlays_c28 sounderlaw06_SentPlays_c111
noncomputable def sounderlaw06_SentPlays_c25 : Code := .seq sounderlaw06_SentPlays_c26 sounderlaw06_SentPlays_c27
noncomputable def sounderlaw06_SentPlays_c24 : Code := .block 1 sounderlaw06_SentPlays_c25
noncomputable def sounderlaw06_SentPlays_c116 : Code := subC (bodyC Try.f7) [1, 1, 1, 1, 0, 1, 0, 0, 1, 1]
noncomputable def sounderlaw06_SentPlays_c23 : Code := .seq sounderlaw06_SentPlays_c24 sounderlaw06_SentPlays_c116
noncomputable def sounderlaw06_SentPlays_c18 : Code := .seq sounderlaw06_SentPlays_c19 sounderlaw06_SentPlays_c23
noncomputable def sounderlaw06_SentPlays_c17 : Code := .loop sounderlaw06_SentPlays_c18
noncomputable def sounderlaw06_SentPlays_c16 : Code := .block 0 sounderlaw06_SentPlays_c17
noncomputable def sounderlaw06_SentPlays_c14 : Code := .seq sounderlaw06_SentPlays_c15 sounderlaw06_SentPlays_c16
noncomputable def sounderlaw06_SentPlays_c118 : Code := subC (bodyC Try.f7) [1, 1, 1, 1, 1, 0]
noncomputable def sounderlaw06_SentPlays_c117 : Code := .seq sounderlaw06_SentPlays_c118 Code.ret
noncomputable def sounderlaw06_SentPlays_c13 : Code := .seq sounderlaw06_SentPlays_c14 sounderlaw06_SentPlays_c117
noncomputable def sounderlaw06_SentPlays_c7 : Code := .seq sounderlaw06_SentPlays_c8 sounderlaw06_SentPlays_c13
noncomputable def sounderlaw06_SentPlays_c5 : Code := .seq sounderlaw06_SentPlays_c6 sounderlaw06_SentPlays_c7
noncomputable def sounderlaw06_SentPlays_c3 : Code := .seq sounderlaw06_SentPlays_c4 sounderlaw06_SentPlays_c5
noncomputable def sounderlaw06_SentPlays_c1 : Code := .seq sounderlaw06_SentPlays_c2 sounderlaw06_SentPlays_c3
def sounderlaw06_SentPlays_pi (i : Nat) : Pl := match i with
  | 20 => (ones [0, 1, 2, 4, 5, 6, 3, 7, 8] .nil)
  | 36 => (ones [0, 1, 2, 3, 4, 5, 6, 7, 8, 9, 11, 12, 13, 10, 14, 15, 16] .nil)
  | 39 => (ones [0, 1, 2, 3, 4, 6, 7, 8, 9, 10, 5, 11, 12, 13] .nil)
  | _ => .nil
def sounderlaw06_SentPlays_g119 (S : Value → Value → Heap → Prop) (x0 x1 : Value) (H : Heap) : Prop :=
  S x0 x1 H
theorem sounderlaw06_SentPlays_g119_e (S : Value → Value → Heap → Prop) (x : Nat → Value) (H : Heap) : wpE tab P sounderlaw06_SentPlays_pi sounderlaw06_SentPlays_c2 (nQ fun l H => S (l.getD 0 undef) (l.getD 1 undef) H) ((List.range 159).map x) H = sounderlaw06_SentPlays_g119 S (x 0) (x 1) H := by kernel_rfl
def sounderlaw06_SentPlays_g120 (S : Value → Value → Value → Value → Heap → Prop) (x0 x1 : Value) (H : Heap) : Prop :=
  EvF P N.sent_New #[x0] H fun v19 H1 =>
  bnd (exV 0 v19) fun v20 =>
  bnd (exV 1 v19) fun v21 =>
  S x0 x1 v20 v21 H1
theorem sounderlaw06_SentPlays_g120_e (S : Value → Value → Value → Value → Heap → Prop) (x : Nat → Value) (H : Heap) : wpE tab P sounderlaw06_SentPlays_pi sounderlaw06_SentPlays_c4 (nQ fun l H => S (l.getD 0 undef) (l.getD 1 undef) (l.getD 5 undef) (l.getD 6 undef) H) ((List.range 159).map x) H = sounderlaw06_SentPlays_g120 S (x 0) (x 1) H := by kernel_rfl
def sounderlaw06_SentPlays_g121 (S : Value → Value → Value → Value → Value → Heap → Prop) (x0 x1 x5 x6 : Value) (H : Heap) : Prop :=
  EvF P N.sounderref06_New #[x0] H fun v24 H1 =>
  bnd (exV 0 v24) fun v25 =>
  bnd (exV 1 v24) fun v26 =>
  S x1 x5 x6 v25 v26 H1
theorem sounderlaw06_SentPlays_g121_e (S : Value → Value → Value → Value → Value → Heap → Prop) (x : Nat → Value) (H : Heap) : wpE tab P sounderlaw06_SentPlays_pi sounderlaw06_SentPlays_c6 (nQ fun l H => S (l.getD 1 undef) (l.getD 5 undef) (l.getD 6 undef) (l.getD 7 undef) (l.getD 8 undef) H) ((List.range 159).map x) H = sounderlaw06_SentPlays_g121 S (x 0) (x 1) (x 5) (x 6) H := by kernel_rfl
def sounderlaw06_SentPlays_g122 (S : Value → Value → Value → Value → Value → Heap → Prop) (x1 x5 x6 x7 x8 : Value) (H : Heap) : Prop :=
  bnd (binV .int .neq x6 x8) fun v29 =>
  brV v29
  (S x1 x5 x7 x8 (.bool true) H)
  (bnd (binV .ptr .eql x5 (.pointer none)) fun v32 =>
  bnd (binV .int .neq x6 (.int .i64 0)) fun v34 =>
  bnd (binV .bool .neq v32 v34) fun v35 =>
  S x1 x5 x7 x8 v35 H)
theorem sounderlaw06_SentPlays_g122_e (S : Value → Value → Value → Value → Value → Heap → Prop) (x : Nat → Value) (H : Heap) : wpE tab P sounderlaw06_SentPlays_pi sounderlaw06_SentPlays_c9 (nQ fun l H => S (l.getD 1 undef) (l.getD 5 undef) (l.getD 7 undef) (l.getD 8 undef) (l.getD 36 undef) H) ((List.range 159).map x) H = sounderlaw06_SentPlays_g122 S (x 1) (x 5) (x 6) (x 7) (x 8) H := by kernel_rfl
def sounderlaw06_SentPlays_g123 (S : Value → Heap → Prop) (H : Heap) : Prop :=
  S (.bool false) H
theorem sounderlaw06_SentPlays_g123_e (S : Value → Heap → Prop) (x : Nat → Value) (H : Heap) : wpE tab P sounderlaw06_SentPlays_pi sounderlaw06_SentPlays_c12 (nQ fun l H => S (l.getD 4 undef) H) ((List.range 159).map x) H = sounderlaw06_SentPlays_g123 S  H := by kernel_rfl
def sounderlaw06_SentPlays_g124 (S : Value → Value → Value → Value → Value → Heap → Prop) (x1 x5 x7 x8 : Value) (H : Heap) : Prop :=
  S x1 x5 x7 x8 (.int .i64 0) H
theorem sounderlaw06_SentPlays_g124_e (S : Value → Value → Value → Value → Value → Heap → Prop) (x : Nat → Value) (H : Heap) : wpE tab P sounderlaw06_SentPlays_pi sounderlaw06_SentPlays_c15 (nQ fun l H => S (l.getD 1 undef) (l.getD 5 undef) (l.getD 7 undef) (l.getD 8 undef) (l.getD 9 undef) H) ((List.range 159).map x) H = sounderlaw06_SentPlays_g124 S (x 1) (x 5) (x 7) (x 8) H := by kernel_rfl
def sounderlaw06_SentPlays_g126 (S : Value → Value → Value → Value → Value → Value → Heap → Prop) (x1 x5 x7 x8 x9 : Value) (H : Heap) : Prop :=
  bnd (lenV x1) fun v39 =>
  bnd (binV .int .lss x9 v39) fun v40 =>
  brV v40
  (bnd (binV .int .lss x9 (.int .i64 100)) fun v43 =>
  brV v43
  (bnd (binV .int .eql x8 (.int .i64 0)) fun v47 =>
  S x1 x5 x7 x8 x9 v47 H)
  (S x1 x5 x7 x8 x9 (.bool false) H))
  (S x1 x5 x7 x8 x9 (.bool false) H)
theorem sounderlaw06_SentPlays_g126_e (S : Value → Value → Value → Value → Value → Value → Heap → Prop) (x : Nat → Value) (H : Heap) : wpE tab P sounderlaw06_SentPlays_pi sounderlaw06_SentPlays_c20 (nQ fun l H => S (l.getD 1 undef) (l.getD 5 undef) (l.getD 7 undef) (l.getD 8 undef) (l.getD 9 undef) (l.getD 48 undef) H) ((List.range 159).map x) H = sounderlaw06_SentPlays_g126 S (x 1) (x 5) (x 7) (x 8) (x 9) H := by kernel_rfl
def sounderlaw06_SentPlays_g127 (S : Value → Value → Value → Value → Value → Value → Heap → Prop) (x1 x5 x7 x8 x9 : Value) (H : Heap) : Prop :=
  bnd (ixSV 9 x1 x9) fun v53 =>
  bnd (ldE true 9 v53 H) fun v54 =>
  newE 54 #[(.int .i64 0), (.int .i64 0), (.int .i64 0), (.int .i64 0), (.int .i64 0), (.int .i64 0), (.bool false), (.bool false), (.bool false)] H fun v10 H1 =>
  bnd (stE 9 v10 v54 H1) fun H2 =>
  S x1 x5 x7 x8 x9 v10 H2
theorem sounderlaw06_SentPlays_g127_e (S : Value → Value → Value → Value → Value → Value → Heap → Prop) (x : Nat → Value) (H : Heap) : wpE tab P sounderlaw06_SentPlays_pi sounderlaw06_SentPlays_c26 (nQ fun l H => S (l.getD 1 undef) (l.getD 5 undef) (l.getD 7 undef) (l.getD 8 undef) (l.getD 9 undef) (l.getD 10 undef) H) ((List.range 159).map x) H = sounderlaw06_SentPlays_g127 S (x 1) (x 5) (x 7) (x 8) (x 9) H := by kernel_rfl
def sounderlaw06_SentPlays_g129 (S : Value → Value → Value → Value → Value → Value → Heap → Prop) (x1 x5 x7 x8 x9 x10 : Value) (H : Heap) : Prop :=
  bnd (faV 1 x10) fun v154 =>
  bnd (ldE false 1 v154 H) fun v155 =>
  EvF P N.sounderlaw06_same #[x5, x7, v155] H fun v156 H1 =>
  bnd (unV .not v156) fun v157 =>
  S x1 x5 x7 x8 x9 v157 H1
theorem sounderlaw06_SentPlays_g129_e (S : Value → Value → Value → Value → Value → Value → Heap → Prop) (x : Nat → Value) (H : Heap) : wpE tab P sounderlaw06_SentPlays_pi sounderlaw06_SentPlays_c112 (nQ fun l H => S (l.getD 1 undef) (l.getD 5 undef) (l.getD 7 undef) (l.getD 8 undef) (l.getD 9 undef) (l.getD 157 undef) H) ((List.range 159).map x) H = sounderlaw06_SentPlays_g129 S (x 1) (x 5) (x 7) (x 8) (x 9) (x 10) H := by kernel_rfl
def sounderlaw06_SentPlays_g130 (S : Value → Heap → Prop) (H : Heap) : Prop :=
  S (.bool false) H
theorem sounderlaw06_SentPlays_g130_e (S : Value → Heap → Prop) (x : Nat → Value) (H : Heap) : wpE tab P sounderlaw06_SentPlays_pi sounderlaw06_SentPlays_c115 (nQ fun l H => S (l.getD 4 undef) H) ((List.range 159).map x) H = sounderlaw06_SentPlays_g130 S  H := by kernel_rfl
def sounderlaw06_SentPlays_g131 (S : Value → Value → Value → Value → Value → Heap → Prop) (x1 x5 x7 x8 x9 : Value) (H : Heap) : Prop :=
  bnd (binV .int .add x9 (.int .i64 1)) fun v50 =>
  S x1 x5 x7 x8 v50 H
theorem sounderlaw06_SentPlays_g131_e (S : Value → Value → Value → Value → Value → Heap → Prop) (x : Nat → Value) (H : Heap) : wpE tab P sounderlaw06_SentPlays_pi sounderlaw06_SentPlays_c116 (nQ fun l H => S (l.getD 1 undef) (l.getD 5 undef) (l.getD 7 undef) (l.getD 8 undef) (l.getD 9 undef) H) ((List.range 159).map x) H = sounderlaw06_SentPlays_g131 S (x 1) (x 5) (x 7) (x 8) (x 9) H := by kernel_rfl
def sounderlaw06_SentPlays_s128 (x1 x5 x7 x8 x9 x10 : Value) (K1 : Value → Value → Value → Value → Value →  Heap → Prop) (R : Value → Heap → Prop) (H : Heap) : Prop :=
  sounderlaw06_SentPlays_g129 (fun x1 x5 x7 x8 x9 x157 H => brV x157
  (sounderlaw06_SentPlays_g130 (fun x4 H => R x4 H) H)
  (sounderlaw06_SentPlays_g131 (fun x1 x5 x7 x8 x9 H => K1 x1 x5 x7 x8 x9 H) x1 x5 x7 x8 x9 H)) x1 x5 x7 x8 x9 x10 H
noncomputable def sounderlaw06_SentPlays_q132 (R : Value → Heap → Prop) : Exit → List Value → Heap → Prop := (retQ tab sounderlaw06_SentPlays_rs R)
noncomputable def sounderlaw06_SentPlays_q133 (R : Value → Heap → Prop) : Exit → List Value → Heap → Prop := (thenE (fun l H => wpE tab P sounderlaw06_SentPlays_pi sounderlaw06_SentPlays_c117 (sounderlaw06_SentPlays_q132 R) l H) (sounderlaw06_SentPlays_q132 R))
noncomputable def sounderlaw06_SentPlays_q134 (R : Value → Heap → Prop) : Exit → List Value → Heap → Prop := (blkE 0 (sounderlaw06_SentPlays_q133 R))
noncomputable def sounderlaw06_SentPlays_q135 (K1 : Value → Value → Value → Value → Value →  Heap → Prop) (R : Value → Heap → Prop) : Exit → List Value → Heap → Prop := (thenE (fun l H => K1 (l.getD 1 undef) (l.getD 5 undef) (l.getD 7 undef) (l.getD 8 undef) (l.getD 9 undef) H) (sounderlaw06_SentPlays_q134 R))
noncomputable def sounderlaw06_SentPlays_q136 (K1 : Value → Value → Value → Value → Value →  Heap → Prop) (R : Value → Heap → Prop) : Exit → List Value → Heap → Prop := (thenE (fun l H => wpE tab P sounderlaw06_SentPlays_pi sounderlaw06_SentPlays_c116 (sounderlaw06_SentPlays_q135 K1 R) l H) (sounderlaw06_SentPlays_q135 K1 R))
noncomputable def sounderlaw06_SentPlays_q137 (K1 : Value → Value → Value → Value → Value →  Heap → Prop) (R : Value → Heap → Prop) : Exit → List Value → Heap → Prop := (blkE 1 (sounderlaw06_SentPlays_q136 K1 R))
theorem sounderlaw06_SentPlays_s128_i (K1 : Value → Value → Value → Value → Value →  Heap → Prop) (R : Value → Heap → Prop) (l : List Value) (H : Heap) (hl : l.length = 159) (h : sounderlaw06_SentPlays_s128 (l.getD 1 undef) (l.getD 5 undef) (l.getD 7 undef) (l.getD 8 undef) (l.getD 9 undef) (l.getD 10 undef) K1 R H) : wpE tab P sounderlaw06_SentPlays_pi sounderlaw06_SentPlays_c111 (sounderlaw06_SentPlays_q137 K1 R) l H := by
  refine seqI (c := sounderlaw06_SentPlays_c111) rfl ?_
  refine regI hl (Eq.mpr (sounderlaw06_SentPlays_g129_e _ (fun i => l.getD i undef) _) h) ?_
  clear h hl
  intro l H hl h
  refine thenN ?_
  refine condI (c := sounderlaw06_SentPlays_c113) rfl h ?_ ?_
  · clear h; intro h
    refine seqI (c := sounderlaw06_SentPlays_c114) rfl ?_
    refine regI hl (Eq.mpr (sounderlaw06_SentPlays_g130_e _ (fun i => l.getD i undef) _) h) ?_
    clear h hl
    intro l H hl h
    refine thenN ?_
    refine retI rfl ?_
    refine blkR ?_
    refine thenR ?_
    refine thenR ?_
    refine blkR ?_
    refine thenR ?_
    exact h
  · clear h; intro h
    refine skipI rfl ?_
    refine blkN ?_
    refine thenN ?_
    refine regI hl (Eq.mpr (sounderlaw06_SentPlays_g131_e _ (fun i => l.getD i undef) _) h) ?_
    clear h hl
    intro l H hl h
    refine thenN ?_
    exact h
def sounderlaw06_SentPlays_g138 (S : Value → Value → Value → Value → Value → Value → Value → Heap → Prop) (x1 x5 x7 x8 x9 x10 : Value) (H : Heap) : Prop :=
  bnd (faV 0 x10) fun v55 =>
  bnd (ldE false 1 v55 H) fun v56 =>
  EvF P N.sounderref00_Bring #[v56, (.int .i64 16)] H fun v57 H1 =>
  S x1 x5 x7 x8 x9 x10 v57 H1
theorem sounderlaw06_SentPlays_g138_e (S : Value → Value → Value → Value → Value → Value → Value → Heap → Prop) (x : Nat → Value) (H : Heap) : wpE tab P sounderlaw06_SentPlays_pi sounderlaw06_SentPlays_c29 (nQ fun l H => S (l.getD 1 undef) (l.getD 5 undef) (l.getD 7 undef) (l.getD 8 undef) (l.getD 9 undef) (l.getD 10 undef) (l.getD 57 undef) H) ((List.range 159).map x) H = sounderlaw06_SentPlays_g138 S (x 1) (x 5) (x 7) (x 8) (x 9) (x 10) H := by kernel_rfl
def sounderlaw06_SentPlays_g140 (S : Value → Value → Value → Value → Value → Value → Value → Heap → Prop) (x1 x5 x7 x8 x9 x10 : Value) (H : Heap) : Prop :=
  bnd (faV 3 x10) fun v72 =>
  bnd (ldE true 6 v72 H) fun v73 =>
  bnd (faV 3 x10) fun v76 =>
  bnd (ldE true 6 v76 H) fun v77 =>
  EvF P N.sent_Log_Put #[x5, v73] H fun v74 H1 =>
  ((bnd (ldE true 6 v76 H1) fun v' => v' = v77) ∧
  EvF P N.sounderref06_Log_Put #[x7, v77] H1 fun v78 H2 =>
  bnd (binV .int .neq v74 v78) fun v79 =>
  S x1 x5 x7 x8 x9 x10 v79 H2)
theorem sounderlaw06_SentPlays_g140_e (S : Value → Value → Value → Value → Value → Value → Value → Heap → Prop) (x : Nat → Value) (H : Heap) : wpE tab P sounderlaw06_SentPlays_pi sounderlaw06_SentPlays_c56 (nQ fun l H => S (l.getD 1 undef) (l.getD 5 undef) (l.getD 7 undef) (l.getD 8 undef) (l.getD 9 undef) (l.getD 10 undef) (l.getD 79 undef) H) ((List.range 159).map x) H = sounderlaw06_SentPlays_g140 S (x 1) (x 5) (x 7) (x 8) (x 9) (x 10) H := by kernel_rfl
def sounderlaw06_SentPlays_g141 (S : Value → Heap → Prop) (H : Heap) : Prop :=
  S (.bool false) H
theorem sounderlaw06_SentPlays_g141_e (S : Value → Heap → Prop) (x : Nat → Value) (H : Heap) : wpE tab P sounderlaw06_SentPlays_pi sounderlaw06_SentPlays_c59 (nQ fun l H => S (l.getD 4 undef) H) ((List.range 159).map x) H = sounderlaw06_SentPlays_g141 S  H := by kernel_rfl
def sounderlaw06_SentPlays_g143 (S : Value → Value → Value → Value → Value → Value → Value → Value → Heap → Prop) (x1 x5 x7 x8 x9 x10 : Value) (H : Heap) : Prop :=
  bnd (faV 1 x10) fun v87 =>
  bnd (ldE false 1 v87 H) fun v88 =>
  EvF P N.sent_Log_Drop #[x5, v88] H fun v89 H1 =>
  bnd (exV 0 v89) fun v90 =>
  bnd (exV 1 v89) fun v91 =>
  newE 30 #[(.int .i64 0), (.int .i64 0), (.int .i64 0), (.bool false), (.bool false), (.bool false)] H1 fun v11 H2 =>
  bnd (stE 6 v11 v90 H2) fun H3 =>
  S x1 x5 x7 x8 x9 x10 v11 v91 H3
theorem sounderlaw06_SentPlays_g143_e (S : Value → Value → Value → Value → Value → Value → Value → Value → Heap → Prop) (x : Nat → Value) (H : Heap) : wpE tab P sounderlaw06_SentPlays_pi sounderlaw06_SentPlays_c73 (nQ fun l H => S (l.getD 1 undef) (l.getD 5 undef) (l.getD 7 undef) (l.getD 8 undef) (l.getD 9 undef) (l.getD 10 undef) (l.getD 11 undef) (l.getD 12 undef) H) ((List.range 159).map x) H = sounderlaw06_SentPlays_g143 S (x 1) (x 5) (x 7) (x 8) (x 9) (x 10) H := by kernel_rfl
def sounderlaw06_SentPlays_g144 (S : Value → Value → Value → Value → Value → Value → Value → Value → Value → Value → Heap → Prop) (x1 x5 x7 x8 x9 x10 x11 x12 : Value) (H : Heap) : Prop :=
  bnd (faV 1 x10) fun v94 =>
  bnd (ldE false 1 v94 H) fun v95 =>
  EvF P N.sounderref06_Log_Drop #[x7, v95] H fun v96 H1 =>
  bnd (exV 0 v96) fun v97 =>
  bnd (exV 1 v96) fun v98 =>
  newE 30 #[(.int .i64 0), (.int .i64 0), (.int .i64 0), (.bool false), (.bool false), (.bool false)] H1 fun v13 H2 =>
  bnd (stE 6 v13 v97 H2) fun H3 =>
  S x1 x5 x7 x8 x9 x10 x11 x12 v13 v98 H3
theorem sounderlaw06_SentPlays_g144_e (S : Value → Value → Value → Value → Value → Value → Value → Value → Value → Value → Heap → Prop) (x : Nat → Value) (H : Heap) : wpE tab P sounderlaw06_SentPlays_pi sounderlaw06_SentPlays_c75 (nQ fun l H => S (l.getD 1 undef) (l.getD 5 undef) (l.getD 7 undef) (l.getD 8 undef) (l.getD 9 undef) (l.getD 10 undef) (l.getD 11 undef) (l.getD 12 undef) (l.getD 13 undef) (l.getD 14 undef) H) ((List.range 159).map x) H = sounderlaw06_SentPlays_g144 S (x 1) (x 5) (x 7) (x 8) (x 9) (x 10) (x 11) (x 12) H := by kernel_rfl
def sounderlaw06_SentPlays_g145 (S : Value → Value → Value → Value → Value → Value → Value → Heap → Prop) (x1 x5 x7 x8 x9 x10 x11 x12 x13 x14 : Value) (H : Heap) : Prop :=
  bnd (ldE true 6 x11 H) fun v99 =>
  bnd (ldE true 6 x13 H) fun v100 =>
  bnd (binV (.agg [true, true, true, false, false, false]) .neq v99 v100) fun v101 =>
  brV v101
  (S x1 x5 x7 x8 x9 x10 (.bool true) H)
  (bnd (binV .bool .neq x12 x14) fun v105 =>
  S x1 x5 x7 x8 x9 x10 v105 H)
theorem sounderlaw06_SentPlays_g145_e (S : Value → Value → Value → Value → Value → Value → Value → Heap → Prop) (x : Nat → Value) (H : Heap) : wpE tab P sounderlaw06_SentPlays_pi sounderlaw06_SentPlays_c77 (nQ fun l H => S (l.getD 1 undef) (l.getD 5 undef) (l.getD 7 undef) (l.getD 8 undef) (l.getD 9 undef) (l.getD 10 undef) (l.getD 106 undef) H) ((List.range 159).map x) H = sounderlaw06_SentPlays_g145 S (x 1) (x 5) (x 7) (x 8) (x 9) (x 10) (x 11) (x 12) (x 13) (x 14) H := by kernel_rfl
def sounderlaw06_SentPlays_g146 (S : Value → Heap → Prop) (H : Heap) : Prop :=
  S (.bool false) H
theorem sounderlaw06_SentPlays_g146_e (S : Value → Heap → Prop) (x : Nat → Value) (H : Heap) : wpE tab P sounderlaw06_SentPlays_pi sounderlaw06_SentPlays_c80 (nQ fun l H => S (l.getD 4 undef) H) ((List.range 159).map x) H = sounderlaw06_SentPlays_g146 S  H := by kernel_rfl
def sounderlaw06_SentPlays_g148 (S : Value → Value → Value → Value → Value → Value → Value → Value → Heap → Prop) (x1 x5 x7 x8 x9 x10 : Value) (H : Heap) : Prop :=
  EvF P N.sounderref06_Log_Copy #[x7] H fun v112 H1 =>
  S x1 x5 x7 x8 x9 x10 x5 v112 H1
theorem sounderlaw06_SentPlays_g148_e (S : Value → Value → Value → Value → Value → Value → Value → Value → Heap → Prop) (x : Nat → Value) (H : Heap) : wpE tab P sounderlaw06_SentPlays_pi sounderlaw06_SentPlays_c88 (nQ fun l H => S (l.getD 1 undef) (l.getD 5 undef) (l.getD 7 undef) (l.getD 8 undef) (l.getD 9 undef) (l.getD 10 undef) (l.getD 15 undef) (l.getD 16 undef) H) ((List.range 159).map x) H = sounderlaw06_SentPlays_g148 S (x 1) (x 5) (x 7) (x 8) (x 9) (x 10) H := by kernel_rfl
def sounderlaw06_SentPlays_g149 (S : Value → Value → Value → Value → Value → Value → Value → Value → Heap → Prop) (x1 x5 x7 x8 x9 x10 x15 x16 : Value) (H : Heap) : Prop :=
  EvF P N.sent_Log_Copy #[x5] H fun v114 H1 =>
  S x1 v114 x7 x8 x9 x10 x15 x16 H1
theorem sounderlaw06_SentPlays_g149_e (S : Value → Value → Value → Value → Value → Value → Value → Value → Heap → Prop) (x : Nat → Value) (H : Heap) : wpE tab P sounderlaw06_SentPlays_pi sounderlaw06_SentPlays_c90 (nQ fun l H => S (l.getD 1 undef) (l.getD 5 undef) (l.getD 7 undef) (l.getD 8 undef) (l.getD 9 undef) (l.getD 10 undef) (l.getD 15 undef) (l.getD 16 undef) H) ((List.range 159).map x) H = sounderlaw06_SentPlays_g149 S (x 1) (x 5) (x 7) (x 8) (x 9) (x 10) (x 15) (x 16) H := by kernel_rfl
def sounderlaw06_SentPlays_g150 (S : Value → Value → Value → Value → Value → Value → Value → Value → Heap → Prop) (x1 x5 x7 x8 x9 x10 x15 x16 : Value) (H : Heap) : Prop :=
  EvF P N.sent_Log_Clear #[x15] H fun _ H1 =>
  S x1 x5 x7 x8 x9 x10 x15 x16 H1
theorem sounderlaw06_SentPlays_g150_e (S : Value → Value → Value → Value → Value → Value → Value → Value → Heap → Prop) (x : Nat → Value) (H : Heap) : wpE tab P sounderlaw06_SentPlays_pi sounderlaw06_SentPlays_c92 (nQ fun l H => S (l.getD 1 undef) (l.getD 5 undef) (l.getD 7 undef) (l.getD 8 undef) (l.getD 9 undef) (l.getD 10 undef) (l.getD 15 undef) (l.getD 16 undef) H) ((List.range 159).map x) H = sounderlaw06_SentPlays_g150 S (x 1) (x 5) (x 7) (x 8) (x 9) (x 10) (x 15) (x 16) H := by kernel_rfl
def sounderlaw06_SentPlays_g151 (S : Value → Value → Value → Value → Value → Value → Value → Value → Heap → Prop) (x1 x5 x7 x8 x9 x10 x15 x16 : Value) (H : Heap) : Prop :=
  EvF P N.sounderref06_Log_Clear #[x16] H fun _ H1 =>
  S x1 x5 x7 x8 x9 x10 x15 x16 H1
theorem sounderlaw06_SentPlays_g151_e (S : Value → Value → Value → Value → Value → Value → Value → Value → Heap → Prop) (x : Nat → Value) (H : Heap) : wpE tab P sounderlaw06_SentPlays_pi sounderlaw06_SentPlays_c94 (nQ fun l H => S (l.getD 1 undef) (l.getD 5 undef) (l.getD 7 undef) (l.getD 8 undef) (l.getD 9 undef) (l.getD 10 undef) (l.getD 15 undef) (l.getD 16 undef) H) ((List.range 159).map x) H = sounderlaw06_SentPlays_g151 S (x 1) (x 5) (x 7) (x 8) (x 9) (x 10) (x 15) (x 16) H := by kernel_rfl
def sounderlaw06_SentPlays_g152 (S : Value → Value → Value → Value → Value → Value → Value → Heap → Prop) (x1 x5 x7 x8 x9 x10 x15 x16 : Value) (H : Heap) : Prop :=
  bnd (faV 1 x10) fun v121 =>
  bnd (ldE false 1 v121 H) fun v122 =>
  EvF P N.sounderlaw06_same #[x15, x16, v122] H fun v123 H1 =>
  bnd (unV .not v123) fun v124 =>
  brV v124
  (S x1 x5 x7 x8 x9 x10 (.bool true) H1)
  (bnd (faV 3 x10) fun v127 =>
  bnd (ldE true 6 v127 H1) fun v128 =>
  bnd (faV 3 x10) fun v131 =>
  bnd (ldE true 6 v131 H1) fun v132 =>
  EvF P N.sent_Log_Put #[x15, v128] H1 fun v129 H2 =>
  ((bnd (ldE true 6 v131 H2) fun v' => v' = v132) ∧
  EvF P N.sounderref06_Log_Put #[x16, v132] H2 fun v133 H3 =>
  bnd (binV .int .neq v129 v133) fun v134 =>
  S x1 x5 x7 x8 x9 x10 v134 H3))
theorem sounderlaw06_SentPlays_g152_e (S : Value → Value → Value → Value → Value → Value → Value → Heap → Prop) (x : Nat → Value) (H : Heap) : wpE tab P sounderlaw06_SentPlays_pi sounderlaw06_SentPlays_c96 (nQ fun l H => S (l.getD 1 undef) (l.getD 5 undef) (l.getD 7 undef) (l.getD 8 undef) (l.getD 9 undef) (l.getD 10 undef) (l.getD 135 undef) H) ((List.range 159).map x) H = sounderlaw06_SentPlays_g152 S (x 1) (x 5) (x 7) (x 8) (x 9) (x 10) (x 15) (x 16) H := by kernel_rfl
def sounderlaw06_SentPlays_g153 (S : Value → Heap → Prop) (H : Heap) : Prop :=
  S (.bool false) H
theorem sounderlaw06_SentPlays_g153_e (S : Value → Heap → Prop) (x : Nat → Value) (H : Heap) : wpE tab P sounderlaw06_SentPlays_pi sounderlaw06_SentPlays_c99 (nQ fun l H => S (l.getD 4 undef) H) ((List.range 159).map x) H = sounderlaw06_SentPlays_g153 S  H := by kernel_rfl
def sounderlaw06_SentPlays_g154 (S : Value → Value → Value → Value → Value → Value → Value → Heap → Prop) (x1 x5 x7 x8 x9 x10 x57 : Value) (H : Heap) : Prop :=
  bnd (binV .int .eql x57 (.int .i64 7)) fun v137 =>
  S x1 x5 x7 x8 x9 x10 v137 H
theorem sounderlaw06_SentPlays_g154_e (S : Value → Value → Value → Value → Value → Value → Value → Heap → Prop) (x : Nat → Value) (H : Heap) : wpE tab P sounderlaw06_SentPlays_pi sounderlaw06_SentPlays_c101 (nQ fun l H => S (l.getD 1 undef) (l.getD 5 undef) (l.getD 7 undef) (l.getD 8 undef) (l.getD 9 undef) (l.getD 10 undef) (l.getD 136 undef) H) ((List.range 159).map x) H = sounderlaw06_SentPlays_g154 S (x 1) (x 5) (x 7) (x 8) (x 9) (x 10) (x 57) H := by kernel_rfl
def sounderlaw06_SentPlays_g155 (S : Value → Value → Value → Value → Value → Value → Value → Heap → Prop) (x1 x5 x7 x8 x9 x10 : Value) (H : Heap) : Prop :=
  bnd (faV 1 x10) fun v139 =>
  bnd (ldE false 1 v139 H) fun v140 =>
  bnd (faV 2 x10) fun v141 =>
  bnd (ldE false 1 v141 H) fun v142 =>
  bnd (faV 1 x10) fun v145 =>
  bnd (ldE false 1 v145 H) fun v146 =>
  bnd (faV 2 x10) fun v147 =>
  bnd (ldE false 1 v147 H) fun v148 =>
  EvF P N.sent_Log_Between #[x5, v140, v142] H fun v143 H1 =>
  ((bnd (ldE false 1 v147 H1) fun v' => v' = v148) ∧
  ((bnd (ldE false 1 v145 H1) fun v' => v' = v146) ∧
  EvF P N.sounderref06_Log_Between #[x7, v146, v148] H1 fun v149 H2 =>
  EvF P N.sounderlaw06_equal #[v143, v149] H2 fun v150 H3 =>
  bnd (unV .not v150) fun v151 =>
  S x1 x5 x7 x8 x9 x10 v151 H3))
theorem sounderlaw06_SentPlays_g155_e (S : Value → Value → Value → Value → Value → Value → Value → Heap → Prop) (x : Nat → Value) (H : Heap) : wpE tab P sounderlaw06_SentPlays_pi sounderlaw06_SentPlays_c104 (nQ fun l H => S (l.getD 1 undef) (l.getD 5 undef) (l.getD 7 undef) (l.getD 8 undef) (l.getD 9 undef) (l.getD 10 undef) (l.getD 151 undef) H) ((List.range 159).map x) H = sounderlaw06_SentPlays_g155 S (x 1) (x 5) (x 7) (x 8) (x 9) (x 10) H := by kernel_rfl
def sounderlaw06_SentPlays_g156 (S : Value → Heap → Prop) (H : Heap) : Prop :=
  S (.bool false) H
theorem sounderlaw06_SentPlays_g156_e (S : Value → Heap → Prop) (x : Nat → Value) (H : Heap) : wpE tab P sounderlaw06_SentPlays_pi sounderlaw06_SentPlays_c107 (nQ fun l H => S (l.getD 4 undef) H) ((List.range 159).map x) H = sounderlaw06_SentPlays_g156 S  H := by kernel_rfl
def sounderlaw06_SentPlays_g157 (S : Value → Value → Value → Value → Value → Value → Heap → Prop) (x1 x5 x7 x8 x9 x10 : Value) (H : Heap) : Prop :=
  EvF P N.sent_Log_Clear #[x5] H fun _ H1 =>
  S x1 x5 x7 x8 x9 x10 H1
theorem sounderlaw06_SentPlays_g157_e (S : Value → Value → Value → Value → Value → Value → Heap → Prop) (x : Nat → Value) (H : Heap) : wpE tab P sounderlaw06_SentPlays_pi sounderlaw06_SentPlays_c109 (nQ fun l H => S (l.getD 1 undef) (l.getD 5 undef) (l.getD 7 undef) (l.getD 8 undef) (l.getD 9 undef) (l.getD 10 undef) H) ((List.range 159).map x) H = sounderlaw06_SentPlays_g157 S (x 1) (x 5) (x 7) (x 8) (x 9) (x 10) H := by kernel_rfl
def sounderlaw06_SentPlays_g158 (S : Value → Value → Value → Value → Value → Value → Heap → Prop) (x1 x5 x7 x8 x9 x10 : Value) (H : Heap) : Prop :=
  EvF P N.sounderref06_Log_Clear #[x7] H fun _ H1 =>
  S x1 x5 x7 x8 x9 x10 H1
theorem sounderlaw06_SentPlays_g158_e (S : Value → Value → Value → Value → Value → Value → Heap → Prop) (x : Nat → Value) (H : Heap) : wpE tab P sounderlaw06_SentPlays_pi sounderlaw06_SentPlays_c110 (nQ fun l H => S (l.getD 1 undef) (l.getD 5 undef) (l.getD 7 undef) (l.getD 8 undef) (l.getD 9 undef) (l.getD 10 undef) H) ((List.range 159).map x) H = sounderlaw06_SentPlays_g158 S (x 1) (x 5) (x 7) (x 8) (x 9) (x 10) H := by kernel_rfl
def sounderlaw06_SentPlays_s147 (x1 x5 x7 x8 x9 x10 x57 x107 : Value) (K1 : Value → Value → Value → Value → Value →  Heap → Prop) (R : Value → Heap → Prop) (H : Heap) : Prop :=
  brV x107
  (sounderlaw06_SentPlays_g148 (fun x1 x5 x7 x8 x9 x10 x15 x16 H => sounderlaw06_SentPlays_g149 (fun x1 x5 x7 x8 x9 x10 x15 x16 H => sounderlaw06_SentPlays_g150 (fun x1 x5 x7 x8 x9 x10 x15 x16 H => sounderlaw06_SentPlays_g151 (fun x1 x5 x7 x8 x9 x10 x15 x16 H => sounderlaw06_SentPlays_g152 (fun x1 x5 x7 x8 x9 x10 x135 H => brV x135
  (sounderlaw06_SentPlays_g153 (fun x4 H => R x4 H) H)
  (sounderlaw06_SentPlays_s128 x1 x5 x7 x8 x9 x10 K1 R H)) x1 x5 x7 x8 x9 x10 x15 x16 H) x1 x5 x7 x8 x9 x10 x15 x16 H) x1 x5 x7 x8 x9 x10 x15 x16 H) x1 x5 x7 x8 x9 x10 x15 x16 H) x1 x5 x7 x8 x9 x10 H)
  (sounderlaw06_SentPlays_g154 (fun x1 x5 x7 x8 x9 x10 x136 H => brV x136
  (sounderlaw06_SentPlays_g155 (fun x1 x5 x7 x8 x9 x10 x151 H => brV x151
  (sounderlaw06_SentPlays_g156 (fun x4 H => R x4 H) H)
  (sounderlaw06_SentPlays_s128 x1 x5 x7 x8 x9 x10 K1 R H)) x1 x5 x7 x8 x9 x10 H)
  (sounderlaw06_SentPlays_g157 (fun x1 x5 x7 x8 x9 x10 H => sounderlaw06_SentPlays_g158 (fun x1 x5 x7 x8 x9 x10 H => sounderlaw06_SentPlays_s128 x1 x5 x7 x8 x9 x10 K1 R H) x1 x5 x7 x8 x9 x10 H) x1 x5 x7 x8 x9 x10 H)) x1 x5 x7 x8 x9 x10 x57 H)
noncomputable def sounderlaw06_SentPlays_q159 (K1 : Value → Value → Value → Value → Value →  Heap → Prop) (R : Value → Heap → Prop) : Exit → List Value → Heap → Prop := (thenE (fun l H => wpE tab P sounderlaw06_SentPlays_pi sounderlaw06_SentPlays_c111 (sounderlaw06_SentPlays_q137 K1 R) l H) (sounderlaw06_SentPlays_q137 K1 R))
noncomputable def sounderlaw06_SentPlays_q160 (K1 : Value → Value → Value → Value → Value →  Heap → Prop) (R : Value → Heap → Prop) : Exit → List Value → Heap → Prop := (blkE 2 (sounderlaw06_SentPlays_q159 K1 R))
theorem sounderlaw06_SentPlays_s147_i (K1 : Value → Value → Value → Value → Value →  Heap → Prop) (R : Value → Heap → Prop) (l : List Value) (H : Heap) (hl : l.length = 159) (h : sounderlaw06_SentPlays_s147 (l.getD 1 undef) (l.getD 5 undef) (l.getD 7 undef) (l.getD 8 undef) (l.getD 9 undef) (l.getD 10 undef) (l.getD 57 undef) (l.getD 107 undef) K1 R H) : wpE tab P sounderlaw06_SentPlays_pi sounderlaw06_SentPlays_c86 (sounderlaw06_SentPlays_q160 K1 R) l H := by
  refine condI (c := sounderlaw06_SentPlays_c86) rfl h ?_ ?_
  · clear h; intro h
    refine seqI (c := sounderlaw06_SentPlays_c87) rfl ?_
    refine regI hl (Eq.mpr (sounderlaw06_SentPlays_g148_e _ (fun i => l.getD i undef) _) h) ?_
    clear h hl
    intro l H hl h
    refine thenN ?_
    refine seqI (c := sounderlaw06_SentPlays_c89) rfl ?_
    refine regI hl (Eq.mpr (sounderlaw06_SentPlays_g149_e _ (fun i => l.getD i undef) _) h) ?_
    clear h hl
    intro l H hl h
    refine thenN ?_
    refine seqI (c := sounderlaw06_SentPlays_c91) rfl ?_
    refine regI hl (Eq.mpr (sounderlaw06_SentPlays_g150_e _ (fun i => l.getD i undef) _) h) ?_
    clear h hl
    intro l H hl h
    refine thenN ?_
    refine seqI (c := sounderlaw06_SentPlays_c93) rfl ?_
    refine regI hl (Eq.mpr (sounderlaw06_SentPlays_g151_e _ (fun i => l.getD i undef) _) h) ?_
    clear h hl
    intro l H hl h
    refine thenN ?_
    refine seqI (c := sounderlaw06_SentPlays_c95) rfl ?_
    refine regI hl (Eq.mpr (sounderlaw06_SentPlays_g152_e _ (fun i => l.getD i undef) _) h) ?_
    clear h hl
    intro l H hl h
    refine thenN ?_
    refine condI (c := sounderlaw06_SentPlays_c97) rfl h ?_ ?_
    · clear h; intro h
      refine seqI (c := sounderlaw06_SentPlays_c98) rfl ?_
      refine regI hl (Eq.mpr (sounderlaw06_SentPlays_g153_e _ (fun i => l.getD i undef) _) h) ?_
      clear h hl
      intro l H hl h
      refine thenN ?_
      refine retI rfl ?_
      refine blkR ?_
      refine thenR ?_
      refine blkR ?_
      refine thenR ?_
      refine thenR ?_
      refine blkR ?_
      refine thenR ?_
      exact h
    · clear h; intro h
      refine skipI rfl ?_
      refine blkN ?_
      refine thenN ?_
      exact sounderlaw06_SentPlays_s128_i K1 R l H hl h
  · clear h; intro h
    refine seqI (c := sounderlaw06_SentPlays_c100) rfl ?_
    refine regI hl (Eq.mpr (sounderlaw06_SentPlays_g154_e _ (fun i => l.getD i undef) _) h) ?_
    clear h hl
    intro l H hl h
    refine thenN ?_
    refine condI (c := sounderlaw06_SentPlays_c102) rfl h ?_ ?_
    · clear h; intro h
      refine seqI (c := sounderlaw06_SentPlays_c103) rfl ?_
      refine regI hl (Eq.mpr (sounderlaw06_SentPlays_g155_e _ (fun i => l.getD i undef) _) h) ?_
      clear h hl
      intro l H hl h
      refine thenN ?_
      refine condI (c := sounderlaw06_SentPlays_c105) rfl h ?_ ?_
      · clear h; intro h
        refine seqI (c := sounderlaw06_SentPlays_c106) rfl ?_
        refine regI hl (Eq.mpr (sounderlaw06_SentPlays_g156_e _ (fun i => l.getD i undef) _) h) ?_
        clear h hl
        intro l H hl h
        refine thenN ?_
        refine retI rfl ?_
        refine blkR ?_
        refine thenR ?_
        refine blkR ?_
        refine thenR ?_
        refine thenR ?_
        refine blkR ?_
        refine thenR ?_
        exact h
      · clear h; intro h
        refine skipI rfl ?_
        refine blkN ?_
        refine thenN ?_
        exact sounderlaw06_SentPlays_s128_i K1 R l H hl h
    · clear h; intro h
      refine seqI (c := sounderlaw06_SentPlays_c108) rfl ?_
      refine regI hl (Eq.mpr (sounderlaw06_SentPlays_g157_e _ (fun i => l.getD i undef) _) h) ?_
      clear h hl
      intro l H hl h
      refine thenN ?_
      refine regI hl (Eq.mpr (sounderlaw06_SentPlays_g158_e _ (fun i => l.getD i undef) _) h) ?_
      clear h hl
      intro l H hl h
      refine blkN ?_
      refine thenN ?_
      exact sounderlaw06_SentPlays_s128_i K1 R l H hl h
def sounderlaw06_SentPlays_g161 (S : Value → Value → Value → Value → Value → Value → Value → Value → Heap → Prop) (x1 x5 x7 x8 x9 x10 x57 : Value) (H : Heap) : Prop :=
  bnd (binV .int .eql x57 (.int .i64 6)) fun v108 =>
  S x1 x5 x7 x8 x9 x10 x57 v108 H
theorem sounderlaw06_SentPlays_g161_e (S : Value → Value → Value → Value → Value → Value → Value → Value → Heap → Prop) (x : Nat → Value) (H : Heap) : wpE tab P sounderlaw06_SentPlays_pi sounderlaw06_SentPlays_c83 (nQ fun l H => S (l.getD 1 undef) (l.getD 5 undef) (l.getD 7 undef) (l.getD 8 undef) (l.getD 9 undef) (l.getD 10 undef) (l.getD 57 undef) (l.getD 107 undef) H) ((List.range 159).map x) H = sounderlaw06_SentPlays_g161 S (x 1) (x 5) (x 7) (x 8) (x 9) (x 10) (x 57) H := by kernel_rfl
def sounderlaw06_SentPlays_g162 (S : Value → Value → Value → Value → Value → Value → Value → Value → Heap → Prop) (x1 x5 x7 x8 x9 x10 x57 : Value) (H : Heap) : Prop :=
  bnd (binV .int .eql x57 (.int .i64 14)) fun v109 =>
  S x1 x5 x7 x8 x9 x10 x57 v109 H
theorem sounderlaw06_SentPlays_g162_e (S : Value → Value → Value → Value → Value → Value → Value → Value → Heap → Prop) (x : Nat → Value) (H : Heap) : wpE tab P sounderlaw06_SentPlays_pi sounderlaw06_SentPlays_c85 (nQ fun l H => S (l.getD 1 undef) (l.getD 5 undef) (l.getD 7 undef) (l.getD 8 undef) (l.getD 9 undef) (l.getD 10 undef) (l.getD 57 undef) (l.getD 107 undef) H) ((List.range 159).map x) H = sounderlaw06_SentPlays_g162 S (x 1) (x 5) (x 7) (x 8) (x 9) (x 10) (x 57) H := by kernel_rfl
def sounderlaw06_SentPlays_s142 (x1 x5 x7 x8 x9 x10 x57 x80 : Value) (K1 : Value → Value → Value → Value → Value →  Heap → Prop) (R : Value → Heap → Prop) (H : Heap) : Prop :=
  brV x80
  (sounderlaw06_SentPlays_g143 (fun x1 x5 x7 x8 x9 x10 x11 x12 H => sounderlaw06_SentPlays_g144 (fun x1 x5 x7 x8 x9 x10 x11 x12 x13 x14 H => sounderlaw06_SentPlays_g145 (fun x1 x5 x7 x8 x9 x10 x106 H => brV x106
  (sounderlaw06_SentPlays_g146 (fun x4 H => R x4 H) H)
  (sounderlaw06_SentPlays_s128 x1 x5 x7 x8 x9 x10 K1 R H)) x1 x5 x7 x8 x9 x10 x11 x12 x13 x14 H) x1 x5 x7 x8 x9 x10 x11 x12 H) x1 x5 x7 x8 x9 x10 H)
  (sounderlaw06_SentPlays_g161 (fun x1 x5 x7 x8 x9 x10 x57 x107 H => brV x107
  (sounderlaw06_SentPlays_s147 x1 x5 x7 x8 x9 x10 x57 x107 K1 R H)
  (sounderlaw06_SentPlays_g162 (fun x1 x5 x7 x8 x9 x10 x57 x107 H => sounderlaw06_SentPlays_s147 x1 x5 x7 x8 x9 x10 x57 x107 K1 R H) x1 x5 x7 x8 x9 x10 x57 H)) x1 x5 x7 x8 x9 x10 x57 H)
theorem sounderlaw06_SentPlays_s142_i (K1 : Value → Value → Value → Value → Value →  Heap → Prop) (R : Value → Heap → Prop) (l : List Value) (H : Heap) (hl : l.length = 159) (h : sounderlaw06_SentPlays_s142 (l.getD 1 undef) (l.getD 5 undef) (l.getD 7 undef) (l.getD 8 undef) (l.getD 9 undef) (l.getD 10 undef) (l.getD 57 undef) (l.getD 80 undef) K1 R H) : wpE tab P sounderlaw06_SentPlays_pi sounderlaw06_SentPlays_c71 (sounderlaw06_SentPlays_q160 K1 R) l H := by
  refine condI (c := sounderlaw06_SentPlays_c71) rfl h ?_ ?_
  · clear h; intro h
    refine seqI (c := sounderlaw06_SentPlays_c72) rfl ?_
    refine regI hl (Eq.mpr (sounderlaw06_SentPlays_g143_e _ (fun i => l.getD i undef) _) h) ?_
    clear h hl
    intro l H hl h
    refine thenN ?_
    refine seqI (c := sounderlaw06_SentPlays_c74) rfl ?_
    refine regI hl (Eq.mpr (sounderlaw06_SentPlays_g144_e _ (fun i => l.getD i undef) _) h) ?_
    clear h hl
    intro l H hl h
    refine thenN ?_
    refine seqI (c := sounderlaw06_SentPlays_c76) rfl ?_
    refine regI hl (Eq.mpr (sounderlaw06_SentPlays_g145_e _ (fun i => l.getD i undef) _) h) ?_
    clear h hl
    intro l H hl h
    refine thenN ?_
    refine condI (c := sounderlaw06_SentPlays_c78) rfl h ?_ ?_
    · clear h; intro h
      refine seqI (c := sounderlaw06_SentPlays_c79) rfl ?_
      refine regI hl (Eq.mpr (sounderlaw06_SentPlays_g146_e _ (fun i => l.getD i undef) _) h) ?_
      clear h hl
      intro l H hl h
      refine thenN ?_
      refine retI rfl ?_
      refine blkR ?_
      refine thenR ?_
      refine blkR ?_
      refine thenR ?_
      refine thenR ?_
      refine blkR ?_
      refine thenR ?_
      exact h
    · clear h; intro h
      refine skipI rfl ?_
      refine blkN ?_
      refine thenN ?_
      exact sounderlaw06_SentPlays_s128_i K1 R l H hl h
  · clear h; intro h
    refine seqI (c := sounderlaw06_SentPlays_c81) rfl ?_
    refine seqI (c := sounderlaw06_SentPlays_c82) rfl ?_
    refine regI hl (Eq.mpr (sounderlaw06_SentPlays_g161_e _ (fun i => l.getD i undef) _) h) ?_
    clear h hl
    intro l H hl h
    refine thenN ?_
    refine condI (c := sounderlaw06_SentPlays_c84) rfl h ?_ ?_
    · clear h; intro h
      refine skipI rfl ?_
      refine thenN ?_
      exact sounderlaw06_SentPlays_s147_i K1 R l H hl h
    · clear h; intro h
      refine regI hl (Eq.mpr (sounderlaw06_SentPlays_g162_e _ (fun i => l.getD i undef) _) h) ?_
      clear h hl
      intro l H hl h
      refine thenN ?_
      exact sounderlaw06_SentPlays_s147_i K1 R l H hl h
def sounderlaw06_SentPlays_g163 (S : Value → Value → Value → Value → Value → Value → Value → Value → Heap → Prop) (x1 x5 x7 x8 x9 x10 x57 : Value) (H : Heap) : Prop :=
  bnd (binV .int .eql x57 (.int .i64 4)) fun v81 =>
  S x1 x5 x7 x8 x9 x10 x57 v81 H
theorem sounderlaw06_SentPlays_g163_e (S : Value → Value → Value → Value → Value → Value → Value → Value → Heap → Prop) (x : Nat → Value) (H : Heap) : wpE tab P sounderlaw06_SentPlays_pi sounderlaw06_SentPlays_c62 (nQ fun l H => S (l.getD 1 undef) (l.getD 5 undef) (l.getD 7 undef) (l.getD 8 undef) (l.getD 9 undef) (l.getD 10 undef) (l.getD 57 undef) (l.getD 80 undef) H) ((List.range 159).map x) H = sounderlaw06_SentPlays_g163 S (x 1) (x 5) (x 7) (x 8) (x 9) (x 10) (x 57) H := by kernel_rfl
def sounderlaw06_SentPlays_g164 (S : Value → Value → Value → Value → Value → Value → Value → Value → Heap → Prop) (x1 x5 x7 x8 x9 x10 x57 : Value) (H : Heap) : Prop :=
  bnd (binV .int .eql x57 (.int .i64 5)) fun v82 =>
  S x1 x5 x7 x8 x9 x10 x57 v82 H
theorem sounderlaw06_SentPlays_g164_e (S : Value → Value → Value → Value → Value → Value → Value → Value → Heap → Prop) (x : Nat → Value) (H : Heap) : wpE tab P sounderlaw06_SentPlays_pi sounderlaw06_SentPlays_c65 (nQ fun l H => S (l.getD 1 undef) (l.getD 5 undef) (l.getD 7 undef) (l.getD 8 undef) (l.getD 9 undef) (l.getD 10 undef) (l.getD 57 undef) (l.getD 80 undef) H) ((List.range 159).map x) H = sounderlaw06_SentPlays_g164 S (x 1) (x 5) (x 7) (x 8) (x 9) (x 10) (x 57) H := by kernel_rfl
def sounderlaw06_SentPlays_g165 (S : Value → Value → Value → Value → Value → Value → Value → Value → Heap → Prop) (x1 x5 x7 x8 x9 x10 x57 : Value) (H : Heap) : Prop :=
  bnd (binV .int .eql x57 (.int .i64 12)) fun v83 =>
  S x1 x5 x7 x8 x9 x10 x57 v83 H
theorem sounderlaw06_SentPlays_g165_e (S : Value → Value → Value → Value → Value → Value → Value → Value → Heap → Prop) (x : Nat → Value) (H : Heap) : wpE tab P sounderlaw06_SentPlays_pi sounderlaw06_SentPlays_c68 (nQ fun l H => S (l.getD 1 undef) (l.getD 5 undef) (l.getD 7 undef) (l.getD 8 undef) (l.getD 9 undef) (l.getD 10 undef) (l.getD 57 undef) (l.getD 80 undef) H) ((List.range 159).map x) H = sounderlaw06_SentPlays_g165 S (x 1) (x 5) (x 7) (x 8) (x 9) (x 10) (x 57) H := by kernel_rfl
def sounderlaw06_SentPlays_g166 (S : Value → Value → Value → Value → Value → Value → Value → Value → Heap → Prop) (x1 x5 x7 x8 x9 x10 x57 : Value) (H : Heap) : Prop :=
  bnd (binV .int .eql x57 (.int .i64 13)) fun v84 =>
  S x1 x5 x7 x8 x9 x10 x57 v84 H
theorem sounderlaw06_SentPlays_g166_e (S : Value → Value → Value → Value → Value → Value → Value → Value → Heap → Prop) (x : Nat → Value) (H : Heap) : wpE tab P sounderlaw06_SentPlays_pi sounderlaw06_SentPlays_c70 (nQ fun l H => S (l.getD 1 undef) (l.getD 5 undef) (l.getD 7 undef) (l.getD 8 undef) (l.getD 9 undef) (l.getD 10 undef) (l.getD 57 undef) (l.getD 80 undef) H) ((List.range 159).map x) H = sounderlaw06_SentPlays_g166 S (x 1) (x 5) (x 7) (x 8) (x 9) (x 10) (x 57) H := by kernel_rfl
def sounderlaw06_SentPlays_s139 (x1 x5 x7 x8 x9 x10 x57 x62 : Value) (K1 : Value → Value → Value → Value → Value →  Heap → Prop) (R : Value → Heap → Prop) (H : Heap) : Prop :=
  brV x62
  (sounderlaw06_SentPlays_g140 (fun x1 x5 x7 x8 x9 x10 x79 H => brV x79
  (sounderlaw06_SentPlays_g141 (fun x4 H => R x4 H) H)
  (sounderlaw06_SentPlays_s128 x1 x5 x7 x8 x9 x10 K1 R H)) x1 x5 x7 x8 x9 x10 H)
  (sounderlaw06_SentPlays_g163 (fun x1 x5 x7 x8 x9 x10 x57 x80 H => brV x80
  (sounderlaw06_SentPlays_s142 x1 x5 x7 x8 x9 x10 x57 x80 K1 R H)
  (sounderlaw06_SentPlays_g164 (fun x1 x5 x7 x8 x9 x10 x57 x80 H => brV x80
  (sounderlaw06_SentPlays_s142 x1 x5 x7 x8 x9 x10 x57 x80 K1 R H)
  (sounderlaw06_SentPlays_g165 (fun x1 x5 x7 x8 x9 x10 x57 x80 H => brV x80
  (sounderlaw06_SentPlays_s142 x1 x5 x7 x8 x9 x10 x57 x80 K1 R H)
  (sounderlaw06_SentPlays_g166 (fun x1 x5 x7 x8 x9 x10 x57 x80 H => sounderlaw06_SentPlays_s142 x1 x5 x7 x8 x9 x10 x57 x80 K1 R H) x1 x5 x7 x8 x9 x10 x57 H)) x1 x5 x7 x8 x9 x10 x57 H)) x1 x5 x7 x8 x9 x10 x57 H)) x1 x5 x7 x8 x9 x10 x57 H)
theorem sounderlaw06_SentPlays_s139_i (K1 : Value → Value → Value → Value → Value →  Heap → Prop) (R : Value → Heap → Prop) (l : List Value) (H : Heap) (hl : l.length = 159) (h : sounderlaw06_SentPlays_s139 (l.getD 1 undef) (l.getD 5 undef) (l.getD 7 undef) (l.getD 8 undef) (l.getD 9 undef) (l.getD 10 undef) (l.getD 57 undef) (l.getD 62 undef) K1 R H) : wpE tab P sounderlaw06_SentPlays_pi sounderlaw06_SentPlays_c54 (sounderlaw06_SentPlays_q160 K1 R) l H := by
  refine condI (c := sounderlaw06_SentPlays_c54) rfl h ?_ ?_
  · clear h; intro h
    refine seqI (c := sounderlaw06_SentPlays_c55) rfl ?_
    refine regI hl (Eq.mpr (sounderlaw06_SentPlays_g140_e _ (fun i => l.getD i undef) _) h) ?_
    clear h hl
    intro l H hl h
    refine thenN ?_
    refine condI (c := sounderlaw06_SentPlays_c57) rfl h ?_ ?_
    · clear h; intro h
      refine seqI (c := sounderlaw06_SentPlays_c58) rfl ?_
      refine regI hl (Eq.mpr (sounderlaw06_SentPlays_g141_e _ (fun i => l.getD i undef) _) h) ?_
      clear h hl
      intro l H hl h
      refine thenN ?_
      refine retI rfl ?_
      refine blkR ?_
      refine thenR ?_
      refine blkR ?_
      refine thenR ?_
      refine thenR ?_
      refine blkR ?_
      refine thenR ?_
      exact h
    · clear h; intro h
      refine skipI rfl ?_
      refine blkN ?_
      refine thenN ?_
      exact sounderlaw06_SentPlays_s128_i K1 R l H hl h
  · clear h; intro h
    refine seqI (c := sounderlaw06_SentPlays_c60) rfl ?_
    refine seqI (c := sounderlaw06_SentPlays_c61) rfl ?_
    refine regI hl (Eq.mpr (sounderlaw06_SentPlays_g163_e _ (fun i => l.getD i undef) _) h) ?_
    clear h hl
    intro l H hl h
    refine thenN ?_
    refine condI (c := sounderlaw06_SentPlays_c63) rfl h ?_ ?_
    · clear h; intro h
      refine skipI rfl ?_
      refine thenN ?_
      exact sounderlaw06_SentPlays_s142_i K1 R l H hl h
    · clear h; intro h
      refine seqI (c := sounderlaw06_SentPlays_c64) rfl ?_
      refine regI hl (Eq.mpr (sounderlaw06_SentPlays_g164_e _ (fun i => l.getD i undef) _) h) ?_
      clear h hl
      intro l H hl h
      refine thenN ?_
      refine condI (c := sounderlaw06_SentPlays_c66) rfl h ?_ ?_
      · clear h; intro h
        refine skipI rfl ?_
        refine thenN ?_
        exact sounderlaw06_SentPlays_s142_i K1 R l H hl h
      · clear h; intro h
        refine seqI (c := sounderlaw06_SentPlays_c67) rfl ?_
        refine regI hl (Eq.mpr (sounderlaw06_SentPlays_g165_e _ (fun i => l.getD i undef) _) h) ?_
        clear h hl
        intro l H hl h
        refine thenN ?_
        refine condI (c := sounderlaw06_SentPlays_c69) rfl h ?_ ?_
        · clear h; intro h
          refine skipI rfl ?_
          refine thenN ?_
          exact sounderlaw06_SentPlays_s142_i K1 R l H hl h
        · clear h; intro h
          refine regI hl (Eq.mpr (sounderlaw06_SentPlays_g166_e _ (fun i => l.getD i undef) _) h) ?_
          clear h hl
          intro l H hl h
          refine thenN ?_
          exact sounderlaw06_SentPlays_s142_i K1 R l H hl h
def sounderlaw06_SentPlays_g167 (S : Value → Value → Value → Value → Value → Value → Value → Value → Heap → Prop) (x1 x5 x7 x8 x9 x10 x57 : Value) (H : Heap) : Prop :=
  bnd (binV .int .eql x57 (.int .i64 0)) fun v63 =>
  S x1 x5 x7 x8 x9 x10 x57 v63 H
theorem sounderlaw06_SentPlays_g167_e (S : Value → Value → Value → Value → Value → Value → Value → Value → Heap → Prop) (x : Nat → Value) (H : Heap) : wpE tab P sounderlaw06_SentPlays_pi sounderlaw06_SentPlays_c33 (nQ fun l H => S (l.getD 1 undef) (l.getD 5 undef) (l.getD 7 undef) (l.getD 8 undef) (l.getD 9 undef) (l.getD 10 undef) (l.getD 57 undef) (l.getD 62 undef) H) ((List.range 159).map x) H = sounderlaw06_SentPlays_g167 S (x 1) (x 5) (x 7) (x 8) (x 9) (x 10) (x 57) H := by kernel_rfl
def sounderlaw06_SentPlays_g168 (S : Value → Value → Value → Value → Value → Value → Value → Value → Heap → Prop) (x1 x5 x7 x8 x9 x10 x57 : Value) (H : Heap) : Prop :=
  bnd (binV .int .eql x57 (.int .i64 1)) fun v64 =>
  S x1 x5 x7 x8 x9 x10 x57 v64 H
theorem sounderlaw06_SentPlays_g168_e (S : Value → Value → Value → Value → Value → Value → Value → Value → Heap → Prop) (x : Nat → Value) (H : Heap) : wpE tab P sounderlaw06_SentPlays_pi sounderlaw06_SentPlays_c36 (nQ fun l H => S (l.getD 1 undef) (l.getD 5 undef) (l.getD 7 undef) (l.getD 8 undef) (l.getD 9 undef) (l.getD 10 undef) (l.getD 57 undef) (l.getD 62 undef) H) ((List.range 159).map x) H = sounderlaw06_SentPlays_g168 S (x 1) (x 5) (x 7) (x 8) (x 9) (x 10) (x 57) H := by kernel_rfl
def sounderlaw06_SentPlays_g169 (S : Value → Value → Value → Value → Value → Value → Value → Value → Heap → Prop) (x1 x5 x7 x8 x9 x10 x57 : Value) (H : Heap) : Prop :=
  bnd (binV .int .eql x57 (.int .i64 2)) fun v65 =>
  S x1 x5 x7 x8 x9 x10 x57 v65 H
theorem sounderlaw06_SentPlays_g169_e (S : Value → Value → Value → Value → Value → Value → Value → Value → Heap → Prop) (x : Nat → Value) (H : Heap) : wpE tab P sounderlaw06_SentPlays_pi sounderlaw06_SentPlays_c39 (nQ fun l H => S (l.getD 1 undef) (l.getD 5 undef) (l.getD 7 undef) (l.getD 8 undef) (l.getD 9 undef) (l.getD 10 undef) (l.getD 57 undef) (l.getD 62 undef) H) ((List.range 159).map x) H = sounderlaw06_SentPlays_g169 S (x 1) (x 5) (x 7) (x 8) (x 9) (x 10) (x 57) H := by kernel_rfl
def sounderlaw06_SentPlays_g170 (S : Value → Value → Value → Value → Value → Value → Value → Value → Heap → Prop) (x1 x5 x7 x8 x9 x10 x57 : Value) (H : Heap) : Prop :=
  bnd (binV .int .eql x57 (.int .i64 3)) fun v66 =>
  S x1 x5 x7 x8 x9 x10 x57 v66 H
theorem sounderlaw06_SentPlays_g170_e (S : Value → Value → Value → Value → Value → Value → Value → Value → Heap → Prop) (x : Nat → Value) (H : Heap) : wpE tab P sounderlaw06_SentPlays_pi sounderlaw06_SentPlays_c42 (nQ fun l H => S (l.getD 1 undef) (l.getD 5 undef) (l.getD 7 undef) (l.getD 8 undef) (l.getD 9 undef) (l.getD 10 undef) (l.getD 57 undef) (l.getD 62 undef) H) ((List.range 159).map x) H = sounderlaw06_SentPlays_g170 S (x 1) (x 5) (x 7) (x 8) (x 9) (x 10) (x 57) H := by kernel_rfl
def sounderlaw06_SentPlays_g171 (S : Value → Value → Value → Value → Value → Value → Value → Value → Heap → Prop) (x1 x5 x7 x8 x9 x10 x57 : Value) (H : Heap) : Prop :=
  bnd (binV .int .eql x57 (.int .i64 8)) fun v67 =>
  S x1 x5 x7 x8 x9 x10 x57 v67 H
theorem sounderlaw06_SentPlays_g171_e (S : Value → Value → Value → Value → Value → Value → Value → Value → Heap → Prop) (x : Nat → Value) (H : Heap) : wpE tab P sounderlaw06_SentPlays_pi sounderlaw06_SentPlays_c45 (nQ fun l H => S (l.getD 1 undef) (l.getD 5 undef) (l.getD 7 undef) (l.getD 8 undef) (l.getD 9 undef) (l.getD 10 undef) (l.getD 57 undef) (l.getD 62 undef) H) ((List.range 159).map x) H = sounderlaw06_SentPlays_g171 S (x 1) (x 5) (x 7) (x 8) (x 9) (x 10) (x 57) H := by kernel_rfl
def sounderlaw06_SentPlays_g172 (S : Value → Value → Value → Value → Value → Value → Value → Value → Heap → Prop) (x1 x5 x7 x8 x9 x10 x57 : Value) (H : Heap) : Prop :=
  bnd (binV .int .eql x57 (.int .i64 9)) fun v68 =>
  S x1 x5 x7 x8 x9 x10 x57 v68 H
theorem sounderlaw06_SentPlays_g172_e (S : Value → Value → Value → Value → Value → Value → Value → Value → Heap → Prop) (x : Nat → Value) (H : Heap) : wpE tab P sounderlaw06_SentPlays_pi sounderlaw06_SentPlays_c48 (nQ fun l H => S (l.getD 1 undef) (l.getD 5 undef) (l.getD 7 undef) (l.getD 8 undef) (l.getD 9 undef) (l.getD 10 undef) (l.getD 57 undef) (l.getD 62 undef) H) ((List.range 159).map x) H = sounderlaw06_SentPlays_g172 S (x 1) (x 5) (x 7) (x 8) (x 9) (x 10) (x 57) H := by kernel_rfl
def sounderlaw06_SentPlays_g173 (S : Value → Value → Value → Value → Value → Value → Value → Value → Heap → Prop) (x1 x5 x7 x8 x9 x10 x57 : Value) (H : Heap) : Prop :=
  bnd (binV .int .eql x57 (.int .i64 10)) fun v69 =>
  S x1 x5 x7 x8 x9 x10 x57 v69 H
theorem sounderlaw06_SentPlays_g173_e (S : Value → Value → Value → Value → Value → Value → Value → Value → Heap → Prop) (x : Nat → Value) (H : Heap) : wpE tab P sounderlaw06_SentPlays_pi sounderlaw06_SentPlays_c51 (nQ fun l H => S (l.getD 1 undef) (l.getD 5 undef) (l.getD 7 undef) (l.getD 8 undef) (l.getD 9 undef) (l.getD 10 undef) (l.getD 57 undef) (l.getD 62 undef) H) ((List.range 159).map x) H = sounderlaw06_SentPlays_g173 S (x 1) (x 5) (x 7) (x 8) (x 9) (x 10) (x 57) H := by kernel_rfl
def sounderlaw06_SentPlays_g174 (S : Value → Value → Value → Value → Value → Value → Value → Value → Heap → Prop) (x1 x5 x7 x8 x9 x10 x57 : Value) (H : Heap) : Prop :=
  bnd (binV .int .eql x57 (.int .i64 11)) fun v70 =>
  S x1 x5 x7 x8 x9 x10 x57 v70 H
theorem sounderlaw06_SentPlays_g174_e (S : Value → Value → Value → Value → Value → Value → Value → Value → Heap → Prop) (x : Nat → Value) (H : Heap) : wpE tab P sounderlaw06_SentPlays_pi sounderlaw06_SentPlays_c53 (nQ fun l H => S (l.getD 1 undef) (l.getD 5 undef) (l.getD 7 undef) (l.getD 8 undef) (l.getD 9 undef) (l.getD 10 undef) (l.getD 57 undef) (l.getD 62 undef) H) ((List.range 159).map x) H = sounderlaw06_SentPlays_g174 S (x 1) (x 5) (x 7) (x 8) (x 9) (x 10) (x 57) H := by kernel_rfl
def sounderlaw06_SentPlays_g175 (S : Value → Heap → Prop) (H : Heap) : Prop :=
  EvF P N.sounderlaw06_works #[] H fun v158 H1 =>
  S v158 H1
theorem sounderlaw06_SentPlays_g175_e (S : Value → Heap → Prop) (x : Nat → Value) (H : Heap) : wpE tab P sounderlaw06_SentPlays_pi sounderlaw06_SentPlays_c118 (nQ fun l H => S (l.getD 4 undef) H) ((List.range 159).map x) H = sounderlaw06_SentPlays_g175 S  H := by kernel_rfl
def sounderlaw06_SentPlays_s125 (x1 x5 x7 x8 x9 : Value) (K1 : Value → Value → Value → Value → Value →  Heap → Prop) (R : Value → Heap → Prop) (H : Heap) : Prop :=
  sounderlaw06_SentPlays_g126 (fun x1 x5 x7 x8 x9 x48 H => brV x48
  (sounderlaw06_SentPlays_g127 (fun x1 x5 x7 x8 x9 x10 H => sounderlaw06_SentPlays_g138 (fun x1 x5 x7 x8 x9 x10 x57 H => sounderlaw06_SentPlays_g167 (fun x1 x5 x7 x8 x9 x10 x57 x62 H => brV x62
  (sounderlaw06_SentPlays_s139 x1 x5 x7 x8 x9 x10 x57 x62 K1 R H)
  (sounderlaw06_SentPlays_g168 (fun x1 x5 x7 x8 x9 x10 x57 x62 H => brV x62
  (sounderlaw06_SentPlays_s139 x1 x5 x7 x8 x9 x10 x57 x62 K1 R H)
  (sounderlaw06_SentPlays_g169 (fun x1 x5 x7 x8 x9 x10 x57 x62 H => brV x62
  (sounderlaw06_SentPlays_s139 x1 x5 x7 x8 x9 x10 x57 x62 K1 R H)
  (sounderlaw06_SentPlays_g170 (fun x1 x5 x7 x8 x9 x10 x57 x62 H => brV x62
  (sounderlaw06_SentPlays_s139 x1 x5 x7 x8 x9 x10 x57 x62 K1 R H)
  (sounderlaw06_SentPlays_g171 (fun x1 x5 x7 x8 x9 x10 x57 x62 H => brV x62
  (sounderlaw06_SentPlays_s139 x1 x5 x7 x8 x9 x10 x57 x62 K1 R H)
  (sounderlaw06_SentPlays_g172 (fun x1 x5 x7 x8 x9 x10 x57 x62 H => brV x62
  (sounderlaw06_SentPlays_s139 x1 x5 x7 x8 x9 x10 x57 x62 K1 R H)
  (sounderlaw06_SentPlays_g173 (fun x1 x5 x7 x8 x9 x10 x57 x62 H => brV x62
  (sounderlaw06_SentPlays_s139 x1 x5 x7 x8 x9 x10 x57 x62 K1 R H)
  (sounderlaw06_SentPlays_g174 (fun x1 x5 x7 x8 x9 x10 x57 x62 H => sounderlaw06_SentPlays_s139 x1 x5 x7 x8 x9 x10 x57 x62 K1 R H) x1 x5 x7 x8 x9 x10 x57 H)) x1 x5 x7 x8 x9 x10 x57 H)) x1 x5 x7 x8 x9 x10 x57 H)) x1 x5 x7 x8 x9 x10 x57 H)) x1 x5 x7 x8 x9 x10 x57 H)) x1 x5 x7 x8 x9 x10 x57 H)) x1 x5 x7 x8 x9 x10 x57 H)) x1 x5 x7 x8 x9 x10 x57 H) x1 x5 x7 x8 x9 x10 H) x1 x5 x7 x8 x9 H)
  (sounderlaw06_SentPlays_g175 (fun x4 H => R x4 H) H)) x1 x5 x7 x8 x9 H
theorem sounderlaw06_SentPlays_s125_i (K1 : Value → Value → Value → Value → Value →  Heap → Prop) (R : Value → Heap → Prop) (l : List Value) (H : Heap) (hl : l.length = 159) (h : sounderlaw06_SentPlays_s125 (l.getD 1 undef) (l.getD 5 undef) (l.getD 7 undef) (l.getD 8 undef) (l.getD 9 undef) K1 R H) : wpE tab P sounderlaw06_SentPlays_pi sounderlaw06_SentPlays_c18 (sounderlaw06_SentPlays_q135 K1 R) l H := by
  refine seqI (c := sounderlaw06_SentPlays_c18) rfl ?_
  refine seqI (c := sounderlaw06_SentPlays_c19) rfl ?_
  refine regI hl (Eq.mpr (sounderlaw06_SentPlays_g126_e _ (fun i => l.getD i undef) _) h) ?_
  clear h hl
  intro l H hl h
  refine thenN ?_
  refine condI (c := sounderlaw06_SentPlays_c21) rfl h ?_ ?_
  · clear h; intro h
    refine skipI rfl ?_
    refine thenN ?_
    refine seqI (c := sounderlaw06_SentPlays_c23) rfl ?_
    refine blockI (c := sounderlaw06_SentPlays_c24) rfl ?_
    refine seqI (c := sounderlaw06_SentPlays_c25) rfl ?_
    refine regI hl (Eq.mpr (sounderlaw06_SentPlays_g127_e _ (fun i => l.getD i undef) _) h) ?_
    clear h hl
    intro l H hl h
    refine thenN ?_
    refine seqI (c := sounderlaw06_SentPlays_c27) rfl ?_
    refine seqI (c := sounderlaw06_SentPlays_c28) rfl ?_
    refine regI hl (Eq.mpr (sounderlaw06_SentPlays_g138_e _ (fun i => l.getD i undef) _) h) ?_
    clear h hl
    intro l H hl h
    refine thenN ?_
    refine blockI (c := sounderlaw06_SentPlays_c30) rfl ?_
    refine seqI (c := sounderlaw06_SentPlays_c31) rfl ?_
    refine seqI (c := sounderlaw06_SentPlays_c32) rfl ?_
    refine regI hl (Eq.mpr (sounderlaw06_SentPlays_g167_e _ (fun i => l.getD i undef) _) h) ?_
    clear h hl
    intro l H hl h
    refine thenN ?_
    refine condI (c := sounderlaw06_SentPlays_c34) rfl h ?_ ?_
    · clear h; intro h
      refine skipI rfl ?_
      refine thenN ?_
      exact sounderlaw06_SentPlays_s139_i K1 R l H hl h
    · clear h; intro h
      refine seqI (c := sounderlaw06_SentPlays_c35) rfl ?_
      refine regI hl (Eq.mpr (sounderlaw06_SentPlays_g168_e _ (fun i => l.getD i undef) _) h) ?_
      clear h hl
      intro l H hl h
      refine thenN ?_
      refine condI (c := sounderlaw06_SentPlays_c37) rfl h ?_ ?_
      · clear h; intro h
        refine skipI rfl ?_
        refine thenN ?_
        exact sounderlaw06_SentPlays_s139_i K1 R l H hl h
      · clear h; intro h
        refine seqI (c := sounderlaw06_SentPlays_c38) rfl ?_
        refine regI hl (Eq.mpr (sounderlaw06_SentPlays_g169_e _ (fun i => l.getD i undef) _) h) ?_
        clear h hl
        intro l H hl h
        refine thenN ?_
        refine condI (c := sounderlaw06_SentPlays_c40) rfl h ?_ ?_
        · clear h; intro h
          refine skipI rfl ?_
          refine thenN ?_
          exact sounderlaw06_SentPlays_s139_i K1 R l H hl h
        · clear h; intro h
          refine seqI (c := sounderlaw06_SentPlays_c41) rfl ?_
          refine regI hl (Eq.mpr (sounderlaw06_SentPlays_g170_e _ (fun i => l.getD i undef) _) h) ?_
          clear h hl
          intro l H hl h
          refine thenN ?_
          refine condI (c := sounderlaw06_SentPlays_c43) rfl h ?_ ?_
          · clear h; intro h
            refine skipI rfl ?_
            refine thenN ?_
            exact sounderlaw06_SentPlays_s139_i K1 R l H hl h
          · clear h; intro h
            refine seqI (c := sounderlaw06_SentPlays_c44) rfl ?_
            refine regI hl (Eq.mpr (sounderlaw06_SentPlays_g171_e _ (fun i => l.getD i undef) _) h) ?_
            clear h hl
            intro l H hl h
            refine thenN ?_
            refine condI (c := sounderlaw06_SentPlays_c46) rfl h ?_ ?_
            · clear h; intro h
              refine skipI rfl ?_
              refine thenN ?_
              exact sounderlaw06_SentPlays_s139_i K1 R l H hl h
            · clear h; intro h
              refine seqI (c := sounderlaw06_SentPlays_c47) rfl ?_
              refine regI hl (Eq.mpr (sounderlaw06_SentPlays_g172_e _ (fun i => l.getD i undef) _) h) ?_
              clear h hl
              intro l H hl h
              refine thenN ?_
              refine condI (c := sounderlaw06_SentPlays_c49) rfl h ?_ ?_
              · clear h; intro h
                refine skipI rfl ?_
                refine thenN ?_
                exact sounderlaw06_SentPlays_s139_i K1 R l H hl h
              · clear h; intro h
                refine seqI (c := sounderlaw06_SentPlays_c50) rfl ?_
                refine regI hl (Eq.mpr (sounderlaw06_SentPlays_g173_e _ (fun i => l.getD i undef) _) h) ?_
                clear h hl
                intro l H hl h
                refine thenN ?_
                refine condI (c := sounderlaw06_SentPlays_c52) rfl h ?_ ?_
                · clear h; intro h
                  refine skipI rfl ?_
                  refine thenN ?_
                  exact sounderlaw06_SentPlays_s139_i K1 R l H hl h
                · clear h; intro h
                  refine regI hl (Eq.mpr (sounderlaw06_SentPlays_g174_e _ (fun i => l.getD i undef) _) h) ?_
                  clear h hl
                  intro l H hl h
                  refine thenN ?_
                  exact sounderlaw06_SentPlays_s139_i K1 R l H hl h
  · clear h; intro h
    refine exitI (c := sounderlaw06_SentPlays_c22) rfl ?_
    refine thenX ?_
    refine thenX ?_
    refine blkX ?_
    refine thenN ?_
    refine seqI (c := sounderlaw06_SentPlays_c117) rfl ?_
    refine regI hl (Eq.mpr (sounderlaw06_SentPlays_g175_e _ (fun i => l.getD i undef) _) h) ?_
    clear h hl
    intro l H hl h
    refine thenN ?_
    refine retI rfl ?_
    exact h
def sounderlaw06_SentPlays_l176 (x1 x5 x7 x8 x9 : Value) (R : Value → Heap → Prop) (H : Heap) : Prop :=
  ∃ (I : Value → Value → Heap → Prop) (μ : Value → Value → Heap → Nat), I x5 x9 H ∧ ∀ (y5 : Value) (y9 : Value) (H : Heap), I y5 y9 H → sounderlaw06_SentPlays_s125 x1 y5 x7 x8 y9 (fun z1 z5 z7 z8 z9 H' => z1 = x1 ∧ z7 = x7 ∧ z8 = x8 ∧ (I z5 z9 H' ∧ μ z5 z9 H' < μ y5 y9 H)) R H
def sounderlaw06_SentPlays (x0 x1 : Value) (R : Value → Heap → Prop) (H : Heap) : Prop :=
  sounderlaw06_SentPlays_g119 (fun x0 x1 H => sounderlaw06_SentPlays_g120 (fun x0 x1 x5 x6 H => sounderlaw06_SentPlays_g121 (fun x1 x5 x6 x7 x8 H => sounderlaw06_SentPlays_g122 (fun x1 x5 x7 x8 x36 H => brV x36
  (sounderlaw06_SentPlays_g123 (fun x4 H => R x4 H) H)
  (sounderlaw06_SentPlays_g124 (fun x1 x5 x7 x8 x9 H => sounderlaw06_SentPlays_l176 x1 x5 x7 x8 x9 R H) x1 x5 x7 x8 H)) x1 x5 x6 x7 x8 H) x0 x1 x5 x6 H) x0 x1 H) x0 x1 H
theorem sounderlaw06_SentPlays_i (R : Value → Heap → Prop) (x0 x1 : Value) (H : Heap) (h : sounderlaw06_SentPlays x0 x1 R H) : wpE tab P sounderlaw06_SentPlays_pi sounderlaw06_SentPlays_c1 (retQ tab sounderlaw06_SentPlays_rs R) [x0, x1, undef, undef, undef, undef, undef, undef, undef, undef, undef, undef, undef, undef, undef, undef, undef, undef, undef, undef, undef, undef, undef, undef, undef, undef, undef, undef, undef, undef, undef, undef, undef, undef, undef, undef, undef, undef, undef, undef, undef, undef, undef, undef, undef, undef, undef, undef, undef, undef, undef, undef, undef, undef, undef, undef, undef, undef, undef, undef, undef, undef, undef, undef, undef, undef, undef, undef, undef, undef, undef, undef, undef, undef, undef, undef, undef, undef, undef, undef, undef, undef, undef, undef, undef, undef, undef, undef, undef, undef, undef, undef, undef, undef, undef, undef, undef, undef, undef, undef, undef, undef, undef, undef, undef, undef, undef, undef, undef, undef, undef, undef, undef, undef, undef, undef, undef, undef, undef, undef, undef, undef, undef, undef, undef, undef, undef, undef, undef, undef, undef, undef, undef, undef, undef, undef, undef, undef, undef, undef, undef, undef, undef, undef, undef, undef, undef, undef, undef, undef, undef, undef, undef, undef, undef, undef, undef, undef, undef] H := by
  obtain ⟨l, hl, el⟩ : ∃ l : List Value, l.length = 159 ∧ l = [x0, x1, undef, undef, undef, undef, undef, undef, undef, undef, undef, undef, undef, undef, undef, undef, undef, undef, undef, undef, undef, undef, undef, undef, undef, undef, undef, undef, undef, undef, undef, undef, undef, undef, undef, undef, undef, undef, undef, undef, undef, undef, undef, undef, undef, undef, undef, undef, undef, undef, undef, undef, undef, undef, undef, undef, undef, undef, undef, undef, undef, undef, undef, undef, undef, undef, undef, undef, undef, undef, undef, undef, undef, undef, undef, undef, undef, undef, undef, undef, undef, undef, undef, undef, undef, undef, undef, undef, undef, undef, undef, undef, undef, undef, undef, undef, undef, undef, undef, undef, undef, undef, undef, undef, undef, undef, undef, undef, undef, undef, undef, undef, undef, undef, undef, undef, undef, undef, undef, undef, undef, undef, undef, undef, undef, undef, undef, undef, undef, undef, undef, undef, undef, undef, undef, undef, undef, undef, undef, undef, undef, undef, undef, undef, undef, undef, undef, undef, undef, undef, undef, undef, undef, undef, undef, undef, undef, undef, undef] := ⟨_, rfl, rfl⟩
  rw [← el]
  have h : (fun (x0 x1 : Value) => sounderlaw06_SentPlays_g119 (fun x0 x1 H => sounderlaw06_SentPlays_g120 (fun x0 x1 x5 x6 H => sounderlaw06_SentPlays_g121 (fun x1 x5 x6 x7 x8 H => sounderlaw06_SentPlays_g122 (fun x1 x5 x7 x8 x36 H => brV x36
(sounderlaw06_SentPlays_g123 (fun x4 H => R x4 H) H)
(sounderlaw06_SentPlays_g124 (fun x1 x5 x7 x8 x9 H => sounderlaw06_SentPlays_l176 x1 x5 x7 x8 x9 R H) x1 x5 x7 x8 H)) x1 x5 x6 x7 x8 H) x0 x1 x5 x6 H) x0 x1 H) x0 x1 H) (l.getD 0 undef) (l.getD 1 undef) := by rw [el]; exact h
  clear el
  refine seqI (c := sounderlaw06_SentPlays_c1) rfl ?_
  refine regI hl (Eq.mpr (sounderlaw06_SentPlays_g119_e _ (fun i => l.getD i undef) _) h) ?_
  clear h hl
  intro l H hl h
  refine thenN ?_
  refine seqI (c := sounderlaw06_SentPlays_c3) rfl ?_
  refine regI hl (Eq.mpr (sounderlaw06_SentPlays_g120_e _ (fun i => l.getD i undef) _) h) ?_
  clear h hl
  intro l H hl h
  refine thenN ?_
  refine seqI (c := sounderlaw06_SentPlays_c5) rfl ?_
  refine regI hl (Eq.mpr (sounderlaw06_SentPlays_g121_e _ (fun i => l.getD i undef) _) h) ?_
  clear h hl
  intro l H hl h
  refine thenN ?_
  refine seqI (c := sounderlaw06_SentPlays_c7) rfl ?_
  refine seqI (c := sounderlaw06_SentPlays_c8) rfl ?_
  refine regI hl (Eq.mpr (sounderlaw06_SentPlays_g122_e _ (fun i => l.getD i undef) _) h) ?_
  clear h hl
  intro l H hl h
  refine thenN ?_
  refine condI (c := sounderlaw06_SentPlays_c10) rfl h ?_ ?_
  · clear h; intro h
    refine seqI (c := sounderlaw06_SentPlays_c11) rfl ?_
    refine regI hl (Eq.mpr (sounderlaw06_SentPlays_g123_e _ (fun i => l.getD i undef) _) h) ?_
    clear h hl
    intro l H hl h
    refine thenN ?_
    refine retI rfl ?_
    refine thenR ?_
    exact h
  · clear h; intro h
    refine skipI rfl ?_
    refine thenN ?_
    refine seqI (c := sounderlaw06_SentPlays_c13) rfl ?_
    refine seqI (c := sounderlaw06_SentPlays_c14) rfl ?_
    refine regI hl (Eq.mpr (sounderlaw06_SentPlays_g124_e _ (fun i => l.getD i undef) _) h) ?_
    clear h hl
    intro l H hl h
    refine thenN ?_
    refine blockI (c := sounderlaw06_SentPlays_c16) rfl ?_
    obtain ⟨I, μ, h0, hr⟩ := h
    refine loopI (c := sounderlaw06_SentPlays_c17) rfl (fun l' H' => l'.getD 1 undef = l.getD 1 undef ∧ l'.getD 7 undef = l.getD 7 undef ∧ l'.getD 8 undef = l.getD 8 undef ∧ I (l'.getD 5 undef) (l'.getD 9 undef) H') (fun l' H' => μ (l'.getD 5 undef) (l'.getD 9 undef) H') hl ⟨rfl, rfl, rfl, h0⟩ ?_
    rintro l1 H1 hl1 ⟨e1, e7, e8, hI⟩
    have hb := hr (l1.getD 5 undef) (l1.getD 9 undef) H1 hI
    rw [← e1, ← e7, ← e8] at hb
    refine wpE_mono _ l1 H1 hl1 ?_ (sounderlaw06_SentPlays_s125_i _ R l1 H1 hl1 hb)
    intro e l2 H2 hl2 hq
    cases e with
    | normal => exact fun _ => (by obtain ⟨d1, d7, d8, g1, g2⟩ := hq; exact ⟨⟨d1.trans e1, d7.trans e7, d8.trans e8, g1⟩, g2⟩)
    | _ => exact hq
theorem sounderlaw06_SentPlays_ok : okB sounderlaw06_SentPlays_pi sounderlaw06_SentPlays_c1 = true := by kernel_rfl
theorem sounderlaw06_SentPlays_ev (x0 x1 : Value) (R : Value → Heap → Prop) (H : Heap) (h : sounderlaw06_SentPlays x0 x1 R H) : EvF P N.sounderlaw06_SentPlays #[x0, x1] H R :=
  EvF_intro (args := [x0, x1]) (k := 157) (rs := sounderlaw06_SentPlays_rs) tab_ok mixed Try.func7 (show Try.f7.body = some sounderlaw06_SentPlays_c1 by kernel_rfl) Try.call7 Try.ntmps7 (by kernel_rfl) (okCode_of _ sounderlaw06_SentPlays_ok) rfl (sounderlaw06_SentPlays_i R x0 x1 H h)
end Go.Hc
