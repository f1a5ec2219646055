/- Functions, printed by gen.py. -/
import Derived.Test.YtbchcnmghcmaoaaT
set_option linter.unusedSimpArgs false
set_option linter.unusedVariables false
set_option maxRecDepth 100000
namespace Go.Hc
open Go Go.Proofs
/- 38: slices.Replace[[]sounder/api.Range,sounder/api.Range] -/
def z38_rs : List ResultVar := [.tmp 8]
noncomputable def z38_c2 : Code := subC (bodyC Try.f38) [0]
noncomputable def z38_c4 : Code := subC (bodyC Try.f38) [1, 0]
noncomputable def z38_c7 : Code := subC (bodyC Try.f38) [1, 1, 0, 0]
noncomputable def z38_c10 : Code := subC (bodyC Try.f38) [1, 1, 0, 1, 0, 0]
noncomputable def z38_c9 : Code := .seq z38_c10 Code.ret
noncomputable def z38_c8 : Code := .cond (.tmp 21) z38_c9 Code.skip
noncomputable def z38_c6 : Code := .seq z38_c7 z38_c8
noncomputable def z38_c13 : Code := subC (bodyC Try.f38) [1, 1, 1, 0, 0]
noncomputable def z38_c16 : Code := subC (bodyC Try.f38) [1, 1, 1, 0, 1, 0, 0]
noncomputable def z38_c19 : Code := subC (bodyC Try.f38) [1, 1, 1, 0, 1, 0, 1, 0, 0]
noncomputable def z38_c21 : Code := subC (bodyC Try.f38) [1, 1, 1, 0, 1, 0, 1, 0, 1, 0]
noncomputable def z38_c20 : Code := .cond (.tmp 39) z38_c21 Code.skip
noncomputable def z38_c18 : Code := .seq z38_c19 z38_c20
noncomputable def z38_c23 : Code := subC (bodyC Try.f38) [1, 1, 1, 0, 1, 0, 1, 1, 0]
noncomputable def z38_c22 : Code := .seq z38_c23 Code.ret
noncomputable def z38_c17 : Code := .seq z38_c18 z38_c22
noncomputable def z38_c15 : Code := .seq z38_c16 z38_c17
noncomputable def z38_c14 : Code := .cond (.tmp 29) z38_c15 Code.skip
noncomputable def z38_c12 : Code := .seq z38_c13 z38_c14
noncomputable def z38_c25 : Code := subC (bodyC Try.f38) [1, 1, 1, 1, 0]
noncomputable def z38_c28 : Code := subC (bodyC Try.f38) [1, 1, 1, 1, 1, 0, 0]
noncomputable def z38_c31 : Code := subC (bodyC Try.f38) [1, 1, 1, 1, 1, 0, 1, 0, 0]
noncomputable def z38_c33 : Code := subC (bodyC Try.f38) [1, 1, 1, 1, 1, 0, 1, 0, 1, 0]
noncomputable def z38_c35 : Code := subC (bodyC Try.f38) [1, 1, 1, 1, 1, 0, 1, 0, 1, 1, 0]
noncomputable def z38_c37 : Code := subC (bodyC Try.f38) [1, 1, 1, 1, 1, 0, 1, 0, 1, 1, 1, 0]
noncomputable def z38_c36 : Code := .seq z38_c37 Code.ret
noncomputable def z38_c34 : Code := .seq z38_c35 z38_c36
noncomputable def z38_c32 : Code := .seq z38_c33 z38_c34
noncomputable def z38_c30 : Code := .seq z38_c31 z38_c32
noncomputable def z38_c29 : Code := .cond (.tmp 60) z38_c30 Code.skip
noncomputable def z38_c27 : Code := .seq z38_c28 z38_c29
noncomputable def z38_c39 : Code := subC (bodyC Try.f38) [1, 1, 1, 1, 1, 1, 0]
noncomputable def z38_c42 : Code := subC (bodyC Try.f38) [1, 1, 1, 1, 1, 1, 1, 0, 0]
noncomputable def z38_c45 : Code := subC (bodyC Try.f38) [1, 1, 1, 1, 1, 1, 1, 0, 1, 0, 0]
noncomputable def z38_c47 : Code := subC (bodyC Try.f38) [1, 1, 1, 1, 1, 1, 1, 0, 1, 0, 1, 0]
noncomputable def z38_c49 : Code := subC (bodyC Try.f38) [1, 1, 1, 1, 1, 1, 1, 0, 1, 0, 1, 1, 0]
noncomputable def z38_c51 : Code := subC (bodyC Try.f38) [1, 1, 1, 1, 1, 1, 1, 0, 1, 0, 1, 1, 1, 0]
noncomputable def z38_c50 : Code := .seq z38_c51 Code.ret
noncomputable def z38_c48 : Code := .seq z38_c49 z38_c50
noncomputable def z38_c46 : Code := .seq z38_c47 z38_c48
noncomputable def z38_c44 : Code := .seq z38_c45 z38_c46
noncomputable def z38_c43 : Code := .cond (.tmp 92) z38_c44 Code.skip
noncomputable def z38_c41 : Code := .seq z38_c42 z38_c43
noncomputable def z38_c54 : Code := subC (bodyC Try.f38) [1, 1, 1, 1, 1, 1, 1, 1, 0, 0]
noncomputable def z38_c57 : Code := subC (bodyC Try.f38) [1, 1, 1, 1, 1, 1, 1, 1, 0, 1, 0, 0]
noncomputable def z38_c59 : Code := subC (bodyC Try.f38) [1, 1, 1, 1, 1, 1, 1, 1, 0, 1, 0, 1, 0]
noncomputable def z38_c61 : Code := subC (bodyC Try.f38) [1, 1, 1, 1, 1, 1, 1, 1, 0, 1, 0, 1, 1, 0]
noncomputable def z38_c60 : Code := .seq z38_c61 Code.ret
noncomputable def z38_c58 : Code := .seq z38_c59 z38_c60
noncomputable def z38_c56 : Code := .seq z38_c57 z38_c58
noncomputable def z38_c55 : Code := .cond (.tmp 120) z38_c56 Code.skip
noncomputable def z38_c53 : Code := .seq z38_c54 z38_c55
noncomputable def z38_c63 : Code := subC (bodyC Try.f38) [1, 1, 1, 1, 1, 1, 1, 1, 1, 0]
noncomputable def z38_c66 : Code := subC (bodyC Try.f38) [1, 1, 1, 1, 1, 1, 1, 1, 1, 1, 0, 0]
noncomputable def z38_c69 : Code := subC (bodyC Try.f38) [1, 1, 1, 1, 1, 1, 1, 1, 1, 1, 0, 1, 0, 0]
noncomputable def z38_c71 : Code := subC (bodyC Try.f38) [1, 1, 1, 1, 1, 1, 1, 1, 1, 1, 0, 1, 0, 1, 0]
noncomputable def z38_c73 : Code := subC (bodyC Try.f38) [1, 1, 1, 1, 1, 1, 1, 1, 1, 1, 0, 1, 0, 1, 1, 0]
noncomputable def z38_c75 : Code := subC (bodyC Try.f38) [1, 1, 1, 1, 1, 1, 1, 1, 1, 1, 0, 1, 0, 1, 1, 1, 0]
noncomputable def z38_c74 : Code := .seq z38_c75 Code.ret
noncomputable def z38_c72 : Code := .seq z38_c73 z38_c74
noncomputable def z38_c70 : Code := .seq z38_c71 z38_c72
noncomputable def z38_c68 : Code := .seq z38_c69 z38_c70
noncomputable def z38_c67 : Code := .cond (.tmp 149) z38_c68 Code.skip
noncomputable def z38_c65 : Code := .seq z38_c66 z38_c67
noncomputable def z38_c78 : Code := subC (bodyC Try.f38) [1, 1, 1, 1, 1, 1, 1, 1, 1, 1, 1, 0, 0]
noncomputable def z38_c81 : Code := subC (bodyC Try.f38) [1, 1, 1, 1, 1, 1, 1, 1, 1, 1, 1, 0, 1, 0, 0]
noncomputable def z38_c83 : Code := subC (bodyC Try.f38) [1, 1, 1, 1, 1, 1, 1, 1, 1, 1, 1, 0, 1, 0, 1, 0]
noncomputable def z38_c85 : Code := subC (bodyC Try.f38) [1, 1, 1, 1, 1, 1, 1, 1, 1, 1, 1, 0, 1, 0, 1, 1, 0]
noncomputable def z38_c87 : Code := subC (bodyC Try.f38) [1, 1, 1, 1, 1, 1, 1, 1, 1, 1, 1, 0, 1, 0, 1, 1, 1, 0]
noncomputable def z38_c86 : Code := .seq z38_c87 Code.ret
noncomputable def z38_c84 : Code := .seq z38_c85 z38_c86
noncomputable def z38_c82 : Code := .seq z38_c83 z38_c84
noncomputable def z38_c80 : Code := .seq z38_c81 z38_c82
noncomputable def z38_c79 : Code := .cond (.tmp 178) z38_c80 Code.skip
noncomputable def z38_c77 : Code := .seq z38_c78 z38_c79
noncomputable def z38_c89 : Code := subC (bodyC Try.f38) [1, 1, 1, 1, 1, 1, 1, 1, 1, 1, 1, 1, 0]
noncomputable def z38_c91 : Code := subC (bodyC Try.f38) [1, 1, 1, 1, 1, 1, 1, 1, 1, 1, 1, 1, 1, 0]
noncomputable def z38_c93 : Code := subC (bodyC Try.f38) [1, 1, 1, 1, 1, 1, 1, 1, 1, 1, 1, 1, 1, 1, 0]
noncomputable def z38_c95 : Code := subC (bodyC Try.f38) [1, 1, 1, 1, 1, 1, 1, 1, 1, 1, 1, 1, 1, 1, 1, 0]
noncomputable def z38_c94 : Code := .seq z38_c95 Code.ret
noncomputable def z38_c92 : Code := .seq z38_c93 z38_c94
noncomputable def z38_c90 : Code := .seq z38_c91 z38_c92
noncomputable def z38_c88 : Code := .seq z38_c89 z38_c90
noncomputable def z38_c76 : Code := .seq z38_c77 z38_c88
noncomputable def z38_c64 : Code := .seq z38_c65 z38_c76
noncomputable def z38_c62 : Code := .seq z38_c63 z38_c64
noncomputable def z38_c52 : Code := .seq z38_c53 z38_c62
noncomputable def z38_c40 : Code := .seq z38_c41 z38_c52
noncomputable def z38_c38 : Code := .seq z38_c39 z38_c40
noncomputable def z38_c26 : Code := .seq z38_c27 z38_c38
noncomputable def z38_c24 : Code := .seq z38_c25 z38_c26
noncomputable def z38_c11 : Code := .seq z38_c12 z38_c24
noncomputable def z38_c5 : Code := .seq z38_c6 z38_c11
noncomputable def z38_c3 : Code := .seq z38_c4 z38_c5
noncomputable def z38_c1 : Code := .seq z38_c2 z38_c3
def z38_pi (i : Nat) : Pl := match i with
  | 9 => (ones [0, 1, 2, 3, 4, 5, 6, 7, 8, 9, 10, 11, 12] .nil)
  | 13 => (ones [0, 1, 2, 3, 4, 5, 6, 7, 8, 9] .nil)
  | 18 => (ones [0, 1, 2, 3, 4, 5, 6, 7, 8, 9] .nil)
  | 22 => (ones [0, 1, 2, 3, 4, 5, 6, 7, 8, 9] .nil)
  | 27 => (ones [0, 1, 2, 3, 4, 5, 6, 7] .nil)
  | 28 => (ones [0, 1, 2, 3, 4, 5, 6, 7] .nil)
  | 32 => (ones [0, 1, 2, 3, 4, 5, 6, 7] .nil)
  | 33 => (ones [0, 1, 2, 3, 4, 5, 6, 7] .nil)
  | 38 => (ones [0, 1, 2, 3, 4, 5, 6, 7, 8, 9, 10, 11] .nil)
  | _ => .nil
def z38_g96 (S : Value → Value → Value → Value → Heap → Prop) (x0 x1 x2 x3 : Value) (H : Heap) : Prop :=
  S x0 x1 x2 x3 H
theorem z38_g96_e (S : Value → Value → Value → Value → Heap → Prop) (x : Nat → Value) (H : Heap) : wpE tab P z38_pi z38_c2 (nQ fun l H => S (l.getD 0 undef) (l.getD 1 undef) (l.getD 2 undef) (l.getD 3 undef) H) ((List.range 224).map x) H = z38_g96 S (x 0) (x 1) (x 2) (x 3) H := by kernel_rfl
def z38_g97 (S : Value → Value → Value → Value → Heap → Prop) (x0 x1 x2 x3 : Value) (H : Heap) : Prop :=
  bnd (sliceV 2 x0 (some x1) (some x2)) fun _ =>
  S x0 x1 x2 x3 H
theorem z38_g97_e (S : Value → Value → Value → Value → Heap → Prop) (x : Nat → Value) (H : Heap) : wpE tab P z38_pi z38_c4 (nQ fun l H => S (l.getD 0 undef) (l.getD 1 undef) (l.getD 2 undef) (l.getD 3 undef) H) ((List.range 224).map x) H = z38_g97 S (x 0) (x 1) (x 2) (x 3) H := by kernel_rfl
def z38_g98 (S : Value → Value → Value → Value → Value → Heap → Prop) (x0 x1 x2 x3 : Value) (H : Heap) : Prop :=
  bnd (binV .int .eql x1 x2) fun v21 =>
  S x0 x1 x2 x3 v21 H
theorem z38_g98_e (S : Value → Value → Value → Value → Value → Heap → Prop) (x : Nat → Value) (H : Heap) : wpE tab P z38_pi z38_c7 (nQ fun l H => S (l.getD 0 undef) (l.getD 1 undef) (l.getD 2 undef) (l.getD 3 undef) (l.getD 21 undef) H) ((List.range 224).map x) H = z38_g98 S (x 0) (x 1) (x 2) (x 3) H := by kernel_rfl
def z38_g99 (S : Value → Heap → Prop) (x0 x1 x3 : Value) (H : Heap) : Prop :=
  EvF P N.slices_Insert_Range #[x0, x1, x3] H fun v25 H1 =>
  S v25 H1
theorem z38_g99_e (S : Value → Heap → Prop) (x : Nat → Value) (H : Heap) : wpE tab P z38_pi z38_c10 (nQ fun l H => S (l.getD 8 undef) H) ((List.range 224).map x) H = z38_g99 S (x 0) (x 1) (x 3) H := by kernel_rfl
def z38_g100 (S : Value → Value → Value → Value → Value → Heap → Prop) (x0 x1 x2 x3 : Value) (H : Heap) : Prop :=
  bnd (lenV x0) fun v28 =>
  bnd (binV .int .eql x2 v28) fun v29 =>
  S x0 x1 x2 x3 v29 H
theorem z38_g100_e (S : Value → Value → Value → Value → Value → Heap → Prop) (x : Nat → Value) (H : Heap) : wpE tab P z38_pi z38_c13 (nQ fun l H => S (l.getD 0 undef) (l.getD 1 undef) (l.getD 2 undef) (l.getD 3 undef) (l.getD 29 undef) H) ((List.range 224).map x) H = z38_g100 S (x 0) (x 1) (x 2) (x 3) H := by kernel_rfl
def z38_g101 (S : Value → Value → Heap → Prop) (x0 x1 x3 : Value) (H : Heap) : Prop :=
  bnd (sliceV 2 x0 none (some x1)) fun v32 =>
  appE 45 #[(.int .i64 0), (.int .i64 0)] 2 16 v32 x3 H fun v34 H1 =>
  S x0 v34 H1
theorem z38_g101_e (S : Value → Value → Heap → Prop) (x : Nat → Value) (H : Heap) : wpE tab P z38_pi z38_c16 (nQ fun l H => S (l.getD 0 undef) (l.getD 9 undef) H) ((List.range 224).map x) H = z38_g101 S (x 0) (x 1) (x 3) H := by kernel_rfl
def z38_g103 (S : Value → Heap → Prop) (x9 : Value) (H : Heap) : Prop :=
  S x9 H
theorem z38_g103_e (S : Value → Heap → Prop) (x : Nat → Value) (H : Heap) : wpE tab P z38_pi z38_c23 (nQ fun l H => S (l.getD 8 undef) H) ((List.range 224).map x) H = z38_g103 S (x 9) H := by kernel_rfl
def z38_s102 (x9 : Value) (R : Value → Heap → Prop) (H : Heap) : Prop :=
  z38_g103 (fun x8 H => R x8 H) x9 H
noncomputable def z38_q104 (R : Value → Heap → Prop) : Exit → List Value → Heap → Prop := (retQ tab z38_rs R)
noncomputable def z38_q105 (R : Value → Heap → Prop) : Exit → List Value → Heap → Prop := (thenE (fun l H => wpE tab P z38_pi z38_c24 (z38_q104 R) l H) (z38_q104 R))
theorem z38_s102_i (R : Value → Heap → Prop) (l : List Value) (H : Heap) (hl : l.length = 224) (h : z38_s102 (l.getD 9 undef) R H) : wpE tab P z38_pi z38_c22 (z38_q105 R) l H := by
  refine seqI (c := z38_c22) rfl ?_
  refine regI hl (Eq.mpr (z38_g103_e _ (fun i => l.getD i undef) _) h) ?_
  clear h hl
  intro l H hl h
  refine thenN ?_
  refine retI rfl ?_
  refine thenR ?_
  exact h
def z38_g106 (S : Value → Value → Value → Heap → Prop) (x0 x9 : Value) (H : Heap) : Prop :=
  bnd (lenV x9) fun v36 =>
  bnd (lenV x0) fun v38 =>
  bnd (binV .int .lss v36 v38) fun v39 =>
  S x0 x9 v39 H
theorem z38_g106_e (S : Value → Value → Value → Heap → Prop) (x : Nat → Value) (H : Heap) : wpE tab P z38_pi z38_c19 (nQ fun l H => S (l.getD 0 undef) (l.getD 9 undef) (l.getD 39 undef) H) ((List.range 224).map x) H = z38_g106 S (x 0) (x 9) H := by kernel_rfl
def z38_g107 (S : Value → Heap → Prop) (x0 x9 : Value) (H : Heap) : Prop :=
  bnd (lenV x9) fun v42 =>
  bnd (sliceV 2 x0 (some v42) none) fun v43 =>
  clrE #[(.int .i64 0), (.int .i64 0)] v43 H fun _ H1 =>
  S x9 H1
theorem z38_g107_e (S : Value → Heap → Prop) (x : Nat → Value) (H : Heap) : wpE tab P z38_pi z38_c21 (nQ fun l H => S (l.getD 9 undef) H) ((List.range 224).map x) H = z38_g107 S (x 0) (x 9) H := by kernel_rfl
def z38_g108 (S : Value → Value → Value → Value → Value → Heap → Prop) (x0 x1 x2 x3 : Value) (H : Heap) : Prop :=
  bnd (sliceV 2 x0 none (some x1)) fun v47 =>
  bnd (lenV v47) fun v48 =>
  bnd (lenV x3) fun v50 =>
  bnd (binV .int .add v48 v50) fun v51 =>
  bnd (sliceV 2 x0 (some x2) none) fun v54 =>
  bnd (lenV v54) fun v55 =>
  bnd (binV .int .add v51 v55) fun v56 =>
  S x0 x1 x2 x3 v56 H
theorem z38_g108_e (S : Value → Value → Value → Value → Value → Heap → Prop) (x : Nat → Value) (H : Heap) : wpE tab P z38_pi z38_c25 (nQ fun l H => S (l.getD 0 undef) (l.getD 1 undef) (l.getD 2 undef) (l.getD 3 undef) (l.getD 10 undef) H) ((List.range 224).map x) H = z38_g108 S (x 0) (x 1) (x 2) (x 3) H := by kernel_rfl
def z38_g109 (S : Value → Value → Value → Value → Value → Value → Heap → Prop) (x0 x1 x2 x3 x10 : Value) (H : Heap) : Prop :=
  bnd (capV x0) fun v59 =>
  bnd (binV .int .gtr x10 v59) fun v60 =>
  S x0 x1 x2 x3 x10 v60 H
theorem z38_g109_e (S : Value → Value → Value → Value → Value → Value → Heap → Prop) (x : Nat → Value) (H : Heap) : wpE tab P z38_pi z38_c28 (nQ fun l H => S (l.getD 0 undef) (l.getD 1 undef) (l.getD 2 undef) (l.getD 3 undef) (l.getD 10 undef) (l.getD 60 undef) H) ((List.range 224).map x) H = z38_g109 S (x 0) (x 1) (x 2) (x 3) (x 10) H := by kernel_rfl
def z38_g110 (S : Value → Value → Value → Value → Value → Heap → Prop) (x0 x1 x2 x3 x10 : Value) (H : Heap) : Prop :=
  bnd (sliceV 2 x0 none (some x1)) fun v63 =>
  bnd (binV .int .sub x10 x1) fun v66 =>
  appZE 45 #[(.int .i64 0), (.int .i64 0)] 2 16 v63 v66 H fun v67 H1 =>
  S x0 x1 x2 x3 v67 H1
theorem z38_g110_e (S : Value → Value → Value → Value → Value → Heap → Prop) (x : Nat → Value) (H : Heap) : wpE tab P z38_pi z38_c31 (nQ fun l H => S (l.getD 0 undef) (l.getD 1 undef) (l.getD 2 undef) (l.getD 3 undef) (l.getD 11 undef) H) ((List.range 224).map x) H = z38_g110 S (x 0) (x 1) (x 2) (x 3) (x 10) H := by kernel_rfl
def z38_g111 (S : Value → Value → Value → Value → Value → Heap → Prop) (x0 x1 x2 x3 x11 : Value) (H : Heap) : Prop :=
  bnd (sliceV 2 x11 (some x1) none) fun v70 =>
  cpyE 2 v70 x3 H fun _ H1 =>
  S x0 x1 x2 x3 x11 H1
theorem z38_g111_e (S : Value → Value → Value → Value → Value → Heap → Prop) (x : Nat → Value) (H : Heap) : wpE tab P z38_pi z38_c33 (nQ fun l H => S (l.getD 0 undef) (l.getD 1 undef) (l.getD 2 undef) (l.getD 3 undef) (l.getD 11 undef) H) ((List.range 224).map x) H = z38_g111 S (x 0) (x 1) (x 2) (x 3) (x 11) H := by kernel_rfl
def z38_g112 (S : Value → Heap → Prop) (x0 x1 x2 x3 x11 : Value) (H : Heap) : Prop :=
  bnd (lenV x3) fun v76 =>
  bnd (binV .int .add x1 v76) fun v77 =>
  bnd (sliceV 2 x11 (some v77) none) fun v78 =>
  bnd (sliceV 2 x0 (some x2) none) fun v81 =>
  cpyE 2 v78 v81 H fun _ H1 =>
  S x11 H1
theorem z38_g112_e (S : Value → Heap → Prop) (x : Nat → Value) (H : Heap) : wpE tab P z38_pi z38_c35 (nQ fun l H => S (l.getD 11 undef) H) ((List.range 224).map x) H = z38_g112 S (x 0) (x 1) (x 2) (x 3) (x 11) H := by kernel_rfl
def z38_g113 (S : Value → Heap → Prop) (x11 : Value) (H : Heap) : Prop :=
  S x11 H
theorem z38_g113_e (S : Value → Heap → Prop) (x : Nat → Value) (H : Heap) : wpE tab P z38_pi z38_c37 (nQ fun l H => S (l.getD 8 undef) H) ((List.range 224).map x) H = z38_g113 S (x 11) H := by kernel_rfl
def z38_g114 (S : Value → Value → Value → Value → Value → Value → Heap → Prop) (x0 x1 x2 x3 x10 : Value) (H : Heap) : Prop :=
  bnd (sliceV 2 x0 none (some x10)) fun v86 =>
  S x0 x1 x2 x3 x10 v86 H
theorem z38_g114_e (S : Value → Value → Value → Value → Value → Value → Heap → Prop) (x : Nat → Value) (H : Heap) : wpE tab P z38_pi z38_c39 (nQ fun l H => S (l.getD 0 undef) (l.getD 1 undef) (l.getD 2 undef) (l.getD 3 undef) (l.getD 10 undef) (l.getD 12 undef) H) ((List.range 224).map x) H = z38_g114 S (x 0) (x 1) (x 2) (x 3) (x 10) H := by kernel_rfl
def z38_g115 (S : Value → Value → Value → Value → Value → Value → Value → Heap → Prop) (x0 x1 x2 x3 x10 x12 : Value) (H : Heap) : Prop :=
  bnd (lenV x3) fun v89 =>
  bnd (binV .int .add x1 v89) fun v90 =>
  bnd (binV .int .leq v90 x2) fun v92 =>
  S x0 x1 x2 x3 x10 x12 v92 H
theorem z38_g115_e (S : Value → Value → Value → Value → Value → Value → Value → Heap → Prop) (x : Nat → Value) (H : Heap) : wpE tab P z38_pi z38_c42 (nQ fun l H => S (l.getD 0 undef) (l.getD 1 undef) (l.getD 2 undef) (l.getD 3 undef) (l.getD 10 undef) (l.getD 12 undef) (l.getD 92 undef) H) ((List.range 224).map x) H = z38_g115 S (x 0) (x 1) (x 2) (x 3) (x 10) (x 12) H := by kernel_rfl
def z38_g116 (S : Value → Value → Value → Value → Value → Value → Heap → Prop) (x0 x1 x2 x3 x10 x12 : Value) (H : Heap) : Prop :=
  bnd (sliceV 2 x12 (some x1) none) fun v95 =>
  cpyE 2 v95 x3 H fun _ H1 =>
  S x0 x1 x2 x3 x10 x12 H1
theorem z38_g116_e (S : Value → Value → Value → Value → Value → Value → Heap → Prop) (x : Nat → Value) (H : Heap) : wpE tab P z38_pi z38_c45 (nQ fun l H => S (l.getD 0 undef) (l.getD 1 undef) (l.getD 2 undef) (l.getD 3 undef) (l.getD 10 undef) (l.getD 12 undef) H) ((List.range 224).map x) H = z38_g116 S (x 0) (x 1) (x 2) (x 3) (x 10) (x 12) H := by kernel_rfl
def z38_g117 (S : Value → Value → Value → Heap → Prop) (x0 x1 x2 x3 x10 x12 : Value) (H : Heap) : Prop :=
  bnd (lenV x3) fun v101 =>
  bnd (binV .int .add x1 v101) fun v102 =>
  bnd (sliceV 2 x12 (some v102) none) fun v103 =>
  bnd (sliceV 2 x0 (some x2) none) fun v106 =>
  cpyE 2 v103 v106 H fun _ H1 =>
  S x0 x10 x12 H1
theorem z38_g117_e (S : Value → Value → Value → Heap → Prop) (x : Nat → Value) (H : Heap) : wpE tab P z38_pi z38_c47 (nQ fun l H => S (l.getD 0 undef) (l.getD 10 undef) (l.getD 12 undef) H) ((List.range 224).map x) H = z38_g117 S (x 0) (x 1) (x 2) (x 3) (x 10) (x 12) H := by kernel_rfl
def z38_g118 (S : Value → Heap → Prop) (x0 x10 x12 : Value) (H : Heap) : Prop :=
  bnd (sliceV 2 x0 (some x10) none) fun v110 =>
  clrE #[(.int .i64 0), (.int .i64 0)] v110 H fun _ H1 =>
  S x12 H1
theorem z38_g118_e (S : Value → Heap → Prop) (x : Nat → Value) (H : Heap) : wpE tab P z38_pi z38_c49 (nQ fun l H => S (l.getD 12 undef) H) ((List.range 224).map x) H = z38_g118 S (x 0) (x 10) (x 12) H := by kernel_rfl
def z38_g119 (S : Value → Heap → Prop) (x12 : Value) (H : Heap) : Prop :=
  S x12 H
theorem z38_g119_e (S : Value → Heap → Prop) (x : Nat → Value) (H : Heap) : wpE tab P z38_pi z38_c51 (nQ fun l H => S (l.getD 8 undef) H) ((List.range 224).map x) H = z38_g119 S (x 12) H := by kernel_rfl
def z38_g120 (S : Value → Value → Value → Value → Value → Value → Heap → Prop) (x0 x1 x2 x3 x12 : Value) (H : Heap) : Prop :=
  bnd (lenV x3) fun v115 =>
  bnd (binV .int .add x1 v115) fun v116 =>
  bnd (sliceV 2 x12 (some v116) none) fun v117 =>
  EvF P N.slices_overlaps_Range #[v117, x3] H fun v119 H1 =>
  bnd (unV .not v119) fun v120 =>
  S x0 x1 x2 x3 x12 v120 H1
theorem z38_g120_e (S : Value → Value → Value → Value → Value → Value → Heap → Prop) (x : Nat → Value) (H : Heap) : wpE tab P z38_pi z38_c54 (nQ fun l H => S (l.getD 0 undef) (l.getD 1 undef) (l.getD 2 undef) (l.getD 3 undef) (l.getD 12 undef) (l.getD 120 undef) H) ((List.range 224).map x) H = z38_g120 S (x 0) (x 1) (x 2) (x 3) (x 12) H := by kernel_rfl
def z38_g121 (S : Value → Value → Value → Heap → Prop) (x0 x1 x2 x3 x12 : Value) (H : Heap) : Prop :=
  bnd (lenV x3) fun v124 =>
  bnd (binV .int .add x1 v124) fun v125 =>
  bnd (sliceV 2 x12 (some v125) none) fun v126 =>
  bnd (sliceV 2 x0 (some x2) none) fun v129 =>
  cpyE 2 v126 v129 H fun _ H1 =>
  S x1 x3 x12 H1
theorem z38_g121_e (S : Value → Value → Value → Heap → Prop) (x : Nat → Value) (H : Heap) : wpE tab P z38_pi z38_c57 (nQ fun l H => S (l.getD 1 undef) (l.getD 3 undef) (l.getD 12 undef) H) ((List.range 224).map x) H = z38_g121 S (x 0) (x 1) (x 2) (x 3) (x 12) H := by kernel_rfl
def z38_g122 (S : Value → Heap → Prop) (x1 x3 x12 : Value) (H : Heap) : Prop :=
  bnd (sliceV 2 x12 (some x1) none) fun v133 =>
  cpyE 2 v133 x3 H fun _ H1 =>
  S x12 H1
theorem z38_g122_e (S : Value → Heap → Prop) (x : Nat → Value) (H : Heap) : wpE tab P z38_pi z38_c59 (nQ fun l H => S (l.getD 12 undef) H) ((List.range 224).map x) H = z38_g122 S (x 1) (x 3) (x 12) H := by kernel_rfl
def z38_g123 (S : Value → Heap → Prop) (x12 : Value) (H : Heap) : Prop :=
  S x12 H
theorem z38_g123_e (S : Value → Heap → Prop) (x : Nat → Value) (H : Heap) : wpE tab P z38_pi z38_c61 (nQ fun l H => S (l.getD 8 undef) H) ((List.range 224).map x) H = z38_g123 S (x 12) H := by kernel_rfl
def z38_g124 (S : Value → Value → Value → Value → Value → Value → Heap → Prop) (x0 x1 x2 x3 x12 : Value) (H : Heap) : Prop :=
  bnd (lenV x3) fun v138 =>
  bnd (binV .int .sub x2 x1) fun v141 =>
  bnd (binV .int .sub v138 v141) fun v142 =>
  S x0 x1 x2 x3 x12 v142 H
theorem z38_g124_e (S : Value → Value → Value → Value → Value → Value → Heap → Prop) (x : Nat → Value) (H : Heap) : wpE tab P z38_pi z38_c63 (nQ fun l H => S (l.getD 0 undef) (l.getD 1 undef) (l.getD 2 undef) (l.getD 3 undef) (l.getD 12 undef) (l.getD 13 undef) H) ((List.range 224).map x) H = z38_g124 S (x 0) (x 1) (x 2) (x 3) (x 12) H := by kernel_rfl
def z38_g125 (S : Value → Value → Value → Value → Value → Value → Value → Heap → Prop) (x0 x1 x2 x3 x12 x13 : Value) (H : Heap) : Prop :=
  bnd (sliceV 2 x12 (some x1) (some x2)) fun v146 =>
  EvF P N.slices_overlaps_Range #[v146, x3] H fun v148 H1 =>
  bnd (unV .not v148) fun v149 =>
  S x0 x1 x2 x3 x12 x13 v149 H1
theorem z38_g125_e (S : Value → Value → Value → Value → Value → Value → Value → Heap → Prop) (x : Nat → Value) (H : Heap) : wpE tab P z38_pi z38_c66 (nQ fun l H => S (l.getD 0 undef) (l.getD 1 undef) (l.getD 2 undef) (l.getD 3 undef) (l.getD 12 undef) (l.getD 13 undef) (l.getD 149 undef) H) ((List.range 224).map x) H = z38_g125 S (x 0) (x 1) (x 2) (x 3) (x 12) (x 13) H := by kernel_rfl
def z38_g126 (S : Value → Value → Value → Value → Value → Heap → Prop) (x0 x1 x2 x3 x12 x13 : Value) (H : Heap) : Prop :=
  bnd (sliceV 2 x12 (some x1) (some x2)) fun v153 =>
  bnd (sliceV 2 x3 (some x13) none) fun v156 =>
  cpyE 2 v153 v156 H fun _ H1 =>
  S x0 x1 x3 x12 x13 H1
theorem z38_g126_e (S : Value → Value → Value → Value → Value → Heap → Prop) (x : Nat → Value) (H : Heap) : wpE tab P z38_pi z38_c69 (nQ fun l H => S (l.getD 0 undef) (l.getD 1 undef) (l.getD 3 undef) (l.getD 12 undef) (l.getD 13 undef) H) ((List.range 224).map x) H = z38_g126 S (x 0) (x 1) (x 2) (x 3) (x 12) (x 13) H := by kernel_rfl
def z38_g127 (S : Value → Value → Value → Heap → Prop) (x0 x1 x3 x12 x13 : Value) (H : Heap) : Prop :=
  bnd (lenV x0) fun v160 =>
  bnd (sliceV 2 x12 (some v160) none) fun v161 =>
  bnd (sliceV 2 x3 none (some x13)) fun v164 =>
  cpyE 2 v161 v164 H fun _ H1 =>
  S x1 x12 x13 H1
theorem z38_g127_e (S : Value → Value → Value → Heap → Prop) (x : Nat → Value) (H : Heap) : wpE tab P z38_pi z38_c71 (nQ fun l H => S (l.getD 1 undef) (l.getD 12 undef) (l.getD 13 undef) H) ((List.range 224).map x) H = z38_g127 S (x 0) (x 1) (x 3) (x 12) (x 13) H := by kernel_rfl
def z38_g128 (S : Value → Heap → Prop) (x1 x12 x13 : Value) (H : Heap) : Prop :=
  bnd (sliceV 2 x12 (some x1) none) fun v168 =>
  EvF P N.slices_rotateRight_Range #[v168, x13] H fun _ H1 =>
  S x12 H1
theorem z38_g128_e (S : Value → Heap → Prop) (x : Nat → Value) (H : Heap) : wpE tab P z38_pi z38_c73 (nQ fun l H => S (l.getD 12 undef) H) ((List.range 224).map x) H = z38_g128 S (x 1) (x 12) (x 13) H := by kernel_rfl
def z38_g129 (S : Value → Heap → Prop) (x12 : Value) (H : Heap) : Prop :=
  S x12 H
theorem z38_g129_e (S : Value → Heap → Prop) (x : Nat → Value) (H : Heap) : wpE tab P z38_pi z38_c75 (nQ fun l H => S (l.getD 8 undef) H) ((List.range 224).map x) H = z38_g129 S (x 12) H := by kernel_rfl
def z38_g130 (S : Value → Value → Value → Value → Value → Value → Value → Heap → Prop) (x0 x1 x2 x3 x12 x13 : Value) (H : Heap) : Prop :=
  bnd (lenV x0) fun v174 =>
  bnd (sliceV 2 x12 (some v174) none) fun v175 =>
  EvF P N.slices_overlaps_Range #[v175, x3] H fun v177 H1 =>
  bnd (unV .not v177) fun v178 =>
  S x0 x1 x2 x3 x12 x13 v178 H1
theorem z38_g130_e (S : Value → Value → Value → Value → Value → Value → Value → Heap → Prop) (x : Nat → Value) (H : Heap) : wpE tab P z38_pi z38_c78 (nQ fun l H => S (l.getD 0 undef) (l.getD 1 undef) (l.getD 2 undef) (l.getD 3 undef) (l.getD 12 undef) (l.getD 13 undef) (l.getD 178 undef) H) ((List.range 224).map x) H = z38_g130 S (x 0) (x 1) (x 2) (x 3) (x 12) (x 13) H := by kernel_rfl
def z38_g131 (S : Value → Value → Value → Value → Value → Heap → Prop) (x0 x1 x2 x3 x12 x13 : Value) (H : Heap) : Prop :=
  bnd (lenV x0) fun v181 =>
  bnd (sliceV 2 x12 (some v181) none) fun v182 =>
  bnd (sliceV 2 x3 none (some x13)) fun v185 =>
  cpyE 2 v182 v185 H fun _ H1 =>
  S x1 x2 x3 x12 x13 H1
theorem z38_g131_e (S : Value → Value → Value → Value → Value → Heap → Prop) (x : Nat → Value) (H : Heap) : wpE tab P z38_pi z38_c81 (nQ fun l H => S (l.getD 1 undef) (l.getD 2 undef) (l.getD 3 undef) (l.getD 12 undef) (l.getD 13 undef) H) ((List.range 224).map x) H = z38_g131 S (x 0) (x 1) (x 2) (x 3) (x 12) (x 13) H := by kernel_rfl
def z38_g132 (S : Value → Value → Value → Heap → Prop) (x1 x2 x3 x12 x13 : Value) (H : Heap) : Prop :=
  bnd (sliceV 2 x12 (some x1) (some x2)) fun v190 =>
  bnd (sliceV 2 x3 (some x13) none) fun v193 =>
  cpyE 2 v190 v193 H fun _ H1 =>
  S x1 x12 x13 H1
theorem z38_g132_e (S : Value → Value → Value → Heap → Prop) (x : Nat → Value) (H : Heap) : wpE tab P z38_pi z38_c83 (nQ fun l H => S (l.getD 1 undef) (l.getD 12 undef) (l.getD 13 undef) H) ((List.range 224).map x) H = z38_g132 S (x 1) (x 2) (x 3) (x 12) (x 13) H := by kernel_rfl
def z38_g133 (S : Value → Heap → Prop) (x1 x12 x13 : Value) (H : Heap) : Prop :=
  bnd (sliceV 2 x12 (some x1) none) fun v197 =>
  EvF P N.slices_rotateRight_Range #[v197, x13] H fun _ H1 =>
  S x12 H1
theorem z38_g133_e (S : Value → Heap → Prop) (x : Nat → Value) (H : Heap) : wpE tab P z38_pi z38_c85 (nQ fun l H => S (l.getD 12 undef) H) ((List.range 224).map x) H = z38_g133 S (x 1) (x 12) (x 13) H := by kernel_rfl
def z38_g134 (S : Value → Heap → Prop) (x12 : Value) (H : Heap) : Prop :=
  S x12 H
theorem z38_g134_e (S : Value → Heap → Prop) (x : Nat → Value) (H : Heap) : wpE tab P z38_pi z38_c87 (nQ fun l H => S (l.getD 8 undef) H) ((List.range 224).map x) H = z38_g134 S (x 12) H := by kernel_rfl
def z38_g135 (S : Value → Value → Value → Value → Heap → Prop) (x0 x1 x2 x3 x12 : Value) (H : Heap) : Prop :=
  bnd (sliceV 2 x0 (some x2) none) fun v204 =>
  EvF P N.slices_startIdx_Range #[x3, v204] H fun v205 H1 =>
  S x1 x3 x12 v205 H1
theorem z38_g135_e (S : Value → Value → Value → Value → Heap → Prop) (x : Nat → Value) (H : Heap) : wpE tab P z38_pi z38_c89 (nQ fun l H => S (l.getD 1 undef) (l.getD 3 undef) (l.getD 12 undef) (l.getD 14 undef) H) ((List.range 224).map x) H = z38_g135 S (x 0) (x 1) (x 2) (x 3) (x 12) H := by kernel_rfl
def z38_g136 (S : Value → Value → Value → Value → Heap → Prop) (x1 x3 x12 x14 : Value) (H : Heap) : Prop :=
  bnd (sliceV 2 x12 (some x1) none) fun v208 =>
  cpyE 2 v208 x3 H fun _ H1 =>
  S x1 x3 x12 x14 H1
theorem z38_g136_e (S : Value → Value → Value → Value → Heap → Prop) (x : Nat → Value) (H : Heap) : wpE tab P z38_pi z38_c91 (nQ fun l H => S (l.getD 1 undef) (l.getD 3 undef) (l.getD 12 undef) (l.getD 14 undef) H) ((List.range 224).map x) H = z38_g136 S (x 1) (x 3) (x 12) (x 14) H := by kernel_rfl
def z38_g137 (S : Value → Heap → Prop) (x1 x3 x12 x14 : Value) (H : Heap) : Prop :=
  bnd (lenV x3) fun v214 =>
  bnd (binV .int .add x1 v214) fun v215 =>
  bnd (sliceV 2 x12 (some v215) none) fun v216 =>
  bnd (binV .int .add x1 x14) fun v220 =>
  bnd (sliceV 2 x12 (some v220) none) fun v221 =>
  cpyE 2 v216 v221 H fun _ H1 =>
  S x12 H1
theorem z38_g137_e (S : Value → Heap → Prop) (x : Nat → Value) (H : Heap) : wpE tab P z38_pi z38_c93 (nQ fun l H => S (l.getD 12 undef) H) ((List.range 224).map x) H = z38_g137 S (x 1) (x 3) (x 12) (x 14) H := by kernel_rfl
def z38_g138 (S : Value → Heap → Prop) (x12 : Value) (H : Heap) : Prop :=
  S x12 H
theorem z38_g138_e (S : Value → Heap → Prop) (x : Nat → Value) (H : Heap) : wpE tab P z38_pi z38_c95 (nQ fun l H => S (l.getD 8 undef) H) ((List.range 224).map x) H = z38_g138 S (x 12) H := by kernel_rfl
def slices_Replace_Range (x0 x1 x2 x3 : Value) (R : Value → Heap → Prop) (H : Heap) : Prop :=
  z38_g96 (fun x0 x1 x2 x3 H => z38_g97 (fun x0 x1 x2 x3 H => z38_g98 (fun x0 x1 x2 x3 x21 H => brV x21
  (z38_g99 (fun x8 H => R x8 H) x0 x1 x3 H)
  (z38_g100 (fun x0 x1 x2 x3 x29 H => brV x29
  (z38_g101 (fun x0 x9 H => z38_g106 (fun x0 x9 x39 H => brV x39
  (z38_g107 (fun x9 H => z38_s102 x9 R H) x0 x9 H)
  (z38_s102 x9 R H)) x0 x9 H) x0 x1 x3 H)
  (z38_g108 (fun x0 x1 x2 x3 x10 H => z38_g109 (fun x0 x1 x2 x3 x10 x60 H => brV x60
  (z38_g110 (fun x0 x1 x2 x3 x11 H => z38_g111 (fun x0 x1 x2 x3 x11 H => z38_g112 (fun x11 H => z38_g113 (fun x8 H => R x8 H) x11 H) x0 x1 x2 x3 x11 H) x0 x1 x2 x3 x11 H) x0 x1 x2 x3 x10 H)
  (z38_g114 (fun x0 x1 x2 x3 x10 x12 H => z38_g115 (fun x0 x1 x2 x3 x10 x12 x92 H => brV x92
  (z38_g116 (fun x0 x1 x2 x3 x10 x12 H => z38_g117 (fun x0 x10 x12 H => z38_g118 (fun x12 H => z38_g119 (fun x8 H => R x8 H) x12 H) x0 x10 x12 H) x0 x1 x2 x3 x10 x12 H) x0 x1 x2 x3 x10 x12 H)
  (z38_g120 (fun x0 x1 x2 x3 x12 x120 H => brV x120
  (z38_g121 (fun x1 x3 x12 H => z38_g122 (fun x12 H => z38_g123 (fun x8 H => R x8 H) x12 H) x1 x3 x12 H) x0 x1 x2 x3 x12 H)
  (z38_g124 (fun x0 x1 x2 x3 x12 x13 H => z38_g125 (fun x0 x1 x2 x3 x12 x13 x149 H => brV x149
  (z38_g126 (fun x0 x1 x3 x12 x13 H => z38_g127 (fun x1 x12 x13 H => z38_g128 (fun x12 H => z38_g129 (fun x8 H => R x8 H) x12 H) x1 x12 x13 H) x0 x1 x3 x12 x13 H) x0 x1 x2 x3 x12 x13 H)
  (z38_g130 (fun x0 x1 x2 x3 x12 x13 x178 H => brV x178
  (z38_g131 (fun x1 x2 x3 x12 x13 H => z38_g132 (fun x1 x12 x13 H => z38_g133 (fun x12 H => z38_g134 (fun x8 H => R x8 H) x12 H) x1 x12 x13 H) x1 x2 x3 x12 x13 H) x0 x1 x2 x3 x12 x13 H)
  (z38_g135 (fun x1 x3 x12 x14 H => z38_g136 (fun x1 x3 x12 x14 H => z38_g137 (fun x12 H => z38_g138 (fun x8 H => R x8 H) x12 H) x1 x3 x12 x14 H) x1 x3 x12 x14 H) x0 x1 x2 x3 x12 H)) x0 x1 x2 x3 x12 x13 H)) x0 x1 x2 x3 x12 x13 H) x0 x1 x2 x3 x12 H)) x0 x1 x2 x3 x12 H)) x0 x1 x2 x3 x10 x12 H) x0 x1 x2 x3 x10 H)) x0 x1 x2 x3 x10 H) x0 x1 x2 x3 H)) x0 x1 x2 x3 H)) x0 x1 x2 x3 H) x0 x1 x2 x3 H) x0 x1 x2 x3 H
theorem z38_i (R : Value → Heap → Prop) (x0 x1 x2 x3 : Value) (H : Heap) (h : slices_Replace_Range x0 x1 x2 x3 R H) : wpE tab P z38_pi z38_c1 (retQ tab z38_rs R) [x0, x1, x2, x3, undef, undef, undef, undef, undef, undef, undef, undef, undef, undef, undef, undef, undef, undef, undef, undef, undef, undef, undef, undef, undef, undef, undef, undef, undef, undef, undef, undef, undef, undef, undef, undef, undef, undef, undef, undef, undef, undef, undef, undef, undef, undef, undef, undef, undef, undef, undef, undef, undef, undef, undef, undef, undef, undef, undef, undef, undef, undef, undef, undef, undef, undef, undef, undef, undef, undef, undef, undef, undef, undef, undef, undef, undef, undef, undef, undef, undef, undef, undef, undef, undef, undef, undef, undef, undef, undef, undef, undef, undef, undef, undef, undef, undef, undef, undef, undef, undef, undef, undef, undef, undef, undef, undef, undef, undef, undef, undef, undef, undef, undef, undef, undef, undef, undef, undef, undef, undef, undef, undef, undef, undef, undef, undef, undef, undef, undef, undef, undef, undef, undef, undef, undef, undef, undef, undef, undef, undef, undef, undef, undef, undef, undef, undef, undef, undef, undef, undef, undef, undef, undef, undef, undef, undef, undef, undef, undef, undef, undef, undef, undef, undef, undef, undef, undef, undef, undef, undef, undef, undef, undef, undef, undef, undef, undef, undef, undef, undef, undef, undef, undef, undef, undef, undef, undef, undef, undef, undef, undef, undef, undef, undef, undef, undef, undef, undef, undef, undef, undef, undef, undef, undef, undef, undef, undef, undef, undef, undef, undef, undef, undef, undef, undef, undef, undef, undef, undef, undef, undef, undef, undef] H := by
  obtain ⟨l, hl, el⟩ : ∃ l : List Value, l.length = 224 ∧ l = [x0, x1, x2, x3, undef, undef, undef, undef, undef, undef, undef, undef, undef, undef, undef, undef, undef, undef, undef, undef, undef, undef, undef, undef, undef, undef, undef, undef, undef, undef, undef, undef, undef, undef, undef, undef, undef, undef, undef, undef, undef, undef, undef, undef, undef, undef, undef, undef, undef, undef, undef, undef, undef, undef, undef, undef, undef, undef, undef, undef, undef, undef, undef, undef, undef, undef, undef, undef, undef, undef, undef, undef, undef, undef, undef, undef, undef, undef, undef, undef, undef, undef, undef, undef, undef, undef, undef, undef, undef, undef, undef, undef, undef, undef, undef, undef, undef, undef, undef, undef, undef, undef, undef, undef, undef, undef, undef, undef, undef, undef, undef, undef, undef, undef, undef, undef, undef, undef, undef, undef, undef, undef, undef, undef, undef, undef, undef, undef, undef, undef, undef, undef, undef, undef, undef, undef, undef, undef, undef, undef, undef, undef, undef, undef, undef, undef, undef, undef, undef, undef, undef, undef, undef, undef, undef, undef, undef, undef, undef, undef, undef, undef, undef, undef, undef, undef, undef, undef, undef, undef, undef, undef, undef, undef, undef, undef, undef, undef, undef, undef, undef, undef, undef, undef, undef, undef, undef, undef, undef, undef, undef, undef, undef, undef, undef, undef, undef, undef, undef, undef, undef, undef, undef, undef, undef, undef, undef, undef, undef, undef, undef, undef, undef, undef, undef, undef, undef, undef, undef, undef, undef, undef, undef, undef] := ⟨_, rfl, rfl⟩
  rw [← el]
  have h : (fun (x0 x1 x2 x3 : Value) => z38_g96 (fun x0 x1 x2 x3 H => z38_g97 (fun x0 x1 x2 x3 H => z38_g98 (fun x0 x1 x2 x3 x21 H => brV x21
(z38_g99 (fun x8 H => R x8 H) x0 x1 x3 H)
(z38_g100 (fun x0 x1 x2 x3 x29 H => brV x29
(z38_g101 (fun x0 x9 H => z38_g106 (fun x0 x9 x39 H => brV x39
(z38_g107 (fun x9 H => z38_s102 x9 R H) x0 x9 H)
(z38_s102 x9 R H)) x0 x9 H) x0 x1 x3 H)
(z38_g108 (fun x0 x1 x2 x3 x10 H => z38_g109 (fun x0 x1 x2 x3 x10 x60 H => brV x60
(z38_g110 (fun x0 x1 x2 x3 x11 H => z38_g111 (fun x0 x1 x2 x3 x11 H => z38_g112 (fun x11 H => z38_g113 (fun x8 H => R x8 H) x11 H) x0 x1 x2 x3 x11 H) x0 x1 x2 x3 x11 H) x0 x1 x2 x3 x10 H)
(z38_g114 (fun x0 x1 x2 x3 x10 x12 H => z38_g115 (fun x0 x1 x2 x3 x10 x12 x92 H => brV x92
(z38_g116 (fun x0 x1 x2 x3 x10 x12 H => z38_g117 (fun x0 x10 x12 H => z38_g118 (fun x12 H => z38_g119 (fun x8 H => R x8 H) x12 H) x0 x10 x12 H) x0 x1 x2 x3 x10 x12 H) x0 x1 x2 x3 x10 x12 H)
(z38_g120 (fun x0 x1 x2 x3 x12 x120 H => brV x120
(z38_g121 (fun x1 x3 x12 H => z38_g122 (fun x12 H => z38_g123 (fun x8 H => R x8 H) x12 H) x1 x3 x12 H) x0 x1 x2 x3 x12 H)
(z38_g124 (fun x0 x1 x2 x3 x12 x13 H => z38_g125 (fun x0 x1 x2 x3 x12 x13 x149 H => brV x149
(z38_g126 (fun x0 x1 x3 x12 x13 H => z38_g127 (fun x1 x12 x13 H => z38_g128 (fun x12 H => z38_g129 (fun x8 H => R x8 H) x12 H) x1 x12 x13 H) x0 x1 x3 x12 x13 H) x0 x1 x2 x3 x12 x13 H)
(z38_g130 (fun x0 x1 x2 x3 x12 x13 x178 H => brV x178
(z38_g131 (fun x1 x2 x3 x12 x13 H => z38_g132 (fun x1 x12 x13 H => z38_g133 (fun x12 H => z38_g134 (fun x8 H => R x8 H) x12 H) x1 x12 x13 H) x1 x2 x3 x12 x13 H) x0 x1 x2 x3 x12 x13 H)
(z38_g135 (fun x1 x3 x12 x14 H => z38_g136 (fun x1 x3 x12 x14 H => z38_g137 (fun x12 H => z38_g138 (fun x8 H => R x8 H) x12 H) x1 x3 x12 x14 H) x1 x3 x12 x14 H) x0 x1 x2 x3 x12 H)) x0 x1 x2 x3 x12 x13 H)) x0 x1 x2 x3 x12 x13 H) x0 x1 x2 x3 x12 H)) x0 x1 x2 x3 x12 H)) x0 x1 x2 x3 x10 x12 H) x0 x1 x2 x3 x10 H)) x0 x1 x2 x3 x10 H) x0 x1 x2 x3 H)) x0 x1 x2 x3 H)) x0 x1 x2 x3 H) x0 x1 x2 x3 H) x0 x1 x2 x3 H) (l.getD 0 undef) (l.getD 1 undef) (l.getD 2 undef) (l.getD 3 undef) := by rw [el]; exact h
  clear el
  refine seqI (c := z38_c1) rfl ?_
  refine regI hl (Eq.mpr (z38_g96_e _ (fun i => l.getD i undef) _) h) ?_
  clear h hl
  intro l H hl h
  refine thenN ?_
  refine seqI (c := z38_c3) rfl ?_
  refine regI hl (Eq.mpr (z38_g97_e _ (fun i => l.getD i undef) _) h) ?_
  clear h hl
  intro l H hl h
  refine thenN ?_
  refine seqI (c := z38_c5) rfl ?_
  refine seqI (c := z38_c6) rfl ?_
  refine regI hl (Eq.mpr (z38_g98_e _ (fun i => l.getD i undef) _) h) ?_
  clear h hl
  intro l H hl h
  refine thenN ?_
  refine condI (c := z38_c8) rfl h ?_ ?_
  · clear h; intro h
    refine seqI (c := z38_c9) rfl ?_
    refine regI hl (Eq.mpr (z38_g99_e _ (fun i => l.getD i undef) _) h) ?_
    clear h hl
    intro l H hl h
    refine thenN ?_
    refine retI rfl ?_
    refine thenR ?_
    exact h
  · clear h; intro h
    refine skipI rfl ?_
    refine thenN ?_
    refine seqI (c := z38_c11) rfl ?_
    refine seqI (c := z38_c12) rfl ?_
    refine regI hl (Eq.mpr (z38_g100_e _ (fun i => l.getD i undef) _) h) ?_
    clear h hl
    intro l H hl h
    refine thenN ?_
    refine condI (c := z38_c14) rfl h ?_ ?_
    · clear h; intro h
      refine seqI (c := z38_c15) rfl ?_
      refine regI hl (Eq.mpr (z38_g101_e _ (fun i => l.getD i undef) _) h) ?_
      clear h hl
      intro l H hl h
      refine thenN ?_
      refine seqI (c := z38_c17) rfl ?_
      refine seqI (c := z38_c18) rfl ?_
      refine regI hl (Eq.mpr (z38_g106_e _ (fun i => l.getD i undef) _) h) ?_
      clear h hl
      intro l H hl h
      refine thenN ?_
      refine condI (c := z38_c20) rfl h ?_ ?_
      · clear h; intro h
        refine regI hl (Eq.mpr (z38_g107_e _ (fun i => l.getD i undef) _) h) ?_
        clear h hl
        intro l H hl h
        refine thenN ?_
        exact z38_s102_i R l H hl h
      · clear h; intro h
        refine skipI rfl ?_
        refine thenN ?_
        exact z38_s102_i R l H hl h
    · clear h; intro h
      refine skipI rfl ?_
      refine thenN ?_
      refine seqI (c := z38_c24) rfl ?_
      refine regI hl (Eq.mpr (z38_g108_e _ (fun i => l.getD i undef) _) h) ?_
      clear h hl
      intro l H hl h
      refine thenN ?_
      refine seqI (c := z38_c26) rfl ?_
      refine seqI (c := z38_c27) rfl ?_
      refine regI hl (Eq.mpr (z38_g109_e _ (fun i => l.getD i undef) _) h) ?_
      clear h hl
      intro l H hl h
      refine thenN ?_
      refine condI (c := z38_c29) rfl h ?_ ?_
      · clear h; intro h
        refine seqI (c := z38_c30) rfl ?_
        refine regI hl (Eq.mpr (z38_g110_e _ (fun i => l.getD i undef) _) h) ?_
        clear h hl
        intro l H hl h
        refine thenN ?_
        refine seqI (c := z38_c32) rfl ?_
        refine regI hl (Eq.mpr (z38_g111_e _ (fun i => l.getD i undef) _) h) ?_
        clear h hl
        intro l H hl h
        refine thenN ?_
        refine seqI (c := z38_c34) rfl ?_
        refine regI hl (Eq.mpr (z38_g112_e _ (fun i => l.getD i undef) _) h) ?_
        clear h hl
        intro l H hl h
        refine thenN ?_
        refine seqI (c := z38_c36) rfl ?_
        refine regI hl (Eq.mpr (z38_g113_e _ (fun i => l.getD i undef) _) h) ?_
        clear h hl
        intro l H hl h
        refine thenN ?_
        refine retI rfl ?_
        refine thenR ?_
        exact h
      · clear h; intro h
        refine skipI rfl ?_
        refine thenN ?_
        refine seqI (c := z38_c38) rfl ?_
        refine regI hl (Eq.mpr (z38_g114_e _ (fun i => l.getD i undef) _) h) ?_
        clear h hl
        intro l H hl h
        refine thenN ?_
        refine seqI (c := z38_c40) rfl ?_
        refine seqI (c := z38_c41) rfl ?_
        refine regI hl (Eq.mpr (z38_g115_e _ (fun i => l.getD i undef) _) h) ?_
        clear h hl
        intro l H hl h
        refine thenN ?_
        refine condI (c := z38_c43) rfl h ?_ ?_
        · clear h; intro h
          refine seqI (c := z38_c44) rfl ?_
          refine regI hl (Eq.mpr (z38_g116_e _ (fun i => l.getD i undef) _) h) ?_
          clear h hl
          intro l H hl h
          refine thenN ?_
          refine seqI (c := z38_c46) rfl ?_
          refine regI hl (Eq.mpr (z38_g117_e _ (fun i => l.getD i undef) _) h) ?_
          clear h hl
          intro l H hl h
          refine thenN ?_
          refine seqI (c := z38_c48) rfl ?_
          refine regI hl (Eq.mpr (z38_g118_e _ (fun i => l.getD i undef) _) h) ?_
          clear h hl
          intro l H hl h
          refine thenN ?_
          refine seqI (c := z38_c50) rfl ?_
          refine regI hl (Eq.mpr (z38_g119_e _ (fun i => l.getD i undef) _) h) ?_
          clear h hl
          intro l H hl h
          refine thenN ?_
          refine retI rfl ?_
          refine thenR ?_
          exact h
        · clear h; intro h
          refine skipI rfl ?_
          refine thenN ?_
          refine seqI (c := z38_c52) rfl ?_
          refine seqI (c := z38_c53) rfl ?_
          refine regI hl (Eq.mpr (z38_g120_e _ (fun i => l.getD i undef) _) h) ?_
          clear h hl
          intro l H hl h
          refine thenN ?_
          refine condI (c := z38_c55) rfl h ?_ ?_
          · clear h; intro h
            refine seqI (c := z38_c56) rfl ?_
            refine regI hl (Eq.mpr (z38_g121_e _ (fun i => l.getD i undef) _) h) ?_
            clear h hl
            intro l H hl h
            refine thenN ?_
            refine seqI (c := z38_c58) rfl ?_
            refine regI hl (Eq.mpr (z38_g122_e _ (fun i => l.getD i undef) _) h) ?_
            clear h hl
            intro l H hl h
            refine thenN ?_
            refine seqI (c := z38_c60) rfl ?_
            refine regI hl (Eq.mpr (z38_g123_e _ (fun i => l.getD i undef) _) h) ?_
            clear h hl
            intro l H hl h
            refine thenN ?_
            refine retI rfl ?_
            refine thenR ?_
            exact h
          · clear h; intro h
            refine skipI rfl ?_
            refine thenN ?_
            refine seqI (c := z38_c62) rfl ?_
            refine regI hl (Eq.mpr (z38_g124_e _ (fun i => l.getD i undef) _) h) ?_
            clear h hl
            intro l H hl h
            refine thenN ?_
            refine seqI (c := z38_c64) rfl ?_
            refine seqI (c := z38_c65) rfl ?_
            refine regI hl (Eq.mpr (z38_g125_e _ (fun i => l.getD i undef) _) h) ?_
            clear h hl
            intro l H hl h
            refine thenN ?_
            refine condI (c := z38_c67) rfl h ?_ ?_
            · clear h; intro h
              refine seqI (c := z38_c68) rfl ?_
              refine regI hl (Eq.mpr (z38_g126_e _ (fun i => l.getD i undef) _) h) ?_
              clear h hl
              intro l H hl h
              refine thenN ?_
              refine seqI (c := z38_c70) rfl ?_
              refine regI hl (Eq.mpr (z38_g127_e _ (fun i => l.getD i undef) _) h) ?_
              clear h hl
              intro l H hl h
              refine thenN ?_
              refine seqI (c := z38_c72) rfl ?_
              refine regI hl (Eq.mpr (z38_g128_e _ (fun i => l.getD i undef) _) h) ?_
              clear h hl
              intro l H hl h
              refine thenN ?_
              refine seqI (c := z38_c74) rfl ?_
              refine regI hl (Eq.mpr (z38_g129_e _ (fun i => l.getD i undef) _) h) ?_
              clear h hl
              intro l H hl h
              refine thenN ?_
              refine retI rfl ?_
              refine thenR ?_
              exact h
            · clear h; intro h
              refine skipI rfl ?_
              refine thenN ?_
              refine seqI (c := z38_c76) rfl ?_
              refine seqI (c := z38_c77) rfl ?_
              refine regI hl (Eq.mpr (z38_g130_e _ (fun i => l.getD i undef) _) h) ?_
              clear h hl
              intro l H hl h
              refine thenN ?_
              refine condI (c := z38_c79) rfl h ?_ ?_
              · clear h; intro h
                refine seqI (c := z38_c80) rfl ?_
                refine regI hl (Eq.mpr (z38_g131_e _ (fun i => l.getD i undef) _) h) ?_
                clear h hl
                intro l H hl h
                refine thenN ?_
                refine seqI (c := z38_c82) rfl ?_
                refine regI hl (Eq.mpr (z38_g132_e _ (fun i => l.getD i undef) _) h) ?_
                clear h hl
                intro l H hl h
                refine thenN ?_
                refine seqI (c := z38_c84) rfl ?_
                refine regI hl (Eq.mpr (z38_g133_e _ (fun i => l.getD i undef) _) h) ?_
                clear h hl
                intro l H hl h
                refine thenN ?_
                refine seqI (c := z38_c86) rfl ?_
                refine regI hl (Eq.mpr (z38_g134_e _ (fun i => l.getD i undef) _) h) ?_
                clear h hl
                intro l H hl h
                refine thenN ?_
                refine retI rfl ?_
                refine thenR ?_
                exact h
              · clear h; intro h
                refine skipI rfl ?_
                refine thenN ?_
                refine seqI (c := z38_c88) rfl ?_
                refine regI hl (Eq.mpr (z38_g135_e _ (fun i => l.getD i undef) _) h) ?_
                clear h hl
                intro l H hl h
                refine thenN ?_
                refine seqI (c := z38_c90) rfl ?_
                refine regI hl (Eq.mpr (z38_g136_e _ (fun i => l.getD i undef) _) h) ?_
                clear h hl
                intro l H hl h
                refine thenN ?_
                refine seqI (c := z38_c92) rfl ?_
                refine regI hl (Eq.mpr (z38_g137_e _ (fun i => l.getD i undef) _) h) ?_
                clear h hl
                intro l H hl h
                refine thenN ?_
                refine seqI (c := z38_c94) rfl ?_
                refine regI hl (Eq.mpr (z38_g138_e _ (fun i => l.getD i undef) _) h) ?_
                clear h hl
                intro l H hl h
                refine thenN ?_
                refine retI rfl ?_
                exact h
theorem z38_ok : okB z38_pi z38_c1 = true := by kernel_rfl
theorem z38_ev0 (x0 x1 x2 x3 : Value) (R : Value → Heap → Prop) (H : Heap) (h : slices_Replace_Range x0 x1 x2 x3 R H) : EvL P N.slices_Replace_Range #[x0, x1, x2, x3] H R :=
  EvF_intro (args := [x0, x1, x2, x3]) (k := 220) (rs := z38_rs) tab_ok mixed Try.func38 (show Try.f38.body = some z38_c1 by kernel_rfl) Try.call38 Try.ntmps38 (by kernel_rfl) (okCode_of _ z38_ok) rfl (z38_i R x0 x1 x2 x3 H h)
theorem z38_ev (x0 x1 x2 x3 : Value) (R : Value → Heap → Prop) (H : Heap) (h : slices_Replace_Range x0 x1 x2 x3 R H) : EvF P N.slices_Replace_Range #[x0, x1, x2, x3] H R := .inl (z38_ev0 x0 x1 x2 x3 R H h)
/- 39: sounder/loss.Check$1 -/
def z39_rs : List ResultVar := [.tmp 3]
noncomputable def z39_c2 : Code := subC (bodyC Try.f39) [0]
noncomputable def z39_c4 : Code := subC (bodyC Try.f39) [1, 0]
noncomputable def z39_c6 : Code := subC (bodyC Try.f39) [1, 1, 0]
noncomputable def z39_c8 : Code := subC (bodyC Try.f39) [1, 1, 1, 0]
noncomputable def z39_c7 : Code := .seq z39_c8 Code.ret
noncomputable def z39_c5 : Code := .seq z39_c6 z39_c7
noncomputable def z39_c3 : Code := .seq z39_c4 z39_c5
noncomputable def z39_c1 : Code := .seq z39_c2 z39_c3
def z39_pi (_ : Nat) : Pl := .nil
def z39_g9 (S : Value → Value → Heap → Prop) (x0 x1 : Value) (H : Heap) : Prop :=
  newE 38 (Value.cells x0) H fun v2 H1 =>
  S x1 v2 H1
theorem z39_g9_e (S : Value → Value → Heap → Prop) (x : Nat → Value) (H : Heap) : wpE tab P z39_pi z39_c2 (nQ fun l H => S (l.getD 1 undef) (l.getD 2 undef) H) ((List.range 33).map x) H = z39_g9 S (x 0) (x 1) H := by kernel_rfl
def z39_g10 (S : Value → Value → Value → Heap → Prop) (x1 x2 : Value) (H : Heap) : Prop :=
  bnd (faV 0 x2) fun v5 =>
  bnd (ldE false 1 v5 H) fun v6 =>
  bnd (ldE false 1 x1 H) fun v7 =>
  bnd (binV .int .leq v6 v7) fun v8 =>
  brV v8
  (S x1 x2 (.bool true) H)
  (bnd (faV 0 x2) fun v10 =>
  bnd (ldE false 1 v10 H) fun v11 =>
  bnd (binV .int .gtr v11 (.int .i64 9007199254740991)) fun v12 =>
  brV v12
  (S x1 x2 (.bool true) H)
  (bnd (faV 1 x2) fun v15 =>
  bnd (ldE false 1 v15 H) fun v16 =>
  EvF P N.loss_isTime #[v16] H fun v17 H1 =>
  bnd (unV .not v17) fun v18 =>
  brV v18
  (S x1 x2 (.bool true) H1)
  (bnd (faV 2 x2) fun v21 =>
  bnd (ldE false 1 v21 H1) fun v22 =>
  bnd (binV .int .lss v22 (.int .i64 1)) fun v23 =>
  brV v23
  (S x1 x2 (.bool true) H1)
  (bnd (faV 2 x2) fun v26 =>
  bnd (ldE false 1 v26 H1) fun v27 =>
  bnd (binV .int .gtr v27 (.int .i64 65535)) fun v28 =>
  S x1 x2 v28 H1))))
theorem z39_g10_e (S : Value → Value → Value → Heap → Prop) (x : Nat → Value) (H : Heap) : wpE tab P z39_pi z39_c4 (nQ fun l H => S (l.getD 1 undef) (l.getD 2 undef) (l.getD 4 undef) H) ((List.range 33).map x) H = z39_g10 S (x 1) (x 2) H := by kernel_rfl
def z39_g11 (S : Value → Heap → Prop) (x1 x2 x4 : Value) (H : Heap) : Prop :=
  bnd (faV 0 x2) fun v30 =>
  bnd (ldE false 1 v30 H) fun v31 =>
  bnd (stE 1 x1 v31 H) fun H1 =>
  S x4 H1
theorem z39_g11_e (S : Value → Heap → Prop) (x : Nat → Value) (H : Heap) : wpE tab P z39_pi z39_c6 (nQ fun l H => S (l.getD 4 undef) H) ((List.range 33).map x) H = z39_g11 S (x 1) (x 2) (x 4) H := by kernel_rfl
def z39_g12 (S : Value → Heap → Prop) (x4 : Value) (H : Heap) : Prop :=
  S x4 H
theorem z39_g12_e (S : Value → Heap → Prop) (x : Nat → Value) (H : Heap) : wpE tab P z39_pi z39_c8 (nQ fun l H => S (l.getD 3 undef) H) ((List.range 33).map x) H = z39_g12 S (x 4) H := by kernel_rfl
def loss_Check_1 (x0 x1 : Value) (R : Value → Heap → Prop) (H : Heap) : Prop :=
  z39_g9 (fun x1 x2 H => z39_g10 (fun x1 x2 x4 H => z39_g11 (fun x4 H => z39_g12 (fun x3 H => R x3 H) x4 H) x1 x2 x4 H) x1 x2 H) x0 x1 H
theorem z39_i (R : Value → Heap → Prop) (x0 x1 : Value) (H : Heap) (h : loss_Check_1 x0 x1 R H) : wpE tab P z39_pi z39_c1 (retQ tab z39_rs R) [x0, x1, undef, undef, undef, undef, undef, undef, undef, undef, undef, undef, undef, undef, undef, undef, undef, undef, undef, undef, undef, undef, undef, undef, undef, undef, undef, undef, undef, undef, undef, undef, undef] H := by
  obtain ⟨l, hl, el⟩ : ∃ l : List Value, l.length = 33 ∧ l = [x0, x1, undef, undef, undef, undef, undef, undef, undef, undef, undef, undef, undef, undef, undef, undef, undef, undef, undef, undef, undef, undef, undef, undef, undef, undef, undef, undef, undef, undef, undef, undef, undef] := ⟨_, rfl, rfl⟩
  rw [← el]
  have h : (fun (x0 x1 : Value) => z39_g9 (fun x1 x2 H => z39_g10 (fun x1 x2 x4 H => z39_g11 (fun x4 H => z39_g12 (fun x3 H => R x3 H) x4 H) x1 x2 x4 H) x1 x2 H) x0 x1 H) (l.getD 0 undef) (l.getD 1 undef) := by rw [el]; exact h
  clear el
  refine seqI (c := z39_c1) rfl ?_
  refine regI hl (Eq.mpr (z39_g9_e _ (fun i => l.getD i undef) _) h) ?_
  clear h hl
  intro l H hl h
  refine thenN ?_
  refine seqI (c := z39_c3) rfl ?_
  refine regI hl (Eq.mpr (z39_g10_e _ (fun i => l.getD i undef) _) h) ?_
  clear h hl
  intro l H hl h
  refine thenN ?_
  refine seqI (c := z39_c5) rfl ?_
  refine regI hl (Eq.mpr (z39_g11_e _ (fun i => l.getD i undef) _) h) ?_
  clear h hl
  intro l H hl h
  refine thenN ?_
  refine seqI (c := z39_c7) rfl ?_
  refine regI hl (Eq.mpr (z39_g12_e _ (fun i => l.getD i undef) _) h) ?_
  clear h hl
  intro l H hl h
  refine thenN ?_
  refine retI rfl ?_
  exact h
theorem z39_ok : okB z39_pi z39_c1 = true := by kernel_rfl
theorem z39_ev0 (x0 x1 : Value) (R : Value → Heap → Prop) (H : Heap) (h : loss_Check_1 x0 x1 R H) : EvL P N.loss_Check_1 #[x0, x1] H R :=
  EvF_intro (args := [x0, x1]) (k := 31) (rs := z39_rs) tab_ok mixed Try.func39 (show Try.f39.body = some z39_c1 by kernel_rfl) Try.call39 Try.ntmps39 (by kernel_rfl) (okCode_of _ z39_ok) rfl (z39_i R x0 x1 H h)
theorem z39_ev (x0 x1 : Value) (R : Value → Heap → Prop) (H : Heap) (h : loss_Check_1 x0 x1 R H) : EvF P N.loss_Check_1 #[x0, x1] H R := .inl (z39_ev0 x0 x1 R H h)
/- 40: sounder/loss.isTime -/
def z40_rs : List ResultVar := [.tmp 2]
noncomputable def z40_c2 : Code := subC (bodyC Try.f40) [0]
noncomputable def z40_c4 : Code := subC (bodyC Try.f40) [1, 0]
noncomputable def z40_c3 : Code := .seq z40_c4 Code.ret
noncomputable def z40_c1 : Code := .seq z40_c2 z40_c3
def z40_pi (_ : Nat) : Pl := .nil
def z40_g5 (S : Value → Heap → Prop) (x0 : Value) (H : Heap) : Prop :=
  S x0 H
theorem z40_g5_e (S : Value → Heap → Prop) (x : Nat → Value) (H : Heap) : wpE tab P z40_pi z40_c2 (nQ fun l H => S (l.getD 0 undef) H) ((List.range 9).map x) H = z40_g5 S (x 0) H := by kernel_rfl
def z40_g6 (S : Value → Heap → Prop) (x0 : Value) (H : Heap) : Prop :=
  bnd (binV .int .geq x0 (.int .i64 0)) fun v4 =>
  brV v4
  (bnd (binV .int .leq x0 (.int .i64 9007199254740991)) fun v7 =>
  S v7 H)
  (S (.bool false) H)
theorem z40_g6_e (S : Value → Heap → Prop) (x : Nat → Value) (H : Heap) : wpE tab P z40_pi z40_c4 (nQ fun l H => S (l.getD 2 undef) H) ((List.range 9).map x) H = z40_g6 S (x 0) H := by kernel_rfl
def loss_isTime (x0 : Value) (R : Value → Heap → Prop) (H : Heap) : Prop :=
  z40_g5 (fun x0 H => z40_g6 (fun x2 H => R x2 H) x0 H) x0 H
theorem z40_i (R : Value → Heap → Prop) (x0 : Value) (H : Heap) (h : loss_isTime x0 R H) : wpE tab P z40_pi z40_c1 (retQ tab z40_rs R) [x0, undef, undef, undef, undef, undef, undef, undef, undef] H := by
  obtain ⟨l, hl, el⟩ : ∃ l : List Value, l.length = 9 ∧ l = [x0, undef, undef, undef, undef, undef, undef, undef, undef] := ⟨_, rfl, rfl⟩
  rw [← el]
  have h : (fun (x0 : Value) => z40_g5 (fun x0 H => z40_g6 (fun x2 H => R x2 H) x0 H) x0 H) (l.getD 0 undef) := by rw [el]; exact h
  clear el
  refine seqI (c := z40_c1) rfl ?_
  refine regI hl (Eq.mpr (z40_g5_e _ (fun i => l.getD i undef) _) h) ?_
  clear h hl
  intro l H hl h
  refine thenN ?_
  refine seqI (c := z40_c3) rfl ?_
  refine regI hl (Eq.mpr (z40_g6_e _ (fun i => l.getD i undef) _) h) ?_
  clear h hl
  intro l H hl h
  refine thenN ?_
  refine retI rfl ?_
  exact h
theorem z40_ok : okB z40_pi z40_c1 = true := by kernel_rfl
theorem z40_ev0 (x0 : Value) (R : Value → Heap → Prop) (H : Heap) (h : loss_isTime x0 R H) : EvL P N.loss_isTime #[x0] H R :=
  EvF_intro (args := [x0]) (k := 8) (rs := z40_rs) tab_ok mixed Try.func40 (show Try.f40.body = some z40_c1 by kernel_rfl) Try.call40 Try.ntmps40 (by kernel_rfl) (okCode_of _ z40_ok) rfl (z40_i R x0 H h)
theorem z40_ev (x0 : Value) (R : Value → Heap → Prop) (H : Heap) (h : loss_isTime x0 R H) : EvF P N.loss_isTime #[x0] H R := .inl (z40_ev0 x0 R H h)
/- 41: slices.ContainsFunc[[]sounder/api.Packet,sounder/api.Packet] -/
def z41_rs : List ResultVar := [.tmp 4]
noncomputable def z41_c2 : Code := subC (bodyC Try.f41) [0]
noncomputable def z41_c4 : Code := subC (bodyC Try.f41) [1, 0]
noncomputable def z41_c3 : Code := .seq z41_c4 Code.ret
noncomputable def z41_c1 : Code := .seq z41_c2 z41_c3
def z41_pi (_ : Nat) : Pl := .nil
def z41_g5 (S : Value → Value → Heap → Prop) (x0 x1 : Value) (H : Heap) : Prop :=
  S x0 x1 H
theorem z41_g5_e (S : Value → Value → Heap → Prop) (x : Nat → Value) (H : Heap) : wpE tab P z41_pi z41_c2 (nQ fun l H => S (l.getD 0 undef) (l.getD 1 undef) H) ((List.range 9).map x) H = z41_g5 S (x 0) (x 1) H := by kernel_rfl
def z41_g6 (S : Value → Heap → Prop) (x0 x1 : Value) (H : Heap) : Prop :=
  EvF P N.slices_IndexFunc_Packet #[x0, x1] H fun v7 H1 =>
  bnd (binV .int .geq v7 (.int .i64 0)) fun v8 =>
  S v8 H1
theorem z41_g6_e (S : Value → Heap → Prop) (x : Nat → Value) (H : Heap) : wpE tab P z41_pi z41_c4 (nQ fun l H => S (l.getD 4 undef) H) ((List.range 9).map x) H = z41_g6 S (x 0) (x 1) H := by kernel_rfl
def slices_ContainsFunc_Packet (x0 x1 : Value) (R : Value → Heap → Prop) (H : Heap) : Prop :=
  z41_g5 (fun x0 x1 H => z41_g6 (fun x4 H => R x4 H) x0 x1 H) x0 x1 H
theorem z41_i (R : Value → Heap → Prop) (x0 x1 : Value) (H : Heap) (h : slices_ContainsFunc_Packet x0 x1 R H) : wpE tab P z41_pi z41_c1 (retQ tab z41_rs R) [x0, x1, undef, undef, undef, undef, undef, undef, undef] H := by
  obtain ⟨l, hl, el⟩ : ∃ l : List Value, l.length = 9 ∧ l = [x0, x1, undef, undef, undef, undef, undef, undef, undef] := ⟨_, rfl, rfl⟩
  rw [← el]
  have h : (fun (x0 x1 : Value) => z41_g5 (fun x0 x1 H => z41_g6 (fun x4 H => R x4 H) x0 x1 H) x0 x1 H) (l.getD 0 undef) (l.getD 1 undef) := by rw [el]; exact h
  clear el
  refine seqI (c := z41_c1) rfl ?_
  refine regI hl (Eq.mpr (z41_g5_e _ (fun i => l.getD i undef) _) h) ?_
  clear h hl
  intro l H hl h
  refine thenN ?_
  refine seqI (c := z41_c3) rfl ?_
  refine regI hl (Eq.mpr (z41_g6_e _ (fun i => l.getD i undef) _) h) ?_
  clear h hl
  intro l H hl h
  refine thenN ?_
  refine retI rfl ?_
  exact h
theorem z41_ok : okB z41_pi z41_c1 = true := by kernel_rfl
theorem z41_ev0 (x0 x1 : Value) (R : Value → Heap → Prop) (H : Heap) (h : slices_ContainsFunc_Packet x0 x1 R H) : EvL P N.slices_ContainsFunc_Packet #[x0, x1] H R :=
  EvF_intro (args := [x0, x1]) (k := 7) (rs := z41_rs) tab_ok mixed Try.func41 (show Try.f41.body = some z41_c1 by kernel_rfl) Try.call41 Try.ntmps41 (by kernel_rfl) (okCode_of _ z41_ok) rfl (z41_i R x0 x1 H h)
theorem z41_ev (x0 x1 : Value) (R : Value → Heap → Prop) (H : Heap) (h : slices_ContainsFunc_Packet x0 x1 R H) : EvF P N.slices_ContainsFunc_Packet #[x0, x1] H R := .inl (z41_ev0 x0 x1 R H h)
/- 42: sounder/sat.Num -/
def z42_rs : List ResultVar := [.tmp 2]
noncomputable def z42_c2 : Code := subC (bodyC Try.f42) [0]
noncomputable def z42_c4 : Code := subC (bodyC Try.f42) [1, 0]
noncomputable def z42_c3 : Code := .seq z42_c4 Code.ret
noncomputable def z42_c1 : Code := .seq z42_c2 z42_c3
def z42_pi (_ : Nat) : Pl := .nil
def z42_g5 (S : Value → Heap → Prop) (x0 : Value) (H : Heap) : Prop :=
  S x0 H
theorem z42_g5_e (S : Value → Heap → Prop) (x : Nat → Value) (H : Heap) : wpE tab P z42_pi z42_c2 (nQ fun l H => S (l.getD 0 undef) H) ((List.range 5).map x) H = z42_g5 S (x 0) H := by kernel_rfl
def z42_g6 (S : Value → Heap → Prop) (x0 : Value) (H : Heap) : Prop :=
  EvF P N.sat_clamp_int #[x0, (.int .i64 0), (.int .i64 9007199254740991)] H fun v4 H1 =>
  S v4 H1
theorem z42_g6_e (S : Value → Heap → Prop) (x : Nat → Value) (H : Heap) : wpE tab P z42_pi z42_c4 (nQ fun l H => S (l.getD 2 undef) H) ((List.range 5).map x) H = z42_g6 S (x 0) H := by kernel_rfl
def sat_Num (x0 : Value) (R : Value → Heap → Prop) (H : Heap) : Prop :=
  z42_g5 (fun x0 H => z42_g6 (fun x2 H => R x2 H) x0 H) x0 H
theorem z42_i (R : Value → Heap → Prop) (x0 : Value) (H : Heap) (h : sat_Num x0 R H) : wpE tab P z42_pi z42_c1 (retQ tab z42_rs R) [x0, undef, undef, undef, undef] H := by
  obtain ⟨l, hl, el⟩ : ∃ l : List Value, l.length = 5 ∧ l = [x0, undef, undef, undef, undef] := ⟨_, rfl, rfl⟩
  rw [← el]
  have h : (fun (x0 : Value) => z42_g5 (fun x0 H => z42_g6 (fun x2 H => R x2 H) x0 H) x0 H) (l.getD 0 undef) := by rw [el]; exact h
  clear el
  refine seqI (c := z42_c1) rfl ?_
  refine regI hl (Eq.mpr (z42_g5_e _ (fun i => l.getD i undef) _) h) ?_
  clear h hl
  intro l H hl h
  refine thenN ?_
  refine seqI (c := z42_c3) rfl ?_
  refine regI hl (Eq.mpr (z42_g6_e _ (fun i => l.getD i undef) _) h) ?_
  clear h hl
  intro l H hl h
  refine thenN ?_
  refine retI rfl ?_
  exact h
theorem z42_ok : okB z42_pi z42_c1 = true := by kernel_rfl
theorem z42_ev0 (x0 : Value) (R : Value → Heap → Prop) (H : Heap) (h : sat_Num x0 R H) : EvL P N.sat_Num #[x0] H R :=
  EvF_intro (args := [x0]) (k := 4) (rs := z42_rs) tab_ok mixed Try.func42 (show Try.f42.body = some z42_c1 by kernel_rfl) Try.call42 Try.ntmps42 (by kernel_rfl) (okCode_of _ z42_ok) rfl (z42_i R x0 H h)
theorem z42_ev (x0 : Value) (R : Value → Heap → Prop) (H : Heap) (h : sat_Num x0 R H) : EvF P N.sat_Num #[x0] H R := .inl (z42_ev0 x0 R H h)
/- 43: sounder/persist.pairs$1 -/
def z43_rs : List ResultVar := [.tmp 3]
noncomputable def z43_c2 : Code := subC (bodyC Try.f43) [0]
noncomputable def z43_c4 : Code := subC (bodyC Try.f43) [1, 0]
noncomputable def z43_c3 : Code := .seq z43_c4 Code.ret
noncomputable def z43_c1 : Code := .seq z43_c2 z43_c3
def z43_pi (_ : Nat) : Pl := .nil
def z43_g5 (S : Value → Value → Heap → Prop) (x0 x1 : Value) (H : Heap) : Prop :=
  newE 38 (Value.cells x0) H fun v2 H1 =>
  S x1 v2 H1
theorem z43_g5_e (S : Value → Value → Heap → Prop) (x : Nat → Value) (H : Heap) : wpE tab P z43_pi z43_c2 (nQ fun l H => S (l.getD 1 undef) (l.getD 2 undef) H) ((List.range 12).map x) H = z43_g5 S (x 0) (x 1) H := by kernel_rfl
def z43_g6 (S : Value → Heap → Prop) (x1 x2 : Value) (H : Heap) : Prop :=
  bnd (faV 3 x2) fun v4 =>
  bnd (ldE false 1 v4 H) fun v5 =>
  brV v5
  (bnd (faV 1 x2) fun v7 =>
  bnd (ldE false 1 v7 H) fun v8 =>
  bnd (ldE false 1 x1 H) fun v9 =>
  bnd (binV .int .gtr v8 v9) fun v10 =>
  S v10 H)
  (S (.bool false) H)
theorem z43_g6_e (S : Value → Heap → Prop) (x : Nat → Value) (H : Heap) : wpE tab P z43_pi z43_c4 (nQ fun l H => S (l.getD 3 undef) H) ((List.range 12).map x) H = z43_g6 S (x 1) (x 2) H := by kernel_rfl
def persist_pairs_1 (x0 x1 : Value) (R : Value → Heap → Prop) (H : Heap) : Prop :=
  z43_g5 (fun x1 x2 H => z43_g6 (fun x3 H => R x3 H) x1 x2 H) x0 x1 H
theorem z43_i (R : Value → Heap → Prop) (x0 x1 : Value) (H : Heap) (h : persist_pairs_1 x0 x1 R H) : wpE tab P z43_pi z43_c1 (retQ tab z43_rs R) [x0, x1, undef, undef, undef, undef, undef, undef, undef, undef, undef, undef] H := by
  obtain ⟨l, hl, el⟩ : ∃ l : List Value, l.length = 12 ∧ l = [x0, x1, undef, undef, undef, undef, undef, undef, undef, undef, undef, undef] := ⟨_, rfl, rfl⟩
  rw [← el]
  have h : (fun (x0 x1 : Value) => z43_g5 (fun x1 x2 H => z43_g6 (fun x3 H => R x3 H) x1 x2 H) x0 x1 H) (l.getD 0 undef) (l.getD 1 undef) := by rw [el]; exact h
  clear el
  refine seqI (c := z43_c1) rfl ?_
  refine regI hl (Eq.mpr (z43_g5_e _ (fun i => l.getD i undef) _) h) ?_
  clear h hl
  intro l H hl h
  refine thenN ?_
  refine seqI (c := z43_c3) rfl ?_
  refine regI hl (Eq.mpr (z43_g6_e _ (fun i => l.getD i undef) _) h) ?_
  clear h hl
  intro l H hl h
  refine thenN ?_
  refine retI rfl ?_
  exact h
theorem z43_ok : okB z43_pi z43_c1 = true := by kernel_rfl
theorem z43_ev0 (x0 x1 : Value) (R : Value → Heap → Prop) (H : Heap) (h : persist_pairs_1 x0 x1 R H) : EvL P N.persist_pairs_1 #[x0, x1] H R :=
  EvF_intro (args := [x0, x1]) (k := 10) (rs := z43_rs) tab_ok mixed Try.func43 (show Try.f43.body = some z43_c1 by kernel_rfl) Try.call43 Try.ntmps43 (by kernel_rfl) (okCode_of _ z43_ok) rfl (z43_i R x0 x1 H h)
theorem z43_ev (x0 x1 : Value) (R : Value → Heap → Prop) (H : Heap) (h : persist_pairs_1 x0 x1 R H) : EvF P N.persist_pairs_1 #[x0, x1] H R := .inl (z43_ev0 x0 x1 R H h)
/- 44: sounder/persist.pairs$2 -/
def z44_rs : List ResultVar := [.tmp 5]
noncomputable def z44_c2 : Code := subC (bodyC Try.f44) [0]
noncomputable def z44_c4 : Code := subC (bodyC Try.f44) [1, 0]
noncomputable def z44_c6 : Code := subC (bodyC Try.f44) [1, 1, 0]
noncomputable def z44_c5 : Code := .seq z44_c6 Code.ret
noncomputable def z44_c3 : Code := .seq z44_c4 z44_c5
noncomputable def z44_c1 : Code := .seq z44_c2 z44_c3
def z44_pi (_ : Nat) : Pl := .nil
def z44_g7 (S : Value → Value → Value → Heap → Prop) (x0 x1 x2 : Value) (H : Heap) : Prop :=
  newE 38 (Value.cells x0) H fun v3 H1 =>
  newE 38 (Value.cells x1) H1 fun v4 H2 =>
  S x2 v3 v4 H2
theorem z44_g7_e (S : Value → Value → Value → Heap → Prop) (x : Nat → Value) (H : Heap) : wpE tab P z44_pi z44_c2 (nQ fun l H => S (l.getD 2 undef) (l.getD 3 undef) (l.getD 4 undef) H) ((List.range 13).map x) H = z44_g7 S (x 0) (x 1) (x 2) H := by kernel_rfl
def z44_g8 (S : Value → Value → Heap → Prop) (x2 x3 x4 : Value) (H : Heap) : Prop :=
  S x2 (.func (.func N.persist_pairs_2_1) #[] #[x3, x4]) H
theorem z44_g8_e (S : Value → Value → Heap → Prop) (x : Nat → Value) (H : Heap) : wpE tab P z44_pi z44_c4 (nQ fun l H => S (l.getD 2 undef) (l.getD 6 undef) H) ((List.range 13).map x) H = z44_g8 S (x 2) (x 3) (x 4) H := by kernel_rfl
def z44_g9 (S : Value → Heap → Prop) (x2 x6 : Value) (H : Heap) : Prop :=
  bnd (ldE false 1 x2 H) fun v8 =>
  EvF P N.span_Set_Ranges #[v8] H fun v9 H1 =>
  EvF P N.slices_ContainsFunc_Range #[v9, x6] H1 fun v11 H2 =>
  bnd (unV .not v11) fun v12 =>
  S v12 H2
theorem z44_g9_e (S : Value → Heap → Prop) (x : Nat → Value) (H : Heap) : wpE tab P z44_pi z44_c6 (nQ fun l H => S (l.getD 5 undef) H) ((List.range 13).map x) H = z44_g9 S (x 2) (x 6) H := by kernel_rfl
def persist_pairs_2 (x0 x1 x2 : Value) (R : Value → Heap → Prop) (H : Heap) : Prop :=
  z44_g7 (fun x2 x3 x4 H => z44_g8 (fun x2 x6 H => z44_g9 (fun x5 H => R x5 H) x2 x6 H) x2 x3 x4 H) x0 x1 x2 H
theorem z44_i (R : Value → Heap → Prop) (x0 x1 x2 : Value) (H : Heap) (h : persist_pairs_2 x0 x1 x2 R H) : wpE tab P z44_pi z44_c1 (retQ tab z44_rs R) [x0, x1, x2, undef, undef, undef, undef, undef, undef, undef, undef, undef, undef] H := by
  obtain ⟨l, hl, el⟩ : ∃ l : List Value, l.length = 13 ∧ l = [x0, x1, x2, undef, undef, undef, undef, undef, undef, undef, undef, undef, undef] := ⟨_, rfl, rfl⟩
  rw [← el]
  have h : (fun (x0 x1 x2 : Value) => z44_g7 (fun x2 x3 x4 H => z44_g8 (fun x2 x6 H => z44_g9 (fun x5 H => R x5 H) x2 x6 H) x2 x3 x4 H) x0 x1 x2 H) (l.getD 0 undef) (l.getD 1 undef) (l.getD 2 undef) := by rw [el]; exact h
  clear el
  refine seqI (c := z44_c1) rfl ?_
  refine regI hl (Eq.mpr (z44_g7_e _ (fun i => l.getD i undef) _) h) ?_
  clear h hl
  intro l H hl h
  refine thenN ?_
  refine seqI (c := z44_c3) rfl ?_
  refine regI hl (Eq.mpr (z44_g8_e _ (fun i => l.getD i undef) _) h) ?_
  clear h hl
  intro l H hl h
  refine thenN ?_
  refine seqI (c := z44_c5) rfl ?_
  refine regI hl (Eq.mpr (z44_g9_e _ (fun i => l.getD i undef) _) h) ?_
  clear h hl
  intro l H hl h
  refine thenN ?_
  refine retI rfl ?_
  exact h
theorem z44_ok : okB z44_pi z44_c1 = true := by kernel_rfl
theorem z44_ev0 (x0 x1 x2 : Value) (R : Value → Heap → Prop) (H : Heap) (h : persist_pairs_2 x0 x1 x2 R H) : EvL P N.persist_pairs_2 #[x0, x1, x2] H R :=
  EvF_intro (args := [x0, x1, x2]) (k := 10) (rs := z44_rs) tab_ok mixed Try.func44 (show Try.f44.body = some z44_c1 by kernel_rfl) Try.call44 Try.ntmps44 (by kernel_rfl) (okCode_of _ z44_ok) rfl (z44_i R x0 x1 x2 H h)
theorem z44_ev (x0 x1 x2 : Value) (R : Value → Heap → Prop) (H : Heap) (h : persist_pairs_2 x0 x1 x2 R H) : EvF P N.persist_pairs_2 #[x0, x1, x2] H R := .inl (z44_ev0 x0 x1 x2 R H h)
/- 45: sounder/persist.pairs$2$1 -/
def z45_rs : List ResultVar := [.tmp 4]
noncomputable def z45_c2 : Code := subC (bodyC Try.f45) [0]
noncomputable def z45_c4 : Code := subC (bodyC Try.f45) [1, 0]
noncomputable def z45_c3 : Code := .seq z45_c4 Code.ret
noncomputable def z45_c1 : Code := .seq z45_c2 z45_c3
def z45_pi (_ : Nat) : Pl := .nil
def z45_g5 (S : Value → Value → Value → Heap → Prop) (x0 x1 x2 : Value) (H : Heap) : Prop :=
  newE 45 (Value.cells x0) H fun v3 H1 =>
  S x1 x2 v3 H1
theorem z45_g5_e (S : Value → Value → Value → Heap → Prop) (x : Nat → Value) (H : Heap) : wpE tab P z45_pi z45_c2 (nQ fun l H => S (l.getD 1 undef) (l.getD 2 undef) (l.getD 3 undef) H) ((List.range 18).map x) H = z45_g5 S (x 0) (x 1) (x 2) H := by kernel_rfl
def z45_g6 (S : Value → Heap → Prop) (x1 x2 x3 : Value) (H : Heap) : Prop :=
  bnd (faV 0 x3) fun v5 =>
  bnd (ldE false 1 v5 H) fun v6 =>
  bnd (faV 0 x1) fun v7 =>
  bnd (ldE false 1 v7 H) fun v8 =>
  bnd (binV .int .add v8 (.int .i64 1)) fun v9 =>
  bnd (foldV max2V v6 [v9]) fun v10 =>
  bnd (faV 1 x3) fun v11 =>
  bnd (ldE false 1 v11 H) fun v12 =>
  bnd (faV 0 x2) fun v13 =>
  bnd (ldE false 1 v13 H) fun v14 =>
  bnd (binV .int .sub v14 (.int .i64 1)) fun v15 =>
  bnd (foldV min2V v12 [v15]) fun v16 =>
  bnd (binV .int .leq v10 v16) fun v17 =>
  S v17 H
theorem z45_g6_e (S : Value → Heap → Prop) (x : Nat → Value) (H : Heap) : wpE tab P z45_pi z45_c4 (nQ fun l H => S (l.getD 4 undef) H) ((List.range 18).map x) H = z45_g6 S (x 1) (x 2) (x 3) H := by kernel_rfl
def persist_pairs_2_1 (x0 x1 x2 : Value) (R : Value → Heap → Prop) (H : Heap) : Prop :=
  z45_g5 (fun x1 x2 x3 H => z45_g6 (fun x4 H => R x4 H) x1 x2 x3 H) x0 x1 x2 H
theorem z45_i (R : Value → Heap → Prop) (x0 x1 x2 : Value) (H : Heap) (h : persist_pairs_2_1 x0 x1 x2 R H) : wpE tab P z45_pi z45_c1 (retQ tab z45_rs R) [x0, x1, x2, undef, undef, undef, undef, undef, undef, undef, undef, undef, undef, undef, undef, undef, undef, undef] H := by
  obtain ⟨l, hl, el⟩ : ∃ l : List Value, l.length = 18 ∧ l = [x0, x1, x2, undef, undef, undef, undef, undef, undef, undef, undef, undef, undef, undef, undef, undef, undef, undef] := ⟨_, rfl, rfl⟩
  rw [← el]
  have h : (fun (x0 x1 x2 : Value) => z45_g5 (fun x1 x2 x3 H => z45_g6 (fun x4 H => R x4 H) x1 x2 x3 H) x0 x1 x2 H) (l.getD 0 undef) (l.getD 1 undef) (l.getD 2 undef) := by rw [el]; exact h
  clear el
  refine seqI (c := z45_c1) rfl ?_
  refine regI hl (Eq.mpr (z45_g5_e _ (fun i => l.getD i undef) _) h) ?_
  clear h hl
  intro l H hl h
  refine thenN ?_
  refine seqI (c := z45_c3) rfl ?_
  refine regI hl (Eq.mpr (z45_g6_e _ (fun i => l.getD i undef) _) h) ?_
  clear h hl
  intro l H hl h
  refine thenN ?_
  refine retI rfl ?_
  exact h
theorem z45_ok : okB z45_pi z45_c1 = true := by kernel_rfl
theorem z45_ev0 (x0 x1 x2 : Value) (R : Value → Heap → Prop) (H : Heap) (h : persist_pairs_2_1 x0 x1 x2 R H) : EvL P N.persist_pairs_2_1 #[x0, x1, x2] H R :=
  EvF_intro (args := [x0, x1, x2]) (k := 15) (rs := z45_rs) tab_ok mixed Try.func45 (show Try.f45.body = some z45_c1 by kernel_rfl) Try.call45 Try.ntmps45 (by kernel_rfl) (okCode_of _ z45_ok) rfl (z45_i R x0 x1 x2 H h)
theorem z45_ev (x0 x1 x2 : Value) (R : Value → Heap → Prop) (H : Heap) (h : persist_pairs_2_1 x0 x1 x2 R H) : EvF P N.persist_pairs_2_1 #[x0, x1, x2] H R := .inl (z45_ev0 x0 x1 x2 R H h)
/- 46: slices.ContainsFunc[[]sounder/api.Range,sounder/api.Range] -/
def z46_rs : List ResultVar := [.tmp 4]
noncomputable def z46_c2 : Code := subC (bodyC Try.f46) [0]
noncomputable def z46_c4 : Code := subC (bodyC Try.f46) [1, 0]
noncomputable def z46_c3 : Code := .seq z46_c4 Code.ret
noncomputable def z46_c1 : Code := .seq z46_c2 z46_c3
def z46_pi (_ : Nat) : Pl := .nil
def z46_g5 (S : Value → Value → Heap → Prop) (x0 x1 : Value) (H : Heap) : Prop :=
  S x0 x1 H
theorem z46_g5_e (S : Value → Value → Heap → Prop) (x : Nat → Value) (H : Heap) : wpE tab P z46_pi z46_c2 (nQ fun l H => S (l.getD 0 undef) (l.getD 1 undef) H) ((List.range 9).map x) H = z46_g5 S (x 0) (x 1) H := by kernel_rfl
def z46_g6 (S : Value → Heap → Prop) (x0 x1 : Value) (H : Heap) : Prop :=
  EvF P N.slices_IndexFunc_Range #[x0, x1] H fun v7 H1 =>
  bnd (binV .int .geq v7 (.int .i64 0)) fun v8 =>
  S v8 H1
theorem z46_g6_e (S : Value → Heap → Prop) (x : Nat → Value) (H : Heap) : wpE tab P z46_pi z46_c4 (nQ fun l H => S (l.getD 4 undef) H) ((List.range 9).map x) H = z46_g6 S (x 0) (x 1) H := by kernel_rfl
def slices_ContainsFunc_Range (x0 x1 : Value) (R : Value → Heap → Prop) (H : Heap) : Prop :=
  z46_g5 (fun x0 x1 H => z46_g6 (fun x4 H => R x4 H) x0 x1 H) x0 x1 H
theorem z46_i (R : Value → Heap → Prop) (x0 x1 : Value) (H : Heap) (h : slices_ContainsFunc_Range x0 x1 R H) : wpE tab P z46_pi z46_c1 (retQ tab z46_rs R) [x0, x1, undef, undef, undef, undef, undef, undef, undef] H := by
  obtain ⟨l, hl, el⟩ : ∃ l : List Value, l.length = 9 ∧ l = [x0, x1, undef, undef, undef, undef, undef, undef, undef] := ⟨_, rfl, rfl⟩
  rw [← el]
  have h : (fun (x0 x1 : Value) => z46_g5 (fun x0 x1 H => z46_g6 (fun x4 H => R x4 H) x0 x1 H) x0 x1 H) (l.getD 0 undef) (l.getD 1 undef) := by rw [el]; exact h
  clear el
  refine seqI (c := z46_c1) rfl ?_
  refine regI hl (Eq.mpr (z46_g5_e _ (fun i => l.getD i undef) _) h) ?_
  clear h hl
  intro l H hl h
  refine thenN ?_
  refine seqI (c := z46_c3) rfl ?_
  refine regI hl (Eq.mpr (z46_g6_e _ (fun i => l.getD i undef) _) h) ?_
  clear h hl
  intro l H hl h
  refine thenN ?_
  refine retI rfl ?_
  exact h
theorem z46_ok : okB z46_pi z46_c1 = true := by kernel_rfl
theorem z46_ev0 (x0 x1 : Value) (R : Value → Heap → Prop) (H : Heap) (h : slices_ContainsFunc_Range x0 x1 R H) : EvL P N.slices_ContainsFunc_Range #[x0, x1] H R :=
  EvF_intro (args := [x0, x1]) (k := 7) (rs := z46_rs) tab_ok mixed Try.func46 (show Try.f46.body = some z46_c1 by kernel_rfl) Try.call46 Try.ntmps46 (by kernel_rfl) (okCode_of _ z46_ok) rfl (z46_i R x0 x1 H h)
theorem z46_ev (x0 x1 : Value) (R : Value → Heap → Prop) (H : Heap) (h : slices_ContainsFunc_Range x0 x1 R H) : EvF P N.slices_ContainsFunc_Range #[x0, x1] H R := .inl (z46_ev0 x0 x1 R H h)
/- 47: (*sounder/span.Set).Ranges -/
def z47_rs : List ResultVar := [.tmp 2]
noncomputable def z47_c2 : Code := subC (bodyC Try.f47) [0]
noncomputable def z47_c5 : Code := subC (bodyC Try.f47) [1, 0, 0]
noncomputable def z47_c8 : Code := subC (bodyC Try.f47) [1, 0, 1, 0, 0]
noncomputable def z47_c7 : Code := .seq z47_c8 Code.ret
noncomputable def z47_c6 : Code := .cond (.tmp 4) z47_c7 Code.skip
noncomputable def z47_c4 : Code := .seq z47_c5 z47_c6
noncomputable def z47_c10 : Code := subC (bodyC Try.f47) [1, 1, 0]
noncomputable def z47_c9 : Code := .seq z47_c10 Code.ret
noncomputable def z47_c3 : Code := .seq z47_c4 z47_c9
noncomputable def z47_c1 : Code := .seq z47_c2 z47_c3
def z47_pi (_ : Nat) : Pl := .nil
def z47_g11 (S : Value → Heap → Prop) (x0 : Value) (H : Heap) : Prop :=
  S x0 H
theorem z47_g11_e (S : Value → Heap → Prop) (x : Nat → Value) (H : Heap) : wpE tab P z47_pi z47_c2 (nQ fun l H => S (l.getD 0 undef) H) ((List.range 8).map x) H = z47_g11 S (x 0) H := by kernel_rfl
def z47_g12 (S : Value → Value → Heap → Prop) (x0 : Value) (H : Heap) : Prop :=
  EvF P N.span_Set_none #[x0] H fun v4 H1 =>
  S x0 v4 H1
theorem z47_g12_e (S : Value → Value → Heap → Prop) (x : Nat → Value) (H : Heap) : wpE tab P z47_pi z47_c5 (nQ fun l H => S (l.getD 0 undef) (l.getD 4 undef) H) ((List.range 8).map x) H = z47_g12 S (x 0) H := by kernel_rfl
def z47_g13 (S : Value → Heap → Prop) (H : Heap) : Prop :=
  S (.slice none 0 0) H
theorem z47_g13_e (S : Value → Heap → Prop) (x : Nat → Value) (H : Heap) : wpE tab P z47_pi z47_c8 (nQ fun l H => S (l.getD 2 undef) H) ((List.range 8).map x) H = z47_g13 S  H := by kernel_rfl
def z47_g14 (S : Value → Heap → Prop) (x0 : Value) (H : Heap) : Prop :=
  EvF P N.span_Set_falling #[x0] H fun v6 H1 =>
  EvF P N.slices_Collect_Range #[v6] H1 fun v7 H2 =>
  S v7 H2
theorem z47_g14_e (S : Value → Heap → Prop) (x : Nat → Value) (H : Heap) : wpE tab P z47_pi z47_c10 (nQ fun l H => S (l.getD 2 undef) H) ((List.range 8).map x) H = z47_g14 S (x 0) H := by kernel_rfl
def span_Set_Ranges (x0 : Value) (R : Value → Heap → Prop) (H : Heap) : Prop :=
  z47_g11 (fun x0 H => z47_g12 (fun x0 x4 H => brV x4
  (z47_g13 (fun x2 H => R x2 H) H)
  (z47_g14 (fun x2 H => R x2 H) x0 H)) x0 H) x0 H
theorem z47_i (R : Value → Heap → Prop) (x0 : Value) (H : Heap) (h : span_Set_Ranges x0 R H) : wpE tab P z47_pi z47_c1 (retQ tab z47_rs R) [x0, undef, undef, undef, undef, undef, undef, undef] H := by
  obtain ⟨l, hl, el⟩ : ∃ l : List Value, l.length = 8 ∧ l = [x0, undef, undef, undef, undef, undef, undef, undef] := ⟨_, rfl, rfl⟩
  rw [← el]
  have h : (fun (x0 : Value) => z47_g11 (fun x0 H => z47_g12 (fun x0 x4 H => brV x4
(z47_g13 (fun x2 H => R x2 H) H)
(z47_g14 (fun x2 H => R x2 H) x0 H)) x0 H) x0 H) (l.getD 0 undef) := by rw [el]; exact h
  clear el
  refine seqI (c := z47_c1) rfl ?_
  refine regI hl (Eq.mpr (z47_g11_e _ (fun i => l.getD i undef) _) h) ?_
  clear h hl
  intro l H hl h
  refine thenN ?_
  refine seqI (c := z47_c3) rfl ?_
  refine seqI (c := z47_c4) rfl ?_
  refine regI hl (Eq.mpr (z47_g12_e _ (fun i => l.getD i undef) _) h) ?_
  clear h hl
  intro l H hl h
  refine thenN ?_
  refine condI (c := z47_c6) rfl h ?_ ?_
  · clear h; intro h
    refine seqI (c := z47_c7) rfl ?_
    refine regI hl (Eq.mpr (z47_g13_e _ (fun i => l.getD i undef) _) h) ?_
    clear h hl
    intro l H hl h
    refine thenN ?_
    refine retI rfl ?_
    refine thenR ?_
    exact h
  · clear h; intro h
    refine skipI rfl ?_
    refine thenN ?_
    refine seqI (c := z47_c9) rfl ?_
    refine regI hl (Eq.mpr (z47_g14_e _ (fun i => l.getD i undef) _) h) ?_
    clear h hl
    intro l H hl h
    refine thenN ?_
    refine retI rfl ?_
    exact h
theorem z47_ok : okB z47_pi z47_c1 = true := by kernel_rfl
theorem z47_ev0 (x0 : Value) (R : Value → Heap → Prop) (H : Heap) (h : span_Set_Ranges x0 R H) : EvL P N.span_Set_Ranges #[x0] H R :=
  EvF_intro (args := [x0]) (k := 7) (rs := z47_rs) tab_ok mixed Try.func47 (show Try.f47.body = some z47_c1 by kernel_rfl) Try.call47 Try.ntmps47 (by kernel_rfl) (okCode_of _ z47_ok) rfl (z47_i R x0 H h)
theorem z47_ev (x0 : Value) (R : Value → Heap → Prop) (H : Heap) (h : span_Set_Ranges x0 R H) : EvF P N.span_Set_Ranges #[x0] H R := .inl (z47_ev0 x0 R H h)
/- 48: sounder/persist.pairs$3 -/
def z48_rs : List ResultVar := []
noncomputable def z48_c2 : Code := subC (bodyC Try.f48) [0]
noncomputable def z48_c6 : Code := subC (bodyC Try.f48) [1, 0, 0, 0]
noncomputable def z48_c9 : Code := .exit 0
noncomputable def z48_c8 : Code := .cond (.tmp 12) Code.skip z48_c9
noncomputable def z48_c13 : Code := subC (bodyC Try.f48) [1, 0, 0, 1, 1, 0, 0, 0]
noncomputable def z48_c15 : Code := subC (bodyC Try.f48) [1, 0, 0, 1, 1, 0, 0, 1, 0]
noncomputable def z48_c19 : Code := subC (bodyC Try.f48) [1, 0, 0, 1, 1, 0, 0, 1, 1, 0, 0, 0]
noncomputable def z48_c22 : Code := .exit 2
noncomputable def z48_c21 : Code := .cond (.tmp 22) Code.skip z48_c22
noncomputable def z48_c26 : Code := subC (bodyC Try.f48) [1, 0, 0, 1, 1, 0, 0, 1, 1, 0, 0, 1, 1, 0, 0, 0]
noncomputable def z48_c28 : Code := subC (bodyC Try.f48) [1, 0, 0, 1, 1, 0, 0, 1, 1, 0, 0, 1, 1, 0, 0, 1, 0]
noncomputable def z48_c29 : Code := .cond (.tmp 52) Code.ret Code.skip
noncomputable def z48_c27 : Code := .seq z48_c28 z48_c29
noncomputable def z48_c25 : Code := .seq z48_c26 z48_c27
noncomputable def z48_c24 : Code := .block 3 z48_c25
noncomputable def z48_c30 : Code := subC (bodyC Try.f48) [1, 0, 0, 1, 1, 0, 0, 1, 1, 0, 0, 1, 1, 1]
noncomputable def z48_c23 : Code := .seq z48_c24 z48_c30
noncomputable def z48_c20 : Code := .seq z48_c21 z48_c23
noncomputable def z48_c18 : Code := .seq z48_c19 z48_c20
noncomputable def z48_c17 : Code := .loop z48_c18
noncomputable def z48_c16 : Code := .block 2 z48_c17
noncomputable def z48_c14 : Code := .seq z48_c15 z48_c16
noncomputable def z48_c12 : Code := .seq z48_c13 z48_c14
noncomputable def z48_c11 : Code := .block 1 z48_c12
noncomputable def z48_c31 : Code := subC (bodyC Try.f48) [1, 0, 0, 1, 1, 1]
noncomputable def z48_c10 : Code := .seq z48_c11 z48_c31
noncomputable def z48_c7 : Code := .seq z48_c8 z48_c10
noncomputable def z48_c5 : Code := .seq z48_c6 z48_c7
noncomputable def z48_c4 : Code := .loop z48_c5
noncomputable def z48_c3 : Code := .block 0 z48_c4
noncomputable def z48_c1 : Code := .seq z48_c2 z48_c3
def z48_pi (_ : Nat) : Pl := .nil
def z48_g32 (S : Value → Value → Value → Value → Value → Value → Value → Heap → Prop) (x0 x1 x2 x3 : Value) (H : Heap) : Prop :=
  bnd (ldE false 1 x1 H) fun v9 =>
  bnd (lenV v9) fun v10 =>
  S x0 x1 x2 x3 v9 v10 (.int .i64 0) H
theorem z48_g32_e (S : Value → Value → Value → Value → Value → Value → Value → Heap → Prop) (x : Nat → Value) (H : Heap) : wpE tab P z48_pi z48_c2 (nQ fun l H => S (l.getD 0 undef) (l.getD 1 undef) (l.getD 2 undef) (l.getD 3 undef) (l.getD 9 undef) (l.getD 10 undef) (l.getD 11 undef) H) ((List.range 55).map x) H = z48_g32 S (x 0) (x 1) (x 2) (x 3) H := by kernel_rfl
def z48_g34 (S : Value → Value → Value → Value → Value → Value → Value → Value → Heap → Prop) (x0 x1 x2 x3 x9 x10 x11 : Value) (H : Heap) : Prop :=
  bnd (binV .int .lss x11 x10) fun v12 =>
  S x0 x1 x2 x3 x9 x10 x11 v12 H
theorem z48_g34_e (S : Value → Value → Value → Value → Value → Value → Value → Value → Heap → Prop) (x : Nat → Value) (H : Heap) : wpE tab P z48_pi z48_c6 (nQ fun l H => S (l.getD 0 undef) (l.getD 1 undef) (l.getD 2 undef) (l.getD 3 undef) (l.getD 9 undef) (l.getD 10 undef) (l.getD 11 undef) (l.getD 12 undef) H) ((List.range 55).map x) H = z48_g34 S (x 0) (x 1) (x 2) (x 3) (x 9) (x 10) (x 11) H := by kernel_rfl
def z48_g35 (S : Value → Value → Value → Value → Value → Value → Value → Value → Value → Heap → Prop) (x0 x1 x2 x3 x9 x10 x11 : Value) (H : Heap) : Prop :=
  bnd (ixSV 6 x9 x11) fun v14 =>
  bnd (ldE true 6 v14 H) fun v15 =>
  newE 38 #[(.int .i64 0), (.int .i64 0), (.int .i64 0), (.bool false), (.bool false), (.bool false)] H fun v6 H1 =>
  bnd (stE 6 v6 v15 H1) fun H2 =>
  S x0 x1 x2 x3 x11 v6 x9 x10 x11 H2
theorem z48_g35_e (S : Value → Value → Value → Value → Value → Value → Value → Value → Value → Heap → Prop) (x : Nat → Value) (H : Heap) : wpE tab P z48_pi z48_c13 (nQ fun l H => S (l.getD 0 undef) (l.getD 1 undef) (l.getD 2 undef) (l.getD 3 undef) (l.getD 5 undef) (l.getD 6 undef) (l.getD 9 undef) (l.getD 10 undef) (l.getD 11 undef) H) ((List.range 55).map x) H = z48_g35 S (x 0) (x 1) (x 2) (x 3) (x 9) (x 10) (x 11) H := by kernel_rfl
def z48_g36 (S : Value → Value → Value → Value → Value → Value → Value → Value → Value → Value → Value → Heap → Prop) (x0 x1 x2 x3 x5 x6 x9 x10 x11 : Value) (H : Heap) : Prop :=
  bnd (ldE false 1 x1 H) fun v16 =>
  bnd (binV .int .add x5 (.int .i64 1)) fun v18 =>
  bnd (sliceV 6 v16 (some v18) none) fun v19 =>
  bnd (lenV v19) fun v20 =>
  S x0 x1 x2 x3 x6 x9 x10 x11 v19 v20 (.int .i64 0) H
theorem z48_g36_e (S : Value → Value → Value → Value → Value → Value → Value → Value → Value → Value → Value → Heap → Prop) (x : Nat → Value) (H : Heap) : wpE tab P z48_pi z48_c15 (nQ fun l H => S (l.getD 0 undef) (l.getD 1 undef) (l.getD 2 undef) (l.getD 3 undef) (l.getD 6 undef) (l.getD 9 undef) (l.getD 10 undef) (l.getD 11 undef) (l.getD 19 undef) (l.getD 20 undef) (l.getD 21 undef) H) ((List.range 55).map x) H = z48_g36 S (x 0) (x 1) (x 2) (x 3) (x 5) (x 6) (x 9) (x 10) (x 11) H := by kernel_rfl
def z48_g38 (S : Value → Value → Value → Value → Value → Value → Value → Value → Value → Value → Value → Value → Heap → Prop) (x0 x1 x2 x3 x6 x9 x10 x11 x19 x20 x21 : Value) (H : Heap) : Prop :=
  bnd (binV .int .lss x21 x20) fun v22 =>
  S x0 x1 x2 x3 x6 x9 x10 x11 x19 x20 x21 v22 H
theorem z48_g38_e (S : Value → Value → Value → Value → Value → Value → Value → Value → Value → Value → Value → Value → Heap → Prop) (x : Nat → Value) (H : Heap) : wpE tab P z48_pi z48_c19 (nQ fun l H => S (l.getD 0 undef) (l.getD 1 undef) (l.getD 2 undef) (l.getD 3 undef) (l.getD 6 undef) (l.getD 9 undef) (l.getD 10 undef) (l.getD 11 undef) (l.getD 19 undef) (l.getD 20 undef) (l.getD 21 undef) (l.getD 22 undef) H) ((List.range 55).map x) H = z48_g38 S (x 0) (x 1) (x 2) (x 3) (x 6) (x 9) (x 10) (x 11) (x 19) (x 20) (x 21) H := by kernel_rfl
def z48_g39 (S : Value → Value → Value → Value → Value → Value → Value → Value → Value → Value → Value → Value → Heap → Prop) (x0 x1 x2 x3 x6 x9 x10 x11 x19 x20 x21 : Value) (H : Heap) : Prop :=
  bnd (ixSV 6 x19 x21) fun v23 =>
  bnd (ldE true 6 v23 H) fun v24 =>
  newE 38 #[(.int .i64 0), (.int .i64 0), (.int .i64 0), (.bool false), (.bool false), (.bool false)] H fun v8 H1 =>
  bnd (stE 6 v8 v24 H1) fun H2 =>
  S x0 x1 x2 x3 x6 v8 x9 x10 x11 x19 x20 x21 H2
theorem z48_g39_e (S : Value → Value → Value → Value → Value → Value → Value → Value → Value → Value → Value → Value → Heap → Prop) (x : Nat → Value) (H : Heap) : wpE tab P z48_pi z48_c26 (nQ fun l H => S (l.getD 0 undef) (l.getD 1 undef) (l.getD 2 undef) (l.getD 3 undef) (l.getD 6 undef) (l.getD 8 undef) (l.getD 9 undef) (l.getD 10 undef) (l.getD 11 undef) (l.getD 19 undef) (l.getD 20 undef) (l.getD 21 undef) H) ((List.range 55).map x) H = z48_g39 S (x 0) (x 1) (x 2) (x 3) (x 6) (x 9) (x 10) (x 11) (x 19) (x 20) (x 21) H := by kernel_rfl
def z48_g40 (S : Value → Value → Value → Value → Value → Value → Value → Value → Value → Value → Value → Value → Heap → Prop) (x0 x1 x2 x3 x6 x8 x9 x10 x11 x19 x20 x21 : Value) (H : Heap) : Prop :=
  bnd (ldE false 1 x2 H) fun v25 =>
  bnd (ldE true 6 x6 H) fun v26 =>
  callV P v25 [v26] H fun v27 H1 =>
  brV v27
  (bnd (ldE false 1 x2 H1) fun v29 =>
  bnd (ldE true 6 x8 H1) fun v30 =>
  callV P v29 [v30] H1 fun v31 H2 =>
  brV v31
  (bnd (faV 1 x8) fun v34 =>
  bnd (ldE false 1 v34 H2) fun v35 =>
  bnd (faV 1 x6) fun v36 =>
  bnd (ldE false 1 v36 H2) fun v37 =>
  bnd (binV .int .geq v35 v37) fun v38 =>
  brV v38
  (bnd (ldE false 1 x3 H2) fun v41 =>
  bnd (ldE true 6 x6 H2) fun v42 =>
  bnd (ldE true 6 x8 H2) fun v43 =>
  callV P v41 [v42, v43] H2 fun v44 H3 =>
  brV v44
  (bnd (ldE true 6 x6 H3) fun v48 =>
  bnd (ldE true 6 x8 H3) fun v49 =>
  callV P x0 [v48, v49] H3 fun v50 H4 =>
  bnd (unV .not v50) fun v51 =>
  S x0 x1 x2 x3 x6 x9 x10 x11 x19 x20 x21 v51 H4)
  (S x0 x1 x2 x3 x6 x9 x10 x11 x19 x20 x21 (.bool false) H3))
  (S x0 x1 x2 x3 x6 x9 x10 x11 x19 x20 x21 (.bool false) H2))
  (S x0 x1 x2 x3 x6 x9 x10 x11 x19 x20 x21 (.bool false) H2))
  (S x0 x1 x2 x3 x6 x9 x10 x11 x19 x20 x21 (.bool false) H1)
theorem z48_g40_e (S : Value → Value → Value → Value → Value → Value → Value → Value → Value → Value → Value → Value → Heap → Prop) (x : Nat → Value) (H : Heap) : wpE tab P z48_pi z48_c28 (nQ fun l H => S (l.getD 0 undef) (l.getD 1 undef) (l.getD 2 undef) (l.getD 3 undef) (l.getD 6 undef) (l.getD 9 undef) (l.getD 10 undef) (l.getD 11 undef) (l.getD 19 undef) (l.getD 20 undef) (l.getD 21 undef) (l.getD 52 undef) H) ((List.range 55).map x) H = z48_g40 S (x 0) (x 1) (x 2) (x 3) (x 6) (x 8) (x 9) (x 10) (x 11) (x 19) (x 20) (x 21) H := by kernel_rfl
def z48_g41 (S : Value → Value → Value → Value → Value → Value → Value → Value → Value → Value → Value → Heap → Prop) (x0 x1 x2 x3 x6 x9 x10 x11 x19 x20 x21 : Value) (H : Heap) : Prop :=
  bnd (binV .int .add x21 (.int .i64 1)) fun v53 =>
  S x0 x1 x2 x3 x6 x9 x10 x11 x19 x20 v53 H
theorem z48_g41_e (S : Value → Value → Value → Value → Value → Value → Value → Value → Value → Value → Value → Heap → Prop) (x : Nat → Value) (H : Heap) : wpE tab P z48_pi z48_c30 (nQ fun l H => S (l.getD 0 undef) (l.getD 1 undef) (l.getD 2 undef) (l.getD 3 undef) (l.getD 6 undef) (l.getD 9 undef) (l.getD 10 undef) (l.getD 11 undef) (l.getD 19 undef) (l.getD 20 undef) (l.getD 21 undef) H) ((List.range 55).map x) H = z48_g41 S (x 0) (x 1) (x 2) (x 3) (x 6) (x 9) (x 10) (x 11) (x 19) (x 20) (x 21) H := by kernel_rfl
def z48_g42 (S : Value → Value → Value → Value → Value → Value → Value → Heap → Prop) (x0 x1 x2 x3 x9 x10 x11 : Value) (H : Heap) : Prop :=
  bnd (binV .int .add x11 (.int .i64 1)) fun v54 =>
  S x0 x1 x2 x3 x9 x10 v54 H
theorem z48_g42_e (S : Value → Value → Value → Value → Value → Value → Value → Heap → Prop) (x : Nat → Value) (H : Heap) : wpE tab P z48_pi z48_c31 (nQ fun l H => S (l.getD 0 undef) (l.getD 1 undef) (l.getD 2 undef) (l.getD 3 undef) (l.getD 9 undef) (l.getD 10 undef) (l.getD 11 undef) H) ((List.range 55).map x) H = z48_g42 S (x 0) (x 1) (x 2) (x 3) (x 9) (x 10) (x 11) H := by kernel_rfl
def z48_s37 (x0 x1 x2 x3 x6 x9 x10 x11 x19 x20 x21 : Value) (K1 : Value → Value → Value → Value → Value → Value → Value →  Heap → Prop) (K2 : Value → Value → Value → Value → Value → Value → Value → Value → Value → Value → Value →  Heap → Prop) (R : Value → Heap → Prop) (H : Heap) : Prop :=
  z48_g38 (fun x0 x1 x2 x3 x6 x9 x10 x11 x19 x20 x21 x22 H => brV x22
  (z48_g39 (fun x0 x1 x2 x3 x6 x8 x9 x10 x11 x19 x20 x21 H => z48_g40 (fun x0 x1 x2 x3 x6 x9 x10 x11 x19 x20 x21 x52 H => brV x52
  (R (.tuple #[]) H)
  (z48_g41 (fun x0 x1 x2 x3 x6 x9 x10 x11 x19 x20 x21 H => K2 x0 x1 x2 x3 x6 x9 x10 x11 x19 x20 x21 H) x0 x1 x2 x3 x6 x9 x10 x11 x19 x20 x21 H)) x0 x1 x2 x3 x6 x8 x9 x10 x11 x19 x20 x21 H) x0 x1 x2 x3 x6 x9 x10 x11 x19 x20 x21 H)
  (z48_g42 (fun x0 x1 x2 x3 x9 x10 x11 H => K1 x0 x1 x2 x3 x9 x10 x11 H) x0 x1 x2 x3 x9 x10 x11 H)) x0 x1 x2 x3 x6 x9 x10 x11 x19 x20 x21 H
noncomputable def z48_q43 (R : Value → Heap → Prop) : Exit → List Value → Heap → Prop := (retQ tab z48_rs R)
noncomputable def z48_q44 (R : Value → Heap → Prop) : Exit → List Value → Heap → Prop := (blkE 0 (z48_q43 R))
noncomputable def z48_q45 (K1 : Value → Value → Value → Value → Value → Value → Value →  Heap → Prop) (R : Value → Heap → Prop) : Exit → List Value → Heap → Prop := (thenE (fun l H => K1 (l.getD 0 undef) (l.getD 1 undef) (l.getD 2 undef) (l.getD 3 undef) (l.getD 9 undef) (l.getD 10 undef) (l.getD 11 undef) H) (z48_q44 R))
noncomputable def z48_q46 (K1 : Value → Value → Value → Value → Value → Value → Value →  Heap → Prop) (R : Value → Heap → Prop) : Exit → List Value → Heap → Prop := (thenE (fun l H => wpE tab P z48_pi z48_c31 (z48_q45 K1 R) l H) (z48_q45 K1 R))
noncomputable def z48_q47 (K1 : Value → Value → Value → Value → Value → Value → Value →  Heap → Prop) (R : Value → Heap → Prop) : Exit → List Value → Heap → Prop := (blkE 1 (z48_q46 K1 R))
noncomputable def z48_q48 (K1 : Value → Value → Value → Value → Value → Value → Value →  Heap → Prop) (R : Value → Heap → Prop) : Exit → List Value → Heap → Prop := (blkE 2 (z48_q47 K1 R))
noncomputable def z48_q49 (K1 : Value → Value → Value → Value → Value → Value → Value →  Heap → Prop) (K2 : Value → Value → Value → Value → Value → Value → Value → Value → Value → Value → Value →  Heap → Prop) (R : Value → Heap → Prop) : Exit → List Value → Heap → Prop := (thenE (fun l H => K2 (l.getD 0 undef) (l.getD 1 undef) (l.getD 2 undef) (l.getD 3 undef) (l.getD 6 undef) (l.getD 9 undef) (l.getD 10 undef) (l.getD 11 undef) (l.getD 19 undef) (l.getD 20 undef) (l.getD 21 undef) H) (z48_q48 K1 R))
theorem z48_s37_i (K1 : Value → Value → Value → Value → Value → Value → Value →  Heap → Prop) (K2 : Value → Value → Value → Value → Value → Value → Value → Value → Value → Value → Value →  Heap → Prop) (R : Value → Heap → Prop) (l : List Value) (H : Heap) (hl : l.length = 55) (h : z48_s37 (l.getD 0 undef) (l.getD 1 undef) (l.getD 2 undef) (l.getD 3 undef) (l.getD 6 undef) (l.getD 9 undef) (l.getD 10 undef) (l.getD 11 undef) (l.getD 19 undef) (l.getD 20 undef) (l.getD 21 undef) K1 K2 R H) : wpE tab P z48_pi z48_c18 (z48_q49 K1 K2 R) l H := by
  refine seqI (c := z48_c18) rfl ?_
  refine regI hl (Eq.mpr (z48_g38_e _ (fun i => l.getD i undef) _) h) ?_
  clear h hl
  intro l H hl h
  refine thenN ?_
  refine seqI (c := z48_c20) rfl ?_
  refine condI (c := z48_c21) rfl h ?_ ?_
  · clear h; intro h
    refine skipI rfl ?_
    refine thenN ?_
    refine seqI (c := z48_c23) rfl ?_
    refine blockI (c := z48_c24) rfl ?_
    refine seqI (c := z48_c25) rfl ?_
    refine regI hl (Eq.mpr (z48_g39_e _ (fun i => l.getD i undef) _) h) ?_
    clear h hl
    intro l H hl h
    refine thenN ?_
    refine seqI (c := z48_c27) rfl ?_
    refine regI hl (Eq.mpr (z48_g40_e _ (fun i => l.getD i undef) _) h) ?_
    clear h hl
    intro l H hl h
    refine thenN ?_
    refine condI (c := z48_c29) rfl h ?_ ?_
    · clear h; intro h
      refine retI rfl ?_
      refine blkR ?_
      refine thenR ?_
      refine thenR ?_
      refine blkR ?_
      refine blkR ?_
      refine thenR ?_
      refine thenR ?_
      refine blkR ?_
      exact h
    · clear h; intro h
      refine skipI rfl ?_
      refine blkN ?_
      refine thenN ?_
      refine regI hl (Eq.mpr (z48_g41_e _ (fun i => l.getD i undef) _) h) ?_
      clear h hl
      intro l H hl h
      refine thenN ?_
      exact h
  · clear h; intro h
    refine exitI (c := z48_c22) rfl ?_
    refine thenX ?_
    refine thenX ?_
    refine blkX ?_
    refine blkN ?_
    refine thenN ?_
    refine regI hl (Eq.mpr (z48_g42_e _ (fun i => l.getD i undef) _) h) ?_
    clear h hl
    intro l H hl h
    refine thenN ?_
    exact h
def z48_l50 (x0 x1 x2 x3 x6 x9 x10 x11 x19 x20 x21 : Value) (K1 : Value → Value → Value → Value → Value → Value → Value →  Heap → Prop) (R : Value → Heap → Prop) (H : Heap) : Prop :=
  ∃ (I : Value → Heap → Prop) (μ : Value → Heap → Nat), I x21 H ∧ ∀ (y21 : Value) (H : Heap), I y21 H → z48_s37 x0 x1 x2 x3 x6 x9 x10 x11 x19 x20 y21 K1 (fun z0 z1 z2 z3 z6 z9 z10 z11 z19 z20 z21 H' => z0 = x0 ∧ z1 = x1 ∧ z2 = x2 ∧ z3 = x3 ∧ z6 = x6 ∧ z9 = x9 ∧ z10 = x10 ∧ z11 = x11 ∧ z19 = x19 ∧ z20 = x20 ∧ (I z21 H' ∧ μ z21 H' < μ y21 H)) R H
def z48_s33 (x0 x1 x2 x3 x9 x10 x11 : Value) (K1 : Value → Value → Value → Value → Value → Value → Value →  Heap → Prop) (R : Value → Heap → Prop) (H : Heap) : Prop :=
  z48_g34 (fun x0 x1 x2 x3 x9 x10 x11 x12 H => brV x12
  (z48_g35 (fun x0 x1 x2 x3 x5 x6 x9 x10 x11 H => z48_g36 (fun x0 x1 x2 x3 x6 x9 x10 x11 x19 x20 x21 H => z48_l50 x0 x1 x2 x3 x6 x9 x10 x11 x19 x20 x21 K1 R H) x0 x1 x2 x3 x5 x6 x9 x10 x11 H) x0 x1 x2 x3 x9 x10 x11 H)
  (R (.tuple #[]) H)) x0 x1 x2 x3 x9 x10 x11 H
theorem z48_s33_i (K1 : Value → Value → Value → Value → Value → Value → Value →  Heap → Prop) (R : Value → Heap → Prop) (l : List Value) (H : Heap) (hl : l.length = 55) (h : z48_s33 (l.getD 0 undef) (l.getD 1 undef) (l.getD 2 undef) (l.getD 3 undef) (l.getD 9 undef) (l.getD 10 undef) (l.getD 11 undef) K1 R H) : wpE tab P z48_pi z48_c5 (z48_q45 K1 R) l H := by
  refine seqI (c := z48_c5) rfl ?_
  refine regI hl (Eq.mpr (z48_g34_e _ (fun i => l.getD i undef) _) h) ?_
  clear h hl
  intro l H hl h
  refine thenN ?_
  refine seqI (c := z48_c7) rfl ?_
  refine condI (c := z48_c8) rfl h ?_ ?_
  · clear h; intro h
    refine skipI rfl ?_
    refine thenN ?_
    refine seqI (c := z48_c10) rfl ?_
    refine blockI (c := z48_c11) rfl ?_
    refine seqI (c := z48_c12) rfl ?_
    refine regI hl (Eq.mpr (z48_g35_e _ (fun i => l.getD i undef) _) h) ?_
    clear h hl
    intro l H hl h
    refine thenN ?_
    refine seqI (c := z48_c14) rfl ?_
    refine regI hl (Eq.mpr (z48_g36_e _ (fun i => l.getD i undef) _) h) ?_
    clear h hl
    intro l H hl h
    refine thenN ?_
    refine blockI (c := z48_c16) rfl ?_
    obtain ⟨I, μ, h0, hr⟩ := h
    refine loopI (c := z48_c17) rfl (fun l' H' => l'.getD 0 undef = l.getD 0 undef ∧ l'.getD 1 undef = l.getD 1 undef ∧ l'.getD 2 undef = l.getD 2 undef ∧ l'.getD 3 undef = l.getD 3 undef ∧ l'.getD 6 undef = l.getD 6 undef ∧ l'.getD 9 undef = l.getD 9 undef ∧ l'.getD 10 undef = l.getD 10 undef ∧ l'.getD 11 undef = l.getD 11 undef ∧ l'.getD 19 undef = l.getD 19 undef ∧ l'.getD 20 undef = l.getD 20 undef ∧ I (l'.getD 21 undef) H') (fun l' H' => μ (l'.getD 21 undef) H') hl ⟨rfl, rfl, rfl, rfl, rfl, rfl, rfl, rfl, rfl, rfl, h0⟩ ?_
    rintro l1 H1 hl1 ⟨e0, e1, e2, e3, e6, e9, e10, e11, e19, e20, hI⟩
    have hb := hr (l1.getD 21 undef) H1 hI
    rw [← e0, ← e1, ← e2, ← e3, ← e6, ← e9, ← e10, ← e11, ← e19, ← e20] at hb
    refine wpE_mono _ l1 H1 hl1 ?_ (z48_s37_i K1 _ R l1 H1 hl1 hb)
    intro e l2 H2 hl2 hq
    cases e with
    | normal => exact fun _ => (by obtain ⟨d0, d1, d2, d3, d6, d9, d10, d11, d19, d20, g1, g2⟩ := hq; exact ⟨⟨d0.trans e0, d1.trans e1, d2.trans e2, d3.trans e3, d6.trans e6, d9.trans e9, d10.trans e10, d11.trans e11, d19.trans e19, d20.trans e20, g1⟩, g2⟩)
    | _ => exact hq
  · clear h; intro h
    refine exitI (c := z48_c9) rfl ?_
    refine thenX ?_
    refine thenX ?_
    refine blkX ?_
    exact h
def z48_l51 (x0 x1 x2 x3 x9 x10 x11 : Value) (R : Value → Heap → Prop) (H : Heap) : Prop :=
  ∃ (I : Value → Heap → Prop) (μ : Value → Heap → Nat), I x11 H ∧ ∀ (y11 : Value) (H : Heap), I y11 H → z48_s33 x0 x1 x2 x3 x9 x10 y11 (fun z0 z1 z2 z3 z9 z10 z11 H' => z0 = x0 ∧ z1 = x1 ∧ z2 = x2 ∧ z3 = x3 ∧ z9 = x9 ∧ z10 = x10 ∧ (I z11 H' ∧ μ z11 H' < μ y11 H)) R H
def persist_pairs_3 (x0 x1 x2 x3 : Value) (R : Value → Heap → Prop) (H : Heap) : Prop :=
  z48_g32 (fun x0 x1 x2 x3 x9 x10 x11 H => z48_l51 x0 x1 x2 x3 x9 x10 x11 R H) x0 x1 x2 x3 H
theorem z48_i (R : Value → Heap → Prop) (x0 x1 x2 x3 : Value) (H : Heap) (h : persist_pairs_3 x0 x1 x2 x3 R H) : wpE tab P z48_pi z48_c1 (retQ tab z48_rs R) [x0, x1, x2, x3, undef, undef, undef, undef, undef, undef, undef, undef, undef, undef, undef, undef, undef, undef, undef, undef, undef, undef, undef, undef, undef, undef, undef, undef, undef, undef, undef, undef, undef, undef, undef, undef, undef, undef, undef, undef, undef, undef, undef, undef, undef, undef, undef, undef, undef, undef, undef, undef, undef, undef, undef] H := by
  obtain ⟨l, hl, el⟩ : ∃ l : List Value, l.length = 55 ∧ l = [x0, x1, x2, x3, undef, undef, undef, undef, undef, undef, undef, undef, undef, undef, undef, undef, undef, undef, undef, undef, undef, undef, undef, undef, undef, undef, undef, undef, undef, undef, undef, undef, undef, undef, undef, undef, undef, undef, undef, undef, undef, undef, undef, undef, undef, undef, undef, undef, undef, undef, undef, undef, undef, undef, undef] := ⟨_, rfl, rfl⟩
  rw [← el]
  have h : (fun (x0 x1 x2 x3 : Value) => z48_g32 (fun x0 x1 x2 x3 x9 x10 x11 H => z48_l51 x0 x1 x2 x3 x9 x10 x11 R H) x0 x1 x2 x3 H) (l.getD 0 undef) (l.getD 1 undef) (l.getD 2 undef) (l.getD 3 undef) := by rw [el]; exact h
  clear el
  refine seqI (c := z48_c1) rfl ?_
  refine regI hl (Eq.mpr (z48_g32_e _ (fun i => l.getD i undef) _) h) ?_
  clear h hl
  intro l H hl h
  refine thenN ?_
  refine blockI (c := z48_c3) rfl ?_
  obtain ⟨I, μ, h0, hr⟩ := h
  refine loopI (c := z48_c4) rfl (fun l' H' => l'.getD 0 undef = l.getD 0 undef ∧ l'.getD 1 undef = l.getD 1 undef ∧ l'.getD 2 undef = l.getD 2 undef ∧ l'.getD 3 undef = l.getD 3 undef ∧ l'.getD 9 undef = l.getD 9 undef ∧ l'.getD 10 undef = l.getD 10 undef ∧ I (l'.getD 11 undef) H') (fun l' H' => μ (l'.getD 11 undef) H') hl ⟨rfl, rfl, rfl, rfl, rfl, rfl, h0⟩ ?_
  rintro l1 H1 hl1 ⟨e0, e1, e2, e3, e9, e10, hI⟩
  have hb := hr (l1.getD 11 undef) H1 hI
  rw [← e0, ← e1, ← e2, ← e3, ← e9, ← e10] at hb
  refine wpE_mono _ l1 H1 hl1 ?_ (z48_s33_i _ R l1 H1 hl1 hb)
  intro e l2 H2 hl2 hq
  cases e with
  | normal => exact fun _ => (by obtain ⟨d0, d1, d2, d3, d9, d10, g1, g2⟩ := hq; exact ⟨⟨d0.trans e0, d1.trans e1, d2.trans e2, d3.trans e3, d9.trans e9, d10.trans e10, g1⟩, g2⟩)
  | _ => exact hq
theorem z48_ok : okB z48_pi z48_c1 = true := by kernel_rfl
theorem z48_ev0 (x0 x1 x2 x3 : Value) (R : Value → Heap → Prop) (H : Heap) (h : persist_pairs_3 x0 x1 x2 x3 R H) : EvL P N.persist_pairs_3 #[x0, x1, x2, x3] H R :=
  EvF_intro (args := [x0, x1, x2, x3]) (k := 51) (rs := z48_rs) tab_ok mixed Try.func48 (show Try.f48.body = some z48_c1 by kernel_rfl) Try.call48 Try.ntmps48 (by kernel_rfl) (okCode_of _ z48_ok) rfl (z48_i R x0 x1 x2 x3 H h)
theorem z48_ev (x0 x1 x2 x3 : Value) (R : Value → Heap → Prop) (H : Heap) (h : persist_pairs_3 x0 x1 x2 x3 R H) : EvF P N.persist_pairs_3 #[x0, x1, x2, x3] H R := .inl (z48_ev0 x0 x1 x2 x3 R H h)
end Go.Hc
