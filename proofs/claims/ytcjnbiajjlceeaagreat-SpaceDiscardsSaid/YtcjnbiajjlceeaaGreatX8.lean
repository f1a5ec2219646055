/- Functions, printed by gen.py. -/
import Derived.Test.YtcjnbiajjlceeaaGreatX2
set_option linter.unusedSimpArgs false
set_option linter.unusedVariables false
set_option maxRecDepth 100000
namespace Go.Hc
open Go Go.Proofs
/- 117: slices.Replace[[]sounder/api.Range,sounder/api.Range] -/
def z117_rs : List ResultVar := [.tmp 8]
noncomputable def z117_c2 := sc Tryz.f117 [0]
noncomputable def z117_c4 := sc Tryz.f117 [1,0]
noncomputable def z117_c7 := sc Tryz.f117 [1,1,0,0]
noncomputable def z117_c10 := sc Tryz.f117 [1,1,0,1,0,0]
noncomputable def z117_c9 : Code := .seq z117_c10 Code.ret
noncomputable def z117_c8 : Code := .cond (.tmp 21) z117_c9 Code.skip
noncomputable def z117_c6 : Code := .seq z117_c7 z117_c8
noncomputable def z117_c13 := sc Tryz.f117 [1,1,1,0,0]
noncomputable def z117_c16 := sc Tryz.f117 [1,1,1,0,1,0,0]
noncomputable def z117_c19 := sc Tryz.f117 [1,1,1,0,1,0,1,0,0]
noncomputable def z117_c21 := sc Tryz.f117 [1,1,1,0,1,0,1,0,1,0]
noncomputable def z117_c20 : Code := .cond (.tmp 39) z117_c21 Code.skip
noncomputable def z117_c18 : Code := .seq z117_c19 z117_c20
noncomputable def z117_c23 := sc Tryz.f117 [1,1,1,0,1,0,1,1,0]
noncomputable def z117_c22 : Code := .seq z117_c23 Code.ret
noncomputable def z117_c17 : Code := .seq z117_c18 z117_c22
noncomputable def z117_c15 : Code := .seq z117_c16 z117_c17
noncomputable def z117_c14 : Code := .cond (.tmp 29) z117_c15 Code.skip
noncomputable def z117_c12 : Code := .seq z117_c13 z117_c14
noncomputable def z117_c25 := sc Tryz.f117 [1,1,1,1,0]
noncomputable def z117_c28 := sc Tryz.f117 [1,1,1,1,1,0,0]
noncomputable def z117_c31 := sc Tryz.f117 [1,1,1,1,1,0,1,0,0]
noncomputable def z117_c33 := sc Tryz.f117 [1,1,1,1,1,0,1,0,1,0]
noncomputable def z117_c35 := sc Tryz.f117 [1,1,1,1,1,0,1,0,1,1,0]
noncomputable def z117_c37 := sc Tryz.f117 [1,1,1,1,1,0,1,0,1,1,1,0]
noncomputable def z117_c36 : Code := .seq z117_c37 Code.ret
noncomputable def z117_c34 : Code := .seq z117_c35 z117_c36
noncomputable def z117_c32 : Code := .seq z117_c33 z117_c34
noncomputable def z117_c30 : Code := .seq z117_c31 z117_c32
noncomputable def z117_c29 : Code := .cond (.tmp 60) z117_c30 Code.skip
noncomputable def z117_c27 : Code := .seq z117_c28 z117_c29
noncomputable def z117_c39 := sc Tryz.f117 [1,1,1,1,1,1,0]
noncomputable def z117_c42 := sc Tryz.f117 [1,1,1,1,1,1,1,0,0]
noncomputable def z117_c45 := sc Tryz.f117 [1,1,1,1,1,1,1,0,1,0,0]
noncomputable def z117_c47 := sc Tryz.f117 [1,1,1,1,1,1,1,0,1,0,1,0]
noncomputable def z117_c49 := sc Tryz.f117 [1,1,1,1,1,1,1,0,1,0,1,1,0]
noncomputable def z117_c51 := sc Tryz.f117 [1,1,1,1,1,1,1,0,1,0,1,1,1,0]
noncomputable def z117_c50 : Code := .seq z117_c51 Code.ret
noncomputable def z117_c48 : Code := .seq z117_c49 z117_c50
noncomputable def z117_c46 : Code := .seq z117_c47 z117_c48
noncomputable def z117_c44 : Code := .seq z117_c45 z117_c46
noncomputable def z117_c43 : Code := .cond (.tmp 92) z117_c44 Code.skip
noncomputable def z117_c41 : Code := .seq z117_c42 z117_c43
noncomputable def z117_c54 := sc Tryz.f117 [1,1,1,1,1,1,1,1,0,0]
noncomputable def z117_c57 := sc Tryz.f117 [1,1,1,1,1,1,1,1,0,1,0,0]
noncomputable def z117_c59 := sc Tryz.f117 [1,1,1,1,1,1,1,1,0,1,0,1,0]
noncomputable def z117_c61 := sc Tryz.f117 [1,1,1,1,1,1,1,1,0,1,0,1,1,0]
noncomputable def z117_c60 : Code := .seq z117_c61 Code.ret
noncomputable def z117_c58 : Code := .seq z117_c59 z117_c60
noncomputable def z117_c56 : Code := .seq z117_c57 z117_c58
noncomputable def z117_c55 : Code := .cond (.tmp 120) z117_c56 Code.skip
noncomputable def z117_c53 : Code := .seq z117_c54 z117_c55
noncomputable def z117_c63 := sc Tryz.f117 [1,1,1,1,1,1,1,1,1,0]
noncomputable def z117_c66 := sc Tryz.f117 [1,1,1,1,1,1,1,1,1,1,0,0]
noncomputable def z117_c69 := sc Tryz.f117 [1,1,1,1,1,1,1,1,1,1,0,1,0,0]
noncomputable def z117_c71 := sc Tryz.f117 [1,1,1,1,1,1,1,1,1,1,0,1,0,1,0]
noncomputable def z117_c73 := sc Tryz.f117 [1,1,1,1,1,1,1,1,1,1,0,1,0,1,1,0]
noncomputable def z117_c75 := sc Tryz.f117 [1,1,1,1,1,1,1,1,1,1,0,1,0,1,1,1,0]
noncomputable def z117_c74 : Code := .seq z117_c75 Code.ret
noncomputable def z117_c72 : Code := .seq z117_c73 z117_c74
noncomputable def z117_c70 : Code := .seq z117_c71 z117_c72
noncomputable def z117_c68 : Code := .seq z117_c69 z117_c70
noncomputable def z117_c67 : Code := .cond (.tmp 149) z117_c68 Code.skip
noncomputable def z117_c65 : Code := .seq z117_c66 z117_c67
noncomputable def z117_c78 := sc Tryz.f117 [1,1,1,1,1,1,1,1,1,1,1,0,0]
noncomputable def z117_c81 := sc Tryz.f117 [1,1,1,1,1,1,1,1,1,1,1,0,1,0,0]
noncomputable def z117_c83 := sc Tryz.f117 [1,1,1,1,1,1,1,1,1,1,1,0,1,0,1,0]
noncomputable def z117_c85 := sc Tryz.f117 [1,1,1,1,1,1,1,1,1,1,1,0,1,0,1,1,0]
noncomputable def z117_c87 := sc Tryz.f117 [1,1,1,1,1,1,1,1,1,1,1,0,1,0,1,1,1,0]
noncomputable def z117_c86 : Code := .seq z117_c87 Code.ret
noncomputable def z117_c84 : Code := .seq z117_c85 z117_c86
noncomputable def z117_c82 : Code := .seq z117_c83 z117_c84
noncomputable def z117_c80 : Code := .seq z117_c81 z117_c82
noncomputable def z117_c79 : Code := .cond (.tmp 178) z117_c80 Code.skip
noncomputable def z117_c77 : Code := .seq z117_c78 z117_c79
noncomputable def z117_c89 := sc Tryz.f117 [1,1,1,1,1,1,1,1,1,1,1,1,0]
noncomputable def z117_c91 := sc Tryz.f117 [1,1,1,1,1,1,1,1,1,1,1,1,1,0]
noncomputable def z117_c93 := sc Tryz.f117 [1,1,1,1,1,1,1,1,1,1,1,1,1,1,0]
noncomputable def z117_c95 := sc Tryz.f117 [1,1,1,1,1,1,1,1,1,1,1,1,1,1,1,0]
noncomputable def z117_c94 : Code := .seq z117_c95 Code.ret
noncomputable def z117_c92 : Code := .seq z117_c93 z117_c94
noncomputable def z117_c90 : Code := .seq z117_c91 z117_c92
noncomputable def z117_c88 : Code := .seq z117_c89 z117_c90
noncomputable def z117_c76 : Code := .seq z117_c77 z117_c88
noncomputable def z117_c64 : Code := .seq z117_c65 z117_c76
noncomputable def z117_c62 : Code := .seq z117_c63 z117_c64
noncomputable def z117_c52 : Code := .seq z117_c53 z117_c62
noncomputable def z117_c40 : Code := .seq z117_c41 z117_c52
noncomputable def z117_c38 : Code := .seq z117_c39 z117_c40
noncomputable def z117_c26 : Code := .seq z117_c27 z117_c38
noncomputable def z117_c24 : Code := .seq z117_c25 z117_c26
noncomputable def z117_c11 : Code := .seq z117_c12 z117_c24
noncomputable def z117_c5 : Code := .seq z117_c6 z117_c11
noncomputable def z117_c3 : Code := .seq z117_c4 z117_c5
noncomputable def z117_c1 : Code := .seq z117_c2 z117_c3
def z117_pi (i : Nat) : Pl := match i with
  | 9 => (ones [0, 1, 2, 3, 4, 5, 6, 7, 8, 9, 10, 11, 12] .nil)
  | 13 => (ones [0, 1, 2, 3, 4, 5, 6, 7, 8, 9] .nil)
  | 18 => (ones [0, 1, 2, 3, 4, 5, 6, 7, 8, 9] .nil)
  | 22 => (ones [0, 1, 2, 3, 4, 5, 6, 7, 8, 9] .nil)
  | 27 => (ones [0, 1, 2, 3, 4, 5, 6, 7] .nil)
  | 28 => (ones [0, 1, 2, 3, 4, 5, 6, 7] .nil)
  | 32 => (ones [0, 1, 2, 3, 4, 5, 6, 7] .nil)
  | 33 => (ones [0, 1, 2, 3, 4, 5, 6, 7] .nil)
  | 38 => (ones [0, 1, 2, 3, 4, 5, 6, 7, 8, 9, 10, 11] .nil)
  | _ => .nil
noncomputable def z117_g96 (S : J4) (x0 x1 x2 x3 : Value) (H : Heap) : Prop :=
  S x0 x1 x2 x3 H
theorem z117_g96_e (S : J4) (x H) : WE z117_pi z117_c2 224 (fun l => S (gd l 0) (gd l 1) (gd l 2) (gd l 3)) x H = z117_g96 S (x 0) (x 1) (x 2) (x 3) H := by kernel_rfl
noncomputable def z117_g97 (S : J4) (x0 x1 x2 x3 : Value) (H : Heap) : Prop :=
  bnd (sliceV 2 x0 (some x1) (some x2)) fun _ =>
  S x0 x1 x2 x3 H
theorem z117_g97_e (S : J4) (x H) : WE z117_pi z117_c4 224 (fun l => S (gd l 0) (gd l 1) (gd l 2) (gd l 3)) x H = z117_g97 S (x 0) (x 1) (x 2) (x 3) H := by kernel_rfl
noncomputable def z117_g98 (S : J5) (x0 x1 x2 x3 : Value) (H : Heap) : Prop :=
  bnd (binV .int .eql x1 x2) fun v21 =>
  S x0 x1 x2 x3 v21 H
theorem z117_g98_e (S : J5) (x H) : WE z117_pi z117_c7 224 (fun l => S (gd l 0) (gd l 1) (gd l 2) (gd l 3) (gd l 21)) x H = z117_g98 S (x 0) (x 1) (x 2) (x 3) H := by kernel_rfl
noncomputable def z117_g99 (S : J1) (x0 x1 x3 : Value) (H : Heap) : Prop :=
  EvF P N.slices_Insert_Range #[x0, x1, x3] H fun v25 H1 =>
  S v25 H1
theorem z117_g99_e (S : J1) (x H) : WE z117_pi z117_c10 224 (fun l => S (gd l 8)) x H = z117_g99 S (x 0) (x 1) (x 3) H := by kernel_rfl
noncomputable def z117_g100 (S : J5) (x0 x1 x2 x3 : Value) (H : Heap) : Prop :=
  bnd (lenV x0) fun v28 =>
  bnd (binV .int .eql x2 v28) fun v29 =>
  S x0 x1 x2 x3 v29 H
theorem z117_g100_e (S : J5) (x H) : WE z117_pi z117_c13 224 (fun l => S (gd l 0) (gd l 1) (gd l 2) (gd l 3) (gd l 29)) x H = z117_g100 S (x 0) (x 1) (x 2) (x 3) H := by kernel_rfl
noncomputable def z117_g101 (S : J2) (x0 x1 x3 : Value) (H : Heap) : Prop :=
  bnd (sliceV 2 x0 none (some x1)) fun v32 =>
  appE 93 #[(.int .i64 0), (.int .i64 0)] 2 16 v32 x3 H fun v34 H1 =>
  S x0 v34 H1
theorem z117_g101_e (S : J2) (x H) : WE z117_pi z117_c16 224 (fun l => S (gd l 0) (gd l 9)) x H = z117_g101 S (x 0) (x 1) (x 3) H := by kernel_rfl
noncomputable def z117_g103 (S : J1) (x9 : Value) (H : Heap) : Prop :=
  S x9 H
theorem z117_g103_e (S : J1) (x H) : WE z117_pi z117_c23 224 (fun l => S (gd l 8)) x H = z117_g103 S (x 9) H := by kernel_rfl
noncomputable def z117_s102 (x9 : Value) (R : J1) (H : Heap) : Prop :=
  z117_g103 (fun x8 H => R x8 H) x9 H
noncomputable def z117_q104 (R : J1) : JQ := (retQ tab z117_rs R)
noncomputable def z117_q105 (R : J1) : JQ := (thenE (fun l H => wpE tab P z117_pi z117_c24 (z117_q104 R) l H) (z117_q104 R))
theorem z117_s102_i (R : J1) (l : List Value) (H : Heap) (hl : l.length = 224) (h : z117_s102 (gd l 9) R H) : wpE tab P z117_pi z117_c22 (z117_q105 R) l H := sr rfl hl (z117_g103_e _ (gd l) _) h fun l H hl h => rt rfl h
noncomputable def z117_g106 (S : J3) (x0 x9 : Value) (H : Heap) : Prop :=
  bnd (lenV x9) fun v36 =>
  bnd (lenV x0) fun v38 =>
  bnd (binV .int .lss v36 v38) fun v39 =>
  S x0 x9 v39 H
theorem z117_g106_e (S : J3) (x H) : WE z117_pi z117_c19 224 (fun l => S (gd l 0) (gd l 9) (gd l 39)) x H = z117_g106 S (x 0) (x 9) H := by kernel_rfl
noncomputable def z117_g107 (S : J1) (x0 x9 : Value) (H : Heap) : Prop :=
  bnd (lenV x9) fun v42 =>
  bnd (sliceV 2 x0 (some v42) none) fun v43 =>
  clrE #[(.int .i64 0), (.int .i64 0)] v43 H fun _ H1 =>
  S x9 H1
theorem z117_g107_e (S : J1) (x H) : WE z117_pi z117_c21 224 (fun l => S (gd l 9)) x H = z117_g107 S (x 0) (x 9) H := by kernel_rfl
noncomputable def z117_g108 (S : J5) (x0 x1 x2 x3 : Value) (H : Heap) : Prop :=
  bnd (sliceV 2 x0 none (some x1)) fun v47 =>
  bnd (lenV v47) fun v48 =>
  bnd (lenV x3) fun v50 =>
  bnd (binV .int .add v48 v50) fun v51 =>
  bnd (sliceV 2 x0 (some x2) none) fun v54 =>
  bnd (lenV v54) fun v55 =>
  bnd (binV .int .add v51 v55) fun v56 =>
  S x0 x1 x2 x3 v56 H
theorem z117_g108_e (S : J5) (x H) : WE z117_pi z117_c25 224 (fun l => S (gd l 0) (gd l 1) (gd l 2) (gd l 3) (gd l 10)) x H = z117_g108 S (x 0) (x 1) (x 2) (x 3) H := by kernel_rfl
noncomputable def z117_g109 (S : J6) (x0 x1 x2 x3 x10 : Value) (H : Heap) : Prop :=
  bnd (capV x0) fun v59 =>
  bnd (binV .int .gtr x10 v59) fun v60 =>
  S x0 x1 x2 x3 x10 v60 H
theorem z117_g109_e (S : J6) (x H) : WE z117_pi z117_c28 224 (fun l => S (gd l 0) (gd l 1) (gd l 2) (gd l 3) (gd l 10) (gd l 60)) x H = z117_g109 S (x 0) (x 1) (x 2) (x 3) (x 10) H := by kernel_rfl
noncomputable def z117_g110 (S : J5) (x0 x1 x2 x3 x10 : Value) (H : Heap) : Prop :=
  bnd (sliceV 2 x0 none (some x1)) fun v63 =>
  bnd (binV .int .sub x10 x1) fun v66 =>
  appZE 93 #[(.int .i64 0), (.int .i64 0)] 2 16 v63 v66 H fun v67 H1 =>
  S x0 x1 x2 x3 v67 H1
theorem z117_g110_e (S : J5) (x H) : WE z117_pi z117_c31 224 (fun l => S (gd l 0) (gd l 1) (gd l 2) (gd l 3) (gd l 11)) x H = z117_g110 S (x 0) (x 1) (x 2) (x 3) (x 10) H := by kernel_rfl
noncomputable def z117_g111 (S : J5) (x0 x1 x2 x3 x11 : Value) (H : Heap) : Prop :=
  bnd (sliceV 2 x11 (some x1) none) fun v70 =>
  cpyE 2 v70 x3 H fun _ H1 =>
  S x0 x1 x2 x3 x11 H1
theorem z117_g111_e (S : J5) (x H) : WE z117_pi z117_c33 224 (fun l => S (gd l 0) (gd l 1) (gd l 2) (gd l 3) (gd l 11)) x H = z117_g111 S (x 0) (x 1) (x 2) (x 3) (x 11) H := by kernel_rfl
noncomputable def z117_g112 (S : J1) (x0 x1 x2 x3 x11 : Value) (H : Heap) : Prop :=
  bnd (lenV x3) fun v76 =>
  bnd (binV .int .add x1 v76) fun v77 =>
  bnd (sliceV 2 x11 (some v77) none) fun v78 =>
  bnd (sliceV 2 x0 (some x2) none) fun v81 =>
  cpyE 2 v78 v81 H fun _ H1 =>
  S x11 H1
theorem z117_g112_e (S : J1) (x H) : WE z117_pi z117_c35 224 (fun l => S (gd l 11)) x H = z117_g112 S (x 0) (x 1) (x 2) (x 3) (x 11) H := by kernel_rfl
noncomputable def z117_g113 (S : J1) (x11 : Value) (H : Heap) : Prop :=
  S x11 H
theorem z117_g113_e (S : J1) (x H) : WE z117_pi z117_c37 224 (fun l => S (gd l 8)) x H = z117_g113 S (x 11) H := by kernel_rfl
noncomputable def z117_g114 (S : J6) (x0 x1 x2 x3 x10 : Value) (H : Heap) : Prop :=
  bnd (sliceV 2 x0 none (some x10)) fun v86 =>
  S x0 x1 x2 x3 x10 v86 H
theorem z117_g114_e (S : J6) (x H) : WE z117_pi z117_c39 224 (fun l => S (gd l 0) (gd l 1) (gd l 2) (gd l 3) (gd l 10) (gd l 12)) x H = z117_g114 S (x 0) (x 1) (x 2) (x 3) (x 10) H := by kernel_rfl
noncomputable def z117_g115 (S : J7) (x0 x1 x2 x3 x10 x12 : Value) (H : Heap) : Prop :=
  bnd (lenV x3) fun v89 =>
  bnd (binV .int .add x1 v89) fun v90 =>
  bnd (binV .int .leq v90 x2) fun v92 =>
  S x0 x1 x2 x3 x10 x12 v92 H
theorem z117_g115_e (S : J7) (x H) : WE z117_pi z117_c42 224 (fun l => S (gd l 0) (gd l 1) (gd l 2) (gd l 3) (gd l 10) (gd l 12) (gd l 92)) x H = z117_g115 S (x 0) (x 1) (x 2) (x 3) (x 10) (x 12) H := by kernel_rfl
noncomputable def z117_g116 (S : J6) (x0 x1 x2 x3 x10 x12 : Value) (H : Heap) : Prop :=
  bnd (sliceV 2 x12 (some x1) none) fun v95 =>
  cpyE 2 v95 x3 H fun _ H1 =>
  S x0 x1 x2 x3 x10 x12 H1
theorem z117_g116_e (S : J6) (x H) : WE z117_pi z117_c45 224 (fun l => S (gd l 0) (gd l 1) (gd l 2) (gd l 3) (gd l 10) (gd l 12)) x H = z117_g116 S (x 0) (x 1) (x 2) (x 3) (x 10) (x 12) H := by kernel_rfl
noncomputable def z117_g117 (S : J3) (x0 x1 x2 x3 x10 x12 : Value) (H : Heap) : Prop :=
  bnd (lenV x3) fun v101 =>
  bnd (binV .int .add x1 v101) fun v102 =>
  bnd (sliceV 2 x12 (some v102) none) fun v103 =>
  bnd (sliceV 2 x0 (some x2) none) fun v106 =>
  cpyE 2 v103 v106 H fun _ H1 =>
  S x0 x10 x12 H1
theorem z117_g117_e (S : J3) (x H) : WE z117_pi z117_c47 224 (fun l => S (gd l 0) (gd l 10) (gd l 12)) x H = z117_g117 S (x 0) (x 1) (x 2) (x 3) (x 10) (x 12) H := by kernel_rfl
noncomputable def z117_g118 (S : J1) (x0 x10 x12 : Value) (H : Heap) : Prop :=
  bnd (sliceV 2 x0 (some x10) none) fun v110 =>
  clrE #[(.int .i64 0), (.int .i64 0)] v110 H fun _ H1 =>
  S x12 H1
theorem z117_g118_e (S : J1) (x H) : WE z117_pi z117_c49 224 (fun l => S (gd l 12)) x H = z117_g118 S (x 0) (x 10) (x 12) H := by kernel_rfl
noncomputable def z117_g119 (S : J1) (x12 : Value) (H : Heap) : Prop :=
  S x12 H
theorem z117_g119_e (S : J1) (x H) : WE z117_pi z117_c51 224 (fun l => S (gd l 8)) x H = z117_g119 S (x 12) H := by kernel_rfl
noncomputable def z117_g120 (S : J6) (x0 x1 x2 x3 x12 : Value) (H : Heap) : Prop :=
  bnd (lenV x3) fun v115 =>
  bnd (binV .int .add x1 v115) fun v116 =>
  bnd (sliceV 2 x12 (some v116) none) fun v117 =>
  EvF P N.slices_overlaps_Range #[v117, x3] H fun v119 H1 =>
  bnd (unV .not v119) fun v120 =>
  S x0 x1 x2 x3 x12 v120 H1
theorem z117_g120_e (S : J6) (x H) : WE z117_pi z117_c54 224 (fun l => S (gd l 0) (gd l 1) (gd l 2) (gd l 3) (gd l 12) (gd l 120)) x H = z117_g120 S (x 0) (x 1) (x 2) (x 3) (x 12) H := by kernel_rfl
noncomputable def z117_g121 (S : J3) (x0 x1 x2 x3 x12 : Value) (H : Heap) : Prop :=
  bnd (lenV x3) fun v124 =>
  bnd (binV .int .add x1 v124) fun v125 =>
  bnd (sliceV 2 x12 (some v125) none) fun v126 =>
  bnd (sliceV 2 x0 (some x2) none) fun v129 =>
  cpyE 2 v126 v129 H fun _ H1 =>
  S x1 x3 x12 H1
theorem z117_g121_e (S : J3) (x H) : WE z117_pi z117_c57 224 (fun l => S (gd l 1) (gd l 3) (gd l 12)) x H = z117_g121 S (x 0) (x 1) (x 2) (x 3) (x 12) H := by kernel_rfl
noncomputable def z117_g122 (S : J1) (x1 x3 x12 : Value) (H : Heap) : Prop :=
  bnd (sliceV 2 x12 (some x1) none) fun v133 =>
  cpyE 2 v133 x3 H fun _ H1 =>
  S x12 H1
theorem z117_g122_e (S : J1) (x H) : WE z117_pi z117_c59 224 (fun l => S (gd l 12)) x H = z117_g122 S (x 1) (x 3) (x 12) H := by kernel_rfl
noncomputable def z117_g123 (S : J1) (x12 : Value) (H : Heap) : Prop :=
  S x12 H
theorem z117_g123_e (S : J1) (x H) : WE z117_pi z117_c61 224 (fun l => S (gd l 8)) x H = z117_g123 S (x 12) H := by kernel_rfl
noncomputable def z117_g124 (S : J6) (x0 x1 x2 x3 x12 : Value) (H : Heap) : Prop :=
  bnd (lenV x3) fun v138 =>
  bnd (binV .int .sub x2 x1) fun v141 =>
  bnd (binV .int .sub v138 v141) fun v142 =>
  S x0 x1 x2 x3 x12 v142 H
theorem z117_g124_e (S : J6) (x H) : WE z117_pi z117_c63 224 (fun l => S (gd l 0) (gd l 1) (gd l 2) (gd l 3) (gd l 12) (gd l 13)) x H = z117_g124 S (x 0) (x 1) (x 2) (x 3) (x 12) H := by kernel_rfl
noncomputable def z117_g125 (S : J7) (x0 x1 x2 x3 x12 x13 : Value) (H : Heap) : Prop :=
  bnd (sliceV 2 x12 (some x1) (some x2)) fun v146 =>
  EvF P N.slices_overlaps_Range #[v146, x3] H fun v148 H1 =>
  bnd (unV .not v148) fun v149 =>
  S x0 x1 x2 x3 x12 x13 v149 H1
theorem z117_g125_e (S : J7) (x H) : WE z117_pi z117_c66 224 (fun l => S (gd l 0) (gd l 1) (gd l 2) (gd l 3) (gd l 12) (gd l 13) (gd l 149)) x H = z117_g125 S (x 0) (x 1) (x 2) (x 3) (x 12) (x 13) H := by kernel_rfl
noncomputable def z117_g126 (S : J5) (x0 x1 x2 x3 x12 x13 : Value) (H : Heap) : Prop :=
  bnd (sliceV 2 x12 (some x1) (some x2)) fun v153 =>
  bnd (sliceV 2 x3 (some x13) none) fun v156 =>
  cpyE 2 v153 v156 H fun _ H1 =>
  S x0 x1 x3 x12 x13 H1
theorem z117_g126_e (S : J5) (x H) : WE z117_pi z117_c69 224 (fun l => S (gd l 0) (gd l 1) (gd l 3) (gd l 12) (gd l 13)) x H = z117_g126 S (x 0) (x 1) (x 2) (x 3) (x 12) (x 13) H := by kernel_rfl
noncomputable def z117_g127 (S : J3) (x0 x1 x3 x12 x13 : Value) (H : Heap) : Prop :=
  bnd (lenV x0) fun v160 =>
  bnd (sliceV 2 x12 (some v160) none) fun v161 =>
  bnd (sliceV 2 x3 none (some x13)) fun v164 =>
  cpyE 2 v161 v164 H fun _ H1 =>
  S x1 x12 x13 H1
theorem z117_g127_e (S : J3) (x H) : WE z117_pi z117_c71 224 (fun l => S (gd l 1) (gd l 12) (gd l 13)) x H = z117_g127 S (x 0) (x 1) (x 3) (x 12) (x 13) H := by kernel_rfl
noncomputable def z117_g128 (S : J1) (x1 x12 x13 : Value) (H : Heap) : Prop :=
  bnd (sliceV 2 x12 (some x1) none) fun v168 =>
  EvF P N.slices_rotateRight_Range #[v168, x13] H fun _ H1 =>
  S x12 H1
theorem z117_g128_e (S : J1) (x H) : WE z117_pi z117_c73 224 (fun l => S (gd l 12)) x H = z117_g128 S (x 1) (x 12) (x 13) H := by kernel_rfl
noncomputable def z117_g129 (S : J1) (x12 : Value) (H : Heap) : Prop :=
  S x12 H
theorem z117_g129_e (S : J1) (x H) : WE z117_pi z117_c75 224 (fun l => S (gd l 8)) x H = z117_g129 S (x 12) H := by kernel_rfl
noncomputable def z117_g130 (S : J7) (x0 x1 x2 x3 x12 x13 : Value) (H : Heap) : Prop :=
  bnd (lenV x0) fun v174 =>
  bnd (sliceV 2 x12 (some v174) none) fun v175 =>
  EvF P N.slices_overlaps_Range #[v175, x3] H fun v177 H1 =>
  bnd (unV .not v177) fun v178 =>
  S x0 x1 x2 x3 x12 x13 v178 H1
theorem z117_g130_e (S : J7) (x H) : WE z117_pi z117_c78 224 (fun l => S (gd l 0) (gd l 1) (gd l 2) (gd l 3) (gd l 12) (gd l 13) (gd l 178)) x H = z117_g130 S (x 0) (x 1) (x 2) (x 3) (x 12) (x 13) H := by kernel_rfl
noncomputable def z117_g131 (S : J5) (x0 x1 x2 x3 x12 x13 : Value) (H : Heap) : Prop :=
  bnd (lenV x0) fun v181 =>
  bnd (sliceV 2 x12 (some v181) none) fun v182 =>
  bnd (sliceV 2 x3 none (some x13)) fun v185 =>
  cpyE 2 v182 v185 H fun _ H1 =>
  S x1 x2 x3 x12 x13 H1
theorem z117_g131_e (S : J5) (x H) : WE z117_pi z117_c81 224 (fun l => S (gd l 1) (gd l 2) (gd l 3) (gd l 12) (gd l 13)) x H = z117_g131 S (x 0) (x 1) (x 2) (x 3) (x 12) (x 13) H := by kernel_rfl
noncomputable def z117_g132 (S : J3) (x1 x2 x3 x12 x13 : Value) (H : Heap) : Prop :=
  bnd (sliceV 2 x12 (some x1) (some x2)) fun v190 =>
  bnd (sliceV 2 x3 (some x13) none) fun v193 =>
  cpyE 2 v190 v193 H fun _ H1 =>
  S x1 x12 x13 H1
theorem z117_g132_e (S : J3) (x H) : WE z117_pi z117_c83 224 (fun l => S (gd l 1) (gd l 12) (gd l 13)) x H = z117_g132 S (x 1) (x 2) (x 3) (x 12) (x 13) H := by kernel_rfl
noncomputable def z117_g133 (S : J1) (x1 x12 x13 : Value) (H : Heap) : Prop :=
  bnd (sliceV 2 x12 (some x1) none) fun v197 =>
  EvF P N.slices_rotateRight_Range #[v197, x13] H fun _ H1 =>
  S x12 H1
theorem z117_g133_e (S : J1) (x H) : WE z117_pi z117_c85 224 (fun l => S (gd l 12)) x H = z117_g133 S (x 1) (x 12) (x 13) H := by kernel_rfl
noncomputable def z117_g134 (S : J1) (x12 : Value) (H : Heap) : Prop :=
  S x12 H
theorem z117_g134_e (S : J1) (x H) : WE z117_pi z117_c87 224 (fun l => S (gd l 8)) x H = z117_g134 S (x 12) H := by kernel_rfl
noncomputable def z117_g135 (S : J4) (x0 x1 x2 x3 x12 : Value) (H : Heap) : Prop :=
  bnd (sliceV 2 x0 (some x2) none) fun v204 =>
  EvF P N.slices_startIdx_Range #[x3, v204] H fun v205 H1 =>
  S x1 x3 x12 v205 H1
theorem z117_g135_e (S : J4) (x H) : WE z117_pi z117_c89 224 (fun l => S (gd l 1) (gd l 3) (gd l 12) (gd l 14)) x H = z117_g135 S (x 0) (x 1) (x 2) (x 3) (x 12) H := by kernel_rfl
noncomputable def z117_g136 (S : J4) (x1 x3 x12 x14 : Value) (H : Heap) : Prop :=
  bnd (sliceV 2 x12 (some x1) none) fun v208 =>
  cpyE 2 v208 x3 H fun _ H1 =>
  S x1 x3 x12 x14 H1
theorem z117_g136_e (S : J4) (x H) : WE z117_pi z117_c91 224 (fun l => S (gd l 1) (gd l 3) (gd l 12) (gd l 14)) x H = z117_g136 S (x 1) (x 3) (x 12) (x 14) H := by kernel_rfl
noncomputable def z117_g137 (S : J1) (x1 x3 x12 x14 : Value) (H : Heap) : Prop :=
  bnd (lenV x3) fun v214 =>
  bnd (binV .int .add x1 v214) fun v215 =>
  bnd (sliceV 2 x12 (some v215) none) fun v216 =>
  bnd (binV .int .add x1 x14) fun v220 =>
  bnd (sliceV 2 x12 (some v220) none) fun v221 =>
  cpyE 2 v216 v221 H fun _ H1 =>
  S x12 H1
theorem z117_g137_e (S : J1) (x H) : WE z117_pi z117_c93 224 (fun l => S (gd l 12)) x H = z117_g137 S (x 1) (x 3) (x 12) (x 14) H := by kernel_rfl
noncomputable def z117_g138 (S : J1) (x12 : Value) (H : Heap) : Prop :=
  S x12 H
theorem z117_g138_e (S : J1) (x H) : WE z117_pi z117_c95 224 (fun l => S (gd l 8)) x H = z117_g138 S (x 12) H := by kernel_rfl
def slices_Replace_Range (x0 x1 x2 x3 : Value) (R : Value → Heap → Prop) (H : Heap) : Prop :=
  z117_g96 (fun x0 x1 x2 x3 H => z117_g97 (fun x0 x1 x2 x3 H => z117_g98 (fun x0 x1 x2 x3 x21 H => brV x21
  (z117_g99 (fun x8 H => R x8 H) x0 x1 x3 H)
  (z117_g100 (fun x0 x1 x2 x3 x29 H => brV x29
  (z117_g101 (fun x0 x9 H => z117_g106 (fun x0 x9 x39 H => brV x39
  (z117_g107 (fun x9 H => z117_s102 x9 R H) x0 x9 H)
  (z117_s102 x9 R H)) x0 x9 H) x0 x1 x3 H)
  (z117_g108 (fun x0 x1 x2 x3 x10 H => z117_g109 (fun x0 x1 x2 x3 x10 x60 H => brV x60
  (z117_g110 (fun x0 x1 x2 x3 x11 H => z117_g111 (fun x0 x1 x2 x3 x11 H => z117_g112 (fun x11 H => z117_g113 (fun x8 H => R x8 H) x11 H) x0 x1 x2 x3 x11 H) x0 x1 x2 x3 x11 H) x0 x1 x2 x3 x10 H)
  (z117_g114 (fun x0 x1 x2 x3 x10 x12 H => z117_g115 (fun x0 x1 x2 x3 x10 x12 x92 H => brV x92
  (z117_g116 (fun x0 x1 x2 x3 x10 x12 H => z117_g117 (fun x0 x10 x12 H => z117_g118 (fun x12 H => z117_g119 (fun x8 H => R x8 H) x12 H) x0 x10 x12 H) x0 x1 x2 x3 x10 x12 H) x0 x1 x2 x3 x10 x12 H)
  (z117_g120 (fun x0 x1 x2 x3 x12 x120 H => brV x120
  (z117_g121 (fun x1 x3 x12 H => z117_g122 (fun x12 H => z117_g123 (fun x8 H => R x8 H) x12 H) x1 x3 x12 H) x0 x1 x2 x3 x12 H)
  (z117_g124 (fun x0 x1 x2 x3 x12 x13 H => z117_g125 (fun x0 x1 x2 x3 x12 x13 x149 H => brV x149
  (z117_g126 (fun x0 x1 x3 x12 x13 H => z117_g127 (fun x1 x12 x13 H => z117_g128 (fun x12 H => z117_g129 (fun x8 H => R x8 H) x12 H) x1 x12 x13 H) x0 x1 x3 x12 x13 H) x0 x1 x2 x3 x12 x13 H)
  (z117_g130 (fun x0 x1 x2 x3 x12 x13 x178 H => brV x178
  (z117_g131 (fun x1 x2 x3 x12 x13 H => z117_g132 (fun x1 x12 x13 H => z117_g133 (fun x12 H => z117_g134 (fun x8 H => R x8 H) x12 H) x1 x12 x13 H) x1 x2 x3 x12 x13 H) x0 x1 x2 x3 x12 x13 H)
  (z117_g135 (fun x1 x3 x12 x14 H => z117_g136 (fun x1 x3 x12 x14 H => z117_g137 (fun x12 H => z117_g138 (fun x8 H => R x8 H) x12 H) x1 x3 x12 x14 H) x1 x3 x12 x14 H) x0 x1 x2 x3 x12 H)) x0 x1 x2 x3 x12 x13 H)) x0 x1 x2 x3 x12 x13 H) x0 x1 x2 x3 x12 H)) x0 x1 x2 x3 x12 H)) x0 x1 x2 x3 x10 x12 H) x0 x1 x2 x3 x10 H)) x0 x1 x2 x3 x10 H) x0 x1 x2 x3 H)) x0 x1 x2 x3 H)) x0 x1 x2 x3 H) x0 x1 x2 x3 H) x0 x1 x2 x3 H
theorem z117_ev (x0 x1 x2 x3 : Value) (R : J1) (H : Heap) (h : slices_Replace_Range x0 x1 x2 x3 R H) : EvF P N.slices_Replace_Range #[x0, x1, x2, x3] H R := .inl (EvF_intro (args := [x0, x1, x2, x3]) (k := 220) (rs := z117_rs) tab_ok mixed Tryz.func117 (show Tryz.f117.body = some z117_c1 by kernel_rfl) Tryz.call117 Tryz.ntmps117 (by kernel_rfl) (okCode_of _ (show okB z117_pi z117_c1 = true by kernel_rfl)) (fr_eq _ _) (fj (n := 224) rfl (fun l hl (h : slices_Replace_Range (gd l 0) (gd l 1) (gd l 2) (gd l 3) R H) => sr rfl hl (z117_g96_e _ (gd l) _) h fun l H hl h => sr rfl hl (z117_g97_e _ (gd l) _) h fun l H hl h => sq rfl <| sr rfl hl (z117_g98_e _ (gd l) _) h fun l H hl h => cd rfl h (fun h => sr rfl hl (z117_g99_e _ (gd l) _) h fun l H hl h => rt rfl h) fun h => kN rfl <| sq rfl <| sr rfl hl (z117_g100_e _ (gd l) _) h fun l H hl h => cd rfl h (fun h => sr rfl hl (z117_g101_e _ (gd l) _) h fun l H hl h => sq rfl <| sr rfl hl (z117_g106_e _ (gd l) _) h fun l H hl h => cd rfl h (fun h => rj hl (z117_g107_e _ (gd l) _) h fun l H hl h => tN <| z117_s102_i R l H hl h) fun h => kN rfl <| z117_s102_i R l H hl h) fun h => kN rfl <| sr rfl hl (z117_g108_e _ (gd l) _) h fun l H hl h => sq rfl <| sr rfl hl (z117_g109_e _ (gd l) _) h fun l H hl h => cd rfl h (fun h => sr rfl hl (z117_g110_e _ (gd l) _) h fun l H hl h => sr rfl hl (z117_g111_e _ (gd l) _) h fun l H hl h => sr rfl hl (z117_g112_e _ (gd l) _) h fun l H hl h => sr rfl hl (z117_g113_e _ (gd l) _) h fun l H hl h => rt rfl h) fun h => kN rfl <| sr rfl hl (z117_g114_e _ (gd l) _) h fun l H hl h => sq rfl <| sr rfl hl (z117_g115_e _ (gd l) _) h fun l H hl h => cd rfl h (fun h => sr rfl hl (z117_g116_e _ (gd l) _) h fun l H hl h => sr rfl hl (z117_g117_e _ (gd l) _) h fun l H hl h => sr rfl hl (z117_g118_e _ (gd l) _) h fun l H hl h => sr rfl hl (z117_g119_e _ (gd l) _) h fun l H hl h => rt rfl h) fun h => kN rfl <| sq rfl <| sr rfl hl (z117_g120_e _ (gd l) _) h fun l H hl h => cd rfl h (fun h => sr rfl hl (z117_g121_e _ (gd l) _) h fun l H hl h => sr rfl hl (z117_g122_e _ (gd l) _) h fun l H hl h => sr rfl hl (z117_g123_e _ (gd l) _) h fun l H hl h => rt rfl h) fun h => kN rfl <| sr rfl hl (z117_g124_e _ (gd l) _) h fun l H hl h => sq rfl <| sr rfl hl (z117_g125_e _ (gd l) _) h fun l H hl h => cd rfl h (fun h => sr rfl hl (z117_g126_e _ (gd l) _) h fun l H hl h => sr rfl hl (z117_g127_e _ (gd l) _) h fun l H hl h => sr rfl hl (z117_g128_e _ (gd l) _) h fun l H hl h => sr rfl hl (z117_g129_e _ (gd l) _) h fun l H hl h => rt rfl h) fun h => kN rfl <| sq rfl <| sr rfl hl (z117_g130_e _ (gd l) _) h fun l H hl h => cd rfl h (fun h => sr rfl hl (z117_g131_e _ (gd l) _) h fun l H hl h => sr rfl hl (z117_g132_e _ (gd l) _) h fun l H hl h => sr rfl hl (z117_g133_e _ (gd l) _) h fun l H hl h => sr rfl hl (z117_g134_e _ (gd l) _) h fun l H hl h => rt rfl h) fun h => kN rfl <| sr rfl hl (z117_g135_e _ (gd l) _) h fun l H hl h => sr rfl hl (z117_g136_e _ (gd l) _) h fun l H hl h => sr rfl hl (z117_g137_e _ (gd l) _) h fun l H hl h => sr rfl hl (z117_g138_e _ (gd l) _) h fun l H hl h => rt rfl h) h))
/- 118: (*sounder/sent.Log).total -/
def z118_rs : List ResultVar := [.tmp 4]
noncomputable def z118_c2 := sc Tryz.f118 [0]
noncomputable def z118_c5 := sc Tryz.f118 [1,0,0]
noncomputable def z118_c8 := sc Tryz.f118 [1,0,1,0,0]
noncomputable def z118_c7 : Code := .seq z118_c8 Code.ret
noncomputable def z118_c6 : Code := .cond (.tmp 6) z118_c7 Code.skip
noncomputable def z118_c4 : Code := .seq z118_c5 z118_c6
noncomputable def z118_c10 := sc Tryz.f118 [1,1,0]
noncomputable def z118_c9 : Code := .seq z118_c10 Code.ret
noncomputable def z118_c3 : Code := .seq z118_c4 z118_c9
noncomputable def z118_c1 : Code := .seq z118_c2 z118_c3
def z118_pi (_ : Nat) : Pl := .nil
noncomputable def z118_g11 (S : J2) (x0 x1 : Value) (H : Heap) : Prop :=
  S x0 x1 H
theorem z118_g11_e (S : J2) (x H) : WE z118_pi z118_c2 9 (fun l => S (gd l 0) (gd l 1)) x H = z118_g11 S (x 0) (x 1) H := by kernel_rfl
noncomputable def z118_g12 (S : J2) (x0 x1 : Value) (H : Heap) : Prop :=
  EvF P N.sent_Log_none #[x0] H fun v6 H1 =>
  S x1 v6 H1
theorem z118_g12_e (S : J2) (x H) : WE z118_pi z118_c5 9 (fun l => S (gd l 1) (gd l 6)) x H = z118_g12 S (x 0) (x 1) H := by kernel_rfl
noncomputable def z118_g13 (S : J1) (H : Heap) : Prop :=
  S (.int .i64 0) H
theorem z118_g13_e (S : J1) (x H) : WE z118_pi z118_c8 9 (fun l => S (gd l 4)) x H = z118_g13 S  H := by kernel_rfl
noncomputable def z118_g14 (S : J1) (x1 : Value) (H : Heap) : Prop :=
  callV P x1 [] H fun v8 H1 =>
  S v8 H1
theorem z118_g14_e (S : J1) (x H) : WE z118_pi z118_c10 9 (fun l => S (gd l 4)) x H = z118_g14 S (x 1) H := by kernel_rfl
def sent_Log_total (x0 x1 : Value) (R : Value → Heap → Prop) (H : Heap) : Prop :=
  z118_g11 (fun x0 x1 H => z118_g12 (fun x1 x6 H => brV x6
  (z118_g13 (fun x4 H => R x4 H) H)
  (z118_g14 (fun x4 H => R x4 H) x1 H)) x0 x1 H) x0 x1 H
theorem z118_ev (x0 x1 : Value) (R : J1) (H : Heap) (h : sent_Log_total x0 x1 R H) : EvF P N.sent_Log_total #[x0, x1] H R := .inl (EvF_intro (args := [x0, x1]) (k := 7) (rs := z118_rs) tab_ok mixed Tryz.func118 (show Tryz.f118.body = some z118_c1 by kernel_rfl) Tryz.call118 Tryz.ntmps118 (by kernel_rfl) (okCode_of _ (show okB z118_pi z118_c1 = true by kernel_rfl)) (fr_eq _ _) (fj (n := 9) rfl (fun l hl (h : sent_Log_total (gd l 0) (gd l 1) R H) => sr rfl hl (z118_g11_e _ (gd l) _) h fun l H hl h => sq rfl <| sr rfl hl (z118_g12_e _ (gd l) _) h fun l H hl h => cd rfl h (fun h => sr rfl hl (z118_g13_e _ (gd l) _) h fun l H hl h => rt rfl h) fun h => kN rfl <| sr rfl hl (z118_g14_e _ (gd l) _) h fun l H hl h => rt rfl h) h))
/- 119: (*sounder/sent.Log).Flight$1 -/
def z119_rs : List ResultVar := [.tmp 1]
noncomputable def z119_c2 := sc Tryz.f119 [0]
noncomputable def z119_c4 := sc Tryz.f119 [1,0]
noncomputable def z119_c3 : Code := .seq z119_c4 Code.ret
noncomputable def z119_c1 : Code := .seq z119_c2 z119_c3
def z119_pi (_ : Nat) : Pl := .nil
noncomputable def z119_g5 (S : J1) (x0 : Value) (H : Heap) : Prop :=
  S x0 H
theorem z119_g5_e (S : J1) (x H) : WE z119_pi z119_c2 6 (fun l => S (gd l 0)) x H = z119_g5 S (x 0) H := by kernel_rfl
noncomputable def z119_g6 (S : J1) (x0 : Value) (H : Heap) : Prop :=
  bnd (ldE false 1 x0 H) fun v2 =>
  bnd (nilV v2) fun v3 =>
  bnd (faV 6 v3) fun v4 =>
  bnd (ldE false 1 v4 H) fun v5 =>
  S v5 H
theorem z119_g6_e (S : J1) (x H) : WE z119_pi z119_c4 6 (fun l => S (gd l 1)) x H = z119_g6 S (x 0) H := by kernel_rfl
def sent_Log_Flight_1 (x0 : Value) (R : Value → Heap → Prop) (H : Heap) : Prop :=
  z119_g5 (fun x0 H => z119_g6 (fun x1 H => R x1 H) x0 H) x0 H
theorem z119_ev (x0 : Value) (R : J1) (H : Heap) (h : sent_Log_Flight_1 x0 R H) : EvF P N.sent_Log_Flight_1 #[x0] H R := .inl (EvF_intro (args := [x0]) (k := 5) (rs := z119_rs) tab_ok mixed Tryz.func119 (show Tryz.f119.body = some z119_c1 by kernel_rfl) Tryz.call119 Tryz.ntmps119 (by kernel_rfl) (okCode_of _ (show okB z119_pi z119_c1 = true by kernel_rfl)) (fr_eq _ _) (fj (n := 6) rfl (fun l hl (h : sent_Log_Flight_1 (gd l 0) R H) => sr rfl hl (z119_g5_e _ (gd l) _) h fun l H hl h => sr rfl hl (z119_g6_e _ (gd l) _) h fun l H hl h => rt rfl h) h))
/- 120: (*sounder/sent.Log).Eliciting$1 -/
def z120_rs : List ResultVar := [.tmp 1]
noncomputable def z120_c2 := sc Tryz.f120 [0]
noncomputable def z120_c4 := sc Tryz.f120 [1,0]
noncomputable def z120_c3 : Code := .seq z120_c4 Code.ret
noncomputable def z120_c1 : Code := .seq z120_c2 z120_c3
def z120_pi (_ : Nat) : Pl := .nil
noncomputable def z120_g5 (S : J1) (x0 : Value) (H : Heap) : Prop :=
  S x0 H
theorem z120_g5_e (S : J1) (x H) : WE z120_pi z120_c2 6 (fun l => S (gd l 0)) x H = z120_g5 S (x 0) H := by kernel_rfl
noncomputable def z120_g6 (S : J1) (x0 : Value) (H : Heap) : Prop :=
  bnd (ldE false 1 x0 H) fun v2 =>
  bnd (nilV v2) fun v3 =>
  bnd (faV 7 v3) fun v4 =>
  bnd (ldE false 1 v4 H) fun v5 =>
  S v5 H
theorem z120_g6_e (S : J1) (x H) : WE z120_pi z120_c4 6 (fun l => S (gd l 1)) x H = z120_g6 S (x 0) H := by kernel_rfl
def sent_Log_Eliciting_1 (x0 : Value) (R : Value → Heap → Prop) (H : Heap) : Prop :=
  z120_g5 (fun x0 H => z120_g6 (fun x1 H => R x1 H) x0 H) x0 H
theorem z120_ev (x0 : Value) (R : J1) (H : Heap) (h : sent_Log_Eliciting_1 x0 R H) : EvF P N.sent_Log_Eliciting_1 #[x0] H R := .inl (EvF_intro (args := [x0]) (k := 5) (rs := z120_rs) tab_ok mixed Tryz.func120 (show Tryz.f120.body = some z120_c1 by kernel_rfl) Tryz.call120 Tryz.ntmps120 (by kernel_rfl) (okCode_of _ (show okB z120_pi z120_c1 = true by kernel_rfl)) (fr_eq _ _) (fj (n := 6) rfl (fun l hl (h : sent_Log_Eliciting_1 (gd l 0) R H) => sr rfl hl (z120_g5_e _ (gd l) _) h fun l H hl h => sr rfl hl (z120_g6_e _ (gd l) _) h fun l H hl h => rt rfl h) h))
/- 131: slices.Clone[[]sounder/sent.slot,sounder/sent.slot] -/
def z131_rs : List ResultVar := [.tmp 2]
noncomputable def z131_c2 := sc Tryz.f131 [0]
noncomputable def z131_c5 := sc Tryz.f131 [1,0,0]
noncomputable def z131_c8 := sc Tryz.f131 [1,0,1,0,0]
noncomputable def z131_c7 : Code := .seq z131_c8 Code.ret
noncomputable def z131_c6 : Code := .cond (.tmp 4) z131_c7 Code.skip
noncomputable def z131_c4 : Code := .seq z131_c5 z131_c6
noncomputable def z131_c10 := sc Tryz.f131 [1,1,0]
noncomputable def z131_c9 : Code := .seq z131_c10 Code.ret
noncomputable def z131_c3 : Code := .seq z131_c4 z131_c9
noncomputable def z131_c1 : Code := .seq z131_c2 z131_c3
def z131_pi (_ : Nat) : Pl := .nil
noncomputable def z131_g11 (S : J1) (x0 : Value) (H : Heap) : Prop :=
  S x0 H
theorem z131_g11_e (S : J1) (x H) : WE z131_pi z131_c2 8 (fun l => S (gd l 0)) x H = z131_g11 S (x 0) H := by kernel_rfl
noncomputable def z131_g12 (S : J2) (x0 : Value) (H : Heap) : Prop :=
  bnd (binV .slice .eql x0 (.slice none 0 0)) fun v4 =>
  S x0 v4 H
theorem z131_g12_e (S : J2) (x H) : WE z131_pi z131_c5 8 (fun l => S (gd l 0) (gd l 4)) x H = z131_g12 S (x 0) H := by kernel_rfl
noncomputable def z131_g13 (S : J1) (H : Heap) : Prop :=
  S (.slice none 0 0) H
theorem z131_g13_e (S : J1) (x H) : WE z131_pi z131_c8 8 (fun l => S (gd l 2)) x H = z131_g13 S  H := by kernel_rfl
noncomputable def z131_g14 (S : J1) (x0 : Value) (H : Heap) : Prop :=
  bslE 137 #[(.int .i64 0), (.int .i64 0), (.int .i64 0), (.bool false), (.bool false), (.bool false), (.bool false)] 7 0 [] H fun v5 H1 =>
  appE 137 #[(.int .i64 0), (.int .i64 0), (.int .i64 0), (.bool false), (.bool false), (.bool false), (.bool false)] 7 40 v5 x0 H1 fun v7 H2 =>
  S v7 H2
theorem z131_g14_e (S : J1) (x H) : WE z131_pi z131_c10 8 (fun l => S (gd l 2)) x H = z131_g14 S (x 0) H := by kernel_rfl
def slices_Clone_slot (x0 : Value) (R : Value → Heap → Prop) (H : Heap) : Prop :=
  z131_g11 (fun x0 H => z131_g12 (fun x0 x4 H => brV x4
  (z131_g13 (fun x2 H => R x2 H) H)
  (z131_g14 (fun x2 H => R x2 H) x0 H)) x0 H) x0 H
theorem z131_ev (x0 : Value) (R : J1) (H : Heap) (h : slices_Clone_slot x0 R H) : EvF P N.slices_Clone_slot #[x0] H R := .inl (EvF_intro (args := [x0]) (k := 7) (rs := z131_rs) tab_ok mixed Tryz.func131 (show Tryz.f131.body = some z131_c1 by kernel_rfl) Tryz.call131 Tryz.ntmps131 (by kernel_rfl) (okCode_of _ (show okB z131_pi z131_c1 = true by kernel_rfl)) (fr_eq _ _) (fj (n := 8) rfl (fun l hl (h : slices_Clone_slot (gd l 0) R H) => sr rfl hl (z131_g11_e _ (gd l) _) h fun l H hl h => sq rfl <| sr rfl hl (z131_g12_e _ (gd l) _) h fun l H hl h => cd rfl h (fun h => sr rfl hl (z131_g13_e _ (gd l) _) h fun l H hl h => rt rfl h) fun h => kN rfl <| sr rfl hl (z131_g14_e _ (gd l) _) h fun l H hl h => rt rfl h) h))
/- 132: slices.Clone[[]sounder/api.Range,sounder/api.Range] -/
def z132_rs : List ResultVar := [.tmp 2]
noncomputable def z132_c2 := sc Tryz.f132 [0]
noncomputable def z132_c5 := sc Tryz.f132 [1,0,0]
noncomputable def z132_c8 := sc Tryz.f132 [1,0,1,0,0]
noncomputable def z132_c7 : Code := .seq z132_c8 Code.ret
noncomputable def z132_c6 : Code := .cond (.tmp 4) z132_c7 Code.skip
noncomputable def z132_c4 : Code := .seq z132_c5 z132_c6
noncomputable def z132_c10 := sc Tryz.f132 [1,1,0]
noncomputable def z132_c9 : Code := .seq z132_c10 Code.ret
noncomputable def z132_c3 : Code := .seq z132_c4 z132_c9
noncomputable def z132_c1 : Code := .seq z132_c2 z132_c3
def z132_pi (_ : Nat) : Pl := .nil
noncomputable def z132_g11 (S : J1) (x0 : Value) (H : Heap) : Prop :=
  S x0 H
theorem z132_g11_e (S : J1) (x H) : WE z132_pi z132_c2 8 (fun l => S (gd l 0)) x H = z132_g11 S (x 0) H := by kernel_rfl
noncomputable def z132_g12 (S : J2) (x0 : Value) (H : Heap) : Prop :=
  bnd (binV .slice .eql x0 (.slice none 0 0)) fun v4 =>
  S x0 v4 H
theorem z132_g12_e (S : J2) (x H) : WE z132_pi z132_c5 8 (fun l => S (gd l 0) (gd l 4)) x H = z132_g12 S (x 0) H := by kernel_rfl
noncomputable def z132_g13 (S : J1) (H : Heap) : Prop :=
  S (.slice none 0 0) H
theorem z132_g13_e (S : J1) (x H) : WE z132_pi z132_c8 8 (fun l => S (gd l 2)) x H = z132_g13 S  H := by kernel_rfl
noncomputable def z132_g14 (S : J1) (x0 : Value) (H : Heap) : Prop :=
  bslE 93 #[(.int .i64 0), (.int .i64 0)] 2 0 [] H fun v5 H1 =>
  appE 93 #[(.int .i64 0), (.int .i64 0)] 2 16 v5 x0 H1 fun v7 H2 =>
  S v7 H2
theorem z132_g14_e (S : J1) (x H) : WE z132_pi z132_c10 8 (fun l => S (gd l 2)) x H = z132_g14 S (x 0) H := by kernel_rfl
def slices_Clone_Range (x0 : Value) (R : Value → Heap → Prop) (H : Heap) : Prop :=
  z132_g11 (fun x0 H => z132_g12 (fun x0 x4 H => brV x4
  (z132_g13 (fun x2 H => R x2 H) H)
  (z132_g14 (fun x2 H => R x2 H) x0 H)) x0 H) x0 H
theorem z132_ev (x0 : Value) (R : J1) (H : Heap) (h : slices_Clone_Range x0 R H) : EvF P N.slices_Clone_Range #[x0] H R := .inl (EvF_intro (args := [x0]) (k := 7) (rs := z132_rs) tab_ok mixed Tryz.func132 (show Tryz.f132.body = some z132_c1 by kernel_rfl) Tryz.call132 Tryz.ntmps132 (by kernel_rfl) (okCode_of _ (show okB z132_pi z132_c1 = true by kernel_rfl)) (fr_eq _ _) (fj (n := 8) rfl (fun l hl (h : slices_Clone_Range (gd l 0) R H) => sr rfl hl (z132_g11_e _ (gd l) _) h fun l H hl h => sq rfl <| sr rfl hl (z132_g12_e _ (gd l) _) h fun l H hl h => cd rfl h (fun h => sr rfl hl (z132_g13_e _ (gd l) _) h fun l H hl h => rt rfl h) fun h => kN rfl <| sr rfl hl (z132_g14_e _ (gd l) _) h fun l H hl h => rt rfl h) h))
/- 136: (*sounder/sent.Log).each -/
def z136_rs : List ResultVar := []
noncomputable def z136_c3 := sc Tryz.f136 [0,0]
noncomputable def z136_c4 : Code := .cond (.tmp 11) Code.ret Code.skip
noncomputable def z136_c2 : Code := .seq z136_c3 z136_c4
noncomputable def z136_c6 := sc Tryz.f136 [1,0]
noncomputable def z136_c11 := sc Tryz.f136 [1,1,0,0,0,0]
noncomputable def z136_c13 : Code := .exit 0
noncomputable def z136_c12 : Code := .cond (.tmp 31) Code.skip z136_c13
noncomputable def z136_c10 : Code := .seq z136_c11 z136_c12
noncomputable def z136_c17 := sc Tryz.f136 [1,1,0,0,1,0,0,0]
noncomputable def z136_c19 := sc Tryz.f136 [1,1,0,0,1,0,0,1,0]
noncomputable def z136_c21 := sc Tryz.f136 [1,1,0,0,1,0,0,1,1,0]
noncomputable def z136_c20 : Code := .cond (.tmp 40) z136_c21 Code.skip
noncomputable def z136_c18 : Code := .seq z136_c19 z136_c20
noncomputable def z136_c16 : Code := .seq z136_c17 z136_c18
noncomputable def z136_c15 : Code := .block 1 z136_c16
noncomputable def z136_c22 := sc Tryz.f136 [1,1,0,0,1,1]
noncomputable def z136_c14 : Code := .seq z136_c15 z136_c22
noncomputable def z136_c9 : Code := .seq z136_c10 z136_c14
noncomputable def z136_c8 : Code := .loop z136_c9
noncomputable def z136_c7 : Code := .block 0 z136_c8
noncomputable def z136_c5 : Code := .seq z136_c6 z136_c7
noncomputable def z136_c1 : Code := .seq z136_c2 z136_c5
def z136_pi (_ : Nat) : Pl := .nil
noncomputable def z136_g23 (S : J5) (x0 x1 x2 x3 : Value) (H : Heap) : Prop :=
  EvF P N.sent_Log_none #[x0] H fun v11 H1 =>
  S x0 x1 x2 x3 v11 H1
theorem z136_g23_e (S : J5) (x H) : WE z136_pi z136_c3 47 (fun l => S (gd l 0) (gd l 1) (gd l 2) (gd l 3) (gd l 11)) x H = z136_g23 S (x 0) (x 1) (x 2) (x 3) H := by kernel_rfl
noncomputable def z136_g24 (S : J4) (x0 x1 x2 x3 : Value) (H : Heap) : Prop :=
  EvF P N.sent_Log_find #[x0, x1] H fun v14 H1 =>
  S x0 x2 x3 v14 H1
theorem z136_g24_e (S : J4) (x H) : WE z136_pi z136_c6 47 (fun l => S (gd l 0) (gd l 2) (gd l 3) (gd l 8)) x H = z136_g24 S (x 0) (x 1) (x 2) (x 3) H := by kernel_rfl
noncomputable def z136_g26 (S : J5) (x0 x2 x3 x8 : Value) (H : Heap) : Prop :=
  bnd (nilV x0) fun v17 =>
  bnd (faV 4 v17) fun v18 =>
  bnd (ldE false 1 v18 H) fun v19 =>
  bnd (binV .int .lss x8 v19) fun v20 =>
  brV v20
  (EvF P N.sent_Log_at #[x0, x8] H fun v24 H1 =>
  bnd (nilV v24) fun v25 =>
  bnd (faV 0 v25) fun v26 =>
  bnd (faV 0 v26) fun v27 =>
  bnd (ldE false 1 v27 H1) fun v28 =>
  bnd (binV .int .leq v28 x2) fun v30 =>
  S x0 x2 x3 x8 v30 H1)
  (S x0 x2 x3 x8 (.bool false) H)
theorem z136_g26_e (S : J5) (x H) : WE z136_pi z136_c11 47 (fun l => S (gd l 0) (gd l 2) (gd l 3) (gd l 8) (gd l 31)) x H = z136_g26 S (x 0) (x 2) (x 3) (x 8) H := by kernel_rfl
noncomputable def z136_g28 (S : J4) (x0 x2 x3 x8 : Value) (H : Heap) : Prop :=
  bnd (binV .int .add x8 (.int .i64 1)) fun v33 =>
  S x0 x2 x3 v33 H
theorem z136_g28_e (S : J4) (x H) : WE z136_pi z136_c22 47 (fun l => S (gd l 0) (gd l 2) (gd l 3) (gd l 8)) x H = z136_g28 S (x 0) (x 2) (x 3) (x 8) H := by kernel_rfl
noncomputable def z136_s27 (x0 x2 x3 x8 : Value) (K1 : J4) (_R : J1) (H : Heap) : Prop :=
  z136_g28 (fun x0 x2 x3 x8 H => K1 x0 x2 x3 x8 H) x0 x2 x3 x8 H
noncomputable def z136_q29 (R : J1) : JQ := (retQ tab z136_rs R)
noncomputable def z136_q30 (R : J1) : JQ := (blkE 0 (z136_q29 R))
noncomputable def z136_q31 (K1 : J4) (R : J1) : JQ := (thenE (fun l H => K1 (gd l 0) (gd l 2) (gd l 3) (gd l 8) H) (z136_q30 R))
theorem z136_s27_i (K1 : J4) (R : J1) (l : List Value) (H : Heap) (hl : l.length = 47) (h : z136_s27 (gd l 0) (gd l 2) (gd l 3) (gd l 8) K1 R H) : wpE tab P z136_pi z136_c22 (z136_q31 K1 R) l H := rj hl (z136_g28_e _ (gd l) _) h fun l H hl h => tN <| h
noncomputable def z136_g32 (S : J5) (x0 x2 x3 x8 : Value) (H : Heap) : Prop :=
  EvF P N.sent_Log_at #[x0, x8] H fun v36 H1 =>
  S x0 x2 x3 x8 v36 H1
theorem z136_g32_e (S : J5) (x H) : WE z136_pi z136_c17 47 (fun l => S (gd l 0) (gd l 2) (gd l 3) (gd l 8) (gd l 9)) x H = z136_g32 S (x 0) (x 2) (x 3) (x 8) H := by kernel_rfl
noncomputable def z136_g33 (S : J6) (x0 x2 x3 x8 x9 : Value) (H : Heap) : Prop :=
  bnd (nilV x9) fun v38 =>
  bnd (faV 6 v38) fun v39 =>
  bnd (ldE false 1 v39 H) fun v40 =>
  S x0 x2 x3 x8 x9 v40 H
theorem z136_g33_e (S : J6) (x H) : WE z136_pi z136_c19 47 (fun l => S (gd l 0) (gd l 2) (gd l 3) (gd l 8) (gd l 9) (gd l 40)) x H = z136_g33 S (x 0) (x 2) (x 3) (x 8) (x 9) H := by kernel_rfl
noncomputable def z136_g34 (S : J4) (x0 x2 x3 x8 x9 : Value) (H : Heap) : Prop :=
  bnd (nilV x9) fun v43 =>
  bnd (faV 0 v43) fun v44 =>
  bnd (ldE true 6 v44 H) fun v45 =>
  callV P x3 [v45] H fun _ H1 =>
  S x0 x2 x3 x8 H1
theorem z136_g34_e (S : J4) (x H) : WE z136_pi z136_c21 47 (fun l => S (gd l 0) (gd l 2) (gd l 3) (gd l 8)) x H = z136_g34 S (x 0) (x 2) (x 3) (x 8) (x 9) H := by kernel_rfl
noncomputable def z136_s25 (x0 x2 x3 x8 : Value) (K1 : J4) (R : J1) (H : Heap) : Prop :=
  z136_g26 (fun x0 x2 x3 x8 x31 H => brV x31
  (z136_g32 (fun x0 x2 x3 x8 x9 H => z136_g33 (fun x0 x2 x3 x8 x9 x40 H => brV x40
  (z136_g34 (fun x0 x2 x3 x8 H => z136_s27 x0 x2 x3 x8 K1 R H) x0 x2 x3 x8 x9 H)
  (z136_s27 x0 x2 x3 x8 K1 R H)) x0 x2 x3 x8 x9 H) x0 x2 x3 x8 H)
  (R (.tuple #[]) H)) x0 x2 x3 x8 H
theorem z136_s25_i (K1 : J4) (R : J1) (l : List Value) (H : Heap) (hl : l.length = 47) (h : z136_s25 (gd l 0) (gd l 2) (gd l 3) (gd l 8) K1 R H) : wpE tab P z136_pi z136_c9 (z136_q31 K1 R) l H := sq rfl <| sr rfl hl (z136_g26_e _ (gd l) _) h fun l H hl h => cd rfl h (fun h => kN rfl <| sq rfl <| bl rfl <| sr rfl hl (z136_g32_e _ (gd l) _) h fun l H hl h => sr rfl hl (z136_g33_e _ (gd l) _) h fun l H hl h => cd rfl h (fun h => rj hl (z136_g34_e _ (gd l) _) h fun l H hl h => bN <| tN <| z136_s27_i K1 R l H hl h) fun h => sk rfl <| bN <| tN <| z136_s27_i K1 R l H hl h) fun h => ex rfl <| tX <| tX <| bX <| h
noncomputable def z136_l35 (x0 x2 x3 x8 : Value) (R : J1) (H : Heap) : Prop :=
  ∃ (I : J1) (μ : M1), I x8 H ∧ ∀ (y8 : Value) (H : Heap), I y8 H → z136_s25 x0 x2 x3 y8 (fun z0 z2 z3 z8 H' => z0 = x0 ∧ z2 = x2 ∧ z3 = x3 ∧ (I z8 H' ∧ μ z8 H' < μ y8 H)) R H
def sent_Log_each (x0 x1 x2 x3 : Value) (R : Value → Heap → Prop) (H : Heap) : Prop :=
  z136_g23 (fun x0 x1 x2 x3 x11 H => brV x11
  (R (.tuple #[]) H)
  (z136_g24 (fun x0 x2 x3 x8 H => z136_l35 x0 x2 x3 x8 R H) x0 x1 x2 x3 H)) x0 x1 x2 x3 H
theorem z136_ev (x0 x1 x2 x3 : Value) (R : J1) (H : Heap) (h : sent_Log_each x0 x1 x2 x3 R H) : EvF P N.sent_Log_each #[x0, x1, x2, x3] H R := .inl (EvF_intro (args := [x0, x1, x2, x3]) (k := 43) (rs := z136_rs) tab_ok mixed Tryz.func136 (show Tryz.f136.body = some z136_c1 by kernel_rfl) Tryz.call136 Tryz.ntmps136 (by kernel_rfl) (okCode_of _ (show okB z136_pi z136_c1 = true by kernel_rfl)) (fr_eq _ _) (fj (n := 47) rfl (fun l hl (h : sent_Log_each (gd l 0) (gd l 1) (gd l 2) (gd l 3) R H) => sq rfl <| sr rfl hl (z136_g23_e _ (gd l) _) h fun l H hl h => cd rfl h (fun h => rt rfl h) fun h => kN rfl <| sr rfl hl (z136_g24_e _ (gd l) _) h fun l H hl h => bl rfl <| (by
    obtain ⟨I, μ, h0, hr⟩ := h
    refine loopI (c := z136_c8) rfl (fun l' H' => gd l' 0 = gd l 0 ∧ gd l' 2 = gd l 2 ∧ gd l' 3 = gd l 3 ∧ I (gd l' 8) H') (fun l' H' => μ (gd l' 8) H') hl ⟨rfl, rfl, rfl, h0⟩ ?_
    rintro l1 H1 hl1 ⟨e0, e2, e3, hI⟩
    have hb := hr (gd l1 8) H1 hI
    rw [← e0, ← e2, ← e3] at hb
    refine wpE_mono _ l1 H1 hl1 ?_ (z136_s25_i _ R l1 H1 hl1 hb)
    intro e l2 H2 hl2 hq
    cases e with
    | normal => exact fun _ => (by obtain ⟨d0, d2, d3, g1, g2⟩ := hq; exact ⟨⟨d0.trans e0, d2.trans e2, d3.trans e3, g1⟩, g2⟩)
    | _ => exact hq)) h))
/- 137: (*sounder/sent.row).put -/
def z137_rs : List ResultVar := []
noncomputable def z137_c2 := sc Tryz.f137 [0]
noncomputable def z137_c3 := sc Tryz.f137 [1]
noncomputable def z137_c1 : Code := .seq z137_c2 z137_c3
def z137_pi (i : Nat) : Pl := match i with
  | 1 => (ones [0, 1, 2, 3, 4, 5, 6, 7, 8] .nil)
  | _ => .nil
noncomputable def z137_g4 (S : J2) (x0 x1 : Value) (H : Heap) : Prop :=
  newE 40 (Value.cells x1) H fun v3 H1 =>
  S x0 v3 H1
theorem z137_g4_e (S : J2) (x H) : WE z137_pi z137_c2 12 (fun l => S (gd l 0) (gd l 3)) x H = z137_g4 S (x 0) (x 1) H := by kernel_rfl
noncomputable def z137_g5 (S : J0) (x0 x3 : Value) (H : Heap) : Prop :=
  bnd (nilV x0) fun v6 =>
  bnd (ldE false 1 v6 H) fun v7 =>
  bnd (ldE true 6 x3 H) fun v8 =>
  bslE 40 #[(.int .i64 0), (.int .i64 0), (.int .i64 0), (.bool false), (.bool false), (.bool false)] 6 1 [(0, v8)] H fun v9 H1 =>
  ((bnd (ldE false 1 v6 H1) fun v' => v' = v7) ∧
  appE 40 #[(.int .i64 0), (.int .i64 0), (.int .i64 0), (.bool false), (.bool false), (.bool false)] 6 32 v7 v9 H1 fun v10 H2 =>
  bnd (nilV x0) fun v11 =>
  bnd (stE 1 v11 v10 H2) fun H3 =>
  S H3)
theorem z137_g5_e (S : J0) (x H) : WE z137_pi z137_c3 12 (fun _ => S ) x H = z137_g5 S (x 0) (x 3) H := by kernel_rfl
def sent_row_put (x0 x1 : Value) (R : Value → Heap → Prop) (H : Heap) : Prop :=
  z137_g4 (fun x0 x3 H => z137_g5 (fun H => R (.tuple #[]) H) x0 x3 H) x0 x1 H
theorem z137_ev (x0 x1 : Value) (R : J1) (H : Heap) (h : sent_row_put x0 x1 R H) : EvF P N.sent_row_put #[x0, x1] H R := .inl (EvF_intro (args := [x0, x1]) (k := 10) (rs := z137_rs) tab_ok mixed Tryz.func137 (show Tryz.f137.body = some z137_c1 by kernel_rfl) Tryz.call137 Tryz.ntmps137 (by kernel_rfl) (okCode_of _ (show okB z137_pi z137_c1 = true by kernel_rfl)) (fr_eq _ _) (fj (n := 12) rfl (fun l hl (h : sent_row_put (gd l 0) (gd l 1) R H) => sr rfl hl (z137_g4_e _ (gd l) _) h fun l H hl h => rj hl (z137_g5_e _ (gd l) _) h fun l H hl h => h) h))
/- 138: sounder/loss.Check$1 -/
def z138_rs : List ResultVar := [.tmp 3]
noncomputable def z138_c2 := sc Tryz.f138 [0]
noncomputable def z138_c4 := sc Tryz.f138 [1,0]
noncomputable def z138_c6 := sc Tryz.f138 [1,1,0]
noncomputable def z138_c8 := sc Tryz.f138 [1,1,1,0]
noncomputable def z138_c7 : Code := .seq z138_c8 Code.ret
noncomputable def z138_c5 : Code := .seq z138_c6 z138_c7
noncomputable def z138_c3 : Code := .seq z138_c4 z138_c5
noncomputable def z138_c1 : Code := .seq z138_c2 z138_c3
def z138_pi (_ : Nat) : Pl := .nil
noncomputable def z138_g9 (S : J2) (x0 x1 : Value) (H : Heap) : Prop :=
  newE 40 (Value.cells x0) H fun v2 H1 =>
  S x1 v2 H1
theorem z138_g9_e (S : J2) (x H) : WE z138_pi z138_c2 33 (fun l => S (gd l 1) (gd l 2)) x H = z138_g9 S (x 0) (x 1) H := by kernel_rfl
noncomputable def z138_g10 (S : J3) (x1 x2 : Value) (H : Heap) : Prop :=
  bnd (faV 0 x2) fun v5 =>
  bnd (ldE false 1 v5 H) fun v6 =>
  bnd (ldE false 1 x1 H) fun v7 =>
  bnd (binV .int .leq v6 v7) fun v8 =>
  brV v8
  (S x1 x2 (.bool true) H)
  (bnd (faV 0 x2) fun v10 =>
  bnd (ldE false 1 v10 H) fun v11 =>
  bnd (binV .int .gtr v11 (.int .i64 9007199254740991)) fun v12 =>
  brV v12
  (S x1 x2 (.bool true) H)
  (bnd (faV 1 x2) fun v15 =>
  bnd (ldE false 1 v15 H) fun v16 =>
  EvF P N.loss_isTime #[v16] H fun v17 H1 =>
  bnd (unV .not v17) fun v18 =>
  brV v18
  (S x1 x2 (.bool true) H1)
  (bnd (faV 2 x2) fun v21 =>
  bnd (ldE false 1 v21 H1) fun v22 =>
  bnd (binV .int .lss v22 (.int .i64 1)) fun v23 =>
  brV v23
  (S x1 x2 (.bool true) H1)
  (bnd (faV 2 x2) fun v26 =>
  bnd (ldE false 1 v26 H1) fun v27 =>
  bnd (binV .int .gtr v27 (.int .i64 65535)) fun v28 =>
  S x1 x2 v28 H1))))
theorem z138_g10_e (S : J3) (x H) : WE z138_pi z138_c4 33 (fun l => S (gd l 1) (gd l 2) (gd l 4)) x H = z138_g10 S (x 1) (x 2) H := by kernel_rfl
noncomputable def z138_g11 (S : J1) (x1 x2 x4 : Value) (H : Heap) : Prop :=
  bnd (faV 0 x2) fun v30 =>
  bnd (ldE false 1 v30 H) fun v31 =>
  bnd (stE 1 x1 v31 H) fun H1 =>
  S x4 H1
theorem z138_g11_e (S : J1) (x H) : WE z138_pi z138_c6 33 (fun l => S (gd l 4)) x H = z138_g11 S (x 1) (x 2) (x 4) H := by kernel_rfl
noncomputable def z138_g12 (S : J1) (x4 : Value) (H : Heap) : Prop :=
  S x4 H
theorem z138_g12_e (S : J1) (x H) : WE z138_pi z138_c8 33 (fun l => S (gd l 3)) x H = z138_g12 S (x 4) H := by kernel_rfl
def loss_Check_1 (x0 x1 : Value) (R : Value → Heap → Prop) (H : Heap) : Prop :=
  z138_g9 (fun x1 x2 H => z138_g10 (fun x1 x2 x4 H => z138_g11 (fun x4 H => z138_g12 (fun x3 H => R x3 H) x4 H) x1 x2 x4 H) x1 x2 H) x0 x1 H
theorem z138_ev (x0 x1 : Value) (R : J1) (H : Heap) (h : loss_Check_1 x0 x1 R H) : EvF P N.loss_Check_1 #[x0, x1] H R := .inl (EvF_intro (args := [x0, x1]) (k := 31) (rs := z138_rs) tab_ok mixed Tryz.func138 (show Tryz.f138.body = some z138_c1 by kernel_rfl) Tryz.call138 Tryz.ntmps138 (by kernel_rfl) (okCode_of _ (show okB z138_pi z138_c1 = true by kernel_rfl)) (fr_eq _ _) (fj (n := 33) rfl (fun l hl (h : loss_Check_1 (gd l 0) (gd l 1) R H) => sr rfl hl (z138_g9_e _ (gd l) _) h fun l H hl h => sr rfl hl (z138_g10_e _ (gd l) _) h fun l H hl h => sr rfl hl (z138_g11_e _ (gd l) _) h fun l H hl h => sr rfl hl (z138_g12_e _ (gd l) _) h fun l H hl h => rt rfl h) h))
/- 139: slices.ContainsFunc[[]sounder/api.Packet,sounder/api.Packet] -/
def z139_rs : List ResultVar := [.tmp 4]
noncomputable def z139_c2 := sc Tryz.f139 [0]
noncomputable def z139_c4 := sc Tryz.f139 [1,0]
noncomputable def z139_c3 : Code := .seq z139_c4 Code.ret
noncomputable def z139_c1 : Code := .seq z139_c2 z139_c3
def z139_pi (_ : Nat) : Pl := .nil
noncomputable def z139_g5 (S : J2) (x0 x1 : Value) (H : Heap) : Prop :=
  S x0 x1 H
theorem z139_g5_e (S : J2) (x H) : WE z139_pi z139_c2 9 (fun l => S (gd l 0) (gd l 1)) x H = z139_g5 S (x 0) (x 1) H := by kernel_rfl
noncomputable def z139_g6 (S : J1) (x0 x1 : Value) (H : Heap) : Prop :=
  EvF P N.slices_IndexFunc_Packet #[x0, x1] H fun v7 H1 =>
  bnd (binV .int .geq v7 (.int .i64 0)) fun v8 =>
  S v8 H1
theorem z139_g6_e (S : J1) (x H) : WE z139_pi z139_c4 9 (fun l => S (gd l 4)) x H = z139_g6 S (x 0) (x 1) H := by kernel_rfl
def slices_ContainsFunc_Packet (x0 x1 : Value) (R : Value → Heap → Prop) (H : Heap) : Prop :=
  z139_g5 (fun x0 x1 H => z139_g6 (fun x4 H => R x4 H) x0 x1 H) x0 x1 H
theorem z139_ev (x0 x1 : Value) (R : J1) (H : Heap) (h : slices_ContainsFunc_Packet x0 x1 R H) : EvF P N.slices_ContainsFunc_Packet #[x0, x1] H R := .inl (EvF_intro (args := [x0, x1]) (k := 7) (rs := z139_rs) tab_ok mixed Tryz.func139 (show Tryz.f139.body = some z139_c1 by kernel_rfl) Tryz.call139 Tryz.ntmps139 (by kernel_rfl) (okCode_of _ (show okB z139_pi z139_c1 = true by kernel_rfl)) (fr_eq _ _) (fj (n := 9) rfl (fun l hl (h : slices_ContainsFunc_Packet (gd l 0) (gd l 1) R H) => sr rfl hl (z139_g5_e _ (gd l) _) h fun l H hl h => sr rfl hl (z139_g6_e _ (gd l) _) h fun l H hl h => rt rfl h) h))
/- 140: sounder/rtt.New -/
def z140_rs : List ResultVar := [.cell 2 45, .tmp 3]
noncomputable def z140_c2 := sc Tryz.f140 [0]
noncomputable def z140_c5 := sc Tryz.f140 [1,0,0]
noncomputable def z140_c8 := sc Tryz.f140 [1,0,1,0,0]
noncomputable def z140_c7 : Code := .seq z140_c8 Code.ret
noncomputable def z140_c6 : Code := .cond (.tmp 9) z140_c7 Code.skip
noncomputable def z140_c4 : Code := .seq z140_c5 z140_c6
noncomputable def z140_c10 := sc Tryz.f140 [1,1,0]
noncomputable def z140_c9 : Code := .seq z140_c10 Code.ret
noncomputable def z140_c3 : Code := .seq z140_c4 z140_c9
noncomputable def z140_c1 : Code := .seq z140_c2 z140_c3
def z140_pi (_ : Nat) : Pl := .nil
noncomputable def z140_g11 (S : J2) (x0 : Value) (H : Heap) : Prop :=
  newE 45 #[(.int .i64 0), (.int .i64 0), (.int .i64 0), (.int .i64 0), (.int .i64 0)] H fun v2 H1 =>
  S x0 v2 H1
theorem z140_g11_e (S : J2) (x H) : WE z140_pi z140_c2 15 (fun l => S (gd l 0) (gd l 2)) x H = z140_g11 S (x 0) H := by kernel_rfl
noncomputable def z140_g12 (S : J3) (x0 x2 : Value) (H : Heap) : Prop :=
  bnd (binV .int .lss x0 (.int .i64 1000000)) fun v5 =>
  brV v5
  (S x0 x2 (.bool true) H)
  (bnd (binV .int .gtr x0 (.int .i64 60000000000)) fun v8 =>
  S x0 x2 v8 H)
theorem z140_g12_e (S : J3) (x H) : WE z140_pi z140_c5 15 (fun l => S (gd l 0) (gd l 2) (gd l 9)) x H = z140_g12 S (x 0) (x 2) H := by kernel_rfl
noncomputable def z140_g13 (S : J2) (x2 : Value) (H : Heap) : Prop :=
  bnd (buildV #[(.int .i64 0), (.int .i64 0), (.int .i64 0), (.int .i64 0), (.int .i64 0)] (places [(0, 1), (1, 1), (2, 1), (3, 1), (4, 1)]) []) fun v10 =>
  bnd (stE 5 x2 v10 H) fun H1 =>
  S x2 (.int .i64 9) H1
theorem z140_g13_e (S : J2) (x H) : WE z140_pi z140_c8 15 (fun l => S (gd l 2) (gd l 3)) x H = z140_g13 S (x 2) H := by kernel_rfl
noncomputable def z140_g14 (S : J2) (x0 x2 : Value) (H : Heap) : Prop :=
  bnd (binV .int .quo x0 (.int .i64 2)) fun v13 =>
  bnd (buildV #[(.int .i64 0), (.int .i64 0), (.int .i64 0), (.int .i64 0), (.int .i64 0)] (places [(0, 1), (1, 1), (2, 1), (3, 1), (4, 1)]) [(2, x0), (3, v13), (4, (.int .i64 (-1)))]) fun v14 =>
  bnd (stE 5 x2 v14 H) fun H1 =>
  S x2 (.int .i64 0) H1
theorem z140_g14_e (S : J2) (x H) : WE z140_pi z140_c10 15 (fun l => S (gd l 2) (gd l 3)) x H = z140_g14 S (x 0) (x 2) H := by kernel_rfl
def rtt_New (x0 : Value) (R : Value → Heap → Prop) (H : Heap) : Prop :=
  z140_g11 (fun x0 x2 H => z140_g12 (fun x0 x2 x9 H => brV x9
  (z140_g13 (fun x2 x3 H => bnd (ldE true 5 x2 H) fun r0 =>
  R (.tuple #[r0, x3]) H) x2 H)
  (z140_g14 (fun x2 x3 H => bnd (ldE true 5 x2 H) fun r0 =>
  R (.tuple #[r0, x3]) H) x0 x2 H)) x0 x2 H) x0 H
theorem z140_ev (x0 : Value) (R : J1) (H : Heap) (h : rtt_New x0 R H) : EvF P N.rtt_New #[x0] H R := .inl (EvF_intro (args := [x0]) (k := 14) (rs := z140_rs) tab_ok mixed Tryz.func140 (show Tryz.f140.body = some z140_c1 by kernel_rfl) Tryz.call140 Tryz.ntmps140 (by kernel_rfl) (okCode_of _ (show okB z140_pi z140_c1 = true by kernel_rfl)) (fr_eq _ _) (fj (n := 15) rfl (fun l hl (h : rtt_New (gd l 0) R H) => sr rfl hl (z140_g11_e _ (gd l) _) h fun l H hl h => sq rfl <| sr rfl hl (z140_g12_e _ (gd l) _) h fun l H hl h => cd rfl h (fun h => sr rfl hl (z140_g13_e _ (gd l) _) h fun l H hl h => rt rfl h) fun h => kN rfl <| sr rfl hl (z140_g14_e _ (gd l) _) h fun l H hl h => rt rfl h) h))
/- 141: sounder/rtt.isTime -/
def z141_rs : List ResultVar := [.tmp 2]
noncomputable def z141_c2 := sc Tryz.f141 [0]
noncomputable def z141_c5 := sc Tryz.f141 [1,0,0]
noncomputable def z141_c9 := sc Tryz.f141 [1,0,1,0,0,0]
noncomputable def z141_c12 : Code := .exit 0
noncomputable def z141_c11 : Code := .cond (.tmp 8) Code.skip z141_c12
noncomputable def z141_c16 := sc Tryz.f141 [1,0,1,0,0,1,1,0,0,0]
noncomputable def z141_c18 := sc Tryz.f141 [1,0,1,0,0,1,1,0,0,1,0]
noncomputable def z141_c21 := sc Tryz.f141 [1,0,1,0,0,1,1,0,0,1,1,0,0]
noncomputable def z141_c20 : Code := .seq z141_c21 Code.ret
noncomputable def z141_c19 : Code := .cond (.tmp 16) z141_c20 Code.skip
noncomputable def z141_c17 : Code := .seq z141_c18 z141_c19
noncomputable def z141_c15 : Code := .seq z141_c16 z141_c17
noncomputable def z141_c14 : Code := .block 1 z141_c15
noncomputable def z141_c22 := sc Tryz.f141 [1,0,1,0,0,1,1,1]
noncomputable def z141_c13 : Code := .seq z141_c14 z141_c22
noncomputable def z141_c10 : Code := .seq z141_c11 z141_c13
noncomputable def z141_c8 : Code := .seq z141_c9 z141_c10
noncomputable def z141_c7 : Code := .loop z141_c8
noncomputable def z141_c6 : Code := .block 0 z141_c7
noncomputable def z141_c4 : Code := .seq z141_c5 z141_c6
noncomputable def z141_c24 := sc Tryz.f141 [1,1,0]
noncomputable def z141_c23 : Code := .seq z141_c24 Code.ret
noncomputable def z141_c3 : Code := .seq z141_c4 z141_c23
noncomputable def z141_c1 : Code := .seq z141_c2 z141_c3
def z141_pi (_ : Nat) : Pl := .nil
noncomputable def z141_g25 (S : J1) (x0 : Value) (H : Heap) : Prop :=
  S x0 H
theorem z141_g25_e (S : J1) (x H) : WE z141_pi z141_c2 18 (fun l => S (gd l 0)) x H = z141_g25 S (x 0) H := by kernel_rfl
noncomputable def z141_g26 (S : J3) (x0 : Value) (H : Heap) : Prop :=
  bnd (lenV x0) fun v6 =>
  S x0 v6 (.int .i64 0) H
theorem z141_g26_e (S : J3) (x H) : WE z141_pi z141_c5 18 (fun l => S (gd l 5) (gd l 6) (gd l 7)) x H = z141_g26 S (x 0) H := by kernel_rfl
noncomputable def z141_g28 (S : J4) (x5 x6 x7 : Value) (H : Heap) : Prop :=
  bnd (binV .int .lss x7 x6) fun v8 =>
  S x5 x6 x7 v8 H
theorem z141_g28_e (S : J4) (x H) : WE z141_pi z141_c9 18 (fun l => S (gd l 5) (gd l 6) (gd l 7) (gd l 8)) x H = z141_g28 S (x 5) (x 6) (x 7) H := by kernel_rfl
noncomputable def z141_g29 (S : J4) (x5 x6 x7 : Value) (H : Heap) : Prop :=
  bnd (ixSV 1 x5 x7) fun v9 =>
  bnd (ldE false 1 v9 H) fun v10 =>
  S v10 x5 x6 x7 H
theorem z141_g29_e (S : J4) (x H) : WE z141_pi z141_c16 18 (fun l => S (gd l 4) (gd l 5) (gd l 6) (gd l 7)) x H = z141_g29 S (x 5) (x 6) (x 7) H := by kernel_rfl
noncomputable def z141_g30 (S : J4) (x4 x5 x6 x7 : Value) (H : Heap) : Prop :=
  bnd (binV .int .lss x4 (.int .i64 0)) fun v12 =>
  brV v12
  (S x5 x6 x7 (.bool true) H)
  (bnd (binV .int .gtr x4 (.int .i64 9007199254740991)) fun v15 =>
  S x5 x6 x7 v15 H)
theorem z141_g30_e (S : J4) (x H) : WE z141_pi z141_c18 18 (fun l => S (gd l 5) (gd l 6) (gd l 7) (gd l 16)) x H = z141_g30 S (x 4) (x 5) (x 6) (x 7) H := by kernel_rfl
noncomputable def z141_g31 (S : J1) (H : Heap) : Prop :=
  S (.bool false) H
theorem z141_g31_e (S : J1) (x H) : WE z141_pi z141_c21 18 (fun l => S (gd l 2)) x H = z141_g31 S  H := by kernel_rfl
noncomputable def z141_g32 (S : J3) (x5 x6 x7 : Value) (H : Heap) : Prop :=
  bnd (binV .int .add x7 (.int .i64 1)) fun v17 =>
  S x5 x6 v17 H
theorem z141_g32_e (S : J3) (x H) : WE z141_pi z141_c22 18 (fun l => S (gd l 5) (gd l 6) (gd l 7)) x H = z141_g32 S (x 5) (x 6) (x 7) H := by kernel_rfl
noncomputable def z141_g33 (S : J1) (H : Heap) : Prop :=
  S (.bool true) H
theorem z141_g33_e (S : J1) (x H) : WE z141_pi z141_c24 18 (fun l => S (gd l 2)) x H = z141_g33 S  H := by kernel_rfl
noncomputable def z141_s27 (x5 x6 x7 : Value) (K1 : J3) (R : J1) (H : Heap) : Prop :=
  z141_g28 (fun x5 x6 x7 x8 H => brV x8
  (z141_g29 (fun x4 x5 x6 x7 H => z141_g30 (fun x5 x6 x7 x16 H => brV x16
  (z141_g31 (fun x2 H => R x2 H) H)
  (z141_g32 (fun x5 x6 x7 H => K1 x5 x6 x7 H) x5 x6 x7 H)) x4 x5 x6 x7 H) x5 x6 x7 H)
  (z141_g33 (fun x2 H => R x2 H) H)) x5 x6 x7 H
noncomputable def z141_q34 (R : J1) : JQ := (retQ tab z141_rs R)
noncomputable def z141_q35 (R : J1) : JQ := (thenE (fun l H => wpE tab P z141_pi z141_c23 (z141_q34 R) l H) (z141_q34 R))
noncomputable def z141_q36 (R : J1) : JQ := (blkE 0 (z141_q35 R))
noncomputable def z141_q37 (K1 : J3) (R : J1) : JQ := (thenE (fun l H => K1 (gd l 5) (gd l 6) (gd l 7) H) (z141_q36 R))
theorem z141_s27_i (K1 : J3) (R : J1) (l : List Value) (H : Heap) (hl : l.length = 18) (h : z141_s27 (gd l 5) (gd l 6) (gd l 7) K1 R H) : wpE tab P z141_pi z141_c8 (z141_q37 K1 R) l H := sr rfl hl (z141_g28_e _ (gd l) _) h fun l H hl h => sq rfl <| cd rfl h (fun h => kN rfl <| sq rfl <| bl rfl <| sr rfl hl (z141_g29_e _ (gd l) _) h fun l H hl h => sr rfl hl (z141_g30_e _ (gd l) _) h fun l H hl h => cd rfl h (fun h => sr rfl hl (z141_g31_e _ (gd l) _) h fun l H hl h => rt rfl h) fun h => sk rfl <| bN <| tN <| rj hl (z141_g32_e _ (gd l) _) h fun l H hl h => tN <| h) fun h => ex rfl <| tX <| tX <| bX <| tN <| sr rfl hl (z141_g33_e _ (gd l) _) h fun l H hl h => rt rfl h
noncomputable def z141_l38 (x5 x6 x7 : Value) (R : J1) (H : Heap) : Prop :=
  ∃ (I : J1) (μ : M1), I x7 H ∧ ∀ (y7 : Value) (H : Heap), I y7 H → z141_s27 x5 x6 y7 (fun z5 z6 z7 H' => z5 = x5 ∧ z6 = x6 ∧ (I z7 H' ∧ μ z7 H' < μ y7 H)) R H
def rtt_isTime (x0 : Value) (R : Value → Heap → Prop) (H : Heap) : Prop :=
  z141_g25 (fun x0 H => z141_g26 (fun x5 x6 x7 H => z141_l38 x5 x6 x7 R H) x0 H) x0 H
theorem z141_ev (x0 : Value) (R : J1) (H : Heap) (h : rtt_isTime x0 R H) : EvF P N.rtt_isTime #[x0] H R := .inl (EvF_intro (args := [x0]) (k := 17) (rs := z141_rs) tab_ok mixed Tryz.func141 (show Tryz.f141.body = some z141_c1 by kernel_rfl) Tryz.call141 Tryz.ntmps141 (by kernel_rfl) (okCode_of _ (show okB z141_pi z141_c1 = true by kernel_rfl)) (fr_eq _ _) (fj (n := 18) rfl (fun l hl (h : rtt_isTime (gd l 0) R H) => sr rfl hl (z141_g25_e _ (gd l) _) h fun l H hl h => sq rfl <| sr rfl hl (z141_g26_e _ (gd l) _) h fun l H hl h => bl rfl <| (by
    obtain ⟨I, μ, h0, hr⟩ := h
    refine loopI (c := z141_c7) rfl (fun l' H' => gd l' 5 = gd l 5 ∧ gd l' 6 = gd l 6 ∧ I (gd l' 7) H') (fun l' H' => μ (gd l' 7) H') hl ⟨rfl, rfl, h0⟩ ?_
    rintro l1 H1 hl1 ⟨e5, e6, hI⟩
    have hb := hr (gd l1 7) H1 hI
    rw [← e5, ← e6] at hb
    refine wpE_mono _ l1 H1 hl1 ?_ (z141_s27_i _ R l1 H1 hl1 hb)
    intro e l2 H2 hl2 hq
    cases e with
    | normal => exact fun _ => (by obtain ⟨d5, d6, g1, g2⟩ := hq; exact ⟨⟨d5.trans e5, d6.trans e6, g1⟩, g2⟩)
    | _ => exact hq)) h))
/- 142: sounder/loss.ruled$1 -/
def z142_rs : List ResultVar := [.tmp 3]
noncomputable def z142_c2 := sc Tryz.f142 [0]
noncomputable def z142_c4 := sc Tryz.f142 [1,0]
noncomputable def z142_c3 : Code := .seq z142_c4 Code.ret
noncomputable def z142_c1 : Code := .seq z142_c2 z142_c3
def z142_pi (_ : Nat) : Pl := .nil
noncomputable def z142_g5 (S : J2) (x0 x1 : Value) (H : Heap) : Prop :=
  newE 40 (Value.cells x0) H fun v2 H1 =>
  S x1 v2 H1
theorem z142_g5_e (S : J2) (x H) : WE z142_pi z142_c2 8 (fun l => S (gd l 1) (gd l 2)) x H = z142_g5 S (x 0) (x 1) H := by kernel_rfl
noncomputable def z142_g6 (S : J1) (x1 x2 : Value) (H : Heap) : Prop :=
  bnd (faV 1 x2) fun v4 =>
  bnd (ldE false 1 v4 H) fun v5 =>
  bnd (ldE false 1 x1 H) fun v6 =>
  bnd (binV .int .add v5 v6) fun v7 =>
  S v7 H
theorem z142_g6_e (S : J1) (x H) : WE z142_pi z142_c4 8 (fun l => S (gd l 3)) x H = z142_g6 S (x 1) (x 2) H := by kernel_rfl
def loss_ruled_1 (x0 x1 : Value) (R : Value → Heap → Prop) (H : Heap) : Prop :=
  z142_g5 (fun x1 x2 H => z142_g6 (fun x3 H => R x3 H) x1 x2 H) x0 x1 H
theorem z142_ev (x0 x1 : Value) (R : J1) (H : Heap) (h : loss_ruled_1 x0 x1 R H) : EvF P N.loss_ruled_1 #[x0, x1] H R := .inl (EvF_intro (args := [x0, x1]) (k := 6) (rs := z142_rs) tab_ok mixed Tryz.func142 (show Tryz.f142.body = some z142_c1 by kernel_rfl) Tryz.call142 Tryz.ntmps142 (by kernel_rfl) (okCode_of _ (show okB z142_pi z142_c1 = true by kernel_rfl)) (fr_eq _ _) (fj (n := 8) rfl (fun l hl (h : loss_ruled_1 (gd l 0) (gd l 1) R H) => sr rfl hl (z142_g5_e _ (gd l) _) h fun l H hl h => sr rfl hl (z142_g6_e _ (gd l) _) h fun l H hl h => rt rfl h) h))
/- 143: sounder/loss.ruled$2 -/
def z143_rs : List ResultVar := [.tmp 3]
noncomputable def z143_c2 := sc Tryz.f143 [0]
noncomputable def z143_c4 := sc Tryz.f143 [1,0]
noncomputable def z143_c3 : Code := .seq z143_c4 Code.ret
noncomputable def z143_c1 : Code := .seq z143_c2 z143_c3
def z143_pi (_ : Nat) : Pl := .nil
noncomputable def z143_g5 (S : J2) (x0 x1 : Value) (H : Heap) : Prop :=
  newE 40 (Value.cells x0) H fun v2 H1 =>
  S x1 v2 H1
theorem z143_g5_e (S : J2) (x H) : WE z143_pi z143_c2 8 (fun l => S (gd l 1) (gd l 2)) x H = z143_g5 S (x 0) (x 1) H := by kernel_rfl
noncomputable def z143_g6 (S : J1) (x1 x2 : Value) (H : Heap) : Prop :=
  bnd (faV 0 x2) fun v4 =>
  bnd (ldE false 1 v4 H) fun v5 =>
  bnd (ldE false 1 x1 H) fun v6 =>
  bnd (binV .int .leq v5 v6) fun v7 =>
  S v7 H
theorem z143_g6_e (S : J1) (x H) : WE z143_pi z143_c4 8 (fun l => S (gd l 3)) x H = z143_g6 S (x 1) (x 2) H := by kernel_rfl
def loss_ruled_2 (x0 x1 : Value) (R : Value → Heap → Prop) (H : Heap) : Prop :=
  z143_g5 (fun x1 x2 H => z143_g6 (fun x3 H => R x3 H) x1 x2 H) x0 x1 H
theorem z143_ev (x0 x1 : Value) (R : J1) (H : Heap) (h : loss_ruled_2 x0 x1 R H) : EvF P N.loss_ruled_2 #[x0, x1] H R := .inl (EvF_intro (args := [x0, x1]) (k := 6) (rs := z143_rs) tab_ok mixed Tryz.func143 (show Tryz.f143.body = some z143_c1 by kernel_rfl) Tryz.call143 Tryz.ntmps143 (by kernel_rfl) (okCode_of _ (show okB z143_pi z143_c1 = true by kernel_rfl)) (fr_eq _ _) (fj (n := 8) rfl (fun l hl (h : loss_ruled_2 (gd l 0) (gd l 1) R H) => sr rfl hl (z143_g5_e _ (gd l) _) h fun l H hl h => sr rfl hl (z143_g6_e _ (gd l) _) h fun l H hl h => rt rfl h) h))
/- 144: sounder/loss.ruled$3 -/
def z144_rs : List ResultVar := [.tmp 5]
noncomputable def z144_c2 := sc Tryz.f144 [0]
noncomputable def z144_c4 := sc Tryz.f144 [1,0]
noncomputable def z144_c3 : Code := .seq z144_c4 Code.ret
noncomputable def z144_c1 : Code := .seq z144_c2 z144_c3
def z144_pi (i : Nat) : Pl := match i with
  | 1 => (ones [0, 1, 2, 3, 4, 5, 6, 7, 9, 8, 10, 11, 12] .nil)
  | _ => .nil
noncomputable def z144_g5 (S : J4) (x0 x1 x2 x3 : Value) (H : Heap) : Prop :=
  newE 40 (Value.cells x0) H fun v4 H1 =>
  S x1 x2 x3 v4 H1
theorem z144_g5_e (S : J4) (x H) : WE z144_pi z144_c2 18 (fun l => S (gd l 1) (gd l 2) (gd l 3) (gd l 4)) x H = z144_g5 S (x 0) (x 1) (x 2) (x 3) H := by kernel_rfl
noncomputable def z144_g6 (S : J1) (x1 x2 x3 x4 : Value) (H : Heap) : Prop :=
  bnd (ldE false 1 x1 H) fun v6 =>
  bnd (faV 0 x4) fun v7 =>
  bnd (ldE false 1 v7 H) fun v8 =>
  bnd (binV .int .sub v6 v8) fun v9 =>
  bnd (binV .int .geq v9 (.int .i64 3)) fun v10 =>
  brV v10
  (S (.bool true) H)
  (bnd (ldE false 1 x2 H) fun v12 =>
  bnd (ldE true 6 x4 H) fun v13 =>
  bnd (ldE false 1 x3 H) fun v15 =>
  callV P v12 [v13] H fun v14 H1 =>
  ((bnd (ldE false 1 x3 H1) fun v' => v' = v15) ∧
  ((bnd (ldE false 1 v7 H1) fun v' => v' = v8) ∧
  ((bnd (ldE false 1 x1 H1) fun v' => v' = v6) ∧
  bnd (binV .int .leq v14 v15) fun v16 =>
  S v16 H1))))
theorem z144_g6_e (S : J1) (x H) : WE z144_pi z144_c4 18 (fun l => S (gd l 5)) x H = z144_g6 S (x 1) (x 2) (x 3) (x 4) H := by kernel_rfl
def loss_ruled_3 (x0 x1 x2 x3 : Value) (R : Value → Heap → Prop) (H : Heap) : Prop :=
  z144_g5 (fun x1 x2 x3 x4 H => z144_g6 (fun x5 H => R x5 H) x1 x2 x3 x4 H) x0 x1 x2 x3 H
theorem z144_ev (x0 x1 x2 x3 : Value) (R : J1) (H : Heap) (h : loss_ruled_3 x0 x1 x2 x3 R H) : EvF P N.loss_ruled_3 #[x0, x1, x2, x3] H R := .inl (EvF_intro (args := [x0, x1, x2, x3]) (k := 14) (rs := z144_rs) tab_ok mixed Tryz.func144 (show Tryz.f144.body = some z144_c1 by kernel_rfl) Tryz.call144 Tryz.ntmps144 (by kernel_rfl) (okCode_of _ (show okB z144_pi z144_c1 = true by kernel_rfl)) (fr_eq _ _) (fj (n := 18) rfl (fun l hl (h : loss_ruled_3 (gd l 0) (gd l 1) (gd l 2) (gd l 3) R H) => sr rfl hl (z144_g5_e _ (gd l) _) h fun l H hl h => sr rfl hl (z144_g6_e _ (gd l) _) h fun l H hl h => rt rfl h) h))
/- 145: sounder/loss.ruled$4 -/
def z145_rs : List ResultVar := [.tmp 3]
noncomputable def z145_c2 := sc Tryz.f145 [0]
noncomputable def z145_c4 := sc Tryz.f145 [1,0]
noncomputable def z145_c3 : Code := .seq z145_c4 Code.ret
noncomputable def z145_c1 : Code := .seq z145_c2 z145_c3
def z145_pi (_ : Nat) : Pl := .nil
noncomputable def z145_g5 (S : J2) (x0 x1 : Value) (H : Heap) : Prop :=
  newE 40 (Value.cells x0) H fun v2 H1 =>
  S x1 v2 H1
theorem z145_g5_e (S : J2) (x H) : WE z145_pi z145_c2 8 (fun l => S (gd l 1) (gd l 2)) x H = z145_g5 S (x 0) (x 1) H := by kernel_rfl
noncomputable def z145_g6 (S : J1) (x1 x2 : Value) (H : Heap) : Prop :=
  bnd (ldE false 1 x1 H) fun v4 =>
  bnd (ldE true 6 x2 H) fun v5 =>
  callV P v4 [v5] H fun v6 H1 =>
  bnd (foldV min2V v6 [(.int .i64 9007199254740991)]) fun v7 =>
  S v7 H1
theorem z145_g6_e (S : J1) (x H) : WE z145_pi z145_c4 8 (fun l => S (gd l 3)) x H = z145_g6 S (x 1) (x 2) H := by kernel_rfl
def loss_ruled_4 (x0 x1 : Value) (R : Value → Heap → Prop) (H : Heap) : Prop :=
  z145_g5 (fun x1 x2 H => z145_g6 (fun x3 H => R x3 H) x1 x2 H) x0 x1 H
theorem z145_ev (x0 x1 : Value) (R : J1) (H : Heap) (h : loss_ruled_4 x0 x1 R H) : EvF P N.loss_ruled_4 #[x0, x1] H R := .inl (EvF_intro (args := [x0, x1]) (k := 6) (rs := z145_rs) tab_ok mixed Tryz.func145 (show Tryz.f145.body = some z145_c1 by kernel_rfl) Tryz.call145 Tryz.ntmps145 (by kernel_rfl) (okCode_of _ (show okB z145_pi z145_c1 = true by kernel_rfl)) (fr_eq _ _) (fj (n := 8) rfl (fun l hl (h : loss_ruled_4 (gd l 0) (gd l 1) R H) => sr rfl hl (z145_g5_e _ (gd l) _) h fun l H hl h => sr rfl hl (z145_g6_e _ (gd l) _) h fun l H hl h => rt rfl h) h))
/- 146: sounder/rtt.Greatest -/
def z146_rs : List ResultVar := [.tmp 2]
noncomputable def z146_c2 := sc Tryz.f146 [0]
noncomputable def z146_c5 := sc Tryz.f146 [1,0,0]
noncomputable def z146_c8 := sc Tryz.f146 [1,0,1,0,0]
noncomputable def z146_c7 : Code := .seq z146_c8 Code.ret
noncomputable def z146_c6 : Code := .cond (.tmp 5) z146_c7 Code.skip
noncomputable def z146_c4 : Code := .seq z146_c5 z146_c6
noncomputable def z146_c10 := sc Tryz.f146 [1,1,0]
noncomputable def z146_c9 : Code := .seq z146_c10 Code.ret
noncomputable def z146_c3 : Code := .seq z146_c4 z146_c9
noncomputable def z146_c1 : Code := .seq z146_c2 z146_c3
def z146_pi (_ : Nat) : Pl := .nil
noncomputable def z146_g11 (S : J1) (x0 : Value) (H : Heap) : Prop :=
  newE 45 (Value.cells x0) H fun v1 H1 =>
  S v1 H1
theorem z146_g11_e (S : J1) (x H) : WE z146_pi z146_c2 11 (fun l => S (gd l 1)) x H = z146_g11 S (x 0) H := by kernel_rfl
noncomputable def z146_g12 (S : J2) (x1 : Value) (H : Heap) : Prop :=
  bnd (ldE true 5 x1 H) fun v3 =>
  EvF P N.rtt_Check #[v3] H fun v4 H1 =>
  bnd (binV .int .neq v4 (.int .i64 0)) fun v5 =>
  S x1 v5 H1
theorem z146_g12_e (S : J2) (x H) : WE z146_pi z146_c5 11 (fun l => S (gd l 1) (gd l 5)) x H = z146_g12 S (x 1) H := by kernel_rfl
noncomputable def z146_g13 (S : J1) (H : Heap) : Prop :=
  S (.int .i64 0) H
theorem z146_g13_e (S : J1) (x H) : WE z146_pi z146_c8 11 (fun l => S (gd l 2)) x H = z146_g13 S  H := by kernel_rfl
noncomputable def z146_g14 (S : J1) (x1 : Value) (H : Heap) : Prop :=
  bnd (faV 2 x1) fun v6 =>
  bnd (ldE false 1 v6 H) fun v7 =>
  bnd (faV 0 x1) fun v8 =>
  bnd (ldE false 1 v8 H) fun v9 =>
  bnd (foldV max2V v7 [v9]) fun v10 =>
  S v10 H
theorem z146_g14_e (S : J1) (x H) : WE z146_pi z146_c10 11 (fun l => S (gd l 2)) x H = z146_g14 S (x 1) H := by kernel_rfl
def rtt_Greatest (x0 : Value) (R : Value → Heap → Prop) (H : Heap) : Prop :=
  z146_g11 (fun x1 H => z146_g12 (fun x1 x5 H => brV x5
  (z146_g13 (fun x2 H => R x2 H) H)
  (z146_g14 (fun x2 H => R x2 H) x1 H)) x1 H) x0 H
theorem z146_ev (x0 : Value) (R : J1) (H : Heap) (h : rtt_Greatest x0 R H) : EvF P N.rtt_Greatest #[x0] H R := .inl (EvF_intro (args := [x0]) (k := 10) (rs := z146_rs) tab_ok mixed Tryz.func146 (show Tryz.f146.body = some z146_c1 by kernel_rfl) Tryz.call146 Tryz.ntmps146 (by kernel_rfl) (okCode_of _ (show okB z146_pi z146_c1 = true by kernel_rfl)) (fr_eq _ _) (fj (n := 11) rfl (fun l hl (h : rtt_Greatest (gd l 0) R H) => sr rfl hl (z146_g11_e _ (gd l) _) h fun l H hl h => sq rfl <| sr rfl hl (z146_g12_e _ (gd l) _) h fun l H hl h => cd rfl h (fun h => sr rfl hl (z146_g13_e _ (gd l) _) h fun l H hl h => rt rfl h) fun h => kN rfl <| sr rfl hl (z146_g14_e _ (gd l) _) h fun l H hl h => rt rfl h) h))
/- 147: (*sounder/sent.Log).slot -/
def z147_rs : List ResultVar := [.tmp 4]
noncomputable def z147_c2 := sc Tryz.f147 [0]
noncomputable def z147_c5 := sc Tryz.f147 [1,0,0]
noncomputable def z147_c8 := sc Tryz.f147 [1,0,1,0,0]
noncomputable def z147_c7 : Code := .seq z147_c8 Code.ret
noncomputable def z147_c6 : Code := .cond (.tmp 8) z147_c7 Code.skip
noncomputable def z147_c4 : Code := .seq z147_c5 z147_c6
noncomputable def z147_c10 := sc Tryz.f147 [1,1,0]
noncomputable def z147_c13 := sc Tryz.f147 [1,1,1,0,0]
noncomputable def z147_c16 := sc Tryz.f147 [1,1,1,0,1,0,0]
noncomputable def z147_c15 : Code := .seq z147_c16 Code.ret
noncomputable def z147_c14 : Code := .cond (.tmp 17) z147_c15 Code.skip
noncomputable def z147_c12 : Code := .seq z147_c13 z147_c14
noncomputable def z147_c19 := sc Tryz.f147 [1,1,1,1,0,0]
noncomputable def z147_c21 := sc Tryz.f147 [1,1,1,1,0,1,0]
noncomputable def z147_c24 := sc Tryz.f147 [1,1,1,1,0,1,1,0,0]
noncomputable def z147_c23 : Code := .seq z147_c24 Code.ret
noncomputable def z147_c22 : Code := .cond (.tmp 33) z147_c23 Code.skip
noncomputable def z147_c20 : Code := .seq z147_c21 z147_c22
noncomputable def z147_c18 : Code := .seq z147_c19 z147_c20
noncomputable def z147_c26 := sc Tryz.f147 [1,1,1,1,1,0]
noncomputable def z147_c25 : Code := .seq z147_c26 Code.ret
noncomputable def z147_c17 : Code := .seq z147_c18 z147_c25
noncomputable def z147_c11 : Code := .seq z147_c12 z147_c17
noncomputable def z147_c9 : Code := .seq z147_c10 z147_c11
noncomputable def z147_c3 : Code := .seq z147_c4 z147_c9
noncomputable def z147_c1 : Code := .seq z147_c2 z147_c3
def z147_pi (_ : Nat) : Pl := .nil
noncomputable def z147_g27 (S : J2) (x0 x1 : Value) (H : Heap) : Prop :=
  S x0 x1 H
theorem z147_g27_e (S : J2) (x H) : WE z147_pi z147_c2 35 (fun l => S (gd l 0) (gd l 1)) x H = z147_g27 S (x 0) (x 1) H := by kernel_rfl
noncomputable def z147_g28 (S : J3) (x0 x1 : Value) (H : Heap) : Prop :=
  EvF P N.sent_Log_none #[x0] H fun v8 H1 =>
  S x0 x1 v8 H1
theorem z147_g28_e (S : J3) (x H) : WE z147_pi z147_c5 35 (fun l => S (gd l 0) (gd l 1) (gd l 8)) x H = z147_g28 S (x 0) (x 1) H := by kernel_rfl
noncomputable def z147_g29 (S : J1) (H : Heap) : Prop :=
  S (.pointer none) H
theorem z147_g29_e (S : J1) (x H) : WE z147_pi z147_c8 35 (fun l => S (gd l 4)) x H = z147_g29 S  H := by kernel_rfl
noncomputable def z147_g30 (S : J3) (x0 x1 : Value) (H : Heap) : Prop :=
  EvF P N.sent_Log_find #[x0, x1] H fun v11 H1 =>
  S x0 x1 v11 H1
theorem z147_g30_e (S : J3) (x H) : WE z147_pi z147_c10 35 (fun l => S (gd l 0) (gd l 1) (gd l 5)) x H = z147_g30 S (x 0) (x 1) H := by kernel_rfl
noncomputable def z147_g31 (S : J4) (x0 x1 x5 : Value) (H : Heap) : Prop :=
  bnd (nilV x0) fun v14 =>
  bnd (faV 4 v14) fun v15 =>
  bnd (ldE false 1 v15 H) fun v16 =>
  bnd (binV .int .eql x5 v16) fun v17 =>
  S x0 x1 x5 v17 H
theorem z147_g31_e (S : J4) (x H) : WE z147_pi z147_c13 35 (fun l => S (gd l 0) (gd l 1) (gd l 5) (gd l 17)) x H = z147_g31 S (x 0) (x 1) (x 5) H := by kernel_rfl
noncomputable def z147_g32 (S : J1) (H : Heap) : Prop :=
  S (.pointer none) H
theorem z147_g32_e (S : J1) (x H) : WE z147_pi z147_c16 35 (fun l => S (gd l 4)) x H = z147_g32 S  H := by kernel_rfl
noncomputable def z147_g33 (S : J2) (x0 x1 x5 : Value) (H : Heap) : Prop :=
  EvF P N.sent_Log_at #[x0, x5] H fun v20 H1 =>
  S x1 v20 H1
theorem z147_g33_e (S : J2) (x H) : WE z147_pi z147_c19 35 (fun l => S (gd l 1) (gd l 6)) x H = z147_g33 S (x 0) (x 1) (x 5) H := by kernel_rfl
noncomputable def z147_g34 (S : J2) (x1 x6 : Value) (H : Heap) : Prop :=
  bnd (nilV x6) fun v22 =>
  bnd (faV 0 v22) fun v23 =>
  bnd (faV 0 v23) fun v24 =>
  bnd (ldE false 1 v24 H) fun v25 =>
  bnd (binV .int .eql v25 x1) fun v27 =>
  brV v27
  (bnd (nilV x6) fun v30 =>
  bnd (faV 6 v30) fun v31 =>
  bnd (ldE false 1 v31 H) fun v32 =>
  S x6 v32 H)
  (S x6 (.bool false) H)
theorem z147_g34_e (S : J2) (x H) : WE z147_pi z147_c21 35 (fun l => S (gd l 6) (gd l 33)) x H = z147_g34 S (x 1) (x 6) H := by kernel_rfl
noncomputable def z147_g35 (S : J1) (x6 : Value) (H : Heap) : Prop :=
  S x6 H
theorem z147_g35_e (S : J1) (x H) : WE z147_pi z147_c24 35 (fun l => S (gd l 4)) x H = z147_g35 S (x 6) H := by kernel_rfl
noncomputable def z147_g36 (S : J1) (H : Heap) : Prop :=
  S (.pointer none) H
theorem z147_g36_e (S : J1) (x H) : WE z147_pi z147_c26 35 (fun l => S (gd l 4)) x H = z147_g36 S  H := by kernel_rfl
def sent_Log_slot (x0 x1 : Value) (R : Value → Heap → Prop) (H : Heap) : Prop :=
  z147_g27 (fun x0 x1 H => z147_g28 (fun x0 x1 x8 H => brV x8
  (z147_g29 (fun x4 H => R x4 H) H)
  (z147_g30 (fun x0 x1 x5 H => z147_g31 (fun x0 x1 x5 x17 H => brV x17
  (z147_g32 (fun x4 H => R x4 H) H)
  (z147_g33 (fun x1 x6 H => z147_g34 (fun x6 x33 H => brV x33
  (z147_g35 (fun x4 H => R x4 H) x6 H)
  (z147_g36 (fun x4 H => R x4 H) H)) x1 x6 H) x0 x1 x5 H)) x0 x1 x5 H) x0 x1 H)) x0 x1 H) x0 x1 H
theorem z147_ev (x0 x1 : Value) (R : J1) (H : Heap) (h : sent_Log_slot x0 x1 R H) : EvF P N.sent_Log_slot #[x0, x1] H R := .inl (EvF_intro (args := [x0, x1]) (k := 33) (rs := z147_rs) tab_ok mixed Tryz.func147 (show Tryz.f147.body = some z147_c1 by kernel_rfl) Tryz.call147 Tryz.ntmps147 (by kernel_rfl) (okCode_of _ (show okB z147_pi z147_c1 = true by kernel_rfl)) (fr_eq _ _) (fj (n := 35) rfl (fun l hl (h : sent_Log_slot (gd l 0) (gd l 1) R H) => sr rfl hl (z147_g27_e _ (gd l) _) h fun l H hl h => sq rfl <| sr rfl hl (z147_g28_e _ (gd l) _) h fun l H hl h => cd rfl h (fun h => sr rfl hl (z147_g29_e _ (gd l) _) h fun l H hl h => rt rfl h) fun h => kN rfl <| sr rfl hl (z147_g30_e _ (gd l) _) h fun l H hl h => sq rfl <| sr rfl hl (z147_g31_e _ (gd l) _) h fun l H hl h => cd rfl h (fun h => sr rfl hl (z147_g32_e _ (gd l) _) h fun l H hl h => rt rfl h) fun h => kN rfl <| sq rfl <| sr rfl hl (z147_g33_e _ (gd l) _) h fun l H hl h => sr rfl hl (z147_g34_e _ (gd l) _) h fun l H hl h => cd rfl h (fun h => sr rfl hl (z147_g35_e _ (gd l) _) h fun l H hl h => rt rfl h) fun h => kN rfl <| sr rfl hl (z147_g36_e _ (gd l) _) h fun l H hl h => rt rfl h) h))
/- 148: (*sounder/sent.Log).less -/
def z148_rs : List ResultVar := []
noncomputable def z148_c2 := sc Tryz.f148 [0]
noncomputable def z148_c3 := sc Tryz.f148 [1]
noncomputable def z148_c1 : Code := .seq z148_c2 z148_c3
def z148_pi (_ : Nat) : Pl := .nil
noncomputable def z148_g4 (S : J2) (x0 x1 : Value) (H : Heap) : Prop :=
  newE 40 (Value.cells x1) H fun v3 H1 =>
  S x0 v3 H1
theorem z148_g4_e (S : J2) (x H) : WE z148_pi z148_c2 7 (fun l => S (gd l 0) (gd l 3)) x H = z148_g4 S (x 0) (x 1) H := by kernel_rfl
noncomputable def z148_g5 (S : J0) (x0 x3 : Value) (H : Heap) : Prop :=
  bnd (ldE true 6 x3 H) fun v5 =>
  EvF P N.sent_Log_count #[x0, v5, (.int .i64 (-1))] H fun _ H1 =>
  S H1
theorem z148_g5_e (S : J0) (x H) : WE z148_pi z148_c3 7 (fun _ => S ) x H = z148_g5 S (x 0) (x 3) H := by kernel_rfl
def sent_Log_less (x0 x1 : Value) (R : Value → Heap → Prop) (H : Heap) : Prop :=
  z148_g4 (fun x0 x3 H => z148_g5 (fun H => R (.tuple #[]) H) x0 x3 H) x0 x1 H
theorem z148_ev (x0 x1 : Value) (R : J1) (H : Heap) (h : sent_Log_less x0 x1 R H) : EvF P N.sent_Log_less #[x0, x1] H R := .inl (EvF_intro (args := [x0, x1]) (k := 5) (rs := z148_rs) tab_ok mixed Tryz.func148 (show Tryz.f148.body = some z148_c1 by kernel_rfl) Tryz.call148 Tryz.ntmps148 (by kernel_rfl) (okCode_of _ (show okB z148_pi z148_c1 = true by kernel_rfl)) (fr_eq _ _) (fj (n := 7) rfl (fun l hl (h : sent_Log_less (gd l 0) (gd l 1) R H) => sr rfl hl (z148_g4_e _ (gd l) _) h fun l H hl h => rj hl (z148_g5_e _ (gd l) _) h fun l H hl h => h) h))
/- 149: sounder/frame.gaps$1 -/
def z149_rs : List ResultVar := []
noncomputable def z149_c2 := sc Tryz.f149 [0]
noncomputable def z149_c6 := sc Tryz.f149 [1,0,0,0]
noncomputable def z149_c9 : Code := .exit 0
noncomputable def z149_c8 : Code := .cond (.tmp 10) Code.skip z149_c9
noncomputable def z149_c13 := sc Tryz.f149 [1,0,0,1,1,0,0,0]
noncomputable def z149_c15 := sc Tryz.f149 [1,0,0,1,1,0,0,1,0]
noncomputable def z149_c18 := sc Tryz.f149 [1,0,0,1,1,0,0,1,1,0,0]
noncomputable def z149_c20 := sc Tryz.f149 [1,0,0,1,1,0,0,1,1,0,1,0]
noncomputable def z149_c19 : Code := .cond (.tmp 15) z149_c20 Code.skip
noncomputable def z149_c17 : Code := .seq z149_c18 z149_c19
noncomputable def z149_c22 := sc Tryz.f149 [1,0,0,1,1,0,0,1,1,1,0]
noncomputable def z149_c23 : Code := .cond (.tmp 31) Code.ret Code.skip
noncomputable def z149_c21 : Code := .seq z149_c22 z149_c23
noncomputable def z149_c16 : Code := .seq z149_c17 z149_c21
noncomputable def z149_c14 : Code := .seq z149_c15 z149_c16
noncomputable def z149_c12 : Code := .seq z149_c13 z149_c14
noncomputable def z149_c11 : Code := .block 1 z149_c12
noncomputable def z149_c24 := sc Tryz.f149 [1,0,0,1,1,1]
noncomputable def z149_c10 : Code := .seq z149_c11 z149_c24
noncomputable def z149_c7 : Code := .seq z149_c8 z149_c10
noncomputable def z149_c5 : Code := .seq z149_c6 z149_c7
noncomputable def z149_c4 : Code := .loop z149_c5
noncomputable def z149_c3 : Code := .block 0 z149_c4
noncomputable def z149_c1 : Code := .seq z149_c2 z149_c3
def z149_pi (i : Nat) : Pl := match i with
  | 5 => (ones [0, 1, 2, 3, 4, 5, 6, 7, 8, 9, 10, 11] .nil)
  | _ => .nil
noncomputable def z149_g25 (S : J5) (x0 x1 : Value) (H : Heap) : Prop :=
  bnd (faV 1 x1) fun v6 =>
  bnd (ldE false 1 v6 H) fun v7 =>
  bnd (lenV v7) fun v8 =>
  S x0 x1 v7 v8 (.int .i64 0) H
theorem z149_g25_e (S : J5) (x H) : WE z149_pi z149_c2 33 (fun l => S (gd l 0) (gd l 1) (gd l 7) (gd l 8) (gd l 9)) x H = z149_g25 S (x 0) (x 1) H := by kernel_rfl
noncomputable def z149_g27 (S : J6) (x0 x1 x7 x8 x9 : Value) (H : Heap) : Prop :=
  bnd (binV .int .lss x9 x8) fun v10 =>
  S x0 x1 x7 x8 x9 v10 H
theorem z149_g27_e (S : J6) (x H) : WE z149_pi z149_c6 33 (fun l => S (gd l 0) (gd l 1) (gd l 7) (gd l 8) (gd l 9) (gd l 10)) x H = z149_g27 S (x 0) (x 1) (x 7) (x 8) (x 9) H := by kernel_rfl
noncomputable def z149_g28 (S : J7) (x0 x1 x7 x8 x9 : Value) (H : Heap) : Prop :=
  bnd (ixSV 2 x7 x9) fun v12 =>
  bnd (ldE true 2 v12 H) fun v13 =>
  newE 93 #[(.int .i64 0), (.int .i64 0)] H fun v4 H1 =>
  bnd (stE 2 v4 v13 H1) fun H2 =>
  S x0 x1 x9 v4 x7 x8 x9 H2
theorem z149_g28_e (S : J7) (x H) : WE z149_pi z149_c13 33 (fun l => S (gd l 0) (gd l 1) (gd l 3) (gd l 4) (gd l 7) (gd l 8) (gd l 9)) x H = z149_g28 S (x 0) (x 1) (x 7) (x 8) (x 9) H := by kernel_rfl
noncomputable def z149_g29 (S : J8) (x0 x1 x3 x4 x7 x8 x9 : Value) (H : Heap) : Prop :=
  S x0 x1 x3 x4 (.int .i64 0) x7 x8 x9 H
theorem z149_g29_e (S : J8) (x H) : WE z149_pi z149_c15 33 (fun l => S (gd l 0) (gd l 1) (gd l 3) (gd l 4) (gd l 5) (gd l 7) (gd l 8) (gd l 9)) x H = z149_g29 S (x 0) (x 1) (x 3) (x 4) (x 7) (x 8) (x 9) H := by kernel_rfl
noncomputable def z149_g31 (S : J6) (x0 x1 x4 x5 x7 x8 x9 : Value) (H : Heap) : Prop :=
  bnd (ldE true 2 x4 H) fun v29 =>
  callV P x0 [x5, v29] H fun v30 H1 =>
  bnd (unV .not v30) fun v31 =>
  S x0 x1 x7 x8 x9 v31 H1
theorem z149_g31_e (S : J6) (x H) : WE z149_pi z149_c22 33 (fun l => S (gd l 0) (gd l 1) (gd l 7) (gd l 8) (gd l 9) (gd l 31)) x H = z149_g31 S (x 0) (x 1) (x 4) (x 5) (x 7) (x 8) (x 9) H := by kernel_rfl
noncomputable def z149_g32 (S : J5) (x0 x1 x7 x8 x9 : Value) (H : Heap) : Prop :=
  bnd (binV .int .add x9 (.int .i64 1)) fun v32 =>
  S x0 x1 x7 x8 v32 H
theorem z149_g32_e (S : J5) (x H) : WE z149_pi z149_c24 33 (fun l => S (gd l 0) (gd l 1) (gd l 7) (gd l 8) (gd l 9)) x H = z149_g32 S (x 0) (x 1) (x 7) (x 8) (x 9) H := by kernel_rfl
noncomputable def z149_s30 (x0 x1 x4 x5 x7 x8 x9 : Value) (K1 : J5) (R : J1) (H : Heap) : Prop :=
  z149_g31 (fun x0 x1 x7 x8 x9 x31 H => brV x31
  (R (.tuple #[]) H)
  (z149_g32 (fun x0 x1 x7 x8 x9 H => K1 x0 x1 x7 x8 x9 H) x0 x1 x7 x8 x9 H)) x0 x1 x4 x5 x7 x8 x9 H
noncomputable def z149_q33 (R : J1) : JQ := (retQ tab z149_rs R)
noncomputable def z149_q34 (R : J1) : JQ := (blkE 0 (z149_q33 R))
noncomputable def z149_q35 (K1 : J5) (R : J1) : JQ := (thenE (fun l H => K1 (gd l 0) (gd l 1) (gd l 7) (gd l 8) (gd l 9) H) (z149_q34 R))
noncomputable def z149_q36 (K1 : J5) (R : J1) : JQ := (thenE (fun l H => wpE tab P z149_pi z149_c24 (z149_q35 K1 R) l H) (z149_q35 K1 R))
noncomputable def z149_q37 (K1 : J5) (R : J1) : JQ := (blkE 1 (z149_q36 K1 R))
theorem z149_s30_i (K1 : J5) (R : J1) (l : List Value) (H : Heap) (hl : l.length = 33) (h : z149_s30 (gd l 0) (gd l 1) (gd l 4) (gd l 5) (gd l 7) (gd l 8) (gd l 9) K1 R H) : wpE tab P z149_pi z149_c21 (z149_q37 K1 R) l H := sr rfl hl (z149_g31_e _ (gd l) _) h fun l H hl h => cd rfl h (fun h => rt rfl h) fun h => sk rfl <| bN <| tN <| rj hl (z149_g32_e _ (gd l) _) h fun l H hl h => tN <| h
noncomputable def z149_g38 (S : J9) (x0 x1 x3 x4 x5 x7 x8 x9 : Value) (H : Heap) : Prop :=
  bnd (binV .int .gtr x3 (.int .i64 0)) fun v15 =>
  S x0 x1 x3 x4 x5 x7 x8 x9 v15 H
theorem z149_g38_e (S : J9) (x H) : WE z149_pi z149_c18 33 (fun l => S (gd l 0) (gd l 1) (gd l 3) (gd l 4) (gd l 5) (gd l 7) (gd l 8) (gd l 9) (gd l 15)) x H = z149_g38 S (x 0) (x 1) (x 3) (x 4) (x 5) (x 7) (x 8) (x 9) H := by kernel_rfl
noncomputable def z149_g39 (S : J7) (x0 x1 x3 x4 x7 x8 x9 : Value) (H : Heap) : Prop :=
  bnd (faV 1 x1) fun v16 =>
  bnd (ldE false 1 v16 H) fun v17 =>
  bnd (binV .int .sub x3 (.int .i64 1)) fun v19 =>
  bnd (ixSV 2 v17 v19) fun v20 =>
  bnd (faV 0 v20) fun v21 =>
  bnd (ldE false 1 v21 H) fun v22 =>
  bnd (faV 1 x4) fun v23 =>
  bnd (ldE false 1 v23 H) fun v24 =>
  bnd (binV .int .sub v22 v24) fun v25 =>
  bnd (binV .int .sub v25 (.int .i64 2)) fun v26 =>
  S x0 x1 x4 v26 x7 x8 x9 H
theorem z149_g39_e (S : J7) (x H) : WE z149_pi z149_c20 33 (fun l => S (gd l 0) (gd l 1) (gd l 4) (gd l 5) (gd l 7) (gd l 8) (gd l 9)) x H = z149_g39 S (x 0) (x 1) (x 3) (x 4) (x 7) (x 8) (x 9) H := by kernel_rfl
noncomputable def z149_s26 (x0 x1 x7 x8 x9 : Value) (K1 : J5) (R : J1) (H : Heap) : Prop :=
  z149_g27 (fun x0 x1 x7 x8 x9 x10 H => brV x10
  (z149_g28 (fun x0 x1 x3 x4 x7 x8 x9 H => z149_g29 (fun x0 x1 x3 x4 x5 x7 x8 x9 H => z149_g38 (fun x0 x1 x3 x4 x5 x7 x8 x9 x15 H => brV x15
  (z149_g39 (fun x0 x1 x4 x5 x7 x8 x9 H => z149_s30 x0 x1 x4 x5 x7 x8 x9 K1 R H) x0 x1 x3 x4 x7 x8 x9 H)
  (z149_s30 x0 x1 x4 x5 x7 x8 x9 K1 R H)) x0 x1 x3 x4 x5 x7 x8 x9 H) x0 x1 x3 x4 x7 x8 x9 H) x0 x1 x7 x8 x9 H)
  (R (.tuple #[]) H)) x0 x1 x7 x8 x9 H
theorem z149_s26_i (K1 : J5) (R : J1) (l : List Value) (H : Heap) (hl : l.length = 33) (h : z149_s26 (gd l 0) (gd l 1) (gd l 7) (gd l 8) (gd l 9) K1 R H) : wpE tab P z149_pi z149_c5 (z149_q35 K1 R) l H := sr rfl hl (z149_g27_e _ (gd l) _) h fun l H hl h => sq rfl <| cd rfl h (fun h => kN rfl <| sq rfl <| bl rfl <| sr rfl hl (z149_g28_e _ (gd l) _) h fun l H hl h => sr rfl hl (z149_g29_e _ (gd l) _) h fun l H hl h => sq rfl <| sr rfl hl (z149_g38_e _ (gd l) _) h fun l H hl h => cd rfl h (fun h => rj hl (z149_g39_e _ (gd l) _) h fun l H hl h => tN <| z149_s30_i K1 R l H hl h) fun h => kN rfl <| z149_s30_i K1 R l H hl h) fun h => ex rfl <| tX <| tX <| bX <| h
noncomputable def z149_l40 (x0 x1 x7 x8 x9 : Value) (R : J1) (H : Heap) : Prop :=
  ∃ (I : J1) (μ : M1), I x9 H ∧ ∀ (y9 : Value) (H : Heap), I y9 H → z149_s26 x0 x1 x7 x8 y9 (fun z0 z1 z7 z8 z9 H' => z0 = x0 ∧ z1 = x1 ∧ z7 = x7 ∧ z8 = x8 ∧ (I z9 H' ∧ μ z9 H' < μ y9 H)) R H
def frame_gaps_1 (x0 x1 : Value) (R : Value → Heap → Prop) (H : Heap) : Prop :=
  z149_g25 (fun x0 x1 x7 x8 x9 H => z149_l40 x0 x1 x7 x8 x9 R H) x0 x1 H
theorem z149_ev0 (x0 x1 : Value) (R : J1) (H : Heap) (h : frame_gaps_1 x0 x1 R H) : EvL P N.frame_gaps_1 #[x0, x1] H R := EvF_intro (args := [x0, x1]) (k := 31) (rs := z149_rs) tab_ok mixed Tryz.func149 (show Tryz.f149.body = some z149_c1 by kernel_rfl) Tryz.call149 Tryz.ntmps149 (by kernel_rfl) (okCode_of _ (show okB z149_pi z149_c1 = true by kernel_rfl)) (fr_eq _ _) (fj (n := 33) rfl (fun l hl (h : frame_gaps_1 (gd l 0) (gd l 1) R H) => sr rfl hl (z149_g25_e _ (gd l) _) h fun l H hl h => bl rfl <| (by
    obtain ⟨I, μ, h0, hr⟩ := h
    refine loopI (c := z149_c4) rfl (fun l' H' => gd l' 0 = gd l 0 ∧ gd l' 1 = gd l 1 ∧ gd l' 7 = gd l 7 ∧ gd l' 8 = gd l 8 ∧ I (gd l' 9) H') (fun l' H' => μ (gd l' 9) H') hl ⟨rfl, rfl, rfl, rfl, h0⟩ ?_
    rintro l1 H1 hl1 ⟨e0, e1, e7, e8, hI⟩
    have hb := hr (gd l1 9) H1 hI
    rw [← e0, ← e1, ← e7, ← e8] at hb
    refine wpE_mono _ l1 H1 hl1 ?_ (z149_s26_i _ R l1 H1 hl1 hb)
    intro e l2 H2 hl2 hq
    cases e with
    | normal => exact fun _ => (by obtain ⟨d0, d1, d7, d8, g1, g2⟩ := hq; exact ⟨⟨d0.trans e0, d1.trans e1, d7.trans e7, d8.trans e8, g1⟩, g2⟩)
    | _ => exact hq)) h)
theorem z149_ev (x0 x1 : Value) (R : J1) (H : Heap) (h : frame_gaps_1 x0 x1 R H) : EvF P N.frame_gaps_1 #[x0, x1] H R := .inl (z149_ev0 x0 x1 R H h)
/- 150: slices.IndexFunc[[]sounder/api.Range,sounder/api.Range] -/
def z150_rs : List ResultVar := [.tmp 4]
noncomputable def z150_c2 := sc Tryz.f150 [0]
noncomputable def z150_c5 := sc Tryz.f150 [1,0,0]
noncomputable def z150_c9 := sc Tryz.f150 [1,0,1,0,0,0]
noncomputable def z150_c12 : Code := .exit 0
noncomputable def z150_c11 : Code := .cond (.tmp 9) Code.skip z150_c12
noncomputable def z150_c16 := sc Tryz.f150 [1,0,1,0,0,1,1,0,0,0]
noncomputable def z150_c18 := sc Tryz.f150 [1,0,1,0,0,1,1,0,0,1,0]
noncomputable def z150_c21 := sc Tryz.f150 [1,0,1,0,0,1,1,0,0,1,1,0,0]
noncomputable def z150_c20 : Code := .seq z150_c21 Code.ret
noncomputable def z150_c19 : Code := .cond (.tmp 16) z150_c20 Code.skip
noncomputable def z150_c17 : Code := .seq z150_c18 z150_c19
noncomputable def z150_c15 : Code := .seq z150_c16 z150_c17
noncomputable def z150_c14 : Code := .block 1 z150_c15
noncomputable def z150_c22 := sc Tryz.f150 [1,0,1,0,0,1,1,1]
noncomputable def z150_c13 : Code := .seq z150_c14 z150_c22
noncomputable def z150_c10 : Code := .seq z150_c11 z150_c13
noncomputable def z150_c8 : Code := .seq z150_c9 z150_c10
noncomputable def z150_c7 : Code := .loop z150_c8
noncomputable def z150_c6 : Code := .block 0 z150_c7
noncomputable def z150_c4 : Code := .seq z150_c5 z150_c6
noncomputable def z150_c24 := sc Tryz.f150 [1,1,0]
noncomputable def z150_c23 : Code := .seq z150_c24 Code.ret
noncomputable def z150_c3 : Code := .seq z150_c4 z150_c23
noncomputable def z150_c1 : Code := .seq z150_c2 z150_c3
def z150_pi (_ : Nat) : Pl := .nil
noncomputable def z150_g25 (S : J2) (x0 x1 : Value) (H : Heap) : Prop :=
  S x0 x1 H
theorem z150_g25_e (S : J2) (x H) : WE z150_pi z150_c2 19 (fun l => S (gd l 0) (gd l 1)) x H = z150_g25 S (x 0) (x 1) H := by kernel_rfl
noncomputable def z150_g26 (S : J4) (x0 x1 : Value) (H : Heap) : Prop :=
  bnd (lenV x0) fun v7 =>
  S x0 x1 v7 (.int .i64 0) H
theorem z150_g26_e (S : J4) (x H) : WE z150_pi z150_c5 19 (fun l => S (gd l 0) (gd l 1) (gd l 7) (gd l 8)) x H = z150_g26 S (x 0) (x 1) H := by kernel_rfl
noncomputable def z150_g28 (S : J5) (x0 x1 x7 x8 : Value) (H : Heap) : Prop :=
  bnd (binV .int .lss x8 x7) fun v9 =>
  S x0 x1 x7 x8 v9 H
theorem z150_g28_e (S : J5) (x H) : WE z150_pi z150_c9 19 (fun l => S (gd l 0) (gd l 1) (gd l 7) (gd l 8) (gd l 9)) x H = z150_g28 S (x 0) (x 1) (x 7) (x 8) H := by kernel_rfl
noncomputable def z150_g29 (S : J5) (x0 x1 x7 x8 : Value) (H : Heap) : Prop :=
  S x0 x1 x8 x7 x8 H
theorem z150_g29_e (S : J5) (x H) : WE z150_pi z150_c16 19 (fun l => S (gd l 0) (gd l 1) (gd l 5) (gd l 7) (gd l 8)) x H = z150_g29 S (x 0) (x 1) (x 7) (x 8) H := by kernel_rfl
noncomputable def z150_g30 (S : J6) (x0 x1 x5 x7 x8 : Value) (H : Heap) : Prop :=
  bnd (ixSV 2 x0 x5) fun v14 =>
  bnd (ldE true 2 v14 H) fun v15 =>
  callV P x1 [v15] H fun v16 H1 =>
  S x0 x1 x5 x7 x8 v16 H1
theorem z150_g30_e (S : J6) (x H) : WE z150_pi z150_c18 19 (fun l => S (gd l 0) (gd l 1) (gd l 5) (gd l 7) (gd l 8) (gd l 16)) x H = z150_g30 S (x 0) (x 1) (x 5) (x 7) (x 8) H := by kernel_rfl
noncomputable def z150_g31 (S : J1) (x5 : Value) (H : Heap) : Prop :=
  S x5 H
theorem z150_g31_e (S : J1) (x H) : WE z150_pi z150_c21 19 (fun l => S (gd l 4)) x H = z150_g31 S (x 5) H := by kernel_rfl
noncomputable def z150_g32 (S : J4) (x0 x1 x7 x8 : Value) (H : Heap) : Prop :=
  bnd (binV .int .add x8 (.int .i64 1)) fun v18 =>
  S x0 x1 x7 v18 H
theorem z150_g32_e (S : J4) (x H) : WE z150_pi z150_c22 19 (fun l => S (gd l 0) (gd l 1) (gd l 7) (gd l 8)) x H = z150_g32 S (x 0) (x 1) (x 7) (x 8) H := by kernel_rfl
noncomputable def z150_g33 (S : J1) (H : Heap) : Prop :=
  S (.int .i64 (-1)) H
theorem z150_g33_e (S : J1) (x H) : WE z150_pi z150_c24 19 (fun l => S (gd l 4)) x H = z150_g33 S  H := by kernel_rfl
noncomputable def z150_s27 (x0 x1 x7 x8 : Value) (K1 : J4) (R : J1) (H : Heap) : Prop :=
  z150_g28 (fun x0 x1 x7 x8 x9 H => brV x9
  (z150_g29 (fun x0 x1 x5 x7 x8 H => z150_g30 (fun x0 x1 x5 x7 x8 x16 H => brV x16
  (z150_g31 (fun x4 H => R x4 H) x5 H)
  (z150_g32 (fun x0 x1 x7 x8 H => K1 x0 x1 x7 x8 H) x0 x1 x7 x8 H)) x0 x1 x5 x7 x8 H) x0 x1 x7 x8 H)
  (z150_g33 (fun x4 H => R x4 H) H)) x0 x1 x7 x8 H
noncomputable def z150_q34 (R : J1) : JQ := (retQ tab z150_rs R)
noncomputable def z150_q35 (R : J1) : JQ := (thenE (fun l H => wpE tab P z150_pi z150_c23 (z150_q34 R) l H) (z150_q34 R))
noncomputable def z150_q36 (R : J1) : JQ := (blkE 0 (z150_q35 R))
noncomputable def z150_q37 (K1 : J4) (R : J1) : JQ := (thenE (fun l H => K1 (gd l 0) (gd l 1) (gd l 7) (gd l 8) H) (z150_q36 R))
theorem z150_s27_i (K1 : J4) (R : J1) (l : List Value) (H : Heap) (hl : l.length = 19) (h : z150_s27 (gd l 0) (gd l 1) (gd l 7) (gd l 8) K1 R H) : wpE tab P z150_pi z150_c8 (z150_q37 K1 R) l H := sr rfl hl (z150_g28_e _ (gd l) _) h fun l H hl h => sq rfl <| cd rfl h (fun h => kN rfl <| sq rfl <| bl rfl <| sr rfl hl (z150_g29_e _ (gd l) _) h fun l H hl h => sr rfl hl (z150_g30_e _ (gd l) _) h fun l H hl h => cd rfl h (fun h => sr rfl hl (z150_g31_e _ (gd l) _) h fun l H hl h => rt rfl h) fun h => sk rfl <| bN <| tN <| rj hl (z150_g32_e _ (gd l) _) h fun l H hl h => tN <| h) fun h => ex rfl <| tX <| tX <| bX <| tN <| sr rfl hl (z150_g33_e _ (gd l) _) h fun l H hl h => rt rfl h
noncomputable def z150_l38 (x0 x1 x7 x8 : Value) (R : J1) (H : Heap) : Prop :=
  ∃ (I : J1) (μ : M1), I x8 H ∧ ∀ (y8 : Value) (H : Heap), I y8 H → z150_s27 x0 x1 x7 y8 (fun z0 z1 z7 z8 H' => z0 = x0 ∧ z1 = x1 ∧ z7 = x7 ∧ (I z8 H' ∧ μ z8 H' < μ y8 H)) R H
def slices_IndexFunc_Range (x0 x1 : Value) (R : Value → Heap → Prop) (H : Heap) : Prop :=
  z150_g25 (fun x0 x1 H => z150_g26 (fun x0 x1 x7 x8 H => z150_l38 x0 x1 x7 x8 R H) x0 x1 H) x0 x1 H
theorem z150_ev (x0 x1 : Value) (R : J1) (H : Heap) (h : slices_IndexFunc_Range x0 x1 R H) : EvF P N.slices_IndexFunc_Range #[x0, x1] H R := .inl (EvF_intro (args := [x0, x1]) (k := 17) (rs := z150_rs) tab_ok mixed Tryz.func150 (show Tryz.f150.body = some z150_c1 by kernel_rfl) Tryz.call150 Tryz.ntmps150 (by kernel_rfl) (okCode_of _ (show okB z150_pi z150_c1 = true by kernel_rfl)) (fr_eq _ _) (fj (n := 19) rfl (fun l hl (h : slices_IndexFunc_Range (gd l 0) (gd l 1) R H) => sr rfl hl (z150_g25_e _ (gd l) _) h fun l H hl h => sq rfl <| sr rfl hl (z150_g26_e _ (gd l) _) h fun l H hl h => bl rfl <| (by
    obtain ⟨I, μ, h0, hr⟩ := h
    refine loopI (c := z150_c7) rfl (fun l' H' => gd l' 0 = gd l 0 ∧ gd l' 1 = gd l 1 ∧ gd l' 7 = gd l 7 ∧ I (gd l' 8) H') (fun l' H' => μ (gd l' 8) H') hl ⟨rfl, rfl, rfl, h0⟩ ?_
    rintro l1 H1 hl1 ⟨e0, e1, e7, hI⟩
    have hb := hr (gd l1 8) H1 hI
    rw [← e0, ← e1, ← e7] at hb
    refine wpE_mono _ l1 H1 hl1 ?_ (z150_s27_i _ R l1 H1 hl1 hb)
    intro e l2 H2 hl2 hq
    cases e with
    | normal => exact fun _ => (by obtain ⟨d0, d1, d7, g1, g2⟩ := hq; exact ⟨⟨d0.trans e0, d1.trans e1, d7.trans e7, g1⟩, g2⟩)
    | _ => exact hq)) h))
/- 151: slices.Collect[sounder/api.Range] -/
def z151_rs : List ResultVar := [.tmp 2]
noncomputable def z151_c2 := sc Tryz.f151 [0]
noncomputable def z151_c4 := sc Tryz.f151 [1,0]
noncomputable def z151_c3 : Code := .seq z151_c4 Code.ret
noncomputable def z151_c1 : Code := .seq z151_c2 z151_c3
def z151_pi (_ : Nat) : Pl := .nil
noncomputable def z151_g5 (S : J1) (x0 : Value) (H : Heap) : Prop :=
  S x0 H
theorem z151_g5_e (S : J1) (x H) : WE z151_pi z151_c2 5 (fun l => S (gd l 0)) x H = z151_g5 S (x 0) H := by kernel_rfl
noncomputable def z151_g6 (S : J1) (x0 : Value) (H : Heap) : Prop :=
  EvF P N.slices_AppendSeq_Range #[(.slice none 0 0), x0] H fun v4 H1 =>
  S v4 H1
theorem z151_g6_e (S : J1) (x H) : WE z151_pi z151_c4 5 (fun l => S (gd l 2)) x H = z151_g6 S (x 0) H := by kernel_rfl
def slices_Collect_Range (x0 : Value) (R : Value → Heap → Prop) (H : Heap) : Prop :=
  z151_g5 (fun x0 H => z151_g6 (fun x2 H => R x2 H) x0 H) x0 H
theorem z151_ev (x0 : Value) (R : J1) (H : Heap) (h : slices_Collect_Range x0 R H) : EvF P N.slices_Collect_Range #[x0] H R := .inl (EvF_intro (args := [x0]) (k := 4) (rs := z151_rs) tab_ok mixed Tryz.func151 (show Tryz.f151.body = some z151_c1 by kernel_rfl) Tryz.call151 Tryz.ntmps151 (by kernel_rfl) (okCode_of _ (show okB z151_pi z151_c1 = true by kernel_rfl)) (fr_eq _ _) (fj (n := 5) rfl (fun l hl (h : slices_Collect_Range (gd l 0) R H) => sr rfl hl (z151_g5_e _ (gd l) _) h fun l H hl h => sr rfl hl (z151_g6_e _ (gd l) _) h fun l H hl h => rt rfl h) h))
/- 152: (*sounder/span.Set).falling -/
def z152_rs : List ResultVar := [.tmp 2]
noncomputable def z152_c2 := sc Tryz.f152 [0]
noncomputable def z152_c4 := sc Tryz.f152 [1,0]
noncomputable def z152_c3 : Code := .seq z152_c4 Code.ret
noncomputable def z152_c1 : Code := .seq z152_c2 z152_c3
def z152_pi (_ : Nat) : Pl := .nil
noncomputable def z152_g5 (S : J1) (x0 : Value) (H : Heap) : Prop :=
  newE 76 (Value.cells x0) H fun v1 H1 =>
  S v1 H1
theorem z152_g5_e (S : J1) (x H) : WE z152_pi z152_c2 4 (fun l => S (gd l 1)) x H = z152_g5 S (x 0) H := by kernel_rfl
noncomputable def z152_g6 (S : J1) (x1 : Value) (H : Heap) : Prop :=
  S (.func (.func N.span_Set_falling_1) #[] #[x1]) H
theorem z152_g6_e (S : J1) (x H) : WE z152_pi z152_c4 4 (fun l => S (gd l 2)) x H = z152_g6 S (x 1) H := by kernel_rfl
def span_Set_falling (x0 : Value) (R : Value → Heap → Prop) (H : Heap) : Prop :=
  z152_g5 (fun x1 H => z152_g6 (fun x2 H => R x2 H) x1 H) x0 H
theorem z152_ev (x0 : Value) (R : J1) (H : Heap) (h : span_Set_falling x0 R H) : EvF P N.span_Set_falling #[x0] H R := .inl (EvF_intro (args := [x0]) (k := 3) (rs := z152_rs) tab_ok mixed Tryz.func152 (show Tryz.f152.body = some z152_c1 by kernel_rfl) Tryz.call152 Tryz.ntmps152 (by kernel_rfl) (okCode_of _ (show okB z152_pi z152_c1 = true by kernel_rfl)) (fr_eq _ _) (fj (n := 4) rfl (fun l hl (h : span_Set_falling (gd l 0) R H) => sr rfl hl (z152_g5_e _ (gd l) _) h fun l H hl h => sr rfl hl (z152_g6_e _ (gd l) _) h fun l H hl h => rt rfl h) h))
end Go.Hc
