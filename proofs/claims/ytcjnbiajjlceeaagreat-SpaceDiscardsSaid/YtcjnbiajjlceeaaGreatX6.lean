/- Functions, printed by gen.py. -/
import Derived.Test.YtcjnbiajjlceeaaGreatX2
set_option linter.unusedSimpArgs false
set_option linter.unusedVariables false
set_option maxRecDepth 100000
namespace Go.Hc
open Go Go.Proofs
/- 52: sounder/loss.Find -/
def z52_rs : List ResultVar := [.tmp 8, .tmp 9, .tmp 10, .tmp 11]
noncomputable def z52_c2 := sc Tryz.f52 [0]
noncomputable def z52_c6 := sc Tryz.f52 [1,0,0,0]
noncomputable def z52_c9 := sc Tryz.f52 [1,0,0,1,0,0]
noncomputable def z52_c8 : Code := .seq z52_c9 Code.ret
noncomputable def z52_c11 := sc Tryz.f52 [1,0,0,1,1,0]
noncomputable def z52_c14 := sc Tryz.f52 [1,0,0,1,1,1,0,0]
noncomputable def z52_c13 : Code := .seq z52_c14 Code.ret
noncomputable def z52_c16 := sc Tryz.f52 [1,0,0,1,1,1,1,0]
noncomputable def z52_c19 := sc Tryz.f52 [1,0,0,1,1,1,1,1,0,0]
noncomputable def z52_c18 : Code := .seq z52_c19 Code.ret
noncomputable def z52_c17 : Code := .cond (.tmp 32) z52_c18 Code.skip
noncomputable def z52_c15 : Code := .seq z52_c16 z52_c17
noncomputable def z52_c12 : Code := .cond (.tmp 20) z52_c13 z52_c15
noncomputable def z52_c10 : Code := .seq z52_c11 z52_c12
noncomputable def z52_c7 : Code := .cond (.tmp 16) z52_c8 z52_c10
noncomputable def z52_c5 : Code := .seq z52_c6 z52_c7
noncomputable def z52_c4 : Code := .block 0 z52_c5
noncomputable def z52_c21 := sc Tryz.f52 [1,1,0]
noncomputable def z52_c23 := sc Tryz.f52 [1,1,1,0]
noncomputable def z52_c26 := sc Tryz.f52 [1,1,1,1,0,0]
noncomputable def z52_c30 := sc Tryz.f52 [1,1,1,1,0,1,0,0,0]
noncomputable def z52_c33 : Code := .exit 1
noncomputable def z52_c32 : Code := .cond (.tmp 46) Code.skip z52_c33
noncomputable def z52_c37 := sc Tryz.f52 [1,1,1,1,0,1,0,0,1,1,0,0,0]
noncomputable def z52_c40 := sc Tryz.f52 [1,1,1,1,0,1,0,0,1,1,0,0,1,0,0]
noncomputable def z52_c43 := sc Tryz.f52 [1,1,1,1,0,1,0,0,1,1,0,0,1,0,1,0,0]
noncomputable def z52_c44 : Code := .exit 2
noncomputable def z52_c42 : Code := .seq z52_c43 z52_c44
noncomputable def z52_c41 : Code := .cond (.tmp 58) z52_c42 Code.skip
noncomputable def z52_c39 : Code := .seq z52_c40 z52_c41
noncomputable def z52_c46 := sc Tryz.f52 [1,1,1,1,0,1,0,0,1,1,0,0,1,1,0]
noncomputable def z52_c48 := sc Tryz.f52 [1,1,1,1,0,1,0,0,1,1,0,0,1,1,1,0]
noncomputable def z52_c50 := sc Tryz.f52 [1,1,1,1,0,1,0,0,1,1,0,0,1,1,1,1,0]
noncomputable def z52_c52 := sc Tryz.f52 [1,1,1,1,0,1,0,0,1,1,0,0,1,1,1,1,1,0]
noncomputable def z52_c51 : Code := .cond (.tmp 83) z52_c52 Code.skip
noncomputable def z52_c49 : Code := .seq z52_c50 z52_c51
noncomputable def z52_c47 : Code := .seq z52_c48 z52_c49
noncomputable def z52_c45 : Code := .seq z52_c46 z52_c47
noncomputable def z52_c38 : Code := .seq z52_c39 z52_c45
noncomputable def z52_c36 : Code := .seq z52_c37 z52_c38
noncomputable def z52_c35 : Code := .block 2 z52_c36
noncomputable def z52_c53 := sc Tryz.f52 [1,1,1,1,0,1,0,0,1,1,1]
noncomputable def z52_c34 : Code := .seq z52_c35 z52_c53
noncomputable def z52_c31 : Code := .seq z52_c32 z52_c34
noncomputable def z52_c29 : Code := .seq z52_c30 z52_c31
noncomputable def z52_c28 : Code := .loop z52_c29
noncomputable def z52_c27 : Code := .block 1 z52_c28
noncomputable def z52_c25 : Code := .seq z52_c26 z52_c27
noncomputable def z52_c55 := sc Tryz.f52 [1,1,1,1,1,0]
noncomputable def z52_c54 : Code := .seq z52_c55 Code.ret
noncomputable def z52_c24 : Code := .seq z52_c25 z52_c54
noncomputable def z52_c22 : Code := .seq z52_c23 z52_c24
noncomputable def z52_c20 : Code := .seq z52_c21 z52_c22
noncomputable def z52_c3 : Code := .seq z52_c4 z52_c20
noncomputable def z52_c1 : Code := .seq z52_c2 z52_c3
def z52_pi (_ : Nat) : Pl := .nil
noncomputable def z52_g56 (S : J6) (x0 x1 x2 x3 : Value) (H : Heap) : Prop :=
  newE 45 (Value.cells x3) H fun v7 H1 =>
  S x0 x1 x2 v7 (.slice none 0 0) (.slice none 0 0) H1
theorem z52_g56_e (S : J6) (x H) : WE z52_pi z52_c2 89 (fun l => S (gd l 0) (gd l 1) (gd l 2) (gd l 7) (gd l 8) (gd l 9)) x H = z52_g56 S (x 0) (x 1) (x 2) (x 3) H := by kernel_rfl
noncomputable def z52_g57 (S : J7) (x0 x1 x2 x7 x8 x9 : Value) (H : Heap) : Prop :=
  EvF P N.loss_Check #[x0] H fun v18 H1 =>
  bnd (binV .int .neq v18 (.int .i64 0)) fun v19 =>
  S x0 x1 x2 x7 x8 x9 v19 H1
theorem z52_g57_e (S : J7) (x H) : WE z52_pi z52_c6 89 (fun l => S (gd l 0) (gd l 1) (gd l 2) (gd l 7) (gd l 8) (gd l 9) (gd l 16)) x H = z52_g57 S (x 0) (x 1) (x 2) (x 7) (x 8) (x 9) H := by kernel_rfl
noncomputable def z52_g58 (S : J4) (H : Heap) : Prop :=
  S (.slice none 0 0) (.slice none 0 0) (.int .i64 0) (.int .i64 2) H
theorem z52_g58_e (S : J4) (x H) : WE z52_pi z52_c9 89 (fun l => S (gd l 8) (gd l 9) (gd l 10) (gd l 11)) x H = z52_g58 S  H := by kernel_rfl
noncomputable def z52_g59 (S : J7) (x0 x1 x2 x7 x8 x9 : Value) (H : Heap) : Prop :=
  bnd (binV .int .lss x1 (.int .i64 (-1))) fun v22 =>
  brV v22
  (S x0 x1 x2 x7 x8 x9 (.bool true) H)
  (bnd (binV .int .gtr x1 (.int .i64 9007199254740991)) fun v25 =>
  brV v25
  (S x0 x1 x2 x7 x8 x9 (.bool true) H)
  (EvF P N.loss_isTime #[x2] H fun v29 H1 =>
  bnd (unV .not v29) fun v30 =>
  S x0 x1 x2 x7 x8 x9 v30 H1))
theorem z52_g59_e (S : J7) (x H) : WE z52_pi z52_c11 89 (fun l => S (gd l 0) (gd l 1) (gd l 2) (gd l 7) (gd l 8) (gd l 9) (gd l 20)) x H = z52_g59 S (x 0) (x 1) (x 2) (x 7) (x 8) (x 9) H := by kernel_rfl
noncomputable def z52_g60 (S : J4) (H : Heap) : Prop :=
  S (.slice none 0 0) (.slice none 0 0) (.int .i64 0) (.int .i64 9) H
theorem z52_g60_e (S : J4) (x H) : WE z52_pi z52_c14 89 (fun l => S (gd l 8) (gd l 9) (gd l 10) (gd l 11)) x H = z52_g60 S  H := by kernel_rfl
noncomputable def z52_g61 (S : J7) (x0 x1 x2 x7 x8 x9 : Value) (H : Heap) : Prop :=
  bnd (ldE true 5 x7 H) fun v33 =>
  EvF P N.rtt_Check #[v33] H fun v34 H1 =>
  bnd (binV .int .neq v34 (.int .i64 0)) fun v35 =>
  S x0 x1 x2 x7 x8 x9 v35 H1
theorem z52_g61_e (S : J7) (x H) : WE z52_pi z52_c16 89 (fun l => S (gd l 0) (gd l 1) (gd l 2) (gd l 7) (gd l 8) (gd l 9) (gd l 32)) x H = z52_g61 S (x 0) (x 1) (x 2) (x 7) (x 8) (x 9) H := by kernel_rfl
noncomputable def z52_g62 (S : J4) (x7 : Value) (H : Heap) : Prop :=
  bnd (ldE true 5 x7 H) fun v36 =>
  EvF P N.rtt_Check #[v36] H fun v37 H1 =>
  S (.slice none 0 0) (.slice none 0 0) (.int .i64 0) v37 H1
theorem z52_g62_e (S : J4) (x H) : WE z52_pi z52_c19 89 (fun l => S (gd l 8) (gd l 9) (gd l 10) (gd l 11)) x H = z52_g62 S (x 7) H := by kernel_rfl
noncomputable def z52_g63 (S : J4) (x0 x1 x2 x7 x8 x9 : Value) (H : Heap) : Prop :=
  bnd (ldE true 5 x7 H) fun v40 =>
  EvF P N.loss_Wait #[v40] H fun v41 H1 =>
  EvF P N.loss_ruled #[x1, x2, v41] H1 fun v42 H2 =>
  newE 128 #[.nilFunc, .nilFunc, .nilFunc] H2 fun v12 H3 =>
  bnd (stE 3 v12 v42 H3) fun H4 =>
  S x0 x8 x9 v12 H4
theorem z52_g63_e (S : J4) (x H) : WE z52_pi z52_c21 89 (fun l => S (gd l 0) (gd l 8) (gd l 9) (gd l 12)) x H = z52_g63 S (x 0) (x 1) (x 2) (x 7) (x 8) (x 9) H := by kernel_rfl
noncomputable def z52_g64 (S : J5) (x0 x8 x9 x12 : Value) (H : Heap) : Prop :=
  S x0 x8 x9 (.int .i64 (-1)) x12 H
theorem z52_g64_e (S : J5) (x H) : WE z52_pi z52_c23 89 (fun l => S (gd l 0) (gd l 8) (gd l 9) (gd l 10) (gd l 12)) x H = z52_g64 S (x 0) (x 8) (x 9) (x 12) H := by kernel_rfl
noncomputable def z52_g65 (S : J7) (x0 x8 x9 x10 x12 : Value) (H : Heap) : Prop :=
  bnd (lenV x0) fun v44 =>
  S x8 x9 x10 x12 x0 v44 (.int .i64 0) H
theorem z52_g65_e (S : J7) (x H) : WE z52_pi z52_c26 89 (fun l => S (gd l 8) (gd l 9) (gd l 10) (gd l 12) (gd l 43) (gd l 44) (gd l 45)) x H = z52_g65 S (x 0) (x 8) (x 9) (x 10) (x 12) H := by kernel_rfl
noncomputable def z52_g67 (S : J8) (x8 x9 x10 x12 x43 x44 x45 : Value) (H : Heap) : Prop :=
  bnd (binV .int .lss x45 x44) fun v46 =>
  S x8 x9 x10 x12 x43 x44 x45 v46 H
theorem z52_g67_e (S : J8) (x H) : WE z52_pi z52_c30 89 (fun l => S (gd l 8) (gd l 9) (gd l 10) (gd l 12) (gd l 43) (gd l 44) (gd l 45) (gd l 46)) x H = z52_g67 S (x 8) (x 9) (x 10) (x 12) (x 43) (x 44) (x 45) H := by kernel_rfl
noncomputable def z52_g69 (S : J7) (x8 x9 x10 x12 x43 x44 x45 : Value) (H : Heap) : Prop :=
  bnd (binV .int .add x45 (.int .i64 1)) fun v85 =>
  S x8 x9 x10 x12 x43 x44 v85 H
theorem z52_g69_e (S : J7) (x H) : WE z52_pi z52_c53 89 (fun l => S (gd l 8) (gd l 9) (gd l 10) (gd l 12) (gd l 43) (gd l 44) (gd l 45)) x H = z52_g69 S (x 8) (x 9) (x 10) (x 12) (x 43) (x 44) (x 45) H := by kernel_rfl
noncomputable def z52_s68 (x8 x9 x10 x12 x43 x44 x45 : Value) (K1 : J7) (_R : J1) (H : Heap) : Prop :=
  z52_g69 (fun x8 x9 x10 x12 x43 x44 x45 H => K1 x8 x9 x10 x12 x43 x44 x45 H) x8 x9 x10 x12 x43 x44 x45 H
noncomputable def z52_q70 (R : J1) : JQ := (retQ tab z52_rs R)
noncomputable def z52_q71 (R : J1) : JQ := (thenE (fun l H => wpE tab P z52_pi z52_c54 (z52_q70 R) l H) (z52_q70 R))
noncomputable def z52_q72 (R : J1) : JQ := (blkE 1 (z52_q71 R))
noncomputable def z52_q73 (K1 : J7) (R : J1) : JQ := (thenE (fun l H => K1 (gd l 8) (gd l 9) (gd l 10) (gd l 12) (gd l 43) (gd l 44) (gd l 45) H) (z52_q72 R))
theorem z52_s68_i (K1 : J7) (R : J1) (l : List Value) (H : Heap) (hl : l.length = 89) (h : z52_s68 (gd l 8) (gd l 9) (gd l 10) (gd l 12) (gd l 43) (gd l 44) (gd l 45) K1 R H) : wpE tab P z52_pi z52_c53 (z52_q73 K1 R) l H := rj hl (z52_g69_e _ (gd l) _) h fun l H hl h => tN <| h
noncomputable def z52_g74 (S : J8) (x8 x9 x10 x12 x43 x44 x45 : Value) (H : Heap) : Prop :=
  bnd (ixSV 6 x43 x45) fun v47 =>
  bnd (ldE true 6 v47 H) fun v48 =>
  newE 40 #[(.int .i64 0), (.int .i64 0), (.int .i64 0), (.bool false), (.bool false), (.bool false)] H fun v14 H1 =>
  bnd (stE 6 v14 v48 H1) fun H2 =>
  S x8 x9 x10 x12 v14 x43 x44 x45 H2
theorem z52_g74_e (S : J8) (x H) : WE z52_pi z52_c37 89 (fun l => S (gd l 8) (gd l 9) (gd l 10) (gd l 12) (gd l 14) (gd l 43) (gd l 44) (gd l 45)) x H = z52_g74 S (x 8) (x 9) (x 10) (x 12) (x 43) (x 44) (x 45) H := by kernel_rfl
noncomputable def z52_g75 (S : J9) (x8 x9 x10 x12 x14 x43 x44 x45 : Value) (H : Heap) : Prop :=
  bnd (faV 0 x12) fun v49 =>
  bnd (ldE false 1 v49 H) fun v50 =>
  bnd (ldE true 6 x14 H) fun v51 =>
  callV P v50 [v51] H fun v52 H1 =>
  brV v52
  (bnd (faV 1 x12) fun v54 =>
  bnd (ldE false 1 v54 H1) fun v55 =>
  bnd (ldE true 6 x14 H1) fun v56 =>
  callV P v55 [v56] H1 fun v57 H2 =>
  S x8 x9 x10 x12 x14 x43 x44 x45 v57 H2)
  (S x8 x9 x10 x12 x14 x43 x44 x45 (.bool false) H1)
theorem z52_g75_e (S : J9) (x H) : WE z52_pi z52_c40 89 (fun l => S (gd l 8) (gd l 9) (gd l 10) (gd l 12) (gd l 14) (gd l 43) (gd l 44) (gd l 45) (gd l 58)) x H = z52_g75 S (x 8) (x 9) (x 10) (x 12) (x 14) (x 43) (x 44) (x 45) H := by kernel_rfl
noncomputable def z52_g76 (S : J7) (x8 x9 x10 x12 x14 x43 x44 x45 : Value) (H : Heap) : Prop :=
  bnd (ldE true 6 x14 H) fun v60 =>
  bslE 40 #[(.int .i64 0), (.int .i64 0), (.int .i64 0), (.bool false), (.bool false), (.bool false)] 6 1 [(0, v60)] H fun v61 H1 =>
  appE 40 #[(.int .i64 0), (.int .i64 0), (.int .i64 0), (.bool false), (.bool false), (.bool false)] 6 32 x8 v61 H1 fun v62 H2 =>
  S v62 x9 x10 x12 x43 x44 x45 H2
theorem z52_g76_e (S : J7) (x H) : WE z52_pi z52_c43 89 (fun l => S (gd l 8) (gd l 9) (gd l 10) (gd l 12) (gd l 43) (gd l 44) (gd l 45)) x H = z52_g76 S (x 8) (x 9) (x 10) (x 12) (x 14) (x 43) (x 44) (x 45) H := by kernel_rfl
noncomputable def z52_g77 (S : J8) (x8 x9 x10 x12 x14 x43 x44 x45 : Value) (H : Heap) : Prop :=
  bnd (ldE true 6 x14 H) fun v64 =>
  bslE 40 #[(.int .i64 0), (.int .i64 0), (.int .i64 0), (.bool false), (.bool false), (.bool false)] 6 1 [(0, v64)] H fun v65 H1 =>
  appE 40 #[(.int .i64 0), (.int .i64 0), (.int .i64 0), (.bool false), (.bool false), (.bool false)] 6 32 x9 v65 H1 fun v66 H2 =>
  S x8 v66 x10 x12 x14 x43 x44 x45 H2
theorem z52_g77_e (S : J8) (x H) : WE z52_pi z52_c46 89 (fun l => S (gd l 8) (gd l 9) (gd l 10) (gd l 12) (gd l 14) (gd l 43) (gd l 44) (gd l 45)) x H = z52_g77 S (x 8) (x 9) (x 10) (x 12) (x 14) (x 43) (x 44) (x 45) H := by kernel_rfl
noncomputable def z52_g78 (S : J9) (x8 x9 x10 x12 x14 x43 x44 x45 : Value) (H : Heap) : Prop :=
  bnd (faV 2 x12) fun v67 =>
  bnd (ldE false 1 v67 H) fun v68 =>
  bnd (ldE true 6 x14 H) fun v69 =>
  callV P v68 [v69] H fun v70 H1 =>
  S x8 x9 x10 x12 x14 v70 x43 x44 x45 H1
theorem z52_g78_e (S : J9) (x H) : WE z52_pi z52_c48 89 (fun l => S (gd l 8) (gd l 9) (gd l 10) (gd l 12) (gd l 14) (gd l 15) (gd l 43) (gd l 44) (gd l 45)) x H = z52_g78 S (x 8) (x 9) (x 10) (x 12) (x 14) (x 43) (x 44) (x 45) H := by kernel_rfl
noncomputable def z52_g79 (S : J9) (x8 x9 x10 x12 x14 x15 x43 x44 x45 : Value) (H : Heap) : Prop :=
  bnd (faV 0 x12) fun v71 =>
  bnd (ldE false 1 v71 H) fun v72 =>
  bnd (ldE true 6 x14 H) fun v73 =>
  callV P v72 [v73] H fun v74 H1 =>
  brV v74
  (bnd (binV .int .eql x10 (.int .i64 (-1))) fun v77 =>
  brG v77
  (S x8 x9 x10 x12 x15 x43 x44 x45 (.bool true) H1)
  (bnd (binV .int .lss x15 x10) fun v81 =>
  S x8 x9 x10 x12 x15 x43 x44 x45 v81 H1)
  (brG v77
  (S x8 x9 x10 x12 x15 x43 x44 x45 (.bool true) H1)
  (bnd (binV .int .lss undef x10) fun v81_2 =>
  S x8 x9 x10 x12 x15 x43 x44 x45 v81_2 H1)
  (brG v77
  (S x8 x9 x10 x12 x15 x43 x44 x45 (.bool true) H1)
  (bnd (binV .int .lss undef undef) fun v81_3 =>
  S x8 x9 x10 x12 x15 x43 x44 x45 v81_3 H1)
  (pickE v77 (.bool true) undef H1 fun v82 H2 =>
  S x8 x9 x10 x12 x15 x43 x44 x45 v82 H2))))
  (S x8 x9 x10 x12 x15 x43 x44 x45 (.bool false) H1)
theorem z52_g79_e (S : J9) (x H) : WE z52_pi z52_c50 89 (fun l => S (gd l 8) (gd l 9) (gd l 10) (gd l 12) (gd l 15) (gd l 43) (gd l 44) (gd l 45) (gd l 83)) x H = z52_g79 S (x 8) (x 9) (x 10) (x 12) (x 14) (x 15) (x 43) (x 44) (x 45) H := by kernel_rfl
noncomputable def z52_g80 (S : J7) (x8 x9 x12 x15 x43 x44 x45 : Value) (H : Heap) : Prop :=
  S x8 x9 x15 x12 x43 x44 x45 H
theorem z52_g80_e (S : J7) (x H) : WE z52_pi z52_c52 89 (fun l => S (gd l 8) (gd l 9) (gd l 10) (gd l 12) (gd l 43) (gd l 44) (gd l 45)) x H = z52_g80 S (x 8) (x 9) (x 12) (x 15) (x 43) (x 44) (x 45) H := by kernel_rfl
noncomputable def z52_g81 (S : J4) (x8 x9 x10 : Value) (H : Heap) : Prop :=
  S x8 x9 x10 (.int .i64 0) H
theorem z52_g81_e (S : J4) (x H) : WE z52_pi z52_c55 89 (fun l => S (gd l 8) (gd l 9) (gd l 10) (gd l 11)) x H = z52_g81 S (x 8) (x 9) (x 10) H := by kernel_rfl
noncomputable def z52_s66 (x8 x9 x10 x12 x43 x44 x45 : Value) (K1 : J7) (R : J1) (H : Heap) : Prop :=
  z52_g67 (fun x8 x9 x10 x12 x43 x44 x45 x46 H => brV x46
  (z52_g74 (fun x8 x9 x10 x12 x14 x43 x44 x45 H => z52_g75 (fun x8 x9 x10 x12 x14 x43 x44 x45 x58 H => brV x58
  (z52_g76 (fun x8 x9 x10 x12 x43 x44 x45 H => z52_s68 x8 x9 x10 x12 x43 x44 x45 K1 R H) x8 x9 x10 x12 x14 x43 x44 x45 H)
  (z52_g77 (fun x8 x9 x10 x12 x14 x43 x44 x45 H => z52_g78 (fun x8 x9 x10 x12 x14 x15 x43 x44 x45 H => z52_g79 (fun x8 x9 x10 x12 x15 x43 x44 x45 x83 H => brV x83
  (z52_g80 (fun x8 x9 x10 x12 x43 x44 x45 H => z52_s68 x8 x9 x10 x12 x43 x44 x45 K1 R H) x8 x9 x12 x15 x43 x44 x45 H)
  (z52_s68 x8 x9 x10 x12 x43 x44 x45 K1 R H)) x8 x9 x10 x12 x14 x15 x43 x44 x45 H) x8 x9 x10 x12 x14 x43 x44 x45 H) x8 x9 x10 x12 x14 x43 x44 x45 H)) x8 x9 x10 x12 x14 x43 x44 x45 H) x8 x9 x10 x12 x43 x44 x45 H)
  (z52_g81 (fun x8 x9 x10 x11 H => R (.tuple #[x8, x9, x10, x11]) H) x8 x9 x10 H)) x8 x9 x10 x12 x43 x44 x45 H
theorem z52_s66_i (K1 : J7) (R : J1) (l : List Value) (H : Heap) (hl : l.length = 89) (h : z52_s66 (gd l 8) (gd l 9) (gd l 10) (gd l 12) (gd l 43) (gd l 44) (gd l 45) K1 R H) : wpE tab P z52_pi z52_c29 (z52_q73 K1 R) l H := sr rfl hl (z52_g67_e _ (gd l) _) h fun l H hl h => sq rfl <| cd rfl h (fun h => kN rfl <| sq rfl <| bl rfl <| sr rfl hl (z52_g74_e _ (gd l) _) h fun l H hl h => sq rfl <| sr rfl hl (z52_g75_e _ (gd l) _) h fun l H hl h => cd rfl h (fun h => sr rfl hl (z52_g76_e _ (gd l) _) h fun l H hl h => ex rfl <| tX <| bX <| tN <| z52_s68_i K1 R l H hl h) fun h => kN rfl <| sr rfl hl (z52_g77_e _ (gd l) _) h fun l H hl h => sr rfl hl (z52_g78_e _ (gd l) _) h fun l H hl h => sr rfl hl (z52_g79_e _ (gd l) _) h fun l H hl h => cd rfl h (fun h => rj hl (z52_g80_e _ (gd l) _) h fun l H hl h => bN <| tN <| z52_s68_i K1 R l H hl h) fun h => sk rfl <| bN <| tN <| z52_s68_i K1 R l H hl h) fun h => ex rfl <| tX <| tX <| bX <| tN <| sr rfl hl (z52_g81_e _ (gd l) _) h fun l H hl h => rt rfl h
noncomputable def z52_l82 (x8 x9 x10 x12 x43 x44 x45 : Value) (R : J1) (H : Heap) : Prop :=
  ∃ (I : J4) (μ : M4), I x8 x9 x10 x45 H ∧ ∀ (y8 : Value) (y9 : Value) (y10 : Value) (y45 : Value) (H : Heap), I y8 y9 y10 y45 H → z52_s66 y8 y9 y10 x12 x43 x44 y45 (fun z8 z9 z10 z12 z43 z44 z45 H' => z12 = x12 ∧ z43 = x43 ∧ z44 = x44 ∧ (I z8 z9 z10 z45 H' ∧ μ z8 z9 z10 z45 H' < μ y8 y9 y10 y45 H)) R H
def loss_Find (x0 x1 x2 x3 : Value) (R : Value → Heap → Prop) (H : Heap) : Prop :=
  z52_g56 (fun x0 x1 x2 x7 x8 x9 H => z52_g57 (fun x0 x1 x2 x7 x8 x9 x16 H => brV x16
  (z52_g58 (fun x8 x9 x10 x11 H => R (.tuple #[x8, x9, x10, x11]) H) H)
  (z52_g59 (fun x0 x1 x2 x7 x8 x9 x20 H => brV x20
  (z52_g60 (fun x8 x9 x10 x11 H => R (.tuple #[x8, x9, x10, x11]) H) H)
  (z52_g61 (fun x0 x1 x2 x7 x8 x9 x32 H => brV x32
  (z52_g62 (fun x8 x9 x10 x11 H => R (.tuple #[x8, x9, x10, x11]) H) x7 H)
  (z52_g63 (fun x0 x8 x9 x12 H => z52_g64 (fun x0 x8 x9 x10 x12 H => z52_g65 (fun x8 x9 x10 x12 x43 x44 x45 H => z52_l82 x8 x9 x10 x12 x43 x44 x45 R H) x0 x8 x9 x10 x12 H) x0 x8 x9 x12 H) x0 x1 x2 x7 x8 x9 H)) x0 x1 x2 x7 x8 x9 H)) x0 x1 x2 x7 x8 x9 H)) x0 x1 x2 x7 x8 x9 H) x0 x1 x2 x3 H
theorem z52_ev (x0 x1 x2 x3 : Value) (R : J1) (H : Heap) (h : loss_Find x0 x1 x2 x3 R H) : EvF P N.loss_Find #[x0, x1, x2, x3] H R := .inl (EvF_intro (args := [x0, x1, x2, x3]) (k := 85) (rs := z52_rs) tab_ok mixed Tryz.func52 (show Tryz.f52.body = some z52_c1 by kernel_rfl) Tryz.call52 Tryz.ntmps52 (by kernel_rfl) (okCode_of _ (show okB z52_pi z52_c1 = true by kernel_rfl)) (fr_eq _ _) (fj (n := 89) rfl (fun l hl (h : loss_Find (gd l 0) (gd l 1) (gd l 2) (gd l 3) R H) => sr rfl hl (z52_g56_e _ (gd l) _) h fun l H hl h => sq rfl <| bl rfl <| sr rfl hl (z52_g57_e _ (gd l) _) h fun l H hl h => cd rfl h (fun h => sr rfl hl (z52_g58_e _ (gd l) _) h fun l H hl h => rt rfl h) fun h => sr rfl hl (z52_g59_e _ (gd l) _) h fun l H hl h => cd rfl h (fun h => sr rfl hl (z52_g60_e _ (gd l) _) h fun l H hl h => rt rfl h) fun h => sr rfl hl (z52_g61_e _ (gd l) _) h fun l H hl h => cd rfl h (fun h => sr rfl hl (z52_g62_e _ (gd l) _) h fun l H hl h => rt rfl h) fun h => sk rfl <| bN <| tN <| sr rfl hl (z52_g63_e _ (gd l) _) h fun l H hl h => sr rfl hl (z52_g64_e _ (gd l) _) h fun l H hl h => sq rfl <| sr rfl hl (z52_g65_e _ (gd l) _) h fun l H hl h => bl rfl <| (by
    obtain ⟨I, μ, h0, hr⟩ := h
    refine loopI (c := z52_c28) rfl (fun l' H' => gd l' 12 = gd l 12 ∧ gd l' 43 = gd l 43 ∧ gd l' 44 = gd l 44 ∧ I (gd l' 8) (gd l' 9) (gd l' 10) (gd l' 45) H') (fun l' H' => μ (gd l' 8) (gd l' 9) (gd l' 10) (gd l' 45) H') hl ⟨rfl, rfl, rfl, h0⟩ ?_
    rintro l1 H1 hl1 ⟨e12, e43, e44, hI⟩
    have hb := hr (gd l1 8) (gd l1 9) (gd l1 10) (gd l1 45) H1 hI
    rw [← e12, ← e43, ← e44] at hb
    refine wpE_mono _ l1 H1 hl1 ?_ (z52_s66_i _ R l1 H1 hl1 hb)
    intro e l2 H2 hl2 hq
    cases e with
    | normal => exact fun _ => (by obtain ⟨d12, d43, d44, g1, g2⟩ := hq; exact ⟨⟨d12.trans e12, d43.trans e43, d44.trans e44, g1⟩, g2⟩)
    | _ => exact hq)) h))
/- 53: (*sounder/space.Space).dropped -/
def z53_rs : List ResultVar := [.tmp 6]
noncomputable def z53_c2 := sc Tryz.f53 [0]
noncomputable def z53_c4 := sc Tryz.f53 [1,0]
noncomputable def z53_c7 := sc Tryz.f53 [1,1,0,0]
noncomputable def z53_c11 := sc Tryz.f53 [1,1,0,1,0,0,0]
noncomputable def z53_c14 : Code := .exit 0
noncomputable def z53_c13 : Code := .cond (.tmp 18) Code.skip z53_c14
noncomputable def z53_c18 := sc Tryz.f53 [1,1,0,1,0,0,1,1,0,0,0]
noncomputable def z53_c20 := sc Tryz.f53 [1,1,0,1,0,0,1,1,0,0,1,0]
noncomputable def z53_c23 := sc Tryz.f53 [1,1,0,1,0,0,1,1,0,0,1,1,0,0]
noncomputable def z53_c24 := sc Tryz.f53 [1,1,0,1,0,0,1,1,0,0,1,1,0,1]
noncomputable def z53_c22 : Code := .seq z53_c23 z53_c24
noncomputable def z53_c21 : Code := .cond (.tmp 23) z53_c22 Code.skip
noncomputable def z53_c19 : Code := .seq z53_c20 z53_c21
noncomputable def z53_c17 : Code := .seq z53_c18 z53_c19
noncomputable def z53_c16 : Code := .block 1 z53_c17
noncomputable def z53_c25 := sc Tryz.f53 [1,1,0,1,0,0,1,1,1]
noncomputable def z53_c15 : Code := .seq z53_c16 z53_c25
noncomputable def z53_c12 : Code := .seq z53_c13 z53_c15
noncomputable def z53_c10 : Code := .seq z53_c11 z53_c12
noncomputable def z53_c9 : Code := .loop z53_c10
noncomputable def z53_c8 : Code := .block 0 z53_c9
noncomputable def z53_c6 : Code := .seq z53_c7 z53_c8
noncomputable def z53_c27 := sc Tryz.f53 [1,1,1,0]
noncomputable def z53_c26 : Code := .seq z53_c27 Code.ret
noncomputable def z53_c5 : Code := .seq z53_c6 z53_c26
noncomputable def z53_c3 : Code := .seq z53_c4 z53_c5
noncomputable def z53_c1 : Code := .seq z53_c2 z53_c3
def z53_pi (_ : Nat) : Pl := .nil
noncomputable def z53_g28 (S : J4) (x0 x1 x2 : Value) (H : Heap) : Prop :=
  S x0 x1 x2 (.slice none 0 0) H
theorem z53_g28_e (S : J4) (x H) : WE z53_pi z53_c2 34 (fun l => S (gd l 0) (gd l 1) (gd l 2) (gd l 6)) x H = z53_g28 S (x 0) (x 1) (x 2) H := by kernel_rfl
noncomputable def z53_g29 (S : J4) (x0 x1 x2 x6 : Value) (H : Heap) : Prop :=
  bnd (nilV x0) fun v11 =>
  bnd (faV 0 v11) fun v12 =>
  bnd (ldE false 1 v12 H) fun v13 =>
  S x1 x2 x6 (.func (.func N.sent_Log_Drop) #[v13] #[]) H
theorem z53_g29_e (S : J4) (x H) : WE z53_pi z53_c4 34 (fun l => S (gd l 1) (gd l 2) (gd l 6) (gd l 7)) x H = z53_g29 S (x 0) (x 1) (x 2) (x 6) H := by kernel_rfl
noncomputable def z53_g30 (S : J6) (x1 x2 x6 x7 : Value) (H : Heap) : Prop :=
  bnd (lenV x1) fun v16 =>
  S x2 x6 x7 x1 v16 (.int .i64 0) H
theorem z53_g30_e (S : J6) (x H) : WE z53_pi z53_c7 34 (fun l => S (gd l 2) (gd l 6) (gd l 7) (gd l 15) (gd l 16) (gd l 17)) x H = z53_g30 S (x 1) (x 2) (x 6) (x 7) H := by kernel_rfl
noncomputable def z53_g32 (S : J7) (x2 x6 x7 x15 x16 x17 : Value) (H : Heap) : Prop :=
  bnd (binV .int .lss x17 x16) fun v18 =>
  S x2 x6 x7 x15 x16 x17 v18 H
theorem z53_g32_e (S : J7) (x H) : WE z53_pi z53_c11 34 (fun l => S (gd l 2) (gd l 6) (gd l 7) (gd l 15) (gd l 16) (gd l 17) (gd l 18)) x H = z53_g32 S (x 2) (x 6) (x 7) (x 15) (x 16) (x 17) H := by kernel_rfl
noncomputable def z53_g34 (S : J6) (x2 x6 x7 x15 x16 x17 : Value) (H : Heap) : Prop :=
  bnd (binV .int .add x17 (.int .i64 1)) fun v32 =>
  S x2 x6 x7 x15 x16 v32 H
theorem z53_g34_e (S : J6) (x H) : WE z53_pi z53_c25 34 (fun l => S (gd l 2) (gd l 6) (gd l 7) (gd l 15) (gd l 16) (gd l 17)) x H = z53_g34 S (x 2) (x 6) (x 7) (x 15) (x 16) (x 17) H := by kernel_rfl
noncomputable def z53_s33 (x2 x6 x7 x15 x16 x17 : Value) (K1 : J6) (_R : J1) (H : Heap) : Prop :=
  z53_g34 (fun x2 x6 x7 x15 x16 x17 H => K1 x2 x6 x7 x15 x16 x17 H) x2 x6 x7 x15 x16 x17 H
noncomputable def z53_q35 (R : J1) : JQ := (retQ tab z53_rs R)
noncomputable def z53_q36 (R : J1) : JQ := (thenE (fun l H => wpE tab P z53_pi z53_c26 (z53_q35 R) l H) (z53_q35 R))
noncomputable def z53_q37 (R : J1) : JQ := (blkE 0 (z53_q36 R))
noncomputable def z53_q38 (K1 : J6) (R : J1) : JQ := (thenE (fun l H => K1 (gd l 2) (gd l 6) (gd l 7) (gd l 15) (gd l 16) (gd l 17) H) (z53_q37 R))
theorem z53_s33_i (K1 : J6) (R : J1) (l : List Value) (H : Heap) (hl : l.length = 34) (h : z53_s33 (gd l 2) (gd l 6) (gd l 7) (gd l 15) (gd l 16) (gd l 17) K1 R H) : wpE tab P z53_pi z53_c25 (z53_q38 K1 R) l H := rj hl (z53_g34_e _ (gd l) _) h fun l H hl h => tN <| h
noncomputable def z53_g39 (S : J7) (x2 x6 x7 x15 x16 x17 : Value) (H : Heap) : Prop :=
  bnd (ixSV 6 x15 x17) fun v19 =>
  bnd (ldE true 6 v19 H) fun v20 =>
  newE 40 #[(.int .i64 0), (.int .i64 0), (.int .i64 0), (.bool false), (.bool false), (.bool false)] H fun v9 H1 =>
  bnd (stE 6 v9 v20 H1) fun H2 =>
  S x2 x6 x7 v9 x15 x16 x17 H2
theorem z53_g39_e (S : J7) (x H) : WE z53_pi z53_c18 34 (fun l => S (gd l 2) (gd l 6) (gd l 7) (gd l 9) (gd l 15) (gd l 16) (gd l 17)) x H = z53_g39 S (x 2) (x 6) (x 7) (x 15) (x 16) (x 17) H := by kernel_rfl
noncomputable def z53_g40 (S : J8) (x2 x6 x7 x9 x15 x16 x17 : Value) (H : Heap) : Prop :=
  bnd (ldE true 6 x9 H) fun v22 =>
  callV P x2 [v22] H fun v23 H1 =>
  S x2 x6 x7 x9 x15 x16 x17 v23 H1
theorem z53_g40_e (S : J8) (x H) : WE z53_pi z53_c20 34 (fun l => S (gd l 2) (gd l 6) (gd l 7) (gd l 9) (gd l 15) (gd l 16) (gd l 17) (gd l 23)) x H = z53_g40 S (x 2) (x 6) (x 7) (x 9) (x 15) (x 16) (x 17) H := by kernel_rfl
noncomputable def z53_g41 (S : J7) (x2 x6 x7 x9 x15 x16 x17 : Value) (H : Heap) : Prop :=
  bnd (faV 0 x9) fun v25 =>
  bnd (ldE false 1 v25 H) fun v26 =>
  callV P x7 [v26] H fun _ H1 =>
  S x2 x6 x7 x9 x15 x16 x17 H1
theorem z53_g41_e (S : J7) (x H) : WE z53_pi z53_c23 34 (fun l => S (gd l 2) (gd l 6) (gd l 7) (gd l 9) (gd l 15) (gd l 16) (gd l 17)) x H = z53_g41 S (x 2) (x 6) (x 7) (x 9) (x 15) (x 16) (x 17) H := by kernel_rfl
noncomputable def z53_g42 (S : J6) (x2 x6 x7 x9 x15 x16 x17 : Value) (H : Heap) : Prop :=
  bnd (ldE true 6 x9 H) fun v29 =>
  bslE 40 #[(.int .i64 0), (.int .i64 0), (.int .i64 0), (.bool false), (.bool false), (.bool false)] 6 1 [(0, v29)] H fun v30 H1 =>
  appE 40 #[(.int .i64 0), (.int .i64 0), (.int .i64 0), (.bool false), (.bool false), (.bool false)] 6 32 x6 v30 H1 fun v31 H2 =>
  S x2 v31 x7 x15 x16 x17 H2
theorem z53_g42_e (S : J6) (x H) : WE z53_pi z53_c24 34 (fun l => S (gd l 2) (gd l 6) (gd l 7) (gd l 15) (gd l 16) (gd l 17)) x H = z53_g42 S (x 2) (x 6) (x 7) (x 9) (x 15) (x 16) (x 17) H := by kernel_rfl
noncomputable def z53_g43 (S : J1) (x6 : Value) (H : Heap) : Prop :=
  S x6 H
theorem z53_g43_e (S : J1) (x H) : WE z53_pi z53_c27 34 (fun l => S (gd l 6)) x H = z53_g43 S (x 6) H := by kernel_rfl
noncomputable def z53_s31 (x2 x6 x7 x15 x16 x17 : Value) (K1 : J6) (R : J1) (H : Heap) : Prop :=
  z53_g32 (fun x2 x6 x7 x15 x16 x17 x18 H => brV x18
  (z53_g39 (fun x2 x6 x7 x9 x15 x16 x17 H => z53_g40 (fun x2 x6 x7 x9 x15 x16 x17 x23 H => brV x23
  (z53_g41 (fun x2 x6 x7 x9 x15 x16 x17 H => z53_g42 (fun x2 x6 x7 x15 x16 x17 H => z53_s33 x2 x6 x7 x15 x16 x17 K1 R H) x2 x6 x7 x9 x15 x16 x17 H) x2 x6 x7 x9 x15 x16 x17 H)
  (z53_s33 x2 x6 x7 x15 x16 x17 K1 R H)) x2 x6 x7 x9 x15 x16 x17 H) x2 x6 x7 x15 x16 x17 H)
  (z53_g43 (fun x6 H => R x6 H) x6 H)) x2 x6 x7 x15 x16 x17 H
theorem z53_s31_i (K1 : J6) (R : J1) (l : List Value) (H : Heap) (hl : l.length = 34) (h : z53_s31 (gd l 2) (gd l 6) (gd l 7) (gd l 15) (gd l 16) (gd l 17) K1 R H) : wpE tab P z53_pi z53_c10 (z53_q38 K1 R) l H := sr rfl hl (z53_g32_e _ (gd l) _) h fun l H hl h => sq rfl <| cd rfl h (fun h => kN rfl <| sq rfl <| bl rfl <| sr rfl hl (z53_g39_e _ (gd l) _) h fun l H hl h => sr rfl hl (z53_g40_e _ (gd l) _) h fun l H hl h => cd rfl h (fun h => sr rfl hl (z53_g41_e _ (gd l) _) h fun l H hl h => rj hl (z53_g42_e _ (gd l) _) h fun l H hl h => bN <| tN <| z53_s33_i K1 R l H hl h) fun h => sk rfl <| bN <| tN <| z53_s33_i K1 R l H hl h) fun h => ex rfl <| tX <| tX <| bX <| tN <| sr rfl hl (z53_g43_e _ (gd l) _) h fun l H hl h => rt rfl h
noncomputable def z53_l44 (x2 x6 x7 x15 x16 x17 : Value) (R : J1) (H : Heap) : Prop :=
  ∃ (I : J2) (μ : M2), I x6 x17 H ∧ ∀ (y6 : Value) (y17 : Value) (H : Heap), I y6 y17 H → z53_s31 x2 y6 x7 x15 x16 y17 (fun z2 z6 z7 z15 z16 z17 H' => z2 = x2 ∧ z7 = x7 ∧ z15 = x15 ∧ z16 = x16 ∧ (I z6 z17 H' ∧ μ z6 z17 H' < μ y6 y17 H)) R H
def space_Space_dropped (x0 x1 x2 : Value) (R : Value → Heap → Prop) (H : Heap) : Prop :=
  z53_g28 (fun x0 x1 x2 x6 H => z53_g29 (fun x1 x2 x6 x7 H => z53_g30 (fun x2 x6 x7 x15 x16 x17 H => z53_l44 x2 x6 x7 x15 x16 x17 R H) x1 x2 x6 x7 H) x0 x1 x2 x6 H) x0 x1 x2 H
theorem z53_ev (x0 x1 x2 : Value) (R : J1) (H : Heap) (h : space_Space_dropped x0 x1 x2 R H) : EvF P N.space_Space_dropped #[x0, x1, x2] H R := .inl (EvF_intro (args := [x0, x1, x2]) (k := 31) (rs := z53_rs) tab_ok mixed Tryz.func53 (show Tryz.f53.body = some z53_c1 by kernel_rfl) Tryz.call53 Tryz.ntmps53 (by kernel_rfl) (okCode_of _ (show okB z53_pi z53_c1 = true by kernel_rfl)) (fr_eq _ _) (fj (n := 34) rfl (fun l hl (h : space_Space_dropped (gd l 0) (gd l 1) (gd l 2) R H) => sr rfl hl (z53_g28_e _ (gd l) _) h fun l H hl h => sr rfl hl (z53_g29_e _ (gd l) _) h fun l H hl h => sq rfl <| sr rfl hl (z53_g30_e _ (gd l) _) h fun l H hl h => bl rfl <| (by
    obtain ⟨I, μ, h0, hr⟩ := h
    refine loopI (c := z53_c9) rfl (fun l' H' => gd l' 2 = gd l 2 ∧ gd l' 7 = gd l 7 ∧ gd l' 15 = gd l 15 ∧ gd l' 16 = gd l 16 ∧ I (gd l' 6) (gd l' 17) H') (fun l' H' => μ (gd l' 6) (gd l' 17) H') hl ⟨rfl, rfl, rfl, rfl, h0⟩ ?_
    rintro l1 H1 hl1 ⟨e2, e7, e15, e16, hI⟩
    have hb := hr (gd l1 6) (gd l1 17) H1 hI
    rw [← e2, ← e7, ← e15, ← e16] at hb
    refine wpE_mono _ l1 H1 hl1 ?_ (z53_s31_i _ R l1 H1 hl1 hb)
    intro e l2 H2 hl2 hq
    cases e with
    | normal => exact fun _ => (by obtain ⟨d2, d7, d15, d16, g1, g2⟩ := hq; exact ⟨⟨d2.trans e2, d7.trans e7, d15.trans e15, d16.trans e16, g1⟩, g2⟩)
    | _ => exact hq)) h))
/- 54: (*sounder/space.Space).Lose$1 -/
def z54_rs : List ResultVar := [.tmp 2]
noncomputable def z54_c2 := sc Tryz.f54 [0]
noncomputable def z54_c4 := sc Tryz.f54 [1,0]
noncomputable def z54_c3 : Code := .seq z54_c4 Code.ret
noncomputable def z54_c1 : Code := .seq z54_c2 z54_c3
def z54_pi (_ : Nat) : Pl := .nil
noncomputable def z54_g5 (S : J0) (x0 : Value) (H : Heap) : Prop :=
  newE 40 (Value.cells x0) H fun _ H1 =>
  S H1
theorem z54_g5_e (S : J0) (x H) : WE z54_pi z54_c2 3 (fun _ => S ) x H = z54_g5 S (x 0) H := by kernel_rfl
noncomputable def z54_g6 (S : J1) (H : Heap) : Prop :=
  S (.bool true) H
theorem z54_g6_e (S : J1) (x H) : WE z54_pi z54_c4 3 (fun l => S (gd l 2)) x H = z54_g6 S  H := by kernel_rfl
def space_Space_Lose_1 (x0 : Value) (R : Value → Heap → Prop) (H : Heap) : Prop :=
  z54_g5 (fun H => z54_g6 (fun x2 H => R x2 H) H) x0 H
theorem z54_ev (x0 : Value) (R : J1) (H : Heap) (h : space_Space_Lose_1 x0 R H) : EvF P N.space_Space_Lose_1 #[x0] H R := .inl (EvF_intro (args := [x0]) (k := 2) (rs := z54_rs) tab_ok mixed Tryz.func54 (show Tryz.f54.body = some z54_c1 by kernel_rfl) Tryz.call54 Tryz.ntmps54 (by kernel_rfl) (okCode_of _ (show okB z54_pi z54_c1 = true by kernel_rfl)) (fr_eq _ _) (fj (n := 3) rfl (fun l hl (h : space_Space_Lose_1 (gd l 0) R H) => sr rfl hl (z54_g5_e _ (gd l) _) h fun l H hl h => sr rfl hl (z54_g6_e _ (gd l) _) h fun l H hl h => rt rfl h) h))
/- 55: (*sounder/space.Space).Last$1 -/
def z55_rs : List ResultVar := [.tmp 1]
noncomputable def z55_c2 := sc Tryz.f55 [0]
noncomputable def z55_c4 := sc Tryz.f55 [1,0]
noncomputable def z55_c3 : Code := .seq z55_c4 Code.ret
noncomputable def z55_c1 : Code := .seq z55_c2 z55_c3
def z55_pi (_ : Nat) : Pl := .nil
noncomputable def z55_g5 (S : J1) (x0 : Value) (H : Heap) : Prop :=
  S x0 H
theorem z55_g5_e (S : J1) (x H) : WE z55_pi z55_c2 7 (fun l => S (gd l 0)) x H = z55_g5 S (x 0) H := by kernel_rfl
noncomputable def z55_g6 (S : J1) (x0 : Value) (H : Heap) : Prop :=
  bnd (ldE false 1 x0 H) fun v2 =>
  bnd (nilV v2) fun v3 =>
  bnd (faV 0 v3) fun v4 =>
  bnd (ldE false 1 v4 H) fun v5 =>
  EvF P N.sent_Log_Last #[v5] H fun v6 H1 =>
  S v6 H1
theorem z55_g6_e (S : J1) (x H) : WE z55_pi z55_c4 7 (fun l => S (gd l 1)) x H = z55_g6 S (x 0) H := by kernel_rfl
def space_Space_Last_1 (x0 : Value) (R : Value → Heap → Prop) (H : Heap) : Prop :=
  z55_g5 (fun x0 H => z55_g6 (fun x1 H => R x1 H) x0 H) x0 H
theorem z55_ev (x0 : Value) (R : J1) (H : Heap) (h : space_Space_Last_1 x0 R H) : EvF P N.space_Space_Last_1 #[x0] H R := .inl (EvF_intro (args := [x0]) (k := 6) (rs := z55_rs) tab_ok mixed Tryz.func55 (show Tryz.f55.body = some z55_c1 by kernel_rfl) Tryz.call55 Tryz.ntmps55 (by kernel_rfl) (okCode_of _ (show okB z55_pi z55_c1 = true by kernel_rfl)) (fr_eq _ _) (fj (n := 7) rfl (fun l hl (h : space_Space_Last_1 (gd l 0) R H) => sr rfl hl (z55_g5_e _ (gd l) _) h fun l H hl h => sr rfl hl (z55_g6_e _ (gd l) _) h fun l H hl h => rt rfl h) h))
/- 56: (*sounder/sent.Log).Last -/
def z56_rs : List ResultVar := [.tmp 2]
noncomputable def z56_c2 := sc Tryz.f56 [0]
noncomputable def z56_c5 := sc Tryz.f56 [1,0,0]
noncomputable def z56_c8 := sc Tryz.f56 [1,0,1,0,0]
noncomputable def z56_c7 : Code := .seq z56_c8 Code.ret
noncomputable def z56_c6 : Code := .cond (.tmp 4) z56_c7 Code.skip
noncomputable def z56_c4 : Code := .seq z56_c5 z56_c6
noncomputable def z56_c10 := sc Tryz.f56 [1,1,0]
noncomputable def z56_c9 : Code := .seq z56_c10 Code.ret
noncomputable def z56_c3 : Code := .seq z56_c4 z56_c9
noncomputable def z56_c1 : Code := .seq z56_c2 z56_c3
def z56_pi (_ : Nat) : Pl := .nil
noncomputable def z56_g11 (S : J1) (x0 : Value) (H : Heap) : Prop :=
  S x0 H
theorem z56_g11_e (S : J1) (x H) : WE z56_pi z56_c2 9 (fun l => S (gd l 0)) x H = z56_g11 S (x 0) H := by kernel_rfl
noncomputable def z56_g12 (S : J2) (x0 : Value) (H : Heap) : Prop :=
  EvF P N.sent_Log_none #[x0] H fun v4 H1 =>
  S x0 v4 H1
theorem z56_g12_e (S : J2) (x H) : WE z56_pi z56_c5 9 (fun l => S (gd l 0) (gd l 4)) x H = z56_g12 S (x 0) H := by kernel_rfl
noncomputable def z56_g13 (S : J1) (H : Heap) : Prop :=
  S (.int .i64 (-1)) H
theorem z56_g13_e (S : J1) (x H) : WE z56_pi z56_c8 9 (fun l => S (gd l 2)) x H = z56_g13 S  H := by kernel_rfl
noncomputable def z56_g14 (S : J1) (x0 : Value) (H : Heap) : Prop :=
  bnd (nilV x0) fun v6 =>
  bnd (faV 1 v6) fun v7 =>
  bnd (ldE false 1 v7 H) fun v8 =>
  S v8 H
theorem z56_g14_e (S : J1) (x H) : WE z56_pi z56_c10 9 (fun l => S (gd l 2)) x H = z56_g14 S (x 0) H := by kernel_rfl
def sent_Log_Last (x0 : Value) (R : Value → Heap → Prop) (H : Heap) : Prop :=
  z56_g11 (fun x0 H => z56_g12 (fun x0 x4 H => brV x4
  (z56_g13 (fun x2 H => R x2 H) H)
  (z56_g14 (fun x2 H => R x2 H) x0 H)) x0 H) x0 H
theorem z56_ev (x0 : Value) (R : J1) (H : Heap) (h : sent_Log_Last x0 R H) : EvF P N.sent_Log_Last #[x0] H R := .inl (EvF_intro (args := [x0]) (k := 8) (rs := z56_rs) tab_ok mixed Tryz.func56 (show Tryz.f56.body = some z56_c1 by kernel_rfl) Tryz.call56 Tryz.ntmps56 (by kernel_rfl) (okCode_of _ (show okB z56_pi z56_c1 = true by kernel_rfl)) (fr_eq _ _) (fj (n := 9) rfl (fun l hl (h : sent_Log_Last (gd l 0) R H) => sr rfl hl (z56_g11_e _ (gd l) _) h fun l H hl h => sq rfl <| sr rfl hl (z56_g12_e _ (gd l) _) h fun l H hl h => cd rfl h (fun h => sr rfl hl (z56_g13_e _ (gd l) _) h fun l H hl h => rt rfl h) fun h => kN rfl <| sr rfl hl (z56_g14_e _ (gd l) _) h fun l H hl h => rt rfl h) h))
/- 57: sounder/frame.Check -/
def z57_rs : List ResultVar := [.cell 2 24]
noncomputable def z57_c2 := sc Tryz.f57 [0]
noncomputable def z57_c5 := sc Tryz.f57 [1,0,0]
noncomputable def z57_c8 := sc Tryz.f57 [1,0,1,0,0]
noncomputable def z57_c7 : Code := .seq z57_c8 Code.ret
noncomputable def z57_c6 : Code := .cond (.tmp 23) z57_c7 Code.skip
noncomputable def z57_c4 : Code := .seq z57_c5 z57_c6
noncomputable def z57_c11 := sc Tryz.f57 [1,1,0,0]
noncomputable def z57_c15 := sc Tryz.f57 [1,1,0,1,0,0,0]
noncomputable def z57_c18 : Code := .exit 0
noncomputable def z57_c17 : Code := .cond (.tmp 28) Code.skip z57_c18
noncomputable def z57_c22 := sc Tryz.f57 [1,1,0,1,0,0,1,1,0,0,0]
noncomputable def z57_c24 := sc Tryz.f57 [1,1,0,1,0,0,1,1,0,0,1,0]
noncomputable def z57_c27 := sc Tryz.f57 [1,1,0,1,0,0,1,1,0,0,1,1,0,0]
noncomputable def z57_c26 : Code := .seq z57_c27 Code.ret
noncomputable def z57_c25 : Code := .cond (.tmp 47) z57_c26 Code.skip
noncomputable def z57_c23 : Code := .seq z57_c24 z57_c25
noncomputable def z57_c21 : Code := .seq z57_c22 z57_c23
noncomputable def z57_c20 : Code := .block 1 z57_c21
noncomputable def z57_c28 := sc Tryz.f57 [1,1,0,1,0,0,1,1,1]
noncomputable def z57_c19 : Code := .seq z57_c20 z57_c28
noncomputable def z57_c16 : Code := .seq z57_c17 z57_c19
noncomputable def z57_c14 : Code := .seq z57_c15 z57_c16
noncomputable def z57_c13 : Code := .loop z57_c14
noncomputable def z57_c12 : Code := .block 0 z57_c13
noncomputable def z57_c10 : Code := .seq z57_c11 z57_c12
noncomputable def z57_c31 := sc Tryz.f57 [1,1,1,0,0]
noncomputable def z57_c34 := sc Tryz.f57 [1,1,1,0,1,0,0]
noncomputable def z57_c37 := sc Tryz.f57 [1,1,1,0,1,0,1,0,0]
noncomputable def z57_c40 := sc Tryz.f57 [1,1,1,0,1,0,1,0,1,0,0]
noncomputable def z57_c39 : Code := .seq z57_c40 Code.ret
noncomputable def z57_c38 : Code := .cond (.tmp 54) z57_c39 Code.skip
noncomputable def z57_c36 : Code := .seq z57_c37 z57_c38
noncomputable def z57_c35 : Code := .block 3 z57_c36
noncomputable def z57_c33 : Code := .rangeFunc (.tmp 50) #[51, 52] z57_c34 z57_c35
noncomputable def z57_c32 : Code := .block 2 z57_c33
noncomputable def z57_c30 : Code := .seq z57_c31 z57_c32
noncomputable def z57_c43 := sc Tryz.f57 [1,1,1,1,0,0]
noncomputable def z57_c47 := sc Tryz.f57 [1,1,1,1,0,1,0,0,0]
noncomputable def z57_c50 : Code := .exit 4
noncomputable def z57_c49 : Code := .cond (.tmp 58) Code.skip z57_c50
noncomputable def z57_c54 := sc Tryz.f57 [1,1,1,1,0,1,0,0,1,1,0,0,0]
noncomputable def z57_c56 := sc Tryz.f57 [1,1,1,1,0,1,0,0,1,1,0,0,1,0]
noncomputable def z57_c59 := sc Tryz.f57 [1,1,1,1,0,1,0,0,1,1,0,0,1,1,0,0]
noncomputable def z57_c58 : Code := .seq z57_c59 Code.ret
noncomputable def z57_c57 : Code := .cond (.tmp 71) z57_c58 Code.skip
noncomputable def z57_c55 : Code := .seq z57_c56 z57_c57
noncomputable def z57_c53 : Code := .seq z57_c54 z57_c55
noncomputable def z57_c52 : Code := .block 5 z57_c53
noncomputable def z57_c60 := sc Tryz.f57 [1,1,1,1,0,1,0,0,1,1,1]
noncomputable def z57_c51 : Code := .seq z57_c52 z57_c60
noncomputable def z57_c48 : Code := .seq z57_c49 z57_c51
noncomputable def z57_c46 : Code := .seq z57_c47 z57_c48
noncomputable def z57_c45 : Code := .loop z57_c46
noncomputable def z57_c44 : Code := .block 4 z57_c45
noncomputable def z57_c42 : Code := .seq z57_c43 z57_c44
noncomputable def z57_c62 := sc Tryz.f57 [1,1,1,1,1,0]
noncomputable def z57_c61 : Code := .seq z57_c62 Code.ret
noncomputable def z57_c41 : Code := .seq z57_c42 z57_c61
noncomputable def z57_c29 : Code := .seq z57_c30 z57_c41
noncomputable def z57_c9 : Code := .seq z57_c10 z57_c29
noncomputable def z57_c3 : Code := .seq z57_c4 z57_c9
noncomputable def z57_c1 : Code := .seq z57_c2 z57_c3
def z57_pi (_ : Nat) : Pl := .nil
noncomputable def z57_g63 (S : J2) (x0 : Value) (H : Heap) : Prop :=
  newE 52 (Value.cells x0) H fun v1 H1 =>
  newE 24 #[(.int .i64 0)] H1 fun v2 H2 =>
  S v1 v2 H2
theorem z57_g63_e (S : J2) (x H) : WE z57_pi z57_c2 73 (fun l => S (gd l 1) (gd l 2)) x H = z57_g63 S (x 0) H := by kernel_rfl
noncomputable def z57_g64 (S : J3) (x1 x2 : Value) (H : Heap) : Prop :=
  bnd (faV 1 x1) fun v8 =>
  bnd (ldE false 1 v8 H) fun v9 =>
  bnd (lenV v9) fun v10 =>
  bnd (binV .int .lss v10 (.int .i64 1)) fun v11 =>
  brV v11
  (S x1 x2 (.bool true) H)
  (bnd (faV 1 x1) fun v13 =>
  bnd (ldE false 1 v13 H) fun v14 =>
  bnd (lenV v14) fun v15 =>
  bnd (binV .int .gtr v15 (.int .i64 256)) fun v16 =>
  brV v16
  (S x1 x2 (.bool true) H)
  (bnd (faV 0 x1) fun v19 =>
  bnd (ldE false 1 v19 H) fun v20 =>
  EvF P N.frame_isNumber #[v20] H fun v21 H1 =>
  bnd (unV .not v21) fun v22 =>
  S x1 x2 v22 H1))
theorem z57_g64_e (S : J3) (x H) : WE z57_pi z57_c5 73 (fun l => S (gd l 1) (gd l 2) (gd l 23)) x H = z57_g64 S (x 1) (x 2) H := by kernel_rfl
noncomputable def z57_g65 (S : J1) (x2 : Value) (H : Heap) : Prop :=
  bnd (stE 1 x2 (.int .i64 2) H) fun H1 =>
  S x2 H1
theorem z57_g65_e (S : J1) (x H) : WE z57_pi z57_c8 73 (fun l => S (gd l 2)) x H = z57_g65 S (x 2) H := by kernel_rfl
noncomputable def z57_g66 (S : J5) (x1 x2 : Value) (H : Heap) : Prop :=
  bnd (faV 1 x1) fun v24 =>
  bnd (ldE false 1 v24 H) fun v25 =>
  bnd (lenV v25) fun v26 =>
  S x1 x2 v25 v26 (.int .i64 0) H
theorem z57_g66_e (S : J5) (x H) : WE z57_pi z57_c11 73 (fun l => S (gd l 1) (gd l 2) (gd l 25) (gd l 26) (gd l 27)) x H = z57_g66 S (x 1) (x 2) H := by kernel_rfl
noncomputable def z57_g68 (S : J6) (x1 x2 x25 x26 x27 : Value) (H : Heap) : Prop :=
  bnd (binV .int .lss x27 x26) fun v28 =>
  S x1 x2 x25 x26 x27 v28 H
theorem z57_g68_e (S : J6) (x H) : WE z57_pi z57_c15 73 (fun l => S (gd l 1) (gd l 2) (gd l 25) (gd l 26) (gd l 27) (gd l 28)) x H = z57_g68 S (x 1) (x 2) (x 25) (x 26) (x 27) H := by kernel_rfl
noncomputable def z57_g69 (S : J6) (x1 x2 x25 x26 x27 : Value) (H : Heap) : Prop :=
  bnd (ixSV 2 x25 x27) fun v29 =>
  bnd (ldE true 2 v29 H) fun v30 =>
  newE 93 #[(.int .i64 0), (.int .i64 0)] H fun v4 H1 =>
  bnd (stE 2 v4 v30 H1) fun H2 =>
  S x1 x2 v4 x25 x26 x27 H2
theorem z57_g69_e (S : J6) (x H) : WE z57_pi z57_c22 73 (fun l => S (gd l 1) (gd l 2) (gd l 4) (gd l 25) (gd l 26) (gd l 27)) x H = z57_g69 S (x 1) (x 2) (x 25) (x 26) (x 27) H := by kernel_rfl
noncomputable def z57_g70 (S : J6) (x1 x2 x4 x25 x26 x27 : Value) (H : Heap) : Prop :=
  bnd (faV 0 x4) fun v31 =>
  bnd (ldE false 1 v31 H) fun v32 =>
  EvF P N.frame_isNumber #[v32] H fun v33 H1 =>
  bnd (unV .not v33) fun v34 =>
  brV v34
  (S x1 x2 x25 x26 x27 (.bool true) H1)
  (bnd (faV 1 x4) fun v36 =>
  bnd (ldE false 1 v36 H1) fun v37 =>
  EvF P N.frame_isNumber #[v37] H1 fun v38 H2 =>
  bnd (unV .not v38) fun v39 =>
  brV v39
  (S x1 x2 x25 x26 x27 (.bool true) H2)
  (bnd (faV 0 x4) fun v42 =>
  bnd (ldE false 1 v42 H2) fun v43 =>
  bnd (faV 1 x4) fun v44 =>
  bnd (ldE false 1 v44 H2) fun v45 =>
  bnd (binV .int .gtr v43 v45) fun v46 =>
  S x1 x2 x25 x26 x27 v46 H2))
theorem z57_g70_e (S : J6) (x H) : WE z57_pi z57_c24 73 (fun l => S (gd l 1) (gd l 2) (gd l 25) (gd l 26) (gd l 27) (gd l 47)) x H = z57_g70 S (x 1) (x 2) (x 4) (x 25) (x 26) (x 27) H := by kernel_rfl
noncomputable def z57_g71 (S : J1) (x2 : Value) (H : Heap) : Prop :=
  bnd (stE 1 x2 (.int .i64 2) H) fun H1 =>
  S x2 H1
theorem z57_g71_e (S : J1) (x H) : WE z57_pi z57_c27 73 (fun l => S (gd l 2)) x H = z57_g71 S (x 2) H := by kernel_rfl
noncomputable def z57_g72 (S : J5) (x1 x2 x25 x26 x27 : Value) (H : Heap) : Prop :=
  bnd (binV .int .add x27 (.int .i64 1)) fun v48 =>
  S x1 x2 x25 x26 v48 H
theorem z57_g72_e (S : J5) (x H) : WE z57_pi z57_c28 73 (fun l => S (gd l 1) (gd l 2) (gd l 25) (gd l 26) (gd l 27)) x H = z57_g72 S (x 1) (x 2) (x 25) (x 26) (x 27) H := by kernel_rfl
noncomputable def z57_g73 (S : J3) (x1 x2 : Value) (H : Heap) : Prop :=
  bnd (ldE true 6 x1 H) fun v49 =>
  EvF P N.frame_gaps #[v49] H fun v50 H1 =>
  S x1 x2 v50 H1
theorem z57_g73_e (S : J3) (x H) : WE z57_pi z57_c31 73 (fun l => S (gd l 1) (gd l 2) (gd l 50)) x H = z57_g73 S (x 1) (x 2) H := by kernel_rfl
noncomputable def z57_L (fn : FuncId) (l : List Value) (d : Nat) : Loop := mkL fn l #[51, 52] z57_c34 z57_c35 d
noncomputable def z57_g75 (S : J2) (x2 x5 : Value) (H : Heap) : Prop :=
  bnd (binV .int .lss x5 (.int .i64 0)) fun v54 =>
  S x2 v54 H
theorem z57_g75_e (S : J2) (x H) : WE z57_pi z57_c37 73 (fun l => S (gd l 2) (gd l 54)) x H = z57_g75 S (x 2) (x 5) H := by kernel_rfl
noncomputable def z57_g76 (S : J0) (x2 : Value) (H : Heap) : Prop :=
  bnd (stE 1 x2 (.int .i64 2) H) fun H1 =>
  S H1
theorem z57_g76_e (S : J0) (x H) : WE z57_pi z57_c40 73 (fun _ => S ) x H = z57_g76 S (x 2) H := by kernel_rfl
noncomputable def z57_s74 (x2 x5 : Value) (lp : Nat) (r : Loop) (R : J1) (H : Heap) : Prop :=
  z57_g75 (fun x2 x54 H => brV x54
  (z57_g76 (fun H => (H.arr[lp]? = some (.loop (busy r)) ∧ R (.bool false) (setO H lp (.loop (gone r))))) x2 H)
  ((H.arr[lp]? = some (.loop (busy r)) ∧ R (.bool true) (setO H lp (.loop r))))) x2 x5 H
noncomputable def z57_q77 (lp : Nat) (r : Loop) (R : J1) : JQ := (rQ lp r R)
theorem z57_s74_i (lp : Nat) (r : Loop) (R : J1) (l : List Value) (H : Heap) (hl : l.length = 73) (h : z57_s74 (gd l 2) (gd l 5) lp r R H) : wpE tab P z57_pi z57_c35 (z57_q77 lp r R) l H := bl rfl <| sr rfl hl (z57_g75_e _ (gd l) _) h fun l H hl h => cd rfl h (fun h => sr rfl hl (z57_g76_e _ (gd l) _) h fun l H hl h => rt rfl h) fun h => sk rfl <| bN <| h
noncomputable def z57_g78 (S : J2) (x2 x51 : Value) (H : Heap) : Prop :=
  S x2 x51 H
theorem z57_g78_e (S : J2) (x H) : WE z57_pi z57_c34 73 (fun l => S (gd l 2) (gd l 5)) x H = z57_g78 S (x 2) (x 51) H := by kernel_rfl
def z57_r (lp : Nat) (r : Loop) (R : Value → Heap → Prop) (x2 x51 _x52 : Value) (H : Heap) : Prop :=
  z57_g78 (fun x2 x5 H => (H.arr[lp]? = some (.loop r) ∧
  z57_s74 x2 x5 lp r R (setO H lp (.loop (busy r))))) x2 x51 H
theorem z57_ri (lp : Nat) (r : Loop) (R : Value → Heap → Prop) (l : List Value) (H : Heap) (hl : l.length = 73) (h : z57_r lp r R (l.getD 2 undef) (l.getD 51 undef) (l.getD 52 undef) H) : wpE tab P z57_pi z57_c34 (nQ fun l H => H.arr[lp]? = some (.loop r) ∧ wpE tab P z57_pi z57_c35 (rQ lp r R) l (setO H lp (.loop (busy r)))) l H := by
  refine regJ hl (z57_g78_e _ (gd l) _) h ?_; clear h hl; intro l H hl h
  exact ⟨h.1, z57_s74_i lp r R l _ hl h.2⟩
theorem z57_y (fn : FuncId) (d : Nat) (l : List Value) (hl : l.length = 73) (lp : Nat) (v51 : Value) (v52 : Value) (K : Heap) (R : Value → Heap → Prop) (hK : K.arr[lp]? = some (.loop (z57_L fn l d))) (h : z57_r lp (z57_L fn l d) R (l.getD 2 undef) v51 v52 K) : EvY P lp #[v51, v52] K R := by
  refine EvY_intro2 (t := ((l.set 51 v51).set 52 v52)) tab_ok mixed hK rfl rfl rfl (by simp [z57_L, mkL]) ⟨okCode_of _ (show okB z57_pi z57_c34 = true by kernel_rfl), okCode_of _ (show okB z57_pi z57_c35 = true by kernel_rfl)⟩ ?_
  have e2 : ((l.set 51 v51).set 52 v52).getD 2 undef = l.getD 2 undef := by simp [hl]
  have e51 : ((l.set 51 v51).set 52 v52).getD 51 undef = v51 := by simp [hl]
  have e52 : ((l.set 51 v51).set 52 v52).getD 52 undef = v52 := by simp [hl]
  exact z57_ri lp (z57_L fn l d) R ((l.set 51 v51).set 52 v52) K (by simp [hl]) (by rw [e2, e51, e52]; exact h)
noncomputable def z57_g79 (S : J4) (x1 x2 : Value) (H : Heap) : Prop :=
  bnd (faV 3 x1) fun v55 =>
  bnd (ldE true 3 v55 H) fun v56 =>
  S x1 x2 v56 (.int .i64 0) H
theorem z57_g79_e (S : J4) (x H) : WE z57_pi z57_c43 73 (fun l => S (gd l 1) (gd l 2) (gd l 56) (gd l 57)) x H = z57_g79 S (x 1) (x 2) H := by kernel_rfl
noncomputable def z57_g81 (S : J5) (x1 x2 x56 x57 : Value) (H : Heap) : Prop :=
  bnd (binV .int .lss x57 (.int .i64 3)) fun v58 =>
  S x1 x2 x56 x57 v58 H
theorem z57_g81_e (S : J5) (x H) : WE z57_pi z57_c47 73 (fun l => S (gd l 1) (gd l 2) (gd l 56) (gd l 57) (gd l 58)) x H = z57_g81 S (x 1) (x 2) (x 56) (x 57) H := by kernel_rfl
noncomputable def z57_g82 (S : J5) (x1 x2 x56 x57 : Value) (H : Heap) : Prop :=
  bnd (indexV false 1 3 x56 x57) fun v59 =>
  S x1 x2 v59 x56 x57 H
theorem z57_g82_e (S : J5) (x H) : WE z57_pi z57_c54 73 (fun l => S (gd l 1) (gd l 2) (gd l 7) (gd l 56) (gd l 57)) x H = z57_g82 S (x 1) (x 2) (x 56) (x 57) H := by kernel_rfl
noncomputable def z57_g83 (S : J5) (x1 x2 x7 x56 x57 : Value) (H : Heap) : Prop :=
  EvF P N.frame_isNumber #[x7] H fun v61 H1 =>
  bnd (unV .not v61) fun v62 =>
  brV v62
  (S x1 x2 x56 x57 (.bool true) H1)
  (bnd (binV .int .gtr x7 (.int .i64 0)) fun v65 =>
  brG v65
  (bnd (faV 2 x1) fun v67 =>
  bnd (ldE false 1 v67 H1) fun v68 =>
  bnd (unV .not v68) fun v69 =>
  S x1 x2 x56 x57 v69 H1)
  (S x1 x2 x56 x57 (.bool false) H1)
  (brG v65
  (bnd (ldE false 1 undef H1) fun v68_2 =>
  bnd (unV .not v68_2) fun v69_2 =>
  S x1 x2 x56 x57 v69_2 H1)
  (S x1 x2 x56 x57 (.bool false) H1)
  (brG v65
  (bnd (unV .not undef) fun v69_3 =>
  S x1 x2 x56 x57 v69_3 H1)
  (S x1 x2 x56 x57 (.bool false) H1)
  (pickE v65 undef (.bool false) H1 fun v70 H2 =>
  S x1 x2 x56 x57 v70 H2))))
theorem z57_g83_e (S : J5) (x H) : WE z57_pi z57_c56 73 (fun l => S (gd l 1) (gd l 2) (gd l 56) (gd l 57) (gd l 71)) x H = z57_g83 S (x 1) (x 2) (x 7) (x 56) (x 57) H := by kernel_rfl
noncomputable def z57_g84 (S : J1) (x2 : Value) (H : Heap) : Prop :=
  bnd (stE 1 x2 (.int .i64 2) H) fun H1 =>
  S x2 H1
theorem z57_g84_e (S : J1) (x H) : WE z57_pi z57_c59 73 (fun l => S (gd l 2)) x H = z57_g84 S (x 2) H := by kernel_rfl
noncomputable def z57_g85 (S : J4) (x1 x2 x56 x57 : Value) (H : Heap) : Prop :=
  bnd (binV .int .add x57 (.int .i64 1)) fun v72 =>
  S x1 x2 x56 v72 H
theorem z57_g85_e (S : J4) (x H) : WE z57_pi z57_c60 73 (fun l => S (gd l 1) (gd l 2) (gd l 56) (gd l 57)) x H = z57_g85 S (x 1) (x 2) (x 56) (x 57) H := by kernel_rfl
noncomputable def z57_g86 (S : J1) (x2 : Value) (H : Heap) : Prop :=
  bnd (stE 1 x2 (.int .i64 0) H) fun H1 =>
  S x2 H1
theorem z57_g86_e (S : J1) (x H) : WE z57_pi z57_c62 73 (fun l => S (gd l 2)) x H = z57_g86 S (x 2) H := by kernel_rfl
noncomputable def z57_s80 (x1 x2 x56 x57 : Value) (K2 : J4) (m : Nat) (R : J1) (H : Heap) : Prop :=
  z57_g81 (fun x1 x2 x56 x57 x58 H => brV x58
  (z57_g82 (fun x1 x2 x7 x56 x57 H => z57_g83 (fun x1 x2 x56 x57 x71 H => brV x71
  (z57_g84 (fun x2 H => (H.arr[m]? = some (.deferred (some [])) ∧ (fun H : Heap =>
  bnd (ldE false 1 x2 H) fun r0 =>
  R r0 H) (setO H m (.deferred none)))) x2 H)
  (z57_g85 (fun x1 x2 x56 x57 H => K2 x1 x2 x56 x57 H) x1 x2 x56 x57 H)) x1 x2 x7 x56 x57 H) x1 x2 x56 x57 H)
  (z57_g86 (fun x2 H => (H.arr[m]? = some (.deferred (some [])) ∧ (fun H : Heap =>
  bnd (ldE false 1 x2 H) fun r0 =>
  R r0 H) (setO H m (.deferred none)))) x2 H)) x1 x2 x56 x57 H
noncomputable def z57_q87 (m : Nat) (R : J1) : JQ := (retQM tab z57_rs R m)
noncomputable def z57_q88 (m : Nat) (R : J1) : JQ := (thenE (fun l H => wpE tab P z57_pi z57_c61 (z57_q87 m R) l H) (z57_q87 m R))
noncomputable def z57_q89 (m : Nat) (R : J1) : JQ := (blkE 4 (z57_q88 m R))
noncomputable def z57_q90 (K2 : J4) (m : Nat) (R : J1) : JQ := (thenE (fun l H => K2 (gd l 1) (gd l 2) (gd l 56) (gd l 57) H) (z57_q89 m R))
theorem z57_s80_i (K2 : J4) (m : Nat) (R : J1) (l : List Value) (H : Heap) (hl : l.length = 73) (h : z57_s80 (gd l 1) (gd l 2) (gd l 56) (gd l 57) K2 m R H) : wpE tab P z57_pi z57_c46 (z57_q90 K2 m R) l H := sr rfl hl (z57_g81_e _ (gd l) _) h fun l H hl h => sq rfl <| cd rfl h (fun h => kN rfl <| sq rfl <| bl rfl <| sr rfl hl (z57_g82_e _ (gd l) _) h fun l H hl h => sr rfl hl (z57_g83_e _ (gd l) _) h fun l H hl h => cd rfl h (fun h => sr rfl hl (z57_g84_e _ (gd l) _) h fun l H hl h => rt rfl h) fun h => sk rfl <| bN <| tN <| rj hl (z57_g85_e _ (gd l) _) h fun l H hl h => tN <| h) fun h => ex rfl <| tX <| tX <| bX <| tN <| sr rfl hl (z57_g86_e _ (gd l) _) h fun l H hl h => rt rfl h
noncomputable def z57_l91 (x1 x2 x56 x57 : Value) (m : Nat) (R : J1) (H : Heap) : Prop :=
  ∃ (I : J1) (μ : M1), I x57 H ∧ ∀ (y57 : Value) (H : Heap), I y57 H → z57_s80 x1 x2 x56 y57 (fun z1 z2 z56 z57 H' => z1 = x1 ∧ z2 = x2 ∧ z56 = x56 ∧ (I z57 H' ∧ μ z57 H' < μ y57 H)) m R H
noncomputable def z57_s67 (x1 x2 x25 x26 x27 : Value) (K1 : J5) (R : J1) (H : Heap) : Prop :=
  z57_g68 (fun x1 x2 x25 x26 x27 x28 H => brV x28
  (z57_g69 (fun x1 x2 x4 x25 x26 x27 H => z57_g70 (fun x1 x2 x25 x26 x27 x47 H => brV x47
  (z57_g71 (fun x2 H => bnd (ldE false 1 x2 H) fun r0 =>
  R r0 H) x2 H)
  (z57_g72 (fun x1 x2 x25 x26 x27 H => K1 x1 x2 x25 x26 x27 H) x1 x2 x25 x26 x27 H)) x1 x2 x4 x25 x26 x27 H) x1 x2 x25 x26 x27 H)
  (z57_g73 (fun x1 x2 x50 H => (∀ (fn : FuncId) (l : List Value), l.length = 73 → l.getD 2 undef = x2 → callL P x50 [.func (.yield (H.size + 1)) #[] #[]] (pushO (pushO H (.deferred (some []))) (.loop (z57_L fn l H.size))) fun _ H2 =>
  (H2.arr[H.size + 1]? = some (.loop (z57_L fn l H.size)) ∧
  (fun (m : Nat) (H : Heap) =>
  z57_g79 (fun x1 x2 x56 x57 H => z57_l91 x1 x2 x56 x57 m R H) x1 x2 H) H.size (setO H2 (H.size + 1) (.loop (done (z57_L fn l H.size))))) ∨
  (H2.arr[H.size + 1]? = some (.loop (gone (z57_L fn l H.size))) ∧
  (fun (m : Nat) (H : Heap) =>
  (H.arr[m]? = some (.deferred (some [])) ∧ (fun H : Heap =>
  bnd (ldE false 1 x2 H) fun r0 =>
  R r0 H) (setO H m (.deferred none)))) H.size (setO H2 (H.size + 1) (.loop (goneX (z57_L fn l H.size))))))) x1 x2 H)) x1 x2 x25 x26 x27 H
noncomputable def z57_q92 (R : J1) : JQ := (retQ tab z57_rs R)
noncomputable def z57_q93 (R : J1) : JQ := (thenE (fun l H => wpR tab P z57_pi z57_c29 (z57_q92 R) (fun m => (z57_q87 m R)) l H) (z57_q92 R))
noncomputable def z57_q94 (R : J1) : JQ := (blkE 0 (z57_q93 R))
noncomputable def z57_q95 (K1 : J5) (R : J1) : JQ := (thenE (fun l H => K1 (gd l 1) (gd l 2) (gd l 25) (gd l 26) (gd l 27) H) (z57_q94 R))
theorem z57_s67_i (K1 : J5) (R : J1) (l : List Value) (H : Heap) (hl : l.length = 73) (h : z57_s67 (gd l 1) (gd l 2) (gd l 25) (gd l 26) (gd l 27) K1 R H) : wpE tab P z57_pi z57_c14 (z57_q95 K1 R) l H := sr rfl hl (z57_g68_e _ (gd l) _) h fun l H hl h => sq rfl <| cd rfl h (fun h => kN rfl <| sq rfl <| bl rfl <| sr rfl hl (z57_g69_e _ (gd l) _) h fun l H hl h => sr rfl hl (z57_g70_e _ (gd l) _) h fun l H hl h => cd rfl h (fun h => sr rfl hl (z57_g71_e _ (gd l) _) h fun l H hl h => rt rfl h) fun h => sk rfl <| bN <| tN <| rj hl (z57_g72_e _ (gd l) _) h fun l H hl h => tN <| h) fun h => ex rfl <| tX <| tX <| bX <| tN <| sqR rfl <| sqR rfl <| wpR_of _ hl <| rj hl (z57_g73_e _ (gd l) _) h fun l H hl h => tN <| blR rfl <| (by
    refine rangeR2 (c := z57_c33) rfl ?_
    intro fn
    have h := h fn l hl rfl
    refine callL_mono (fun _ H2 h => ?_) h
    rcases h with h | h
    · refine .inl ⟨h.1, ?_⟩
      have h := h.2
      generalize H.size = m at h ⊢
      exact bN <| tN <| sq rfl <| sr rfl hl (z57_g79_e _ (gd l) _) h fun l H hl h => bl rfl <| (by
      obtain ⟨I, μ, h0, hr⟩ := h
      refine loopI (c := z57_c45) rfl (fun l' H' => gd l' 1 = gd l 1 ∧ gd l' 2 = gd l 2 ∧ gd l' 56 = gd l 56 ∧ I (gd l' 57) H') (fun l' H' => μ (gd l' 57) H') hl ⟨rfl, rfl, rfl, h0⟩ ?_
      rintro l1 H1 hl1 ⟨e1, e2, e56, hI⟩
      have hb := hr (gd l1 57) H1 hI
      rw [← e1, ← e2, ← e56] at hb
      refine wpE_mono _ l1 H1 hl1 ?_ (z57_s80_i _ m R l1 H1 hl1 hb)
      intro e l2 H2 hl2 hq
      cases e with
      | normal => exact fun _ => (by obtain ⟨d1, d2, d56, g1, g2⟩ := hq; exact ⟨⟨d1.trans e1, d2.trans e2, d56.trans e56, g1⟩, g2⟩)
      | _ => exact hq)
    · refine .inr ⟨h.1, ?_⟩
      have h := h.2
      generalize H.size = m at h ⊢
      refine blkR ?_
      refine thenR ?_
      exact h)
noncomputable def z57_l96 (x1 x2 x25 x26 x27 : Value) (R : J1) (H : Heap) : Prop :=
  ∃ (I : J1) (μ : M1), I x27 H ∧ ∀ (y27 : Value) (H : Heap), I y27 H → z57_s67 x1 x2 x25 x26 y27 (fun z1 z2 z25 z26 z27 H' => z1 = x1 ∧ z2 = x2 ∧ z25 = x25 ∧ z26 = x26 ∧ (I z27 H' ∧ μ z27 H' < μ y27 H)) R H
def frame_Check (x0 : Value) (R : Value → Heap → Prop) (H : Heap) : Prop :=
  z57_g63 (fun x1 x2 H => z57_g64 (fun x1 x2 x23 H => brV x23
  (z57_g65 (fun x2 H => bnd (ldE false 1 x2 H) fun r0 =>
  R r0 H) x2 H)
  (z57_g66 (fun x1 x2 x25 x26 x27 H => z57_l96 x1 x2 x25 x26 x27 R H) x1 x2 H)) x1 x2 H) x0 H
theorem z57_ev (x0 : Value) (R : J1) (H : Heap) (h : frame_Check x0 R H) : EvF P N.frame_Check #[x0] H R := .inl (EvR_intro (args := [x0]) (k := 72) (rs := z57_rs) tab_ok mixed Tryz.func57 (show Tryz.f57.body = some z57_c1 by kernel_rfl) Tryz.call57 Tryz.ntmps57 (by kernel_rfl) (okCodeR_of _ (show okBR z57_pi z57_c1 = true by kernel_rfl)) (fr_eq _ _) (fjR (n := 73) rfl (fun l hl (h : frame_Check (gd l 0) R H) => sqR rfl <| wpR_of _ hl <| rj hl (z57_g63_e _ (gd l) _) h fun l H hl h => tN <| sqR rfl <| wpR_of _ hl <| sr rfl hl (z57_g64_e _ (gd l) _) h fun l H hl h => cd rfl h (fun h => sr rfl hl (z57_g65_e _ (gd l) _) h fun l H hl h => rt rfl h) fun h => kN rfl <| sqR rfl <| wpR_of _ hl <| sr rfl hl (z57_g66_e _ (gd l) _) h fun l H hl h => bl rfl <| (by
    obtain ⟨I, μ, h0, hr⟩ := h
    refine loopI (c := z57_c13) rfl (fun l' H' => gd l' 1 = gd l 1 ∧ gd l' 2 = gd l 2 ∧ gd l' 25 = gd l 25 ∧ gd l' 26 = gd l 26 ∧ I (gd l' 27) H') (fun l' H' => μ (gd l' 27) H') hl ⟨rfl, rfl, rfl, rfl, h0⟩ ?_
    rintro l1 H1 hl1 ⟨e1, e2, e25, e26, hI⟩
    have hb := hr (gd l1 27) H1 hI
    rw [← e1, ← e2, ← e25, ← e26] at hb
    refine wpE_mono _ l1 H1 hl1 ?_ (z57_s67_i _ R l1 H1 hl1 hb)
    intro e l2 H2 hl2 hq
    cases e with
    | normal => exact fun _ => (by obtain ⟨d1, d2, d25, d26, g1, g2⟩ := hq; exact ⟨⟨d1.trans e1, d2.trans e2, d25.trans e25, d26.trans e26, g1⟩, g2⟩)
    | _ => exact hq)) h))
/- 58: (*sounder/space.Space).sentAll -/
def z58_rs : List ResultVar := [.tmp 4]
noncomputable def z58_c2 := sc Tryz.f58 [0]
noncomputable def z58_c4 := sc Tryz.f58 [1,0]
noncomputable def z58_c3 : Code := .seq z58_c4 Code.ret
noncomputable def z58_c1 : Code := .seq z58_c2 z58_c3
def z58_pi (_ : Nat) : Pl := .nil
noncomputable def z58_g5 (S : J2) (x0 x1 : Value) (H : Heap) : Prop :=
  newE 93 (Value.cells x1) H fun v3 H1 =>
  S x0 v3 H1
theorem z58_g5_e (S : J2) (x H) : WE z58_pi z58_c2 12 (fun l => S (gd l 0) (gd l 3)) x H = z58_g5 S (x 0) (x 1) H := by kernel_rfl
noncomputable def z58_g6 (S : J1) (x0 x3 : Value) (H : Heap) : Prop :=
  bnd (nilV x0) fun v6 =>
  bnd (faV 1 v6) fun v7 =>
  bnd (ldE false 1 v7 H) fun v8 =>
  EvF P N.span_Set_Ranges #[v8] H fun v9 H1 =>
  EvF P N.slices_ContainsFunc_Range #[v9, (.func (.func N.space_Space_sentAll_1) #[] #[x3])] H1 fun v11 H2 =>
  S v11 H2
theorem z58_g6_e (S : J1) (x H) : WE z58_pi z58_c4 12 (fun l => S (gd l 4)) x H = z58_g6 S (x 0) (x 3) H := by kernel_rfl
def space_Space_sentAll (x0 x1 : Value) (R : Value → Heap → Prop) (H : Heap) : Prop :=
  z58_g5 (fun x0 x3 H => z58_g6 (fun x4 H => R x4 H) x0 x3 H) x0 x1 H
theorem z58_ev (x0 x1 : Value) (R : J1) (H : Heap) (h : space_Space_sentAll x0 x1 R H) : EvF P N.space_Space_sentAll #[x0, x1] H R := .inl (EvF_intro (args := [x0, x1]) (k := 10) (rs := z58_rs) tab_ok mixed Tryz.func58 (show Tryz.f58.body = some z58_c1 by kernel_rfl) Tryz.call58 Tryz.ntmps58 (by kernel_rfl) (okCode_of _ (show okB z58_pi z58_c1 = true by kernel_rfl)) (fr_eq _ _) (fj (n := 12) rfl (fun l hl (h : space_Space_sentAll (gd l 0) (gd l 1) R H) => sr rfl hl (z58_g5_e _ (gd l) _) h fun l H hl h => sr rfl hl (z58_g6_e _ (gd l) _) h fun l H hl h => rt rfl h) h))
/- 59: (*sounder/space.Space).remember -/
def z59_rs : List ResultVar := []
noncomputable def z59_c2 := sc Tryz.f59 [0]
noncomputable def z59_c5 := sc Tryz.f59 [1,0,0]
noncomputable def z59_c7 := sc Tryz.f59 [1,0,1,0]
noncomputable def z59_c9 := sc Tryz.f59 [1,0,1,1,0]
noncomputable def z59_c10 := sc Tryz.f59 [1,0,1,1,1]
noncomputable def z59_c8 : Code := .cond (.tmp 16) z59_c9 z59_c10
noncomputable def z59_c6 : Code := .seq z59_c7 z59_c8
noncomputable def z59_c4 : Code := .seq z59_c5 z59_c6
noncomputable def z59_c13 := sc Tryz.f59 [1,1,0,0]
noncomputable def z59_c17 := sc Tryz.f59 [1,1,0,1,0,0,0]
noncomputable def z59_c20 : Code := .exit 0
noncomputable def z59_c19 : Code := .cond (.tmp 35) Code.skip z59_c20
noncomputable def z59_c24 := sc Tryz.f59 [1,1,0,1,0,0,1,1,0,0,0]
noncomputable def z59_c25 := sc Tryz.f59 [1,1,0,1,0,0,1,1,0,0,1]
noncomputable def z59_c23 : Code := .seq z59_c24 z59_c25
noncomputable def z59_c22 : Code := .block 1 z59_c23
noncomputable def z59_c26 := sc Tryz.f59 [1,1,0,1,0,0,1,1,1]
noncomputable def z59_c21 : Code := .seq z59_c22 z59_c26
noncomputable def z59_c18 : Code := .seq z59_c19 z59_c21
noncomputable def z59_c16 : Code := .seq z59_c17 z59_c18
noncomputable def z59_c15 : Code := .loop z59_c16
noncomputable def z59_c14 : Code := .block 0 z59_c15
noncomputable def z59_c12 : Code := .seq z59_c13 z59_c14
noncomputable def z59_c27 := sc Tryz.f59 [1,1,1]
noncomputable def z59_c11 : Code := .seq z59_c12 z59_c27
noncomputable def z59_c3 : Code := .seq z59_c4 z59_c11
noncomputable def z59_c1 : Code := .seq z59_c2 z59_c3
def z59_pi (i : Nat) : Pl := match i with
  | 3 => (ones [0, 1, 2, 3, 4, 5, 6] .nil)
  | 8 => (ones [0, 1, 2, 3, 4, 5, 6, 7, 8] .nil)
  | 10 => (ones [0, 1, 2, 3, 4, 5, 6, 7, 8, 9, 10, 11, 12, 13] .nil)
  | _ => .nil
noncomputable def z59_g28 (S : J2) (x0 x1 : Value) (H : Heap) : Prop :=
  newE 52 (Value.cells x1) H fun v3 H1 =>
  S x0 v3 H1
theorem z59_g28_e (S : J2) (x H) : WE z59_pi z59_c2 61 (fun l => S (gd l 0) (gd l 3)) x H = z59_g28 S (x 0) (x 1) H := by kernel_rfl
noncomputable def z59_g30 (S : J5) (x0 x3 : Value) (H : Heap) : Prop :=
  bnd (faV 1 x3) fun v31 =>
  bnd (ldE false 1 v31 H) fun v32 =>
  bnd (lenV v32) fun v33 =>
  S x0 x3 v32 v33 (.int .i64 0) H
theorem z59_g30_e (S : J5) (x H) : WE z59_pi z59_c13 61 (fun l => S (gd l 0) (gd l 3) (gd l 32) (gd l 33) (gd l 34)) x H = z59_g30 S (x 0) (x 3) H := by kernel_rfl
noncomputable def z59_g32 (S : J6) (x0 x3 x32 x33 x34 : Value) (H : Heap) : Prop :=
  bnd (binV .int .lss x34 x33) fun v35 =>
  S x0 x3 x32 x33 x34 v35 H
theorem z59_g32_e (S : J6) (x H) : WE z59_pi z59_c17 61 (fun l => S (gd l 0) (gd l 3) (gd l 32) (gd l 33) (gd l 34) (gd l 35)) x H = z59_g32 S (x 0) (x 3) (x 32) (x 33) (x 34) H := by kernel_rfl
noncomputable def z59_g33 (S : J6) (x0 x3 x32 x33 x34 : Value) (H : Heap) : Prop :=
  bnd (ixSV 2 x32 x34) fun v36 =>
  bnd (ldE true 2 v36 H) fun v37 =>
  newE 93 #[(.int .i64 0), (.int .i64 0)] H fun v7 H1 =>
  bnd (stE 2 v7 v37 H1) fun H2 =>
  S x0 x3 v7 x32 x33 x34 H2
theorem z59_g33_e (S : J6) (x H) : WE z59_pi z59_c24 61 (fun l => S (gd l 0) (gd l 3) (gd l 7) (gd l 32) (gd l 33) (gd l 34)) x H = z59_g33 S (x 0) (x 3) (x 32) (x 33) (x 34) H := by kernel_rfl
noncomputable def z59_g34 (S : J5) (x0 x3 x7 x32 x33 x34 : Value) (H : Heap) : Prop :=
  bnd (nilV x0) fun v39 =>
  bnd (faV 2 v39) fun v40 =>
  bnd (ldE false 1 v40 H) fun v41 =>
  bnd (faV 0 x7) fun v42 =>
  bnd (ldE false 1 v42 H) fun v43 =>
  bnd (faV 1 x7) fun v44 =>
  bnd (ldE false 1 v44 H) fun v45 =>
  EvF P N.span_Set_Add #[v41, v43, v45] H fun _ H1 =>
  S x0 x3 x32 x33 x34 H1
theorem z59_g34_e (S : J5) (x H) : WE z59_pi z59_c25 61 (fun l => S (gd l 0) (gd l 3) (gd l 32) (gd l 33) (gd l 34)) x H = z59_g34 S (x 0) (x 3) (x 7) (x 32) (x 33) (x 34) H := by kernel_rfl
noncomputable def z59_g35 (S : J5) (x0 x3 x32 x33 x34 : Value) (H : Heap) : Prop :=
  bnd (binV .int .add x34 (.int .i64 1)) fun v47 =>
  S x0 x3 x32 x33 v47 H
theorem z59_g35_e (S : J5) (x H) : WE z59_pi z59_c26 61 (fun l => S (gd l 0) (gd l 3) (gd l 32) (gd l 33) (gd l 34)) x H = z59_g35 S (x 0) (x 3) (x 32) (x 33) (x 34) H := by kernel_rfl
noncomputable def z59_g36 (S : J0) (x0 x3 : Value) (H : Heap) : Prop :=
  bnd (nilV x0) fun v50 =>
  bnd (faV 3 v50) fun v51 =>
  bnd (ldE false 1 v51 H) fun v52 =>
  bnd (faV 1 x3) fun v53 =>
  bnd (ldE false 1 v53 H) fun v54 =>
  bnd (ixSV 2 v54 (.int .i64 0)) fun v55 =>
  bnd (faV 1 v55) fun v56 =>
  bnd (ldE false 1 v56 H) fun v57 =>
  bnd (foldV max2V v52 [v57]) fun v58 =>
  bnd (nilV x0) fun v59 =>
  bnd (faV 3 v59) fun v60 =>
  bnd (stE 1 v60 v58 H) fun H1 =>
  S H1
theorem z59_g36_e (S : J0) (x H) : WE z59_pi z59_c27 61 (fun _ => S ) x H = z59_g36 S (x 0) (x 3) H := by kernel_rfl
noncomputable def z59_s31 (x0 x3 x32 x33 x34 : Value) (K1 : J5) (R : J1) (H : Heap) : Prop :=
  z59_g32 (fun x0 x3 x32 x33 x34 x35 H => brV x35
  (z59_g33 (fun x0 x3 x7 x32 x33 x34 H => z59_g34 (fun x0 x3 x32 x33 x34 H => z59_g35 (fun x0 x3 x32 x33 x34 H => K1 x0 x3 x32 x33 x34 H) x0 x3 x32 x33 x34 H) x0 x3 x7 x32 x33 x34 H) x0 x3 x32 x33 x34 H)
  (z59_g36 (fun H => R (.tuple #[]) H) x0 x3 H)) x0 x3 x32 x33 x34 H
noncomputable def z59_q37 (R : J1) : JQ := (retQ tab z59_rs R)
noncomputable def z59_q38 (R : J1) : JQ := (thenE (fun l H => wpE tab P z59_pi z59_c27 (z59_q37 R) l H) (z59_q37 R))
noncomputable def z59_q39 (R : J1) : JQ := (blkE 0 (z59_q38 R))
noncomputable def z59_q40 (K1 : J5) (R : J1) : JQ := (thenE (fun l H => K1 (gd l 0) (gd l 3) (gd l 32) (gd l 33) (gd l 34) H) (z59_q39 R))
theorem z59_s31_i (K1 : J5) (R : J1) (l : List Value) (H : Heap) (hl : l.length = 61) (h : z59_s31 (gd l 0) (gd l 3) (gd l 32) (gd l 33) (gd l 34) K1 R H) : wpE tab P z59_pi z59_c16 (z59_q40 K1 R) l H := sr rfl hl (z59_g32_e _ (gd l) _) h fun l H hl h => sq rfl <| cd rfl h (fun h => kN rfl <| sq rfl <| bl rfl <| sr rfl hl (z59_g33_e _ (gd l) _) h fun l H hl h => rj hl (z59_g34_e _ (gd l) _) h fun l H hl h => bN <| tN <| rj hl (z59_g35_e _ (gd l) _) h fun l H hl h => tN <| h) fun h => ex rfl <| tX <| tX <| bX <| tN <| rj hl (z59_g36_e _ (gd l) _) h fun l H hl h => h
noncomputable def z59_l41 (x0 x3 x32 x33 x34 : Value) (R : J1) (H : Heap) : Prop :=
  ∃ (I : J1) (μ : M1), I x34 H ∧ ∀ (y34 : Value) (H : Heap), I y34 H → z59_s31 x0 x3 x32 x33 y34 (fun z0 z3 z32 z33 z34 H' => z0 = x0 ∧ z3 = x3 ∧ z32 = x32 ∧ z33 = x33 ∧ (I z34 H' ∧ μ z34 H' < μ y34 H)) R H
noncomputable def z59_s29 (x0 x3 : Value) (R : J1) (H : Heap) : Prop :=
  z59_g30 (fun x0 x3 x32 x33 x34 H => z59_l41 x0 x3 x32 x33 x34 R H) x0 x3 H
theorem z59_s29_i (R : J1) (l : List Value) (H : Heap) (hl : l.length = 61) (h : z59_s29 (gd l 0) (gd l 3) R H) : wpE tab P z59_pi z59_c11 (z59_q37 R) l H := sq rfl <| sr rfl hl (z59_g30_e _ (gd l) _) h fun l H hl h => bl rfl <| (by
    obtain ⟨I, μ, h0, hr⟩ := h
    refine loopI (c := z59_c15) rfl (fun l' H' => gd l' 0 = gd l 0 ∧ gd l' 3 = gd l 3 ∧ gd l' 32 = gd l 32 ∧ gd l' 33 = gd l 33 ∧ I (gd l' 34) H') (fun l' H' => μ (gd l' 34) H') hl ⟨rfl, rfl, rfl, rfl, h0⟩ ?_
    rintro l1 H1 hl1 ⟨e0, e3, e32, e33, hI⟩
    have hb := hr (gd l1 34) H1 hI
    rw [← e0, ← e3, ← e32, ← e33] at hb
    refine wpE_mono _ l1 H1 hl1 ?_ (z59_s31_i _ R l1 H1 hl1 hb)
    intro e l2 H2 hl2 hq
    cases e with
    | normal => exact fun _ => (by obtain ⟨d0, d3, d32, d33, g1, g2⟩ := hq; exact ⟨⟨d0.trans e0, d3.trans e3, d32.trans e32, d33.trans e33, g1⟩, g2⟩)
    | _ => exact hq)
noncomputable def z59_g42 (S : J4) (x0 x3 : Value) (H : Heap) : Prop :=
  bnd (nilV x0) fun v10 =>
  bnd (faV 0 v10) fun v11 =>
  bnd (ldE false 1 v11 H) fun v12 =>
  EvF P N.sent_Log_Oldest #[v12] H fun v13 H1 =>
  bnd (exV 0 v13) fun v14 =>
  bnd (exV 1 v13) fun v15 =>
  newE 40 #[(.int .i64 0), (.int .i64 0), (.int .i64 0), (.bool false), (.bool false), (.bool false)] H1 fun v4 H2 =>
  bnd (stE 6 v4 v14 H2) fun H3 =>
  S x0 x3 v4 v15 H3
theorem z59_g42_e (S : J4) (x H) : WE z59_pi z59_c5 61 (fun l => S (gd l 0) (gd l 3) (gd l 4) (gd l 5)) x H = z59_g42 S (x 0) (x 3) H := by kernel_rfl
noncomputable def z59_g43 (S : J4) (x0 x3 x4 x5 : Value) (H : Heap) : Prop :=
  S x0 x3 x4 x5 H
theorem z59_g43_e (S : J4) (x H) : WE z59_pi z59_c7 61 (fun l => S (gd l 0) (gd l 3) (gd l 4) (gd l 16)) x H = z59_g43 S (x 0) (x 3) (x 4) (x 5) H := by kernel_rfl
noncomputable def z59_g44 (S : J2) (x0 x3 x4 : Value) (H : Heap) : Prop :=
  bnd (nilV x0) fun v18 =>
  bnd (faV 2 v18) fun v19 =>
  bnd (ldE false 1 v19 H) fun v20 =>
  bnd (faV 0 x4) fun v21 =>
  bnd (ldE false 1 v21 H) fun v22 =>
  EvF P N.span_Set_Cut #[v20, v22] H fun _ H1 =>
  S x0 x3 H1
theorem z59_g44_e (S : J2) (x H) : WE z59_pi z59_c9 61 (fun l => S (gd l 0) (gd l 3)) x H = z59_g44 S (x 0) (x 3) (x 4) H := by kernel_rfl
noncomputable def z59_g45 (S : J2) (x0 x3 : Value) (H : Heap) : Prop :=
  EvF P N.span_New #[(.int .i64 256)] H fun v26 H1 =>
  bnd (exV 0 v26) fun v27 =>
  bnd (exV 1 v26) fun _ =>
  bnd (nilV x0) fun v29 =>
  bnd (faV 2 v29) fun v30 =>
  bnd (stE 1 v30 v27 H1) fun H2 =>
  S x0 x3 H2
theorem z59_g45_e (S : J2) (x H) : WE z59_pi z59_c10 61 (fun l => S (gd l 0) (gd l 3)) x H = z59_g45 S (x 0) (x 3) H := by kernel_rfl
def space_Space_remember (x0 x1 : Value) (R : Value → Heap → Prop) (H : Heap) : Prop :=
  z59_g28 (fun x0 x3 H => z59_g42 (fun x0 x3 x4 x5 H => z59_g43 (fun x0 x3 x4 x16 H => brV x16
  (z59_g44 (fun x0 x3 H => z59_s29 x0 x3 R H) x0 x3 x4 H)
  (z59_g45 (fun x0 x3 H => z59_s29 x0 x3 R H) x0 x3 H)) x0 x3 x4 x5 H) x0 x3 H) x0 x1 H
theorem z59_ev (x0 x1 : Value) (R : J1) (H : Heap) (h : space_Space_remember x0 x1 R H) : EvF P N.space_Space_remember #[x0, x1] H R := .inl (EvF_intro (args := [x0, x1]) (k := 59) (rs := z59_rs) tab_ok mixed Tryz.func59 (show Tryz.f59.body = some z59_c1 by kernel_rfl) Tryz.call59 Tryz.ntmps59 (by kernel_rfl) (okCode_of _ (show okB z59_pi z59_c1 = true by kernel_rfl)) (fr_eq _ _) (fj (n := 61) rfl (fun l hl (h : space_Space_remember (gd l 0) (gd l 1) R H) => sr rfl hl (z59_g28_e _ (gd l) _) h fun l H hl h => sq rfl <| sr rfl hl (z59_g42_e _ (gd l) _) h fun l H hl h => sr rfl hl (z59_g43_e _ (gd l) _) h fun l H hl h => cd rfl h (fun h => rj hl (z59_g44_e _ (gd l) _) h fun l H hl h => tN <| z59_s29_i R l H hl h) fun h => rj hl (z59_g45_e _ (gd l) _) h fun l H hl h => tN <| z59_s29_i R l H hl h) h))
/- 60: (*sounder/space.Space).Ack$1 -/
def z60_rs : List ResultVar := [.tmp 3]
noncomputable def z60_c2 := sc Tryz.f60 [0]
noncomputable def z60_c4 := sc Tryz.f60 [1,0]
noncomputable def z60_c3 : Code := .seq z60_c4 Code.ret
noncomputable def z60_c1 : Code := .seq z60_c2 z60_c3
def z60_pi (_ : Nat) : Pl := .nil
noncomputable def z60_g5 (S : J2) (x0 x1 : Value) (H : Heap) : Prop :=
  newE 40 (Value.cells x0) H fun v2 H1 =>
  S x1 v2 H1
theorem z60_g5_e (S : J2) (x H) : WE z60_pi z60_c2 8 (fun l => S (gd l 1) (gd l 2)) x H = z60_g5 S (x 0) (x 1) H := by kernel_rfl
noncomputable def z60_g6 (S : J1) (x1 x2 : Value) (H : Heap) : Prop :=
  bnd (ldE true 6 x1 H) fun v4 =>
  bnd (faV 0 x2) fun v5 =>
  bnd (ldE false 1 v5 H) fun v6 =>
  EvF P N.frame_Has #[v4, v6] H fun v7 H1 =>
  S v7 H1
theorem z60_g6_e (S : J1) (x H) : WE z60_pi z60_c4 8 (fun l => S (gd l 3)) x H = z60_g6 S (x 1) (x 2) H := by kernel_rfl
def space_Space_Ack_1 (x0 x1 : Value) (R : Value → Heap → Prop) (H : Heap) : Prop :=
  z60_g5 (fun x1 x2 H => z60_g6 (fun x3 H => R x3 H) x1 x2 H) x0 x1 H
theorem z60_ev (x0 x1 : Value) (R : J1) (H : Heap) (h : space_Space_Ack_1 x0 x1 R H) : EvF P N.space_Space_Ack_1 #[x0, x1] H R := .inl (EvF_intro (args := [x0, x1]) (k := 6) (rs := z60_rs) tab_ok mixed Tryz.func60 (show Tryz.f60.body = some z60_c1 by kernel_rfl) Tryz.call60 Tryz.ntmps60 (by kernel_rfl) (okCode_of _ (show okB z60_pi z60_c1 = true by kernel_rfl)) (fr_eq _ _) (fj (n := 8) rfl (fun l hl (h : space_Space_Ack_1 (gd l 0) (gd l 1) R H) => sr rfl hl (z60_g5_e _ (gd l) _) h fun l H hl h => sr rfl hl (z60_g6_e _ (gd l) _) h fun l H hl h => rt rfl h) h))
/- 61: sounder/frame.Has -/
def z61_rs : List ResultVar := [.tmp 4]
noncomputable def z61_c2 := sc Tryz.f61 [0]
noncomputable def z61_c4 := sc Tryz.f61 [1,0]
noncomputable def z61_c3 : Code := .seq z61_c4 Code.ret
noncomputable def z61_c1 : Code := .seq z61_c2 z61_c3
def z61_pi (_ : Nat) : Pl := .nil
noncomputable def z61_g5 (S : J2) (x0 x1 : Value) (H : Heap) : Prop :=
  newE 52 (Value.cells x0) H fun v2 H1 =>
  newE 3 (Value.cells x1) H1 fun v3 H2 =>
  S v2 v3 H2
theorem z61_g5_e (S : J2) (x H) : WE z61_pi z61_c2 14 (fun l => S (gd l 2) (gd l 3)) x H = z61_g5 S (x 0) (x 1) H := by kernel_rfl
noncomputable def z61_g6 (S : J1) (x2 x3 : Value) (H : Heap) : Prop :=
  bnd (ldE true 6 x2 H) fun v5 =>
  EvF P N.frame_Check #[v5] H fun v6 H1 =>
  bnd (binV .int .eql v6 (.int .i64 0)) fun v7 =>
  brV v7
  (bnd (faV 1 x2) fun v9 =>
  bnd (ldE false 1 v9 H1) fun v10 =>
  EvF P N.slices_ContainsFunc_Range #[v10, (.func (.func N.frame_Has_1) #[] #[x3])] H1 fun v12 H2 =>
  S v12 H2)
  (S (.bool false) H1)
theorem z61_g6_e (S : J1) (x H) : WE z61_pi z61_c4 14 (fun l => S (gd l 4)) x H = z61_g6 S (x 2) (x 3) H := by kernel_rfl
def frame_Has (x0 x1 : Value) (R : Value → Heap → Prop) (H : Heap) : Prop :=
  z61_g5 (fun x2 x3 H => z61_g6 (fun x4 H => R x4 H) x2 x3 H) x0 x1 H
theorem z61_ev (x0 x1 : Value) (R : J1) (H : Heap) (h : frame_Has x0 x1 R H) : EvF P N.frame_Has #[x0, x1] H R := .inl (EvF_intro (args := [x0, x1]) (k := 12) (rs := z61_rs) tab_ok mixed Tryz.func61 (show Tryz.f61.body = some z61_c1 by kernel_rfl) Tryz.call61 Tryz.ntmps61 (by kernel_rfl) (okCode_of _ (show okB z61_pi z61_c1 = true by kernel_rfl)) (fr_eq _ _) (fj (n := 14) rfl (fun l hl (h : frame_Has (gd l 0) (gd l 1) R H) => sr rfl hl (z61_g5_e _ (gd l) _) h fun l H hl h => sr rfl hl (z61_g6_e _ (gd l) _) h fun l H hl h => rt rfl h) h))
/- 62: (*sounder/sent.Log).Put -/
def z62_rs : List ResultVar := [.tmp 4]
noncomputable def z62_c2 := sc Tryz.f62 [0]
noncomputable def z62_c6 := sc Tryz.f62 [1,0,0,0]
noncomputable def z62_c9 := sc Tryz.f62 [1,0,0,1,0,0]
noncomputable def z62_c8 : Code := .seq z62_c9 Code.ret
noncomputable def z62_c11 := sc Tryz.f62 [1,0,0,1,1,0]
noncomputable def z62_c14 := sc Tryz.f62 [1,0,0,1,1,1,0,0]
noncomputable def z62_c13 : Code := .seq z62_c14 Code.ret
noncomputable def z62_c16 := sc Tryz.f62 [1,0,0,1,1,1,1,0]
noncomputable def z62_c19 := sc Tryz.f62 [1,0,0,1,1,1,1,1,0,0]
noncomputable def z62_c18 : Code := .seq z62_c19 Code.ret
noncomputable def z62_c21 := sc Tryz.f62 [1,0,0,1,1,1,1,1,1,0]
noncomputable def z62_c24 := sc Tryz.f62 [1,0,0,1,1,1,1,1,1,1,0,0]
noncomputable def z62_c23 : Code := .seq z62_c24 Code.ret
noncomputable def z62_c22 : Code := .cond (.tmp 20) z62_c23 Code.skip
noncomputable def z62_c20 : Code := .seq z62_c21 z62_c22
noncomputable def z62_c17 : Code := .cond (.tmp 12) z62_c18 z62_c20
noncomputable def z62_c15 : Code := .seq z62_c16 z62_c17
noncomputable def z62_c12 : Code := .cond (.tmp 8) z62_c13 z62_c15
noncomputable def z62_c10 : Code := .seq z62_c11 z62_c12
noncomputable def z62_c7 : Code := .cond (.tmp 5) z62_c8 z62_c10
noncomputable def z62_c5 : Code := .seq z62_c6 z62_c7
noncomputable def z62_c4 : Code := .block 0 z62_c5
noncomputable def z62_c27 := sc Tryz.f62 [1,1,0,0]
noncomputable def z62_c29 := sc Tryz.f62 [1,1,0,1,0]
noncomputable def z62_c28 : Code := .cond (.tmp 39) z62_c29 Code.skip
noncomputable def z62_c26 : Code := .seq z62_c27 z62_c28
noncomputable def z62_c31 := sc Tryz.f62 [1,1,1,0]
noncomputable def z62_c33 := sc Tryz.f62 [1,1,1,1,0]
noncomputable def z62_c35 := sc Tryz.f62 [1,1,1,1,1,0]
noncomputable def z62_c37 := sc Tryz.f62 [1,1,1,1,1,1,0]
noncomputable def z62_c39 := sc Tryz.f62 [1,1,1,1,1,1,1,0]
noncomputable def z62_c38 : Code := .seq z62_c39 Code.ret
noncomputable def z62_c36 : Code := .seq z62_c37 z62_c38
noncomputable def z62_c34 : Code := .seq z62_c35 z62_c36
noncomputable def z62_c32 : Code := .seq z62_c33 z62_c34
noncomputable def z62_c30 : Code := .seq z62_c31 z62_c32
noncomputable def z62_c25 : Code := .seq z62_c26 z62_c30
noncomputable def z62_c3 : Code := .seq z62_c4 z62_c25
noncomputable def z62_c1 : Code := .seq z62_c2 z62_c3
def z62_pi (i : Nat) : Pl := match i with
  | 5 => (ones [0, 1, 2, 3, 4, 5, 6, 7] .nil)
  | 7 => (ones [0, 1, 2, 3, 4, 5, 6, 7, 8, 9] .nil)
  | 9 => (ones [0, 1, 2, 3, 4, 5, 6, 7, 8, 9] .nil)
  | 11 => (ones [0, 1, 2, 3, 4, 6, 7, 5, 8, 9] .nil)
  | _ => .nil
noncomputable def z62_g40 (S : J2) (x0 x1 : Value) (H : Heap) : Prop :=
  newE 40 (Value.cells x1) H fun v3 H1 =>
  S x0 v3 H1
theorem z62_g40_e (S : J2) (x H) : WE z62_pi z62_c2 66 (fun l => S (gd l 0) (gd l 3)) x H = z62_g40 S (x 0) (x 1) H := by kernel_rfl
noncomputable def z62_g41 (S : J3) (x0 x3 : Value) (H : Heap) : Prop :=
  EvF P N.sent_Log_none #[x0] H fun v7 H1 =>
  S x0 x3 v7 H1
theorem z62_g41_e (S : J3) (x H) : WE z62_pi z62_c6 66 (fun l => S (gd l 0) (gd l 3) (gd l 5)) x H = z62_g41 S (x 0) (x 3) H := by kernel_rfl
noncomputable def z62_g42 (S : J1) (H : Heap) : Prop :=
  S (.int .i64 1) H
theorem z62_g42_e (S : J1) (x H) : WE z62_pi z62_c9 66 (fun l => S (gd l 4)) x H = z62_g42 S  H := by kernel_rfl
noncomputable def z62_g43 (S : J3) (x0 x3 : Value) (H : Heap) : Prop :=
  bnd (ldE true 6 x3 H) fun v9 =>
  EvF P N.sent_may #[v9] H fun v10 H1 =>
  bnd (unV .not v10) fun v11 =>
  S x0 x3 v11 H1
theorem z62_g43_e (S : J3) (x H) : WE z62_pi z62_c11 66 (fun l => S (gd l 0) (gd l 3) (gd l 8)) x H = z62_g43 S (x 0) (x 3) H := by kernel_rfl
noncomputable def z62_g44 (S : J1) (H : Heap) : Prop :=
  S (.int .i64 2) H
theorem z62_g44_e (S : J1) (x H) : WE z62_pi z62_c14 66 (fun l => S (gd l 4)) x H = z62_g44 S  H := by kernel_rfl
noncomputable def z62_g45 (S : J3) (x0 x3 : Value) (H : Heap) : Prop :=
  bnd (faV 0 x3) fun v13 =>
  bnd (ldE false 1 v13 H) fun v14 =>
  bnd (nilV x0) fun v16 =>
  bnd (faV 1 v16) fun v17 =>
  bnd (ldE false 1 v17 H) fun v18 =>
  bnd (binV .int .leq v14 v18) fun v19 =>
  S x0 x3 v19 H
theorem z62_g45_e (S : J3) (x H) : WE z62_pi z62_c16 66 (fun l => S (gd l 0) (gd l 3) (gd l 12)) x H = z62_g45 S (x 0) (x 3) H := by kernel_rfl
noncomputable def z62_g46 (S : J1) (H : Heap) : Prop :=
  S (.int .i64 60) H
theorem z62_g46_e (S : J1) (x H) : WE z62_pi z62_c19 66 (fun l => S (gd l 4)) x H = z62_g46 S  H := by kernel_rfl
noncomputable def z62_g47 (S : J3) (x0 x3 : Value) (H : Heap) : Prop :=
  bnd (nilV x0) fun v22 =>
  bnd (faV 5 v22) fun v23 =>
  bnd (ldE false 1 v23 H) fun v24 =>
  bnd (nilV x0) fun v26 =>
  bnd (faV 0 v26) fun v27 =>
  bnd (ldE false 1 v27 H) fun v28 =>
  bnd (binV .int .eql v24 v28) fun v29 =>
  S x0 x3 v29 H
theorem z62_g47_e (S : J3) (x H) : WE z62_pi z62_c21 66 (fun l => S (gd l 0) (gd l 3) (gd l 20)) x H = z62_g47 S (x 0) (x 3) H := by kernel_rfl
noncomputable def z62_g48 (S : J1) (H : Heap) : Prop :=
  S (.int .i64 5) H
theorem z62_g48_e (S : J1) (x H) : WE z62_pi z62_c24 66 (fun l => S (gd l 4)) x H = z62_g48 S  H := by kernel_rfl
noncomputable def z62_g50 (S : J2) (x0 x3 : Value) (H : Heap) : Prop :=
  bnd (nilV x0) fun v44 =>
  bnd (faV 4 v44) fun v45 =>
  bnd (ldE false 1 v45 H) fun v46 =>
  bnd (ldE true 6 x3 H) fun v48 =>
  bnd (buildV #[(.int .i64 0), (.int .i64 0), (.int .i64 0), (.bool false), (.bool false), (.bool false), (.bool false)] (places [(0, 6), (6, 1)]) [(0, v48), (1, (.bool true))]) fun v49 =>
  EvF P N.sent_Log_at #[x0, v46] H fun v47 H1 =>
  ((bnd (ldE true 6 x3 H1) fun v' => v' = v48) ∧
  bnd (nilV v47) fun v50 =>
  bnd (stE 7 v50 v49 H1) fun H2 =>
  S x0 x3 H2)
theorem z62_g50_e (S : J2) (x H) : WE z62_pi z62_c31 66 (fun l => S (gd l 0) (gd l 3)) x H = z62_g50 S (x 0) (x 3) H := by kernel_rfl
noncomputable def z62_g51 (S : J2) (x0 x3 : Value) (H : Heap) : Prop :=
  bnd (nilV x0) fun v52 =>
  bnd (faV 4 v52) fun v53 =>
  bnd (ldE false 1 v53 H) fun v54 =>
  bnd (binV .int .add v54 (.int .i64 1)) fun v55 =>
  bnd (nilV x0) fun v56 =>
  bnd (faV 4 v56) fun v57 =>
  bnd (stE 1 v57 v55 H) fun H1 =>
  S x0 x3 H1
theorem z62_g51_e (S : J2) (x H) : WE z62_pi z62_c33 66 (fun l => S (gd l 0) (gd l 3)) x H = z62_g51 S (x 0) (x 3) H := by kernel_rfl
noncomputable def z62_g52 (S : J2) (x0 x3 : Value) (H : Heap) : Prop :=
  bnd (faV 0 x3) fun v59 =>
  bnd (ldE false 1 v59 H) fun v60 =>
  bnd (nilV x0) fun v61 =>
  bnd (faV 1 v61) fun v62 =>
  bnd (stE 1 v62 v60 H) fun H1 =>
  S x0 x3 H1
theorem z62_g52_e (S : J2) (x H) : WE z62_pi z62_c35 66 (fun l => S (gd l 0) (gd l 3)) x H = z62_g52 S (x 0) (x 3) H := by kernel_rfl
noncomputable def z62_g53 (S : J0) (x0 x3 : Value) (H : Heap) : Prop :=
  bnd (ldE true 6 x3 H) fun v64 =>
  EvF P N.sent_Log_more #[x0, v64] H fun _ H1 =>
  S H1
theorem z62_g53_e (S : J0) (x H) : WE z62_pi z62_c37 66 (fun _ => S ) x H = z62_g53 S (x 0) (x 3) H := by kernel_rfl
noncomputable def z62_g54 (S : J1) (H : Heap) : Prop :=
  S (.int .i64 0) H
theorem z62_g54_e (S : J1) (x H) : WE z62_pi z62_c39 66 (fun l => S (gd l 4)) x H = z62_g54 S  H := by kernel_rfl
noncomputable def z62_s49 (x0 x3 : Value) (R : J1) (H : Heap) : Prop :=
  z62_g50 (fun x0 x3 H => z62_g51 (fun x0 x3 H => z62_g52 (fun x0 x3 H => z62_g53 (fun H => z62_g54 (fun x4 H => R x4 H) H) x0 x3 H) x0 x3 H) x0 x3 H) x0 x3 H
noncomputable def z62_q55 (R : J1) : JQ := (retQ tab z62_rs R)
theorem z62_s49_i (R : J1) (l : List Value) (H : Heap) (hl : l.length = 66) (h : z62_s49 (gd l 0) (gd l 3) R H) : wpE tab P z62_pi z62_c30 (z62_q55 R) l H := sr rfl hl (z62_g50_e _ (gd l) _) h fun l H hl h => sr rfl hl (z62_g51_e _ (gd l) _) h fun l H hl h => sr rfl hl (z62_g52_e _ (gd l) _) h fun l H hl h => sr rfl hl (z62_g53_e _ (gd l) _) h fun l H hl h => sr rfl hl (z62_g54_e _ (gd l) _) h fun l H hl h => rt rfl h
noncomputable def z62_g56 (S : J3) (x0 x3 : Value) (H : Heap) : Prop :=
  bnd (nilV x0) fun v31 =>
  bnd (faV 4 v31) fun v32 =>
  bnd (ldE false 1 v32 H) fun v33 =>
  bnd (nilV x0) fun v35 =>
  bnd (faV 2 v35) fun v36 =>
  bnd (ldE false 1 v36 H) fun v37 =>
  bnd (lenV v37) fun v38 =>
  bnd (binV .int .eql v33 v38) fun v39 =>
  S x0 x3 v39 H
theorem z62_g56_e (S : J3) (x H) : WE z62_pi z62_c27 66 (fun l => S (gd l 0) (gd l 3) (gd l 39)) x H = z62_g56 S (x 0) (x 3) H := by kernel_rfl
noncomputable def z62_g57 (S : J2) (x0 x3 : Value) (H : Heap) : Prop :=
  EvF P N.sent_Log_pack #[x0] H fun _ H1 =>
  S x0 x3 H1
theorem z62_g57_e (S : J2) (x H) : WE z62_pi z62_c29 66 (fun l => S (gd l 0) (gd l 3)) x H = z62_g57 S (x 0) (x 3) H := by kernel_rfl
def sent_Log_Put (x0 x1 : Value) (R : Value → Heap → Prop) (H : Heap) : Prop :=
  z62_g40 (fun x0 x3 H => z62_g41 (fun x0 x3 x5 H => brV x5
  (z62_g42 (fun x4 H => R x4 H) H)
  (z62_g43 (fun x0 x3 x8 H => brV x8
  (z62_g44 (fun x4 H => R x4 H) H)
  (z62_g45 (fun x0 x3 x12 H => brV x12
  (z62_g46 (fun x4 H => R x4 H) H)
  (z62_g47 (fun x0 x3 x20 H => brV x20
  (z62_g48 (fun x4 H => R x4 H) H)
  (z62_g56 (fun x0 x3 x39 H => brV x39
  (z62_g57 (fun x0 x3 H => z62_s49 x0 x3 R H) x0 x3 H)
  (z62_s49 x0 x3 R H)) x0 x3 H)) x0 x3 H)) x0 x3 H)) x0 x3 H)) x0 x3 H) x0 x1 H
theorem z62_ev (x0 x1 : Value) (R : J1) (H : Heap) (h : sent_Log_Put x0 x1 R H) : EvF P N.sent_Log_Put #[x0, x1] H R := .inl (EvF_intro (args := [x0, x1]) (k := 64) (rs := z62_rs) tab_ok mixed Tryz.func62 (show Tryz.f62.body = some z62_c1 by kernel_rfl) Tryz.call62 Tryz.ntmps62 (by kernel_rfl) (okCode_of _ (show okB z62_pi z62_c1 = true by kernel_rfl)) (fr_eq _ _) (fj (n := 66) rfl (fun l hl (h : sent_Log_Put (gd l 0) (gd l 1) R H) => sr rfl hl (z62_g40_e _ (gd l) _) h fun l H hl h => sq rfl <| bl rfl <| sr rfl hl (z62_g41_e _ (gd l) _) h fun l H hl h => cd rfl h (fun h => sr rfl hl (z62_g42_e _ (gd l) _) h fun l H hl h => rt rfl h) fun h => sr rfl hl (z62_g43_e _ (gd l) _) h fun l H hl h => cd rfl h (fun h => sr rfl hl (z62_g44_e _ (gd l) _) h fun l H hl h => rt rfl h) fun h => sr rfl hl (z62_g45_e _ (gd l) _) h fun l H hl h => cd rfl h (fun h => sr rfl hl (z62_g46_e _ (gd l) _) h fun l H hl h => rt rfl h) fun h => sr rfl hl (z62_g47_e _ (gd l) _) h fun l H hl h => cd rfl h (fun h => sr rfl hl (z62_g48_e _ (gd l) _) h fun l H hl h => rt rfl h) fun h => sk rfl <| bN <| tN <| sq rfl <| sr rfl hl (z62_g56_e _ (gd l) _) h fun l H hl h => cd rfl h (fun h => rj hl (z62_g57_e _ (gd l) _) h fun l H hl h => tN <| z62_s49_i R l H hl h) fun h => kN rfl <| z62_s49_i R l H hl h) h))
/- 63: (*sounder/span.Set).Add -/
def z63_rs : List ResultVar := [.tmp 6]
noncomputable def z63_c2 := sc Tryz.f63 [0]
noncomputable def z63_c6 := sc Tryz.f63 [1,0,0,0]
noncomputable def z63_c9 := sc Tryz.f63 [1,0,0,1,0,0]
noncomputable def z63_c8 : Code := .seq z63_c9 Code.ret
noncomputable def z63_c12 := sc Tryz.f63 [1,0,0,1,1,0,0]
noncomputable def z63_c15 := sc Tryz.f63 [1,0,0,1,1,0,1,1,0]
noncomputable def z63_c17 := sc Tryz.f63 [1,0,0,1,1,0,1,1,1,1]
noncomputable def z63_c16 : Code := .cond (.tmp 13) Code.skip z63_c17
noncomputable def z63_c14 : Code := .seq z63_c15 z63_c16
noncomputable def z63_c13 : Code := .cond (.tmp 13) Code.skip z63_c14
noncomputable def z63_c11 : Code := .seq z63_c12 z63_c13
noncomputable def z63_c20 := sc Tryz.f63 [1,0,0,1,1,1,0,0]
noncomputable def z63_c19 : Code := .seq z63_c20 Code.ret
noncomputable def z63_c18 : Code := .cond (.tmp 13) z63_c19 Code.skip
noncomputable def z63_c10 : Code := .seq z63_c11 z63_c18
noncomputable def z63_c7 : Code := .cond (.tmp 10) z63_c8 z63_c10
noncomputable def z63_c5 : Code := .seq z63_c6 z63_c7
noncomputable def z63_c4 : Code := .block 0 z63_c5
noncomputable def z63_c22 := sc Tryz.f63 [1,1,0]
noncomputable def z63_c24 := sc Tryz.f63 [1,1,1,0]
noncomputable def z63_c26 := sc Tryz.f63 [1,1,1,1,0]
noncomputable def z63_c29 := sc Tryz.f63 [1,1,1,1,1,0,0]
noncomputable def z63_c31 := sc Tryz.f63 [1,1,1,1,1,0,1,0]
noncomputable def z63_c30 : Code := .cond (.tmp 39) z63_c31 Code.skip
noncomputable def z63_c28 : Code := .seq z63_c29 z63_c30
noncomputable def z63_c34 := sc Tryz.f63 [1,1,1,1,1,1,0,0]
noncomputable def z63_c37 := sc Tryz.f63 [1,1,1,1,1,1,0,1,0,0]
noncomputable def z63_c36 : Code := .seq z63_c37 Code.ret
noncomputable def z63_c35 : Code := .cond (.tmp 76) z63_c36 Code.skip
noncomputable def z63_c33 : Code := .seq z63_c34 z63_c35
noncomputable def z63_c39 := sc Tryz.f63 [1,1,1,1,1,1,1,0]
noncomputable def z63_c41 := sc Tryz.f63 [1,1,1,1,1,1,1,1,0]
noncomputable def z63_c40 : Code := .seq z63_c41 Code.ret
noncomputable def z63_c38 : Code := .seq z63_c39 z63_c40
noncomputable def z63_c32 : Code := .seq z63_c33 z63_c38
noncomputable def z63_c27 : Code := .seq z63_c28 z63_c32
noncomputable def z63_c25 : Code := .seq z63_c26 z63_c27
noncomputable def z63_c23 : Code := .seq z63_c24 z63_c25
noncomputable def z63_c21 : Code := .seq z63_c22 z63_c23
noncomputable def z63_c3 : Code := .seq z63_c4 z63_c21
noncomputable def z63_c1 : Code := .seq z63_c2 z63_c3
def z63_pi (i : Nat) : Pl := match i with
  | 11 => (ones [0, 1, 2, 3, 4, 5, 6, 7, 8, 9, 10, 11, 12, 13, 14, 15, 16, 17, 18, 19, 20, 21, 22] .nil)
  | 12 => (ones [0, 1, 2, 3, 4, 5, 6, 7, 8, 9, 10, 11, 12, 13, 14] .nil)
  | 14 => (ones [0, 1, 2, 3, 4, 5, 6, 7, 8, 9, 10, 11, 12] .nil)
  | _ => .nil
noncomputable def z63_g42 (S : J3) (x0 x1 x2 : Value) (H : Heap) : Prop :=
  newE 76 (Value.cells x0) H fun v3 H1 =>
  newE 3 (Value.cells x2) H1 fun v5 H2 =>
  S x1 v3 v5 H2
theorem z63_g42_e (S : J3) (x H) : WE z63_pi z63_c2 89 (fun l => S (gd l 1) (gd l 3) (gd l 5)) x H = z63_g42 S (x 0) (x 1) (x 2) H := by kernel_rfl
noncomputable def z63_g43 (S : J4) (x1 x3 x5 : Value) (H : Heap) : Prop :=
  bnd (ldE false 1 x3 H) fun v11 =>
  EvF P N.span_Set_none #[v11] H fun v12 H1 =>
  S x1 x3 x5 v12 H1
theorem z63_g43_e (S : J4) (x H) : WE z63_pi z63_c6 89 (fun l => S (gd l 1) (gd l 3) (gd l 5) (gd l 10)) x H = z63_g43 S (x 1) (x 3) (x 5) H := by kernel_rfl
noncomputable def z63_g44 (S : J1) (H : Heap) : Prop :=
  S (.int .i64 1) H
theorem z63_g44_e (S : J1) (x H) : WE z63_pi z63_c9 89 (fun l => S (gd l 6)) x H = z63_g44 S  H := by kernel_rfl
noncomputable def z63_g46 (S : J1) (H : Heap) : Prop :=
  S (.int .i64 2) H
theorem z63_g46_e (S : J1) (x H) : WE z63_pi z63_c20 89 (fun l => S (gd l 6)) x H = z63_g46 S  H := by kernel_rfl
noncomputable def z63_g47 (S : J4) (x1 x3 x5 : Value) (H : Heap) : Prop :=
  bnd (ldE false 1 x3 H) fun v23 =>
  bnd (binV .int .sub x1 (.int .i64 1)) fun v25 =>
  EvF P N.span_Set_first #[v23, v25] H fun v26 H1 =>
  S x1 x3 x5 v26 H1
theorem z63_g47_e (S : J4) (x H) : WE z63_pi z63_c22 89 (fun l => S (gd l 1) (gd l 3) (gd l 5) (gd l 7)) x H = z63_g47 S (x 1) (x 3) (x 5) H := by kernel_rfl
noncomputable def z63_g48 (S : J5) (x1 x3 x5 x7 : Value) (H : Heap) : Prop :=
  bnd (ldE false 1 x3 H) fun v27 =>
  bnd (nilV v27) fun v28 =>
  bnd (faV 1 v28) fun v29 =>
  bnd (ldE false 1 v29 H) fun v30 =>
  bnd (lenV v30) fun v31 =>
  EvF P N.sort_Search #[v31, (.func (.func N.span_Set_Add_1) #[] #[x3, x5])] H fun v33 H1 =>
  S x1 x3 x5 x7 v33 H1
theorem z63_g48_e (S : J5) (x H) : WE z63_pi z63_c24 89 (fun l => S (gd l 1) (gd l 3) (gd l 5) (gd l 7) (gd l 8)) x H = z63_g48 S (x 1) (x 3) (x 5) (x 7) H := by kernel_rfl
noncomputable def z63_g49 (S : J6) (x1 x3 x5 x7 x8 : Value) (H : Heap) : Prop :=
  bnd (ldE false 1 x5 H) fun v35 =>
  bnd (buildV #[(.int .i64 0), (.int .i64 0)] (places [(0, 1), (1, 1)]) [(0, x1), (1, v35)]) fun v36 =>
  newE 93 #[(.int .i64 0), (.int .i64 0)] H fun v9 H1 =>
  bnd (stE 2 v9 v36 H1) fun H2 =>
  S x1 x3 x5 x7 x8 v9 H2
theorem z63_g49_e (S : J6) (x H) : WE z63_pi z63_c26 89 (fun l => S (gd l 1) (gd l 3) (gd l 5) (gd l 7) (gd l 8) (gd l 9)) x H = z63_g49 S (x 1) (x 3) (x 5) (x 7) (x 8) H := by kernel_rfl
noncomputable def z63_g51 (S : J5) (x3 x7 x8 x9 : Value) (H : Heap) : Prop :=
  bnd (ldE false 1 x3 H) fun v62 =>
  bnd (nilV v62) fun v63 =>
  bnd (faV 1 v63) fun v64 =>
  bnd (ldE false 1 v64 H) fun v65 =>
  bnd (lenV v65) fun v66 =>
  bnd (binV .int .sub x8 x7) fun v69 =>
  bnd (binV .int .sub v66 v69) fun v70 =>
  bnd (binV .int .add v70 (.int .i64 1)) fun v71 =>
  bnd (ldE false 1 x3 H) fun v72 =>
  bnd (nilV v72) fun v73 =>
  bnd (faV 0 v73) fun v74 =>
  bnd (ldE false 1 v74 H) fun v75 =>
  bnd (binV .int .gtr v71 v75) fun v76 =>
  S x3 x7 x8 x9 v76 H
theorem z63_g51_e (S : J5) (x H) : WE z63_pi z63_c34 89 (fun l => S (gd l 3) (gd l 7) (gd l 8) (gd l 9) (gd l 76)) x H = z63_g51 S (x 3) (x 7) (x 8) (x 9) H := by kernel_rfl
noncomputable def z63_g52 (S : J1) (H : Heap) : Prop :=
  S (.int .i64 5) H
theorem z63_g52_e (S : J1) (x H) : WE z63_pi z63_c37 89 (fun l => S (gd l 6)) x H = z63_g52 S  H := by kernel_rfl
noncomputable def z63_g53 (S : J0) (x3 x7 x8 x9 : Value) (H : Heap) : Prop :=
  bnd (ldE false 1 x3 H) fun v77 =>
  bnd (ldE false 1 x3 H) fun v78 =>
  bnd (nilV v78) fun v79 =>
  bnd (faV 1 v79) fun v80 =>
  bnd (ldE false 1 v80 H) fun v81 =>
  bnd (ldE true 2 x9 H) fun v84 =>
  bslE 93 #[(.int .i64 0), (.int .i64 0)] 2 1 [(0, v84)] H fun v85 H1 =>
  ((bnd (ldE false 1 v80 H1) fun v' => v' = v81) ∧
  ((bnd (ldE false 1 x3 H1) fun v' => v' = v78) ∧
  ((bnd (ldE false 1 x3 H1) fun v' => v' = v77) ∧
  EvF P N.slices_Replace_Range #[v81, x7, x8, v85] H1 fun v86 H2 =>
  ((bnd (ldE false 1 x3 H2) fun v' => v' = v78) ∧
  ((bnd (ldE false 1 x3 H2) fun v' => v' = v77) ∧
  bnd (nilV v77) fun v87 =>
  bnd (faV 1 v87) fun v88 =>
  bnd (stE 1 v88 v86 H2) fun H3 =>
  S H3)))))
theorem z63_g53_e (S : J0) (x H) : WE z63_pi z63_c39 89 (fun _ => S ) x H = z63_g53 S (x 3) (x 7) (x 8) (x 9) H := by kernel_rfl
noncomputable def z63_g54 (S : J1) (H : Heap) : Prop :=
  S (.int .i64 0) H
theorem z63_g54_e (S : J1) (x H) : WE z63_pi z63_c41 89 (fun l => S (gd l 6)) x H = z63_g54 S  H := by kernel_rfl
noncomputable def z63_s50 (x3 x7 x8 x9 : Value) (R : J1) (H : Heap) : Prop :=
  z63_g51 (fun x3 x7 x8 x9 x76 H => brV x76
  (z63_g52 (fun x6 H => R x6 H) H)
  (z63_g53 (fun H => z63_g54 (fun x6 H => R x6 H) H) x3 x7 x8 x9 H)) x3 x7 x8 x9 H
noncomputable def z63_q55 (R : J1) : JQ := (retQ tab z63_rs R)
theorem z63_s50_i (R : J1) (l : List Value) (H : Heap) (hl : l.length = 89) (h : z63_s50 (gd l 3) (gd l 7) (gd l 8) (gd l 9) R H) : wpE tab P z63_pi z63_c32 (z63_q55 R) l H := sq rfl <| sr rfl hl (z63_g51_e _ (gd l) _) h fun l H hl h => cd rfl h (fun h => sr rfl hl (z63_g52_e _ (gd l) _) h fun l H hl h => rt rfl h) fun h => kN rfl <| sr rfl hl (z63_g53_e _ (gd l) _) h fun l H hl h => sr rfl hl (z63_g54_e _ (gd l) _) h fun l H hl h => rt rfl h
noncomputable def z63_g56 (S : J7) (x1 x3 x5 x7 x8 x9 : Value) (H : Heap) : Prop :=
  bnd (binV .int .lss x7 x8) fun v39 =>
  S x1 x3 x5 x7 x8 x9 v39 H
theorem z63_g56_e (S : J7) (x H) : WE z63_pi z63_c29 89 (fun l => S (gd l 1) (gd l 3) (gd l 5) (gd l 7) (gd l 8) (gd l 9) (gd l 39)) x H = z63_g56 S (x 1) (x 3) (x 5) (x 7) (x 8) (x 9) H := by kernel_rfl
noncomputable def z63_g57 (S : J4) (x1 x3 x5 x7 x8 x9 : Value) (H : Heap) : Prop :=
  bnd (ldE false 1 x3 H) fun v41 =>
  bnd (nilV v41) fun v42 =>
  bnd (faV 1 v42) fun v43 =>
  bnd (ldE false 1 v43 H) fun v44 =>
  bnd (ixSV 2 v44 x7) fun v46 =>
  bnd (faV 0 v46) fun v47 =>
  bnd (ldE false 1 v47 H) fun v48 =>
  bnd (foldV min2V x1 [v48]) fun v49 =>
  bnd (ldE false 1 x5 H) fun v50 =>
  bnd (ldE false 1 x3 H) fun v51 =>
  bnd (nilV v51) fun v52 =>
  bnd (faV 1 v52) fun v53 =>
  bnd (ldE false 1 v53 H) fun v54 =>
  bnd (binV .int .sub x8 (.int .i64 1)) fun v56 =>
  bnd (ixSV 2 v54 v56) fun v57 =>
  bnd (faV 1 v57) fun v58 =>
  bnd (ldE false 1 v58 H) fun v59 =>
  bnd (foldV max2V v50 [v59]) fun v60 =>
  bnd (buildV #[(.int .i64 0), (.int .i64 0)] (places [(0, 1), (1, 1)]) [(0, v49), (1, v60)]) fun v61 =>
  bnd (stE 2 x9 v61 H) fun H1 =>
  S x3 x7 x8 x9 H1
theorem z63_g57_e (S : J4) (x H) : WE z63_pi z63_c31 89 (fun l => S (gd l 3) (gd l 7) (gd l 8) (gd l 9)) x H = z63_g57 S (x 1) (x 3) (x 5) (x 7) (x 8) (x 9) H := by kernel_rfl
noncomputable def z63_s45 (x1 x3 x5 x13 : Value) (R : J1) (H : Heap) : Prop :=
  brV x13
  (z63_g46 (fun x6 H => R x6 H) H)
  (z63_g47 (fun x1 x3 x5 x7 H => z63_g48 (fun x1 x3 x5 x7 x8 H => z63_g49 (fun x1 x3 x5 x7 x8 x9 H => z63_g56 (fun x1 x3 x5 x7 x8 x9 x39 H => brV x39
  (z63_g57 (fun x3 x7 x8 x9 H => z63_s50 x3 x7 x8 x9 R H) x1 x3 x5 x7 x8 x9 H)
  (z63_s50 x3 x7 x8 x9 R H)) x1 x3 x5 x7 x8 x9 H) x1 x3 x5 x7 x8 H) x1 x3 x5 x7 H) x1 x3 x5 H)
noncomputable def z63_q58 (R : J1) : JQ := (thenE (fun l H => wpE tab P z63_pi z63_c21 (z63_q55 R) l H) (z63_q55 R))
noncomputable def z63_q59 (R : J1) : JQ := (blkE 0 (z63_q58 R))
theorem z63_s45_i (R : J1) (l : List Value) (H : Heap) (hl : l.length = 89) (h : z63_s45 (gd l 1) (gd l 3) (gd l 5) (gd l 13) R H) : wpE tab P z63_pi z63_c18 (z63_q59 R) l H := cd rfl h (fun h => sr rfl hl (z63_g46_e _ (gd l) _) h fun l H hl h => rt rfl h) fun h => sk rfl <| bN <| tN <| sr rfl hl (z63_g47_e _ (gd l) _) h fun l H hl h => sr rfl hl (z63_g48_e _ (gd l) _) h fun l H hl h => sr rfl hl (z63_g49_e _ (gd l) _) h fun l H hl h => sq rfl <| sr rfl hl (z63_g56_e _ (gd l) _) h fun l H hl h => cd rfl h (fun h => rj hl (z63_g57_e _ (gd l) _) h fun l H hl h => tN <| z63_s50_i R l H hl h) fun h => kN rfl <| z63_s50_i R l H hl h
noncomputable def z63_g60 (S : J4) (x1 x3 x5 : Value) (H : Heap) : Prop :=
  EvF P N.span_is #[x1] H fun v15 H1 =>
  bnd (unV .not v15) fun v16 =>
  S x1 x3 x5 v16 H1
theorem z63_g60_e (S : J4) (x H) : WE z63_pi z63_c12 89 (fun l => S (gd l 1) (gd l 3) (gd l 5) (gd l 13)) x H = z63_g60 S (x 1) (x 3) (x 5) H := by kernel_rfl
noncomputable def z63_g61 (S : J4) (x1 x3 x5 : Value) (H : Heap) : Prop :=
  bnd (ldE false 1 x5 H) fun v17 =>
  EvF P N.span_is #[v17] H fun v18 H1 =>
  bnd (unV .not v18) fun v19 =>
  S x1 x3 x5 v19 H1
theorem z63_g61_e (S : J4) (x H) : WE z63_pi z63_c15 89 (fun l => S (gd l 1) (gd l 3) (gd l 5) (gd l 13)) x H = z63_g61 S (x 1) (x 3) (x 5) H := by kernel_rfl
noncomputable def z63_g62 (S : J4) (x1 x3 x5 : Value) (H : Heap) : Prop :=
  bnd (ldE false 1 x5 H) fun v21 =>
  bnd (binV .int .gtr x1 v21) fun v22 =>
  S x1 x3 x5 v22 H
theorem z63_g62_e (S : J4) (x H) : WE z63_pi z63_c17 89 (fun l => S (gd l 1) (gd l 3) (gd l 5) (gd l 13)) x H = z63_g62 S (x 1) (x 3) (x 5) H := by kernel_rfl
def span_Set_Add (x0 x1 x2 : Value) (R : Value → Heap → Prop) (H : Heap) : Prop :=
  z63_g42 (fun x1 x3 x5 H => z63_g43 (fun x1 x3 x5 x10 H => brV x10
  (z63_g44 (fun x6 H => R x6 H) H)
  (z63_g60 (fun x1 x3 x5 x13 H => brV x13
  (z63_s45 x1 x3 x5 x13 R H)
  (z63_g61 (fun x1 x3 x5 x13 H => brV x13
  (z63_s45 x1 x3 x5 x13 R H)
  (z63_g62 (fun x1 x3 x5 x13 H => z63_s45 x1 x3 x5 x13 R H) x1 x3 x5 H)) x1 x3 x5 H)) x1 x3 x5 H)) x1 x3 x5 H) x0 x1 x2 H
theorem z63_ev (x0 x1 x2 : Value) (R : J1) (H : Heap) (h : span_Set_Add x0 x1 x2 R H) : EvF P N.span_Set_Add #[x0, x1, x2] H R := .inl (EvF_intro (args := [x0, x1, x2]) (k := 86) (rs := z63_rs) tab_ok mixed Tryz.func63 (show Tryz.f63.body = some z63_c1 by kernel_rfl) Tryz.call63 Tryz.ntmps63 (by kernel_rfl) (okCode_of _ (show okB z63_pi z63_c1 = true by kernel_rfl)) (fr_eq _ _) (fj (n := 89) rfl (fun l hl (h : span_Set_Add (gd l 0) (gd l 1) (gd l 2) R H) => sr rfl hl (z63_g42_e _ (gd l) _) h fun l H hl h => sq rfl <| bl rfl <| sr rfl hl (z63_g43_e _ (gd l) _) h fun l H hl h => cd rfl h (fun h => sr rfl hl (z63_g44_e _ (gd l) _) h fun l H hl h => rt rfl h) fun h => sq rfl <| sr rfl hl (z63_g60_e _ (gd l) _) h fun l H hl h => cd rfl h (fun h => kN rfl <| z63_s45_i R l H hl h) fun h => sr rfl hl (z63_g61_e _ (gd l) _) h fun l H hl h => cd rfl h (fun h => kN rfl <| z63_s45_i R l H hl h) fun h => rj hl (z63_g62_e _ (gd l) _) h fun l H hl h => tN <| z63_s45_i R l H hl h) h))
/- 64: (*sounder/space.Space).Flight$1 -/
def z64_rs : List ResultVar := [.tmp 1]
noncomputable def z64_c2 := sc Tryz.f64 [0]
noncomputable def z64_c4 := sc Tryz.f64 [1,0]
noncomputable def z64_c3 : Code := .seq z64_c4 Code.ret
noncomputable def z64_c1 : Code := .seq z64_c2 z64_c3
def z64_pi (_ : Nat) : Pl := .nil
noncomputable def z64_g5 (S : J1) (x0 : Value) (H : Heap) : Prop :=
  S x0 H
theorem z64_g5_e (S : J1) (x H) : WE z64_pi z64_c2 7 (fun l => S (gd l 0)) x H = z64_g5 S (x 0) H := by kernel_rfl
noncomputable def z64_g6 (S : J1) (x0 : Value) (H : Heap) : Prop :=
  bnd (ldE false 1 x0 H) fun v2 =>
  bnd (nilV v2) fun v3 =>
  bnd (faV 0 v3) fun v4 =>
  bnd (ldE false 1 v4 H) fun v5 =>
  EvF P N.sent_Log_Flight #[v5] H fun v6 H1 =>
  S v6 H1
theorem z64_g6_e (S : J1) (x H) : WE z64_pi z64_c4 7 (fun l => S (gd l 1)) x H = z64_g6 S (x 0) H := by kernel_rfl
def space_Space_Flight_1 (x0 : Value) (R : Value → Heap → Prop) (H : Heap) : Prop :=
  z64_g5 (fun x0 H => z64_g6 (fun x1 H => R x1 H) x0 H) x0 H
theorem z64_ev (x0 : Value) (R : J1) (H : Heap) (h : space_Space_Flight_1 x0 R H) : EvF P N.space_Space_Flight_1 #[x0] H R := .inl (EvF_intro (args := [x0]) (k := 6) (rs := z64_rs) tab_ok mixed Tryz.func64 (show Tryz.f64.body = some z64_c1 by kernel_rfl) Tryz.call64 Tryz.ntmps64 (by kernel_rfl) (okCode_of _ (show okB z64_pi z64_c1 = true by kernel_rfl)) (fr_eq _ _) (fj (n := 7) rfl (fun l hl (h : space_Space_Flight_1 (gd l 0) R H) => sr rfl hl (z64_g5_e _ (gd l) _) h fun l H hl h => sr rfl hl (z64_g6_e _ (gd l) _) h fun l H hl h => rt rfl h) h))
/- 65: (*sounder/sent.Log).Flight -/
def z65_rs : List ResultVar := [.tmp 2]
noncomputable def z65_c2 := sc Tryz.f65 [0]
noncomputable def z65_c4 := sc Tryz.f65 [1,0]
noncomputable def z65_c3 : Code := .seq z65_c4 Code.ret
noncomputable def z65_c1 : Code := .seq z65_c2 z65_c3
def z65_pi (_ : Nat) : Pl := .nil
noncomputable def z65_g5 (S : J1) (x0 : Value) (H : Heap) : Prop :=
  newE 75 (Value.cells x0) H fun v1 H1 =>
  S v1 H1
theorem z65_g5_e (S : J1) (x H) : WE z65_pi z65_c2 6 (fun l => S (gd l 1)) x H = z65_g5 S (x 0) H := by kernel_rfl
noncomputable def z65_g6 (S : J1) (x1 : Value) (H : Heap) : Prop :=
  bnd (ldE false 1 x1 H) fun v3 =>
  EvF P N.sent_Log_total #[v3, (.func (.func N.sent_Log_Flight_1) #[] #[x1])] H fun v5 H1 =>
  S v5 H1
theorem z65_g6_e (S : J1) (x H) : WE z65_pi z65_c4 6 (fun l => S (gd l 2)) x H = z65_g6 S (x 1) H := by kernel_rfl
def sent_Log_Flight (x0 : Value) (R : Value → Heap → Prop) (H : Heap) : Prop :=
  z65_g5 (fun x1 H => z65_g6 (fun x2 H => R x2 H) x1 H) x0 H
theorem z65_ev (x0 : Value) (R : J1) (H : Heap) (h : sent_Log_Flight x0 R H) : EvF P N.sent_Log_Flight #[x0] H R := .inl (EvF_intro (args := [x0]) (k := 5) (rs := z65_rs) tab_ok mixed Tryz.func65 (show Tryz.f65.body = some z65_c1 by kernel_rfl) Tryz.call65 Tryz.ntmps65 (by kernel_rfl) (okCode_of _ (show okB z65_pi z65_c1 = true by kernel_rfl)) (fr_eq _ _) (fj (n := 6) rfl (fun l hl (h : sent_Log_Flight (gd l 0) R H) => sr rfl hl (z65_g5_e _ (gd l) _) h fun l H hl h => sr rfl hl (z65_g6_e _ (gd l) _) h fun l H hl h => rt rfl h) h))
/- 66: (*sounder/space.Space).Eliciting$1 -/
def z66_rs : List ResultVar := [.tmp 1]
noncomputable def z66_c2 := sc Tryz.f66 [0]
noncomputable def z66_c4 := sc Tryz.f66 [1,0]
noncomputable def z66_c3 : Code := .seq z66_c4 Code.ret
noncomputable def z66_c1 : Code := .seq z66_c2 z66_c3
def z66_pi (_ : Nat) : Pl := .nil
noncomputable def z66_g5 (S : J1) (x0 : Value) (H : Heap) : Prop :=
  S x0 H
theorem z66_g5_e (S : J1) (x H) : WE z66_pi z66_c2 7 (fun l => S (gd l 0)) x H = z66_g5 S (x 0) H := by kernel_rfl
noncomputable def z66_g6 (S : J1) (x0 : Value) (H : Heap) : Prop :=
  bnd (ldE false 1 x0 H) fun v2 =>
  bnd (nilV v2) fun v3 =>
  bnd (faV 0 v3) fun v4 =>
  bnd (ldE false 1 v4 H) fun v5 =>
  EvF P N.sent_Log_Eliciting #[v5] H fun v6 H1 =>
  S v6 H1
theorem z66_g6_e (S : J1) (x H) : WE z66_pi z66_c4 7 (fun l => S (gd l 1)) x H = z66_g6 S (x 0) H := by kernel_rfl
def space_Space_Eliciting_1 (x0 : Value) (R : Value → Heap → Prop) (H : Heap) : Prop :=
  z66_g5 (fun x0 H => z66_g6 (fun x1 H => R x1 H) x0 H) x0 H
theorem z66_ev (x0 : Value) (R : J1) (H : Heap) (h : space_Space_Eliciting_1 x0 R H) : EvF P N.space_Space_Eliciting_1 #[x0] H R := .inl (EvF_intro (args := [x0]) (k := 6) (rs := z66_rs) tab_ok mixed Tryz.func66 (show Tryz.f66.body = some z66_c1 by kernel_rfl) Tryz.call66 Tryz.ntmps66 (by kernel_rfl) (okCode_of _ (show okB z66_pi z66_c1 = true by kernel_rfl)) (fr_eq _ _) (fj (n := 7) rfl (fun l hl (h : space_Space_Eliciting_1 (gd l 0) R H) => sr rfl hl (z66_g5_e _ (gd l) _) h fun l H hl h => sr rfl hl (z66_g6_e _ (gd l) _) h fun l H hl h => rt rfl h) h))
/- 67: (*sounder/sent.Log).Eliciting -/
def z67_rs : List ResultVar := [.tmp 2]
noncomputable def z67_c2 := sc Tryz.f67 [0]
noncomputable def z67_c4 := sc Tryz.f67 [1,0]
noncomputable def z67_c3 : Code := .seq z67_c4 Code.ret
noncomputable def z67_c1 : Code := .seq z67_c2 z67_c3
def z67_pi (_ : Nat) : Pl := .nil
noncomputable def z67_g5 (S : J1) (x0 : Value) (H : Heap) : Prop :=
  newE 75 (Value.cells x0) H fun v1 H1 =>
  S v1 H1
theorem z67_g5_e (S : J1) (x H) : WE z67_pi z67_c2 6 (fun l => S (gd l 1)) x H = z67_g5 S (x 0) H := by kernel_rfl
noncomputable def z67_g6 (S : J1) (x1 : Value) (H : Heap) : Prop :=
  bnd (ldE false 1 x1 H) fun v3 =>
  EvF P N.sent_Log_total #[v3, (.func (.func N.sent_Log_Eliciting_1) #[] #[x1])] H fun v5 H1 =>
  S v5 H1
theorem z67_g6_e (S : J1) (x H) : WE z67_pi z67_c4 6 (fun l => S (gd l 2)) x H = z67_g6 S (x 1) H := by kernel_rfl
def sent_Log_Eliciting (x0 : Value) (R : Value → Heap → Prop) (H : Heap) : Prop :=
  z67_g5 (fun x1 H => z67_g6 (fun x2 H => R x2 H) x1 H) x0 H
theorem z67_ev (x0 : Value) (R : J1) (H : Heap) (h : sent_Log_Eliciting x0 R H) : EvF P N.sent_Log_Eliciting #[x0] H R := .inl (EvF_intro (args := [x0]) (k := 5) (rs := z67_rs) tab_ok mixed Tryz.func67 (show Tryz.f67.body = some z67_c1 by kernel_rfl) Tryz.call67 Tryz.ntmps67 (by kernel_rfl) (okCode_of _ (show okB z67_pi z67_c1 = true by kernel_rfl)) (fr_eq _ _) (fj (n := 6) rfl (fun l hl (h : sent_Log_Eliciting (gd l 0) R H) => sr rfl hl (z67_g5_e _ (gd l) _) h fun l H hl h => sr rfl hl (z67_g6_e _ (gd l) _) h fun l H hl h => rt rfl h) h))
/- 68: (*sounder/sent.Log).Clear -/
def z68_rs : List ResultVar := []
noncomputable def z68_c3 := sc Tryz.f68 [0,0]
noncomputable def z68_c4 : Code := .cond (.tmp 3) Code.ret Code.skip
noncomputable def z68_c2 : Code := .seq z68_c3 z68_c4
noncomputable def z68_c5 := sc Tryz.f68 [1]
noncomputable def z68_c1 : Code := .seq z68_c2 z68_c5
def z68_pi (_ : Nat) : Pl := .nil
noncomputable def z68_g6 (S : J2) (x0 : Value) (H : Heap) : Prop :=
  EvF P N.sent_Log_none #[x0] H fun v3 H1 =>
  S x0 v3 H1
theorem z68_g6_e (S : J2) (x H) : WE z68_pi z68_c3 19 (fun l => S (gd l 0) (gd l 3)) x H = z68_g6 S (x 0) H := by kernel_rfl
noncomputable def z68_g7 (S : J0) (x0 : Value) (H : Heap) : Prop :=
  bnd (nilV x0) fun v9 =>
  bnd (faV 3 v9) fun v10 =>
  bnd (stE 1 v10 (.int .i64 0) H) fun H1 =>
  bnd (nilV x0) fun v11 =>
  bnd (faV 4 v11) fun v12 =>
  bnd (stE 1 v12 (.int .i64 0) H1) fun H2 =>
  bnd (nilV x0) fun v13 =>
  bnd (faV 5 v13) fun v14 =>
  bnd (stE 1 v14 (.int .i64 0) H2) fun H3 =>
  bnd (nilV x0) fun v15 =>
  bnd (faV 6 v15) fun v16 =>
  bnd (stE 1 v16 (.int .i64 0) H3) fun H4 =>
  bnd (nilV x0) fun v17 =>
  bnd (faV 7 v17) fun v18 =>
  bnd (stE 1 v18 (.int .i64 0) H4) fun H5 =>
  S H5
theorem z68_g7_e (S : J0) (x H) : WE z68_pi z68_c5 19 (fun _ => S ) x H = z68_g7 S (x 0) H := by kernel_rfl
def sent_Log_Clear (x0 : Value) (R : Value → Heap → Prop) (H : Heap) : Prop :=
  z68_g6 (fun x0 x3 H => brV x3
  (R (.tuple #[]) H)
  (z68_g7 (fun H => R (.tuple #[]) H) x0 H)) x0 H
theorem z68_ev (x0 : Value) (R : J1) (H : Heap) (h : sent_Log_Clear x0 R H) : EvF P N.sent_Log_Clear #[x0] H R := .inl (EvF_intro (args := [x0]) (k := 18) (rs := z68_rs) tab_ok mixed Tryz.func68 (show Tryz.f68.body = some z68_c1 by kernel_rfl) Tryz.call68 Tryz.ntmps68 (by kernel_rfl) (okCode_of _ (show okB z68_pi z68_c1 = true by kernel_rfl)) (fr_eq _ _) (fj (n := 19) rfl (fun l hl (h : sent_Log_Clear (gd l 0) R H) => sq rfl <| sr rfl hl (z68_g6_e _ (gd l) _) h fun l H hl h => cd rfl h (fun h => rt rfl h) fun h => kN rfl <| rj hl (z68_g7_e _ (gd l) _) h fun l H hl h => h) h))
end Go.Hc
