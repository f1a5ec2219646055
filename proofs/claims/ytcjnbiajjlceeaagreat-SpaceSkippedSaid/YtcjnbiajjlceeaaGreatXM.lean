/- SpaceSkipped. -/
import Derived.Test.YtcjnbiajjlceeaaGreatX18
set_option maxRecDepth 100000
set_option linter.unusedSimpArgs false
set_option linter.unusedVariables false
namespace Go.Hc
open Go Go.Proofs
/- 5: sounder/sounderlaw17.SpaceSkipped -/
def z5_rs : List ResultVar := [.tmp 2]
noncomputable def z5_c2 := sc Tryz.f5 [0]
noncomputable def z5_c4 := sc Tryz.f5 [1,0]
noncomputable def z5_c7 := sc Tryz.f5 [1,1,0,0]
noncomputable def z5_c10 := sc Tryz.f5 [1,1,0,1,0,0]
noncomputable def z5_c9 : Code := .seq z5_c10 Code.ret
noncomputable def z5_c8 : Code := .cond (.tmp 24) z5_c9 Code.skip
noncomputable def z5_c6 : Code := .seq z5_c7 z5_c8
noncomputable def z5_c12 := sc Tryz.f5 [1,1,1,0]
noncomputable def z5_c14 := sc Tryz.f5 [1,1,1,1,0]
noncomputable def z5_c17 := sc Tryz.f5 [1,1,1,1,1,0,0]
noncomputable def z5_c22 := sc Tryz.f5 [1,1,1,1,1,0,1,0,0,0,0]
noncomputable def z5_c24 : Code := .exit 0
noncomputable def z5_c23 : Code := .cond (.tmp 32) Code.skip z5_c24
noncomputable def z5_c21 : Code := .seq z5_c22 z5_c23
noncomputable def z5_c29 := sc Tryz.f5 [1,1,1,1,1,0,1,0,0,1,0,0,0,0]
noncomputable def z5_c34 := sc Tryz.f5 [1,1,1,1,1,0,1,0,0,1,0,0,0,1,0,0,0,0]
noncomputable def z5_c36 : Code := .exit 2
noncomputable def z5_c35 : Code := .cond (.tmp 41) Code.skip z5_c36
noncomputable def z5_c33 : Code := .seq z5_c34 z5_c35
noncomputable def z5_c41 := sc Tryz.f5 [1,1,1,1,1,0,1,0,0,1,0,0,0,1,0,0,1,0,0,0,0]
noncomputable def z5_c44 := sc Tryz.f5 [1,1,1,1,1,0,1,0,0,1,0,0,0,1,0,0,1,0,0,0,1,0,0]
noncomputable def z5_c43 : Code := .seq z5_c44 Code.ret
noncomputable def z5_c42 : Code := .cond (.tmp 49) z5_c43 Code.skip
noncomputable def z5_c40 : Code := .seq z5_c41 z5_c42
noncomputable def z5_c45 := sc Tryz.f5 [1,1,1,1,1,0,1,0,0,1,0,0,0,1,0,0,1,0,0,1]
noncomputable def z5_c39 : Code := .seq z5_c40 z5_c45
noncomputable def z5_c38 : Code := .block 3 z5_c39
noncomputable def z5_c46 := sc Tryz.f5 [1,1,1,1,1,0,1,0,0,1,0,0,0,1,0,0,1,1]
noncomputable def z5_c37 : Code := .seq z5_c38 z5_c46
noncomputable def z5_c32 : Code := .seq z5_c33 z5_c37
noncomputable def z5_c31 : Code := .loop z5_c32
noncomputable def z5_c30 : Code := .block 2 z5_c31
noncomputable def z5_c28 : Code := .seq z5_c29 z5_c30
noncomputable def z5_c48 := sc Tryz.f5 [1,1,1,1,1,0,1,0,0,1,0,0,1,0]
noncomputable def z5_c49 := sc Tryz.f5 [1,1,1,1,1,0,1,0,0,1,0,0,1,1]
noncomputable def z5_c47 : Code := .seq z5_c48 z5_c49
noncomputable def z5_c27 : Code := .seq z5_c28 z5_c47
noncomputable def z5_c26 : Code := .block 1 z5_c27
noncomputable def z5_c50 := sc Tryz.f5 [1,1,1,1,1,0,1,0,0,1,1]
noncomputable def z5_c25 : Code := .seq z5_c26 z5_c50
noncomputable def z5_c20 : Code := .seq z5_c21 z5_c25
noncomputable def z5_c19 : Code := .loop z5_c20
noncomputable def z5_c18 : Code := .block 0 z5_c19
noncomputable def z5_c16 : Code := .seq z5_c17 z5_c18
noncomputable def z5_c53 := sc Tryz.f5 [1,1,1,1,1,1,0,0]
noncomputable def z5_c58 := sc Tryz.f5 [1,1,1,1,1,1,0,1,0,0,0,0]
noncomputable def z5_c60 : Code := .exit 4
noncomputable def z5_c59 : Code := .cond (.tmp 61) Code.skip z5_c60
noncomputable def z5_c57 : Code := .seq z5_c58 z5_c59
noncomputable def z5_c64 := sc Tryz.f5 [1,1,1,1,1,1,0,1,0,0,1,0,0,0]
noncomputable def z5_c66 := sc Tryz.f5 [1,1,1,1,1,1,0,1,0,0,1,0,0,1,0]
noncomputable def z5_c68 := sc Tryz.f5 [1,1,1,1,1,1,0,1,0,0,1,0,0,1,1,0]
noncomputable def z5_c70 := sc Tryz.f5 [1,1,1,1,1,1,0,1,0,0,1,0,0,1,1,1,0]
noncomputable def z5_c73 := sc Tryz.f5 [1,1,1,1,1,1,0,1,0,0,1,0,0,1,1,1,1,0,0]
noncomputable def z5_c72 : Code := .seq z5_c73 Code.ret
noncomputable def z5_c71 : Code := .cond (.tmp 94) z5_c72 Code.skip
noncomputable def z5_c69 : Code := .seq z5_c70 z5_c71
noncomputable def z5_c67 : Code := .seq z5_c68 z5_c69
noncomputable def z5_c65 : Code := .seq z5_c66 z5_c67
noncomputable def z5_c63 : Code := .seq z5_c64 z5_c65
noncomputable def z5_c62 : Code := .block 5 z5_c63
noncomputable def z5_c74 := sc Tryz.f5 [1,1,1,1,1,1,0,1,0,0,1,1]
noncomputable def z5_c61 : Code := .seq z5_c62 z5_c74
noncomputable def z5_c56 : Code := .seq z5_c57 z5_c61
noncomputable def z5_c55 : Code := .loop z5_c56
noncomputable def z5_c54 : Code := .block 4 z5_c55
noncomputable def z5_c52 : Code := .seq z5_c53 z5_c54
noncomputable def z5_c77 := sc Tryz.f5 [1,1,1,1,1,1,1,0,0]
noncomputable def z5_c82 := sc Tryz.f5 [1,1,1,1,1,1,1,0,1,0,0,0,0]
noncomputable def z5_c84 : Code := .exit 6
noncomputable def z5_c83 : Code := .cond (.tmp 98) Code.skip z5_c84
noncomputable def z5_c81 : Code := .seq z5_c82 z5_c83
noncomputable def z5_c88 := sc Tryz.f5 [1,1,1,1,1,1,1,0,1,0,0,1,0,0,0]
noncomputable def z5_c90 := sc Tryz.f5 [1,1,1,1,1,1,1,0,1,0,0,1,0,0,1,0]
noncomputable def z5_c92 := sc Tryz.f5 [1,1,1,1,1,1,1,0,1,0,0,1,0,0,1,1,0]
noncomputable def z5_c95 := sc Tryz.f5 [1,1,1,1,1,1,1,0,1,0,0,1,0,0,1,1,1,0,0]
noncomputable def z5_c94 : Code := .seq z5_c95 Code.ret
noncomputable def z5_c93 : Code := .cond (.tmp 127) z5_c94 Code.skip
noncomputable def z5_c91 : Code := .seq z5_c92 z5_c93
noncomputable def z5_c89 : Code := .seq z5_c90 z5_c91
noncomputable def z5_c87 : Code := .seq z5_c88 z5_c89
noncomputable def z5_c86 : Code := .block 7 z5_c87
noncomputable def z5_c96 := sc Tryz.f5 [1,1,1,1,1,1,1,0,1,0,0,1,1]
noncomputable def z5_c85 : Code := .seq z5_c86 z5_c96
noncomputable def z5_c80 : Code := .seq z5_c81 z5_c85
noncomputable def z5_c79 : Code := .loop z5_c80
noncomputable def z5_c78 : Code := .block 6 z5_c79
noncomputable def z5_c76 : Code := .seq z5_c77 z5_c78
noncomputable def z5_c98 := sc Tryz.f5 [1,1,1,1,1,1,1,1,0]
noncomputable def z5_c97 : Code := .seq z5_c98 Code.ret
noncomputable def z5_c75 : Code := .seq z5_c76 z5_c97
noncomputable def z5_c51 : Code := .seq z5_c52 z5_c75
noncomputable def z5_c15 : Code := .seq z5_c16 z5_c51
noncomputable def z5_c13 : Code := .seq z5_c14 z5_c15
noncomputable def z5_c11 : Code := .seq z5_c12 z5_c13
noncomputable def z5_c5 : Code := .seq z5_c6 z5_c11
noncomputable def z5_c3 : Code := .seq z5_c4 z5_c5
noncomputable def z5_c1 : Code := .seq z5_c2 z5_c3
def z5_pi (_ : Nat) : Pl := .nil
noncomputable def z5_g99 (S : J1) (x0 : Value) (H : Heap) : Prop :=
  S x0 H
theorem z5_g99_e (S : J1) (x H) : WE z5_pi z5_c2 129 (fun l => S (gd l 0)) x H = z5_g99 S (x 0) H := by kernel_rfl
noncomputable def z5_g100 (S : J3) (x0 : Value) (H : Heap) : Prop :=
  EvF P N.space_New #[(.int .i64 256)] H fun v20 H1 =>
  bnd (exV 0 v20) fun v21 =>
  bnd (exV 1 v20) fun v22 =>
  S x0 v21 v22 H1
theorem z5_g100_e (S : J3) (x H) : WE z5_pi z5_c4 129 (fun l => S (gd l 0) (gd l 3) (gd l 4)) x H = z5_g100 S (x 0) H := by kernel_rfl
noncomputable def z5_g101 (S : J3) (x0 x3 x4 : Value) (H : Heap) : Prop :=
  bnd (binV .int .neq x4 (.int .i64 0)) fun v24 =>
  S x0 x3 v24 H
theorem z5_g101_e (S : J3) (x H) : WE z5_pi z5_c7 129 (fun l => S (gd l 0) (gd l 3) (gd l 24)) x H = z5_g101 S (x 0) (x 3) (x 4) H := by kernel_rfl
noncomputable def z5_g102 (S : J1) (H : Heap) : Prop :=
  S (.bool false) H
theorem z5_g102_e (S : J1) (x H) : WE z5_pi z5_c10 129 (fun l => S (gd l 2)) x H = z5_g102 S  H := by kernel_rfl
noncomputable def z5_g103 (S : J3) (x0 x3 : Value) (H : Heap) : Prop :=
  S x0 x3 (.int .i64 0) H
theorem z5_g103_e (S : J3) (x H) : WE z5_pi z5_c12 129 (fun l => S (gd l 0) (gd l 3) (gd l 5)) x H = z5_g103 S (x 0) (x 3) H := by kernel_rfl
noncomputable def z5_g104 (S : J4) (x0 x3 x5 : Value) (H : Heap) : Prop :=
  S x0 x3 x5 (.slice none 0 0) H
theorem z5_g104_e (S : J4) (x H) : WE z5_pi z5_c14 129 (fun l => S (gd l 0) (gd l 3) (gd l 5) (gd l 6)) x H = z5_g104 S (x 0) (x 3) (x 5) H := by kernel_rfl
noncomputable def z5_g105 (S : J5) (x0 x3 x5 x6 : Value) (H : Heap) : Prop :=
  S x0 x3 x5 x6 (.int .i64 0) H
theorem z5_g105_e (S : J5) (x H) : WE z5_pi z5_c17 129 (fun l => S (gd l 0) (gd l 3) (gd l 5) (gd l 6) (gd l 7)) x H = z5_g105 S (x 0) (x 3) (x 5) (x 6) H := by kernel_rfl
noncomputable def z5_g107 (S : J6) (x0 x3 x5 x6 x7 : Value) (H : Heap) : Prop :=
  bnd (lenV x0) fun v27 =>
  bnd (binV .int .lss x7 v27) fun v28 =>
  brV v28
  (bnd (binV .int .lss x7 (.int .i64 30)) fun v31 =>
  S x0 x3 x5 x6 x7 v31 H)
  (S x0 x3 x5 x6 x7 (.bool false) H)
theorem z5_g107_e (S : J6) (x H) : WE z5_pi z5_c22 129 (fun l => S (gd l 0) (gd l 3) (gd l 5) (gd l 6) (gd l 7) (gd l 32)) x H = z5_g107 S (x 0) (x 3) (x 5) (x 6) (x 7) H := by kernel_rfl
noncomputable def z5_g108 (S : J6) (x0 x3 x5 x6 x7 : Value) (H : Heap) : Prop :=
  bnd (ixSV 1 x0 x7) fun v37 =>
  bnd (ldE false 1 v37 H) fun v38 =>
  EvF P N.sounderref00_Bring #[v38, (.int .i64 4)] H fun v39 H1 =>
  S x0 x3 x5 x6 x7 v39 H1
theorem z5_g108_e (S : J6) (x H) : WE z5_pi z5_c29 129 (fun l => S (gd l 0) (gd l 3) (gd l 5) (gd l 6) (gd l 7) (gd l 8)) x H = z5_g108 S (x 0) (x 3) (x 5) (x 6) (x 7) H := by kernel_rfl
noncomputable def z5_g110 (S : J7) (x0 x3 x5 x6 x7 x8 : Value) (H : Heap) : Prop :=
  bnd (binV .int .geq x8 (.int .i64 0)) fun v41 =>
  S x0 x3 x5 x6 x7 x8 v41 H
theorem z5_g110_e (S : J7) (x H) : WE z5_pi z5_c34 129 (fun l => S (gd l 0) (gd l 3) (gd l 5) (gd l 6) (gd l 7) (gd l 8) (gd l 41)) x H = z5_g110 S (x 0) (x 3) (x 5) (x 6) (x 7) (x 8) H := by kernel_rfl
noncomputable def z5_g111 (S : J7) (x0 x3 x5 x6 x7 x8 : Value) (H : Heap) : Prop :=
  EvF P N.sounderlaw17_packet #[x5, x5] H fun v47 H1 =>
  EvF P N.space_Space_Sent #[x3, v47] H1 fun v48 H2 =>
  bnd (binV .int .neq v48 (.int .i64 0)) fun v49 =>
  S x0 x3 x5 x6 x7 x8 v49 H2
theorem z5_g111_e (S : J7) (x H) : WE z5_pi z5_c41 129 (fun l => S (gd l 0) (gd l 3) (gd l 5) (gd l 6) (gd l 7) (gd l 8) (gd l 49)) x H = z5_g111 S (x 0) (x 3) (x 5) (x 6) (x 7) (x 8) H := by kernel_rfl
noncomputable def z5_g112 (S : J1) (H : Heap) : Prop :=
  S (.bool false) H
theorem z5_g112_e (S : J1) (x H) : WE z5_pi z5_c44 129 (fun l => S (gd l 2)) x H = z5_g112 S  H := by kernel_rfl
noncomputable def z5_g113 (S : J6) (x0 x3 x5 x6 x7 x8 : Value) (H : Heap) : Prop :=
  bnd (binV .int .add x5 (.int .i64 1)) fun v51 =>
  S x0 x3 v51 x6 x7 x8 H
theorem z5_g113_e (S : J6) (x H) : WE z5_pi z5_c45 129 (fun l => S (gd l 0) (gd l 3) (gd l 5) (gd l 6) (gd l 7) (gd l 8)) x H = z5_g113 S (x 0) (x 3) (x 5) (x 6) (x 7) (x 8) H := by kernel_rfl
noncomputable def z5_g114 (S : J6) (x0 x3 x5 x6 x7 x8 : Value) (H : Heap) : Prop :=
  bnd (binV .int .sub x8 (.int .i64 1)) fun v43 =>
  S x0 x3 x5 x6 x7 v43 H
theorem z5_g114_e (S : J6) (x H) : WE z5_pi z5_c46 129 (fun l => S (gd l 0) (gd l 3) (gd l 5) (gd l 6) (gd l 7) (gd l 8)) x H = z5_g114 S (x 0) (x 3) (x 5) (x 6) (x 7) (x 8) H := by kernel_rfl
noncomputable def z5_g115 (S : J5) (x0 x3 x5 x6 x7 : Value) (H : Heap) : Prop :=
  bslE 3 #[(.int .i64 0)] 1 1 [(0, x5)] H fun v54 H1 =>
  appE 3 #[(.int .i64 0)] 1 8 x6 v54 H1 fun v55 H2 =>
  S x0 x3 x5 v55 x7 H2
theorem z5_g115_e (S : J5) (x H) : WE z5_pi z5_c48 129 (fun l => S (gd l 0) (gd l 3) (gd l 5) (gd l 6) (gd l 7)) x H = z5_g115 S (x 0) (x 3) (x 5) (x 6) (x 7) H := by kernel_rfl
noncomputable def z5_g116 (S : J5) (x0 x3 x5 x6 x7 : Value) (H : Heap) : Prop :=
  bnd (binV .int .add x5 (.int .i64 1)) fun v57 =>
  S x0 x3 v57 x6 x7 H
theorem z5_g116_e (S : J5) (x H) : WE z5_pi z5_c49 129 (fun l => S (gd l 0) (gd l 3) (gd l 5) (gd l 6) (gd l 7)) x H = z5_g116 S (x 0) (x 3) (x 5) (x 6) (x 7) H := by kernel_rfl
noncomputable def z5_g117 (S : J5) (x0 x3 x5 x6 x7 : Value) (H : Heap) : Prop :=
  bnd (binV .int .add x7 (.int .i64 1)) fun v34 =>
  S x0 x3 x5 x6 v34 H
theorem z5_g117_e (S : J5) (x H) : WE z5_pi z5_c50 129 (fun l => S (gd l 0) (gd l 3) (gd l 5) (gd l 6) (gd l 7)) x H = z5_g117 S (x 0) (x 3) (x 5) (x 6) (x 7) H := by kernel_rfl
noncomputable def z5_s109 (x0 x3 x5 x6 x7 x8 : Value) (K1 : J5) (K2 : J6) (R : J1) (H : Heap) : Prop :=
  z5_g110 (fun x0 x3 x5 x6 x7 x8 x41 H => brV x41
  (z5_g111 (fun x0 x3 x5 x6 x7 x8 x49 H => brV x49
  (z5_g112 (fun x2 H => R x2 H) H)
  (z5_g113 (fun x0 x3 x5 x6 x7 x8 H => z5_g114 (fun x0 x3 x5 x6 x7 x8 H => K2 x0 x3 x5 x6 x7 x8 H) x0 x3 x5 x6 x7 x8 H) x0 x3 x5 x6 x7 x8 H)) x0 x3 x5 x6 x7 x8 H)
  (z5_g115 (fun x0 x3 x5 x6 x7 H => z5_g116 (fun x0 x3 x5 x6 x7 H => z5_g117 (fun x0 x3 x5 x6 x7 H => K1 x0 x3 x5 x6 x7 H) x0 x3 x5 x6 x7 H) x0 x3 x5 x6 x7 H) x0 x3 x5 x6 x7 H)) x0 x3 x5 x6 x7 x8 H
noncomputable def z5_q118 (R : J1) : JQ := (retQ tab z5_rs R)
noncomputable def z5_q119 (R : J1) : JQ := (thenE (fun l H => wpE tab P z5_pi z5_c51 (z5_q118 R) l H) (z5_q118 R))
noncomputable def z5_q120 (R : J1) : JQ := (blkE 0 (z5_q119 R))
noncomputable def z5_q121 (K1 : J5) (R : J1) : JQ := (thenE (fun l H => K1 (gd l 0) (gd l 3) (gd l 5) (gd l 6) (gd l 7) H) (z5_q120 R))
noncomputable def z5_q122 (K1 : J5) (R : J1) : JQ := (thenE (fun l H => wpE tab P z5_pi z5_c50 (z5_q121 K1 R) l H) (z5_q121 K1 R))
noncomputable def z5_q123 (K1 : J5) (R : J1) : JQ := (blkE 1 (z5_q122 K1 R))
noncomputable def z5_q124 (K1 : J5) (R : J1) : JQ := (thenE (fun l H => wpE tab P z5_pi z5_c47 (z5_q123 K1 R) l H) (z5_q123 K1 R))
noncomputable def z5_q125 (K1 : J5) (R : J1) : JQ := (blkE 2 (z5_q124 K1 R))
noncomputable def z5_q126 (K1 : J5) (K2 : J6) (R : J1) : JQ := (thenE (fun l H => K2 (gd l 0) (gd l 3) (gd l 5) (gd l 6) (gd l 7) (gd l 8) H) (z5_q125 K1 R))
theorem z5_s109_i (K1 : J5) (K2 : J6) (R : J1) (l : List Value) (H : Heap) (hl : l.length = 129) (h : z5_s109 (gd l 0) (gd l 3) (gd l 5) (gd l 6) (gd l 7) (gd l 8) K1 K2 R H) : wpE tab P z5_pi z5_c32 (z5_q126 K1 K2 R) l H := sq rfl <| sr rfl hl (z5_g110_e _ (gd l) _) h fun l H hl h => cd rfl h (fun h => kN rfl <| sq rfl <| bl rfl <| sq rfl <| sr rfl hl (z5_g111_e _ (gd l) _) h fun l H hl h => cd rfl h (fun h => sr rfl hl (z5_g112_e _ (gd l) _) h fun l H hl h => rt rfl h) fun h => kN rfl <| rj hl (z5_g113_e _ (gd l) _) h fun l H hl h => bN <| tN <| rj hl (z5_g114_e _ (gd l) _) h fun l H hl h => tN <| h) fun h => ex rfl <| tX <| tX <| bX <| tN <| sr rfl hl (z5_g115_e _ (gd l) _) h fun l H hl h => rj hl (z5_g116_e _ (gd l) _) h fun l H hl h => bN <| tN <| rj hl (z5_g117_e _ (gd l) _) h fun l H hl h => tN <| h
noncomputable def z5_l127 (x0 x3 x5 x6 x7 x8 : Value) (K1 : J5) (R : J1) (H : Heap) : Prop :=
  ∃ (I : J2) (μ : M2), I x5 x8 H ∧ ∀ (y5 : Value) (y8 : Value) (H : Heap), I y5 y8 H → z5_s109 x0 x3 y5 x6 x7 y8 K1 (fun z0 z3 z5 z6 z7 z8 H' => z0 = x0 ∧ z3 = x3 ∧ z6 = x6 ∧ z7 = x7 ∧ (I z5 z8 H' ∧ μ z5 z8 H' < μ y5 y8 H)) R H
noncomputable def z5_g128 (S : J3) (x3 x6 : Value) (H : Heap) : Prop :=
  S x3 x6 (.int .i64 0) H
theorem z5_g128_e (S : J3) (x H) : WE z5_pi z5_c53 129 (fun l => S (gd l 3) (gd l 6) (gd l 9)) x H = z5_g128 S (x 3) (x 6) H := by kernel_rfl
noncomputable def z5_g130 (S : J4) (x3 x6 x9 : Value) (H : Heap) : Prop :=
  bnd (lenV x6) fun v60 =>
  bnd (binV .int .lss x9 v60) fun v61 =>
  S x3 x6 x9 v61 H
theorem z5_g130_e (S : J4) (x H) : WE z5_pi z5_c58 129 (fun l => S (gd l 3) (gd l 6) (gd l 9) (gd l 61)) x H = z5_g130 S (x 3) (x 6) (x 9) H := by kernel_rfl
noncomputable def z5_g131 (S : J4) (x3 x6 x9 : Value) (H : Heap) : Prop :=
  bnd (ixSV 1 x6 x9) fun v66 =>
  bnd (ldE false 1 v66 H) fun v67 =>
  S x3 x6 x9 v67 H
theorem z5_g131_e (S : J4) (x H) : WE z5_pi z5_c64 129 (fun l => S (gd l 3) (gd l 6) (gd l 9) (gd l 10)) x H = z5_g131 S (x 3) (x 6) (x 9) H := by kernel_rfl
noncomputable def z5_g132 (S : J5) (x3 x6 x9 x10 : Value) (H : Heap) : Prop :=
  bnd (buildV #[(.int .i64 0), (.int .i64 0)] (every 1) [(0, x10), (1, x10)]) fun v72 =>
  bslE 54 #[(.int .i64 0), (.int .i64 0)] 2 1 [(0, v72)] H fun v73 H1 =>
  EvF P N.sounderlaw17_ack #[v73] H1 fun v74 H2 =>
  EvF P N.space_Space_Ack #[x3, v74] H2 fun v75 H3 =>
  bnd (exV 0 v75) fun _ =>
  bnd (exV 1 v75) fun v77 =>
  S x3 x6 x9 x10 v77 H3
theorem z5_g132_e (S : J5) (x H) : WE z5_pi z5_c66 129 (fun l => S (gd l 3) (gd l 6) (gd l 9) (gd l 10) (gd l 12)) x H = z5_g132 S (x 3) (x 6) (x 9) (x 10) H := by kernel_rfl
noncomputable def z5_g133 (S : J5) (x3 x6 x9 x10 x12 : Value) (H : Heap) : Prop :=
  bnd (binV .int .sub x10 (.int .i64 1)) fun v81 =>
  bnd (buildV #[(.int .i64 0), (.int .i64 0)] (every 1) [(0, v81), (1, x10)]) fun v83 =>
  bslE 54 #[(.int .i64 0), (.int .i64 0)] 2 1 [(0, v83)] H fun v84 H1 =>
  EvF P N.sounderlaw17_ack #[v84] H1 fun v85 H2 =>
  EvF P N.space_Space_Ack #[x3, v85] H2 fun v86 H3 =>
  bnd (exV 0 v86) fun _ =>
  bnd (exV 1 v86) fun v88 =>
  S x3 x6 x9 x12 v88 H3
theorem z5_g133_e (S : J5) (x H) : WE z5_pi z5_c68 129 (fun l => S (gd l 3) (gd l 6) (gd l 9) (gd l 12) (gd l 14)) x H = z5_g133 S (x 3) (x 6) (x 9) (x 10) (x 12) H := by kernel_rfl
noncomputable def z5_g134 (S : J4) (x3 x6 x9 x12 x14 : Value) (H : Heap) : Prop :=
  bnd (binV .int .neq x12 (.int .i64 170)) fun v90 =>
  brV v90
  (S x3 x6 x9 (.bool true) H)
  (bnd (binV .int .neq x14 (.int .i64 170)) fun v93 =>
  S x3 x6 x9 v93 H)
theorem z5_g134_e (S : J4) (x H) : WE z5_pi z5_c70 129 (fun l => S (gd l 3) (gd l 6) (gd l 9) (gd l 94)) x H = z5_g134 S (x 3) (x 6) (x 9) (x 12) (x 14) H := by kernel_rfl
noncomputable def z5_g135 (S : J1) (H : Heap) : Prop :=
  S (.bool false) H
theorem z5_g135_e (S : J1) (x H) : WE z5_pi z5_c73 129 (fun l => S (gd l 2)) x H = z5_g135 S  H := by kernel_rfl
noncomputable def z5_g136 (S : J3) (x3 x6 x9 : Value) (H : Heap) : Prop :=
  bnd (binV .int .add x9 (.int .i64 1)) fun v63 =>
  S x3 x6 v63 H
theorem z5_g136_e (S : J3) (x H) : WE z5_pi z5_c74 129 (fun l => S (gd l 3) (gd l 6) (gd l 9)) x H = z5_g136 S (x 3) (x 6) (x 9) H := by kernel_rfl
noncomputable def z5_g137 (S : J3) (x3 x6 : Value) (H : Heap) : Prop :=
  S x3 x6 (.int .i64 0) H
theorem z5_g137_e (S : J3) (x H) : WE z5_pi z5_c77 129 (fun l => S (gd l 3) (gd l 6) (gd l 15)) x H = z5_g137 S (x 3) (x 6) H := by kernel_rfl
noncomputable def z5_g139 (S : J4) (x3 x6 x15 : Value) (H : Heap) : Prop :=
  bnd (lenV x6) fun v97 =>
  bnd (binV .int .lss x15 v97) fun v98 =>
  S x3 x6 x15 v98 H
theorem z5_g139_e (S : J4) (x H) : WE z5_pi z5_c82 129 (fun l => S (gd l 3) (gd l 6) (gd l 15) (gd l 98)) x H = z5_g139 S (x 3) (x 6) (x 15) H := by kernel_rfl
noncomputable def z5_g140 (S : J4) (x3 x6 x15 : Value) (H : Heap) : Prop :=
  bnd (ixSV 1 x6 x15) fun v103 =>
  bnd (ldE false 1 v103 H) fun v104 =>
  S x3 x6 x15 v104 H
theorem z5_g140_e (S : J4) (x H) : WE z5_pi z5_c88 129 (fun l => S (gd l 3) (gd l 6) (gd l 15) (gd l 16)) x H = z5_g140 S (x 3) (x 6) (x 15) H := by kernel_rfl
noncomputable def z5_g141 (S : J6) (x3 x6 x15 x16 : Value) (H : Heap) : Prop :=
  bnd (binV .int .sub x16 (.int .i64 1)) fun v108 =>
  bnd (binV .int .sub x16 (.int .i64 1)) fun v110 =>
  bnd (buildV #[(.int .i64 0), (.int .i64 0)] (every 1) [(0, v108), (1, v110)]) fun v111 =>
  bslE 54 #[(.int .i64 0), (.int .i64 0)] 2 1 [(0, v111)] H fun v112 H1 =>
  EvF P N.sounderlaw17_ack #[v112] H1 fun v113 H2 =>
  EvF P N.space_Space_Ack #[x3, v113] H2 fun v114 H3 =>
  bnd (exV 0 v114) fun v115 =>
  bnd (exV 1 v114) fun v116 =>
  S x3 x6 x15 x16 v115 v116 H3
theorem z5_g141_e (S : J6) (x H) : WE z5_pi z5_c90 129 (fun l => S (gd l 3) (gd l 6) (gd l 15) (gd l 16) (gd l 17) (gd l 18)) x H = z5_g141 S (x 3) (x 6) (x 15) (x 16) H := by kernel_rfl
noncomputable def z5_g142 (S : J4) (x3 x6 x15 x16 x17 x18 : Value) (H : Heap) : Prop :=
  bnd (binV .int .neq x18 (.int .i64 0)) fun v118 =>
  brV v118
  (S x3 x6 x15 (.bool true) H)
  (EvF P N.sounderlaw17_numbersOf #[x17] H fun v121 H1 =>
  bnd (binV .int .sub x16 (.int .i64 1)) fun v123 =>
  bslE 3 #[(.int .i64 0)] 1 1 [(0, v123)] H1 fun v124 H2 =>
  EvF P N.sounderref00_EqInts #[v121, v124] H2 fun v125 H3 =>
  bnd (unV .not v125) fun v126 =>
  S x3 x6 x15 v126 H3)
theorem z5_g142_e (S : J4) (x H) : WE z5_pi z5_c92 129 (fun l => S (gd l 3) (gd l 6) (gd l 15) (gd l 127)) x H = z5_g142 S (x 3) (x 6) (x 15) (x 16) (x 17) (x 18) H := by kernel_rfl
noncomputable def z5_g143 (S : J1) (H : Heap) : Prop :=
  S (.bool false) H
theorem z5_g143_e (S : J1) (x H) : WE z5_pi z5_c95 129 (fun l => S (gd l 2)) x H = z5_g143 S  H := by kernel_rfl
noncomputable def z5_g144 (S : J3) (x3 x6 x15 : Value) (H : Heap) : Prop :=
  bnd (binV .int .add x15 (.int .i64 1)) fun v100 =>
  S x3 x6 v100 H
theorem z5_g144_e (S : J3) (x H) : WE z5_pi z5_c96 129 (fun l => S (gd l 3) (gd l 6) (gd l 15)) x H = z5_g144 S (x 3) (x 6) (x 15) H := by kernel_rfl
noncomputable def z5_g145 (S : J1) (H : Heap) : Prop :=
  EvF P N.sounderlaw17_works #[] H fun v128 H1 =>
  S v128 H1
theorem z5_g145_e (S : J1) (x H) : WE z5_pi z5_c98 129 (fun l => S (gd l 2)) x H = z5_g145 S  H := by kernel_rfl
noncomputable def z5_s138 (x3 x6 x15 : Value) (K4 : J3) (R : J1) (H : Heap) : Prop :=
  z5_g139 (fun x3 x6 x15 x98 H => brV x98
  (z5_g140 (fun x3 x6 x15 x16 H => z5_g141 (fun x3 x6 x15 x16 x17 x18 H => z5_g142 (fun x3 x6 x15 x127 H => brV x127
  (z5_g143 (fun x2 H => R x2 H) H)
  (z5_g144 (fun x3 x6 x15 H => K4 x3 x6 x15 H) x3 x6 x15 H)) x3 x6 x15 x16 x17 x18 H) x3 x6 x15 x16 H) x3 x6 x15 H)
  (z5_g145 (fun x2 H => R x2 H) H)) x3 x6 x15 H
noncomputable def z5_q146 (R : J1) : JQ := (thenE (fun l H => wpE tab P z5_pi z5_c97 (z5_q118 R) l H) (z5_q118 R))
noncomputable def z5_q147 (R : J1) : JQ := (blkE 6 (z5_q146 R))
noncomputable def z5_q148 (K4 : J3) (R : J1) : JQ := (thenE (fun l H => K4 (gd l 3) (gd l 6) (gd l 15) H) (z5_q147 R))
theorem z5_s138_i (K4 : J3) (R : J1) (l : List Value) (H : Heap) (hl : l.length = 129) (h : z5_s138 (gd l 3) (gd l 6) (gd l 15) K4 R H) : wpE tab P z5_pi z5_c80 (z5_q148 K4 R) l H := sq rfl <| sr rfl hl (z5_g139_e _ (gd l) _) h fun l H hl h => cd rfl h (fun h => kN rfl <| sq rfl <| bl rfl <| sr rfl hl (z5_g140_e _ (gd l) _) h fun l H hl h => sr rfl hl (z5_g141_e _ (gd l) _) h fun l H hl h => sr rfl hl (z5_g142_e _ (gd l) _) h fun l H hl h => cd rfl h (fun h => sr rfl hl (z5_g143_e _ (gd l) _) h fun l H hl h => rt rfl h) fun h => sk rfl <| bN <| tN <| rj hl (z5_g144_e _ (gd l) _) h fun l H hl h => tN <| h) fun h => ex rfl <| tX <| tX <| bX <| tN <| sr rfl hl (z5_g145_e _ (gd l) _) h fun l H hl h => rt rfl h
noncomputable def z5_l149 (x3 x6 x15 : Value) (R : J1) (H : Heap) : Prop :=
  ∃ (I : J1) (μ : M1), I x15 H ∧ ∀ (y15 : Value) (H : Heap), I y15 H → z5_s138 x3 x6 y15 (fun z3 z6 z15 H' => z3 = x3 ∧ z6 = x6 ∧ (I z15 H' ∧ μ z15 H' < μ y15 H)) R H
noncomputable def z5_s129 (x3 x6 x9 : Value) (K3 : J3) (R : J1) (H : Heap) : Prop :=
  z5_g130 (fun x3 x6 x9 x61 H => brV x61
  (z5_g131 (fun x3 x6 x9 x10 H => z5_g132 (fun x3 x6 x9 x10 x12 H => z5_g133 (fun x3 x6 x9 x12 x14 H => z5_g134 (fun x3 x6 x9 x94 H => brV x94
  (z5_g135 (fun x2 H => R x2 H) H)
  (z5_g136 (fun x3 x6 x9 H => K3 x3 x6 x9 H) x3 x6 x9 H)) x3 x6 x9 x12 x14 H) x3 x6 x9 x10 x12 H) x3 x6 x9 x10 H) x3 x6 x9 H)
  (z5_g137 (fun x3 x6 x15 H => z5_l149 x3 x6 x15 R H) x3 x6 H)) x3 x6 x9 H
noncomputable def z5_q150 (R : J1) : JQ := (thenE (fun l H => wpE tab P z5_pi z5_c75 (z5_q118 R) l H) (z5_q118 R))
noncomputable def z5_q151 (R : J1) : JQ := (blkE 4 (z5_q150 R))
noncomputable def z5_q152 (K3 : J3) (R : J1) : JQ := (thenE (fun l H => K3 (gd l 3) (gd l 6) (gd l 9) H) (z5_q151 R))
theorem z5_s129_i (K3 : J3) (R : J1) (l : List Value) (H : Heap) (hl : l.length = 129) (h : z5_s129 (gd l 3) (gd l 6) (gd l 9) K3 R H) : wpE tab P z5_pi z5_c56 (z5_q152 K3 R) l H := sq rfl <| sr rfl hl (z5_g130_e _ (gd l) _) h fun l H hl h => cd rfl h (fun h => kN rfl <| sq rfl <| bl rfl <| sr rfl hl (z5_g131_e _ (gd l) _) h fun l H hl h => sr rfl hl (z5_g132_e _ (gd l) _) h fun l H hl h => sr rfl hl (z5_g133_e _ (gd l) _) h fun l H hl h => sr rfl hl (z5_g134_e _ (gd l) _) h fun l H hl h => cd rfl h (fun h => sr rfl hl (z5_g135_e _ (gd l) _) h fun l H hl h => rt rfl h) fun h => sk rfl <| bN <| tN <| rj hl (z5_g136_e _ (gd l) _) h fun l H hl h => tN <| h) fun h => ex rfl <| tX <| tX <| bX <| tN <| sq rfl <| sr rfl hl (z5_g137_e _ (gd l) _) h fun l H hl h => bl rfl <| (by
    obtain ⟨I, μ, h0, hr⟩ := h
    refine loopI (c := z5_c79) rfl (fun l' H' => gd l' 3 = gd l 3 ∧ gd l' 6 = gd l 6 ∧ I (gd l' 15) H') (fun l' H' => μ (gd l' 15) H') hl ⟨rfl, rfl, h0⟩ ?_
    rintro l1 H1 hl1 ⟨e3, e6, hI⟩
    have hb := hr (gd l1 15) H1 hI
    rw [← e3, ← e6] at hb
    refine wpE_mono _ l1 H1 hl1 ?_ (z5_s138_i _ R l1 H1 hl1 hb)
    intro e l2 H2 hl2 hq
    cases e with
    | normal => exact fun _ => (by obtain ⟨d3, d6, g1, g2⟩ := hq; exact ⟨⟨d3.trans e3, d6.trans e6, g1⟩, g2⟩)
    | _ => exact hq)
noncomputable def z5_l153 (x3 x6 x9 : Value) (R : J1) (H : Heap) : Prop :=
  ∃ (I : J1) (μ : M1), I x9 H ∧ ∀ (y9 : Value) (H : Heap), I y9 H → z5_s129 x3 x6 y9 (fun z3 z6 z9 H' => z3 = x3 ∧ z6 = x6 ∧ (I z9 H' ∧ μ z9 H' < μ y9 H)) R H
noncomputable def z5_s106 (x0 x3 x5 x6 x7 : Value) (K1 : J5) (R : J1) (H : Heap) : Prop :=
  z5_g107 (fun x0 x3 x5 x6 x7 x32 H => brV x32
  (z5_g108 (fun x0 x3 x5 x6 x7 x8 H => z5_l127 x0 x3 x5 x6 x7 x8 K1 R H) x0 x3 x5 x6 x7 H)
  (z5_g128 (fun x3 x6 x9 H => z5_l153 x3 x6 x9 R H) x3 x6 H)) x0 x3 x5 x6 x7 H
theorem z5_s106_i (K1 : J5) (R : J1) (l : List Value) (H : Heap) (hl : l.length = 129) (h : z5_s106 (gd l 0) (gd l 3) (gd l 5) (gd l 6) (gd l 7) K1 R H) : wpE tab P z5_pi z5_c20 (z5_q121 K1 R) l H := sq rfl <| sr rfl hl (z5_g107_e _ (gd l) _) h fun l H hl h => cd rfl h (fun h => kN rfl <| sq rfl <| bl rfl <| sq rfl <| sr rfl hl (z5_g108_e _ (gd l) _) h fun l H hl h => bl rfl <| (by
    obtain ⟨I, μ, h0, hr⟩ := h
    refine loopI (c := z5_c31) rfl (fun l' H' => gd l' 0 = gd l 0 ∧ gd l' 3 = gd l 3 ∧ gd l' 6 = gd l 6 ∧ gd l' 7 = gd l 7 ∧ I (gd l' 5) (gd l' 8) H') (fun l' H' => μ (gd l' 5) (gd l' 8) H') hl ⟨rfl, rfl, rfl, rfl, h0⟩ ?_
    rintro l1 H1 hl1 ⟨e0, e3, e6, e7, hI⟩
    have hb := hr (gd l1 5) (gd l1 8) H1 hI
    rw [← e0, ← e3, ← e6, ← e7] at hb
    refine wpE_mono _ l1 H1 hl1 ?_ (z5_s109_i K1 _ R l1 H1 hl1 hb)
    intro e l2 H2 hl2 hq
    cases e with
    | normal => exact fun _ => (by obtain ⟨d0, d3, d6, d7, g1, g2⟩ := hq; exact ⟨⟨d0.trans e0, d3.trans e3, d6.trans e6, d7.trans e7, g1⟩, g2⟩)
    | _ => exact hq)) fun h => ex rfl <| tX <| tX <| bX <| tN <| sq rfl <| sr rfl hl (z5_g128_e _ (gd l) _) h fun l H hl h => bl rfl <| (by
    obtain ⟨I, μ, h0, hr⟩ := h
    refine loopI (c := z5_c55) rfl (fun l' H' => gd l' 3 = gd l 3 ∧ gd l' 6 = gd l 6 ∧ I (gd l' 9) H') (fun l' H' => μ (gd l' 9) H') hl ⟨rfl, rfl, h0⟩ ?_
    rintro l1 H1 hl1 ⟨e3, e6, hI⟩
    have hb := hr (gd l1 9) H1 hI
    rw [← e3, ← e6] at hb
    refine wpE_mono _ l1 H1 hl1 ?_ (z5_s129_i _ R l1 H1 hl1 hb)
    intro e l2 H2 hl2 hq
    cases e with
    | normal => exact fun _ => (by obtain ⟨d3, d6, g1, g2⟩ := hq; exact ⟨⟨d3.trans e3, d6.trans e6, g1⟩, g2⟩)
    | _ => exact hq)
noncomputable def z5_l154 (x0 x3 x5 x6 x7 : Value) (R : J1) (H : Heap) : Prop :=
  ∃ (I : J3) (μ : M3), I x5 x6 x7 H ∧ ∀ (y5 : Value) (y6 : Value) (y7 : Value) (H : Heap), I y5 y6 y7 H → z5_s106 x0 x3 y5 y6 y7 (fun z0 z3 z5 z6 z7 H' => z0 = x0 ∧ z3 = x3 ∧ (I z5 z6 z7 H' ∧ μ z5 z6 z7 H' < μ y5 y6 y7 H)) R H
def sounderlaw17_SpaceSkipped (x0 : Value) (R : Value → Heap → Prop) (H : Heap) : Prop :=
  z5_g99 (fun x0 H => z5_g100 (fun x0 x3 x4 H => z5_g101 (fun x0 x3 x24 H => brV x24
  (z5_g102 (fun x2 H => R x2 H) H)
  (z5_g103 (fun x0 x3 x5 H => z5_g104 (fun x0 x3 x5 x6 H => z5_g105 (fun x0 x3 x5 x6 x7 H => z5_l154 x0 x3 x5 x6 x7 R H) x0 x3 x5 x6 H) x0 x3 x5 H) x0 x3 H)) x0 x3 x4 H) x0 H) x0 H
theorem z5_ev0 (x0 : Value) (R : J1) (H : Heap) (h : sounderlaw17_SpaceSkipped x0 R H) : EvL P N.sounderlaw17_SpaceSkipped #[x0] H R := EvF_intro (args := [x0]) (k := 128) (rs := z5_rs) tab_ok mixed Tryz.func5 (show Tryz.f5.body = some z5_c1 by kernel_rfl) Tryz.call5 Tryz.ntmps5 (by kernel_rfl) (okCode_of _ (show okB z5_pi z5_c1 = true by kernel_rfl)) (fr_eq _ _) (fj (n := 129) rfl (fun l hl (h : sounderlaw17_SpaceSkipped (gd l 0) R H) => sr rfl hl (z5_g99_e _ (gd l) _) h fun l H hl h => sr rfl hl (z5_g100_e _ (gd l) _) h fun l H hl h => sq rfl <| sr rfl hl (z5_g101_e _ (gd l) _) h fun l H hl h => cd rfl h (fun h => sr rfl hl (z5_g102_e _ (gd l) _) h fun l H hl h => rt rfl h) fun h => kN rfl <| sr rfl hl (z5_g103_e _ (gd l) _) h fun l H hl h => sr rfl hl (z5_g104_e _ (gd l) _) h fun l H hl h => sq rfl <| sr rfl hl (z5_g105_e _ (gd l) _) h fun l H hl h => bl rfl <| (by
    obtain ⟨I, μ, h0, hr⟩ := h
    refine loopI (c := z5_c19) rfl (fun l' H' => gd l' 0 = gd l 0 ∧ gd l' 3 = gd l 3 ∧ I (gd l' 5) (gd l' 6) (gd l' 7) H') (fun l' H' => μ (gd l' 5) (gd l' 6) (gd l' 7) H') hl ⟨rfl, rfl, h0⟩ ?_
    rintro l1 H1 hl1 ⟨e0, e3, hI⟩
    have hb := hr (gd l1 5) (gd l1 6) (gd l1 7) H1 hI
    rw [← e0, ← e3] at hb
    refine wpE_mono _ l1 H1 hl1 ?_ (z5_s106_i _ R l1 H1 hl1 hb)
    intro e l2 H2 hl2 hq
    cases e with
    | normal => exact fun _ => (by obtain ⟨d0, d3, g1, g2⟩ := hq; exact ⟨⟨d0.trans e0, d3.trans e3, g1⟩, g2⟩)
    | _ => exact hq)) h)
theorem z5_ev (x0 : Value) (R : J1) (H : Heap) (h : sounderlaw17_SpaceSkipped x0 R H) : EvF P N.sounderlaw17_SpaceSkipped #[x0] H R := .inl (z5_ev0 x0 R H h)
end Go.Hc
set_option linter.unusedSimpArgs false
set_option linter.unusedVariables false
namespace Go.Hc
open Go

theorem Sep.shI {H0 K : Heap} {v : Value} {l : List Int} {Q : List Asr} (h : Sep H0 K (lstA intE v l :: Q)) : ShowA intE K v l := by obtain ⟨T, o⟩ := h.list; exact o.showA
theorem Sep.shP {H0 K : Heap} {v : Value} {l : List Pkt} {Q : List Asr} (h : Sep H0 K (lstA pktE v l :: Q)) : ShowA pktE K v l := by obtain ⟨T, o⟩ := h.list; exact o.showA
theorem Sep.shR {H0 K : Heap} {v : Value} {l : List Rng} {Q : List Asr} (h : Sep H0 K (lstA rngE v l :: Q)) : ShowA rngE K v l := by obtain ⟨T, o⟩ := h.list; exact o.showA
/-- What is behind some packets: n is next, those of sk were skipped. -/
structure SkI (s : Sp) (n : Int) (ks : List Int) (c : Nat) : Prop where
  room : s.room = 256
  n0 : 0 ≤ n ∧ n ≤ 1000
  top : s.top < n
  kn : ∀ m, Mem s.kn m ↔ 0 ≤ m ∧ m < n ∧ m ∉ ks
  num : ∀ m, 0 ≤ m → m < n → m ∉ ks → m ∈ ints s.L
  sk : ∀ k ∈ ks, 1 ≤ k ∧ k < n ∧ k - 1 ∉ ks
  lenL : s.L.length ≤ c
  lenK : s.kn.length ≤ c
  dis : ks.Pairwise (· ≠ ·)
theorem SkI.send {s : Sp} {n : Int} {sk : List Int} {c : Nat} (h : SkI s n sk c) (hk : Okr s.kn) (hc : c ≤ 200) (hn : n ≤ 900) : mayE s (pk n n) = 0 ∧ SkI (sentS s (pk n n)) (n + 1) sk (c + 1) := by
  have h1 := h.n0
  have h2 := h.top
  have h3 := h.lenL
  have h4 := h.lenK
  have hp : putE s.room s.top s.L (pk n n) = 0 := by
    unfold putE
    rw [if_pos (by unfold May pk; simp only; omega), if_neg (by simp only [pk]; omega), if_neg (by rw [h.room]; omega)]
  have ha : addE 256 s.kn n n = 0 := addE_few hk (by omega) (by omega) (by omega)
  have hm : mayE s (pk n n) = 0 := by unfold mayE; rw [if_pos hp]; exact ha
  refine ⟨hm, ?_⟩
  unfold sentS
  rw [if_pos hm]
  have hsk : n ∉ sk := fun hx => by have := h.sk n hx; omega
  refine ⟨h.room, by omega, by simp only [pk]; omega, fun m => ?_, fun m m0 m1 m2 => ?_, fun k hk' => ?_, by simp; omega, ?_, ?_⟩
  · show Mem (addS 256 s.kn n n) m ↔ _
    rw [addS_mem hk ha, h.kn m]
    constructor
    · rintro (⟨a, b, c⟩ | rfl)
      · exact ⟨a, by omega, c⟩
      · exact ⟨by omega, by omega, hsk⟩
    · rintro ⟨a, b, c⟩
      by_cases e : m = n
      · exact .inr e
      · exact .inl ⟨a, by omega, c⟩
  · rw [mem_ints]
    by_cases e : m = n
    · exact ⟨pk n n, by simp, by rw [e]; rfl⟩
    · obtain ⟨p, hp, e⟩ := mem_ints.1 (h.num m m0 (by omega) m2)
      exact ⟨p, by simp [hp], e⟩
  · have := h.sk k hk'
    exact ⟨this.1, by omega, this.2.2⟩
  · have := addS_len hk (n := n)
    show (addS 256 s.kn n n).length ≤ _
    omega
  · exact h.dis
theorem SkI.skip {s : Sp} {n : Int} {sk : List Int} {c : Nat} (h : SkI s n sk c) (hn : 1 ≤ n ∧ n ≤ 900) (hlast : n - 1 ∉ sk) : SkI s (n + 1) (sk ++ [n]) c := by
  refine ⟨h.room, by omega, by have := h.top; omega, fun m => ?_, fun m m0 m1 m2 => ?_, fun k hk' => ?_, h.lenL, h.lenK, ?_⟩
  · rw [h.kn m, List.mem_append, List.mem_singleton]
    constructor
    · rintro ⟨a, b, c⟩
      exact ⟨a, by omega, fun h => h.elim c (by omega)⟩
    · rintro ⟨a, b, c⟩
      have : m ≠ n := fun e => c (.inr e)
      exact ⟨a, by omega, fun h => c (.inl h)⟩
  · rw [List.mem_append, List.mem_singleton] at m2
    have : m ≠ n := fun e => m2 (.inr e)
    exact h.num m m0 (by omega) (fun h => m2 (.inl h))
  · rw [List.mem_append, List.mem_singleton] at hk'
    rw [List.mem_append, List.mem_singleton]
    rcases hk' with hk' | rfl
    · have := h.sk k hk'
      exact ⟨this.1, by omega, fun h => h.elim this.2.2 (by omega)⟩
    · exact ⟨hn.1, by omega, fun h => h.elim hlast (by omega)⟩
  · rw [List.pairwise_append]
    refine ⟨h.dis, by simp, fun a ha b hb => ?_⟩
    rw [List.mem_singleton.1 hb]
    have := h.sk a ha; omega
set_option maxHeartbeats 1000000 in
theorem Skipped_ev {H : Heap} {v : Value} {l : List Int} {R : Value → Heap → Prop} (hv : ShowA intE H v l) (hin : ∀ x ∈ l, In64 x) (hR : ∀ H', Ext [] H H' → R (.bool true) H') : EvL P N.sounderlaw17_SpaceSkipped #[v] H R := by
  refine z5_ev0 _ _ _ ?_
  simp only [sounderlaw17_SpaceSkipped, z5_g99, z5_g100]
  refine spNew_sep (Sep.nil H) (fun h => absurd ⟨by decide, by decide⟩ h) fun room s H1 hr _ _ h => ?_
  obtain rfl : room = 256 := by omega
  try simp only [ew, Nat.reduceAdd, Nat.reduceMul, Nat.reduceLeDiff, Int.reduceBNe, Int.reduceBEq, Int.reduceLT, Int.reduceLE, z5_g101]
  try simp only [ew, Nat.reduceAdd, Nat.reduceMul, Nat.reduceLeDiff, Int.reduceBNe, Int.reduceBEq, Int.reduceLT, Int.reduceLE, z5_g103, z5_g104, z5_g105, z5_l154]
  have hsm := hv.small
  refine ⟨fun x5 x6 x7 K => ∃ (i : Nat) (n : Int) (sk : List Int) (sp : Sp), x5 = iv n ∧ x7 = iv i ∧ i ≤ 30 ∧ i ≤ l.length ∧ n ≤ 5 * i ∧ sk.length = i ∧ SkI sp n sk (4 * i) ∧ Sep H K [lstA intE x6 sk, spA s sp],
    fun _ _ x7 _ => (match x7 with | .int _ i => (30 - i).toNat | _ => 0), ⟨0, 0, [], sp0 256, rfl, rfl, by omega, by omega, by omega, rfl, ?_, h.nilL⟩, ?_⟩
  · exact ⟨rfl, by omega, by simp [sp0], fun m => ⟨fun ⟨r, hr, _⟩ => by simp [sp0] at hr, fun h => by omega⟩, fun m _ _ => by omega, by simp, by simp [sp0], by simp [sp0], by simp⟩
  clear h
  rintro x5 x6 x7 K ⟨i, n, sk, sp, rfl, rfl, hi30, hil, hn, hsk, hI, h⟩
  have hvK := hv.ext h.only
  have hn0 := hI.n0
  simp only [z5_s106, z5_g107]
  try simp only [ew, Nat.reduceAdd, Nat.reduceMul, Nat.reduceLeDiff, Int.reduceBNe, Int.reduceBEq, Int.reduceLT, Int.reduceLE, hvK.len]
  -- the second part
  have second : z5_g128 (fun x3 x6 x9 H => z5_l153 x3 x6 x9 R H) (ptr s) x6 K := by
    have hnb : ∀ a : Int, (a != a) = false := fun a => by simp
    have hbR : ∀ x y : Int, buildV #[(.int .i64 0), (.int .i64 0)] (every 1) [(0, iv x), (1, iv y)] = some (.agg (rngC (x, y))) := fun _ _ => rfl
    simp only [z5_g128, z5_l153]
    refine ⟨fun x9 K => ∃ j : Nat, j ≤ sk.length ∧ x9 = iv j ∧ Sep H K [lstA intE x6 sk, spA s sp], fun x9 _ => (match x9 with | .int _ j => (sk.length - j).toNat | _ => 0), ⟨0, by omega, rfl, h⟩, ?_⟩
    clear h hvK
    rintro x9 K ⟨j, hj, rfl, h⟩
    have hkn := (sp_knL h.b1).1
    simp only [z5_s129, z5_g130]
    try simp only [ew, Nat.reduceAdd, Nat.reduceMul, Nat.reduceLeDiff, Int.reduceBNe, Int.reduceBEq, Int.reduceLT, Int.reduceLE, h.shI.len]
    refine brV_d (fun hlt => ?_) (fun hge => ?_)
    · have hj' : j < sk.length := by omega
      have hk := hI.sk _ (List.getElem_mem hj')
      obtain ⟨k, hkk⟩ : ∃ k, k = sk[j] := ⟨_, rfl⟩
      obtain ⟨b, o, i1, i2⟩ := h.shI.at1 hj' (rfl : (j : Int) = j)
      have hnot : ¬ Mem sp.kn sk[j] := fun hm => ((hI.kn _).1 hm).2.2 (List.getElem_mem hj')
      rw [← hkk] at hk i2 hnot
      have u1 : ackE sp (ackOf [(k, k)]) = 170 := ackE_un hkn (okA1 (by omega) (by omega) (by omega)) (List.mem_singleton.2 rfl) (n := k) (by simp) hnot
      have u2 : ackE sp (ackOf [(k - 1, k)]) = 170 := ackE_un hkn (okA1 (by omega) (by omega) (by omega)) (List.mem_singleton.2 rfl) (n := k) (by simp; omega) hnot
      have w1 : IntKind.i64.wrap (k - 1) = k - 1 := wrap_in (by omega)
      have w4 : IntKind.i64.wrap ((j : Int) + 1) = ((j + 1 : Nat) : Int) := by rw [wrap_in (by omega)]; omega
      simp only [z5_g131]
      try simp only [ew, Nat.reduceAdd, Nat.reduceMul, Nat.reduceLeDiff, Int.reduceBNe, Int.reduceBEq, Int.reduceLT, Int.reduceLE, i1, i2, z5_g132]
      try simp only [ew, Nat.reduceAdd, Nat.reduceMul, Nat.reduceLeDiff, Int.reduceBNe, Int.reduceBEq, Int.reduceLT, Int.reduceLE, hbR]
      refine ack1_sep h.b1 (fun _ K1 h1 => ?_) (fun e => absurd e (by rw [u1]; decide))
      rw [u1]
      try simp only [ew, Nat.reduceAdd, Nat.reduceMul, Nat.reduceLeDiff, Int.reduceBNe, Int.reduceBEq, Int.reduceLT, Int.reduceLE, z5_g133]
      try simp only [ew, Nat.reduceAdd, Nat.reduceMul, Nat.reduceLeDiff, Int.reduceBNe, Int.reduceBEq, Int.reduceLT, Int.reduceLE, bin_sub, w1, hbR]
      refine ack1_sep h1 (fun _ K2 h2 => ?_) (fun e => absurd e (by rw [u2]; decide))
      rw [u2]
      try simp only [ew, Nat.reduceAdd, Nat.reduceMul, Nat.reduceLeDiff, Int.reduceBNe, Int.reduceBEq, Int.reduceLT, Int.reduceLE, z5_g134]
      try simp only [ew, Nat.reduceAdd, Nat.reduceMul, Nat.reduceLeDiff, Int.reduceBNe, Int.reduceBEq, Int.reduceLT, Int.reduceLE, hnb, z5_g136]
      try simp only [ew, Nat.reduceAdd, Nat.reduceMul, Nat.reduceLeDiff, Int.reduceBNe, Int.reduceBEq, Int.reduceLT, Int.reduceLE, bin_add, w4]
      exact ⟨⟨j + 1, by omega, rfl, h2.b1⟩, by show _ < _; omega⟩
    · simp only [z5_g137, z5_l149]
      have hdis : ∀ a b : Nat, ∀ (ha : a < sk.length) (hb : b < sk.length), a ≠ b → sk[a] ≠ sk[b] := fun a b ha hb hab => List.pairwise_iff_getElem.1 hI.dis |> fun hp => by
        rcases Nat.lt_or_gt_of_ne hab with h | h
        · exact hp a b ha hb h
        · exact Ne.symm (hp b a hb ha h)
      refine ⟨fun x15 K => ∃ (j : Nat) (sp2 : Sp), j ≤ sk.length ∧ x15 = iv j ∧ sp2.kn = sp.kn ∧ (∀ a (ha : a < sk.length), j ≤ a → sk[a] - 1 ∈ ints sp2.L) ∧ Sep H K [lstA intE x6 sk, spA s sp2], fun x15 _ => (match x15 with | .int _ j => (sk.length - j).toNat | _ => 0),
        ⟨0, sp, by omega, rfl, rfl, fun a ha _ => ?_, h⟩, ?_⟩
      · have := hI.sk _ (List.getElem_mem ha)
        exact hI.num _ (by omega) (by omega) this.2.2
      clear h hj hge
      rintro x15 K ⟨j, sp2, hj, rfl, hkn2, hnum, h⟩
      simp only [z5_s138, z5_g139]
      try simp only [ew, Nat.reduceAdd, Nat.reduceMul, Nat.reduceLeDiff, Int.reduceBNe, Int.reduceBEq, Int.reduceLT, Int.reduceLE, h.shI.len]
      refine brV_d (fun hlt => ?_) (fun hge => ?_)
      · have hj' : j < sk.length := by omega
        have hk := hI.sk _ (List.getElem_mem hj')
        obtain ⟨k, hkk⟩ : ∃ k, k = sk[j] := ⟨_, rfl⟩
        obtain ⟨b, o, i1, i2⟩ := h.shI.at1 hj' (rfl : (j : Int) = j)
        obtain ⟨p, hp, hpn⟩ := mem_ints.1 (hnum j hj' (Nat.le_refl _))
        rw [← hkk] at hk i2 hpn
        have hmem : Mem sp2.kn (k - 1) := by rw [hkn2, hI.kn]; exact ⟨by omega, by omega, hk.2.2⟩
        have u1 : ackE sp2 (ackOf [(k - 1, k - 1)]) = 0 := ackE_in (by rw [hkn2]; exact hkn) (okA1 (by omega) (by omega) (by omega)) (fun r hr => by
          rw [List.mem_singleton.1 hr]
          exact ⟨Int.le_refl _, fun n a b => (show n = k - 1 by omega) ▸ hmem⟩)
        have w1 : IntKind.i64.wrap (k - 1) = k - 1 := wrap_in (by omega)
        have w4 : IntKind.i64.wrap ((j : Int) + 1) = ((j + 1 : Nat) : Int) := by rw [wrap_in (by omega)]; omega
        have hrise := (sp_mayL h.b1).1
        have ht : told sp2 (ackOf [(k - 1, k - 1)]) = [p] := by
          have := filter_one hrise hp
          rw [hpn] at this; exact this
        simp only [z5_g140]
        try simp only [ew, Nat.reduceAdd, Nat.reduceMul, Nat.reduceLeDiff, Int.reduceBNe, Int.reduceBEq, Int.reduceLT, Int.reduceLE, i1, i2, z5_g141]
        try simp only [ew, Nat.reduceAdd, Nat.reduceMul, Nat.reduceLeDiff, Int.reduceBNe, Int.reduceBEq, Int.reduceLT, Int.reduceLE, bin_sub, w1, hbR]
        refine ack1_sep h.b1 (fun e => absurd u1 e) (fun _ K1 v1 h1 => ?_)
        rw [ht] at h1
        try simp only [ew, Nat.reduceAdd, Nat.reduceMul, Nat.reduceLeDiff, Int.reduceBNe, Int.reduceBEq, Int.reduceLT, Int.reduceLE, z5_g142]
        try simp only [ew, Nat.reduceAdd, Nat.reduceMul, Nat.reduceLeDiff, Int.reduceBNe, Int.reduceBEq, Int.reduceLT, Int.reduceLE]
        refine numbers_sep h1 (fun K h => h.shP) (by simp) fun K2 v2 h2 => ?_
        try simp only [ew, Nat.reduceAdd, Nat.reduceMul, Nat.reduceLeDiff, Int.reduceBNe, Int.reduceBEq, Int.reduceLT, Int.reduceLE, bin_sub, w1]
        refine bslE_sep (E := intE) (vs := [_]) (l := [k - 1]) h2 rfl rfl (fun i hi => ?_) (by decide) (by decide) fun K3 v3 h3 => ?_
        · match i, hi with
          | 0, _ => rfl
        refine eqInts_ev h3.b1.shI h3.shI ?_
        rw [show decide (ints [p] = [k - 1]) = true from decide_eq_true (by simp [ints, hpn])]
        try simp only [ew, Nat.reduceAdd, Nat.reduceMul, Nat.reduceLeDiff, Int.reduceBNe, Int.reduceBEq, Int.reduceLT, Int.reduceLE, z5_g144]
        try simp only [ew, Nat.reduceAdd, Nat.reduceMul, Nat.reduceLeDiff, Int.reduceBNe, Int.reduceBEq, Int.reduceLT, Int.reduceLE, bin_add, w4]
        refine ⟨⟨j + 1, ackS sp2 (ackOf [(k - 1, k - 1)]), by omega, rfl, hkn2, fun a ha haj => ?_, h3.drop.drop.drop.b1⟩, by show _ < _; omega⟩
        obtain ⟨q, hq, hqn⟩ := mem_ints.1 (hnum a ha (by omega))
        refine mem_ints.2 ⟨q, ?_, hqn⟩
        refine List.mem_filter.2 ⟨hq, ?_⟩
        have hne := hdis a j ha hj' (by omega)
        rw [← hkk] at hne
        simp only [ackOf, hasR, List.any_cons, List.any_nil, Bool.or_false]
        simp; omega
      · simp only [z5_g145]
        exact works17_ev h fun K h => hR K h.only
  refine brV_d (fun hlt => ?_) (fun hge => ?_)
  · try simp only [ew, Nat.reduceAdd, Nat.reduceMul, Nat.reduceLeDiff, Int.reduceBNe, Int.reduceBEq, Int.reduceLT, Int.reduceLE]
    refine brV_d (fun hlt2 => ?_) (fun hge => ?_)
    · have hi' : i < l.length := by omega
      obtain ⟨b, o, i1, i2⟩ := hvK.at1 hi' (rfl : (i : Int) = i)
      simp only [z5_g108]
      try simp only [ew, Nat.reduceAdd, Nat.reduceMul, Nat.reduceLeDiff, Int.reduceBNe, Int.reduceBEq, Int.reduceLT, Int.reduceLE, i1, i2]
      refine Bring_ev (hin _ (List.getElem_mem hi')) (by omega) ?_
      have hb := bring_r (i := l[i]) (n := 4) (by omega)
      obtain ⟨w, hw⟩ : ∃ w, w = bring l[i] 4 := ⟨_, rfl⟩
      rw [← hw] at hb ⊢
      try simp only [ew, Nat.reduceAdd, Nat.reduceMul, Nat.reduceLeDiff, Int.reduceBNe, Int.reduceBEq, Int.reduceLT, Int.reduceLE, z5_l127]
      refine ⟨fun y5 y8 K2 => ∃ (j : Nat) (m : Int) (sp2 : Sp), y5 = iv m ∧ y8 = iv (w - j) ∧ j ≤ w + 1 ∧ m = n + j ∧ (0 < j → m - 1 ∉ sk) ∧ SkI sp2 m sk (4 * i + j) ∧ Sep H K2 [lstA intE x6 sk, spA s sp2],
        fun _ y8 _ => (match y8 with | .int _ j => (j + 1).toNat | _ => 0), ⟨0, n, sp, rfl, by simp, by omega, by simp, by omega, hI, h⟩, ?_⟩
      rintro y5 y8 K2 ⟨j, m, sp2, rfl, rfl, hj, rfl, hlast, hI2, h2⟩
      simp only [z5_s109, z5_g110]
      try simp only [ew, Nat.reduceAdd, Nat.reduceMul, Nat.reduceLeDiff, Int.reduceBNe, Int.reduceBEq, Int.reduceLT, Int.reduceLE]
      refine brV_d (fun hge => ?_) (fun hlt3 => ?_)
      · simp only [z5_g111]
        have hkn := (sp_knL h2.b1).1
        have hsend := hI2.send hkn (by omega) (by omega)
        refine packet_sep h2 fun K3 h3 => ?_
        refine Sent_sp h3.b1 fun K4 h4 => ?_
        rw [hsend.1]
        have w1 : IntKind.i64.wrap (n + j + 1) = n + ((j + 1 : Nat) : Int) := by rw [wrap_in (by omega)]; omega
        have w2 : IntKind.i64.wrap (w - j - 1) = w - ((j + 1 : Nat) : Int) := by rw [wrap_in (by omega)]; omega
        try simp only [ew, Nat.reduceAdd, Nat.reduceMul, Nat.reduceLeDiff, Int.reduceBNe, Int.reduceBEq, Int.reduceLT, Int.reduceLE, z5_g113, z5_g114]
        try simp only [ew, Nat.reduceAdd, Nat.reduceMul, Nat.reduceLeDiff, Int.reduceBNe, Int.reduceBEq, Int.reduceLT, Int.reduceLE, bin_add, bin_sub, w1, w2]
        have hI3 := hsend.2
        have en : n + (j : Int) + 1 = n + ((j + 1 : Nat) : Int) := by omega
        rw [en] at hI3
        exact ⟨⟨j + 1, _, _, rfl, rfl, by omega, rfl, fun _ hx => by have := hI2.sk _ hx; omega, hI3, h4.b1⟩, by show _ < _; omega⟩
      · have hjw : (j : Int) = w + 1 := by omega
        simp only [z5_g115]
        refine push_sep (E := intE) (x := n + j) h2 rfl (by omega) (by decide) (by decide) fun K3 v3 h3 => ?_
        have w1 : IntKind.i64.wrap (n + j + 1) = n + j + 1 := wrap_in (by omega)
        have w4 : IntKind.i64.wrap ((i : Int) + 1) = ((i + 1 : Nat) : Int) := by rw [wrap_in (by omega)]; omega
        simp only [z5_g116, z5_g117]
        try simp only [ew, Nat.reduceAdd, Nat.reduceMul, Nat.reduceLeDiff, Int.reduceBNe, Int.reduceBEq, Int.reduceLT, Int.reduceLE, bin_add, w1, w4]
        have hI3 := hI2.skip ⟨by have := hI.n0; omega, by omega⟩ (hlast (by omega))
        refine ⟨⟨i + 1, n + j + 1, sk ++ [n + j], sp2, rfl, rfl, by omega, by omega, by omega, by simp [hsk], ?_, h3⟩, by show _ < _; omega⟩
        exact ⟨hI3.room, hI3.n0, hI3.top, hI3.kn, hI3.num, hI3.sk, by have := hI3.lenL; omega, by have := hI3.lenK; omega, hI3.dis⟩
    · exact second
  · try simp only [ew, Nat.reduceAdd, Nat.reduceMul, Nat.reduceLeDiff, Int.reduceBNe, Int.reduceBEq, Int.reduceLT, Int.reduceLE]
    exact second
end Go.Hc
