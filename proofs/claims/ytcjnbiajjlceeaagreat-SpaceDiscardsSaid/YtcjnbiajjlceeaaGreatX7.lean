/- Functions, printed by gen.py. -/
import Derived.Test.YtcjnbiajjlceeaaGreatX2
set_option linter.unusedSimpArgs false
set_option linter.unusedVariables false
set_option maxRecDepth 100000
namespace Go.Hc
open Go Go.Proofs
/- 69: (*sounder/space.Space).Time$1 -/
def z69_rs : List ResultVar := [.tmp 1]
noncomputable def z69_c2 := sc Tryz.f69 [0]
noncomputable def z69_c4 := sc Tryz.f69 [1,0]
noncomputable def z69_c3 : Code := .seq z69_c4 Code.ret
noncomputable def z69_c1 : Code := .seq z69_c2 z69_c3
def z69_pi (_ : Nat) : Pl := .nil
noncomputable def z69_g5 (S : J1) (x0 : Value) (H : Heap) : Prop :=
  S x0 H
theorem z69_g5_e (S : J1) (x H) : WE z69_pi z69_c2 6 (fun l => S (gd l 0)) x H = z69_g5 S (x 0) H := by kernel_rfl
noncomputable def z69_g6 (S : J1) (x0 : Value) (H : Heap) : Prop :=
  bnd (ldE false 1 x0 H) fun v2 =>
  bnd (nilV v2) fun v3 =>
  bnd (faV 5 v3) fun v4 =>
  bnd (ldE false 1 v4 H) fun v5 =>
  S v5 H
theorem z69_g6_e (S : J1) (x H) : WE z69_pi z69_c4 6 (fun l => S (gd l 1)) x H = z69_g6 S (x 0) H := by kernel_rfl
def space_Space_Time_1 (x0 : Value) (R : Value → Heap → Prop) (H : Heap) : Prop :=
  z69_g5 (fun x0 H => z69_g6 (fun x1 H => R x1 H) x0 H) x0 H
theorem z69_ev (x0 : Value) (R : J1) (H : Heap) (h : space_Space_Time_1 x0 R H) : EvF P N.space_Space_Time_1 #[x0] H R := .inl (EvF_intro (args := [x0]) (k := 5) (rs := z69_rs) tab_ok mixed Tryz.func69 (show Tryz.f69.body = some z69_c1 by kernel_rfl) Tryz.call69 Tryz.ntmps69 (by kernel_rfl) (okCode_of _ (show okB z69_pi z69_c1 = true by kernel_rfl)) (fr_eq _ _) (fj (n := 6) rfl (fun l hl (h : space_Space_Time_1 (gd l 0) R H) => sr rfl hl (z69_g5_e _ (gd l) _) h fun l H hl h => sr rfl hl (z69_g6_e _ (gd l) _) h fun l H hl h => rt rfl h) h))
/- 84: (*sounder/sent.Log).Copy -/
def z84_rs : List ResultVar := [.tmp 2]
noncomputable def z84_c2 := sc Tryz.f84 [0]
noncomputable def z84_c5 := sc Tryz.f84 [1,0,0]
noncomputable def z84_c8 := sc Tryz.f84 [1,0,1,0,0]
noncomputable def z84_c7 : Code := .seq z84_c8 Code.ret
noncomputable def z84_c6 : Code := .cond (.tmp 5) z84_c7 Code.skip
noncomputable def z84_c4 : Code := .seq z84_c5 z84_c6
noncomputable def z84_c10 := sc Tryz.f84 [1,1,0]
noncomputable def z84_c12 := sc Tryz.f84 [1,1,1,0]
noncomputable def z84_c14 := sc Tryz.f84 [1,1,1,1,0]
noncomputable def z84_c13 : Code := .seq z84_c14 Code.ret
noncomputable def z84_c11 : Code := .seq z84_c12 z84_c13
noncomputable def z84_c9 : Code := .seq z84_c10 z84_c11
noncomputable def z84_c3 : Code := .seq z84_c4 z84_c9
noncomputable def z84_c1 : Code := .seq z84_c2 z84_c3
def z84_pi (_ : Nat) : Pl := .nil
noncomputable def z84_g15 (S : J1) (x0 : Value) (H : Heap) : Prop :=
  S x0 H
theorem z84_g15_e (S : J1) (x H) : WE z84_pi z84_c2 15 (fun l => S (gd l 0)) x H = z84_g15 S (x 0) H := by kernel_rfl
noncomputable def z84_g16 (S : J2) (x0 : Value) (H : Heap) : Prop :=
  EvF P N.sent_Log_none #[x0] H fun v5 H1 =>
  S x0 v5 H1
theorem z84_g16_e (S : J2) (x H) : WE z84_pi z84_c5 15 (fun l => S (gd l 0) (gd l 5)) x H = z84_g16 S (x 0) H := by kernel_rfl
noncomputable def z84_g17 (S : J1) (H : Heap) : Prop :=
  S (.pointer none) H
theorem z84_g17_e (S : J1) (x H) : WE z84_pi z84_c8 15 (fun l => S (gd l 2)) x H = z84_g17 S  H := by kernel_rfl
noncomputable def z84_g18 (S : J2) (x0 : Value) (H : Heap) : Prop :=
  bnd (nilV x0) fun v7 =>
  bnd (ldE true 8 v7 H) fun v8 =>
  newE 119 #[(.int .i64 0), (.int .i64 0), (.slice none 0 0), (.int .i64 0), (.int .i64 0), (.int .i64 0), (.int .i64 0), (.int .i64 0)] H fun v3 H1 =>
  bnd (stE 8 v3 v8 H1) fun H2 =>
  S x0 v3 H2
theorem z84_g18_e (S : J2) (x H) : WE z84_pi z84_c10 15 (fun l => S (gd l 0) (gd l 3)) x H = z84_g18 S (x 0) H := by kernel_rfl
noncomputable def z84_g19 (S : J1) (x0 x3 : Value) (H : Heap) : Prop :=
  bnd (nilV x0) fun v10 =>
  bnd (faV 2 v10) fun v11 =>
  bnd (ldE false 1 v11 H) fun v12 =>
  EvF P N.slices_Clone_slot #[v12] H fun v13 H1 =>
  bnd (faV 2 x3) fun v14 =>
  bnd (stE 1 v14 v13 H1) fun H2 =>
  S x3 H2
theorem z84_g19_e (S : J1) (x H) : WE z84_pi z84_c12 15 (fun l => S (gd l 3)) x H = z84_g19 S (x 0) (x 3) H := by kernel_rfl
noncomputable def z84_g20 (S : J1) (x3 : Value) (H : Heap) : Prop :=
  S x3 H
theorem z84_g20_e (S : J1) (x H) : WE z84_pi z84_c14 15 (fun l => S (gd l 2)) x H = z84_g20 S (x 3) H := by kernel_rfl
def sent_Log_Copy (x0 : Value) (R : Value → Heap → Prop) (H : Heap) : Prop :=
  z84_g15 (fun x0 H => z84_g16 (fun x0 x5 H => brV x5
  (z84_g17 (fun x2 H => R x2 H) H)
  (z84_g18 (fun x0 x3 H => z84_g19 (fun x3 H => z84_g20 (fun x2 H => R x2 H) x3 H) x0 x3 H) x0 H)) x0 H) x0 H
theorem z84_ev (x0 : Value) (R : J1) (H : Heap) (h : sent_Log_Copy x0 R H) : EvF P N.sent_Log_Copy #[x0] H R := .inl (EvF_intro (args := [x0]) (k := 14) (rs := z84_rs) tab_ok mixed Tryz.func84 (show Tryz.f84.body = some z84_c1 by kernel_rfl) Tryz.call84 Tryz.ntmps84 (by kernel_rfl) (okCode_of _ (show okB z84_pi z84_c1 = true by kernel_rfl)) (fr_eq _ _) (fj (n := 15) rfl (fun l hl (h : sent_Log_Copy (gd l 0) R H) => sr rfl hl (z84_g15_e _ (gd l) _) h fun l H hl h => sq rfl <| sr rfl hl (z84_g16_e _ (gd l) _) h fun l H hl h => cd rfl h (fun h => sr rfl hl (z84_g17_e _ (gd l) _) h fun l H hl h => rt rfl h) fun h => kN rfl <| sr rfl hl (z84_g18_e _ (gd l) _) h fun l H hl h => sr rfl hl (z84_g19_e _ (gd l) _) h fun l H hl h => sr rfl hl (z84_g20_e _ (gd l) _) h fun l H hl h => rt rfl h) h))
/- 85: (*sounder/span.Set).Copy -/
def z85_rs : List ResultVar := [.tmp 2]
noncomputable def z85_c2 := sc Tryz.f85 [0]
noncomputable def z85_c5 := sc Tryz.f85 [1,0,0]
noncomputable def z85_c8 := sc Tryz.f85 [1,0,1,0,0]
noncomputable def z85_c7 : Code := .seq z85_c8 Code.ret
noncomputable def z85_c6 : Code := .cond (.tmp 4) z85_c7 Code.skip
noncomputable def z85_c4 : Code := .seq z85_c5 z85_c6
noncomputable def z85_c10 := sc Tryz.f85 [1,1,0]
noncomputable def z85_c9 : Code := .seq z85_c10 Code.ret
noncomputable def z85_c3 : Code := .seq z85_c4 z85_c9
noncomputable def z85_c1 : Code := .seq z85_c2 z85_c3
def z85_pi (i : Nat) : Pl := match i with
  | 3 => (ones [0, 1, 2, 3, 4, 5, 6, 7, 8, 9, 10, 11] .nil)
  | _ => .nil
noncomputable def z85_g11 (S : J1) (x0 : Value) (H : Heap) : Prop :=
  S x0 H
theorem z85_g11_e (S : J1) (x H) : WE z85_pi z85_c2 16 (fun l => S (gd l 0)) x H = z85_g11 S (x 0) H := by kernel_rfl
noncomputable def z85_g12 (S : J2) (x0 : Value) (H : Heap) : Prop :=
  EvF P N.span_Set_none #[x0] H fun v4 H1 =>
  S x0 v4 H1
theorem z85_g12_e (S : J2) (x H) : WE z85_pi z85_c5 16 (fun l => S (gd l 0) (gd l 4)) x H = z85_g12 S (x 0) H := by kernel_rfl
noncomputable def z85_g13 (S : J1) (H : Heap) : Prop :=
  S (.pointer none) H
theorem z85_g13_e (S : J1) (x H) : WE z85_pi z85_c8 16 (fun l => S (gd l 2)) x H = z85_g13 S  H := by kernel_rfl
noncomputable def z85_g14 (S : J1) (x0 : Value) (H : Heap) : Prop :=
  bnd (nilV x0) fun v6 =>
  bnd (faV 0 v6) fun v7 =>
  bnd (ldE false 1 v7 H) fun v8 =>
  bnd (nilV x0) fun v10 =>
  bnd (faV 1 v10) fun v11 =>
  bnd (ldE false 1 v11 H) fun v12 =>
  EvF P N.slices_Clone_Range #[v12] H fun v13 H1 =>
  ((bnd (ldE false 1 v7 H1) fun v' => v' = v8) ∧
  bnd (buildV #[(.int .i64 0), (.slice none 0 0)] (places [(0, 1), (1, 1)]) [(0, v8), (1, v13)]) fun v14 =>
  newE 121 (Value.cells v14) H1 fun v15 H2 =>
  ((bnd (ldE false 1 v7 H2) fun v' => v' = v8) ∧
  S v15 H2))
theorem z85_g14_e (S : J1) (x H) : WE z85_pi z85_c10 16 (fun l => S (gd l 2)) x H = z85_g14 S (x 0) H := by kernel_rfl
def span_Set_Copy (x0 : Value) (R : Value → Heap → Prop) (H : Heap) : Prop :=
  z85_g11 (fun x0 H => z85_g12 (fun x0 x4 H => brV x4
  (z85_g13 (fun x2 H => R x2 H) H)
  (z85_g14 (fun x2 H => R x2 H) x0 H)) x0 H) x0 H
theorem z85_ev (x0 : Value) (R : J1) (H : Heap) (h : span_Set_Copy x0 R H) : EvF P N.span_Set_Copy #[x0] H R := .inl (EvF_intro (args := [x0]) (k := 15) (rs := z85_rs) tab_ok mixed Tryz.func85 (show Tryz.f85.body = some z85_c1 by kernel_rfl) Tryz.call85 Tryz.ntmps85 (by kernel_rfl) (okCode_of _ (show okB z85_pi z85_c1 = true by kernel_rfl)) (fr_eq _ _) (fj (n := 16) rfl (fun l hl (h : span_Set_Copy (gd l 0) R H) => sr rfl hl (z85_g11_e _ (gd l) _) h fun l H hl h => sq rfl <| sr rfl hl (z85_g12_e _ (gd l) _) h fun l H hl h => cd rfl h (fun h => sr rfl hl (z85_g13_e _ (gd l) _) h fun l H hl h => rt rfl h) fun h => kN rfl <| sr rfl hl (z85_g14_e _ (gd l) _) h fun l H hl h => rt rfl h) h))
/- 92: (*sounder/sent.Log).Between -/
def z92_rs : List ResultVar := [.tmp 6]
noncomputable def z92_c2 := sc Tryz.f92 [0]
noncomputable def z92_c4 := sc Tryz.f92 [1,0]
noncomputable def z92_c6 := sc Tryz.f92 [1,1,0]
noncomputable def z92_c8 := sc Tryz.f92 [1,1,1,0]
noncomputable def z92_c7 : Code := .seq z92_c8 Code.ret
noncomputable def z92_c5 : Code := .seq z92_c6 z92_c7
noncomputable def z92_c3 : Code := .seq z92_c4 z92_c5
noncomputable def z92_c1 : Code := .seq z92_c2 z92_c3
def z92_pi (_ : Nat) : Pl := .nil
noncomputable def z92_g9 (S : J3) (x0 x1 x2 : Value) (H : Heap) : Prop :=
  S x0 x1 x2 H
theorem z92_g9_e (S : J3) (x H) : WE z92_pi z92_c2 14 (fun l => S (gd l 0) (gd l 1) (gd l 2)) x H = z92_g9 S (x 0) (x 1) (x 2) H := by kernel_rfl
noncomputable def z92_g10 (S : J4) (x0 x1 x2 : Value) (H : Heap) : Prop :=
  newE 153 #[(.slice none 0 0)] H fun v7 H1 =>
  S x0 x1 x2 v7 H1
theorem z92_g10_e (S : J4) (x H) : WE z92_pi z92_c4 14 (fun l => S (gd l 0) (gd l 1) (gd l 2) (gd l 7)) x H = z92_g10 S (x 0) (x 1) (x 2) H := by kernel_rfl
noncomputable def z92_g11 (S : J1) (x0 x1 x2 x7 : Value) (H : Heap) : Prop :=
  EvF P N.sent_Log_each #[x0, x1, x2, (.func (.func N.sent_row_put) #[x7] #[])] H fun _ H1 =>
  S x7 H1
theorem z92_g11_e (S : J1) (x H) : WE z92_pi z92_c6 14 (fun l => S (gd l 7)) x H = z92_g11 S (x 0) (x 1) (x 2) (x 7) H := by kernel_rfl
noncomputable def z92_g12 (S : J1) (x7 : Value) (H : Heap) : Prop :=
  bnd (ldE false 1 x7 H) fun v13 =>
  S v13 H
theorem z92_g12_e (S : J1) (x H) : WE z92_pi z92_c8 14 (fun l => S (gd l 6)) x H = z92_g12 S (x 7) H := by kernel_rfl
def sent_Log_Between (x0 x1 x2 : Value) (R : Value → Heap → Prop) (H : Heap) : Prop :=
  z92_g9 (fun x0 x1 x2 H => z92_g10 (fun x0 x1 x2 x7 H => z92_g11 (fun x7 H => z92_g12 (fun x6 H => R x6 H) x7 H) x0 x1 x2 x7 H) x0 x1 x2 H) x0 x1 x2 H
theorem z92_ev (x0 x1 x2 : Value) (R : J1) (H : Heap) (h : sent_Log_Between x0 x1 x2 R H) : EvF P N.sent_Log_Between #[x0, x1, x2] H R := .inl (EvF_intro (args := [x0, x1, x2]) (k := 11) (rs := z92_rs) tab_ok mixed Tryz.func92 (show Tryz.f92.body = some z92_c1 by kernel_rfl) Tryz.call92 Tryz.ntmps92 (by kernel_rfl) (okCode_of _ (show okB z92_pi z92_c1 = true by kernel_rfl)) (fr_eq _ _) (fj (n := 14) rfl (fun l hl (h : sent_Log_Between (gd l 0) (gd l 1) (gd l 2) R H) => sr rfl hl (z92_g9_e _ (gd l) _) h fun l H hl h => sr rfl hl (z92_g10_e _ (gd l) _) h fun l H hl h => sr rfl hl (z92_g11_e _ (gd l) _) h fun l H hl h => sr rfl hl (z92_g12_e _ (gd l) _) h fun l H hl h => rt rfl h) h))
/- 93: sounder/loss.Check -/
def z93_rs : List ResultVar := [.tmp 2]
noncomputable def z93_c2 := sc Tryz.f93 [0]
noncomputable def z93_c4 := sc Tryz.f93 [1,0]
noncomputable def z93_c6 := sc Tryz.f93 [1,1,0]
noncomputable def z93_c9 := sc Tryz.f93 [1,1,1,0,0]
noncomputable def z93_c12 := sc Tryz.f93 [1,1,1,0,1,0,0]
noncomputable def z93_c11 : Code := .seq z93_c12 Code.ret
noncomputable def z93_c10 : Code := .cond (.tmp 13) z93_c11 Code.skip
noncomputable def z93_c8 : Code := .seq z93_c9 z93_c10
noncomputable def z93_c14 := sc Tryz.f93 [1,1,1,1,0]
noncomputable def z93_c13 : Code := .seq z93_c14 Code.ret
noncomputable def z93_c7 : Code := .seq z93_c8 z93_c13
noncomputable def z93_c5 : Code := .seq z93_c6 z93_c7
noncomputable def z93_c3 : Code := .seq z93_c4 z93_c5
noncomputable def z93_c1 : Code := .seq z93_c2 z93_c3
def z93_pi (_ : Nat) : Pl := .nil
noncomputable def z93_g15 (S : J1) (x0 : Value) (H : Heap) : Prop :=
  S x0 H
theorem z93_g15_e (S : J1) (x H) : WE z93_pi z93_c2 14 (fun l => S (gd l 0)) x H = z93_g15 S (x 0) H := by kernel_rfl
noncomputable def z93_g16 (S : J2) (x0 : Value) (H : Heap) : Prop :=
  newE 3 #[(.int .i64 0)] H fun v3 H1 =>
  bnd (stE 1 v3 (.int .i64 (-1)) H1) fun H2 =>
  S x0 v3 H2
theorem z93_g16_e (S : J2) (x H) : WE z93_pi z93_c4 14 (fun l => S (gd l 0) (gd l 3)) x H = z93_g16 S (x 0) H := by kernel_rfl
noncomputable def z93_g17 (S : J2) (x0 x3 : Value) (H : Heap) : Prop :=
  S x0 (.func (.func N.loss_Check_1) #[] #[x3]) H
theorem z93_g17_e (S : J2) (x H) : WE z93_pi z93_c6 14 (fun l => S (gd l 0) (gd l 4)) x H = z93_g17 S (x 0) (x 3) H := by kernel_rfl
noncomputable def z93_g18 (S : J1) (x0 x4 : Value) (H : Heap) : Prop :=
  bnd (lenV x0) fun v7 =>
  bnd (binV .int .gtr v7 (.int .i64 256)) fun v8 =>
  brV v8
  (S (.bool true) H)
  (EvF P N.slices_ContainsFunc_Packet #[x0, x4] H fun v12 H1 =>
  S v12 H1)
theorem z93_g18_e (S : J1) (x H) : WE z93_pi z93_c9 14 (fun l => S (gd l 13)) x H = z93_g18 S (x 0) (x 4) H := by kernel_rfl
noncomputable def z93_g19 (S : J1) (H : Heap) : Prop :=
  S (.int .i64 2) H
theorem z93_g19_e (S : J1) (x H) : WE z93_pi z93_c12 14 (fun l => S (gd l 2)) x H = z93_g19 S  H := by kernel_rfl
noncomputable def z93_g20 (S : J1) (H : Heap) : Prop :=
  S (.int .i64 0) H
theorem z93_g20_e (S : J1) (x H) : WE z93_pi z93_c14 14 (fun l => S (gd l 2)) x H = z93_g20 S  H := by kernel_rfl
def loss_Check (x0 : Value) (R : Value → Heap → Prop) (H : Heap) : Prop :=
  z93_g15 (fun x0 H => z93_g16 (fun x0 x3 H => z93_g17 (fun x0 x4 H => z93_g18 (fun x13 H => brV x13
  (z93_g19 (fun x2 H => R x2 H) H)
  (z93_g20 (fun x2 H => R x2 H) H)) x0 x4 H) x0 x3 H) x0 H) x0 H
theorem z93_ev (x0 : Value) (R : J1) (H : Heap) (h : loss_Check x0 R H) : EvF P N.loss_Check #[x0] H R := .inl (EvF_intro (args := [x0]) (k := 13) (rs := z93_rs) tab_ok mixed Tryz.func93 (show Tryz.f93.body = some z93_c1 by kernel_rfl) Tryz.call93 Tryz.ntmps93 (by kernel_rfl) (okCode_of _ (show okB z93_pi z93_c1 = true by kernel_rfl)) (fr_eq _ _) (fj (n := 14) rfl (fun l hl (h : loss_Check (gd l 0) R H) => sr rfl hl (z93_g15_e _ (gd l) _) h fun l H hl h => sr rfl hl (z93_g16_e _ (gd l) _) h fun l H hl h => sr rfl hl (z93_g17_e _ (gd l) _) h fun l H hl h => sq rfl <| sr rfl hl (z93_g18_e _ (gd l) _) h fun l H hl h => cd rfl h (fun h => sr rfl hl (z93_g19_e _ (gd l) _) h fun l H hl h => rt rfl h) fun h => kN rfl <| sr rfl hl (z93_g20_e _ (gd l) _) h fun l H hl h => rt rfl h) h))
/- 94: sounder/loss.isTime -/
def z94_rs : List ResultVar := [.tmp 2]
noncomputable def z94_c2 := sc Tryz.f94 [0]
noncomputable def z94_c4 := sc Tryz.f94 [1,0]
noncomputable def z94_c3 : Code := .seq z94_c4 Code.ret
noncomputable def z94_c1 : Code := .seq z94_c2 z94_c3
def z94_pi (_ : Nat) : Pl := .nil
noncomputable def z94_g5 (S : J1) (x0 : Value) (H : Heap) : Prop :=
  S x0 H
theorem z94_g5_e (S : J1) (x H) : WE z94_pi z94_c2 9 (fun l => S (gd l 0)) x H = z94_g5 S (x 0) H := by kernel_rfl
noncomputable def z94_g6 (S : J1) (x0 : Value) (H : Heap) : Prop :=
  bnd (binV .int .geq x0 (.int .i64 0)) fun v4 =>
  brV v4
  (bnd (binV .int .leq x0 (.int .i64 9007199254740991)) fun v7 =>
  S v7 H)
  (S (.bool false) H)
theorem z94_g6_e (S : J1) (x H) : WE z94_pi z94_c4 9 (fun l => S (gd l 2)) x H = z94_g6 S (x 0) H := by kernel_rfl
def loss_isTime (x0 : Value) (R : Value → Heap → Prop) (H : Heap) : Prop :=
  z94_g5 (fun x0 H => z94_g6 (fun x2 H => R x2 H) x0 H) x0 H
theorem z94_ev (x0 : Value) (R : J1) (H : Heap) (h : loss_isTime x0 R H) : EvF P N.loss_isTime #[x0] H R := .inl (EvF_intro (args := [x0]) (k := 8) (rs := z94_rs) tab_ok mixed Tryz.func94 (show Tryz.f94.body = some z94_c1 by kernel_rfl) Tryz.call94 Tryz.ntmps94 (by kernel_rfl) (okCode_of _ (show okB z94_pi z94_c1 = true by kernel_rfl)) (fr_eq _ _) (fj (n := 9) rfl (fun l hl (h : loss_isTime (gd l 0) R H) => sr rfl hl (z94_g5_e _ (gd l) _) h fun l H hl h => sr rfl hl (z94_g6_e _ (gd l) _) h fun l H hl h => rt rfl h) h))
/- 95: sounder/rtt.Check -/
def z95_rs : List ResultVar := [.tmp 2]
noncomputable def z95_c2 := sc Tryz.f95 [0]
noncomputable def z95_c5 := sc Tryz.f95 [1,0,0]
noncomputable def z95_c9 := sc Tryz.f95 [1,0,1,0,0,0]
noncomputable def z95_c11 := sc Tryz.f95 [1,0,1,0,0,1,0]
noncomputable def z95_c14 := sc Tryz.f95 [1,0,1,0,0,1,1,0,0]
noncomputable def z95_c13 : Code := .seq z95_c14 Code.ret
noncomputable def z95_c12 : Code := .cond (.tmp 20) z95_c13 Code.skip
noncomputable def z95_c10 : Code := .seq z95_c11 z95_c12
noncomputable def z95_c8 : Code := .seq z95_c9 z95_c10
noncomputable def z95_c16 := sc Tryz.f95 [1,0,1,0,1,0]
noncomputable def z95_c15 : Code := .seq z95_c16 Code.ret
noncomputable def z95_c7 : Code := .seq z95_c8 z95_c15
noncomputable def z95_c6 : Code := .cond (.tmp 7) z95_c7 Code.skip
noncomputable def z95_c4 : Code := .seq z95_c5 z95_c6
noncomputable def z95_c19 := sc Tryz.f95 [1,1,0,0]
noncomputable def z95_c22 := sc Tryz.f95 [1,1,0,1,0,0]
noncomputable def z95_c21 : Code := .seq z95_c22 Code.ret
noncomputable def z95_c20 : Code := .cond (.tmp 43) z95_c21 Code.skip
noncomputable def z95_c18 : Code := .seq z95_c19 z95_c20
noncomputable def z95_c24 := sc Tryz.f95 [1,1,1,0]
noncomputable def z95_c23 : Code := .seq z95_c24 Code.ret
noncomputable def z95_c17 : Code := .seq z95_c18 z95_c23
noncomputable def z95_c3 : Code := .seq z95_c4 z95_c17
noncomputable def z95_c1 : Code := .seq z95_c2 z95_c3
def z95_pi (_ : Nat) : Pl := .nil
noncomputable def z95_g25 (S : J1) (x0 : Value) (H : Heap) : Prop :=
  newE 45 (Value.cells x0) H fun v1 H1 =>
  S v1 H1
theorem z95_g25_e (S : J1) (x H) : WE z95_pi z95_c2 44 (fun l => S (gd l 1)) x H = z95_g25 S (x 0) H := by kernel_rfl
noncomputable def z95_g26 (S : J2) (x1 : Value) (H : Heap) : Prop :=
  bnd (faV 4 x1) fun v5 =>
  bnd (ldE false 1 v5 H) fun v6 =>
  bnd (binV .int .eql v6 (.int .i64 (-1))) fun v7 =>
  S x1 v7 H
theorem z95_g26_e (S : J2) (x H) : WE z95_pi z95_c5 44 (fun l => S (gd l 1) (gd l 7)) x H = z95_g26 S (x 1) H := by kernel_rfl
noncomputable def z95_g27 (S : J3) (x1 : Value) (H : Heap) : Prop :=
  bnd (faV 2 x1) fun v9 =>
  bnd (ldE false 1 v9 H) fun v10 =>
  EvF P N.rtt_New #[v10] H fun v11 H1 =>
  bnd (exV 0 v11) fun v12 =>
  bnd (exV 1 v11) fun v13 =>
  newE 45 #[(.int .i64 0), (.int .i64 0), (.int .i64 0), (.int .i64 0), (.int .i64 0)] H1 fun v3 H2 =>
  bnd (stE 5 v3 v12 H2) fun H3 =>
  S x1 v3 v13 H3
theorem z95_g27_e (S : J3) (x H) : WE z95_pi z95_c9 44 (fun l => S (gd l 1) (gd l 3) (gd l 4)) x H = z95_g27 S (x 1) H := by kernel_rfl
noncomputable def z95_g28 (S : J1) (x1 x3 x4 : Value) (H : Heap) : Prop :=
  bnd (binV .int .neq x4 (.int .i64 0)) fun v15 =>
  brV v15
  (S (.bool true) H)
  (bnd (ldE true 5 x3 H) fun v17 =>
  bnd (ldE true 5 x1 H) fun v18 =>
  bnd (binV (.agg [true, true, true, true, true]) .neq v17 v18) fun v19 =>
  S v19 H)
theorem z95_g28_e (S : J1) (x H) : WE z95_pi z95_c11 44 (fun l => S (gd l 20)) x H = z95_g28 S (x 1) (x 3) (x 4) H := by kernel_rfl
noncomputable def z95_g29 (S : J1) (H : Heap) : Prop :=
  S (.int .i64 2) H
theorem z95_g29_e (S : J1) (x H) : WE z95_pi z95_c14 44 (fun l => S (gd l 2)) x H = z95_g29 S  H := by kernel_rfl
noncomputable def z95_g30 (S : J1) (H : Heap) : Prop :=
  S (.int .i64 0) H
theorem z95_g30_e (S : J1) (x H) : WE z95_pi z95_c16 44 (fun l => S (gd l 2)) x H = z95_g30 S  H := by kernel_rfl
noncomputable def z95_g31 (S : J1) (x1 : Value) (H : Heap) : Prop :=
  bnd (faV 4 x1) fun v21 =>
  bnd (ldE false 1 v21 H) fun v22 =>
  bnd (faV 0 x1) fun v23 =>
  bnd (ldE false 1 v23 H) fun v24 =>
  bnd (faV 1 x1) fun v25 =>
  bnd (ldE false 1 v25 H) fun v26 =>
  bnd (faV 2 x1) fun v27 =>
  bnd (ldE false 1 v27 H) fun v28 =>
  bnd (faV 3 x1) fun v29 =>
  bnd (ldE false 1 v29 H) fun v30 =>
  bslE 3 #[(.int .i64 0)] 1 5 [(0, v22), (1, v24), (2, v26), (3, v28), (4, v30)] H fun v31 H1 =>
  EvF P N.rtt_isTime #[v31] H1 fun v32 H2 =>
  bnd (unV .not v32) fun v33 =>
  brV v33
  (S (.bool true) H2)
  (bnd (faV 1 x1) fun v35 =>
  bnd (ldE false 1 v35 H2) fun v36 =>
  bnd (faV 0 x1) fun v37 =>
  bnd (ldE false 1 v37 H2) fun v38 =>
  bnd (faV 2 x1) fun v39 =>
  bnd (ldE false 1 v39 H2) fun v40 =>
  bnd (foldV min2V v38 [v40]) fun v41 =>
  bnd (binV .int .gtr v36 v41) fun v42 =>
  S v42 H2)
theorem z95_g31_e (S : J1) (x H) : WE z95_pi z95_c19 44 (fun l => S (gd l 43)) x H = z95_g31 S (x 1) H := by kernel_rfl
noncomputable def z95_g32 (S : J1) (H : Heap) : Prop :=
  S (.int .i64 2) H
theorem z95_g32_e (S : J1) (x H) : WE z95_pi z95_c22 44 (fun l => S (gd l 2)) x H = z95_g32 S  H := by kernel_rfl
noncomputable def z95_g33 (S : J1) (H : Heap) : Prop :=
  S (.int .i64 0) H
theorem z95_g33_e (S : J1) (x H) : WE z95_pi z95_c24 44 (fun l => S (gd l 2)) x H = z95_g33 S  H := by kernel_rfl
def rtt_Check (x0 : Value) (R : Value → Heap → Prop) (H : Heap) : Prop :=
  z95_g25 (fun x1 H => z95_g26 (fun x1 x7 H => brV x7
  (z95_g27 (fun x1 x3 x4 H => z95_g28 (fun x20 H => brV x20
  (z95_g29 (fun x2 H => R x2 H) H)
  (z95_g30 (fun x2 H => R x2 H) H)) x1 x3 x4 H) x1 H)
  (z95_g31 (fun x43 H => brV x43
  (z95_g32 (fun x2 H => R x2 H) H)
  (z95_g33 (fun x2 H => R x2 H) H)) x1 H)) x1 H) x0 H
theorem z95_ev (x0 : Value) (R : J1) (H : Heap) (h : rtt_Check x0 R H) : EvF P N.rtt_Check #[x0] H R := .inl (EvF_intro (args := [x0]) (k := 43) (rs := z95_rs) tab_ok mixed Tryz.func95 (show Tryz.f95.body = some z95_c1 by kernel_rfl) Tryz.call95 Tryz.ntmps95 (by kernel_rfl) (okCode_of _ (show okB z95_pi z95_c1 = true by kernel_rfl)) (fr_eq _ _) (fj (n := 44) rfl (fun l hl (h : rtt_Check (gd l 0) R H) => sr rfl hl (z95_g25_e _ (gd l) _) h fun l H hl h => sq rfl <| sr rfl hl (z95_g26_e _ (gd l) _) h fun l H hl h => cd rfl h (fun h => sq rfl <| sr rfl hl (z95_g27_e _ (gd l) _) h fun l H hl h => sr rfl hl (z95_g28_e _ (gd l) _) h fun l H hl h => cd rfl h (fun h => sr rfl hl (z95_g29_e _ (gd l) _) h fun l H hl h => rt rfl h) fun h => kN rfl <| sr rfl hl (z95_g30_e _ (gd l) _) h fun l H hl h => rt rfl h) fun h => kN rfl <| sq rfl <| sr rfl hl (z95_g31_e _ (gd l) _) h fun l H hl h => cd rfl h (fun h => sr rfl hl (z95_g32_e _ (gd l) _) h fun l H hl h => rt rfl h) fun h => kN rfl <| sr rfl hl (z95_g33_e _ (gd l) _) h fun l H hl h => rt rfl h) h))
/- 96: sounder/loss.ruled -/
def z96_rs : List ResultVar := [.cell 6 128]
noncomputable def z96_c2 := sc Tryz.f96 [0]
noncomputable def z96_c4 := sc Tryz.f96 [1,0]
noncomputable def z96_c6 := sc Tryz.f96 [1,1,0]
noncomputable def z96_c5 : Code := .seq z96_c6 Code.ret
noncomputable def z96_c3 : Code := .seq z96_c4 z96_c5
noncomputable def z96_c1 : Code := .seq z96_c2 z96_c3
def z96_pi (_ : Nat) : Pl := .nil
noncomputable def z96_g7 (S : J4) (x0 x1 x2 : Value) (H : Heap) : Prop :=
  newE 3 (Value.cells x0) H fun v3 H1 =>
  newE 3 (Value.cells x1) H1 fun v4 H2 =>
  newE 3 (Value.cells x2) H2 fun v5 H3 =>
  newE 128 #[.nilFunc, .nilFunc, .nilFunc] H3 fun v6 H4 =>
  S v3 v4 v5 v6 H4
theorem z96_g7_e (S : J4) (x H) : WE z96_pi z96_c2 13 (fun l => S (gd l 3) (gd l 4) (gd l 5) (gd l 6)) x H = z96_g7 S (x 0) (x 1) (x 2) H := by kernel_rfl
noncomputable def z96_g8 (S : J4) (x3 x4 x5 x6 : Value) (H : Heap) : Prop :=
  newE 126 #[.nilFunc] H fun v7 H1 =>
  bnd (stE 1 v7 (.func (.func N.loss_ruled_1) #[] #[x5]) H1) fun H2 =>
  S x3 x4 x6 v7 H2
theorem z96_g8_e (S : J4) (x H) : WE z96_pi z96_c4 13 (fun l => S (gd l 3) (gd l 4) (gd l 6) (gd l 7)) x H = z96_g8 S (x 3) (x 4) (x 5) (x 6) H := by kernel_rfl
noncomputable def z96_g9 (S : J1) (x3 x4 x6 x7 : Value) (H : Heap) : Prop :=
  bnd (buildV #[.nilFunc, .nilFunc, .nilFunc] (places [(0, 1), (1, 1), (2, 1)]) [(0, (.func (.func N.loss_ruled_2) #[] #[x3])), (1, (.func (.func N.loss_ruled_3) #[] #[x3, x7, x4])), (2, (.func (.func N.loss_ruled_4) #[] #[x7]))]) fun v12 =>
  bnd (stE 3 x6 v12 H) fun H1 =>
  S x6 H1
theorem z96_g9_e (S : J1) (x H) : WE z96_pi z96_c6 13 (fun l => S (gd l 6)) x H = z96_g9 S (x 3) (x 4) (x 6) (x 7) H := by kernel_rfl
def loss_ruled (x0 x1 x2 : Value) (R : Value → Heap → Prop) (H : Heap) : Prop :=
  z96_g7 (fun x3 x4 x5 x6 H => z96_g8 (fun x3 x4 x6 x7 H => z96_g9 (fun x6 H => bnd (ldE true 3 x6 H) fun r0 =>
  R r0 H) x3 x4 x6 x7 H) x3 x4 x5 x6 H) x0 x1 x2 H
theorem z96_ev (x0 x1 x2 : Value) (R : J1) (H : Heap) (h : loss_ruled x0 x1 x2 R H) : EvF P N.loss_ruled #[x0, x1, x2] H R := .inl (EvF_intro (args := [x0, x1, x2]) (k := 10) (rs := z96_rs) tab_ok mixed Tryz.func96 (show Tryz.f96.body = some z96_c1 by kernel_rfl) Tryz.call96 Tryz.ntmps96 (by kernel_rfl) (okCode_of _ (show okB z96_pi z96_c1 = true by kernel_rfl)) (fr_eq _ _) (fj (n := 13) rfl (fun l hl (h : loss_ruled (gd l 0) (gd l 1) (gd l 2) R H) => sr rfl hl (z96_g7_e _ (gd l) _) h fun l H hl h => sr rfl hl (z96_g8_e _ (gd l) _) h fun l H hl h => sr rfl hl (z96_g9_e _ (gd l) _) h fun l H hl h => rt rfl h) h))
/- 97: sounder/loss.Wait -/
def z97_rs : List ResultVar := [.tmp 2]
noncomputable def z97_c2 := sc Tryz.f97 [0]
noncomputable def z97_c5 := sc Tryz.f97 [1,0,0]
noncomputable def z97_c8 := sc Tryz.f97 [1,0,1,0,0]
noncomputable def z97_c7 : Code := .seq z97_c8 Code.ret
noncomputable def z97_c6 : Code := .cond (.tmp 5) z97_c7 Code.skip
noncomputable def z97_c4 : Code := .seq z97_c5 z97_c6
noncomputable def z97_c10 := sc Tryz.f97 [1,1,0]
noncomputable def z97_c9 : Code := .seq z97_c10 Code.ret
noncomputable def z97_c3 : Code := .seq z97_c4 z97_c9
noncomputable def z97_c1 : Code := .seq z97_c2 z97_c3
def z97_pi (_ : Nat) : Pl := .nil
noncomputable def z97_g11 (S : J1) (x0 : Value) (H : Heap) : Prop :=
  newE 45 (Value.cells x0) H fun v1 H1 =>
  S v1 H1
theorem z97_g11_e (S : J1) (x H) : WE z97_pi z97_c2 12 (fun l => S (gd l 1)) x H = z97_g11 S (x 0) H := by kernel_rfl
noncomputable def z97_g12 (S : J2) (x1 : Value) (H : Heap) : Prop :=
  bnd (ldE true 5 x1 H) fun v3 =>
  EvF P N.rtt_Check #[v3] H fun v4 H1 =>
  bnd (binV .int .neq v4 (.int .i64 0)) fun v5 =>
  S x1 v5 H1
theorem z97_g12_e (S : J2) (x H) : WE z97_pi z97_c5 12 (fun l => S (gd l 1) (gd l 5)) x H = z97_g12 S (x 1) H := by kernel_rfl
noncomputable def z97_g13 (S : J1) (H : Heap) : Prop :=
  S (.int .i64 0) H
theorem z97_g13_e (S : J1) (x H) : WE z97_pi z97_c8 12 (fun l => S (gd l 2)) x H = z97_g13 S  H := by kernel_rfl
noncomputable def z97_g14 (S : J1) (x1 : Value) (H : Heap) : Prop :=
  bnd (ldE true 5 x1 H) fun v6 =>
  EvF P N.rtt_Greatest #[v6] H fun v7 H1 =>
  bnd (binV .int .mul (.int .i64 9) v7) fun v8 =>
  bnd (binV .int .quo v8 (.int .i64 8)) fun v9 =>
  bnd (foldV min2V v9 [(.int .i64 9007199254740991)]) fun v10 =>
  bnd (foldV max2V (.int .i64 1000000) [v10]) fun v11 =>
  S v11 H1
theorem z97_g14_e (S : J1) (x H) : WE z97_pi z97_c10 12 (fun l => S (gd l 2)) x H = z97_g14 S (x 1) H := by kernel_rfl
def loss_Wait (x0 : Value) (R : Value → Heap → Prop) (H : Heap) : Prop :=
  z97_g11 (fun x1 H => z97_g12 (fun x1 x5 H => brV x5
  (z97_g13 (fun x2 H => R x2 H) H)
  (z97_g14 (fun x2 H => R x2 H) x1 H)) x1 H) x0 H
theorem z97_ev (x0 : Value) (R : J1) (H : Heap) (h : loss_Wait x0 R H) : EvF P N.loss_Wait #[x0] H R := .inl (EvF_intro (args := [x0]) (k := 11) (rs := z97_rs) tab_ok mixed Tryz.func97 (show Tryz.f97.body = some z97_c1 by kernel_rfl) Tryz.call97 Tryz.ntmps97 (by kernel_rfl) (okCode_of _ (show okB z97_pi z97_c1 = true by kernel_rfl)) (fr_eq _ _) (fj (n := 12) rfl (fun l hl (h : loss_Wait (gd l 0) R H) => sr rfl hl (z97_g11_e _ (gd l) _) h fun l H hl h => sq rfl <| sr rfl hl (z97_g12_e _ (gd l) _) h fun l H hl h => cd rfl h (fun h => sr rfl hl (z97_g13_e _ (gd l) _) h fun l H hl h => rt rfl h) fun h => kN rfl <| sr rfl hl (z97_g14_e _ (gd l) _) h fun l H hl h => rt rfl h) h))
/- 98: (*sounder/sent.Log).Drop -/
def z98_rs : List ResultVar := [.cell 4 40, .tmp 5]
noncomputable def z98_c2 := sc Tryz.f98 [0]
noncomputable def z98_c4 := sc Tryz.f98 [1,0]
noncomputable def z98_c7 := sc Tryz.f98 [1,1,0,0]
noncomputable def z98_c10 := sc Tryz.f98 [1,1,0,1,0,0]
noncomputable def z98_c9 : Code := .seq z98_c10 Code.ret
noncomputable def z98_c8 : Code := .cond (.tmp 11) z98_c9 Code.skip
noncomputable def z98_c6 : Code := .seq z98_c7 z98_c8
noncomputable def z98_c12 := sc Tryz.f98 [1,1,1,0]
noncomputable def z98_c14 := sc Tryz.f98 [1,1,1,1,0]
noncomputable def z98_c16 := sc Tryz.f98 [1,1,1,1,1,0]
noncomputable def z98_c22 := sc Tryz.f98 [1,1,1,1,1,1,0,0,0,0,0]
noncomputable def z98_c24 : Code := .exit 0
noncomputable def z98_c23 : Code := .cond (.tmp 38) Code.skip z98_c24
noncomputable def z98_c21 : Code := .seq z98_c22 z98_c23
noncomputable def z98_c27 := sc Tryz.f98 [1,1,1,1,1,1,0,0,0,1,0,0]
noncomputable def z98_c28 := sc Tryz.f98 [1,1,1,1,1,1,0,0,0,1,0,1]
noncomputable def z98_c26 : Code := .seq z98_c27 z98_c28
noncomputable def z98_c25 : Code := .block 1 z98_c26
noncomputable def z98_c20 : Code := .seq z98_c21 z98_c25
noncomputable def z98_c19 : Code := .loop z98_c20
noncomputable def z98_c18 : Code := .block 0 z98_c19
noncomputable def z98_c30 := sc Tryz.f98 [1,1,1,1,1,1,1,0]
noncomputable def z98_c29 : Code := .seq z98_c30 Code.ret
noncomputable def z98_c17 : Code := .seq z98_c18 z98_c29
noncomputable def z98_c15 : Code := .seq z98_c16 z98_c17
noncomputable def z98_c13 : Code := .seq z98_c14 z98_c15
noncomputable def z98_c11 : Code := .seq z98_c12 z98_c13
noncomputable def z98_c5 : Code := .seq z98_c6 z98_c11
noncomputable def z98_c3 : Code := .seq z98_c4 z98_c5
noncomputable def z98_c1 : Code := .seq z98_c2 z98_c3
def z98_pi (i : Nat) : Pl := match i with
  | 8 => (ones [0, 1, 2, 3, 4, 5, 6, 7, 8, 9, 10, 11, 12, 13, 14] .nil)
  | _ => .nil
noncomputable def z98_g31 (S : J3) (x0 x1 : Value) (H : Heap) : Prop :=
  newE 40 #[(.int .i64 0), (.int .i64 0), (.int .i64 0), (.bool false), (.bool false), (.bool false)] H fun v4 H1 =>
  S x0 x1 v4 H1
theorem z98_g31_e (S : J3) (x H) : WE z98_pi z98_c2 61 (fun l => S (gd l 0) (gd l 1) (gd l 4)) x H = z98_g31 S (x 0) (x 1) H := by kernel_rfl
noncomputable def z98_g32 (S : J3) (x0 x1 x4 : Value) (H : Heap) : Prop :=
  EvF P N.sent_Log_slot #[x0, x1] H fun v9 H1 =>
  S x0 x4 v9 H1
theorem z98_g32_e (S : J3) (x H) : WE z98_pi z98_c4 61 (fun l => S (gd l 0) (gd l 4) (gd l 6)) x H = z98_g32 S (x 0) (x 1) (x 4) H := by kernel_rfl
noncomputable def z98_g33 (S : J4) (x0 x4 x6 : Value) (H : Heap) : Prop :=
  bnd (binV .ptr .eql x6 (.pointer none)) fun v11 =>
  S x0 x4 x6 v11 H
theorem z98_g33_e (S : J4) (x H) : WE z98_pi z98_c7 61 (fun l => S (gd l 0) (gd l 4) (gd l 6) (gd l 11)) x H = z98_g33 S (x 0) (x 4) (x 6) H := by kernel_rfl
noncomputable def z98_g34 (S : J2) (x4 : Value) (H : Heap) : Prop :=
  bnd (ldE true 6 x4 H) fun v12 =>
  bnd (stE 6 x4 v12 H) fun H1 =>
  S x4 (.bool false) H1
theorem z98_g34_e (S : J2) (x H) : WE z98_pi z98_c10 61 (fun l => S (gd l 4) (gd l 5)) x H = z98_g34 S (x 4) H := by kernel_rfl
noncomputable def z98_g35 (S : J3) (x0 x4 x6 : Value) (H : Heap) : Prop :=
  bnd (nilV x6) fun v14 =>
  bnd (faV 6 v14) fun v15 =>
  bnd (stE 1 v15 (.bool false) H) fun H1 =>
  S x0 x4 x6 H1
theorem z98_g35_e (S : J3) (x H) : WE z98_pi z98_c12 61 (fun l => S (gd l 0) (gd l 4) (gd l 6)) x H = z98_g35 S (x 0) (x 4) (x 6) H := by kernel_rfl
noncomputable def z98_g36 (S : J3) (x0 x4 x6 : Value) (H : Heap) : Prop :=
  bnd (nilV x6) fun v18 =>
  bnd (faV 0 v18) fun v19 =>
  bnd (ldE true 6 v19 H) fun v20 =>
  EvF P N.sent_Log_less #[x0, v20] H fun _ H1 =>
  S x0 x4 x6 H1
theorem z98_g36_e (S : J3) (x H) : WE z98_pi z98_c14 61 (fun l => S (gd l 0) (gd l 4) (gd l 6)) x H = z98_g36 S (x 0) (x 4) (x 6) H := by kernel_rfl
noncomputable def z98_g37 (S : J2) (x0 x4 x6 : Value) (H : Heap) : Prop :=
  bnd (nilV x6) fun v23 =>
  bnd (faV 0 v23) fun v24 =>
  bnd (ldE true 6 v24 H) fun v25 =>
  bnd (stE 6 x4 v25 H) fun H1 =>
  S x0 x4 H1
theorem z98_g37_e (S : J2) (x H) : WE z98_pi z98_c16 61 (fun l => S (gd l 0) (gd l 4)) x H = z98_g37 S (x 0) (x 4) (x 6) H := by kernel_rfl
noncomputable def z98_g39 (S : J3) (x0 x4 : Value) (H : Heap) : Prop :=
  bnd (nilV x0) fun v27 =>
  bnd (faV 4 v27) fun v28 =>
  bnd (ldE false 1 v28 H) fun v29 =>
  bnd (binV .int .gtr v29 (.int .i64 0)) fun v30 =>
  brV v30
  (EvF P N.sent_Log_at #[x0, (.int .i64 0)] H fun v33 H1 =>
  bnd (nilV v33) fun v34 =>
  bnd (faV 6 v34) fun v35 =>
  bnd (ldE false 1 v35 H1) fun v36 =>
  bnd (unV .not v36) fun v37 =>
  S x0 x4 v37 H1)
  (S x0 x4 (.bool false) H)
theorem z98_g39_e (S : J3) (x H) : WE z98_pi z98_c22 61 (fun l => S (gd l 0) (gd l 4) (gd l 38)) x H = z98_g39 S (x 0) (x 4) H := by kernel_rfl
noncomputable def z98_g40 (S : J2) (x0 x4 : Value) (H : Heap) : Prop :=
  bnd (nilV x0) fun v41 =>
  bnd (faV 3 v41) fun v42 =>
  bnd (ldE false 1 v42 H) fun v43 =>
  bnd (binV .int .add v43 (.int .i64 1)) fun v44 =>
  bnd (nilV x0) fun v46 =>
  bnd (faV 2 v46) fun v47 =>
  bnd (ldE false 1 v47 H) fun v48 =>
  bnd (lenV v48) fun v49 =>
  bnd (binV .int .rem v44 v49) fun v50 =>
  bnd (nilV x0) fun v51 =>
  bnd (faV 3 v51) fun v52 =>
  bnd (stE 1 v52 v50 H) fun H1 =>
  S x0 x4 H1
theorem z98_g40_e (S : J2) (x H) : WE z98_pi z98_c27 61 (fun l => S (gd l 0) (gd l 4)) x H = z98_g40 S (x 0) (x 4) H := by kernel_rfl
noncomputable def z98_g41 (S : J2) (x0 x4 : Value) (H : Heap) : Prop :=
  bnd (nilV x0) fun v54 =>
  bnd (faV 4 v54) fun v55 =>
  bnd (ldE false 1 v55 H) fun v56 =>
  bnd (binV .int .sub v56 (.int .i64 1)) fun v57 =>
  bnd (nilV x0) fun v58 =>
  bnd (faV 4 v58) fun v59 =>
  bnd (stE 1 v59 v57 H) fun H1 =>
  S x0 x4 H1
theorem z98_g41_e (S : J2) (x H) : WE z98_pi z98_c28 61 (fun l => S (gd l 0) (gd l 4)) x H = z98_g41 S (x 0) (x 4) H := by kernel_rfl
noncomputable def z98_g42 (S : J2) (x4 : Value) (H : Heap) : Prop :=
  bnd (ldE true 6 x4 H) fun v60 =>
  bnd (stE 6 x4 v60 H) fun H1 =>
  S x4 (.bool true) H1
theorem z98_g42_e (S : J2) (x H) : WE z98_pi z98_c30 61 (fun l => S (gd l 4) (gd l 5)) x H = z98_g42 S (x 4) H := by kernel_rfl
noncomputable def z98_s38 (x0 x4 : Value) (K1 : J2) (R : J1) (H : Heap) : Prop :=
  z98_g39 (fun x0 x4 x38 H => brV x38
  (z98_g40 (fun x0 x4 H => z98_g41 (fun x0 x4 H => K1 x0 x4 H) x0 x4 H) x0 x4 H)
  (z98_g42 (fun x4 x5 H => bnd (ldE true 6 x4 H) fun r0 =>
  R (.tuple #[r0, x5]) H) x4 H)) x0 x4 H
noncomputable def z98_q43 (R : J1) : JQ := (retQ tab z98_rs R)
noncomputable def z98_q44 (R : J1) : JQ := (thenE (fun l H => wpE tab P z98_pi z98_c29 (z98_q43 R) l H) (z98_q43 R))
noncomputable def z98_q45 (R : J1) : JQ := (blkE 0 (z98_q44 R))
noncomputable def z98_q46 (K1 : J2) (R : J1) : JQ := (thenE (fun l H => K1 (gd l 0) (gd l 4) H) (z98_q45 R))
theorem z98_s38_i (K1 : J2) (R : J1) (l : List Value) (H : Heap) (hl : l.length = 61) (h : z98_s38 (gd l 0) (gd l 4) K1 R H) : wpE tab P z98_pi z98_c20 (z98_q46 K1 R) l H := sq rfl <| sr rfl hl (z98_g39_e _ (gd l) _) h fun l H hl h => cd rfl h (fun h => kN rfl <| bl rfl <| sr rfl hl (z98_g40_e _ (gd l) _) h fun l H hl h => rj hl (z98_g41_e _ (gd l) _) h fun l H hl h => bN <| tN <| h) fun h => ex rfl <| tX <| tX <| bX <| tN <| sr rfl hl (z98_g42_e _ (gd l) _) h fun l H hl h => rt rfl h
noncomputable def z98_l47 (x0 x4 : Value) (R : J1) (H : Heap) : Prop :=
  ∃ (I : J0) (μ : M0), I  H ∧ ∀ (H : Heap), I  H → z98_s38 x0 x4 (fun z0 z4 H' => z0 = x0 ∧ z4 = x4 ∧ (I  H' ∧ μ  H' < μ  H)) R H
def sent_Log_Drop (x0 x1 : Value) (R : Value → Heap → Prop) (H : Heap) : Prop :=
  z98_g31 (fun x0 x1 x4 H => z98_g32 (fun x0 x4 x6 H => z98_g33 (fun x0 x4 x6 x11 H => brV x11
  (z98_g34 (fun x4 x5 H => bnd (ldE true 6 x4 H) fun r0 =>
  R (.tuple #[r0, x5]) H) x4 H)
  (z98_g35 (fun x0 x4 x6 H => z98_g36 (fun x0 x4 x6 H => z98_g37 (fun x0 x4 H => z98_l47 x0 x4 R H) x0 x4 x6 H) x0 x4 x6 H) x0 x4 x6 H)) x0 x4 x6 H) x0 x1 x4 H) x0 x1 H
theorem z98_ev (x0 x1 : Value) (R : J1) (H : Heap) (h : sent_Log_Drop x0 x1 R H) : EvF P N.sent_Log_Drop #[x0, x1] H R := .inl (EvF_intro (args := [x0, x1]) (k := 59) (rs := z98_rs) tab_ok mixed Tryz.func98 (show Tryz.f98.body = some z98_c1 by kernel_rfl) Tryz.call98 Tryz.ntmps98 (by kernel_rfl) (okCode_of _ (show okB z98_pi z98_c1 = true by kernel_rfl)) (fr_eq _ _) (fj (n := 61) rfl (fun l hl (h : sent_Log_Drop (gd l 0) (gd l 1) R H) => sr rfl hl (z98_g31_e _ (gd l) _) h fun l H hl h => sr rfl hl (z98_g32_e _ (gd l) _) h fun l H hl h => sq rfl <| sr rfl hl (z98_g33_e _ (gd l) _) h fun l H hl h => cd rfl h (fun h => sr rfl hl (z98_g34_e _ (gd l) _) h fun l H hl h => rt rfl h) fun h => kN rfl <| sr rfl hl (z98_g35_e _ (gd l) _) h fun l H hl h => sr rfl hl (z98_g36_e _ (gd l) _) h fun l H hl h => sr rfl hl (z98_g37_e _ (gd l) _) h fun l H hl h => sq rfl <| bl rfl <| (by
    obtain ⟨I, μ, h0, hr⟩ := h
    refine loopI (c := z98_c19) rfl (fun l' H' => gd l' 0 = gd l 0 ∧ gd l' 4 = gd l 4 ∧ I  H') (fun l' H' => μ  H') hl ⟨rfl, rfl, h0⟩ ?_
    rintro l1 H1 hl1 ⟨e0, e4, hI⟩
    have hb := hr  H1 hI
    rw [← e0, ← e4] at hb
    refine wpE_mono _ l1 H1 hl1 ?_ (z98_s38_i _ R l1 H1 hl1 hb)
    intro e l2 H2 hl2 hq
    cases e with
    | normal => exact fun _ => (by obtain ⟨d0, d4, g1, g2⟩ := hq; exact ⟨⟨d0.trans e0, d4.trans e4, g1⟩, g2⟩)
    | _ => exact hq)) h))
/- 99: (*sounder/sent.Log).none -/
def z99_rs : List ResultVar := [.tmp 2]
noncomputable def z99_c2 := sc Tryz.f99 [0]
noncomputable def z99_c4 := sc Tryz.f99 [1,0]
noncomputable def z99_c3 : Code := .seq z99_c4 Code.ret
noncomputable def z99_c1 : Code := .seq z99_c2 z99_c3
def z99_pi (_ : Nat) : Pl := .nil
noncomputable def z99_g5 (S : J1) (x0 : Value) (H : Heap) : Prop :=
  S x0 H
theorem z99_g5_e (S : J1) (x H) : WE z99_pi z99_c2 12 (fun l => S (gd l 0)) x H = z99_g5 S (x 0) H := by kernel_rfl
noncomputable def z99_g6 (S : J1) (x0 : Value) (H : Heap) : Prop :=
  bnd (binV .ptr .eql x0 (.pointer none)) fun v4 =>
  brV v4
  (S (.bool true) H)
  (bnd (nilV x0) fun v7 =>
  bnd (faV 0 v7) fun v8 =>
  bnd (ldE false 1 v8 H) fun v9 =>
  bnd (binV .int .eql v9 (.int .i64 0)) fun v10 =>
  S v10 H)
theorem z99_g6_e (S : J1) (x H) : WE z99_pi z99_c4 12 (fun l => S (gd l 2)) x H = z99_g6 S (x 0) H := by kernel_rfl
def sent_Log_none (x0 : Value) (R : Value → Heap → Prop) (H : Heap) : Prop :=
  z99_g5 (fun x0 H => z99_g6 (fun x2 H => R x2 H) x0 H) x0 H
theorem z99_ev (x0 : Value) (R : J1) (H : Heap) (h : sent_Log_none x0 R H) : EvF P N.sent_Log_none #[x0] H R := .inl (EvF_intro (args := [x0]) (k := 11) (rs := z99_rs) tab_ok mixed Tryz.func99 (show Tryz.f99.body = some z99_c1 by kernel_rfl) Tryz.call99 Tryz.ntmps99 (by kernel_rfl) (okCode_of _ (show okB z99_pi z99_c1 = true by kernel_rfl)) (fr_eq _ _) (fj (n := 12) rfl (fun l hl (h : sent_Log_none (gd l 0) R H) => sr rfl hl (z99_g5_e _ (gd l) _) h fun l H hl h => sr rfl hl (z99_g6_e _ (gd l) _) h fun l H hl h => rt rfl h) h))
/- 100: sounder/frame.isNumber -/
def z100_rs : List ResultVar := [.tmp 2]
noncomputable def z100_c2 := sc Tryz.f100 [0]
noncomputable def z100_c4 := sc Tryz.f100 [1,0]
noncomputable def z100_c3 : Code := .seq z100_c4 Code.ret
noncomputable def z100_c1 : Code := .seq z100_c2 z100_c3
def z100_pi (_ : Nat) : Pl := .nil
noncomputable def z100_g5 (S : J1) (x0 : Value) (H : Heap) : Prop :=
  S x0 H
theorem z100_g5_e (S : J1) (x H) : WE z100_pi z100_c2 9 (fun l => S (gd l 0)) x H = z100_g5 S (x 0) H := by kernel_rfl
noncomputable def z100_g6 (S : J1) (x0 : Value) (H : Heap) : Prop :=
  bnd (binV .int .geq x0 (.int .i64 0)) fun v4 =>
  brV v4
  (bnd (binV .int .leq x0 (.int .i64 9007199254740991)) fun v7 =>
  S v7 H)
  (S (.bool false) H)
theorem z100_g6_e (S : J1) (x H) : WE z100_pi z100_c4 9 (fun l => S (gd l 2)) x H = z100_g6 S (x 0) H := by kernel_rfl
def frame_isNumber (x0 : Value) (R : Value → Heap → Prop) (H : Heap) : Prop :=
  z100_g5 (fun x0 H => z100_g6 (fun x2 H => R x2 H) x0 H) x0 H
theorem z100_ev (x0 : Value) (R : J1) (H : Heap) (h : frame_isNumber x0 R H) : EvF P N.frame_isNumber #[x0] H R := .inl (EvF_intro (args := [x0]) (k := 8) (rs := z100_rs) tab_ok mixed Tryz.func100 (show Tryz.f100.body = some z100_c1 by kernel_rfl) Tryz.call100 Tryz.ntmps100 (by kernel_rfl) (okCode_of _ (show okB z100_pi z100_c1 = true by kernel_rfl)) (fr_eq _ _) (fj (n := 9) rfl (fun l hl (h : frame_isNumber (gd l 0) R H) => sr rfl hl (z100_g5_e _ (gd l) _) h fun l H hl h => sr rfl hl (z100_g6_e _ (gd l) _) h fun l H hl h => rt rfl h) h))
/- 101: sounder/frame.gaps -/
def z101_rs : List ResultVar := [.tmp 2]
noncomputable def z101_c2 := sc Tryz.f101 [0]
noncomputable def z101_c4 := sc Tryz.f101 [1,0]
noncomputable def z101_c3 : Code := .seq z101_c4 Code.ret
noncomputable def z101_c1 : Code := .seq z101_c2 z101_c3
def z101_pi (_ : Nat) : Pl := .nil
noncomputable def z101_g5 (S : J1) (x0 : Value) (H : Heap) : Prop :=
  newE 52 (Value.cells x0) H fun v1 H1 =>
  S v1 H1
theorem z101_g5_e (S : J1) (x H) : WE z101_pi z101_c2 4 (fun l => S (gd l 1)) x H = z101_g5 S (x 0) H := by kernel_rfl
noncomputable def z101_g6 (S : J1) (x1 : Value) (H : Heap) : Prop :=
  S (.func (.func N.frame_gaps_1) #[] #[x1]) H
theorem z101_g6_e (S : J1) (x H) : WE z101_pi z101_c4 4 (fun l => S (gd l 2)) x H = z101_g6 S (x 1) H := by kernel_rfl
def frame_gaps (x0 : Value) (R : Value → Heap → Prop) (H : Heap) : Prop :=
  z101_g5 (fun x1 H => z101_g6 (fun x2 H => R x2 H) x1 H) x0 H
theorem z101_ev (x0 : Value) (R : J1) (H : Heap) (h : frame_gaps x0 R H) : EvF P N.frame_gaps #[x0] H R := .inl (EvF_intro (args := [x0]) (k := 3) (rs := z101_rs) tab_ok mixed Tryz.func101 (show Tryz.f101.body = some z101_c1 by kernel_rfl) Tryz.call101 Tryz.ntmps101 (by kernel_rfl) (okCode_of _ (show okB z101_pi z101_c1 = true by kernel_rfl)) (fr_eq _ _) (fj (n := 4) rfl (fun l hl (h : frame_gaps (gd l 0) R H) => sr rfl hl (z101_g5_e _ (gd l) _) h fun l H hl h => sr rfl hl (z101_g6_e _ (gd l) _) h fun l H hl h => rt rfl h) h))
/- 102: slices.ContainsFunc[[]sounder/api.Range,sounder/api.Range] -/
def z102_rs : List ResultVar := [.tmp 4]
noncomputable def z102_c2 := sc Tryz.f102 [0]
noncomputable def z102_c4 := sc Tryz.f102 [1,0]
noncomputable def z102_c3 : Code := .seq z102_c4 Code.ret
noncomputable def z102_c1 : Code := .seq z102_c2 z102_c3
def z102_pi (_ : Nat) : Pl := .nil
noncomputable def z102_g5 (S : J2) (x0 x1 : Value) (H : Heap) : Prop :=
  S x0 x1 H
theorem z102_g5_e (S : J2) (x H) : WE z102_pi z102_c2 9 (fun l => S (gd l 0) (gd l 1)) x H = z102_g5 S (x 0) (x 1) H := by kernel_rfl
noncomputable def z102_g6 (S : J1) (x0 x1 : Value) (H : Heap) : Prop :=
  EvF P N.slices_IndexFunc_Range #[x0, x1] H fun v7 H1 =>
  bnd (binV .int .geq v7 (.int .i64 0)) fun v8 =>
  S v8 H1
theorem z102_g6_e (S : J1) (x H) : WE z102_pi z102_c4 9 (fun l => S (gd l 4)) x H = z102_g6 S (x 0) (x 1) H := by kernel_rfl
def slices_ContainsFunc_Range (x0 x1 : Value) (R : Value → Heap → Prop) (H : Heap) : Prop :=
  z102_g5 (fun x0 x1 H => z102_g6 (fun x4 H => R x4 H) x0 x1 H) x0 x1 H
theorem z102_ev (x0 x1 : Value) (R : J1) (H : Heap) (h : slices_ContainsFunc_Range x0 x1 R H) : EvF P N.slices_ContainsFunc_Range #[x0, x1] H R := .inl (EvF_intro (args := [x0, x1]) (k := 7) (rs := z102_rs) tab_ok mixed Tryz.func102 (show Tryz.f102.body = some z102_c1 by kernel_rfl) Tryz.call102 Tryz.ntmps102 (by kernel_rfl) (okCode_of _ (show okB z102_pi z102_c1 = true by kernel_rfl)) (fr_eq _ _) (fj (n := 9) rfl (fun l hl (h : slices_ContainsFunc_Range (gd l 0) (gd l 1) R H) => sr rfl hl (z102_g5_e _ (gd l) _) h fun l H hl h => sr rfl hl (z102_g6_e _ (gd l) _) h fun l H hl h => rt rfl h) h))
/- 103: (*sounder/span.Set).Ranges -/
def z103_rs : List ResultVar := [.tmp 2]
noncomputable def z103_c2 := sc Tryz.f103 [0]
noncomputable def z103_c5 := sc Tryz.f103 [1,0,0]
noncomputable def z103_c8 := sc Tryz.f103 [1,0,1,0,0]
noncomputable def z103_c7 : Code := .seq z103_c8 Code.ret
noncomputable def z103_c6 : Code := .cond (.tmp 4) z103_c7 Code.skip
noncomputable def z103_c4 : Code := .seq z103_c5 z103_c6
noncomputable def z103_c10 := sc Tryz.f103 [1,1,0]
noncomputable def z103_c9 : Code := .seq z103_c10 Code.ret
noncomputable def z103_c3 : Code := .seq z103_c4 z103_c9
noncomputable def z103_c1 : Code := .seq z103_c2 z103_c3
def z103_pi (_ : Nat) : Pl := .nil
noncomputable def z103_g11 (S : J1) (x0 : Value) (H : Heap) : Prop :=
  S x0 H
theorem z103_g11_e (S : J1) (x H) : WE z103_pi z103_c2 8 (fun l => S (gd l 0)) x H = z103_g11 S (x 0) H := by kernel_rfl
noncomputable def z103_g12 (S : J2) (x0 : Value) (H : Heap) : Prop :=
  EvF P N.span_Set_none #[x0] H fun v4 H1 =>
  S x0 v4 H1
theorem z103_g12_e (S : J2) (x H) : WE z103_pi z103_c5 8 (fun l => S (gd l 0) (gd l 4)) x H = z103_g12 S (x 0) H := by kernel_rfl
noncomputable def z103_g13 (S : J1) (H : Heap) : Prop :=
  S (.slice none 0 0) H
theorem z103_g13_e (S : J1) (x H) : WE z103_pi z103_c8 8 (fun l => S (gd l 2)) x H = z103_g13 S  H := by kernel_rfl
noncomputable def z103_g14 (S : J1) (x0 : Value) (H : Heap) : Prop :=
  EvF P N.span_Set_falling #[x0] H fun v6 H1 =>
  EvF P N.slices_Collect_Range #[v6] H1 fun v7 H2 =>
  S v7 H2
theorem z103_g14_e (S : J1) (x H) : WE z103_pi z103_c10 8 (fun l => S (gd l 2)) x H = z103_g14 S (x 0) H := by kernel_rfl
def span_Set_Ranges (x0 : Value) (R : Value → Heap → Prop) (H : Heap) : Prop :=
  z103_g11 (fun x0 H => z103_g12 (fun x0 x4 H => brV x4
  (z103_g13 (fun x2 H => R x2 H) H)
  (z103_g14 (fun x2 H => R x2 H) x0 H)) x0 H) x0 H
theorem z103_ev (x0 : Value) (R : J1) (H : Heap) (h : span_Set_Ranges x0 R H) : EvF P N.span_Set_Ranges #[x0] H R := .inl (EvF_intro (args := [x0]) (k := 7) (rs := z103_rs) tab_ok mixed Tryz.func103 (show Tryz.f103.body = some z103_c1 by kernel_rfl) Tryz.call103 Tryz.ntmps103 (by kernel_rfl) (okCode_of _ (show okB z103_pi z103_c1 = true by kernel_rfl)) (fr_eq _ _) (fj (n := 8) rfl (fun l hl (h : span_Set_Ranges (gd l 0) R H) => sr rfl hl (z103_g11_e _ (gd l) _) h fun l H hl h => sq rfl <| sr rfl hl (z103_g12_e _ (gd l) _) h fun l H hl h => cd rfl h (fun h => sr rfl hl (z103_g13_e _ (gd l) _) h fun l H hl h => rt rfl h) fun h => kN rfl <| sr rfl hl (z103_g14_e _ (gd l) _) h fun l H hl h => rt rfl h) h))
/- 104: (*sounder/space.Space).sentAll$1 -/
def z104_rs : List ResultVar := [.tmp 3]
noncomputable def z104_c2 := sc Tryz.f104 [0]
noncomputable def z104_c4 := sc Tryz.f104 [1,0]
noncomputable def z104_c3 : Code := .seq z104_c4 Code.ret
noncomputable def z104_c1 : Code := .seq z104_c2 z104_c3
def z104_pi (_ : Nat) : Pl := .nil
noncomputable def z104_g5 (S : J2) (x0 x1 : Value) (H : Heap) : Prop :=
  newE 93 (Value.cells x0) H fun v2 H1 =>
  S x1 v2 H1
theorem z104_g5_e (S : J2) (x H) : WE z104_pi z104_c2 16 (fun l => S (gd l 1) (gd l 2)) x H = z104_g5 S (x 0) (x 1) H := by kernel_rfl
noncomputable def z104_g6 (S : J1) (x1 x2 : Value) (H : Heap) : Prop :=
  bnd (faV 0 x2) fun v4 =>
  bnd (ldE false 1 v4 H) fun v5 =>
  bnd (faV 0 x1) fun v6 =>
  bnd (ldE false 1 v6 H) fun v7 =>
  bnd (binV .int .leq v5 v7) fun v8 =>
  brV v8
  (bnd (faV 1 x1) fun v10 =>
  bnd (ldE false 1 v10 H) fun v11 =>
  bnd (faV 1 x2) fun v12 =>
  bnd (ldE false 1 v12 H) fun v13 =>
  bnd (binV .int .leq v11 v13) fun v14 =>
  S v14 H)
  (S (.bool false) H)
theorem z104_g6_e (S : J1) (x H) : WE z104_pi z104_c4 16 (fun l => S (gd l 3)) x H = z104_g6 S (x 1) (x 2) H := by kernel_rfl
def space_Space_sentAll_1 (x0 x1 : Value) (R : Value → Heap → Prop) (H : Heap) : Prop :=
  z104_g5 (fun x1 x2 H => z104_g6 (fun x3 H => R x3 H) x1 x2 H) x0 x1 H
theorem z104_ev (x0 x1 : Value) (R : J1) (H : Heap) (h : space_Space_sentAll_1 x0 x1 R H) : EvF P N.space_Space_sentAll_1 #[x0, x1] H R := .inl (EvF_intro (args := [x0, x1]) (k := 14) (rs := z104_rs) tab_ok mixed Tryz.func104 (show Tryz.f104.body = some z104_c1 by kernel_rfl) Tryz.call104 Tryz.ntmps104 (by kernel_rfl) (okCode_of _ (show okB z104_pi z104_c1 = true by kernel_rfl)) (fr_eq _ _) (fj (n := 16) rfl (fun l hl (h : space_Space_sentAll_1 (gd l 0) (gd l 1) R H) => sr rfl hl (z104_g5_e _ (gd l) _) h fun l H hl h => sr rfl hl (z104_g6_e _ (gd l) _) h fun l H hl h => rt rfl h) h))
/- 105: (*sounder/sent.Log).Oldest -/
def z105_rs : List ResultVar := [.cell 2 40, .tmp 3]
noncomputable def z105_c2 := sc Tryz.f105 [0]
noncomputable def z105_c5 := sc Tryz.f105 [1,0,0]
noncomputable def z105_c8 := sc Tryz.f105 [1,0,1,0,0]
noncomputable def z105_c7 : Code := .seq z105_c8 Code.ret
noncomputable def z105_c6 : Code := .cond (.tmp 12) z105_c7 Code.skip
noncomputable def z105_c4 : Code := .seq z105_c5 z105_c6
noncomputable def z105_c10 := sc Tryz.f105 [1,1,0]
noncomputable def z105_c9 : Code := .seq z105_c10 Code.ret
noncomputable def z105_c3 : Code := .seq z105_c4 z105_c9
noncomputable def z105_c1 : Code := .seq z105_c2 z105_c3
def z105_pi (_ : Nat) : Pl := .nil
noncomputable def z105_g11 (S : J2) (x0 : Value) (H : Heap) : Prop :=
  newE 40 #[(.int .i64 0), (.int .i64 0), (.int .i64 0), (.bool false), (.bool false), (.bool false)] H fun v2 H1 =>
  S x0 v2 H1
theorem z105_g11_e (S : J2) (x H) : WE z105_pi z105_c2 19 (fun l => S (gd l 0) (gd l 2)) x H = z105_g11 S (x 0) H := by kernel_rfl
noncomputable def z105_g12 (S : J3) (x0 x2 : Value) (H : Heap) : Prop :=
  EvF P N.sent_Log_none #[x0] H fun v5 H1 =>
  brV v5
  (S x0 x2 (.bool true) H1)
  (bnd (nilV x0) fun v8 =>
  bnd (faV 4 v8) fun v9 =>
  bnd (ldE false 1 v9 H1) fun v10 =>
  bnd (binV .int .eql v10 (.int .i64 0)) fun v11 =>
  S x0 x2 v11 H1)
theorem z105_g12_e (S : J3) (x H) : WE z105_pi z105_c5 19 (fun l => S (gd l 0) (gd l 2) (gd l 12)) x H = z105_g12 S (x 0) (x 2) H := by kernel_rfl
noncomputable def z105_g13 (S : J2) (x2 : Value) (H : Heap) : Prop :=
  bnd (ldE true 6 x2 H) fun v13 =>
  bnd (stE 6 x2 v13 H) fun H1 =>
  S x2 (.bool false) H1
theorem z105_g13_e (S : J2) (x H) : WE z105_pi z105_c8 19 (fun l => S (gd l 2) (gd l 3)) x H = z105_g13 S (x 2) H := by kernel_rfl
noncomputable def z105_g14 (S : J2) (x0 x2 : Value) (H : Heap) : Prop :=
  EvF P N.sent_Log_at #[x0, (.int .i64 0)] H fun v15 H1 =>
  bnd (nilV v15) fun v16 =>
  bnd (faV 0 v16) fun v17 =>
  bnd (ldE true 6 v17 H1) fun v18 =>
  bnd (stE 6 x2 v18 H1) fun H2 =>
  S x2 (.bool true) H2
theorem z105_g14_e (S : J2) (x H) : WE z105_pi z105_c10 19 (fun l => S (gd l 2) (gd l 3)) x H = z105_g14 S (x 0) (x 2) H := by kernel_rfl
def sent_Log_Oldest (x0 : Value) (R : Value → Heap → Prop) (H : Heap) : Prop :=
  z105_g11 (fun x0 x2 H => z105_g12 (fun x0 x2 x12 H => brV x12
  (z105_g13 (fun x2 x3 H => bnd (ldE true 6 x2 H) fun r0 =>
  R (.tuple #[r0, x3]) H) x2 H)
  (z105_g14 (fun x2 x3 H => bnd (ldE true 6 x2 H) fun r0 =>
  R (.tuple #[r0, x3]) H) x0 x2 H)) x0 x2 H) x0 H
theorem z105_ev (x0 : Value) (R : J1) (H : Heap) (h : sent_Log_Oldest x0 R H) : EvF P N.sent_Log_Oldest #[x0] H R := .inl (EvF_intro (args := [x0]) (k := 18) (rs := z105_rs) tab_ok mixed Tryz.func105 (show Tryz.f105.body = some z105_c1 by kernel_rfl) Tryz.call105 Tryz.ntmps105 (by kernel_rfl) (okCode_of _ (show okB z105_pi z105_c1 = true by kernel_rfl)) (fr_eq _ _) (fj (n := 19) rfl (fun l hl (h : sent_Log_Oldest (gd l 0) R H) => sr rfl hl (z105_g11_e _ (gd l) _) h fun l H hl h => sq rfl <| sr rfl hl (z105_g12_e _ (gd l) _) h fun l H hl h => cd rfl h (fun h => sr rfl hl (z105_g13_e _ (gd l) _) h fun l H hl h => rt rfl h) fun h => kN rfl <| sr rfl hl (z105_g14_e _ (gd l) _) h fun l H hl h => rt rfl h) h))
/- 106: (*sounder/span.Set).Cut -/
def z106_rs : List ResultVar := [.tmp 4]
noncomputable def z106_c2 := sc Tryz.f106 [0]
noncomputable def z106_c6 := sc Tryz.f106 [1,0,0,0]
noncomputable def z106_c9 := sc Tryz.f106 [1,0,0,1,0,0]
noncomputable def z106_c8 : Code := .seq z106_c9 Code.ret
noncomputable def z106_c11 := sc Tryz.f106 [1,0,0,1,1,0]
noncomputable def z106_c14 := sc Tryz.f106 [1,0,0,1,1,1,0,0]
noncomputable def z106_c13 : Code := .seq z106_c14 Code.ret
noncomputable def z106_c12 : Code := .cond (.tmp 8) z106_c13 Code.skip
noncomputable def z106_c10 : Code := .seq z106_c11 z106_c12
noncomputable def z106_c7 : Code := .cond (.tmp 5) z106_c8 z106_c10
noncomputable def z106_c5 : Code := .seq z106_c6 z106_c7
noncomputable def z106_c4 : Code := .block 0 z106_c5
noncomputable def z106_c16 := sc Tryz.f106 [1,1,0]
noncomputable def z106_c19 := sc Tryz.f106 [1,1,1,0,0]
noncomputable def z106_c21 := sc Tryz.f106 [1,1,1,0,1,0]
noncomputable def z106_c20 : Code := .cond (.tmp 28) z106_c21 Code.skip
noncomputable def z106_c18 : Code := .seq z106_c19 z106_c20
noncomputable def z106_c23 := sc Tryz.f106 [1,1,1,1,0]
noncomputable def z106_c22 : Code := .seq z106_c23 Code.ret
noncomputable def z106_c17 : Code := .seq z106_c18 z106_c22
noncomputable def z106_c15 : Code := .seq z106_c16 z106_c17
noncomputable def z106_c3 : Code := .seq z106_c4 z106_c15
noncomputable def z106_c1 : Code := .seq z106_c2 z106_c3
def z106_pi (i : Nat) : Pl := match i with
  | 5 => (ones [0, 1, 2, 3, 4, 5, 6, 7, 8, 9, 10, 11] .nil)
  | 7 => (ones [0, 1, 2, 3, 4, 5, 6, 7, 8, 9, 10, 11, 12, 13, 14, 15] .nil)
  | _ => .nil
noncomputable def z106_g24 (S : J2) (x0 x1 : Value) (H : Heap) : Prop :=
  S x0 x1 H
theorem z106_g24_e (S : J2) (x H) : WE z106_pi z106_c2 44 (fun l => S (gd l 0) (gd l 1)) x H = z106_g24 S (x 0) (x 1) H := by kernel_rfl
noncomputable def z106_g25 (S : J3) (x0 x1 : Value) (H : Heap) : Prop :=
  EvF P N.span_Set_none #[x0] H fun v7 H1 =>
  S x0 x1 v7 H1
theorem z106_g25_e (S : J3) (x H) : WE z106_pi z106_c6 44 (fun l => S (gd l 0) (gd l 1) (gd l 5)) x H = z106_g25 S (x 0) (x 1) H := by kernel_rfl
noncomputable def z106_g26 (S : J1) (H : Heap) : Prop :=
  S (.int .i64 1) H
theorem z106_g26_e (S : J1) (x H) : WE z106_pi z106_c9 44 (fun l => S (gd l 4)) x H = z106_g26 S  H := by kernel_rfl
noncomputable def z106_g27 (S : J3) (x0 x1 : Value) (H : Heap) : Prop :=
  EvF P N.span_is #[x1] H fun v10 H1 =>
  bnd (unV .not v10) fun v11 =>
  S x0 x1 v11 H1
theorem z106_g27_e (S : J3) (x H) : WE z106_pi z106_c11 44 (fun l => S (gd l 0) (gd l 1) (gd l 8)) x H = z106_g27 S (x 0) (x 1) H := by kernel_rfl
noncomputable def z106_g28 (S : J1) (H : Heap) : Prop :=
  S (.int .i64 2) H
theorem z106_g28_e (S : J1) (x H) : WE z106_pi z106_c14 44 (fun l => S (gd l 4)) x H = z106_g28 S  H := by kernel_rfl
noncomputable def z106_g29 (S : J2) (x0 x1 : Value) (H : Heap) : Prop :=
  bnd (nilV x0) fun v14 =>
  bnd (faV 1 v14) fun v15 =>
  bnd (ldE false 1 v15 H) fun v16 =>
  EvF P N.span_Set_first #[x0, x1] H fun v19 H1 =>
  ((bnd (ldE false 1 v15 H1) fun v' => v' = v16) ∧
  EvF P N.slices_Delete_Range #[v16, (.int .i64 0), v19] H1 fun v20 H2 =>
  bnd (nilV x0) fun v21 =>
  bnd (faV 1 v21) fun v22 =>
  bnd (stE 1 v22 v20 H2) fun H3 =>
  S x0 x1 H3)
theorem z106_g29_e (S : J2) (x H) : WE z106_pi z106_c16 44 (fun l => S (gd l 0) (gd l 1)) x H = z106_g29 S (x 0) (x 1) H := by kernel_rfl
noncomputable def z106_g31 (S : J1) (H : Heap) : Prop :=
  S (.int .i64 0) H
theorem z106_g31_e (S : J1) (x H) : WE z106_pi z106_c23 44 (fun l => S (gd l 4)) x H = z106_g31 S  H := by kernel_rfl
noncomputable def z106_s30 (R : J1) (H : Heap) : Prop :=
  z106_g31 (fun x4 H => R x4 H) H
noncomputable def z106_q32 (R : J1) : JQ := (retQ tab z106_rs R)
theorem z106_s30_i (R : J1) (l : List Value) (H : Heap) (hl : l.length = 44) (h : z106_s30  R H) : wpE tab P z106_pi z106_c22 (z106_q32 R) l H := sr rfl hl (z106_g31_e _ (gd l) _) h fun l H hl h => rt rfl h
noncomputable def z106_g33 (S : J3) (x0 x1 : Value) (H : Heap) : Prop :=
  bnd (nilV x0) fun v24 =>
  bnd (faV 1 v24) fun v25 =>
  bnd (ldE false 1 v25 H) fun v26 =>
  bnd (lenV v26) fun v27 =>
  bnd (binV .int .gtr v27 (.int .i64 0)) fun v28 =>
  S x0 x1 v28 H
theorem z106_g33_e (S : J3) (x H) : WE z106_pi z106_c19 44 (fun l => S (gd l 0) (gd l 1) (gd l 28)) x H = z106_g33 S (x 0) (x 1) H := by kernel_rfl
noncomputable def z106_g34 (S : J0) (x0 x1 : Value) (H : Heap) : Prop :=
  bnd (nilV x0) fun v30 =>
  bnd (faV 1 v30) fun v31 =>
  bnd (ldE false 1 v31 H) fun v32 =>
  bnd (nilV x0) fun v34 =>
  bnd (faV 1 v34) fun v35 =>
  bnd (ldE false 1 v35 H) fun v36 =>
  bnd (ixSV 2 v36 (.int .i64 0)) fun v37 =>
  bnd (faV 0 v37) fun v38 =>
  bnd (ldE false 1 v38 H) fun v39 =>
  bnd (foldV max2V v39 [x1]) fun v41 =>
  bnd (ixSV 2 v32 (.int .i64 0)) fun v42 =>
  bnd (faV 0 v42) fun v43 =>
  bnd (stE 1 v43 v41 H) fun H1 =>
  S H1
theorem z106_g34_e (S : J0) (x H) : WE z106_pi z106_c21 44 (fun _ => S ) x H = z106_g34 S (x 0) (x 1) H := by kernel_rfl
def span_Set_Cut (x0 x1 : Value) (R : Value → Heap → Prop) (H : Heap) : Prop :=
  z106_g24 (fun x0 x1 H => z106_g25 (fun x0 x1 x5 H => brV x5
  (z106_g26 (fun x4 H => R x4 H) H)
  (z106_g27 (fun x0 x1 x8 H => brV x8
  (z106_g28 (fun x4 H => R x4 H) H)
  (z106_g29 (fun x0 x1 H => z106_g33 (fun x0 x1 x28 H => brV x28
  (z106_g34 (fun H => z106_s30 R H) x0 x1 H)
  (z106_s30 R H)) x0 x1 H) x0 x1 H)) x0 x1 H)) x0 x1 H) x0 x1 H
theorem z106_ev (x0 x1 : Value) (R : J1) (H : Heap) (h : span_Set_Cut x0 x1 R H) : EvF P N.span_Set_Cut #[x0, x1] H R := .inl (EvF_intro (args := [x0, x1]) (k := 42) (rs := z106_rs) tab_ok mixed Tryz.func106 (show Tryz.f106.body = some z106_c1 by kernel_rfl) Tryz.call106 Tryz.ntmps106 (by kernel_rfl) (okCode_of _ (show okB z106_pi z106_c1 = true by kernel_rfl)) (fr_eq _ _) (fj (n := 44) rfl (fun l hl (h : span_Set_Cut (gd l 0) (gd l 1) R H) => sr rfl hl (z106_g24_e _ (gd l) _) h fun l H hl h => sq rfl <| bl rfl <| sr rfl hl (z106_g25_e _ (gd l) _) h fun l H hl h => cd rfl h (fun h => sr rfl hl (z106_g26_e _ (gd l) _) h fun l H hl h => rt rfl h) fun h => sr rfl hl (z106_g27_e _ (gd l) _) h fun l H hl h => cd rfl h (fun h => sr rfl hl (z106_g28_e _ (gd l) _) h fun l H hl h => rt rfl h) fun h => sk rfl <| bN <| tN <| sr rfl hl (z106_g29_e _ (gd l) _) h fun l H hl h => sq rfl <| sr rfl hl (z106_g33_e _ (gd l) _) h fun l H hl h => cd rfl h (fun h => rj hl (z106_g34_e _ (gd l) _) h fun l H hl h => tN <| z106_s30_i R l H hl h) fun h => kN rfl <| z106_s30_i R l H hl h) h))
/- 107: sounder/frame.Has$1 -/
def z107_rs : List ResultVar := [.tmp 3]
noncomputable def z107_c2 := sc Tryz.f107 [0]
noncomputable def z107_c4 := sc Tryz.f107 [1,0]
noncomputable def z107_c3 : Code := .seq z107_c4 Code.ret
noncomputable def z107_c1 : Code := .seq z107_c2 z107_c3
def z107_pi (_ : Nat) : Pl := .nil
noncomputable def z107_g5 (S : J2) (x0 x1 : Value) (H : Heap) : Prop :=
  newE 93 (Value.cells x0) H fun v2 H1 =>
  S x1 v2 H1
theorem z107_g5_e (S : J2) (x H) : WE z107_pi z107_c2 14 (fun l => S (gd l 1) (gd l 2)) x H = z107_g5 S (x 0) (x 1) H := by kernel_rfl
noncomputable def z107_g6 (S : J1) (x1 x2 : Value) (H : Heap) : Prop :=
  bnd (ldE false 1 x1 H) fun v4 =>
  bnd (faV 0 x2) fun v5 =>
  bnd (ldE false 1 v5 H) fun v6 =>
  bnd (binV .int .geq v4 v6) fun v7 =>
  brV v7
  (bnd (ldE false 1 x1 H) fun v9 =>
  bnd (faV 1 x2) fun v10 =>
  bnd (ldE false 1 v10 H) fun v11 =>
  bnd (binV .int .leq v9 v11) fun v12 =>
  S v12 H)
  (S (.bool false) H)
theorem z107_g6_e (S : J1) (x H) : WE z107_pi z107_c4 14 (fun l => S (gd l 3)) x H = z107_g6 S (x 1) (x 2) H := by kernel_rfl
def frame_Has_1 (x0 x1 : Value) (R : Value → Heap → Prop) (H : Heap) : Prop :=
  z107_g5 (fun x1 x2 H => z107_g6 (fun x3 H => R x3 H) x1 x2 H) x0 x1 H
theorem z107_ev (x0 x1 : Value) (R : J1) (H : Heap) (h : frame_Has_1 x0 x1 R H) : EvF P N.frame_Has_1 #[x0, x1] H R := .inl (EvF_intro (args := [x0, x1]) (k := 12) (rs := z107_rs) tab_ok mixed Tryz.func107 (show Tryz.f107.body = some z107_c1 by kernel_rfl) Tryz.call107 Tryz.ntmps107 (by kernel_rfl) (okCode_of _ (show okB z107_pi z107_c1 = true by kernel_rfl)) (fr_eq _ _) (fj (n := 14) rfl (fun l hl (h : frame_Has_1 (gd l 0) (gd l 1) R H) => sr rfl hl (z107_g5_e _ (gd l) _) h fun l H hl h => sr rfl hl (z107_g6_e _ (gd l) _) h fun l H hl h => rt rfl h) h))
/- 108: sounder/sent.may -/
def z108_rs : List ResultVar := [.tmp 2]
noncomputable def z108_c2 := sc Tryz.f108 [0]
noncomputable def z108_c4 := sc Tryz.f108 [1,0]
noncomputable def z108_c6 := sc Tryz.f108 [1,1,0]
noncomputable def z108_c5 : Code := .seq z108_c6 Code.ret
noncomputable def z108_c3 : Code := .seq z108_c4 z108_c5
noncomputable def z108_c1 : Code := .seq z108_c2 z108_c3
def z108_pi (_ : Nat) : Pl := .nil
noncomputable def z108_g7 (S : J1) (x0 : Value) (H : Heap) : Prop :=
  newE 40 (Value.cells x0) H fun v1 H1 =>
  S v1 H1
theorem z108_g7_e (S : J1) (x H) : WE z108_pi z108_c2 20 (fun l => S (gd l 1)) x H = z108_g7 S (x 0) H := by kernel_rfl
noncomputable def z108_g8 (S : J2) (x1 : Value) (H : Heap) : Prop :=
  S x1 (.func (.func N.sent_may_1) #[] #[]) H
theorem z108_g8_e (S : J2) (x H) : WE z108_pi z108_c4 20 (fun l => S (gd l 1) (gd l 3)) x H = z108_g8 S (x 1) H := by kernel_rfl
noncomputable def z108_g9 (S : J1) (x1 x3 : Value) (H : Heap) : Prop :=
  bnd (faV 0 x1) fun v5 =>
  bnd (ldE false 1 v5 H) fun v6 =>
  callV P x3 [v6, (.int .i64 0), (.int .i64 9007199254740991)] H fun v7 H1 =>
  brV v7
  (bnd (faV 1 x1) fun v10 =>
  bnd (ldE false 1 v10 H1) fun v11 =>
  callV P x3 [v11, (.int .i64 0), (.int .i64 9007199254740991)] H1 fun v12 H2 =>
  brV v12
  (bnd (faV 2 x1) fun v16 =>
  bnd (ldE false 1 v16 H2) fun v17 =>
  callV P x3 [v17, (.int .i64 1), (.int .i64 65535)] H2 fun v18 H3 =>
  S v18 H3)
  (S (.bool false) H2))
  (S (.bool false) H1)
theorem z108_g9_e (S : J1) (x H) : WE z108_pi z108_c6 20 (fun l => S (gd l 2)) x H = z108_g9 S (x 1) (x 3) H := by kernel_rfl
def sent_may (x0 : Value) (R : Value → Heap → Prop) (H : Heap) : Prop :=
  z108_g7 (fun x1 H => z108_g8 (fun x1 x3 H => z108_g9 (fun x2 H => R x2 H) x1 x3 H) x1 H) x0 H
theorem z108_ev (x0 : Value) (R : J1) (H : Heap) (h : sent_may x0 R H) : EvF P N.sent_may #[x0] H R := .inl (EvF_intro (args := [x0]) (k := 19) (rs := z108_rs) tab_ok mixed Tryz.func108 (show Tryz.f108.body = some z108_c1 by kernel_rfl) Tryz.call108 Tryz.ntmps108 (by kernel_rfl) (okCode_of _ (show okB z108_pi z108_c1 = true by kernel_rfl)) (fr_eq _ _) (fj (n := 20) rfl (fun l hl (h : sent_may (gd l 0) R H) => sr rfl hl (z108_g7_e _ (gd l) _) h fun l H hl h => sr rfl hl (z108_g8_e _ (gd l) _) h fun l H hl h => sr rfl hl (z108_g9_e _ (gd l) _) h fun l H hl h => rt rfl h) h))
/- 109: (*sounder/sent.Log).pack -/
def z109_rs : List ResultVar := []
noncomputable def z109_c2 := sc Tryz.f109 [0]
noncomputable def z109_c4 := sc Tryz.f109 [1,0]
noncomputable def z109_c7 := sc Tryz.f109 [1,1,0,0]
noncomputable def z109_c11 := sc Tryz.f109 [1,1,0,1,0,0,0]
noncomputable def z109_c14 : Code := .exit 0
noncomputable def z109_c13 : Code := .cond (.tmp 17) Code.skip z109_c14
noncomputable def z109_c18 := sc Tryz.f109 [1,1,0,1,0,0,1,1,0,0,0]
noncomputable def z109_c20 := sc Tryz.f109 [1,1,0,1,0,0,1,1,0,0,1,0]
noncomputable def z109_c22 := sc Tryz.f109 [1,1,0,1,0,0,1,1,0,0,1,1,0]
noncomputable def z109_c25 := sc Tryz.f109 [1,1,0,1,0,0,1,1,0,0,1,1,1,0,0]
noncomputable def z109_c26 := sc Tryz.f109 [1,1,0,1,0,0,1,1,0,0,1,1,1,0,1]
noncomputable def z109_c24 : Code := .seq z109_c25 z109_c26
noncomputable def z109_c23 : Code := .cond (.tmp 25) z109_c24 Code.skip
noncomputable def z109_c21 : Code := .seq z109_c22 z109_c23
noncomputable def z109_c19 : Code := .seq z109_c20 z109_c21
noncomputable def z109_c17 : Code := .seq z109_c18 z109_c19
noncomputable def z109_c16 : Code := .block 1 z109_c17
noncomputable def z109_c27 := sc Tryz.f109 [1,1,0,1,0,0,1,1,1]
noncomputable def z109_c15 : Code := .seq z109_c16 z109_c27
noncomputable def z109_c12 : Code := .seq z109_c13 z109_c15
noncomputable def z109_c10 : Code := .seq z109_c11 z109_c12
noncomputable def z109_c9 : Code := .loop z109_c10
noncomputable def z109_c8 : Code := .block 0 z109_c9
noncomputable def z109_c6 : Code := .seq z109_c7 z109_c8
noncomputable def z109_c28 := sc Tryz.f109 [1,1,1]
noncomputable def z109_c5 : Code := .seq z109_c6 z109_c28
noncomputable def z109_c3 : Code := .seq z109_c4 z109_c5
noncomputable def z109_c1 : Code := .seq z109_c2 z109_c3
def z109_pi (_ : Nat) : Pl := .nil
noncomputable def z109_g29 (S : J2) (x0 : Value) (H : Heap) : Prop :=
  bnd (nilV x0) fun v7 =>
  bnd (faV 2 v7) fun v8 =>
  bnd (ldE false 1 v8 H) fun v9 =>
  bnd (lenV v9) fun v10 =>
  mslE 137 #[(.int .i64 0), (.int .i64 0), (.int .i64 0), (.bool false), (.bool false), (.bool false), (.bool false)] 40 v10 v10 H fun v11 H1 =>
  S x0 v11 H1
theorem z109_g29_e (S : J2) (x H) : WE z109_pi z109_c2 46 (fun l => S (gd l 0) (gd l 2)) x H = z109_g29 S (x 0) H := by kernel_rfl
noncomputable def z109_g30 (S : J3) (x0 x2 : Value) (H : Heap) : Prop :=
  S x0 x2 (.int .i64 0) H
theorem z109_g30_e (S : J3) (x H) : WE z109_pi z109_c4 46 (fun l => S (gd l 0) (gd l 2) (gd l 3)) x H = z109_g30 S (x 0) (x 2) H := by kernel_rfl
noncomputable def z109_g31 (S : J5) (x0 x2 x3 : Value) (H : Heap) : Prop :=
  bnd (nilV x0) fun v13 =>
  bnd (faV 4 v13) fun v14 =>
  bnd (ldE false 1 v14 H) fun v15 =>
  S x0 x2 x3 v15 (.int .i64 0) H
theorem z109_g31_e (S : J5) (x H) : WE z109_pi z109_c7 46 (fun l => S (gd l 0) (gd l 2) (gd l 3) (gd l 15) (gd l 16)) x H = z109_g31 S (x 0) (x 2) (x 3) H := by kernel_rfl
noncomputable def z109_g33 (S : J6) (x0 x2 x3 x15 x16 : Value) (H : Heap) : Prop :=
  bnd (binV .int .lss x16 x15) fun v17 =>
  S x0 x2 x3 x15 x16 v17 H
theorem z109_g33_e (S : J6) (x H) : WE z109_pi z109_c11 46 (fun l => S (gd l 0) (gd l 2) (gd l 3) (gd l 15) (gd l 16) (gd l 17)) x H = z109_g33 S (x 0) (x 2) (x 3) (x 15) (x 16) H := by kernel_rfl
noncomputable def z109_g35 (S : J5) (x0 x2 x3 x15 x16 : Value) (H : Heap) : Prop :=
  bnd (binV .int .add x16 (.int .i64 1)) fun v34 =>
  S x0 x2 x3 x15 v34 H
theorem z109_g35_e (S : J5) (x H) : WE z109_pi z109_c27 46 (fun l => S (gd l 0) (gd l 2) (gd l 3) (gd l 15) (gd l 16)) x H = z109_g35 S (x 0) (x 2) (x 3) (x 15) (x 16) H := by kernel_rfl
noncomputable def z109_s34 (x0 x2 x3 x15 x16 : Value) (K1 : J5) (_R : J1) (H : Heap) : Prop :=
  z109_g35 (fun x0 x2 x3 x15 x16 H => K1 x0 x2 x3 x15 x16 H) x0 x2 x3 x15 x16 H
noncomputable def z109_q36 (R : J1) : JQ := (retQ tab z109_rs R)
noncomputable def z109_q37 (R : J1) : JQ := (thenE (fun l H => wpE tab P z109_pi z109_c28 (z109_q36 R) l H) (z109_q36 R))
noncomputable def z109_q38 (R : J1) : JQ := (blkE 0 (z109_q37 R))
noncomputable def z109_q39 (K1 : J5) (R : J1) : JQ := (thenE (fun l H => K1 (gd l 0) (gd l 2) (gd l 3) (gd l 15) (gd l 16) H) (z109_q38 R))
theorem z109_s34_i (K1 : J5) (R : J1) (l : List Value) (H : Heap) (hl : l.length = 46) (h : z109_s34 (gd l 0) (gd l 2) (gd l 3) (gd l 15) (gd l 16) K1 R H) : wpE tab P z109_pi z109_c27 (z109_q39 K1 R) l H := rj hl (z109_g35_e _ (gd l) _) h fun l H hl h => tN <| h
noncomputable def z109_g40 (S : J6) (x0 x2 x3 x15 x16 : Value) (H : Heap) : Prop :=
  S x0 x2 x3 x16 x15 x16 H
theorem z109_g40_e (S : J6) (x H) : WE z109_pi z109_c18 46 (fun l => S (gd l 0) (gd l 2) (gd l 3) (gd l 4) (gd l 15) (gd l 16)) x H = z109_g40 S (x 0) (x 2) (x 3) (x 15) (x 16) H := by kernel_rfl
noncomputable def z109_g41 (S : J6) (x0 x2 x3 x4 x15 x16 : Value) (H : Heap) : Prop :=
  EvF P N.sent_Log_at #[x0, x4] H fun v21 H1 =>
  S x0 x2 x3 v21 x15 x16 H1
theorem z109_g41_e (S : J6) (x H) : WE z109_pi z109_c20 46 (fun l => S (gd l 0) (gd l 2) (gd l 3) (gd l 5) (gd l 15) (gd l 16)) x H = z109_g41 S (x 0) (x 2) (x 3) (x 4) (x 15) (x 16) H := by kernel_rfl
noncomputable def z109_g42 (S : J7) (x0 x2 x3 x5 x15 x16 : Value) (H : Heap) : Prop :=
  bnd (nilV x5) fun v23 =>
  bnd (faV 6 v23) fun v24 =>
  bnd (ldE false 1 v24 H) fun v25 =>
  S x0 x2 x3 x5 x15 x16 v25 H
theorem z109_g42_e (S : J7) (x H) : WE z109_pi z109_c22 46 (fun l => S (gd l 0) (gd l 2) (gd l 3) (gd l 5) (gd l 15) (gd l 16) (gd l 25)) x H = z109_g42 S (x 0) (x 2) (x 3) (x 5) (x 15) (x 16) H := by kernel_rfl
noncomputable def z109_g43 (S : J5) (x0 x2 x3 x5 x15 x16 : Value) (H : Heap) : Prop :=
  bnd (nilV x5) fun v29 =>
  bnd (ldE true 7 v29 H) fun v30 =>
  bnd (ixSV 7 x2 x3) fun v31 =>
  bnd (stE 7 v31 v30 H) fun H1 =>
  S x0 x2 x3 x15 x16 H1
theorem z109_g43_e (S : J5) (x H) : WE z109_pi z109_c25 46 (fun l => S (gd l 0) (gd l 2) (gd l 3) (gd l 15) (gd l 16)) x H = z109_g43 S (x 0) (x 2) (x 3) (x 5) (x 15) (x 16) H := by kernel_rfl
noncomputable def z109_g44 (S : J5) (x0 x2 x3 x15 x16 : Value) (H : Heap) : Prop :=
  bnd (binV .int .add x3 (.int .i64 1)) fun v33 =>
  S x0 x2 v33 x15 x16 H
theorem z109_g44_e (S : J5) (x H) : WE z109_pi z109_c26 46 (fun l => S (gd l 0) (gd l 2) (gd l 3) (gd l 15) (gd l 16)) x H = z109_g44 S (x 0) (x 2) (x 3) (x 15) (x 16) H := by kernel_rfl
noncomputable def z109_g45 (S : J0) (x0 x2 x3 : Value) (H : Heap) : Prop :=
  bnd (nilV x0) fun v40 =>
  bnd (faV 2 v40) fun v41 =>
  bnd (stE 1 v41 x2 H) fun H1 =>
  bnd (nilV x0) fun v42 =>
  bnd (faV 3 v42) fun v43 =>
  bnd (stE 1 v43 (.int .i64 0) H1) fun H2 =>
  bnd (nilV x0) fun v44 =>
  bnd (faV 4 v44) fun v45 =>
  bnd (stE 1 v45 x3 H2) fun H3 =>
  S H3
theorem z109_g45_e (S : J0) (x H) : WE z109_pi z109_c28 46 (fun _ => S ) x H = z109_g45 S (x 0) (x 2) (x 3) H := by kernel_rfl
noncomputable def z109_s32 (x0 x2 x3 x15 x16 : Value) (K1 : J5) (R : J1) (H : Heap) : Prop :=
  z109_g33 (fun x0 x2 x3 x15 x16 x17 H => brV x17
  (z109_g40 (fun x0 x2 x3 x4 x15 x16 H => z109_g41 (fun x0 x2 x3 x5 x15 x16 H => z109_g42 (fun x0 x2 x3 x5 x15 x16 x25 H => brV x25
  (z109_g43 (fun x0 x2 x3 x15 x16 H => z109_g44 (fun x0 x2 x3 x15 x16 H => z109_s34 x0 x2 x3 x15 x16 K1 R H) x0 x2 x3 x15 x16 H) x0 x2 x3 x5 x15 x16 H)
  (z109_s34 x0 x2 x3 x15 x16 K1 R H)) x0 x2 x3 x5 x15 x16 H) x0 x2 x3 x4 x15 x16 H) x0 x2 x3 x15 x16 H)
  (z109_g45 (fun H => R (.tuple #[]) H) x0 x2 x3 H)) x0 x2 x3 x15 x16 H
theorem z109_s32_i (K1 : J5) (R : J1) (l : List Value) (H : Heap) (hl : l.length = 46) (h : z109_s32 (gd l 0) (gd l 2) (gd l 3) (gd l 15) (gd l 16) K1 R H) : wpE tab P z109_pi z109_c10 (z109_q39 K1 R) l H := sr rfl hl (z109_g33_e _ (gd l) _) h fun l H hl h => sq rfl <| cd rfl h (fun h => kN rfl <| sq rfl <| bl rfl <| sr rfl hl (z109_g40_e _ (gd l) _) h fun l H hl h => sr rfl hl (z109_g41_e _ (gd l) _) h fun l H hl h => sr rfl hl (z109_g42_e _ (gd l) _) h fun l H hl h => cd rfl h (fun h => sr rfl hl (z109_g43_e _ (gd l) _) h fun l H hl h => rj hl (z109_g44_e _ (gd l) _) h fun l H hl h => bN <| tN <| z109_s34_i K1 R l H hl h) fun h => sk rfl <| bN <| tN <| z109_s34_i K1 R l H hl h) fun h => ex rfl <| tX <| tX <| bX <| tN <| rj hl (z109_g45_e _ (gd l) _) h fun l H hl h => h
noncomputable def z109_l46 (x0 x2 x3 x15 x16 : Value) (R : J1) (H : Heap) : Prop :=
  ∃ (I : J2) (μ : M2), I x3 x16 H ∧ ∀ (y3 : Value) (y16 : Value) (H : Heap), I y3 y16 H → z109_s32 x0 x2 y3 x15 y16 (fun z0 z2 z3 z15 z16 H' => z0 = x0 ∧ z2 = x2 ∧ z15 = x15 ∧ (I z3 z16 H' ∧ μ z3 z16 H' < μ y3 y16 H)) R H
def sent_Log_pack (x0 : Value) (R : Value → Heap → Prop) (H : Heap) : Prop :=
  z109_g29 (fun x0 x2 H => z109_g30 (fun x0 x2 x3 H => z109_g31 (fun x0 x2 x3 x15 x16 H => z109_l46 x0 x2 x3 x15 x16 R H) x0 x2 x3 H) x0 x2 H) x0 H
theorem z109_ev (x0 : Value) (R : J1) (H : Heap) (h : sent_Log_pack x0 R H) : EvF P N.sent_Log_pack #[x0] H R := .inl (EvF_intro (args := [x0]) (k := 45) (rs := z109_rs) tab_ok mixed Tryz.func109 (show Tryz.f109.body = some z109_c1 by kernel_rfl) Tryz.call109 Tryz.ntmps109 (by kernel_rfl) (okCode_of _ (show okB z109_pi z109_c1 = true by kernel_rfl)) (fr_eq _ _) (fj (n := 46) rfl (fun l hl (h : sent_Log_pack (gd l 0) R H) => sr rfl hl (z109_g29_e _ (gd l) _) h fun l H hl h => sr rfl hl (z109_g30_e _ (gd l) _) h fun l H hl h => sq rfl <| sr rfl hl (z109_g31_e _ (gd l) _) h fun l H hl h => bl rfl <| (by
    obtain ⟨I, μ, h0, hr⟩ := h
    refine loopI (c := z109_c9) rfl (fun l' H' => gd l' 0 = gd l 0 ∧ gd l' 2 = gd l 2 ∧ gd l' 15 = gd l 15 ∧ I (gd l' 3) (gd l' 16) H') (fun l' H' => μ (gd l' 3) (gd l' 16) H') hl ⟨rfl, rfl, rfl, h0⟩ ?_
    rintro l1 H1 hl1 ⟨e0, e2, e15, hI⟩
    have hb := hr (gd l1 3) (gd l1 16) H1 hI
    rw [← e0, ← e2, ← e15] at hb
    refine wpE_mono _ l1 H1 hl1 ?_ (z109_s32_i _ R l1 H1 hl1 hb)
    intro e l2 H2 hl2 hq
    cases e with
    | normal => exact fun _ => (by obtain ⟨d0, d2, d15, g1, g2⟩ := hq; exact ⟨⟨d0.trans e0, d2.trans e2, d15.trans e15, g1⟩, g2⟩)
    | _ => exact hq)) h))
/- 110: (*sounder/sent.Log).at -/
def z110_rs : List ResultVar := [.tmp 4]
noncomputable def z110_c2 := sc Tryz.f110 [0]
noncomputable def z110_c4 := sc Tryz.f110 [1,0]
noncomputable def z110_c3 : Code := .seq z110_c4 Code.ret
noncomputable def z110_c1 : Code := .seq z110_c2 z110_c3
def z110_pi (i : Nat) : Pl := match i with
  | 1 => (ones [0, 1, 2, 3, 4, 5, 6, 7, 8, 9, 10, 11, 12, 13, 14, 15, 16, 17] .nil)
  | _ => .nil
noncomputable def z110_g5 (S : J2) (x0 x1 : Value) (H : Heap) : Prop :=
  S x0 x1 H
theorem z110_g5_e (S : J2) (x H) : WE z110_pi z110_c2 22 (fun l => S (gd l 0) (gd l 1)) x H = z110_g5 S (x 0) (x 1) H := by kernel_rfl
noncomputable def z110_g6 (S : J1) (x0 x1 : Value) (H : Heap) : Prop :=
  bnd (nilV x0) fun v6 =>
  bnd (faV 2 v6) fun v7 =>
  bnd (ldE false 1 v7 H) fun v8 =>
  bnd (nilV x0) fun v10 =>
  bnd (faV 3 v10) fun v11 =>
  bnd (ldE false 1 v11 H) fun v12 =>
  bnd (binV .int .add v12 x1) fun v14 =>
  bnd (nilV x0) fun v16 =>
  bnd (faV 2 v16) fun v17 =>
  bnd (ldE false 1 v17 H) fun v18 =>
  bnd (lenV v18) fun v19 =>
  bnd (binV .int .rem v14 v19) fun v20 =>
  bnd (ixSV 7 v8 v20) fun v21 =>
  S v21 H
theorem z110_g6_e (S : J1) (x H) : WE z110_pi z110_c4 22 (fun l => S (gd l 4)) x H = z110_g6 S (x 0) (x 1) H := by kernel_rfl
def sent_Log_at (x0 x1 : Value) (R : Value → Heap → Prop) (H : Heap) : Prop :=
  z110_g5 (fun x0 x1 H => z110_g6 (fun x4 H => R x4 H) x0 x1 H) x0 x1 H
theorem z110_ev (x0 x1 : Value) (R : J1) (H : Heap) (h : sent_Log_at x0 x1 R H) : EvF P N.sent_Log_at #[x0, x1] H R := .inl (EvF_intro (args := [x0, x1]) (k := 20) (rs := z110_rs) tab_ok mixed Tryz.func110 (show Tryz.f110.body = some z110_c1 by kernel_rfl) Tryz.call110 Tryz.ntmps110 (by kernel_rfl) (okCode_of _ (show okB z110_pi z110_c1 = true by kernel_rfl)) (fr_eq _ _) (fj (n := 22) rfl (fun l hl (h : sent_Log_at (gd l 0) (gd l 1) R H) => sr rfl hl (z110_g5_e _ (gd l) _) h fun l H hl h => sr rfl hl (z110_g6_e _ (gd l) _) h fun l H hl h => rt rfl h) h))
/- 111: (*sounder/sent.Log).more -/
def z111_rs : List ResultVar := []
noncomputable def z111_c2 := sc Tryz.f111 [0]
noncomputable def z111_c3 := sc Tryz.f111 [1]
noncomputable def z111_c1 : Code := .seq z111_c2 z111_c3
def z111_pi (_ : Nat) : Pl := .nil
noncomputable def z111_g4 (S : J2) (x0 x1 : Value) (H : Heap) : Prop :=
  newE 40 (Value.cells x1) H fun v3 H1 =>
  S x0 v3 H1
theorem z111_g4_e (S : J2) (x H) : WE z111_pi z111_c2 7 (fun l => S (gd l 0) (gd l 3)) x H = z111_g4 S (x 0) (x 1) H := by kernel_rfl
noncomputable def z111_g5 (S : J0) (x0 x3 : Value) (H : Heap) : Prop :=
  bnd (ldE true 6 x3 H) fun v5 =>
  EvF P N.sent_Log_count #[x0, v5, (.int .i64 1)] H fun _ H1 =>
  S H1
theorem z111_g5_e (S : J0) (x H) : WE z111_pi z111_c3 7 (fun _ => S ) x H = z111_g5 S (x 0) (x 3) H := by kernel_rfl
def sent_Log_more (x0 x1 : Value) (R : Value → Heap → Prop) (H : Heap) : Prop :=
  z111_g4 (fun x0 x3 H => z111_g5 (fun H => R (.tuple #[]) H) x0 x3 H) x0 x1 H
theorem z111_ev (x0 x1 : Value) (R : J1) (H : Heap) (h : sent_Log_more x0 x1 R H) : EvF P N.sent_Log_more #[x0, x1] H R := .inl (EvF_intro (args := [x0, x1]) (k := 5) (rs := z111_rs) tab_ok mixed Tryz.func111 (show Tryz.f111.body = some z111_c1 by kernel_rfl) Tryz.call111 Tryz.ntmps111 (by kernel_rfl) (okCode_of _ (show okB z111_pi z111_c1 = true by kernel_rfl)) (fr_eq _ _) (fj (n := 7) rfl (fun l hl (h : sent_Log_more (gd l 0) (gd l 1) R H) => sr rfl hl (z111_g4_e _ (gd l) _) h fun l H hl h => rj hl (z111_g5_e _ (gd l) _) h fun l H hl h => h) h))
/- 112: (*sounder/span.Set).none -/
def z112_rs : List ResultVar := [.tmp 2]
noncomputable def z112_c2 := sc Tryz.f112 [0]
noncomputable def z112_c4 := sc Tryz.f112 [1,0]
noncomputable def z112_c3 : Code := .seq z112_c4 Code.ret
noncomputable def z112_c1 : Code := .seq z112_c2 z112_c3
def z112_pi (_ : Nat) : Pl := .nil
noncomputable def z112_g5 (S : J1) (x0 : Value) (H : Heap) : Prop :=
  S x0 H
theorem z112_g5_e (S : J1) (x H) : WE z112_pi z112_c2 12 (fun l => S (gd l 0)) x H = z112_g5 S (x 0) H := by kernel_rfl
noncomputable def z112_g6 (S : J1) (x0 : Value) (H : Heap) : Prop :=
  bnd (binV .ptr .eql x0 (.pointer none)) fun v4 =>
  brV v4
  (S (.bool true) H)
  (bnd (nilV x0) fun v7 =>
  bnd (faV 0 v7) fun v8 =>
  bnd (ldE false 1 v8 H) fun v9 =>
  bnd (binV .int .eql v9 (.int .i64 0)) fun v10 =>
  S v10 H)
theorem z112_g6_e (S : J1) (x H) : WE z112_pi z112_c4 12 (fun l => S (gd l 2)) x H = z112_g6 S (x 0) H := by kernel_rfl
def span_Set_none (x0 : Value) (R : Value → Heap → Prop) (H : Heap) : Prop :=
  z112_g5 (fun x0 H => z112_g6 (fun x2 H => R x2 H) x0 H) x0 H
theorem z112_ev (x0 : Value) (R : J1) (H : Heap) (h : span_Set_none x0 R H) : EvF P N.span_Set_none #[x0] H R := .inl (EvF_intro (args := [x0]) (k := 11) (rs := z112_rs) tab_ok mixed Tryz.func112 (show Tryz.f112.body = some z112_c1 by kernel_rfl) Tryz.call112 Tryz.ntmps112 (by kernel_rfl) (okCode_of _ (show okB z112_pi z112_c1 = true by kernel_rfl)) (fr_eq _ _) (fj (n := 12) rfl (fun l hl (h : span_Set_none (gd l 0) R H) => sr rfl hl (z112_g5_e _ (gd l) _) h fun l H hl h => sr rfl hl (z112_g6_e _ (gd l) _) h fun l H hl h => rt rfl h) h))
/- 113: sounder/span.is -/
def z113_rs : List ResultVar := [.tmp 2]
noncomputable def z113_c2 := sc Tryz.f113 [0]
noncomputable def z113_c4 := sc Tryz.f113 [1,0]
noncomputable def z113_c3 : Code := .seq z113_c4 Code.ret
noncomputable def z113_c1 : Code := .seq z113_c2 z113_c3
def z113_pi (_ : Nat) : Pl := .nil
noncomputable def z113_g5 (S : J1) (x0 : Value) (H : Heap) : Prop :=
  S x0 H
theorem z113_g5_e (S : J1) (x H) : WE z113_pi z113_c2 9 (fun l => S (gd l 0)) x H = z113_g5 S (x 0) H := by kernel_rfl
noncomputable def z113_g6 (S : J1) (x0 : Value) (H : Heap) : Prop :=
  bnd (binV .int .geq x0 (.int .i64 0)) fun v4 =>
  brV v4
  (bnd (binV .int .leq x0 (.int .i64 9007199254740991)) fun v7 =>
  S v7 H)
  (S (.bool false) H)
theorem z113_g6_e (S : J1) (x H) : WE z113_pi z113_c4 9 (fun l => S (gd l 2)) x H = z113_g6 S (x 0) H := by kernel_rfl
def span_is (x0 : Value) (R : Value → Heap → Prop) (H : Heap) : Prop :=
  z113_g5 (fun x0 H => z113_g6 (fun x2 H => R x2 H) x0 H) x0 H
theorem z113_ev (x0 : Value) (R : J1) (H : Heap) (h : span_is x0 R H) : EvF P N.span_is #[x0] H R := .inl (EvF_intro (args := [x0]) (k := 8) (rs := z113_rs) tab_ok mixed Tryz.func113 (show Tryz.f113.body = some z113_c1 by kernel_rfl) Tryz.call113 Tryz.ntmps113 (by kernel_rfl) (okCode_of _ (show okB z113_pi z113_c1 = true by kernel_rfl)) (fr_eq _ _) (fj (n := 9) rfl (fun l hl (h : span_is (gd l 0) R H) => sr rfl hl (z113_g5_e _ (gd l) _) h fun l H hl h => sr rfl hl (z113_g6_e _ (gd l) _) h fun l H hl h => rt rfl h) h))
/- 114: (*sounder/span.Set).first -/
def z114_rs : List ResultVar := [.tmp 4]
noncomputable def z114_c2 := sc Tryz.f114 [0]
noncomputable def z114_c4 := sc Tryz.f114 [1,0]
noncomputable def z114_c3 : Code := .seq z114_c4 Code.ret
noncomputable def z114_c1 : Code := .seq z114_c2 z114_c3
def z114_pi (_ : Nat) : Pl := .nil
noncomputable def z114_g5 (S : J2) (x0 x1 : Value) (H : Heap) : Prop :=
  newE 76 (Value.cells x0) H fun v2 H1 =>
  newE 3 (Value.cells x1) H1 fun v3 H2 =>
  S v2 v3 H2
theorem z114_g5_e (S : J2) (x H) : WE z114_pi z114_c2 12 (fun l => S (gd l 2) (gd l 3)) x H = z114_g5 S (x 0) (x 1) H := by kernel_rfl
noncomputable def z114_g6 (S : J1) (x2 x3 : Value) (H : Heap) : Prop :=
  bnd (ldE false 1 x2 H) fun v5 =>
  bnd (nilV v5) fun v6 =>
  bnd (faV 1 v6) fun v7 =>
  bnd (ldE false 1 v7 H) fun v8 =>
  bnd (lenV v8) fun v9 =>
  EvF P N.sort_Search #[v9, (.func (.func N.span_Set_first_1) #[] #[x2, x3])] H fun v11 H1 =>
  S v11 H1
theorem z114_g6_e (S : J1) (x H) : WE z114_pi z114_c4 12 (fun l => S (gd l 4)) x H = z114_g6 S (x 2) (x 3) H := by kernel_rfl
def span_Set_first (x0 x1 : Value) (R : Value → Heap → Prop) (H : Heap) : Prop :=
  z114_g5 (fun x2 x3 H => z114_g6 (fun x4 H => R x4 H) x2 x3 H) x0 x1 H
theorem z114_ev (x0 x1 : Value) (R : J1) (H : Heap) (h : span_Set_first x0 x1 R H) : EvF P N.span_Set_first #[x0, x1] H R := .inl (EvF_intro (args := [x0, x1]) (k := 10) (rs := z114_rs) tab_ok mixed Tryz.func114 (show Tryz.f114.body = some z114_c1 by kernel_rfl) Tryz.call114 Tryz.ntmps114 (by kernel_rfl) (okCode_of _ (show okB z114_pi z114_c1 = true by kernel_rfl)) (fr_eq _ _) (fj (n := 12) rfl (fun l hl (h : span_Set_first (gd l 0) (gd l 1) R H) => sr rfl hl (z114_g5_e _ (gd l) _) h fun l H hl h => sr rfl hl (z114_g6_e _ (gd l) _) h fun l H hl h => rt rfl h) h))
/- 115: sort.Search -/
def z115_rs : List ResultVar := [.tmp 4]
noncomputable def z115_c2 := sc Tryz.f115 [0]
noncomputable def z115_c4 := sc Tryz.f115 [1,0]
noncomputable def z115_c10 := sc Tryz.f115 [1,1,0,0,0,0,0]
noncomputable def z115_c12 : Code := .exit 0
noncomputable def z115_c11 : Code := .cond (.tmp 11) Code.skip z115_c12
noncomputable def z115_c9 : Code := .seq z115_c10 z115_c11
noncomputable def z115_c15 := sc Tryz.f115 [1,1,0,0,0,1,0,0]
noncomputable def z115_c17 := sc Tryz.f115 [1,1,0,0,0,1,0,1,0]
noncomputable def z115_c19 := sc Tryz.f115 [1,1,0,0,0,1,0,1,1,0]
noncomputable def z115_c20 := sc Tryz.f115 [1,1,0,0,0,1,0,1,1,1]
noncomputable def z115_c18 : Code := .cond (.tmp 21) z115_c19 z115_c20
noncomputable def z115_c16 : Code := .seq z115_c17 z115_c18
noncomputable def z115_c14 : Code := .seq z115_c15 z115_c16
noncomputable def z115_c13 : Code := .block 1 z115_c14
noncomputable def z115_c8 : Code := .seq z115_c9 z115_c13
noncomputable def z115_c7 : Code := .loop z115_c8
noncomputable def z115_c6 : Code := .block 0 z115_c7
noncomputable def z115_c22 := sc Tryz.f115 [1,1,1,0]
noncomputable def z115_c21 : Code := .seq z115_c22 Code.ret
noncomputable def z115_c5 : Code := .seq z115_c6 z115_c21
noncomputable def z115_c3 : Code := .seq z115_c4 z115_c5
noncomputable def z115_c1 : Code := .seq z115_c2 z115_c3
def z115_pi (_ : Nat) : Pl := .nil
noncomputable def z115_g23 (S : J2) (x0 x1 : Value) (H : Heap) : Prop :=
  S x0 x1 H
theorem z115_g23_e (S : J2) (x H) : WE z115_pi z115_c2 26 (fun l => S (gd l 0) (gd l 1)) x H = z115_g23 S (x 0) (x 1) H := by kernel_rfl
noncomputable def z115_g24 (S : J3) (x0 x1 : Value) (H : Heap) : Prop :=
  S x1 (.int .i64 0) x0 H
theorem z115_g24_e (S : J3) (x H) : WE z115_pi z115_c4 26 (fun l => S (gd l 1) (gd l 5) (gd l 6)) x H = z115_g24 S (x 0) (x 1) H := by kernel_rfl
noncomputable def z115_g26 (S : J4) (x1 x5 x6 : Value) (H : Heap) : Prop :=
  bnd (binV .int .lss x5 x6) fun v11 =>
  S x1 x5 x6 v11 H
theorem z115_g26_e (S : J4) (x H) : WE z115_pi z115_c10 26 (fun l => S (gd l 1) (gd l 5) (gd l 6) (gd l 11)) x H = z115_g26 S (x 1) (x 5) (x 6) H := by kernel_rfl
noncomputable def z115_g27 (S : J4) (x1 x5 x6 : Value) (H : Heap) : Prop :=
  bnd (binV .int .add x5 x6) fun v14 =>
  bnd (cvV .u64 v14) fun v15 =>
  bnd (binV .int .shr v15 (.int .u64 1)) fun v16 =>
  bnd (cvV .i64 v16) fun v17 =>
  S x1 x5 x6 v17 H
theorem z115_g27_e (S : J4) (x H) : WE z115_pi z115_c15 26 (fun l => S (gd l 1) (gd l 5) (gd l 6) (gd l 7)) x H = z115_g27 S (x 1) (x 5) (x 6) H := by kernel_rfl
noncomputable def z115_g28 (S : J5) (x1 x5 x6 x7 : Value) (H : Heap) : Prop :=
  callV P x1 [x7] H fun v20 H1 =>
  bnd (unV .not v20) fun v21 =>
  S x1 x5 x6 x7 v21 H1
theorem z115_g28_e (S : J5) (x H) : WE z115_pi z115_c17 26 (fun l => S (gd l 1) (gd l 5) (gd l 6) (gd l 7) (gd l 21)) x H = z115_g28 S (x 1) (x 5) (x 6) (x 7) H := by kernel_rfl
noncomputable def z115_g29 (S : J3) (x1 x6 x7 : Value) (H : Heap) : Prop :=
  bnd (binV .int .add x7 (.int .i64 1)) fun v23 =>
  S x1 v23 x6 H
theorem z115_g29_e (S : J3) (x H) : WE z115_pi z115_c19 26 (fun l => S (gd l 1) (gd l 5) (gd l 6)) x H = z115_g29 S (x 1) (x 6) (x 7) H := by kernel_rfl
noncomputable def z115_g30 (S : J3) (x1 x5 x7 : Value) (H : Heap) : Prop :=
  S x1 x5 x7 H
theorem z115_g30_e (S : J3) (x H) : WE z115_pi z115_c20 26 (fun l => S (gd l 1) (gd l 5) (gd l 6)) x H = z115_g30 S (x 1) (x 5) (x 7) H := by kernel_rfl
noncomputable def z115_g31 (S : J1) (x5 : Value) (H : Heap) : Prop :=
  S x5 H
theorem z115_g31_e (S : J1) (x H) : WE z115_pi z115_c22 26 (fun l => S (gd l 4)) x H = z115_g31 S (x 5) H := by kernel_rfl
noncomputable def z115_s25 (x1 x5 x6 : Value) (K1 : J3) (R : J1) (H : Heap) : Prop :=
  z115_g26 (fun x1 x5 x6 x11 H => brV x11
  (z115_g27 (fun x1 x5 x6 x7 H => z115_g28 (fun x1 x5 x6 x7 x21 H => brV x21
  (z115_g29 (fun x1 x5 x6 H => K1 x1 x5 x6 H) x1 x6 x7 H)
  (z115_g30 (fun x1 x5 x6 H => K1 x1 x5 x6 H) x1 x5 x7 H)) x1 x5 x6 x7 H) x1 x5 x6 H)
  (z115_g31 (fun x4 H => R x4 H) x5 H)) x1 x5 x6 H
noncomputable def z115_q32 (R : J1) : JQ := (retQ tab z115_rs R)
noncomputable def z115_q33 (R : J1) : JQ := (thenE (fun l H => wpE tab P z115_pi z115_c21 (z115_q32 R) l H) (z115_q32 R))
noncomputable def z115_q34 (R : J1) : JQ := (blkE 0 (z115_q33 R))
noncomputable def z115_q35 (K1 : J3) (R : J1) : JQ := (thenE (fun l H => K1 (gd l 1) (gd l 5) (gd l 6) H) (z115_q34 R))
theorem z115_s25_i (K1 : J3) (R : J1) (l : List Value) (H : Heap) (hl : l.length = 26) (h : z115_s25 (gd l 1) (gd l 5) (gd l 6) K1 R H) : wpE tab P z115_pi z115_c8 (z115_q35 K1 R) l H := sq rfl <| sr rfl hl (z115_g26_e _ (gd l) _) h fun l H hl h => cd rfl h (fun h => kN rfl <| bl rfl <| sr rfl hl (z115_g27_e _ (gd l) _) h fun l H hl h => sr rfl hl (z115_g28_e _ (gd l) _) h fun l H hl h => cd rfl h (fun h => rj hl (z115_g29_e _ (gd l) _) h fun l H hl h => bN <| tN <| h) fun h => rj hl (z115_g30_e _ (gd l) _) h fun l H hl h => bN <| tN <| h) fun h => ex rfl <| tX <| tX <| bX <| tN <| sr rfl hl (z115_g31_e _ (gd l) _) h fun l H hl h => rt rfl h
noncomputable def z115_l36 (x1 x5 x6 : Value) (R : J1) (H : Heap) : Prop :=
  ∃ (I : J2) (μ : M2), I x5 x6 H ∧ ∀ (y5 : Value) (y6 : Value) (H : Heap), I y5 y6 H → z115_s25 x1 y5 y6 (fun z1 z5 z6 H' => z1 = x1 ∧ (I z5 z6 H' ∧ μ z5 z6 H' < μ y5 y6 H)) R H
def sort_Search (x0 x1 : Value) (R : Value → Heap → Prop) (H : Heap) : Prop :=
  z115_g23 (fun x0 x1 H => z115_g24 (fun x1 x5 x6 H => z115_l36 x1 x5 x6 R H) x0 x1 H) x0 x1 H
theorem z115_ev (x0 x1 : Value) (R : J1) (H : Heap) (h : sort_Search x0 x1 R H) : EvF P N.sort_Search #[x0, x1] H R := .inl (EvF_intro (args := [x0, x1]) (k := 24) (rs := z115_rs) tab_ok mixed Tryz.func115 (show Tryz.f115.body = some z115_c1 by kernel_rfl) Tryz.call115 Tryz.ntmps115 (by kernel_rfl) (okCode_of _ (show okB z115_pi z115_c1 = true by kernel_rfl)) (fr_eq _ _) (fj (n := 26) rfl (fun l hl (h : sort_Search (gd l 0) (gd l 1) R H) => sr rfl hl (z115_g23_e _ (gd l) _) h fun l H hl h => sr rfl hl (z115_g24_e _ (gd l) _) h fun l H hl h => sq rfl <| bl rfl <| (by
    obtain ⟨I, μ, h0, hr⟩ := h
    refine loopI (c := z115_c7) rfl (fun l' H' => gd l' 1 = gd l 1 ∧ I (gd l' 5) (gd l' 6) H') (fun l' H' => μ (gd l' 5) (gd l' 6) H') hl ⟨rfl, h0⟩ ?_
    rintro l1 H1 hl1 ⟨e1, hI⟩
    have hb := hr (gd l1 5) (gd l1 6) H1 hI
    rw [← e1] at hb
    refine wpE_mono _ l1 H1 hl1 ?_ (z115_s25_i _ R l1 H1 hl1 hb)
    intro e l2 H2 hl2 hq
    cases e with
    | normal => exact fun _ => (by obtain ⟨d1, g1, g2⟩ := hq; exact ⟨⟨d1.trans e1, g1⟩, g2⟩)
    | _ => exact hq)) h))
/- 116: (*sounder/span.Set).Add$1 -/
def z116_rs : List ResultVar := [.tmp 4]
noncomputable def z116_c2 := sc Tryz.f116 [0]
noncomputable def z116_c4 := sc Tryz.f116 [1,0]
noncomputable def z116_c3 : Code := .seq z116_c4 Code.ret
noncomputable def z116_c1 : Code := .seq z116_c2 z116_c3
def z116_pi (i : Nat) : Pl := match i with
  | 1 => (ones [0, 1, 2, 3, 4, 5, 6, 7, 8, 9, 10, 11] .nil)
  | _ => .nil
noncomputable def z116_g5 (S : J3) (x0 x1 x2 : Value) (H : Heap) : Prop :=
  S x0 x1 x2 H
theorem z116_g5_e (S : J3) (x H) : WE z116_pi z116_c2 16 (fun l => S (gd l 0) (gd l 1) (gd l 2)) x H = z116_g5 S (x 0) (x 1) (x 2) H := by kernel_rfl
noncomputable def z116_g6 (S : J1) (x0 x1 x2 : Value) (H : Heap) : Prop :=
  bnd (ldE false 1 x1 H) fun v5 =>
  bnd (nilV v5) fun v6 =>
  bnd (faV 1 v6) fun v7 =>
  bnd (ldE false 1 v7 H) fun v8 =>
  bnd (ixSV 2 v8 x0) fun v10 =>
  bnd (faV 0 v10) fun v11 =>
  bnd (ldE false 1 v11 H) fun v12 =>
  bnd (ldE false 1 x2 H) fun v13 =>
  bnd (binV .int .add v13 (.int .i64 1)) fun v14 =>
  bnd (binV .int .gtr v12 v14) fun v15 =>
  S v15 H
theorem z116_g6_e (S : J1) (x H) : WE z116_pi z116_c4 16 (fun l => S (gd l 4)) x H = z116_g6 S (x 0) (x 1) (x 2) H := by kernel_rfl
def span_Set_Add_1 (x0 x1 x2 : Value) (R : Value → Heap → Prop) (H : Heap) : Prop :=
  z116_g5 (fun x0 x1 x2 H => z116_g6 (fun x4 H => R x4 H) x0 x1 x2 H) x0 x1 x2 H
theorem z116_ev (x0 x1 x2 : Value) (R : J1) (H : Heap) (h : span_Set_Add_1 x0 x1 x2 R H) : EvF P N.span_Set_Add_1 #[x0, x1, x2] H R := .inl (EvF_intro (args := [x0, x1, x2]) (k := 13) (rs := z116_rs) tab_ok mixed Tryz.func116 (show Tryz.f116.body = some z116_c1 by kernel_rfl) Tryz.call116 Tryz.ntmps116 (by kernel_rfl) (okCode_of _ (show okB z116_pi z116_c1 = true by kernel_rfl)) (fr_eq _ _) (fj (n := 16) rfl (fun l hl (h : span_Set_Add_1 (gd l 0) (gd l 1) (gd l 2) R H) => sr rfl hl (z116_g5_e _ (gd l) _) h fun l H hl h => sr rfl hl (z116_g6_e _ (gd l) _) h fun l H hl h => rt rfl h) h))
end Go.Hc
