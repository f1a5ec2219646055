/- Functions, printed by gen.py. -/
import Derived.Test.YtcjnbiajjlceeaaGreatX2
set_option linter.unusedSimpArgs false
set_option linter.unusedVariables false
set_option maxRecDepth 100000
namespace Go.Hc
open Go Go.Proofs
/- 21: (*sounder/space.Space).Ack -/
def z21_rs : List ResultVar := [.tmp 4, .tmp 5]
noncomputable def z21_c2 := sc Tryz.f21 [0]
noncomputable def z21_c5 := sc Tryz.f21 [1,0,0]
noncomputable def z21_c8 := sc Tryz.f21 [1,0,1,0,0]
noncomputable def z21_c7 : Code := .seq z21_c8 Code.ret
noncomputable def z21_c6 : Code := .cond (.tmp 10) z21_c7 Code.skip
noncomputable def z21_c4 : Code := .seq z21_c5 z21_c6
noncomputable def z21_c11 := sc Tryz.f21 [1,1,0,0]
noncomputable def z21_c13 := sc Tryz.f21 [1,1,0,1,0]
noncomputable def z21_c16 := sc Tryz.f21 [1,1,0,1,1,0,0]
noncomputable def z21_c15 : Code := .seq z21_c16 Code.ret
noncomputable def z21_c14 : Code := .cond (.tmp 14) z21_c15 Code.skip
noncomputable def z21_c12 : Code := .seq z21_c13 z21_c14
noncomputable def z21_c10 : Code := .seq z21_c11 z21_c12
noncomputable def z21_c19 := sc Tryz.f21 [1,1,1,0,0]
noncomputable def z21_c23 := sc Tryz.f21 [1,1,1,0,1,0,0,0]
noncomputable def z21_c26 : Code := .exit 0
noncomputable def z21_c25 : Code := .cond (.tmp 20) Code.skip z21_c26
noncomputable def z21_c30 := sc Tryz.f21 [1,1,1,0,1,0,0,1,1,0,0,0]
noncomputable def z21_c32 := sc Tryz.f21 [1,1,1,0,1,0,0,1,1,0,0,1,0]
noncomputable def z21_c35 := sc Tryz.f21 [1,1,1,0,1,0,0,1,1,0,0,1,1,0,0]
noncomputable def z21_c34 : Code := .seq z21_c35 Code.ret
noncomputable def z21_c33 : Code := .cond (.tmp 26) z21_c34 Code.skip
noncomputable def z21_c31 : Code := .seq z21_c32 z21_c33
noncomputable def z21_c29 : Code := .seq z21_c30 z21_c31
noncomputable def z21_c28 : Code := .block 1 z21_c29
noncomputable def z21_c36 := sc Tryz.f21 [1,1,1,0,1,0,0,1,1,1]
noncomputable def z21_c27 : Code := .seq z21_c28 z21_c36
noncomputable def z21_c24 : Code := .seq z21_c25 z21_c27
noncomputable def z21_c22 : Code := .seq z21_c23 z21_c24
noncomputable def z21_c21 : Code := .loop z21_c22
noncomputable def z21_c20 : Code := .block 0 z21_c21
noncomputable def z21_c18 : Code := .seq z21_c19 z21_c20
noncomputable def z21_c38 := sc Tryz.f21 [1,1,1,1,0]
noncomputable def z21_c40 := sc Tryz.f21 [1,1,1,1,1,0]
noncomputable def z21_c39 : Code := .seq z21_c40 Code.ret
noncomputable def z21_c37 : Code := .seq z21_c38 z21_c39
noncomputable def z21_c17 : Code := .seq z21_c18 z21_c37
noncomputable def z21_c9 : Code := .seq z21_c10 z21_c17
noncomputable def z21_c3 : Code := .seq z21_c4 z21_c9
noncomputable def z21_c1 : Code := .seq z21_c2 z21_c3
def z21_pi (_ : Nat) : Pl := .nil
noncomputable def z21_g41 (S : J2) (x0 x1 : Value) (H : Heap) : Prop :=
  newE 52 (Value.cells x1) H fun v3 H1 =>
  S x0 v3 H1
theorem z21_g41_e (S : J2) (x H) : WE z21_pi z21_c2 39 (fun l => S (gd l 0) (gd l 3)) x H = z21_g41 S (x 0) (x 1) H := by kernel_rfl
noncomputable def z21_g42 (S : J3) (x0 x3 : Value) (H : Heap) : Prop :=
  EvF P N.space_Space_none #[x0] H fun v10 H1 =>
  S x0 x3 v10 H1
theorem z21_g42_e (S : J3) (x H) : WE z21_pi z21_c5 39 (fun l => S (gd l 0) (gd l 3) (gd l 10)) x H = z21_g42 S (x 0) (x 3) H := by kernel_rfl
noncomputable def z21_g43 (S : J2) (H : Heap) : Prop :=
  S (.slice none 0 0) (.int .i64 1) H
theorem z21_g43_e (S : J2) (x H) : WE z21_pi z21_c8 39 (fun l => S (gd l 4) (gd l 5)) x H = z21_g43 S  H := by kernel_rfl
noncomputable def z21_g44 (S : J3) (x0 x3 : Value) (H : Heap) : Prop :=
  bnd (ldE true 6 x3 H) fun v11 =>
  EvF P N.frame_Check #[v11] H fun v12 H1 =>
  S x0 x3 v12 H1
theorem z21_g44_e (S : J3) (x H) : WE z21_pi z21_c11 39 (fun l => S (gd l 0) (gd l 3) (gd l 6)) x H = z21_g44 S (x 0) (x 3) H := by kernel_rfl
noncomputable def z21_g45 (S : J4) (x0 x3 x6 : Value) (H : Heap) : Prop :=
  bnd (binV .int .neq x6 (.int .i64 0)) fun v14 =>
  S x0 x3 x6 v14 H
theorem z21_g45_e (S : J4) (x H) : WE z21_pi z21_c13 39 (fun l => S (gd l 0) (gd l 3) (gd l 6) (gd l 14)) x H = z21_g45 S (x 0) (x 3) (x 6) H := by kernel_rfl
noncomputable def z21_g46 (S : J2) (x6 : Value) (H : Heap) : Prop :=
  S (.slice none 0 0) x6 H
theorem z21_g46_e (S : J2) (x H) : WE z21_pi z21_c16 39 (fun l => S (gd l 4) (gd l 5)) x H = z21_g46 S (x 6) H := by kernel_rfl
noncomputable def z21_g47 (S : J5) (x0 x3 : Value) (H : Heap) : Prop :=
  bnd (faV 1 x3) fun v16 =>
  bnd (ldE false 1 v16 H) fun v17 =>
  bnd (lenV v17) fun v18 =>
  S x0 x3 v17 v18 (.int .i64 0) H
theorem z21_g47_e (S : J5) (x H) : WE z21_pi z21_c19 39 (fun l => S (gd l 0) (gd l 3) (gd l 17) (gd l 18) (gd l 19)) x H = z21_g47 S (x 0) (x 3) H := by kernel_rfl
noncomputable def z21_g49 (S : J6) (x0 x3 x17 x18 x19 : Value) (H : Heap) : Prop :=
  bnd (binV .int .lss x19 x18) fun v20 =>
  S x0 x3 x17 x18 x19 v20 H
theorem z21_g49_e (S : J6) (x H) : WE z21_pi z21_c23 39 (fun l => S (gd l 0) (gd l 3) (gd l 17) (gd l 18) (gd l 19) (gd l 20)) x H = z21_g49 S (x 0) (x 3) (x 17) (x 18) (x 19) H := by kernel_rfl
noncomputable def z21_g50 (S : J6) (x0 x3 x17 x18 x19 : Value) (H : Heap) : Prop :=
  bnd (ixSV 2 x17 x19) fun v21 =>
  bnd (ldE true 2 v21 H) fun v22 =>
  newE 93 #[(.int .i64 0), (.int .i64 0)] H fun v8 H1 =>
  bnd (stE 2 v8 v22 H1) fun H2 =>
  S x0 x3 v8 x17 x18 x19 H2
theorem z21_g50_e (S : J6) (x H) : WE z21_pi z21_c30 39 (fun l => S (gd l 0) (gd l 3) (gd l 8) (gd l 17) (gd l 18) (gd l 19)) x H = z21_g50 S (x 0) (x 3) (x 17) (x 18) (x 19) H := by kernel_rfl
noncomputable def z21_g51 (S : J6) (x0 x3 x8 x17 x18 x19 : Value) (H : Heap) : Prop :=
  bnd (ldE true 2 x8 H) fun v24 =>
  EvF P N.space_Space_sentAll #[x0, v24] H fun v25 H1 =>
  bnd (unV .not v25) fun v26 =>
  S x0 x3 x17 x18 x19 v26 H1
theorem z21_g51_e (S : J6) (x H) : WE z21_pi z21_c32 39 (fun l => S (gd l 0) (gd l 3) (gd l 17) (gd l 18) (gd l 19) (gd l 26)) x H = z21_g51 S (x 0) (x 3) (x 8) (x 17) (x 18) (x 19) H := by kernel_rfl
noncomputable def z21_g52 (S : J2) (H : Heap) : Prop :=
  S (.slice none 0 0) (.int .i64 170) H
theorem z21_g52_e (S : J2) (x H) : WE z21_pi z21_c35 39 (fun l => S (gd l 4) (gd l 5)) x H = z21_g52 S  H := by kernel_rfl
noncomputable def z21_g53 (S : J5) (x0 x3 x17 x18 x19 : Value) (H : Heap) : Prop :=
  bnd (binV .int .add x19 (.int .i64 1)) fun v27 =>
  S x0 x3 x17 x18 v27 H
theorem z21_g53_e (S : J5) (x H) : WE z21_pi z21_c36 39 (fun l => S (gd l 0) (gd l 3) (gd l 17) (gd l 18) (gd l 19)) x H = z21_g53 S (x 0) (x 3) (x 17) (x 18) (x 19) H := by kernel_rfl
noncomputable def z21_g54 (S : J2) (x0 x3 : Value) (H : Heap) : Prop :=
  bnd (ldE true 6 x3 H) fun v29 =>
  EvF P N.space_Space_remember #[x0, v29] H fun _ H1 =>
  S x0 x3 H1
theorem z21_g54_e (S : J2) (x H) : WE z21_pi z21_c38 39 (fun l => S (gd l 0) (gd l 3)) x H = z21_g54 S (x 0) (x 3) H := by kernel_rfl
noncomputable def z21_g55 (S : J2) (x0 x3 : Value) (H : Heap) : Prop :=
  bnd (nilV x0) fun v33 =>
  bnd (faV 0 v33) fun v34 =>
  bnd (ldE false 1 v34 H) fun v35 =>
  EvF P N.sent_Log_All #[v35] H fun v36 H1 =>
  EvF P N.space_Space_dropped #[x0, v36, (.func (.func N.space_Space_Ack_1) #[] #[x3])] H1 fun v38 H2 =>
  S v38 (.int .i64 0) H2
theorem z21_g55_e (S : J2) (x H) : WE z21_pi z21_c40 39 (fun l => S (gd l 4) (gd l 5)) x H = z21_g55 S (x 0) (x 3) H := by kernel_rfl
noncomputable def z21_s48 (x0 x3 x17 x18 x19 : Value) (K1 : J5) (R : J1) (H : Heap) : Prop :=
  z21_g49 (fun x0 x3 x17 x18 x19 x20 H => brV x20
  (z21_g50 (fun x0 x3 x8 x17 x18 x19 H => z21_g51 (fun x0 x3 x17 x18 x19 x26 H => brV x26
  (z21_g52 (fun x4 x5 H => R (.tuple #[x4, x5]) H) H)
  (z21_g53 (fun x0 x3 x17 x18 x19 H => K1 x0 x3 x17 x18 x19 H) x0 x3 x17 x18 x19 H)) x0 x3 x8 x17 x18 x19 H) x0 x3 x17 x18 x19 H)
  (z21_g54 (fun x0 x3 H => z21_g55 (fun x4 x5 H => R (.tuple #[x4, x5]) H) x0 x3 H) x0 x3 H)) x0 x3 x17 x18 x19 H
noncomputable def z21_q56 (R : J1) : JQ := (retQ tab z21_rs R)
noncomputable def z21_q57 (R : J1) : JQ := (thenE (fun l H => wpE tab P z21_pi z21_c37 (z21_q56 R) l H) (z21_q56 R))
noncomputable def z21_q58 (R : J1) : JQ := (blkE 0 (z21_q57 R))
noncomputable def z21_q59 (K1 : J5) (R : J1) : JQ := (thenE (fun l H => K1 (gd l 0) (gd l 3) (gd l 17) (gd l 18) (gd l 19) H) (z21_q58 R))
theorem z21_s48_i (K1 : J5) (R : J1) (l : List Value) (H : Heap) (hl : l.length = 39) (h : z21_s48 (gd l 0) (gd l 3) (gd l 17) (gd l 18) (gd l 19) K1 R H) : wpE tab P z21_pi z21_c22 (z21_q59 K1 R) l H := sr rfl hl (z21_g49_e _ (gd l) _) h fun l H hl h => sq rfl <| cd rfl h (fun h => kN rfl <| sq rfl <| bl rfl <| sr rfl hl (z21_g50_e _ (gd l) _) h fun l H hl h => sr rfl hl (z21_g51_e _ (gd l) _) h fun l H hl h => cd rfl h (fun h => sr rfl hl (z21_g52_e _ (gd l) _) h fun l H hl h => rt rfl h) fun h => sk rfl <| bN <| tN <| rj hl (z21_g53_e _ (gd l) _) h fun l H hl h => tN <| h) fun h => ex rfl <| tX <| tX <| bX <| tN <| sr rfl hl (z21_g54_e _ (gd l) _) h fun l H hl h => sr rfl hl (z21_g55_e _ (gd l) _) h fun l H hl h => rt rfl h
noncomputable def z21_l60 (x0 x3 x17 x18 x19 : Value) (R : J1) (H : Heap) : Prop :=
  ∃ (I : J1) (μ : M1), I x19 H ∧ ∀ (y19 : Value) (H : Heap), I y19 H → z21_s48 x0 x3 x17 x18 y19 (fun z0 z3 z17 z18 z19 H' => z0 = x0 ∧ z3 = x3 ∧ z17 = x17 ∧ z18 = x18 ∧ (I z19 H' ∧ μ z19 H' < μ y19 H)) R H
def space_Space_Ack (x0 x1 : Value) (R : Value → Heap → Prop) (H : Heap) : Prop :=
  z21_g41 (fun x0 x3 H => z21_g42 (fun x0 x3 x10 H => brV x10
  (z21_g43 (fun x4 x5 H => R (.tuple #[x4, x5]) H) H)
  (z21_g44 (fun x0 x3 x6 H => z21_g45 (fun x0 x3 x6 x14 H => brV x14
  (z21_g46 (fun x4 x5 H => R (.tuple #[x4, x5]) H) x6 H)
  (z21_g47 (fun x0 x3 x17 x18 x19 H => z21_l60 x0 x3 x17 x18 x19 R H) x0 x3 H)) x0 x3 x6 H) x0 x3 H)) x0 x3 H) x0 x1 H
theorem z21_ev (x0 x1 : Value) (R : J1) (H : Heap) (h : space_Space_Ack x0 x1 R H) : EvF P N.space_Space_Ack #[x0, x1] H R := .inl (EvF_intro (args := [x0, x1]) (k := 37) (rs := z21_rs) tab_ok mixed Tryz.func21 (show Tryz.f21.body = some z21_c1 by kernel_rfl) Tryz.call21 Tryz.ntmps21 (by kernel_rfl) (okCode_of _ (show okB z21_pi z21_c1 = true by kernel_rfl)) (fr_eq _ _) (fj (n := 39) rfl (fun l hl (h : space_Space_Ack (gd l 0) (gd l 1) R H) => sr rfl hl (z21_g41_e _ (gd l) _) h fun l H hl h => sq rfl <| sr rfl hl (z21_g42_e _ (gd l) _) h fun l H hl h => cd rfl h (fun h => sr rfl hl (z21_g43_e _ (gd l) _) h fun l H hl h => rt rfl h) fun h => kN rfl <| sq rfl <| sr rfl hl (z21_g44_e _ (gd l) _) h fun l H hl h => sr rfl hl (z21_g45_e _ (gd l) _) h fun l H hl h => cd rfl h (fun h => sr rfl hl (z21_g46_e _ (gd l) _) h fun l H hl h => rt rfl h) fun h => kN rfl <| sq rfl <| sr rfl hl (z21_g47_e _ (gd l) _) h fun l H hl h => bl rfl <| (by
    obtain ⟨I, μ, h0, hr⟩ := h
    refine loopI (c := z21_c21) rfl (fun l' H' => gd l' 0 = gd l 0 ∧ gd l' 3 = gd l 3 ∧ gd l' 17 = gd l 17 ∧ gd l' 18 = gd l 18 ∧ I (gd l' 19) H') (fun l' H' => μ (gd l' 19) H') hl ⟨rfl, rfl, rfl, rfl, h0⟩ ?_
    rintro l1 H1 hl1 ⟨e0, e3, e17, e18, hI⟩
    have hb := hr (gd l1 19) H1 hI
    rw [← e0, ← e3, ← e17, ← e18] at hb
    refine wpE_mono _ l1 H1 hl1 ?_ (z21_s48_i _ R l1 H1 hl1 hb)
    intro e l2 H2 hl2 hq
    cases e with
    | normal => exact fun _ => (by obtain ⟨d0, d3, d17, d18, g1, g2⟩ := hq; exact ⟨⟨d0.trans e0, d3.trans e3, d17.trans e17, d18.trans e18, g1⟩, g2⟩)
    | _ => exact hq)) h))
/- 22: sounder/sounderlaw17.ack -/
def z22_rs : List ResultVar := [.cell 2 52]
noncomputable def z22_c2 := sc Tryz.f22 [0]
noncomputable def z22_c4 := sc Tryz.f22 [1,0]
noncomputable def z22_c7 := sc Tryz.f22 [1,1,0,0]
noncomputable def z22_c12 := sc Tryz.f22 [1,1,0,1,0,0,0,0]
noncomputable def z22_c14 : Code := .exit 0
noncomputable def z22_c13 : Code := .cond (.tmp 8) Code.skip z22_c14
noncomputable def z22_c11 : Code := .seq z22_c12 z22_c13
noncomputable def z22_c17 := sc Tryz.f22 [1,1,0,1,0,0,1,0,0]
noncomputable def z22_c16 : Code := .block 1 z22_c17
noncomputable def z22_c18 := sc Tryz.f22 [1,1,0,1,0,0,1,1]
noncomputable def z22_c15 : Code := .seq z22_c16 z22_c18
noncomputable def z22_c10 : Code := .seq z22_c11 z22_c15
noncomputable def z22_c9 : Code := .loop z22_c10
noncomputable def z22_c8 : Code := .block 0 z22_c9
noncomputable def z22_c6 : Code := .seq z22_c7 z22_c8
noncomputable def z22_c20 := sc Tryz.f22 [1,1,1,0]
noncomputable def z22_c19 : Code := .seq z22_c20 Code.ret
noncomputable def z22_c5 : Code := .seq z22_c6 z22_c19
noncomputable def z22_c3 : Code := .seq z22_c4 z22_c5
noncomputable def z22_c1 : Code := .seq z22_c2 z22_c3
def z22_pi (i : Nat) : Pl := match i with
  | 5 => (ones [0, 1, 2, 3, 4, 5, 6, 7, 8, 9, 10, 11, 12, 13, 14, 15, 16] .nil)
  | _ => .nil
noncomputable def z22_g21 (S : J2) (x0 : Value) (H : Heap) : Prop :=
  newE 52 #[(.int .i64 0), (.slice none 0 0), (.bool false), (.int .i64 0), (.int .i64 0), (.int .i64 0)] H fun v2 H1 =>
  S x0 v2 H1
theorem z22_g21_e (S : J2) (x H) : WE z22_pi z22_c2 28 (fun l => S (gd l 0) (gd l 2)) x H = z22_g21 S (x 0) H := by kernel_rfl
noncomputable def z22_g22 (S : J3) (x0 x2 : Value) (H : Heap) : Prop :=
  newE 52 #[(.int .i64 0), (.slice none 0 0), (.bool false), (.int .i64 0), (.int .i64 0), (.int .i64 0)] H fun v3 H1 =>
  S x0 x2 v3 H1
theorem z22_g22_e (S : J3) (x H) : WE z22_pi z22_c4 28 (fun l => S (gd l 0) (gd l 2) (gd l 3)) x H = z22_g22 S (x 0) (x 2) H := by kernel_rfl
noncomputable def z22_g23 (S : J4) (x0 x2 x3 : Value) (H : Heap) : Prop :=
  S x0 x2 x3 (.int .i64 0) H
theorem z22_g23_e (S : J4) (x H) : WE z22_pi z22_c7 28 (fun l => S (gd l 0) (gd l 2) (gd l 3) (gd l 4)) x H = z22_g23 S (x 0) (x 2) (x 3) H := by kernel_rfl
noncomputable def z22_g25 (S : J5) (x0 x2 x3 x4 : Value) (H : Heap) : Prop :=
  bnd (lenV x0) fun v7 =>
  bnd (binV .int .lss x4 v7) fun v8 =>
  S x0 x2 x3 x4 v8 H
theorem z22_g25_e (S : J5) (x H) : WE z22_pi z22_c12 28 (fun l => S (gd l 0) (gd l 2) (gd l 3) (gd l 4) (gd l 8)) x H = z22_g25 S (x 0) (x 2) (x 3) (x 4) H := by kernel_rfl
noncomputable def z22_g26 (S : J4) (x0 x2 x3 x4 : Value) (H : Heap) : Prop :=
  bnd (faV 1 x3) fun v11 =>
  bnd (ldE false 1 v11 H) fun v12 =>
  bnd (ixSV 2 x0 x4) fun v15 =>
  bnd (ixAV 1 2 v15 (.int .i64 0)) fun v16 =>
  bnd (ldE false 1 v16 H) fun v17 =>
  bnd (ixSV 2 x0 x4) fun v20 =>
  bnd (ixAV 1 2 v20 (.int .i64 1)) fun v21 =>
  bnd (ldE false 1 v21 H) fun v22 =>
  bnd (buildV #[(.int .i64 0), (.int .i64 0)] (places [(0, 1), (1, 1)]) [(0, v17), (1, v22)]) fun v23 =>
  bslE 93 #[(.int .i64 0), (.int .i64 0)] 2 1 [(0, v23)] H fun v24 H1 =>
  ((bnd (ldE false 1 v21 H1) fun v' => v' = v22) ∧
  ((bnd (ldE false 1 v16 H1) fun v' => v' = v17) ∧
  ((bnd (ldE false 1 v11 H1) fun v' => v' = v12) ∧
  appE 93 #[(.int .i64 0), (.int .i64 0)] 2 16 v12 v24 H1 fun v25 H2 =>
  ((bnd (ldE false 1 v21 H2) fun v' => v' = v22) ∧
  ((bnd (ldE false 1 v16 H2) fun v' => v' = v17) ∧
  bnd (faV 1 x3) fun v26 =>
  bnd (stE 1 v26 v25 H2) fun H3 =>
  S x0 x2 x3 x4 H3)))))
theorem z22_g26_e (S : J4) (x H) : WE z22_pi z22_c17 28 (fun l => S (gd l 0) (gd l 2) (gd l 3) (gd l 4)) x H = z22_g26 S (x 0) (x 2) (x 3) (x 4) H := by kernel_rfl
noncomputable def z22_g27 (S : J4) (x0 x2 x3 x4 : Value) (H : Heap) : Prop :=
  bnd (binV .int .add x4 (.int .i64 1)) fun v10 =>
  S x0 x2 x3 v10 H
theorem z22_g27_e (S : J4) (x H) : WE z22_pi z22_c18 28 (fun l => S (gd l 0) (gd l 2) (gd l 3) (gd l 4)) x H = z22_g27 S (x 0) (x 2) (x 3) (x 4) H := by kernel_rfl
noncomputable def z22_g28 (S : J1) (x2 x3 : Value) (H : Heap) : Prop :=
  bnd (ldE true 6 x3 H) fun v27 =>
  bnd (stE 6 x2 v27 H) fun H1 =>
  S x2 H1
theorem z22_g28_e (S : J1) (x H) : WE z22_pi z22_c20 28 (fun l => S (gd l 2)) x H = z22_g28 S (x 2) (x 3) H := by kernel_rfl
noncomputable def z22_s24 (x0 x2 x3 x4 : Value) (K1 : J4) (R : J1) (H : Heap) : Prop :=
  z22_g25 (fun x0 x2 x3 x4 x8 H => brV x8
  (z22_g26 (fun x0 x2 x3 x4 H => z22_g27 (fun x0 x2 x3 x4 H => K1 x0 x2 x3 x4 H) x0 x2 x3 x4 H) x0 x2 x3 x4 H)
  (z22_g28 (fun x2 H => bnd (ldE true 6 x2 H) fun r0 =>
  R r0 H) x2 x3 H)) x0 x2 x3 x4 H
noncomputable def z22_q29 (R : J1) : JQ := (retQ tab z22_rs R)
noncomputable def z22_q30 (R : J1) : JQ := (thenE (fun l H => wpE tab P z22_pi z22_c19 (z22_q29 R) l H) (z22_q29 R))
noncomputable def z22_q31 (R : J1) : JQ := (blkE 0 (z22_q30 R))
noncomputable def z22_q32 (K1 : J4) (R : J1) : JQ := (thenE (fun l H => K1 (gd l 0) (gd l 2) (gd l 3) (gd l 4) H) (z22_q31 R))
theorem z22_s24_i (K1 : J4) (R : J1) (l : List Value) (H : Heap) (hl : l.length = 28) (h : z22_s24 (gd l 0) (gd l 2) (gd l 3) (gd l 4) K1 R H) : wpE tab P z22_pi z22_c10 (z22_q32 K1 R) l H := sq rfl <| sr rfl hl (z22_g25_e _ (gd l) _) h fun l H hl h => cd rfl h (fun h => kN rfl <| sq rfl <| bl rfl <| rj hl (z22_g26_e _ (gd l) _) h fun l H hl h => bN <| tN <| rj hl (z22_g27_e _ (gd l) _) h fun l H hl h => tN <| h) fun h => ex rfl <| tX <| tX <| bX <| tN <| sr rfl hl (z22_g28_e _ (gd l) _) h fun l H hl h => rt rfl h
noncomputable def z22_l33 (x0 x2 x3 x4 : Value) (R : J1) (H : Heap) : Prop :=
  ∃ (I : J1) (μ : M1), I x4 H ∧ ∀ (y4 : Value) (H : Heap), I y4 H → z22_s24 x0 x2 x3 y4 (fun z0 z2 z3 z4 H' => z0 = x0 ∧ z2 = x2 ∧ z3 = x3 ∧ (I z4 H' ∧ μ z4 H' < μ y4 H)) R H
def sounderlaw17_ack (x0 : Value) (R : Value → Heap → Prop) (H : Heap) : Prop :=
  z22_g21 (fun x0 x2 H => z22_g22 (fun x0 x2 x3 H => z22_g23 (fun x0 x2 x3 x4 H => z22_l33 x0 x2 x3 x4 R H) x0 x2 x3 H) x0 x2 H) x0 H
theorem z22_ev (x0 : Value) (R : J1) (H : Heap) (h : sounderlaw17_ack x0 R H) : EvF P N.sounderlaw17_ack #[x0] H R := .inl (EvF_intro (args := [x0]) (k := 27) (rs := z22_rs) tab_ok mixed Tryz.func22 (show Tryz.f22.body = some z22_c1 by kernel_rfl) Tryz.call22 Tryz.ntmps22 (by kernel_rfl) (okCode_of _ (show okB z22_pi z22_c1 = true by kernel_rfl)) (fr_eq _ _) (fj (n := 28) rfl (fun l hl (h : sounderlaw17_ack (gd l 0) R H) => sr rfl hl (z22_g21_e _ (gd l) _) h fun l H hl h => sr rfl hl (z22_g22_e _ (gd l) _) h fun l H hl h => sq rfl <| sr rfl hl (z22_g23_e _ (gd l) _) h fun l H hl h => bl rfl <| (by
    obtain ⟨I, μ, h0, hr⟩ := h
    refine loopI (c := z22_c9) rfl (fun l' H' => gd l' 0 = gd l 0 ∧ gd l' 2 = gd l 2 ∧ gd l' 3 = gd l 3 ∧ I (gd l' 4) H') (fun l' H' => μ (gd l' 4) H') hl ⟨rfl, rfl, rfl, h0⟩ ?_
    rintro l1 H1 hl1 ⟨e0, e2, e3, hI⟩
    have hb := hr (gd l1 4) H1 hI
    rw [← e0, ← e2, ← e3] at hb
    refine wpE_mono _ l1 H1 hl1 ?_ (z22_s24_i _ R l1 H1 hl1 hb)
    intro e l2 H2 hl2 hq
    cases e with
    | normal => exact fun _ => (by obtain ⟨d0, d2, d3, g1, g2⟩ := hq; exact ⟨⟨d0.trans e0, d2.trans e2, d3.trans e3, g1⟩, g2⟩)
    | _ => exact hq)) h))
/- 23: sounder/sounderref00.EqInts -/
def z23_rs : List ResultVar := [.tmp 4]
noncomputable def z23_c2 := sc Tryz.f23 [0]
noncomputable def z23_c5 := sc Tryz.f23 [1,0,0]
noncomputable def z23_c8 := sc Tryz.f23 [1,0,1,0,0]
noncomputable def z23_c7 : Code := .seq z23_c8 Code.ret
noncomputable def z23_c6 : Code := .cond (.tmp 10) z23_c7 Code.skip
noncomputable def z23_c4 : Code := .seq z23_c5 z23_c6
noncomputable def z23_c11 := sc Tryz.f23 [1,1,0,0]
noncomputable def z23_c16 := sc Tryz.f23 [1,1,0,1,0,0,0,0]
noncomputable def z23_c18 : Code := .exit 0
noncomputable def z23_c17 : Code := .cond (.tmp 14) Code.skip z23_c18
noncomputable def z23_c15 : Code := .seq z23_c16 z23_c17
noncomputable def z23_c22 := sc Tryz.f23 [1,1,0,1,0,0,1,0,0,0]
noncomputable def z23_c25 := sc Tryz.f23 [1,1,0,1,0,0,1,0,0,1,0,0]
noncomputable def z23_c24 : Code := .seq z23_c25 Code.ret
noncomputable def z23_c23 : Code := .cond (.tmp 25) z23_c24 Code.skip
noncomputable def z23_c21 : Code := .seq z23_c22 z23_c23
noncomputable def z23_c20 : Code := .block 1 z23_c21
noncomputable def z23_c26 := sc Tryz.f23 [1,1,0,1,0,0,1,1]
noncomputable def z23_c19 : Code := .seq z23_c20 z23_c26
noncomputable def z23_c14 : Code := .seq z23_c15 z23_c19
noncomputable def z23_c13 : Code := .loop z23_c14
noncomputable def z23_c12 : Code := .block 0 z23_c13
noncomputable def z23_c10 : Code := .seq z23_c11 z23_c12
noncomputable def z23_c28 := sc Tryz.f23 [1,1,1,0]
noncomputable def z23_c27 : Code := .seq z23_c28 Code.ret
noncomputable def z23_c9 : Code := .seq z23_c10 z23_c27
noncomputable def z23_c3 : Code := .seq z23_c4 z23_c9
noncomputable def z23_c1 : Code := .seq z23_c2 z23_c3
def z23_pi (i : Nat) : Pl := match i with
  | 6 => (ones [0, 1, 2, 3, 4, 5, 6, 7, 8] .nil)
  | _ => .nil
noncomputable def z23_g29 (S : J2) (x0 x1 : Value) (H : Heap) : Prop :=
  S x0 x1 H
theorem z23_g29_e (S : J2) (x H) : WE z23_pi z23_c2 26 (fun l => S (gd l 0) (gd l 1)) x H = z23_g29 S (x 0) (x 1) H := by kernel_rfl
noncomputable def z23_g30 (S : J3) (x0 x1 : Value) (H : Heap) : Prop :=
  bnd (lenV x0) fun v7 =>
  bnd (lenV x1) fun v9 =>
  bnd (binV .int .neq v7 v9) fun v10 =>
  S x0 x1 v10 H
theorem z23_g30_e (S : J3) (x H) : WE z23_pi z23_c5 26 (fun l => S (gd l 0) (gd l 1) (gd l 10)) x H = z23_g30 S (x 0) (x 1) H := by kernel_rfl
noncomputable def z23_g31 (S : J1) (H : Heap) : Prop :=
  S (.bool false) H
theorem z23_g31_e (S : J1) (x H) : WE z23_pi z23_c8 26 (fun l => S (gd l 4)) x H = z23_g31 S  H := by kernel_rfl
noncomputable def z23_g32 (S : J3) (x0 x1 : Value) (H : Heap) : Prop :=
  S x0 x1 (.int .i64 0) H
theorem z23_g32_e (S : J3) (x H) : WE z23_pi z23_c11 26 (fun l => S (gd l 0) (gd l 1) (gd l 5)) x H = z23_g32 S (x 0) (x 1) H := by kernel_rfl
noncomputable def z23_g34 (S : J4) (x0 x1 x5 : Value) (H : Heap) : Prop :=
  bnd (lenV x0) fun v13 =>
  bnd (binV .int .lss x5 v13) fun v14 =>
  S x0 x1 x5 v14 H
theorem z23_g34_e (S : J4) (x H) : WE z23_pi z23_c16 26 (fun l => S (gd l 0) (gd l 1) (gd l 5) (gd l 14)) x H = z23_g34 S (x 0) (x 1) (x 5) H := by kernel_rfl
noncomputable def z23_g35 (S : J4) (x0 x1 x5 : Value) (H : Heap) : Prop :=
  bnd (ixSV 1 x0 x5) fun v19 =>
  bnd (ldE false 1 v19 H) fun v20 =>
  bnd (ixSV 1 x1 x5) fun v23 =>
  bnd (ldE false 1 v23 H) fun v24 =>
  bnd (binV .int .neq v20 v24) fun v25 =>
  S x0 x1 x5 v25 H
theorem z23_g35_e (S : J4) (x H) : WE z23_pi z23_c22 26 (fun l => S (gd l 0) (gd l 1) (gd l 5) (gd l 25)) x H = z23_g35 S (x 0) (x 1) (x 5) H := by kernel_rfl
noncomputable def z23_g36 (S : J1) (H : Heap) : Prop :=
  S (.bool false) H
theorem z23_g36_e (S : J1) (x H) : WE z23_pi z23_c25 26 (fun l => S (gd l 4)) x H = z23_g36 S  H := by kernel_rfl
noncomputable def z23_g37 (S : J3) (x0 x1 x5 : Value) (H : Heap) : Prop :=
  bnd (binV .int .add x5 (.int .i64 1)) fun v16 =>
  S x0 x1 v16 H
theorem z23_g37_e (S : J3) (x H) : WE z23_pi z23_c26 26 (fun l => S (gd l 0) (gd l 1) (gd l 5)) x H = z23_g37 S (x 0) (x 1) (x 5) H := by kernel_rfl
noncomputable def z23_g38 (S : J1) (H : Heap) : Prop :=
  S (.bool true) H
theorem z23_g38_e (S : J1) (x H) : WE z23_pi z23_c28 26 (fun l => S (gd l 4)) x H = z23_g38 S  H := by kernel_rfl
noncomputable def z23_s33 (x0 x1 x5 : Value) (K1 : J3) (R : J1) (H : Heap) : Prop :=
  z23_g34 (fun x0 x1 x5 x14 H => brV x14
  (z23_g35 (fun x0 x1 x5 x25 H => brV x25
  (z23_g36 (fun x4 H => R x4 H) H)
  (z23_g37 (fun x0 x1 x5 H => K1 x0 x1 x5 H) x0 x1 x5 H)) x0 x1 x5 H)
  (z23_g38 (fun x4 H => R x4 H) H)) x0 x1 x5 H
noncomputable def z23_q39 (R : J1) : JQ := (retQ tab z23_rs R)
noncomputable def z23_q40 (R : J1) : JQ := (thenE (fun l H => wpE tab P z23_pi z23_c27 (z23_q39 R) l H) (z23_q39 R))
noncomputable def z23_q41 (R : J1) : JQ := (blkE 0 (z23_q40 R))
noncomputable def z23_q42 (K1 : J3) (R : J1) : JQ := (thenE (fun l H => K1 (gd l 0) (gd l 1) (gd l 5) H) (z23_q41 R))
theorem z23_s33_i (K1 : J3) (R : J1) (l : List Value) (H : Heap) (hl : l.length = 26) (h : z23_s33 (gd l 0) (gd l 1) (gd l 5) K1 R H) : wpE tab P z23_pi z23_c14 (z23_q42 K1 R) l H := sq rfl <| sr rfl hl (z23_g34_e _ (gd l) _) h fun l H hl h => cd rfl h (fun h => kN rfl <| sq rfl <| bl rfl <| sr rfl hl (z23_g35_e _ (gd l) _) h fun l H hl h => cd rfl h (fun h => sr rfl hl (z23_g36_e _ (gd l) _) h fun l H hl h => rt rfl h) fun h => sk rfl <| bN <| tN <| rj hl (z23_g37_e _ (gd l) _) h fun l H hl h => tN <| h) fun h => ex rfl <| tX <| tX <| bX <| tN <| sr rfl hl (z23_g38_e _ (gd l) _) h fun l H hl h => rt rfl h
noncomputable def z23_l43 (x0 x1 x5 : Value) (R : J1) (H : Heap) : Prop :=
  ∃ (I : J1) (μ : M1), I x5 H ∧ ∀ (y5 : Value) (H : Heap), I y5 H → z23_s33 x0 x1 y5 (fun z0 z1 z5 H' => z0 = x0 ∧ z1 = x1 ∧ (I z5 H' ∧ μ z5 H' < μ y5 H)) R H
def sounderref00_EqInts (x0 x1 : Value) (R : Value → Heap → Prop) (H : Heap) : Prop :=
  z23_g29 (fun x0 x1 H => z23_g30 (fun x0 x1 x10 H => brV x10
  (z23_g31 (fun x4 H => R x4 H) H)
  (z23_g32 (fun x0 x1 x5 H => z23_l43 x0 x1 x5 R H) x0 x1 H)) x0 x1 H) x0 x1 H
theorem z23_ev (x0 x1 : Value) (R : J1) (H : Heap) (h : sounderref00_EqInts x0 x1 R H) : EvF P N.sounderref00_EqInts #[x0, x1] H R := .inl (EvF_intro (args := [x0, x1]) (k := 24) (rs := z23_rs) tab_ok mixed Tryz.func23 (show Tryz.f23.body = some z23_c1 by kernel_rfl) Tryz.call23 Tryz.ntmps23 (by kernel_rfl) (okCode_of _ (show okB z23_pi z23_c1 = true by kernel_rfl)) (fr_eq _ _) (fj (n := 26) rfl (fun l hl (h : sounderref00_EqInts (gd l 0) (gd l 1) R H) => sr rfl hl (z23_g29_e _ (gd l) _) h fun l H hl h => sq rfl <| sr rfl hl (z23_g30_e _ (gd l) _) h fun l H hl h => cd rfl h (fun h => sr rfl hl (z23_g31_e _ (gd l) _) h fun l H hl h => rt rfl h) fun h => kN rfl <| sq rfl <| sr rfl hl (z23_g32_e _ (gd l) _) h fun l H hl h => bl rfl <| (by
    obtain ⟨I, μ, h0, hr⟩ := h
    refine loopI (c := z23_c13) rfl (fun l' H' => gd l' 0 = gd l 0 ∧ gd l' 1 = gd l 1 ∧ I (gd l' 5) H') (fun l' H' => μ (gd l' 5) H') hl ⟨rfl, rfl, h0⟩ ?_
    rintro l1 H1 hl1 ⟨e0, e1, hI⟩
    have hb := hr (gd l1 5) H1 hI
    rw [← e0, ← e1] at hb
    refine wpE_mono _ l1 H1 hl1 ?_ (z23_s33_i _ R l1 H1 hl1 hb)
    intro e l2 H2 hl2 hq
    cases e with
    | normal => exact fun _ => (by obtain ⟨d0, d1, g1, g2⟩ := hq; exact ⟨⟨d0.trans e0, d1.trans e1, g1⟩, g2⟩)
    | _ => exact hq)) h))
/- 24: sounder/sounderlaw17.numbersOf -/
def z24_rs : List ResultVar := [.tmp 2]
noncomputable def z24_c2 := sc Tryz.f24 [0]
noncomputable def z24_c4 := sc Tryz.f24 [1,0]
noncomputable def z24_c7 := sc Tryz.f24 [1,1,0,0]
noncomputable def z24_c12 := sc Tryz.f24 [1,1,0,1,0,0,0,0]
noncomputable def z24_c14 : Code := .exit 0
noncomputable def z24_c13 : Code := .cond (.tmp 8) Code.skip z24_c14
noncomputable def z24_c11 : Code := .seq z24_c12 z24_c13
noncomputable def z24_c17 := sc Tryz.f24 [1,1,0,1,0,0,1,0,0]
noncomputable def z24_c16 : Code := .block 1 z24_c17
noncomputable def z24_c18 := sc Tryz.f24 [1,1,0,1,0,0,1,1]
noncomputable def z24_c15 : Code := .seq z24_c16 z24_c18
noncomputable def z24_c10 : Code := .seq z24_c11 z24_c15
noncomputable def z24_c9 : Code := .loop z24_c10
noncomputable def z24_c8 : Code := .block 0 z24_c9
noncomputable def z24_c6 : Code := .seq z24_c7 z24_c8
noncomputable def z24_c20 := sc Tryz.f24 [1,1,1,0]
noncomputable def z24_c19 : Code := .seq z24_c20 Code.ret
noncomputable def z24_c5 : Code := .seq z24_c6 z24_c19
noncomputable def z24_c3 : Code := .seq z24_c4 z24_c5
noncomputable def z24_c1 : Code := .seq z24_c2 z24_c3
def z24_pi (_ : Nat) : Pl := .nil
noncomputable def z24_g21 (S : J1) (x0 : Value) (H : Heap) : Prop :=
  S x0 H
theorem z24_g21_e (S : J1) (x H) : WE z24_pi z24_c2 20 (fun l => S (gd l 0)) x H = z24_g21 S (x 0) H := by kernel_rfl
noncomputable def z24_g22 (S : J2) (x0 : Value) (H : Heap) : Prop :=
  S x0 (.slice none 0 0) H
theorem z24_g22_e (S : J2) (x H) : WE z24_pi z24_c4 20 (fun l => S (gd l 0) (gd l 3)) x H = z24_g22 S (x 0) H := by kernel_rfl
noncomputable def z24_g23 (S : J3) (x0 x3 : Value) (H : Heap) : Prop :=
  S x0 x3 (.int .i64 0) H
theorem z24_g23_e (S : J3) (x H) : WE z24_pi z24_c7 20 (fun l => S (gd l 0) (gd l 3) (gd l 4)) x H = z24_g23 S (x 0) (x 3) H := by kernel_rfl
noncomputable def z24_g25 (S : J4) (x0 x3 x4 : Value) (H : Heap) : Prop :=
  bnd (lenV x0) fun v7 =>
  bnd (binV .int .lss x4 v7) fun v8 =>
  S x0 x3 x4 v8 H
theorem z24_g25_e (S : J4) (x H) : WE z24_pi z24_c12 20 (fun l => S (gd l 0) (gd l 3) (gd l 4) (gd l 8)) x H = z24_g25 S (x 0) (x 3) (x 4) H := by kernel_rfl
noncomputable def z24_g26 (S : J3) (x0 x3 x4 : Value) (H : Heap) : Prop :=
  bnd (ixSV 6 x0 x4) fun v14 =>
  bnd (faV 0 v14) fun v15 =>
  bnd (ldE false 1 v15 H) fun v16 =>
  bslE 3 #[(.int .i64 0)] 1 1 [(0, v16)] H fun v17 H1 =>
  appE 3 #[(.int .i64 0)] 1 8 x3 v17 H1 fun v18 H2 =>
  S x0 v18 x4 H2
theorem z24_g26_e (S : J3) (x H) : WE z24_pi z24_c17 20 (fun l => S (gd l 0) (gd l 3) (gd l 4)) x H = z24_g26 S (x 0) (x 3) (x 4) H := by kernel_rfl
noncomputable def z24_g27 (S : J3) (x0 x3 x4 : Value) (H : Heap) : Prop :=
  bnd (binV .int .add x4 (.int .i64 1)) fun v10 =>
  S x0 x3 v10 H
theorem z24_g27_e (S : J3) (x H) : WE z24_pi z24_c18 20 (fun l => S (gd l 0) (gd l 3) (gd l 4)) x H = z24_g27 S (x 0) (x 3) (x 4) H := by kernel_rfl
noncomputable def z24_g28 (S : J1) (x3 : Value) (H : Heap) : Prop :=
  S x3 H
theorem z24_g28_e (S : J1) (x H) : WE z24_pi z24_c20 20 (fun l => S (gd l 2)) x H = z24_g28 S (x 3) H := by kernel_rfl
noncomputable def z24_s24 (x0 x3 x4 : Value) (K1 : J3) (R : J1) (H : Heap) : Prop :=
  z24_g25 (fun x0 x3 x4 x8 H => brV x8
  (z24_g26 (fun x0 x3 x4 H => z24_g27 (fun x0 x3 x4 H => K1 x0 x3 x4 H) x0 x3 x4 H) x0 x3 x4 H)
  (z24_g28 (fun x2 H => R x2 H) x3 H)) x0 x3 x4 H
noncomputable def z24_q29 (R : J1) : JQ := (retQ tab z24_rs R)
noncomputable def z24_q30 (R : J1) : JQ := (thenE (fun l H => wpE tab P z24_pi z24_c19 (z24_q29 R) l H) (z24_q29 R))
noncomputable def z24_q31 (R : J1) : JQ := (blkE 0 (z24_q30 R))
noncomputable def z24_q32 (K1 : J3) (R : J1) : JQ := (thenE (fun l H => K1 (gd l 0) (gd l 3) (gd l 4) H) (z24_q31 R))
theorem z24_s24_i (K1 : J3) (R : J1) (l : List Value) (H : Heap) (hl : l.length = 20) (h : z24_s24 (gd l 0) (gd l 3) (gd l 4) K1 R H) : wpE tab P z24_pi z24_c10 (z24_q32 K1 R) l H := sq rfl <| sr rfl hl (z24_g25_e _ (gd l) _) h fun l H hl h => cd rfl h (fun h => kN rfl <| sq rfl <| bl rfl <| rj hl (z24_g26_e _ (gd l) _) h fun l H hl h => bN <| tN <| rj hl (z24_g27_e _ (gd l) _) h fun l H hl h => tN <| h) fun h => ex rfl <| tX <| tX <| bX <| tN <| sr rfl hl (z24_g28_e _ (gd l) _) h fun l H hl h => rt rfl h
noncomputable def z24_l33 (x0 x3 x4 : Value) (R : J1) (H : Heap) : Prop :=
  ∃ (I : J2) (μ : M2), I x3 x4 H ∧ ∀ (y3 : Value) (y4 : Value) (H : Heap), I y3 y4 H → z24_s24 x0 y3 y4 (fun z0 z3 z4 H' => z0 = x0 ∧ (I z3 z4 H' ∧ μ z3 z4 H' < μ y3 y4 H)) R H
def sounderlaw17_numbersOf (x0 : Value) (R : Value → Heap → Prop) (H : Heap) : Prop :=
  z24_g21 (fun x0 H => z24_g22 (fun x0 x3 H => z24_g23 (fun x0 x3 x4 H => z24_l33 x0 x3 x4 R H) x0 x3 H) x0 H) x0 H
theorem z24_ev (x0 : Value) (R : J1) (H : Heap) (h : sounderlaw17_numbersOf x0 R H) : EvF P N.sounderlaw17_numbersOf #[x0] H R := .inl (EvF_intro (args := [x0]) (k := 19) (rs := z24_rs) tab_ok mixed Tryz.func24 (show Tryz.f24.body = some z24_c1 by kernel_rfl) Tryz.call24 Tryz.ntmps24 (by kernel_rfl) (okCode_of _ (show okB z24_pi z24_c1 = true by kernel_rfl)) (fr_eq _ _) (fj (n := 20) rfl (fun l hl (h : sounderlaw17_numbersOf (gd l 0) R H) => sr rfl hl (z24_g21_e _ (gd l) _) h fun l H hl h => sr rfl hl (z24_g22_e _ (gd l) _) h fun l H hl h => sq rfl <| sr rfl hl (z24_g23_e _ (gd l) _) h fun l H hl h => bl rfl <| (by
    obtain ⟨I, μ, h0, hr⟩ := h
    refine loopI (c := z24_c9) rfl (fun l' H' => gd l' 0 = gd l 0 ∧ I (gd l' 3) (gd l' 4) H') (fun l' H' => μ (gd l' 3) (gd l' 4) H') hl ⟨rfl, h0⟩ ?_
    rintro l1 H1 hl1 ⟨e0, hI⟩
    have hb := hr (gd l1 3) (gd l1 4) H1 hI
    rw [← e0] at hb
    refine wpE_mono _ l1 H1 hl1 ?_ (z24_s24_i _ R l1 H1 hl1 hb)
    intro e l2 H2 hl2 hq
    cases e with
    | normal => exact fun _ => (by obtain ⟨d0, g1, g2⟩ := hq; exact ⟨⟨d0.trans e0, g1⟩, g2⟩)
    | _ => exact hq)) h))
/- 25: (*sounder/space.Space).Sent -/
def z25_rs : List ResultVar := [.tmp 4]
noncomputable def z25_c2 := sc Tryz.f25 [0]
noncomputable def z25_c4 := sc Tryz.f25 [1,0]
noncomputable def z25_c7 := sc Tryz.f25 [1,1,0,0]
noncomputable def z25_c10 := sc Tryz.f25 [1,1,0,1,0,0]
noncomputable def z25_c9 : Code := .seq z25_c10 Code.ret
noncomputable def z25_c8 : Code := .cond (.tmp 10) z25_c9 Code.skip
noncomputable def z25_c6 : Code := .seq z25_c7 z25_c8
noncomputable def z25_c12 := sc Tryz.f25 [1,1,1,0]
noncomputable def z25_c14 := sc Tryz.f25 [1,1,1,1,0]
noncomputable def z25_c17 := sc Tryz.f25 [1,1,1,1,1,0,0]
noncomputable def z25_c19 := sc Tryz.f25 [1,1,1,1,1,0,1,0]
noncomputable def z25_c18 : Code := .cond (.tmp 32) z25_c19 Code.skip
noncomputable def z25_c16 : Code := .seq z25_c17 z25_c18
noncomputable def z25_c21 := sc Tryz.f25 [1,1,1,1,1,1,0]
noncomputable def z25_c20 : Code := .seq z25_c21 Code.ret
noncomputable def z25_c15 : Code := .seq z25_c16 z25_c20
noncomputable def z25_c13 : Code := .seq z25_c14 z25_c15
noncomputable def z25_c11 : Code := .seq z25_c12 z25_c13
noncomputable def z25_c5 : Code := .seq z25_c6 z25_c11
noncomputable def z25_c3 : Code := .seq z25_c4 z25_c5
noncomputable def z25_c1 : Code := .seq z25_c2 z25_c3
def z25_pi (i : Nat) : Pl := match i with
  | 4 => (ones [0, 1, 2, 3, 4, 5] .nil)
  | 5 => (ones [0, 1, 2, 3, 4, 5, 6, 7, 8] .nil)
  | _ => .nil
noncomputable def z25_g22 (S : J2) (x0 x1 : Value) (H : Heap) : Prop :=
  newE 40 (Value.cells x1) H fun v3 H1 =>
  S x0 v3 H1
theorem z25_g22_e (S : J2) (x H) : WE z25_pi z25_c2 38 (fun l => S (gd l 0) (gd l 3)) x H = z25_g22 S (x 0) (x 1) H := by kernel_rfl
noncomputable def z25_g23 (S : J3) (x0 x3 : Value) (H : Heap) : Prop :=
  bnd (ldE true 6 x3 H) fun v7 =>
  EvF P N.space_Space_May #[x0, v7] H fun v8 H1 =>
  S x0 x3 v8 H1
theorem z25_g23_e (S : J3) (x H) : WE z25_pi z25_c4 38 (fun l => S (gd l 0) (gd l 3) (gd l 5)) x H = z25_g23 S (x 0) (x 3) H := by kernel_rfl
noncomputable def z25_g24 (S : J4) (x0 x3 x5 : Value) (H : Heap) : Prop :=
  bnd (binV .int .neq x5 (.int .i64 0)) fun v10 =>
  S x0 x3 x5 v10 H
theorem z25_g24_e (S : J4) (x H) : WE z25_pi z25_c7 38 (fun l => S (gd l 0) (gd l 3) (gd l 5) (gd l 10)) x H = z25_g24 S (x 0) (x 3) (x 5) H := by kernel_rfl
noncomputable def z25_g25 (S : J1) (x5 : Value) (H : Heap) : Prop :=
  S x5 H
theorem z25_g25_e (S : J1) (x H) : WE z25_pi z25_c10 38 (fun l => S (gd l 4)) x H = z25_g25 S (x 5) H := by kernel_rfl
noncomputable def z25_g26 (S : J2) (x0 x3 : Value) (H : Heap) : Prop :=
  bnd (nilV x0) fun v13 =>
  bnd (faV 0 v13) fun v14 =>
  bnd (ldE false 1 v14 H) fun v15 =>
  bnd (ldE true 6 x3 H) fun v16 =>
  EvF P N.sent_Log_Put #[v15, v16] H fun _ H1 =>
  S x0 x3 H1
theorem z25_g26_e (S : J2) (x H) : WE z25_pi z25_c12 38 (fun l => S (gd l 0) (gd l 3)) x H = z25_g26 S (x 0) (x 3) H := by kernel_rfl
noncomputable def z25_g27 (S : J2) (x0 x3 : Value) (H : Heap) : Prop :=
  bnd (nilV x0) fun v19 =>
  bnd (faV 1 v19) fun v20 =>
  bnd (ldE false 1 v20 H) fun v21 =>
  bnd (faV 0 x3) fun v22 =>
  bnd (ldE false 1 v22 H) fun v23 =>
  bnd (faV 0 x3) fun v24 =>
  bnd (ldE false 1 v24 H) fun v25 =>
  EvF P N.span_Set_Add #[v21, v23, v25] H fun _ H1 =>
  S x0 x3 H1
theorem z25_g27_e (S : J2) (x H) : WE z25_pi z25_c14 38 (fun l => S (gd l 0) (gd l 3)) x H = z25_g27 S (x 0) (x 3) H := by kernel_rfl
noncomputable def z25_g29 (S : J1) (H : Heap) : Prop :=
  S (.int .i64 0) H
theorem z25_g29_e (S : J1) (x H) : WE z25_pi z25_c21 38 (fun l => S (gd l 4)) x H = z25_g29 S  H := by kernel_rfl
noncomputable def z25_s28 (R : J1) (H : Heap) : Prop :=
  z25_g29 (fun x4 H => R x4 H) H
noncomputable def z25_q30 (R : J1) : JQ := (retQ tab z25_rs R)
theorem z25_s28_i (R : J1) (l : List Value) (H : Heap) (hl : l.length = 38) (h : z25_s28  R H) : wpE tab P z25_pi z25_c20 (z25_q30 R) l H := sr rfl hl (z25_g29_e _ (gd l) _) h fun l H hl h => rt rfl h
noncomputable def z25_g31 (S : J3) (x0 x3 : Value) (H : Heap) : Prop :=
  bnd (faV 4 x3) fun v27 =>
  bnd (ldE false 1 v27 H) fun v28 =>
  brV v28
  (bnd (faV 3 x3) fun v30 =>
  bnd (ldE false 1 v30 H) fun v31 =>
  S x0 x3 v31 H)
  (S x0 x3 (.bool false) H)
theorem z25_g31_e (S : J3) (x H) : WE z25_pi z25_c17 38 (fun l => S (gd l 0) (gd l 3) (gd l 32)) x H = z25_g31 S (x 0) (x 3) H := by kernel_rfl
noncomputable def z25_g32 (S : J0) (x0 x3 : Value) (H : Heap) : Prop :=
  bnd (faV 1 x3) fun v34 =>
  bnd (ldE false 1 v34 H) fun v35 =>
  bnd (nilV x0) fun v36 =>
  bnd (faV 5 v36) fun v37 =>
  bnd (stE 1 v37 v35 H) fun H1 =>
  S H1
theorem z25_g32_e (S : J0) (x H) : WE z25_pi z25_c19 38 (fun _ => S ) x H = z25_g32 S (x 0) (x 3) H := by kernel_rfl
def space_Space_Sent (x0 x1 : Value) (R : Value → Heap → Prop) (H : Heap) : Prop :=
  z25_g22 (fun x0 x3 H => z25_g23 (fun x0 x3 x5 H => z25_g24 (fun x0 x3 x5 x10 H => brV x10
  (z25_g25 (fun x4 H => R x4 H) x5 H)
  (z25_g26 (fun x0 x3 H => z25_g27 (fun x0 x3 H => z25_g31 (fun x0 x3 x32 H => brV x32
  (z25_g32 (fun H => z25_s28 R H) x0 x3 H)
  (z25_s28 R H)) x0 x3 H) x0 x3 H) x0 x3 H)) x0 x3 x5 H) x0 x3 H) x0 x1 H
theorem z25_ev (x0 x1 : Value) (R : J1) (H : Heap) (h : space_Space_Sent x0 x1 R H) : EvF P N.space_Space_Sent #[x0, x1] H R := .inl (EvF_intro (args := [x0, x1]) (k := 36) (rs := z25_rs) tab_ok mixed Tryz.func25 (show Tryz.f25.body = some z25_c1 by kernel_rfl) Tryz.call25 Tryz.ntmps25 (by kernel_rfl) (okCode_of _ (show okB z25_pi z25_c1 = true by kernel_rfl)) (fr_eq _ _) (fj (n := 38) rfl (fun l hl (h : space_Space_Sent (gd l 0) (gd l 1) R H) => sr rfl hl (z25_g22_e _ (gd l) _) h fun l H hl h => sr rfl hl (z25_g23_e _ (gd l) _) h fun l H hl h => sq rfl <| sr rfl hl (z25_g24_e _ (gd l) _) h fun l H hl h => cd rfl h (fun h => sr rfl hl (z25_g25_e _ (gd l) _) h fun l H hl h => rt rfl h) fun h => kN rfl <| sr rfl hl (z25_g26_e _ (gd l) _) h fun l H hl h => sr rfl hl (z25_g27_e _ (gd l) _) h fun l H hl h => sq rfl <| sr rfl hl (z25_g31_e _ (gd l) _) h fun l H hl h => cd rfl h (fun h => rj hl (z25_g32_e _ (gd l) _) h fun l H hl h => tN <| z25_s28_i R l H hl h) fun h => kN rfl <| z25_s28_i R l H hl h) h))
/- 26: sounder/sounderlaw17.packet -/
def z26_rs : List ResultVar := [.cell 4 40]
noncomputable def z26_c2 := sc Tryz.f26 [0]
noncomputable def z26_c4 := sc Tryz.f26 [1,0]
noncomputable def z26_c3 : Code := .seq z26_c4 Code.ret
noncomputable def z26_c1 : Code := .seq z26_c2 z26_c3
def z26_pi (_ : Nat) : Pl := .nil
noncomputable def z26_g5 (S : J3) (x0 x1 : Value) (H : Heap) : Prop :=
  newE 40 #[(.int .i64 0), (.int .i64 0), (.int .i64 0), (.bool false), (.bool false), (.bool false)] H fun v4 H1 =>
  S x0 x1 v4 H1
theorem z26_g5_e (S : J3) (x H) : WE z26_pi z26_c2 8 (fun l => S (gd l 0) (gd l 1) (gd l 4)) x H = z26_g5 S (x 0) (x 1) H := by kernel_rfl
noncomputable def z26_g6 (S : J1) (x0 x1 x4 : Value) (H : Heap) : Prop :=
  bnd (buildV #[(.int .i64 0), (.int .i64 0), (.int .i64 0), (.bool false), (.bool false), (.bool false)] (places [(0, 1), (1, 1), (2, 1), (3, 1), (4, 1), (5, 1)]) [(0, x0), (1, x1), (2, (.int .i64 100)), (3, (.bool true)), (4, (.bool true))]) fun v7 =>
  bnd (stE 6 x4 v7 H) fun H1 =>
  S x4 H1
theorem z26_g6_e (S : J1) (x H) : WE z26_pi z26_c4 8 (fun l => S (gd l 4)) x H = z26_g6 S (x 0) (x 1) (x 4) H := by kernel_rfl
def sounderlaw17_packet (x0 x1 : Value) (R : Value → Heap → Prop) (H : Heap) : Prop :=
  z26_g5 (fun x0 x1 x4 H => z26_g6 (fun x4 H => bnd (ldE true 6 x4 H) fun r0 =>
  R r0 H) x0 x1 x4 H) x0 x1 H
theorem z26_ev (x0 x1 : Value) (R : J1) (H : Heap) (h : sounderlaw17_packet x0 x1 R H) : EvF P N.sounderlaw17_packet #[x0, x1] H R := .inl (EvF_intro (args := [x0, x1]) (k := 6) (rs := z26_rs) tab_ok mixed Tryz.func26 (show Tryz.f26.body = some z26_c1 by kernel_rfl) Tryz.call26 Tryz.ntmps26 (by kernel_rfl) (okCode_of _ (show okB z26_pi z26_c1 = true by kernel_rfl)) (fr_eq _ _) (fj (n := 8) rfl (fun l hl (h : sounderlaw17_packet (gd l 0) (gd l 1) R H) => sr rfl hl (z26_g5_e _ (gd l) _) h fun l H hl h => sr rfl hl (z26_g6_e _ (gd l) _) h fun l H hl h => rt rfl h) h))
/- 27: (*sounder/space.Space).Flight -/
def z27_rs : List ResultVar := [.tmp 2]
noncomputable def z27_c2 := sc Tryz.f27 [0]
noncomputable def z27_c4 := sc Tryz.f27 [1,0]
noncomputable def z27_c3 : Code := .seq z27_c4 Code.ret
noncomputable def z27_c1 : Code := .seq z27_c2 z27_c3
def z27_pi (_ : Nat) : Pl := .nil
noncomputable def z27_g5 (S : J1) (x0 : Value) (H : Heap) : Prop :=
  newE 23 (Value.cells x0) H fun v1 H1 =>
  S v1 H1
theorem z27_g5_e (S : J1) (x H) : WE z27_pi z27_c2 7 (fun l => S (gd l 1)) x H = z27_g5 S (x 0) H := by kernel_rfl
noncomputable def z27_g6 (S : J1) (x1 : Value) (H : Heap) : Prop :=
  bnd (ldE false 1 x1 H) fun v3 =>
  EvF P N.space_Space_one #[v3, (.func (.func N.space_Space_Flight_1) #[] #[x1])] H fun v5 H1 =>
  bnd (foldV max2V (.int .i64 0) [v5]) fun v6 =>
  S v6 H1
theorem z27_g6_e (S : J1) (x H) : WE z27_pi z27_c4 7 (fun l => S (gd l 2)) x H = z27_g6 S (x 1) H := by kernel_rfl
def space_Space_Flight (x0 : Value) (R : Value → Heap → Prop) (H : Heap) : Prop :=
  z27_g5 (fun x1 H => z27_g6 (fun x2 H => R x2 H) x1 H) x0 H
theorem z27_ev (x0 : Value) (R : J1) (H : Heap) (h : space_Space_Flight x0 R H) : EvF P N.space_Space_Flight #[x0] H R := .inl (EvF_intro (args := [x0]) (k := 6) (rs := z27_rs) tab_ok mixed Tryz.func27 (show Tryz.f27.body = some z27_c1 by kernel_rfl) Tryz.call27 Tryz.ntmps27 (by kernel_rfl) (okCode_of _ (show okB z27_pi z27_c1 = true by kernel_rfl)) (fr_eq _ _) (fj (n := 7) rfl (fun l hl (h : space_Space_Flight (gd l 0) R H) => sr rfl hl (z27_g5_e _ (gd l) _) h fun l H hl h => sr rfl hl (z27_g6_e _ (gd l) _) h fun l H hl h => rt rfl h) h))
/- 28: (*sounder/space.Space).Eliciting -/
def z28_rs : List ResultVar := [.tmp 2]
noncomputable def z28_c2 := sc Tryz.f28 [0]
noncomputable def z28_c4 := sc Tryz.f28 [1,0]
noncomputable def z28_c3 : Code := .seq z28_c4 Code.ret
noncomputable def z28_c1 : Code := .seq z28_c2 z28_c3
def z28_pi (_ : Nat) : Pl := .nil
noncomputable def z28_g5 (S : J1) (x0 : Value) (H : Heap) : Prop :=
  newE 23 (Value.cells x0) H fun v1 H1 =>
  S v1 H1
theorem z28_g5_e (S : J1) (x H) : WE z28_pi z28_c2 7 (fun l => S (gd l 1)) x H = z28_g5 S (x 0) H := by kernel_rfl
noncomputable def z28_g6 (S : J1) (x1 : Value) (H : Heap) : Prop :=
  bnd (ldE false 1 x1 H) fun v3 =>
  EvF P N.space_Space_one #[v3, (.func (.func N.space_Space_Eliciting_1) #[] #[x1])] H fun v5 H1 =>
  bnd (foldV max2V (.int .i64 0) [v5]) fun v6 =>
  S v6 H1
theorem z28_g6_e (S : J1) (x H) : WE z28_pi z28_c4 7 (fun l => S (gd l 2)) x H = z28_g6 S (x 1) H := by kernel_rfl
def space_Space_Eliciting (x0 : Value) (R : Value → Heap → Prop) (H : Heap) : Prop :=
  z28_g5 (fun x1 H => z28_g6 (fun x2 H => R x2 H) x1 H) x0 H
theorem z28_ev (x0 : Value) (R : J1) (H : Heap) (h : space_Space_Eliciting x0 R H) : EvF P N.space_Space_Eliciting #[x0] H R := .inl (EvF_intro (args := [x0]) (k := 6) (rs := z28_rs) tab_ok mixed Tryz.func28 (show Tryz.f28.body = some z28_c1 by kernel_rfl) Tryz.call28 Tryz.ntmps28 (by kernel_rfl) (okCode_of _ (show okB z28_pi z28_c1 = true by kernel_rfl)) (fr_eq _ _) (fj (n := 7) rfl (fun l hl (h : space_Space_Eliciting (gd l 0) R H) => sr rfl hl (z28_g5_e _ (gd l) _) h fun l H hl h => sr rfl hl (z28_g6_e _ (gd l) _) h fun l H hl h => rt rfl h) h))
/- 29: (*sounder/space.Space).Discard -/
def z29_rs : List ResultVar := []
noncomputable def z29_c3 := sc Tryz.f29 [0,0]
noncomputable def z29_c4 : Code := .cond (.tmp 3) Code.ret Code.skip
noncomputable def z29_c2 : Code := .seq z29_c3 z29_c4
noncomputable def z29_c6 := sc Tryz.f29 [1,0]
noncomputable def z29_c7 := sc Tryz.f29 [1,1]
noncomputable def z29_c5 : Code := .seq z29_c6 z29_c7
noncomputable def z29_c1 : Code := .seq z29_c2 z29_c5
def z29_pi (_ : Nat) : Pl := .nil
noncomputable def z29_g8 (S : J2) (x0 : Value) (H : Heap) : Prop :=
  EvF P N.space_Space_none #[x0] H fun v3 H1 =>
  S x0 v3 H1
theorem z29_g8_e (S : J2) (x H) : WE z29_pi z29_c3 15 (fun l => S (gd l 0) (gd l 3)) x H = z29_g8 S (x 0) H := by kernel_rfl
noncomputable def z29_g9 (S : J1) (x0 : Value) (H : Heap) : Prop :=
  bnd (nilV x0) fun v5 =>
  bnd (faV 0 v5) fun v6 =>
  bnd (ldE false 1 v6 H) fun v7 =>
  EvF P N.sent_Log_Clear #[v7] H fun _ H1 =>
  S x0 H1
theorem z29_g9_e (S : J1) (x H) : WE z29_pi z29_c6 15 (fun l => S (gd l 0)) x H = z29_g9 S (x 0) H := by kernel_rfl
noncomputable def z29_g10 (S : J0) (x0 : Value) (H : Heap) : Prop :=
  bnd (nilV x0) fun v11 =>
  bnd (faV 4 v11) fun v12 =>
  bnd (stE 1 v12 (.int .i64 (-1)) H) fun H1 =>
  bnd (nilV x0) fun v13 =>
  bnd (faV 5 v13) fun v14 =>
  bnd (stE 1 v14 (.int .i64 (-1)) H1) fun H2 =>
  S H2
theorem z29_g10_e (S : J0) (x H) : WE z29_pi z29_c7 15 (fun _ => S ) x H = z29_g10 S (x 0) H := by kernel_rfl
def space_Space_Discard (x0 : Value) (R : Value → Heap → Prop) (H : Heap) : Prop :=
  z29_g8 (fun x0 x3 H => brV x3
  (R (.tuple #[]) H)
  (z29_g9 (fun x0 H => z29_g10 (fun H => R (.tuple #[]) H) x0 H) x0 H)) x0 H
theorem z29_ev (x0 : Value) (R : J1) (H : Heap) (h : space_Space_Discard x0 R H) : EvF P N.space_Space_Discard #[x0] H R := .inl (EvF_intro (args := [x0]) (k := 14) (rs := z29_rs) tab_ok mixed Tryz.func29 (show Tryz.f29.body = some z29_c1 by kernel_rfl) Tryz.call29 Tryz.ntmps29 (by kernel_rfl) (okCode_of _ (show okB z29_pi z29_c1 = true by kernel_rfl)) (fr_eq _ _) (fj (n := 15) rfl (fun l hl (h : space_Space_Discard (gd l 0) R H) => sq rfl <| sr rfl hl (z29_g8_e _ (gd l) _) h fun l H hl h => cd rfl h (fun h => rt rfl h) fun h => kN rfl <| sr rfl hl (z29_g9_e _ (gd l) _) h fun l H hl h => rj hl (z29_g10_e _ (gd l) _) h fun l H hl h => h) h))
/- 30: (*sounder/space.Space).Time -/
def z30_rs : List ResultVar := [.tmp 2]
noncomputable def z30_c2 := sc Tryz.f30 [0]
noncomputable def z30_c4 := sc Tryz.f30 [1,0]
noncomputable def z30_c3 : Code := .seq z30_c4 Code.ret
noncomputable def z30_c1 : Code := .seq z30_c2 z30_c3
def z30_pi (_ : Nat) : Pl := .nil
noncomputable def z30_g5 (S : J1) (x0 : Value) (H : Heap) : Prop :=
  newE 23 (Value.cells x0) H fun v1 H1 =>
  S v1 H1
theorem z30_g5_e (S : J1) (x H) : WE z30_pi z30_c2 6 (fun l => S (gd l 1)) x H = z30_g5 S (x 0) H := by kernel_rfl
noncomputable def z30_g6 (S : J1) (x1 : Value) (H : Heap) : Prop :=
  bnd (ldE false 1 x1 H) fun v3 =>
  EvF P N.space_Space_one #[v3, (.func (.func N.space_Space_Time_1) #[] #[x1])] H fun v5 H1 =>
  S v5 H1
theorem z30_g6_e (S : J1) (x H) : WE z30_pi z30_c4 6 (fun l => S (gd l 2)) x H = z30_g6 S (x 1) H := by kernel_rfl
def space_Space_Time (x0 : Value) (R : Value → Heap → Prop) (H : Heap) : Prop :=
  z30_g5 (fun x1 H => z30_g6 (fun x2 H => R x2 H) x1 H) x0 H
theorem z30_ev (x0 : Value) (R : J1) (H : Heap) (h : space_Space_Time x0 R H) : EvF P N.space_Space_Time #[x0] H R := .inl (EvF_intro (args := [x0]) (k := 5) (rs := z30_rs) tab_ok mixed Tryz.func30 (show Tryz.f30.body = some z30_c1 by kernel_rfl) Tryz.call30 Tryz.ntmps30 (by kernel_rfl) (okCode_of _ (show okB z30_pi z30_c1 = true by kernel_rfl)) (fr_eq _ _) (fj (n := 6) rfl (fun l hl (h : space_Space_Time (gd l 0) R H) => sr rfl hl (z30_g5_e _ (gd l) _) h fun l H hl h => sr rfl hl (z30_g6_e _ (gd l) _) h fun l H hl h => rt rfl h) h))
/- 41: (*sounder/space.Space).May -/
def z41_rs : List ResultVar := [.tmp 4]
noncomputable def z41_c2 := sc Tryz.f41 [0]
noncomputable def z41_c5 := sc Tryz.f41 [1,0,0]
noncomputable def z41_c8 := sc Tryz.f41 [1,0,1,0,0]
noncomputable def z41_c7 : Code := .seq z41_c8 Code.ret
noncomputable def z41_c6 : Code := .cond (.tmp 7) z41_c7 Code.skip
noncomputable def z41_c4 : Code := .seq z41_c5 z41_c6
noncomputable def z41_c11 := sc Tryz.f41 [1,1,0,0]
noncomputable def z41_c13 := sc Tryz.f41 [1,1,0,1,0]
noncomputable def z41_c16 := sc Tryz.f41 [1,1,0,1,1,0,0]
noncomputable def z41_c15 : Code := .seq z41_c16 Code.ret
noncomputable def z41_c14 : Code := .cond (.tmp 16) z41_c15 Code.skip
noncomputable def z41_c12 : Code := .seq z41_c13 z41_c14
noncomputable def z41_c10 : Code := .seq z41_c11 z41_c12
noncomputable def z41_c18 := sc Tryz.f41 [1,1,1,0]
noncomputable def z41_c17 : Code := .seq z41_c18 Code.ret
noncomputable def z41_c9 : Code := .seq z41_c10 z41_c17
noncomputable def z41_c3 : Code := .seq z41_c4 z41_c9
noncomputable def z41_c1 : Code := .seq z41_c2 z41_c3
def z41_pi (i : Nat) : Pl := match i with
  | 3 => (ones [0, 1, 2, 3, 5, 4, 6, 7] .nil)
  | 6 => (ones [0, 1, 2, 3, 5, 6, 7, 8, 4, 9, 10] .nil)
  | _ => .nil
noncomputable def z41_g19 (S : J2) (x0 x1 : Value) (H : Heap) : Prop :=
  newE 40 (Value.cells x1) H fun v3 H1 =>
  S x0 v3 H1
theorem z41_g19_e (S : J2) (x H) : WE z41_pi z41_c2 28 (fun l => S (gd l 0) (gd l 3)) x H = z41_g19 S (x 0) (x 1) H := by kernel_rfl
noncomputable def z41_g20 (S : J3) (x0 x3 : Value) (H : Heap) : Prop :=
  EvF P N.space_Space_none #[x0] H fun v7 H1 =>
  S x0 x3 v7 H1
theorem z41_g20_e (S : J3) (x H) : WE z41_pi z41_c5 28 (fun l => S (gd l 0) (gd l 3) (gd l 7)) x H = z41_g20 S (x 0) (x 3) H := by kernel_rfl
noncomputable def z41_g21 (S : J1) (H : Heap) : Prop :=
  S (.int .i64 1) H
theorem z41_g21_e (S : J1) (x H) : WE z41_pi z41_c8 28 (fun l => S (gd l 4)) x H = z41_g21 S  H := by kernel_rfl
noncomputable def z41_g22 (S : J3) (x0 x3 : Value) (H : Heap) : Prop :=
  bnd (nilV x0) fun v9 =>
  bnd (faV 0 v9) fun v10 =>
  bnd (ldE false 1 v10 H) fun v11 =>
  bnd (ldE true 6 x3 H) fun v13 =>
  EvF P N.sent_Log_Copy #[v11] H fun v12 H1 =>
  ((bnd (ldE true 6 x3 H1) fun v' => v' = v13) ∧
  EvF P N.sent_Log_Put #[v12, v13] H1 fun v14 H2 =>
  S x0 x3 v14 H2)
theorem z41_g22_e (S : J3) (x H) : WE z41_pi z41_c11 28 (fun l => S (gd l 0) (gd l 3) (gd l 5)) x H = z41_g22 S (x 0) (x 3) H := by kernel_rfl
noncomputable def z41_g23 (S : J4) (x0 x3 x5 : Value) (H : Heap) : Prop :=
  bnd (binV .int .neq x5 (.int .i64 0)) fun v16 =>
  S x0 x3 x5 v16 H
theorem z41_g23_e (S : J4) (x H) : WE z41_pi z41_c13 28 (fun l => S (gd l 0) (gd l 3) (gd l 5) (gd l 16)) x H = z41_g23 S (x 0) (x 3) (x 5) H := by kernel_rfl
noncomputable def z41_g24 (S : J1) (x5 : Value) (H : Heap) : Prop :=
  S x5 H
theorem z41_g24_e (S : J1) (x H) : WE z41_pi z41_c16 28 (fun l => S (gd l 4)) x H = z41_g24 S (x 5) H := by kernel_rfl
noncomputable def z41_g25 (S : J1) (x0 x3 : Value) (H : Heap) : Prop :=
  bnd (nilV x0) fun v19 =>
  bnd (faV 1 v19) fun v20 =>
  bnd (ldE false 1 v20 H) fun v21 =>
  bnd (faV 0 x3) fun v23 =>
  bnd (ldE false 1 v23 H) fun v24 =>
  bnd (faV 0 x3) fun v25 =>
  bnd (ldE false 1 v25 H) fun v26 =>
  EvF P N.span_Set_Copy #[v21] H fun v22 H1 =>
  ((bnd (ldE false 1 v25 H1) fun v' => v' = v26) ∧
  ((bnd (ldE false 1 v23 H1) fun v' => v' = v24) ∧
  EvF P N.span_Set_Add #[v22, v24, v26] H1 fun v27 H2 =>
  S v27 H2))
theorem z41_g25_e (S : J1) (x H) : WE z41_pi z41_c18 28 (fun l => S (gd l 4)) x H = z41_g25 S (x 0) (x 3) H := by kernel_rfl
def space_Space_May (x0 x1 : Value) (R : Value → Heap → Prop) (H : Heap) : Prop :=
  z41_g19 (fun x0 x3 H => z41_g20 (fun x0 x3 x7 H => brV x7
  (z41_g21 (fun x4 H => R x4 H) H)
  (z41_g22 (fun x0 x3 x5 H => z41_g23 (fun x0 x3 x5 x16 H => brV x16
  (z41_g24 (fun x4 H => R x4 H) x5 H)
  (z41_g25 (fun x4 H => R x4 H) x0 x3 H)) x0 x3 x5 H) x0 x3 H)) x0 x3 H) x0 x1 H
theorem z41_ev (x0 x1 : Value) (R : J1) (H : Heap) (h : space_Space_May x0 x1 R H) : EvF P N.space_Space_May #[x0, x1] H R := .inl (EvF_intro (args := [x0, x1]) (k := 26) (rs := z41_rs) tab_ok mixed Tryz.func41 (show Tryz.f41.body = some z41_c1 by kernel_rfl) Tryz.call41 Tryz.ntmps41 (by kernel_rfl) (okCode_of _ (show okB z41_pi z41_c1 = true by kernel_rfl)) (fr_eq _ _) (fj (n := 28) rfl (fun l hl (h : space_Space_May (gd l 0) (gd l 1) R H) => sr rfl hl (z41_g19_e _ (gd l) _) h fun l H hl h => sq rfl <| sr rfl hl (z41_g20_e _ (gd l) _) h fun l H hl h => cd rfl h (fun h => sr rfl hl (z41_g21_e _ (gd l) _) h fun l H hl h => rt rfl h) fun h => kN rfl <| sq rfl <| sr rfl hl (z41_g22_e _ (gd l) _) h fun l H hl h => sr rfl hl (z41_g23_e _ (gd l) _) h fun l H hl h => cd rfl h (fun h => sr rfl hl (z41_g24_e _ (gd l) _) h fun l H hl h => rt rfl h) fun h => kN rfl <| sr rfl hl (z41_g25_e _ (gd l) _) h fun l H hl h => rt rfl h) h))
/- 43: sounder/sent.New -/
def z43_rs : List ResultVar := [.tmp 2, .tmp 3]
noncomputable def z43_c2 := sc Tryz.f43 [0]
noncomputable def z43_c5 := sc Tryz.f43 [1,0,0]
noncomputable def z43_c8 := sc Tryz.f43 [1,0,1,0,0]
noncomputable def z43_c7 : Code := .seq z43_c8 Code.ret
noncomputable def z43_c6 : Code := .cond (.tmp 9) z43_c7 Code.skip
noncomputable def z43_c4 : Code := .seq z43_c5 z43_c6
noncomputable def z43_c10 := sc Tryz.f43 [1,1,0]
noncomputable def z43_c9 : Code := .seq z43_c10 Code.ret
noncomputable def z43_c3 : Code := .seq z43_c4 z43_c9
noncomputable def z43_c1 : Code := .seq z43_c2 z43_c3
def z43_pi (_ : Nat) : Pl := .nil
noncomputable def z43_g11 (S : J1) (x0 : Value) (H : Heap) : Prop :=
  S x0 H
theorem z43_g11_e (S : J1) (x H) : WE z43_pi z43_c2 16 (fun l => S (gd l 0)) x H = z43_g11 S (x 0) H := by kernel_rfl
noncomputable def z43_g12 (S : J2) (x0 : Value) (H : Heap) : Prop :=
  bnd (binV .int .lss x0 (.int .i64 1)) fun v5 =>
  brV v5
  (S x0 (.bool true) H)
  (bnd (binV .int .gtr x0 (.int .i64 256)) fun v8 =>
  S x0 v8 H)
theorem z43_g12_e (S : J2) (x H) : WE z43_pi z43_c5 16 (fun l => S (gd l 0) (gd l 9)) x H = z43_g12 S (x 0) H := by kernel_rfl
noncomputable def z43_g13 (S : J2) (H : Heap) : Prop :=
  S (.pointer none) (.int .i64 2) H
theorem z43_g13_e (S : J2) (x H) : WE z43_pi z43_c8 16 (fun l => S (gd l 2) (gd l 3)) x H = z43_g13 S  H := by kernel_rfl
noncomputable def z43_g14 (S : J2) (x0 : Value) (H : Heap) : Prop :=
  bnd (binV .int .mul (.int .i64 2) x0) fun v12 =>
  mslE 137 #[(.int .i64 0), (.int .i64 0), (.int .i64 0), (.bool false), (.bool false), (.bool false), (.bool false)] 40 v12 v12 H fun v13 H1 =>
  bnd (buildV #[(.int .i64 0), (.int .i64 0), (.slice none 0 0), (.int .i64 0), (.int .i64 0), (.int .i64 0), (.int .i64 0), (.int .i64 0)] (places [(0, 1), (1, 1), (2, 1), (3, 1), (4, 1), (5, 1), (6, 1), (7, 1)]) [(0, x0), (1, (.int .i64 (-1))), (2, v13)]) fun v14 =>
  newE 119 (Value.cells v14) H1 fun v15 H2 =>
  S v15 (.int .i64 0) H2
theorem z43_g14_e (S : J2) (x H) : WE z43_pi z43_c10 16 (fun l => S (gd l 2) (gd l 3)) x H = z43_g14 S (x 0) H := by kernel_rfl
def sent_New (x0 : Value) (R : Value → Heap → Prop) (H : Heap) : Prop :=
  z43_g11 (fun x0 H => z43_g12 (fun x0 x9 H => brV x9
  (z43_g13 (fun x2 x3 H => R (.tuple #[x2, x3]) H) H)
  (z43_g14 (fun x2 x3 H => R (.tuple #[x2, x3]) H) x0 H)) x0 H) x0 H
theorem z43_ev (x0 : Value) (R : J1) (H : Heap) (h : sent_New x0 R H) : EvF P N.sent_New #[x0] H R := .inl (EvF_intro (args := [x0]) (k := 15) (rs := z43_rs) tab_ok mixed Tryz.func43 (show Tryz.f43.body = some z43_c1 by kernel_rfl) Tryz.call43 Tryz.ntmps43 (by kernel_rfl) (okCode_of _ (show okB z43_pi z43_c1 = true by kernel_rfl)) (fr_eq _ _) (fj (n := 16) rfl (fun l hl (h : sent_New (gd l 0) R H) => sr rfl hl (z43_g11_e _ (gd l) _) h fun l H hl h => sq rfl <| sr rfl hl (z43_g12_e _ (gd l) _) h fun l H hl h => cd rfl h (fun h => sr rfl hl (z43_g13_e _ (gd l) _) h fun l H hl h => rt rfl h) fun h => kN rfl <| sr rfl hl (z43_g14_e _ (gd l) _) h fun l H hl h => rt rfl h) h))
/- 44: sounder/span.New -/
def z44_rs : List ResultVar := [.tmp 2, .tmp 3]
noncomputable def z44_c2 := sc Tryz.f44 [0]
noncomputable def z44_c5 := sc Tryz.f44 [1,0,0]
noncomputable def z44_c8 := sc Tryz.f44 [1,0,1,0,0]
noncomputable def z44_c7 : Code := .seq z44_c8 Code.ret
noncomputable def z44_c6 : Code := .cond (.tmp 9) z44_c7 Code.skip
noncomputable def z44_c4 : Code := .seq z44_c5 z44_c6
noncomputable def z44_c10 := sc Tryz.f44 [1,1,0]
noncomputable def z44_c9 : Code := .seq z44_c10 Code.ret
noncomputable def z44_c3 : Code := .seq z44_c4 z44_c9
noncomputable def z44_c1 : Code := .seq z44_c2 z44_c3
def z44_pi (_ : Nat) : Pl := .nil
noncomputable def z44_g11 (S : J1) (x0 : Value) (H : Heap) : Prop :=
  S x0 H
theorem z44_g11_e (S : J1) (x H) : WE z44_pi z44_c2 13 (fun l => S (gd l 0)) x H = z44_g11 S (x 0) H := by kernel_rfl
noncomputable def z44_g12 (S : J2) (x0 : Value) (H : Heap) : Prop :=
  bnd (binV .int .lss x0 (.int .i64 1)) fun v5 =>
  brV v5
  (S x0 (.bool true) H)
  (bnd (binV .int .gtr x0 (.int .i64 256)) fun v8 =>
  S x0 v8 H)
theorem z44_g12_e (S : J2) (x H) : WE z44_pi z44_c5 13 (fun l => S (gd l 0) (gd l 9)) x H = z44_g12 S (x 0) H := by kernel_rfl
noncomputable def z44_g13 (S : J2) (H : Heap) : Prop :=
  S (.pointer none) (.int .i64 2) H
theorem z44_g13_e (S : J2) (x H) : WE z44_pi z44_c8 13 (fun l => S (gd l 2) (gd l 3)) x H = z44_g13 S  H := by kernel_rfl
noncomputable def z44_g14 (S : J2) (x0 : Value) (H : Heap) : Prop :=
  bnd (buildV #[(.int .i64 0), (.slice none 0 0)] (places [(0, 1), (1, 1)]) [(0, x0)]) fun v11 =>
  newE 121 (Value.cells v11) H fun v12 H1 =>
  S v12 (.int .i64 0) H1
theorem z44_g14_e (S : J2) (x H) : WE z44_pi z44_c10 13 (fun l => S (gd l 2) (gd l 3)) x H = z44_g14 S (x 0) H := by kernel_rfl
def span_New (x0 : Value) (R : Value → Heap → Prop) (H : Heap) : Prop :=
  z44_g11 (fun x0 H => z44_g12 (fun x0 x9 H => brV x9
  (z44_g13 (fun x2 x3 H => R (.tuple #[x2, x3]) H) H)
  (z44_g14 (fun x2 x3 H => R (.tuple #[x2, x3]) H) x0 H)) x0 H) x0 H
theorem z44_ev (x0 : Value) (R : J1) (H : Heap) (h : span_New x0 R H) : EvF P N.span_New #[x0] H R := .inl (EvF_intro (args := [x0]) (k := 12) (rs := z44_rs) tab_ok mixed Tryz.func44 (show Tryz.f44.body = some z44_c1 by kernel_rfl) Tryz.call44 Tryz.ntmps44 (by kernel_rfl) (okCode_of _ (show okB z44_pi z44_c1 = true by kernel_rfl)) (fr_eq _ _) (fj (n := 13) rfl (fun l hl (h : span_New (gd l 0) R H) => sr rfl hl (z44_g11_e _ (gd l) _) h fun l H hl h => sq rfl <| sr rfl hl (z44_g12_e _ (gd l) _) h fun l H hl h => cd rfl h (fun h => sr rfl hl (z44_g13_e _ (gd l) _) h fun l H hl h => rt rfl h) fun h => kN rfl <| sr rfl hl (z44_g14_e _ (gd l) _) h fun l H hl h => rt rfl h) h))
/- 45: (*sounder/sounderlaw17.run).ranges -/
def z45_rs : List ResultVar := [.tmp 4]
noncomputable def z45_c2 := sc Tryz.f45 [0]
noncomputable def z45_c4 := sc Tryz.f45 [1,0]
noncomputable def z45_c6 := sc Tryz.f45 [1,1,0]
noncomputable def z45_c9 := sc Tryz.f45 [1,1,1,0,0]
noncomputable def z45_c14 := sc Tryz.f45 [1,1,1,0,1,0,0,0,0]
noncomputable def z45_c16 : Code := .exit 0
noncomputable def z45_c15 : Code := .cond (.tmp 22) Code.skip z45_c16
noncomputable def z45_c13 : Code := .seq z45_c14 z45_c15
noncomputable def z45_c20 := sc Tryz.f45 [1,1,1,0,1,0,0,1,0,0,0]
noncomputable def z45_c26 := sc Tryz.f45 [1,1,1,0,1,0,0,1,0,0,1,0,0,0,0,0]
noncomputable def z45_c28 : Code := .exit 2
noncomputable def z45_c27 : Code := .cond (.tmp 55) Code.skip z45_c28
noncomputable def z45_c25 : Code := .seq z45_c26 z45_c27
noncomputable def z45_c30 := sc Tryz.f45 [1,1,1,0,1,0,0,1,0,0,1,0,0,0,1,0]
noncomputable def z45_c29 : Code := .block 3 z45_c30
noncomputable def z45_c24 : Code := .seq z45_c25 z45_c29
noncomputable def z45_c23 : Code := .loop z45_c24
noncomputable def z45_c22 : Code := .block 2 z45_c23
noncomputable def z45_c32 := sc Tryz.f45 [1,1,1,0,1,0,0,1,0,0,1,1,0]
noncomputable def z45_c33 := sc Tryz.f45 [1,1,1,0,1,0,0,1,0,0,1,1,1]
noncomputable def z45_c31 : Code := .seq z45_c32 z45_c33
noncomputable def z45_c21 : Code := .seq z45_c22 z45_c31
noncomputable def z45_c19 : Code := .seq z45_c20 z45_c21
noncomputable def z45_c18 : Code := .block 1 z45_c19
noncomputable def z45_c34 := sc Tryz.f45 [1,1,1,0,1,0,0,1,1]
noncomputable def z45_c17 : Code := .seq z45_c18 z45_c34
noncomputable def z45_c12 : Code := .seq z45_c13 z45_c17
noncomputable def z45_c11 : Code := .loop z45_c12
noncomputable def z45_c10 : Code := .block 0 z45_c11
noncomputable def z45_c8 : Code := .seq z45_c9 z45_c10
noncomputable def z45_c36 := sc Tryz.f45 [1,1,1,1,0]
noncomputable def z45_c35 : Code := .seq z45_c36 Code.ret
noncomputable def z45_c7 : Code := .seq z45_c8 z45_c35
noncomputable def z45_c5 : Code := .seq z45_c6 z45_c7
noncomputable def z45_c3 : Code := .seq z45_c4 z45_c5
noncomputable def z45_c1 : Code := .seq z45_c2 z45_c3
def z45_pi (i : Nat) : Pl := match i with
  | 2 => (ones [0, 1, 2, 3, 4, 5, 6, 7, 8] .nil)
  | 7 => (ones [0, 1, 2, 3, 4, 5, 6, 7, 8, 9, 10, 11, 12, 13, 14, 15, 16, 17, 18, 19, 20, 21, 22, 23, 24, 25, 26, 27, 28, 29] .nil)
  | 9 => (ones [0, 1, 2, 3, 4, 5, 6, 7, 8, 9, 10, 11, 12, 13, 14, 15, 16, 17, 18] .nil)
  | _ => .nil
noncomputable def z45_g37 (S : J2) (x0 x1 : Value) (H : Heap) : Prop :=
  newE 33 (Value.cells x1) H fun v3 H1 =>
  S x0 v3 H1
theorem z45_g37_e (S : J2) (x H) : WE z45_pi z45_c2 83 (fun l => S (gd l 0) (gd l 3)) x H = z45_g37 S (x 0) (x 1) H := by kernel_rfl
noncomputable def z45_g38 (S : J3) (x0 x3 : Value) (H : Heap) : Prop :=
  S x0 x3 (.slice none 0 0) H
theorem z45_g38_e (S : J3) (x H) : WE z45_pi z45_c4 83 (fun l => S (gd l 0) (gd l 3) (gd l 5)) x H = z45_g38 S (x 0) (x 3) H := by kernel_rfl
noncomputable def z45_g39 (S : J4) (x0 x3 x5 : Value) (H : Heap) : Prop :=
  bnd (ixAV 1 3 x3 (.int .i64 0)) fun v9 =>
  bnd (ldE false 1 v9 H) fun v10 =>
  bnd (nilV x0) fun v12 =>
  bnd (faV 1 v12) fun v13 =>
  bnd (ldE false 1 v13 H) fun v14 =>
  bnd (lenV v14) fun v15 =>
  EvF P N.sounderref00_Bring #[v10, v15] H fun v16 H1 =>
  ((bnd (ldE false 1 v13 H1) fun v' => v' = v14) ∧
  S x0 x3 x5 v16 H1)
theorem z45_g39_e (S : J4) (x H) : WE z45_pi z45_c6 83 (fun l => S (gd l 0) (gd l 3) (gd l 5) (gd l 6)) x H = z45_g39 S (x 0) (x 3) (x 5) H := by kernel_rfl
noncomputable def z45_g40 (S : J5) (x0 x3 x5 x6 : Value) (H : Heap) : Prop :=
  S x0 x3 x5 x6 (.int .i64 0) H
theorem z45_g40_e (S : J5) (x H) : WE z45_pi z45_c9 83 (fun l => S (gd l 0) (gd l 3) (gd l 5) (gd l 6) (gd l 7)) x H = z45_g40 S (x 0) (x 3) (x 5) (x 6) H := by kernel_rfl
noncomputable def z45_g42 (S : J6) (x0 x3 x5 x6 x7 : Value) (H : Heap) : Prop :=
  bnd (binV .int .lss x7 (.int .i64 2)) fun v18 =>
  brV v18
  (bnd (binV .int .geq x6 (.int .i64 0)) fun v21 =>
  S x0 x3 x5 x6 x7 v21 H)
  (S x0 x3 x5 x6 x7 (.bool false) H)
theorem z45_g42_e (S : J6) (x H) : WE z45_pi z45_c14 83 (fun l => S (gd l 0) (gd l 3) (gd l 5) (gd l 6) (gd l 7) (gd l 22)) x H = z45_g42 S (x 0) (x 3) (x 5) (x 6) (x 7) H := by kernel_rfl
noncomputable def z45_g43 (S : J6) (x0 x3 x5 x6 x7 : Value) (H : Heap) : Prop :=
  S x0 x3 x5 x6 x7 x6 H
theorem z45_g43_e (S : J6) (x H) : WE z45_pi z45_c20 83 (fun l => S (gd l 0) (gd l 3) (gd l 5) (gd l 6) (gd l 7) (gd l 8)) x H = z45_g43 S (x 0) (x 3) (x 5) (x 6) (x 7) H := by kernel_rfl
noncomputable def z45_g45 (S : J7) (x0 x3 x5 x6 x7 x8 : Value) (H : Heap) : Prop :=
  bnd (binV .int .gtr x8 (.int .i64 0)) fun v27 =>
  brV v27
  (bnd (nilV x0) fun v30 =>
  bnd (faV 1 v30) fun v31 =>
  bnd (ldE false 1 v31 H) fun v32 =>
  bnd (binV .int .sub x8 (.int .i64 1)) fun v34 =>
  bnd (ixSV 1 v32 v34) fun v35 =>
  bnd (ldE false 1 v35 H) fun v36 =>
  bnd (nilV x0) fun v38 =>
  bnd (faV 1 v38) fun v39 =>
  bnd (ldE false 1 v39 H) fun v40 =>
  bnd (ixSV 1 v40 x8) fun v42 =>
  bnd (ldE false 1 v42 H) fun v43 =>
  bnd (binV .int .sub v43 (.int .i64 1)) fun v44 =>
  bnd (binV .int .eql v36 v44) fun v45 =>
  brV v45
  (bnd (binV .int .sub x6 x8) fun v50 =>
  bnd (ixAV 1 3 x3 (.int .i64 1)) fun v51 =>
  bnd (ldE false 1 v51 H) fun v52 =>
  EvF P N.sounderref00_Bring #[v52, (.int .i64 5)] H fun v53 H1 =>
  ((bnd (ldE false 1 v42 H1) fun v' => v' = v43) ∧
  ((bnd (ldE false 1 v39 H1) fun v' => v' = v40) ∧
  ((bnd (ldE false 1 v35 H1) fun v' => v' = v36) ∧
  ((bnd (ldE false 1 v31 H1) fun v' => v' = v32) ∧
  bnd (binV .int .lss v50 v53) fun v54 =>
  S x0 x3 x5 x6 x7 x8 v54 H1)))))
  (S x0 x3 x5 x6 x7 x8 (.bool false) H))
  (S x0 x3 x5 x6 x7 x8 (.bool false) H)
theorem z45_g45_e (S : J7) (x H) : WE z45_pi z45_c26 83 (fun l => S (gd l 0) (gd l 3) (gd l 5) (gd l 6) (gd l 7) (gd l 8) (gd l 55)) x H = z45_g45 S (x 0) (x 3) (x 5) (x 6) (x 7) (x 8) H := by kernel_rfl
noncomputable def z45_g46 (S : J6) (x0 x3 x5 x6 x7 x8 : Value) (H : Heap) : Prop :=
  bnd (binV .int .sub x8 (.int .i64 1)) fun v57 =>
  S x0 x3 x5 x6 x7 v57 H
theorem z45_g46_e (S : J6) (x H) : WE z45_pi z45_c30 83 (fun l => S (gd l 0) (gd l 3) (gd l 5) (gd l 6) (gd l 7) (gd l 8)) x H = z45_g46 S (x 0) (x 3) (x 5) (x 6) (x 7) (x 8) H := by kernel_rfl
noncomputable def z45_g47 (S : J5) (x0 x3 x5 x6 x7 x8 : Value) (H : Heap) : Prop :=
  bnd (nilV x0) fun v60 =>
  bnd (faV 1 v60) fun v61 =>
  bnd (ldE false 1 v61 H) fun v62 =>
  bnd (ixSV 1 v62 x8) fun v64 =>
  bnd (ldE false 1 v64 H) fun v65 =>
  bnd (nilV x0) fun v67 =>
  bnd (faV 1 v67) fun v68 =>
  bnd (ldE false 1 v68 H) fun v69 =>
  bnd (ixSV 1 v69 x6) fun v71 =>
  bnd (ldE false 1 v71 H) fun v72 =>
  bnd (buildV #[(.int .i64 0), (.int .i64 0)] (every 1) [(0, v65), (1, v72)]) fun v73 =>
  bslE 54 #[(.int .i64 0), (.int .i64 0)] 2 1 [(0, v73)] H fun v74 H1 =>
  ((bnd (ldE false 1 v71 H1) fun v' => v' = v72) ∧
  ((bnd (ldE false 1 v68 H1) fun v' => v' = v69) ∧
  ((bnd (ldE false 1 v64 H1) fun v' => v' = v65) ∧
  ((bnd (ldE false 1 v61 H1) fun v' => v' = v62) ∧
  appE 54 #[(.int .i64 0), (.int .i64 0)] 2 16 x5 v74 H1 fun v75 H2 =>
  ((bnd (ldE false 1 v71 H2) fun v' => v' = v72) ∧
  ((bnd (ldE false 1 v68 H2) fun v' => v' = v69) ∧
  ((bnd (ldE false 1 v64 H2) fun v' => v' = v65) ∧
  ((bnd (ldE false 1 v61 H2) fun v' => v' = v62) ∧
  S x0 x3 v75 x7 x8 H2))))))))
theorem z45_g47_e (S : J5) (x H) : WE z45_pi z45_c32 83 (fun l => S (gd l 0) (gd l 3) (gd l 5) (gd l 7) (gd l 8)) x H = z45_g47 S (x 0) (x 3) (x 5) (x 6) (x 7) (x 8) H := by kernel_rfl
noncomputable def z45_g48 (S : J5) (x0 x3 x5 x7 x8 : Value) (H : Heap) : Prop :=
  bnd (binV .int .sub x8 (.int .i64 2)) fun v77 =>
  bnd (ixAV 1 3 x3 (.int .i64 2)) fun v78 =>
  bnd (ldE false 1 v78 H) fun v79 =>
  EvF P N.sounderref00_Bring #[v79, (.int .i64 4)] H fun v80 H1 =>
  bnd (binV .int .sub v77 v80) fun v81 =>
  S x0 x3 x5 v81 x7 H1
theorem z45_g48_e (S : J5) (x H) : WE z45_pi z45_c33 83 (fun l => S (gd l 0) (gd l 3) (gd l 5) (gd l 6) (gd l 7)) x H = z45_g48 S (x 0) (x 3) (x 5) (x 7) (x 8) H := by kernel_rfl
noncomputable def z45_g49 (S : J5) (x0 x3 x5 x6 x7 : Value) (H : Heap) : Prop :=
  bnd (binV .int .add x7 (.int .i64 1)) fun v24 =>
  S x0 x3 x5 x6 v24 H
theorem z45_g49_e (S : J5) (x H) : WE z45_pi z45_c34 83 (fun l => S (gd l 0) (gd l 3) (gd l 5) (gd l 6) (gd l 7)) x H = z45_g49 S (x 0) (x 3) (x 5) (x 6) (x 7) H := by kernel_rfl
noncomputable def z45_s44 (x0 x3 x5 x6 x7 x8 : Value) (K1 : J5) (K2 : J6) (_R : J1) (H : Heap) : Prop :=
  z45_g45 (fun x0 x3 x5 x6 x7 x8 x55 H => brV x55
  (z45_g46 (fun x0 x3 x5 x6 x7 x8 H => K2 x0 x3 x5 x6 x7 x8 H) x0 x3 x5 x6 x7 x8 H)
  (z45_g47 (fun x0 x3 x5 x7 x8 H => z45_g48 (fun x0 x3 x5 x6 x7 H => z45_g49 (fun x0 x3 x5 x6 x7 H => K1 x0 x3 x5 x6 x7 H) x0 x3 x5 x6 x7 H) x0 x3 x5 x7 x8 H) x0 x3 x5 x6 x7 x8 H)) x0 x3 x5 x6 x7 x8 H
noncomputable def z45_q50 (R : J1) : JQ := (retQ tab z45_rs R)
noncomputable def z45_q51 (R : J1) : JQ := (thenE (fun l H => wpE tab P z45_pi z45_c35 (z45_q50 R) l H) (z45_q50 R))
noncomputable def z45_q52 (R : J1) : JQ := (blkE 0 (z45_q51 R))
noncomputable def z45_q53 (K1 : J5) (R : J1) : JQ := (thenE (fun l H => K1 (gd l 0) (gd l 3) (gd l 5) (gd l 6) (gd l 7) H) (z45_q52 R))
noncomputable def z45_q54 (K1 : J5) (R : J1) : JQ := (thenE (fun l H => wpE tab P z45_pi z45_c34 (z45_q53 K1 R) l H) (z45_q53 K1 R))
noncomputable def z45_q55 (K1 : J5) (R : J1) : JQ := (blkE 1 (z45_q54 K1 R))
noncomputable def z45_q56 (K1 : J5) (R : J1) : JQ := (thenE (fun l H => wpE tab P z45_pi z45_c31 (z45_q55 K1 R) l H) (z45_q55 K1 R))
noncomputable def z45_q57 (K1 : J5) (R : J1) : JQ := (blkE 2 (z45_q56 K1 R))
noncomputable def z45_q58 (K1 : J5) (K2 : J6) (R : J1) : JQ := (thenE (fun l H => K2 (gd l 0) (gd l 3) (gd l 5) (gd l 6) (gd l 7) (gd l 8) H) (z45_q57 K1 R))
theorem z45_s44_i (K1 : J5) (K2 : J6) (R : J1) (l : List Value) (H : Heap) (hl : l.length = 83) (h : z45_s44 (gd l 0) (gd l 3) (gd l 5) (gd l 6) (gd l 7) (gd l 8) K1 K2 R H) : wpE tab P z45_pi z45_c24 (z45_q58 K1 K2 R) l H := sq rfl <| sr rfl hl (z45_g45_e _ (gd l) _) h fun l H hl h => cd rfl h (fun h => kN rfl <| bl rfl <| rj hl (z45_g46_e _ (gd l) _) h fun l H hl h => bN <| tN <| h) fun h => ex rfl <| tX <| tX <| bX <| tN <| sr rfl hl (z45_g47_e _ (gd l) _) h fun l H hl h => rj hl (z45_g48_e _ (gd l) _) h fun l H hl h => bN <| tN <| rj hl (z45_g49_e _ (gd l) _) h fun l H hl h => tN <| h
noncomputable def z45_l59 (x0 x3 x5 x6 x7 x8 : Value) (K1 : J5) (R : J1) (H : Heap) : Prop :=
  ∃ (I : J1) (μ : M1), I x8 H ∧ ∀ (y8 : Value) (H : Heap), I y8 H → z45_s44 x0 x3 x5 x6 x7 y8 K1 (fun z0 z3 z5 z6 z7 z8 H' => z0 = x0 ∧ z3 = x3 ∧ z5 = x5 ∧ z6 = x6 ∧ z7 = x7 ∧ (I z8 H' ∧ μ z8 H' < μ y8 H)) R H
noncomputable def z45_g60 (S : J1) (x5 : Value) (H : Heap) : Prop :=
  S x5 H
theorem z45_g60_e (S : J1) (x H) : WE z45_pi z45_c36 83 (fun l => S (gd l 4)) x H = z45_g60 S (x 5) H := by kernel_rfl
noncomputable def z45_s41 (x0 x3 x5 x6 x7 : Value) (K1 : J5) (R : J1) (H : Heap) : Prop :=
  z45_g42 (fun x0 x3 x5 x6 x7 x22 H => brV x22
  (z45_g43 (fun x0 x3 x5 x6 x7 x8 H => z45_l59 x0 x3 x5 x6 x7 x8 K1 R H) x0 x3 x5 x6 x7 H)
  (z45_g60 (fun x4 H => R x4 H) x5 H)) x0 x3 x5 x6 x7 H
theorem z45_s41_i (K1 : J5) (R : J1) (l : List Value) (H : Heap) (hl : l.length = 83) (h : z45_s41 (gd l 0) (gd l 3) (gd l 5) (gd l 6) (gd l 7) K1 R H) : wpE tab P z45_pi z45_c12 (z45_q53 K1 R) l H := sq rfl <| sr rfl hl (z45_g42_e _ (gd l) _) h fun l H hl h => cd rfl h (fun h => kN rfl <| sq rfl <| bl rfl <| sr rfl hl (z45_g43_e _ (gd l) _) h fun l H hl h => sq rfl <| bl rfl <| (by
    obtain ⟨I, μ, h0, hr⟩ := h
    refine loopI (c := z45_c23) rfl (fun l' H' => gd l' 0 = gd l 0 ∧ gd l' 3 = gd l 3 ∧ gd l' 5 = gd l 5 ∧ gd l' 6 = gd l 6 ∧ gd l' 7 = gd l 7 ∧ I (gd l' 8) H') (fun l' H' => μ (gd l' 8) H') hl ⟨rfl, rfl, rfl, rfl, rfl, h0⟩ ?_
    rintro l1 H1 hl1 ⟨e0, e3, e5, e6, e7, hI⟩
    have hb := hr (gd l1 8) H1 hI
    rw [← e0, ← e3, ← e5, ← e6, ← e7] at hb
    refine wpE_mono _ l1 H1 hl1 ?_ (z45_s44_i K1 _ R l1 H1 hl1 hb)
    intro e l2 H2 hl2 hq
    cases e with
    | normal => exact fun _ => (by obtain ⟨d0, d3, d5, d6, d7, g1, g2⟩ := hq; exact ⟨⟨d0.trans e0, d3.trans e3, d5.trans e5, d6.trans e6, d7.trans e7, g1⟩, g2⟩)
    | _ => exact hq)) fun h => ex rfl <| tX <| tX <| bX <| tN <| sr rfl hl (z45_g60_e _ (gd l) _) h fun l H hl h => rt rfl h
noncomputable def z45_l61 (x0 x3 x5 x6 x7 : Value) (R : J1) (H : Heap) : Prop :=
  ∃ (I : J3) (μ : M3), I x5 x6 x7 H ∧ ∀ (y5 : Value) (y6 : Value) (y7 : Value) (H : Heap), I y5 y6 y7 H → z45_s41 x0 x3 y5 y6 y7 (fun z0 z3 z5 z6 z7 H' => z0 = x0 ∧ z3 = x3 ∧ (I z5 z6 z7 H' ∧ μ z5 z6 z7 H' < μ y5 y6 y7 H)) R H
def sounderlaw17_run_ranges (x0 x1 : Value) (R : Value → Heap → Prop) (H : Heap) : Prop :=
  z45_g37 (fun x0 x3 H => z45_g38 (fun x0 x3 x5 H => z45_g39 (fun x0 x3 x5 x6 H => z45_g40 (fun x0 x3 x5 x6 x7 H => z45_l61 x0 x3 x5 x6 x7 R H) x0 x3 x5 x6 H) x0 x3 x5 H) x0 x3 H) x0 x1 H
theorem z45_ev (x0 x1 : Value) (R : J1) (H : Heap) (h : sounderlaw17_run_ranges x0 x1 R H) : EvF P N.sounderlaw17_run_ranges #[x0, x1] H R := .inl (EvF_intro (args := [x0, x1]) (k := 81) (rs := z45_rs) tab_ok mixed Tryz.func45 (show Tryz.f45.body = some z45_c1 by kernel_rfl) Tryz.call45 Tryz.ntmps45 (by kernel_rfl) (okCode_of _ (show okB z45_pi z45_c1 = true by kernel_rfl)) (fr_eq _ _) (fj (n := 83) rfl (fun l hl (h : sounderlaw17_run_ranges (gd l 0) (gd l 1) R H) => sr rfl hl (z45_g37_e _ (gd l) _) h fun l H hl h => sr rfl hl (z45_g38_e _ (gd l) _) h fun l H hl h => sr rfl hl (z45_g39_e _ (gd l) _) h fun l H hl h => sq rfl <| sr rfl hl (z45_g40_e _ (gd l) _) h fun l H hl h => bl rfl <| (by
    obtain ⟨I, μ, h0, hr⟩ := h
    refine loopI (c := z45_c11) rfl (fun l' H' => gd l' 0 = gd l 0 ∧ gd l' 3 = gd l 3 ∧ I (gd l' 5) (gd l' 6) (gd l' 7) H') (fun l' H' => μ (gd l' 5) (gd l' 6) (gd l' 7) H') hl ⟨rfl, rfl, h0⟩ ?_
    rintro l1 H1 hl1 ⟨e0, e3, hI⟩
    have hb := hr (gd l1 5) (gd l1 6) (gd l1 7) H1 hI
    rw [← e0, ← e3] at hb
    refine wpE_mono _ l1 H1 hl1 ?_ (z45_s41_i _ R l1 H1 hl1 hb)
    intro e l2 H2 hl2 hq
    cases e with
    | normal => exact fun _ => (by obtain ⟨d0, d3, g1, g2⟩ := hq; exact ⟨⟨d0.trans e0, d3.trans e3, g1⟩, g2⟩)
    | _ => exact hq)) h))
/- 46: (*sounder/sounderlaw17.run).take -/
def z46_rs : List ResultVar := [.tmp 6]
noncomputable def z46_c2 := sc Tryz.f46 [0]
noncomputable def z46_c5 := sc Tryz.f46 [1,0,0]
noncomputable def z46_c10 := sc Tryz.f46 [1,0,1,0,0,0,0]
noncomputable def z46_c12 : Code := .exit 0
noncomputable def z46_c11 : Code := .cond (.tmp 12) Code.skip z46_c12
noncomputable def z46_c9 : Code := .seq z46_c10 z46_c11
noncomputable def z46_c16 := sc Tryz.f46 [1,0,1,0,0,1,0,0,0]
noncomputable def z46_c19 := sc Tryz.f46 [1,0,1,0,0,1,0,0,1,0,0]
noncomputable def z46_c22 := sc Tryz.f46 [1,0,1,0,0,1,0,0,1,0,1,0,0]
noncomputable def z46_c21 : Code := .seq z46_c22 Code.ret
noncomputable def z46_c20 : Code := .cond (.tmp 56) z46_c21 Code.skip
noncomputable def z46_c18 : Code := .seq z46_c19 z46_c20
noncomputable def z46_c24 := sc Tryz.f46 [1,0,1,0,0,1,0,0,1,1,0]
noncomputable def z46_c26 := sc Tryz.f46 [1,0,1,0,0,1,0,0,1,1,1,0]
noncomputable def z46_c27 := sc Tryz.f46 [1,0,1,0,0,1,0,0,1,1,1,1]
noncomputable def z46_c25 : Code := .cond (.tmp 57) z46_c26 z46_c27
noncomputable def z46_c23 : Code := .seq z46_c24 z46_c25
noncomputable def z46_c17 : Code := .seq z46_c18 z46_c23
noncomputable def z46_c15 : Code := .seq z46_c16 z46_c17
noncomputable def z46_c14 : Code := .block 1 z46_c15
noncomputable def z46_c28 := sc Tryz.f46 [1,0,1,0,0,1,1]
noncomputable def z46_c13 : Code := .seq z46_c14 z46_c28
noncomputable def z46_c8 : Code := .seq z46_c9 z46_c13
noncomputable def z46_c7 : Code := .loop z46_c8
noncomputable def z46_c6 : Code := .block 0 z46_c7
noncomputable def z46_c4 : Code := .seq z46_c5 z46_c6
noncomputable def z46_c30 := sc Tryz.f46 [1,1,0]
noncomputable def z46_c29 : Code := .seq z46_c30 Code.ret
noncomputable def z46_c3 : Code := .seq z46_c4 z46_c29
noncomputable def z46_c1 : Code := .seq z46_c2 z46_c3
def z46_pi (_ : Nat) : Pl := .nil
noncomputable def z46_g31 (S : J3) (x0 x1 x2 : Value) (H : Heap) : Prop :=
  S x0 x1 x2 H
theorem z46_g31_e (S : J3) (x H) : WE z46_pi z46_c2 78 (fun l => S (gd l 0) (gd l 1) (gd l 2)) x H = z46_g31 S (x 0) (x 1) (x 2) H := by kernel_rfl
noncomputable def z46_g32 (S : J4) (x0 x1 x2 : Value) (H : Heap) : Prop :=
  S x0 x1 x2 (.int .i64 0) H
theorem z46_g32_e (S : J4) (x H) : WE z46_pi z46_c5 78 (fun l => S (gd l 0) (gd l 1) (gd l 2) (gd l 7)) x H = z46_g32 S (x 0) (x 1) (x 2) H := by kernel_rfl
noncomputable def z46_g34 (S : J5) (x0 x1 x2 x7 : Value) (H : Heap) : Prop :=
  bnd (lenV x1) fun v11 =>
  bnd (binV .int .lss x7 v11) fun v12 =>
  S x0 x1 x2 x7 v12 H
theorem z46_g34_e (S : J5) (x H) : WE z46_pi z46_c10 78 (fun l => S (gd l 0) (gd l 1) (gd l 2) (gd l 7) (gd l 12)) x H = z46_g34 S (x 0) (x 1) (x 2) (x 7) H := by kernel_rfl
noncomputable def z46_g36 (S : J4) (x0 x1 x2 x7 : Value) (H : Heap) : Prop :=
  bnd (binV .int .add x7 (.int .i64 1)) fun v14 =>
  S x0 x1 x2 v14 H
theorem z46_g36_e (S : J4) (x H) : WE z46_pi z46_c28 78 (fun l => S (gd l 0) (gd l 1) (gd l 2) (gd l 7)) x H = z46_g36 S (x 0) (x 1) (x 2) (x 7) H := by kernel_rfl
noncomputable def z46_s35 (x0 x1 x2 x7 : Value) (K1 : J4) (_R : J1) (H : Heap) : Prop :=
  z46_g36 (fun x0 x1 x2 x7 H => K1 x0 x1 x2 x7 H) x0 x1 x2 x7 H
noncomputable def z46_q37 (R : J1) : JQ := (retQ tab z46_rs R)
noncomputable def z46_q38 (R : J1) : JQ := (thenE (fun l H => wpE tab P z46_pi z46_c29 (z46_q37 R) l H) (z46_q37 R))
noncomputable def z46_q39 (R : J1) : JQ := (blkE 0 (z46_q38 R))
noncomputable def z46_q40 (K1 : J4) (R : J1) : JQ := (thenE (fun l H => K1 (gd l 0) (gd l 1) (gd l 2) (gd l 7) H) (z46_q39 R))
theorem z46_s35_i (K1 : J4) (R : J1) (l : List Value) (H : Heap) (hl : l.length = 78) (h : z46_s35 (gd l 0) (gd l 1) (gd l 2) (gd l 7) K1 R H) : wpE tab P z46_pi z46_c28 (z46_q40 K1 R) l H := rj hl (z46_g36_e _ (gd l) _) h fun l H hl h => tN <| h
noncomputable def z46_g41 (S : J5) (x0 x1 x2 x7 : Value) (H : Heap) : Prop :=
  bnd (ixSV 6 x1 x7) fun v17 =>
  bnd (faV 0 v17) fun v18 =>
  bnd (ldE false 1 v18 H) fun v19 =>
  S x0 x1 x2 x7 v19 H
theorem z46_g41_e (S : J5) (x H) : WE z46_pi z46_c16 78 (fun l => S (gd l 0) (gd l 1) (gd l 2) (gd l 7) (gd l 8)) x H = z46_g41 S (x 0) (x 1) (x 2) (x 7) H := by kernel_rfl
noncomputable def z46_g42 (S : J6) (x0 x1 x2 x7 x8 : Value) (H : Heap) : Prop :=
  bnd (nilV x0) fun v21 =>
  bnd (faV 1 v21) fun v22 =>
  bnd (ldE false 1 v22 H) fun v23 =>
  EvF P N.sounderlaw17_has #[v23, x8] H fun v25 H1 =>
  bnd (unV .not v25) fun v26 =>
  brV v26
  (S x0 x1 x2 x7 x8 (.bool true) H1)
  (bnd (nilV x0) fun v29 =>
  bnd (faV 2 v29) fun v30 =>
  bnd (ldE false 1 v30 H1) fun v31 =>
  EvF P N.sounderlaw17_has #[v31, x8] H1 fun v33 H2 =>
  brV v33
  (S x0 x1 x2 x7 x8 (.bool true) H2)
  (bnd (nilV x0) fun v37 =>
  bnd (faV 3 v37) fun v38 =>
  bnd (ldE false 1 v38 H2) fun v39 =>
  EvF P N.sounderlaw17_has #[v39, x8] H2 fun v41 H3 =>
  brV v41
  (S x0 x1 x2 x7 x8 (.bool true) H3)
  (bnd (binV .int .gtr x7 (.int .i64 0)) fun v45 =>
  brG v45
  (bnd (binV .int .sub x7 (.int .i64 1)) fun v50 =>
  bnd (ixSV 6 x1 v50) fun v51 =>
  bnd (faV 0 v51) fun v52 =>
  bnd (ldE false 1 v52 H3) fun v53 =>
  bnd (binV .int .leq x8 v53) fun v54 =>
  S x0 x1 x2 x7 x8 v54 H3)
  (S x0 x1 x2 x7 x8 (.bool false) H3)
  (brG v45
  (bnd (binV .int .sub x7 (.int .i64 1)) fun v50_2 =>
  bnd (ixSV 6 x1 v50_2) fun v51_2 =>
  bnd (faV 0 v51_2) fun v52_2 =>
  bnd (ldE false 1 v52_2 H3) fun v53_2 =>
  bnd (binV .int .leq undef v53_2) fun v54_2 =>
  S x0 x1 x2 x7 x8 v54_2 H3)
  (S x0 x1 x2 x7 x8 (.bool false) H3)
  (brG v45
  (bnd (binV .int .sub x7 (.int .i64 1)) fun v50_3 =>
  bnd (ixSV 6 undef v50_3) fun v51_3 =>
  bnd (faV 0 v51_3) fun v52_3 =>
  bnd (ldE false 1 v52_3 H3) fun v53_3 =>
  bnd (binV .int .leq undef v53_3) fun v54_3 =>
  S x0 x1 x2 x7 x8 v54_3 H3)
  (S x0 x1 x2 x7 x8 (.bool false) H3)
  (brG v45
  (bnd (binV .int .sub undef (.int .i64 1)) fun v50_4 =>
  bnd (ixSV 6 undef v50_4) fun v51_4 =>
  bnd (faV 0 v51_4) fun v52_4 =>
  bnd (ldE false 1 v52_4 H3) fun v53_4 =>
  bnd (binV .int .leq undef v53_4) fun v54_4 =>
  S x0 x1 x2 x7 x8 v54_4 H3)
  (S x0 x1 x2 x7 x8 (.bool false) H3)
  (brG v45
  (bnd (ixSV 6 undef undef) fun v51_5 =>
  bnd (faV 0 v51_5) fun v52_5 =>
  bnd (ldE false 1 v52_5 H3) fun v53_5 =>
  bnd (binV .int .leq undef v53_5) fun v54_5 =>
  S x0 x1 x2 x7 x8 v54_5 H3)
  (S x0 x1 x2 x7 x8 (.bool false) H3)
  (brG v45
  (bnd (faV 0 undef) fun v52_6 =>
  bnd (ldE false 1 v52_6 H3) fun v53_6 =>
  bnd (binV .int .leq undef v53_6) fun v54_6 =>
  S x0 x1 x2 x7 x8 v54_6 H3)
  (S x0 x1 x2 x7 x8 (.bool false) H3)
  (brG v45
  (bnd (ldE false 1 undef H3) fun v53_7 =>
  bnd (binV .int .leq undef v53_7) fun v54_7 =>
  S x0 x1 x2 x7 x8 v54_7 H3)
  (S x0 x1 x2 x7 x8 (.bool false) H3)
  (brG v45
  (bnd (binV .int .leq undef undef) fun v54_8 =>
  S x0 x1 x2 x7 x8 v54_8 H3)
  (S x0 x1 x2 x7 x8 (.bool false) H3)
  (pickE v45 undef (.bool false) H3 fun v55 H4 =>
  S x0 x1 x2 x7 x8 v55 H4)))))))))))
theorem z46_g42_e (S : J6) (x H) : WE z46_pi z46_c19 78 (fun l => S (gd l 0) (gd l 1) (gd l 2) (gd l 7) (gd l 8) (gd l 56)) x H = z46_g42 S (x 0) (x 1) (x 2) (x 7) (x 8) H := by kernel_rfl
noncomputable def z46_g43 (S : J1) (H : Heap) : Prop :=
  S (.bool false) H
theorem z46_g43_e (S : J1) (x H) : WE z46_pi z46_c22 78 (fun l => S (gd l 6)) x H = z46_g43 S  H := by kernel_rfl
noncomputable def z46_g44 (S : J6) (x0 x1 x2 x7 x8 : Value) (H : Heap) : Prop :=
  S x0 x1 x2 x7 x8 x2 H
theorem z46_g44_e (S : J6) (x H) : WE z46_pi z46_c24 78 (fun l => S (gd l 0) (gd l 1) (gd l 2) (gd l 7) (gd l 8) (gd l 57)) x H = z46_g44 S (x 0) (x 1) (x 2) (x 7) (x 8) H := by kernel_rfl
noncomputable def z46_g45 (S : J4) (x0 x1 x2 x7 x8 : Value) (H : Heap) : Prop :=
  bnd (nilV x0) fun v60 =>
  bnd (faV 2 v60) fun v61 =>
  bnd (ldE false 1 v61 H) fun v62 =>
  bslE 3 #[(.int .i64 0)] 1 1 [(0, x8)] H fun v64 H1 =>
  appE 3 #[(.int .i64 0)] 1 8 v62 v64 H1 fun v65 H2 =>
  bnd (nilV x0) fun v66 =>
  bnd (faV 2 v66) fun v67 =>
  bnd (stE 1 v67 v65 H2) fun H3 =>
  S x0 x1 x2 x7 H3
theorem z46_g45_e (S : J4) (x H) : WE z46_pi z46_c26 78 (fun l => S (gd l 0) (gd l 1) (gd l 2) (gd l 7)) x H = z46_g45 S (x 0) (x 1) (x 2) (x 7) (x 8) H := by kernel_rfl
noncomputable def z46_g46 (S : J4) (x0 x1 x2 x7 x8 : Value) (H : Heap) : Prop :=
  bnd (nilV x0) fun v70 =>
  bnd (faV 3 v70) fun v71 =>
  bnd (ldE false 1 v71 H) fun v72 =>
  bslE 3 #[(.int .i64 0)] 1 1 [(0, x8)] H fun v74 H1 =>
  appE 3 #[(.int .i64 0)] 1 8 v72 v74 H1 fun v75 H2 =>
  bnd (nilV x0) fun v76 =>
  bnd (faV 3 v76) fun v77 =>
  bnd (stE 1 v77 v75 H2) fun H3 =>
  S x0 x1 x2 x7 H3
theorem z46_g46_e (S : J4) (x H) : WE z46_pi z46_c27 78 (fun l => S (gd l 0) (gd l 1) (gd l 2) (gd l 7)) x H = z46_g46 S (x 0) (x 1) (x 2) (x 7) (x 8) H := by kernel_rfl
noncomputable def z46_g47 (S : J1) (H : Heap) : Prop :=
  S (.bool true) H
theorem z46_g47_e (S : J1) (x H) : WE z46_pi z46_c30 78 (fun l => S (gd l 6)) x H = z46_g47 S  H := by kernel_rfl
noncomputable def z46_s33 (x0 x1 x2 x7 : Value) (K1 : J4) (R : J1) (H : Heap) : Prop :=
  z46_g34 (fun x0 x1 x2 x7 x12 H => brV x12
  (z46_g41 (fun x0 x1 x2 x7 x8 H => z46_g42 (fun x0 x1 x2 x7 x8 x56 H => brV x56
  (z46_g43 (fun x6 H => R x6 H) H)
  (z46_g44 (fun x0 x1 x2 x7 x8 x57 H => brV x57
  (z46_g45 (fun x0 x1 x2 x7 H => z46_s35 x0 x1 x2 x7 K1 R H) x0 x1 x2 x7 x8 H)
  (z46_g46 (fun x0 x1 x2 x7 H => z46_s35 x0 x1 x2 x7 K1 R H) x0 x1 x2 x7 x8 H)) x0 x1 x2 x7 x8 H)) x0 x1 x2 x7 x8 H) x0 x1 x2 x7 H)
  (z46_g47 (fun x6 H => R x6 H) H)) x0 x1 x2 x7 H
theorem z46_s33_i (K1 : J4) (R : J1) (l : List Value) (H : Heap) (hl : l.length = 78) (h : z46_s33 (gd l 0) (gd l 1) (gd l 2) (gd l 7) K1 R H) : wpE tab P z46_pi z46_c8 (z46_q40 K1 R) l H := sq rfl <| sr rfl hl (z46_g34_e _ (gd l) _) h fun l H hl h => cd rfl h (fun h => kN rfl <| sq rfl <| bl rfl <| sr rfl hl (z46_g41_e _ (gd l) _) h fun l H hl h => sq rfl <| sr rfl hl (z46_g42_e _ (gd l) _) h fun l H hl h => cd rfl h (fun h => sr rfl hl (z46_g43_e _ (gd l) _) h fun l H hl h => rt rfl h) fun h => kN rfl <| sr rfl hl (z46_g44_e _ (gd l) _) h fun l H hl h => cd rfl h (fun h => rj hl (z46_g45_e _ (gd l) _) h fun l H hl h => bN <| tN <| z46_s35_i K1 R l H hl h) fun h => rj hl (z46_g46_e _ (gd l) _) h fun l H hl h => bN <| tN <| z46_s35_i K1 R l H hl h) fun h => ex rfl <| tX <| tX <| bX <| tN <| sr rfl hl (z46_g47_e _ (gd l) _) h fun l H hl h => rt rfl h
noncomputable def z46_l48 (x0 x1 x2 x7 : Value) (R : J1) (H : Heap) : Prop :=
  ∃ (I : J1) (μ : M1), I x7 H ∧ ∀ (y7 : Value) (H : Heap), I y7 H → z46_s33 x0 x1 x2 y7 (fun z0 z1 z2 z7 H' => z0 = x0 ∧ z1 = x1 ∧ z2 = x2 ∧ (I z7 H' ∧ μ z7 H' < μ y7 H)) R H
def sounderlaw17_run_take (x0 x1 x2 : Value) (R : Value → Heap → Prop) (H : Heap) : Prop :=
  z46_g31 (fun x0 x1 x2 H => z46_g32 (fun x0 x1 x2 x7 H => z46_l48 x0 x1 x2 x7 R H) x0 x1 x2 H) x0 x1 x2 H
theorem z46_ev (x0 x1 x2 : Value) (R : J1) (H : Heap) (h : sounderlaw17_run_take x0 x1 x2 R H) : EvF P N.sounderlaw17_run_take #[x0, x1, x2] H R := .inl (EvF_intro (args := [x0, x1, x2]) (k := 75) (rs := z46_rs) tab_ok mixed Tryz.func46 (show Tryz.f46.body = some z46_c1 by kernel_rfl) Tryz.call46 Tryz.ntmps46 (by kernel_rfl) (okCode_of _ (show okB z46_pi z46_c1 = true by kernel_rfl)) (fr_eq _ _) (fj (n := 78) rfl (fun l hl (h : sounderlaw17_run_take (gd l 0) (gd l 1) (gd l 2) R H) => sr rfl hl (z46_g31_e _ (gd l) _) h fun l H hl h => sq rfl <| sr rfl hl (z46_g32_e _ (gd l) _) h fun l H hl h => bl rfl <| (by
    obtain ⟨I, μ, h0, hr⟩ := h
    refine loopI (c := z46_c7) rfl (fun l' H' => gd l' 0 = gd l 0 ∧ gd l' 1 = gd l 1 ∧ gd l' 2 = gd l 2 ∧ I (gd l' 7) H') (fun l' H' => μ (gd l' 7) H') hl ⟨rfl, rfl, rfl, h0⟩ ?_
    rintro l1 H1 hl1 ⟨e0, e1, e2, hI⟩
    have hb := hr (gd l1 7) H1 hI
    rw [← e0, ← e1, ← e2] at hb
    refine wpE_mono _ l1 H1 hl1 ?_ (z46_s33_i _ R l1 H1 hl1 hb)
    intro e l2 H2 hl2 hq
    cases e with
    | normal => exact fun _ => (by obtain ⟨d0, d1, d2, g1, g2⟩ := hq; exact ⟨⟨d0.trans e0, d1.trans e1, d2.trans e2, g1⟩, g2⟩)
    | _ => exact hq)) h))
/- 47: (*sounder/space.Space).one -/
def z47_rs : List ResultVar := [.tmp 4]
noncomputable def z47_c2 := sc Tryz.f47 [0]
noncomputable def z47_c5 := sc Tryz.f47 [1,0,0]
noncomputable def z47_c8 := sc Tryz.f47 [1,0,1,0,0]
noncomputable def z47_c7 : Code := .seq z47_c8 Code.ret
noncomputable def z47_c6 : Code := .cond (.tmp 6) z47_c7 Code.skip
noncomputable def z47_c4 : Code := .seq z47_c5 z47_c6
noncomputable def z47_c10 := sc Tryz.f47 [1,1,0]
noncomputable def z47_c9 : Code := .seq z47_c10 Code.ret
noncomputable def z47_c3 : Code := .seq z47_c4 z47_c9
noncomputable def z47_c1 : Code := .seq z47_c2 z47_c3
def z47_pi (_ : Nat) : Pl := .nil
noncomputable def z47_g11 (S : J2) (x0 x1 : Value) (H : Heap) : Prop :=
  S x0 x1 H
theorem z47_g11_e (S : J2) (x H) : WE z47_pi z47_c2 9 (fun l => S (gd l 0) (gd l 1)) x H = z47_g11 S (x 0) (x 1) H := by kernel_rfl
noncomputable def z47_g12 (S : J2) (x0 x1 : Value) (H : Heap) : Prop :=
  EvF P N.space_Space_none #[x0] H fun v6 H1 =>
  S x1 v6 H1
theorem z47_g12_e (S : J2) (x H) : WE z47_pi z47_c5 9 (fun l => S (gd l 1) (gd l 6)) x H = z47_g12 S (x 0) (x 1) H := by kernel_rfl
noncomputable def z47_g13 (S : J1) (H : Heap) : Prop :=
  S (.int .i64 (-1)) H
theorem z47_g13_e (S : J1) (x H) : WE z47_pi z47_c8 9 (fun l => S (gd l 4)) x H = z47_g13 S  H := by kernel_rfl
noncomputable def z47_g14 (S : J1) (x1 : Value) (H : Heap) : Prop :=
  callV P x1 [] H fun v8 H1 =>
  S v8 H1
theorem z47_g14_e (S : J1) (x H) : WE z47_pi z47_c10 9 (fun l => S (gd l 4)) x H = z47_g14 S (x 1) H := by kernel_rfl
def space_Space_one (x0 x1 : Value) (R : Value → Heap → Prop) (H : Heap) : Prop :=
  z47_g11 (fun x0 x1 H => z47_g12 (fun x1 x6 H => brV x6
  (z47_g13 (fun x4 H => R x4 H) H)
  (z47_g14 (fun x4 H => R x4 H) x1 H)) x0 x1 H) x0 x1 H
theorem z47_ev (x0 x1 : Value) (R : J1) (H : Heap) (h : space_Space_one x0 x1 R H) : EvF P N.space_Space_one #[x0, x1] H R := .inl (EvF_intro (args := [x0, x1]) (k := 7) (rs := z47_rs) tab_ok mixed Tryz.func47 (show Tryz.f47.body = some z47_c1 by kernel_rfl) Tryz.call47 Tryz.ntmps47 (by kernel_rfl) (okCode_of _ (show okB z47_pi z47_c1 = true by kernel_rfl)) (fr_eq _ _) (fj (n := 9) rfl (fun l hl (h : space_Space_one (gd l 0) (gd l 1) R H) => sr rfl hl (z47_g11_e _ (gd l) _) h fun l H hl h => sq rfl <| sr rfl hl (z47_g12_e _ (gd l) _) h fun l H hl h => cd rfl h (fun h => sr rfl hl (z47_g13_e _ (gd l) _) h fun l H hl h => rt rfl h) fun h => kN rfl <| sr rfl hl (z47_g14_e _ (gd l) _) h fun l H hl h => rt rfl h) h))
/- 48: (*sounder/space.Space).Greatest$1 -/
def z48_rs : List ResultVar := [.tmp 1]
noncomputable def z48_c2 := sc Tryz.f48 [0]
noncomputable def z48_c4 := sc Tryz.f48 [1,0]
noncomputable def z48_c3 : Code := .seq z48_c4 Code.ret
noncomputable def z48_c1 : Code := .seq z48_c2 z48_c3
def z48_pi (_ : Nat) : Pl := .nil
noncomputable def z48_g5 (S : J1) (x0 : Value) (H : Heap) : Prop :=
  S x0 H
theorem z48_g5_e (S : J1) (x H) : WE z48_pi z48_c2 6 (fun l => S (gd l 0)) x H = z48_g5 S (x 0) H := by kernel_rfl
noncomputable def z48_g6 (S : J1) (x0 : Value) (H : Heap) : Prop :=
  bnd (ldE false 1 x0 H) fun v2 =>
  bnd (nilV v2) fun v3 =>
  bnd (faV 3 v3) fun v4 =>
  bnd (ldE false 1 v4 H) fun v5 =>
  S v5 H
theorem z48_g6_e (S : J1) (x H) : WE z48_pi z48_c4 6 (fun l => S (gd l 1)) x H = z48_g6 S (x 0) H := by kernel_rfl
def space_Space_Greatest_1 (x0 : Value) (R : Value → Heap → Prop) (H : Heap) : Prop :=
  z48_g5 (fun x0 H => z48_g6 (fun x1 H => R x1 H) x0 H) x0 H
theorem z48_ev (x0 : Value) (R : J1) (H : Heap) (h : space_Space_Greatest_1 x0 R H) : EvF P N.space_Space_Greatest_1 #[x0] H R := .inl (EvF_intro (args := [x0]) (k := 5) (rs := z48_rs) tab_ok mixed Tryz.func48 (show Tryz.f48.body = some z48_c1 by kernel_rfl) Tryz.call48 Tryz.ntmps48 (by kernel_rfl) (okCode_of _ (show okB z48_pi z48_c1 = true by kernel_rfl)) (fr_eq _ _) (fj (n := 6) rfl (fun l hl (h : space_Space_Greatest_1 (gd l 0) R H) => sr rfl hl (z48_g5_e _ (gd l) _) h fun l H hl h => sr rfl hl (z48_g6_e _ (gd l) _) h fun l H hl h => rt rfl h) h))
/- 49: (*sounder/space.Space).none -/
def z49_rs : List ResultVar := [.tmp 2]
noncomputable def z49_c2 := sc Tryz.f49 [0]
noncomputable def z49_c4 := sc Tryz.f49 [1,0]
noncomputable def z49_c3 : Code := .seq z49_c4 Code.ret
noncomputable def z49_c1 : Code := .seq z49_c2 z49_c3
def z49_pi (_ : Nat) : Pl := .nil
noncomputable def z49_g5 (S : J1) (x0 : Value) (H : Heap) : Prop :=
  S x0 H
theorem z49_g5_e (S : J1) (x H) : WE z49_pi z49_c2 12 (fun l => S (gd l 0)) x H = z49_g5 S (x 0) H := by kernel_rfl
noncomputable def z49_g6 (S : J1) (x0 : Value) (H : Heap) : Prop :=
  bnd (binV .ptr .eql x0 (.pointer none)) fun v4 =>
  brV v4
  (S (.bool true) H)
  (bnd (nilV x0) fun v7 =>
  bnd (faV 0 v7) fun v8 =>
  bnd (ldE false 1 v8 H) fun v9 =>
  bnd (binV .ptr .eql v9 (.pointer none)) fun v10 =>
  S v10 H)
theorem z49_g6_e (S : J1) (x H) : WE z49_pi z49_c4 12 (fun l => S (gd l 2)) x H = z49_g6 S (x 0) H := by kernel_rfl
def space_Space_none (x0 : Value) (R : Value → Heap → Prop) (H : Heap) : Prop :=
  z49_g5 (fun x0 H => z49_g6 (fun x2 H => R x2 H) x0 H) x0 H
theorem z49_ev (x0 : Value) (R : J1) (H : Heap) (h : space_Space_none x0 R H) : EvF P N.space_Space_none #[x0] H R := .inl (EvF_intro (args := [x0]) (k := 11) (rs := z49_rs) tab_ok mixed Tryz.func49 (show Tryz.f49.body = some z49_c1 by kernel_rfl) Tryz.call49 Tryz.ntmps49 (by kernel_rfl) (okCode_of _ (show okB z49_pi z49_c1 = true by kernel_rfl)) (fr_eq _ _) (fj (n := 12) rfl (fun l hl (h : space_Space_none (gd l 0) R H) => sr rfl hl (z49_g5_e _ (gd l) _) h fun l H hl h => sr rfl hl (z49_g6_e _ (gd l) _) h fun l H hl h => rt rfl h) h))
/- 50: (*sounder/sent.Log).All -/
def z50_rs : List ResultVar := [.tmp 2]
noncomputable def z50_c2 := sc Tryz.f50 [0]
noncomputable def z50_c4 := sc Tryz.f50 [1,0]
noncomputable def z50_c3 : Code := .seq z50_c4 Code.ret
noncomputable def z50_c1 : Code := .seq z50_c2 z50_c3
def z50_pi (_ : Nat) : Pl := .nil
noncomputable def z50_g5 (S : J1) (x0 : Value) (H : Heap) : Prop :=
  S x0 H
theorem z50_g5_e (S : J1) (x H) : WE z50_pi z50_c2 5 (fun l => S (gd l 0)) x H = z50_g5 S (x 0) H := by kernel_rfl
noncomputable def z50_g6 (S : J1) (x0 : Value) (H : Heap) : Prop :=
  EvF P N.sent_Log_Between #[x0, (.int .i64 0), (.int .i64 9007199254740991)] H fun v4 H1 =>
  S v4 H1
theorem z50_g6_e (S : J1) (x H) : WE z50_pi z50_c4 5 (fun l => S (gd l 2)) x H = z50_g6 S (x 0) H := by kernel_rfl
def sent_Log_All (x0 : Value) (R : Value → Heap → Prop) (H : Heap) : Prop :=
  z50_g5 (fun x0 H => z50_g6 (fun x2 H => R x2 H) x0 H) x0 H
theorem z50_ev (x0 : Value) (R : J1) (H : Heap) (h : sent_Log_All x0 R H) : EvF P N.sent_Log_All #[x0] H R := .inl (EvF_intro (args := [x0]) (k := 4) (rs := z50_rs) tab_ok mixed Tryz.func50 (show Tryz.f50.body = some z50_c1 by kernel_rfl) Tryz.call50 Tryz.ntmps50 (by kernel_rfl) (okCode_of _ (show okB z50_pi z50_c1 = true by kernel_rfl)) (fr_eq _ _) (fj (n := 5) rfl (fun l hl (h : sent_Log_All (gd l 0) R H) => sr rfl hl (z50_g5_e _ (gd l) _) h fun l H hl h => sr rfl hl (z50_g6_e _ (gd l) _) h fun l H hl h => rt rfl h) h))
/- 51: (*sounder/space.Space).Loss$1 -/
def z51_rs : List ResultVar := [.tmp 1]
noncomputable def z51_c2 := sc Tryz.f51 [0]
noncomputable def z51_c4 := sc Tryz.f51 [1,0]
noncomputable def z51_c3 : Code := .seq z51_c4 Code.ret
noncomputable def z51_c1 : Code := .seq z51_c2 z51_c3
def z51_pi (_ : Nat) : Pl := .nil
noncomputable def z51_g5 (S : J1) (x0 : Value) (H : Heap) : Prop :=
  S x0 H
theorem z51_g5_e (S : J1) (x H) : WE z51_pi z51_c2 6 (fun l => S (gd l 0)) x H = z51_g5 S (x 0) H := by kernel_rfl
noncomputable def z51_g6 (S : J1) (x0 : Value) (H : Heap) : Prop :=
  bnd (ldE false 1 x0 H) fun v2 =>
  bnd (nilV v2) fun v3 =>
  bnd (faV 4 v3) fun v4 =>
  bnd (ldE false 1 v4 H) fun v5 =>
  S v5 H
theorem z51_g6_e (S : J1) (x H) : WE z51_pi z51_c4 6 (fun l => S (gd l 1)) x H = z51_g6 S (x 0) H := by kernel_rfl
def space_Space_Loss_1 (x0 : Value) (R : Value → Heap → Prop) (H : Heap) : Prop :=
  z51_g5 (fun x0 H => z51_g6 (fun x1 H => R x1 H) x0 H) x0 H
theorem z51_ev (x0 : Value) (R : J1) (H : Heap) (h : space_Space_Loss_1 x0 R H) : EvF P N.space_Space_Loss_1 #[x0] H R := .inl (EvF_intro (args := [x0]) (k := 5) (rs := z51_rs) tab_ok mixed Tryz.func51 (show Tryz.f51.body = some z51_c1 by kernel_rfl) Tryz.call51 Tryz.ntmps51 (by kernel_rfl) (okCode_of _ (show okB z51_pi z51_c1 = true by kernel_rfl)) (fr_eq _ _) (fj (n := 6) rfl (fun l hl (h : space_Space_Loss_1 (gd l 0) R H) => sr rfl hl (z51_g5_e _ (gd l) _) h fun l H hl h => sr rfl hl (z51_g6_e _ (gd l) _) h fun l H hl h => rt rfl h) h))
end Go.Hc
