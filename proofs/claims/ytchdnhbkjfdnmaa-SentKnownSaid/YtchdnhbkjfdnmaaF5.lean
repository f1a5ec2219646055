/- Functions, printed by gen.py. -/
import Derived.Test.YtchdnhbkjfdnmaaT
set_option linter.unusedSimpArgs false
set_option linter.unusedVariables false
set_option maxRecDepth 100000
namespace Go.Hc
open Go Go.Proofs
/- 30: sounder/sounderlaw06.same -/
def sounderlaw06_same_rs : List ResultVar := [.tmp 6]
noncomputable def sounderlaw06_same_c2 : Code := subC (bodyC Try.f30) [0]
noncomputable def sounderlaw06_same_c4 : Code := subC (bodyC Try.f30) [1, 0]
noncomputable def sounderlaw06_same_c6 : Code := subC (bodyC Try.f30) [1, 1, 0]
noncomputable def sounderlaw06_same_c8 : Code := subC (bodyC Try.f30) [1, 1, 1, 0]
noncomputable def sounderlaw06_same_c10 : Code := subC (bodyC Try.f30) [1, 1, 1, 1, 0]
noncomputable def sounderlaw06_same_c12 : Code := subC (bodyC Try.f30) [1, 1, 1, 1, 1, 0]
noncomputable def sounderlaw06_same_c11 : Code := .seq sounderlaw06_same_c12 Code.ret
noncomputable def sounderlaw06_same_c9 : Code := .seq sounderlaw06_same_c10 sounderlaw06_same_c11
noncomputable def sounderlaw06_same_c7 : Code := .seq sounderlaw06_same_c8 sounderlaw06_same_c9
noncomputable def sounderlaw06_same_c5 : Code := .seq sounderlaw06_same_c6 sounderlaw06_same_c7
noncomputable def sounderlaw06_same_c3 : Code := .seq sounderlaw06_same_c4 sounderlaw06_same_c5
noncomputable def sounderlaw06_same_c1 : Code := .seq sounderlaw06_same_c2 sounderlaw06_same_c3
def sounderlaw06_same_pi (i : Nat) : Pl := match i with
  | 5 => (ones [0, 1, 2, 3, 4, 5, 6, 7, 8, 9, 10, 11, 12, 13, 14, 15, 16, 17, 18, 19, 21, 22, 23, 24, 20, 25, 26, 27, 28, 30, 31, 32, 33, 34, 29, 35, 36, 37, 38, 40, 39, 41, 42, 43, 44, 45, 47, 46, 48, 49, 50, 51, 52, 54, 55, 56, 57, 53, 58, 59, 60] .nil)
  | _ => .nil
def sounderlaw06_same_g13 (S : Value → Value → Value → Heap → Prop) (x0 x1 x2 : Value) (H : Heap) : Prop :=
  S x0 x1 x2 H
theorem sounderlaw06_same_g13_e (S : Value → Value → Value → Heap → Prop) (x : Nat → Value) (H : Heap) : wpE tab P sounderlaw06_same_pi sounderlaw06_same_c2 (nQ fun l H => S (l.getD 0 undef) (l.getD 1 undef) (l.getD 2 undef) H) ((List.range 97).map x) H = sounderlaw06_same_g13 S (x 0) (x 1) (x 2) H := by kernel_rfl
def sounderlaw06_same_g14 (S : Value → Value → Value → Value → Value → Heap → Prop) (x0 x1 x2 : Value) (H : Heap) : Prop :=
  EvF P N.sent_Log_Get #[x0, x2] H fun v18 H1 =>
  bnd (exV 0 v18) fun v19 =>
  bnd (exV 1 v18) fun v20 =>
  newE 30 #[(.int .i64 0), (.int .i64 0), (.int .i64 0), (.bool false), (.bool false), (.bool false)] H1 fun v7 H2 =>
  bnd (stE 6 v7 v19 H2) fun H3 =>
  S x0 x1 x2 v7 v20 H3
theorem sounderlaw06_same_g14_e (S : Value → Value → Value → Value → Value → Heap → Prop) (x : Nat → Value) (H : Heap) : wpE tab P sounderlaw06_same_pi sounderlaw06_same_c4 (nQ fun l H => S (l.getD 0 undef) (l.getD 1 undef) (l.getD 2 undef) (l.getD 7 undef) (l.getD 8 undef) H) ((List.range 97).map x) H = sounderlaw06_same_g14 S (x 0) (x 1) (x 2) H := by kernel_rfl
def sounderlaw06_same_g15 (S : Value → Value → Value → Value → Value → Value → Heap → Prop) (x0 x1 x2 x7 x8 : Value) (H : Heap) : Prop :=
  EvF P N.sounderref06_Log_Get #[x1, x2] H fun v24 H1 =>
  bnd (exV 0 v24) fun v25 =>
  bnd (exV 1 v24) fun v26 =>
  newE 30 #[(.int .i64 0), (.int .i64 0), (.int .i64 0), (.bool false), (.bool false), (.bool false)] H1 fun v9 H2 =>
  bnd (stE 6 v9 v25 H2) fun H3 =>
  S x0 x1 x7 x8 v9 v26 H3
theorem sounderlaw06_same_g15_e (S : Value → Value → Value → Value → Value → Value → Heap → Prop) (x : Nat → Value) (H : Heap) : wpE tab P sounderlaw06_same_pi sounderlaw06_same_c6 (nQ fun l H => S (l.getD 0 undef) (l.getD 1 undef) (l.getD 7 undef) (l.getD 8 undef) (l.getD 9 undef) (l.getD 10 undef) H) ((List.range 97).map x) H = sounderlaw06_same_g15 S (x 0) (x 1) (x 2) (x 7) (x 8) H := by kernel_rfl
def sounderlaw06_same_g16 (S : Value → Value → Value → Value → Value → Value → Value → Value → Heap → Prop) (x0 x1 x7 x8 x9 x10 : Value) (H : Heap) : Prop :=
  EvF P N.sent_Log_Oldest #[x0] H fun v29 H1 =>
  bnd (exV 0 v29) fun v30 =>
  bnd (exV 1 v29) fun v31 =>
  newE 30 #[(.int .i64 0), (.int .i64 0), (.int .i64 0), (.bool false), (.bool false), (.bool false)] H1 fun v11 H2 =>
  bnd (stE 6 v11 v30 H2) fun H3 =>
  S x0 x1 x7 x8 x9 x10 v11 v31 H3
theorem sounderlaw06_same_g16_e (S : Value → Value → Value → Value → Value → Value → Value → Value → Heap → Prop) (x : Nat → Value) (H : Heap) : wpE tab P sounderlaw06_same_pi sounderlaw06_same_c8 (nQ fun l H => S (l.getD 0 undef) (l.getD 1 undef) (l.getD 7 undef) (l.getD 8 undef) (l.getD 9 undef) (l.getD 10 undef) (l.getD 11 undef) (l.getD 12 undef) H) ((List.range 97).map x) H = sounderlaw06_same_g16 S (x 0) (x 1) (x 7) (x 8) (x 9) (x 10) H := by kernel_rfl
def sounderlaw06_same_g17 (S : Value → Value → Value → Value → Value → Value → Value → Value → Value → Value → Heap → Prop) (x0 x1 x7 x8 x9 x10 x11 x12 : Value) (H : Heap) : Prop :=
  EvF P N.sounderref06_Log_Oldest #[x1] H fun v34 H1 =>
  bnd (exV 0 v34) fun v35 =>
  bnd (exV 1 v34) fun v36 =>
  newE 30 #[(.int .i64 0), (.int .i64 0), (.int .i64 0), (.bool false), (.bool false), (.bool false)] H1 fun v13 H2 =>
  bnd (stE 6 v13 v35 H2) fun H3 =>
  S x0 x1 x7 x8 x9 x10 x11 x12 v13 v36 H3
theorem sounderlaw06_same_g17_e (S : Value → Value → Value → Value → Value → Value → Value → Value → Value → Value → Heap → Prop) (x : Nat → Value) (H : Heap) : wpE tab P sounderlaw06_same_pi sounderlaw06_same_c10 (nQ fun l H => S (l.getD 0 undef) (l.getD 1 undef) (l.getD 7 undef) (l.getD 8 undef) (l.getD 9 undef) (l.getD 10 undef) (l.getD 11 undef) (l.getD 12 undef) (l.getD 13 undef) (l.getD 14 undef) H) ((List.range 97).map x) H = sounderlaw06_same_g17 S (x 0) (x 1) (x 7) (x 8) (x 9) (x 10) (x 11) (x 12) H := by kernel_rfl
def sounderlaw06_same_g18 (S : Value → Heap → Prop) (x0 x1 x7 x8 x9 x10 x11 x12 x13 x14 : Value) (H : Heap) : Prop :=
  bnd (ldE true 6 x7 H) fun v37 =>
  bnd (ldE true 6 x9 H) fun v38 =>
  bnd (binV (.agg [true, true, true, false, false, false]) .eql v37 v38) fun v39 =>
  brV v39
  (bnd (binV .bool .eql x8 x10) fun v43 =>
  brV v43
  (bnd (ldE true 6 x11 H) fun v46 =>
  bnd (ldE true 6 x13 H) fun v47 =>
  bnd (binV (.agg [true, true, true, false, false, false]) .eql v46 v47) fun v48 =>
  brV v48
  (bnd (binV .bool .eql x12 x14) fun v53 =>
  brV v53
  (bnd (nilV x1) fun v59 =>
  bnd (faV 1 v59) fun v60 =>
  bnd (ldE false 1 v60 H) fun v61 =>
  EvF P N.sent_Log_Last #[x0] H fun v57 H1 =>
  ((bnd (ldE false 1 v60 H1) fun v' => v' = v61) ∧
  ((bnd (ldE true 6 x13 H1) fun v' => v' = v47) ∧
  ((bnd (ldE true 6 x11 H1) fun v' => v' = v46) ∧
  ((bnd (ldE true 6 x9 H1) fun v' => v' = v38) ∧
  ((bnd (ldE true 6 x7 H1) fun v' => v' = v37) ∧
  bnd (binV .int .eql v57 v61) fun v62 =>
  brV v62
  (bnd (nilV x1) fun v68 =>
  bnd (faV 2 v68) fun v69 =>
  bnd (ldE false 1 v69 H1) fun v70 =>
  bnd (lenV v70) fun v71 =>
  EvF P N.sent_Log_Len #[x0] H1 fun v66 H2 =>
  ((bnd (ldE false 1 v69 H2) fun v' => v' = v70) ∧
  ((bnd (ldE false 1 v60 H2) fun v' => v' = v61) ∧
  ((bnd (ldE true 6 x13 H2) fun v' => v' = v47) ∧
  ((bnd (ldE true 6 x11 H2) fun v' => v' = v46) ∧
  ((bnd (ldE true 6 x9 H2) fun v' => v' = v38) ∧
  ((bnd (ldE true 6 x7 H2) fun v' => v' = v37) ∧
  bnd (binV .int .eql v66 v71) fun v72 =>
  brV v72
  (EvF P N.sent_Log_Flight #[x0] H2 fun v76 H3 =>
  ((bnd (ldE false 1 v69 H3) fun v' => v' = v70) ∧
  ((bnd (ldE false 1 v60 H3) fun v' => v' = v61) ∧
  ((bnd (ldE true 6 x13 H3) fun v' => v' = v47) ∧
  ((bnd (ldE true 6 x11 H3) fun v' => v' = v46) ∧
  ((bnd (ldE true 6 x9 H3) fun v' => v' = v38) ∧
  ((bnd (ldE true 6 x7 H3) fun v' => v' = v37) ∧
  EvF P N.sounderref06_Log_Flight #[x1] H3 fun v78 H4 =>
  ((bnd (ldE false 1 v69 H4) fun v' => v' = v70) ∧
  ((bnd (ldE false 1 v60 H4) fun v' => v' = v61) ∧
  ((bnd (ldE true 6 x13 H4) fun v' => v' = v47) ∧
  ((bnd (ldE true 6 x11 H4) fun v' => v' = v46) ∧
  ((bnd (ldE true 6 x9 H4) fun v' => v' = v38) ∧
  ((bnd (ldE true 6 x7 H4) fun v' => v' = v37) ∧
  bnd (binV .int .eql v76 v78) fun v79 =>
  brV v79
  (EvF P N.sent_Log_Eliciting #[x0] H4 fun v83 H5 =>
  ((bnd (ldE false 1 v69 H5) fun v' => v' = v70) ∧
  ((bnd (ldE false 1 v60 H5) fun v' => v' = v61) ∧
  ((bnd (ldE true 6 x13 H5) fun v' => v' = v47) ∧
  ((bnd (ldE true 6 x11 H5) fun v' => v' = v46) ∧
  ((bnd (ldE true 6 x9 H5) fun v' => v' = v38) ∧
  ((bnd (ldE true 6 x7 H5) fun v' => v' = v37) ∧
  EvF P N.sounderref06_Log_Eliciting #[x1] H5 fun v85 H6 =>
  ((bnd (ldE false 1 v69 H6) fun v' => v' = v70) ∧
  ((bnd (ldE false 1 v60 H6) fun v' => v' = v61) ∧
  ((bnd (ldE true 6 x13 H6) fun v' => v' = v47) ∧
  ((bnd (ldE true 6 x11 H6) fun v' => v' = v46) ∧
  ((bnd (ldE true 6 x9 H6) fun v' => v' = v38) ∧
  ((bnd (ldE true 6 x7 H6) fun v' => v' = v37) ∧
  bnd (binV .int .eql v83 v85) fun v86 =>
  brV v86
  (bnd (nilV x1) fun v92 =>
  bnd (faV 2 v92) fun v93 =>
  bnd (ldE false 1 v93 H6) fun v94 =>
  EvF P N.sent_Log_All #[x0] H6 fun v90 H7 =>
  ((bnd (ldE false 1 v93 H7) fun v' => v' = v94) ∧
  ((bnd (ldE false 1 v69 H7) fun v' => v' = v70) ∧
  ((bnd (ldE false 1 v60 H7) fun v' => v' = v61) ∧
  ((bnd (ldE true 6 x13 H7) fun v' => v' = v47) ∧
  ((bnd (ldE true 6 x11 H7) fun v' => v' = v46) ∧
  ((bnd (ldE true 6 x9 H7) fun v' => v' = v38) ∧
  ((bnd (ldE true 6 x7 H7) fun v' => v' = v37) ∧
  EvF P N.sounderlaw06_equal #[v90, v94] H7 fun v95 H8 =>
  ((bnd (ldE false 1 v69 H8) fun v' => v' = v70) ∧
  ((bnd (ldE false 1 v60 H8) fun v' => v' = v61) ∧
  ((bnd (ldE true 6 x13 H8) fun v' => v' = v47) ∧
  ((bnd (ldE true 6 x11 H8) fun v' => v' = v46) ∧
  ((bnd (ldE true 6 x9 H8) fun v' => v' = v38) ∧
  ((bnd (ldE true 6 x7 H8) fun v' => v' = v37) ∧
  S v95 H8))))))))))))))
  (S (.bool false) H6))))))))))))))
  (S (.bool false) H4))))))))))))))
  (S (.bool false) H2))))))))
  (S (.bool false) H1)))))))
  (S (.bool false) H))
  (S (.bool false) H))
  (S (.bool false) H))
  (S (.bool false) H)
theorem sounderlaw06_same_g18_e (S : Value → Heap → Prop) (x : Nat → Value) (H : Heap) : wpE tab P sounderlaw06_same_pi sounderlaw06_same_c12 (nQ fun l H => S (l.getD 6 undef) H) ((List.range 97).map x) H = sounderlaw06_same_g18 S (x 0) (x 1) (x 7) (x 8) (x 9) (x 10) (x 11) (x 12) (x 13) (x 14) H := by kernel_rfl
def sounderlaw06_same (x0 x1 x2 : Value) (R : Value → Heap → Prop) (H : Heap) : Prop :=
  sounderlaw06_same_g13 (fun x0 x1 x2 H => sounderlaw06_same_g14 (fun x0 x1 x2 x7 x8 H => sounderlaw06_same_g15 (fun x0 x1 x7 x8 x9 x10 H => sounderlaw06_same_g16 (fun x0 x1 x7 x8 x9 x10 x11 x12 H => sounderlaw06_same_g17 (fun x0 x1 x7 x8 x9 x10 x11 x12 x13 x14 H => sounderlaw06_same_g18 (fun x6 H => R x6 H) x0 x1 x7 x8 x9 x10 x11 x12 x13 x14 H) x0 x1 x7 x8 x9 x10 x11 x12 H) x0 x1 x7 x8 x9 x10 H) x0 x1 x2 x7 x8 H) x0 x1 x2 H) x0 x1 x2 H
theorem sounderlaw06_same_i (R : Value → Heap → Prop) (x0 x1 x2 : Value) (H : Heap) (h : sounderlaw06_same x0 x1 x2 R H) : wpE tab P sounderlaw06_same_pi sounderlaw06_same_c1 (retQ tab sounderlaw06_same_rs R) [x0, x1, x2, undef, undef, undef, undef, undef, undef, undef, undef, undef, undef, undef, undef, undef, undef, undef, undef, undef, undef, undef, undef, undef, undef, undef, undef, undef, undef, undef, undef, undef, undef, undef, undef, undef, undef, undef, undef, undef, undef, undef, undef, undef, undef, undef, undef, undef, undef, undef, undef, undef, undef, undef, undef, undef, undef, undef, undef, undef, undef, undef, undef, undef, undef, undef, undef, undef, undef, undef, undef, undef, undef, undef, undef, undef, undef, undef, undef, undef, undef, undef, undef, undef, undef, undef, undef, undef, undef, undef, undef, undef, undef, undef, undef, undef, undef] H := by
  obtain ⟨l, hl, el⟩ : ∃ l : List Value, l.length = 97 ∧ l = [x0, x1, x2, undef, undef, undef, undef, undef, undef, undef, undef, undef, undef, undef, undef, undef, undef, undef, undef, undef, undef, undef, undef, undef, undef, undef, undef, undef, undef, undef, undef, undef, undef, undef, undef, undef, undef, undef, undef, undef, undef, undef, undef, undef, undef, undef, undef, undef, undef, undef, undef, undef, undef, undef, undef, undef, undef, undef, undef, undef, undef, undef, undef, undef, undef, undef, undef, undef, undef, undef, undef, undef, undef, undef, undef, undef, undef, undef, undef, undef, undef, undef, undef, undef, undef, undef, undef, undef, undef, undef, undef, undef, undef, undef, undef, undef, undef] := ⟨_, rfl, rfl⟩
  rw [← el]
  have h : (fun (x0 x1 x2 : Value) => sounderlaw06_same_g13 (fun x0 x1 x2 H => sounderlaw06_same_g14 (fun x0 x1 x2 x7 x8 H => sounderlaw06_same_g15 (fun x0 x1 x7 x8 x9 x10 H => sounderlaw06_same_g16 (fun x0 x1 x7 x8 x9 x10 x11 x12 H => sounderlaw06_same_g17 (fun x0 x1 x7 x8 x9 x10 x11 x12 x13 x14 H => sounderlaw06_same_g18 (fun x6 H => R x6 H) x0 x1 x7 x8 x9 x10 x11 x12 x13 x14 H) x0 x1 x7 x8 x9 x10 x11 x12 H) x0 x1 x7 x8 x9 x10 H) x0 x1 x2 x7 x8 H) x0 x1 x2 H) x0 x1 x2 H) (l.getD 0 undef) (l.getD 1 undef) (l.getD 2 undef) := by rw [el]; exact h
  clear el
  refine seqI (c := sounderlaw06_same_c1) rfl ?_
  refine regI hl (Eq.mpr (sounderlaw06_same_g13_e _ (fun i => l.getD i undef) _) h) ?_
  clear h hl
  intro l H hl h
  refine thenN ?_
  refine seqI (c := sounderlaw06_same_c3) rfl ?_
  refine regI hl (Eq.mpr (sounderlaw06_same_g14_e _ (fun i => l.getD i undef) _) h) ?_
  clear h hl
  intro l H hl h
  refine thenN ?_
  refine seqI (c := sounderlaw06_same_c5) rfl ?_
  refine regI hl (Eq.mpr (sounderlaw06_same_g15_e _ (fun i => l.getD i undef) _) h) ?_
  clear h hl
  intro l H hl h
  refine thenN ?_
  refine seqI (c := sounderlaw06_same_c7) rfl ?_
  refine regI hl (Eq.mpr (sounderlaw06_same_g16_e _ (fun i => l.getD i undef) _) h) ?_
  clear h hl
  intro l H hl h
  refine thenN ?_
  refine seqI (c := sounderlaw06_same_c9) rfl ?_
  refine regI hl (Eq.mpr (sounderlaw06_same_g17_e _ (fun i => l.getD i undef) _) h) ?_
  clear h hl
  intro l H hl h
  refine thenN ?_
  refine seqI (c := sounderlaw06_same_c11) rfl ?_
  refine regI hl (Eq.mpr (sounderlaw06_same_g18_e _ (fun i => l.getD i undef) _) h) ?_
  clear h hl
  intro l H hl h
  refine thenN ?_
  refine retI rfl ?_
  exact h
theorem sounderlaw06_same_ok : okB sounderlaw06_same_pi sounderlaw06_same_c1 = true := by kernel_rfl
theorem sounderlaw06_same_ev (x0 x1 x2 : Value) (R : Value → Heap → Prop) (H : Heap) (h : sounderlaw06_same x0 x1 x2 R H) : EvF P N.sounderlaw06_same #[x0, x1, x2] H R :=
  EvF_intro (args := [x0, x1, x2]) (k := 94) (rs := sounderlaw06_same_rs) tab_ok mixed Try.func30 (show Try.f30.body = some sounderlaw06_same_c1 by kernel_rfl) Try.call30 Try.ntmps30 (by kernel_rfl) (okCode_of _ sounderlaw06_same_ok) rfl (sounderlaw06_same_i R x0 x1 x2 H h)
/- 31: (*sounder/sounderref06.Log).Between -/
def sounderref06_Log_Between_rs : List ResultVar := [.tmp 6]
noncomputable def sounderref06_Log_Between_c2 : Code := subC (bodyC Try.f31) [0]
noncomputable def sounderref06_Log_Between_c4 : Code := subC (bodyC Try.f31) [1, 0]
noncomputable def sounderref06_Log_Between_c7 : Code := subC (bodyC Try.f31) [1, 1, 0, 0]
noncomputable def sounderref06_Log_Between_c12 : Code := subC (bodyC Try.f31) [1, 1, 0, 1, 0, 0, 0, 0]
noncomputable def sounderref06_Log_Between_c14 : Code := .exit 0
noncomputable def sounderref06_Log_Between_c13 : Code := .cond (.tmp 15) Code.skip sounderref06_Log_Between_c14
noncomputable def sounderref06_Log_Between_c11 : Code := .seq sounderref06_Log_Between_c12 sounderref06_Log_Between_c13
noncomputable def sounderref06_Log_Between_c18 : Code := subC (bodyC Try.f31) [1, 1, 0, 1, 0, 0, 1, 0, 0, 0]
noncomputable def sounderref06_Log_Between_c20 : Code := subC (bodyC Try.f31) [1, 1, 0, 1, 0, 0, 1, 0, 0, 1, 0]
noncomputable def sounderref06_Log_Between_c19 : Code := .cond (.tmp 39) sounderref06_Log_Between_c20 Code.skip
noncomputable def sounderref06_Log_Between_c17 : Code := .seq sounderref06_Log_Between_c18 sounderref06_Log_Between_c19
noncomputable def sounderref06_Log_Between_c16 : Code := .block 1 sounderref06_Log_Between_c17
noncomputable def sounderref06_Log_Between_c21 : Code := subC (bodyC Try.f31) [1, 1, 0, 1, 0, 0, 1, 1]
noncomputable def sounderref06_Log_Between_c15 : Code := .seq sounderref06_Log_Between_c16 sounderref06_Log_Between_c21
noncomputable def sounderref06_Log_Between_c10 : Code := .seq sounderref06_Log_Between_c11 sounderref06_Log_Between_c15
noncomputable def sounderref06_Log_Between_c9 : Code := .loop sounderref06_Log_Between_c10
noncomputable def sounderref06_Log_Between_c8 : Code := .block 0 sounderref06_Log_Between_c9
noncomputable def sounderref06_Log_Between_c6 : Code := .seq sounderref06_Log_Between_c7 sounderref06_Log_Between_c8
noncomputable def sounderref06_Log_Between_c23 : Code := subC (bodyC Try.f31) [1, 1, 1, 0]
noncomputable def sounderref06_Log_Between_c22 : Code := .seq sounderref06_Log_Between_c23 Code.ret
noncomputable def sounderref06_Log_Between_c5 : Code := .seq sounderref06_Log_Between_c6 sounderref06_Log_Between_c22
noncomputable def sounderref06_Log_Between_c3 : Code := .seq sounderref06_Log_Between_c4 sounderref06_Log_Between_c5
noncomputable def sounderref06_Log_Between_c1 : Code := .seq sounderref06_Log_Between_c2 sounderref06_Log_Between_c3
def sounderref06_Log_Between_pi (_ : Nat) : Pl := .nil
def sounderref06_Log_Between_g24 (S : Value → Value → Value → Heap → Prop) (x0 x1 x2 : Value) (H : Heap) : Prop :=
  S x0 x1 x2 H
theorem sounderref06_Log_Between_g24_e (S : Value → Value → Value → Heap → Prop) (x : Nat → Value) (H : Heap) : wpE tab P sounderref06_Log_Between_pi sounderref06_Log_Between_c2 (nQ fun l H => S (l.getD 0 undef) (l.getD 1 undef) (l.getD 2 undef) H) ((List.range 51).map x) H = sounderref06_Log_Between_g24 S (x 0) (x 1) (x 2) H := by kernel_rfl
def sounderref06_Log_Between_g25 (S : Value → Value → Value → Value → Heap → Prop) (x0 x1 x2 : Value) (H : Heap) : Prop :=
  S x0 x1 x2 (.slice none 0 0) H
theorem sounderref06_Log_Between_g25_e (S : Value → Value → Value → Value → Heap → Prop) (x : Nat → Value) (H : Heap) : wpE tab P sounderref06_Log_Between_pi sounderref06_Log_Between_c4 (nQ fun l H => S (l.getD 0 undef) (l.getD 1 undef) (l.getD 2 undef) (l.getD 7 undef) H) ((List.range 51).map x) H = sounderref06_Log_Between_g25 S (x 0) (x 1) (x 2) H := by kernel_rfl
def sounderref06_Log_Between_g26 (S : Value → Value → Value → Value → Value → Heap → Prop) (x0 x1 x2 x7 : Value) (H : Heap) : Prop :=
  S x0 x1 x2 x7 (.int .i64 0) H
theorem sounderref06_Log_Between_g26_e (S : Value → Value → Value → Value → Value → Heap → Prop) (x : Nat → Value) (H : Heap) : wpE tab P sounderref06_Log_Between_pi sounderref06_Log_Between_c7 (nQ fun l H => S (l.getD 0 undef) (l.getD 1 undef) (l.getD 2 undef) (l.getD 7 undef) (l.getD 8 undef) H) ((List.range 51).map x) H = sounderref06_Log_Between_g26 S (x 0) (x 1) (x 2) (x 7) H := by kernel_rfl
def sounderref06_Log_Between_g28 (S : Value → Value → Value → Value → Value → Value → Heap → Prop) (x0 x1 x2 x7 x8 : Value) (H : Heap) : Prop :=
  bnd (nilV x0) fun v11 =>
  bnd (faV 2 v11) fun v12 =>
  bnd (ldE false 1 v12 H) fun v13 =>
  bnd (lenV v13) fun v14 =>
  bnd (binV .int .lss x8 v14) fun v15 =>
  S x0 x1 x2 x7 x8 v15 H
theorem sounderref06_Log_Between_g28_e (S : Value → Value → Value → Value → Value → Value → Heap → Prop) (x : Nat → Value) (H : Heap) : wpE tab P sounderref06_Log_Between_pi sounderref06_Log_Between_c12 (nQ fun l H => S (l.getD 0 undef) (l.getD 1 undef) (l.getD 2 undef) (l.getD 7 undef) (l.getD 8 undef) (l.getD 15 undef) H) ((List.range 51).map x) H = sounderref06_Log_Between_g28 S (x 0) (x 1) (x 2) (x 7) (x 8) H := by kernel_rfl
def sounderref06_Log_Between_g30 (S : Value → Value → Value → Value → Value → Heap → Prop) (x0 x1 x2 x7 x8 : Value) (H : Heap) : Prop :=
  bnd (binV .int .add x8 (.int .i64 1)) fun v17 =>
  S x0 x1 x2 x7 v17 H
theorem sounderref06_Log_Between_g30_e (S : Value → Value → Value → Value → Value → Heap → Prop) (x : Nat → Value) (H : Heap) : wpE tab P sounderref06_Log_Between_pi sounderref06_Log_Between_c21 (nQ fun l H => S (l.getD 0 undef) (l.getD 1 undef) (l.getD 2 undef) (l.getD 7 undef) (l.getD 8 undef) H) ((List.range 51).map x) H = sounderref06_Log_Between_g30 S (x 0) (x 1) (x 2) (x 7) (x 8) H := by kernel_rfl
def sounderref06_Log_Between_s29 (x0 x1 x2 x7 x8 : Value) (K1 : Value → Value → Value → Value → Value →  Heap → Prop) (_R : Value → Heap → Prop) (H : Heap) : Prop :=
  sounderref06_Log_Between_g30 (fun x0 x1 x2 x7 x8 H => K1 x0 x1 x2 x7 x8 H) x0 x1 x2 x7 x8 H
noncomputable def sounderref06_Log_Between_q31 (R : Value → Heap → Prop) : Exit → List Value → Heap → Prop := (retQ tab sounderref06_Log_Between_rs R)
noncomputable def sounderref06_Log_Between_q32 (R : Value → Heap → Prop) : Exit → List Value → Heap → Prop := (thenE (fun l H => wpE tab P sounderref06_Log_Between_pi sounderref06_Log_Between_c22 (sounderref06_Log_Between_q31 R) l H) (sounderref06_Log_Between_q31 R))
noncomputable def sounderref06_Log_Between_q33 (R : Value → Heap → Prop) : Exit → List Value → Heap → Prop := (blkE 0 (sounderref06_Log_Between_q32 R))
noncomputable def sounderref06_Log_Between_q34 (K1 : Value → Value → Value → Value → Value →  Heap → Prop) (R : Value → Heap → Prop) : Exit → List Value → Heap → Prop := (thenE (fun l H => K1 (l.getD 0 undef) (l.getD 1 undef) (l.getD 2 undef) (l.getD 7 undef) (l.getD 8 undef) H) (sounderref06_Log_Between_q33 R))
theorem sounderref06_Log_Between_s29_i (K1 : Value → Value → Value → Value → Value →  Heap → Prop) (R : Value → Heap → Prop) (l : List Value) (H : Heap) (hl : l.length = 51) (h : sounderref06_Log_Between_s29 (l.getD 0 undef) (l.getD 1 undef) (l.getD 2 undef) (l.getD 7 undef) (l.getD 8 undef) K1 R H) : wpE tab P sounderref06_Log_Between_pi sounderref06_Log_Between_c21 (sounderref06_Log_Between_q34 K1 R) l H := by
  refine regI hl (Eq.mpr (sounderref06_Log_Between_g30_e _ (fun i => l.getD i undef) _) h) ?_
  clear h hl
  intro l H hl h
  refine thenN ?_
  exact h
def sounderref06_Log_Between_g35 (S : Value → Value → Value → Value → Value → Value → Heap → Prop) (x0 x1 x2 x7 x8 : Value) (H : Heap) : Prop :=
  bnd (nilV x0) fun v19 =>
  bnd (faV 2 v19) fun v20 =>
  bnd (ldE false 1 v20 H) fun v21 =>
  bnd (ixSV 6 v21 x8) fun v23 =>
  bnd (faV 0 v23) fun v24 =>
  bnd (ldE false 1 v24 H) fun v25 =>
  bnd (binV .int .geq v25 x1) fun v27 =>
  brV v27
  (bnd (nilV x0) fun v30 =>
  bnd (faV 2 v30) fun v31 =>
  bnd (ldE false 1 v31 H) fun v32 =>
  bnd (ixSV 6 v32 x8) fun v34 =>
  bnd (faV 0 v34) fun v35 =>
  bnd (ldE false 1 v35 H) fun v36 =>
  bnd (binV .int .leq v36 x2) fun v38 =>
  S x0 x1 x2 x7 x8 v38 H)
  (S x0 x1 x2 x7 x8 (.bool false) H)
theorem sounderref06_Log_Between_g35_e (S : Value → Value → Value → Value → Value → Value → Heap → Prop) (x : Nat → Value) (H : Heap) : wpE tab P sounderref06_Log_Between_pi sounderref06_Log_Between_c18 (nQ fun l H => S (l.getD 0 undef) (l.getD 1 undef) (l.getD 2 undef) (l.getD 7 undef) (l.getD 8 undef) (l.getD 39 undef) H) ((List.range 51).map x) H = sounderref06_Log_Between_g35 S (x 0) (x 1) (x 2) (x 7) (x 8) H := by kernel_rfl
def sounderref06_Log_Between_g36 (S : Value → Value → Value → Value → Value → Heap → Prop) (x0 x1 x2 x7 x8 : Value) (H : Heap) : Prop :=
  bnd (nilV x0) fun v42 =>
  bnd (faV 2 v42) fun v43 =>
  bnd (ldE false 1 v43 H) fun v44 =>
  bnd (ixSV 6 v44 x8) fun v46 =>
  bnd (ldE true 6 v46 H) fun v47 =>
  bslE 30 #[(.int .i64 0), (.int .i64 0), (.int .i64 0), (.bool false), (.bool false), (.bool false)] 6 1 [(0, v47)] H fun v48 H1 =>
  appE 30 #[(.int .i64 0), (.int .i64 0), (.int .i64 0), (.bool false), (.bool false), (.bool false)] 6 32 x7 v48 H1 fun v49 H2 =>
  S x0 x1 x2 v49 x8 H2
theorem sounderref06_Log_Between_g36_e (S : Value → Value → Value → Value → Value → Heap → Prop) (x : Nat → Value) (H : Heap) : wpE tab P sounderref06_Log_Between_pi sounderref06_Log_Between_c20 (nQ fun l H => S (l.getD 0 undef) (l.getD 1 undef) (l.getD 2 undef) (l.getD 7 undef) (l.getD 8 undef) H) ((List.range 51).map x) H = sounderref06_Log_Between_g36 S (x 0) (x 1) (x 2) (x 7) (x 8) H := by kernel_rfl
def sounderref06_Log_Between_g37 (S : Value → Heap → Prop) (x7 : Value) (H : Heap) : Prop :=
  S x7 H
theorem sounderref06_Log_Between_g37_e (S : Value → Heap → Prop) (x : Nat → Value) (H : Heap) : wpE tab P sounderref06_Log_Between_pi sounderref06_Log_Between_c23 (nQ fun l H => S (l.getD 6 undef) H) ((List.range 51).map x) H = sounderref06_Log_Between_g37 S (x 7) H := by kernel_rfl
def sounderref06_Log_Between_s27 (x0 x1 x2 x7 x8 : Value) (K1 : Value → Value → Value → Value → Value →  Heap → Prop) (R : Value → Heap → Prop) (H : Heap) : Prop :=
  sounderref06_Log_Between_g28 (fun x0 x1 x2 x7 x8 x15 H => brV x15
  (sounderref06_Log_Between_g35 (fun x0 x1 x2 x7 x8 x39 H => brV x39
  (sounderref06_Log_Between_g36 (fun x0 x1 x2 x7 x8 H => sounderref06_Log_Between_s29 x0 x1 x2 x7 x8 K1 R H) x0 x1 x2 x7 x8 H)
  (sounderref06_Log_Between_s29 x0 x1 x2 x7 x8 K1 R H)) x0 x1 x2 x7 x8 H)
  (sounderref06_Log_Between_g37 (fun x6 H => R x6 H) x7 H)) x0 x1 x2 x7 x8 H
theorem sounderref06_Log_Between_s27_i (K1 : Value → Value → Value → Value → Value →  Heap → Prop) (R : Value → Heap → Prop) (l : List Value) (H : Heap) (hl : l.length = 51) (h : sounderref06_Log_Between_s27 (l.getD 0 undef) (l.getD 1 undef) (l.getD 2 undef) (l.getD 7 undef) (l.getD 8 undef) K1 R H) : wpE tab P sounderref06_Log_Between_pi sounderref06_Log_Between_c10 (sounderref06_Log_Between_q34 K1 R) l H := by
  refine seqI (c := sounderref06_Log_Between_c10) rfl ?_
  refine seqI (c := sounderref06_Log_Between_c11) rfl ?_
  refine regI hl (Eq.mpr (sounderref06_Log_Between_g28_e _ (fun i => l.getD i undef) _) h) ?_
  clear h hl
  intro l H hl h
  refine thenN ?_
  refine condI (c := sounderref06_Log_Between_c13) rfl h ?_ ?_
  · clear h; intro h
    refine skipI rfl ?_
    refine thenN ?_
    refine seqI (c := sounderref06_Log_Between_c15) rfl ?_
    refine blockI (c := sounderref06_Log_Between_c16) rfl ?_
    refine seqI (c := sounderref06_Log_Between_c17) rfl ?_
    refine regI hl (Eq.mpr (sounderref06_Log_Between_g35_e _ (fun i => l.getD i undef) _) h) ?_
    clear h hl
    intro l H hl h
    refine thenN ?_
    refine condI (c := sounderref06_Log_Between_c19) rfl h ?_ ?_
    · clear h; intro h
      refine regI hl (Eq.mpr (sounderref06_Log_Between_g36_e _ (fun i => l.getD i undef) _) h) ?_
      clear h hl
      intro l H hl h
      refine blkN ?_
      refine thenN ?_
      exact sounderref06_Log_Between_s29_i K1 R l H hl h
    · clear h; intro h
      refine skipI rfl ?_
      refine blkN ?_
      refine thenN ?_
      exact sounderref06_Log_Between_s29_i K1 R l H hl h
  · clear h; intro h
    refine exitI (c := sounderref06_Log_Between_c14) rfl ?_
    refine thenX ?_
    refine thenX ?_
    refine blkX ?_
    refine thenN ?_
    refine seqI (c := sounderref06_Log_Between_c22) rfl ?_
    refine regI hl (Eq.mpr (sounderref06_Log_Between_g37_e _ (fun i => l.getD i undef) _) h) ?_
    clear h hl
    intro l H hl h
    refine thenN ?_
    refine retI rfl ?_
    exact h
def sounderref06_Log_Between_l38 (x0 x1 x2 x7 x8 : Value) (R : Value → Heap → Prop) (H : Heap) : Prop :=
  ∃ (I : Value → Value → Heap → Prop) (μ : Value → Value → Heap → Nat), I x7 x8 H ∧ ∀ (y7 : Value) (y8 : Value) (H : Heap), I y7 y8 H → sounderref06_Log_Between_s27 x0 x1 x2 y7 y8 (fun z0 z1 z2 z7 z8 H' => z0 = x0 ∧ z1 = x1 ∧ z2 = x2 ∧ (I z7 z8 H' ∧ μ z7 z8 H' < μ y7 y8 H)) R H
def sounderref06_Log_Between (x0 x1 x2 : Value) (R : Value → Heap → Prop) (H : Heap) : Prop :=
  sounderref06_Log_Between_g24 (fun x0 x1 x2 H => sounderref06_Log_Between_g25 (fun x0 x1 x2 x7 H => sounderref06_Log_Between_g26 (fun x0 x1 x2 x7 x8 H => sounderref06_Log_Between_l38 x0 x1 x2 x7 x8 R H) x0 x1 x2 x7 H) x0 x1 x2 H) x0 x1 x2 H
theorem sounderref06_Log_Between_i (R : Value → Heap → Prop) (x0 x1 x2 : Value) (H : Heap) (h : sounderref06_Log_Between x0 x1 x2 R H) : wpE tab P sounderref06_Log_Between_pi sounderref06_Log_Between_c1 (retQ tab sounderref06_Log_Between_rs R) [x0, x1, x2, undef, undef, undef, undef, undef, undef, undef, undef, undef, undef, undef, undef, undef, undef, undef, undef, undef, undef, undef, undef, undef, undef, undef, undef, undef, undef, undef, undef, undef, undef, undef, undef, undef, undef, undef, undef, undef, undef, undef, undef, undef, undef, undef, undef, undef, undef, undef, undef] H := by
  obtain ⟨l, hl, el⟩ : ∃ l : List Value, l.length = 51 ∧ l = [x0, x1, x2, undef, undef, undef, undef, undef, undef, undef, undef, undef, undef, undef, undef, undef, undef, undef, undef, undef, undef, undef, undef, undef, undef, undef, undef, undef, undef, undef, undef, undef, undef, undef, undef, undef, undef, undef, undef, undef, undef, undef, undef, undef, undef, undef, undef, undef, undef, undef, undef] := ⟨_, rfl, rfl⟩
  rw [← el]
  have h : (fun (x0 x1 x2 : Value) => sounderref06_Log_Between_g24 (fun x0 x1 x2 H => sounderref06_Log_Between_g25 (fun x0 x1 x2 x7 H => sounderref06_Log_Between_g26 (fun x0 x1 x2 x7 x8 H => sounderref06_Log_Between_l38 x0 x1 x2 x7 x8 R H) x0 x1 x2 x7 H) x0 x1 x2 H) x0 x1 x2 H) (l.getD 0 undef) (l.getD 1 undef) (l.getD 2 undef) := by rw [el]; exact h
  clear el
  refine seqI (c := sounderref06_Log_Between_c1) rfl ?_
  refine regI hl (Eq.mpr (sounderref06_Log_Between_g24_e _ (fun i => l.getD i undef) _) h) ?_
  clear h hl
  intro l H hl h
  refine thenN ?_
  refine seqI (c := sounderref06_Log_Between_c3) rfl ?_
  refine regI hl (Eq.mpr (sounderref06_Log_Between_g25_e _ (fun i => l.getD i undef) _) h) ?_
  clear h hl
  intro l H hl h
  refine thenN ?_
  refine seqI (c := sounderref06_Log_Between_c5) rfl ?_
  refine seqI (c := sounderref06_Log_Between_c6) rfl ?_
  refine regI hl (Eq.mpr (sounderref06_Log_Between_g26_e _ (fun i => l.getD i undef) _) h) ?_
  clear h hl
  intro l H hl h
  refine thenN ?_
  refine blockI (c := sounderref06_Log_Between_c8) rfl ?_
  obtain ⟨I, μ, h0, hr⟩ := h
  refine loopI (c := sounderref06_Log_Between_c9) rfl (fun l' H' => l'.getD 0 undef = l.getD 0 undef ∧ l'.getD 1 undef = l.getD 1 undef ∧ l'.getD 2 undef = l.getD 2 undef ∧ I (l'.getD 7 undef) (l'.getD 8 undef) H') (fun l' H' => μ (l'.getD 7 undef) (l'.getD 8 undef) H') hl ⟨rfl, rfl, rfl, h0⟩ ?_
  rintro l1 H1 hl1 ⟨e0, e1, e2, hI⟩
  have hb := hr (l1.getD 7 undef) (l1.getD 8 undef) H1 hI
  rw [← e0, ← e1, ← e2] at hb
  refine wpE_mono _ l1 H1 hl1 ?_ (sounderref06_Log_Between_s27_i _ R l1 H1 hl1 hb)
  intro e l2 H2 hl2 hq
  cases e with
  | normal => exact fun _ => (by obtain ⟨d0, d1, d2, g1, g2⟩ := hq; exact ⟨⟨d0.trans e0, d1.trans e1, d2.trans e2, g1⟩, g2⟩)
  | _ => exact hq
theorem sounderref06_Log_Between_ok : okB sounderref06_Log_Between_pi sounderref06_Log_Between_c1 = true := by kernel_rfl
theorem sounderref06_Log_Between_ev (x0 x1 x2 : Value) (R : Value → Heap → Prop) (H : Heap) (h : sounderref06_Log_Between x0 x1 x2 R H) : EvF P N.sounderref06_Log_Between #[x0, x1, x2] H R :=
  EvF_intro (args := [x0, x1, x2]) (k := 48) (rs := sounderref06_Log_Between_rs) tab_ok mixed Try.func31 (show Try.f31.body = some sounderref06_Log_Between_c1 by kernel_rfl) Try.call31 Try.ntmps31 (by kernel_rfl) (okCode_of _ sounderref06_Log_Between_ok) rfl (sounderref06_Log_Between_i R x0 x1 x2 H h)
/- 32: (*sounder/sent.Log).Oldest -/
def sent_Log_Oldest_rs : List ResultVar := [.cell 2 30, .tmp 3]
noncomputable def sent_Log_Oldest_c2 : Code := subC (bodyC Try.f32) [0]
noncomputable def sent_Log_Oldest_c5 : Code := subC (bodyC Try.f32) [1, 0, 0]
noncomputable def sent_Log_Oldest_c8 : Code := subC (bodyC Try.f32) [1, 0, 1, 0, 0]
noncomputable def sent_Log_Oldest_c7 : Code := .seq sent_Log_Oldest_c8 Code.ret
noncomputable def sent_Log_Oldest_c6 : Code := .cond (.tmp 12) sent_Log_Oldest_c7 Code.skip
noncomputable def sent_Log_Oldest_c4 : Code := .seq sent_Log_Oldest_c5 sent_Log_Oldest_c6
noncomputable def sent_Log_Oldest_c10 : Code := subC (bodyC Try.f32) [1, 1, 0]
noncomputable def sent_Log_Oldest_c9 : Code := .seq sent_Log_Oldest_c10 Code.ret
noncomputable def sent_Log_Oldest_c3 : Code := .seq sent_Log_Oldest_c4 sent_Log_Oldest_c9
noncomputable def sent_Log_Oldest_c1 : Code := .seq sent_Log_Oldest_c2 sent_Log_Oldest_c3
def sent_Log_Oldest_pi (_ : Nat) : Pl := .nil
def sent_Log_Oldest_g11 (S : Value → Value → Heap → Prop) (x0 : Value) (H : Heap) : Prop :=
  newE 30 #[(.int .i64 0), (.int .i64 0), (.int .i64 0), (.bool false), (.bool false), (.bool false)] H fun v2 H1 =>
  S x0 v2 H1
theorem sent_Log_Oldest_g11_e (S : Value → Value → Heap → Prop) (x : Nat → Value) (H : Heap) : wpE tab P sent_Log_Oldest_pi sent_Log_Oldest_c2 (nQ fun l H => S (l.getD 0 undef) (l.getD 2 undef) H) ((List.range 19).map x) H = sent_Log_Oldest_g11 S (x 0) H := by kernel_rfl
def sent_Log_Oldest_g12 (S : Value → Value → Value → Heap → Prop) (x0 x2 : Value) (H : Heap) : Prop :=
  EvF P N.sent_Log_none #[x0] H fun v5 H1 =>
  brV v5
  (S x0 x2 (.bool true) H1)
  (bnd (nilV x0) fun v8 =>
  bnd (faV 4 v8) fun v9 =>
  bnd (ldE false 1 v9 H1) fun v10 =>
  bnd (binV .int .eql v10 (.int .i64 0)) fun v11 =>
  S x0 x2 v11 H1)
theorem sent_Log_Oldest_g12_e (S : Value → Value → Value → Heap → Prop) (x : Nat → Value) (H : Heap) : wpE tab P sent_Log_Oldest_pi sent_Log_Oldest_c5 (nQ fun l H => S (l.getD 0 undef) (l.getD 2 undef) (l.getD 12 undef) H) ((List.range 19).map x) H = sent_Log_Oldest_g12 S (x 0) (x 2) H := by kernel_rfl
def sent_Log_Oldest_g13 (S : Value → Value → Heap → Prop) (x2 : Value) (H : Heap) : Prop :=
  bnd (ldE true 6 x2 H) fun v13 =>
  bnd (stE 6 x2 v13 H) fun H1 =>
  S x2 (.bool false) H1
theorem sent_Log_Oldest_g13_e (S : Value → Value → Heap → Prop) (x : Nat → Value) (H : Heap) : wpE tab P sent_Log_Oldest_pi sent_Log_Oldest_c8 (nQ fun l H => S (l.getD 2 undef) (l.getD 3 undef) H) ((List.range 19).map x) H = sent_Log_Oldest_g13 S (x 2) H := by kernel_rfl
def sent_Log_Oldest_g14 (S : Value → Value → Heap → Prop) (x0 x2 : Value) (H : Heap) : Prop :=
  EvF P N.sent_Log_at #[x0, (.int .i64 0)] H fun v15 H1 =>
  bnd (nilV v15) fun v16 =>
  bnd (faV 0 v16) fun v17 =>
  bnd (ldE true 6 v17 H1) fun v18 =>
  bnd (stE 6 x2 v18 H1) fun H2 =>
  S x2 (.bool true) H2
theorem sent_Log_Oldest_g14_e (S : Value → Value → Heap → Prop) (x : Nat → Value) (H : Heap) : wpE tab P sent_Log_Oldest_pi sent_Log_Oldest_c10 (nQ fun l H => S (l.getD 2 undef) (l.getD 3 undef) H) ((List.range 19).map x) H = sent_Log_Oldest_g14 S (x 0) (x 2) H := by kernel_rfl
def sent_Log_Oldest (x0 : Value) (R : Value → Heap → Prop) (H : Heap) : Prop :=
  sent_Log_Oldest_g11 (fun x0 x2 H => sent_Log_Oldest_g12 (fun x0 x2 x12 H => brV x12
  (sent_Log_Oldest_g13 (fun x2 x3 H => bnd (ldE true 6 x2 H) fun r0 =>
  R (.tuple #[r0, x3]) H) x2 H)
  (sent_Log_Oldest_g14 (fun x2 x3 H => bnd (ldE true 6 x2 H) fun r0 =>
  R (.tuple #[r0, x3]) H) x0 x2 H)) x0 x2 H) x0 H
theorem sent_Log_Oldest_i (R : Value → Heap → Prop) (x0 : Value) (H : Heap) (h : sent_Log_Oldest x0 R H) : wpE tab P sent_Log_Oldest_pi sent_Log_Oldest_c1 (retQ tab sent_Log_Oldest_rs R) [x0, undef, undef, undef, undef, undef, undef, undef, undef, undef, undef, undef, undef, undef, undef, undef, undef, undef, undef] H := by
  obtain ⟨l, hl, el⟩ : ∃ l : List Value, l.length = 19 ∧ l = [x0, undef, undef, undef, undef, undef, undef, undef, undef, undef, undef, undef, undef, undef, undef, undef, undef, undef, undef] := ⟨_, rfl, rfl⟩
  rw [← el]
  have h : (fun (x0 : Value) => sent_Log_Oldest_g11 (fun x0 x2 H => sent_Log_Oldest_g12 (fun x0 x2 x12 H => brV x12
(sent_Log_Oldest_g13 (fun x2 x3 H => bnd (ldE true 6 x2 H) fun r0 =>
R (.tuple #[r0, x3]) H) x2 H)
(sent_Log_Oldest_g14 (fun x2 x3 H => bnd (ldE true 6 x2 H) fun r0 =>
R (.tuple #[r0, x3]) H) x0 x2 H)) x0 x2 H) x0 H) (l.getD 0 undef) := by rw [el]; exact h
  clear el
  refine seqI (c := sent_Log_Oldest_c1) rfl ?_
  refine regI hl (Eq.mpr (sent_Log_Oldest_g11_e _ (fun i => l.getD i undef) _) h) ?_
  clear h hl
  intro l H hl h
  refine thenN ?_
  refine seqI (c := sent_Log_Oldest_c3) rfl ?_
  refine seqI (c := sent_Log_Oldest_c4) rfl ?_
  refine regI hl (Eq.mpr (sent_Log_Oldest_g12_e _ (fun i => l.getD i undef) _) h) ?_
  clear h hl
  intro l H hl h
  refine thenN ?_
  refine condI (c := sent_Log_Oldest_c6) rfl h ?_ ?_
  · clear h; intro h
    refine seqI (c := sent_Log_Oldest_c7) rfl ?_
    refine regI hl (Eq.mpr (sent_Log_Oldest_g13_e _ (fun i => l.getD i undef) _) h) ?_
    clear h hl
    intro l H hl h
    refine thenN ?_
    refine retI rfl ?_
    refine thenR ?_
    exact h
  · clear h; intro h
    refine skipI rfl ?_
    refine thenN ?_
    refine seqI (c := sent_Log_Oldest_c9) rfl ?_
    refine regI hl (Eq.mpr (sent_Log_Oldest_g14_e _ (fun i => l.getD i undef) _) h) ?_
    clear h hl
    intro l H hl h
    refine thenN ?_
    refine retI rfl ?_
    exact h
theorem sent_Log_Oldest_ok : okB sent_Log_Oldest_pi sent_Log_Oldest_c1 = true := by kernel_rfl
theorem sent_Log_Oldest_ev (x0 : Value) (R : Value → Heap → Prop) (H : Heap) (h : sent_Log_Oldest x0 R H) : EvF P N.sent_Log_Oldest #[x0] H R :=
  EvF_intro (args := [x0]) (k := 18) (rs := sent_Log_Oldest_rs) tab_ok mixed Try.func32 (show Try.f32.body = some sent_Log_Oldest_c1 by kernel_rfl) Try.call32 Try.ntmps32 (by kernel_rfl) (okCode_of _ sent_Log_Oldest_ok) rfl (sent_Log_Oldest_i R x0 H h)
/- 33: (*sounder/sent.Log).none -/
def sent_Log_none_rs : List ResultVar := [.tmp 2]
noncomputable def sent_Log_none_c2 : Code := subC (bodyC Try.f33) [0]
noncomputable def sent_Log_none_c4 : Code := subC (bodyC Try.f33) [1, 0]
noncomputable def sent_Log_none_c3 : Code := .seq sent_Log_none_c4 Code.ret
noncomputable def sent_Log_none_c1 : Code := .seq sent_Log_none_c2 sent_Log_none_c3
def sent_Log_none_pi (_ : Nat) : Pl := .nil
def sent_Log_none_g5 (S : Value → Heap → Prop) (x0 : Value) (H : Heap) : Prop :=
  S x0 H
theorem sent_Log_none_g5_e (S : Value → Heap → Prop) (x : Nat → Value) (H : Heap) : wpE tab P sent_Log_none_pi sent_Log_none_c2 (nQ fun l H => S (l.getD 0 undef) H) ((List.range 12).map x) H = sent_Log_none_g5 S (x 0) H := by kernel_rfl
def sent_Log_none_g6 (S : Value → Heap → Prop) (x0 : Value) (H : Heap) : Prop :=
  bnd (binV .ptr .eql x0 (.pointer none)) fun v4 =>
  brV v4
  (S (.bool true) H)
  (bnd (nilV x0) fun v7 =>
  bnd (faV 0 v7) fun v8 =>
  bnd (ldE false 1 v8 H) fun v9 =>
  bnd (binV .int .eql v9 (.int .i64 0)) fun v10 =>
  S v10 H)
theorem sent_Log_none_g6_e (S : Value → Heap → Prop) (x : Nat → Value) (H : Heap) : wpE tab P sent_Log_none_pi sent_Log_none_c4 (nQ fun l H => S (l.getD 2 undef) H) ((List.range 12).map x) H = sent_Log_none_g6 S (x 0) H := by kernel_rfl
def sent_Log_none (x0 : Value) (R : Value → Heap → Prop) (H : Heap) : Prop :=
  sent_Log_none_g5 (fun x0 H => sent_Log_none_g6 (fun x2 H => R x2 H) x0 H) x0 H
theorem sent_Log_none_i (R : Value → Heap → Prop) (x0 : Value) (H : Heap) (h : sent_Log_none x0 R H) : wpE tab P sent_Log_none_pi sent_Log_none_c1 (retQ tab sent_Log_none_rs R) [x0, undef, undef, undef, undef, undef, undef, undef, undef, undef, undef, undef] H := by
  obtain ⟨l, hl, el⟩ : ∃ l : List Value, l.length = 12 ∧ l = [x0, undef, undef, undef, undef, undef, undef, undef, undef, undef, undef, undef] := ⟨_, rfl, rfl⟩
  rw [← el]
  have h : (fun (x0 : Value) => sent_Log_none_g5 (fun x0 H => sent_Log_none_g6 (fun x2 H => R x2 H) x0 H) x0 H) (l.getD 0 undef) := by rw [el]; exact h
  clear el
  refine seqI (c := sent_Log_none_c1) rfl ?_
  refine regI hl (Eq.mpr (sent_Log_none_g5_e _ (fun i => l.getD i undef) _) h) ?_
  clear h hl
  intro l H hl h
  refine thenN ?_
  refine seqI (c := sent_Log_none_c3) rfl ?_
  refine regI hl (Eq.mpr (sent_Log_none_g6_e _ (fun i => l.getD i undef) _) h) ?_
  clear h hl
  intro l H hl h
  refine thenN ?_
  refine retI rfl ?_
  exact h
theorem sent_Log_none_ok : okB sent_Log_none_pi sent_Log_none_c1 = true := by kernel_rfl
theorem sent_Log_none_ev (x0 : Value) (R : Value → Heap → Prop) (H : Heap) (h : sent_Log_none x0 R H) : EvF P N.sent_Log_none #[x0] H R :=
  EvF_intro (args := [x0]) (k := 11) (rs := sent_Log_none_rs) tab_ok mixed Try.func33 (show Try.f33.body = some sent_Log_none_c1 by kernel_rfl) Try.call33 Try.ntmps33 (by kernel_rfl) (okCode_of _ sent_Log_none_ok) rfl (sent_Log_none_i R x0 H h)
/- 34: sounder/sent.may -/
def sent_may_rs : List ResultVar := [.tmp 2]
noncomputable def sent_may_c2 : Code := subC (bodyC Try.f34) [0]
noncomputable def sent_may_c4 : Code := subC (bodyC Try.f34) [1, 0]
noncomputable def sent_may_c6 : Code := subC (bodyC Try.f34) [1, 1, 0]
noncomputable def sent_may_c5 : Code := .seq sent_may_c6 Code.ret
noncomputable def sent_may_c3 : Code := .seq sent_may_c4 sent_may_c5
noncomputable def sent_may_c1 : Code := .seq sent_may_c2 sent_may_c3
def sent_may_pi (_ : Nat) : Pl := .nil
def sent_may_g7 (S : Value → Heap → Prop) (x0 : Value) (H : Heap) : Prop :=
  newE 30 (Value.cells x0) H fun v1 H1 =>
  S v1 H1
theorem sent_may_g7_e (S : Value → Heap → Prop) (x : Nat → Value) (H : Heap) : wpE tab P sent_may_pi sent_may_c2 (nQ fun l H => S (l.getD 1 undef) H) ((List.range 20).map x) H = sent_may_g7 S (x 0) H := by kernel_rfl
def sent_may_g8 (S : Value → Value → Heap → Prop) (x1 : Value) (H : Heap) : Prop :=
  S x1 (.func (.func N.sent_may_1) #[] #[]) H
theorem sent_may_g8_e (S : Value → Value → Heap → Prop) (x : Nat → Value) (H : Heap) : wpE tab P sent_may_pi sent_may_c4 (nQ fun l H => S (l.getD 1 undef) (l.getD 3 undef) H) ((List.range 20).map x) H = sent_may_g8 S (x 1) H := by kernel_rfl
def sent_may_g9 (S : Value → Heap → Prop) (x1 x3 : Value) (H : Heap) : Prop :=
  bnd (faV 0 x1) fun v5 =>
  bnd (ldE false 1 v5 H) fun v6 =>
  callV P x3 [v6, (.int .i64 0), (.int .i64 9007199254740991)] H fun v7 H1 =>
  brV v7
  (bnd (faV 1 x1) fun v10 =>
  bnd (ldE false 1 v10 H1) fun v11 =>
  callV P x3 [v11, (.int .i64 0), (.int .i64 9007199254740991)] H1 fun v12 H2 =>
  brV v12
  (bnd (faV 2 x1) fun v16 =>
  bnd (ldE false 1 v16 H2) fun v17 =>
  callV P x3 [v17, (.int .i64 1), (.int .i64 65535)] H2 fun v18 H3 =>
  S v18 H3)
  (S (.bool false) H2))
  (S (.bool false) H1)
theorem sent_may_g9_e (S : Value → Heap → Prop) (x : Nat → Value) (H : Heap) : wpE tab P sent_may_pi sent_may_c6 (nQ fun l H => S (l.getD 2 undef) H) ((List.range 20).map x) H = sent_may_g9 S (x 1) (x 3) H := by kernel_rfl
def sent_may (x0 : Value) (R : Value → Heap → Prop) (H : Heap) : Prop :=
  sent_may_g7 (fun x1 H => sent_may_g8 (fun x1 x3 H => sent_may_g9 (fun x2 H => R x2 H) x1 x3 H) x1 H) x0 H
theorem sent_may_i (R : Value → Heap → Prop) (x0 : Value) (H : Heap) (h : sent_may x0 R H) : wpE tab P sent_may_pi sent_may_c1 (retQ tab sent_may_rs R) [x0, undef, undef, undef, undef, undef, undef, undef, undef, undef, undef, undef, undef, undef, undef, undef, undef, undef, undef, undef] H := by
  obtain ⟨l, hl, el⟩ : ∃ l : List Value, l.length = 20 ∧ l = [x0, undef, undef, undef, undef, undef, undef, undef, undef, undef, undef, undef, undef, undef, undef, undef, undef, undef, undef, undef] := ⟨_, rfl, rfl⟩
  rw [← el]
  have h : (fun (x0 : Value) => sent_may_g7 (fun x1 H => sent_may_g8 (fun x1 x3 H => sent_may_g9 (fun x2 H => R x2 H) x1 x3 H) x1 H) x0 H) (l.getD 0 undef) := by rw [el]; exact h
  clear el
  refine seqI (c := sent_may_c1) rfl ?_
  refine regI hl (Eq.mpr (sent_may_g7_e _ (fun i => l.getD i undef) _) h) ?_
  clear h hl
  intro l H hl h
  refine thenN ?_
  refine seqI (c := sent_may_c3) rfl ?_
  refine regI hl (Eq.mpr (sent_may_g8_e _ (fun i => l.getD i undef) _) h) ?_
  clear h hl
  intro l H hl h
  refine thenN ?_
  refine seqI (c := sent_may_c5) rfl ?_
  refine regI hl (Eq.mpr (sent_may_g9_e _ (fun i => l.getD i undef) _) h) ?_
  clear h hl
  intro l H hl h
  refine thenN ?_
  refine retI rfl ?_
  exact h
theorem sent_may_ok : okB sent_may_pi sent_may_c1 = true := by kernel_rfl
theorem sent_may_ev (x0 : Value) (R : Value → Heap → Prop) (H : Heap) (h : sent_may x0 R H) : EvF P N.sent_may #[x0] H R :=
  EvF_intro (args := [x0]) (k := 19) (rs := sent_may_rs) tab_ok mixed Try.func34 (show Try.f34.body = some sent_may_c1 by kernel_rfl) Try.call34 Try.ntmps34 (by kernel_rfl) (okCode_of _ sent_may_ok) rfl (sent_may_i R x0 H h)
/- 35: (*sounder/sent.Log).pack -/
def sent_Log_pack_rs : List ResultVar := []
noncomputable def sent_Log_pack_c2 : Code := subC (bodyC Try.f35) [0]
noncomputable def sent_Log_pack_c4 : Code := subC (bodyC Try.f35) [1, 0]
noncomputable def sent_Log_pack_c7 : Code := subC (bodyC Try.f35) [1, 1, 0, 0]
noncomputable def sent_Log_pack_c11 : Code := subC (bodyC Try.f35) [1, 1, 0, 1, 0, 0, 0]
noncomputable def sent_Log_pack_c14 : Code := .exit 0
noncomputable def sent_Log_pack_c13 : Code := .cond (.tmp 17) Code.skip sent_Log_pack_c14
noncomputable def sent_Log_pack_c18 : Code := subC (bodyC Try.f35) [1, 1, 0, 1, 0, 0, 1, 1, 0, 0, 0]
noncomputable def sent_Log_pack_c20 : Code := subC (bodyC Try.f35) [1, 1, 0, 1, 0, 0, 1, 1, 0, 0, 1, 0]
noncomputable def sent_Log_pack_c22 : Code := subC (bodyC Try.f35) [1, 1, 0, 1, 0, 0, 1, 1, 0, 0, 1, 1, 0]
noncomputable def sent_Log_pack_c25 : Code := subC (bodyC Try.f35) [1, 1, 0, 1, 0, 0, 1, 1, 0, 0, 1, 1, 1, 0, 0]
noncomputable def sent_Log_pack_c26 : Code := subC (bodyC Try.f35) [1, 1, 0, 1, 0, 0, 1, 1, 0, 0, 1, 1, 1, 0, 1]
noncomputable def sent_Log_pack_c24 : Code := .seq sent_Log_pack_c25 sent_Log_pack_c26
noncomputable def sent_Log_pack_c23 : Code := .cond (.tmp 25) sent_Log_pack_c24 Code.skip
noncomputable def sent_Log_pack_c21 : Code := .seq sent_Log_pack_c22 sent_Log_pack_c23
noncomputable def sent_Log_pack_c19 : Code := .seq sent_Log_pack_c20 sent_Log_pack_c21
noncomputable def sent_Log_pack_c17 : Code := .seq sent_Log_pack_c18 sent_Log_pack_c19
noncomputable def sent_Log_pack_c16 : Code := .block 1 sent_Log_pack_c17
noncomputable def sent_Log_pack_c27 : Code := subC (bodyC Try.f35) [1, 1, 0, 1, 0, 0, 1, 1, 1]
noncomputable def sent_Log_pack_c15 : Code := .seq sent_Log_pack_c16 sent_Log_pack_c27
noncomputable def sent_Log_pack_c12 : Code := .seq sent_Log_pack_c13 sent_Log_pack_c15
noncomputable def sent_Log_pack_c10 : Code := .seq sent_Log_pack_c11 sent_Log_pack_c12
noncomputable def sent_Log_pack_c9 : Code := .loop sent_Log_pack_c10
noncomputable def sent_Log_pack_c8 : Code := .block 0 sent_Log_pack_c9
noncomputable def sent_Log_pack_c6 : Code := .seq sent_Log_pack_c7 sent_Log_pack_c8
noncomputable def sent_Log_pack_c28 : Code := subC (bodyC Try.f35) [1, 1, 1]
noncomputable def sent_Log_pack_c5 : Code := .seq sent_Log_pack_c6 sent_Log_pack_c28
noncomputable def sent_Log_pack_c3 : Code := .seq sent_Log_pack_c4 sent_Log_pack_c5
noncomputable def sent_Log_pack_c1 : Code := .seq sent_Log_pack_c2 sent_Log_pack_c3
def sent_Log_pack_pi (_ : Nat) : Pl := .nil
def sent_Log_pack_g29 (S : Value → Value → Heap → Prop) (x0 : Value) (H : Heap) : Prop :=
  bnd (nilV x0) fun v7 =>
  bnd (faV 2 v7) fun v8 =>
  bnd (ldE false 1 v8 H) fun v9 =>
  bnd (lenV v9) fun v10 =>
  mslE 65 #[(.int .i64 0), (.int .i64 0), (.int .i64 0), (.bool false), (.bool false), (.bool false), (.bool false)] 40 v10 v10 H fun v11 H1 =>
  S x0 v11 H1
theorem sent_Log_pack_g29_e (S : Value → Value → Heap → Prop) (x : Nat → Value) (H : Heap) : wpE tab P sent_Log_pack_pi sent_Log_pack_c2 (nQ fun l H => S (l.getD 0 undef) (l.getD 2 undef) H) ((List.range 46).map x) H = sent_Log_pack_g29 S (x 0) H := by kernel_rfl
def sent_Log_pack_g30 (S : Value → Value → Value → Heap → Prop) (x0 x2 : Value) (H : Heap) : Prop :=
  S x0 x2 (.int .i64 0) H
theorem sent_Log_pack_g30_e (S : Value → Value → Value → Heap → Prop) (x : Nat → Value) (H : Heap) : wpE tab P sent_Log_pack_pi sent_Log_pack_c4 (nQ fun l H => S (l.getD 0 undef) (l.getD 2 undef) (l.getD 3 undef) H) ((List.range 46).map x) H = sent_Log_pack_g30 S (x 0) (x 2) H := by kernel_rfl
def sent_Log_pack_g31 (S : Value → Value → Value → Value → Value → Heap → Prop) (x0 x2 x3 : Value) (H : Heap) : Prop :=
  bnd (nilV x0) fun v13 =>
  bnd (faV 4 v13) fun v14 =>
  bnd (ldE false 1 v14 H) fun v15 =>
  S x0 x2 x3 v15 (.int .i64 0) H
theorem sent_Log_pack_g31_e (S : Value → Value → Value → Value → Value → Heap → Prop) (x : Nat → Value) (H : Heap) : wpE tab P sent_Log_pack_pi sent_Log_pack_c7 (nQ fun l H => S (l.getD 0 undef) (l.getD 2 undef) (l.getD 3 undef) (l.getD 15 undef) (l.getD 16 undef) H) ((List.range 46).map x) H = sent_Log_pack_g31 S (x 0) (x 2) (x 3) H := by kernel_rfl
def sent_Log_pack_g33 (S : Value → Value → Value → Value → Value → Value → Heap → Prop) (x0 x2 x3 x15 x16 : Value) (H : Heap) : Prop :=
  bnd (binV .int .lss x16 x15) fun v17 =>
  S x0 x2 x3 x15 x16 v17 H
theorem sent_Log_pack_g33_e (S : Value → Value → Value → Value → Value → Value → Heap → Prop) (x : Nat → Value) (H : Heap) : wpE tab P sent_Log_pack_pi sent_Log_pack_c11 (nQ fun l H => S (l.getD 0 undef) (l.getD 2 undef) (l.getD 3 undef) (l.getD 15 undef) (l.getD 16 undef) (l.getD 17 undef) H) ((List.range 46).map x) H = sent_Log_pack_g33 S (x 0) (x 2) (x 3) (x 15) (x 16) H := by kernel_rfl
def sent_Log_pack_g35 (S : Value → Value → Value → Value → Value → Heap → Prop) (x0 x2 x3 x15 x16 : Value) (H : Heap) : Prop :=
  bnd (binV .int .add x16 (.int .i64 1)) fun v34 =>
  S x0 x2 x3 x15 v34 H
theorem sent_Log_pack_g35_e (S : Value → Value → Value → Value → Value → Heap → Prop) (x : Nat → Value) (H : Heap) : wpE tab P sent_Log_pack_pi sent_Log_pack_c27 (nQ fun l H => S (l.getD 0 undef) (l.getD 2 undef) (l.getD 3 undef) (l.getD 15 undef) (l.getD 16 undef) H) ((List.range 46).map x) H = sent_Log_pack_g35 S (x 0) (x 2) (x 3) (x 15) (x 16) H := by kernel_rfl
def sent_Log_pack_s34 (x0 x2 x3 x15 x16 : Value) (K1 : Value → Value → Value → Value → Value →  Heap → Prop) (_R : Value → Heap → Prop) (H : Heap) : Prop :=
  sent_Log_pack_g35 (fun x0 x2 x3 x15 x16 H => K1 x0 x2 x3 x15 x16 H) x0 x2 x3 x15 x16 H
noncomputable def sent_Log_pack_q36 (R : Value → Heap → Prop) : Exit → List Value → Heap → Prop := (retQ tab sent_Log_pack_rs R)
noncomputable def sent_Log_pack_q37 (R : Value → Heap → Prop) : Exit → List Value → Heap → Prop := (thenE (fun l H => wpE tab P sent_Log_pack_pi sent_Log_pack_c28 (sent_Log_pack_q36 R) l H) (sent_Log_pack_q36 R))
noncomputable def sent_Log_pack_q38 (R : Value → Heap → Prop) : Exit → List Value → Heap → Prop := (blkE 0 (sent_Log_pack_q37 R))
noncomputable def sent_Log_pack_q39 (K1 : Value → Value → Value → Value → Value →  Heap → Prop) (R : Value → Heap → Prop) : Exit → List Value → Heap → Prop := (thenE (fun l H => K1 (l.getD 0 undef) (l.getD 2 undef) (l.getD 3 undef) (l.getD 15 undef) (l.getD 16 undef) H) (sent_Log_pack_q38 R))
theorem sent_Log_pack_s34_i (K1 : Value → Value → Value → Value → Value →  Heap → Prop) (R : Value → Heap → Prop) (l : List Value) (H : Heap) (hl : l.length = 46) (h : sent_Log_pack_s34 (l.getD 0 undef) (l.getD 2 undef) (l.getD 3 undef) (l.getD 15 undef) (l.getD 16 undef) K1 R H) : wpE tab P sent_Log_pack_pi sent_Log_pack_c27 (sent_Log_pack_q39 K1 R) l H := by
  refine regI hl (Eq.mpr (sent_Log_pack_g35_e _ (fun i => l.getD i undef) _) h) ?_
  clear h hl
  intro l H hl h
  refine thenN ?_
  exact h
def sent_Log_pack_g40 (S : Value → Value → Value → Value → Value → Value → Heap → Prop) (x0 x2 x3 x15 x16 : Value) (H : Heap) : Prop :=
  S x0 x2 x3 x16 x15 x16 H
theorem sent_Log_pack_g40_e (S : Value → Value → Value → Value → Value → Value → Heap → Prop) (x : Nat → Value) (H : Heap) : wpE tab P sent_Log_pack_pi sent_Log_pack_c18 (nQ fun l H => S (l.getD 0 undef) (l.getD 2 undef) (l.getD 3 undef) (l.getD 4 undef) (l.getD 15 undef) (l.getD 16 undef) H) ((List.range 46).map x) H = sent_Log_pack_g40 S (x 0) (x 2) (x 3) (x 15) (x 16) H := by kernel_rfl
def sent_Log_pack_g41 (S : Value → Value → Value → Value → Value → Value → Heap → Prop) (x0 x2 x3 x4 x15 x16 : Value) (H : Heap) : Prop :=
  EvF P N.sent_Log_at #[x0, x4] H fun v21 H1 =>
  S x0 x2 x3 v21 x15 x16 H1
theorem sent_Log_pack_g41_e (S : Value → Value → Value → Value → Value → Value → Heap → Prop) (x : Nat → Value) (H : Heap) : wpE tab P sent_Log_pack_pi sent_Log_pack_c20 (nQ fun l H => S (l.getD 0 undef) (l.getD 2 undef) (l.getD 3 undef) (l.getD 5 undef) (l.getD 15 undef) (l.getD 16 undef) H) ((List.range 46).map x) H = sent_Log_pack_g41 S (x 0) (x 2) (x 3) (x 4) (x 15) (x 16) H := by kernel_rfl
def sent_Log_pack_g42 (S : Value → Value → Value → Value → Value → Value → Value → Heap → Prop) (x0 x2 x3 x5 x15 x16 : Value) (H : Heap) : Prop :=
  bnd (nilV x5) fun v23 =>
  bnd (faV 6 v23) fun v24 =>
  bnd (ldE false 1 v24 H) fun v25 =>
  S x0 x2 x3 x5 x15 x16 v25 H
theorem sent_Log_pack_g42_e (S : Value → Value → Value → Value → Value → Value → Value → Heap → Prop) (x : Nat → Value) (H : Heap) : wpE tab P sent_Log_pack_pi sent_Log_pack_c22 (nQ fun l H => S (l.getD 0 undef) (l.getD 2 undef) (l.getD 3 undef) (l.getD 5 undef) (l.getD 15 undef) (l.getD 16 undef) (l.getD 25 undef) H) ((List.range 46).map x) H = sent_Log_pack_g42 S (x 0) (x 2) (x 3) (x 5) (x 15) (x 16) H := by kernel_rfl
def sent_Log_pack_g43 (S : Value → Value → Value → Value → Value → Heap → Prop) (x0 x2 x3 x5 x15 x16 : Value) (H : Heap) : Prop :=
  bnd (nilV x5) fun v29 =>
  bnd (ldE true 7 v29 H) fun v30 =>
  bnd (ixSV 7 x2 x3) fun v31 =>
  bnd (stE 7 v31 v30 H) fun H1 =>
  S x0 x2 x3 x15 x16 H1
theorem sent_Log_pack_g43_e (S : Value → Value → Value → Value → Value → Heap → Prop) (x : Nat → Value) (H : Heap) : wpE tab P sent_Log_pack_pi sent_Log_pack_c25 (nQ fun l H => S (l.getD 0 undef) (l.getD 2 undef) (l.getD 3 undef) (l.getD 15 undef) (l.getD 16 undef) H) ((List.range 46).map x) H = sent_Log_pack_g43 S (x 0) (x 2) (x 3) (x 5) (x 15) (x 16) H := by kernel_rfl
def sent_Log_pack_g44 (S : Value → Value → Value → Value → Value → Heap → Prop) (x0 x2 x3 x15 x16 : Value) (H : Heap) : Prop :=
  bnd (binV .int .add x3 (.int .i64 1)) fun v33 =>
  S x0 x2 v33 x15 x16 H
theorem sent_Log_pack_g44_e (S : Value → Value → Value → Value → Value → Heap → Prop) (x : Nat → Value) (H : Heap) : wpE tab P sent_Log_pack_pi sent_Log_pack_c26 (nQ fun l H => S (l.getD 0 undef) (l.getD 2 undef) (l.getD 3 undef) (l.getD 15 undef) (l.getD 16 undef) H) ((List.range 46).map x) H = sent_Log_pack_g44 S (x 0) (x 2) (x 3) (x 15) (x 16) H := by kernel_rfl
def sent_Log_pack_g45 (S : Heap → Prop) (x0 x2 x3 : Value) (H : Heap) : Prop :=
  bnd (nilV x0) fun v40 =>
  bnd (faV 2 v40) fun v41 =>
  bnd (stE 1 v41 x2 H) fun H1 =>
  bnd (nilV x0) fun v42 =>
  bnd (faV 3 v42) fun v43 =>
  bnd (stE 1 v43 (.int .i64 0) H1) fun H2 =>
  bnd (nilV x0) fun v44 =>
  bnd (faV 4 v44) fun v45 =>
  bnd (stE 1 v45 x3 H2) fun H3 =>
  S H3
theorem sent_Log_pack_g45_e (S : Heap → Prop) (x : Nat → Value) (H : Heap) : wpE tab P sent_Log_pack_pi sent_Log_pack_c28 (nQ fun _ H => S  H) ((List.range 46).map x) H = sent_Log_pack_g45 S (x 0) (x 2) (x 3) H := by kernel_rfl
def sent_Log_pack_s32 (x0 x2 x3 x15 x16 : Value) (K1 : Value → Value → Value → Value → Value →  Heap → Prop) (R : Value → Heap → Prop) (H : Heap) : Prop :=
  sent_Log_pack_g33 (fun x0 x2 x3 x15 x16 x17 H => brV x17
  (sent_Log_pack_g40 (fun x0 x2 x3 x4 x15 x16 H => sent_Log_pack_g41 (fun x0 x2 x3 x5 x15 x16 H => sent_Log_pack_g42 (fun x0 x2 x3 x5 x15 x16 x25 H => brV x25
  (sent_Log_pack_g43 (fun x0 x2 x3 x15 x16 H => sent_Log_pack_g44 (fun x0 x2 x3 x15 x16 H => sent_Log_pack_s34 x0 x2 x3 x15 x16 K1 R H) x0 x2 x3 x15 x16 H) x0 x2 x3 x5 x15 x16 H)
  (sent_Log_pack_s34 x0 x2 x3 x15 x16 K1 R H)) x0 x2 x3 x5 x15 x16 H) x0 x2 x3 x4 x15 x16 H) x0 x2 x3 x15 x16 H)
  (sent_Log_pack_g45 (fun H => R (.tuple #[]) H) x0 x2 x3 H)) x0 x2 x3 x15 x16 H
theorem sent_Log_pack_s32_i (K1 : Value → Value → Value → Value → Value →  Heap → Prop) (R : Value → Heap → Prop) (l : List Value) (H : Heap) (hl : l.length = 46) (h : sent_Log_pack_s32 (l.getD 0 undef) (l.getD 2 undef) (l.getD 3 undef) (l.getD 15 undef) (l.getD 16 undef) K1 R H) : wpE tab P sent_Log_pack_pi sent_Log_pack_c10 (sent_Log_pack_q39 K1 R) l H := by
  refine seqI (c := sent_Log_pack_c10) rfl ?_
  refine regI hl (Eq.mpr (sent_Log_pack_g33_e _ (fun i => l.getD i undef) _) h) ?_
  clear h hl
  intro l H hl h
  refine thenN ?_
  refine seqI (c := sent_Log_pack_c12) rfl ?_
  refine condI (c := sent_Log_pack_c13) rfl h ?_ ?_
  · clear h; intro h
    refine skipI rfl ?_
    refine thenN ?_
    refine seqI (c := sent_Log_pack_c15) rfl ?_
    refine blockI (c := sent_Log_pack_c16) rfl ?_
    refine seqI (c := sent_Log_pack_c17) rfl ?_
    refine regI hl (Eq.mpr (sent_Log_pack_g40_e _ (fun i => l.getD i undef) _) h) ?_
    clear h hl
    intro l H hl h
    refine thenN ?_
    refine seqI (c := sent_Log_pack_c19) rfl ?_
    refine regI hl (Eq.mpr (sent_Log_pack_g41_e _ (fun i => l.getD i undef) _) h) ?_
    clear h hl
    intro l H hl h
    refine thenN ?_
    refine seqI (c := sent_Log_pack_c21) rfl ?_
    refine regI hl (Eq.mpr (sent_Log_pack_g42_e _ (fun i => l.getD i undef) _) h) ?_
    clear h hl
    intro l H hl h
    refine thenN ?_
    refine condI (c := sent_Log_pack_c23) rfl h ?_ ?_
    · clear h; intro h
      refine seqI (c := sent_Log_pack_c24) rfl ?_
      refine regI hl (Eq.mpr (sent_Log_pack_g43_e _ (fun i => l.getD i undef) _) h) ?_
      clear h hl
      intro l H hl h
      refine thenN ?_
      refine regI hl (Eq.mpr (sent_Log_pack_g44_e _ (fun i => l.getD i undef) _) h) ?_
      clear h hl
      intro l H hl h
      refine blkN ?_
      refine thenN ?_
      exact sent_Log_pack_s34_i K1 R l H hl h
    · clear h; intro h
      refine skipI rfl ?_
      refine blkN ?_
      refine thenN ?_
      exact sent_Log_pack_s34_i K1 R l H hl h
  · clear h; intro h
    refine exitI (c := sent_Log_pack_c14) rfl ?_
    refine thenX ?_
    refine thenX ?_
    refine blkX ?_
    refine thenN ?_
    refine regI hl (Eq.mpr (sent_Log_pack_g45_e _ (fun i => l.getD i undef) _) h) ?_
    clear h hl
    intro l H hl h
    exact h
def sent_Log_pack_l46 (x0 x2 x3 x15 x16 : Value) (R : Value → Heap → Prop) (H : Heap) : Prop :=
  ∃ (I : Value → Value → Heap → Prop) (μ : Value → Value → Heap → Nat), I x3 x16 H ∧ ∀ (y3 : Value) (y16 : Value) (H : Heap), I y3 y16 H → sent_Log_pack_s32 x0 x2 y3 x15 y16 (fun z0 z2 z3 z15 z16 H' => z0 = x0 ∧ z2 = x2 ∧ z15 = x15 ∧ (I z3 z16 H' ∧ μ z3 z16 H' < μ y3 y16 H)) R H
def sent_Log_pack (x0 : Value) (R : Value → Heap → Prop) (H : Heap) : Prop :=
  sent_Log_pack_g29 (fun x0 x2 H => sent_Log_pack_g30 (fun x0 x2 x3 H => sent_Log_pack_g31 (fun x0 x2 x3 x15 x16 H => sent_Log_pack_l46 x0 x2 x3 x15 x16 R H) x0 x2 x3 H) x0 x2 H) x0 H
theorem sent_Log_pack_i (R : Value → Heap → Prop) (x0 : Value) (H : Heap) (h : sent_Log_pack x0 R H) : wpE tab P sent_Log_pack_pi sent_Log_pack_c1 (retQ tab sent_Log_pack_rs R) [x0, undef, undef, undef, undef, undef, undef, undef, undef, undef, undef, undef, undef, undef, undef, undef, undef, undef, undef, undef, undef, undef, undef, undef, undef, undef, undef, undef, undef, undef, undef, undef, undef, undef, undef, undef, undef, undef, undef, undef, undef, undef, undef, undef, undef, undef] H := by
  obtain ⟨l, hl, el⟩ : ∃ l : List Value, l.length = 46 ∧ l = [x0, undef, undef, undef, undef, undef, undef, undef, undef, undef, undef, undef, undef, undef, undef, undef, undef, undef, undef, undef, undef, undef, undef, undef, undef, undef, undef, undef, undef, undef, undef, undef, undef, undef, undef, undef, undef, undef, undef, undef, undef, undef, undef, undef, undef, undef] := ⟨_, rfl, rfl⟩
  rw [← el]
  have h : (fun (x0 : Value) => sent_Log_pack_g29 (fun x0 x2 H => sent_Log_pack_g30 (fun x0 x2 x3 H => sent_Log_pack_g31 (fun x0 x2 x3 x15 x16 H => sent_Log_pack_l46 x0 x2 x3 x15 x16 R H) x0 x2 x3 H) x0 x2 H) x0 H) (l.getD 0 undef) := by rw [el]; exact h
  clear el
  refine seqI (c := sent_Log_pack_c1) rfl ?_
  refine regI hl (Eq.mpr (sent_Log_pack_g29_e _ (fun i => l.getD i undef) _) h) ?_
  clear h hl
  intro l H hl h
  refine thenN ?_
  refine seqI (c := sent_Log_pack_c3) rfl ?_
  refine regI hl (Eq.mpr (sent_Log_pack_g30_e _ (fun i => l.getD i undef) _) h) ?_
  clear h hl
  intro l H hl h
  refine thenN ?_
  refine seqI (c := sent_Log_pack_c5) rfl ?_
  refine seqI (c := sent_Log_pack_c6) rfl ?_
  refine regI hl (Eq.mpr (sent_Log_pack_g31_e _ (fun i => l.getD i undef) _) h) ?_
  clear h hl
  intro l H hl h
  refine thenN ?_
  refine blockI (c := sent_Log_pack_c8) rfl ?_
  obtain ⟨I, μ, h0, hr⟩ := h
  refine loopI (c := sent_Log_pack_c9) rfl (fun l' H' => l'.getD 0 undef = l.getD 0 undef ∧ l'.getD 2 undef = l.getD 2 undef ∧ l'.getD 15 undef = l.getD 15 undef ∧ I (l'.getD 3 undef) (l'.getD 16 undef) H') (fun l' H' => μ (l'.getD 3 undef) (l'.getD 16 undef) H') hl ⟨rfl, rfl, rfl, h0⟩ ?_
  rintro l1 H1 hl1 ⟨e0, e2, e15, hI⟩
  have hb := hr (l1.getD 3 undef) (l1.getD 16 undef) H1 hI
  rw [← e0, ← e2, ← e15] at hb
  refine wpE_mono _ l1 H1 hl1 ?_ (sent_Log_pack_s32_i _ R l1 H1 hl1 hb)
  intro e l2 H2 hl2 hq
  cases e with
  | normal => exact fun _ => (by obtain ⟨d0, d2, d15, g1, g2⟩ := hq; exact ⟨⟨d0.trans e0, d2.trans e2, d15.trans e15, g1⟩, g2⟩)
  | _ => exact hq
theorem sent_Log_pack_ok : okB sent_Log_pack_pi sent_Log_pack_c1 = true := by kernel_rfl
theorem sent_Log_pack_ev (x0 : Value) (R : Value → Heap → Prop) (H : Heap) (h : sent_Log_pack x0 R H) : EvF P N.sent_Log_pack #[x0] H R :=
  EvF_intro (args := [x0]) (k := 45) (rs := sent_Log_pack_rs) tab_ok mixed Try.func35 (show Try.f35.body = some sent_Log_pack_c1 by kernel_rfl) Try.call35 Try.ntmps35 (by kernel_rfl) (okCode_of _ sent_Log_pack_ok) rfl (sent_Log_pack_i R x0 H h)
/- 36: (*sounder/sent.Log).at -/
def sent_Log_at_rs : List ResultVar := [.tmp 4]
noncomputable def sent_Log_at_c2 : Code := subC (bodyC Try.f36) [0]
noncomputable def sent_Log_at_c4 : Code := subC (bodyC Try.f36) [1, 0]
noncomputable def sent_Log_at_c3 : Code := .seq sent_Log_at_c4 Code.ret
noncomputable def sent_Log_at_c1 : Code := .seq sent_Log_at_c2 sent_Log_at_c3
def sent_Log_at_pi (i : Nat) : Pl := match i with
  | 1 => (ones [0, 1, 2, 3, 4, 5, 6, 7, 8, 9, 10, 11, 12, 13, 14, 15, 16, 17] .nil)
  | _ => .nil
def sent_Log_at_g5 (S : Value → Value → Heap → Prop) (x0 x1 : Value) (H : Heap) : Prop :=
  S x0 x1 H
theorem sent_Log_at_g5_e (S : Value → Value → Heap → Prop) (x : Nat → Value) (H : Heap) : wpE tab P sent_Log_at_pi sent_Log_at_c2 (nQ fun l H => S (l.getD 0 undef) (l.getD 1 undef) H) ((List.range 22).map x) H = sent_Log_at_g5 S (x 0) (x 1) H := by kernel_rfl
def sent_Log_at_g6 (S : Value → Heap → Prop) (x0 x1 : Value) (H : Heap) : Prop :=
  bnd (nilV x0) fun v6 =>
  bnd (faV 2 v6) fun v7 =>
  bnd (ldE false 1 v7 H) fun v8 =>
  bnd (nilV x0) fun v10 =>
  bnd (faV 3 v10) fun v11 =>
  bnd (ldE false 1 v11 H) fun v12 =>
  bnd (binV .int .add v12 x1) fun v14 =>
  bnd (nilV x0) fun v16 =>
  bnd (faV 2 v16) fun v17 =>
  bnd (ldE false 1 v17 H) fun v18 =>
  bnd (lenV v18) fun v19 =>
  bnd (binV .int .rem v14 v19) fun v20 =>
  bnd (ixSV 7 v8 v20) fun v21 =>
  S v21 H
theorem sent_Log_at_g6_e (S : Value → Heap → Prop) (x : Nat → Value) (H : Heap) : wpE tab P sent_Log_at_pi sent_Log_at_c4 (nQ fun l H => S (l.getD 4 undef) H) ((List.range 22).map x) H = sent_Log_at_g6 S (x 0) (x 1) H := by kernel_rfl
def sent_Log_at (x0 x1 : Value) (R : Value → Heap → Prop) (H : Heap) : Prop :=
  sent_Log_at_g5 (fun x0 x1 H => sent_Log_at_g6 (fun x4 H => R x4 H) x0 x1 H) x0 x1 H
theorem sent_Log_at_i (R : Value → Heap → Prop) (x0 x1 : Value) (H : Heap) (h : sent_Log_at x0 x1 R H) : wpE tab P sent_Log_at_pi sent_Log_at_c1 (retQ tab sent_Log_at_rs R) [x0, x1, undef, undef, undef, undef, undef, undef, undef, undef, undef, undef, undef, undef, undef, undef, undef, undef, undef, undef, undef, undef] H := by
  obtain ⟨l, hl, el⟩ : ∃ l : List Value, l.length = 22 ∧ l = [x0, x1, undef, undef, undef, undef, undef, undef, undef, undef, undef, undef, undef, undef, undef, undef, undef, undef, undef, undef, undef, undef] := ⟨_, rfl, rfl⟩
  rw [← el]
  have h : (fun (x0 x1 : Value) => sent_Log_at_g5 (fun x0 x1 H => sent_Log_at_g6 (fun x4 H => R x4 H) x0 x1 H) x0 x1 H) (l.getD 0 undef) (l.getD 1 undef) := by rw [el]; exact h
  clear el
  refine seqI (c := sent_Log_at_c1) rfl ?_
  refine regI hl (Eq.mpr (sent_Log_at_g5_e _ (fun i => l.getD i undef) _) h) ?_
  clear h hl
  intro l H hl h
  refine thenN ?_
  refine seqI (c := sent_Log_at_c3) rfl ?_
  refine regI hl (Eq.mpr (sent_Log_at_g6_e _ (fun i => l.getD i undef) _) h) ?_
  clear h hl
  intro l H hl h
  refine thenN ?_
  refine retI rfl ?_
  exact h
theorem sent_Log_at_ok : okB sent_Log_at_pi sent_Log_at_c1 = true := by kernel_rfl
theorem sent_Log_at_ev (x0 x1 : Value) (R : Value → Heap → Prop) (H : Heap) (h : sent_Log_at x0 x1 R H) : EvF P N.sent_Log_at #[x0, x1] H R :=
  EvF_intro (args := [x0, x1]) (k := 20) (rs := sent_Log_at_rs) tab_ok mixed Try.func36 (show Try.f36.body = some sent_Log_at_c1 by kernel_rfl) Try.call36 Try.ntmps36 (by kernel_rfl) (okCode_of _ sent_Log_at_ok) rfl (sent_Log_at_i R x0 x1 H h)
/- 37: (*sounder/sent.Log).more -/
def sent_Log_more_rs : List ResultVar := []
noncomputable def sent_Log_more_c2 : Code := subC (bodyC Try.f37) [0]
noncomputable def sent_Log_more_c3 : Code := subC (bodyC Try.f37) [1]
noncomputable def sent_Log_more_c1 : Code := .seq sent_Log_more_c2 sent_Log_more_c3
def sent_Log_more_pi (_ : Nat) : Pl := .nil
def sent_Log_more_g4 (S : Value → Value → Heap → Prop) (x0 x1 : Value) (H : Heap) : Prop :=
  newE 30 (Value.cells x1) H fun v3 H1 =>
  S x0 v3 H1
theorem sent_Log_more_g4_e (S : Value → Value → Heap → Prop) (x : Nat → Value) (H : Heap) : wpE tab P sent_Log_more_pi sent_Log_more_c2 (nQ fun l H => S (l.getD 0 undef) (l.getD 3 undef) H) ((List.range 7).map x) H = sent_Log_more_g4 S (x 0) (x 1) H := by kernel_rfl
def sent_Log_more_g5 (S : Heap → Prop) (x0 x3 : Value) (H : Heap) : Prop :=
  bnd (ldE true 6 x3 H) fun v5 =>
  EvF P N.sent_Log_count #[x0, v5, (.int .i64 1)] H fun _ H1 =>
  S H1
theorem sent_Log_more_g5_e (S : Heap → Prop) (x : Nat → Value) (H : Heap) : wpE tab P sent_Log_more_pi sent_Log_more_c3 (nQ fun _ H => S  H) ((List.range 7).map x) H = sent_Log_more_g5 S (x 0) (x 3) H := by kernel_rfl
def sent_Log_more (x0 x1 : Value) (R : Value → Heap → Prop) (H : Heap) : Prop :=
  sent_Log_more_g4 (fun x0 x3 H => sent_Log_more_g5 (fun H => R (.tuple #[]) H) x0 x3 H) x0 x1 H
theorem sent_Log_more_i (R : Value → Heap → Prop) (x0 x1 : Value) (H : Heap) (h : sent_Log_more x0 x1 R H) : wpE tab P sent_Log_more_pi sent_Log_more_c1 (retQ tab sent_Log_more_rs R) [x0, x1, undef, undef, undef, undef, undef] H := by
  obtain ⟨l, hl, el⟩ : ∃ l : List Value, l.length = 7 ∧ l = [x0, x1, undef, undef, undef, undef, undef] := ⟨_, rfl, rfl⟩
  rw [← el]
  have h : (fun (x0 x1 : Value) => sent_Log_more_g4 (fun x0 x3 H => sent_Log_more_g5 (fun H => R (.tuple #[]) H) x0 x3 H) x0 x1 H) (l.getD 0 undef) (l.getD 1 undef) := by rw [el]; exact h
  clear el
  refine seqI (c := sent_Log_more_c1) rfl ?_
  refine regI hl (Eq.mpr (sent_Log_more_g4_e _ (fun i => l.getD i undef) _) h) ?_
  clear h hl
  intro l H hl h
  refine thenN ?_
  refine regI hl (Eq.mpr (sent_Log_more_g5_e _ (fun i => l.getD i undef) _) h) ?_
  clear h hl
  intro l H hl h
  exact h
theorem sent_Log_more_ok : okB sent_Log_more_pi sent_Log_more_c1 = true := by kernel_rfl
theorem sent_Log_more_ev (x0 x1 : Value) (R : Value → Heap → Prop) (H : Heap) (h : sent_Log_more x0 x1 R H) : EvF P N.sent_Log_more #[x0, x1] H R :=
  EvF_intro (args := [x0, x1]) (k := 5) (rs := sent_Log_more_rs) tab_ok mixed Try.func37 (show Try.f37.body = some sent_Log_more_c1 by kernel_rfl) Try.call37 Try.ntmps37 (by kernel_rfl) (okCode_of _ sent_Log_more_ok) rfl (sent_Log_more_i R x0 x1 H h)
/- 38: (*sounder/sent.Log).slot -/
def sent_Log_slot_rs : List ResultVar := [.tmp 4]
noncomputable def sent_Log_slot_c2 : Code := subC (bodyC Try.f38) [0]
noncomputable def sent_Log_slot_c5 : Code := subC (bodyC Try.f38) [1, 0, 0]
noncomputable def sent_Log_slot_c8 : Code := subC (bodyC Try.f38) [1, 0, 1, 0, 0]
noncomputable def sent_Log_slot_c7 : Code := .seq sent_Log_slot_c8 Code.ret
noncomputable def sent_Log_slot_c6 : Code := .cond (.tmp 8) sent_Log_slot_c7 Code.skip
noncomputable def sent_Log_slot_c4 : Code := .seq sent_Log_slot_c5 sent_Log_slot_c6
noncomputable def sent_Log_slot_c10 : Code := subC (bodyC Try.f38) [1, 1, 0]
noncomputable def sent_Log_slot_c13 : Code := subC (bodyC Try.f38) [1, 1, 1, 0, 0]
noncomputable def sent_Log_slot_c16 : Code := subC (bodyC Try.f38) [1, 1, 1, 0, 1, 0, 0]
noncomputable def sent_Log_slot_c15 : Code := .seq sent_Log_slot_c16 Code.ret
noncomputable def sent_Log_slot_c14 : Code := .cond (.tmp 17) sent_Log_slot_c15 Code.skip
noncomputable def sent_Log_slot_c12 : Code := .seq sent_Log_slot_c13 sent_Log_slot_c14
noncomputable def sent_Log_slot_c19 : Code := subC (bodyC Try.f38) [1, 1, 1, 1, 0, 0]
noncomputable def sent_Log_slot_c21 : Code := subC (bodyC Try.f38) [1, 1, 1, 1, 0, 1, 0]
noncomputable def sent_Log_slot_c24 : Code := subC (bodyC Try.f38) [1, 1, 1, 1, 0, 1, 1, 0, 0]
noncomputable def sent_Log_slot_c23 : Code := .seq sent_Log_slot_c24 Code.ret
noncomputable def sent_Log_slot_c22 : Code := .cond (.tmp 33) sent_Log_slot_c23 Code.skip
noncomputable def sent_Log_slot_c20 : Code := .seq sent_Log_slot_c21 sent_Log_slot_c22
noncomputable def sent_Log_slot_c18 : Code := .seq sent_Log_slot_c19 sent_Log_slot_c20
noncomputable def sent_Log_slot_c26 : Code := subC (bodyC Try.f38) [1, 1, 1, 1, 1, 0]
noncomputable def sent_Log_slot_c25 : Code := .seq sent_Log_slot_c26 Code.ret
noncomputable def sent_Log_slot_c17 : Code := .seq sent_Log_slot_c18 sent_Log_slot_c25
noncomputable def sent_Log_slot_c11 : Code := .seq sent_Log_slot_c12 sent_Log_slot_c17
noncomputable def sent_Log_slot_c9 : Code := .seq sent_Log_slot_c10 sent_Log_slot_c11
noncomputable def sent_Log_slot_c3 : Code := .seq sent_Log_slot_c4 sent_Log_slot_c9
noncomputable def sent_Log_slot_c1 : Code := .seq sent_Log_slot_c2 sent_Log_slot_c3
def sent_Log_slot_pi (_ : Nat) : Pl := .nil
def sent_Log_slot_g27 (S : Value → Value → Heap → Prop) (x0 x1 : Value) (H : Heap) : Prop :=
  S x0 x1 H
theorem sent_Log_slot_g27_e (S : Value → Value → Heap → Prop) (x : Nat → Value) (H : Heap) : wpE tab P sent_Log_slot_pi sent_Log_slot_c2 (nQ fun l H => S (l.getD 0 undef) (l.getD 1 undef) H) ((List.range 35).map x) H = sent_Log_slot_g27 S (x 0) (x 1) H := by kernel_rfl
def sent_Log_slot_g28 (S : Value → Value → Value → Heap → Prop) (x0 x1 : Value) (H : Heap) : Prop :=
  EvF P N.sent_Log_none #[x0] H fun v8 H1 =>
  S x0 x1 v8 H1
theorem sent_Log_slot_g28_e (S : Value → Value → Value → Heap → Prop) (x : Nat → Value) (H : Heap) : wpE tab P sent_Log_slot_pi sent_Log_slot_c5 (nQ fun l H => S (l.getD 0 undef) (l.getD 1 undef) (l.getD 8 undef) H) ((List.range 35).map x) H = sent_Log_slot_g28 S (x 0) (x 1) H := by kernel_rfl
def sent_Log_slot_g29 (S : Value → Heap → Prop) (H : Heap) : Prop :=
  S (.pointer none) H
theorem sent_Log_slot_g29_e (S : Value → Heap → Prop) (x : Nat → Value) (H : Heap) : wpE tab P sent_Log_slot_pi sent_Log_slot_c8 (nQ fun l H => S (l.getD 4 undef) H) ((List.range 35).map x) H = sent_Log_slot_g29 S  H := by kernel_rfl
def sent_Log_slot_g30 (S : Value → Value → Value → Heap → Prop) (x0 x1 : Value) (H : Heap) : Prop :=
  EvF P N.sent_Log_find #[x0, x1] H fun v11 H1 =>
  S x0 x1 v11 H1
theorem sent_Log_slot_g30_e (S : Value → Value → Value → Heap → Prop) (x : Nat → Value) (H : Heap) : wpE tab P sent_Log_slot_pi sent_Log_slot_c10 (nQ fun l H => S (l.getD 0 undef) (l.getD 1 undef) (l.getD 5 undef) H) ((List.range 35).map x) H = sent_Log_slot_g30 S (x 0) (x 1) H := by kernel_rfl
def sent_Log_slot_g31 (S : Value → Value → Value → Value → Heap → Prop) (x0 x1 x5 : Value) (H : Heap) : Prop :=
  bnd (nilV x0) fun v14 =>
  bnd (faV 4 v14) fun v15 =>
  bnd (ldE false 1 v15 H) fun v16 =>
  bnd (binV .int .eql x5 v16) fun v17 =>
  S x0 x1 x5 v17 H
theorem sent_Log_slot_g31_e (S : Value → Value → Value → Value → Heap → Prop) (x : Nat → Value) (H : Heap) : wpE tab P sent_Log_slot_pi sent_Log_slot_c13 (nQ fun l H => S (l.getD 0 undef) (l.getD 1 undef) (l.getD 5 undef) (l.getD 17 undef) H) ((List.range 35).map x) H = sent_Log_slot_g31 S (x 0) (x 1) (x 5) H := by kernel_rfl
def sent_Log_slot_g32 (S : Value → Heap → Prop) (H : Heap) : Prop :=
  S (.pointer none) H
theorem sent_Log_slot_g32_e (S : Value → Heap → Prop) (x : Nat → Value) (H : Heap) : wpE tab P sent_Log_slot_pi sent_Log_slot_c16 (nQ fun l H => S (l.getD 4 undef) H) ((List.range 35).map x) H = sent_Log_slot_g32 S  H := by kernel_rfl
def sent_Log_slot_g33 (S : Value → Value → Heap → Prop) (x0 x1 x5 : Value) (H : Heap) : Prop :=
  EvF P N.sent_Log_at #[x0, x5] H fun v20 H1 =>
  S x1 v20 H1
theorem sent_Log_slot_g33_e (S : Value → Value → Heap → Prop) (x : Nat → Value) (H : Heap) : wpE tab P sent_Log_slot_pi sent_Log_slot_c19 (nQ fun l H => S (l.getD 1 undef) (l.getD 6 undef) H) ((List.range 35).map x) H = sent_Log_slot_g33 S (x 0) (x 1) (x 5) H := by kernel_rfl
def sent_Log_slot_g34 (S : Value → Value → Heap → Prop) (x1 x6 : Value) (H : Heap) : Prop :=
  bnd (nilV x6) fun v22 =>
  bnd (faV 0 v22) fun v23 =>
  bnd (faV 0 v23) fun v24 =>
  bnd (ldE false 1 v24 H) fun v25 =>
  bnd (binV .int .eql v25 x1) fun v27 =>
  brV v27
  (bnd (nilV x6) fun v30 =>
  bnd (faV 6 v30) fun v31 =>
  bnd (ldE false 1 v31 H) fun v32 =>
  S x6 v32 H)
  (S x6 (.bool false) H)
theorem sent_Log_slot_g34_e (S : Value → Value → Heap → Prop) (x : Nat → Value) (H : Heap) : wpE tab P sent_Log_slot_pi sent_Log_slot_c21 (nQ fun l H => S (l.getD 6 undef) (l.getD 33 undef) H) ((List.range 35).map x) H = sent_Log_slot_g34 S (x 1) (x 6) H := by kernel_rfl
def sent_Log_slot_g35 (S : Value → Heap → Prop) (x6 : Value) (H : Heap) : Prop :=
  S x6 H
theorem sent_Log_slot_g35_e (S : Value → Heap → Prop) (x : Nat → Value) (H : Heap) : wpE tab P sent_Log_slot_pi sent_Log_slot_c24 (nQ fun l H => S (l.getD 4 undef) H) ((List.range 35).map x) H = sent_Log_slot_g35 S (x 6) H := by kernel_rfl
def sent_Log_slot_g36 (S : Value → Heap → Prop) (H : Heap) : Prop :=
  S (.pointer none) H
theorem sent_Log_slot_g36_e (S : Value → Heap → Prop) (x : Nat → Value) (H : Heap) : wpE tab P sent_Log_slot_pi sent_Log_slot_c26 (nQ fun l H => S (l.getD 4 undef) H) ((List.range 35).map x) H = sent_Log_slot_g36 S  H := by kernel_rfl
def sent_Log_slot (x0 x1 : Value) (R : Value → Heap → Prop) (H : Heap) : Prop :=
  sent_Log_slot_g27 (fun x0 x1 H => sent_Log_slot_g28 (fun x0 x1 x8 H => brV x8
  (sent_Log_slot_g29 (fun x4 H => R x4 H) H)
  (sent_Log_slot_g30 (fun x0 x1 x5 H => sent_Log_slot_g31 (fun x0 x1 x5 x17 H => brV x17
  (sent_Log_slot_g32 (fun x4 H => R x4 H) H)
  (sent_Log_slot_g33 (fun x1 x6 H => sent_Log_slot_g34 (fun x6 x33 H => brV x33
  (sent_Log_slot_g35 (fun x4 H => R x4 H) x6 H)
  (sent_Log_slot_g36 (fun x4 H => R x4 H) H)) x1 x6 H) x0 x1 x5 H)) x0 x1 x5 H) x0 x1 H)) x0 x1 H) x0 x1 H
theorem sent_Log_slot_i (R : Value → Heap → Prop) (x0 x1 : Value) (H : Heap) (h : sent_Log_slot x0 x1 R H) : wpE tab P sent_Log_slot_pi sent_Log_slot_c1 (retQ tab sent_Log_slot_rs R) [x0, x1, undef, undef, undef, undef, undef, undef, undef, undef, undef, undef, undef, undef, undef, undef, undef, undef, undef, undef, undef, undef, undef, undef, undef, undef, undef, undef, undef, undef, undef, undef, undef, undef, undef] H := by
  obtain ⟨l, hl, el⟩ : ∃ l : List Value, l.length = 35 ∧ l = [x0, x1, undef, undef, undef, undef, undef, undef, undef, undef, undef, undef, undef, undef, undef, undef, undef, undef, undef, undef, undef, undef, undef, undef, undef, undef, undef, undef, undef, undef, undef, undef, undef, undef, undef] := ⟨_, rfl, rfl⟩
  rw [← el]
  have h : (fun (x0 x1 : Value) => sent_Log_slot_g27 (fun x0 x1 H => sent_Log_slot_g28 (fun x0 x1 x8 H => brV x8
(sent_Log_slot_g29 (fun x4 H => R x4 H) H)
(sent_Log_slot_g30 (fun x0 x1 x5 H => sent_Log_slot_g31 (fun x0 x1 x5 x17 H => brV x17
(sent_Log_slot_g32 (fun x4 H => R x4 H) H)
(sent_Log_slot_g33 (fun x1 x6 H => sent_Log_slot_g34 (fun x6 x33 H => brV x33
(sent_Log_slot_g35 (fun x4 H => R x4 H) x6 H)
(sent_Log_slot_g36 (fun x4 H => R x4 H) H)) x1 x6 H) x0 x1 x5 H)) x0 x1 x5 H) x0 x1 H)) x0 x1 H) x0 x1 H) (l.getD 0 undef) (l.getD 1 undef) := by rw [el]; exact h
  clear el
  refine seqI (c := sent_Log_slot_c1) rfl ?_
  refine regI hl (Eq.mpr (sent_Log_slot_g27_e _ (fun i => l.getD i undef) _) h) ?_
  clear h hl
  intro l H hl h
  refine thenN ?_
  refine seqI (c := sent_Log_slot_c3) rfl ?_
  refine seqI (c := sent_Log_slot_c4) rfl ?_
  refine regI hl (Eq.mpr (sent_Log_slot_g28_e _ (fun i => l.getD i undef) _) h) ?_
  clear h hl
  intro l H hl h
  refine thenN ?_
  refine condI (c := sent_Log_slot_c6) rfl h ?_ ?_
  · clear h; intro h
    refine seqI (c := sent_Log_slot_c7) rfl ?_
    refine regI hl (Eq.mpr (sent_Log_slot_g29_e _ (fun i => l.getD i undef) _) h) ?_
    clear h hl
    intro l H hl h
    refine thenN ?_
    refine retI rfl ?_
    refine thenR ?_
    exact h
  · clear h; intro h
    refine skipI rfl ?_
    refine thenN ?_
    refine seqI (c := sent_Log_slot_c9) rfl ?_
    refine regI hl (Eq.mpr (sent_Log_slot_g30_e _ (fun i => l.getD i undef) _) h) ?_
    clear h hl
    intro l H hl h
    refine thenN ?_
    refine seqI (c := sent_Log_slot_c11) rfl ?_
    refine seqI (c := sent_Log_slot_c12) rfl ?_
    refine regI hl (Eq.mpr (sent_Log_slot_g31_e _ (fun i => l.getD i undef) _) h) ?_
    clear h hl
    intro l H hl h
    refine thenN ?_
    refine condI (c := sent_Log_slot_c14) rfl h ?_ ?_
    · clear h; intro h
      refine seqI (c := sent_Log_slot_c15) rfl ?_
      refine regI hl (Eq.mpr (sent_Log_slot_g32_e _ (fun i => l.getD i undef) _) h) ?_
      clear h hl
      intro l H hl h
      refine thenN ?_
      refine retI rfl ?_
      refine thenR ?_
      exact h
    · clear h; intro h
      refine skipI rfl ?_
      refine thenN ?_
      refine seqI (c := sent_Log_slot_c17) rfl ?_
      refine seqI (c := sent_Log_slot_c18) rfl ?_
      refine regI hl (Eq.mpr (sent_Log_slot_g33_e _ (fun i => l.getD i undef) _) h) ?_
      clear h hl
      intro l H hl h
      refine thenN ?_
      refine seqI (c := sent_Log_slot_c20) rfl ?_
      refine regI hl (Eq.mpr (sent_Log_slot_g34_e _ (fun i => l.getD i undef) _) h) ?_
      clear h hl
      intro l H hl h
      refine thenN ?_
      refine condI (c := sent_Log_slot_c22) rfl h ?_ ?_
      · clear h; intro h
        refine seqI (c := sent_Log_slot_c23) rfl ?_
        refine regI hl (Eq.mpr (sent_Log_slot_g35_e _ (fun i => l.getD i undef) _) h) ?_
        clear h hl
        intro l H hl h
        refine thenN ?_
        refine retI rfl ?_
        refine thenR ?_
        exact h
      · clear h; intro h
        refine skipI rfl ?_
        refine thenN ?_
        refine seqI (c := sent_Log_slot_c25) rfl ?_
        refine regI hl (Eq.mpr (sent_Log_slot_g36_e _ (fun i => l.getD i undef) _) h) ?_
        clear h hl
        intro l H hl h
        refine thenN ?_
        refine retI rfl ?_
        exact h
theorem sent_Log_slot_ok : okB sent_Log_slot_pi sent_Log_slot_c1 = true := by kernel_rfl
theorem sent_Log_slot_ev (x0 x1 : Value) (R : Value → Heap → Prop) (H : Heap) (h : sent_Log_slot x0 x1 R H) : EvF P N.sent_Log_slot #[x0, x1] H R :=
  EvF_intro (args := [x0, x1]) (k := 33) (rs := sent_Log_slot_rs) tab_ok mixed Try.func38 (show Try.f38.body = some sent_Log_slot_c1 by kernel_rfl) Try.call38 Try.ntmps38 (by kernel_rfl) (okCode_of _ sent_Log_slot_ok) rfl (sent_Log_slot_i R x0 x1 H h)
/- 39: (*sounder/sent.Log).less -/
def sent_Log_less_rs : List ResultVar := []
noncomputable def sent_Log_less_c2 : Code := subC (bodyC Try.f39) [0]
noncomputable def sent_Log_less_c3 : Code := subC (bodyC Try.f39) [1]
noncomputable def sent_Log_less_c1 : Code := .seq sent_Log_less_c2 sent_Log_less_c3
def sent_Log_less_pi (_ : Nat) : Pl := .nil
def sent_Log_less_g4 (S : Value → Value → Heap → Prop) (x0 x1 : Value) (H : Heap) : Prop :=
  newE 30 (Value.cells x1) H fun v3 H1 =>
  S x0 v3 H1
theorem sent_Log_less_g4_e (S : Value → Value → Heap → Prop) (x : Nat → Value) (H : Heap) : wpE tab P sent_Log_less_pi sent_Log_less_c2 (nQ fun l H => S (l.getD 0 undef) (l.getD 3 undef) H) ((List.range 7).map x) H = sent_Log_less_g4 S (x 0) (x 1) H := by kernel_rfl
def sent_Log_less_g5 (S : Heap → Prop) (x0 x3 : Value) (H : Heap) : Prop :=
  bnd (ldE true 6 x3 H) fun v5 =>
  EvF P N.sent_Log_count #[x0, v5, (.int .i64 (-1))] H fun _ H1 =>
  S H1
theorem sent_Log_less_g5_e (S : Heap → Prop) (x : Nat → Value) (H : Heap) : wpE tab P sent_Log_less_pi sent_Log_less_c3 (nQ fun _ H => S  H) ((List.range 7).map x) H = sent_Log_less_g5 S (x 0) (x 3) H := by kernel_rfl
def sent_Log_less (x0 x1 : Value) (R : Value → Heap → Prop) (H : Heap) : Prop :=
  sent_Log_less_g4 (fun x0 x3 H => sent_Log_less_g5 (fun H => R (.tuple #[]) H) x0 x3 H) x0 x1 H
theorem sent_Log_less_i (R : Value → Heap → Prop) (x0 x1 : Value) (H : Heap) (h : sent_Log_less x0 x1 R H) : wpE tab P sent_Log_less_pi sent_Log_less_c1 (retQ tab sent_Log_less_rs R) [x0, x1, undef, undef, undef, undef, undef] H := by
  obtain ⟨l, hl, el⟩ : ∃ l : List Value, l.length = 7 ∧ l = [x0, x1, undef, undef, undef, undef, undef] := ⟨_, rfl, rfl⟩
  rw [← el]
  have h : (fun (x0 x1 : Value) => sent_Log_less_g4 (fun x0 x3 H => sent_Log_less_g5 (fun H => R (.tuple #[]) H) x0 x3 H) x0 x1 H) (l.getD 0 undef) (l.getD 1 undef) := by rw [el]; exact h
  clear el
  refine seqI (c := sent_Log_less_c1) rfl ?_
  refine regI hl (Eq.mpr (sent_Log_less_g4_e _ (fun i => l.getD i undef) _) h) ?_
  clear h hl
  intro l H hl h
  refine thenN ?_
  refine regI hl (Eq.mpr (sent_Log_less_g5_e _ (fun i => l.getD i undef) _) h) ?_
  clear h hl
  intro l H hl h
  exact h
theorem sent_Log_less_ok : okB sent_Log_less_pi sent_Log_less_c1 = true := by kernel_rfl
theorem sent_Log_less_ev (x0 x1 : Value) (R : Value → Heap → Prop) (H : Heap) (h : sent_Log_less x0 x1 R H) : EvF P N.sent_Log_less #[x0, x1] H R :=
  EvF_intro (args := [x0, x1]) (k := 5) (rs := sent_Log_less_rs) tab_ok mixed Try.func39 (show Try.f39.body = some sent_Log_less_c1 by kernel_rfl) Try.call39 Try.ntmps39 (by kernel_rfl) (okCode_of _ sent_Log_less_ok) rfl (sent_Log_less_i R x0 x1 H h)
/- 40: (*sounder/sent.Log).total -/
def sent_Log_total_rs : List ResultVar := [.tmp 4]
noncomputable def sent_Log_total_c2 : Code := subC (bodyC Try.f40) [0]
noncomputable def sent_Log_total_c5 : Code := subC (bodyC Try.f40) [1, 0, 0]
noncomputable def sent_Log_total_c8 : Code := subC (bodyC Try.f40) [1, 0, 1, 0, 0]
noncomputable def sent_Log_total_c7 : Code := .seq sent_Log_total_c8 Code.ret
noncomputable def sent_Log_total_c6 : Code := .cond (.tmp 6) sent_Log_total_c7 Code.skip
noncomputable def sent_Log_total_c4 : Code := .seq sent_Log_total_c5 sent_Log_total_c6
noncomputable def sent_Log_total_c10 : Code := subC (bodyC Try.f40) [1, 1, 0]
noncomputable def sent_Log_total_c9 : Code := .seq sent_Log_total_c10 Code.ret
noncomputable def sent_Log_total_c3 : Code := .seq sent_Log_total_c4 sent_Log_total_c9
noncomputable def sent_Log_total_c1 : Code := .seq sent_Log_total_c2 sent_Log_total_c3
def sent_Log_total_pi (_ : Nat) : Pl := .nil
def sent_Log_total_g11 (S : Value → Value → Heap → Prop) (x0 x1 : Value) (H : Heap) : Prop :=
  S x0 x1 H
theorem sent_Log_total_g11_e (S : Value → Value → Heap → Prop) (x : Nat → Value) (H : Heap) : wpE tab P sent_Log_total_pi sent_Log_total_c2 (nQ fun l H => S (l.getD 0 undef) (l.getD 1 undef) H) ((List.range 9).map x) H = sent_Log_total_g11 S (x 0) (x 1) H := by kernel_rfl
def sent_Log_total_g12 (S : Value → Value → Heap → Prop) (x0 x1 : Value) (H : Heap) : Prop :=
  EvF P N.sent_Log_none #[x0] H fun v6 H1 =>
  S x1 v6 H1
theorem sent_Log_total_g12_e (S : Value → Value → Heap → Prop) (x : Nat → Value) (H : Heap) : wpE tab P sent_Log_total_pi sent_Log_total_c5 (nQ fun l H => S (l.getD 1 undef) (l.getD 6 undef) H) ((List.range 9).map x) H = sent_Log_total_g12 S (x 0) (x 1) H := by kernel_rfl
def sent_Log_total_g13 (S : Value → Heap → Prop) (H : Heap) : Prop :=
  S (.int .i64 0) H
theorem sent_Log_total_g13_e (S : Value → Heap → Prop) (x : Nat → Value) (H : Heap) : wpE tab P sent_Log_total_pi sent_Log_total_c8 (nQ fun l H => S (l.getD 4 undef) H) ((List.range 9).map x) H = sent_Log_total_g13 S  H := by kernel_rfl
def sent_Log_total_g14 (S : Value → Heap → Prop) (x1 : Value) (H : Heap) : Prop :=
  callV P x1 [] H fun v8 H1 =>
  S v8 H1
theorem sent_Log_total_g14_e (S : Value → Heap → Prop) (x : Nat → Value) (H : Heap) : wpE tab P sent_Log_total_pi sent_Log_total_c10 (nQ fun l H => S (l.getD 4 undef) H) ((List.range 9).map x) H = sent_Log_total_g14 S (x 1) H := by kernel_rfl
def sent_Log_total (x0 x1 : Value) (R : Value → Heap → Prop) (H : Heap) : Prop :=
  sent_Log_total_g11 (fun x0 x1 H => sent_Log_total_g12 (fun x1 x6 H => brV x6
  (sent_Log_total_g13 (fun x4 H => R x4 H) H)
  (sent_Log_total_g14 (fun x4 H => R x4 H) x1 H)) x0 x1 H) x0 x1 H
theorem sent_Log_total_i (R : Value → Heap → Prop) (x0 x1 : Value) (H : Heap) (h : sent_Log_total x0 x1 R H) : wpE tab P sent_Log_total_pi sent_Log_total_c1 (retQ tab sent_Log_total_rs R) [x0, x1, undef, undef, undef, undef, undef, undef, undef] H := by
  obtain ⟨l, hl, el⟩ : ∃ l : List Value, l.length = 9 ∧ l = [x0, x1, undef, undef, undef, undef, undef, undef, undef] := ⟨_, rfl, rfl⟩
  rw [← el]
  have h : (fun (x0 x1 : Value) => sent_Log_total_g11 (fun x0 x1 H => sent_Log_total_g12 (fun x1 x6 H => brV x6
(sent_Log_total_g13 (fun x4 H => R x4 H) H)
(sent_Log_total_g14 (fun x4 H => R x4 H) x1 H)) x0 x1 H) x0 x1 H) (l.getD 0 undef) (l.getD 1 undef) := by rw [el]; exact h
  clear el
  refine seqI (c := sent_Log_total_c1) rfl ?_
  refine regI hl (Eq.mpr (sent_Log_total_g11_e _ (fun i => l.getD i undef) _) h) ?_
  clear h hl
  intro l H hl h
  refine thenN ?_
  refine seqI (c := sent_Log_total_c3) rfl ?_
  refine seqI (c := sent_Log_total_c4) rfl ?_
  refine regI hl (Eq.mpr (sent_Log_total_g12_e _ (fun i => l.getD i undef) _) h) ?_
  clear h hl
  intro l H hl h
  refine thenN ?_
  refine condI (c := sent_Log_total_c6) rfl h ?_ ?_
  · clear h; intro h
    refine seqI (c := sent_Log_total_c7) rfl ?_
    refine regI hl (Eq.mpr (sent_Log_total_g13_e _ (fun i => l.getD i undef) _) h) ?_
    clear h hl
    intro l H hl h
    refine thenN ?_
    refine retI rfl ?_
    refine thenR ?_
    exact h
  · clear h; intro h
    refine skipI rfl ?_
    refine thenN ?_
    refine seqI (c := sent_Log_total_c9) rfl ?_
    refine regI hl (Eq.mpr (sent_Log_total_g14_e _ (fun i => l.getD i undef) _) h) ?_
    clear h hl
    intro l H hl h
    refine thenN ?_
    refine retI rfl ?_
    exact h
theorem sent_Log_total_ok : okB sent_Log_total_pi sent_Log_total_c1 = true := by kernel_rfl
theorem sent_Log_total_ev (x0 x1 : Value) (R : Value → Heap → Prop) (H : Heap) (h : sent_Log_total x0 x1 R H) : EvF P N.sent_Log_total #[x0, x1] H R :=
  EvF_intro (args := [x0, x1]) (k := 7) (rs := sent_Log_total_rs) tab_ok mixed Try.func40 (show Try.f40.body = some sent_Log_total_c1 by kernel_rfl) Try.call40 Try.ntmps40 (by kernel_rfl) (okCode_of _ sent_Log_total_ok) rfl (sent_Log_total_i R x0 x1 H h)
/- 41: (*sounder/sent.Log).Flight$1 -/
def sent_Log_Flight_1_rs : List ResultVar := [.tmp 1]
noncomputable def sent_Log_Flight_1_c2 : Code := subC (bodyC Try.f41) [0]
noncomputable def sent_Log_Flight_1_c4 : Code := subC (bodyC Try.f41) [1, 0]
noncomputable def sent_Log_Flight_1_c3 : Code := .seq sent_Log_Flight_1_c4 Code.ret
noncomputable def sent_Log_Flight_1_c1 : Code := .seq sent_Log_Flight_1_c2 sent_Log_Flight_1_c3
def sent_Log_Flight_1_pi (_ : Nat) : Pl := .nil
def sent_Log_Flight_1_g5 (S : Value → Heap → Prop) (x0 : Value) (H : Heap) : Prop :=
  S x0 H
theorem sent_Log_Flight_1_g5_e (S : Value → Heap → Prop) (x : Nat → Value) (H : Heap) : wpE tab P sent_Log_Flight_1_pi sent_Log_Flight_1_c2 (nQ fun l H => S (l.getD 0 undef) H) ((List.range 6).map x) H = sent_Log_Flight_1_g5 S (x 0) H := by kernel_rfl
def sent_Log_Flight_1_g6 (S : Value → Heap → Prop) (x0 : Value) (H : Heap) : Prop :=
  bnd (ldE false 1 x0 H) fun v2 =>
  bnd (nilV v2) fun v3 =>
  bnd (faV 6 v3) fun v4 =>
  bnd (ldE false 1 v4 H) fun v5 =>
  S v5 H
theorem sent_Log_Flight_1_g6_e (S : Value → Heap → Prop) (x : Nat → Value) (H : Heap) : wpE tab P sent_Log_Flight_1_pi sent_Log_Flight_1_c4 (nQ fun l H => S (l.getD 1 undef) H) ((List.range 6).map x) H = sent_Log_Flight_1_g6 S (x 0) H := by kernel_rfl
def sent_Log_Flight_1 (x0 : Value) (R : Value → Heap → Prop) (H : Heap) : Prop :=
  sent_Log_Flight_1_g5 (fun x0 H => sent_Log_Flight_1_g6 (fun x1 H => R x1 H) x0 H) x0 H
theorem sent_Log_Flight_1_i (R : Value → Heap → Prop) (x0 : Value) (H : Heap) (h : sent_Log_Flight_1 x0 R H) : wpE tab P sent_Log_Flight_1_pi sent_Log_Flight_1_c1 (retQ tab sent_Log_Flight_1_rs R) [x0, undef, undef, undef, undef, undef] H := by
  obtain ⟨l, hl, el⟩ : ∃ l : List Value, l.length = 6 ∧ l = [x0, undef, undef, undef, undef, undef] := ⟨_, rfl, rfl⟩
  rw [← el]
  have h : (fun (x0 : Value) => sent_Log_Flight_1_g5 (fun x0 H => sent_Log_Flight_1_g6 (fun x1 H => R x1 H) x0 H) x0 H) (l.getD 0 undef) := by rw [el]; exact h
  clear el
  refine seqI (c := sent_Log_Flight_1_c1) rfl ?_
  refine regI hl (Eq.mpr (sent_Log_Flight_1_g5_e _ (fun i => l.getD i undef) _) h) ?_
  clear h hl
  intro l H hl h
  refine thenN ?_
  refine seqI (c := sent_Log_Flight_1_c3) rfl ?_
  refine regI hl (Eq.mpr (sent_Log_Flight_1_g6_e _ (fun i => l.getD i undef) _) h) ?_
  clear h hl
  intro l H hl h
  refine thenN ?_
  refine retI rfl ?_
  exact h
theorem sent_Log_Flight_1_ok : okB sent_Log_Flight_1_pi sent_Log_Flight_1_c1 = true := by kernel_rfl
theorem sent_Log_Flight_1_ev (x0 : Value) (R : Value → Heap → Prop) (H : Heap) (h : sent_Log_Flight_1 x0 R H) : EvF P N.sent_Log_Flight_1 #[x0] H R :=
  EvF_intro (args := [x0]) (k := 5) (rs := sent_Log_Flight_1_rs) tab_ok mixed Try.func41 (show Try.f41.body = some sent_Log_Flight_1_c1 by kernel_rfl) Try.call41 Try.ntmps41 (by kernel_rfl) (okCode_of _ sent_Log_Flight_1_ok) rfl (sent_Log_Flight_1_i R x0 H h)
/- 42: (*sounder/sent.Log).Eliciting$1 -/
def sent_Log_Eliciting_1_rs : List ResultVar := [.tmp 1]
noncomputable def sent_Log_Eliciting_1_c2 : Code := subC (bodyC Try.f42) [0]
noncomputable def sent_Log_Eliciting_1_c4 : Code := subC (bodyC Try.f42) [1, 0]
noncomputable def sent_Log_Eliciting_1_c3 : Code := .seq sent_Log_Eliciting_1_c4 Code.ret
noncomputable def sent_Log_Eliciting_1_c1 : Code := .seq sent_Log_Eliciting_1_c2 sent_Log_Eliciting_1_c3
def sent_Log_Eliciting_1_pi (_ : Nat) : Pl := .nil
def sent_Log_Eliciting_1_g5 (S : Value → Heap → Prop) (x0 : Value) (H : Heap) : Prop :=
  S x0 H
theorem sent_Log_Eliciting_1_g5_e (S : Value → Heap → Prop) (x : Nat → Value) (H : Heap) : wpE tab P sent_Log_Eliciting_1_pi sent_Log_Eliciting_1_c2 (nQ fun l H => S (l.getD 0 undef) H) ((List.range 6).map x) H = sent_Log_Eliciting_1_g5 S (x 0) H := by kernel_rfl
def sent_Log_Eliciting_1_g6 (S : Value → Heap → Prop) (x0 : Value) (H : Heap) : Prop :=
  bnd (ldE false 1 x0 H) fun v2 =>
  bnd (nilV v2) fun v3 =>
  bnd (faV 7 v3) fun v4 =>
  bnd (ldE false 1 v4 H) fun v5 =>
  S v5 H
theorem sent_Log_Eliciting_1_g6_e (S : Value → Heap → Prop) (x : Nat → Value) (H : Heap) : wpE tab P sent_Log_Eliciting_1_pi sent_Log_Eliciting_1_c4 (nQ fun l H => S (l.getD 1 undef) H) ((List.range 6).map x) H = sent_Log_Eliciting_1_g6 S (x 0) H := by kernel_rfl
def sent_Log_Eliciting_1 (x0 : Value) (R : Value → Heap → Prop) (H : Heap) : Prop :=
  sent_Log_Eliciting_1_g5 (fun x0 H => sent_Log_Eliciting_1_g6 (fun x1 H => R x1 H) x0 H) x0 H
theorem sent_Log_Eliciting_1_i (R : Value → Heap → Prop) (x0 : Value) (H : Heap) (h : sent_Log_Eliciting_1 x0 R H) : wpE tab P sent_Log_Eliciting_1_pi sent_Log_Eliciting_1_c1 (retQ tab sent_Log_Eliciting_1_rs R) [x0, undef, undef, undef, undef, undef] H := by
  obtain ⟨l, hl, el⟩ : ∃ l : List Value, l.length = 6 ∧ l = [x0, undef, undef, undef, undef, undef] := ⟨_, rfl, rfl⟩
  rw [← el]
  have h : (fun (x0 : Value) => sent_Log_Eliciting_1_g5 (fun x0 H => sent_Log_Eliciting_1_g6 (fun x1 H => R x1 H) x0 H) x0 H) (l.getD 0 undef) := by rw [el]; exact h
  clear el
  refine seqI (c := sent_Log_Eliciting_1_c1) rfl ?_
  refine regI hl (Eq.mpr (sent_Log_Eliciting_1_g5_e _ (fun i => l.getD i undef) _) h) ?_
  clear h hl
  intro l H hl h
  refine thenN ?_
  refine seqI (c := sent_Log_Eliciting_1_c3) rfl ?_
  refine regI hl (Eq.mpr (sent_Log_Eliciting_1_g6_e _ (fun i => l.getD i undef) _) h) ?_
  clear h hl
  intro l H hl h
  refine thenN ?_
  refine retI rfl ?_
  exact h
theorem sent_Log_Eliciting_1_ok : okB sent_Log_Eliciting_1_pi sent_Log_Eliciting_1_c1 = true := by kernel_rfl
theorem sent_Log_Eliciting_1_ev (x0 : Value) (R : Value → Heap → Prop) (H : Heap) (h : sent_Log_Eliciting_1 x0 R H) : EvF P N.sent_Log_Eliciting_1 #[x0] H R :=
  EvF_intro (args := [x0]) (k := 5) (rs := sent_Log_Eliciting_1_rs) tab_ok mixed Try.func42 (show Try.f42.body = some sent_Log_Eliciting_1_c1 by kernel_rfl) Try.call42 Try.ntmps42 (by kernel_rfl) (okCode_of _ sent_Log_Eliciting_1_ok) rfl (sent_Log_Eliciting_1_i R x0 H h)
/- 43: (*sounder/sent.Log).Len$1 -/
def sent_Log_Len_1_rs : List ResultVar := [.tmp 1]
noncomputable def sent_Log_Len_1_c2 : Code := subC (bodyC Try.f43) [0]
noncomputable def sent_Log_Len_1_c4 : Code := subC (bodyC Try.f43) [1, 0]
noncomputable def sent_Log_Len_1_c3 : Code := .seq sent_Log_Len_1_c4 Code.ret
noncomputable def sent_Log_Len_1_c1 : Code := .seq sent_Log_Len_1_c2 sent_Log_Len_1_c3
def sent_Log_Len_1_pi (_ : Nat) : Pl := .nil
def sent_Log_Len_1_g5 (S : Value → Heap → Prop) (x0 : Value) (H : Heap) : Prop :=
  S x0 H
theorem sent_Log_Len_1_g5_e (S : Value → Heap → Prop) (x : Nat → Value) (H : Heap) : wpE tab P sent_Log_Len_1_pi sent_Log_Len_1_c2 (nQ fun l H => S (l.getD 0 undef) H) ((List.range 6).map x) H = sent_Log_Len_1_g5 S (x 0) H := by kernel_rfl
def sent_Log_Len_1_g6 (S : Value → Heap → Prop) (x0 : Value) (H : Heap) : Prop :=
  bnd (ldE false 1 x0 H) fun v2 =>
  bnd (nilV v2) fun v3 =>
  bnd (faV 5 v3) fun v4 =>
  bnd (ldE false 1 v4 H) fun v5 =>
  S v5 H
theorem sent_Log_Len_1_g6_e (S : Value → Heap → Prop) (x : Nat → Value) (H : Heap) : wpE tab P sent_Log_Len_1_pi sent_Log_Len_1_c4 (nQ fun l H => S (l.getD 1 undef) H) ((List.range 6).map x) H = sent_Log_Len_1_g6 S (x 0) H := by kernel_rfl
def sent_Log_Len_1 (x0 : Value) (R : Value → Heap → Prop) (H : Heap) : Prop :=
  sent_Log_Len_1_g5 (fun x0 H => sent_Log_Len_1_g6 (fun x1 H => R x1 H) x0 H) x0 H
theorem sent_Log_Len_1_i (R : Value → Heap → Prop) (x0 : Value) (H : Heap) (h : sent_Log_Len_1 x0 R H) : wpE tab P sent_Log_Len_1_pi sent_Log_Len_1_c1 (retQ tab sent_Log_Len_1_rs R) [x0, undef, undef, undef, undef, undef] H := by
  obtain ⟨l, hl, el⟩ : ∃ l : List Value, l.length = 6 ∧ l = [x0, undef, undef, undef, undef, undef] := ⟨_, rfl, rfl⟩
  rw [← el]
  have h : (fun (x0 : Value) => sent_Log_Len_1_g5 (fun x0 H => sent_Log_Len_1_g6 (fun x1 H => R x1 H) x0 H) x0 H) (l.getD 0 undef) := by rw [el]; exact h
  clear el
  refine seqI (c := sent_Log_Len_1_c1) rfl ?_
  refine regI hl (Eq.mpr (sent_Log_Len_1_g5_e _ (fun i => l.getD i undef) _) h) ?_
  clear h hl
  intro l H hl h
  refine thenN ?_
  refine seqI (c := sent_Log_Len_1_c3) rfl ?_
  refine regI hl (Eq.mpr (sent_Log_Len_1_g6_e _ (fun i => l.getD i undef) _) h) ?_
  clear h hl
  intro l H hl h
  refine thenN ?_
  refine retI rfl ?_
  exact h
theorem sent_Log_Len_1_ok : okB sent_Log_Len_1_pi sent_Log_Len_1_c1 = true := by kernel_rfl
theorem sent_Log_Len_1_ev (x0 : Value) (R : Value → Heap → Prop) (H : Heap) (h : sent_Log_Len_1 x0 R H) : EvF P N.sent_Log_Len_1 #[x0] H R :=
  EvF_intro (args := [x0]) (k := 5) (rs := sent_Log_Len_1_rs) tab_ok mixed Try.func43 (show Try.f43.body = some sent_Log_Len_1_c1 by kernel_rfl) Try.call43 Try.ntmps43 (by kernel_rfl) (okCode_of _ sent_Log_Len_1_ok) rfl (sent_Log_Len_1_i R x0 H h)
/- 44: (*sounder/sent.Log).each -/
def sent_Log_each_rs : List ResultVar := []
noncomputable def sent_Log_each_c3 : Code := subC (bodyC Try.f44) [0, 0]
noncomputable def sent_Log_each_c4 : Code := .cond (.tmp 11) Code.ret Code.skip
noncomputable def sent_Log_each_c2 : Code := .seq sent_Log_each_c3 sent_Log_each_c4
noncomputable def sent_Log_each_c6 : Code := subC (bodyC Try.f44) [1, 0]
noncomputable def sent_Log_each_c11 : Code := subC (bodyC Try.f44) [1, 1, 0, 0, 0, 0]
noncomputable def sent_Log_each_c13 : Code := .exit 0
noncomputable def sent_Log_each_c12 : Code := .cond (.tmp 31) Code.skip sent_Log_each_c13
noncomputable def sent_Log_each_c10 : Code := .seq sent_Log_each_c11 sent_Log_each_c12
noncomputable def sent_Log_each_c17 : Code := subC (bodyC Try.f44) [1, 1, 0, 0, 1, 0, 0, 0]
noncomputable def sent_Log_each_c19 : Code := subC (bodyC Try.f44) [1, 1, 0, 0, 1, 0, 0, 1, 0]
noncomputable def sent_Log_each_c21 : Code := subC (bodyC Try.f44) [1, 1, 0, 0, 1, 0, 0, 1, 1, 0]
noncomputable def sent_Log_each_c20 : Code := .cond (.tmp 40) sent_Log_each_c21 Code.skip
noncomputable def sent_Log_each_c18 : Code := .seq sent_Log_each_c19 sent_Log_each_c20
noncomputable def sent_Log_each_c16 : Code := .seq sent_Log_each_c17 sent_Log_each_c18
noncomputable def sent_Log_each_c15 : Code := .block 1 sent_Log_each_c16
noncomputable def sent_Log_each_c22 : Code := subC (bodyC Try.f44) [1, 1, 0, 0, 1, 1]
noncomputable def sent_Log_each_c14 : Code := .seq sent_Log_each_c15 sent_Log_each_c22
noncomputable def sent_Log_each_c9 : Code := .seq sent_Log_each_c10 sent_Log_each_c14
noncomputable def sent_Log_each_c8 : Code := .loop sent_Log_each_c9
noncomputable def sent_Log_each_c7 : Code := .block 0 sent_Log_each_c8
noncomputable def sent_Log_each_c5 : Code := .seq sent_Log_each_c6 sent_Log_each_c7
noncomputable def sent_Log_each_c1 : Code := .seq sent_Log_each_c2 sent_Log_each_c5
def sent_Log_each_pi (_ : Nat) : Pl := .nil
def sent_Log_each_g23 (S : Value → Value → Value → Value → Value → Heap → Prop) (x0 x1 x2 x3 : Value) (H : Heap) : Prop :=
  EvF P N.sent_Log_none #[x0] H fun v11 H1 =>
  S x0 x1 x2 x3 v11 H1
theorem sent_Log_each_g23_e (S : Value → Value → Value → Value → Value → Heap → Prop) (x : Nat → Value) (H : Heap) : wpE tab P sent_Log_each_pi sent_Log_each_c3 (nQ fun l H => S (l.getD 0 undef) (l.getD 1 undef) (l.getD 2 undef) (l.getD 3 undef) (l.getD 11 undef) H) ((List.range 47).map x) H = sent_Log_each_g23 S (x 0) (x 1) (x 2) (x 3) H := by kernel_rfl
def sent_Log_each_g24 (S : Value → Value → Value → Value → Heap → Prop) (x0 x1 x2 x3 : Value) (H : Heap) : Prop :=
  EvF P N.sent_Log_find #[x0, x1] H fun v14 H1 =>
  S x0 x2 x3 v14 H1
theorem sent_Log_each_g24_e (S : Value → Value → Value → Value → Heap → Prop) (x : Nat → Value) (H : Heap) : wpE tab P sent_Log_each_pi sent_Log_each_c6 (nQ fun l H => S (l.getD 0 undef) (l.getD 2 undef) (l.getD 3 undef) (l.getD 8 undef) H) ((List.range 47).map x) H = sent_Log_each_g24 S (x 0) (x 1) (x 2) (x 3) H := by kernel_rfl
def sent_Log_each_g26 (S : Value → Value → Value → Value → Value → Heap → Prop) (x0 x2 x3 x8 : Value) (H : Heap) : Prop :=
  bnd (nilV x0) fun v17 =>
  bnd (faV 4 v17) fun v18 =>
  bnd (ldE false 1 v18 H) fun v19 =>
  bnd (binV .int .lss x8 v19) fun v20 =>
  brV v20
  (EvF P N.sent_Log_at #[x0, x8] H fun v24 H1 =>
  bnd (nilV v24) fun v25 =>
  bnd (faV 0 v25) fun v26 =>
  bnd (faV 0 v26) fun v27 =>
  bnd (ldE false 1 v27 H1) fun v28 =>
  bnd (binV .int .leq v28 x2) fun v30 =>
  S x0 x2 x3 x8 v30 H1)
  (S x0 x2 x3 x8 (.bool false) H)
theorem sent_Log_each_g26_e (S : Value → Value → Value → Value → Value → Heap → Prop) (x : Nat → Value) (H : Heap) : wpE tab P sent_Log_each_pi sent_Log_each_c11 (nQ fun l H => S (l.getD 0 undef) (l.getD 2 undef) (l.getD 3 undef) (l.getD 8 undef) (l.getD 31 undef) H) ((List.range 47).map x) H = sent_Log_each_g26 S (x 0) (x 2) (x 3) (x 8) H := by kernel_rfl
def sent_Log_each_g28 (S : Value → Value → Value → Value → Heap → Prop) (x0 x2 x3 x8 : Value) (H : Heap) : Prop :=
  bnd (binV .int .add x8 (.int .i64 1)) fun v33 =>
  S x0 x2 x3 v33 H
theorem sent_Log_each_g28_e (S : Value → Value → Value → Value → Heap → Prop) (x : Nat → Value) (H : Heap) : wpE tab P sent_Log_each_pi sent_Log_each_c22 (nQ fun l H => S (l.getD 0 undef) (l.getD 2 undef) (l.getD 3 undef) (l.getD 8 undef) H) ((List.range 47).map x) H = sent_Log_each_g28 S (x 0) (x 2) (x 3) (x 8) H := by kernel_rfl
def sent_Log_each_s27 (x0 x2 x3 x8 : Value) (K1 : Value → Value → Value → Value →  Heap → Prop) (_R : Value → Heap → Prop) (H : Heap) : Prop :=
  sent_Log_each_g28 (fun x0 x2 x3 x8 H => K1 x0 x2 x3 x8 H) x0 x2 x3 x8 H
noncomputable def sent_Log_each_q29 (R : Value → Heap → Prop) : Exit → List Value → Heap → Prop := (retQ tab sent_Log_each_rs R)
noncomputable def sent_Log_each_q30 (R : Value → Heap → Prop) : Exit → List Value → Heap → Prop := (blkE 0 (sent_Log_each_q29 R))
noncomputable def sent_Log_each_q31 (K1 : Value → Value → Value → Value →  Heap → Prop) (R : Value → Heap → Prop) : Exit → List Value → Heap → Prop := (thenE (fun l H => K1 (l.getD 0 undef) (l.getD 2 undef) (l.getD 3 undef) (l.getD 8 undef) H) (sent_Log_each_q30 R))
theorem sent_Log_each_s27_i (K1 : Value → Value → Value → Value →  Heap → Prop) (R : Value → Heap → Prop) (l : List Value) (H : Heap) (hl : l.length = 47) (h : sent_Log_each_s27 (l.getD 0 undef) (l.getD 2 undef) (l.getD 3 undef) (l.getD 8 undef) K1 R H) : wpE tab P sent_Log_each_pi sent_Log_each_c22 (sent_Log_each_q31 K1 R) l H := by
  refine regI hl (Eq.mpr (sent_Log_each_g28_e _ (fun i => l.getD i undef) _) h) ?_
  clear h hl
  intro l H hl h
  refine thenN ?_
  exact h
def sent_Log_each_g32 (S : Value → Value → Value → Value → Value → Heap → Prop) (x0 x2 x3 x8 : Value) (H : Heap) : Prop :=
  EvF P N.sent_Log_at #[x0, x8] H fun v36 H1 =>
  S x0 x2 x3 x8 v36 H1
theorem sent_Log_each_g32_e (S : Value → Value → Value → Value → Value → Heap → Prop) (x : Nat → Value) (H : Heap) : wpE tab P sent_Log_each_pi sent_Log_each_c17 (nQ fun l H => S (l.getD 0 undef) (l.getD 2 undef) (l.getD 3 undef) (l.getD 8 undef) (l.getD 9 undef) H) ((List.range 47).map x) H = sent_Log_each_g32 S (x 0) (x 2) (x 3) (x 8) H := by kernel_rfl
def sent_Log_each_g33 (S : Value → Value → Value → Value → Value → Value → Heap → Prop) (x0 x2 x3 x8 x9 : Value) (H : Heap) : Prop :=
  bnd (nilV x9) fun v38 =>
  bnd (faV 6 v38) fun v39 =>
  bnd (ldE false 1 v39 H) fun v40 =>
  S x0 x2 x3 x8 x9 v40 H
theorem sent_Log_each_g33_e (S : Value → Value → Value → Value → Value → Value → Heap → Prop) (x : Nat → Value) (H : Heap) : wpE tab P sent_Log_each_pi sent_Log_each_c19 (nQ fun l H => S (l.getD 0 undef) (l.getD 2 undef) (l.getD 3 undef) (l.getD 8 undef) (l.getD 9 undef) (l.getD 40 undef) H) ((List.range 47).map x) H = sent_Log_each_g33 S (x 0) (x 2) (x 3) (x 8) (x 9) H := by kernel_rfl
def sent_Log_each_g34 (S : Value → Value → Value → Value → Heap → Prop) (x0 x2 x3 x8 x9 : Value) (H : Heap) : Prop :=
  bnd (nilV x9) fun v43 =>
  bnd (faV 0 v43) fun v44 =>
  bnd (ldE true 6 v44 H) fun v45 =>
  callV P x3 [v45] H fun _ H1 =>
  S x0 x2 x3 x8 H1
theorem sent_Log_each_g34_e (S : Value → Value → Value → Value → Heap → Prop) (x : Nat → Value) (H : Heap) : wpE tab P sent_Log_each_pi sent_Log_each_c21 (nQ fun l H => S (l.getD 0 undef) (l.getD 2 undef) (l.getD 3 undef) (l.getD 8 undef) H) ((List.range 47).map x) H = sent_Log_each_g34 S (x 0) (x 2) (x 3) (x 8) (x 9) H := by kernel_rfl
def sent_Log_each_s25 (x0 x2 x3 x8 : Value) (K1 : Value → Value → Value → Value →  Heap → Prop) (R : Value → Heap → Prop) (H : Heap) : Prop :=
  sent_Log_each_g26 (fun x0 x2 x3 x8 x31 H => brV x31
  (sent_Log_each_g32 (fun x0 x2 x3 x8 x9 H => sent_Log_each_g33 (fun x0 x2 x3 x8 x9 x40 H => brV x40
  (sent_Log_each_g34 (fun x0 x2 x3 x8 H => sent_Log_each_s27 x0 x2 x3 x8 K1 R H) x0 x2 x3 x8 x9 H)
  (sent_Log_each_s27 x0 x2 x3 x8 K1 R H)) x0 x2 x3 x8 x9 H) x0 x2 x3 x8 H)
  (R (.tuple #[]) H)) x0 x2 x3 x8 H
theorem sent_Log_each_s25_i (K1 : Value → Value → Value → Value →  Heap → Prop) (R : Value → Heap → Prop) (l : List Value) (H : Heap) (hl : l.length = 47) (h : sent_Log_each_s25 (l.getD 0 undef) (l.getD 2 undef) (l.getD 3 undef) (l.getD 8 undef) K1 R H) : wpE tab P sent_Log_each_pi sent_Log_each_c9 (sent_Log_each_q31 K1 R) l H := by
  refine seqI (c := sent_Log_each_c9) rfl ?_
  refine seqI (c := sent_Log_each_c10) rfl ?_
  refine regI hl (Eq.mpr (sent_Log_each_g26_e _ (fun i => l.getD i undef) _) h) ?_
  clear h hl
  intro l H hl h
  refine thenN ?_
  refine condI (c := sent_Log_each_c12) rfl h ?_ ?_
  · clear h; intro h
    refine skipI rfl ?_
    refine thenN ?_
    refine seqI (c := sent_Log_each_c14) rfl ?_
    refine blockI (c := sent_Log_each_c15) rfl ?_
    refine seqI (c := sent_Log_each_c16) rfl ?_
    refine regI hl (Eq.mpr (sent_Log_each_g32_e _ (fun i => l.getD i undef) _) h) ?_
    clear h hl
    intro l H hl h
    refine thenN ?_
    refine seqI (c := sent_Log_each_c18) rfl ?_
    refine regI hl (Eq.mpr (sent_Log_each_g33_e _ (fun i => l.getD i undef) _) h) ?_
    clear h hl
    intro l H hl h
    refine thenN ?_
    refine condI (c := sent_Log_each_c20) rfl h ?_ ?_
    · clear h; intro h
      refine regI hl (Eq.mpr (sent_Log_each_g34_e _ (fun i => l.getD i undef) _) h) ?_
      clear h hl
      intro l H hl h
      refine blkN ?_
      refine thenN ?_
      exact sent_Log_each_s27_i K1 R l H hl h
    · clear h; intro h
      refine skipI rfl ?_
      refine blkN ?_
      refine thenN ?_
      exact sent_Log_each_s27_i K1 R l H hl h
  · clear h; intro h
    refine exitI (c := sent_Log_each_c13) rfl ?_
    refine thenX ?_
    refine thenX ?_
    refine blkX ?_
    exact h
def sent_Log_each_l35 (x0 x2 x3 x8 : Value) (R : Value → Heap → Prop) (H : Heap) : Prop :=
  ∃ (I : Value → Heap → Prop) (μ : Value → Heap → Nat), I x8 H ∧ ∀ (y8 : Value) (H : Heap), I y8 H → sent_Log_each_s25 x0 x2 x3 y8 (fun z0 z2 z3 z8 H' => z0 = x0 ∧ z2 = x2 ∧ z3 = x3 ∧ (I z8 H' ∧ μ z8 H' < μ y8 H)) R H
def sent_Log_each (x0 x1 x2 x3 : Value) (R : Value → Heap → Prop) (H : Heap) : Prop :=
  sent_Log_each_g23 (fun x0 x1 x2 x3 x11 H => brV x11
  (R (.tuple #[]) H)
  (sent_Log_each_g24 (fun x0 x2 x3 x8 H => sent_Log_each_l35 x0 x2 x3 x8 R H) x0 x1 x2 x3 H)) x0 x1 x2 x3 H
theorem sent_Log_each_i (R : Value → Heap → Prop) (x0 x1 x2 x3 : Value) (H : Heap) (h : sent_Log_each x0 x1 x2 x3 R H) : wpE tab P sent_Log_each_pi sent_Log_each_c1 (retQ tab sent_Log_each_rs R) [x0, x1, x2, x3, undef, undef, undef, undef, undef, undef, undef, undef, undef, undef, undef, undef, undef, undef, undef, undef, undef, undef, undef, undef, undef, undef, undef, undef, undef, undef, undef, undef, undef, undef, undef, undef, undef, undef, undef, undef, undef, undef, undef, undef, undef, undef, undef] H := by
  obtain ⟨l, hl, el⟩ : ∃ l : List Value, l.length = 47 ∧ l = [x0, x1, x2, x3, undef, undef, undef, undef, undef, undef, undef, undef, undef, undef, undef, undef, undef, undef, undef, undef, undef, undef, undef, undef, undef, undef, undef, undef, undef, undef, undef, undef, undef, undef, undef, undef, undef, undef, undef, undef, undef, undef, undef, undef, undef, undef, undef] := ⟨_, rfl, rfl⟩
  rw [← el]
  have h : (fun (x0 x1 x2 x3 : Value) => sent_Log_each_g23 (fun x0 x1 x2 x3 x11 H => brV x11
(R (.tuple #[]) H)
(sent_Log_each_g24 (fun x0 x2 x3 x8 H => sent_Log_each_l35 x0 x2 x3 x8 R H) x0 x1 x2 x3 H)) x0 x1 x2 x3 H) (l.getD 0 undef) (l.getD 1 undef) (l.getD 2 undef) (l.getD 3 undef) := by rw [el]; exact h
  clear el
  refine seqI (c := sent_Log_each_c1) rfl ?_
  refine seqI (c := sent_Log_each_c2) rfl ?_
  refine regI hl (Eq.mpr (sent_Log_each_g23_e _ (fun i => l.getD i undef) _) h) ?_
  clear h hl
  intro l H hl h
  refine thenN ?_
  refine condI (c := sent_Log_each_c4) rfl h ?_ ?_
  · clear h; intro h
    refine retI rfl ?_
    refine thenR ?_
    exact h
  · clear h; intro h
    refine skipI rfl ?_
    refine thenN ?_
    refine seqI (c := sent_Log_each_c5) rfl ?_
    refine regI hl (Eq.mpr (sent_Log_each_g24_e _ (fun i => l.getD i undef) _) h) ?_
    clear h hl
    intro l H hl h
    refine thenN ?_
    refine blockI (c := sent_Log_each_c7) rfl ?_
    obtain ⟨I, μ, h0, hr⟩ := h
    refine loopI (c := sent_Log_each_c8) rfl (fun l' H' => l'.getD 0 undef = l.getD 0 undef ∧ l'.getD 2 undef = l.getD 2 undef ∧ l'.getD 3 undef = l.getD 3 undef ∧ I (l'.getD 8 undef) H') (fun l' H' => μ (l'.getD 8 undef) H') hl ⟨rfl, rfl, rfl, h0⟩ ?_
    rintro l1 H1 hl1 ⟨e0, e2, e3, hI⟩
    have hb := hr (l1.getD 8 undef) H1 hI
    rw [← e0, ← e2, ← e3] at hb
    refine wpE_mono _ l1 H1 hl1 ?_ (sent_Log_each_s25_i _ R l1 H1 hl1 hb)
    intro e l2 H2 hl2 hq
    cases e with
    | normal => exact fun _ => (by obtain ⟨d0, d2, d3, g1, g2⟩ := hq; exact ⟨⟨d0.trans e0, d2.trans e2, d3.trans e3, g1⟩, g2⟩)
    | _ => exact hq
theorem sent_Log_each_ok : okB sent_Log_each_pi sent_Log_each_c1 = true := by kernel_rfl
theorem sent_Log_each_ev (x0 x1 x2 x3 : Value) (R : Value → Heap → Prop) (H : Heap) (h : sent_Log_each x0 x1 x2 x3 R H) : EvF P N.sent_Log_each #[x0, x1, x2, x3] H R :=
  EvF_intro (args := [x0, x1, x2, x3]) (k := 43) (rs := sent_Log_each_rs) tab_ok mixed Try.func44 (show Try.f44.body = some sent_Log_each_c1 by kernel_rfl) Try.call44 Try.ntmps44 (by kernel_rfl) (okCode_of _ sent_Log_each_ok) rfl (sent_Log_each_i R x0 x1 x2 x3 H h)
/- 45: (*sounder/sent.row).put -/
def sent_row_put_rs : List ResultVar := []
noncomputable def sent_row_put_c2 : Code := subC (bodyC Try.f45) [0]
noncomputable def sent_row_put_c3 : Code := subC (bodyC Try.f45) [1]
noncomputable def sent_row_put_c1 : Code := .seq sent_row_put_c2 sent_row_put_c3
def sent_row_put_pi (i : Nat) : Pl := match i with
  | 1 => (ones [0, 1, 2, 3, 4, 5, 6, 7, 8] .nil)
  | _ => .nil
def sent_row_put_g4 (S : Value → Value → Heap → Prop) (x0 x1 : Value) (H : Heap) : Prop :=
  newE 30 (Value.cells x1) H fun v3 H1 =>
  S x0 v3 H1
theorem sent_row_put_g4_e (S : Value → Value → Heap → Prop) (x : Nat → Value) (H : Heap) : wpE tab P sent_row_put_pi sent_row_put_c2 (nQ fun l H => S (l.getD 0 undef) (l.getD 3 undef) H) ((List.range 12).map x) H = sent_row_put_g4 S (x 0) (x 1) H := by kernel_rfl
def sent_row_put_g5 (S : Heap → Prop) (x0 x3 : Value) (H : Heap) : Prop :=
  bnd (nilV x0) fun v6 =>
  bnd (ldE false 1 v6 H) fun v7 =>
  bnd (ldE true 6 x3 H) fun v8 =>
  bslE 30 #[(.int .i64 0), (.int .i64 0), (.int .i64 0), (.bool false), (.bool false), (.bool false)] 6 1 [(0, v8)] H fun v9 H1 =>
  ((bnd (ldE false 1 v6 H1) fun v' => v' = v7) ∧
  appE 30 #[(.int .i64 0), (.int .i64 0), (.int .i64 0), (.bool false), (.bool false), (.bool false)] 6 32 v7 v9 H1 fun v10 H2 =>
  bnd (nilV x0) fun v11 =>
  bnd (stE 1 v11 v10 H2) fun H3 =>
  S H3)
theorem sent_row_put_g5_e (S : Heap → Prop) (x : Nat → Value) (H : Heap) : wpE tab P sent_row_put_pi sent_row_put_c3 (nQ fun _ H => S  H) ((List.range 12).map x) H = sent_row_put_g5 S (x 0) (x 3) H := by kernel_rfl
def sent_row_put (x0 x1 : Value) (R : Value → Heap → Prop) (H : Heap) : Prop :=
  sent_row_put_g4 (fun x0 x3 H => sent_row_put_g5 (fun H => R (.tuple #[]) H) x0 x3 H) x0 x1 H
theorem sent_row_put_i (R : Value → Heap → Prop) (x0 x1 : Value) (H : Heap) (h : sent_row_put x0 x1 R H) : wpE tab P sent_row_put_pi sent_row_put_c1 (retQ tab sent_row_put_rs R) [x0, x1, undef, undef, undef, undef, undef, undef, undef, undef, undef, undef] H := by
  obtain ⟨l, hl, el⟩ : ∃ l : List Value, l.length = 12 ∧ l = [x0, x1, undef, undef, undef, undef, undef, undef, undef, undef, undef, undef] := ⟨_, rfl, rfl⟩
  rw [← el]
  have h : (fun (x0 x1 : Value) => sent_row_put_g4 (fun x0 x3 H => sent_row_put_g5 (fun H => R (.tuple #[]) H) x0 x3 H) x0 x1 H) (l.getD 0 undef) (l.getD 1 undef) := by rw [el]; exact h
  clear el
  refine seqI (c := sent_row_put_c1) rfl ?_
  refine regI hl (Eq.mpr (sent_row_put_g4_e _ (fun i => l.getD i undef) _) h) ?_
  clear h hl
  intro l H hl h
  refine thenN ?_
  refine regI hl (Eq.mpr (sent_row_put_g5_e _ (fun i => l.getD i undef) _) h) ?_
  clear h hl
  intro l H hl h
  exact h
theorem sent_row_put_ok : okB sent_row_put_pi sent_row_put_c1 = true := by kernel_rfl
theorem sent_row_put_ev (x0 x1 : Value) (R : Value → Heap → Prop) (H : Heap) (h : sent_row_put x0 x1 R H) : EvF P N.sent_row_put #[x0, x1] H R :=
  EvF_intro (args := [x0, x1]) (k := 10) (rs := sent_row_put_rs) tab_ok mixed Try.func45 (show Try.f45.body = some sent_row_put_c1 by kernel_rfl) Try.call45 Try.ntmps45 (by kernel_rfl) (okCode_of _ sent_row_put_ok) rfl (sent_row_put_i R x0 x1 H h)
/- 46: sounder/sounderref06.May -/
def sounderref06_May_rs : List ResultVar := [.tmp 2]
noncomputable def sounderref06_May_c2 : Code := subC (bodyC Try.f46) [0]
noncomputable def sounderref06_May_c4 : Code := subC (bodyC Try.f46) [1, 0]
noncomputable def sounderref06_May_c3 : Code := .seq sounderref06_May_c4 Code.ret
noncomputable def sounderref06_May_c1 : Code := .seq sounderref06_May_c2 sounderref06_May_c3
def sounderref06_May_pi (_ : Nat) : Pl := .nil
def sounderref06_May_g5 (S : Value → Heap → Prop) (x0 : Value) (H : Heap) : Prop :=
  newE 30 (Value.cells x0) H fun v1 H1 =>
  S v1 H1
theorem sounderref06_May_g5_e (S : Value → Heap → Prop) (x : Nat → Value) (H : Heap) : wpE tab P sounderref06_May_pi sounderref06_May_c2 (nQ fun l H => S (l.getD 1 undef) H) ((List.range 31).map x) H = sounderref06_May_g5 S (x 0) H := by kernel_rfl
def sounderref06_May_g6 (S : Value → Heap → Prop) (x1 : Value) (H : Heap) : Prop :=
  bnd (faV 0 x1) fun v3 =>
  bnd (ldE false 1 v3 H) fun v4 =>
  bnd (binV .int .geq v4 (.int .i64 0)) fun v5 =>
  brV v5
  (bnd (faV 0 x1) fun v7 =>
  bnd (ldE false 1 v7 H) fun v8 =>
  bnd (binV .int .leq v8 (.int .i64 9007199254740991)) fun v9 =>
  brV v9
  (bnd (faV 1 x1) fun v12 =>
  bnd (ldE false 1 v12 H) fun v13 =>
  bnd (binV .int .geq v13 (.int .i64 0)) fun v14 =>
  brV v14
  (bnd (faV 1 x1) fun v17 =>
  bnd (ldE false 1 v17 H) fun v18 =>
  bnd (binV .int .leq v18 (.int .i64 9007199254740991)) fun v19 =>
  brV v19
  (bnd (faV 2 x1) fun v22 =>
  bnd (ldE false 1 v22 H) fun v23 =>
  bnd (binV .int .geq v23 (.int .i64 1)) fun v24 =>
  brV v24
  (bnd (faV 2 x1) fun v27 =>
  bnd (ldE false 1 v27 H) fun v28 =>
  bnd (binV .int .leq v28 (.int .i64 65535)) fun v29 =>
  S v29 H)
  (S (.bool false) H))
  (S (.bool false) H))
  (S (.bool false) H))
  (S (.bool false) H))
  (S (.bool false) H)
theorem sounderref06_May_g6_e (S : Value → Heap → Prop) (x : Nat → Value) (H : Heap) : wpE tab P sounderref06_May_pi sounderref06_May_c4 (nQ fun l H => S (l.getD 2 undef) H) ((List.range 31).map x) H = sounderref06_May_g6 S (x 1) H := by kernel_rfl
def sounderref06_May (x0 : Value) (R : Value → Heap → Prop) (H : Heap) : Prop :=
  sounderref06_May_g5 (fun x1 H => sounderref06_May_g6 (fun x2 H => R x2 H) x1 H) x0 H
theorem sounderref06_May_i (R : Value → Heap → Prop) (x0 : Value) (H : Heap) (h : sounderref06_May x0 R H) : wpE tab P sounderref06_May_pi sounderref06_May_c1 (retQ tab sounderref06_May_rs R) [x0, undef, undef, undef, undef, undef, undef, undef, undef, undef, undef, undef, undef, undef, undef, undef, undef, undef, undef, undef, undef, undef, undef, undef, undef, undef, undef, undef, undef, undef, undef] H := by
  obtain ⟨l, hl, el⟩ : ∃ l : List Value, l.length = 31 ∧ l = [x0, undef, undef, undef, undef, undef, undef, undef, undef, undef, undef, undef, undef, undef, undef, undef, undef, undef, undef, undef, undef, undef, undef, undef, undef, undef, undef, undef, undef, undef, undef] := ⟨_, rfl, rfl⟩
  rw [← el]
  have h : (fun (x0 : Value) => sounderref06_May_g5 (fun x1 H => sounderref06_May_g6 (fun x2 H => R x2 H) x1 H) x0 H) (l.getD 0 undef) := by rw [el]; exact h
  clear el
  refine seqI (c := sounderref06_May_c1) rfl ?_
  refine regI hl (Eq.mpr (sounderref06_May_g5_e _ (fun i => l.getD i undef) _) h) ?_
  clear h hl
  intro l H hl h
  refine thenN ?_
  refine seqI (c := sounderref06_May_c3) rfl ?_
  refine regI hl (Eq.mpr (sounderref06_May_g6_e _ (fun i => l.getD i undef) _) h) ?_
  clear h hl
  intro l H hl h
  refine thenN ?_
  refine retI rfl ?_
  exact h
theorem sounderref06_May_ok : okB sounderref06_May_pi sounderref06_May_c1 = true := by kernel_rfl
theorem sounderref06_May_ev (x0 : Value) (R : Value → Heap → Prop) (H : Heap) (h : sounderref06_May x0 R H) : EvF P N.sounderref06_May #[x0] H R :=
  EvF_intro (args := [x0]) (k := 30) (rs := sounderref06_May_rs) tab_ok mixed Try.func46 (show Try.f46.body = some sounderref06_May_c1 by kernel_rfl) Try.call46 Try.ntmps46 (by kernel_rfl) (okCode_of _ sounderref06_May_ok) rfl (sounderref06_May_i R x0 H h)
/- 47: (*sounder/sounderref06.Log).All -/
def sounderref06_Log_All_rs : List ResultVar := [.tmp 2]
noncomputable def sounderref06_Log_All_c2 : Code := subC (bodyC Try.f47) [0]
noncomputable def sounderref06_Log_All_c4 : Code := subC (bodyC Try.f47) [1, 0]
noncomputable def sounderref06_Log_All_c6 : Code := subC (bodyC Try.f47) [1, 1, 0]
noncomputable def sounderref06_Log_All_c5 : Code := .seq sounderref06_Log_All_c6 Code.ret
noncomputable def sounderref06_Log_All_c3 : Code := .seq sounderref06_Log_All_c4 sounderref06_Log_All_c5
noncomputable def sounderref06_Log_All_c1 : Code := .seq sounderref06_Log_All_c2 sounderref06_Log_All_c3
def sounderref06_Log_All_pi (_ : Nat) : Pl := .nil
def sounderref06_Log_All_g7 (S : Value → Heap → Prop) (x0 : Value) (H : Heap) : Prop :=
  S x0 H
theorem sounderref06_Log_All_g7_e (S : Value → Heap → Prop) (x : Nat → Value) (H : Heap) : wpE tab P sounderref06_Log_All_pi sounderref06_Log_All_c2 (nQ fun l H => S (l.getD 0 undef) H) ((List.range 10).map x) H = sounderref06_Log_All_g7 S (x 0) H := by kernel_rfl
def sounderref06_Log_All_g8 (S : Value → Value → Heap → Prop) (x0 : Value) (H : Heap) : Prop :=
  S x0 (.slice none 0 0) H
theorem sounderref06_Log_All_g8_e (S : Value → Value → Heap → Prop) (x : Nat → Value) (H : Heap) : wpE tab P sounderref06_Log_All_pi sounderref06_Log_All_c4 (nQ fun l H => S (l.getD 0 undef) (l.getD 3 undef) H) ((List.range 10).map x) H = sounderref06_Log_All_g8 S (x 0) H := by kernel_rfl
def sounderref06_Log_All_g9 (S : Value → Heap → Prop) (x0 x3 : Value) (H : Heap) : Prop :=
  bnd (nilV x0) fun v6 =>
  bnd (faV 2 v6) fun v7 =>
  bnd (ldE false 1 v7 H) fun v8 =>
  appE 30 #[(.int .i64 0), (.int .i64 0), (.int .i64 0), (.bool false), (.bool false), (.bool false)] 6 32 x3 v8 H fun v9 H1 =>
  S v9 H1
theorem sounderref06_Log_All_g9_e (S : Value → Heap → Prop) (x : Nat → Value) (H : Heap) : wpE tab P sounderref06_Log_All_pi sounderref06_Log_All_c6 (nQ fun l H => S (l.getD 2 undef) H) ((List.range 10).map x) H = sounderref06_Log_All_g9 S (x 0) (x 3) H := by kernel_rfl
def sounderref06_Log_All (x0 : Value) (R : Value → Heap → Prop) (H : Heap) : Prop :=
  sounderref06_Log_All_g7 (fun x0 H => sounderref06_Log_All_g8 (fun x0 x3 H => sounderref06_Log_All_g9 (fun x2 H => R x2 H) x0 x3 H) x0 H) x0 H
theorem sounderref06_Log_All_i (R : Value → Heap → Prop) (x0 : Value) (H : Heap) (h : sounderref06_Log_All x0 R H) : wpE tab P sounderref06_Log_All_pi sounderref06_Log_All_c1 (retQ tab sounderref06_Log_All_rs R) [x0, undef, undef, undef, undef, undef, undef, undef, undef, undef] H := by
  obtain ⟨l, hl, el⟩ : ∃ l : List Value, l.length = 10 ∧ l = [x0, undef, undef, undef, undef, undef, undef, undef, undef, undef] := ⟨_, rfl, rfl⟩
  rw [← el]
  have h : (fun (x0 : Value) => sounderref06_Log_All_g7 (fun x0 H => sounderref06_Log_All_g8 (fun x0 x3 H => sounderref06_Log_All_g9 (fun x2 H => R x2 H) x0 x3 H) x0 H) x0 H) (l.getD 0 undef) := by rw [el]; exact h
  clear el
  refine seqI (c := sounderref06_Log_All_c1) rfl ?_
  refine regI hl (Eq.mpr (sounderref06_Log_All_g7_e _ (fun i => l.getD i undef) _) h) ?_
  clear h hl
  intro l H hl h
  refine thenN ?_
  refine seqI (c := sounderref06_Log_All_c3) rfl ?_
  refine regI hl (Eq.mpr (sounderref06_Log_All_g8_e _ (fun i => l.getD i undef) _) h) ?_
  clear h hl
  intro l H hl h
  refine thenN ?_
  refine seqI (c := sounderref06_Log_All_c5) rfl ?_
  refine regI hl (Eq.mpr (sounderref06_Log_All_g9_e _ (fun i => l.getD i undef) _) h) ?_
  clear h hl
  intro l H hl h
  refine thenN ?_
  refine retI rfl ?_
  exact h
theorem sounderref06_Log_All_ok : okB sounderref06_Log_All_pi sounderref06_Log_All_c1 = true := by kernel_rfl
theorem sounderref06_Log_All_ev (x0 : Value) (R : Value → Heap → Prop) (H : Heap) (h : sounderref06_Log_All x0 R H) : EvF P N.sounderref06_Log_All #[x0] H R :=
  EvF_intro (args := [x0]) (k := 9) (rs := sounderref06_Log_All_rs) tab_ok mixed Try.func47 (show Try.f47.body = some sounderref06_Log_All_c1 by kernel_rfl) Try.call47 Try.ntmps47 (by kernel_rfl) (okCode_of _ sounderref06_Log_All_ok) rfl (sounderref06_Log_All_i R x0 H h)
end Go.Hc
