/- Functions, printed by gen.py. -/
import Derived.Test.YtchdnhbkjfdnmaaT
set_option linter.unusedSimpArgs false
set_option linter.unusedVariables false
set_option maxRecDepth 100000
namespace Go.Hc
open Go Go.Proofs
/- 5: sounder/sounderlaw06.SentParts -/
def sounderlaw06_SentParts_rs : List ResultVar := [.tmp 4]
noncomputable def sounderlaw06_SentParts_c2 : Code := subC (bodyC Try.f5) [0]
noncomputable def sounderlaw06_SentParts_c4 : Code := subC (bodyC Try.f5) [1, 0]
noncomputable def sounderlaw06_SentParts_c7 : Code := subC (bodyC Try.f5) [1, 1, 0, 0]
noncomputable def sounderlaw06_SentParts_c10 : Code := subC (bodyC Try.f5) [1, 1, 0, 1, 0, 0]
noncomputable def sounderlaw06_SentParts_c9 : Code := .seq sounderlaw06_SentParts_c10 Code.ret
noncomputable def sounderlaw06_SentParts_c8 : Code := .cond (.tmp 22) sounderlaw06_SentParts_c9 Code.skip
noncomputable def sounderlaw06_SentParts_c6 : Code := .seq sounderlaw06_SentParts_c7 sounderlaw06_SentParts_c8
noncomputable def sounderlaw06_SentParts_c12 : Code := subC (bodyC Try.f5) [1, 1, 1, 0]
noncomputable def sounderlaw06_SentParts_c15 : Code := subC (bodyC Try.f5) [1, 1, 1, 1, 0, 0]
noncomputable def sounderlaw06_SentParts_c20 : Code := subC (bodyC Try.f5) [1, 1, 1, 1, 0, 1, 0, 0, 0, 0]
noncomputable def sounderlaw06_SentParts_c22 : Code := .exit 0
noncomputable def sounderlaw06_SentParts_c21 : Code := .cond (.tmp 30) Code.skip sounderlaw06_SentParts_c22
noncomputable def sounderlaw06_SentParts_c19 : Code := .seq sounderlaw06_SentParts_c20 sounderlaw06_SentParts_c21
noncomputable def sounderlaw06_SentParts_c26 : Code := subC (bodyC Try.f5) [1, 1, 1, 1, 0, 1, 0, 0, 1, 0, 0, 0]
noncomputable def sounderlaw06_SentParts_c29 : Code := subC (bodyC Try.f5) [1, 1, 1, 1, 0, 1, 0, 0, 1, 0, 0, 1, 0, 0]
noncomputable def sounderlaw06_SentParts_c32 : Code := subC (bodyC Try.f5) [1, 1, 1, 1, 0, 1, 0, 0, 1, 0, 0, 1, 0, 1, 0, 0]
noncomputable def sounderlaw06_SentParts_c31 : Code := .seq sounderlaw06_SentParts_c32 Code.ret
noncomputable def sounderlaw06_SentParts_c30 : Code := .cond (.tmp 46) sounderlaw06_SentParts_c31 Code.skip
noncomputable def sounderlaw06_SentParts_c28 : Code := .seq sounderlaw06_SentParts_c29 sounderlaw06_SentParts_c30
noncomputable def sounderlaw06_SentParts_c34 : Code := subC (bodyC Try.f5) [1, 1, 1, 1, 0, 1, 0, 0, 1, 0, 0, 1, 1, 0]
noncomputable def sounderlaw06_SentParts_c36 : Code := subC (bodyC Try.f5) [1, 1, 1, 1, 0, 1, 0, 0, 1, 0, 0, 1, 1, 1, 0]
noncomputable def sounderlaw06_SentParts_c35 : Code := .cond (.tmp 53) sounderlaw06_SentParts_c36 Code.skip
noncomputable def sounderlaw06_SentParts_c33 : Code := .seq sounderlaw06_SentParts_c34 sounderlaw06_SentParts_c35
noncomputable def sounderlaw06_SentParts_c27 : Code := .seq sounderlaw06_SentParts_c28 sounderlaw06_SentParts_c33
noncomputable def sounderlaw06_SentParts_c25 : Code := .seq sounderlaw06_SentParts_c26 sounderlaw06_SentParts_c27
noncomputable def sounderlaw06_SentParts_c24 : Code := .block 1 sounderlaw06_SentParts_c25
noncomputable def sounderlaw06_SentParts_c37 : Code := subC (bodyC Try.f5) [1, 1, 1, 1, 0, 1, 0, 0, 1, 1]
noncomputable def sounderlaw06_SentParts_c23 : Code := .seq sounderlaw06_SentParts_c24 sounderlaw06_SentParts_c37
noncomputable def sounderlaw06_SentParts_c18 : Code := .seq sounderlaw06_SentParts_c19 sounderlaw06_SentParts_c23
noncomputable def sounderlaw06_SentParts_c17 : Code := .loop sounderlaw06_SentParts_c18
noncomputable def sounderlaw06_SentParts_c16 : Code := .block 0 sounderlaw06_SentParts_c17
noncomputable def sounderlaw06_SentParts_c14 : Code := .seq sounderlaw06_SentParts_c15 sounderlaw06_SentParts_c16
noncomputable def sounderlaw06_SentParts_c39 : Code := subC (bodyC Try.f5) [1, 1, 1, 1, 1, 0]
noncomputable def sounderlaw06_SentParts_c41 : Code := subC (bodyC Try.f5) [1, 1, 1, 1, 1, 1, 0]
noncomputable def sounderlaw06_SentParts_c43 : Code := subC (bodyC Try.f5) [1, 1, 1, 1, 1, 1, 1, 0]
noncomputable def sounderlaw06_SentParts_c46 : Code := subC (bodyC Try.f5) [1, 1, 1, 1, 1, 1, 1, 1, 0, 0]
noncomputable def sounderlaw06_SentParts_c51 : Code := subC (bodyC Try.f5) [1, 1, 1, 1, 1, 1, 1, 1, 0, 1, 0, 0, 0, 0]
noncomputable def sounderlaw06_SentParts_c53 : Code := .exit 2
noncomputable def sounderlaw06_SentParts_c52 : Code := .cond (.tmp 99) Code.skip sounderlaw06_SentParts_c53
noncomputable def sounderlaw06_SentParts_c50 : Code := .seq sounderlaw06_SentParts_c51 sounderlaw06_SentParts_c52
noncomputable def sounderlaw06_SentParts_c57 : Code := subC (bodyC Try.f5) [1, 1, 1, 1, 1, 1, 1, 1, 0, 1, 0, 0, 1, 0, 0, 0]
noncomputable def sounderlaw06_SentParts_c60 : Code := subC (bodyC Try.f5) [1, 1, 1, 1, 1, 1, 1, 1, 0, 1, 0, 0, 1, 0, 0, 1, 0, 0]
noncomputable def sounderlaw06_SentParts_c59 : Code := .seq sounderlaw06_SentParts_c60 Code.ret
noncomputable def sounderlaw06_SentParts_c58 : Code := .cond (.tmp 117) sounderlaw06_SentParts_c59 Code.skip
noncomputable def sounderlaw06_SentParts_c56 : Code := .seq sounderlaw06_SentParts_c57 sounderlaw06_SentParts_c58
noncomputable def sounderlaw06_SentParts_c55 : Code := .block 3 sounderlaw06_SentParts_c56
noncomputable def sounderlaw06_SentParts_c61 : Code := subC (bodyC Try.f5) [1, 1, 1, 1, 1, 1, 1, 1, 0, 1, 0, 0, 1, 1]
noncomputable def sounderlaw06_SentParts_c54 : Code := .seq sounderlaw06_SentParts_c55 sounderlaw06_SentParts_c61
noncomputable def sounderlaw06_SentParts_c49 : Code := .seq sounderlaw06_SentParts_c50 sounderlaw06_SentParts_c54
noncomputable def sounderlaw06_SentParts_c48 : Code := .loop sounderlaw06_SentParts_c49
noncomputable def sounderlaw06_SentParts_c47 : Code := .block 2 sounderlaw06_SentParts_c48
noncomputable def sounderlaw06_SentParts_c45 : Code := .seq sounderlaw06_SentParts_c46 sounderlaw06_SentParts_c47
noncomputable def sounderlaw06_SentParts_c63 : Code := subC (bodyC Try.f5) [1, 1, 1, 1, 1, 1, 1, 1, 1, 0]
noncomputable def sounderlaw06_SentParts_c62 : Code := .seq sounderlaw06_SentParts_c63 Code.ret
noncomputable def sounderlaw06_SentParts_c44 : Code := .seq sounderlaw06_SentParts_c45 sounderlaw06_SentParts_c62
noncomputable def sounderlaw06_SentParts_c42 : Code := .seq sounderlaw06_SentParts_c43 sounderlaw06_SentParts_c44
noncomputable def sounderlaw06_SentParts_c40 : Code := .seq sounderlaw06_SentParts_c41 sounderlaw06_SentParts_c42
noncomputable def sounderlaw06_SentParts_c38 : Code := .seq sounderlaw06_SentParts_c39 sounderlaw06_SentParts_c40
noncomputable def sounderlaw06_SentParts_c13 : Code := .seq sounderlaw06_SentParts_c14 sounderlaw06_SentParts_c38
noncomputable def sounderlaw06_SentParts_c11 : Code := .seq sounderlaw06_SentParts_c12 sounderlaw06_SentParts_c13
noncomputable def sounderlaw06_SentParts_c5 : Code := .seq sounderlaw06_SentParts_c6 sounderlaw06_SentParts_c11
noncomputable def sounderlaw06_SentParts_c3 : Code := .seq sounderlaw06_SentParts_c4 sounderlaw06_SentParts_c5
noncomputable def sounderlaw06_SentParts_c1 : Code := .seq sounderlaw06_SentParts_c2 sounderlaw06_SentParts_c3
def sounderlaw06_SentParts_pi (i : Nat) : Pl := match i with
  | 13 => (ones [0, 1, 2, 3, 6, 7, 8, 9, 4, 5, 10, 11, 12, 13] .nil)
  | _ => .nil
def sounderlaw06_SentParts_g64 (S : Value → Value → Heap → Prop) (x0 x1 : Value) (H : Heap) : Prop :=
  newE 44 (Value.cells x1) H fun v3 H1 =>
  S x0 v3 H1
theorem sounderlaw06_SentParts_g64_e (S : Value → Value → Heap → Prop) (x : Nat → Value) (H : Heap) : wpE tab P sounderlaw06_SentParts_pi sounderlaw06_SentParts_c2 (nQ fun l H => S (l.getD 0 undef) (l.getD 3 undef) H) ((List.range 138).map x) H = sounderlaw06_SentParts_g64 S (x 0) (x 1) H := by kernel_rfl
def sounderlaw06_SentParts_g65 (S : Value → Value → Value → Value → Heap → Prop) (x0 x3 : Value) (H : Heap) : Prop :=
  EvF P N.sent_New #[(.int .i64 256)] H fun v18 H1 =>
  bnd (exV 0 v18) fun v19 =>
  bnd (exV 1 v18) fun v20 =>
  S x0 x3 v19 v20 H1
theorem sounderlaw06_SentParts_g65_e (S : Value → Value → Value → Value → Heap → Prop) (x : Nat → Value) (H : Heap) : wpE tab P sounderlaw06_SentParts_pi sounderlaw06_SentParts_c4 (nQ fun l H => S (l.getD 0 undef) (l.getD 3 undef) (l.getD 5 undef) (l.getD 6 undef) H) ((List.range 138).map x) H = sounderlaw06_SentParts_g65 S (x 0) (x 3) H := by kernel_rfl
def sounderlaw06_SentParts_g66 (S : Value → Value → Value → Value → Heap → Prop) (x0 x3 x5 x6 : Value) (H : Heap) : Prop :=
  bnd (binV .int .neq x6 (.int .i64 0)) fun v22 =>
  S x0 x3 x5 v22 H
theorem sounderlaw06_SentParts_g66_e (S : Value → Value → Value → Value → Heap → Prop) (x : Nat → Value) (H : Heap) : wpE tab P sounderlaw06_SentParts_pi sounderlaw06_SentParts_c7 (nQ fun l H => S (l.getD 0 undef) (l.getD 3 undef) (l.getD 5 undef) (l.getD 22 undef) H) ((List.range 138).map x) H = sounderlaw06_SentParts_g66 S (x 0) (x 3) (x 5) (x 6) H := by kernel_rfl
def sounderlaw06_SentParts_g67 (S : Value → Heap → Prop) (H : Heap) : Prop :=
  S (.bool false) H
theorem sounderlaw06_SentParts_g67_e (S : Value → Heap → Prop) (x : Nat → Value) (H : Heap) : wpE tab P sounderlaw06_SentParts_pi sounderlaw06_SentParts_c10 (nQ fun l H => S (l.getD 4 undef) H) ((List.range 138).map x) H = sounderlaw06_SentParts_g67 S  H := by kernel_rfl
def sounderlaw06_SentParts_g68 (S : Value → Value → Value → Value → Heap → Prop) (x0 x3 x5 : Value) (H : Heap) : Prop :=
  S x0 x3 x5 (.int .i64 (-1)) H
theorem sounderlaw06_SentParts_g68_e (S : Value → Value → Value → Value → Heap → Prop) (x : Nat → Value) (H : Heap) : wpE tab P sounderlaw06_SentParts_pi sounderlaw06_SentParts_c12 (nQ fun l H => S (l.getD 0 undef) (l.getD 3 undef) (l.getD 5 undef) (l.getD 7 undef) H) ((List.range 138).map x) H = sounderlaw06_SentParts_g68 S (x 0) (x 3) (x 5) H := by kernel_rfl
def sounderlaw06_SentParts_g69 (S : Value → Value → Value → Value → Value → Heap → Prop) (x0 x3 x5 x7 : Value) (H : Heap) : Prop :=
  S x0 x3 x5 x7 (.int .i64 0) H
theorem sounderlaw06_SentParts_g69_e (S : Value → Value → Value → Value → Value → Heap → Prop) (x : Nat → Value) (H : Heap) : wpE tab P sounderlaw06_SentParts_pi sounderlaw06_SentParts_c15 (nQ fun l H => S (l.getD 0 undef) (l.getD 3 undef) (l.getD 5 undef) (l.getD 7 undef) (l.getD 8 undef) H) ((List.range 138).map x) H = sounderlaw06_SentParts_g69 S (x 0) (x 3) (x 5) (x 7) H := by kernel_rfl
def sounderlaw06_SentParts_g71 (S : Value → Value → Value → Value → Value → Value → Heap → Prop) (x0 x3 x5 x7 x8 : Value) (H : Heap) : Prop :=
  bnd (lenV x0) fun v25 =>
  bnd (binV .int .lss x8 v25) fun v26 =>
  brV v26
  (bnd (binV .int .lss x8 (.int .i64 60)) fun v29 =>
  S x0 x3 x5 x7 x8 v29 H)
  (S x0 x3 x5 x7 x8 (.bool false) H)
theorem sounderlaw06_SentParts_g71_e (S : Value → Value → Value → Value → Value → Value → Heap → Prop) (x : Nat → Value) (H : Heap) : wpE tab P sounderlaw06_SentParts_pi sounderlaw06_SentParts_c20 (nQ fun l H => S (l.getD 0 undef) (l.getD 3 undef) (l.getD 5 undef) (l.getD 7 undef) (l.getD 8 undef) (l.getD 30 undef) H) ((List.range 138).map x) H = sounderlaw06_SentParts_g71 S (x 0) (x 3) (x 5) (x 7) (x 8) H := by kernel_rfl
def sounderlaw06_SentParts_g73 (S : Value → Value → Value → Value → Value → Heap → Prop) (x0 x3 x5 x7 x8 : Value) (H : Heap) : Prop :=
  bnd (binV .int .add x8 (.int .i64 1)) fun v32 =>
  S x0 x3 x5 x7 v32 H
theorem sounderlaw06_SentParts_g73_e (S : Value → Value → Value → Value → Value → Heap → Prop) (x : Nat → Value) (H : Heap) : wpE tab P sounderlaw06_SentParts_pi sounderlaw06_SentParts_c37 (nQ fun l H => S (l.getD 0 undef) (l.getD 3 undef) (l.getD 5 undef) (l.getD 7 undef) (l.getD 8 undef) H) ((List.range 138).map x) H = sounderlaw06_SentParts_g73 S (x 0) (x 3) (x 5) (x 7) (x 8) H := by kernel_rfl
def sounderlaw06_SentParts_s72 (x0 x3 x5 x7 x8 : Value) (K1 : Value → Value → Value → Value → Value →  Heap → Prop) (_R : Value → Heap → Prop) (H : Heap) : Prop :=
  sounderlaw06_SentParts_g73 (fun x0 x3 x5 x7 x8 H => K1 x0 x3 x5 x7 x8 H) x0 x3 x5 x7 x8 H
noncomputable def sounderlaw06_SentParts_q74 (R : Value → Heap → Prop) : Exit → List Value → Heap → Prop := (retQ tab sounderlaw06_SentParts_rs R)
noncomputable def sounderlaw06_SentParts_q75 (R : Value → Heap → Prop) : Exit → List Value → Heap → Prop := (thenE (fun l H => wpE tab P sounderlaw06_SentParts_pi sounderlaw06_SentParts_c38 (sounderlaw06_SentParts_q74 R) l H) (sounderlaw06_SentParts_q74 R))
noncomputable def sounderlaw06_SentParts_q76 (R : Value → Heap → Prop) : Exit → List Value → Heap → Prop := (blkE 0 (sounderlaw06_SentParts_q75 R))
noncomputable def sounderlaw06_SentParts_q77 (K1 : Value → Value → Value → Value → Value →  Heap → Prop) (R : Value → Heap → Prop) : Exit → List Value → Heap → Prop := (thenE (fun l H => K1 (l.getD 0 undef) (l.getD 3 undef) (l.getD 5 undef) (l.getD 7 undef) (l.getD 8 undef) H) (sounderlaw06_SentParts_q76 R))
theorem sounderlaw06_SentParts_s72_i (K1 : Value → Value → Value → Value → Value →  Heap → Prop) (R : Value → Heap → Prop) (l : List Value) (H : Heap) (hl : l.length = 138) (h : sounderlaw06_SentParts_s72 (l.getD 0 undef) (l.getD 3 undef) (l.getD 5 undef) (l.getD 7 undef) (l.getD 8 undef) K1 R H) : wpE tab P sounderlaw06_SentParts_pi sounderlaw06_SentParts_c37 (sounderlaw06_SentParts_q77 K1 R) l H := by
  refine regI hl (Eq.mpr (sounderlaw06_SentParts_g73_e _ (fun i => l.getD i undef) _) h) ?_
  clear h hl
  intro l H hl h
  refine thenN ?_
  exact h
def sounderlaw06_SentParts_g78 (S : Value → Value → Value → Value → Value → Heap → Prop) (x0 x3 x5 x7 x8 : Value) (H : Heap) : Prop :=
  bnd (binV .int .add x7 (.int .i64 1)) fun v34 =>
  bnd (ixSV 4 x0 x8) fun v37 =>
  bnd (faV 1 v37) fun v38 =>
  bnd (ldE false 1 v38 H) fun v39 =>
  EvF P N.sounderref00_Bring #[v39, (.int .i64 5)] H fun v40 H1 =>
  bnd (binV .int .add v34 v40) fun v41 =>
  S x0 x3 x5 v41 x8 H1
theorem sounderlaw06_SentParts_g78_e (S : Value → Value → Value → Value → Value → Heap → Prop) (x : Nat → Value) (H : Heap) : wpE tab P sounderlaw06_SentParts_pi sounderlaw06_SentParts_c26 (nQ fun l H => S (l.getD 0 undef) (l.getD 3 undef) (l.getD 5 undef) (l.getD 7 undef) (l.getD 8 undef) H) ((List.range 138).map x) H = sounderlaw06_SentParts_g78 S (x 0) (x 3) (x 5) (x 7) (x 8) H := by kernel_rfl
def sounderlaw06_SentParts_g79 (S : Value → Value → Value → Value → Value → Value → Heap → Prop) (x0 x3 x5 x7 x8 : Value) (H : Heap) : Prop :=
  EvF P N.sounderlaw06_one #[x7] H fun v44 H1 =>
  EvF P N.sent_Log_Put #[x5, v44] H1 fun v45 H2 =>
  bnd (binV .int .neq v45 (.int .i64 0)) fun v46 =>
  S x0 x3 x5 x7 x8 v46 H2
theorem sounderlaw06_SentParts_g79_e (S : Value → Value → Value → Value → Value → Value → Heap → Prop) (x : Nat → Value) (H : Heap) : wpE tab P sounderlaw06_SentParts_pi sounderlaw06_SentParts_c29 (nQ fun l H => S (l.getD 0 undef) (l.getD 3 undef) (l.getD 5 undef) (l.getD 7 undef) (l.getD 8 undef) (l.getD 46 undef) H) ((List.range 138).map x) H = sounderlaw06_SentParts_g79 S (x 0) (x 3) (x 5) (x 7) (x 8) H := by kernel_rfl
def sounderlaw06_SentParts_g80 (S : Value → Heap → Prop) (H : Heap) : Prop :=
  S (.bool false) H
theorem sounderlaw06_SentParts_g80_e (S : Value → Heap → Prop) (x : Nat → Value) (H : Heap) : wpE tab P sounderlaw06_SentParts_pi sounderlaw06_SentParts_c32 (nQ fun l H => S (l.getD 4 undef) H) ((List.range 138).map x) H = sounderlaw06_SentParts_g80 S  H := by kernel_rfl
def sounderlaw06_SentParts_g81 (S : Value → Value → Value → Value → Value → Value → Heap → Prop) (x0 x3 x5 x7 x8 : Value) (H : Heap) : Prop :=
  bnd (ixSV 4 x0 x8) fun v49 =>
  bnd (faV 0 v49) fun v50 =>
  bnd (ldE false 1 v50 H) fun v51 =>
  EvF P N.sounderref00_Bring #[v51, (.int .i64 4)] H fun v52 H1 =>
  bnd (binV .int .eql v52 (.int .i64 3)) fun v53 =>
  S x0 x3 x5 x7 x8 v53 H1
theorem sounderlaw06_SentParts_g81_e (S : Value → Value → Value → Value → Value → Value → Heap → Prop) (x : Nat → Value) (H : Heap) : wpE tab P sounderlaw06_SentParts_pi sounderlaw06_SentParts_c34 (nQ fun l H => S (l.getD 0 undef) (l.getD 3 undef) (l.getD 5 undef) (l.getD 7 undef) (l.getD 8 undef) (l.getD 53 undef) H) ((List.range 138).map x) H = sounderlaw06_SentParts_g81 S (x 0) (x 3) (x 5) (x 7) (x 8) H := by kernel_rfl
def sounderlaw06_SentParts_g82 (S : Value → Value → Value → Value → Value → Heap → Prop) (x0 x3 x5 x7 x8 : Value) (H : Heap) : Prop :=
  bnd (ixSV 4 x0 x8) fun v58 =>
  bnd (faV 2 v58) fun v59 =>
  bnd (ldE false 1 v59 H) fun v60 =>
  EvF P N.sounderref00_Bring #[v60, (.int .i64 9)] H fun v61 H1 =>
  bnd (binV .int .sub x7 v61) fun v62 =>
  EvF P N.sent_Log_Drop #[x5, v62] H1 fun _ H2 =>
  S x0 x3 x5 x7 x8 H2
theorem sounderlaw06_SentParts_g82_e (S : Value → Value → Value → Value → Value → Heap → Prop) (x : Nat → Value) (H : Heap) : wpE tab P sounderlaw06_SentParts_pi sounderlaw06_SentParts_c36 (nQ fun l H => S (l.getD 0 undef) (l.getD 3 undef) (l.getD 5 undef) (l.getD 7 undef) (l.getD 8 undef) H) ((List.range 138).map x) H = sounderlaw06_SentParts_g82 S (x 0) (x 3) (x 5) (x 7) (x 8) H := by kernel_rfl
def sounderlaw06_SentParts_g83 (S : Value → Value → Value → Value → Heap → Prop) (x3 x5 x7 : Value) (H : Heap) : Prop :=
  bnd (ixAV 1 2 x3 (.int .i64 0)) fun v64 =>
  bnd (ldE false 1 v64 H) fun v65 =>
  bnd (binV .int .add x7 (.int .i64 3)) fun v67 =>
  bnd (ixAV 1 2 x3 (.int .i64 1)) fun v70 =>
  bnd (ldE false 1 v70 H) fun v71 =>
  bnd (binV .int .add x7 (.int .i64 3)) fun v73 =>
  EvF P N.sounderref00_Bring #[v65, v67] H fun v68 H1 =>
  ((bnd (ldE false 1 v70 H1) fun v' => v' = v71) ∧
  bnd (binV .int .sub v68 (.int .i64 1)) fun v69 =>
  EvF P N.sounderref00_Bring #[v71, v73] H1 fun v74 H2 =>
  bnd (binV .int .sub v74 (.int .i64 1)) fun v75 =>
  S x5 x7 v69 v75 H2)
theorem sounderlaw06_SentParts_g83_e (S : Value → Value → Value → Value → Heap → Prop) (x : Nat → Value) (H : Heap) : wpE tab P sounderlaw06_SentParts_pi sounderlaw06_SentParts_c39 (nQ fun l H => S (l.getD 5 undef) (l.getD 7 undef) (l.getD 9 undef) (l.getD 10 undef) H) ((List.range 138).map x) H = sounderlaw06_SentParts_g83 S (x 3) (x 5) (x 7) H := by kernel_rfl
def sounderlaw06_SentParts_g84 (S : Value → Value → Value → Value → Heap → Prop) (x5 x7 x9 x10 : Value) (H : Heap) : Prop :=
  bnd (foldV min2V x9 [x10]) fun v78 =>
  bnd (foldV max2V x9 [x10]) fun v81 =>
  S x5 x7 v78 v81 H
theorem sounderlaw06_SentParts_g84_e (S : Value → Value → Value → Value → Heap → Prop) (x : Nat → Value) (H : Heap) : wpE tab P sounderlaw06_SentParts_pi sounderlaw06_SentParts_c41 (nQ fun l H => S (l.getD 5 undef) (l.getD 7 undef) (l.getD 11 undef) (l.getD 12 undef) H) ((List.range 138).map x) H = sounderlaw06_SentParts_g84 S (x 5) (x 7) (x 9) (x 10) H := by kernel_rfl
def sounderlaw06_SentParts_g85 (S : Value → Value → Value → Value → Value → Value → Heap → Prop) (x5 x7 x11 x12 : Value) (H : Heap) : Prop :=
  EvF P N.sent_Log_Between #[x5, (.int .i64 (-5)), x11] H fun v84 H1 =>
  bnd (binV .int .add x11 (.int .i64 1)) fun v87 =>
  EvF P N.sent_Log_Between #[x5, v87, x12] H1 fun v89 H2 =>
  bnd (binV .int .add x12 (.int .i64 1)) fun v92 =>
  bnd (binV .int .add x7 (.int .i64 9)) fun v94 =>
  EvF P N.sent_Log_Between #[x5, v92, v94] H2 fun v95 H3 =>
  S x5 x11 x12 v84 v89 v95 H3
theorem sounderlaw06_SentParts_g85_e (S : Value → Value → Value → Value → Value → Value → Heap → Prop) (x : Nat → Value) (H : Heap) : wpE tab P sounderlaw06_SentParts_pi sounderlaw06_SentParts_c43 (nQ fun l H => S (l.getD 5 undef) (l.getD 11 undef) (l.getD 12 undef) (l.getD 13 undef) (l.getD 14 undef) (l.getD 15 undef) H) ((List.range 138).map x) H = sounderlaw06_SentParts_g85 S (x 5) (x 7) (x 11) (x 12) H := by kernel_rfl
def sounderlaw06_SentParts_g86 (S : Value → Value → Value → Value → Value → Value → Value → Heap → Prop) (x5 x11 x12 x13 x14 x15 : Value) (H : Heap) : Prop :=
  S x5 x11 x12 x13 x14 x15 (.int .i64 0) H
theorem sounderlaw06_SentParts_g86_e (S : Value → Value → Value → Value → Value → Value → Value → Heap → Prop) (x : Nat → Value) (H : Heap) : wpE tab P sounderlaw06_SentParts_pi sounderlaw06_SentParts_c46 (nQ fun l H => S (l.getD 5 undef) (l.getD 11 undef) (l.getD 12 undef) (l.getD 13 undef) (l.getD 14 undef) (l.getD 15 undef) (l.getD 16 undef) H) ((List.range 138).map x) H = sounderlaw06_SentParts_g86 S (x 5) (x 11) (x 12) (x 13) (x 14) (x 15) H := by kernel_rfl
def sounderlaw06_SentParts_g88 (S : Value → Value → Value → Value → Value → Value → Value → Value → Heap → Prop) (x5 x11 x12 x13 x14 x15 x16 : Value) (H : Heap) : Prop :=
  bnd (lenV x14) fun v98 =>
  bnd (binV .int .lss x16 v98) fun v99 =>
  S x5 x11 x12 x13 x14 x15 x16 v99 H
theorem sounderlaw06_SentParts_g88_e (S : Value → Value → Value → Value → Value → Value → Value → Value → Heap → Prop) (x : Nat → Value) (H : Heap) : wpE tab P sounderlaw06_SentParts_pi sounderlaw06_SentParts_c51 (nQ fun l H => S (l.getD 5 undef) (l.getD 11 undef) (l.getD 12 undef) (l.getD 13 undef) (l.getD 14 undef) (l.getD 15 undef) (l.getD 16 undef) (l.getD 99 undef) H) ((List.range 138).map x) H = sounderlaw06_SentParts_g88 S (x 5) (x 11) (x 12) (x 13) (x 14) (x 15) (x 16) H := by kernel_rfl
def sounderlaw06_SentParts_g89 (S : Value → Value → Value → Value → Value → Value → Value → Value → Heap → Prop) (x5 x11 x12 x13 x14 x15 x16 : Value) (H : Heap) : Prop :=
  bnd (ixSV 6 x14 x16) fun v104 =>
  bnd (faV 0 v104) fun v105 =>
  bnd (ldE false 1 v105 H) fun v106 =>
  bnd (binV .int .leq v106 x11) fun v108 =>
  brV v108
  (S x5 x11 x12 x13 x14 x15 x16 (.bool true) H)
  (bnd (ixSV 6 x14 x16) fun v112 =>
  bnd (faV 0 v112) fun v113 =>
  bnd (ldE false 1 v113 H) fun v114 =>
  bnd (binV .int .gtr v114 x12) fun v116 =>
  S x5 x11 x12 x13 x14 x15 x16 v116 H)
theorem sounderlaw06_SentParts_g89_e (S : Value → Value → Value → Value → Value → Value → Value → Value → Heap → Prop) (x : Nat → Value) (H : Heap) : wpE tab P sounderlaw06_SentParts_pi sounderlaw06_SentParts_c57 (nQ fun l H => S (l.getD 5 undef) (l.getD 11 undef) (l.getD 12 undef) (l.getD 13 undef) (l.getD 14 undef) (l.getD 15 undef) (l.getD 16 undef) (l.getD 117 undef) H) ((List.range 138).map x) H = sounderlaw06_SentParts_g89 S (x 5) (x 11) (x 12) (x 13) (x 14) (x 15) (x 16) H := by kernel_rfl
def sounderlaw06_SentParts_g90 (S : Value → Heap → Prop) (H : Heap) : Prop :=
  S (.bool false) H
theorem sounderlaw06_SentParts_g90_e (S : Value → Heap → Prop) (x : Nat → Value) (H : Heap) : wpE tab P sounderlaw06_SentParts_pi sounderlaw06_SentParts_c60 (nQ fun l H => S (l.getD 4 undef) H) ((List.range 138).map x) H = sounderlaw06_SentParts_g90 S  H := by kernel_rfl
def sounderlaw06_SentParts_g91 (S : Value → Value → Value → Value → Value → Value → Value → Heap → Prop) (x5 x11 x12 x13 x14 x15 x16 : Value) (H : Heap) : Prop :=
  bnd (binV .int .add x16 (.int .i64 1)) fun v101 =>
  S x5 x11 x12 x13 x14 x15 v101 H
theorem sounderlaw06_SentParts_g91_e (S : Value → Value → Value → Value → Value → Value → Value → Heap → Prop) (x : Nat → Value) (H : Heap) : wpE tab P sounderlaw06_SentParts_pi sounderlaw06_SentParts_c61 (nQ fun l H => S (l.getD 5 undef) (l.getD 11 undef) (l.getD 12 undef) (l.getD 13 undef) (l.getD 14 undef) (l.getD 15 undef) (l.getD 16 undef) H) ((List.range 138).map x) H = sounderlaw06_SentParts_g91 S (x 5) (x 11) (x 12) (x 13) (x 14) (x 15) (x 16) H := by kernel_rfl
def sounderlaw06_SentParts_g92 (S : Value → Heap → Prop) (x5 x12 x13 x14 x15 : Value) (H : Heap) : Prop :=
  appE 30 #[(.int .i64 0), (.int .i64 0), (.int .i64 0), (.bool false), (.bool false), (.bool false)] 6 32 x13 x14 H fun v120 H1 =>
  appE 30 #[(.int .i64 0), (.int .i64 0), (.int .i64 0), (.bool false), (.bool false), (.bool false)] 6 32 v120 x15 H1 fun v122 H2 =>
  EvF P N.sent_Log_All #[x5] H2 fun v124 H3 =>
  EvF P N.sounderlaw06_equal #[v122, v124] H3 fun v125 H4 =>
  brV v125
  (bnd (binV .int .add x12 (.int .i64 1)) fun v129 =>
  EvF P N.sent_Log_Between #[x5, v129, x12] H4 fun v131 H5 =>
  bnd (lenV v131) fun v132 =>
  bnd (binV .int .eql v132 (.int .i64 0)) fun v133 =>
  brV v133
  (EvF P N.sounderlaw06_works #[] H5 fun v136 H6 =>
  S v136 H6)
  (S (.bool false) H5))
  (S (.bool false) H4)
theorem sounderlaw06_SentParts_g92_e (S : Value → Heap → Prop) (x : Nat → Value) (H : Heap) : wpE tab P sounderlaw06_SentParts_pi sounderlaw06_SentParts_c63 (nQ fun l H => S (l.getD 4 undef) H) ((List.range 138).map x) H = sounderlaw06_SentParts_g92 S (x 5) (x 12) (x 13) (x 14) (x 15) H := by kernel_rfl
def sounderlaw06_SentParts_s87 (x5 x11 x12 x13 x14 x15 x16 : Value) (K2 : Value → Value → Value → Value → Value → Value → Value →  Heap → Prop) (R : Value → Heap → Prop) (H : Heap) : Prop :=
  sounderlaw06_SentParts_g88 (fun x5 x11 x12 x13 x14 x15 x16 x99 H => brV x99
  (sounderlaw06_SentParts_g89 (fun x5 x11 x12 x13 x14 x15 x16 x117 H => brV x117
  (sounderlaw06_SentParts_g90 (fun x4 H => R x4 H) H)
  (sounderlaw06_SentParts_g91 (fun x5 x11 x12 x13 x14 x15 x16 H => K2 x5 x11 x12 x13 x14 x15 x16 H) x5 x11 x12 x13 x14 x15 x16 H)) x5 x11 x12 x13 x14 x15 x16 H)
  (sounderlaw06_SentParts_g92 (fun x4 H => R x4 H) x5 x12 x13 x14 x15 H)) x5 x11 x12 x13 x14 x15 x16 H
noncomputable def sounderlaw06_SentParts_q93 (R : Value → Heap → Prop) : Exit → List Value → Heap → Prop := (thenE (fun l H => wpE tab P sounderlaw06_SentParts_pi sounderlaw06_SentParts_c62 (sounderlaw06_SentParts_q74 R) l H) (sounderlaw06_SentParts_q74 R))
noncomputable def sounderlaw06_SentParts_q94 (R : Value → Heap → Prop) : Exit → List Value → Heap → Prop := (blkE 2 (sounderlaw06_SentParts_q93 R))
noncomputable def sounderlaw06_SentParts_q95 (K2 : Value → Value → Value → Value → Value → Value → Value →  Heap → Prop) (R : Value → Heap → Prop) : Exit → List Value → Heap → Prop := (thenE (fun l H => K2 (l.getD 5 undef) (l.getD 11 undef) (l.getD 12 undef) (l.getD 13 undef) (l.getD 14 undef) (l.getD 15 undef) (l.getD 16 undef) H) (sounderlaw06_SentParts_q94 R))
theorem sounderlaw06_SentParts_s87_i (K2 : Value → Value → Value → Value → Value → Value → Value →  Heap → Prop) (R : Value → Heap → Prop) (l : List Value) (H : Heap) (hl : l.length = 138) (h : sounderlaw06_SentParts_s87 (l.getD 5 undef) (l.getD 11 undef) (l.getD 12 undef) (l.getD 13 undef) (l.getD 14 undef) (l.getD 15 undef) (l.getD 16 undef) K2 R H) : wpE tab P sounderlaw06_SentParts_pi sounderlaw06_SentParts_c49 (sounderlaw06_SentParts_q95 K2 R) l H := by
  refine seqI (c := sounderlaw06_SentParts_c49) rfl ?_
  refine seqI (c := sounderlaw06_SentParts_c50) rfl ?_
  refine regI hl (Eq.mpr (sounderlaw06_SentParts_g88_e _ (fun i => l.getD i undef) _) h) ?_
  clear h hl
  intro l H hl h
  refine thenN ?_
  refine condI (c := sounderlaw06_SentParts_c52) rfl h ?_ ?_
  · clear h; intro h
    refine skipI rfl ?_
    refine thenN ?_
    refine seqI (c := sounderlaw06_SentParts_c54) rfl ?_
    refine blockI (c := sounderlaw06_SentParts_c55) rfl ?_
    refine seqI (c := sounderlaw06_SentParts_c56) rfl ?_
    refine regI hl (Eq.mpr (sounderlaw06_SentParts_g89_e _ (fun i => l.getD i undef) _) h) ?_
    clear h hl
    intro l H hl h
    refine thenN ?_
    refine condI (c := sounderlaw06_SentParts_c58) rfl h ?_ ?_
    · clear h; intro h
      refine seqI (c := sounderlaw06_SentParts_c59) rfl ?_
      refine regI hl (Eq.mpr (sounderlaw06_SentParts_g90_e _ (fun i => l.getD i undef) _) h) ?_
      clear h hl
      intro l H hl h
      refine thenN ?_
      refine retI rfl ?_
      refine blkR ?_
      refine thenR ?_
      refine thenR ?_
      refine blkR ?_
      refine thenR ?_
      exact h
    · clear h; intro h
      refine skipI rfl ?_
      refine blkN ?_
      refine thenN ?_
      refine regI hl (Eq.mpr (sounderlaw06_SentParts_g91_e _ (fun i => l.getD i undef) _) h) ?_
      clear h hl
      intro l H hl h
      refine thenN ?_
      exact h
  · clear h; intro h
    refine exitI (c := sounderlaw06_SentParts_c53) rfl ?_
    refine thenX ?_
    refine thenX ?_
    refine blkX ?_
    refine thenN ?_
    refine seqI (c := sounderlaw06_SentParts_c62) rfl ?_
    refine regI hl (Eq.mpr (sounderlaw06_SentParts_g92_e _ (fun i => l.getD i undef) _) h) ?_
    clear h hl
    intro l H hl h
    refine thenN ?_
    refine retI rfl ?_
    exact h
def sounderlaw06_SentParts_l96 (x5 x11 x12 x13 x14 x15 x16 : Value) (R : Value → Heap → Prop) (H : Heap) : Prop :=
  ∃ (I : Value → Heap → Prop) (μ : Value → Heap → Nat), I x16 H ∧ ∀ (y16 : Value) (H : Heap), I y16 H → sounderlaw06_SentParts_s87 x5 x11 x12 x13 x14 x15 y16 (fun z5 z11 z12 z13 z14 z15 z16 H' => z5 = x5 ∧ z11 = x11 ∧ z12 = x12 ∧ z13 = x13 ∧ z14 = x14 ∧ z15 = x15 ∧ (I z16 H' ∧ μ z16 H' < μ y16 H)) R H
def sounderlaw06_SentParts_s70 (x0 x3 x5 x7 x8 : Value) (K1 : Value → Value → Value → Value → Value →  Heap → Prop) (R : Value → Heap → Prop) (H : Heap) : Prop :=
  sounderlaw06_SentParts_g71 (fun x0 x3 x5 x7 x8 x30 H => brV x30
  (sounderlaw06_SentParts_g78 (fun x0 x3 x5 x7 x8 H => sounderlaw06_SentParts_g79 (fun x0 x3 x5 x7 x8 x46 H => brV x46
  (sounderlaw06_SentParts_g80 (fun x4 H => R x4 H) H)
  (sounderlaw06_SentParts_g81 (fun x0 x3 x5 x7 x8 x53 H => brV x53
  (sounderlaw06_SentParts_g82 (fun x0 x3 x5 x7 x8 H => sounderlaw06_SentParts_s72 x0 x3 x5 x7 x8 K1 R H) x0 x3 x5 x7 x8 H)
  (sounderlaw06_SentParts_s72 x0 x3 x5 x7 x8 K1 R H)) x0 x3 x5 x7 x8 H)) x0 x3 x5 x7 x8 H) x0 x3 x5 x7 x8 H)
  (sounderlaw06_SentParts_g83 (fun x5 x7 x9 x10 H => sounderlaw06_SentParts_g84 (fun x5 x7 x11 x12 H => sounderlaw06_SentParts_g85 (fun x5 x11 x12 x13 x14 x15 H => sounderlaw06_SentParts_g86 (fun x5 x11 x12 x13 x14 x15 x16 H => sounderlaw06_SentParts_l96 x5 x11 x12 x13 x14 x15 x16 R H) x5 x11 x12 x13 x14 x15 H) x5 x7 x11 x12 H) x5 x7 x9 x10 H) x3 x5 x7 H)) x0 x3 x5 x7 x8 H
theorem sounderlaw06_SentParts_s70_i (K1 : Value → Value → Value → Value → Value →  Heap → Prop) (R : Value → Heap → Prop) (l : List Value) (H : Heap) (hl : l.length = 138) (h : sounderlaw06_SentParts_s70 (l.getD 0 undef) (l.getD 3 undef) (l.getD 5 undef) (l.getD 7 undef) (l.getD 8 undef) K1 R H) : wpE tab P sounderlaw06_SentParts_pi sounderlaw06_SentParts_c18 (sounderlaw06_SentParts_q77 K1 R) l H := by
  refine seqI (c := sounderlaw06_SentParts_c18) rfl ?_
  refine seqI (c := sounderlaw06_SentParts_c19) rfl ?_
  refine regI hl (Eq.mpr (sounderlaw06_SentParts_g71_e _ (fun i => l.getD i undef) _) h) ?_
  clear h hl
  intro l H hl h
  refine thenN ?_
  refine condI (c := sounderlaw06_SentParts_c21) rfl h ?_ ?_
  · clear h; intro h
    refine skipI rfl ?_
    refine thenN ?_
    refine seqI (c := sounderlaw06_SentParts_c23) rfl ?_
    refine blockI (c := sounderlaw06_SentParts_c24) rfl ?_
    refine seqI (c := sounderlaw06_SentParts_c25) rfl ?_
    refine regI hl (Eq.mpr (sounderlaw06_SentParts_g78_e _ (fun i => l.getD i undef) _) h) ?_
    clear h hl
    intro l H hl h
    refine thenN ?_
    refine seqI (c := sounderlaw06_SentParts_c27) rfl ?_
    refine seqI (c := sounderlaw06_SentParts_c28) rfl ?_
    refine regI hl (Eq.mpr (sounderlaw06_SentParts_g79_e _ (fun i => l.getD i undef) _) h) ?_
    clear h hl
    intro l H hl h
    refine thenN ?_
    refine condI (c := sounderlaw06_SentParts_c30) rfl h ?_ ?_
    · clear h; intro h
      refine seqI (c := sounderlaw06_SentParts_c31) rfl ?_
      refine regI hl (Eq.mpr (sounderlaw06_SentParts_g80_e _ (fun i => l.getD i undef) _) h) ?_
      clear h hl
      intro l H hl h
      refine thenN ?_
      refine retI rfl ?_
      refine thenR ?_
      refine blkR ?_
      refine thenR ?_
      refine thenR ?_
      refine blkR ?_
      refine thenR ?_
      exact h
    · clear h; intro h
      refine skipI rfl ?_
      refine thenN ?_
      refine seqI (c := sounderlaw06_SentParts_c33) rfl ?_
      refine regI hl (Eq.mpr (sounderlaw06_SentParts_g81_e _ (fun i => l.getD i undef) _) h) ?_
      clear h hl
      intro l H hl h
      refine thenN ?_
      refine condI (c := sounderlaw06_SentParts_c35) rfl h ?_ ?_
      · clear h; intro h
        refine regI hl (Eq.mpr (sounderlaw06_SentParts_g82_e _ (fun i => l.getD i undef) _) h) ?_
        clear h hl
        intro l H hl h
        refine blkN ?_
        refine thenN ?_
        exact sounderlaw06_SentParts_s72_i K1 R l H hl h
      · clear h; intro h
        refine skipI rfl ?_
        refine blkN ?_
        refine thenN ?_
        exact sounderlaw06_SentParts_s72_i K1 R l H hl h
  · clear h; intro h
    refine exitI (c := sounderlaw06_SentParts_c22) rfl ?_
    refine thenX ?_
    refine thenX ?_
    refine blkX ?_
    refine thenN ?_
    refine seqI (c := sounderlaw06_SentParts_c38) rfl ?_
    refine regI hl (Eq.mpr (sounderlaw06_SentParts_g83_e _ (fun i => l.getD i undef) _) h) ?_
    clear h hl
    intro l H hl h
    refine thenN ?_
    refine seqI (c := sounderlaw06_SentParts_c40) rfl ?_
    refine regI hl (Eq.mpr (sounderlaw06_SentParts_g84_e _ (fun i => l.getD i undef) _) h) ?_
    clear h hl
    intro l H hl h
    refine thenN ?_
    refine seqI (c := sounderlaw06_SentParts_c42) rfl ?_
    refine regI hl (Eq.mpr (sounderlaw06_SentParts_g85_e _ (fun i => l.getD i undef) _) h) ?_
    clear h hl
    intro l H hl h
    refine thenN ?_
    refine seqI (c := sounderlaw06_SentParts_c44) rfl ?_
    refine seqI (c := sounderlaw06_SentParts_c45) rfl ?_
    refine regI hl (Eq.mpr (sounderlaw06_SentParts_g86_e _ (fun i => l.getD i undef) _) h) ?_
    clear h hl
    intro l H hl h
    refine thenN ?_
    refine blockI (c := sounderlaw06_SentParts_c47) rfl ?_
    obtain ⟨I, μ, h0, hr⟩ := h
    refine loopI (c := sounderlaw06_SentParts_c48) rfl (fun l' H' => l'.getD 5 undef = l.getD 5 undef ∧ l'.getD 11 undef = l.getD 11 undef ∧ l'.getD 12 undef = l.getD 12 undef ∧ l'.getD 13 undef = l.getD 13 undef ∧ l'.getD 14 undef = l.getD 14 undef ∧ l'.getD 15 undef = l.getD 15 undef ∧ I (l'.getD 16 undef) H') (fun l' H' => μ (l'.getD 16 undef) H') hl ⟨rfl, rfl, rfl, rfl, rfl, rfl, h0⟩ ?_
    rintro l1 H1 hl1 ⟨e5, e11, e12, e13, e14, e15, hI⟩
    have hb := hr (l1.getD 16 undef) H1 hI
    rw [← e5, ← e11, ← e12, ← e13, ← e14, ← e15] at hb
    refine wpE_mono _ l1 H1 hl1 ?_ (sounderlaw06_SentParts_s87_i _ R l1 H1 hl1 hb)
    intro e l2 H2 hl2 hq
    cases e with
    | normal => exact fun _ => (by obtain ⟨d5, d11, d12, d13, d14, d15, g1, g2⟩ := hq; exact ⟨⟨d5.trans e5, d11.trans e11, d12.trans e12, d13.trans e13, d14.trans e14, d15.trans e15, g1⟩, g2⟩)
    | _ => exact hq
def sounderlaw06_SentParts_l97 (x0 x3 x5 x7 x8 : Value) (R : Value → Heap → Prop) (H : Heap) : Prop :=
  ∃ (I : Value → Value → Heap → Prop) (μ : Value → Value → Heap → Nat), I x7 x8 H ∧ ∀ (y7 : Value) (y8 : Value) (H : Heap), I y7 y8 H → sounderlaw06_SentParts_s70 x0 x3 x5 y7 y8 (fun z0 z3 z5 z7 z8 H' => z0 = x0 ∧ z3 = x3 ∧ z5 = x5 ∧ (I z7 z8 H' ∧ μ z7 z8 H' < μ y7 y8 H)) R H
def sounderlaw06_SentParts (x0 x1 : Value) (R : Value → Heap → Prop) (H : Heap) : Prop :=
  sounderlaw06_SentParts_g64 (fun x0 x3 H => sounderlaw06_SentParts_g65 (fun x0 x3 x5 x6 H => sounderlaw06_SentParts_g66 (fun x0 x3 x5 x22 H => brV x22
  (sounderlaw06_SentParts_g67 (fun x4 H => R x4 H) H)
  (sounderlaw06_SentParts_g68 (fun x0 x3 x5 x7 H => sounderlaw06_SentParts_g69 (fun x0 x3 x5 x7 x8 H => sounderlaw06_SentParts_l97 x0 x3 x5 x7 x8 R H) x0 x3 x5 x7 H) x0 x3 x5 H)) x0 x3 x5 x6 H) x0 x3 H) x0 x1 H
theorem sounderlaw06_SentParts_i (R : Value → Heap → Prop) (x0 x1 : Value) (H : Heap) (h : sounderlaw06_SentParts x0 x1 R H) : wpE tab P sounderlaw06_SentParts_pi sounderlaw06_SentParts_c1 (retQ tab sounderlaw06_SentParts_rs R) [x0, x1, undef, undef, undef, undef, undef, undef, undef, undef, undef, undef, undef, undef, undef, undef, undef, undef, undef, undef, undef, undef, undef, undef, undef, undef, undef, undef, undef, undef, undef, undef, undef, undef, undef, undef, undef, undef, undef, undef, undef, undef, undef, undef, undef, undef, undef, undef, undef, undef, undef, undef, undef, undef, undef, undef, undef, undef, undef, undef, undef, undef, undef, undef, undef, undef, undef, undef, undef, undef, undef, undef, undef, undef, undef, undef, undef, undef, undef, undef, undef, undef, undef, undef, undef, undef, undef, undef, undef, undef, undef, undef, undef, undef, undef, undef, undef, undef, undef, undef, undef, undef, undef, undef, undef, undef, undef, undef, undef, undef, undef, undef, undef, undef, undef, undef, undef, undef, undef, undef, undef, undef, undef, undef, undef, undef, undef, undef, undef, undef, undef, undef, undef, undef, undef, undef, undef, undef] H := by
  obtain ⟨l, hl, el⟩ : ∃ l : List Value, l.length = 138 ∧ l = [x0, x1, undef, undef, undef, undef, undef, undef, undef, undef, undef, undef, undef, undef, undef, undef, undef, undef, undef, undef, undef, undef, undef, undef, undef, undef, undef, undef, undef, undef, undef, undef, undef, undef, undef, undef, undef, undef, undef, undef, undef, undef, undef, undef, undef, undef, undef, undef, undef, undef, undef, undef, undef, undef, undef, undef, undef, undef, undef, undef, undef, undef, undef, undef, undef, undef, undef, undef, undef, undef, undef, undef, undef, undef, undef, undef, undef, undef, undef, undef, undef, undef, undef, undef, undef, undef, undef, undef, undef, undef, undef, undef, undef, undef, undef, undef, undef, undef, undef, undef, undef, undef, undef, undef, undef, undef, undef, undef, undef, undef, undef, undef, undef, undef, undef, undef, undef, undef, undef, undef, undef, undef, undef, undef, undef, undef, undef, undef, undef, undef, undef, undef, undef, undef, undef, undef, undef, undef] := ⟨_, rfl, rfl⟩
  rw [← el]
  have h : (fun (x0 x1 : Value) => sounderlaw06_SentParts_g64 (fun x0 x3 H => sounderlaw06_SentParts_g65 (fun x0 x3 x5 x6 H => sounderlaw06_SentParts_g66 (fun x0 x3 x5 x22 H => brV x22
(sounderlaw06_SentParts_g67 (fun x4 H => R x4 H) H)
(sounderlaw06_SentParts_g68 (fun x0 x3 x5 x7 H => sounderlaw06_SentParts_g69 (fun x0 x3 x5 x7 x8 H => sounderlaw06_SentParts_l97 x0 x3 x5 x7 x8 R H) x0 x3 x5 x7 H) x0 x3 x5 H)) x0 x3 x5 x6 H) x0 x3 H) x0 x1 H) (l.getD 0 undef) (l.getD 1 undef) := by rw [el]; exact h
  clear el
  refine seqI (c := sounderlaw06_SentParts_c1) rfl ?_
  refine regI hl (Eq.mpr (sounderlaw06_SentParts_g64_e _ (fun i => l.getD i undef) _) h) ?_
  clear h hl
  intro l H hl h
  refine thenN ?_
  refine seqI (c := sounderlaw06_SentParts_c3) rfl ?_
  refine regI hl (Eq.mpr (sounderlaw06_SentParts_g65_e _ (fun i => l.getD i undef) _) h) ?_
  clear h hl
  intro l H hl h
  refine thenN ?_
  refine seqI (c := sounderlaw06_SentParts_c5) rfl ?_
  refine seqI (c := sounderlaw06_SentParts_c6) rfl ?_
  refine regI hl (Eq.mpr (sounderlaw06_SentParts_g66_e _ (fun i => l.getD i undef) _) h) ?_
  clear h hl
  intro l H hl h
  refine thenN ?_
  refine condI (c := sounderlaw06_SentParts_c8) rfl h ?_ ?_
  · clear h; intro h
    refine seqI (c := sounderlaw06_SentParts_c9) rfl ?_
    refine regI hl (Eq.mpr (sounderlaw06_SentParts_g67_e _ (fun i => l.getD i undef) _) h) ?_
    clear h hl
    intro l H hl h
    refine thenN ?_
    refine retI rfl ?_
    refine thenR ?_
    exact h
  · clear h; intro h
    refine skipI rfl ?_
    refine thenN ?_
    refine seqI (c := sounderlaw06_SentParts_c11) rfl ?_
    refine regI hl (Eq.mpr (sounderlaw06_SentParts_g68_e _ (fun i => l.getD i undef) _) h) ?_
    clear h hl
    intro l H hl h
    refine thenN ?_
    refine seqI (c := sounderlaw06_SentParts_c13) rfl ?_
    refine seqI (c := sounderlaw06_SentParts_c14) rfl ?_
    refine regI hl (Eq.mpr (sounderlaw06_SentParts_g69_e _ (fun i => l.getD i undef) _) h) ?_
    clear h hl
    intro l H hl h
    refine thenN ?_
    refine blockI (c := sounderlaw06_SentParts_c16) rfl ?_
    obtain ⟨I, μ, h0, hr⟩ := h
    refine loopI (c := sounderlaw06_SentParts_c17) rfl (fun l' H' => l'.getD 0 undef = l.getD 0 undef ∧ l'.getD 3 undef = l.getD 3 undef ∧ l'.getD 5 undef = l.getD 5 undef ∧ I (l'.getD 7 undef) (l'.getD 8 undef) H') (fun l' H' => μ (l'.getD 7 undef) (l'.getD 8 undef) H') hl ⟨rfl, rfl, rfl, h0⟩ ?_
    rintro l1 H1 hl1 ⟨e0, e3, e5, hI⟩
    have hb := hr (l1.getD 7 undef) (l1.getD 8 undef) H1 hI
    rw [← e0, ← e3, ← e5] at hb
    refine wpE_mono _ l1 H1 hl1 ?_ (sounderlaw06_SentParts_s70_i _ R l1 H1 hl1 hb)
    intro e l2 H2 hl2 hq
    cases e with
    | normal => exact fun _ => (by obtain ⟨d0, d3, d5, g1, g2⟩ := hq; exact ⟨⟨d0.trans e0, d3.trans e3, d5.trans e5, g1⟩, g2⟩)
    | _ => exact hq
theorem sounderlaw06_SentParts_ok : okB sounderlaw06_SentParts_pi sounderlaw06_SentParts_c1 = true := by kernel_rfl
theorem sounderlaw06_SentParts_ev (x0 x1 : Value) (R : Value → Heap → Prop) (H : Heap) (h : sounderlaw06_SentParts x0 x1 R H) : EvF P N.sounderlaw06_SentParts #[x0, x1] H R :=
  EvF_intro (args := [x0, x1]) (k := 136) (rs := sounderlaw06_SentParts_rs) tab_ok mixed Try.func5 (show Try.f5.body = some sounderlaw06_SentParts_c1 by kernel_rfl) Try.call5 Try.ntmps5 (by kernel_rfl) (okCode_of _ sounderlaw06_SentParts_ok) rfl (sounderlaw06_SentParts_i R x0 x1 H h)
/- 6: sounder/sounderlaw06.SentRoom -/
def sounderlaw06_SentRoom_rs : List ResultVar := [.tmp 4]
noncomputable def sounderlaw06_SentRoom_c2 : Code := subC (bodyC Try.f6) [0]
noncomputable def sounderlaw06_SentRoom_c4 : Code := subC (bodyC Try.f6) [1, 0]
noncomputable def sounderlaw06_SentRoom_c6 : Code := subC (bodyC Try.f6) [1, 1, 0]
noncomputable def sounderlaw06_SentRoom_c9 : Code := subC (bodyC Try.f6) [1, 1, 1, 0, 0]
noncomputable def sounderlaw06_SentRoom_c12 : Code := subC (bodyC Try.f6) [1, 1, 1, 0, 1, 0, 0]
noncomputable def sounderlaw06_SentRoom_c11 : Code := .seq sounderlaw06_SentRoom_c12 Code.ret
noncomputable def sounderlaw06_SentRoom_c10 : Code := .cond (.tmp 21) sounderlaw06_SentRoom_c11 Code.skip
noncomputable def sounderlaw06_SentRoom_c8 : Code := .seq sounderlaw06_SentRoom_c9 sounderlaw06_SentRoom_c10
noncomputable def sounderlaw06_SentRoom_c14 : Code := subC (bodyC Try.f6) [1, 1, 1, 1, 0]
noncomputable def sounderlaw06_SentRoom_c20 : Code := subC (bodyC Try.f6) [1, 1, 1, 1, 1, 0, 0, 0, 0, 0]
noncomputable def sounderlaw06_SentRoom_c22 : Code := .exit 0
noncomputable def sounderlaw06_SentRoom_c21 : Code := .cond (.tmp 24) Code.skip sounderlaw06_SentRoom_c22
noncomputable def sounderlaw06_SentRoom_c19 : Code := .seq sounderlaw06_SentRoom_c20 sounderlaw06_SentRoom_c21
noncomputable def sounderlaw06_SentRoom_c26 : Code := subC (bodyC Try.f6) [1, 1, 1, 1, 1, 0, 0, 0, 1, 0, 0, 0]
noncomputable def sounderlaw06_SentRoom_c29 : Code := subC (bodyC Try.f6) [1, 1, 1, 1, 1, 0, 0, 0, 1, 0, 0, 1, 0, 0]
noncomputable def sounderlaw06_SentRoom_c28 : Code := .seq sounderlaw06_SentRoom_c29 Code.ret
noncomputable def sounderlaw06_SentRoom_c27 : Code := .cond (.tmp 31) sounderlaw06_SentRoom_c28 Code.skip
noncomputable def sounderlaw06_SentRoom_c25 : Code := .seq sounderlaw06_SentRoom_c26 sounderlaw06_SentRoom_c27
noncomputable def sounderlaw06_SentRoom_c24 : Code := .block 1 sounderlaw06_SentRoom_c25
noncomputable def sounderlaw06_SentRoom_c30 : Code := subC (bodyC Try.f6) [1, 1, 1, 1, 1, 0, 0, 0, 1, 1]
noncomputable def sounderlaw06_SentRoom_c23 : Code := .seq sounderlaw06_SentRoom_c24 sounderlaw06_SentRoom_c30
noncomputable def sounderlaw06_SentRoom_c18 : Code := .seq sounderlaw06_SentRoom_c19 sounderlaw06_SentRoom_c23
noncomputable def sounderlaw06_SentRoom_c17 : Code := .loop sounderlaw06_SentRoom_c18
noncomputable def sounderlaw06_SentRoom_c16 : Code := .block 0 sounderlaw06_SentRoom_c17
noncomputable def sounderlaw06_SentRoom_c33 : Code := subC (bodyC Try.f6) [1, 1, 1, 1, 1, 1, 0, 0]
noncomputable def sounderlaw06_SentRoom_c38 : Code := subC (bodyC Try.f6) [1, 1, 1, 1, 1, 1, 0, 1, 0, 0, 0, 0]
noncomputable def sounderlaw06_SentRoom_c40 : Code := .exit 2
noncomputable def sounderlaw06_SentRoom_c39 : Code := .cond (.tmp 39) Code.skip sounderlaw06_SentRoom_c40
noncomputable def sounderlaw06_SentRoom_c37 : Code := .seq sounderlaw06_SentRoom_c38 sounderlaw06_SentRoom_c39
noncomputable def sounderlaw06_SentRoom_c44 : Code := subC (bodyC Try.f6) [1, 1, 1, 1, 1, 1, 0, 1, 0, 0, 1, 0, 0, 0]
noncomputable def sounderlaw06_SentRoom_c47 : Code := subC (bodyC Try.f6) [1, 1, 1, 1, 1, 1, 0, 1, 0, 0, 1, 0, 0, 1, 0, 0]
noncomputable def sounderlaw06_SentRoom_c50 : Code := subC (bodyC Try.f6) [1, 1, 1, 1, 1, 1, 0, 1, 0, 0, 1, 0, 0, 1, 0, 1, 0, 0]
noncomputable def sounderlaw06_SentRoom_c49 : Code := .seq sounderlaw06_SentRoom_c50 Code.ret
noncomputable def sounderlaw06_SentRoom_c48 : Code := .cond (.tmp 61) sounderlaw06_SentRoom_c49 Code.skip
noncomputable def sounderlaw06_SentRoom_c46 : Code := .seq sounderlaw06_SentRoom_c47 sounderlaw06_SentRoom_c48
noncomputable def sounderlaw06_SentRoom_c52 : Code := subC (bodyC Try.f6) [1, 1, 1, 1, 1, 1, 0, 1, 0, 0, 1, 0, 0, 1, 1, 0]
noncomputable def sounderlaw06_SentRoom_c55 : Code := subC (bodyC Try.f6) [1, 1, 1, 1, 1, 1, 0, 1, 0, 0, 1, 0, 0, 1, 1, 1, 0, 0]
noncomputable def sounderlaw06_SentRoom_c58 : Code := subC (bodyC Try.f6) [1, 1, 1, 1, 1, 1, 0, 1, 0, 0, 1, 0, 0, 1, 1, 1, 0, 1, 0, 0]
noncomputable def sounderlaw06_SentRoom_c57 : Code := .seq sounderlaw06_SentRoom_c58 Code.ret
noncomputable def sounderlaw06_SentRoom_c56 : Code := .cond (.tmp 103) sounderlaw06_SentRoom_c57 Code.skip
noncomputable def sounderlaw06_SentRoom_c54 : Code := .seq sounderlaw06_SentRoom_c55 sounderlaw06_SentRoom_c56
noncomputable def sounderlaw06_SentRoom_c59 : Code := subC (bodyC Try.f6) [1, 1, 1, 1, 1, 1, 0, 1, 0, 0, 1, 0, 0, 1, 1, 1, 1]
noncomputable def sounderlaw06_SentRoom_c53 : Code := .seq sounderlaw06_SentRoom_c54 sounderlaw06_SentRoom_c59
noncomputable def sounderlaw06_SentRoom_c51 : Code := .seq sounderlaw06_SentRoom_c52 sounderlaw06_SentRoom_c53
noncomputable def sounderlaw06_SentRoom_c45 : Code := .seq sounderlaw06_SentRoom_c46 sounderlaw06_SentRoom_c51
noncomputable def sounderlaw06_SentRoom_c43 : Code := .seq sounderlaw06_SentRoom_c44 sounderlaw06_SentRoom_c45
noncomputable def sounderlaw06_SentRoom_c42 : Code := .block 3 sounderlaw06_SentRoom_c43
noncomputable def sounderlaw06_SentRoom_c60 : Code := subC (bodyC Try.f6) [1, 1, 1, 1, 1, 1, 0, 1, 0, 0, 1, 1]
noncomputable def sounderlaw06_SentRoom_c41 : Code := .seq sounderlaw06_SentRoom_c42 sounderlaw06_SentRoom_c60
noncomputable def sounderlaw06_SentRoom_c36 : Code := .seq sounderlaw06_SentRoom_c37 sounderlaw06_SentRoom_c41
noncomputable def sounderlaw06_SentRoom_c35 : Code := .loop sounderlaw06_SentRoom_c36
noncomputable def sounderlaw06_SentRoom_c34 : Code := .block 2 sounderlaw06_SentRoom_c35
noncomputable def sounderlaw06_SentRoom_c32 : Code := .seq sounderlaw06_SentRoom_c33 sounderlaw06_SentRoom_c34
noncomputable def sounderlaw06_SentRoom_c62 : Code := subC (bodyC Try.f6) [1, 1, 1, 1, 1, 1, 1, 0]
noncomputable def sounderlaw06_SentRoom_c61 : Code := .seq sounderlaw06_SentRoom_c62 Code.ret
noncomputable def sounderlaw06_SentRoom_c31 : Code := .seq sounderlaw06_SentRoom_c32 sounderlaw06_SentRoom_c61
noncomputable def sounderlaw06_SentRoom_c15 : Code := .seq sounderlaw06_SentRoom_c16 sounderlaw06_SentRoom_c31
noncomputable def sounderlaw06_SentRoom_c13 : Code := .seq sounderlaw06_SentRoom_c14 sounderlaw06_SentRoom_c15
noncomputable def sounderlaw06_SentRoom_c7 : Code := .seq sounderlaw06_SentRoom_c8 sounderlaw06_SentRoom_c13
noncomputable def sounderlaw06_SentRoom_c5 : Code := .seq sounderlaw06_SentRoom_c6 sounderlaw06_SentRoom_c7
noncomputable def sounderlaw06_SentRoom_c3 : Code := .seq sounderlaw06_SentRoom_c4 sounderlaw06_SentRoom_c5
noncomputable def sounderlaw06_SentRoom_c1 : Code := .seq sounderlaw06_SentRoom_c2 sounderlaw06_SentRoom_c3
def sounderlaw06_SentRoom_pi (_ : Nat) : Pl := .nil
def sounderlaw06_SentRoom_g63 (S : Value → Value → Heap → Prop) (x0 x1 : Value) (H : Heap) : Prop :=
  S x0 x1 H
theorem sounderlaw06_SentRoom_g63_e (S : Value → Value → Heap → Prop) (x : Nat → Value) (H : Heap) : wpE tab P sounderlaw06_SentRoom_pi sounderlaw06_SentRoom_c2 (nQ fun l H => S (l.getD 0 undef) (l.getD 1 undef) H) ((List.range 107).map x) H = sounderlaw06_SentRoom_g63 S (x 0) (x 1) H := by kernel_rfl
def sounderlaw06_SentRoom_g64 (S : Value → Value → Heap → Prop) (x0 x1 : Value) (H : Heap) : Prop :=
  EvF P N.sounderref00_Bring #[x0, (.int .i64 20)] H fun v13 H1 =>
  bnd (binV .int .add (.int .i64 1) v13) fun v14 =>
  S v14 x1 H1
theorem sounderlaw06_SentRoom_g64_e (S : Value → Value → Heap → Prop) (x : Nat → Value) (H : Heap) : wpE tab P sounderlaw06_SentRoom_pi sounderlaw06_SentRoom_c4 (nQ fun l H => S (l.getD 0 undef) (l.getD 1 undef) H) ((List.range 107).map x) H = sounderlaw06_SentRoom_g64 S (x 0) (x 1) H := by kernel_rfl
def sounderlaw06_SentRoom_g65 (S : Value → Value → Value → Value → Heap → Prop) (x0 x1 : Value) (H : Heap) : Prop :=
  EvF P N.sent_New #[x0] H fun v17 H1 =>
  bnd (exV 0 v17) fun v18 =>
  bnd (exV 1 v17) fun v19 =>
  S x0 x1 v18 v19 H1
theorem sounderlaw06_SentRoom_g65_e (S : Value → Value → Value → Value → Heap → Prop) (x : Nat → Value) (H : Heap) : wpE tab P sounderlaw06_SentRoom_pi sounderlaw06_SentRoom_c6 (nQ fun l H => S (l.getD 0 undef) (l.getD 1 undef) (l.getD 5 undef) (l.getD 6 undef) H) ((List.range 107).map x) H = sounderlaw06_SentRoom_g65 S (x 0) (x 1) H := by kernel_rfl
def sounderlaw06_SentRoom_g66 (S : Value → Value → Value → Value → Heap → Prop) (x0 x1 x5 x6 : Value) (H : Heap) : Prop :=
  bnd (binV .int .neq x6 (.int .i64 0)) fun v21 =>
  S x0 x1 x5 v21 H
theorem sounderlaw06_SentRoom_g66_e (S : Value → Value → Value → Value → Heap → Prop) (x : Nat → Value) (H : Heap) : wpE tab P sounderlaw06_SentRoom_pi sounderlaw06_SentRoom_c9 (nQ fun l H => S (l.getD 0 undef) (l.getD 1 undef) (l.getD 5 undef) (l.getD 21 undef) H) ((List.range 107).map x) H = sounderlaw06_SentRoom_g66 S (x 0) (x 1) (x 5) (x 6) H := by kernel_rfl
def sounderlaw06_SentRoom_g67 (S : Value → Heap → Prop) (H : Heap) : Prop :=
  S (.bool false) H
theorem sounderlaw06_SentRoom_g67_e (S : Value → Heap → Prop) (x : Nat → Value) (H : Heap) : wpE tab P sounderlaw06_SentRoom_pi sounderlaw06_SentRoom_c12 (nQ fun l H => S (l.getD 4 undef) H) ((List.range 107).map x) H = sounderlaw06_SentRoom_g67 S  H := by kernel_rfl
def sounderlaw06_SentRoom_g68 (S : Value → Value → Value → Value → Heap → Prop) (x0 x1 x5 : Value) (H : Heap) : Prop :=
  S x0 x1 x5 (.int .i64 0) H
theorem sounderlaw06_SentRoom_g68_e (S : Value → Value → Value → Value → Heap → Prop) (x : Nat → Value) (H : Heap) : wpE tab P sounderlaw06_SentRoom_pi sounderlaw06_SentRoom_c14 (nQ fun l H => S (l.getD 0 undef) (l.getD 1 undef) (l.getD 5 undef) (l.getD 7 undef) H) ((List.range 107).map x) H = sounderlaw06_SentRoom_g68 S (x 0) (x 1) (x 5) H := by kernel_rfl
def sounderlaw06_SentRoom_g70 (S : Value → Value → Value → Value → Value → Heap → Prop) (x0 x1 x5 x7 : Value) (H : Heap) : Prop :=
  bnd (binV .int .lss x7 x0) fun v24 =>
  S x0 x1 x5 x7 v24 H
theorem sounderlaw06_SentRoom_g70_e (S : Value → Value → Value → Value → Value → Heap → Prop) (x : Nat → Value) (H : Heap) : wpE tab P sounderlaw06_SentRoom_pi sounderlaw06_SentRoom_c20 (nQ fun l H => S (l.getD 0 undef) (l.getD 1 undef) (l.getD 5 undef) (l.getD 7 undef) (l.getD 24 undef) H) ((List.range 107).map x) H = sounderlaw06_SentRoom_g70 S (x 0) (x 1) (x 5) (x 7) H := by kernel_rfl
def sounderlaw06_SentRoom_g71 (S : Value → Value → Value → Value → Value → Heap → Prop) (x0 x1 x5 x7 : Value) (H : Heap) : Prop :=
  EvF P N.sounderlaw06_one #[x7] H fun v29 H1 =>
  EvF P N.sent_Log_Put #[x5, v29] H1 fun v30 H2 =>
  bnd (binV .int .neq v30 (.int .i64 0)) fun v31 =>
  S x0 x1 x5 x7 v31 H2
theorem sounderlaw06_SentRoom_g71_e (S : Value → Value → Value → Value → Value → Heap → Prop) (x : Nat → Value) (H : Heap) : wpE tab P sounderlaw06_SentRoom_pi sounderlaw06_SentRoom_c26 (nQ fun l H => S (l.getD 0 undef) (l.getD 1 undef) (l.getD 5 undef) (l.getD 7 undef) (l.getD 31 undef) H) ((List.range 107).map x) H = sounderlaw06_SentRoom_g71 S (x 0) (x 1) (x 5) (x 7) H := by kernel_rfl
def sounderlaw06_SentRoom_g72 (S : Value → Heap → Prop) (H : Heap) : Prop :=
  S (.bool false) H
theorem sounderlaw06_SentRoom_g72_e (S : Value → Heap → Prop) (x : Nat → Value) (H : Heap) : wpE tab P sounderlaw06_SentRoom_pi sounderlaw06_SentRoom_c29 (nQ fun l H => S (l.getD 4 undef) H) ((List.range 107).map x) H = sounderlaw06_SentRoom_g72 S  H := by kernel_rfl
def sounderlaw06_SentRoom_g73 (S : Value → Value → Value → Value → Heap → Prop) (x0 x1 x5 x7 : Value) (H : Heap) : Prop :=
  bnd (binV .int .add x7 (.int .i64 1)) fun v26 =>
  S x0 x1 x5 v26 H
theorem sounderlaw06_SentRoom_g73_e (S : Value → Value → Value → Value → Heap → Prop) (x : Nat → Value) (H : Heap) : wpE tab P sounderlaw06_SentRoom_pi sounderlaw06_SentRoom_c30 (nQ fun l H => S (l.getD 0 undef) (l.getD 1 undef) (l.getD 5 undef) (l.getD 7 undef) H) ((List.range 107).map x) H = sounderlaw06_SentRoom_g73 S (x 0) (x 1) (x 5) (x 7) H := by kernel_rfl
def sounderlaw06_SentRoom_g74 (S : Value → Value → Value → Value → Value → Heap → Prop) (x0 x1 x5 x7 : Value) (H : Heap) : Prop :=
  S x0 x1 x5 x7 (.int .i64 0) H
theorem sounderlaw06_SentRoom_g74_e (S : Value → Value → Value → Value → Value → Heap → Prop) (x : Nat → Value) (H : Heap) : wpE tab P sounderlaw06_SentRoom_pi sounderlaw06_SentRoom_c33 (nQ fun l H => S (l.getD 0 undef) (l.getD 1 undef) (l.getD 5 undef) (l.getD 7 undef) (l.getD 8 undef) H) ((List.range 107).map x) H = sounderlaw06_SentRoom_g74 S (x 0) (x 1) (x 5) (x 7) H := by kernel_rfl
def sounderlaw06_SentRoom_g76 (S : Value → Value → Value → Value → Value → Value → Heap → Prop) (x0 x1 x5 x7 x8 : Value) (H : Heap) : Prop :=
  bnd (lenV x1) fun v34 =>
  bnd (binV .int .lss x8 v34) fun v35 =>
  brV v35
  (bnd (binV .int .lss x8 (.int .i64 100)) fun v38 =>
  S x0 x1 x5 x7 x8 v38 H)
  (S x0 x1 x5 x7 x8 (.bool false) H)
theorem sounderlaw06_SentRoom_g76_e (S : Value → Value → Value → Value → Value → Value → Heap → Prop) (x : Nat → Value) (H : Heap) : wpE tab P sounderlaw06_SentRoom_pi sounderlaw06_SentRoom_c38 (nQ fun l H => S (l.getD 0 undef) (l.getD 1 undef) (l.getD 5 undef) (l.getD 7 undef) (l.getD 8 undef) (l.getD 39 undef) H) ((List.range 107).map x) H = sounderlaw06_SentRoom_g76 S (x 0) (x 1) (x 5) (x 7) (x 8) H := by kernel_rfl
def sounderlaw06_SentRoom_g77 (S : Value → Value → Value → Value → Value → Value → Heap → Prop) (x0 x1 x5 x7 x8 : Value) (H : Heap) : Prop :=
  EvF P N.sent_Log_All #[x5] H fun v43 H1 =>
  S x0 x1 x5 x7 x8 v43 H1
theorem sounderlaw06_SentRoom_g77_e (S : Value → Value → Value → Value → Value → Value → Heap → Prop) (x : Nat → Value) (H : Heap) : wpE tab P sounderlaw06_SentRoom_pi sounderlaw06_SentRoom_c44 (nQ fun l H => S (l.getD 0 undef) (l.getD 1 undef) (l.getD 5 undef) (l.getD 7 undef) (l.getD 8 undef) (l.getD 9 undef) H) ((List.range 107).map x) H = sounderlaw06_SentRoom_g77 S (x 0) (x 1) (x 5) (x 7) (x 8) H := by kernel_rfl
def sounderlaw06_SentRoom_g78 (S : Value → Value → Value → Value → Value → Value → Value → Heap → Prop) (x0 x1 x5 x7 x8 x9 : Value) (H : Heap) : Prop :=
  EvF P N.sounderlaw06_one #[x7] H fun v46 H1 =>
  EvF P N.sent_Log_Put #[x5, v46] H1 fun v47 H2 =>
  bnd (binV .int .neq v47 (.int .i64 5)) fun v48 =>
  brV v48
  (S x0 x1 x5 x7 x8 x9 (.bool true) H2)
  (bnd (lenV x9) fun v51 =>
  bnd (binV .int .neq v51 x0) fun v53 =>
  brV v53
  (S x0 x1 x5 x7 x8 x9 (.bool true) H2)
  (EvF P N.sent_Log_Last #[x5] H2 fun v57 H3 =>
  bnd (binV .int .sub x7 (.int .i64 1)) fun v59 =>
  bnd (binV .int .neq v57 v59) fun v60 =>
  S x0 x1 x5 x7 x8 x9 v60 H3))
theorem sounderlaw06_SentRoom_g78_e (S : Value → Value → Value → Value → Value → Value → Value → Heap → Prop) (x : Nat → Value) (H : Heap) : wpE tab P sounderlaw06_SentRoom_pi sounderlaw06_SentRoom_c47 (nQ fun l H => S (l.getD 0 undef) (l.getD 1 undef) (l.getD 5 undef) (l.getD 7 undef) (l.getD 8 undef) (l.getD 9 undef) (l.getD 61 undef) H) ((List.range 107).map x) H = sounderlaw06_SentRoom_g78 S (x 0) (x 1) (x 5) (x 7) (x 8) (x 9) H := by kernel_rfl
def sounderlaw06_SentRoom_g79 (S : Value → Heap → Prop) (H : Heap) : Prop :=
  S (.bool false) H
theorem sounderlaw06_SentRoom_g79_e (S : Value → Heap → Prop) (x : Nat → Value) (H : Heap) : wpE tab P sounderlaw06_SentRoom_pi sounderlaw06_SentRoom_c50 (nQ fun l H => S (l.getD 4 undef) H) ((List.range 107).map x) H = sounderlaw06_SentRoom_g79 S  H := by kernel_rfl
def sounderlaw06_SentRoom_g80 (S : Value → Value → Value → Value → Value → Value → Value → Heap → Prop) (x0 x1 x5 x7 x8 x9 : Value) (H : Heap) : Prop :=
  bnd (ixSV 1 x1 x8) fun v67 =>
  bnd (ldE false 1 v67 H) fun v68 =>
  EvF P N.sounderref00_Bring #[v68, x0] H fun v70 H1 =>
  bnd (ixSV 6 x9 v70) fun v71 =>
  bnd (faV 0 v71) fun v72 =>
  bnd (ldE false 1 v72 H1) fun v73 =>
  EvF P N.sent_Log_Drop #[x5, v73] H1 fun v74 H2 =>
  bnd (exV 0 v74) fun v75 =>
  bnd (exV 1 v74) fun v76 =>
  newE 30 #[(.int .i64 0), (.int .i64 0), (.int .i64 0), (.bool false), (.bool false), (.bool false)] H2 fun v10 H3 =>
  bnd (stE 6 v10 v75 H3) fun H4 =>
  S x0 x1 x5 x7 x8 v10 v76 H4
theorem sounderlaw06_SentRoom_g80_e (S : Value → Value → Value → Value → Value → Value → Value → Heap → Prop) (x : Nat → Value) (H : Heap) : wpE tab P sounderlaw06_SentRoom_pi sounderlaw06_SentRoom_c52 (nQ fun l H => S (l.getD 0 undef) (l.getD 1 undef) (l.getD 5 undef) (l.getD 7 undef) (l.getD 8 undef) (l.getD 10 undef) (l.getD 11 undef) H) ((List.range 107).map x) H = sounderlaw06_SentRoom_g80 S (x 0) (x 1) (x 5) (x 7) (x 8) (x 9) H := by kernel_rfl
def sounderlaw06_SentRoom_g81 (S : Value → Value → Value → Value → Value → Value → Heap → Prop) (x0 x1 x5 x7 x8 x10 x11 : Value) (H : Heap) : Prop :=
  bnd (unV .not x11) fun v78 =>
  brV v78
  (S x0 x1 x5 x7 x8 (.bool true) H)
  (bnd (faV 4 x10) fun v80 =>
  bnd (ldE false 1 v80 H) fun v81 =>
  bnd (unV .not v81) fun v82 =>
  brV v82
  (S x0 x1 x5 x7 x8 (.bool true) H)
  (EvF P N.sounderlaw06_one #[x7] H fun v87 H1 =>
  EvF P N.sent_Log_Put #[x5, v87] H1 fun v88 H2 =>
  bnd (binV .int .neq v88 (.int .i64 0)) fun v89 =>
  brV v89
  (S x0 x1 x5 x7 x8 (.bool true) H2)
  (EvF P N.sent_Log_Len #[x5] H2 fun v93 H3 =>
  bnd (binV .int .neq v93 x0) fun v95 =>
  brV v95
  (S x0 x1 x5 x7 x8 (.bool true) H3)
  (EvF P N.sent_Log_Flight #[x5] H3 fun v99 H4 =>
  bnd (binV .int .mul (.int .i64 100) x0) fun v101 =>
  bnd (binV .int .neq v99 v101) fun v102 =>
  S x0 x1 x5 x7 x8 v102 H4))))
theorem sounderlaw06_SentRoom_g81_e (S : Value → Value → Value → Value → Value → Value → Heap → Prop) (x : Nat → Value) (H : Heap) : wpE tab P sounderlaw06_SentRoom_pi sounderlaw06_SentRoom_c55 (nQ fun l H => S (l.getD 0 undef) (l.getD 1 undef) (l.getD 5 undef) (l.getD 7 undef) (l.getD 8 undef) (l.getD 103 undef) H) ((List.range 107).map x) H = sounderlaw06_SentRoom_g81 S (x 0) (x 1) (x 5) (x 7) (x 8) (x 10) (x 11) H := by kernel_rfl
def sounderlaw06_SentRoom_g82 (S : Value → Heap → Prop) (H : Heap) : Prop :=
  S (.bool false) H
theorem sounderlaw06_SentRoom_g82_e (S : Value → Heap → Prop) (x : Nat → Value) (H : Heap) : wpE tab P sounderlaw06_SentRoom_pi sounderlaw06_SentRoom_c58 (nQ fun l H => S (l.getD 4 undef) H) ((List.range 107).map x) H = sounderlaw06_SentRoom_g82 S  H := by kernel_rfl
def sounderlaw06_SentRoom_g83 (S : Value → Value → Value → Value → Value → Heap → Prop) (x0 x1 x5 x7 x8 : Value) (H : Heap) : Prop :=
  bnd (binV .int .add x7 (.int .i64 1)) fun v105 =>
  S x0 x1 x5 v105 x8 H
theorem sounderlaw06_SentRoom_g83_e (S : Value → Value → Value → Value → Value → Heap → Prop) (x : Nat → Value) (H : Heap) : wpE tab P sounderlaw06_SentRoom_pi sounderlaw06_SentRoom_c59 (nQ fun l H => S (l.getD 0 undef) (l.getD 1 undef) (l.getD 5 undef) (l.getD 7 undef) (l.getD 8 undef) H) ((List.range 107).map x) H = sounderlaw06_SentRoom_g83 S (x 0) (x 1) (x 5) (x 7) (x 8) H := by kernel_rfl
def sounderlaw06_SentRoom_g84 (S : Value → Value → Value → Value → Value → Heap → Prop) (x0 x1 x5 x7 x8 : Value) (H : Heap) : Prop :=
  bnd (binV .int .add x8 (.int .i64 1)) fun v41 =>
  S x0 x1 x5 x7 v41 H
theorem sounderlaw06_SentRoom_g84_e (S : Value → Value → Value → Value → Value → Heap → Prop) (x : Nat → Value) (H : Heap) : wpE tab P sounderlaw06_SentRoom_pi sounderlaw06_SentRoom_c60 (nQ fun l H => S (l.getD 0 undef) (l.getD 1 undef) (l.getD 5 undef) (l.getD 7 undef) (l.getD 8 undef) H) ((List.range 107).map x) H = sounderlaw06_SentRoom_g84 S (x 0) (x 1) (x 5) (x 7) (x 8) H := by kernel_rfl
def sounderlaw06_SentRoom_g85 (S : Value → Heap → Prop) (H : Heap) : Prop :=
  EvF P N.sounderlaw06_works #[] H fun v106 H1 =>
  S v106 H1
theorem sounderlaw06_SentRoom_g85_e (S : Value → Heap → Prop) (x : Nat → Value) (H : Heap) : wpE tab P sounderlaw06_SentRoom_pi sounderlaw06_SentRoom_c62 (nQ fun l H => S (l.getD 4 undef) H) ((List.range 107).map x) H = sounderlaw06_SentRoom_g85 S  H := by kernel_rfl
def sounderlaw06_SentRoom_s75 (x0 x1 x5 x7 x8 : Value) (K2 : Value → Value → Value → Value → Value →  Heap → Prop) (R : Value → Heap → Prop) (H : Heap) : Prop :=
  sounderlaw06_SentRoom_g76 (fun x0 x1 x5 x7 x8 x39 H => brV x39
  (sounderlaw06_SentRoom_g77 (fun x0 x1 x5 x7 x8 x9 H => sounderlaw06_SentRoom_g78 (fun x0 x1 x5 x7 x8 x9 x61 H => brV x61
  (sounderlaw06_SentRoom_g79 (fun x4 H => R x4 H) H)
  (sounderlaw06_SentRoom_g80 (fun x0 x1 x5 x7 x8 x10 x11 H => sounderlaw06_SentRoom_g81 (fun x0 x1 x5 x7 x8 x103 H => brV x103
  (sounderlaw06_SentRoom_g82 (fun x4 H => R x4 H) H)
  (sounderlaw06_SentRoom_g83 (fun x0 x1 x5 x7 x8 H => sounderlaw06_SentRoom_g84 (fun x0 x1 x5 x7 x8 H => K2 x0 x1 x5 x7 x8 H) x0 x1 x5 x7 x8 H) x0 x1 x5 x7 x8 H)) x0 x1 x5 x7 x8 x10 x11 H) x0 x1 x5 x7 x8 x9 H)) x0 x1 x5 x7 x8 x9 H) x0 x1 x5 x7 x8 H)
  (sounderlaw06_SentRoom_g85 (fun x4 H => R x4 H) H)) x0 x1 x5 x7 x8 H
noncomputable def sounderlaw06_SentRoom_q86 (R : Value → Heap → Prop) : Exit → List Value → Heap → Prop := (retQ tab sounderlaw06_SentRoom_rs R)
noncomputable def sounderlaw06_SentRoom_q87 (R : Value → Heap → Prop) : Exit → List Value → Heap → Prop := (thenE (fun l H => wpE tab P sounderlaw06_SentRoom_pi sounderlaw06_SentRoom_c61 (sounderlaw06_SentRoom_q86 R) l H) (sounderlaw06_SentRoom_q86 R))
noncomputable def sounderlaw06_SentRoom_q88 (R : Value → Heap → Prop) : Exit → List Value → Heap → Prop := (blkE 2 (sounderlaw06_SentRoom_q87 R))
noncomputable def sounderlaw06_SentRoom_q89 (K2 : Value → Value → Value → Value → Value →  Heap → Prop) (R : Value → Heap → Prop) : Exit → List Value → Heap → Prop := (thenE (fun l H => K2 (l.getD 0 undef) (l.getD 1 undef) (l.getD 5 undef) (l.getD 7 undef) (l.getD 8 undef) H) (sounderlaw06_SentRoom_q88 R))
theorem sounderlaw06_SentRoom_s75_i (K2 : Value → Value → Value → Value → Value →  Heap → Prop) (R : Value → Heap → Prop) (l : List Value) (H : Heap) (hl : l.length = 107) (h : sounderlaw06_SentRoom_s75 (l.getD 0 undef) (l.getD 1 undef) (l.getD 5 undef) (l.getD 7 undef) (l.getD 8 undef) K2 R H) : wpE tab P sounderlaw06_SentRoom_pi sounderlaw06_SentRoom_c36 (sounderlaw06_SentRoom_q89 K2 R) l H := by
  refine seqI (c := sounderlaw06_SentRoom_c36) rfl ?_
  refine seqI (c := sounderlaw06_SentRoom_c37) rfl ?_
  refine regI hl (Eq.mpr (sounderlaw06_SentRoom_g76_e _ (fun i => l.getD i undef) _) h) ?_
  clear h hl
  intro l H hl h
  refine thenN ?_
  refine condI (c := sounderlaw06_SentRoom_c39) rfl h ?_ ?_
  · clear h; intro h
    refine skipI rfl ?_
    refine thenN ?_
    refine seqI (c := sounderlaw06_SentRoom_c41) rfl ?_
    refine blockI (c := sounderlaw06_SentRoom_c42) rfl ?_
    refine seqI (c := sounderlaw06_SentRoom_c43) rfl ?_
    refine regI hl (Eq.mpr (sounderlaw06_SentRoom_g77_e _ (fun i => l.getD i undef) _) h) ?_
    clear h hl
    intro l H hl h
    refine thenN ?_
    refine seqI (c := sounderlaw06_SentRoom_c45) rfl ?_
    refine seqI (c := sounderlaw06_SentRoom_c46) rfl ?_
    refine regI hl (Eq.mpr (sounderlaw06_SentRoom_g78_e _ (fun i => l.getD i undef) _) h) ?_
    clear h hl
    intro l H hl h
    refine thenN ?_
    refine condI (c := sounderlaw06_SentRoom_c48) rfl h ?_ ?_
    · clear h; intro h
      refine seqI (c := sounderlaw06_SentRoom_c49) rfl ?_
      refine regI hl (Eq.mpr (sounderlaw06_SentRoom_g79_e _ (fun i => l.getD i undef) _) h) ?_
      clear h hl
      intro l H hl h
      refine thenN ?_
      refine retI rfl ?_
      refine thenR ?_
      refine blkR ?_
      refine thenR ?_
      refine thenR ?_
      refine blkR ?_
      refine thenR ?_
      exact h
    · clear h; intro h
      refine skipI rfl ?_
      refine thenN ?_
      refine seqI (c := sounderlaw06_SentRoom_c51) rfl ?_
      refine regI hl (Eq.mpr (sounderlaw06_SentRoom_g80_e _ (fun i => l.getD i undef) _) h) ?_
      clear h hl
      intro l H hl h
      refine thenN ?_
      refine seqI (c := sounderlaw06_SentRoom_c53) rfl ?_
      refine seqI (c := sounderlaw06_SentRoom_c54) rfl ?_
      refine regI hl (Eq.mpr (sounderlaw06_SentRoom_g81_e _ (fun i => l.getD i undef) _) h) ?_
      clear h hl
      intro l H hl h
      refine thenN ?_
      refine condI (c := sounderlaw06_SentRoom_c56) rfl h ?_ ?_
      · clear h; intro h
        refine seqI (c := sounderlaw06_SentRoom_c57) rfl ?_
        refine regI hl (Eq.mpr (sounderlaw06_SentRoom_g82_e _ (fun i => l.getD i undef) _) h) ?_
        clear h hl
        intro l H hl h
        refine thenN ?_
        refine retI rfl ?_
        refine thenR ?_
        refine blkR ?_
        refine thenR ?_
        refine thenR ?_
        refine blkR ?_
        refine thenR ?_
        exact h
      · clear h; intro h
        refine skipI rfl ?_
        refine thenN ?_
        refine regI hl (Eq.mpr (sounderlaw06_SentRoom_g83_e _ (fun i => l.getD i undef) _) h) ?_
        clear h hl
        intro l H hl h
        refine blkN ?_
        refine thenN ?_
        refine regI hl (Eq.mpr (sounderlaw06_SentRoom_g84_e _ (fun i => l.getD i undef) _) h) ?_
        clear h hl
        intro l H hl h
        refine thenN ?_
        exact h
  · clear h; intro h
    refine exitI (c := sounderlaw06_SentRoom_c40) rfl ?_
    refine thenX ?_
    refine thenX ?_
    refine blkX ?_
    refine thenN ?_
    refine seqI (c := sounderlaw06_SentRoom_c61) rfl ?_
    refine regI hl (Eq.mpr (sounderlaw06_SentRoom_g85_e _ (fun i => l.getD i undef) _) h) ?_
    clear h hl
    intro l H hl h
    refine thenN ?_
    refine retI rfl ?_
    exact h
def sounderlaw06_SentRoom_l90 (x0 x1 x5 x7 x8 : Value) (R : Value → Heap → Prop) (H : Heap) : Prop :=
  ∃ (I : Value → Value → Heap → Prop) (μ : Value → Value → Heap → Nat), I x7 x8 H ∧ ∀ (y7 : Value) (y8 : Value) (H : Heap), I y7 y8 H → sounderlaw06_SentRoom_s75 x0 x1 x5 y7 y8 (fun z0 z1 z5 z7 z8 H' => z0 = x0 ∧ z1 = x1 ∧ z5 = x5 ∧ (I z7 z8 H' ∧ μ z7 z8 H' < μ y7 y8 H)) R H
def sounderlaw06_SentRoom_s69 (x0 x1 x5 x7 : Value) (K1 : Value → Value → Value → Value →  Heap → Prop) (R : Value → Heap → Prop) (H : Heap) : Prop :=
  sounderlaw06_SentRoom_g70 (fun x0 x1 x5 x7 x24 H => brV x24
  (sounderlaw06_SentRoom_g71 (fun x0 x1 x5 x7 x31 H => brV x31
  (sounderlaw06_SentRoom_g72 (fun x4 H => R x4 H) H)
  (sounderlaw06_SentRoom_g73 (fun x0 x1 x5 x7 H => K1 x0 x1 x5 x7 H) x0 x1 x5 x7 H)) x0 x1 x5 x7 H)
  (sounderlaw06_SentRoom_g74 (fun x0 x1 x5 x7 x8 H => sounderlaw06_SentRoom_l90 x0 x1 x5 x7 x8 R H) x0 x1 x5 x7 H)) x0 x1 x5 x7 H
noncomputable def sounderlaw06_SentRoom_q91 (R : Value → Heap → Prop) : Exit → List Value → Heap → Prop := (thenE (fun l H => wpE tab P sounderlaw06_SentRoom_pi sounderlaw06_SentRoom_c31 (sounderlaw06_SentRoom_q86 R) l H) (sounderlaw06_SentRoom_q86 R))
noncomputable def sounderlaw06_SentRoom_q92 (R : Value → Heap → Prop) : Exit → List Value → Heap → Prop := (blkE 0 (sounderlaw06_SentRoom_q91 R))
noncomputable def sounderlaw06_SentRoom_q93 (K1 : Value → Value → Value → Value →  Heap → Prop) (R : Value → Heap → Prop) : Exit → List Value → Heap → Prop := (thenE (fun l H => K1 (l.getD 0 undef) (l.getD 1 undef) (l.getD 5 undef) (l.getD 7 undef) H) (sounderlaw06_SentRoom_q92 R))
theorem sounderlaw06_SentRoom_s69_i (K1 : Value → Value → Value → Value →  Heap → Prop) (R : Value → Heap → Prop) (l : List Value) (H : Heap) (hl : l.length = 107) (h : sounderlaw06_SentRoom_s69 (l.getD 0 undef) (l.getD 1 undef) (l.getD 5 undef) (l.getD 7 undef) K1 R H) : wpE tab P sounderlaw06_SentRoom_pi sounderlaw06_SentRoom_c18 (sounderlaw06_SentRoom_q93 K1 R) l H := by
  refine seqI (c := sounderlaw06_SentRoom_c18) rfl ?_
  refine seqI (c := sounderlaw06_SentRoom_c19) rfl ?_
  refine regI hl (Eq.mpr (sounderlaw06_SentRoom_g70_e _ (fun i => l.getD i undef) _) h) ?_
  clear h hl
  intro l H hl h
  refine thenN ?_
  refine condI (c := sounderlaw06_SentRoom_c21) rfl h ?_ ?_
  · clear h; intro h
    refine skipI rfl ?_
    refine thenN ?_
    refine seqI (c := sounderlaw06_SentRoom_c23) rfl ?_
    refine blockI (c := sounderlaw06_SentRoom_c24) rfl ?_
    refine seqI (c := sounderlaw06_SentRoom_c25) rfl ?_
    refine regI hl (Eq.mpr (sounderlaw06_SentRoom_g71_e _ (fun i => l.getD i undef) _) h) ?_
    clear h hl
    intro l H hl h
    refine thenN ?_
    refine condI (c := sounderlaw06_SentRoom_c27) rfl h ?_ ?_
    · clear h; intro h
      refine seqI (c := sounderlaw06_SentRoom_c28) rfl ?_
      refine regI hl (Eq.mpr (sounderlaw06_SentRoom_g72_e _ (fun i => l.getD i undef) _) h) ?_
      clear h hl
      intro l H hl h
      refine thenN ?_
      refine retI rfl ?_
      refine blkR ?_
      refine thenR ?_
      refine thenR ?_
      refine blkR ?_
      refine thenR ?_
      exact h
    · clear h; intro h
      refine skipI rfl ?_
      refine blkN ?_
      refine thenN ?_
      refine regI hl (Eq.mpr (sounderlaw06_SentRoom_g73_e _ (fun i => l.getD i undef) _) h) ?_
      clear h hl
      intro l H hl h
      refine thenN ?_
      exact h
  · clear h; intro h
    refine exitI (c := sounderlaw06_SentRoom_c22) rfl ?_
    refine thenX ?_
    refine thenX ?_
    refine blkX ?_
    refine thenN ?_
    refine seqI (c := sounderlaw06_SentRoom_c31) rfl ?_
    refine seqI (c := sounderlaw06_SentRoom_c32) rfl ?_
    refine regI hl (Eq.mpr (sounderlaw06_SentRoom_g74_e _ (fun i => l.getD i undef) _) h) ?_
    clear h hl
    intro l H hl h
    refine thenN ?_
    refine blockI (c := sounderlaw06_SentRoom_c34) rfl ?_
    obtain ⟨I, μ, h0, hr⟩ := h
    refine loopI (c := sounderlaw06_SentRoom_c35) rfl (fun l' H' => l'.getD 0 undef = l.getD 0 undef ∧ l'.getD 1 undef = l.getD 1 undef ∧ l'.getD 5 undef = l.getD 5 undef ∧ I (l'.getD 7 undef) (l'.getD 8 undef) H') (fun l' H' => μ (l'.getD 7 undef) (l'.getD 8 undef) H') hl ⟨rfl, rfl, rfl, h0⟩ ?_
    rintro l1 H1 hl1 ⟨e0, e1, e5, hI⟩
    have hb := hr (l1.getD 7 undef) (l1.getD 8 undef) H1 hI
    rw [← e0, ← e1, ← e5] at hb
    refine wpE_mono _ l1 H1 hl1 ?_ (sounderlaw06_SentRoom_s75_i _ R l1 H1 hl1 hb)
    intro e l2 H2 hl2 hq
    cases e with
    | normal => exact fun _ => (by obtain ⟨d0, d1, d5, g1, g2⟩ := hq; exact ⟨⟨d0.trans e0, d1.trans e1, d5.trans e5, g1⟩, g2⟩)
    | _ => exact hq
def sounderlaw06_SentRoom_l94 (x0 x1 x5 x7 : Value) (R : Value → Heap → Prop) (H : Heap) : Prop :=
  ∃ (I : Value → Heap → Prop) (μ : Value → Heap → Nat), I x7 H ∧ ∀ (y7 : Value) (H : Heap), I y7 H → sounderlaw06_SentRoom_s69 x0 x1 x5 y7 (fun z0 z1 z5 z7 H' => z0 = x0 ∧ z1 = x1 ∧ z5 = x5 ∧ (I z7 H' ∧ μ z7 H' < μ y7 H)) R H
def sounderlaw06_SentRoom (x0 x1 : Value) (R : Value → Heap → Prop) (H : Heap) : Prop :=
  sounderlaw06_SentRoom_g63 (fun x0 x1 H => sounderlaw06_SentRoom_g64 (fun x0 x1 H => sounderlaw06_SentRoom_g65 (fun x0 x1 x5 x6 H => sounderlaw06_SentRoom_g66 (fun x0 x1 x5 x21 H => brV x21
  (sounderlaw06_SentRoom_g67 (fun x4 H => R x4 H) H)
  (sounderlaw06_SentRoom_g68 (fun x0 x1 x5 x7 H => sounderlaw06_SentRoom_l94 x0 x1 x5 x7 R H) x0 x1 x5 H)) x0 x1 x5 x6 H) x0 x1 H) x0 x1 H) x0 x1 H
theorem sounderlaw06_SentRoom_i (R : Value → Heap → Prop) (x0 x1 : Value) (H : Heap) (h : sounderlaw06_SentRoom x0 x1 R H) : wpE tab P sounderlaw06_SentRoom_pi sounderlaw06_SentRoom_c1 (retQ tab sounderlaw06_SentRoom_rs R) [x0, x1, undef, undef, undef, undef, undef, undef, undef, undef, undef, undef, undef, undef, undef, undef, undef, undef, undef, undef, undef, undef, undef, undef, undef, undef, undef, undef, undef, undef, undef, undef, undef, undef, undef, undef, undef, undef, undef, undef, undef, undef, undef, undef, undef, undef, undef, undef, undef, undef, undef, undef, undef, undef, undef, undef, undef, undef, undef, undef, undef, undef, undef, undef, undef, undef, undef, undef, undef, undef, undef, undef, undef, undef, undef, undef, undef, undef, undef, undef, undef, undef, undef, undef, undef, undef, undef, undef, undef, undef, undef, undef, undef, undef, undef, undef, undef, undef, undef, undef, undef, undef, undef, undef, undef, undef, undef] H := by
  obtain ⟨l, hl, el⟩ : ∃ l : List Value, l.length = 107 ∧ l = [x0, x1, undef, undef, undef, undef, undef, undef, undef, undef, undef, undef, undef, undef, undef, undef, undef, undef, undef, undef, undef, undef, undef, undef, undef, undef, undef, undef, undef, undef, undef, undef, undef, undef, undef, undef, undef, undef, undef, undef, undef, undef, undef, undef, undef, undef, undef, undef, undef, undef, undef, undef, undef, undef, undef, undef, undef, undef, undef, undef, undef, undef, undef, undef, undef, undef, undef, undef, undef, undef, undef, undef, undef, undef, undef, undef, undef, undef, undef, undef, undef, undef, undef, undef, undef, undef, undef, undef, undef, undef, undef, undef, undef, undef, undef, undef, undef, undef, undef, undef, undef, undef, undef, undef, undef, undef, undef] := ⟨_, rfl, rfl⟩
  rw [← el]
  have h : (fun (x0 x1 : Value) => sounderlaw06_SentRoom_g63 (fun x0 x1 H => sounderlaw06_SentRoom_g64 (fun x0 x1 H => sounderlaw06_SentRoom_g65 (fun x0 x1 x5 x6 H => sounderlaw06_SentRoom_g66 (fun x0 x1 x5 x21 H => brV x21
(sounderlaw06_SentRoom_g67 (fun x4 H => R x4 H) H)
(sounderlaw06_SentRoom_g68 (fun x0 x1 x5 x7 H => sounderlaw06_SentRoom_l94 x0 x1 x5 x7 R H) x0 x1 x5 H)) x0 x1 x5 x6 H) x0 x1 H) x0 x1 H) x0 x1 H) (l.getD 0 undef) (l.getD 1 undef) := by rw [el]; exact h
  clear el
  refine seqI (c := sounderlaw06_SentRoom_c1) rfl ?_
  refine regI hl (Eq.mpr (sounderlaw06_SentRoom_g63_e _ (fun i => l.getD i undef) _) h) ?_
  clear h hl
  intro l H hl h
  refine thenN ?_
  refine seqI (c := sounderlaw06_SentRoom_c3) rfl ?_
  refine regI hl (Eq.mpr (sounderlaw06_SentRoom_g64_e _ (fun i => l.getD i undef) _) h) ?_
  clear h hl
  intro l H hl h
  refine thenN ?_
  refine seqI (c := sounderlaw06_SentRoom_c5) rfl ?_
  refine regI hl (Eq.mpr (sounderlaw06_SentRoom_g65_e _ (fun i => l.getD i undef) _) h) ?_
  clear h hl
  intro l H hl h
  refine thenN ?_
  refine seqI (c := sounderlaw06_SentRoom_c7) rfl ?_
  refine seqI (c := sounderlaw06_SentRoom_c8) rfl ?_
  refine regI hl (Eq.mpr (sounderlaw06_SentRoom_g66_e _ (fun i => l.getD i undef) _) h) ?_
  clear h hl
  intro l H hl h
  refine thenN ?_
  refine condI (c := sounderlaw06_SentRoom_c10) rfl h ?_ ?_
  · clear h; intro h
    refine seqI (c := sounderlaw06_SentRoom_c11) rfl ?_
    refine regI hl (Eq.mpr (sounderlaw06_SentRoom_g67_e _ (fun i => l.getD i undef) _) h) ?_
    clear h hl
    intro l H hl h
    refine thenN ?_
    refine retI rfl ?_
    refine thenR ?_
    exact h
  · clear h; intro h
    refine skipI rfl ?_
    refine thenN ?_
    refine seqI (c := sounderlaw06_SentRoom_c13) rfl ?_
    refine regI hl (Eq.mpr (sounderlaw06_SentRoom_g68_e _ (fun i => l.getD i undef) _) h) ?_
    clear h hl
    intro l H hl h
    refine thenN ?_
    refine seqI (c := sounderlaw06_SentRoom_c15) rfl ?_
    refine blockI (c := sounderlaw06_SentRoom_c16) rfl ?_
    obtain ⟨I, μ, h0, hr⟩ := h
    refine loopI (c := sounderlaw06_SentRoom_c17) rfl (fun l' H' => l'.getD 0 undef = l.getD 0 undef ∧ l'.getD 1 undef = l.getD 1 undef ∧ l'.getD 5 undef = l.getD 5 undef ∧ I (l'.getD 7 undef) H') (fun l' H' => μ (l'.getD 7 undef) H') hl ⟨rfl, rfl, rfl, h0⟩ ?_
    rintro l1 H1 hl1 ⟨e0, e1, e5, hI⟩
    have hb := hr (l1.getD 7 undef) H1 hI
    rw [← e0, ← e1, ← e5] at hb
    refine wpE_mono _ l1 H1 hl1 ?_ (sounderlaw06_SentRoom_s69_i _ R l1 H1 hl1 hb)
    intro e l2 H2 hl2 hq
    cases e with
    | normal => exact fun _ => (by obtain ⟨d0, d1, d5, g1, g2⟩ := hq; exact ⟨⟨d0.trans e0, d1.trans e1, d5.trans e5, g1⟩, g2⟩)
    | _ => exact hq
theorem sounderlaw06_SentRoom_ok : okB sounderlaw06_SentRoom_pi sounderlaw06_SentRoom_c1 = true := by kernel_rfl
theorem sounderlaw06_SentRoom_ev (x0 x1 : Value) (R : Value → Heap → Prop) (H : Heap) (h : sounderlaw06_SentRoom x0 x1 R H) : EvF P N.sounderlaw06_SentRoom #[x0, x1] H R :=
  EvF_intro (args := [x0, x1]) (k := 105) (rs := sounderlaw06_SentRoom_rs) tab_ok mixed Try.func6 (show Try.f6.body = some sounderlaw06_SentRoom_c1 by kernel_rfl) Try.call6 Try.ntmps6 (by kernel_rfl) (okCode_of _ sounderlaw06_SentRoom_ok) rfl (sounderlaw06_SentRoom_i R x0 x1 H h)
end Go.Hc
