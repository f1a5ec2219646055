/- SpaceDiscards, printed by gen7.py. -/
import Derived.Test.YtcjnbiajjlceeaaGreatX3
import Derived.Test.YtcjnbiajjlceeaaGreatX4
import Derived.Test.YtcjnbiajjlceeaaGreatX5
import Derived.Test.YtcjnbiajjlceeaaGreatX6
import Derived.Test.YtcjnbiajjlceeaaGreatX7
import Derived.Test.YtcjnbiajjlceeaaGreatX8
import Derived.Test.YtcjnbiajjlceeaaGreatX9
set_option linter.unusedSimpArgs false
set_option linter.unusedVariables false
set_option maxRecDepth 100000
namespace Go.Hc
open Go Go.Proofs
def opsOf : Code → List Oper
  | .region _ ops _ => ops.toList
  | _ => []
theorem seqE_app {ops : List Oper} {K : List Value → Heap → Prop} : ∀ (a b : List Oper) (l : List Value) (H : Heap), seqE tab P ops K (a ++ b) l H = seqE tab P ops (fun l' H' => seqE tab P ops K b l' H') a l H
  | [], b, l, H => rfl
  | o :: a, b, l, H => by simp only [List.cons_append, seqE, seqE_app a b]
theorem split3 {ops : List Oper} {a b n : Nat} {M1 M2 G : List Value → Heap → Prop} {l : List Value} {H : Heap} (hl : l.length = n) (h1 : seqE tab P ops M1 (ops.take a) l H) (h2 : ∀ l H, l.length = n → M1 l H → seqE tab P ops M2 ((ops.drop a).take b) l H)
    (h3 : ∀ l H, l.length = n → M2 l H → seqE tab P ops G ((ops.drop a).drop b) l H) : seqE tab P ops G ops l H := by
  have : seqE tab P ops G (ops.take a ++ ((ops.drop a).take b ++ (ops.drop a).drop b)) l H := by
    rw [seqE_app]
    refine seqE_mono (fun l H hl h => ?_) _ l H hl h1
    rw [seqE_app]
    exact seqE_mono (fun l H hl h => h3 l H hl h) _ l H hl (h2 l H hl h)
  simpa only [List.take_append_drop] using this
theorem sri {π : Nat → Pl} {c a b : Code} {n : Nat} {l : List Value} {H : Heap} {Q : JQ} {G : List Value → Heap → Prop} {A : Prop} (e : c = .seq a b) (hl : l.length = n) (he : A → WE π a n G (gd l) H) (h : A) (hk : ∀ l' H', l'.length = n → G l' H' → wpE tab P π b Q l' H') : wpE tab P π c Q l H := seqI e (regI hl (he h) hk)
/- 7: sounder/sounderlaw17.SpaceDiscards -/
def z7_rs : List ResultVar := [.tmp 6]
noncomputable def z7_c2 := sc Tryz.f7 [0]
noncomputable def z7_c4 := sc Tryz.f7 [1,0]
noncomputable def z7_c7 := sc Tryz.f7 [1,1,0,0]
noncomputable def z7_c10 := sc Tryz.f7 [1,1,0,1,0,0]
noncomputable def z7_c9 : Code := .seq z7_c10 Code.ret
noncomputable def z7_c8 : Code := .cond (.tmp 24) z7_c9 Code.skip
noncomputable def z7_c6 : Code := .seq z7_c7 z7_c8
noncomputable def z7_c12 := sc Tryz.f7 [1,1,1,0]
noncomputable def z7_c15 := sc Tryz.f7 [1,1,1,1,0,0]
noncomputable def z7_c20 := sc Tryz.f7 [1,1,1,1,0,1,0,0,0,0]
noncomputable def z7_c22 : Code := .exit 0
noncomputable def z7_c21 : Code := .cond (.tmp 35) Code.skip z7_c22
noncomputable def z7_c19 : Code := .seq z7_c20 z7_c21
noncomputable def z7_c26 := sc Tryz.f7 [1,1,1,1,0,1,0,0,1,0,0,0]
noncomputable def z7_c29 := sc Tryz.f7 [1,1,1,1,0,1,0,0,1,0,0,1,0,0]
noncomputable def z7_c28 : Code := .seq z7_c29 Code.ret
noncomputable def z7_c27 : Code := .cond (.tmp 44) z7_c28 Code.skip
noncomputable def z7_c25 : Code := .seq z7_c26 z7_c27
noncomputable def z7_c24 : Code := .block 1 z7_c25
noncomputable def z7_c30 := sc Tryz.f7 [1,1,1,1,0,1,0,0,1,1]
noncomputable def z7_c23 : Code := .seq z7_c24 z7_c30
noncomputable def z7_c18 : Code := .seq z7_c19 z7_c23
noncomputable def z7_c17 : Code := .loop z7_c18
noncomputable def z7_c16 : Code := .block 0 z7_c17
noncomputable def z7_c14 : Code := .seq z7_c15 z7_c16
noncomputable def z7_c32 := sc Tryz.f7 [1,1,1,1,1,0]
noncomputable def z7_c34 := sc Tryz.f7 [1,1,1,1,1,1,0]
noncomputable def z7_c36 := sc Tryz.f7 [1,1,1,1,1,1,1,0]
noncomputable def z7_c39 := sc Tryz.f7 [1,1,1,1,1,1,1,1,0,0]
noncomputable def z7_c42 := sc Tryz.f7 [1,1,1,1,1,1,1,1,0,1,0,0]
noncomputable def z7_c41 : Code := .seq z7_c42 Code.ret
noncomputable def z7_c40 : Code := .cond (.tmp 122) z7_c41 Code.skip
noncomputable def z7_c38 : Code := .seq z7_c39 z7_c40
noncomputable def z7_c45 := sc Tryz.f7 [1,1,1,1,1,1,1,1,1,0,0]
noncomputable def z7_c50 := sc Tryz.f7 [1,1,1,1,1,1,1,1,1,0,1,0,0,0,0]
noncomputable def z7_c52 : Code := .exit 2
noncomputable def z7_c51 : Code := .cond (.tmp 130) Code.skip z7_c52
noncomputable def z7_c49 : Code := .seq z7_c50 z7_c51
noncomputable def z7_c56 := sc Tryz.f7 [1,1,1,1,1,1,1,1,1,0,1,0,0,1,0,0,0]
noncomputable def z7_c59 := sc Tryz.f7 [1,1,1,1,1,1,1,1,1,0,1,0,0,1,0,0,1,0,0]
noncomputable def z7_c58 : Code := .seq z7_c59 Code.ret
noncomputable def z7_c57 : Code := .cond (.tmp 139) z7_c58 Code.skip
noncomputable def z7_c55 : Code := .seq z7_c56 z7_c57
noncomputable def z7_c54 : Code := .block 3 z7_c55
noncomputable def z7_c60 := sc Tryz.f7 [1,1,1,1,1,1,1,1,1,0,1,0,0,1,1]
noncomputable def z7_c53 : Code := .seq z7_c54 z7_c60
noncomputable def z7_c48 : Code := .seq z7_c49 z7_c53
noncomputable def z7_c47 : Code := .loop z7_c48
noncomputable def z7_c46 : Code := .block 2 z7_c47
noncomputable def z7_c44 : Code := .seq z7_c45 z7_c46
noncomputable def z7_c63 := sc Tryz.f7 [1,1,1,1,1,1,1,1,1,1,0,0]
noncomputable def z7_c68 := sc Tryz.f7 [1,1,1,1,1,1,1,1,1,1,0,1,0,0,0,0]
noncomputable def z7_c70 : Code := .exit 4
noncomputable def z7_c69 : Code := .cond (.tmp 143) Code.skip z7_c70
noncomputable def z7_c67 : Code := .seq z7_c68 z7_c69
noncomputable def z7_c74 := sc Tryz.f7 [1,1,1,1,1,1,1,1,1,1,0,1,0,0,1,0,0,0]
noncomputable def z7_c77 := sc Tryz.f7 [1,1,1,1,1,1,1,1,1,1,0,1,0,0,1,0,0,1,0,0]
noncomputable def z7_c76 : Code := .seq z7_c77 Code.ret
noncomputable def z7_c75 : Code := .cond (.tmp 165) z7_c76 Code.skip
noncomputable def z7_c73 : Code := .seq z7_c74 z7_c75
noncomputable def z7_c72 : Code := .block 5 z7_c73
noncomputable def z7_c78 := sc Tryz.f7 [1,1,1,1,1,1,1,1,1,1,0,1,0,0,1,1]
noncomputable def z7_c71 : Code := .seq z7_c72 z7_c78
noncomputable def z7_c66 : Code := .seq z7_c67 z7_c71
noncomputable def z7_c65 : Code := .loop z7_c66
noncomputable def z7_c64 : Code := .block 4 z7_c65
noncomputable def z7_c62 : Code := .seq z7_c63 z7_c64
noncomputable def z7_c80 := sc Tryz.f7 [1,1,1,1,1,1,1,1,1,1,1,0]
noncomputable def z7_c79 : Code := .seq z7_c80 Code.ret
noncomputable def z7_c61 : Code := .seq z7_c62 z7_c79
noncomputable def z7_c43 : Code := .seq z7_c44 z7_c61
noncomputable def z7_c37 : Code := .seq z7_c38 z7_c43
noncomputable def z7_c35 : Code := .seq z7_c36 z7_c37
noncomputable def z7_c33 : Code := .seq z7_c34 z7_c35
noncomputable def z7_c31 : Code := .seq z7_c32 z7_c33
noncomputable def z7_c13 : Code := .seq z7_c14 z7_c31
noncomputable def z7_c11 : Code := .seq z7_c12 z7_c13
noncomputable def z7_c5 : Code := .seq z7_c6 z7_c11
noncomputable def z7_c3 : Code := .seq z7_c4 z7_c5
noncomputable def z7_c1 : Code := .seq z7_c2 z7_c3
def z7_pi (i : Nat) : Pl := match i with
  | 10 => (ones [0, 1, 2, 3, 5, 6, 7, 8, 4, 9, 10, 11] .nil)
  | 23 => (ones [0, 1, 2, 3, 4, 5, 6, 7, 8, 9, 10, 11, 12, 13, 14, 15, 16, 17, 18, 19] .nil)
  | _ => .nil
noncomputable def z7_g81 (S : J3) (x0 x1 x2 : Value) (H : Heap) : Prop :=
  S x0 x1 x2 H
theorem z7_g81_e (S : J3) (x H) : WE z7_pi z7_c2 167 (fun l => S (gd l 0) (gd l 1) (gd l 2)) x H = z7_g81 S (x 0) (x 1) (x 2) H := by kernel_rfl
noncomputable def z7_g82 (S : J4) (x0 x1 x2 : Value) (H : Heap) : Prop :=
  EvF P N.sounderref00_Bring #[x0, (.int .i64 40)] H fun v18 H1 =>
  bnd (binV .int .add (.int .i64 1) v18) fun v19 =>
  EvF P N.space_New #[v19] H1 fun v20 H2 =>
  bnd (exV 0 v20) fun v21 =>
  bnd (exV 1 v20) fun v22 =>
  S x1 x2 v21 v22 H2
theorem z7_g82_e (S : J4) (x H) : WE z7_pi z7_c4 167 (fun l => S (gd l 1) (gd l 2) (gd l 7) (gd l 8)) x H = z7_g82 S (x 0) (x 1) (x 2) H := by kernel_rfl
noncomputable def z7_g83 (S : J4) (x1 x2 x7 x8 : Value) (H : Heap) : Prop :=
  bnd (binV .int .neq x8 (.int .i64 0)) fun v24 =>
  S x1 x2 x7 v24 H
theorem z7_g83_e (S : J4) (x H) : WE z7_pi z7_c7 167 (fun l => S (gd l 1) (gd l 2) (gd l 7) (gd l 24)) x H = z7_g83 S (x 1) (x 2) (x 7) (x 8) H := by kernel_rfl
noncomputable def z7_g84 (S : J1) (H : Heap) : Prop :=
  S (.bool false) H
theorem z7_g84_e (S : J1) (x H) : WE z7_pi z7_c10 167 (fun l => S (gd l 6)) x H = z7_g84 S  H := by kernel_rfl
noncomputable def z7_g85 (S : J3) (x1 x2 x7 : Value) (H : Heap) : Prop :=
  bnd (buildV #[(.pointer none), (.slice none 0 0), (.slice none 0 0), (.slice none 0 0), (.int .i64 0), (.int .i64 0)] (places [(0, 1), (1, 1), (2, 1), (3, 1), (4, 1), (5, 1)]) [(0, x7)]) fun v26 =>
  newE 31 (Value.cells v26) H fun v27 H1 =>
  S x1 x2 v27 H1
theorem z7_g85_e (S : J3) (x H) : WE z7_pi z7_c12 167 (fun l => S (gd l 1) (gd l 2) (gd l 9)) x H = z7_g85 S (x 1) (x 2) (x 7) H := by kernel_rfl
noncomputable def z7_g86 (S : J4) (x1 x2 x9 : Value) (H : Heap) : Prop :=
  S x1 x2 x9 (.int .i64 0) H
theorem z7_g86_e (S : J4) (x H) : WE z7_pi z7_c15 167 (fun l => S (gd l 1) (gd l 2) (gd l 9) (gd l 10)) x H = z7_g86 S (x 1) (x 2) (x 9) H := by kernel_rfl
noncomputable def z7_g88 (S : J5) (x1 x2 x9 x10 : Value) (H : Heap) : Prop :=
  bnd (lenV x1) fun v30 =>
  bnd (binV .int .lss x10 v30) fun v31 =>
  brV v31
  (bnd (binV .int .lss x10 (.int .i64 50)) fun v34 =>
  S x1 x2 x9 x10 v34 H)
  (S x1 x2 x9 x10 (.bool false) H)
theorem z7_g88_e (S : J5) (x H) : WE z7_pi z7_c20 167 (fun l => S (gd l 1) (gd l 2) (gd l 9) (gd l 10) (gd l 35)) x H = z7_g88 S (x 1) (x 2) (x 9) (x 10) H := by kernel_rfl
noncomputable def z7_g89 (S : J5) (x1 x2 x9 x10 : Value) (H : Heap) : Prop :=
  bnd (ixSV 5 x1 x10) fun v41 =>
  bnd (ldE true 5 v41 H) fun v42 =>
  EvF P N.sounderlaw17_run_step #[x9, v42] H fun v43 H1 =>
  bnd (unV .not v43) fun v44 =>
  S x1 x2 x9 x10 v44 H1
theorem z7_g89_e (S : J5) (x H) : WE z7_pi z7_c26 167 (fun l => S (gd l 1) (gd l 2) (gd l 9) (gd l 10) (gd l 44)) x H = z7_g89 S (x 1) (x 2) (x 9) (x 10) H := by kernel_rfl
noncomputable def z7_g90 (S : J1) (H : Heap) : Prop :=
  S (.bool false) H
theorem z7_g90_e (S : J1) (x H) : WE z7_pi z7_c29 167 (fun l => S (gd l 6)) x H = z7_g90 S  H := by kernel_rfl
noncomputable def z7_g91 (S : J4) (x1 x2 x9 x10 : Value) (H : Heap) : Prop :=
  bnd (binV .int .add x10 (.int .i64 1)) fun v37 =>
  S x1 x2 x9 v37 H
theorem z7_g91_e (S : J4) (x H) : WE z7_pi z7_c30 167 (fun l => S (gd l 1) (gd l 2) (gd l 9) (gd l 10)) x H = z7_g91 S (x 1) (x 2) (x 9) (x 10) H := by kernel_rfl
noncomputable def z7_g92 (S : J4) (x2 x9 : Value) (H : Heap) : Prop :=
  bnd (nilV x9) fun v46 =>
  bnd (faV 0 v46) fun v47 =>
  bnd (ldE false 1 v47 H) fun v48 =>
  bnd (nilV x9) fun v51 =>
  bnd (faV 0 v51) fun v52 =>
  bnd (ldE false 1 v52 H) fun v53 =>
  EvF P N.space_Space_Last #[v48] H fun v49 H1 =>
  ((bnd (ldE false 1 v52 H1) fun v' => v' = v53) ∧
  EvF P N.space_Space_Greatest #[v53] H1 fun v54 H2 =>
  S x2 x9 v49 v54 H2)
theorem z7_g92_e (S : J4) (x H) : WE z7_pi z7_c32 167 (fun l => S (gd l 2) (gd l 9) (gd l 11) (gd l 12)) x H = z7_g92 S (x 2) (x 9) H := by kernel_rfl
noncomputable def z7_g93 (S : J5) (x2 x9 x11 x12 : Value) (H : Heap) : Prop :=
  bnd (nilV x9) fun v56 =>
  bnd (faV 0 v56) fun v57 =>
  bnd (ldE false 1 v57 H) fun v58 =>
  EvF P N.space_Space_All #[v58] H fun v59 H1 =>
  EvF P N.sounderlaw17_numbersOf #[v59] H1 fun v60 H2 =>
  S x2 x9 x11 x12 v60 H2
theorem z7_g93_e (S : J5) (x H) : WE z7_pi z7_c34 167 (fun l => S (gd l 2) (gd l 9) (gd l 11) (gd l 12) (gd l 13)) x H = z7_g93 S (x 2) (x 9) (x 11) (x 12) H := by kernel_rfl
noncomputable def z7_g94 (S : J5) (x2 x9 x11 x12 x13 : Value) (H : Heap) : Prop :=
  bnd (nilV x9) fun v62 =>
  bnd (faV 0 v62) fun v63 =>
  bnd (ldE false 1 v63 H) fun v64 =>
  EvF P N.space_Space_Discard #[v64] H fun _ H1 =>
  S x2 x9 x11 x12 x13 H1
theorem z7_g94_e (S : J5) (x H) : WE z7_pi z7_c36 167 (fun l => S (gd l 2) (gd l 9) (gd l 11) (gd l 12) (gd l 13)) x H = z7_g94 S (x 2) (x 9) (x 11) (x 12) (x 13) H := by kernel_rfl
noncomputable def sounderlaw17_SpaceDiscards_g95a (S : J6) (x2 x9 x11 x12 x13 : Value) (H : Heap) : Prop :=
  bnd (nilV x9) fun v67 =>
  bnd (faV 0 v67) fun v68 =>
  bnd (ldE false 1 v68 H) fun v69 =>
  EvF P N.space_Space_Flight #[v69] H fun v70 H1 =>
  bnd (binV .int .neq v70 (.int .i64 0)) fun v71 =>
  brV v71
  (S x2 x9 x11 x12 x13 (.bool true) H1)
  (bnd (nilV x9) fun v74 =>
  bnd (faV 0 v74) fun v75 =>
  bnd (ldE false 1 v75 H1) fun v76 =>
  EvF P N.space_Space_Eliciting #[v76] H1 fun v77 H2 =>
  bnd (binV .int .neq v77 (.int .i64 0)) fun v78 =>
  brV v78
  (S x2 x9 x11 x12 x13 (.bool true) H2)
  (bnd (nilV x9) fun v82 =>
  bnd (faV 0 v82) fun v83 =>
  bnd (ldE false 1 v83 H2) fun v84 =>
  EvF P N.space_Space_All #[v84] H2 fun v85 H3 =>
  bnd (lenV v85) fun v86 =>
  bnd (binV .int .neq v86 (.int .i64 0)) fun v87 =>
  S x2 x9 x11 x12 x13 v87 H3))
theorem sounderlaw17_SpaceDiscards_g95a_e (S : J6) (x H) : seqE tab P (opsOf z7_c39) (fun l H => S (gd l 2) (gd l 9) (gd l 11) (gd l 12) (gd l 13) (gd l 89) H) ((opsOf z7_c39).take 24) ((List.range 167).map x) H = sounderlaw17_SpaceDiscards_g95a S (x 2) (x 9) (x 11) (x 12) (x 13) H := by kernel_rfl
noncomputable def sounderlaw17_SpaceDiscards_g95b (S : J6) (x2 x9 x11 x12 x13 x89 : Value) (H : Heap) : Prop :=
  brV x89
  (S x2 x9 x11 x12 x13 (.bool true) H)
  (bnd (nilV x9) fun v91 =>
  bnd (faV 0 v91) fun v92 =>
  bnd (ldE false 1 v92 H) fun v93 =>
  EvF P N.space_Space_Loss #[v93] H fun v94 H1 =>
  bnd (binV .int .neq v94 (.int .i64 (-1))) fun v95 =>
  brV v95
  (S x2 x9 x11 x12 x13 (.bool true) H1)
  (bnd (nilV x9) fun v99 =>
  bnd (faV 0 v99) fun v100 =>
  bnd (ldE false 1 v100 H1) fun v101 =>
  EvF P N.space_Space_Time #[v101] H1 fun v102 H2 =>
  bnd (binV .int .neq v102 (.int .i64 (-1))) fun v103 =>
  S x2 x9 x11 x12 x13 v103 H2))
theorem sounderlaw17_SpaceDiscards_g95b_e (S : J6) (x H) : seqE tab P (opsOf z7_c39) (fun l H => S (gd l 2) (gd l 9) (gd l 11) (gd l 12) (gd l 13) (gd l 105) H) (((opsOf z7_c39).drop 24).take 16) ((List.range 167).map x) H = sounderlaw17_SpaceDiscards_g95b S (x 2) (x 9) (x 11) (x 12) (x 13) (x 89) H := by kernel_rfl
noncomputable def sounderlaw17_SpaceDiscards_g95c (S : J4) (x2 x9 x11 x12 x13 x105 : Value) (H : Heap) : Prop :=
  brV x105
  (S x2 x9 x13 (.bool true) H)
  (bnd (nilV x9) fun v107 =>
  bnd (faV 0 v107) fun v108 =>
  bnd (ldE false 1 v108 H) fun v109 =>
  EvF P N.space_Space_Last #[v109] H fun v110 H1 =>
  bnd (binV .int .neq v110 x11) fun v112 =>
  brV v112
  (S x2 x9 x13 (.bool true) H1)
  (bnd (nilV x9) fun v116 =>
  bnd (faV 0 v116) fun v117 =>
  bnd (ldE false 1 v117 H1) fun v118 =>
  EvF P N.space_Space_Greatest #[v118] H1 fun v119 H2 =>
  bnd (binV .int .neq v119 x12) fun v121 =>
  S x2 x9 x13 v121 H2))
theorem sounderlaw17_SpaceDiscards_g95c_e (S : J4) (x H) : seqE tab P (opsOf z7_c39) (fun l H => S (gd l 2) (gd l 9) (gd l 13) (gd l 122) H) (((opsOf z7_c39).drop 24).drop 16) ((List.range 167).map x) H = sounderlaw17_SpaceDiscards_g95c S (x 2) (x 9) (x 11) (x 12) (x 13) (x 105) H := by kernel_rfl
noncomputable def z7_g95 (S : J4) (x2 x9 x11 x12 x13 : Value) (H : Heap) : Prop :=
  sounderlaw17_SpaceDiscards_g95a (fun x2 x9 x11 x12 x13 x89 H => sounderlaw17_SpaceDiscards_g95b (fun x2 x9 x11 x12 x13 x105 H => sounderlaw17_SpaceDiscards_g95c S x2 x9 x11 x12 x13 x105 H) x2 x9 x11 x12 x13 x89 H) x2 x9 x11 x12 x13 H
theorem sounderlaw17_SpaceDiscards_g95_w (S : J4) (l H) (hl : l.length = 167) (h : z7_g95 S (gd l 2) (gd l 9) (gd l 11) (gd l 12) (gd l 13) H) : WE z7_pi z7_c39 167 (fun l => S (gd l 2) (gd l 9) (gd l 13) (gd l 122)) (gd l) H := by
  have e : (List.range 167).map (gd l) = l := list_eta hl
  show wpE tab P _ _ _ ((List.range 167).map (gd l)) H
  rw [e]
  refine (show wpE tab P z7_pi z7_c39 (nQ fun l => S (gd l 2) (gd l 9) (gd l 13) (gd l 122)) l H = seqE tab P (opsOf z7_c39) (fun l H => S (gd l 2) (gd l 9) (gd l 13) (gd l 122) H) (opsOf z7_c39) l H by kernel_rfl).mpr ?_
  refine split3 (a := 24) (b := 16) (M1 := fun l H => sounderlaw17_SpaceDiscards_g95b (fun x2 x9 x11 x12 x13 x105 H => sounderlaw17_SpaceDiscards_g95c S x2 x9 x11 x12 x13 x105 H) (gd l 2) (gd l 9) (gd l 11) (gd l 12) (gd l 13) (gd l 89) H) (M2 := fun l H => sounderlaw17_SpaceDiscards_g95c S (gd l 2) (gd l 9) (gd l 11) (gd l 12) (gd l 13) (gd l 105) H) hl ?_ (fun l H hl h => ?_) (fun l H hl h => ?_)
  · have := (sounderlaw17_SpaceDiscards_g95a_e (fun x2 x9 x11 x12 x13 x89 H => sounderlaw17_SpaceDiscards_g95b (fun x2 x9 x11 x12 x13 x105 H => sounderlaw17_SpaceDiscards_g95c S x2 x9 x11 x12 x13 x105 H) x2 x9 x11 x12 x13 x89 H) (gd l) H).mpr h
    rw [e] at this; exact this
  · have := (sounderlaw17_SpaceDiscards_g95b_e (fun x2 x9 x11 x12 x13 x105 H => sounderlaw17_SpaceDiscards_g95c S x2 x9 x11 x12 x13 x105 H) (gd l) H).mpr h
    rw [list_eta hl] at this; exact this
  · have := (sounderlaw17_SpaceDiscards_g95c_e S (gd l) H).mpr h
    rw [list_eta hl] at this; exact this
noncomputable def z7_g96 (S : J1) (H : Heap) : Prop :=
  S (.bool false) H
theorem z7_g96_e (S : J1) (x H) : WE z7_pi z7_c42 167 (fun l => S (gd l 6)) x H = z7_g96 S  H := by kernel_rfl
noncomputable def z7_g97 (S : J4) (x2 x9 x13 : Value) (H : Heap) : Prop :=
  S x2 x9 x13 (.int .i64 0) H
theorem z7_g97_e (S : J4) (x H) : WE z7_pi z7_c45 167 (fun l => S (gd l 2) (gd l 9) (gd l 13) (gd l 14)) x H = z7_g97 S (x 2) (x 9) (x 13) H := by kernel_rfl
noncomputable def z7_g99 (S : J5) (x2 x9 x13 x14 : Value) (H : Heap) : Prop :=
  bnd (lenV x2) fun v125 =>
  bnd (binV .int .lss x14 v125) fun v126 =>
  brV v126
  (bnd (binV .int .lss x14 (.int .i64 20)) fun v129 =>
  S x2 x9 x13 x14 v129 H)
  (S x2 x9 x13 x14 (.bool false) H)
theorem z7_g99_e (S : J5) (x H) : WE z7_pi z7_c50 167 (fun l => S (gd l 2) (gd l 9) (gd l 13) (gd l 14) (gd l 130)) x H = z7_g99 S (x 2) (x 9) (x 13) (x 14) H := by kernel_rfl
noncomputable def z7_g100 (S : J5) (x2 x9 x13 x14 : Value) (H : Heap) : Prop :=
  bnd (ixSV 5 x2 x14) fun v136 =>
  bnd (ldE true 5 v136 H) fun v137 =>
  EvF P N.sounderlaw17_run_step #[x9, v137] H fun v138 H1 =>
  bnd (unV .not v138) fun v139 =>
  S x2 x9 x13 x14 v139 H1
theorem z7_g100_e (S : J5) (x H) : WE z7_pi z7_c56 167 (fun l => S (gd l 2) (gd l 9) (gd l 13) (gd l 14) (gd l 139)) x H = z7_g100 S (x 2) (x 9) (x 13) (x 14) H := by kernel_rfl
noncomputable def z7_g101 (S : J1) (H : Heap) : Prop :=
  S (.bool false) H
theorem z7_g101_e (S : J1) (x H) : WE z7_pi z7_c59 167 (fun l => S (gd l 6)) x H = z7_g101 S  H := by kernel_rfl
noncomputable def z7_g102 (S : J4) (x2 x9 x13 x14 : Value) (H : Heap) : Prop :=
  bnd (binV .int .add x14 (.int .i64 1)) fun v132 =>
  S x2 x9 x13 v132 H
theorem z7_g102_e (S : J4) (x H) : WE z7_pi z7_c60 167 (fun l => S (gd l 2) (gd l 9) (gd l 13) (gd l 14)) x H = z7_g102 S (x 2) (x 9) (x 13) (x 14) H := by kernel_rfl
noncomputable def z7_g103 (S : J3) (x9 x13 : Value) (H : Heap) : Prop :=
  S x9 x13 (.int .i64 0) H
theorem z7_g103_e (S : J3) (x H) : WE z7_pi z7_c63 167 (fun l => S (gd l 9) (gd l 13) (gd l 15)) x H = z7_g103 S (x 9) (x 13) H := by kernel_rfl
noncomputable def z7_g105 (S : J4) (x9 x13 x15 : Value) (H : Heap) : Prop :=
  bnd (lenV x13) fun v142 =>
  bnd (binV .int .lss x15 v142) fun v143 =>
  S x9 x13 x15 v143 H
theorem z7_g105_e (S : J4) (x H) : WE z7_pi z7_c68 167 (fun l => S (gd l 9) (gd l 13) (gd l 15) (gd l 143)) x H = z7_g105 S (x 9) (x 13) (x 15) H := by kernel_rfl
noncomputable def z7_g106 (S : J4) (x9 x13 x15 : Value) (H : Heap) : Prop :=
  bnd (nilV x9) fun v147 =>
  bnd (faV 2 v147) fun v148 =>
  bnd (ldE false 1 v148 H) fun v149 =>
  bnd (ixSV 1 x13 x15) fun v152 =>
  bnd (ldE false 1 v152 H) fun v153 =>
  EvF P N.sounderlaw17_has #[v149, v153] H fun v154 H1 =>
  brV v154
  (S x9 x13 x15 (.bool true) H1)
  (bnd (nilV x9) fun v157 =>
  bnd (faV 3 v157) fun v158 =>
  bnd (ldE false 1 v158 H1) fun v159 =>
  bnd (ixSV 1 x13 x15) fun v162 =>
  bnd (ldE false 1 v162 H1) fun v163 =>
  EvF P N.sounderlaw17_has #[v159, v163] H1 fun v164 H2 =>
  S x9 x13 x15 v164 H2)
theorem z7_g106_e (S : J4) (x H) : WE z7_pi z7_c74 167 (fun l => S (gd l 9) (gd l 13) (gd l 15) (gd l 165)) x H = z7_g106 S (x 9) (x 13) (x 15) H := by kernel_rfl
noncomputable def z7_g107 (S : J1) (H : Heap) : Prop :=
  S (.bool false) H
theorem z7_g107_e (S : J1) (x H) : WE z7_pi z7_c77 167 (fun l => S (gd l 6)) x H = z7_g107 S  H := by kernel_rfl
noncomputable def z7_g108 (S : J3) (x9 x13 x15 : Value) (H : Heap) : Prop :=
  bnd (binV .int .add x15 (.int .i64 1)) fun v145 =>
  S x9 x13 v145 H
theorem z7_g108_e (S : J3) (x H) : WE z7_pi z7_c78 167 (fun l => S (gd l 9) (gd l 13) (gd l 15)) x H = z7_g108 S (x 9) (x 13) (x 15) H := by kernel_rfl
noncomputable def z7_g109 (S : J1) (H : Heap) : Prop :=
  EvF P N.sounderlaw17_works #[] H fun v166 H1 =>
  S v166 H1
theorem z7_g109_e (S : J1) (x H) : WE z7_pi z7_c80 167 (fun l => S (gd l 6)) x H = z7_g109 S  H := by kernel_rfl
noncomputable def z7_s104 (x9 x13 x15 : Value) (K3 : J3) (R : J1) (H : Heap) : Prop :=
  z7_g105 (fun x9 x13 x15 x143 H => brV x143
  (z7_g106 (fun x9 x13 x15 x165 H => brV x165
  (z7_g107 (fun x6 H => R x6 H) H)
  (z7_g108 (fun x9 x13 x15 H => K3 x9 x13 x15 H) x9 x13 x15 H)) x9 x13 x15 H)
  (z7_g109 (fun x6 H => R x6 H) H)) x9 x13 x15 H
noncomputable def z7_q110 (R : J1) : JQ := (retQ tab z7_rs R)
noncomputable def z7_q111 (R : J1) : JQ := (thenE (fun l H => wpE tab P z7_pi z7_c79 (z7_q110 R) l H) (z7_q110 R))
noncomputable def z7_q112 (R : J1) : JQ := (blkE 4 (z7_q111 R))
noncomputable def z7_q113 (K3 : J3) (R : J1) : JQ := (thenE (fun l H => K3 (gd l 9) (gd l 13) (gd l 15) H) (z7_q112 R))
theorem z7_s104_i (K3 : J3) (R : J1) (l : List Value) (H : Heap) (hl : l.length = 167) (h : z7_s104 (gd l 9) (gd l 13) (gd l 15) K3 R H) : wpE tab P z7_pi z7_c66 (z7_q113 K3 R) l H := sq rfl <| sr rfl hl (z7_g105_e _ (gd l) _) h fun l H hl h => cd rfl h (fun h => kN rfl <| sq rfl <| bl rfl <| sr rfl hl (z7_g106_e _ (gd l) _) h fun l H hl h => cd rfl h (fun h => sr rfl hl (z7_g107_e _ (gd l) _) h fun l H hl h => rt rfl h) fun h => sk rfl <| bN <| tN <| rj hl (z7_g108_e _ (gd l) _) h fun l H hl h => tN <| h) fun h => ex rfl <| tX <| tX <| bX <| tN <| sr rfl hl (z7_g109_e _ (gd l) _) h fun l H hl h => rt rfl h
noncomputable def z7_l114 (x9 x13 x15 : Value) (R : J1) (H : Heap) : Prop :=
  ∃ (I : J1) (μ : M1), I x15 H ∧ ∀ (y15 : Value) (H : Heap), I y15 H → z7_s104 x9 x13 y15 (fun z9 z13 z15 H' => z9 = x9 ∧ z13 = x13 ∧ (I z15 H' ∧ μ z15 H' < μ y15 H)) R H
noncomputable def z7_s98 (x2 x9 x13 x14 : Value) (K2 : J4) (R : J1) (H : Heap) : Prop :=
  z7_g99 (fun x2 x9 x13 x14 x130 H => brV x130
  (z7_g100 (fun x2 x9 x13 x14 x139 H => brV x139
  (z7_g101 (fun x6 H => R x6 H) H)
  (z7_g102 (fun x2 x9 x13 x14 H => K2 x2 x9 x13 x14 H) x2 x9 x13 x14 H)) x2 x9 x13 x14 H)
  (z7_g103 (fun x9 x13 x15 H => z7_l114 x9 x13 x15 R H) x9 x13 H)) x2 x9 x13 x14 H
noncomputable def z7_q115 (R : J1) : JQ := (thenE (fun l H => wpE tab P z7_pi z7_c61 (z7_q110 R) l H) (z7_q110 R))
noncomputable def z7_q116 (R : J1) : JQ := (blkE 2 (z7_q115 R))
noncomputable def z7_q117 (K2 : J4) (R : J1) : JQ := (thenE (fun l H => K2 (gd l 2) (gd l 9) (gd l 13) (gd l 14) H) (z7_q116 R))
theorem z7_s98_i (K2 : J4) (R : J1) (l : List Value) (H : Heap) (hl : l.length = 167) (h : z7_s98 (gd l 2) (gd l 9) (gd l 13) (gd l 14) K2 R H) : wpE tab P z7_pi z7_c48 (z7_q117 K2 R) l H := sq rfl <| sr rfl hl (z7_g99_e _ (gd l) _) h fun l H hl h => cd rfl h (fun h => kN rfl <| sq rfl <| bl rfl <| sr rfl hl (z7_g100_e _ (gd l) _) h fun l H hl h => cd rfl h (fun h => sr rfl hl (z7_g101_e _ (gd l) _) h fun l H hl h => rt rfl h) fun h => sk rfl <| bN <| tN <| rj hl (z7_g102_e _ (gd l) _) h fun l H hl h => tN <| h) fun h => ex rfl <| tX <| tX <| bX <| tN <| sq rfl <| sr rfl hl (z7_g103_e _ (gd l) _) h fun l H hl h => bl rfl <| (by
    obtain ⟨I, μ, h0, hr⟩ := h
    refine loopI (c := z7_c65) rfl (fun l' H' => gd l' 9 = gd l 9 ∧ gd l' 13 = gd l 13 ∧ I (gd l' 15) H') (fun l' H' => μ (gd l' 15) H') hl ⟨rfl, rfl, h0⟩ ?_
    rintro l1 H1 hl1 ⟨e9, e13, hI⟩
    have hb := hr (gd l1 15) H1 hI
    rw [← e9, ← e13] at hb
    refine wpE_mono _ l1 H1 hl1 ?_ (z7_s104_i _ R l1 H1 hl1 hb)
    intro e l2 H2 hl2 hq
    cases e with
    | normal => exact fun _ => (by obtain ⟨d9, d13, g1, g2⟩ := hq; exact ⟨⟨d9.trans e9, d13.trans e13, g1⟩, g2⟩)
    | _ => exact hq)
noncomputable def z7_l118 (x2 x9 x13 x14 : Value) (R : J1) (H : Heap) : Prop :=
  ∃ (I : J1) (μ : M1), I x14 H ∧ ∀ (y14 : Value) (H : Heap), I y14 H → z7_s98 x2 x9 x13 y14 (fun z2 z9 z13 z14 H' => z2 = x2 ∧ z9 = x9 ∧ z13 = x13 ∧ (I z14 H' ∧ μ z14 H' < μ y14 H)) R H
noncomputable def z7_s87 (x1 x2 x9 x10 : Value) (K1 : J4) (R : J1) (H : Heap) : Prop :=
  z7_g88 (fun x1 x2 x9 x10 x35 H => brV x35
  (z7_g89 (fun x1 x2 x9 x10 x44 H => brV x44
  (z7_g90 (fun x6 H => R x6 H) H)
  (z7_g91 (fun x1 x2 x9 x10 H => K1 x1 x2 x9 x10 H) x1 x2 x9 x10 H)) x1 x2 x9 x10 H)
  (z7_g92 (fun x2 x9 x11 x12 H => z7_g93 (fun x2 x9 x11 x12 x13 H => z7_g94 (fun x2 x9 x11 x12 x13 H => z7_g95 (fun x2 x9 x13 x122 H => brV x122
  (z7_g96 (fun x6 H => R x6 H) H)
  (z7_g97 (fun x2 x9 x13 x14 H => z7_l118 x2 x9 x13 x14 R H) x2 x9 x13 H)) x2 x9 x11 x12 x13 H) x2 x9 x11 x12 x13 H) x2 x9 x11 x12 H) x2 x9 H)) x1 x2 x9 x10 H
noncomputable def z7_q119 (R : J1) : JQ := (thenE (fun l H => wpE tab P z7_pi z7_c31 (z7_q110 R) l H) (z7_q110 R))
noncomputable def z7_q120 (R : J1) : JQ := (blkE 0 (z7_q119 R))
noncomputable def z7_q121 (K1 : J4) (R : J1) : JQ := (thenE (fun l H => K1 (gd l 1) (gd l 2) (gd l 9) (gd l 10) H) (z7_q120 R))
theorem z7_s87_i (K1 : J4) (R : J1) (l : List Value) (H : Heap) (hl : l.length = 167) (h : z7_s87 (gd l 1) (gd l 2) (gd l 9) (gd l 10) K1 R H) : wpE tab P z7_pi z7_c18 (z7_q121 K1 R) l H := sq rfl <| sr rfl hl (z7_g88_e _ (gd l) _) h fun l H hl h => cd rfl h (fun h => kN rfl <| sq rfl <| bl rfl <| sr rfl hl (z7_g89_e _ (gd l) _) h fun l H hl h => cd rfl h (fun h => sr rfl hl (z7_g90_e _ (gd l) _) h fun l H hl h => rt rfl h) fun h => sk rfl <| bN <| tN <| rj hl (z7_g91_e _ (gd l) _) h fun l H hl h => tN <| h) fun h => ex rfl <| tX <| tX <| bX <| tN <| sr rfl hl (z7_g92_e _ (gd l) _) h fun l H hl h => sr rfl hl (z7_g93_e _ (gd l) _) h fun l H hl h => sr rfl hl (z7_g94_e _ (gd l) _) h fun l H hl h => sq rfl <| sri rfl hl (sounderlaw17_SpaceDiscards_g95_w _ l _ hl) h fun l H hl h => cd rfl h (fun h => sr rfl hl (z7_g96_e _ (gd l) _) h fun l H hl h => rt rfl h) fun h => kN rfl <| sq rfl <| sr rfl hl (z7_g97_e _ (gd l) _) h fun l H hl h => bl rfl <| (by
    obtain ⟨I, μ, h0, hr⟩ := h
    refine loopI (c := z7_c47) rfl (fun l' H' => gd l' 2 = gd l 2 ∧ gd l' 9 = gd l 9 ∧ gd l' 13 = gd l 13 ∧ I (gd l' 14) H') (fun l' H' => μ (gd l' 14) H') hl ⟨rfl, rfl, rfl, h0⟩ ?_
    rintro l1 H1 hl1 ⟨e2, e9, e13, hI⟩
    have hb := hr (gd l1 14) H1 hI
    rw [← e2, ← e9, ← e13] at hb
    refine wpE_mono _ l1 H1 hl1 ?_ (z7_s98_i _ R l1 H1 hl1 hb)
    intro e l2 H2 hl2 hq
    cases e with
    | normal => exact fun _ => (by obtain ⟨d2, d9, d13, g1, g2⟩ := hq; exact ⟨⟨d2.trans e2, d9.trans e9, d13.trans e13, g1⟩, g2⟩)
    | _ => exact hq)
noncomputable def z7_l122 (x1 x2 x9 x10 : Value) (R : J1) (H : Heap) : Prop :=
  ∃ (I : J1) (μ : M1), I x10 H ∧ ∀ (y10 : Value) (H : Heap), I y10 H → z7_s87 x1 x2 x9 y10 (fun z1 z2 z9 z10 H' => z1 = x1 ∧ z2 = x2 ∧ z9 = x9 ∧ (I z10 H' ∧ μ z10 H' < μ y10 H)) R H
def sounderlaw17_SpaceDiscards (x0 x1 x2 : Value) (R : Value → Heap → Prop) (H : Heap) : Prop :=
  z7_g81 (fun x0 x1 x2 H => z7_g82 (fun x1 x2 x7 x8 H => z7_g83 (fun x1 x2 x7 x24 H => brV x24
  (z7_g84 (fun x6 H => R x6 H) H)
  (z7_g85 (fun x1 x2 x9 H => z7_g86 (fun x1 x2 x9 x10 H => z7_l122 x1 x2 x9 x10 R H) x1 x2 x9 H) x1 x2 x7 H)) x1 x2 x7 x8 H) x0 x1 x2 H) x0 x1 x2 H
theorem z7_ev0 (x0 x1 x2 : Value) (R : J1) (H : Heap) (h : sounderlaw17_SpaceDiscards x0 x1 x2 R H) : EvL P N.sounderlaw17_SpaceDiscards #[x0, x1, x2] H R := EvF_intro (args := [x0, x1, x2]) (k := 164) (rs := z7_rs) tab_ok mixed Tryz.func7 (show Tryz.f7.body = some z7_c1 by kernel_rfl) Tryz.call7 Tryz.ntmps7 (by kernel_rfl) (okCode_of _ (show okB z7_pi z7_c1 = true by kernel_rfl)) (fr_eq _ _) (fj (n := 167) rfl (fun l hl (h : sounderlaw17_SpaceDiscards (gd l 0) (gd l 1) (gd l 2) R H) => sr rfl hl (z7_g81_e _ (gd l) _) h fun l H hl h => sr rfl hl (z7_g82_e _ (gd l) _) h fun l H hl h => sq rfl <| sr rfl hl (z7_g83_e _ (gd l) _) h fun l H hl h => cd rfl h (fun h => sr rfl hl (z7_g84_e _ (gd l) _) h fun l H hl h => rt rfl h) fun h => kN rfl <| sr rfl hl (z7_g85_e _ (gd l) _) h fun l H hl h => sq rfl <| sr rfl hl (z7_g86_e _ (gd l) _) h fun l H hl h => bl rfl <| (by
    obtain ⟨I, μ, h0, hr⟩ := h
    refine loopI (c := z7_c17) rfl (fun l' H' => gd l' 1 = gd l 1 ∧ gd l' 2 = gd l 2 ∧ gd l' 9 = gd l 9 ∧ I (gd l' 10) H') (fun l' H' => μ (gd l' 10) H') hl ⟨rfl, rfl, rfl, h0⟩ ?_
    rintro l1 H1 hl1 ⟨e1, e2, e9, hI⟩
    have hb := hr (gd l1 10) H1 hI
    rw [← e1, ← e2, ← e9] at hb
    refine wpE_mono _ l1 H1 hl1 ?_ (z7_s87_i _ R l1 H1 hl1 hb)
    intro e l2 H2 hl2 hq
    cases e with
    | normal => exact fun _ => (by obtain ⟨d1, d2, d9, g1, g2⟩ := hq; exact ⟨⟨d1.trans e1, d2.trans e2, d9.trans e9, g1⟩, g2⟩)
    | _ => exact hq)) h)
theorem z7_ev (x0 x1 x2 : Value) (R : J1) (H : Heap) (h : sounderlaw17_SpaceDiscards x0 x1 x2 R H) : EvF P N.sounderlaw17_SpaceDiscards #[x0, x1, x2] H R := .inl (z7_ev0 x0 x1 x2 R H h)
end Go.Hc
