/- The heap calculus, part I: code, loops, functions. -/
import Derived.Test.YtbchcnmghcmaoaaHcH
set_option linter.unusedSimpArgs false
set_option linter.unusedVariables false
namespace Go.Hc
open Go

def thenE (K : List Value → Heap → Prop) (Q : Exit → List Value → Heap → Prop) : Exit → List Value → Heap → Prop
  | .normal, l, H => K l H
  | e, l, H => Q e l H
def blkE (id : Nat) (Q : Exit → List Value → Heap → Prop) : Exit → List Value → Heap → Prop
  | .exit id', l, H => match Nat.beq id' id with
    | true => Q .normal l H
    | false => Q (.exit id') l H
  | e, l, H => Q e l H
def LoopE (B : (List Value → Heap → Prop) → List Value → Heap → Prop) (l : List Value) (H : Heap) : Prop :=
  ∃ (I : List Value → Heap → Prop) (μ : List Value → Heap → Nat), I l H ∧ ∀ l H, I l H → B (fun l' H' => I l' H' ∧ μ l' H' < μ l H) l H

def wpE (τ : Tab) (P : Program) (π : Nat → Pl) : Code → (Exit → List Value → Heap → Prop) → List Value → Heap → Prop
  | .skip, Q, l, H => Q .normal l H
  | .label _, Q, l, H => Q .normal l H
  | .region id ops draw, Q, l, H => match draw with
    | false => seqE τ P ops.toList (fun l H => Q .normal l H) ops.toList l H
    | true => planE τ P ops.toList (fun l H => Q .normal l H) (π id) [] l H
  | .seq a b, Q, l, H => wpE τ P π a (thenE (fun l H => wpE τ P π b Q l H) Q) l H
  | .cond c a b, Q, l, H => brV (evL l c) (wpE τ P π a Q l H) (wpE τ P π b Q l H)
  | .block id b, Q, l, H => wpE τ P π b (blkE id Q) l H
  | .loop b, Q, l, H => LoopE (fun K l H => wpE τ P π b (thenE K Q) l H) l H
  | .exit id, Q, l, H => Q (.exit id) l H
  | .ret, Q, l, H => Q .ret l H
  | _, _, _, _ => False

/-- Each drawn region has its plan. -/
def okCode (π : Nat → Pl) : Code → Prop
  | .region id ops true => planOK ops (π id) ops.size (Array.replicate ops.size false) = true ∧ ops.toList.all plainOp = true
  | .seq a b => okCode π a ∧ okCode π b
  | .cond _ a b => okCode π a ∧ okCode π b
  | .block _ b => okCode π b
  | .loop b => okCode π b
  | _ => True

def calm : Exit → Prop
  | .panic _ | .outgrown => False
  | _ => True
def liftQ (d : List Deferred) (Q : Exit → List Value → Heap → Prop) (e : Exit) (a : Act) (w : World) : Prop := calm e ∧ ∃ l, a = actL l d ∧ Q e l w.hp

section
variable {P : Program} {τ : Tab} {r : Option Nat} {π : Nat → Pl}
theorem wpE_sound (hτ : TabOK P τ) (hmix : P.follows .mixedOrders = true) {d : List Deferred} : ∀ (c : Code) (Q : Exit → List Value → Heap → Prop) (l : List Value) (w : World), okCode π c →
    wpE τ P π c Q l w.hp → c.wpIn (Fr r) 0 P (liftQ d Q) (actL l d) w
  | .skip, Q, l, w, _, h => wpIn_skip ⟨trivial, l, rfl, h⟩
  | .label _, Q, l, w, _, h => wpIn_label ⟨trivial, l, rfl, h⟩
  | .exit id, Q, l, w, _, h => wpIn_exit ⟨trivial, l, rfl, h⟩
  | .ret, Q, l, w, _, h => wpIn_ret ⟨trivial, l, rfl, h⟩
  | .region id ops false, Q, l, w, _, h => wpIn_region_list (by
      have := seqE_wp (r := r) hτ (K := fun l H => Q .normal l H) (Q := liftQ d Q) (d := d) (fun l w hk => ⟨trivial, l, rfl, hk⟩) ops.toList l w h
      simpa using this)
  | .region id ops true, Q, l, w, hok, h => by
    refine wpIn_mono (Q := fun e a w => e = .normal ∧ liftQ d Q .normal a w) ?_ (by rintro e a w ⟨rfl, hh⟩; exact hh)
    refine wpIn_region_any hmix (wpP_any _ _ (liftP []) _ _ ?_)
    have hpl : ∀ (j : Nat) (o : Oper), ops.toList.toArray[j]? = some o → plainOp o = true := by
      intro j o ho
      have := List.all_eq_true.1 hok.2 o (List.mem_of_getElem? (by simpa using ho))
      exact this
    have := planE_wp (r := r) hτ (ops := ops.toList) (K := fun l H => Q .normal l H) (Q := fun e a w => e = .normal ∧ liftQ d Q .normal a w) (d := d) hpl (fun c a w hh => by cases hh.1)
      (fun l w hk => ⟨rfl, trivial, l, rfl, hk⟩) (π id) ops.size (Array.replicate ops.size false) [] l { w with drawn := w.drawn + 1 } (by simpa using hok.1) (by simp) h
    simpa using this
  | .seq a b, Q, l, w, hok, h => by
    refine wpIn_seq (wpIn_mono (wpE_sound hτ hmix a _ l w hok.1 h) ?_)
    rintro e a' w' ⟨hc, l', rfl, hq⟩
    cases e with
    | normal => exact wpE_sound hτ hmix b Q l' w' hok.2 hq
    | exit id => exact ⟨trivial, l', rfl, hq⟩
    | goto id => exact ⟨trivial, l', rfl, hq⟩
    | ret => exact ⟨trivial, l', rfl, hq⟩
    | panic c => exact hc.elim
    | outgrown => exact hc.elim
  | .cond c a b, Q, l, w, hok, h => by
    rw [wpE] at h
    rcases brV_cases h with ⟨hb, h⟩ | ⟨hb, h⟩
    · exact wpIn_cond_true (by rw [eval_actL]; exact hb) (wpE_sound hτ hmix a Q l w hok.1 h)
    · exact wpIn_cond_false (by rw [eval_actL]; exact hb) (wpE_sound hτ hmix b Q l w hok.2 h)
  | .block id b, Q, l, w, hok, h => by
    refine wpIn_block (wpIn_mono (wpE_sound hτ hmix b _ l w hok h) ?_)
    rintro e a' w' ⟨hc, l', rfl, hq⟩
    cases e with
    | normal => exact ⟨trivial, l', rfl, hq⟩
    | exit id' =>
      simp only [blkE] at hq
      simp only [Exit.inBlock]
      split at hq
      · rename_i hh
        rw [if_pos (Nat.eq_of_beq_eq_true hh)]
        exact ⟨trivial, l', rfl, hq⟩
      · rename_i hh
        rw [if_neg (Nat.ne_of_beq_eq_false hh)]
        exact ⟨trivial, l', rfl, hq⟩
    | goto id => exact ⟨trivial, l', rfl, hq⟩
    | ret => exact ⟨trivial, l', rfl, hq⟩
    | panic c => exact hc.elim
    | outgrown => exact hc.elim
  | .loop b, Q, l, w, hok, h => by
    obtain ⟨I, μ, h0, hr⟩ := h
    refine wpIn_loop (fun a w => ∃ l, a = actL l d ∧ I l w.hp) (fun a w => μ a.tmps.toList w.hp) ⟨l, rfl, h0⟩ ?_
    rintro a w ⟨l, rfl, hI⟩
    refine wpIn_mono (wpE_sound hτ hmix b _ l w hok (hr l w.hp hI)) ?_
    rintro e a' w' ⟨hc, l', rfl, hq⟩
    cases e with
    | normal => exact ⟨⟨l', rfl, hq.1⟩, by simpa [actL] using hq.2⟩
    | exit id => exact ⟨trivial, l', rfl, hq⟩
    | goto id => exact ⟨trivial, l', rfl, hq⟩
    | ret => exact ⟨trivial, l', rfl, hq⟩
    | panic c => exact hc.elim
    | outgrown => exact hc.elim
  | .rangeFunc _ _ _ _, _, _, _, _, h => h.elim
  | .scope _, _, _, _, _, h => h.elim
  | .goto _, _, _, _, _, h => h.elim
  | .refuse _, _, _, _, _, h => h.elim

/-- A function's results. -/
def resE (τ : Tab) (l : List Value) (H : Heap) : List ResultVar → Option (List Value)
  | [] => some []
  | .tmp t :: rest => match resE τ l H rest with
    | some vs => some (l.getD t undef :: vs)
    | none => none
  | .cell a t :: rest => match τ.ti t with
    | some ti => match ldE (isAggD ti.desc) ti.info.size (l.getD a undef) H with
      | some v => match resE τ l H rest with
        | some vs => some (v :: vs)
        | none => none
      | none => none
    | none => none
def oneV : List Value → Value
  | [v] => v
  | l => .tuple l.toArray
/-- .. read one behind the other, and handed to R. -/
def retE (τ : Tab) (l : List Value) (H : Heap) (R : Value → Heap → Prop) : List ResultVar → List Value → Prop
  | [], acc => R (oneV acc) H
  | .tmp t :: rest, acc => retE τ l H R rest (acc ++ [l.getD t undef])
  | .cell a t :: rest, acc => match τ.ti t with
    | some ti => bnd (ldE (isAggD ti.desc) ti.info.size (l.getD a undef) H) fun v => retE τ l H R rest (acc ++ [v])
    | none => False
theorem retE_res {τ : Tab} {l : List Value} {H : Heap} {R : Value → Heap → Prop} : ∀ (rs : List ResultVar) (acc : List Value), retE τ l H R rs acc →
    ∃ vs, resE τ l H rs = some vs ∧ R (oneV (acc ++ vs)) H
  | [], acc, h => ⟨[], rfl, by simpa [retE] using h⟩
  | .tmp t :: rest, acc, h => by
    obtain ⟨vs, h1, h2⟩ := retE_res rest _ h
    exact ⟨l.getD t undef :: vs, by simp only [resE, h1], by simpa using h2⟩
  | .cell a t :: rest, acc, h => by
    simp only [retE] at h
    split at h
    · rename_i ti ht
      obtain ⟨v, hv, h⟩ := h
      obtain ⟨vs, h1, h2⟩ := retE_res rest _ h
      exact ⟨v :: vs, by simp only [resE, ht, hv, h1], by simpa using h2⟩
    · exact h.elim
def retQ (τ : Tab) (rs : List ResultVar) (R : Value → Heap → Prop) : Exit → List Value → Heap → Prop
  | .normal, l, H | .ret, l, H => retE τ l H R rs []
  | _, _, _ => False

def rvE (tm : Array Value) : ResultVar → Sem Value
  | .tmp t => pure (tm.getD t undef)
  | .cell a t => do loadVar t (← asAddr (tm.getD a undef))
theorem results_rvE (fn : Func) (tm : Array Value) : results fn tm = (do let vs ← fn.results.mapM (rvE tm); pure (if h : vs.size = 1 then vs[0] else .tuple vs)) := by
  unfold results
  congr 2
theorem resE_run (hτ : TabOK P τ) {l : List Value} {w : World} : ∀ (rs : List ResultVar) (vs : List Value), resE τ l w.hp rs = some vs →
    (rs.mapM (rvE l.toArray)).run P w = .ok vs w
  | [], vs, h => by simp only [resE, Option.some.injEq] at h; subst h; simp [go_sem]
  | .tmp t :: rest, vs, h => by
    simp only [resE] at h
    split at h
    · rename_i vs' hv
      cases h
      rw [List.mapM_cons]
      simp only [rvE, Sem.run_bind, Sem.run_pure, Result.andThen, resE_run hτ rest vs' hv]
      simp
    · cases h
  | .cell a t :: rest, vs, h => by
    simp only [resE] at h
    split at h
    · rename_i ti ht
      split at h
      · rename_i v hv
        split at h
        · rename_i vs' hvs
          cases h
          have h1 := ldE_run (P := P) (w := w) (hτ.1 _ _ ht).1 (hτ.1 _ _ ht).2.1 hv
          have e : l.toArray.getD a undef = l.getD a undef := by simp
          have h2 : (rvE l.toArray (.cell a t)).run P w = .ok v w := by
            show (do loadVar t (← asAddr (l.toArray.getD a undef)) : Sem Value).run P w = .ok v w
            rw [e]
            unfold Instr.loadAt at h1
            revert hv h1
            generalize l.getD a undef = x
            intro hv h1
            unfold ldE at hv
            split at hv
            · simp only [Sem.run_bind, asAddr, Instr.sureAddr, Sem.run_pure, Result.andThen] at h1 ⊢; exact h1
            · cases hv
          rw [List.mapM_cons, Sem.run_bind, h2]
          simp only [Sem.run_bind, Result.andThen, resE_run hτ rest vs' hvs, Sem.run_pure]
        · cases h
      · cases h
    · cases h

theorem EvF_intro (hτ : TabOK P τ) (hmix : P.follows .mixedOrders = true) {f : FuncId} {fn : Func} {c : Code} {args : List Value} {H : Heap} {R : Value → Heap → Prop} {k : Nat} {rs : List ResultVar}
    (hf : P.funcs[f]? = some fn) (hb : fn.body = some c) (hcall : ∀ args w, (callFunc f args).run P w = .ok (.enter f args) w) (hn : fn.ntmps = args.length + k) (hr : fn.results = rs.toArray)
    (hok : okCode π c) {l0 : List Value} (hl0 : l0 = args ++ List.replicate k undef) (h : wpE τ P π c (retQ τ rs R) l0 H) : EvL P f args.toArray H R := by
  subst hl0
  refine ⟨hcall _, fun w hw => ?_⟩
  subst hw
  have hargs : (args.toArray ++ Array.replicate (fn.ntmps - args.toArray.size) undef) = (args ++ List.replicate k undef).toArray := by
    rw [hn]; simp
  have h1 := wpE_sound (r := none) hτ hmix (d := []) c _ _ w hok h
  have h2 : CallsIn (Fr none) 0 P f args.toArray w fun e w' => ∃ v, e = .returned v ∧ R v w'.hp := by
    refine callsIn_of_wp hf hb trivial ?_
    rw [hargs]
    refine wpIn_mono h1 ?_
    rintro e a w' ⟨hc, l, rfl, hq⟩
    have res : ∀ {l : List Value} {w' : World}, retE τ l w'.hp R rs [] → ∃ v, (results fn (actL l []).tmps).run P w' = .ok v w' ∧ ∃ v', Ending.returned v = .returned v' ∧ R v' w'.hp := by
      intro l w' hret
      obtain ⟨vs, hv, hR⟩ := retE_res rs [] hret
      rw [List.nil_append] at hR
      refine ⟨oneV vs, ?_, _, rfl, hR⟩
      have hm := resE_run hτ rs vs hv
      rw [results_rvE, hr, Sem.run_bind]
      have e1 : (rs.toArray.mapM (rvE (actL l []).tmps)).run P w' = .ok vs.toArray w' := by
        rw [Array.mapM_eq_mapM_toList, Sem.run_map]
        rw [show rs.toArray.toList.mapM (rvE (actL l []).tmps) = rs.mapM (rvE l.toArray) from rfl, hm]; rfl
      rw [e1]
      simp only [Result.andThen, Sem.run_pure]
      clear hv hR hm e1
      match vs with
      | [] => rfl
      | [v] => rfl
      | v :: u :: rest => simp [oneV]
    cases e with
    | normal => exact ⟨rfl, res hq⟩
    | ret => exact ⟨rfl, res hq⟩
    | exit id => exact hq.elim
    | goto id => exact hq.elim
    | panic c => exact hc.elim
    | outgrown => exact hc.elim
  exact callsIn_wide.1 h2
end
end Go.Hc
