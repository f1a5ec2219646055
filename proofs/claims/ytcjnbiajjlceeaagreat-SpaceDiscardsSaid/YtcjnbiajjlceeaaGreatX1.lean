/- The heap calculus, part I: code, loops, functions. -/
import Derived.Test.YtcjnbiajjlceeaaGreatX0
import Derived.Below
import Derived.RangeFuncIn
import Derived.RangeFuncLeaves
import Derived.Lib.Overlaps
set_option linter.unusedSimpArgs false
set_option linter.unusedVariables false
namespace Go.Hc
open Go

def thenE (K : List Value → Heap → Prop) (Q : Exit → List Value → Heap → Prop) : Exit → List Value → Heap → Prop
  | .normal, l, H => K l H
  | e, l, H => Q e l H
def blkE (id : Nat) (Q : Exit → List Value → Heap → Prop) : Exit → List Value → Heap → Prop
  | .exit id', l, H => match Nat.beq id' id with
    | true => Q .normal l H
    | false => Q (.exit id') l H
  | e, l, H => Q e l H
def LoopE (B : (List Value → Heap → Prop) → List Value → Heap → Prop) (l : List Value) (H : Heap) : Prop :=
  ∃ (I : List Value → Heap → Prop) (μ : List Value → Heap → Nat), I l H ∧ ∀ l H, I l H → B (fun l' H' => I l' H' ∧ μ l' H' < μ l H) l H

def wpE (τ : Tab) (P : Program) (π : Nat → Pl) : Code → (Exit → List Value → Heap → Prop) → List Value → Heap → Prop
  | .skip, Q, l, H => Q .normal l H
  | .label _, Q, l, H => Q .normal l H
  | .region id ops draw, Q, l, H => match draw with
    | false => seqE τ P ops.toList (fun l H => Q .normal l H) ops.toList l H
    | true => planE τ P ops.toList (fun l H => Q .normal l H) (π id) [] l H
  | .seq a b, Q, l, H => wpE τ P π a (thenE (fun l H => wpE τ P π b Q l H) Q) l H
  | .cond c a b, Q, l, H => brV (evL l c) (wpE τ P π a Q l H) (wpE τ P π b Q l H)
  | .block id b, Q, l, H => wpE τ P π b (blkE id Q) l H
  | .loop b, Q, l, H => LoopE (fun K l H => wpE τ P π b (thenE K Q) l H) l H
  | .exit id, Q, l, H => Q (.exit id) l H
  | .ret, Q, l, H => Q .ret l H
  | _, _, _, _ => False

/-- Each drawn region has its plan. -/
def okCode (π : Nat → Pl) : Code → Prop
  | .region id ops true => planOK ops (π id) ops.size (Array.replicate ops.size false) = true ∧ ops.toList.all plainOp = true
  | .seq a b => okCode π a ∧ okCode π b
  | .cond _ a b => okCode π a ∧ okCode π b
  | .block _ b => okCode π b
  | .loop b => okCode π b
  | _ => True

def calm : Exit → Prop
  | .panic _ | .outgrown => False
  | _ => True
def liftQ (d : List Deferred) (Q : Exit → List Value → Heap → Prop) (e : Exit) (a : Act) (w : World) : Prop := calm e ∧ ∃ l, a = actL l d ∧ Q e l w.hp

section
variable {P : Program} {τ : Tab} {r : Option Nat} {π : Nat → Pl}
theorem wpE_sound (hτ : TabOK P τ) (hmix : P.follows .mixedOrders = true) {d : List Deferred} : ∀ (c : Code) (Q : Exit → List Value → Heap → Prop) (l : List Value) (w : World), okCode π c →
    wpE τ P π c Q l w.hp → c.wpIn (Fr r) 0 P (liftQ d Q) (actL l d) w
  | .skip, Q, l, w, _, h => wpIn_skip ⟨trivial, l, rfl, h⟩
  | .label _, Q, l, w, _, h => wpIn_label ⟨trivial, l, rfl, h⟩
  | .exit id, Q, l, w, _, h => wpIn_exit ⟨trivial, l, rfl, h⟩
  | .ret, Q, l, w, _, h => wpIn_ret ⟨trivial, l, rfl, h⟩
  | .region id ops false, Q, l, w, _, h => wpIn_region_list (by
      have := seqE_wp (r := r) hτ (K := fun l H => Q .normal l H) (Q := liftQ d Q) (d := d) (fun l w hk => ⟨trivial, l, rfl, hk⟩) ops.toList l w h
      simpa using this)
  | .region id ops true, Q, l, w, hok, h => by
    refine wpIn_mono (Q := fun e a w => e = .normal ∧ liftQ d Q .normal a w) ?_ (by rintro e a w ⟨rfl, hh⟩; exact hh)
    refine wpIn_region_any hmix (wpP_any _ _ (liftP []) _ _ ?_)
    have hpl : ∀ (j : Nat) (o : Oper), ops.toList.toArray[j]? = some o → plainOp o = true := by
      intro j o ho
      have := List.all_eq_true.1 hok.2 o (List.mem_of_getElem? (by simpa using ho))
      exact this
    have := planE_wp (r := r) hτ (ops := ops.toList) (K := fun l H => Q .normal l H) (Q := fun e a w => e = .normal ∧ liftQ d Q .normal a w) (d := d) hpl (fun c a w hh => by cases hh.1)
      (fun l w hk => ⟨rfl, trivial, l, rfl, hk⟩) (π id) ops.size (Array.replicate ops.size false) [] l { w with drawn := w.drawn + 1 } (by simpa using hok.1) (by simp) h
    simpa using this
  | .seq a b, Q, l, w, hok, h => by
    refine wpIn_seq (wpIn_mono (wpE_sound hτ hmix a _ l w hok.1 h) ?_)
    rintro e a' w' ⟨hc, l', rfl, hq⟩
    cases e with
    | normal => exact wpE_sound hτ hmix b Q l' w' hok.2 hq
    | exit id => exact ⟨trivial, l', rfl, hq⟩
    | goto id => exact ⟨trivial, l', rfl, hq⟩
    | ret => exact ⟨trivial, l', rfl, hq⟩
    | panic c => exact hc.elim
    | outgrown => exact hc.elim
  | .cond c a b, Q, l, w, hok, h => by
    rw [wpE] at h
    rcases brV_cases h with ⟨hb, h⟩ | ⟨hb, h⟩
    · exact wpIn_cond_true (by rw [eval_actL]; exact hb) (wpE_sound hτ hmix a Q l w hok.1 h)
    · exact wpIn_cond_false (by rw [eval_actL]; exact hb) (wpE_sound hτ hmix b Q l w hok.2 h)
  | .block id b, Q, l, w, hok, h => by
    refine wpIn_block (wpIn_mono (wpE_sound hτ hmix b _ l w hok h) ?_)
    rintro e a' w' ⟨hc, l', rfl, hq⟩
    cases e with
    | normal => exact ⟨trivial, l', rfl, hq⟩
    | exit id' =>
      simp only [blkE] at hq
      simp only [Exit.inBlock]
      split at hq
      · rename_i hh
        rw [if_pos (Nat.eq_of_beq_eq_true hh)]
        exact ⟨trivial, l', rfl, hq⟩
      · rename_i hh
        rw [if_neg (Nat.ne_of_beq_eq_false hh)]
        exact ⟨trivial, l', rfl, hq⟩
    | goto id => exact ⟨trivial, l', rfl, hq⟩
    | ret => exact ⟨trivial, l', rfl, hq⟩
    | panic c => exact hc.elim
    | outgrown => exact hc.elim
  | .loop b, Q, l, w, hok, h => by
    obtain ⟨I, μ, h0, hr⟩ := h
    refine wpIn_loop (fun a w => ∃ l, a = actL l d ∧ I l w.hp) (fun a w => μ a.tmps.toList w.hp) ⟨l, rfl, h0⟩ ?_
    rintro a w ⟨l, rfl, hI⟩
    refine wpIn_mono (wpE_sound hτ hmix b _ l w hok (hr l w.hp hI)) ?_
    rintro e a' w' ⟨hc, l', rfl, hq⟩
    cases e with
    | normal => exact ⟨⟨l', rfl, hq.1⟩, by simpa [actL] using hq.2⟩
    | exit id => exact ⟨trivial, l', rfl, hq⟩
    | goto id => exact ⟨trivial, l', rfl, hq⟩
    | ret => exact ⟨trivial, l', rfl, hq⟩
    | panic c => exact hc.elim
    | outgrown => exact hc.elim
  | .rangeFunc _ _ _ _, _, _, _, _, h => h.elim
  | .scope _, _, _, _, _, h => h.elim
  | .goto _, _, _, _, _, h => h.elim
  | .refuse _, _, _, _, _, h => h.elim

/-- A function's results. -/
def resE (τ : Tab) (l : List Value) (H : Heap) : List ResultVar → Option (List Value)
  | [] => some []
  | .tmp t :: rest => match resE τ l H rest with
    | some vs => some (l.getD t undef :: vs)
    | none => none
  | .cell a t :: rest => match τ.ti t with
    | some ti => match ldE (isAggD ti.desc) ti.info.size (l.getD a undef) H with
      | some v => match resE τ l H rest with
        | some vs => some (v :: vs)
        | none => none
      | none => none
    | none => none
def oneV : List Value → Value
  | [v] => v
  | l => .tuple l.toArray
/-- .. read one behind the other, and handed to R. -/
def retE (τ : Tab) (l : List Value) (H : Heap) (R : Value → Heap → Prop) : List ResultVar → List Value → Prop
  | [], acc => R (oneV acc) H
  | .tmp t :: rest, acc => retE τ l H R rest (acc ++ [l.getD t undef])
  | .cell a t :: rest, acc => match τ.ti t with
    | some ti => bnd (ldE (isAggD ti.desc) ti.info.size (l.getD a undef) H) fun v => retE τ l H R rest (acc ++ [v])
    | none => False
theorem retE_res {τ : Tab} {l : List Value} {H : Heap} {R : Value → Heap → Prop} : ∀ (rs : List ResultVar) (acc : List Value), retE τ l H R rs acc →
    ∃ vs, resE τ l H rs = some vs ∧ R (oneV (acc ++ vs)) H
  | [], acc, h => ⟨[], rfl, by simpa [retE] using h⟩
  | .tmp t :: rest, acc, h => by
    obtain ⟨vs, h1, h2⟩ := retE_res rest _ h
    exact ⟨l.getD t undef :: vs, by simp only [resE, h1], by simpa using h2⟩
  | .cell a t :: rest, acc, h => by
    simp only [retE] at h
    split at h
    · rename_i ti ht
      obtain ⟨v, hv, h⟩ := h
      obtain ⟨vs, h1, h2⟩ := retE_res rest _ h
      exact ⟨v :: vs, by simp only [resE, ht, hv, h1], by simpa using h2⟩
    · exact h.elim
def retQ (τ : Tab) (rs : List ResultVar) (R : Value → Heap → Prop) : Exit → List Value → Heap → Prop
  | .normal, l, H | .ret, l, H => retE τ l H R rs []
  | _, _, _ => False

def rvE (tm : Array Value) : ResultVar → Sem Value
  | .tmp t => pure (tm.getD t undef)
  | .cell a t => do loadVar t (← asAddr (tm.getD a undef))
theorem results_rvE (fn : Func) (tm : Array Value) : results fn tm = (do let vs ← fn.results.mapM (rvE tm); pure (if h : vs.size = 1 then vs[0] else .tuple vs)) := by
  unfold results
  congr 2
theorem resE_run (hτ : TabOK P τ) {l : List Value} {w : World} : ∀ (rs : List ResultVar) (vs : List Value), resE τ l w.hp rs = some vs →
    (rs.mapM (rvE l.toArray)).run P w = .ok vs w
  | [], vs, h => by simp only [resE, Option.some.injEq] at h; subst h; simp [go_sem]
  | .tmp t :: rest, vs, h => by
    simp only [resE] at h
    split at h
    · rename_i vs' hv
      cases h
      rw [List.mapM_cons]
      simp only [rvE, Sem.run_bind, Sem.run_pure, Result.andThen, resE_run hτ rest vs' hv]
      simp
    · cases h
  | .cell a t :: rest, vs, h => by
    simp only [resE] at h
    split at h
    · rename_i ti ht
      split at h
      · rename_i v hv
        split at h
        · rename_i vs' hvs
          cases h
          have h1 := ldE_run (P := P) (w := w) (hτ.1 _ _ ht).1 (hτ.1 _ _ ht).2.1 hv
          have e : l.toArray.getD a undef = l.getD a undef := by simp
          have h2 : (rvE l.toArray (.cell a t)).run P w = .ok v w := by
            show (do loadVar t (← asAddr (l.toArray.getD a undef)) : Sem Value).run P w = .ok v w
            rw [e]
            unfold Instr.loadAt at h1
            revert hv h1
            generalize l.getD a undef = x
            intro hv h1
            unfold ldE at hv
            split at hv
            · simp only [Sem.run_bind, asAddr, Instr.sureAddr, Sem.run_pure, Result.andThen] at h1 ⊢; exact h1
            · cases hv
          rw [List.mapM_cons, Sem.run_bind, h2]
          simp only [Sem.run_bind, Result.andThen, resE_run hτ rest vs' hvs, Sem.run_pure]
        · cases h
      · cases h
    · cases h

theorem EvF_intro (hτ : TabOK P τ) (hmix : P.follows .mixedOrders = true) {f : FuncId} {fn : Func} {c : Code} {args : List Value} {H : Heap} {R : Value → Heap → Prop} {k : Nat} {rs : List ResultVar}
    (hf : P.funcs[f]? = some fn) (hb : fn.body = some c) (hcall : ∀ args w, (callFunc f args).run P w = .ok (.enter f args) w) (hn : fn.ntmps = args.length + k) (hr : fn.results = rs.toArray)
    (hok : okCode π c) {l0 : List Value} (hl0 : l0 = args ++ List.replicate k undef) (h : wpE τ P π c (retQ τ rs R) l0 H) : EvL P f args.toArray H R := by
  subst hl0
  refine ⟨hcall _, fun w hw => ?_⟩
  subst hw
  have hargs : (args.toArray ++ Array.replicate (fn.ntmps - args.toArray.size) undef) = (args ++ List.replicate k undef).toArray := by
    rw [hn]; simp
  have h1 := wpE_sound (r := none) hτ hmix (d := []) c _ _ w hok h
  have h2 : CallsIn (Fr none) 0 P f args.toArray w fun e w' => ∃ v, e = .returned v ∧ R v w'.hp := by
    refine callsIn_of_wp hf hb trivial ?_
    rw [hargs]
    refine wpIn_mono h1 ?_
    rintro e a w' ⟨hc, l, rfl, hq⟩
    have res : ∀ {l : List Value} {w' : World}, retE τ l w'.hp R rs [] → ∃ v, (results fn (actL l []).tmps).run P w' = .ok v w' ∧ ∃ v', Ending.returned v = .returned v' ∧ R v' w'.hp := by
      intro l w' hret
      obtain ⟨vs, hv, hR⟩ := retE_res rs [] hret
      rw [List.nil_append] at hR
      refine ⟨oneV vs, ?_, _, rfl, hR⟩
      have hm := resE_run hτ rs vs hv
      rw [results_rvE, hr, Sem.run_bind]
      have e1 : (rs.toArray.mapM (rvE (actL l []).tmps)).run P w' = .ok vs.toArray w' := by
        rw [Array.mapM_eq_mapM_toList, Sem.run_map]
        rw [show rs.toArray.toList.mapM (rvE (actL l []).tmps) = rs.mapM (rvE l.toArray) from rfl, hm]; rfl
      rw [e1]
      simp only [Result.andThen, Sem.run_pure]
      clear hv hR hm e1
      match vs with
      | [] => rfl
      | [v] => rfl
      | v :: u :: rest => simp [oneV]
    cases e with
    | normal => exact ⟨rfl, res hq⟩
    | ret => exact ⟨rfl, res hq⟩
    | exit id => exact hq.elim
    | goto id => exact hq.elim
    | panic c => exact hc.elim
    | outgrown => exact hc.elim
  exact callsIn_wide.1 h2
end
end Go.Hc
set_option linter.unusedSimpArgs false
set_option linter.unusedVariables false
namespace Go.Hc
open Go

section
variable {P : Program} {τ : Tab} {π : Nat → Pl}

theorem elemE_mono {t : TypeId} {k k' : TypeId → TI → Prop} (hk : ∀ e te, k e te → k' e te) (h : elemE τ t k) : elemE τ t k' := by
  unfold elemE at h ⊢
  revert h
  cases τ.ti t with
  | none => exact id
  | some ti =>
    dsimp only
    cases ti.desc <;> dsimp only <;> first | exact id | skip
    rename_i e
    cases τ.ti e with
    | none => exact id
    | some te => exact hk e te
theorem callV_mono {f : Value} {args : List Value} {H : Heap} {k k' : Value → Heap → Prop} (hk : ∀ v H, k v H → k' v H) (h : callV P f args H k) : callV P f args H k' := by
  unfold callV at h ⊢
  split at h
  · exact h.mono hk
  · rename_i l first cap
    intro w hw
    obtain ⟨fn, tm, as, bo, h1, h2⟩ := h w hw
    exact ⟨fn, tm, as, bo, h1, h2.mono fun e w' ⟨v, he, hv⟩ => ⟨v, he, hk _ _ hv⟩⟩
  · exact h.elim
theorem bslE_mono {t : TypeId} {z : Array Value} {s n : Nat} {ps : List (Nat × Value)} {H : Heap} {k k' : Value → Heap → Prop} (hk : ∀ v H, k v H → k' v H) (h : bslE t z s n ps H k) : bslE t z s n ps H k' :=
  ⟨h.1, bnd_mono h.2 fun _ => hk _ _⟩
theorem mslE_mono {t : TypeId} {z : Array Value} {s : Nat} {l c : Value} {H : Heap} {k k' : Value → Heap → Prop} (hk : ∀ v H, k v H → k' v H) (h : mslE t z s l c H k) : mslE t z s l c H k' := by
  unfold mslE at h ⊢
  split at h
  · exact ⟨h.1, hk _ _ h.2⟩
  · exact h.elim
theorem appE_mono {t : TypeId} {z : Array Value} {s n : Nat} {l c : Value} {H : Heap} {k k' : Value → Heap → Prop} (hk : ∀ v H, k v H → k' v H) (h : appE t z s n l c H k) : appE t z s n l c H k' := by
  unfold appE at h ⊢
  split at h
  · refine bnd_mono h fun new h => ?_
    split at h
    · rename_i hle
      rw [if_pos hle]
      exact bnd_mono h fun _ => hk _ _
    · rename_i hle
      rw [if_neg hle]
      exact bnd_mono h fun _ h => ⟨h.1, fun c h1 h2 => hk _ _ (h.2 c h1 h2)⟩
  · exact h.elim
theorem appZE_mono {t : TypeId} {z : Array Value} {s n : Nat} {l c : Value} {H : Heap} {k k' : Value → Heap → Prop} (hk : ∀ v H, k v H → k' v H) (h : appZE t z s n l c H k) : appZE t z s n l c H k' := by
  unfold appZE at h ⊢
  split at h
  · refine ⟨h.1, ?_⟩
    have h := h.2
    split at h
    · rename_i hle
      rw [if_pos hle]
      exact bnd_mono h fun _ => hk _ _
    · rename_i hle
      rw [if_neg hle]
      exact bnd_mono h fun _ h => ⟨h.1, fun c h1 h2 => hk _ _ (h.2 c h1 h2)⟩
  · exact h.elim
theorem cpyE_mono {s : Nat} {l c : Value} {H : Heap} {k k' : Value → Heap → Prop} (hk : ∀ v H, k v H → k' v H) (h : cpyE s l c H k) : cpyE s l c H k' := by
  unfold cpyE at h ⊢
  split at h
  · exact bnd_mono h fun _ h => bnd_mono h fun _ => hk _ _
  · exact h.elim
theorem clrE_mono {z : Array Value} {c : Value} {H : Heap} {k k' : Value → Heap → Prop} (hk : ∀ v H, k v H → k' v H) (h : clrE z c H k) : clrE z c H k' := by
  unfold clrE at h ⊢
  split at h
  · exact hk _ _ h
  · split at h
    · rename_i h0; rw [if_pos h0]; exact hk _ _ h
    · rename_i h0; rw [if_neg h0]; exact bnd_mono h fun _ => hk _ _
  · exact h.elim
theorem opE_mono {op : Op} {ρ : Operand → Value} {H : Heap} {k k' : Value → Heap → Prop} (hk : ∀ v H, k v H → k' v H) (h : opE τ P op ρ H k) : opE τ P op ρ H k' := by
  by_cases hq : quietOp op = true
  · by_cases hl : ∃ t x, op = .load t x
    · obtain ⟨t, x, rfl⟩ := hl
      delta opE at h ⊢
      dsimp only at h ⊢
      revert h
      cases τ.ti t with
      | none => exact id
      | some ti => exact fun h => bnd_mono h fun _ => hk _ _
    · obtain ⟨o, ho⟩ := asks_op (τ := τ) (P := P) (ρ := ρ) hq (fun t x e => hl ⟨t, x, e⟩)
      exact (ho H k').2 (bnd_mono ((ho H k).1 h) fun _ => hk _ _)
  · revert h
    cases op <;> (try exact absurd rfl hq) <;> delta opE <;> (try dsimp only) <;> (try exact id)
    case alloc t =>
      cases τ.ti t with
      | none => exact id
      | some ti =>
        dsimp only
        cases ti.info.zero with
        | none => exact id
        | some z => exact hk _ _
    case box => exact hk _ _
    case buildSlice =>
      refine elemE_mono fun e te => ?_
      cases te.info.zero with
      | none => exact id
      | some z => exact bslE_mono hk
    case store t x y =>
      cases τ.ti t with
      | none => exact id
      | some ti => exact fun h => bnd_mono h fun _ => hk _ _
    case makeSlice =>
      refine elemE_mono fun e te => ?_
      cases te.info.zero with
      | none => exact id
      | some z => exact mslE_mono hk
    case call c =>
      obtain ⟨ce, as, ats⟩ := c
      cases ce with
      | value f => exact callV_mono hk
      | invoke f m => exact id
      | builtin b =>
        dsimp only
        unfold biE
        intro h
        split at h
        · exact elemE_mono (fun _ _ h => bnd_mono h fun _ => hk _ _) h
        · exact elemE_mono (fun _ _ h => bnd_mono h fun _ => hk _ _) h
        · exact bnd_mono h fun _ => hk _ _
        · exact bnd_mono h fun _ => hk _ _
        · split at h
          · split at h
            · refine elemE_mono (fun e te => ?_) h
              cases te.info.zero with
              | none => exact id
              | some z => exact appE_mono hk
            · refine elemE_mono (fun e te => ?_) h
              cases te.info.zero with
              | none => exact id
              | some z => exact appZE_mono hk
            · exact h.elim
          · exact h.elim
        · exact elemE_mono (fun _ _ => cpyE_mono hk) h
        · refine elemE_mono (fun e te => ?_) h
          cases te.info.zero with
          | none => exact id
          | some z => exact clrE_mono hk
        · exact h.elim

theorem putL_len (l : List Value) (d : Option Tmp) (v : Value) : (putL l d v).length = l.length := by cases d <;> simp [putL]
theorem brG_mono {c : Value} {A B U A' B' U' : Prop} (h : brG c A B U) (ha : A → A') (hb : B → B') (hu : U → U') : brG c A' B' U' := by
  rcases brG_cases h with ⟨rfl, h⟩ | ⟨rfl, h⟩ | ⟨⟨vs, rfl⟩, h⟩
  · exact ha h
  · exact hb h
  · exact hu h
theorem brV_mono {c : Value} {A B A' B' : Prop} (h : brV c A B) (ha : A → A') (hb : B → B') : brV c A' B' := brG_mono h ha hb id
theorem gU_mono {g : Option (Nat × Bool)} {U U' : Prop} (h : gU g U) (hu : U → U') : gU g U' := by
  unfold gU at *; split at h
  · exact h
  · exact hu h
theorem guardE_mono {ops : List Oper} {l : List Value} {g : Option (Nat × Bool)} {A B A' B' : List Value → Prop} (h : guardE ops l g A B)
    (ha : ∀ l', l'.length = l.length → A l' → A' l') (hb : ∀ l', l'.length = l.length → B l' → B' l') : guardE ops l g A' B' := by
  unfold guardE at h ⊢
  split at h
  · exact ha _ rfl h
  · split at h
    · split at h
      · split at h
        · exact brG_mono h (ha _ (by simp)) (hb _ (by simp)) fun h => gU_mono h (hb _ rfl)
        · exact brG_mono h (hb _ (by simp)) (ha _ (by simp)) fun h => gU_mono h (hb _ rfl)
      · exact h.elim
    · exact h.elim
theorem seqE_mono {ops : List Oper} {n : Nat} {K K' : List Value → Heap → Prop} (hk : ∀ l H, l.length = n → K l H → K' l H) : ∀ (rest : List Oper) (l : List Value) (H : Heap), l.length = n →
    seqE τ P ops K rest l H → seqE τ P ops K' rest l H
  | [], l, H, hl, h => hk l H hl h
  | o :: rest, l, H, hl, h => guardE_mono h
      (fun l' hl' h => opE_mono (fun v H' h => seqE_mono hk rest _ H' (by rw [putL_len, hl', hl]) h) h)
      (fun l' hl' h => seqE_mono hk rest _ H (by rw [putL_len, hl', hl]) h)
theorem pendE_mono {o : Oper} {H : Heap} {K K' : Prop} (hk : K → K') : ∀ {pend : List (Nat × (Heap → Prop))}, pendE o H K pend → pendE o H K' pend
  | [], h => hk h
  | p :: l, h => by
    unfold pendE at h ⊢
    split at h
    · exact pendE_mono hk h
    · exact ⟨h.1, pendE_mono hk h.2⟩
theorem oneE_mono {ops : List Oper} {n i : Nat} {K K' : List (Nat × (Heap → Prop)) → List Value → Heap → Prop} (hk : ∀ pend l H, l.length = n → K pend l H → K' pend l H)
    {pend : List (Nat × (Heap → Prop))} {l : List Value} {H : Heap} (hl : l.length = n) (h : oneE τ P ops i K pend l H) : oneE τ P ops i K' pend l H := by
  unfold oneE at h ⊢
  split at h
  · exact h.elim
  · split at h
    · exact guardE_mono h (fun l' hl' h => opE_mono (fun v H' h => hk _ _ _ (by rw [putL_len, hl', hl]) h) h) (fun l' hl' h => hk _ _ _ (by rw [putL_len, hl', hl]) h)
    · exact guardE_mono h (fun l' hl' h => opE_mono (fun v H' h => pendE_mono (hk _ _ _ (by rw [putL_len, hl', hl])) h) h) (fun l' hl' h => hk _ _ _ (by rw [putL_len, hl', hl]) h)
theorem planE_mono {ops : List Oper} {n : Nat} {K K' : List Value → Heap → Prop} (hk : ∀ l H, l.length = n → K l H → K' l H) : ∀ (pl : Pl) (pend : List (Nat × (Heap → Prop))) (l : List Value) (H : Heap), l.length = n →
    planE τ P ops K pl pend l H → planE τ P ops K' pl pend l H
  | .nil, _, l, H, hl, h => hk l H hl h
  | .one _ p, _, _, _, hl, h => oneE_mono (fun pend l H hl h => planE_mono hk p pend l H hl h) hl h
  | .two _ p _ q, _, _, _, hl, h => ⟨oneE_mono (fun pend l H hl h => planE_mono hk p pend l H hl h) hl h.1, oneE_mono (fun pend l H hl h => planE_mono hk q pend l H hl h) hl h.2⟩

theorem wpE_mono : ∀ (c : Code) {n : Nat} {Q Q' : Exit → List Value → Heap → Prop} (l : List Value) (H : Heap), l.length = n → (∀ e l' H', l'.length = n → Q e l' H' → Q' e l' H') →
    wpE τ P π c Q l H → wpE τ P π c Q' l H
  | .skip, _, _, _, l, H, hl, hq, h => hq _ _ _ hl h
  | .label _, _, _, _, l, H, hl, hq, h => hq _ _ _ hl h
  | .exit _, _, _, _, l, H, hl, hq, h => hq _ _ _ hl h
  | .ret, _, _, _, l, H, hl, hq, h => hq _ _ _ hl h
  | .region id ops false, _, _, _, l, H, hl, hq, h => seqE_mono (fun l H hl h => hq _ _ _ hl h) _ l H hl h
  | .region id ops true, _, _, _, l, H, hl, hq, h => planE_mono (fun l H hl h => hq _ _ _ hl h) _ _ l H hl h
  | .seq a b, n, Q, Q', l, H, hl, hq, h => wpE_mono a l H hl (fun e l' H' hl' h => by
      cases e with
      | normal => exact wpE_mono b l' H' hl' hq h
      | exit id => exact hq _ _ _ hl' h
      | goto id => exact hq _ _ _ hl' h
      | ret => exact hq _ _ _ hl' h
      | panic c => exact hq _ _ _ hl' h
      | outgrown => exact hq _ _ _ hl' h) h
  | .cond c a b, n, Q, Q', l, H, hl, hq, h => brV_mono h (wpE_mono a l H hl hq) (wpE_mono b l H hl hq)
  | .block id b, n, Q, Q', l, H, hl, hq, h => wpE_mono b l H hl (fun e l' H' hl' h => by
      cases e with
      | normal => exact hq _ _ _ hl' h
      | exit id' =>
        simp only [blkE] at h ⊢
        split at h
        · exact hq _ _ _ hl' h
        · exact hq _ _ _ hl' h
      | goto id => exact hq _ _ _ hl' h
      | ret => exact hq _ _ _ hl' h
      | panic c => exact hq _ _ _ hl' h
      | outgrown => exact hq _ _ _ hl' h) h
  | .loop b, n, Q, Q', l, H, hl, hq, h => by
    obtain ⟨I, μ, h0, hr⟩ := h
    refine ⟨fun l H => l.length = n ∧ I l H, μ, ⟨hl, h0⟩, fun l H ⟨hl, hI⟩ => wpE_mono b l H hl (fun e l' H' hl' h => ?_) (hr l H hI)⟩
    cases e with
    | normal => exact ⟨⟨hl', h.1⟩, h.2⟩
    | exit id => exact hq _ _ _ hl' h
    | goto id => exact hq _ _ _ hl' h
    | ret => exact hq _ _ _ hl' h
    | panic c => exact hq _ _ _ hl' h
    | outgrown => exact hq _ _ _ hl' h
  | .rangeFunc _ _ _ _, _, _, _, _, _, _, _, h => h
  | .scope _, _, _, _, _, _, _, _, h => h
  | .goto _, _, _, _, _, _, _, _, h => h
  | .refuse _, _, _, _, _, _, _, _, h => h

/-! ### the pieces -/
def nQ (G : List Value → Heap → Prop) : Exit → List Value → Heap → Prop
  | .normal, l, H => G l H
  | _, _, _ => False
theorem list_eta {l : List Value} {n : Nat} (h : l.length = n) : (List.range n).map (fun i => l.getD i undef) = l := by
  subst h
  apply List.ext_getElem (by simp)
  intro i h1 h2
  simp [h2]
theorem regI {c : Code} {n : Nat} {l : List Value} {H : Heap} {Q : Exit → List Value → Heap → Prop} {G : List Value → Heap → Prop} (hl : l.length = n)
    (h : wpE τ P π c (nQ G) ((List.range n).map fun i => l.getD i undef) H) (hk : ∀ l' H', l'.length = n → G l' H' → Q .normal l' H') : wpE τ P π c Q l H := by
  rw [list_eta hl] at h
  refine wpE_mono c l H hl (fun e l' H' hl' h => ?_) h
  cases e with
  | normal => exact hk _ _ hl' h
  | _ => exact h.elim
theorem seqI {c a b : Code} {l : List Value} {H : Heap} {Q : Exit → List Value → Heap → Prop} (e : c = .seq a b) (h : wpE τ P π a (thenE (fun l H => wpE τ P π b Q l H) Q) l H) : wpE τ P π c Q l H := by
  subst e; exact h
theorem condI {c a b : Code} {o : Operand} {l : List Value} {H : Heap} {Q : Exit → List Value → Heap → Prop} {A B : Prop} (e : c = .cond o a b) (h : brV (evL l o) A B) (ha : A → wpE τ P π a Q l H) (hb : B → wpE τ P π b Q l H) :
    wpE τ P π c Q l H := by
  subst e; exact brV_mono h ha hb
theorem blockI {c b : Code} {id : Nat} {l : List Value} {H : Heap} {Q : Exit → List Value → Heap → Prop} (e : c = .block id b) (h : wpE τ P π b (blkE id Q) l H) : wpE τ P π c Q l H := by
  subst e; exact h
theorem exitI {c : Code} {id : Nat} {l : List Value} {H : Heap} {Q : Exit → List Value → Heap → Prop} (e : c = .exit id) (h : Q (.exit id) l H) : wpE τ P π c Q l H := by
  subst e; exact h
theorem skipI {c : Code} {l : List Value} {H : Heap} {Q : Exit → List Value → Heap → Prop} (e : c = .skip) (h : Q .normal l H) : wpE τ P π c Q l H := by
  subst e; exact h
theorem retI {c : Code} {l : List Value} {H : Heap} {Q : Exit → List Value → Heap → Prop} (e : c = .ret) (h : Q .ret l H) : wpE τ P π c Q l H := by
  subst e; exact h
theorem loopI {c b : Code} {n : Nat} {l : List Value} {H : Heap} {Q : Exit → List Value → Heap → Prop} (e : c = .loop b) (I : List Value → Heap → Prop) (μ : List Value → Heap → Nat) (hl : l.length = n) (h0 : I l H)
    (hr : ∀ l H, l.length = n → I l H → wpE τ P π b (thenE (fun l' H' => l'.length = n → I l' H' ∧ μ l' H' < μ l H) Q) l H) : wpE τ P π c Q l H := by
  subst e
  refine ⟨fun l H => l.length = n ∧ I l H, μ, ⟨hl, h0⟩, fun l H ⟨hl, hI⟩ => wpE_mono b l H hl (fun e l' H' hl' h => ?_) (hr l H hl hI)⟩
  cases e with
  | normal => exact ⟨⟨hl', (h hl').1⟩, (h hl').2⟩
  | exit id => exact h
  | goto id => exact h
  | ret => exact h
  | panic c => exact h
  | outgrown => exact h

theorem thenN {K : List Value → Heap → Prop} {Q : Exit → List Value → Heap → Prop} {l : List Value} {H : Heap} (h : K l H) : thenE K Q .normal l H := h
theorem thenX {K : List Value → Heap → Prop} {Q : Exit → List Value → Heap → Prop} {l : List Value} {H : Heap} {i : Nat} (h : Q (.exit i) l H) : thenE K Q (.exit i) l H := h
theorem thenR {K : List Value → Heap → Prop} {Q : Exit → List Value → Heap → Prop} {l : List Value} {H : Heap} (h : Q .ret l H) : thenE K Q .ret l H := h
theorem blkN {id : Nat} {Q : Exit → List Value → Heap → Prop} {l : List Value} {H : Heap} (h : Q .normal l H) : blkE id Q .normal l H := h
theorem blkR {id : Nat} {Q : Exit → List Value → Heap → Prop} {l : List Value} {H : Heap} (h : Q .ret l H) : blkE id Q .ret l H := h
theorem blkX {id : Nat} {Q : Exit → List Value → Heap → Prop} {l : List Value} {H : Heap} (h : Q .normal l H) : blkE id Q (.exit id) l H := by
  simp only [blkE, Nat.beq_refl]; exact h
theorem blkO {id i : Nat} {Q : Exit → List Value → Heap → Prop} {l : List Value} {H : Heap} (hn : Nat.beq i id = false) (h : Q (.exit i) l H) : blkE id Q (.exit i) l H := by
  simp only [blkE, hn]; exact h
def subC : Code → List Nat → Code
  | c, [] => c
  | .seq a _, 0 :: p => subC a p
  | .seq _ b, _ :: p => subC b p
  | .cond _ a _, 0 :: p => subC a p
  | .cond _ _ b, _ :: p => subC b p
  | .block _ b, _ :: p => subC b p
  | .loop b, _ :: p => subC b p
  | .rangeFunc _ _ a _, 0 :: p => subC a p
  | .rangeFunc _ _ _ b, _ :: p => subC b p
  | c, _ => c
def zeros (n : Nat) : Array Value := (List.replicate n (.int .i64 0)).toArray
def bodyC (f : Func) : Code := f.body.getD .skip
def newE (t : TypeId) (c : Array Value) (H : Heap) (k : Value → Heap → Prop) : Prop := k (adr H) (newB H t c)

def okB (π : Nat → Pl) : Code → Bool
  | .region id ops true => planOK ops (π id) ops.size (Array.replicate ops.size false) && ops.toList.all plainOp
  | .seq a b => okB π a && okB π b
  | .cond _ a b => okB π a && okB π b
  | .block _ b => okB π b
  | .loop b => okB π b
  | _ => true
theorem okCode_of : ∀ (c : Code), okB π c = true → okCode π c
  | .region id ops true, h => by
    simp only [okB, Bool.and_eq_true] at h
    exact h
  | .region id ops false, _ => trivial
  | .seq a b, h => by
    simp only [okB, Bool.and_eq_true] at h
    exact ⟨okCode_of a h.1, okCode_of b h.2⟩
  | .cond _ a b, h => by
    simp only [okB, Bool.and_eq_true] at h
    exact ⟨okCode_of a h.1, okCode_of b h.2⟩
  | .block _ b, h => okCode_of b (by simpa only [okB] using h)
  | .loop b, h => okCode_of b (by simpa only [okB] using h)
  | .skip, _ => trivial
  | .label _, _ => trivial
  | .exit _, _ => trivial
  | .ret, _ => trivial
  | .rangeFunc _ _ _ _, _ => trivial
  | .scope _, _ => trivial
  | .goto _, _ => trivial
  | .refuse _, _ => trivial
end
end Go.Hc
set_option linter.unusedSimpArgs false
set_option linter.unusedVariables false
namespace Go.Hc
open Go

/-- H' has what H has, but for the blocks of S; blocks may have come. -/
structure Ext (S : List Nat) (H H' : Heap) : Prop where
  size : H.size ≤ H'.size
  same : ∀ b, b < H.size → b ∉ S → H'.arr[b]? = H.arr[b]?
  rest : H'.tape = H.tape ∧ H'.os = H.os ∧ H'.output = H.output
theorem Ext.refl (S : List Nat) (H : Heap) : Ext S H H := ⟨Nat.le_refl _, fun _ _ _ => rfl, rfl, rfl, rfl⟩
theorem Ext.trans {S : List Nat} {H H' H'' : Heap} (h : Ext S H H') (k : Ext S H' H'') : Ext S H H'' :=
  ⟨Nat.le_trans h.size k.size, fun b hb hs => (k.same b (Nat.lt_of_lt_of_le hb h.size) hs).trans (h.same b hb hs), k.rest.1.trans h.rest.1, k.rest.2.1.trans h.rest.2.1, k.rest.2.2.trans h.rest.2.2⟩
theorem Ext.mono {S S' : List Nat} {H H' : Heap} (h : Ext S H H') (hs : ∀ b ∈ S, b ∈ S' ∨ H.size ≤ b) : Ext S' H H' :=
  ⟨h.size, fun b hb hn => h.same b hb fun hm => (hs b hm).elim hn (fun hl => by omega), h.rest⟩
theorem size_newB (H : Heap) (t : TypeId) (c : Array Value) : (newB H t c).size = H.size + 1 := by simp [newB, Heap.size]
theorem Ext.newB {S : List Nat} {H H' : Heap} (h : Ext S H H') (t : TypeId) (c : Array Value) : Ext S H (newB H' t c) := by
  refine ⟨by rw [size_newB]; have := h.size; omega, fun b hb hs => ?_, h.rest⟩
  have h1 : b < H'.arr.size := by have := h.size; unfold Heap.size at *; omega
  rw [← h.same b hb hs, Hc.newB, Array.getElem?_push_lt h1]
  simp [h1]
theorem Ext.setB {S : List Nat} {H H' : Heap} (h : Ext S H H') (b : Nat) (c : Array Value) (hb : b ∈ S ∨ H.size ≤ b) : Ext S H (setB H' b c) :=
  ⟨by rw [size_setB]; exact h.size, fun b' hb' hs => by
    rw [← h.same b' hb' hs, Hc.setB, Array.getElem?_modify]
    have hne : b ≠ b' := fun e => by subst e; exact hb.elim hs (fun hl => by omega)
    simp [hne], h.rest⟩
theorem Ext.blk {S : List Nat} {H H' : Heap} {b : Nat} {c : Array Value} (h : Ext S H H') (hb : blk H b = some c) (hs : b ∉ S) : blk H' b = some c := by
  have := h.same b (blk_lt hb) hs
  unfold Hc.blk at hb ⊢; rw [this]; exact hb
theorem Ext.own {S : List Nat} {H H' : Heap} {b : Nat} {c : Array Value} (h : Ext S H H') (hb : own H b = some c) (hs : b ∉ S) : own H' b = some c := by
  have := h.same b (own_lt hb) hs
  unfold Hc.own at hb ⊢; rw [this]; exact hb

section
variable {H : Heap} {t : TypeId} {c c' : Array Value} {b b' : Nat}
theorem blk_newB_self : blk (newB H t c) H.size = some c := by simp [blk, newB, Heap.size]
theorem own_newB_self : own (newB H t c) H.size = some c := by simp [own, newB, Heap.size]
theorem arr_newB_ne (h : b ≠ H.size) : (newB H t c).arr[b]? = H.arr[b]? := by
  unfold newB Heap.size at *
  rcases Nat.lt_or_ge b H.arr.size with h1 | h1
  · rw [Array.getElem?_push_lt h1]; simp [h1]
  · rw [Array.getElem?_eq_none (by simp; omega), Array.getElem?_eq_none (by omega)]
theorem blk_newB_ne (h : b ≠ H.size) : blk (newB H t c) b = blk H b := by
  unfold blk; rw [arr_newB_ne h]
theorem own_newB_ne (h : b ≠ H.size) : own (newB H t c) b = own H b := by
  unfold own; rw [arr_newB_ne h]
theorem setB_newB_self : setB (newB H t c) H.size c' = newB H t c' := by
  refine heap_ext (fun i => ?_) rfl rfl rfl
  simp only [setB, newB, Heap.size, Array.getElem?_modify, Array.getElem?_push]
  by_cases hi : H.arr.size = i
  · subst hi; simp
  · simp [hi, Ne.symm hi]
theorem setB_newB_ne (h : b ≠ H.size) : setB (newB H t c) b c' = newB (setB H b c') t c := by
  refine heap_ext (fun i => ?_) rfl rfl rfl
  simp only [setB, newB, Array.getElem?_modify, Array.getElem?_push, Array.size_modify]
  unfold Heap.size at h
  by_cases hi : i = H.arr.size
  · subst hi; simp [h]
  · simp [hi]
end

/-! ### words at known values -/
section
variable {H : Heap}
@[congr] theorem bnd_cg {α : Type} {o o' : Option α} {k : α → Prop} (h : o = o') : bnd o k = bnd o' k := by rw [h]
@[congr] theorem EvF_cg {P : Program} {f : FuncId} {a b : Array Value} {H H' : Heap} {Q : Value → Heap → Prop} (h : a = b) (h' : H = H') : EvF P f a H Q = EvF P f b H' Q := by rw [h, h']
@[congr] theorem callV_cg {P : Program} {f f' : Value} {a b : List Value} {H H' : Heap} {Q : Value → Heap → Prop} (h0 : f = f') (h : a = b) (h' : H = H') : callV P f a H Q = callV P f' b H' Q := by rw [h0, h, h']
@[congr] theorem brV_cg {c c' : Value} {A B : Prop} (h : c = c') : brV c A B = brV c' A B := by rw [h]
@[congr] theorem newE_cg {t : TypeId} {c c' : Array Value} {H H' : Heap} {k : Value → Heap → Prop} (h : c = c') (h' : H = H') : newE t c H k = newE t c' H' k := by rw [h, h']
@[congr] theorem pickE_cg {c c' a a' b b' : Value} {H H' : Heap} {k : Value → Heap → Prop} (h : c = c') (ha : a = a') (hb : b = b') (h' : H = H') : pickE c a b H k = pickE c' a' b' H' k := by rw [h, ha, hb, h']
@[congr] theorem mslE_cg {t : TypeId} {z : Array Value} {n : Nat} {a a' b b' : Value} {H H' : Heap} {k : Value → Heap → Prop} (ha : a = a') (hb : b = b') (h' : H = H') : mslE t z n a b H k = mslE t z n a' b' H' k := by rw [ha, hb, h']
@[congr] theorem bslE_cg {t : TypeId} {z : Array Value} {n m : Nat} {a a' : List (Nat × Value)} {H H' : Heap} {k : Value → Heap → Prop} (ha : a = a') (h' : H = H') : bslE t z n m a H k = bslE t z n m a' H' k := by rw [ha, h']
@[congr] theorem appE_cg {t : TypeId} {z : Array Value} {n m : Nat} {a a' b b' : Value} {H H' : Heap} {k : Value → Heap → Prop} (ha : a = a') (hb : b = b') (h' : H = H') : appE t z n m a b H k = appE t z n m a' b' H' k := by rw [ha, hb, h']
@[congr] theorem cpyE_cg {n : Nat} {a a' b b' : Value} {H H' : Heap} {k : Value → Heap → Prop} (ha : a = a') (hb : b = b') (h' : H = H') : cpyE n a b H k = cpyE n a' b' H' k := by rw [ha, hb, h']

@[congr] theorem brG_cg {c c' : Value} {A B U : Prop} (h : c = c') : brG c A B U = brG c' A B U := by rw [h]
theorem brG_t {A B U : Prop} : brG (.bool true) A B U = A := rfl
theorem brG_f {A B U : Prop} : brG (.bool false) A B U = B := rfl
theorem brG_i {A B U : Prop} {b : Bool} (ha : b = true → A) (hb : b = false → B) : brG (.bool b) A B U := by cases b; exact hb rfl; exact ha rfl
theorem brG_d {A B U : Prop} {p : Prop} [Decidable p] (ha : p → A) (hb : ¬ p → B) : brG (.bool (decide p)) A B U := brG_i (fun h => ha (by simpa using h)) (fun h => hb (by simpa using h))
theorem brV_t {A B : Prop} : brV (.bool true) A B = A := rfl
theorem brV_f {A B : Prop} : brV (.bool false) A B = B := rfl
theorem brV_b {A B : Prop} {b : Bool} : brV (.bool b) A B ↔ (b = true → A) ∧ (b = false → B) := by cases b <;> simp [brV, brG]
theorem brV_i {A B : Prop} {b : Bool} (ha : b = true → A) (hb : b = false → B) : brV (.bool b) A B := brV_b.2 ⟨ha, hb⟩
theorem brV_d {A B : Prop} {p : Prop} [Decidable p] (ha : p → A) (hb : ¬ p → B) : brV (.bool (decide p)) A B := brV_b.2 ⟨fun h => ha (by simpa using h), fun h => hb (by simpa using h)⟩
theorem newE_u {t : TypeId} {c : Array Value} {k : Value → Heap → Prop} : newE t c H k = k (.pointer (some ⟨H.size, 0, none⟩)) (newB H t c) := rfl
theorem pickE_t {a b : Value} {k : Value → Heap → Prop} : pickE (.bool true) a b H k = k a H := rfl
theorem pickE_f {a b : Value} {k : Value → Heap → Prop} : pickE (.bool false) a b H k = k b H := rfl
theorem nilV_p {a : Addr} : nilV (.pointer (some a)) = some (.pointer (some a)) := rfl
theorem faV_p {n b o : Nat} : faV n (.pointer (some ⟨b, o, none⟩)) = some (.pointer (some ⟨b, o + n, none⟩)) := rfl
theorem ldE_f {n b o : Nat} : ldE false n (.pointer (some ⟨b, o, none⟩)) H = (blk H b).bind (·[o]?) := by
  unfold ldE; simp only [Bool.false_eq_true, if_false]; cases blk H b <;> rfl
theorem ldE_t {n b o : Nat} : ldE true n (.pointer (some ⟨b, o, none⟩)) H = (rdA H b o n).map .agg := by
  unfold ldE; simp only [if_true]; cases rdA H b o n <;> rfl
theorem rdA_u {n b o : Nat} : rdA H b o n = (blk H b).bind fun c => getC c o n := by unfold rdA; cases blk H b <;> rfl
theorem stE_p {n b o : Nat} {v : Value} : stE n (.pointer (some ⟨b, o, none⟩)) v H = if v.cells.size = n then wrA H b o v.cells.toList else none := rfl
theorem wrA_u {b o : Nat} {l : List Value} {c : Array Value} (h : own H b = some c) (h1 : o + l.length ≤ c.size) (h2 : l.all isCell = true) : wrA H b o l = some (setB H b (splice c o l)) := by
  unfold wrA; rw [h]; simp only [h1, h2, and_self, if_true]
theorem cells_int {k : IntKind} {n : Int} : (Value.int k n).cells = #[.int k n] := rfl
theorem cells_bool {b : Bool} : (Value.bool b).cells = #[.bool b] := rfl
theorem cells_ptr {a : Option Addr} : (Value.pointer a).cells = #[.pointer a] := rfl
theorem cells_slice {a : Option Addr} {n m : Nat} : (Value.slice a n m).cells = #[.slice a n m] := rfl
theorem cells_func {f : Fn} {a b : Array Value} : (Value.func f a b).cells = #[.func f a b] := rfl
theorem cells_agg {cs : Array Value} : (Value.agg cs).cells = cs := rfl
theorem isCell_int {k : IntKind} {n : Int} : isCell (.int k n) = true := rfl
theorem isCell_bool {b : Bool} : isCell (.bool b) = true := rfl
theorem isCell_ptr {a : Option Addr} : isCell (.pointer a) = true := rfl
theorem isCell_slice {a : Option Addr} {n m : Nat} : isCell (.slice a n m) = true := rfl
theorem isCell_func {f : Fn} {a b : Array Value} : isCell (.func f a b) = true := rfl
theorem bin_add {a b : Int} {k : IntKind} {m : EqM} : binV m .add (.int k a) (.int k b) = some (.int k (k.wrap (a + b))) := by simp [binV, intBin]
theorem bin_sub {a b : Int} {k : IntKind} {m : EqM} : binV m .sub (.int k a) (.int k b) = some (.int k (k.wrap (a - b))) := by simp [binV, intBin]
theorem bin_mul {a b : Int} {k : IntKind} {m : EqM} : binV m .mul (.int k a) (.int k b) = some (.int k (k.wrap (a * b))) := by simp [binV, intBin]
theorem bin_quo {a b : Int} {k : IntKind} {m : EqM} (h : b ≠ 0) : binV m .quo (.int k a) (.int k b) = some (.int k (k.wrap (a.tdiv b))) := by simp [binV, intBin, h]
theorem bin_rem {a b : Int} {k : IntKind} {m : EqM} (h : b ≠ 0) : binV m .rem (.int k a) (.int k b) = some (.int k (a.tmod b)) := by simp [binV, intBin, h]
theorem bin_eql {a b : Int} {k : IntKind} {m : EqM} : binV m .eql (.int k a) (.int k b) = some (.bool (a == b)) := by simp [binV, intBin]
theorem bin_neq {a b : Int} {k : IntKind} {m : EqM} : binV m .neq (.int k a) (.int k b) = some (.bool (a != b)) := by simp [binV, intBin]
theorem bin_lss {a b : Int} {k : IntKind} {m : EqM} : binV m .lss (.int k a) (.int k b) = some (.bool (decide (a < b))) := by simp [binV, intBin]
theorem bin_leq {a b : Int} {k : IntKind} {m : EqM} : binV m .leq (.int k a) (.int k b) = some (.bool (decide (a ≤ b))) := by simp [binV, intBin]
theorem bin_gtr {a b : Int} {k : IntKind} {m : EqM} : binV m .gtr (.int k a) (.int k b) = some (.bool (decide (b < a))) := by simp [binV, intBin]
theorem bin_geq {a b : Int} {k : IntKind} {m : EqM} : binV m .geq (.int k a) (.int k b) = some (.bool (decide (b ≤ a))) := by simp [binV, intBin]
theorem bin_eqlb {a b : Bool} : binV .bool .eql (.bool a) (.bool b) = some (.bool (a == b)) := by simp [binV, eqV, isO]
theorem bin_neqb {a b : Bool} : binV .bool .neq (.bool a) (.bool b) = some (.bool (!(a == b))) := by simp [binV, eqV, notO]
theorem bin_eqlp {a : Addr} : binV .ptr .eql (.pointer (some a)) (.pointer none) = some (.bool false) := rfl
theorem bin_eqlp0 {a : Option Addr} : binV .ptr .eql (.pointer none) (.pointer a) = some (.bool a.isNone) := rfl
theorem bin_neqp {a : Addr} : binV .ptr .neq (.pointer (some a)) (.pointer none) = some (.bool true) := rfl
theorem bin_neqp0 {a : Option Addr} : binV .ptr .neq (.pointer none) (.pointer a) = some (.bool !a.isNone) := rfl
theorem bin_eqls {a : Addr} {n m k l : Nat} : binV .slice .eql (.slice (some a) n m) (.slice none k l) = some (.bool false) := rfl
theorem bin_eqls0 {a : Option Addr} {n m k l : Nat} : binV .slice .eql (.slice none n m) (.slice a k l) = some (.bool a.isNone) := rfl
theorem un_not {b : Bool} : unV .not (.bool b) = some (.bool !b) := rfl
theorem un_neg {k : IntKind} {n : Int} : unV .neg (.int k n) = some (.int k (k.wrap (0 - n))) := rfl
theorem len_s {a : Option Addr} {n m : Nat} : lenV (.slice a n m) = some (.int .i64 n) := rfl
theorem cap_s {a : Option Addr} {n m : Nat} : capV (.slice a n m) = some (.int .i64 m) := rfl
theorem ex_t {i : Nat} {vs : Array Value} : exV i (.tuple vs) = vs[i]? := rfl
theorem cv_i {k j : IntKind} {n : Int} : cvV k (.int j n) = some (.int k (k.wrap n)) := rfl
theorem callV_f {P : Program} {f : FuncId} {a b : Array Value} {l : List Value} {k : Value → Heap → Prop} : callV P (.func (.func f) a b) l H k = EvF P f (a.toList ++ l ++ b.toList).toArray H k := rfl
theorem ixS_u {size b o n m : Nat} {k : IntKind} {j : Int} (h : 0 ≤ j ∧ j < (n : Int)) : ixSV size (.slice (some ⟨b, o, none⟩) n m) (.int k j) = some (.pointer (some ⟨b, o + j.toNat * size, none⟩)) := by
  unfold ixSV; simp only [h, and_self, if_true]
theorem ixA_u {size b o n : Nat} {k : IntKind} {j : Int} (h : 0 ≤ j ∧ j < (n : Int)) : ixAV size n (.pointer (some ⟨b, o, none⟩)) (.int k j) = some (.pointer (some ⟨b, o + j.toNat * size, none⟩)) := by
  unfold ixAV; simp only [h, and_self, if_true]
theorem wrap_in {n : Int} (h : -9223372036854775808 ≤ n ∧ n ≤ 9223372036854775807) : IntKind.i64.wrap n = n := IntWalk.i64_in n h
end

end Go.Hc
set_option linter.unusedSimpArgs false
set_option linter.unusedVariables false
namespace Go.Hc
open Go

theorem size_splice (c : Array Value) (o : Nat) (l : List Value) : (splice c o l).size = c.size := by
  induction l generalizing c o with
  | nil => rfl
  | cons v l ih => simp [splice, ih]
theorem getElem?_splice (l : List Value) : ∀ (c : Array Value) (o : Nat), o + l.length ≤ c.size → ∀ i, (splice c o l)[i]? = if o ≤ i ∧ i < o + l.length then l[i - o]? else c[i]? := by
  induction l with
  | nil => intro c o _ i; rw [splice, if_neg (by simp only [List.length_nil]; omega)]
  | cons v l ih =>
    intro c o h i
    simp only [List.length_cons] at h
    rw [splice, ih _ _ (by simp; omega)]
    simp only [Array.getElem?_setIfInBounds]
    by_cases h1 : i = o
    · subst h1
      rw [if_neg (by omega), if_pos rfl, if_pos (by omega), if_pos (by simp only [List.length_cons]; omega)]; simp
    · by_cases h2 : o + 1 ≤ i ∧ i < o + 1 + l.length
      · have : i - o = (i - (o + 1)) + 1 := by omega
        rw [if_pos h2, if_pos (by simp only [List.length_cons]; omega), this, List.getElem?_cons_succ]
      · rw [if_neg h2, if_neg (by omega), if_neg (by simp only [List.length_cons]; omega)]

/-- c is n rows of sz cells: row i is f i. -/
structure Rows (sz : Nat) (c : Array Value) (n : Nat) (f : Nat → Array Value) : Prop where
  size : c.size = n * sz
  row : ∀ i < n, ∀ j < sz, c[i * sz + j]? = (f i)[j]?
  len : ∀ i < n, (f i).size = sz

theorem row_lt {i n sz : Nat} (h : i < n) : i * sz + sz ≤ n * sz := by
  have := Nat.mul_le_mul_right sz (Nat.succ_le_of_lt h)
  rw [Nat.succ_mul] at this; exact this
theorem row_ne {i k sz j : Nat} (h : k ≠ i) (hj : j < sz) : ¬ (i * sz ≤ k * sz + j ∧ k * sz + j < i * sz + sz) := by
  rcases Nat.lt_or_gt_of_ne h with h | h
  · have := row_lt (sz := sz) h; omega
  · have := row_lt (sz := sz) h; omega

namespace Rows
variable {sz n : Nat} {c : Array Value} {f : Nat → Array Value}
theorem cell (h : Rows sz c n f) {i j : Nat} (hi : i < n) (hj : j < sz) : c[i * sz + j]? = (f i)[j]? := h.row i hi j hj
theorem part (h : Rows sz c n f) {i o m : Nat} (hi : i < n) (hm : o + m ≤ sz) : getC c (i * sz + o) m = some ((f i).extract o (o + m)) := by
  have h1 := row_lt (sz := sz) hi
  have h2 := h.size
  have h3 := h.len i hi
  unfold getC
  rw [if_pos (by omega)]
  congr 1
  apply Array.ext_getElem?; intro j
  by_cases hj : j < m
  · have h4 := h.row i hi (o + j) (by omega)
    rw [Array.getElem?_extract, Array.getElem?_extract, if_pos (by omega), if_pos (by omega), ← h4]
    congr 1; omega
  · rw [Array.getElem?_extract, Array.getElem?_extract, if_neg (by omega), if_neg (by omega)]
theorem get (h : Rows sz c n f) {i : Nat} (hi : i < n) : getC c (i * sz) sz = some (f i) := by
  have := h.part (o := 0) (m := sz) hi (by omega)
  have h3 := h.len i hi
  rw [Nat.add_zero] at this
  rw [this]; congr 1
  apply Array.ext_getElem?; intro j
  rw [Array.getElem?_extract]
  by_cases hj : j < sz
  · rw [if_pos (by omega)]; simp
  · rw [if_neg (by omega), Array.getElem?_eq_none (by omega)]
theorem set (h : Rows sz c n f) {i : Nat} {l : List Value} (hi : i < n) (hl : l.length = sz) :
    Rows sz (splice c (i * sz) l) n (fun k => if k = i then l.toArray else f k) := by
  have h1 := row_lt (sz := sz) hi
  have h2 := h.size
  refine ⟨by rw [size_splice, h2], fun k hk j hj => ?_, fun k hk => ?_⟩
  · rw [getElem?_splice _ _ _ (by omega)]
    by_cases hki : k = i
    · subst hki; rw [if_pos (by omega)]; simp
    · have := row_ne (sz := sz) hki hj
      rw [if_neg (by omega)]; simp only [hki, if_false]; exact h.row k hk j hj
  · by_cases hki : k = i
    · simp [hki, hl]
    · simp [hki, h.len k hk]
theorem setC (h : Rows sz c n f) {i o : Nat} {l : List Value} (hi : i < n) (hl : o + l.length ≤ sz) :
    Rows sz (splice c (i * sz + o) l) n (fun k => if k = i then splice (f i) o l else f k) := by
  have h1 := row_lt (sz := sz) hi
  have h2 := h.size
  have h3 := h.len i hi
  refine ⟨by rw [size_splice, h2], fun k hk j hj => ?_, fun k hk => ?_⟩
  · rw [getElem?_splice _ _ _ (by omega)]
    by_cases hki : k = i
    · subst hki
      simp only [if_true]
      rw [getElem?_splice _ _ _ (by omega)]
      by_cases hj' : o ≤ j ∧ j < o + l.length
      · rw [if_pos (by omega), if_pos hj']; congr 1; omega
      · rw [if_neg (by omega), if_neg hj']; exact h.row k hk j hj
    · have := row_ne (sz := sz) hki hj
      rw [if_neg (by omega)]; simp only [hki, if_false]; exact h.row k hk j hj
  · by_cases hki : k = i
    · simp [hki, size_splice, h3]
    · simp [hki, h.len k hk]
theorem congr (h : Rows sz c n f) {g : Nat → Array Value} (hg : ∀ i < n, f i = g i) : Rows sz c n g :=
  ⟨h.size, fun i hi j hj => by rw [← hg i hi]; exact h.row i hi j hj, fun i hi => by rw [← hg i hi]; exact h.len i hi⟩
theorem app {n' : Nat} {c' : Array Value} {f' : Nat → Array Value} (h : Rows sz c n f) (h' : Rows sz c' n' f') : Rows sz (c ++ c') (n + n') (fun i => if i < n then f i else f' (i - n)) := by
  refine ⟨by simp [h.size, h'.size, Nat.add_mul], fun i hi j hj => ?_, fun i hi => ?_⟩
  · by_cases hin : i < n
    · have := row_lt (sz := sz) hin
      rw [Array.getElem?_append_left (by rw [h.size]; omega)]; simp only [hin, if_true]; exact h.row i hin j hj
    · have e : i * sz = n * sz + (i - n) * sz := by rw [← Nat.add_mul]; congr 1; omega
      rw [Array.getElem?_append_right (by rw [h.size]; omega)]; simp only [hin, if_false]
      rw [← h'.row (i - n) (by omega) j hj, h.size]; congr 1; omega
  · by_cases hin : i < n
    · simp [hin, h.len i hin]
    · simp [hin, h'.len (i - n) (by omega)]
theorem take (h : Rows sz c n f) {m : Nat} (hm : m ≤ n) : Rows sz (c.extract 0 (m * sz)) m f := by
  have h1 : m * sz ≤ n * sz := Nat.mul_le_mul_right sz hm
  have h2 := h.size
  refine ⟨by simp; omega, fun i hi j hj => ?_, fun i hi => h.len i (by omega)⟩
  have := row_lt (sz := sz) hi
  rw [Array.getElem?_extract, if_pos (by omega), Nat.zero_add]; exact h.row i (by omega) j hj
theorem zero : ∀ (n : Nat) {z : Array Value} (_ : z.size = sz), Rows sz (repZ z n) n (fun _ => z)
  | 0, _, _ => ⟨by simp [repZ], fun i hi => by omega, fun i hi => by omega⟩
  | n + 1, z, hz => by
    have e : repZ z (n + 1) = z ++ repZ z n := by simp [repZ, List.replicate_succ]
    have h1 : Rows sz z 1 (fun _ => z) := by
      refine ⟨by omega, fun i hi j hj => ?_, fun _ _ => hz⟩
      have h0 : i = 0 := by omega
      subst h0; simp
    have := h1.app (Rows.zero n hz)
    rw [e, Nat.add_comm n 1]
    exact this.congr fun i _ => by simp
/-- a splice of whole rows -/
theorem setN (h : Rows sz c n f) {i m : Nat} {l : List Value} {g : Nat → Array Value} (hi : i + m ≤ n) (hl : Rows sz l.toArray m g) :
    Rows sz (splice c (i * sz) l) n (fun k => if i ≤ k ∧ k < i + m then g (k - i) else f k) := by
  have h2 := h.size
  have h3 : l.length = m * sz := by have := hl.size; simpa using this
  have h4 : (i + m) * sz ≤ n * sz := Nat.mul_le_mul_right sz hi
  rw [Nat.add_mul] at h4
  refine ⟨by rw [size_splice, h2], fun k hk j hj => ?_, fun k hk => ?_⟩
  · rw [getElem?_splice _ _ _ (by omega)]
    by_cases hki : i ≤ k ∧ k < i + m
    · have h5 := row_lt (sz := sz) hki.2
      rw [Nat.add_mul] at h5
      have h6 : i * sz ≤ k * sz := Nat.mul_le_mul_right sz hki.1
      have h7 : (k - i) * sz = k * sz - i * sz := Nat.sub_mul k i sz
      simp only [hki, and_self, if_true]
      rw [if_pos (by omega), ← hl.row (k - i) (by omega) j hj]
      simp only [List.getElem?_toArray]
      congr 1; omega
    · simp only [hki, if_false]
      rw [if_neg ?_]; exact h.row k hk j hj
      rcases Nat.lt_or_ge k i with h5 | h5
      · have := row_lt (sz := sz) h5; omega
      · have h6 : i + m ≤ k := by omega
        have h7 : (i + m) * sz ≤ k * sz := Nat.mul_le_mul_right sz h6
        rw [Nat.add_mul] at h7; omega
  · by_cases hki : i ≤ k ∧ k < i + m
    · simp only [hki, and_self, if_true]; exact hl.len _ (by omega)
    · simp only [hki, if_false]; exact h.len k hk
end Rows
end Go.Hc
set_option linter.unusedSimpArgs false
set_option linter.unusedVariables false
namespace Go.Hc
open Go

theorem Ext.thru {S T : List Nat} {H H' H'' : Heap} (h : Ext S H H') (k : Ext T H' H'') (ht : ∀ b ∈ T, b ∈ S ∨ H.size ≤ b) : Ext S H H'' :=
  ⟨Nat.le_trans h.size k.size, fun b hb hs => (k.same b (Nat.lt_of_lt_of_le hb h.size) (fun hm => (ht b hm).elim hs (fun hl => by omega))).trans (h.same b hb hs), k.rest.1.trans h.rest.1, k.rest.2.1.trans h.rest.2.1, k.rest.2.2.trans h.rest.2.2⟩
section
variable {H : Heap}
theorem wrA_b {b o : Nat} {l : List Value} : wrA H b o l = (own H b).bind fun c => if o + l.length ≤ c.size ∧ l.all isCell = true then some (setB H b (splice c o l)) else none := by
  unfold wrA; cases own H b <;> rfl
theorem own_setB_m {b : Nat} {c : Array Value} : own (setB H b c) b = (own H b).map fun _ => c := by
  cases h : own H b with
  | some c0 => rw [own_setB_same h]; rfl
  | none =>
    unfold own setB at *; rw [Array.getElem?_modify]; simp only [if_true, Option.map_none]
    cases h1 : H.arr[b]? with
    | none => rfl
    | some o =>
      rw [h1] at h
      cases o <;> simp_all
theorem blk_setB_m {b : Nat} {c : Array Value} : blk (setB H b c) b = (blk H b).map fun _ => c := by
  cases h : blk H b with
  | some c0 => rw [blk_setB_same h]; rfl
  | none =>
    unfold blk setB at *; rw [Array.getElem?_modify]; simp only [if_true, Option.map_none]
    cases h1 : H.arr[b]? with
    | none => rfl
    | some o =>
      rw [h1] at h
      cases o <;> simp_all
theorem getC_all {c : Array Value} {n : Nat} (h : c.size = n) : getC c 0 n = some c := by
  subst h; simp [getC]
theorem splice_all {c : Array Value} {l : List Value} (h : l.length = c.size) : splice c 0 l = l.toArray := by
  apply Array.ext_getElem?; intro i
  rw [getElem?_splice _ _ _ (by omega)]
  by_cases hi : i < l.length
  · rw [if_pos (by omega)]; simp
  · rw [if_neg (by omega), Array.getElem?_eq_none (by omega), Array.getElem?_eq_none (by simpa using hi)]
end

/-! ### lists in slices -/
/-- how an element lies: sz cells each -/
structure Enc (A : Type) where
  sz : Nat
  z : Array Value
  c : A → Array Value
  len : ∀ a, (c a).size = sz
  zlen : z.size = sz
  cell : ∀ a, (c a).all isCell = true
  zcell : z.all isCell = true

variable {A : Type}

/-- the slice v shows the list l -/
def ShowL (E : Enc A) (H : Heap) (v : Value) (l : List A) : Prop :=
  ∃ base cap, v = .slice base l.length cap ∧ l.length < 2 ^ 63 ∧ ∃ cs, rdS H E.sz l.length base = some cs ∧ Rows E.sz cs l.length (fun i => ((l[i]?).map E.c).getD #[])
/-- the slice v, whose block is ours, shows the list l -/
inductive OwnL (E : Enc A) (H : Heap) : Value → List Nat → List A → Prop
  | nil : OwnL E H (.slice none 0 0) [] []
  | mk {b cap : Nat} {c : Array Value} {f : Nat → Array Value} {l : List A} (ho : own H b = some c) (hr : Rows E.sz c cap f) (hc : l.length ≤ cap) (hl : ∀ i (h : i < l.length), f i = E.c l[i]) (hm : l.length < 2 ^ 63) : OwnL E H (.slice (some ⟨b, 0, none⟩) l.length cap) [b] l

theorem rdS_ext {E : Enc A} {S : List Nat} {H H' : Heap} {n : Nat} {b : Option Addr} {cs : Array Value} (h : rdS H E.sz n b = some cs) (he : Ext S H H') (hs : ∀ a, b = some a → a.block ∉ S) : rdS H' E.sz n b = some cs := by
  cases b with
  | none => exact h
  | some a =>
    obtain ⟨b, o, s⟩ := a
    cases s with
    | some _ => simp [rdS] at h
    | none =>
      simp only [rdS, rdA] at h ⊢
      cases hb : blk H b with
      | none => simp [hb] at h
      | some c => rw [he.blk hb (hs _ rfl)]; rw [hb] at h; exact h

theorem OwnL.show {E : Enc A} {H : Heap} {v : Value} {S : List Nat} {l : List A} (h : OwnL E H v S l) : ShowL E H v l := by
  cases h with
  | nil => exact ⟨none, 0, rfl, by simp, #[], rfl, ⟨by simp, fun i hi => by simp at hi, fun i hi => by simp at hi⟩⟩
  | mk ho hr hc hl hm =>
    refine ⟨_, _, rfl, hm, ?_⟩
    have hs := hr.size
    have h1 := Nat.mul_le_mul_right E.sz hc
    refine ⟨_, by simp only [rdS, rdA, own_blk ho, getC, Nat.zero_add]; rw [if_pos (by omega)], ?_⟩
    exact (hr.take hc).congr fun i hi => by simp [hl i hi, hi]
theorem OwnL.ext {E : Enc A} {H H' : Heap} {v : Value} {S T : List Nat} {l : List A} (h : OwnL E H v S l) (he : Ext T H H') (hs : ∀ b ∈ S, b ∉ T) : OwnL E H' v S l := by
  cases h with
  | nil => exact .nil
  | mk ho hr hc hl hm => exact .mk (he.own ho (hs _ (by simp))) hr hc hl hm
theorem OwnL.lt {E : Enc A} {H : Heap} {v : Value} {S : List Nat} {l : List A} (h : OwnL E H v S l) : ∀ b ∈ S, b < H.size := by
  cases h with
  | nil => simp
  | mk ho => simp; exact own_lt ho
theorem OwnL.len {E : Enc A} {H : Heap} {v : Value} {S : List Nat} {l : List A} (h : OwnL E H v S l) : lenV v = some (.int .i64 l.length) := by cases h <;> rfl
theorem ShowL.len {E : Enc A} {H : Heap} {v : Value} {l : List A} (h : ShowL E H v l) : lenV v = some (.int .i64 l.length) := by
  obtain ⟨_, _, rfl, _⟩ := h; rfl
theorem ShowL.small {E : Enc A} {H : Heap} {v : Value} {l : List A} (h : ShowL E H v l) : (l.length : Int) ≤ 9223372036854775807 := by
  obtain ⟨_, _, _, h, _⟩ := h; omega
/-- the i-th element's address, and what lies there -/
theorem ShowL.at {E : Enc A} {H : Heap} {v : Value} {l : List A} (h : ShowL E H v l) {i : Nat} (hi : i < l.length) (h0 : 0 < E.sz) :
    ∃ b o c, (∀ j : Int, j = i → ∀ k, ixSV E.sz v (.int k j) = some (.pointer (some ⟨b, o, none⟩))) ∧ blk H b = some c ∧
      (∀ j < E.sz, c[o + j]? = (E.c l[i])[j]?) ∧ (∀ p m, p + m ≤ E.sz → getC c (o + p) m = some ((E.c l[i]).extract p (p + m))) := by
  obtain ⟨base, cap, rfl, hm, cs, hcs, hr⟩ := h
  cases base with
  | none =>
    simp only [rdS, Option.some.injEq] at hcs; subst hcs
    have := hr.size; have h2 := row_lt (sz := E.sz) hi
    have h3 : 0 = l.length * E.sz := this
    omega
  | some a =>
    obtain ⟨b, o, s⟩ := a
    cases s with
    | some _ => simp [rdS] at hcs
    | none =>
      simp only [rdS, rdA] at hcs
      cases hb : blk H b with
      | none => simp [hb] at hcs
      | some c =>
        rw [hb] at hcs
        simp only [getC] at hcs
        split at hcs
        case isFalse => simp at hcs
        case isTrue hle =>
        simp only [Option.some.injEq] at hcs; subst hcs
        have h2 := row_lt (sz := E.sz) hi
        have hcell : ∀ j < E.sz, c[o + i * E.sz + j]? = (E.c l[i])[j]? := fun j hj => by
          have := hr.row i hi j hj
          rw [Array.getElem?_extract, if_pos (by omega)] at this
          simp only [List.getElem?_eq_getElem hi, Option.map_some, Option.getD_some] at this
          rw [← this]; congr 1; omega
        refine ⟨b, o + i * E.sz, c, fun j hj k => ?_, hb, hcell, fun p m hpm => ?_⟩
        · subst hj; rw [ixS_u (by omega)]; simp
        · unfold getC; rw [if_pos (by omega)]; congr 1
          apply Array.ext_getElem?; intro j
          rw [Array.getElem?_extract, Array.getElem?_extract, E.len]
          by_cases hj : j < m
          · rw [if_pos (by omega), if_pos (by omega), ← hcell (p + j) (by omega)]; congr 1; omega
          · rw [if_neg (by omega), if_neg (by omega)]

theorem ShowL.ext {E : Enc A} {S : List Nat} {H H' : Heap} {v : Value} {l : List A} (h : ShowL E H v l) (he : Ext S H H') (hs : ∀ b n m o s, v = .slice (some ⟨b, o, s⟩) n m → b ∉ S) : ShowL E H' v l := by
  obtain ⟨base, cap, rfl, hm, cs, hcs, hr⟩ := h
  exact ⟨base, cap, rfl, hm, cs, rdS_ext hcs he (fun a ha => by obtain ⟨b, o, s⟩ := a; subst ha; exact hs _ _ _ _ _ rfl), hr⟩

/-- a literal of a slice -/
theorem bslE_1 {E : Enc A} {H : Heap} {t : TypeId} {v : Value} {a : A} {k : Value → Heap → Prop} (hv : v.cells = E.c a)
    (hk : ∀ H', H'.size = H.size + 1 → Ext [] H H' → OwnL E H' (.slice (some ⟨H.size, 0, none⟩) 1 1) [H.size] [a] → k (.slice (some ⟨H.size, 0, none⟩) 1 1) H')
    (hsz : E.sz ≤ 2 ^ 20) : bslE t E.z E.sz 1 [(0, v)] H k := by
  have hl := E.len a
  have hz := E.zlen
  refine ⟨by omega, ?_⟩
  have e : fillA (every E.sz) (repZ E.z 1) [(0, v)] = some (E.c a) := by
    have e1 : repZ E.z 1 = E.z := by simp [repZ]
    simp only [fillA, every, Nat.zero_mul, Nat.zero_add, hv, e1]
    rw [if_pos (by omega), splice_all (by simp; omega)]
  rw [e, bnd_some]
  refine hk _ (size_newB _ _ _) ((Ext.refl _ _).newB _ _) ?_
  refine .mk (l := [a]) (f := fun _ => E.c a) own_newB_self ⟨by omega, fun i hi j hj => ?_, fun i _ => hl⟩ (by simp) (fun i hi => ?_) (by simp)
  · have : i = 0 := by omega
    subst this; simp
  · simp
/-- append of a list -/
theorem appE_l {E : Enc A} {H : Heap} {t : TypeId} {bytes : Nat} {v w : Value} {S : List Nat} {l m : List A} {k : Value → Heap → Prop}
    (hv : OwnL E H v S l) (hw : ShowL E H w m) (hb : (2 * (l.length + m.length) + 200) * bytes ≤ 2 ^ 48) (hb0 : bytes ≠ 0) (hsm : l.length + m.length < 2 ^ 62)
    (hk : ∀ v' S' H', Ext S H H' → (∀ b ∈ S', b ∈ S ∨ H.size ≤ b) → OwnL E H' v' S' (l ++ m) → k v' H') :
    appE t E.z E.sz bytes v w H k := by
  obtain ⟨wb, wc, rfl, hwm, new, hnew, hnr⟩ := hw
  have hnr' : Rows E.sz new m.length fun i => ((m[i]?).map E.c).getD #[] := hnr
  have grow : ∀ (base : Option Addr) (cap : Nat) (old : Array Value), v = .slice base l.length cap → rdS H E.sz l.length base = some old → Rows E.sz old l.length (fun i => ((l[i]?).map E.c).getD #[]) →
      bnd (rdS H E.sz l.length base) fun old => ((2 * (l.length + m.length) + 200) * bytes ≤ 2 ^ 48 ∧ bytes ≠ 0) ∧
      ∀ c, l.length + m.length ≤ c → c < 2 ^ 63 → k (.slice (some ⟨H.size, 0, none⟩) (l.length + m.length) c) (newB H t (old ++ new ++ repZ E.z (c - (l.length + m.length)))) := by
    intro base cap old _ hold hor
    rw [hold, bnd_some]
    refine ⟨⟨hb, hb0⟩, fun c hc hc' => ?_⟩
    have hr := (hor.app hnr').app (Rows.zero (sz := E.sz) (c - (l.length + m.length)) E.zlen)
    have := OwnL.mk (E := E) (H := newB H t (old ++ new ++ repZ E.z (c - (l.length + m.length)))) (b := H.size) (cap := c) (l := l ++ m) own_newB_self (by
      rw [show l.length + m.length + (c - (l.length + m.length)) = c from by omega] at hr; exact hr) (by simpa using hc) (fun i hi => by
        simp only [List.length_append] at hi
        simp only [hi, if_true]
        by_cases h : i < l.length
        · simp [h]
        · have h2 : i - l.length < m.length := by omega
          simp [h, List.getElem_append_right (Nat.le_of_not_lt h), h2]) (by simp; omega)
    simp only [List.length_append] at this
    exact hk _ _ _ ((Ext.refl _ _).newB _ _) (by simp) this
  unfold appE
  cases hv with
  | nil =>
    simp only [List.length_nil, Nat.zero_add] at *
    rw [hnew, bnd_some]
    by_cases hm0 : m.length ≤ 0
    · have hm1 : m = [] := by cases m <;> simp_all
      subst hm1
      have hn0 : new = #[] := by have := hnr.size; simp at this; exact this
      subst hn0
      simp only [List.length_nil, Nat.le_refl, if_true, wrS, bnd_some, Array.toList_empty]
      exact hk _ [] _ (Ext.refl _ _) (by simp) OwnL.nil
    · rw [if_neg (by omega)]
      exact grow none 0 #[] rfl rfl ⟨by simp, fun i hi => by simp at hi, fun i hi => by simp at hi⟩
  | @mk b cap c f l ho hr hc hl hm =>
    dsimp only
    rw [hnew, bnd_some]
    have hs := hr.size
    have h1 := Nat.mul_le_mul_right E.sz hc
    by_cases hroom : l.length + m.length ≤ cap
    · rw [if_pos hroom]
      have hns := hnr'.size
      have h2 := Nat.mul_le_mul_right E.sz hroom
      rw [Nat.add_mul] at h2
      have hcell : new.toList.all isCell = true := by
        rw [List.all_eq_true]; intro x hx
        obtain ⟨i, hi, rfl⟩ := List.getElem_of_mem hx
        have hi' : i < new.size := by simpa using hi
        have hsz0 : 0 < E.sz := by rcases Nat.eq_zero_or_pos E.sz with h | h
                                   · rw [h] at hns; omega
                                   · exact h
        have hq : i / E.sz < m.length := Nat.div_lt_of_lt_mul (by rw [Nat.mul_comm]; omega)
        have hrow := hnr'.row (i / E.sz) hq (i % E.sz) (Nat.mod_lt _ hsz0)
        rw [Nat.mul_comm, Nat.div_add_mod] at hrow
        simp only [List.getElem?_eq_getElem hq, Option.map_some, Option.getD_some, Array.getElem?_eq_getElem hi'] at hrow
        have hc := E.cell m[i / E.sz]
        rw [Array.all_eq_true'] at hc
        have := hc _ (Array.mem_of_getElem? hrow.symm)
        simpa using this
      simp only [wrS, wrA_b, Nat.zero_add, ho, Option.bind_some]
      rw [if_pos ⟨by simp; omega, hcell⟩, bnd_some]
      have hsn := hr.setN (l := new.toList) (m := m.length) (i := l.length) hroom (by simpa using hnr')
      have := OwnL.mk (E := E) (H := setB H b (splice c (l.length * E.sz) new.toList)) (b := b) (l := l ++ m) (own_setB_same ho) hsn (by simpa using hroom) (fun i hi => by
        simp only [List.length_append] at hi
        by_cases h : i < l.length
        · rw [if_neg (by omega), hl i h]; simp [h]
        · have h2 : i - l.length < m.length := by omega
          rw [if_pos (by omega)]
          simp [List.getElem_append_right (Nat.le_of_not_lt h), h2]) (by simp; omega)
      simp only [List.length_append] at this
      exact hk _ _ _ ((Ext.refl _ _).setB _ _ (Or.inl (by simp))) (by simp) this
    · rw [if_neg hroom]
      refine grow _ cap (c.extract 0 (l.length * E.sz)) rfl ?_ ((hr.take hc).congr fun i hi => by simp [hl i hi, hi])
      simp only [rdS, rdA, own_blk ho, getC, Nat.zero_add]; rw [if_pos (by omega)]
end Go.Hc
set_option linter.unusedSimpArgs false
set_option linter.unusedVariables false
namespace Go.Hc
open Go

/-- What holds of some blocks, whatever the others have. -/
structure Asr where
  holds : Heap → List Nat → Prop
  stable : ∀ {H H' : Heap} {T : List Nat}, holds H T → (∀ x ∈ T, H'.arr[x]? = H.arr[x]?) → holds H' T
  lt : ∀ {H : Heap} {T : List Nat}, holds H T → ∀ x ∈ T, x < H.size
def SepL (H : Heap) : List Asr → List Nat → Prop
  | [], U => U = []
  | Q :: Qs, U => ∃ T V, U = T ++ V ∧ Q.holds H T ∧ SepL H Qs V ∧ ∀ x ∈ T, x ∉ V
/-- Since the heap H0, things have come, which lie apart; what was there stands. -/
def Sep (H0 H : Heap) (Qs : List Asr) : Prop := Ext [] H0 H ∧ ∃ U, SepL H Qs U ∧ ∀ x ∈ U, H0.size ≤ x

theorem SepL.stable {H H' : Heap} : ∀ {Qs : List Asr} {U : List Nat}, SepL H Qs U → (∀ x ∈ U, H'.arr[x]? = H.arr[x]?) → SepL H' Qs U
  | [], _, h, _ => h
  | Q :: Qs, _, ⟨T, V, rfl, hq, hs, hd⟩, hx => ⟨T, V, rfl, Q.stable hq fun x hm => hx x (by simp [hm]), SepL.stable hs fun x hm => hx x (by simp [hm]), hd⟩
theorem SepL.lt {H : Heap} : ∀ {Qs : List Asr} {U : List Nat}, SepL H Qs U → ∀ x ∈ U, x < H.size
  | [], _, h, x, hx => by cases h; simp at hx
  | Q :: Qs, _, ⟨T, V, rfl, hq, hs, hd⟩, x, hx => by
    rcases List.mem_append.1 hx with h | h
    · exact Q.lt hq x h
    · exact SepL.lt hs x h
theorem SepL.pick {H : Heap} : ∀ {Qs : List Asr} {U : List Nat} (i : Nat) (_ : SepL H Qs U) (hi : i < Qs.length), ∃ U', SepL H (Qs[i] :: Qs.eraseIdx i) U' ∧ ∀ x, x ∈ U' ↔ x ∈ U
  | Q :: Qs, U, 0, h, _ => ⟨U, h, fun _ => Iff.rfl⟩
  | Q :: Qs, _, i + 1, ⟨T, V, rfl, hq, hs, hd⟩, hi => by
    obtain ⟨U', ⟨T2, V2, rfl, hq2, hs2, hd2⟩, hu⟩ := SepL.pick i hs (by simpa using hi)
    refine ⟨T2 ++ (T ++ V2), ⟨T2, T ++ V2, rfl, hq2, ⟨T, V2, rfl, hq, hs2, fun x hx hv => hd x hx ((hu x).1 (by simp [hv]))⟩, fun x hx hv => ?_⟩, fun x => ?_⟩
    · rcases List.mem_append.1 hv with h | h
      · exact hd x h ((hu x).1 (by simp [hx]))
      · exact hd2 x hx h
    · have := hu x
      simp only [List.mem_append] at this ⊢
      constructor
      · rintro (h | h | h)
        · exact Or.inr (this.1 (Or.inl h))
        · exact Or.inl h
        · exact Or.inr (this.1 (Or.inr h))
      · rintro (h | h)
        · exact Or.inr (Or.inl h)
        · rcases this.2 h with h | h
          · exact Or.inl h
          · exact Or.inr (Or.inr h)

theorem Sep.nil (H : Heap) : Sep H H [] := ⟨Ext.refl _ _, [], rfl, by simp⟩
theorem Sep.ext {H0 H H' : Heap} {Qs : List Asr} (h : Sep H0 H Qs) (he : Ext [] H H') : Sep H0 H' Qs := by
  obtain ⟨e, U, hs, hu⟩ := h
  exact ⟨e.trans he, U, hs.stable fun x hx => he.same x (hs.lt x hx) (by simp), hu⟩
theorem Sep.new {H0 H H' : Heap} {Qs : List Asr} {Q : Asr} {T : List Nat} (h : Sep H0 H Qs) (he : Ext [] H H') (hq : Q.holds H' T) (ht : ∀ x ∈ T, H.size ≤ x) : Sep H0 H' (Q :: Qs) := by
  obtain ⟨e, U, hs, hu⟩ := h
  refine ⟨e.trans he, T ++ U, ⟨T, U, rfl, hq, hs.stable fun x hx => he.same x (hs.lt x hx) (by simp), fun x hx hv => ?_⟩, fun x hx => ?_⟩
  · have := ht x hx; have := hs.lt x hv; omega
  · have := e.size
    rcases List.mem_append.1 hx with h | h
    · have := ht x h; omega
    · exact hu x h
theorem Sep.get {H0 H : Heap} {Qs : List Asr} {Q : Asr} (h : Sep H0 H (Q :: Qs)) :
    ∃ T, Q.holds H T ∧ ∀ (Q' : Asr) (H' : Heap) (T' : List Nat), Ext T H H' → Q'.holds H' T' → (∀ x ∈ T', x ∈ T ∨ H.size ≤ x) → Sep H0 H' (Q' :: Qs) := by
  obtain ⟨e, U, ⟨T, V, rfl, hq, hs, hd⟩, hu⟩ := h
  refine ⟨T, hq, fun Q' H' T' he hq' ht => ⟨e.thru he fun x hx => Or.inr (hu x (by simp [hx])), T' ++ V, ⟨T', V, rfl, hq', hs.stable fun x hx => he.same x (hs.lt x hx) fun hm => hd x hm hx, fun x hx hv => ?_⟩, fun x hx => ?_⟩⟩
  · rcases ht x hx with h | h
    · exact hd x h hv
    · have := hs.lt x hv; omega
  · have := e.size
    rcases List.mem_append.1 hx with h | h
    · rcases ht x h with h | h
      · exact hu x (by simp [h])
      · omega
    · exact hu x (by simp [h])
theorem Sep.drop {H0 H : Heap} {Qs : List Asr} {Q : Asr} (h : Sep H0 H (Q :: Qs)) : Sep H0 H Qs := by
  obtain ⟨e, U, ⟨T, V, rfl, hq, hs, hd⟩, hu⟩ := h
  exact ⟨e, V, hs, fun x hx => hu x (by simp [hx])⟩
theorem Sep.pick {H0 H : Heap} {Qs : List Asr} (i : Nat) (h : Sep H0 H Qs) (hi : i < Qs.length) : Sep H0 H (Qs[i] :: Qs.eraseIdx i) := by
  obtain ⟨e, U, hs, hu⟩ := h
  obtain ⟨U', h1, h2⟩ := hs.pick i hi
  exact ⟨e, U', h1, fun x hx => hu x ((h2 x).1 hx)⟩
theorem Sep.b1 {H0 H : Heap} {A B : Asr} {Qs : List Asr} (h : Sep H0 H (A :: B :: Qs)) : Sep H0 H (B :: A :: Qs) := h.pick 1 (by simp)
theorem Sep.b2 {H0 H : Heap} {A B C : Asr} {Qs : List Asr} (h : Sep H0 H (A :: B :: C :: Qs)) : Sep H0 H (C :: A :: B :: Qs) := h.pick 2 (by simp)
theorem Sep.b3 {H0 H : Heap} {A B C D : Asr} {Qs : List Asr} (h : Sep H0 H (A :: B :: C :: D :: Qs)) : Sep H0 H (D :: A :: B :: C :: Qs) := h.pick 3 (by simp)
theorem Sep.b4 {H0 H : Heap} {A B C D E : Asr} {Qs : List Asr} (h : Sep H0 H (A :: B :: C :: D :: E :: Qs)) : Sep H0 H (E :: A :: B :: C :: D :: Qs) := h.pick 4 (by simp)
theorem ld_ext {H H' : Heap} {agg : Bool} {n b o : Nat} {v : Value} (he : Ext [] H H') (h : ldE agg n (.pointer (some ⟨b, o, none⟩)) H = some v) : ldE agg n (.pointer (some ⟨b, o, none⟩)) H' = some v := by
  cases hb : blk H b with
  | none => cases agg
            · rw [ldE_f, hb] at h; simp at h
            · rw [ldE_t, rdA_u, hb] at h; simp at h
  | some c => cases agg
              · rw [ldE_f, hb] at h; rw [ldE_f, he.blk hb (by simp)]; exact h
              · rw [ldE_t, rdA_u, hb] at h; rw [ldE_t, rdA_u, he.blk hb (by simp)]; exact h
theorem Sep.only {H0 H : Heap} {Qs : List Asr} (h : Sep H0 H Qs) : Ext [] H0 H := h.1
theorem own_same {H H' : Heap} {b : Nat} {c : Array Value} (h : own H b = some c) (e : H'.arr[b]? = H.arr[b]?) : own H' b = some c := by unfold own at *; rw [e]; exact h
theorem blk_same {H H' : Heap} {b : Nat} {c : Array Value} (h : blk H b = some c) (e : H'.arr[b]? = H.arr[b]?) : blk H' b = some c := by unfold blk at *; rw [e]; exact h

/-- one block of ours -/
def cellsA (x : Nat) (c : Array Value) : Asr where
  holds H T := T = [x] ∧ own H x = some c
  stable := fun ⟨a, b⟩ h => by subst a; exact ⟨rfl, own_same b (h x (by simp))⟩
  lt := fun ⟨a, b⟩ y hy => by subst a; simp at hy; subst hy; exact own_lt b
/-- a list of ours -/
def lstA {A : Type} (E : Enc A) (v : Value) (l : List A) : Asr where
  holds H T := OwnL E H v T l
  stable := fun {H H' T} a h => by
    cases a with
    | nil => exact .nil
    | mk ho hr hc hl hm => exact .mk (own_same ho (h _ (by simp))) hr hc hl hm
  lt := fun a => a.lt
theorem Sep.cells {H0 H : Heap} {Qs : List Asr} {x : Nat} {c : Array Value} (h : Sep H0 H (cellsA x c :: Qs)) : own H x = some c := by
  obtain ⟨T, ⟨_, h⟩, _⟩ := h.get; exact h
theorem Sep.list {A : Type} {E : Enc A} {H0 H : Heap} {Qs : List Asr} {v : Value} {l : List A} (h : Sep H0 H (lstA E v l :: Qs)) : ∃ T, OwnL E H v T l := by
  obtain ⟨T, h, _⟩ := h.get; exact ⟨T, h⟩
/-- a cell block is written -/
theorem Sep.set {H0 H : Heap} {Qs : List Asr} {x : Nat} {c c' : Array Value} (h : Sep H0 H (cellsA x c :: Qs)) : Sep H0 (setB H x c') (cellsA x c' :: Qs) := by
  obtain ⟨T, ⟨rfl, ho⟩, hk⟩ := h.get
  exact hk _ _ _ ((Ext.refl _ _).setB _ _ (Or.inl (by simp))) ⟨rfl, own_setB_same ho⟩ fun y hy => Or.inl hy
theorem Sep.newC {H0 H : Heap} {Qs : List Asr} {t : TypeId} {c : Array Value} (h : Sep H0 H Qs) : Sep H0 (newB H t c) (cellsA H.size c :: Qs) :=
  h.new ((Ext.refl _ _).newB _ _) (T := [H.size]) ⟨rfl, own_newB_self⟩ (by simp)

/-- an argument: the slice v shows the list l -/
def ShowA {A : Type} (E : Enc A) (H : Heap) (v : Value) (l : List A) : Prop := (∃ base cap, v = .slice base l.length cap ∧ l.length < 2 ^ 63) ∧ (l = [] ∨ ShowL E H v l)
section
variable {A : Type} {E : Enc A} {H H' : Heap} {v : Value} {l : List A}
theorem ShowA.len (h : ShowA E H v l) : lenV v = some (.int .i64 l.length) := by
  obtain ⟨⟨_, _, rfl, _⟩, _⟩ := h; rfl
theorem ShowA.small (h : ShowA E H v l) : (l.length : Int) ≤ 9223372036854775807 := by
  obtain ⟨⟨_, _, _, h⟩, _⟩ := h; omega
theorem ShowA.ext (h : ShowA E H v l) (he : Ext [] H H') : ShowA E H' v l := ⟨h.1, h.2.imp id fun h => h.ext he (by simp)⟩
theorem ShowL.ix (h : ShowL E H v l) (h0 : 0 < E.sz) {i : Nat} (hi : i < l.length) {j : Int} (hj : j = i) :
    ∃ b o c, ixSV E.sz v (.int .i64 j) = some (.pointer (some ⟨b, o, none⟩)) ∧ blk H b = some c ∧ (∀ j < E.sz, c[o + j]? = (E.c l[i])[j]?) ∧ ldE true E.sz (.pointer (some ⟨b, o, none⟩)) H = some (.agg (E.c l[i])) := by
  obtain ⟨b, o, c, h1, h2, h3, h4⟩ := h.at hi h0
  refine ⟨b, o, c, h1 j hj _, h2, h3, ?_⟩
  have := h4 0 E.sz (by omega)
  have hl := E.len l[i]
  rw [Nat.add_zero] at this
  rw [ldE_t, rdA_u, h2, Option.bind_some, this, Option.map_some]
  congr 2
  apply Array.ext_getElem?; intro k
  rw [Array.getElem?_extract]
  by_cases hk : k < E.sz
  · rw [if_pos (by omega)]; simp
  · rw [if_neg (by omega), Array.getElem?_eq_none (by omega)]
theorem ShowA.ix (h : ShowA E H v l) (h0 : 0 < E.sz) {i : Nat} (hi : i < l.length) {j : Int} (hj : j = i) :
    ∃ b o c, ixSV E.sz v (.int .i64 j) = some (.pointer (some ⟨b, o, none⟩)) ∧ blk H b = some c ∧ (∀ j < E.sz, c[o + j]? = (E.c l[i])[j]?) ∧ ldE true E.sz (.pointer (some ⟨b, o, none⟩)) H = some (.agg (E.c l[i])) := by
  rcases h.2 with h2 | h2
  · subst h2; simp at hi
  · exact h2.ix h0 hi hj
/-- cells that are told one by one make a slice's list -/
theorem ShowA.of_cells {w : World} {a : Option Addr} {len cap : Nat} (hl : l.length = len) (hm : len < 2 ^ 63) (h0 : 0 < E.sz)
    (hc : l ≠ [] → ∃ x, a = some x ∧ ∀ i (hi : i < l.length), ∀ j < E.sz, w.cell? (x.add (i * E.sz + j)) = (E.c l[i])[j]?) : ShowA E w.hp (.slice a len cap) l := by
  subst hl
  refine ⟨⟨a, cap, rfl, hm⟩, ?_⟩
  by_cases hn : l = []
  · exact Or.inl hn
  · obtain ⟨⟨b, o, s⟩, rfl, hx⟩ := hc hn
    have hpos : 0 < l.length := List.length_pos_iff.2 hn
    have hsome : ∀ i (hi : i < l.length), ∀ j < E.sz, ∃ v, (E.c l[i])[j]? = some v := fun i hi j hj => ⟨_, Array.getElem?_eq_getElem (by rw [E.len]; exact hj)⟩
    have hadd : ∀ k, (⟨b, o, none⟩ : Addr).add k = ⟨b, o + k, none⟩ := fun k => by
      unfold Addr.add; split
      · rename_i h; subst h; rfl
      · rfl
    have hb : s = none ∧ ∃ c, blk w.hp b = some c ∧ ∀ k v, w.cell? ⟨b, k, none⟩ = some v → c[k]? = some v := by
      obtain ⟨v, hv⟩ := hsome 0 hpos 0 h0
      have h1 := hx 0 hpos 0 h0
      rw [hv, Nat.zero_mul, Nat.add_zero] at h1
      have h2 : (⟨b, o, s⟩ : Addr).add 0 = ⟨b, o, s⟩ := by unfold Addr.add; simp
      rw [h2] at h1
      simp only [World.cell?] at h1
      split at h1
      · rename_i c e f hb
        cases s with
        | some _ => simp at h1
        | none =>
          refine ⟨rfl, c, by unfold blk; rw [hp_arr, hb], fun k v hk => ?_⟩
          simp only [World.cell?] at hk
          rw [hb] at hk
          simpa using hk
      · simp at h1
    obtain ⟨rfl, c, hb, hcell⟩ := hb
    have hc2 : ∀ i (hi : i < l.length), ∀ j < E.sz, c[o + (i * E.sz + j)]? = (E.c l[i])[j]? := fun i hi j hj => by
      obtain ⟨v, hv⟩ := hsome i hi j hj
      rw [hv]; exact hcell _ _ (by have := hx i hi j hj; rw [hv, hadd] at this; exact this)
    have hlast : o + l.length * E.sz ≤ c.size := by
      have h1 := hc2 (l.length - 1) (by omega) (E.sz - 1) (by omega)
      obtain ⟨v, hv⟩ := hsome (l.length - 1) (by omega) (E.sz - 1) (by omega)
      rw [hv] at h1
      have h2 := (Array.getElem?_eq_some_iff.1 h1).1
      have h3 : (l.length - 1) * E.sz + E.sz = l.length * E.sz := by
        rw [← Nat.succ_mul]; congr 1; omega
      omega
    refine Or.inr ⟨_, cap, rfl, hm, _, by simp only [rdS, rdA, hb, getC]; rw [if_pos hlast], ⟨by simp; omega, fun i hi j hj => ?_, fun i hi => by simp [hi, E.len]⟩⟩
    have h2 := row_lt (sz := E.sz) hi
    rw [Array.getElem?_extract, if_pos (by omega)]
    simp only [List.getElem?_eq_getElem hi, Option.map_some, Option.getD_some]
    exact hc2 i hi j hj
theorem Ext.below {w w' : World} (h : Ext [] w.hp w'.hp) : RowKit.Below w.heap.size w w' :=
  ⟨h.rest.2.1, h.rest.1, h.rest.2.2, h.size, fun k hk => h.same k hk (by simp)⟩
end
end Go.Hc
set_option linter.unusedSimpArgs false
set_option linter.unusedVariables false
namespace Go.Hc
open Go

def pushO (H : Heap) (o : Obj) : Heap := { H with arr := H.arr.push o }
def setO (H : Heap) (i : Nat) (o : Obj) : Heap := { H with arr := H.arr.setIfInBounds i o }
def mkL (fn : FuncId) (l : List Value) (ps : Array Tmp) (assign body : Code) (d : Nat) : Loop :=
  { state := .ready, pending := none, fn := fn, tmps := l.toArray, params := ps, assign := assign, body := body, defers := d }
def busy (r : Loop) : Loop := { r with state := .busy }
def done (r : Loop) : Loop := { r with state := .exhausted }
/-- the record, when a round was left by a return -/
def gone (r : Loop) : Loop := { r with state := .done, pending := some .ret }
def goneX (r : Loop) : Loop := { r with state := .exhausted, pending := some .ret }
def mark (m : Nat) : Deferred := { target := .collected m, args := #[] }

def callL (P : Program) (f : Value) (args : List Value) (H : Heap) (k : Value → Heap → Prop) : Prop :=
  match f with
  | .func (.func f) first cap => EvL P f (first.toList ++ args ++ cap.toList).toArray H k
  | _ => False
theorem callL_mono {P : Program} {f : Value} {args : List Value} {H : Heap} {k k' : Value → Heap → Prop} (hk : ∀ v H, k v H → k' v H) (h : callL P f args H k) : callL P f args H k' := by
  unfold callL at h ⊢
  split at h
  · exact ⟨h.1, fun w hw => (h.2 w hw).mono fun _ _ ⟨v, he, hv⟩ => ⟨v, he, hk _ _ hv⟩⟩
  · exact h.elim
/-- The statement 'for .. range g': from the frame l and the heap H on; K: what is behind it, told the block of its mark. -/
def rfE (P : Program) (g : Operand) (ps : Array Tmp) (assign body : Code) (K : Nat → List Value → Heap → Prop) (l : List Value) (H : Heap) : Prop :=
  ∀ fn : FuncId, callL P (evL l g) [.func (.yield (H.size + 1)) #[] #[]] (pushO (pushO H (.deferred (some []))) (.loop (mkL fn l ps assign body H.size)))
    fun _ H2 => H2.arr[H.size + 1]? = some (.loop (mkL fn l ps assign body H.size)) ∧ K H.size l (setO H2 (H.size + 1) (.loop (done (mkL fn l ps assign body H.size))))

/-- The same, where a round may return. -/
def rfE2 (P : Program) (g : Operand) (ps : Array Tmp) (assign body : Code) (K : Nat → Exit → List Value → Heap → Prop) (l : List Value) (H : Heap) : Prop :=
  ∀ fn : FuncId, callL P (evL l g) [.func (.yield (H.size + 1)) #[] #[]] (pushO (pushO H (.deferred (some []))) (.loop (mkL fn l ps assign body H.size)))
    fun _ H2 => (H2.arr[H.size + 1]? = some (.loop (mkL fn l ps assign body H.size)) ∧ K H.size .normal l (setO H2 (H.size + 1) (.loop (done (mkL fn l ps assign body H.size))))) ∨
      (H2.arr[H.size + 1]? = some (.loop (gone (mkL fn l ps assign body H.size))) ∧ K H.size .ret l (setO H2 (H.size + 1) (.loop (goneX (mkL fn l ps assign body H.size)))))

def wpR (τ : Tab) (P : Program) (π : Nat → Pl) : Code → (Exit → List Value → Heap → Prop) → (Nat → Exit → List Value → Heap → Prop) → List Value → Heap → Prop
  | .seq a b, Q, Qm, l, H => wpR τ P π a (thenE (fun l H => wpR τ P π b Q Qm l H) Q) (fun m => thenE (fun l H => wpE τ P π b (Qm m) l H) (Qm m)) l H
  | .block id b, Q, Qm, l, H => wpR τ P π b (blkE id Q) (fun m => blkE id (Qm m)) l H
  | .rangeFunc g ps assign body, _, Qm, l, H => rfE2 P g ps assign body Qm l H
  | c, Q, _, l, H => wpE τ P π c Q l H

/-- Each drawn region has its plan, within rounds too. -/
def okCodeR (π : Nat → Pl) : Code → Prop
  | .seq a b => okCodeR π a ∧ okCodeR π b
  | .block _ b => okCodeR π b
  | .rangeFunc _ _ a b => okCode π a ∧ okCode π b
  | c => okCode π c
def okBR (π : Nat → Pl) : Code → Bool
  | .seq a b => okBR π a && okBR π b
  | .block _ b => okBR π b
  | .rangeFunc _ _ a b => okB π a && okB π b
  | c => okB π c
theorem okCodeR_of {π : Nat → Pl} : ∀ (c : Code), okBR π c = true → okCodeR π c
  | .seq a b, h => by
    simp only [okBR, Bool.and_eq_true] at h
    exact ⟨okCodeR_of a h.1, okCodeR_of b h.2⟩
  | .block _ b, h => okCodeR_of b (by simpa only [okBR] using h)
  | .rangeFunc _ _ a b, h => by
    simp only [okBR, Bool.and_eq_true] at h
    exact ⟨okCode_of a h.1, okCode_of b h.2⟩
  | .region id ops true, h => okCode_of _ h
  | .region id ops false, h => okCode_of _ h
  | .cond o a b, h => okCode_of (.cond o a b) h
  | .loop b, h => okCode_of (.loop b) h
  | .skip, _ => trivial
  | .label _, _ => trivial
  | .exit _, _ => trivial
  | .ret, _ => trivial
  | .scope _, _ => trivial
  | .goto _, _ => trivial
  | .refuse _, _ => trivial

section
variable {P : Program} {τ : Tab} {π : Nat → Pl}
theorem okR_ok : ∀ (c : Code), okCodeR π c → okCode π c
  | .seq a b, h => ⟨okR_ok a h.1, okR_ok b h.2⟩
  | .block _ b, h => okR_ok b h
  | .rangeFunc _ _ _ _, _ => trivial
  | .region id ops true, h => h
  | .region id ops false, h => h
  | .cond o a b, h => h
  | .loop b, h => h
  | .skip, _ => trivial
  | .label _, _ => trivial
  | .exit _, _ => trivial
  | .ret, _ => trivial
  | .scope _, _ => trivial
  | .goto _, _ => trivial
  | .refuse _, _ => trivial
def liftR (Q : Exit → List Value → Heap → Prop) (Qm : Nat → Exit → List Value → Heap → Prop) (e : Exit) (a : Act) (w : World) : Prop :=
  calm e ∧ ((∃ l, a = actL l [] ∧ Q e l w.hp) ∨ ∃ l m, a = actL l [mark m] ∧ Qm m e l w.hp)
theorem liftR_of {Q : Exit → List Value → Heap → Prop} {Qm : Nat → Exit → List Value → Heap → Prop} {e : Exit} {a : Act} {w : World} (h : liftQ [] Q e a w) : liftR Q Qm e a w :=
  ⟨h.1, .inl h.2⟩
theorem liftR_m {Q : Exit → List Value → Heap → Prop} {Qm : Nat → Exit → List Value → Heap → Prop} {m : Nat} {e : Exit} {a : Act} {w : World} (h : liftQ [mark m] (Qm m) e a w) : liftR Q Qm e a w :=
  ⟨h.1, .inr (by obtain ⟨_, l, h1, h2⟩ := h; exact ⟨l, m, h1, h2⟩)⟩

theorem getO_run {i : Nat} {r : Loop} {w : World} (h : w.hp.arr[i]? = some (.loop r)) : (Instr.getLoop i).run P w = .ok r w := by
  rw [hp_arr] at h
  simp [Instr.getLoop, getObj, Sem.run, h, go_sem]
theorem setO_run {i : Nat} {r : Loop} {o : Obj} {w : World} (h : w.hp.arr[i]? = some (.loop r)) : ∃ w', (setObj i o).run P w = .ok () w' ∧ w'.hp = setO w.hp i o := by
  rw [hp_arr] at h
  exact ⟨{ w with heap := w.heap.setIfInBounds i o }, by simp [setObj, Sem.run, h], rfl⟩

theorem wpR_sound (hτ : TabOK P τ) (hmix : P.follows .mixedOrders = true) : ∀ (c : Code) (Q : Exit → List Value → Heap → Prop) (Qm : Nat → Exit → List Value → Heap → Prop) (l : List Value) (w : World), okCodeR π c →
    wpR τ P π c Q Qm l w.hp → c.wpIn (Fr none) 0 P (liftR Q Qm) (actL l []) w := by
  intro c
  induction c with
  | seq a b iha ihb =>
    intro Q Qm l w hok h
    refine wpIn_seq (wpIn_mono (iha _ _ l w hok.1 h) ?_)
    rintro e a' w' ⟨hc, ⟨l', rfl, hq⟩ | ⟨l', m, rfl, hq⟩⟩
    · cases e with
      | normal => exact ihb Q Qm l' w' hok.2 hq
      | exit id => exact ⟨trivial, .inl ⟨l', rfl, hq⟩⟩
      | goto id => exact ⟨trivial, .inl ⟨l', rfl, hq⟩⟩
      | ret => exact ⟨trivial, .inl ⟨l', rfl, hq⟩⟩
      | panic c => exact hc.elim
      | outgrown => exact hc.elim
    · cases e with
      | normal => exact wpIn_mono (wpE_sound hτ hmix b _ l' w' (okR_ok b hok.2) hq) fun e a w h => liftR_m h
      | exit id => exact ⟨trivial, .inr ⟨l', m, rfl, hq⟩⟩
      | goto id => exact ⟨trivial, .inr ⟨l', m, rfl, hq⟩⟩
      | ret => exact ⟨trivial, .inr ⟨l', m, rfl, hq⟩⟩
      | panic c => exact hc.elim
      | outgrown => exact hc.elim
  | block id b ih =>
    intro Q Qm l w hok h
    refine wpIn_block (wpIn_mono (ih _ _ l w hok h) ?_)
    rintro e a' w' ⟨hc, ⟨l', rfl, hq⟩ | ⟨l', m, rfl, hq⟩⟩
    · cases e with
      | normal => exact ⟨trivial, .inl ⟨l', rfl, hq⟩⟩
      | exit id' =>
        simp only [blkE] at hq
        simp only [Exit.inBlock]
        split at hq
        · rename_i hh
          rw [if_pos (Nat.eq_of_beq_eq_true hh)]
          exact ⟨trivial, .inl ⟨l', rfl, hq⟩⟩
        · rename_i hh
          rw [if_neg (Nat.ne_of_beq_eq_false hh)]
          exact ⟨trivial, .inl ⟨l', rfl, hq⟩⟩
      | goto id => exact ⟨trivial, .inl ⟨l', rfl, hq⟩⟩
      | ret => exact ⟨trivial, .inl ⟨l', rfl, hq⟩⟩
      | panic c => exact hc.elim
      | outgrown => exact hc.elim
    · cases e with
      | normal => exact ⟨trivial, .inr ⟨l', m, rfl, hq⟩⟩
      | exit id' =>
        simp only [blkE] at hq
        simp only [Exit.inBlock]
        split at hq
        · rename_i hh
          rw [if_pos (Nat.eq_of_beq_eq_true hh)]
          exact ⟨trivial, .inr ⟨l', m, rfl, hq⟩⟩
        · rename_i hh
          rw [if_neg (Nat.ne_of_beq_eq_false hh)]
          exact ⟨trivial, .inr ⟨l', m, rfl, hq⟩⟩
      | goto id => exact ⟨trivial, .inr ⟨l', m, rfl, hq⟩⟩
      | ret => exact ⟨trivial, .inr ⟨l', m, rfl, hq⟩⟩
      | panic c => exact hc.elim
      | outgrown => exact hc.elim
  | rangeFunc g ps assign body iha ihb =>
    intro Q Qm l w hok h
    refine wpIn_rangeFunc fun fn _ => ?_
    have h := h fn
    let w1 : World := { w with heap := (w.heap.push (.deferred (some []))).push (.loop (mkL fn l ps assign body w.heap.size)) }
    have hsz : w.hp.size = w.heap.size := rfl
    have he : (Instr.enterLoop fn (actL l []).tmps ps assign body (Fr none).round).run P w = .ok (w.heap.size + 1, [mark w.heap.size]) w1 := by
      simp [Instr.enterLoop, Fr, newObj, Sem.run, go_sem, actL, mkL, mark, w1]; rfl
    have hw1 : w1.hp = pushO (pushO w.hp (.deferred (some []))) (.loop (mkL fn l ps assign body w.hp.size)) := rfl
    rw [← hw1] at h
    rw [← eval_actL l []] at h
    unfold callL at h
    split at h
    case h_2 => exact h.elim
    case h_1 f first cap hf =>
      obtain ⟨h1, h2⟩ := h
      refine ⟨w.heap.size + 1, [mark w.heap.size], w1, ⟨.fn (.func f) cap, first ++ #[Value.func (.yield (w.heap.size + 1)) #[] #[]]⟩, w1, f, (first.toList ++ [Value.func (.yield (w.hp.size + 1)) #[] #[]] ++ cap.toList).toArray, w1, he, ?_, fun _ _ => trivial, ?_, by simp [Fr], ?_⟩
      · have hf' : (actL l []).eval g = .func (.func f) first cap := hf
        have hm : (#[Operand.const (.func (.yield (w.heap.size + 1)) #[] #[])] : Array Operand).map (actL l []).eval = #[.func (.yield (w.heap.size + 1)) #[] #[]] := by simp [Act.eval]
        simp only [resolve, rangeCall, hf', Deferred.ofValue, hm, Sem.run_pure]
      · have e : first ++ #[Value.func (.yield (w.heap.size + 1)) #[] #[]] ++ cap = (first.toList ++ [Value.func (.yield (w.hp.size + 1)) #[] #[]] ++ cap.toList).toArray := by apply Array.ext'; simp [hsz]
        show (invoke (.fn (.func f) cap) (first ++ #[Value.func (.yield (w.heap.size + 1)) #[] #[]])).run P w1 = _
        simp only [invoke]
        rw [e]; exact h1 w1
      · refine callsIn_of ((h2 w1 rfl).mono ?_)
        rintro e w3 ⟨v, rfl, ⟨hl, hk⟩ | ⟨hl, hk⟩⟩
        · obtain ⟨w4, hs, hw4⟩ := setO_run (P := P) (o := .loop (done (mkL fn l ps assign body w.hp.size))) hl
          refine ⟨none, w4, ?_, trivial, .inr ⟨l, w.heap.size, rfl, ?_⟩⟩
          · have hg := getO_run (P := P) hl
            rw [hsz] at hg hs
            simp only [Instr.endLoop, Sem.run_bind, hg, Result.andThen]
            rw [show ((mkL fn l ps assign body w.heap.size).state == LoopState.busy) = false from rfl]
            simp only [Bool.false_eq_true, if_false, Sem.run_pure, Sem.run_bind, Result.andThen]
            rw [show ({ mkL fn l ps assign body w.heap.size with state := LoopState.exhausted } : Loop) = done (mkL fn l ps assign body w.heap.size) from rfl, hs]
            rfl
          · rw [hw4]; exact hk
        · obtain ⟨w4, hs, hw4⟩ := setO_run (P := P) (o := .loop (goneX (mkL fn l ps assign body w.hp.size))) hl
          refine ⟨some .ret, w4, ?_, wpIn_ret ⟨trivial, .inr ⟨l, w.heap.size, rfl, ?_⟩⟩⟩
          · have hg := getO_run (P := P) hl
            rw [hsz] at hg hs
            simp only [Instr.endLoop, Sem.run_bind, hg, Result.andThen]
            rw [show ((gone (mkL fn l ps assign body w.heap.size)).state == LoopState.busy) = false from rfl]
            simp only [Bool.false_eq_true, if_false, Sem.run_pure, Sem.run_bind, Result.andThen]
            rw [show ({ gone (mkL fn l ps assign body w.heap.size) with state := LoopState.exhausted } : Loop) = goneX (mkL fn l ps assign body w.heap.size) from rfl, hs]
            rfl
          · rw [hw4]; exact hk
  | _ => intro Q Qm l w hok h; exact wpIn_mono (wpE_sound hτ hmix _ Q l w hok h) fun e a w h => liftR_of h

/-- A function's end, behind its mark. -/
def retQM (τ : Tab) (rs : List ResultVar) (R : Value → Heap → Prop) (m : Nat) : Exit → List Value → Heap → Prop
  | .normal, l, H | .ret, l, H => H.arr[m]? = some (.deferred (some [])) ∧ retE τ l (setO H m (.deferred none)) R rs []
  | _, _, _ => False

theorem res_of (hτ : TabOK P τ) {fn : Func} {rs : List ResultVar} {d : List Deferred} {l : List Value} {w' : World} {R : Value → Heap → Prop} (hr : fn.results = rs.toArray) (hret : retE τ l w'.hp R rs []) :
    ∃ v, (results fn (actL l d).tmps).run P w' = .ok v w' ∧ ∃ v', Ending.returned v = .returned v' ∧ R v' w'.hp := by
  obtain ⟨vs, hv, hR⟩ := retE_res rs [] hret
  rw [List.nil_append] at hR
  refine ⟨oneV vs, ?_, _, rfl, hR⟩
  have hm := resE_run hτ rs vs hv
  rw [results_rvE, hr, Sem.run_bind]
  have e1 : (rs.toArray.mapM (rvE (actL l d).tmps)).run P w' = .ok vs.toArray w' := by
    rw [Array.mapM_eq_mapM_toList, Sem.run_map]
    rw [show rs.toArray.toList.mapM (rvE (actL l d).tmps) = rs.mapM (rvE l.toArray) from rfl, hm]; rfl
  rw [e1]
  simp only [Result.andThen, Sem.run_pure]
  clear hv hR hm e1
  match vs with
  | [] => rfl
  | [v] => rfl
  | v :: u :: rest => simp [oneV]

theorem EvR_intro (hτ : TabOK P τ) (hmix : P.follows .mixedOrders = true) {f : FuncId} {fn : Func} {c : Code} {args : List Value} {H : Heap} {R : Value → Heap → Prop} {k : Nat} {rs : List ResultVar}
    (hf : P.funcs[f]? = some fn) (hb : fn.body = some c) (hcall : ∀ args w, (callFunc f args).run P w = .ok (.enter f args) w) (hn : fn.ntmps = args.length + k) (hr : fn.results = rs.toArray)
    (hok : okCodeR π c) {l0 : List Value} (hl0 : l0 = args ++ List.replicate k undef) (h : wpR τ P π c (retQ τ rs R) (retQM τ rs R) l0 H) : EvL P f args.toArray H R := by
  subst hl0
  refine ⟨hcall _, fun w hw => ?_⟩
  subst hw
  have hargs : (args.toArray ++ Array.replicate (fn.ntmps - args.toArray.size) undef) = (args ++ List.replicate k undef).toArray := by
    rw [hn]; simp
  have h1 := wpR_sound hτ hmix c _ _ _ w hok h
  have h2 : CallsIn (Fr none) 0 P f args.toArray w fun e w' => ∃ v, e = .returned v ∧ R v w'.hp := by
    refine callsIn_of_wp_marks hf hb trivial ?_
    rw [hargs]
    refine wpIn_mono h1 ?_
    rintro e a w' ⟨hc, ⟨l, rfl, hq⟩ | ⟨l, m, rfl, hq⟩⟩
    · cases e with
      | normal => exact res_of hτ hr hq
      | ret => exact res_of hτ hr hq
      | exit id => exact hq.elim
      | goto id => exact hq.elim
      | panic c => exact hc.elim
      | outgrown => exact hc.elim
    · have last : ∀ {l : List Value} {w' : World}, (w'.hp.arr[m]? = some (.deferred (some [])) ∧ retE τ l (setO w'.hp m (.deferred none)) R rs []) →
          LeavesInM (Fr none) 0 P fn (actL l [mark m]).tmps (fun e w' => ∃ v, e = .returned v ∧ R v w'.hp) [mark m] .returning w' := by
        rintro l w' ⟨ha, hret⟩
        refine ⟨by simp, .inl ⟨m, { w' with heap := w'.heap.setIfInBounds m (.deferred none) }, rfl, ?_, ?_⟩⟩
        · rw [hp_arr] at ha
          simp [Instr.takeDeferred, getObj, setObj, Sem.run, go_sem, ha]
        · exact res_of (d := [mark m]) hτ hr (w' := { w' with heap := w'.heap.setIfInBounds m (.deferred none) }) hret
      cases e with
      | normal => exact last hq
      | ret => exact last hq
      | exit id => exact hq.elim
      | goto id => exact hq.elim
      | panic c => exact hc.elim
      | outgrown => exact hc.elim
  exact callsIn_wide.1 h2

/-- A round. -/
theorem EvY_intro (hτ : TabOK P τ) (hmix : P.follows .mixedOrders = true) {r : Loop} {lp : Nat} {args : Array Value} {t : List Value} {K : Heap} {Q : Value → Heap → Prop} (hK : K.arr[lp]? = some (.loop r)) (hs : r.state = .ready) (hp : r.pending = none)
    (hsz : args.size = r.params.size) (ht : (r.params.zip args).foldl (fun tmps (t, a) => tmps.setIfInBounds t a) r.tmps = t.toArray) (hok : okCode π r.assign ∧ okCode π r.body)
    (h : wpE τ P π r.assign (nQ fun l H => H.arr[lp]? = some (.loop r) ∧ wpE τ P π r.body (nQ fun _ H2 => H2.arr[lp]? = some (.loop (busy r)) ∧ Q (.bool true) (setO H2 lp (.loop r))) l (setO H lp (.loop (busy r)))) t K) :
    EvY P lp args K Q := by
  intro w hw
  subst hw
  refine ⟨r.fn, t.toArray, r.assign, r.body, ?_, ?_⟩
  · simp only [Instr.yield, Sem.run_bind, getO_run hK, Result.andThen, hsz, ne_eq, not_true_eq_false, if_false, Sem.run_pure]
    rw [ht]
  · refine roundIn_of_wpIn trivial ?_
    have h1 := wpE_sound (r := some lp) hτ hmix (d := []) r.assign _ t w hok.1 h
    refine wpIn_mono h1 ?_
    rintro e a w1 ⟨hc, l, rfl, hq⟩
    cases e with
    | normal =>
      obtain ⟨ha, hq⟩ := hq
      obtain ⟨w2, hs2, hw2⟩ := setO_run (P := P) (o := .loop (busy r)) ha
      refine ⟨w2, ?_, ?_⟩
      · simp only [Instr.beginRound, Sem.run_bind, getO_run ha, Result.andThen]
        rw [show ({ r with state := LoopState.busy } : Loop) = busy r from rfl, hs2]
        simp only [hs, Sem.run_pure]
      · rw [← hw2] at hq
        have h2 := wpE_sound (r := some lp) hτ hmix (d := []) r.body _ l w2 hok.2 hq
        refine wpIn_mono h2 ?_
        rintro e a w3 ⟨hc, l', rfl, hq⟩
        cases e with
        | normal =>
          obtain ⟨hb, hq⟩ := hq
          obtain ⟨w4, hs4, hw4⟩ := setO_run (P := P) (o := .loop r) hb
          refine ⟨.bool true, w4, ?_, .bool true, rfl, by rw [hw4]; exact hq⟩
          have e1 : ({ busy r with state := if (none : Option Code).isNone then LoopState.ready else .done, pending := none } : Loop) = r := by
            cases r; simp_all [busy]
          simp only [Instr.endRound, Sem.run_bind, getO_run hb, Result.andThen]
          rw [e1, hs4]
          simp
        | ret => exact hq.elim
        | exit id => exact hq.elim
        | goto id => exact hq.elim
        | panic c => exact hc.elim
        | outgrown => exact hc.elim
    | ret => exact hq.elim
    | exit id => exact hq.elim
    | goto id => exact hq.elim
    | panic c => exact hc.elim
    | outgrown => exact hc.elim

/-- What a round is left with. -/
def rQ (lp : Nat) (r : Loop) (Q : Value → Heap → Prop) : Exit → List Value → Heap → Prop
  | .normal, _, H2 => H2.arr[lp]? = some (.loop (busy r)) ∧ Q (.bool true) (setO H2 lp (.loop r))
  | .ret, _, H2 => H2.arr[lp]? = some (.loop (busy r)) ∧ Q (.bool false) (setO H2 lp (.loop (gone r)))
  | _, _, _ => False
/-- A round that may return. -/
theorem EvY_intro2 (hτ : TabOK P τ) (hmix : P.follows .mixedOrders = true) {r : Loop} {lp : Nat} {args : Array Value} {t : List Value} {K : Heap} {Q : Value → Heap → Prop} (hK : K.arr[lp]? = some (.loop r)) (hs : r.state = .ready) (hp : r.pending = none)
    (hsz : args.size = r.params.size) (ht : (r.params.zip args).foldl (fun tmps (t, a) => tmps.setIfInBounds t a) r.tmps = t.toArray) (hok : okCode π r.assign ∧ okCode π r.body)
    (h : wpE τ P π r.assign (nQ fun l H => H.arr[lp]? = some (.loop r) ∧ wpE τ P π r.body (rQ lp r Q) l (setO H lp (.loop (busy r)))) t K) :
    EvY P lp args K Q := by
  intro w hw
  subst hw
  refine ⟨r.fn, t.toArray, r.assign, r.body, ?_, ?_⟩
  · simp only [Instr.yield, Sem.run_bind, getO_run hK, Result.andThen, hsz, ne_eq, not_true_eq_false, if_false, Sem.run_pure]
    rw [ht]
  · refine roundIn_of_wpIn trivial ?_
    have h1 := wpE_sound (r := some lp) hτ hmix (d := []) r.assign _ t w hok.1 h
    refine wpIn_mono h1 ?_
    rintro e a w1 ⟨hc, l, rfl, hq⟩
    cases e with
    | normal =>
      obtain ⟨ha, hq⟩ := hq
      obtain ⟨w2, hs2, hw2⟩ := setO_run (P := P) (o := .loop (busy r)) ha
      refine ⟨w2, ?_, ?_⟩
      · simp only [Instr.beginRound, Sem.run_bind, getO_run ha, Result.andThen]
        rw [show ({ r with state := LoopState.busy } : Loop) = busy r from rfl, hs2]
        simp only [hs, Sem.run_pure]
      · rw [← hw2] at hq
        have h2 := wpE_sound (r := some lp) hτ hmix (d := []) r.body _ l w2 hok.2 hq
        refine wpIn_mono h2 ?_
        rintro e a w3 ⟨hc, l', rfl, hq⟩
        cases e with
        | normal =>
          obtain ⟨hb, hq⟩ := hq
          obtain ⟨w4, hs4, hw4⟩ := setO_run (P := P) (o := .loop r) hb
          refine ⟨.bool true, w4, ?_, .bool true, rfl, by rw [hw4]; exact hq⟩
          have e1 : ({ busy r with state := if (none : Option Code).isNone then LoopState.ready else .done, pending := none } : Loop) = r := by
            cases r; simp_all [busy]
          simp only [Instr.endRound, Sem.run_bind, getO_run hb, Result.andThen]
          rw [e1, hs4]
          simp
        | ret =>
          obtain ⟨hb, hq⟩ := hq
          obtain ⟨w4, hs4, hw4⟩ := setO_run (P := P) (o := .loop (gone r)) hb
          refine ⟨.bool false, w4, ?_, .bool false, rfl, by rw [hw4]; exact hq⟩
          have e1 : ({ busy r with state := if (some Code.ret : Option Code).isNone then LoopState.ready else .done, pending := some .ret } : Loop) = gone r := by
            cases r; simp_all [busy, gone]
          simp only [Instr.endRound, Sem.run_bind, getO_run hb, Result.andThen]
          rw [e1, hs4]
          simp
        | exit id => exact hq.elim
        | goto id => exact hq.elim
        | panic c => exact hc.elim
        | outgrown => exact hc.elim
    | ret => exact hq.elim
    | exit id => exact hq.elim
    | goto id => exact hq.elim
    | panic c => exact hc.elim
    | outgrown => exact hc.elim

theorem seqR {c a b : Code} {l : List Value} {H : Heap} {Q : Exit → List Value → Heap → Prop} {Qm : Nat → Exit → List Value → Heap → Prop} (e : c = .seq a b)
    (h : wpR τ P π a (thenE (fun l H => wpR τ P π b Q Qm l H) Q) (fun m => thenE (fun l H => wpE τ P π b (Qm m) l H) (Qm m)) l H) : wpR τ P π c Q Qm l H := by subst e; exact h
theorem blockR {c b : Code} {id : Nat} {l : List Value} {H : Heap} {Q : Exit → List Value → Heap → Prop} {Qm : Nat → Exit → List Value → Heap → Prop} (e : c = .block id b)
    (h : wpR τ P π b (blkE id Q) (fun m => blkE id (Qm m)) l H) : wpR τ P π c Q Qm l H := by subst e; exact h
theorem rangeR {c as bo : Code} {g : Operand} {ps : Array Tmp} {l : List Value} {H : Heap} {Q : Exit → List Value → Heap → Prop} {Qm : Nat → Exit → List Value → Heap → Prop} (e : c = .rangeFunc g ps as bo)
    (h : rfE P g ps as bo (fun m l H => Qm m .normal l H) l H) : wpR τ P π c Q Qm l H := by subst e; exact fun fn => callL_mono (fun _ _ h => .inl h) (h fn)
theorem rangeR2 {c as bo : Code} {g : Operand} {ps : Array Tmp} {l : List Value} {H : Heap} {Q : Exit → List Value → Heap → Prop} {Qm : Nat → Exit → List Value → Heap → Prop} (e : c = .rangeFunc g ps as bo)
    (h : rfE2 P g ps as bo Qm l H) : wpR τ P π c Q Qm l H := by subst e; exact h
theorem wpR_of : ∀ (c : Code) {n : Nat} {Q : Exit → List Value → Heap → Prop} {Qm : Nat → Exit → List Value → Heap → Prop} {l : List Value} {H : Heap}, l.length = n → wpE τ P π c Q l H → wpR τ P π c Q Qm l H
  | .seq a b, n, Q, Qm, l, H, hl, h => wpR_of a hl (wpE_mono a l H hl (fun e l' H' hl' h => by
      cases e with
      | normal => exact wpR_of b hl' h
      | _ => exact h) h)
  | .block _ b, n, Q, Qm, l, H, hl, h => wpR_of b hl h
  | .rangeFunc _ _ _ _, _, _, _, _, _, _, h => h.elim
  | .region id ops true, _, _, _, _, _, _, h => h
  | .region id ops false, _, _, _, _, _, _, h => h
  | .cond o a b, _, _, _, _, _, _, h => h
  | .loop b, _, _, _, _, _, _, h => h
  | .skip, _, _, _, _, _, _, h => h
  | .label _, _, _, _, _, _, _, h => h
  | .exit _, _, _, _, _, _, _, h => h
  | .ret, _, _, _, _, _, _, h => h
  | .scope _, _, _, _, _, _, _, h => h.elim
  | .goto _, _, _, _, _, _, _, h => h.elim
  | .refuse _, _, _, _, _, _, _, h => h.elim
end

/-! ### slices.overlaps -/
theorem EvF_overlaps {P : Program} {f : FuncId} {fn : Func} {tS tR e : TypeId} {i : TypeInfo} (hf : P.funcs[f]? = some fn) (hname : (fn.name == "runtime.NumGoroutine") = false)
    (hb : fn.body.isNone = true) (hn : Extern.findNext fn = none) (he : Extern.find fn = some (Extern.SlicesOverlaps.overlaps #[tS, tS] #[tR])) (ht : P.underlying tS = some (.slice e)) (hi : P.info? e = some i)
    {a b oa ob la ca lb cb : Nat} {x y : Array Value} {H : Heap} {R : Value → Heap → Prop} (hne : a ≠ b) (ha : own H a = some x) (hy : own H b = some y) (h0 : y.size ≠ 0) (hR : R (.bool false) H) :
    EvF P f #[.slice (some ⟨a, oa, none⟩) la ca, .slice (some ⟨b, ob, none⟩) lb cb] H R := by
  refine .inr fun w hw => ⟨.bool false, w, ?_, by rw [hw]; exact hR⟩
  subst hw
  have sh : ∀ {b c}, own w.hp b = some c → ∃ t, w.shape? b = some (t, c.size) := fun {b c} h => by
    unfold own at h
    split at h
    · rename_i hb
      split at h
      · cases h; rw [hp_arr] at hb; exact ⟨_, by unfold World.shape?; rw [hb]⟩
      · cases h
    · cases h
  obtain ⟨tA, hsa⟩ := sh ha
  obtain ⟨tB, hsb⟩ := sh hy
  rw [run_callFunc_extern hf hname hb hn he, Lib.run_overlaps_apart w tS tR e ht i.size (fun w => size_run hi) ⟨a, oa, none⟩ ⟨b, ob, none⟩ la ca lb cb hne tA tB x.size y.size hsa hsb h0 (own_frozen ha) (own_frozen ha)]
  rfl
end Go.Hc
