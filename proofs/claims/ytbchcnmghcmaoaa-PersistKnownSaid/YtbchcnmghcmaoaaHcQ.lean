/- The heap calculus, part Q: a range over a function, at a body's top level; functions without a body. -/
import Derived.Test.YtbchcnmghcmaoaaHcN
import Derived.RangeFuncIn
import Derived.RangeFuncLeaves
import Derived.Lib.Overlaps
set_option linter.unusedSimpArgs false
set_option linter.unusedVariables false
namespace Go.Hc
open Go

def pushO (H : Heap) (o : Obj) : Heap := { H with arr := H.arr.push o }
def setO (H : Heap) (i : Nat) (o : Obj) : Heap := { H with arr := H.arr.setIfInBounds i o }
def mkL (fn : FuncId) (l : List Value) (ps : Array Tmp) (assign body : Code) (d : Nat) : Loop :=
  { state := .ready, pending := none, fn := fn, tmps := l.toArray, params := ps, assign := assign, body := body, defers := d }
def busy (r : Loop) : Loop := { r with state := .busy }
def done (r : Loop) : Loop := { r with state := .exhausted }
def mark (m : Nat) : Deferred := { target := .collected m, args := #[] }

def callL (P : Program) (f : Value) (args : List Value) (H : Heap) (k : Value → Heap → Prop) : Prop :=
  match f with
  | .func (.func f) first cap => EvL P f (first.toList ++ args ++ cap.toList).toArray H k
  | _ => False
theorem callL_mono {P : Program} {f : Value} {args : List Value} {H : Heap} {k k' : Value → Heap → Prop} (hk : ∀ v H, k v H → k' v H) (h : callL P f args H k) : callL P f args H k' := by
  unfold callL at h ⊢
  split at h
  · exact ⟨h.1, fun w hw => (h.2 w hw).mono fun _ _ ⟨v, he, hv⟩ => ⟨v, he, hk _ _ hv⟩⟩
  · exact h.elim
/-- The statement 'for .. range g': from the frame l and the heap H on; K: what is behind it, told the block of its mark. -/
def rfE (P : Program) (g : Operand) (ps : Array Tmp) (assign body : Code) (K : Nat → List Value → Heap → Prop) (l : List Value) (H : Heap) : Prop :=
  ∀ fn : FuncId, callL P (evL l g) [.func (.yield (H.size + 1)) #[] #[]] (pushO (pushO H (.deferred (some []))) (.loop (mkL fn l ps assign body H.size)))
    fun _ H2 => H2.arr[H.size + 1]? = some (.loop (mkL fn l ps assign body H.size)) ∧ K H.size l (setO H2 (H.size + 1) (.loop (done (mkL fn l ps assign body H.size))))

def wpR (τ : Tab) (P : Program) (π : Nat → Pl) : Code → (Exit → List Value → Heap → Prop) → (Nat → Exit → List Value → Heap → Prop) → List Value → Heap → Prop
  | .seq a b, Q, Qm, l, H => wpR τ P π a (thenE (fun l H => wpR τ P π b Q Qm l H) Q) (fun m => thenE (fun l H => wpE τ P π b (Qm m) l H) (Qm m)) l H
  | .block id b, Q, Qm, l, H => wpR τ P π b (blkE id Q) (fun m => blkE id (Qm m)) l H
  | .rangeFunc g ps assign body, _, Qm, l, H => rfE P g ps assign body (fun m l H => Qm m .normal l H) l H
  | c, Q, _, l, H => wpE τ P π c Q l H

/-- Each drawn region has its plan, within rounds too. -/
def okCodeR (π : Nat → Pl) : Code → Prop
  | .seq a b => okCodeR π a ∧ okCodeR π b
  | .block _ b => okCodeR π b
  | .rangeFunc _ _ a b => okCode π a ∧ okCode π b
  | c => okCode π c
def okBR (π : Nat → Pl) : Code → Bool
  | .seq a b => okBR π a && okBR π b
  | .block _ b => okBR π b
  | .rangeFunc _ _ a b => okB π a && okB π b
  | c => okB π c
theorem okCodeR_of {π : Nat → Pl} : ∀ (c : Code), okBR π c = true → okCodeR π c
  | .seq a b, h => by
    simp only [okBR, Bool.and_eq_true] at h
    exact ⟨okCodeR_of a h.1, okCodeR_of b h.2⟩
  | .block _ b, h => okCodeR_of b (by simpa only [okBR] using h)
  | .rangeFunc _ _ a b, h => by
    simp only [okBR, Bool.and_eq_true] at h
    exact ⟨okCode_of a h.1, okCode_of b h.2⟩
  | .region id ops true, h => okCode_of _ h
  | .region id ops false, h => okCode_of _ h
  | .cond o a b, h => okCode_of (.cond o a b) h
  | .loop b, h => okCode_of (.loop b) h
  | .skip, _ => trivial
  | .label _, _ => trivial
  | .exit _, _ => trivial
  | .ret, _ => trivial
  | .scope _, _ => trivial
  | .goto _, _ => trivial
  | .refuse _, _ => trivial

section
variable {P : Program} {τ : Tab} {π : Nat → Pl}
theorem okR_ok : ∀ (c : Code), okCodeR π c → okCode π c
  | .seq a b, h => ⟨okR_ok a h.1, okR_ok b h.2⟩
  | .block _ b, h => okR_ok b h
  | .rangeFunc _ _ _ _, _ => trivial
  | .region id ops true, h => h
  | .region id ops false, h => h
  | .cond o a b, h => h
  | .loop b, h => h
  | .skip, _ => trivial
  | .label _, _ => trivial
  | .exit _, _ => trivial
  | .ret, _ => trivial
  | .scope _, _ => trivial
  | .goto _, _ => trivial
  | .refuse _, _ => trivial
def liftR (Q : Exit → List Value → Heap → Prop) (Qm : Nat → Exit → List Value → Heap → Prop) (e : Exit) (a : Act) (w : World) : Prop :=
  calm e ∧ ((∃ l, a = actL l [] ∧ Q e l w.hp) ∨ ∃ l m, a = actL l [mark m] ∧ Qm m e l w.hp)
theorem liftR_of {Q : Exit → List Value → Heap → Prop} {Qm : Nat → Exit → List Value → Heap → Prop} {e : Exit} {a : Act} {w : World} (h : liftQ [] Q e a w) : liftR Q Qm e a w :=
  ⟨h.1, .inl h.2⟩
theorem liftR_m {Q : Exit → List Value → Heap → Prop} {Qm : Nat → Exit → List Value → Heap → Prop} {m : Nat} {e : Exit} {a : Act} {w : World} (h : liftQ [mark m] (Qm m) e a w) : liftR Q Qm e a w :=
  ⟨h.1, .inr (by obtain ⟨_, l, h1, h2⟩ := h; exact ⟨l, m, h1, h2⟩)⟩

theorem getO_run {i : Nat} {r : Loop} {w : World} (h : w.hp.arr[i]? = some (.loop r)) : (Instr.getLoop i).run P w = .ok r w := by
  rw [hp_arr] at h
  simp [Instr.getLoop, getObj, Sem.run, h, go_sem]
theorem setO_run {i : Nat} {r : Loop} {o : Obj} {w : World} (h : w.hp.arr[i]? = some (.loop r)) : ∃ w', (setObj i o).run P w = .ok () w' ∧ w'.hp = setO w.hp i o := by
  rw [hp_arr] at h
  exact ⟨{ w with heap := w.heap.setIfInBounds i o }, by simp [setObj, Sem.run, h], rfl⟩

theorem wpR_sound (hτ : TabOK P τ) (hmix : P.follows .mixedOrders = true) : ∀ (c : Code) (Q : Exit → List Value → Heap → Prop) (Qm : Nat → Exit → List Value → Heap → Prop) (l : List Value) (w : World), okCodeR π c →
    wpR τ P π c Q Qm l w.hp → c.wpIn (Fr none) 0 P (liftR Q Qm) (actL l []) w := by
  intro c
  induction c with
  | seq a b iha ihb =>
    intro Q Qm l w hok h
    refine wpIn_seq (wpIn_mono (iha _ _ l w hok.1 h) ?_)
    rintro e a' w' ⟨hc, ⟨l', rfl, hq⟩ | ⟨l', m, rfl, hq⟩⟩
    · cases e with
      | normal => exact ihb Q Qm l' w' hok.2 hq
      | exit id => exact ⟨trivial, .inl ⟨l', rfl, hq⟩⟩
      | goto id => exact ⟨trivial, .inl ⟨l', rfl, hq⟩⟩
      | ret => exact ⟨trivial, .inl ⟨l', rfl, hq⟩⟩
      | panic c => exact hc.elim
      | outgrown => exact hc.elim
    · cases e with
      | normal => exact wpIn_mono (wpE_sound hτ hmix b _ l' w' (okR_ok b hok.2) hq) fun e a w h => liftR_m h
      | exit id => exact ⟨trivial, .inr ⟨l', m, rfl, hq⟩⟩
      | goto id => exact ⟨trivial, .inr ⟨l', m, rfl, hq⟩⟩
      | ret => exact ⟨trivial, .inr ⟨l', m, rfl, hq⟩⟩
      | panic c => exact hc.elim
      | outgrown => exact hc.elim
  | block id b ih =>
    intro Q Qm l w hok h
    refine wpIn_block (wpIn_mono (ih _ _ l w hok h) ?_)
    rintro e a' w' ⟨hc, ⟨l', rfl, hq⟩ | ⟨l', m, rfl, hq⟩⟩
    · cases e with
      | normal => exact ⟨trivial, .inl ⟨l', rfl, hq⟩⟩
      | exit id' =>
        simp only [blkE] at hq
        simp only [Exit.inBlock]
        split at hq
        · rename_i hh
          rw [if_pos (Nat.eq_of_beq_eq_true hh)]
          exact ⟨trivial, .inl ⟨l', rfl, hq⟩⟩
        · rename_i hh
          rw [if_neg (Nat.ne_of_beq_eq_false hh)]
          exact ⟨trivial, .inl ⟨l', rfl, hq⟩⟩
      | goto id => exact ⟨trivial, .inl ⟨l', rfl, hq⟩⟩
      | ret => exact ⟨trivial, .inl ⟨l', rfl, hq⟩⟩
      | panic c => exact hc.elim
      | outgrown => exact hc.elim
    · cases e with
      | normal => exact ⟨trivial, .inr ⟨l', m, rfl, hq⟩⟩
      | exit id' =>
        simp only [blkE] at hq
        simp only [Exit.inBlock]
        split at hq
        · rename_i hh
          rw [if_pos (Nat.eq_of_beq_eq_true hh)]
          exact ⟨trivial, .inr ⟨l', m, rfl, hq⟩⟩
        · rename_i hh
          rw [if_neg (Nat.ne_of_beq_eq_false hh)]
          exact ⟨trivial, .inr ⟨l', m, rfl, hq⟩⟩
      | goto id => exact ⟨trivial, .inr ⟨l', m, rfl, hq⟩⟩
      | ret => exact ⟨trivial, .inr ⟨l', m, rfl, hq⟩⟩
      | panic c => exact hc.elim
      | outgrown => exact hc.elim
  | rangeFunc g ps assign body iha ihb =>
    intro Q Qm l w hok h
    refine wpIn_rangeFunc fun fn _ => ?_
    have h := h fn
    let w1 : World := { w with heap := (w.heap.push (.deferred (some []))).push (.loop (mkL fn l ps assign body w.heap.size)) }
    have hsz : w.hp.size = w.heap.size := rfl
    have he : (Instr.enterLoop fn (actL l []).tmps ps assign body (Fr none).round).run P w = .ok (w.heap.size + 1, [mark w.heap.size]) w1 := by
      simp [Instr.enterLoop, Fr, newObj, Sem.run, go_sem, actL, mkL, mark, w1]; rfl
    have hw1 : w1.hp = pushO (pushO w.hp (.deferred (some []))) (.loop (mkL fn l ps assign body w.hp.size)) := rfl
    rw [← hw1] at h
    rw [← eval_actL l []] at h
    unfold callL at h
    split at h
    case h_2 => exact h.elim
    case h_1 f first cap hf =>
      obtain ⟨h1, h2⟩ := h
      refine ⟨w.heap.size + 1, [mark w.heap.size], w1, ⟨.fn (.func f) cap, first ++ #[Value.func (.yield (w.heap.size + 1)) #[] #[]]⟩, w1, f, (first.toList ++ [Value.func (.yield (w.hp.size + 1)) #[] #[]] ++ cap.toList).toArray, w1, he, ?_, fun _ _ => trivial, ?_, by simp [Fr], ?_⟩
      · have hf' : (actL l []).eval g = .func (.func f) first cap := hf
        have hm : (#[Operand.const (.func (.yield (w.heap.size + 1)) #[] #[])] : Array Operand).map (actL l []).eval = #[.func (.yield (w.heap.size + 1)) #[] #[]] := by simp [Act.eval]
        simp only [resolve, rangeCall, hf', Deferred.ofValue, hm, Sem.run_pure]
      · have e : first ++ #[Value.func (.yield (w.heap.size + 1)) #[] #[]] ++ cap = (first.toList ++ [Value.func (.yield (w.hp.size + 1)) #[] #[]] ++ cap.toList).toArray := by apply Array.ext'; simp [hsz]
        show (invoke (.fn (.func f) cap) (first ++ #[Value.func (.yield (w.heap.size + 1)) #[] #[]])).run P w1 = _
        simp only [invoke]
        rw [e]; exact h1 w1
      · refine callsIn_of ((h2 w1 rfl).mono ?_)
        rintro e w3 ⟨v, rfl, hl, hk⟩
        obtain ⟨w4, hs, hw4⟩ := setO_run (P := P) (o := .loop (done (mkL fn l ps assign body w.hp.size))) hl
        refine ⟨none, w4, ?_, trivial, .inr ⟨l, w.heap.size, rfl, ?_⟩⟩
        · have hg := getO_run (P := P) hl
          rw [hsz] at hg hs
          simp only [Instr.endLoop, Sem.run_bind, hg, Result.andThen]
          rw [show ((mkL fn l ps assign body w.heap.size).state == LoopState.busy) = false from rfl]
          simp only [Bool.false_eq_true, if_false, Sem.run_pure, Sem.run_bind, Result.andThen]
          rw [show ({ mkL fn l ps assign body w.heap.size with state := LoopState.exhausted } : Loop) = done (mkL fn l ps assign body w.heap.size) from rfl, hs]
          rfl
        · rw [hw4]; exact hk
  | _ => intro Q Qm l w hok h; exact wpIn_mono (wpE_sound hτ hmix _ Q l w hok h) fun e a w h => liftR_of h

/-- A function's end, behind its mark. -/
def retQM (τ : Tab) (rs : List ResultVar) (R : Value → Heap → Prop) (m : Nat) : Exit → List Value → Heap → Prop
  | .normal, l, H | .ret, l, H => H.arr[m]? = some (.deferred (some [])) ∧ retE τ l (setO H m (.deferred none)) R rs []
  | _, _, _ => False

theorem res_of (hτ : TabOK P τ) {fn : Func} {rs : List ResultVar} {d : List Deferred} {l : List Value} {w' : World} {R : Value → Heap → Prop} (hr : fn.results = rs.toArray) (hret : retE τ l w'.hp R rs []) :
    ∃ v, (results fn (actL l d).tmps).run P w' = .ok v w' ∧ ∃ v', Ending.returned v = .returned v' ∧ R v' w'.hp := by
  obtain ⟨vs, hv, hR⟩ := retE_res rs [] hret
  rw [List.nil_append] at hR
  refine ⟨oneV vs, ?_, _, rfl, hR⟩
  have hm := resE_run hτ rs vs hv
  rw [results_rvE, hr, Sem.run_bind]
  have e1 : (rs.toArray.mapM (rvE (actL l d).tmps)).run P w' = .ok vs.toArray w' := by
    rw [Array.mapM_eq_mapM_toList, Sem.run_map]
    rw [show rs.toArray.toList.mapM (rvE (actL l d).tmps) = rs.mapM (rvE l.toArray) from rfl, hm]; rfl
  rw [e1]
  simp only [Result.andThen, Sem.run_pure]
  clear hv hR hm e1
  match vs with
  | [] => rfl
  | [v] => rfl
  | v :: u :: rest => simp [oneV]

theorem EvR_intro (hτ : TabOK P τ) (hmix : P.follows .mixedOrders = true) {f : FuncId} {fn : Func} {c : Code} {args : List Value} {H : Heap} {R : Value → Heap → Prop} {k : Nat} {rs : List ResultVar}
    (hf : P.funcs[f]? = some fn) (hb : fn.body = some c) (hcall : ∀ args w, (callFunc f args).run P w = .ok (.enter f args) w) (hn : fn.ntmps = args.length + k) (hr : fn.results = rs.toArray)
    (hok : okCodeR π c) {l0 : List Value} (hl0 : l0 = args ++ List.replicate k undef) (h : wpR τ P π c (retQ τ rs R) (retQM τ rs R) l0 H) : EvL P f args.toArray H R := by
  subst hl0
  refine ⟨hcall _, fun w hw => ?_⟩
  subst hw
  have hargs : (args.toArray ++ Array.replicate (fn.ntmps - args.toArray.size) undef) = (args ++ List.replicate k undef).toArray := by
    rw [hn]; simp
  have h1 := wpR_sound hτ hmix c _ _ _ w hok h
  have h2 : CallsIn (Fr none) 0 P f args.toArray w fun e w' => ∃ v, e = .returned v ∧ R v w'.hp := by
    refine callsIn_of_wp_marks hf hb trivial ?_
    rw [hargs]
    refine wpIn_mono h1 ?_
    rintro e a w' ⟨hc, ⟨l, rfl, hq⟩ | ⟨l, m, rfl, hq⟩⟩
    · cases e with
      | normal => exact res_of hτ hr hq
      | ret => exact res_of hτ hr hq
      | exit id => exact hq.elim
      | goto id => exact hq.elim
      | panic c => exact hc.elim
      | outgrown => exact hc.elim
    · have last : ∀ {l : List Value} {w' : World}, (w'.hp.arr[m]? = some (.deferred (some [])) ∧ retE τ l (setO w'.hp m (.deferred none)) R rs []) →
          LeavesInM (Fr none) 0 P fn (actL l [mark m]).tmps (fun e w' => ∃ v, e = .returned v ∧ R v w'.hp) [mark m] .returning w' := by
        rintro l w' ⟨ha, hret⟩
        refine ⟨by simp, .inl ⟨m, { w' with heap := w'.heap.setIfInBounds m (.deferred none) }, rfl, ?_, ?_⟩⟩
        · rw [hp_arr] at ha
          simp [Instr.takeDeferred, getObj, setObj, Sem.run, go_sem, ha]
        · exact res_of (d := [mark m]) hτ hr (w' := { w' with heap := w'.heap.setIfInBounds m (.deferred none) }) hret
      cases e with
      | normal => exact last hq
      | ret => exact last hq
      | exit id => exact hq.elim
      | goto id => exact hq.elim
      | panic c => exact hc.elim
      | outgrown => exact hc.elim
  exact callsIn_wide.1 h2

/-- A round. -/
theorem EvY_intro (hτ : TabOK P τ) (hmix : P.follows .mixedOrders = true) {r : Loop} {lp : Nat} {args : Array Value} {t : List Value} {K : Heap} {Q : Value → Heap → Prop} (hK : K.arr[lp]? = some (.loop r)) (hs : r.state = .ready) (hp : r.pending = none)
    (hsz : args.size = r.params.size) (ht : (r.params.zip args).foldl (fun tmps (t, a) => tmps.setIfInBounds t a) r.tmps = t.toArray) (hok : okCode π r.assign ∧ okCode π r.body)
    (h : wpE τ P π r.assign (nQ fun l H => H.arr[lp]? = some (.loop r) ∧ wpE τ P π r.body (nQ fun _ H2 => H2.arr[lp]? = some (.loop (busy r)) ∧ Q (.bool true) (setO H2 lp (.loop r))) l (setO H lp (.loop (busy r)))) t K) :
    EvY P lp args K Q := by
  intro w hw
  subst hw
  refine ⟨r.fn, t.toArray, r.assign, r.body, ?_, ?_⟩
  · simp only [Instr.yield, Sem.run_bind, getO_run hK, Result.andThen, hsz, ne_eq, not_true_eq_false, if_false, Sem.run_pure]
    rw [ht]
  · refine roundIn_of_wpIn trivial ?_
    have h1 := wpE_sound (r := some lp) hτ hmix (d := []) r.assign _ t w hok.1 h
    refine wpIn_mono h1 ?_
    rintro e a w1 ⟨hc, l, rfl, hq⟩
    cases e with
    | normal =>
      obtain ⟨ha, hq⟩ := hq
      obtain ⟨w2, hs2, hw2⟩ := setO_run (P := P) (o := .loop (busy r)) ha
      refine ⟨w2, ?_, ?_⟩
      · simp only [Instr.beginRound, Sem.run_bind, getO_run ha, Result.andThen]
        rw [show ({ r with state := LoopState.busy } : Loop) = busy r from rfl, hs2]
        simp only [hs, Sem.run_pure]
      · rw [← hw2] at hq
        have h2 := wpE_sound (r := some lp) hτ hmix (d := []) r.body _ l w2 hok.2 hq
        refine wpIn_mono h2 ?_
        rintro e a w3 ⟨hc, l', rfl, hq⟩
        cases e with
        | normal =>
          obtain ⟨hb, hq⟩ := hq
          obtain ⟨w4, hs4, hw4⟩ := setO_run (P := P) (o := .loop r) hb
          refine ⟨.bool true, w4, ?_, .bool true, rfl, by rw [hw4]; exact hq⟩
          have e1 : ({ busy r with state := if (none : Option Code).isNone then LoopState.ready else .done, pending := none } : Loop) = r := by
            cases r; simp_all [busy]
          simp only [Instr.endRound, Sem.run_bind, getO_run hb, Result.andThen]
          rw [e1, hs4]
          simp
        | ret => exact hq.elim
        | exit id => exact hq.elim
        | goto id => exact hq.elim
        | panic c => exact hc.elim
        | outgrown => exact hc.elim
    | ret => exact hq.elim
    | exit id => exact hq.elim
    | goto id => exact hq.elim
    | panic c => exact hc.elim
    | outgrown => exact hc.elim

theorem seqR {c a b : Code} {l : List Value} {H : Heap} {Q : Exit → List Value → Heap → Prop} {Qm : Nat → Exit → List Value → Heap → Prop} (e : c = .seq a b)
    (h : wpR τ P π a (thenE (fun l H => wpR τ P π b Q Qm l H) Q) (fun m => thenE (fun l H => wpE τ P π b (Qm m) l H) (Qm m)) l H) : wpR τ P π c Q Qm l H := by subst e; exact h
theorem blockR {c b : Code} {id : Nat} {l : List Value} {H : Heap} {Q : Exit → List Value → Heap → Prop} {Qm : Nat → Exit → List Value → Heap → Prop} (e : c = .block id b)
    (h : wpR τ P π b (blkE id Q) (fun m => blkE id (Qm m)) l H) : wpR τ P π c Q Qm l H := by subst e; exact h
theorem rangeR {c as bo : Code} {g : Operand} {ps : Array Tmp} {l : List Value} {H : Heap} {Q : Exit → List Value → Heap → Prop} {Qm : Nat → Exit → List Value → Heap → Prop} (e : c = .rangeFunc g ps as bo)
    (h : rfE P g ps as bo (fun m l H => Qm m .normal l H) l H) : wpR τ P π c Q Qm l H := by subst e; exact h
theorem wpR_of : ∀ (c : Code) {n : Nat} {Q : Exit → List Value → Heap → Prop} {Qm : Nat → Exit → List Value → Heap → Prop} {l : List Value} {H : Heap}, l.length = n → wpE τ P π c Q l H → wpR τ P π c Q Qm l H
  | .seq a b, n, Q, Qm, l, H, hl, h => wpR_of a hl (wpE_mono a l H hl (fun e l' H' hl' h => by
      cases e with
      | normal => exact wpR_of b hl' h
      | _ => exact h) h)
  | .block _ b, n, Q, Qm, l, H, hl, h => wpR_of b hl h
  | .rangeFunc _ _ _ _, _, _, _, _, _, _, h => h.elim
  | .region id ops true, _, _, _, _, _, _, h => h
  | .region id ops false, _, _, _, _, _, _, h => h
  | .cond o a b, _, _, _, _, _, _, h => h
  | .loop b, _, _, _, _, _, _, h => h
  | .skip, _, _, _, _, _, _, h => h
  | .label _, _, _, _, _, _, _, h => h
  | .exit _, _, _, _, _, _, _, h => h
  | .ret, _, _, _, _, _, _, h => h
  | .scope _, _, _, _, _, _, _, h => h.elim
  | .goto _, _, _, _, _, _, _, h => h.elim
  | .refuse _, _, _, _, _, _, _, h => h.elim
end

/-! ### slices.overlaps -/
theorem EvF_overlaps {P : Program} {f : FuncId} {fn : Func} {tS tR e : TypeId} {i : TypeInfo} (hf : P.funcs[f]? = some fn) (hname : (fn.name == "runtime.NumGoroutine") = false)
    (hb : fn.body.isNone = true) (hn : Extern.findNext fn = none) (he : Extern.find fn = some (Extern.SlicesOverlaps.overlaps #[tS, tS] #[tR])) (ht : P.underlying tS = some (.slice e)) (hi : P.info? e = some i)
    {a b oa ob la ca lb cb : Nat} {x y : Array Value} {H : Heap} {R : Value → Heap → Prop} (hne : a ≠ b) (ha : own H a = some x) (hy : own H b = some y) (h0 : y.size ≠ 0) (hR : R (.bool false) H) :
    EvF P f #[.slice (some ⟨a, oa, none⟩) la ca, .slice (some ⟨b, ob, none⟩) lb cb] H R := by
  refine .inr fun w hw => ⟨.bool false, w, ?_, by rw [hw]; exact hR⟩
  subst hw
  have sh : ∀ {b c}, own w.hp b = some c → ∃ t, w.shape? b = some (t, c.size) := fun {b c} h => by
    unfold own at h
    split at h
    · rename_i hb
      split at h
      · cases h; rw [hp_arr] at hb; exact ⟨_, by unfold World.shape?; rw [hb]⟩
      · cases h
    · cases h
  obtain ⟨tA, hsa⟩ := sh ha
  obtain ⟨tB, hsb⟩ := sh hy
  rw [run_callFunc_extern hf hname hb hn he, Lib.run_overlaps_apart w tS tR e ht i.size (fun w => size_run hi) ⟨a, oa, none⟩ ⟨b, ob, none⟩ la ca lb cb hne tA tB x.size y.size hsa hsb h0 (own_frozen ha) (own_frozen ha)]
  rfl
end Go.Hc
