/- The heap calculus, part F: one operation as a whole. -/
import Derived.Test.YtbchcnmghcmaoaaHcE
set_option linter.unusedSimpArgs false
set_option linter.unusedVariables false
namespace Go.Hc
open Go

/-- What the table says is so. -/
def TabOK (P : Program) (τ : Tab) : Prop :=
  (∀ t ti, τ.ti t = some ti → P.info? t = some ti.info ∧ P.underlying t = some ti.desc ∧ (∀ z, ti.info.zero = some z → z.cells.size = ti.info.size)) ∧
  ∀ t m, τ.eqs t = some m → EqOK P t m

def callV (P : Program) (f : Value) (args : List Value) (H : Heap) (k : Value → Heap → Prop) : Prop :=
  match f with
  | .func (.func f) first cap => EvF P f (first.toList ++ args ++ cap.toList).toArray H k
  | .func (.yield l) first _ => EvY P l (first.toList ++ args).toArray H k
  | _ => False

def eqM (τ : Tab) (t : TypeId) : EqM :=
  match τ.eqs t with
  | some m => .agg m
  | none => match τ.ti t with
    | some ti => match ti.desc with
      | .bool => .bool
      | .pointer _ => .ptr
      | .slice _ => .slice
      | _ => .int
    | none => .int

def elemE (τ : Tab) (t : TypeId) (k : TypeId → TI → Prop) : Prop :=
  match τ.ti t with
  | some ti => match ti.desc with
    | .slice e => match τ.ti e with
      | some te => k e te
      | none => False
    | _ => False
  | none => False

def biE (τ : Tab) (b : Builtin) (ats : List TypeId) (args : List Value) (H : Heap) (k : Value → Heap → Prop) : Prop :=
  match b, ats, args with
  | .len, t :: _, [x] => elemE τ t fun _ _ => bnd (lenV x) fun v => k v H
  | .cap, t :: _, [x] => elemE τ t fun _ _ => bnd (capV x) fun v => k v H
  | .min, _, x :: l => bnd (foldV min2V x l) fun v => k v H
  | .max, _, x :: l => bnd (foldV max2V x l) fun v => k v H
  | .append, [t, t2], [s, x] => match τ.ti t2 with
    | some ti2 => match ti2.desc with
      | .slice _ => elemE τ t fun e te => match te.info.zero with
        | some z => appE e z.cells te.info.size te.info.bytes s x H k
        | none => False
      | .int _ => elemE τ t fun e te => match te.info.zero with
        | some z => appZE e z.cells te.info.size te.info.bytes s x H k
        | none => False
      | _ => False
    | none => False
  | .copy, [t, _], [d, s] => elemE τ t fun _ te => cpyE te.info.size d s H k
  | .clear, [t], [x] => elemE τ t fun _ te => match te.info.zero with
    | some z => clrE z.cells x H k
    | none => False
  | _, _, _ => False

def opE (τ : Tab) (P : Program) (op : Op) (ρ : Operand → Value) (H : Heap) (k : Value → Heap → Prop) : Prop :=
  match op with
  | .move x | .assign x => k (ρ x) H
  | .pick c a b => pickE (ρ c) (ρ a) (ρ b) H k
  | .alloc t => match τ.ti t with
    | some ti => match ti.info.zero with
      | some z => k (adr H) (newB H t z.cells)
      | none => False
    | none => False
  | .box t x => k (adr H) (newB H t (ρ x).cells)
  | .build t parts => match τ.ti t with
    | some ti => match ti.desc, ti.info.zero with
      | .struct fs, some z => match fs.toList.mapM (fun f => (τ.ti f.type).map fun j => (f.offset, j.info.size)) with
        | some pl => bnd (buildV z.cells (places pl) (parts.toList.map fun p => (p.1, ρ p.2))) fun v => k v H
        | none => False
      | .array _ e, some z => match τ.ti e with
        | some te => bnd (buildV z.cells (every te.info.size) (parts.toList.map fun p => (p.1, ρ p.2))) fun v => k v H
        | none => False
      | _, _ => False
    | none => False
  | .buildSlice t len parts => elemE τ t fun e te => match te.info.zero with
    | some z => bslE e z.cells te.info.size len (parts.toList.map fun p => (p.1, ρ p.2)) H k
    | none => False
  | .load t x => match τ.ti t with
    | some ti => bnd (ldE (isAggD ti.desc) ti.info.size (ρ x) H) fun v => k v H
    | none => False
  | .store t x y => match τ.ti t with
    | some ti => bnd (stE ti.info.size (ρ x) (ρ y) H) fun H' => k undef H'
    | none => False
  | .nilCheck x => bnd (nilV (ρ x)) fun v => k v H
  | .binOp op t x y _ => bnd (binV (eqM τ t) op (ρ x) (ρ y)) fun v => k v H
  | .unOp op _ x => bnd (unV op (ρ x)) fun v => k v H
  | .convert s t x => match τ.ti s, τ.ti t with
    | some _, some ti => match ti.desc with
      | .int kd => bnd (cvV kd (ρ x)) fun v => k v H
      | _ => False
    | _, _ => False
  | .makeFunc fn first cap => k (.func fn (first.toList.map ρ).toArray (cap.toList.map ρ).toArray) H
  | .makeSlice t l c => elemE τ t fun e te => match te.info.zero with
    | some z => mslE e z.cells te.info.bytes (ρ l) (ρ c) H k
    | none => False
  | .slice t x lo hi mx => match mx with
    | none => elemE τ t fun _ te => bnd (sliceV te.info.size (ρ x) (lo.map ρ) (hi.map ρ)) fun v => k v H
    | some mx => match hi with
      | some hi => elemE τ t fun _ te => bnd (sliceV3 te.info.size (ρ x) (lo.map ρ) (ρ hi) (ρ mx)) fun v => k v H
      | none => False
  | .fieldAddr s x f => match τ.ti s with
    | some ti => match ti.desc with
      | .struct fs => match fs.toList[f]? with
        | some fd => match τ.ti fd.type with
          | some tf => match Nat.beq tf.info.size 0 with
            | true => False
            | false => bnd (faV fd.offset (ρ x)) fun v => k v H
          | none => False
        | none => False
      | _ => False
    | none => False
  | .field s x f => match τ.ti s with
    | some ti => match ti.desc with
      | .struct fs => match fs.toList[f]? with
        | some fd => match τ.ti fd.type with
          | some tf => bnd (fieldV (isAggD tf.desc) tf.info.size fd.offset (ρ x)) fun v => k v H
          | none => False
        | none => False
      | _ => False
    | none => False
  | .indexAddr t x i => match τ.ti t with
    | some ti => match ti.desc with
      | .slice e => match τ.ti e with
        | some te => bnd (ixSV te.info.size (ρ x) (ρ i)) fun v => k v H
        | none => False
      | .array n e => match τ.ti e with
        | some te => bnd (ixAV te.info.size n (ρ x) (ρ i)) fun v => k v H
        | none => False
      | _ => False
    | none => False
  | .index t x i => match τ.ti t with
    | some ti => match ti.desc with
      | .array n e => match τ.ti e with
        | some te => bnd (indexV (isAggD te.desc) te.info.size n (ρ x) (ρ i)) fun v => k v H
        | none => False
      | _ => False
    | none => False
  | .extract x i => bnd (exV i (ρ x)) fun v => k v H
  | .call c => match c.callee with
    | .value f => callV P (ρ f) (c.args.toList.map ρ) H k
    | .builtin b => biE τ b c.argTypes.toList (c.args.toList.map ρ) H k
    | .invoke _ _ => False
  | _ => False

section
variable {P : Program} {τ : Tab}

theorem elemE_spec (hτ : TabOK P τ) {t : TypeId} {k : TypeId → TI → Prop} (h : elemE τ t k) :
    ∃ e te, P.underlying t = some (.slice e) ∧ P.info? e = some te.info ∧ (∀ z, te.info.zero = some z → z.cells.size = te.info.size) ∧ k e te := by
  unfold elemE at h
  split at h
  · rename_i ti ht
    split at h
    · rename_i e hd
      split at h
      · rename_i te he
        have h1 := hτ.1 _ _ ht
        have h2 := hτ.1 _ _ he
        exact ⟨e, te, by rw [h1.2.1, hd], h2.1, h2.2.2, h⟩
      · exact h.elim
    · exact h.elim
  · exact h.elim
theorem eqM_spec (hτ : TabOK P τ) (t : TypeId) : match eqM τ t with
    | .int => True
    | .bool => P.underlying t = some .bool
    | .ptr => ∃ e, P.underlying t = some (.pointer e)
    | .slice => ∃ e, P.underlying t = some (.slice e)
    | .agg m => EqOK P t m := by
  unfold eqM
  cases hm : τ.eqs t with
  | some m => exact hτ.2 t m hm
  | none =>
    cases ht : τ.ti t with
    | none => trivial
    | some ti =>
      have h1 := (hτ.1 _ _ ht).2.1
      dsimp only
      cases hd : ti.desc <;> rw [hd] at h1 <;> dsimp only <;> first | exact trivial | exact h1 | exact ⟨_, h1⟩

/-- Operations that leave the world alone. -/
def quietOp : Op → Bool
  | .move _ | .assign _ | .pick .. | .build .. | .load .. | .nilCheck _ | .binOp .. | .unOp .. | .convert .. | .makeFunc .. | .slice .. | .fieldAddr .. | .field ..
  | .indexAddr .. | .index .. | .extract .. => true
  | .call { callee := .builtin .len, .. } | .call { callee := .builtin .cap, .. } | .call { callee := .builtin .min, .. } | .call { callee := .builtin .max, .. } => true
  | _ => false
/-- What an operation that is no call comes to. -/
theorem opE_value (hτ : TabOK P τ) {o : Oper} {ρ : Operand → Value} {w : World} {k : Value → Heap → Prop} (h : opE τ P o.op ρ w.hp k)
    (hc : ∀ c f, o.op = .call c → c.callee = .value f → False) :
    ∃ v w', ((execOp ρ o).run P w = .ok (.value v) w' ∨ ((execOp ρ o).run P w = .ok .skip w' ∧ v = undef)) ∧ k v w'.hp ∧ (quietOp o.op = true → (execOp ρ o).run P w = .ok (.value v) w) := by
  obtain ⟨dst, op, ty, pos, after, guard⟩ := o
  have val : ∀ {s : Sem Value} {v : Value} {w' : World}, s.run P w = .ok v w' → (do pure (.value (← s)) : Sem Next).run P w = .ok (.value v) w' := by
    intro s v w' hs; simp only [Sem.run_bind, hs, Result.andThen, Sem.run_pure]
  have fin : ∀ (q : Prop) {s : Sem Value} {v : Value}, s.run P w = .ok v w → k v w.hp →
      ∃ v' w', ((do pure (.value (← s)) : Sem Next).run P w = .ok (.value v') w' ∨ ((do pure (.value (← s)) : Sem Next).run P w = .ok .skip w' ∧ v' = undef)) ∧ k v' w'.hp ∧
        (q → (do pure (.value (← s)) : Sem Next).run P w = .ok (.value v') w) := fun q s v hs hk => ⟨v, w, .inl (val hs), hk, fun _ => val hs⟩
  cases op <;> delta opE at h <;> dsimp only at h <;> delta execOp <;> dsimp only
  case move x => exact ⟨_, w, .inl (by simp only [Sem.run_pure]), h, fun _ => by simp only [Sem.run_pure]⟩
  case assign x => exact ⟨_, w, .inl (by simp only [Sem.run_pure]), h, fun _ => by simp only [Sem.run_pure]⟩
  case pick c a b =>
    unfold pickE at h
    split at h
    · rename_i hc'
      have h1 : (do pure (.value (if ← asBool (ρ c) then ρ a else ρ b)) : Sem Next).run P w = .ok (.value (ρ a)) w := by simp [hc', asBool, go_sem]
      exact ⟨_, w, .inl h1, h, fun _ => h1⟩
    · rename_i hc'
      have h1 : (do pure (.value (if ← asBool (ρ c) then ρ a else ρ b)) : Sem Next).run P w = .ok (.value (ρ b)) w := by simp [hc', asBool, go_sem]
      exact ⟨_, w, .inl h1, h, fun _ => h1⟩
    · exact h.elim
  case alloc t =>
    split at h
    · rename_i ti ht
      split at h
      · rename_i z hz
        obtain ⟨w', h1, h2⟩ := alloc_run (w := w) (hτ.1 _ _ ht).1 hz
        exact ⟨_, w', .inl (val h1), by rw [h2]; exact h, fun hq => by cases hq⟩
      · exact h.elim
    · exact h.elim
  case box t x =>
    obtain ⟨w', h1, h2⟩ := box_run (P := P) (w := w) t (ρ x)
    exact ⟨_, w', .inl (val h1), by rw [h2]; exact h, fun hq => by cases hq⟩
  case build t parts =>
    split at h
    · rename_i ti ht
      have hT := hτ.1 _ _ ht
      split at h
      · rename_i fs z hd hz
        split at h
        · rename_i pl hpl
          obtain ⟨v, hv, hk⟩ := h
          suffices h1 : _ from ⟨v, w, .inl (val h1), hk, fun _ => val h1⟩
          refine build_run hT.1 hz (by rw [hT.2.1, hd]) (pl := pl) ?_ ?_
          · rw [← hpl]
            have key : ∀ (l : List Field) (q : List (Nat × Nat)), l.mapM (fun f => (τ.ti f.type).map fun j => (f.offset, j.info.size)) = some q →
                l.mapM (fun f => (P.info? f.type).map fun j => (f.offset, j.size)) = some q := by
              intro l
              induction l with
              | nil => intro q hq; exact hq
              | cons f l ih =>
                intro q hq
                simp only [List.mapM_cons] at hq ⊢
                cases hf : τ.ti f.type with
                | none => simp [hf] at hq
                | some j =>
                  rw [(hτ.1 _ _ hf).1]
                  simp only [hf, Option.map_some] at hq ⊢
                  cases hl : l.mapM (fun f => (τ.ti f.type).map fun j => (f.offset, j.info.size)) with
                  | none => simp [hl] at hq
                  | some q' => rw [ih q' hl]; rw [hl] at hq; exact hq
            rw [hpl]; exact key _ _ hpl
          · simpa using hv
        · exact h.elim
      · rename_i n e z hd hz
        split at h
        · rename_i te he
          obtain ⟨v, hv, hk⟩ := h
          suffices h1 : _ from ⟨v, w, .inl (val h1), hk, fun _ => val h1⟩
          exact build_run_arr hT.1 hz (by rw [hT.2.1, hd]) (hτ.1 _ _ he).1 (by simpa using hv)
        · exact h.elim
      · exact h.elim
    · exact h.elim
  case buildSlice t len parts =>
    obtain ⟨e, te, h1, h2, h3, h⟩ := elemE_spec hτ h
    split at h
    · rename_i z hz
      obtain ⟨v, w', r1, r2⟩ := bslE_run (P := P) (w := w) (parts := parts.map fun p => (p.1, ρ p.2)) h1 h2 hz (h3 z hz) (by simpa using h)
      exact ⟨v, w', .inl (val r1), r2, fun hq => by cases hq⟩
    · exact h.elim
  case load t x =>
    split at h
    · rename_i ti ht
      obtain ⟨v, hv, hk⟩ := h
      exact fin _ (ldE_run (hτ.1 _ _ ht).1 (hτ.1 _ _ ht).2.1 hv) hk
    · exact h.elim
  case store t x y =>
    split at h
    · rename_i ti ht
      obtain ⟨H', hv, hk⟩ := h
      obtain ⟨w', h1, h2⟩ := stE_run (P := P) (hτ.1 _ _ ht).1 hv
      exact ⟨_, w', .inr ⟨by simp only [Sem.run_bind, h1, Result.andThen, Sem.run_pure], rfl⟩, by rw [h2]; exact hk, fun hq => by cases hq⟩
    · exact h.elim
  case nilCheck x =>
    obtain ⟨v, hv, hk⟩ := h
    suffices h1 : _ from ⟨v, w, .inl h1, hk, fun _ => h1⟩
    unfold nilV at hv
    split at hv
    · rename_i hx; cases hv; simp [hx, go_sem]
    · rename_i hx; cases hv; simp [hx, go_sem]
    · rename_i hx; cases hv; simp [hx, go_sem]
    · cases hv
  case binOp op t x y yt =>
    obtain ⟨v, hv, hk⟩ := h
    exact fin _ (binV_run (eqM_spec hτ t) hv) hk
  case unOp op t x =>
    obtain ⟨v, hv, hk⟩ := h
    exact fin _ (unV_run hv) hk
  case convert s t x =>
    split at h
    · rename_i si ti hs ht
      split at h
      · rename_i kd hd
        obtain ⟨v, hv, hk⟩ := h
        exact fin _ (cvV_run (hτ.1 _ _ hs).2.1 (by rw [(hτ.1 _ _ ht).2.1, hd]) hv) hk
      · exact h.elim
    · exact h.elim
  case makeFunc fn first cap =>
    suffices h1 : (Instr.makeFunc fn (first.map ρ) (cap.map ρ)).run P w = _ from ⟨_, w, .inl (val h1), h, fun _ => val h1⟩
    simp only [Instr.makeFunc, Sem.run_pure, Result.ok.injEq, and_true]
    congr 1 <;> apply Array.ext' <;> simp
  case makeSlice t l c =>
    obtain ⟨e, te, h1, h2, h3, h⟩ := elemE_spec hτ h
    split at h
    · rename_i z hz
      obtain ⟨v, w', r1, r2⟩ := mslE_run (P := P) (w := w) h1 h2 hz (h3 z hz) h
      exact ⟨v, w', .inl (val r1), r2, fun hq => by cases hq⟩
    · exact h.elim
  case slice t x lo hi mx =>
    cases mx with
    | some m =>
      cases hi with
      | none => exact h.elim
      | some hi =>
        try dsimp only at h
        obtain ⟨e, te, h1, h2, h3, v, hv, hk⟩ := elemE_spec hτ h
        exact fin _ (sliceV3_run h1 h2 hv) hk
    | none =>
      try dsimp only at h
      obtain ⟨e, te, h1, h2, h3, v, hv, hk⟩ := elemE_spec hτ h
      exact fin _ (sliceV_run h1 h2 hv) hk
  case fieldAddr s x f =>
    split at h
    · rename_i ti ht
      split at h
      · rename_i fs hd
        split at h
        · rename_i fd hf
          split at h
          · rename_i tf hft
            split at h
            · exact h.elim
            · rename_i h0
              obtain ⟨v, hv, hk⟩ := h
              exact fin _ (faV_run (by rw [(hτ.1 _ _ ht).2.1, hd]) (by simpa using hf) (hτ.1 _ _ hft).1 (Nat.ne_of_beq_eq_false h0) hv) hk
          · exact h.elim
        · exact h.elim
      · exact h.elim
    · exact h.elim
  case field s x f =>
    split at h
    · rename_i ti ht
      split at h
      · rename_i fs hd
        split at h
        · rename_i fd hf
          split at h
          · rename_i tf hft
            obtain ⟨v, hv, hk⟩ := h
            exact fin _ (fieldV_run (by rw [(hτ.1 _ _ ht).2.1, hd]) (by simpa using hf) (hτ.1 _ _ hft).1 (hτ.1 _ _ hft).2.1 hv) hk
          · exact h.elim
        · exact h.elim
      · exact h.elim
    · exact h.elim
  case indexAddr t x i =>
    split at h
    · rename_i ti ht
      split at h
      · rename_i e hd
        split at h
        · rename_i te he
          obtain ⟨v, hv, hk⟩ := h
          exact fin _ (ixSV_run (by rw [(hτ.1 _ _ ht).2.1, hd]) (hτ.1 _ _ he).1 hv) hk
        · exact h.elim
      · rename_i n e hd
        split at h
        · rename_i te he
          obtain ⟨v, hv, hk⟩ := h
          exact fin _ (ixAV_run (by rw [(hτ.1 _ _ ht).2.1, hd]) (hτ.1 _ _ he).1 hv) hk
        · exact h.elim
      · exact h.elim
    · exact h.elim
  case index t x i =>
    split at h
    · rename_i ti ht
      split at h
      · rename_i n e hd
        split at h
        · rename_i te he
          obtain ⟨v, hv, hk⟩ := h
          exact fin _ (indexV_run (by rw [(hτ.1 _ _ ht).2.1, hd]) (hτ.1 _ _ he).1 (hτ.1 _ _ he).2.1 hv) hk
        · exact h.elim
      · exact h.elim
    · exact h.elim
  case extract x i =>
    obtain ⟨v, hv, hk⟩ := h
    exact fin _ (exV_run hv) hk
  case call c =>
    split at h
    · rename_i f hf; exact (hc c f rfl hf).elim
    · rename_i b hb
      have hnq : ∀ b, c.callee = .builtin b → quietOp (.call c) = true → b = .len ∨ b = .cap ∨ b = .min ∨ b = .max := by
        obtain ⟨ce, a1, a2⟩ := c
        rintro b rfl
        cases b <;> simp [quietOp]
      have hargs : c.args.map ρ = (c.args.toList.map ρ).toArray := by apply Array.ext'; simp
      have hats : c.argTypes = c.argTypes.toList.toArray := by simp
      obtain ⟨cs, hrun⟩ : ∃ cs, (do let d ← resolve ρ c ty; invoke d.target d.args : Sem Next).run P w = (builtin b c.argTypes ty cs (c.args.map ρ)).run P w := by
        simp only [resolve, hb, Sem.run_bind, Sem.run_pure, Result.andThen, invoke]
        exact ⟨_, rfl⟩
      rw [hrun, hargs, hats]
      generalize c.argTypes.toList = ats at h ⊢
      generalize c.args.toList.map ρ = as at h ⊢
      unfold biE at h
      split at h
      · rename_i t l x
        obtain ⟨e, te, h1, h2, h3, v, hv, hk⟩ := elemE_spec hτ h
        unfold builtin; exact fin _ (lenV_run (ats := (t :: l).toArray) rfl h1 hv) hk
      · rename_i t l x
        obtain ⟨e, te, h1, h2, h3, v, hv, hk⟩ := elemE_spec hτ h
        unfold builtin; exact fin _ (capV_run (ats := (t :: l).toArray) rfl h1 hv) hk
      · obtain ⟨v, hv, hk⟩ := h
        unfold builtin; exact fin _ (min_run hv) hk
      · obtain ⟨v, hv, hk⟩ := h
        unfold builtin; exact fin _ (max_run hv) hk
      · split at h
        · rename_i t t2 _ _ ti2 ht2
          split at h
          · rename_i e2 hd2
            obtain ⟨e, te, h1, h2, h3, h⟩ := elemE_spec hτ h
            split at h
            · rename_i z hz
              obtain ⟨v, w', r1, r2⟩ := appE_run (P := P) (w := w) (ty := ty) h1 (by rw [(hτ.1 _ _ ht2).2.1, hd2]) h2 hz h
              exact ⟨v, w', .inl (by unfold builtin; exact val r1), r2, fun hq => by rcases hnq _ hb hq with e | e | e | e <;> cases e⟩
            · exact h.elim
          · rename_i ik hd2
            obtain ⟨e, te, h1, h2, h3, h⟩ := elemE_spec hτ h
            split at h
            · rename_i z hz
              obtain ⟨v, w', r1, r2⟩ := appZE_run (P := P) (w := w) (ty := ty) h1 (by rw [(hτ.1 _ _ ht2).2.1, hd2]) h2 hz (h3 z hz) h
              exact ⟨v, w', .inl (by unfold builtin; exact val r1), r2, fun hq => by rcases hnq _ hb hq with e | e | e | e <;> cases e⟩
            · exact h.elim
          · exact h.elim
        · exact h.elim
      · obtain ⟨e, te, h1, h2, h3, h⟩ := elemE_spec hτ h
        obtain ⟨v, w', r1, r2⟩ := cpyE_run (P := P) (w := w) (ty := ty) h1 h2 h
        exact ⟨v, w', .inl (by unfold builtin; exact val r1), r2, fun hq => by rcases hnq _ hb hq with e | e | e | e <;> cases e⟩
      · obtain ⟨e, te, h1, h2, h3, h⟩ := elemE_spec hτ h
        split at h
        · rename_i z hz
          obtain ⟨v, w', r1, r2⟩ := clrE_run (P := P) (w := w) (ty := ty) h1 h2 hz h
          exact ⟨v, w', .inl (by unfold builtin; exact val r1), r2, fun hq => by rcases hnq _ hb hq with e | e | e | e <;> cases e⟩
        · exact h.elim
      · exact h.elim
    · exact h.elim
  all_goals exact h.elim
end
end Go.Hc
