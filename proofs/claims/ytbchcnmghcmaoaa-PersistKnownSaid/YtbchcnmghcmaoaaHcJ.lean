/- The heap calculus, part J: what is asked of the frame is monotone; the pieces that the printed texts are put together of. -/
import Derived.Test.YtbchcnmghcmaoaaHcI
set_option linter.unusedSimpArgs false
set_option linter.unusedVariables false
namespace Go.Hc
open Go

section
variable {P : Program} {τ : Tab} {π : Nat → Pl}

theorem elemE_mono {t : TypeId} {k k' : TypeId → TI → Prop} (hk : ∀ e te, k e te → k' e te) (h : elemE τ t k) : elemE τ t k' := by
  unfold elemE at h ⊢
  revert h
  cases τ.ti t with
  | none => exact id
  | some ti =>
    dsimp only
    cases ti.desc <;> dsimp only <;> first | exact id | skip
    rename_i e
    cases τ.ti e with
    | none => exact id
    | some te => exact hk e te
theorem callV_mono {f : Value} {args : List Value} {H : Heap} {k k' : Value → Heap → Prop} (hk : ∀ v H, k v H → k' v H) (h : callV P f args H k) : callV P f args H k' := by
  unfold callV at h ⊢
  split at h
  · exact h.mono hk
  · rename_i l first cap
    intro w hw
    obtain ⟨fn, tm, as, bo, h1, h2⟩ := h w hw
    exact ⟨fn, tm, as, bo, h1, h2.mono fun e w' ⟨v, he, hv⟩ => ⟨v, he, hk _ _ hv⟩⟩
  · exact h.elim
theorem bslE_mono {t : TypeId} {z : Array Value} {s n : Nat} {ps : List (Nat × Value)} {H : Heap} {k k' : Value → Heap → Prop} (hk : ∀ v H, k v H → k' v H) (h : bslE t z s n ps H k) : bslE t z s n ps H k' :=
  ⟨h.1, bnd_mono h.2 fun _ => hk _ _⟩
theorem mslE_mono {t : TypeId} {z : Array Value} {s : Nat} {l c : Value} {H : Heap} {k k' : Value → Heap → Prop} (hk : ∀ v H, k v H → k' v H) (h : mslE t z s l c H k) : mslE t z s l c H k' := by
  unfold mslE at h ⊢
  split at h
  · exact ⟨h.1, hk _ _ h.2⟩
  · exact h.elim
theorem appE_mono {t : TypeId} {z : Array Value} {s n : Nat} {l c : Value} {H : Heap} {k k' : Value → Heap → Prop} (hk : ∀ v H, k v H → k' v H) (h : appE t z s n l c H k) : appE t z s n l c H k' := by
  unfold appE at h ⊢
  split at h
  · refine bnd_mono h fun new h => ?_
    split at h
    · rename_i hle
      rw [if_pos hle]
      exact bnd_mono h fun _ => hk _ _
    · rename_i hle
      rw [if_neg hle]
      exact bnd_mono h fun _ h => ⟨h.1, fun c h1 h2 => hk _ _ (h.2 c h1 h2)⟩
  · exact h.elim
theorem appZE_mono {t : TypeId} {z : Array Value} {s n : Nat} {l c : Value} {H : Heap} {k k' : Value → Heap → Prop} (hk : ∀ v H, k v H → k' v H) (h : appZE t z s n l c H k) : appZE t z s n l c H k' := by
  unfold appZE at h ⊢
  split at h
  · refine ⟨h.1, ?_⟩
    have h := h.2
    split at h
    · rename_i hle
      rw [if_pos hle]
      exact bnd_mono h fun _ => hk _ _
    · rename_i hle
      rw [if_neg hle]
      exact bnd_mono h fun _ h => ⟨h.1, fun c h1 h2 => hk _ _ (h.2 c h1 h2)⟩
  · exact h.elim
theorem cpyE_mono {s : Nat} {l c : Value} {H : Heap} {k k' : Value → Heap → Prop} (hk : ∀ v H, k v H → k' v H) (h : cpyE s l c H k) : cpyE s l c H k' := by
  unfold cpyE at h ⊢
  split at h
  · exact bnd_mono h fun _ h => bnd_mono h fun _ => hk _ _
  · exact h.elim
theorem clrE_mono {z : Array Value} {c : Value} {H : Heap} {k k' : Value → Heap → Prop} (hk : ∀ v H, k v H → k' v H) (h : clrE z c H k) : clrE z c H k' := by
  unfold clrE at h ⊢
  split at h
  · exact hk _ _ h
  · split at h
    · rename_i h0; rw [if_pos h0]; exact hk _ _ h
    · rename_i h0; rw [if_neg h0]; exact bnd_mono h fun _ => hk _ _
  · exact h.elim
theorem opE_mono {op : Op} {ρ : Operand → Value} {H : Heap} {k k' : Value → Heap → Prop} (hk : ∀ v H, k v H → k' v H) (h : opE τ P op ρ H k) : opE τ P op ρ H k' := by
  by_cases hq : quietOp op = true
  · by_cases hl : ∃ t x, op = .load t x
    · obtain ⟨t, x, rfl⟩ := hl
      delta opE at h ⊢
      dsimp only at h ⊢
      revert h
      cases τ.ti t with
      | none => exact id
      | some ti => exact fun h => bnd_mono h fun _ => hk _ _
    · obtain ⟨o, ho⟩ := asks_op (τ := τ) (P := P) (ρ := ρ) hq (fun t x e => hl ⟨t, x, e⟩)
      exact (ho H k').2 (bnd_mono ((ho H k).1 h) fun _ => hk _ _)
  · revert h
    cases op <;> (try exact absurd rfl hq) <;> delta opE <;> (try dsimp only) <;> (try exact id)
    case alloc t =>
      cases τ.ti t with
      | none => exact id
      | some ti =>
        dsimp only
        cases ti.info.zero with
        | none => exact id
        | some z => exact hk _ _
    case box => exact hk _ _
    case buildSlice =>
      refine elemE_mono fun e te => ?_
      cases te.info.zero with
      | none => exact id
      | some z => exact bslE_mono hk
    case store t x y =>
      cases τ.ti t with
      | none => exact id
      | some ti => exact fun h => bnd_mono h fun _ => hk _ _
    case makeSlice =>
      refine elemE_mono fun e te => ?_
      cases te.info.zero with
      | none => exact id
      | some z => exact mslE_mono hk
    case call c =>
      obtain ⟨ce, as, ats⟩ := c
      cases ce with
      | value f => exact callV_mono hk
      | invoke f m => exact id
      | builtin b =>
        dsimp only
        unfold biE
        intro h
        split at h
        · exact elemE_mono (fun _ _ h => bnd_mono h fun _ => hk _ _) h
        · exact elemE_mono (fun _ _ h => bnd_mono h fun _ => hk _ _) h
        · exact bnd_mono h fun _ => hk _ _
        · exact bnd_mono h fun _ => hk _ _
        · split at h
          · split at h
            · refine elemE_mono (fun e te => ?_) h
              cases te.info.zero with
              | none => exact id
              | some z => exact appE_mono hk
            · refine elemE_mono (fun e te => ?_) h
              cases te.info.zero with
              | none => exact id
              | some z => exact appZE_mono hk
            · exact h.elim
          · exact h.elim
        · exact elemE_mono (fun _ _ => cpyE_mono hk) h
        · refine elemE_mono (fun e te => ?_) h
          cases te.info.zero with
          | none => exact id
          | some z => exact clrE_mono hk
        · exact h.elim

theorem putL_len (l : List Value) (d : Option Tmp) (v : Value) : (putL l d v).length = l.length := by cases d <;> simp [putL]
theorem brG_mono {c : Value} {A B U A' B' U' : Prop} (h : brG c A B U) (ha : A → A') (hb : B → B') (hu : U → U') : brG c A' B' U' := by
  rcases brG_cases h with ⟨rfl, h⟩ | ⟨rfl, h⟩ | ⟨⟨vs, rfl⟩, h⟩
  · exact ha h
  · exact hb h
  · exact hu h
theorem brV_mono {c : Value} {A B A' B' : Prop} (h : brV c A B) (ha : A → A') (hb : B → B') : brV c A' B' := brG_mono h ha hb id
theorem gU_mono {g : Option (Nat × Bool)} {U U' : Prop} (h : gU g U) (hu : U → U') : gU g U' := by
  unfold gU at *; split at h
  · exact h
  · exact hu h
theorem guardE_mono {ops : List Oper} {l : List Value} {g : Option (Nat × Bool)} {A B A' B' : List Value → Prop} (h : guardE ops l g A B)
    (ha : ∀ l', l'.length = l.length → A l' → A' l') (hb : ∀ l', l'.length = l.length → B l' → B' l') : guardE ops l g A' B' := by
  unfold guardE at h ⊢
  split at h
  · exact ha _ rfl h
  · split at h
    · split at h
      · split at h
        · exact brG_mono h (ha _ (by simp)) (hb _ (by simp)) fun h => gU_mono h (hb _ rfl)
        · exact brG_mono h (hb _ (by simp)) (ha _ (by simp)) fun h => gU_mono h (hb _ rfl)
      · exact h.elim
    · exact h.elim
theorem seqE_mono {ops : List Oper} {n : Nat} {K K' : List Value → Heap → Prop} (hk : ∀ l H, l.length = n → K l H → K' l H) : ∀ (rest : List Oper) (l : List Value) (H : Heap), l.length = n →
    seqE τ P ops K rest l H → seqE τ P ops K' rest l H
  | [], l, H, hl, h => hk l H hl h
  | o :: rest, l, H, hl, h => guardE_mono h
      (fun l' hl' h => opE_mono (fun v H' h => seqE_mono hk rest _ H' (by rw [putL_len, hl', hl]) h) h)
      (fun l' hl' h => seqE_mono hk rest _ H (by rw [putL_len, hl', hl]) h)
theorem pendE_mono {o : Oper} {H : Heap} {K K' : Prop} (hk : K → K') : ∀ {pend : List (Nat × (Heap → Prop))}, pendE o H K pend → pendE o H K' pend
  | [], h => hk h
  | p :: l, h => by
    unfold pendE at h ⊢
    split at h
    · exact pendE_mono hk h
    · exact ⟨h.1, pendE_mono hk h.2⟩
theorem oneE_mono {ops : List Oper} {n i : Nat} {K K' : List (Nat × (Heap → Prop)) → List Value → Heap → Prop} (hk : ∀ pend l H, l.length = n → K pend l H → K' pend l H)
    {pend : List (Nat × (Heap → Prop))} {l : List Value} {H : Heap} (hl : l.length = n) (h : oneE τ P ops i K pend l H) : oneE τ P ops i K' pend l H := by
  unfold oneE at h ⊢
  split at h
  · exact h.elim
  · split at h
    · exact guardE_mono h (fun l' hl' h => opE_mono (fun v H' h => hk _ _ _ (by rw [putL_len, hl', hl]) h) h) (fun l' hl' h => hk _ _ _ (by rw [putL_len, hl', hl]) h)
    · exact guardE_mono h (fun l' hl' h => opE_mono (fun v H' h => pendE_mono (hk _ _ _ (by rw [putL_len, hl', hl])) h) h) (fun l' hl' h => hk _ _ _ (by rw [putL_len, hl', hl]) h)
theorem planE_mono {ops : List Oper} {n : Nat} {K K' : List Value → Heap → Prop} (hk : ∀ l H, l.length = n → K l H → K' l H) : ∀ (pl : Pl) (pend : List (Nat × (Heap → Prop))) (l : List Value) (H : Heap), l.length = n →
    planE τ P ops K pl pend l H → planE τ P ops K' pl pend l H
  | .nil, _, l, H, hl, h => hk l H hl h
  | .one _ p, _, _, _, hl, h => oneE_mono (fun pend l H hl h => planE_mono hk p pend l H hl h) hl h
  | .two _ p _ q, _, _, _, hl, h => ⟨oneE_mono (fun pend l H hl h => planE_mono hk p pend l H hl h) hl h.1, oneE_mono (fun pend l H hl h => planE_mono hk q pend l H hl h) hl h.2⟩

theorem wpE_mono : ∀ (c : Code) {n : Nat} {Q Q' : Exit → List Value → Heap → Prop} (l : List Value) (H : Heap), l.length = n → (∀ e l' H', l'.length = n → Q e l' H' → Q' e l' H') →
    wpE τ P π c Q l H → wpE τ P π c Q' l H
  | .skip, _, _, _, l, H, hl, hq, h => hq _ _ _ hl h
  | .label _, _, _, _, l, H, hl, hq, h => hq _ _ _ hl h
  | .exit _, _, _, _, l, H, hl, hq, h => hq _ _ _ hl h
  | .ret, _, _, _, l, H, hl, hq, h => hq _ _ _ hl h
  | .region id ops false, _, _, _, l, H, hl, hq, h => seqE_mono (fun l H hl h => hq _ _ _ hl h) _ l H hl h
  | .region id ops true, _, _, _, l, H, hl, hq, h => planE_mono (fun l H hl h => hq _ _ _ hl h) _ _ l H hl h
  | .seq a b, n, Q, Q', l, H, hl, hq, h => wpE_mono a l H hl (fun e l' H' hl' h => by
      cases e with
      | normal => exact wpE_mono b l' H' hl' hq h
      | exit id => exact hq _ _ _ hl' h
      | goto id => exact hq _ _ _ hl' h
      | ret => exact hq _ _ _ hl' h
      | panic c => exact hq _ _ _ hl' h
      | outgrown => exact hq _ _ _ hl' h) h
  | .cond c a b, n, Q, Q', l, H, hl, hq, h => brV_mono h (wpE_mono a l H hl hq) (wpE_mono b l H hl hq)
  | .block id b, n, Q, Q', l, H, hl, hq, h => wpE_mono b l H hl (fun e l' H' hl' h => by
      cases e with
      | normal => exact hq _ _ _ hl' h
      | exit id' =>
        simp only [blkE] at h ⊢
        split at h
        · exact hq _ _ _ hl' h
        · exact hq _ _ _ hl' h
      | goto id => exact hq _ _ _ hl' h
      | ret => exact hq _ _ _ hl' h
      | panic c => exact hq _ _ _ hl' h
      | outgrown => exact hq _ _ _ hl' h) h
  | .loop b, n, Q, Q', l, H, hl, hq, h => by
    obtain ⟨I, μ, h0, hr⟩ := h
    refine ⟨fun l H => l.length = n ∧ I l H, μ, ⟨hl, h0⟩, fun l H ⟨hl, hI⟩ => wpE_mono b l H hl (fun e l' H' hl' h => ?_) (hr l H hI)⟩
    cases e with
    | normal => exact ⟨⟨hl', h.1⟩, h.2⟩
    | exit id => exact hq _ _ _ hl' h
    | goto id => exact hq _ _ _ hl' h
    | ret => exact hq _ _ _ hl' h
    | panic c => exact hq _ _ _ hl' h
    | outgrown => exact hq _ _ _ hl' h
  | .rangeFunc _ _ _ _, _, _, _, _, _, _, _, h => h
  | .scope _, _, _, _, _, _, _, _, h => h
  | .goto _, _, _, _, _, _, _, _, h => h
  | .refuse _, _, _, _, _, _, _, _, h => h

/-! ### the pieces -/
def nQ (G : List Value → Heap → Prop) : Exit → List Value → Heap → Prop
  | .normal, l, H => G l H
  | _, _, _ => False
theorem list_eta {l : List Value} {n : Nat} (h : l.length = n) : (List.range n).map (fun i => l.getD i undef) = l := by
  subst h
  apply List.ext_getElem (by simp)
  intro i h1 h2
  simp [h2]
theorem regI {c : Code} {n : Nat} {l : List Value} {H : Heap} {Q : Exit → List Value → Heap → Prop} {G : List Value → Heap → Prop} (hl : l.length = n)
    (h : wpE τ P π c (nQ G) ((List.range n).map fun i => l.getD i undef) H) (hk : ∀ l' H', l'.length = n → G l' H' → Q .normal l' H') : wpE τ P π c Q l H := by
  rw [list_eta hl] at h
  refine wpE_mono c l H hl (fun e l' H' hl' h => ?_) h
  cases e with
  | normal => exact hk _ _ hl' h
  | _ => exact h.elim
theorem seqI {c a b : Code} {l : List Value} {H : Heap} {Q : Exit → List Value → Heap → Prop} (e : c = .seq a b) (h : wpE τ P π a (thenE (fun l H => wpE τ P π b Q l H) Q) l H) : wpE τ P π c Q l H := by
  subst e; exact h
theorem condI {c a b : Code} {o : Operand} {l : List Value} {H : Heap} {Q : Exit → List Value → Heap → Prop} {A B : Prop} (e : c = .cond o a b) (h : brV (evL l o) A B) (ha : A → wpE τ P π a Q l H) (hb : B → wpE τ P π b Q l H) :
    wpE τ P π c Q l H := by
  subst e; exact brV_mono h ha hb
theorem blockI {c b : Code} {id : Nat} {l : List Value} {H : Heap} {Q : Exit → List Value → Heap → Prop} (e : c = .block id b) (h : wpE τ P π b (blkE id Q) l H) : wpE τ P π c Q l H := by
  subst e; exact h
theorem exitI {c : Code} {id : Nat} {l : List Value} {H : Heap} {Q : Exit → List Value → Heap → Prop} (e : c = .exit id) (h : Q (.exit id) l H) : wpE τ P π c Q l H := by
  subst e; exact h
theorem skipI {c : Code} {l : List Value} {H : Heap} {Q : Exit → List Value → Heap → Prop} (e : c = .skip) (h : Q .normal l H) : wpE τ P π c Q l H := by
  subst e; exact h
theorem retI {c : Code} {l : List Value} {H : Heap} {Q : Exit → List Value → Heap → Prop} (e : c = .ret) (h : Q .ret l H) : wpE τ P π c Q l H := by
  subst e; exact h
theorem loopI {c b : Code} {n : Nat} {l : List Value} {H : Heap} {Q : Exit → List Value → Heap → Prop} (e : c = .loop b) (I : List Value → Heap → Prop) (μ : List Value → Heap → Nat) (hl : l.length = n) (h0 : I l H)
    (hr : ∀ l H, l.length = n → I l H → wpE τ P π b (thenE (fun l' H' => l'.length = n → I l' H' ∧ μ l' H' < μ l H) Q) l H) : wpE τ P π c Q l H := by
  subst e
  refine ⟨fun l H => l.length = n ∧ I l H, μ, ⟨hl, h0⟩, fun l H ⟨hl, hI⟩ => wpE_mono b l H hl (fun e l' H' hl' h => ?_) (hr l H hl hI)⟩
  cases e with
  | normal => exact ⟨⟨hl', (h hl').1⟩, (h hl').2⟩
  | exit id => exact h
  | goto id => exact h
  | ret => exact h
  | panic c => exact h
  | outgrown => exact h

theorem thenN {K : List Value → Heap → Prop} {Q : Exit → List Value → Heap → Prop} {l : List Value} {H : Heap} (h : K l H) : thenE K Q .normal l H := h
theorem thenX {K : List Value → Heap → Prop} {Q : Exit → List Value → Heap → Prop} {l : List Value} {H : Heap} {i : Nat} (h : Q (.exit i) l H) : thenE K Q (.exit i) l H := h
theorem thenR {K : List Value → Heap → Prop} {Q : Exit → List Value → Heap → Prop} {l : List Value} {H : Heap} (h : Q .ret l H) : thenE K Q .ret l H := h
theorem blkN {id : Nat} {Q : Exit → List Value → Heap → Prop} {l : List Value} {H : Heap} (h : Q .normal l H) : blkE id Q .normal l H := h
theorem blkR {id : Nat} {Q : Exit → List Value → Heap → Prop} {l : List Value} {H : Heap} (h : Q .ret l H) : blkE id Q .ret l H := h
theorem blkX {id : Nat} {Q : Exit → List Value → Heap → Prop} {l : List Value} {H : Heap} (h : Q .normal l H) : blkE id Q (.exit id) l H := by
  simp only [blkE, Nat.beq_refl]; exact h
theorem blkO {id i : Nat} {Q : Exit → List Value → Heap → Prop} {l : List Value} {H : Heap} (hn : Nat.beq i id = false) (h : Q (.exit i) l H) : blkE id Q (.exit i) l H := by
  simp only [blkE, hn]; exact h
def subC : Code → List Nat → Code
  | c, [] => c
  | .seq a _, 0 :: p => subC a p
  | .seq _ b, _ :: p => subC b p
  | .cond _ a _, 0 :: p => subC a p
  | .cond _ _ b, _ :: p => subC b p
  | .block _ b, _ :: p => subC b p
  | .loop b, _ :: p => subC b p
  | .rangeFunc _ _ a _, 0 :: p => subC a p
  | .rangeFunc _ _ _ b, _ :: p => subC b p
  | c, _ => c
def zeros (n : Nat) : Array Value := (List.replicate n (.int .i64 0)).toArray
def bodyC (f : Func) : Code := f.body.getD .skip
def newE (t : TypeId) (c : Array Value) (H : Heap) (k : Value → Heap → Prop) : Prop := k (adr H) (newB H t c)

def okB (π : Nat → Pl) : Code → Bool
  | .region id ops true => planOK ops (π id) ops.size (Array.replicate ops.size false) && ops.toList.all plainOp
  | .seq a b => okB π a && okB π b
  | .cond _ a b => okB π a && okB π b
  | .block _ b => okB π b
  | .loop b => okB π b
  | _ => true
theorem okCode_of : ∀ (c : Code), okB π c = true → okCode π c
  | .region id ops true, h => by
    simp only [okB, Bool.and_eq_true] at h
    exact h
  | .region id ops false, _ => trivial
  | .seq a b, h => by
    simp only [okB, Bool.and_eq_true] at h
    exact ⟨okCode_of a h.1, okCode_of b h.2⟩
  | .cond _ a b, h => by
    simp only [okB, Bool.and_eq_true] at h
    exact ⟨okCode_of a h.1, okCode_of b h.2⟩
  | .block _ b, h => okCode_of b (by simpa only [okB] using h)
  | .loop b, h => okCode_of b (by simpa only [okB] using h)
  | .skip, _ => trivial
  | .label _, _ => trivial
  | .exit _, _ => trivial
  | .ret, _ => trivial
  | .rangeFunc _ _ _ _, _ => trivial
  | .scope _, _ => trivial
  | .goto _, _ => trivial
  | .refuse _, _ => trivial
end
end Go.Hc
