/- What is lost. -/
import Derived.Test.YtcjnbiajjlceeaaGreatX15
set_option linter.unusedSimpArgs false
set_option linter.unusedVariables false
namespace Go.Hc
open Go

theorem rttOK_l {r : Rtt} (h : rttOK r = true) : 0 ≤ r.latest ∧ r.latest ≤ 9007199254740991 := by
  unfold rttOK isT at h
  split at h <;> simp at h <;> omega
def waitL (r : Rtt) : Int := if rttOK r = true then max 1000000 (min (9 * max r.smooth r.latest / 8) 9007199254740991) else 0
theorem waitL_r (r : Rtt) : 0 ≤ waitL r ∧ waitL r ≤ 9007199254740991 := by unfold waitL; split <;> omega
theorem rgreat_ev {H : Heap} {r : Rtt} {R : Value → Heap → Prop} (hr : In64r r) (hR : ∀ H', Ext [] H H' → R (iv (if rttOK r = true then max r.smooth r.latest else 0)) H') : EvF P N.rtt_Greatest #[rtv r] H R := by
  refine z146_ev _ _ _ ?_
  simp only [z146_g11, z146_g12, z146_g13, z146_g14, rtt_Greatest]
  try simp only [ew, Nat.reduceAdd, Nat.reduceMul, Nat.reduceLeDiff, Int.reduceBNe, Int.reduceBEq, Int.reduceLT, Int.reduceLE]
  generalize hK1 : newB H _ _ = K1
  have e1 : Ext [] H K1 := by rw [← hK1]; exact (Ext.refl _ _).newB _ _
  have q1 : own K1 H.size = some (rttC r) := by rw [← hK1]; exact own_newB_self
  try simp only [ew, Nat.reduceAdd, Nat.reduceMul, Nat.reduceLeDiff, Int.reduceBNe, Int.reduceBEq, Int.reduceLT, Int.reduceLE, ldE_t, rdA_u, own_blk q1, rttC_g]
  refine rcheck_ev hr fun K2 e2 => ?_
  have q2 := e2.own q1 (by simp)
  have := hR K2 (e1.trans e2)
  by_cases h : rttOK r = true
  · rw [if_pos h] at this ⊢
    try simp only [ew, Nat.reduceAdd, Nat.reduceMul, Nat.reduceLeDiff, Int.reduceBNe, Int.reduceBEq, Int.reduceLT, Int.reduceLE, ldE_f, own_blk q2, rttC_0, rttC_2, max_iv]
    exact this
  · rw [if_neg h] at this ⊢
    try simp only [ew, Nat.reduceAdd, Nat.reduceMul, Nat.reduceLeDiff, Int.reduceBNe, Int.reduceBEq, Int.reduceLT, Int.reduceLE]
    exact this
theorem waitL_ev {H : Heap} {r : Rtt} {R : Value → Heap → Prop} (hr : In64r r) (hR : ∀ H', Ext [] H H' → R (iv (waitL r)) H') : EvF P N.loss_Wait #[rtv r] H R := by
  refine z97_ev _ _ _ ?_
  simp only [z97_g11, z97_g12, z97_g13, z97_g14, loss_Wait]
  try simp only [ew, Nat.reduceAdd, Nat.reduceMul, Nat.reduceLeDiff, Int.reduceBNe, Int.reduceBEq, Int.reduceLT, Int.reduceLE]
  generalize hK1 : newB H _ _ = K1
  have e1 : Ext [] H K1 := by rw [← hK1]; exact (Ext.refl _ _).newB _ _
  have q1 : own K1 H.size = some (rttC r) := by rw [← hK1]; exact own_newB_self
  try simp only [ew, Nat.reduceAdd, Nat.reduceMul, Nat.reduceLeDiff, Int.reduceBNe, Int.reduceBEq, Int.reduceLT, Int.reduceLE, ldE_t, rdA_u, own_blk q1, rttC_g]
  refine rcheck_ev hr fun K2 e2 => ?_
  have q2 := e2.own q1 (by simp)
  by_cases h : rttOK r = true
  · rw [if_pos h]
    try simp only [ew, Nat.reduceAdd, Nat.reduceMul, Nat.reduceLeDiff, Int.reduceBNe, Int.reduceBEq, Int.reduceLT, Int.reduceLE, ldE_t, rdA_u, own_blk q2, rttC_g]
    refine rgreat_ev hr fun K3 e3 => ?_
    rw [if_pos h]
    have h1 := rttOK_l h
    have h2 := rttOK_r h
    have w1 : IntKind.i64.wrap (9 * max r.smooth r.latest) = 9 * max r.smooth r.latest := wrap_in (by omega)
    have w2 : IntKind.i64.wrap ((9 * max r.smooth r.latest).tdiv 8) = 9 * max r.smooth r.latest / 8 := by rw [Int.tdiv_eq_ediv_of_nonneg (by omega), wrap_in (by omega)]
    try simp only [ew, Nat.reduceAdd, Nat.reduceMul, Nat.reduceLeDiff, Int.reduceBNe, Int.reduceBEq, Int.reduceLT, Int.reduceLE, bin_mul, w1, bin_quo (show (8 : Int) ≠ 0 by decide), w2, min_iv, max_iv]
    have := hR K3 (e1.trans (e2.trans e3))
    unfold waitL at this; rw [if_pos h] at this; exact this
  · rw [if_neg h]
    try simp only [ew, Nat.reduceAdd, Nat.reduceMul, Nat.reduceLeDiff, Int.reduceBNe, Int.reduceBEq, Int.reduceLT, Int.reduceLE]
    have := hR K2 (e1.trans e2)
    unfold waitL at this; rw [if_neg h] at this; exact this

/-- the rule's words -/
structure RuleAt (H : Heap) (x3 x4 x5 x7 : Nat) (acked now wait : Int) : Prop where
  a : own H x3 = some #[iv acked]
  n : own H x4 = some #[iv now]
  w : own H x5 = some #[iv wait]
  d : own H x7 = some #[.func (.func N.loss_ruled_1) #[] #[ptr x5]]
theorem RuleAt.ext {H H' : Heap} {x3 x4 x5 x7 : Nat} {acked now wait : Int} (h : RuleAt H x3 x4 x5 x7 acked now wait) (e : Ext [] H H') : RuleAt H' x3 x4 x5 x7 acked now wait :=
  ⟨e.own h.a (by simp), e.own h.n (by simp), e.own h.w (by simp), e.own h.d (by simp)⟩
abbrev ruleC (x3 x4 x7 : Nat) : Array Value := #[.func (.func N.loss_ruled_2) #[] #[ptr x3], .func (.func N.loss_ruled_3) #[] #[ptr x3, ptr x7, ptr x4], .func (.func N.loss_ruled_4) #[] #[ptr x7]]
theorem ruled_ev {H : Heap} {acked now wait : Int} {R : Value → Heap → Prop} (hR : ∀ H' x3 x4 x5 x7, Ext [] H H' → RuleAt H' x3 x4 x5 x7 acked now wait → R (.agg (ruleC x3 x4 x7)) H') :
    EvF P N.loss_ruled #[iv acked, iv now, iv wait] H R := by
  refine z96_ev _ _ _ _ _ ?_
  simp only [z96_g7, z96_g8, z96_g9, loss_ruled]
  try simp only [ew, Nat.reduceAdd, Nat.reduceMul, Nat.reduceLeDiff, Int.reduceBNe, Int.reduceBEq, Int.reduceLT, Int.reduceLE]
  generalize hK1 : newB H _ #[iv acked] = K1
  have z1 : K1.size = H.size + 1 := by rw [← hK1, size_newB]
  have a1 : own K1 H.size = some #[iv acked] := by rw [← hK1]; exact own_newB_self
  have e1 : Ext [] H K1 := by rw [← hK1]; exact (Ext.refl _ _).newB _ _
  rw [← z1]
  generalize hK2 : newB K1 _ #[iv now] = K2
  have z2 : K2.size = K1.size + 1 := by rw [← hK2, size_newB]
  have a2 : own K2 K1.size = some #[iv now] := by rw [← hK2]; exact own_newB_self
  have e2 : Ext [] K1 K2 := by rw [← hK2]; exact (Ext.refl _ _).newB _ _
  rw [← z2]
  generalize hK3 : newB K2 _ #[iv wait] = K3
  have z3 : K3.size = K2.size + 1 := by rw [← hK3, size_newB]
  have a3 : own K3 K2.size = some #[iv wait] := by rw [← hK3]; exact own_newB_self
  have e3 : Ext [] K2 K3 := by rw [← hK3]; exact (Ext.refl _ _).newB _ _
  rw [← z3]
  generalize hK4 : newB K3 _ #[.nilFunc, .nilFunc, .nilFunc] = K4
  have z4 : K4.size = K3.size + 1 := by rw [← hK4, size_newB]
  have a4 : own K4 K3.size = some #[.nilFunc, .nilFunc, .nilFunc] := by rw [← hK4]; exact own_newB_self
  have e4 : Ext [] K3 K4 := by rw [← hK4]; exact (Ext.refl _ _).newB _ _
  rw [← z4]
  have s5 : ∀ t, stE 1 (ptr K4.size) (.func (.func N.loss_ruled_1) #[] #[ptr K2.size]) (newB K4 t #[.nilFunc]) = some (setB (newB K4 t #[.nilFunc]) K4.size #[.func (.func N.loss_ruled_1) #[] #[ptr K2.size]]) := fun t => st_ptr own_newB_self (by simp) rfl rfl
  simp only [s5, bnd_some]
  generalize hK5 : setB (newB K4 _ _) _ _ = K5
  have e5 : Ext [] K4 K5 := by rw [← hK5]; exact box_new.1
  have a5 : own K5 K4.size = some #[.func (.func N.loss_ruled_1) #[] #[ptr K2.size]] := by rw [← hK5]; exact box_new.2.1
  have hb : buildV #[.nilFunc, .nilFunc, .nilFunc] (places [(0, 1), (1, 1), (2, 1)]) [(0, (.func (.func N.loss_ruled_2) #[] #[ptr H.size])), (1, (.func (.func N.loss_ruled_3) #[] #[ptr H.size, ptr K4.size, ptr K1.size])), (2, (.func (.func N.loss_ruled_4) #[] #[ptr K4.size]))] = some (.agg (ruleC H.size K1.size K4.size)) := rfl
  have a45 := e5.own a4 (by simp)
  have s6 : stE 3 (ptr K3.size) (.agg (ruleC H.size K1.size K4.size)) K5 = some (setB K5 K3.size (ruleC H.size K1.size K4.size)) := by
    rw [stE_p, show (Value.agg (ruleC H.size K1.size K4.size)).cells = ruleC H.size K1.size K4.size from rfl, if_pos (show (ruleC H.size K1.size K4.size).size = 3 from rfl), wrA_u a45 (Nat.le_refl _) (by simp [isCell])]
    rfl
  have g : getC (ruleC H.size K1.size K4.size) 0 3 = some (ruleC H.size K1.size K4.size) := rfl
  simp only [hb, bnd_some, s6, ldE_t, rdA_u, own_blk (own_setB_same a45), Option.bind_some, g, Option.map_some]
  have E5 : Ext [] H K5 := e1.trans (e2.trans (e3.trans (e4.trans e5)))
  have e6 : Ext [K3.size] K5 (setB K5 K3.size (ruleC H.size K1.size K4.size)) := (Ext.refl _ _).setB _ _ (Or.inl (by simp))
  refine hR _ _ _ K2.size _ (E5.setB _ _ (Or.inr (by omega))) ⟨e6.own ((e2.trans (e3.trans (e4.trans e5))).own a1 (by simp)) (by simp; omega), e6.own ((e3.trans (e4.trans e5)).own a2 (by simp)) (by simp; omega), e6.own ((e4.trans e5).own a3 (by simp)) (by simp; omega), e6.own a5 (by simp; omega)⟩
def dueP (w : Int) (p : Pkt) : Int := min (p.time + w) 9007199254740991
def lostP (gr now w : Int) (p : Pkt) : Bool := decide (p.num ≤ gr) && (decide (3 ≤ gr - p.num) || decide (p.time + w ≤ now))
def stepAt (gr now w at_ : Int) (p : Pkt) : Int := if lostP gr now w p = true then at_ else if p.num ≤ gr ∧ (at_ = -1 ∨ dueP w p < at_) then dueP w p else at_
def lossAt (gr now w : Int) (l : List Pkt) : Int := l.foldl (stepAt gr now w) (-1)
section
variable {H : Heap} {x3 x4 x5 x7 : Nat} {acked now wait : Int} {p : Pkt} {R : Value → Heap → Prop}
theorem due_ev (h : RuleAt H x3 x4 x5 x7 acked now wait) (hp : 0 ≤ p.time ∧ p.time ≤ 9007199254740991) (hw : 0 ≤ wait ∧ wait ≤ 9007199254740991) (hR : ∀ H', Ext [] H H' → R (iv (p.time + wait)) H') : EvF P N.loss_ruled_1 #[pv p, ptr x5] H R := by
  refine z142_ev _ _ _ _ ?_
  simp only [z142_g5, z142_g6, loss_ruled_1]
  try simp only [ew, Nat.reduceAdd, Nat.reduceMul, Nat.reduceLeDiff, Int.reduceBNe, Int.reduceBEq, Int.reduceLT, Int.reduceLE]
  generalize hK : newB H _ _ = K
  have e : Ext [] H K := by rw [← hK]; exact (Ext.refl _ _).newB _ _
  have q : own K H.size = some (pktC p) := by rw [← hK]; exact own_newB_self
  have hK := (h.ext e).w
  have c0 : (#[iv wait] : Array Value)[0]? = some (iv wait) := rfl
  have w : IntKind.i64.wrap (p.time + wait) = p.time + wait := wrap_in (by omega)
  try simp only [ew, Nat.reduceAdd, Nat.reduceMul, Nat.reduceLeDiff, Int.reduceBNe, Int.reduceBEq, Int.reduceLT, Int.reduceLE, ldE_f, own_blk q, own_blk hK, pktC_1, c0, bin_add, w]
  exact hR K e
theorem meant_ev (h : RuleAt H x3 x4 x5 x7 acked now wait) (hR : ∀ H', Ext [] H H' → R (.bool (decide (p.num ≤ acked))) H') : EvF P N.loss_ruled_2 #[pv p, ptr x3] H R := by
  refine z143_ev _ _ _ _ ?_
  simp only [z143_g5, z143_g6, loss_ruled_2]
  try simp only [ew, Nat.reduceAdd, Nat.reduceMul, Nat.reduceLeDiff, Int.reduceBNe, Int.reduceBEq, Int.reduceLT, Int.reduceLE]
  generalize hK : newB H _ _ = K
  have e : Ext [] H K := by rw [← hK]; exact (Ext.refl _ _).newB _ _
  have q : own K H.size = some (pktC p) := by rw [← hK]; exact own_newB_self
  have hK := (h.ext e).a
  have c0 : (#[iv acked] : Array Value)[0]? = some (iv acked) := rfl
  try simp only [ew, Nat.reduceAdd, Nat.reduceMul, Nat.reduceLeDiff, Int.reduceBNe, Int.reduceBEq, Int.reduceLT, Int.reduceLE, ldE_f, own_blk q, own_blk hK, pktC_0, c0]
  exact hR K e
theorem lost_ev (h : RuleAt H x3 x4 x5 x7 acked now wait) (hp : May p) (hw : 0 ≤ wait ∧ wait ≤ 9007199254740991) (ha : -1 ≤ acked ∧ acked ≤ 9007199254740991) (hR : ∀ H', Ext [] H H' → R (.bool (decide (3 ≤ acked - p.num) || decide (p.time + wait ≤ now))) H') :
    EvF P N.loss_ruled_3 #[pv p, ptr x3, ptr x7, ptr x4] H R := by
  refine z144_ev _ _ _ _ _ _ ?_
  unfold May at hp
  simp only [z144_g5, z144_g6, loss_ruled_3]
  try simp only [ew, Nat.reduceAdd, Nat.reduceMul, Nat.reduceLeDiff, Int.reduceBNe, Int.reduceBEq, Int.reduceLT, Int.reduceLE]
  generalize hK : newB H _ _ = K
  have e : Ext [] H K := by rw [← hK]; exact (Ext.refl _ _).newB _ _
  have q : own K H.size = some (pktC p) := by rw [← hK]; exact own_newB_self
  have hK := h.ext e
  have c0 : ∀ x : Value, (#[x] : Array Value)[0]? = some x := fun _ => rfl
  have w : IntKind.i64.wrap (acked - p.num) = acked - p.num := wrap_in (by omega)
  try simp only [ew, Nat.reduceAdd, Nat.reduceMul, Nat.reduceLeDiff, Int.reduceBNe, Int.reduceBEq, Int.reduceLT, Int.reduceLE, ldE_f, own_blk q, own_blk hK.a, own_blk hK.n, own_blk hK.d, pktC_0, c0, bin_sub, w]
  refine brV_d (fun h1 => ?_) (fun h1 => ?_)
  · have := hR K e
    rw [decide_eq_true h1, Bool.true_or] at this
    exact this
  · try simp only [ew, Nat.reduceAdd, Nat.reduceMul, Nat.reduceLeDiff, Int.reduceBNe, Int.reduceBEq, Int.reduceLT, Int.reduceLE, ldE_t, rdA_u, own_blk q, pktC_g, Array.toList_empty, List.nil_append, List.cons_append]
    refine due_ev hK (by omega) hw fun K' e' => ?_
    have q' := e'.own q (by simp)
    have hK' := hK.ext e'
    have := hR K' (e.trans e')
    rw [decide_eq_false h1, Bool.false_or] at this
    try simp only [ew, Nat.reduceAdd, Nat.reduceMul, Nat.reduceLeDiff, Int.reduceBNe, Int.reduceBEq, Int.reduceLT, Int.reduceLE, own_blk q', own_blk hK'.a, own_blk hK'.n, pktC_0, c0]
    exact this
theorem due4_ev (h : RuleAt H x3 x4 x5 x7 acked now wait) (hp : 0 ≤ p.time ∧ p.time ≤ 9007199254740991) (hw : 0 ≤ wait ∧ wait ≤ 9007199254740991) (hR : ∀ H', Ext [] H H' → R (iv (dueP wait p)) H') : EvF P N.loss_ruled_4 #[pv p, ptr x7] H R := by
  refine z145_ev _ _ _ _ ?_
  simp only [z145_g5, z145_g6, loss_ruled_4]
  try simp only [ew, Nat.reduceAdd, Nat.reduceMul, Nat.reduceLeDiff, Int.reduceBNe, Int.reduceBEq, Int.reduceLT, Int.reduceLE]
  generalize hK : newB H _ _ = K
  have e : Ext [] H K := by rw [← hK]; exact (Ext.refl _ _).newB _ _
  have q : own K H.size = some (pktC p) := by rw [← hK]; exact own_newB_self
  have hK := h.ext e
  have c0 : ∀ x : Value, (#[x] : Array Value)[0]? = some x := fun _ => rfl
  try simp only [ew, Nat.reduceAdd, Nat.reduceMul, Nat.reduceLeDiff, Int.reduceBNe, Int.reduceBEq, Int.reduceLT, Int.reduceLE, ldE_f, ldE_t, rdA_u, own_blk q, own_blk hK.d, c0, pktC_g, Array.toList_empty, List.nil_append, List.cons_append]
  refine due_ev hK hp hw fun K' e' => ?_
  simp only [min_iv, bnd_some]
  exact hR K' (e.trans e')
end
end Go.Hc
set_option linter.unusedSimpArgs false
set_option linter.unusedVariables false
namespace Go.Hc
open Go

theorem okL_may {l : List Pkt} (h : okL l = true) : ∀ k (hk : k < l.length), May l[k] := by
  have nn : ∀ k (hk : k < l.length), 0 ≤ l[k].num := by
    intro k
    induction k with
    | zero => intro hk; have := okP_spec.1 (okL_at h hk); simp only [lastN, if_true] at this; omega
    | succ k ih =>
      intro hk
      have h1 := ih (by omega)
      have h2 := okP_spec.1 (okL_at h hk)
      have h3 : lastN l (k + 1) = l[k].num := by unfold lastN; rw [if_neg (by omega), Nat.add_sub_cancel, getDP (by omega)]
      omega
  intro k hk
  have h1 := nn k hk
  have h2 := okP_spec.1 (okL_at h hk)
  unfold May; omega
theorem checkE_ok {l : List Pkt} (h : checkE l = 0) : okL l = true := by
  unfold checkE at h
  split at h
  · cases h
  · split at h
    · assumption
    · cases h
theorem checkE_small {l : List Pkt} (h : checkE l = 0) : l.length ≤ 256 := by
  unfold checkE at h
  split at h
  · cases h
  · omega
theorem checkE_02 (l : List Pkt) : checkE l = 0 ∨ checkE l = 2 := by unfold checkE; split <;> (try split) <;> simp
def badT (acked now : Int) : Prop := acked < -1 ∨ 9007199254740991 < acked ∨ ¬ (0 ≤ now ∧ now ≤ 9007199254740991)
instance (acked now : Int) : Decidable (badT acked now) := inferInstanceAs (Decidable (acked < -1 ∨ 9007199254740991 < acked ∨ ¬ (0 ≤ now ∧ now ≤ 9007199254740991)))
def findE (l : List Pkt) (acked now : Int) (r : Rtt) : Int := if checkE l ≠ 0 then 2 else if badT acked now then 9 else if rttOK r = true then 0 else 2
abbrev nilS : Value := .slice none 0 0
theorem Sep.nilL {A : Type} {E : Enc A} {H0 H : Heap} {Qs : List Asr} (h : Sep H0 H Qs) : Sep H0 H (lstA E nilS [] :: Qs) := h.new (Ext.refl _ _) (T := []) OwnL.nil (by simp)
theorem Sep.own1 {A : Type} {E : Enc A} {H0 H : Heap} {Qs : List Asr} {v : Value} {l : List A} (h : Sep H0 H (lstA E v l :: Qs)) : ∃ S, (∀ b ∈ S, H0.size ≤ b) ∧ OwnL E H v S l := by
  obtain ⟨e, U, ⟨T, V, rfl, hq, hs, hd⟩, hu⟩ := h
  exact ⟨T, fun b hb => hu b (by simp [hb]), hq⟩
/-- an element more -/
theorem push_sep {A : Type} {E : Enc A} {H0 H : Heap} {Qs : List Asr} {t t2 : TypeId} {bytes : Nat} {v u : Value} {l : List A} {x : A} {k : Value → Heap → Prop} (h : Sep H0 H (lstA E v l :: Qs)) (hx : u.cells = E.c x) (hl : l.length ≤ 100000)
    (hb : bytes ≠ 0 ∧ bytes ≤ 1000) (hz : E.sz ≤ 1000) (hk : ∀ H' v', Sep H0 H' (lstA E v' (l ++ [x]) :: Qs) → k v' H') : bslE t E.z E.sz 1 [(0, u)] H fun w H1 => appE t2 E.z E.sz bytes v w H1 k := by
  refine bslE_sep (E := E) (vs := [u]) (l := [x]) h rfl rfl (fun i hi => ?_) (by omega) (by decide) fun H1 w h1 => ?_
  · match i, hi with
    | 0, _ => exact hx
  · obtain ⟨T, hw⟩ := h1.list
    refine appE_sep h1.b1 hw.show ?_ hb.1 (by simp; omega) fun H' v' h' => hk H' v' ?_
    · have h2 : (2 * (l.length + [x].length) + 200) * bytes ≤ (2 * (100000 + 1) + 200) * 1000 := Nat.mul_le_mul (by simp; omega) hb.2
      omega
    · exact h'.b1.drop

section
variable {K : Heap} {x3 x4 x5 x7 b12 b14 : Nat} {acked now w : Int} {p : Pkt}
theorem g75_ev {S : Value → Value → Value → Value → Value → Value → Value → Value → Value → Heap → Prop} {x8 x9 x10 x43 x44 x45 : Value} (h : RuleAt K x3 x4 x5 x7 acked now w) (h1 : own K b12 = some (ruleC x3 x4 x7)) (h2 : own K b14 = some (pktC p)) (hp : May p)
    (hw : 0 ≤ w ∧ w ≤ 9007199254740991) (ha : -1 ≤ acked ∧ acked ≤ 9007199254740991) (hS : ∀ K', Ext [] K K' → S x8 x9 x10 (ptr b12) (ptr b14) x43 x44 x45 (.bool (lostP acked now w p)) K') : z52_g75 S x8 x9 x10 (ptr b12) (ptr b14) x43 x44 x45 K := by
  have c0 : (ruleC x3 x4 x7)[0]? = some (.func (.func N.loss_ruled_2) #[] #[ptr x3]) := rfl
  have c1 : (ruleC x3 x4 x7)[1]? = some (.func (.func N.loss_ruled_3) #[] #[ptr x3, ptr x7, ptr x4]) := rfl
  simp only [z52_g75]
  try simp only [ew, Nat.reduceAdd, Nat.reduceMul, Nat.reduceLeDiff, Int.reduceBNe, Int.reduceBEq, Int.reduceLT, Int.reduceLE, ldE_f, ldE_t, rdA_u, own_blk h1, own_blk h2, c0, pktC_g, Array.toList_empty, List.nil_append, List.cons_append]
  refine meant_ev h fun K1 e1 => ?_
  have q1 := e1.own h1 (by simp)
  have q2 := e1.own h2 (by simp)
  refine brV_d (fun hm => ?_) (fun hm => ?_)
  · try simp only [ew, Nat.reduceAdd, Nat.reduceMul, Nat.reduceLeDiff, Int.reduceBNe, Int.reduceBEq, Int.reduceLT, Int.reduceLE, ldE_f, ldE_t, rdA_u, own_blk q1, own_blk q2, c1, pktC_g, Array.toList_empty, List.nil_append, List.cons_append]
    refine lost_ev (h.ext e1) hp hw ha fun K2 e2 => ?_
    have := hS K2 (e1.trans e2)
    unfold lostP at this
    rw [decide_eq_true hm, Bool.true_and] at this
    exact this
  · have := hS K1 e1
    unfold lostP at this
    rw [decide_eq_false hm, Bool.false_and] at this
    exact this
theorem g78_ev {S : Value → Value → Value → Value → Value → Value → Value → Value → Value → Heap → Prop} {x8 x9 x10 x43 x44 x45 : Value} (h : RuleAt K x3 x4 x5 x7 acked now w) (h1 : own K b12 = some (ruleC x3 x4 x7)) (h2 : own K b14 = some (pktC p)) (hp : May p)
    (hw : 0 ≤ w ∧ w ≤ 9007199254740991) (hS : ∀ K', Ext [] K K' → S x8 x9 x10 (ptr b12) (ptr b14) (iv (dueP w p)) x43 x44 x45 K') : z52_g78 S x8 x9 x10 (ptr b12) (ptr b14) x43 x44 x45 K := by
  have c2 : (ruleC x3 x4 x7)[2]? = some (.func (.func N.loss_ruled_4) #[] #[ptr x7]) := rfl
  unfold May at hp
  simp only [z52_g78]
  try simp only [ew, Nat.reduceAdd, Nat.reduceMul, Nat.reduceLeDiff, Int.reduceBNe, Int.reduceBEq, Int.reduceLT, Int.reduceLE, ldE_f, ldE_t, rdA_u, own_blk h1, own_blk h2, c2, pktC_g, Array.toList_empty, List.nil_append, List.cons_append]
  exact due4_ev h (by omega) hw hS
theorem g79_ev {S : Value → Value → Value → Value → Value → Value → Value → Value → Value → Heap → Prop} {x8 x9 x43 x44 x45 : Value} {at_ due : Int} (h : RuleAt K x3 x4 x5 x7 acked now w) (h1 : own K b12 = some (ruleC x3 x4 x7)) (h2 : own K b14 = some (pktC p))
    (hS : ∀ K', Ext [] K K' → S x8 x9 (iv at_) (ptr b12) (iv due) x43 x44 x45 (.bool (decide (p.num ≤ acked ∧ (at_ = -1 ∨ due < at_)))) K') : z52_g79 S x8 x9 (iv at_) (ptr b12) (ptr b14) (iv due) x43 x44 x45 K := by
  have c0 : (ruleC x3 x4 x7)[0]? = some (.func (.func N.loss_ruled_2) #[] #[ptr x3]) := rfl
  simp only [z52_g79]
  try simp only [ew, Nat.reduceAdd, Nat.reduceMul, Nat.reduceLeDiff, Int.reduceBNe, Int.reduceBEq, Int.reduceLT, Int.reduceLE, ldE_f, ldE_t, rdA_u, own_blk h1, own_blk h2, c0, pktC_g, Array.toList_empty, List.nil_append, List.cons_append]
  refine meant_ev h fun K1 e1 => ?_
  refine brV_d (fun hm => ?_) (fun hm => ?_)
  · try simp only [ew, Nat.reduceAdd, Nat.reduceMul, Nat.reduceLeDiff, Int.reduceBNe, Int.reduceBEq, Int.reduceLT, Int.reduceLE]
    refine brG_i (fun ht => ?_) (fun ht => ?_)
    · have := hS K1 e1
      rw [decide_eq_true ⟨hm, .inl (by simpa using ht)⟩] at this
      exact this
    · have := hS K1 e1
      have e : decide (p.num ≤ acked ∧ (at_ = -1 ∨ due < at_)) = decide (due < at_) := by
        have ht' : ¬ at_ = -1 := by simpa using ht
        rw [Bool.eq_iff_iff]; simp only [decide_eq_true_eq]; omega
      rw [e] at this
      exact this
  · have := hS K1 e1
    rw [decide_eq_false (fun h => hm h.1)] at this
    exact this
end
set_option maxHeartbeats 1000000 in
theorem Find_ev {H : Heap} {v : Value} {l : List Pkt} {acked now : Int} {r : Rtt} {R : Value → Heap → Prop} (hv : ShowA pktE H v l) (hr : In64r r)
    (hR0 : findE l acked now r ≠ 0 → ∀ H', Ext [] H H' → R (.tuple #[nilS, nilS, iv 0, iv (findE l acked now r)]) H')
    (hR1 : findE l acked now r = 0 → ∀ H' v1 v2 S, Ext [] H H' → (∀ b ∈ S, H.size ≤ b) → OwnL pktE H' v1 S (l.filter (lostP acked now (waitL r))) → R (.tuple #[v1, v2, iv (lossAt acked now (waitL r) l), iv 0]) H') :
    EvF P N.loss_Find #[v, iv acked, iv now, rtv r] H R := by
  refine z52_ev _ _ _ _ _ _ ?_
  simp only [loss_Find, z52_g56, z52_g57]
  try simp only [ew, Nat.reduceAdd, Nat.reduceMul, Nat.reduceLeDiff, Int.reduceBNe, Int.reduceBEq, Int.reduceLT, Int.reduceLE]
  generalize hK0 : newB H _ _ = K0
  have e0 : Ext [] H K0 := by rw [← hK0]; exact (Ext.refl _ _).newB _ _
  have q0 : own K0 H.size = some (rttC r) := by rw [← hK0]; exact own_newB_self
  refine lossCheck_ev (hv.ext e0) fun K1 e1 => ?_
  have E1 := e0.trans e1
  have q1 := e1.own q0 (by simp)
  rcases checkE_02 l with hc | hc
  rotate_left
  · rw [hc]
    try simp only [ew, Nat.reduceAdd, Nat.reduceMul, Nat.reduceLeDiff, Int.reduceBNe, Int.reduceBEq, Int.reduceLT, Int.reduceLE, z52_g58]
    have hf : findE l acked now r = 2 := by unfold findE; rw [if_pos (by omega)]
    rw [hf] at hR0
    exact hR0 (by decide) K1 E1
  · rw [hc]
    try simp only [ew, Nat.reduceAdd, Nat.reduceMul, Nat.reduceLeDiff, Int.reduceBNe, Int.reduceBEq, Int.reduceLT, Int.reduceLE, z52_g59]
    have badR : badT acked now → ∀ H', Ext [] H H' → R (.tuple #[nilS, nilS, iv 0, iv 9]) H' := fun h => by
      have hf : findE l acked now r = 9 := by unfold findE; rw [if_neg (by omega), if_pos h]
      rw [hf] at hR0
      exact hR0 (by decide)
    refine brV_d (fun h1 => ?_) (fun h1 => ?_)
    · try simp only [ew, Nat.reduceAdd, Nat.reduceMul, Nat.reduceLeDiff, Int.reduceBNe, Int.reduceBEq, Int.reduceLT, Int.reduceLE, z52_g60]
      exact badR (.inl h1) K1 E1
    · try simp only [ew, Nat.reduceAdd, Nat.reduceMul, Nat.reduceLeDiff, Int.reduceBNe, Int.reduceBEq, Int.reduceLT, Int.reduceLE]
      refine brV_d (fun h2 => ?_) (fun h2 => ?_)
      · try simp only [ew, Nat.reduceAdd, Nat.reduceMul, Nat.reduceLeDiff, Int.reduceBNe, Int.reduceBEq, Int.reduceLT, Int.reduceLE, z52_g60]
        exact badR (.inr (.inl h2)) K1 E1
      · refine ltime_ev ?_
        try simp only [ew, Nat.reduceAdd, Nat.reduceMul, Nat.reduceLeDiff, Int.reduceBNe, Int.reduceBEq, Int.reduceLT, Int.reduceLE]
        refine brV_i (fun h3 => ?_) (fun h3 => ?_)
        · simp only [z52_g60]
          exact badR (.inr (.inr (by simp at h3; omega))) K1 E1
        · have hnow : 0 ≤ now ∧ now ≤ 9007199254740991 := by simpa using h3
          have hgd : ¬ badT acked now := by unfold badT; omega
          simp only [z52_g61]
          try simp only [ew, Nat.reduceAdd, Nat.reduceMul, Nat.reduceLeDiff, Int.reduceBNe, Int.reduceBEq, Int.reduceLT, Int.reduceLE, ldE_t, rdA_u, own_blk q1, rttC_g]
          refine rcheck_ev hr fun K2 e2 => ?_
          have E2 := E1.trans e2
          have q2 := e2.own q1 (by simp)
          by_cases hok : rttOK r = true
          rotate_left
          · rw [if_neg hok]
            try simp only [ew, Nat.reduceAdd, Nat.reduceMul, Nat.reduceLeDiff, Int.reduceBNe, Int.reduceBEq, Int.reduceLT, Int.reduceLE, z52_g62]
            try simp only [ew, Nat.reduceAdd, Nat.reduceMul, Nat.reduceLeDiff, Int.reduceBNe, Int.reduceBEq, Int.reduceLT, Int.reduceLE, ldE_t, rdA_u, own_blk q2, rttC_g]
            refine rcheck_ev hr fun K3 e3 => ?_
            rw [if_neg hok]
            have hf : findE l acked now r = 2 := by unfold findE; rw [if_neg (by omega), if_neg hgd, if_neg hok]
            rw [hf] at hR0
            exact hR0 (by decide) K3 (E2.trans e3)
          · rw [if_pos hok]
            have hf : findE l acked now r = 0 := by unfold findE; rw [if_neg (by omega), if_neg hgd, if_pos hok]
            replace hR1 := hR1 hf
            have hwr := waitL_r r
            try simp only [ew, Nat.reduceAdd, Nat.reduceMul, Nat.reduceLeDiff, Int.reduceBNe, Int.reduceBEq, Int.reduceLT, Int.reduceLE, z52_g63]
            try simp only [ew, Nat.reduceAdd, Nat.reduceMul, Nat.reduceLeDiff, Int.reduceBNe, Int.reduceBEq, Int.reduceLT, Int.reduceLE, ldE_t, rdA_u, own_blk q2, rttC_g]
            refine waitL_ev hr fun K3 e3 => ?_
            obtain ⟨w, hw⟩ : ∃ w, w = waitL r := ⟨_, rfl⟩
            rw [← hw] at hR1 hwr ⊢
            refine ruled_ev fun K4 x3 x4 x5 x7 e4 hrule => ?_
            have E4 := E2.trans (e3.trans e4)
            have st : ∀ t, stE 3 (ptr K4.size) (.agg (ruleC x3 x4 x7)) (newB K4 t #[.nilFunc, .nilFunc, .nilFunc]) = some (setB (newB K4 t #[.nilFunc, .nilFunc, .nilFunc]) K4.size (ruleC x3 x4 x7)) := fun t => by
              rw [stE_p, show (Value.agg (ruleC x3 x4 x7)).cells = ruleC x3 x4 x7 from rfl, if_pos (show (ruleC x3 x4 x7).size = 3 from rfl), wrA_u own_newB_self (Nat.le_refl _) (by simp [isCell])]
              rfl
            simp only [newE_u, st, bnd_some]
            generalize hK5 : setB (newB K4 _ _) _ _ = K5
            have e5 : Ext [] K4 K5 := by rw [← hK5]; exact box_new.1
            have q5 : own K5 K4.size = some (ruleC x3 x4 x7) := by rw [← hK5]; exact box_new.2.1
            have E5 := E4.trans e5
            have rule5 := hrule.ext e5
            have hv5 := hv.ext E5
            have hsm := hv.small
            have hl256 := checkE_small hc
            have hmay := okL_may (checkE_ok hc)
            simp only [z52_g64, z52_g65]
            try simp only [ew, Nat.reduceAdd, Nat.reduceMul, Nat.reduceLeDiff, Int.reduceBNe, Int.reduceBEq, Int.reduceLT, Int.reduceLE, hv5.len]
            simp only [z52_l82]
            have s0 : Sep K5 K5 [lstA pktE nilS [], lstA pktE nilS []] := ((Sep.nil K5).nilL).nilL
            refine ⟨fun y8 y9 y10 y45 K => ∃ k : Nat, k ≤ l.length ∧ y45 = iv k ∧ y10 = iv (lossAt acked now w (l.take k)) ∧ ∃ M : List Pkt, M.length ≤ k ∧ Sep K5 K [lstA pktE y8 ((l.take k).filter (lostP acked now w)), lstA pktE y9 M],
              fun _ _ _ y45 _ => (match y45 with | .int _ k => (l.length - k).toNat | _ => 0), ⟨0, by omega, rfl, rfl, [], by simp, s0⟩, ?_⟩
            rintro y8 y9 y10 y45 K ⟨k, hk, rfl, rfl, M, hM, hs⟩
            have eK := hs.only
            have ruleK := rule5.ext eK
            have qK := eK.own q5 (by simp)
            have hvK := hv5.ext eK
            have w4 : IntKind.i64.wrap ((k : Int) + 1) = ((k + 1 : Nat) : Int) := by rw [wrap_in (by omega)]; omega
            simp only [z52_s66, z52_g67]
            try simp only [ew, Nat.reduceAdd, Nat.reduceMul, Nat.reduceLeDiff, Int.reduceBNe, Int.reduceBEq, Int.reduceLT, Int.reduceLE]
            refine brV_d (fun hlt => ?_) (fun hge => ?_)
            · have hk' : k < l.length := by omega
              have hmk := hmay k hk'
              obtain ⟨b, o, c, i1, _, _, i4⟩ := hvK.ix (by decide) hk' (rfl : (k : Int) = k)
              have i1' : ixSV 6 v (iv k) = _ := i1
              have i4' : ldE true 6 _ K = some (pv l[k]) := i4
              have stp : ∀ t, stE 6 (ptr K.size) (pv l[k]) (newB K t (pktC pkt0)) = some (setB (newB K t (pktC pkt0)) K.size (pktC l[k])) := fun t => st_pkt (Ext.refl _ _)
              simp only [z52_g74]
              try simp only [ew, Nat.reduceAdd, Nat.reduceMul, Nat.reduceLeDiff, Int.reduceBNe, Int.reduceBEq, Int.reduceLT, Int.reduceLE, i1', i4', pkt0_C, stp]
              generalize hK6 : setB (newB K _ _) _ _ = K6
              have e6 : Ext [] K K6 := by rw [← hK6]; exact box_new.1
              have q6 : own K6 K.size = some (pktC l[k]) := by rw [← hK6]; exact box_new.2.1
              have r6 := ruleK.ext e6
              have x6 := e6.own qK (by simp)
              have hs6 := (hs.newC (t := 40) (c := pktC pkt0)).set (c' := pktC l[k])
              rw [hK6] at hs6
              have etk : l.take (k + 1) = l.take k ++ [l[k]] := by rw [List.take_add_one, List.getElem?_eq_getElem hk', Option.toList_some]
              have eat : lossAt acked now w (l.take (k + 1)) = stepAt acked now w (lossAt acked now w (l.take k)) l[k] := by unfold lossAt; rw [etk, List.foldl_append]; rfl
              have efl : (l.take (k + 1)).filter (lostP acked now w) = (l.take k).filter (lostP acked now w) ++ (if lostP acked now w l[k] = true then [l[k]] else []) := by
                rw [etk, List.filter_append]; congr 1
                by_cases h : lostP acked now w l[k] = true
                · simp [h]
                · simp [h]
              have hfl : ((l.take k).filter (lostP acked now w)).length ≤ k := Nat.le_trans (List.length_filter_le _ _) (by rw [List.length_take]; omega)
              have haa : -1 ≤ acked ∧ acked ≤ 9007199254740991 := by omega
              refine g75_ev r6 x6 q6 hmk hwr haa fun K7 e7 => ?_
              have hs7 := hs6.ext e7
              have q7 := e7.own q6 (by simp)
              have r7 := r6.ext e7
              have x7' := e7.own x6 (by simp)
              refine brV_i (fun hlost => ?_) (fun hnl => ?_)
              · rw [hlost, if_pos rfl] at efl
                have est : lossAt acked now w (l.take (k + 1)) = lossAt acked now w (l.take k) := by rw [eat]; unfold stepAt; rw [if_pos hlost]
                simp only [z52_g76]
                try simp only [ew, Nat.reduceAdd, Nat.reduceMul, Nat.reduceLeDiff, Int.reduceBNe, Int.reduceBEq, Int.reduceLT, Int.reduceLE, ldE_t, rdA_u, own_blk q7, pktC_g]
                refine push_sep (E := pktE) (x := l[k]) hs7.drop rfl (by omega) (by decide) (by decide) fun K8 v8 h8 => ?_
                simp only [z52_s68, z52_g69]
                try simp only [ew, Nat.reduceAdd, Nat.reduceMul, Nat.reduceLeDiff, Int.reduceBNe, Int.reduceBEq, Int.reduceLT, Int.reduceLE, bin_add, w4]
                rw [← efl] at h8
                exact ⟨⟨k + 1, by omega, rfl, by rw [est], M, by omega, h8⟩, by show _ < _; omega⟩
              · rw [hnl, if_neg (by simp), List.append_nil] at efl
                simp only [z52_g77]
                try simp only [ew, Nat.reduceAdd, Nat.reduceMul, Nat.reduceLeDiff, Int.reduceBNe, Int.reduceBEq, Int.reduceLT, Int.reduceLE, ldE_t, rdA_u, own_blk q7, pktC_g]
                refine push_sep (E := pktE) (x := l[k]) hs7.b2 rfl (by omega) (by decide) (by decide) fun K8 v8 h8 => ?_
                have q8 := h8.b1.cells
                have h8' := h8.b1.drop.b1
                rw [← efl] at h8'
                have e78 : Ext [] K5 K8 := h8.only
                have r8 := rule5.ext e78
                have x8' := e78.own q5 (by simp)
                refine g78_ev r8 x8' q8 hmk hwr fun K9 e9 => ?_
                refine g79_ev (r8.ext e9) (e9.own x8' (by simp)) (e9.own q8 (by simp)) fun K10 e10 => ?_
                have h10 := (h8'.ext e9).ext e10
                refine brV_d (fun ht => ?_) (fun ht => ?_)
                · have est : lossAt acked now w (l.take (k + 1)) = dueP w l[k] := by rw [eat]; unfold stepAt; rw [if_neg (by simp [hnl]), if_pos ht]
                  simp only [z52_g80, z52_s68, z52_g69]
                  try simp only [ew, Nat.reduceAdd, Nat.reduceMul, Nat.reduceLeDiff, Int.reduceBNe, Int.reduceBEq, Int.reduceLT, Int.reduceLE, bin_add, w4]
                  exact ⟨⟨k + 1, by omega, rfl, by rw [est], M ++ [l[k]], by simp; omega, h10⟩, by show _ < _; omega⟩
                · have est : lossAt acked now w (l.take (k + 1)) = lossAt acked now w (l.take k) := by rw [eat]; unfold stepAt; rw [if_neg (by simp [hnl]), if_neg ht]
                  simp only [z52_s68, z52_g69]
                  try simp only [ew, Nat.reduceAdd, Nat.reduceMul, Nat.reduceLeDiff, Int.reduceBNe, Int.reduceBEq, Int.reduceLT, Int.reduceLE, bin_add, w4]
                  exact ⟨⟨k + 1, by omega, rfl, by rw [est], M ++ [l[k]], by simp; omega, h10⟩, by show _ < _; omega⟩
            · have hk' : k = l.length := by omega
              subst hk'
              rw [List.take_length] at hs ⊢
              simp only [z52_g81]
              obtain ⟨S, hS, ho⟩ := hs.own1
              exact hR1 K y8 y9 S (E5.trans eK) (fun b hb => by have := hS b hb; have := E5.size; omega) ho
end Go.Hc
set_option linter.unusedSimpArgs false
set_option linter.unusedVariables false
namespace Go.Hc
open Go

theorem SepL.app {H : Heap} : ∀ {As Qs : List Asr} {U : List Nat}, SepL H (As ++ Qs) U ↔ ∃ T V, U = T ++ V ∧ SepL H As T ∧ SepL H Qs V ∧ ∀ x ∈ T, x ∉ V
  | [], Qs, U => ⟨fun h => ⟨[], U, rfl, rfl, h, by simp⟩, fun ⟨T, V, e, a, b, _⟩ => by cases a; subst e; exact b⟩
  | A :: As, Qs, U => by
    constructor
    · rintro ⟨T, V, rfl, hq, hs, hd⟩
      obtain ⟨T2, V2, rfl, a, b, c⟩ := SepL.app.1 hs
      refine ⟨T ++ T2, V2, by simp, ⟨T, T2, rfl, hq, a, fun x hx h => hd x hx (by simp [h])⟩, b, fun x hx h => ?_⟩
      rcases List.mem_append.1 hx with h1 | h1
      · exact hd x h1 (by simp [h])
      · exact c x h1 h
    · rintro ⟨T, V, rfl, ⟨T1, T2, rfl, hq, hs, hd⟩, b, c⟩
      refine ⟨T1, T2 ++ V, by simp, hq, SepL.app.2 ⟨T2, V, rfl, hs, b, fun x hx => c x (by simp [hx])⟩, fun x hx h => ?_⟩
      rcases List.mem_append.1 h with h1 | h1
      · exact hd x hx h1
      · exact c x (by simp [hx]) h1
/-- some things as one -/
def packA {ι : Type} (f : ι → List Asr) : Asr where
  holds H T := ∃ i, SepL H (f i) T
  stable := fun ⟨i, h⟩ e => ⟨i, h.stable e⟩
  lt := fun ⟨_, h⟩ => h.lt
theorem Sep.op {ι : Type} {f : ι → List Asr} {H0 H : Heap} {Qs : List Asr} (h : Sep H0 H (packA f :: Qs)) : ∃ i, Sep H0 H (f i ++ Qs) := by
  obtain ⟨e, U, ⟨T, V, rfl, ⟨i, hi⟩, hs, hd⟩, hu⟩ := h
  exact ⟨i, e, T ++ V, SepL.app.2 ⟨T, V, rfl, hi, hs, hd⟩, hu⟩
theorem Sep.cl {ι : Type} {f : ι → List Asr} {H0 H : Heap} {Qs : List Asr} (i : ι) (h : Sep H0 H (f i ++ Qs)) : Sep H0 H (packA f :: Qs) := by
  obtain ⟨e, U, hs, hu⟩ := h
  obtain ⟨T, V, rfl, a, b, c⟩ := SepL.app.1 hs
  exact ⟨e, T ++ V, ⟨T, V, rfl, ⟨i, a⟩, b, c⟩, hu⟩
theorem SepL.perm {H : Heap} {As Bs : List Asr} (p : As.Perm Bs) : ∀ {U : List Nat}, SepL H As U → ∃ U', SepL H Bs U' ∧ ∀ x, x ∈ U' ↔ x ∈ U := by
  induction p with
  | nil => exact fun {U} h => ⟨U, h, fun _ => Iff.rfl⟩
  | cons a _ ih =>
    rintro U ⟨T, V, rfl, hq, hs, hd⟩
    obtain ⟨V', h', hv⟩ := ih hs
    exact ⟨T ++ V', ⟨T, V', rfl, hq, h', fun x hx h => hd x hx ((hv x).1 h)⟩, fun x => by simp [hv x]⟩
  | swap a b l =>
    rintro U ⟨T, V, rfl, hq, ⟨T2, V2, rfl, hq2, hs2, hd2⟩, hd⟩
    refine ⟨T2 ++ (T ++ V2), ⟨T2, T ++ V2, rfl, hq2, ⟨T, V2, rfl, hq, hs2, fun x hx h => hd x hx (by simp [h])⟩, fun x hx h => ?_⟩, fun x => by simp only [List.mem_append]; constructor <;> (rintro (h | h | h) <;> simp [h])⟩
    rcases List.mem_append.1 h with h | h
    · exact hd x h (by simp [hx])
    · exact hd2 x hx h
  | trans _ _ ih1 ih2 =>
    intro U h
    obtain ⟨U1, h1, e1⟩ := ih1 h
    obtain ⟨U2, h2, e2⟩ := ih2 h1
    exact ⟨U2, h2, fun x => (e2 x).trans (e1 x)⟩
theorem Sep.perm {H0 H : Heap} {As Bs : List Asr} (h : Sep H0 H As) (p : As.Perm Bs) : Sep H0 H Bs := by
  obtain ⟨e, U, hs, hu⟩ := h
  obtain ⟨U', h', e'⟩ := SepL.perm p hs
  exact ⟨e, U', h', fun x hx => hu x ((e' x).1 hx)⟩
/-- some of the things, in another order -/
theorem Sep.selA {H0 H : Heap} {As Qs : List Asr} (h : Sep H0 H (As ++ Qs)) (d : Asr) (is : List Nat) (hp : is.isPerm (List.range As.length) = true) : Sep H0 H ((is.map fun i => As.getD i d) ++ Qs) := by
  refine h.perm (List.Perm.append_right _ ?_)
  have h1 : ((List.range As.length).map fun i => As.getD i d) = As := by
    refine List.ext_getElem (by simp) fun i h1 h2 => ?_
    simp at h1
    simp [List.getD, h1]
  have h2 := (List.isPerm_iff.1 hp).map fun i => As.getD i d
  rw [h1] at h2
  exact h2.symm
theorem Sep.s2 {H0 H : Heap} {a0 a1 : Asr} {Qs : List Asr} (h : Sep H0 H (a0 :: a1 :: Qs)) (is : List Nat) (hp : is.isPerm (List.range 2) = true) : Sep H0 H ((is.map fun i => [a0, a1].getD i a0) ++ Qs) := Sep.selA (As := [a0, a1]) h a0 is hp
theorem Sep.s3 {H0 H : Heap} {a0 a1 a2 : Asr} {Qs : List Asr} (h : Sep H0 H (a0 :: a1 :: a2 :: Qs)) (is : List Nat) (hp : is.isPerm (List.range 3) = true) : Sep H0 H ((is.map fun i => [a0, a1, a2].getD i a0) ++ Qs) := Sep.selA (As := [a0, a1, a2]) h a0 is hp
theorem Sep.s4 {H0 H : Heap} {a0 a1 a2 a3 : Asr} {Qs : List Asr} (h : Sep H0 H (a0 :: a1 :: a2 :: a3 :: Qs)) (is : List Nat) (hp : is.isPerm (List.range 4) = true) : Sep H0 H ((is.map fun i => [a0, a1, a2, a3].getD i a0) ++ Qs) := Sep.selA (As := [a0, a1, a2, a3]) h a0 is hp
theorem Sep.s5 {H0 H : Heap} {a0 a1 a2 a3 a4 : Asr} {Qs : List Asr} (h : Sep H0 H (a0 :: a1 :: a2 :: a3 :: a4 :: Qs)) (is : List Nat) (hp : is.isPerm (List.range 5) = true) : Sep H0 H ((is.map fun i => [a0, a1, a2, a3, a4].getD i a0) ++ Qs) := Sep.selA (As := [a0, a1, a2, a3, a4]) h a0 is hp
theorem Sep.s6 {H0 H : Heap} {a0 a1 a2 a3 a4 a5 : Asr} {Qs : List Asr} (h : Sep H0 H (a0 :: a1 :: a2 :: a3 :: a4 :: a5 :: Qs)) (is : List Nat) (hp : is.isPerm (List.range 6) = true) : Sep H0 H ((is.map fun i => [a0, a1, a2, a3, a4, a5].getD i a0) ++ Qs) := Sep.selA (As := [a0, a1, a2, a3, a4, a5]) h a0 is hp
theorem Sep.s7 {H0 H : Heap} {a0 a1 a2 a3 a4 a5 a6 : Asr} {Qs : List Asr} (h : Sep H0 H (a0 :: a1 :: a2 :: a3 :: a4 :: a5 :: a6 :: Qs)) (is : List Nat) (hp : is.isPerm (List.range 7) = true) : Sep H0 H ((is.map fun i => [a0, a1, a2, a3, a4, a5, a6].getD i a0) ++ Qs) := Sep.selA (As := [a0, a1, a2, a3, a4, a5, a6]) h a0 is hp
theorem Sep.s8 {H0 H : Heap} {a0 a1 a2 a3 a4 a5 a6 a7 : Asr} {Qs : List Asr} (h : Sep H0 H (a0 :: a1 :: a2 :: a3 :: a4 :: a5 :: a6 :: a7 :: Qs)) (is : List Nat) (hp : is.isPerm (List.range 8) = true) : Sep H0 H ((is.map fun i => [a0, a1, a2, a3, a4, a5, a6, a7].getD i a0) ++ Qs) := Sep.selA (As := [a0, a1, a2, a3, a4, a5, a6, a7]) h a0 is hp
theorem Sep.s9 {H0 H : Heap} {a0 a1 a2 a3 a4 a5 a6 a7 a8 : Asr} {Qs : List Asr} (h : Sep H0 H (a0 :: a1 :: a2 :: a3 :: a4 :: a5 :: a6 :: a7 :: a8 :: Qs)) (is : List Nat) (hp : is.isPerm (List.range 9) = true) : Sep H0 H ((is.map fun i => [a0, a1, a2, a3, a4, a5, a6, a7, a8].getD i a0) ++ Qs) := Sep.selA (As := [a0, a1, a2, a3, a4, a5, a6, a7, a8]) h a0 is hp

/-- A space: room, last number, what is there, what is known, what is remembered, the greatest number, the loss time, the time. -/
structure Sp where
  room : Nat
  top : Int
  L : List Pkt
  kn : List Rng
  rm : List Rng
  gr : Int
  lo : Int
  ti : Int
def sp0 (room : Nat) : Sp := ⟨room, -1, [], [], [], -1, -1, -1⟩
def mayE (s : Sp) (p : Pkt) : Int := if putE s.room s.top s.L p = 0 then addE 256 s.kn p.num p.num else putE s.room s.top s.L p
def sentS (s : Sp) (p : Pkt) : Sp := if mayE s p = 0 then { s with top := p.num, L := s.L ++ [p], kn := addS 256 s.kn p.num p.num, ti := if (p.fl && p.el) = true then p.time else s.ti } else s
def allIn (kn : List Rng) (x : Rng) : Bool := kn.any fun k => decide (k.1 ≤ x.1) && decide (x.2 ≤ k.2)
def spC (lb kb rb : Nat) (gr lo ti : Int) : Array Value := #[ptr lb, ptr kb, ptr rb, iv gr, iv lo, iv ti]
section
variable {lb kb rb rb' : Nat} {gr lo ti x : Int}
theorem spC_0 : (spC lb kb rb gr lo ti)[0]? = some (ptr lb) := rfl
theorem spC_1 : (spC lb kb rb gr lo ti)[1]? = some (ptr kb) := rfl
theorem spC_2 : (spC lb kb rb gr lo ti)[2]? = some (ptr rb) := rfl
theorem spC_3 : (spC lb kb rb gr lo ti)[3]? = some (iv gr) := rfl
theorem spC_4 : (spC lb kb rb gr lo ti)[4]? = some (iv lo) := rfl
theorem spC_5 : (spC lb kb rb gr lo ti)[5]? = some (iv ti) := rfl
theorem spC_s : (spC lb kb rb gr lo ti).size = 6 := rfl
theorem spC_w2 : splice (spC lb kb rb gr lo ti) 2 [ptr rb'] = spC lb kb rb' gr lo ti := rfl
theorem spC_w3 : splice (spC lb kb rb gr lo ti) 3 [iv x] = spC lb kb rb x lo ti := rfl
theorem spC_w4 : splice (spC lb kb rb gr lo ti) 4 [iv x] = spC lb kb rb gr x ti := rfl
theorem spC_w5 : splice (spC lb kb rb gr lo ti) 5 [iv x] = spC lb kb rb gr lo x := rfl
end
def spL (s : Nat) (p : Sp) (i : Nat × Nat × Nat) : List Asr := [cellsA s (spC i.1 i.2.1 i.2.2 p.gr p.lo p.ti), logA i.1 p.room p.top p.L, setA i.2.1 256 p.kn, setA i.2.2 256 p.rm]
def spA (s : Nat) (p : Sp) : Asr := packA (spL s p)
section
variable {H0 H : Heap} {s : Nat} {sp : Sp} {Qs : List Asr} {R : Value → Heap → Prop}
theorem spOpen (h : Sep H0 H (spA s sp :: Qs)) : ∃ lb kb rb, Sep H0 H (cellsA s (spC lb kb rb sp.gr sp.lo sp.ti) :: logA lb sp.room sp.top sp.L :: setA kb 256 sp.kn :: setA rb 256 sp.rm :: Qs) := by
  obtain ⟨i, h⟩ := h.op; exact ⟨_, _, _, h⟩
theorem spClose {room : Nat} {top gr lo ti : Int} {L : List Pkt} {kn rm : List Rng} {lb kb rb : Nat} (h : Sep H0 H (cellsA s (spC lb kb rb gr lo ti) :: logA lb room top L :: setA kb 256 kn :: setA rb 256 rm :: Qs)) : Sep H0 H (spA s ⟨room, top, L, kn, rm, gr, lo, ti⟩ :: Qs) :=
  Sep.cl (f := spL s ⟨room, top, L, kn, rm, gr, lo, ti⟩) (lb, kb, rb) h
theorem spnone_nil (hR : R (.bool true) H) : EvF P N.space_Space_none #[.pointer none] H R := by
  refine z49_ev _ _ _ ?_
  simp only [z49_g5, z49_g6, space_Space_none]
  try simp only [ew, Nat.reduceAdd, Nat.reduceMul, Nat.reduceLeDiff, Int.reduceBNe, Int.reduceBEq, Int.reduceLT, Int.reduceLE, Option.isNone_none]
  exact hR
theorem spnone_ev {lb kb rb : Nat} {gr lo ti : Int} (h : own H s = some (spC lb kb rb gr lo ti)) (hR : R (.bool false) H) : EvF P N.space_Space_none #[ptr s] H R := by
  refine z49_ev _ _ _ ?_
  simp only [z49_g5, z49_g6, space_Space_none]
  try simp only [ew, Nat.reduceAdd, Nat.reduceMul, Nat.reduceLeDiff, Int.reduceBNe, Int.reduceBEq, Int.reduceLT, Int.reduceLE, ldE_f, own_blk h, spC_0]
  exact hR
theorem spNew_sep {r : Int} (h : Sep H0 H Qs) (hbad : ¬ (1 ≤ r ∧ r ≤ 256) → R (.tuple #[.pointer none, iv 2]) H)
    (hok : ∀ (room s : Nat) H', r = room → 1 ≤ room → room ≤ 256 → Sep H0 H' (spA s (sp0 room) :: Qs) → R (.tuple #[ptr s, iv 0]) H') : EvF P N.space_New #[iv r] H R := by
  refine z10_ev _ _ _ ?_
  simp only [z10_g17, z10_g18, z10_g19, z10_g20, z10_g21, z10_g22, z10_g23, space_New]
  refine New_sep h (fun hb => ?_) fun room b H1 hr h1 h2 h => ?_
  · try simp only [ew, Nat.reduceAdd, Nat.reduceMul, Nat.reduceLeDiff, Int.reduceBNe, Int.reduceBEq, Int.reduceLT, Int.reduceLE]
    exact hbad hb
  · try simp only [ew, Nat.reduceAdd, Nat.reduceMul, Nat.reduceLeDiff, Int.reduceBNe, Int.reduceBEq, Int.reduceLT, Int.reduceLE]
    refine new_s h (by decide) fun k H2 h => ?_
    try simp only [ew, Nat.reduceAdd, Nat.reduceMul, Nat.reduceLeDiff, Int.reduceBNe, Int.reduceBEq, Int.reduceLT, Int.reduceLE]
    refine new_s h (by decide) fun m H3 h => ?_
    try simp only [ew, Nat.reduceAdd, Nat.reduceMul, Nat.reduceLeDiff, Int.reduceBNe, Int.reduceBEq, Int.reduceLT, Int.reduceLE]
    have hb : buildV #[(.pointer none), (.pointer none), (.pointer none), (.int .i64 0), (.int .i64 0), (.int .i64 0)] (places [(0, 1), (1, 1), (2, 1), (3, 1), (4, 1), (5, 1)]) [(0, ptr b), (1, ptr k), (2, ptr m), (3, (.int .i64 (-1))), (4, (.int .i64 (-1))), (5, (.int .i64 (-1)))] = some (.agg (spC b k m (-1) (-1) (-1))) := rfl
    try simp only [ew, Nat.reduceAdd, Nat.reduceMul, Nat.reduceLeDiff, Int.reduceBNe, Int.reduceBEq, Int.reduceLT, Int.reduceLE, hb]
    have h4 := h.newC (t := 78) (c := spC b k m (-1) (-1) (-1))
    exact hok room _ _ hr h1 h2 (spClose (lb := b) (kb := k) (rb := m) (h4.s4 [0, 3, 2, 1] rfl))
theorem spOne_ev {f : Value} {lb kb rb : Nat} {gr lo ti : Int} (h : own H s = some (spC lb kb rb gr lo ti)) (hR : callV P f [] H R) : EvF P N.space_Space_one #[ptr s, f] H R := by
  refine z47_ev _ _ _ _ ?_
  simp only [z47_g11, z47_g12, z47_g13, z47_g14, space_Space_one]
  refine spnone_ev h ?_
  try simp only [ew, Nat.reduceAdd, Nat.reduceMul, Nat.reduceLeDiff, Int.reduceBNe, Int.reduceBEq, Int.reduceLT, Int.reduceLE]
  exact hR
theorem Last_sp (h : Sep H0 H (spA s sp :: Qs)) (hR : ∀ H', Sep H0 H' (spA s sp :: Qs) → R (iv sp.top) H') : EvF P N.space_Space_Last #[ptr s] H R := by
  obtain ⟨lb, kb, rb, h⟩ := spOpen h
  refine z20_ev _ _ _ ?_
  simp only [z20_g5, z20_g6, space_Space_Last]
  try simp only [ew, Nat.reduceAdd, Nat.reduceMul, Nat.reduceLeDiff, Int.reduceBNe, Int.reduceBEq, Int.reduceLT, Int.reduceLE]
  generalize hK : newB H _ _ = K
  have hn := h.newC (t := 23) (c := #[ptr s])
  rw [hK] at hn
  have c0 : (#[ptr s] : Array Value)[0]? = some (ptr s) := rfl
  have q := own_blk hn.cells
  have qs := hn.b1.cells
  simp only [ldE_f, q, Option.bind_some, c0, bnd_some]
  refine spOne_ev qs ?_
  try simp only [ew, Nat.reduceAdd, Nat.reduceMul, Nat.reduceLeDiff, Int.reduceBNe, Int.reduceBEq, Int.reduceLT, Int.reduceLE, Array.toList_empty, List.nil_append, List.cons_append, List.append_nil]
  refine z55_ev _ _ _ ?_
  simp only [z55_g5, z55_g6, space_Space_Last_1]
  try simp only [ew, Nat.reduceAdd, Nat.reduceMul, Nat.reduceLeDiff, Int.reduceBNe, Int.reduceBEq, Int.reduceLT, Int.reduceLE, ldE_f, q, c0, own_blk qs, spC_0]
  refine Last_sep hn.b2 ?_
  exact hR _ (spClose hn.drop)
theorem Greatest_sp (h : Sep H0 H (spA s sp :: Qs)) (hR : ∀ H', Sep H0 H' (spA s sp :: Qs) → R (iv sp.gr) H') : EvF P N.space_Space_Greatest #[ptr s] H R := by
  obtain ⟨lb, kb, rb, h⟩ := spOpen h
  refine z13_ev _ _ _ ?_
  simp only [z13_g5, z13_g6, space_Space_Greatest]
  try simp only [ew, Nat.reduceAdd, Nat.reduceMul, Nat.reduceLeDiff, Int.reduceBNe, Int.reduceBEq, Int.reduceLT, Int.reduceLE]
  generalize hK : newB H _ _ = K
  have hn := h.newC (t := 23) (c := #[ptr s])
  rw [hK] at hn
  have c0 : (#[ptr s] : Array Value)[0]? = some (ptr s) := rfl
  have q := own_blk hn.cells
  have qs := hn.b1.cells
  simp only [ldE_f, q, Option.bind_some, c0, bnd_some]
  refine spOne_ev qs ?_
  try simp only [ew, Nat.reduceAdd, Nat.reduceMul, Nat.reduceLeDiff, Int.reduceBNe, Int.reduceBEq, Int.reduceLT, Int.reduceLE, Array.toList_empty, List.nil_append, List.cons_append, List.append_nil]
  refine z48_ev _ _ _ ?_
  simp only [z48_g5, z48_g6, space_Space_Greatest_1]
  try simp only [ew, Nat.reduceAdd, Nat.reduceMul, Nat.reduceLeDiff, Int.reduceBNe, Int.reduceBEq, Int.reduceLT, Int.reduceLE, ldE_f, q, c0, own_blk qs, spC_3]
  exact hR _ (spClose hn.drop)
theorem Loss_sp (h : Sep H0 H (spA s sp :: Qs)) (hR : ∀ H', Sep H0 H' (spA s sp :: Qs) → R (iv sp.lo) H') : EvF P N.space_Space_Loss #[ptr s] H R := by
  obtain ⟨lb, kb, rb, h⟩ := spOpen h
  refine z15_ev _ _ _ ?_
  simp only [z15_g5, z15_g6, space_Space_Loss]
  try simp only [ew, Nat.reduceAdd, Nat.reduceMul, Nat.reduceLeDiff, Int.reduceBNe, Int.reduceBEq, Int.reduceLT, Int.reduceLE]
  generalize hK : newB H _ _ = K
  have hn := h.newC (t := 23) (c := #[ptr s])
  rw [hK] at hn
  have c0 : (#[ptr s] : Array Value)[0]? = some (ptr s) := rfl
  have q := own_blk hn.cells
  have qs := hn.b1.cells
  simp only [ldE_f, q, Option.bind_some, c0, bnd_some]
  refine spOne_ev qs ?_
  try simp only [ew, Nat.reduceAdd, Nat.reduceMul, Nat.reduceLeDiff, Int.reduceBNe, Int.reduceBEq, Int.reduceLT, Int.reduceLE, Array.toList_empty, List.nil_append, List.cons_append, List.append_nil]
  refine z51_ev _ _ _ ?_
  simp only [z51_g5, z51_g6, space_Space_Loss_1]
  try simp only [ew, Nat.reduceAdd, Nat.reduceMul, Nat.reduceLeDiff, Int.reduceBNe, Int.reduceBEq, Int.reduceLT, Int.reduceLE, ldE_f, q, c0, own_blk qs, spC_4]
  exact hR _ (spClose hn.drop)
theorem Time_sp (h : Sep H0 H (spA s sp :: Qs)) (hR : ∀ H', Sep H0 H' (spA s sp :: Qs) → R (iv sp.ti) H') : EvF P N.space_Space_Time #[ptr s] H R := by
  obtain ⟨lb, kb, rb, h⟩ := spOpen h
  refine z30_ev _ _ _ ?_
  simp only [z30_g5, z30_g6, space_Space_Time]
  try simp only [ew, Nat.reduceAdd, Nat.reduceMul, Nat.reduceLeDiff, Int.reduceBNe, Int.reduceBEq, Int.reduceLT, Int.reduceLE]
  generalize hK : newB H _ _ = K
  have hn := h.newC (t := 23) (c := #[ptr s])
  rw [hK] at hn
  have c0 : (#[ptr s] : Array Value)[0]? = some (ptr s) := rfl
  have q := own_blk hn.cells
  have qs := hn.b1.cells
  simp only [ldE_f, q, Option.bind_some, c0, bnd_some]
  refine spOne_ev qs ?_
  try simp only [ew, Nat.reduceAdd, Nat.reduceMul, Nat.reduceLeDiff, Int.reduceBNe, Int.reduceBEq, Int.reduceLT, Int.reduceLE, Array.toList_empty, List.nil_append, List.cons_append, List.append_nil]
  refine z69_ev _ _ _ ?_
  simp only [z69_g5, z69_g6, space_Space_Time_1]
  try simp only [ew, Nat.reduceAdd, Nat.reduceMul, Nat.reduceLeDiff, Int.reduceBNe, Int.reduceBEq, Int.reduceLT, Int.reduceLE, ldE_f, q, c0, own_blk qs, spC_5]
  exact hR _ (spClose hn.drop)
theorem sp_mayL (h : Sep H0 H (spA s sp :: Qs)) : RiseL sp.L ∧ (∀ p ∈ sp.L, May p ∧ p.num ≤ sp.top) ∧ sp.L.length ≤ sp.room ∧ (-1 ≤ sp.top ∧ sp.top ≤ 9007199254740991) ∧ (1 ≤ sp.room ∧ sp.room ≤ 256) := by
  obtain ⟨lb, kb, rb, h⟩ := spOpen h
  obtain ⟨T, ⟨b, rfl, cap, fr, sl, hl⟩, _⟩ := h.b1.get
  exact ⟨by rw [← hl.liv]; exact hl.up.rise, hl.mayL, hl.few, hl.htop, hl.rep.hroom⟩
theorem sp_knL (h : Sep H0 H (spA s sp :: Qs)) : Okr sp.kn ∧ sp.kn.length ≤ 256 := by
  obtain ⟨lb, kb, rb, h⟩ := spOpen h
  exact ⟨h.b2.set_ok.2.1, h.b2.set_ok.2.2⟩
theorem Flight_sp (h : Sep H0 H (spA s sp :: Qs)) (hR : ∀ H', Sep H0 H' (spA s sp :: Qs) → R (iv (flight sp.L)) H') : EvF P N.space_Space_Flight #[ptr s] H R := by
  have hm := sp_mayL h
  obtain ⟨lb, kb, rb, h⟩ := spOpen h
  refine z27_ev _ _ _ ?_
  simp only [z27_g5, z27_g6, space_Space_Flight]
  try simp only [ew, Nat.reduceAdd, Nat.reduceMul, Nat.reduceLeDiff, Int.reduceBNe, Int.reduceBEq, Int.reduceLT, Int.reduceLE]
  generalize hK : newB H _ _ = K
  have hn := h.newC (t := 23) (c := #[ptr s])
  rw [hK] at hn
  have c0 : (#[ptr s] : Array Value)[0]? = some (ptr s) := rfl
  have q := own_blk hn.cells
  have qs := hn.b1.cells
  simp only [ldE_f, q, Option.bind_some, c0, bnd_some]
  refine spOne_ev qs ?_
  try simp only [ew, Nat.reduceAdd, Nat.reduceMul, Nat.reduceLeDiff, Int.reduceBNe, Int.reduceBEq, Int.reduceLT, Int.reduceLE, Array.toList_empty, List.nil_append, List.cons_append, List.append_nil]
  refine z64_ev _ _ _ ?_
  simp only [z64_g5, z64_g6, space_Space_Flight_1]
  try simp only [ew, Nat.reduceAdd, Nat.reduceMul, Nat.reduceLeDiff, Int.reduceBNe, Int.reduceBEq, Int.reduceLT, Int.reduceLE, ldE_f, q, c0, own_blk qs, spC_0]
  refine Flight_sep hn.b2 fun K2 h2 => ?_
  have hf := flight_le fun p hp => (hm.2.1 p hp).1
  simp only [max_iv, bnd_some, show max 0 (flight sp.L) = flight sp.L by omega]
  exact hR _ (spClose h2.b2.b2.drop)
theorem Elic_sp (h : Sep H0 H (spA s sp :: Qs)) (hR : ∀ H', Sep H0 H' (spA s sp :: Qs) → R (iv (elic sp.L)) H') : EvF P N.space_Space_Eliciting #[ptr s] H R := by
  obtain ⟨lb, kb, rb, h⟩ := spOpen h
  refine z28_ev _ _ _ ?_
  simp only [z28_g5, z28_g6, space_Space_Eliciting]
  try simp only [ew, Nat.reduceAdd, Nat.reduceMul, Nat.reduceLeDiff, Int.reduceBNe, Int.reduceBEq, Int.reduceLT, Int.reduceLE]
  generalize hK : newB H _ _ = K
  have hn := h.newC (t := 23) (c := #[ptr s])
  rw [hK] at hn
  have c0 : (#[ptr s] : Array Value)[0]? = some (ptr s) := rfl
  have q := own_blk hn.cells
  have qs := hn.b1.cells
  simp only [ldE_f, q, Option.bind_some, c0, bnd_some]
  refine spOne_ev qs ?_
  try simp only [ew, Nat.reduceAdd, Nat.reduceMul, Nat.reduceLeDiff, Int.reduceBNe, Int.reduceBEq, Int.reduceLT, Int.reduceLE, Array.toList_empty, List.nil_append, List.cons_append, List.append_nil]
  refine z66_ev _ _ _ ?_
  simp only [z66_g5, z66_g6, space_Space_Eliciting_1]
  try simp only [ew, Nat.reduceAdd, Nat.reduceMul, Nat.reduceLeDiff, Int.reduceBNe, Int.reduceBEq, Int.reduceLT, Int.reduceLE, ldE_f, q, c0, own_blk qs, spC_0]
  refine Eliciting_sep hn.b2 fun K2 h2 => ?_
  have hf := elic_le (L := sp.L)
  simp only [max_iv, bnd_some, show max 0 (elic sp.L) = elic sp.L by omega]
  exact hR _ (spClose h2.b2.b2.drop)
theorem All_sp (h : Sep H0 H (spA s sp :: Qs)) (hR : ∀ H' v, Sep H0 H' (lstA pktE v sp.L :: spA s sp :: Qs) → R v H') : EvF P N.space_Space_All #[ptr s] H R := by
  obtain ⟨lb, kb, rb, h⟩ := spOpen h
  refine z14_ev _ _ _ ?_
  simp only [z14_g11, z14_g12, z14_g13, z14_g14, space_Space_All]
  have qs := h.cells
  refine spnone_ev qs ?_
  try simp only [ew, Nat.reduceAdd, Nat.reduceMul, Nat.reduceLeDiff, Int.reduceBNe, Int.reduceBEq, Int.reduceLT, Int.reduceLE, ldE_f, own_blk qs, spC_0]
  refine All_sep h.b1 fun K v h2 => hR K v ?_
  -- v, log, cells, kn, rm
  exact (spClose (Qs := lstA pktE v sp.L :: Qs) (h2.s5 [2, 1, 3, 4, 0] rfl)).b1
end
end Go.Hc
set_option linter.unusedSimpArgs false
set_option linter.unusedVariables false
namespace Go.Hc
open Go

section
variable {H0 H : Heap} {s : Nat} {sp : Sp} {Qs : List Asr} {R : Value → Heap → Prop}
theorem putE_ne {room : Nat} {top : Int} {L : List Pkt} {p : Pkt} : putE room top L p = 0 ∨ putE room top L p ≠ 0 := by omega
theorem May_sp {p : Pkt} (h : Sep H0 H (spA s sp :: Qs)) (hR : ∀ H', Sep H0 H' (spA s sp :: Qs) → R (iv (mayE sp p)) H') : EvF P N.space_Space_May #[ptr s, pv p] H R := by
  obtain ⟨lb, kb, rb, h⟩ := spOpen h
  refine z41_ev _ _ _ _ ?_
  simp only [space_Space_May, z41_g19, z41_g20]
  try simp only [ew, Nat.reduceAdd, Nat.reduceMul, Nat.reduceLeDiff, Int.reduceBNe, Int.reduceBEq, Int.reduceLT, Int.reduceLE]
  generalize hK : newB H _ _ = K
  have hn := h.newC (t := 40) (c := pktC p)
  rw [hK] at hn
  have qp := own_blk hn.cells
  have qs := hn.b1.cells
  refine spnone_ev qs ?_
  try simp only [ew, Nat.reduceAdd, Nat.reduceMul, Nat.reduceLeDiff, Int.reduceBNe, Int.reduceBEq, Int.reduceLT, Int.reduceLE, z41_g22]
  try simp only [ew, Nat.reduceAdd, Nat.reduceMul, Nat.reduceLeDiff, Int.reduceBNe, Int.reduceBEq, Int.reduceLT, Int.reduceLE, ldE_f, ldE_t, rdA_u, own_blk qs, spC_0, qp, pktC_g]
  refine Copy_sep (hn.s5 [2, 0, 1, 3, 4] rfl) fun K1 lb' h1 => ?_
  have qp1 := own_blk h1.b2.cells
  try simp only [ew, Nat.reduceAdd, Nat.reduceMul, Nat.reduceLeDiff, Int.reduceBNe, Int.reduceBEq, Int.reduceLT, Int.reduceLE, ldE_t, rdA_u, qp1, pktC_g]
  refine Put_sep h1 fun K2 h2 => ?_
  replace h2 := h2.drop
  have qp2 := own_blk h2.b1.cells
  have qs2 := own_blk h2.b2.cells
  rcases putE_ne (room := sp.room) (top := sp.top) (L := sp.L) (p := p) with he | he
  · have e1 : ((0 : Int) != 0) = false := rfl
    rw [he]
    simp only [z41_g23]
    try simp only [ew, Nat.reduceAdd, Nat.reduceMul, Nat.reduceLeDiff, Int.reduceBNe, Int.reduceBEq, Int.reduceLT, Int.reduceLE, z41_g25]
    try simp only [ew, Nat.reduceAdd, Nat.reduceMul, Nat.reduceLeDiff, Int.reduceBNe, Int.reduceBEq, Int.reduceLT, Int.reduceLE, ldE_f, ldE_t, rdA_u, qs2, spC_1, qp2, pktC_0]
    refine copy_s (h2.s5 [3, 0, 1, 2, 4] rfl) fun kb' K3 h3 => ?_
    have qp3 := own_blk h3.b3.cells
    try simp only [ew, Nat.reduceAdd, Nat.reduceMul, Nat.reduceLeDiff, Int.reduceBNe, Int.reduceBEq, Int.reduceLT, Int.reduceLE, ldE_f, qp3, pktC_0]
    refine add_s h3 fun K4 h4 => ?_
    -- kb', kb, lb, p, s, rb
    replace h4 := h4.drop
    have := hR K4 (spClose (h4.s5 [3, 1, 0, 4, 2] rfl).b4.drop)
    unfold mayE at this; rw [if_pos he] at this; exact this
  · have e1 : (putE sp.room sp.top sp.L p != 0) = true := by simpa using he
    simp only [z41_g23]
    try simp only [ew, Nat.reduceAdd, Nat.reduceMul, Nat.reduceLeDiff, Int.reduceBNe, Int.reduceBEq, Int.reduceLT, Int.reduceLE, e1, z41_g24]
    have := hR K2 (spClose (h2.s5 [2, 0, 3, 4, 1] rfl).b4.drop)
    unfold mayE at this; rw [if_neg he] at this; exact this
theorem Sent_sp {p : Pkt} (h : Sep H0 H (spA s sp :: Qs)) (hR : ∀ H', Sep H0 H' (spA s (sentS sp p) :: Qs) → R (iv (mayE sp p)) H') : EvF P N.space_Space_Sent #[ptr s, pv p] H R := by
  refine z25_ev _ _ _ _ ?_
  simp only [space_Space_Sent, z25_g22, z25_g23]
  try simp only [ew, Nat.reduceAdd, Nat.reduceMul, Nat.reduceLeDiff, Int.reduceBNe, Int.reduceBEq, Int.reduceLT, Int.reduceLE]
  generalize hK : newB H _ _ = K
  have hn := h.newC (t := 40) (c := pktC p)
  rw [hK] at hn
  have qp := own_blk hn.cells
  try simp only [ew, Nat.reduceAdd, Nat.reduceMul, Nat.reduceLeDiff, Int.reduceBNe, Int.reduceBEq, Int.reduceLT, Int.reduceLE, ldE_t, rdA_u, qp, pktC_g]
  refine May_sp hn.b1 fun K1 h1 => ?_
  simp only [z25_g24]
  try simp only [ew, Nat.reduceAdd, Nat.reduceMul, Nat.reduceLeDiff, Int.reduceBNe, Int.reduceBEq, Int.reduceLT, Int.reduceLE]
  by_cases he : mayE sp p = 0
  · have hpe : putE sp.room sp.top sp.L p = 0 := by
      rcases putE_ne (room := sp.room) (top := sp.top) (L := sp.L) (p := p) with h | h
      · exact h
      · unfold mayE at he; rw [if_neg h] at he; exact he
    have e1 : ((0 : Int) != 0) = false := rfl
    rw [he] at hR ⊢
    unfold sentS at hR
    rw [if_pos he] at hR
    obtain ⟨lb, kb, rb, h1⟩ := spOpen h1
    -- s, lb, kb, rb, p
    have qs := own_blk h1.cells
    have qp := own_blk h1.b4.cells
    simp only [e1, brV_f, z25_g26]
    try simp only [ew, Nat.reduceAdd, Nat.reduceMul, Nat.reduceLeDiff, Int.reduceBNe, Int.reduceBEq, Int.reduceLT, Int.reduceLE, ldE_f, ldE_t, rdA_u, qs, spC_0, qp, pktC_g]
    refine Put_sep h1.b1 fun K2 h2 => ?_
    rw [hpe] at h2
    simp only [if_true] at h2
    -- lb, s, kb, rb, p
    have qs2 := own_blk h2.b1.cells
    have qp2 := own_blk h2.b4.cells
    simp only [z25_g27]
    try simp only [ew, Nat.reduceAdd, Nat.reduceMul, Nat.reduceLeDiff, Int.reduceBNe, Int.reduceBEq, Int.reduceLT, Int.reduceLE, ldE_f, qs2, spC_1, qp2, pktC_0]
    refine add_s h2.b2 fun K3 h3 => ?_
    -- kb, lb, s, rb, p
    have qs3 := h3.b2.cells
    have qp3 := own_blk h3.b4.cells
    have fin : ∀ K4 ti, Sep H0 K4 (cellsA s (spC lb kb rb sp.gr sp.lo ti) :: logA lb sp.room p.num (sp.L ++ [p]) :: setA kb 256 (addS 256 sp.kn p.num p.num) :: setA rb 256 sp.rm :: cellsA H.size (pktC p) :: Qs) → ti = (if (p.fl && p.el) = true then p.time else sp.ti) → R (iv 0) K4 := fun K4 ti h4 e => by
      subst e
      exact hR K4 (spClose h4.b4.drop)
    simp only [z25_g31]
    try simp only [ew, Nat.reduceAdd, Nat.reduceMul, Nat.reduceLeDiff, Int.reduceBNe, Int.reduceBEq, Int.reduceLT, Int.reduceLE, ldE_f, qp3, pktC_4, pktC_3]
    have h3' := h3.s5 [2, 1, 0, 3, 4] rfl
    refine brV_i (fun hfl => ?_) (fun hfl => ?_)
    · try simp only [ew, Nat.reduceAdd, Nat.reduceMul, Nat.reduceLeDiff, Int.reduceBNe, Int.reduceBEq, Int.reduceLT, Int.reduceLE, ldE_f, qp3, pktC_3]
      refine brV_i (fun hel => ?_) (fun hel => ?_)
      · have s5 : stE 1 (.pointer (some ⟨s, 5, none⟩)) (iv p.time) K3 = some (setB K3 s (spC lb kb rb sp.gr sp.lo p.time)) := by
          rw [st_ptr qs3 (by rw [spC_s]; omega) rfl rfl, spC_w5]
        simp only [z25_g32, z25_s28, z25_g29]
        try simp only [ew, Nat.reduceAdd, Nat.reduceMul, Nat.reduceLeDiff, Int.reduceBNe, Int.reduceBEq, Int.reduceLT, Int.reduceLE, ldE_f, qp3, pktC_1, s5]
        exact fin _ _ (h3'.set (c' := spC lb kb rb sp.gr sp.lo p.time)) (by simp [hfl, hel])
      · simp only [z25_s28, z25_g29]
        exact fin _ _ h3' (by simp [hfl, hel])
    · try simp only [ew, Nat.reduceAdd, Nat.reduceMul, Nat.reduceLeDiff, Int.reduceBNe, Int.reduceBEq, Int.reduceLT, Int.reduceLE]
      simp only [z25_s28, z25_g29]
      exact fin _ _ h3' (by simp [hfl])
  · have e1 : (mayE sp p != 0) = true := by simpa using he
    try simp only [ew, Nat.reduceAdd, Nat.reduceMul, Nat.reduceLeDiff, Int.reduceBNe, Int.reduceBEq, Int.reduceLT, Int.reduceLE, e1, z25_g25]
    unfold sentS at hR
    rw [if_neg he] at hR
    exact hR K1 h1.b1.drop
theorem sentAll_sp {x : Rng} (h : Sep H0 H (spA s sp :: Qs)) (hR : ∀ H', Sep H0 H' (spA s sp :: Qs) → R (.bool (allIn sp.kn x)) H') : EvF P N.space_Space_sentAll #[ptr s, .agg (rngC x)] H R := by
  obtain ⟨lb, kb, rb, h⟩ := spOpen h
  refine z58_ev _ _ _ _ ?_
  simp only [z58_g5, z58_g6, space_Space_sentAll]
  try simp only [ew, Nat.reduceAdd, Nat.reduceMul, Nat.reduceLeDiff, Int.reduceBNe, Int.reduceBEq, Int.reduceLT, Int.reduceLE]
  generalize hK : newB H _ _ = K
  have hn := h.newC (t := 93) (c := rngC x)
  rw [hK] at hn
  have qs := own_blk hn.b1.cells
  try simp only [ew, Nat.reduceAdd, Nat.reduceMul, Nat.reduceLeDiff, Int.reduceBNe, Int.reduceBEq, Int.reduceLT, Int.reduceLE, ldE_f, qs, spC_1]
  refine ranges_s (hn.s5 [3, 0, 1, 2, 4] rfl) fun v K1 h1 => ?_
  -- v, kb, x, s, lb, rb
  obtain ⟨T, ov⟩ := h1.list
  have qx := h1.b2.cells
  refine anyR_ev (g := fun k => decide (k.1 ≤ x.1) && decide (x.2 ≤ k.2)) ov.showA (fun k _ M e Q hQ => ?_) fun K2 e2 => ?_
  · try simp only [ew, Nat.reduceAdd, Nat.reduceMul, Nat.reduceLeDiff, Int.reduceBNe, Int.reduceBEq, Int.reduceLT, Int.reduceLE]
    refine z104_ev _ _ _ _ ?_
    simp only [z104_g5, z104_g6, space_Space_sentAll_1]
    try simp only [ew, Nat.reduceAdd, Nat.reduceMul, Nat.reduceLeDiff, Int.reduceBNe, Int.reduceBEq, Int.reduceLT, Int.reduceLE]
    generalize hM : newB M _ _ = M1
    have eM : Ext [] M M1 := by rw [← hM]; exact (Ext.refl _ _).newB _ _
    have qM : own M1 M.size = some (rngC k) := by rw [← hM]; exact own_newB_self
    have qx2 := (e.trans eM).own qx (by simp)
    have := hQ M1 eM
    try simp only [ew, Nat.reduceAdd, Nat.reduceMul, Nat.reduceLeDiff, Int.reduceBNe, Int.reduceBEq, Int.reduceLT, Int.reduceLE, ldE_f, own_blk qM, own_blk qx2, rngC_0, rngC_1]
    refine brV_d (fun h => ?_) (fun h => ?_)
    · rw [decide_eq_true h, Bool.true_and] at this
      exact this
    · rw [decide_eq_false h, Bool.false_and] at this
      exact this
  · have e : sp.kn.reverse.any (fun k => decide (k.1 ≤ x.1) && decide (x.2 ≤ k.2)) = allIn sp.kn x := by rw [List.any_reverse]; rfl
    rw [e]
    have h2 := h1.ext e2
    exact hR K2 (spClose (h2.drop.s5 [2, 3, 0, 4, 1] rfl).b4.drop)
theorem Discard_sp (h : Sep H0 H (spA s sp :: Qs)) (hR : ∀ H', Sep H0 H' (spA s { sp with L := [], lo := -1, ti := -1 } :: Qs) → R (.tuple #[]) H') : EvF P N.space_Space_Discard #[ptr s] H R := by
  obtain ⟨lb, kb, rb, h⟩ := spOpen h
  refine z29_ev _ _ _ ?_
  simp only [z29_g8, z29_g9, z29_g10, space_Space_Discard]
  have qs := h.cells
  refine spnone_ev qs ?_
  try simp only [ew, Nat.reduceAdd, Nat.reduceMul, Nat.reduceLeDiff, Int.reduceBNe, Int.reduceBEq, Int.reduceLT, Int.reduceLE, ldE_f, own_blk qs, spC_0]
  refine Clear_sep h.b1 fun K1 h1 => ?_
  have h1' := h1.b1
  have q1 := h1'.cells
  have s4 : stE 1 (.pointer (some ⟨s, 4, none⟩)) (.int .i64 (-1)) K1 = some (setB K1 s (spC lb kb rb sp.gr (-1) sp.ti)) := by
    rw [st_ptr q1 (by rw [spC_s]; omega) rfl rfl, spC_w4]
  have h2 := h1'.set (c' := spC lb kb rb sp.gr (-1) sp.ti)
  have q2 := h2.cells
  have s5 : stE 1 (.pointer (some ⟨s, 5, none⟩)) (.int .i64 (-1)) (setB K1 s (spC lb kb rb sp.gr (-1) sp.ti)) = some (setB (setB K1 s (spC lb kb rb sp.gr (-1) sp.ti)) s (spC lb kb rb sp.gr (-1) (-1))) := by
    rw [st_ptr q2 (by rw [spC_s]; omega) rfl rfl, spC_w5]
  simp only [Nat.zero_add, bnd_some, nilV_p, faV_p, s4, s5]
  exact hR _ (spClose (h2.set (c' := spC lb kb rb sp.gr (-1) (-1))))
end
end Go.Hc
