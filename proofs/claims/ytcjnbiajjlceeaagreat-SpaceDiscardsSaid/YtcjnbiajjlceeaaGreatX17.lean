/- Spaces: what is dropped, what is remembered. -/
import Derived.Test.YtcjnbiajjlceeaaGreatX16
set_option linter.unusedSimpArgs false
set_option linter.unusedVariables false
namespace Go.Hc
open Go

def dropM (M L : List Pkt) : List Pkt := M.foldl (fun L p => L.filter fun q => q.num != p.num) L
theorem dropM_all : ∀ (M L : List Pkt), dropM M L = L.filter fun q => M.all fun p => q.num != p.num
  | [], L => (List.filter_eq_self.2 (by simp)).symm
  | p :: M, L => by
    have : dropM (p :: M) L = dropM M (L.filter fun q => q.num != p.num) := rfl
    rw [this, dropM_all M, List.filter_filter]
    congr 1; funext q; simp [Bool.and_comm]
theorem rise_inj {L : List Pkt} (h : RiseL L) {p q : Pkt} (hp : p ∈ L) (hq : q ∈ L) (e : p.num = q.num) : p = q := by
  obtain ⟨i, hi, rfl⟩ := List.getElem_of_mem hp
  obtain ⟨j, hj, rfl⟩ := List.getElem_of_mem hq
  have hpw := List.pairwise_iff_getElem.1 h
  rcases Nat.lt_trichotomy i j with h1 | h1 | h1
  · have := hpw i j hi hj h1; omega
  · subst h1; rfl
  · have := hpw j i hj hi h1; omega
theorem dropM_filter {L : List Pkt} (h : RiseL L) (f : Pkt → Bool) : dropM (L.filter f) L = L.filter fun p => !f p := by
  rw [dropM_all]
  refine List.filter_congr fun q hq => ?_
  cases hf : f q with
  | true =>
    rw [Bool.not_true, List.all_eq_false]
    exact ⟨q, List.mem_filter.2 ⟨hq, hf⟩, by simp⟩
  | false =>
    rw [Bool.not_false, List.all_eq_true]
    intro p hp
    have hp' := List.mem_filter.1 hp
    have : q.num ≠ p.num := fun e => by
      have := rise_inj h hq hp'.1 e
      subst this; rw [hf] at hp'; simp at hp'
    simpa using this
section
variable {H0 H : Heap} {s : Nat} {sp : Sp} {Qs : List Asr} {R : Value → Heap → Prop}
theorem dropped_sp {v f : Value} {l : List Pkt} {g : Pkt → Bool} (h : Sep H0 H (spA s sp :: Qs)) (hv : ∀ K, Sep H0 K Qs → ShowA pktE K v l)
    (hf : ∀ p ∈ l, ∀ K, Sep H0 K Qs → ∀ Q : Value → Heap → Prop, (∀ K', Ext [] K K' → Q (.bool (g p)) K') → callV P f [pv p] K Q) (hl : l.length ≤ 10000)
    (hR : ∀ H' v', Sep H0 H' (lstA pktE v' (l.filter g) :: spA s { sp with L := dropM (l.filter g) sp.L } :: Qs) → R v' H') : EvF P N.space_Space_dropped #[ptr s, v, f] H R := by
  obtain ⟨lb, kb, rb, h⟩ := spOpen h
  refine z53_ev _ _ _ _ _ ?_
  have hv0 := hv H h.drop.drop.drop.drop
  simp only [space_Space_dropped, z53_g28, z53_g29, z53_g30]
  try simp only [ew, Nat.reduceAdd, Nat.reduceMul, Nat.reduceLeDiff, Int.reduceBNe, Int.reduceBEq, Int.reduceLT, Int.reduceLE, ldE_f, own_blk h.cells, spC_0, hv0.len]
  simp only [z53_l44]
  refine ⟨fun x6 x17 K => ∃ k : Nat, k ≤ l.length ∧ x17 = iv k ∧ Sep H0 K (lstA pktE x6 ((l.take k).filter g) :: cellsA s (spC lb kb rb sp.gr sp.lo sp.ti) :: logA lb sp.room sp.top (dropM ((l.take k).filter g) sp.L) :: setA kb 256 sp.kn :: setA rb 256 sp.rm :: Qs),
    fun _ x17 _ => (match x17 with | .int _ k => (l.length - k).toNat | _ => 0), ⟨0, by omega, rfl, h.nilL⟩, ?_⟩
  rintro x6 x17 K ⟨k, hk, rfl, hs⟩
  have w4 : IntKind.i64.wrap ((k : Int) + 1) = ((k + 1 : Nat) : Int) := by rw [wrap_in (by omega)]; omega
  simp only [z53_s31, z53_g32]
  try simp only [ew, Nat.reduceAdd, Nat.reduceMul, Nat.reduceLeDiff, Int.reduceBNe, Int.reduceBEq, Int.reduceLT, Int.reduceLE]
  refine brV_d (fun hlt => ?_) (fun hge => ?_)
  · have hk' : k < l.length := by omega
    have hvK := hv K hs.drop.drop.drop.drop.drop
    obtain ⟨b, o, c, i1, _, _, i4⟩ := hvK.ix (by decide) hk' (rfl : (k : Int) = k)
    have i1' : ixSV 6 v (iv k) = _ := i1
    have i4' : ldE true 6 _ K = some (pv l[k]) := i4
    have stp : ∀ t, stE 6 (ptr K.size) (pv l[k]) (newB K t (pktC pkt0)) = some (setB (newB K t (pktC pkt0)) K.size (pktC l[k])) := fun t => st_pkt (Ext.refl _ _)
    simp only [z53_g39]
    try simp only [ew, Nat.reduceAdd, Nat.reduceMul, Nat.reduceLeDiff, Int.reduceBNe, Int.reduceBEq, Int.reduceLT, Int.reduceLE, i1', i4', pkt0_C, stp]
    generalize hK1 : setB (newB K _ _) _ _ = K1
    have h1 := (hs.newC (t := 40) (c := pktC pkt0)).set (c' := pktC l[k])
    rw [hK1] at h1
    have q1 := h1.cells
    have etk : l.take (k + 1) = l.take k ++ [l[k]] := by rw [List.take_add_one, List.getElem?_eq_getElem hk', Option.toList_some]
    have hfl : ((l.take k).filter g).length ≤ k := Nat.le_trans (List.length_filter_le _ _) (by rw [List.length_take]; omega)
    simp only [z53_g40]
    try simp only [ew, Nat.reduceAdd, Nat.reduceMul, Nat.reduceLeDiff, Int.reduceBNe, Int.reduceBEq, Int.reduceLT, Int.reduceLE, ldE_t, rdA_u, own_blk q1, pktC_g]
    refine hf _ (List.getElem_mem hk') K1 h1.drop.drop.drop.drop.drop.drop _ fun K2 e2 => ?_
    have h2 := h1.ext e2
    have q2 := h2.cells
    refine brV_i (fun hg => ?_) (fun hg => ?_)
    · have efl : (l.take (k + 1)).filter g = (l.take k).filter g ++ [l[k]] := by rw [etk, List.filter_append]; simp [hg]
      have edr : dropM ((l.take (k + 1)).filter g) sp.L = (dropM ((l.take k).filter g) sp.L).filter fun q => q.num != l[k].num := by rw [efl]; unfold dropM; rw [List.foldl_append]; rfl
      simp only [z53_g41]
      try simp only [ew, Nat.reduceAdd, Nat.reduceMul, Nat.reduceLeDiff, Int.reduceBNe, Int.reduceBEq, Int.reduceLT, Int.reduceLE, ldE_f, own_blk q2, pktC_0, List.nil_append, List.cons_append, List.append_nil, Array.toList_empty]
      refine Drop_sep (h2.s4 [3, 0, 1, 2] rfl) fun K3 h3 => ?_
      rw [← edr] at h3
      -- log, p, out, s
      have q3 := h3.b1.cells
      simp only [z53_g42]
      try simp only [ew, Nat.reduceAdd, Nat.reduceMul, Nat.reduceLeDiff, Int.reduceBNe, Int.reduceBEq, Int.reduceLT, Int.reduceLE, ldE_t, rdA_u, own_blk q3, pktC_g]
      refine push_sep (E := pktE) (x := l[k]) h3.b2 rfl (by omega) (by decide) (by decide) fun K4 v4 h4 => ?_
      -- out, log, p, s
      rw [← efl] at h4
      simp only [z53_s33, z53_g34]
      try simp only [ew, Nat.reduceAdd, Nat.reduceMul, Nat.reduceLeDiff, Int.reduceBNe, Int.reduceBEq, Int.reduceLT, Int.reduceLE, bin_add, w4]
      exact ⟨⟨k + 1, by omega, rfl, (h4.s4 [2, 0, 3, 1] rfl).drop⟩, by show _ < _; omega⟩
    · have efl : (l.take (k + 1)).filter g = (l.take k).filter g := by rw [etk, List.filter_append]; simp [hg]
      simp only [z53_s33, z53_g34]
      try simp only [ew, Nat.reduceAdd, Nat.reduceMul, Nat.reduceLeDiff, Int.reduceBNe, Int.reduceBEq, Int.reduceLT, Int.reduceLE, bin_add, w4]
      exact ⟨⟨k + 1, by omega, rfl, by rw [efl]; exact h2.drop⟩, by show _ < _; omega⟩
  · have hk' : k = l.length := by omega
    subst hk'
    rw [List.take_length] at hs
    simp only [z53_g43]
    exact hR K x6 (spClose (hs.s5 [1, 2, 3, 4, 0] rfl)).b1
def remS (m : List Rng) (rs : List Rng) : List Rng := rs.foldl (fun m x => addS 256 m x.1 x.2) m
def remH (sp : Sp) : List Rng := match sp.L.head? with | some p => cutS sp.rm p.num | none => []
theorem rem_tail {b : Nat} {v : Value} {a : AckR} (h : Sep H0 H (spA s sp :: cellsA b (ackC v a) :: Qs)) (hv : ∀ K, Sep H0 K Qs → ShowA rngE K v a.rs) (hn : 0 < a.rs.length)
    (hR : ∀ H', Sep H0 H' (spA s { sp with rm := remS sp.rm a.rs, gr := max sp.gr a.rs[0].2 } :: Qs) → R (.tuple #[]) H') : z59_s29 (ptr s) (ptr b) R H := by
  obtain ⟨lb, kb, rb, h⟩ := spOpen h
  have hsm := (hv H h.drop.drop.drop.drop.drop).small
  simp only [z59_s29, z59_g30]
  try simp only [ew, Nat.reduceAdd, Nat.reduceMul, Nat.reduceLeDiff, Int.reduceBNe, Int.reduceBEq, Int.reduceLT, Int.reduceLE, ldE_f, own_blk h.b4.cells, ackC_1, (hv H h.drop.drop.drop.drop.drop).len]
  simp only [z59_l41]
  refine ⟨fun x K => ∃ k : Nat, k ≤ a.rs.length ∧ x = iv k ∧ Sep H0 K (cellsA s (spC lb kb rb sp.gr sp.lo sp.ti) :: logA lb sp.room sp.top sp.L :: setA kb 256 sp.kn :: setA rb 256 (remS sp.rm (a.rs.take k)) :: cellsA b (ackC v a) :: Qs),
    fun x _ => (match x with | .int _ k => (a.rs.length - k).toNat | _ => 0), ⟨0, by omega, rfl, h⟩, ?_⟩
  rintro x K ⟨k, hk, rfl, hs⟩
  have hvK := hv K hs.drop.drop.drop.drop.drop
  simp only [z59_s31, z59_g32]
  try simp only [ew, Nat.reduceAdd, Nat.reduceMul, Nat.reduceLeDiff, Int.reduceBNe, Int.reduceBEq, Int.reduceLT, Int.reduceLE]
  refine brV_d (fun hlt => ?_) (fun hge => ?_)
  · have hk' : k < a.rs.length := by omega
    have w4 : IntKind.i64.wrap ((k : Int) + 1) = ((k + 1 : Nat) : Int) := by rw [wrap_in (by omega)]; omega
    obtain ⟨b', o, c, i1, _, _, i4⟩ := hvK.ix (by decide) hk' (rfl : (k : Int) = k)
    have i1' : ixSV 2 v (iv k) = _ := i1
    have i4' : ldE true 2 _ K = some (.agg (rngC a.rs[k])) := i4
    simp only [z59_g33]
    try simp only [ew, Nat.reduceAdd, Nat.reduceMul, Nat.reduceLeDiff, Int.reduceBNe, Int.reduceBEq, Int.reduceLT, Int.reduceLE, i1', i4', rng0, st_rng]
    generalize hK1 : setB (newB K _ _) _ _ = K1
    have h1 := (hs.newC (t := 93) (c := rngC (0, 0))).set (c' := rngC a.rs[k])
    rw [hK1] at h1
    have q1 := h1.cells
    have qs := h1.b1.cells
    simp only [z59_g34]
    try simp only [ew, Nat.reduceAdd, Nat.reduceMul, Nat.reduceLeDiff, Int.reduceBNe, Int.reduceBEq, Int.reduceLT, Int.reduceLE, ldE_f, own_blk q1, own_blk qs, spC_2, rngC_0, rngC_1]
    -- x, s, lb, kb, rb, b
    refine add_s (h1.s5 [4, 0, 1, 2, 3] rfl) fun K2 h2 => ?_
    have er : addS 256 (remS sp.rm (a.rs.take k)) a.rs[k].1 a.rs[k].2 = remS sp.rm (a.rs.take (k + 1)) := by
      unfold remS; rw [List.take_add_one, List.getElem?_eq_getElem hk', Option.toList_some, List.foldl_append]; rfl
    rw [er] at h2
    simp only [z59_g35]
    try simp only [ew, Nat.reduceAdd, Nat.reduceMul, Nat.reduceLeDiff, Int.reduceBNe, Int.reduceBEq, Int.reduceLT, Int.reduceLE, bin_add, w4]
    exact ⟨⟨k + 1, by omega, rfl, (h2.s5 [1, 2, 3, 4, 0] rfl).drop⟩, by show _ < _; omega⟩
  · have hk' : k = a.rs.length := by omega
    subst hk'
    rw [List.take_length] at hs
    have qs := hs.cells
    have qb := hs.b4.cells
    obtain ⟨b', o, c, i1, i2, i3, _⟩ := hvK.ix (by decide) hn (rfl : (0 : Int) = (0 : Nat))
    have i1' : ixSV 2 v (.int .i64 0) = _ := i1
    have i3' : c[o + 1]? = some (iv a.rs[0].2) := i3 1 (by decide)
    have s3 : stE 1 (.pointer (some ⟨s, 3, none⟩)) (iv (max sp.gr a.rs[0].2)) K = some (setB K s (spC lb kb rb (max sp.gr a.rs[0].2) sp.lo sp.ti)) := by
      rw [st_ptr qs (by rw [spC_s]; omega) rfl rfl, spC_w3]
    simp only [z59_g36]
    try simp only [ew, Nat.reduceAdd, Nat.reduceMul, Nat.reduceLeDiff, Int.reduceBNe, Int.reduceBEq, Int.reduceLT, Int.reduceLE, ldE_f, own_blk qs, own_blk qb, spC_3, ackC_1, i1', i2, i3', max_iv, s3]
    have h2 := hs.set (c' := spC lb kb rb (max sp.gr a.rs[0].2) sp.lo sp.ti)
    exact hR _ (spClose h2.b4.drop)
theorem remember_sp {v : Value} {a : AckR} (h : Sep H0 H (spA s sp :: Qs)) (hv : ∀ K, Sep H0 K Qs → ShowA rngE K v a.rs) (hn : 0 < a.rs.length)
    (hR : ∀ H', Sep H0 H' (spA s { sp with rm := remS (remH sp) a.rs, gr := max sp.gr a.rs[0].2 } :: Qs) → R (.tuple #[]) H') : EvF P N.space_Space_remember #[ptr s, .agg (ackC v a)] H R := by
  obtain ⟨lb, kb, rb, h⟩ := spOpen h
  refine z59_ev _ _ _ _ ?_
  simp only [space_Space_remember, z59_g28]
  try simp only [ew, Nat.reduceAdd, Nat.reduceMul, Nat.reduceLeDiff, Int.reduceBNe, Int.reduceBEq, Int.reduceLT, Int.reduceLE]
  generalize hK : newB H _ _ = K
  have hn1 := h.newC (t := 52) (c := ackC v a)
  rw [hK] at hn1
  -- b, s, lb, kb, rb
  have qs := hn1.b1.cells
  simp only [z59_g42]
  try simp only [ew, Nat.reduceAdd, Nat.reduceMul, Nat.reduceLeDiff, Int.reduceBNe, Int.reduceBEq, Int.reduceLT, Int.reduceLE, ldE_f, own_blk qs, spC_0]
  refine Oldest_sep hn1.b2 fun K1 h1 => ?_
  simp only [opt]
  have stp : ∀ t, stE 6 (ptr K1.size) (pv (sp.L.head?.getD pkt0)) (newB K1 t (pktC pkt0)) = some (setB (newB K1 t (pktC pkt0)) K1.size (pktC (sp.L.head?.getD pkt0))) := fun t => st_pkt (Ext.refl _ _)
  try simp only [ew, Nat.reduceAdd, Nat.reduceMul, Nat.reduceLeDiff, Int.reduceBNe, Int.reduceBEq, Int.reduceLT, Int.reduceLE, pkt0_C, stp, z59_g43]
  generalize hK2 : setB (newB K1 _ _) _ _ = K2
  have h2 := (h1.newC (t := 40) (c := pktC pkt0)).set (c' := pktC (sp.L.head?.getD pkt0))
  rw [hK2] at h2
  -- p, lb, b, s, kb, rb
  have qp := own_blk h2.cells
  have qs2 := h2.b3.cells
  refine brV_i (fun hsome => ?_) (fun hnone => ?_)
  · obtain ⟨q, hq⟩ := Option.isSome_iff_exists.1 hsome
    rw [hq] at qp h2
    simp only [z59_g44]
    try simp only [ew, Nat.reduceAdd, Nat.reduceMul, Nat.reduceLeDiff, Int.reduceBNe, Int.reduceBEq, Int.reduceLT, Int.reduceLE, ldE_f, own_blk qs2, spC_2, qp, pktC_0, Option.getD_some]
    refine cut_s (h2.s6 [5, 0, 1, 2, 3, 4] rfl) fun K3 h3 => ?_
    -- rb, p, lb, b, s, kb
    have e : cutS sp.rm q.num = remH sp := by unfold remH; rw [hq]
    rw [e] at h3
    exact rem_tail (sp := { sp with rm := remH sp }) (spClose (h3.s6 [1, 4, 2, 5, 0, 3] rfl).drop) hv hn hR
  · have hh : sp.L.head? = none := by simpa using hnone
    simp only [z59_g45]
    refine new_s h2 (by decide) fun rb' K3 h3 => ?_
    -- rb', p, lb, b, s, kb, rb
    have qs3 := h3.b4.cells
    have s2 : stE 1 (.pointer (some ⟨s, 2, none⟩)) (ptr rb') K3 = some (setB K3 s (spC lb kb rb' sp.gr sp.lo sp.ti)) := by
      rw [st_ptr qs3 (by rw [spC_s]; omega) rfl rfl, spC_w2]
    try simp only [ew, Nat.reduceAdd, Nat.reduceMul, Nat.reduceLeDiff, Int.reduceBNe, Int.reduceBEq, Int.reduceLT, Int.reduceLE, s2]
    have h4 := h3.b4.set (c' := spC lb kb rb' sp.gr sp.lo sp.ti)
    -- s, rb', p, lb, b, kb, rb
    have e : remH sp = [] := by unfold remH; rw [hh]
    rw [e] at hR
    exact rem_tail (sp := { sp with rm := [] }) (spClose (h4.s7 [2, 6, 0, 3, 5, 1, 4] rfl).drop.drop) hv hn hR
end
end Go.Hc
set_option linter.unusedSimpArgs false
set_option linter.unusedVariables false
namespace Go.Hc
open Go

def ackE (s : Sp) (a : AckR) : Int := if okA a = true then (if a.rs.all (allIn s.kn) = true then 0 else 170) else 2
def told (s : Sp) (a : AckR) : List Pkt := s.L.filter fun p => hasR a.rs p.num
def ackS (s : Sp) (a : AckR) : Sp := { s with rm := remS (remH s) a.rs, gr := max s.gr (a.rs.getD 0 (0, 0)).2, L := s.L.filter fun p => !hasR a.rs p.num }
def lostS (s : Sp) (now w : Int) : Sp := { s with lo := lossAt s.gr now w s.L, L := s.L.filter fun p => !lostP s.gr now w p }
section
variable {H0 H : Heap} {s : Nat} {sp : Sp} {Qs : List Asr} {R : Value → Heap → Prop}
theorem Ack_sp {v : Value} {a : AckR} (h : Sep H0 H (spA s sp :: Qs)) (hv : ∀ K, Sep H0 K Qs → ShowA rngE K v a.rs)
    (hR0 : ackE sp a ≠ 0 → ∀ H', Sep H0 H' (spA s sp :: Qs) → R (.tuple #[nilS, iv (ackE sp a)]) H')
    (hR1 : ackE sp a = 0 → ∀ H' v', Sep H0 H' (lstA pktE v' (told sp a) :: spA s (ackS sp a) :: Qs) → R (.tuple #[v', iv 0]) H') :
    EvF P N.space_Space_Ack #[ptr s, .agg (ackC v a)] H R := by
  refine z21_ev _ _ _ _ ?_
  have hml := sp_mayL h
  simp only [space_Space_Ack, z21_g41, z21_g42]
  try simp only [ew, Nat.reduceAdd, Nat.reduceMul, Nat.reduceLeDiff, Int.reduceBNe, Int.reduceBEq, Int.reduceLT, Int.reduceLE]
  generalize hK : newB H _ _ = K
  have hn := (h.newC (t := 52) (c := ackC v a)).b1
  rw [hK] at hn
  have hvQ : ∀ K, Sep H0 K (cellsA H.size (ackC v a) :: Qs) → ShowA rngE K v a.rs := fun K h => hv K h.drop
  have qb := hn.b1.cells
  have hvK := hvQ K hn.drop
  obtain ⟨lb, kb, rb, ho⟩ := spOpen hn
  refine spnone_ev ho.cells ?_
  try simp only [ew, Nat.reduceAdd, Nat.reduceMul, Nat.reduceLeDiff, Int.reduceBNe, Int.reduceBEq, Int.reduceLT, Int.reduceLE, z21_g44]
  try simp only [ew, Nat.reduceAdd, Nat.reduceMul, Nat.reduceLeDiff, Int.reduceBNe, Int.reduceBEq, Int.reduceLT, Int.reduceLE, ldE_t, rdA_u, own_blk qb, ackC_g]
  refine frameCheck_ev hvK fun K1 e1 => ?_
  have h1 := hn.ext e1
  simp only [z21_g45]
  unfold chkA
  by_cases hok : okA a = true
  · rw [if_pos hok]
    have qb1 := h1.b1.cells
    have hv1 := hvQ K1 h1.drop
    have hsm := hv1.small
    have e0 : ((0 : Int) != 0) = false := rfl
    try simp only [ew, Nat.reduceAdd, Nat.reduceMul, Nat.reduceLeDiff, Int.reduceBNe, Int.reduceBEq, Int.reduceLT, Int.reduceLE, z21_g47]
    try simp only [ew, Nat.reduceAdd, Nat.reduceMul, Nat.reduceLeDiff, Int.reduceBNe, Int.reduceBEq, Int.reduceLT, Int.reduceLE, ldE_f, own_blk qb1, ackC_1, hv1.len]
    simp only [z21_l60]
    refine ⟨fun x K => ∃ k : Nat, k ≤ a.rs.length ∧ x = iv k ∧ Sep H0 K (spA s sp :: cellsA H.size (ackC v a) :: Qs) ∧ ∀ j (h : j < a.rs.length), j < k → allIn sp.kn a.rs[j] = true,
      fun x _ => (match x with | .int _ k => (a.rs.length - k).toNat | _ => 0), ⟨0, by omega, rfl, h1, fun j _ h => absurd h (by omega)⟩, ?_⟩
    rintro x K2 ⟨k, hk, rfl, h2, hall⟩
    have hv2 := hvQ K2 h2.drop
    simp only [z21_s48, z21_g49]
    try simp only [ew, Nat.reduceAdd, Nat.reduceMul, Nat.reduceLeDiff, Int.reduceBNe, Int.reduceBEq, Int.reduceLT, Int.reduceLE]
    refine brV_d (fun hlt => ?_) (fun hge => ?_)
    · have hk' : k < a.rs.length := by omega
      have w4 : IntKind.i64.wrap ((k : Int) + 1) = ((k + 1 : Nat) : Int) := by rw [wrap_in (by omega)]; omega
      obtain ⟨b', o, c, i1, _, _, i4⟩ := hv2.ix (by decide) hk' (rfl : (k : Int) = k)
      have i1' : ixSV 2 v (iv k) = _ := i1
      have i4' : ldE true 2 _ K2 = some (.agg (rngC a.rs[k])) := i4
      simp only [z21_g50]
      try simp only [ew, Nat.reduceAdd, Nat.reduceMul, Nat.reduceLeDiff, Int.reduceBNe, Int.reduceBEq, Int.reduceLT, Int.reduceLE, i1', i4', rng0, st_rng]
      generalize hK3 : setB (newB K2 _ _) _ _ = K3
      have h3 := (h2.newC (t := 93) (c := rngC (0, 0))).set (c' := rngC a.rs[k])
      rw [hK3] at h3
      have q3 := h3.cells
      simp only [z21_g51]
      try simp only [ew, Nat.reduceAdd, Nat.reduceMul, Nat.reduceLeDiff, Int.reduceBNe, Int.reduceBEq, Int.reduceLT, Int.reduceLE, ldE_t, rdA_u, own_blk q3, rngC_g]
      refine sentAll_sp h3.b1 fun K4 h4 => ?_
      try simp only [ew, Nat.reduceAdd, Nat.reduceMul, Nat.reduceLeDiff, Int.reduceBNe, Int.reduceBEq, Int.reduceLT, Int.reduceLE]
      refine brV_i (fun hb => ?_) (fun hb => ?_)
      · have hne : ackE sp a = 170 := by
          unfold ackE; rw [if_pos hok, if_neg]
          intro h
          have := List.all_eq_true.1 h _ (List.getElem_mem hk')
          rw [this] at hb; cases hb
        rw [hne] at hR0
        simp only [z21_g52]
        exact hR0 (by decide) K4 h4.b1.drop.b1.drop
      · simp only [z21_g53]
        try simp only [ew, Nat.reduceAdd, Nat.reduceMul, Nat.reduceLeDiff, Int.reduceBNe, Int.reduceBEq, Int.reduceLT, Int.reduceLE, bin_add, w4]
        refine ⟨⟨k + 1, by omega, rfl, h4.b1.drop, fun j hj hjk => ?_⟩, by show _ < _; omega⟩
        rcases Nat.lt_or_ge j k with h | h
        · exact hall j hj h
        · have : j = k := by omega
          subst this; simpa using hb
    · have hk' : k = a.rs.length := by omega
      subst hk'
      have hE : ackE sp a = 0 := by
        unfold ackE; rw [if_pos hok, if_pos]
        exact List.all_eq_true.2 fun x hx => by obtain ⟨j, hj, rfl⟩ := List.getElem_of_mem hx; exact hall j hj hj
      have hpos : 0 < a.rs.length := by
        unfold okA at hok; simp only [Bool.and_eq_true, decide_eq_true_eq] at hok; omega
      have q2 := h2.b1.cells
      simp only [z21_g54]
      try simp only [ew, Nat.reduceAdd, Nat.reduceMul, Nat.reduceLeDiff, Int.reduceBNe, Int.reduceBEq, Int.reduceLT, Int.reduceLE, ldE_t, rdA_u, own_blk q2, ackC_g]
      refine remember_sp h2 hvQ hpos fun K3 h3 => ?_
      obtain ⟨lb, kb, rb, h3⟩ := spOpen h3
      have qs := h3.cells
      simp only [z21_g55]
      try simp only [ew, Nat.reduceAdd, Nat.reduceMul, Nat.reduceLeDiff, Int.reduceBNe, Int.reduceBEq, Int.reduceLT, Int.reduceLE, ldE_f, own_blk qs, spC_0]
      refine All_sep h3.b1 fun K4 w h4 => ?_
      have h5 := spClose (h4.s5 [2, 1, 3, 4, 0] rfl)
      refine dropped_sp (g := fun p => hasR a.rs p.num) (l := sp.L) h5 (fun K h => by obtain ⟨T, o⟩ := h.list; exact o.showA) (fun p hp K h Q hQ => ?_) (by have := hml.2.2.1; have := hml.2.2.2.2; omega) fun K5 v' h6 => ?_
      · try simp only [ew, Nat.reduceAdd, Nat.reduceMul, Nat.reduceLeDiff, Int.reduceBNe, Int.reduceBEq, Int.reduceLT, Int.reduceLE]
        refine z60_ev _ _ _ _ ?_
        simp only [z60_g5, z60_g6, space_Space_Ack_1]
        try simp only [ew, Nat.reduceAdd, Nat.reduceMul, Nat.reduceLeDiff, Int.reduceBNe, Int.reduceBEq, Int.reduceLT, Int.reduceLE]
        generalize hM : newB K _ _ = M
        have eM : Ext [] K M := by rw [← hM]; exact (Ext.refl _ _).newB _ _
        have qM : own M K.size = some (pktC p) := by rw [← hM]; exact own_newB_self
        have qa := eM.own h.b1.cells (by simp)
        have hvM := hvQ M (h.drop.ext eM)
        try simp only [ew, Nat.reduceAdd, Nat.reduceMul, Nat.reduceLeDiff, Int.reduceBNe, Int.reduceBEq, Int.reduceLT, Int.reduceLE, ldE_f, ldE_t, rdA_u, own_blk qM, own_blk qa, ackC_g, pktC_0]
        refine frameHas_ev hvM fun M2 e2 => ?_
        rw [hok, Bool.true_and]
        exact hQ M2 (eM.trans e2)
      · rw [dropM_filter hml.1] at h6
        have hg : (a.rs.getD 0 (0, 0)).2 = a.rs[0].2 := by simp [List.getD, hpos]
        have hS : ackS sp a = { sp with rm := remS (remH sp) a.rs, gr := max sp.gr a.rs[0].2, L := sp.L.filter fun p => !hasR a.rs p.num } := by unfold ackS; rw [hg]
        rw [hS] at hR1
        exact hR1 hE K5 v' (h6.s4 [2, 3, 0, 1] rfl).drop.drop
  · rw [if_neg hok]
    have hne : ackE sp a = 2 := by unfold ackE; rw [if_neg hok]
    rw [hne] at hR0
    have e0 : ((2 : Int) != 0) = true := rfl
    try simp only [ew, Nat.reduceAdd, Nat.reduceMul, Nat.reduceLeDiff, Int.reduceBNe, Int.reduceBEq, Int.reduceLT, Int.reduceLE, e0, z21_g46]
    exact hR0 (by decide) K1 h1.b1.drop
theorem Lose_sp {now : Int} {r : Rtt} (h : Sep H0 H (spA s sp :: Qs)) (hr : In64r r)
    (hR0 : findE sp.L sp.gr now r ≠ 0 → ∀ H', Sep H0 H' (spA s sp :: Qs) → R (.tuple #[nilS, iv (findE sp.L sp.gr now r)]) H')
    (hR1 : findE sp.L sp.gr now r = 0 → ∀ H' v', Sep H0 H' (lstA pktE v' (sp.L.filter (lostP sp.gr now (waitL r))) :: spA s (lostS sp now (waitL r)) :: Qs) → R (.tuple #[v', iv 0]) H') :
    EvF P N.space_Space_Lose #[ptr s, iv now, rtv r] H R := by
  refine z17_ev _ _ _ _ _ ?_
  have hml := sp_mayL h
  simp only [space_Space_Lose, z17_g21, z17_g22]
  try simp only [ew, Nat.reduceAdd, Nat.reduceMul, Nat.reduceLeDiff, Int.reduceBNe, Int.reduceBEq, Int.reduceLT, Int.reduceLE]
  generalize hK : newB H _ _ = K
  have hn := (h.newC (t := 45) (c := rttC r)).b1
  rw [hK] at hn
  have qb := hn.b1.cells
  obtain ⟨lb, kb, rb, ho⟩ := spOpen hn
  have qs := ho.cells
  refine spnone_ev qs ?_
  try simp only [ew, Nat.reduceAdd, Nat.reduceMul, Nat.reduceLeDiff, Int.reduceBNe, Int.reduceBEq, Int.reduceLT, Int.reduceLE, z17_g24]
  try simp only [ew, Nat.reduceAdd, Nat.reduceMul, Nat.reduceLeDiff, Int.reduceBNe, Int.reduceBEq, Int.reduceLT, Int.reduceLE, ldE_f, ldE_t, rdA_u, own_blk qs, spC_0, spC_3, own_blk qb, rttC_g]
  refine All_sep ho.b1 fun K1 w h1 => ?_
  -- w, lb, s, kb, rb, r
  have qb1 := (h1.s6 [5, 0, 1, 2, 3, 4] rfl).cells
  have qs1 := h1.b2.cells
  obtain ⟨T, ow⟩ := h1.list
  try simp only [ew, Nat.reduceAdd, Nat.reduceMul, Nat.reduceLeDiff, Int.reduceBNe, Int.reduceBEq, Int.reduceLT, Int.reduceLE, ldE_f, ldE_t, rdA_u, own_blk qs1, spC_3, own_blk qb1, rttC_g]
  refine Find_ev ow.showA hr (fun hne K2 e2 => ?_) (fun heq K2 v1 v2 S e2 hS ov => ?_)
  · have h2 := h1.ext e2
    have e0 : (findE sp.L sp.gr now r != 0) = true := by simpa using hne
    try simp only [ew, Nat.reduceAdd, Nat.reduceMul, Nat.reduceLeDiff, Int.reduceBNe, Int.reduceBEq, Int.reduceLT, Int.reduceLE, z17_g25]
    try simp only [ew, Nat.reduceAdd, Nat.reduceMul, Nat.reduceLeDiff, Int.reduceBNe, Int.reduceBEq, Int.reduceLT, Int.reduceLE, e0, z17_g26]
    exact hR0 hne K2 (spClose (h2.s6 [5, 0, 2, 1, 3, 4] rfl).drop.drop)
  · have h2 := h1.new e2 (Q := lstA pktE v1 _) (T := S) ov hS
    -- v1, w, lb, s, kb, rb, r
    have e0 : ((0 : Int) != 0) = false := rfl
    try simp only [ew, Nat.reduceAdd, Nat.reduceMul, Nat.reduceLeDiff, Int.reduceBNe, Int.reduceBEq, Int.reduceLT, Int.reduceLE, z17_g25]
    try simp only [ew, Nat.reduceAdd, Nat.reduceMul, Nat.reduceLeDiff, Int.reduceBNe, Int.reduceBEq, Int.reduceLT, Int.reduceLE, e0, z17_g27]
    have h3 := h2.s6 [3, 2, 4, 5, 0, 1] rfl
    have q3 := h3.cells
    have s4 : stE 1 (.pointer (some ⟨s, 4, none⟩)) (iv (lossAt sp.gr now (waitL r) sp.L)) K2 = some (setB K2 s (spC lb kb rb sp.gr (lossAt sp.gr now (waitL r) sp.L) sp.ti)) := by
      rw [st_ptr q3 (by rw [spC_s]; omega) rfl rfl, spC_w4]
    try simp only [ew, Nat.reduceAdd, Nat.reduceMul, Nat.reduceLeDiff, Int.reduceBNe, Int.reduceBEq, Int.reduceLT, Int.reduceLE, s4, z17_g28]
    have h4 := spClose (h3.set (c' := spC lb kb rb sp.gr (lossAt sp.gr now (waitL r) sp.L) sp.ti))
    refine dropped_sp (g := fun _ => true) h4 (fun K h => by obtain ⟨T, o⟩ := h.list; exact o.showA) (fun p hp K h Q hQ => ?_) (by have := hml.2.2.1; have := hml.2.2.2.2; have := List.length_filter_le (lostP sp.gr now (waitL r)) sp.L; omega) fun K5 v' h6 => ?_
    · try simp only [ew, Nat.reduceAdd, Nat.reduceMul, Nat.reduceLeDiff, Int.reduceBNe, Int.reduceBEq, Int.reduceLT, Int.reduceLE]
      refine z54_ev _ _ _ ?_
      simp only [z54_g5, z54_g6, space_Space_Lose_1]
      try simp only [ew, Nat.reduceAdd, Nat.reduceMul, Nat.reduceLeDiff, Int.reduceBNe, Int.reduceBEq, Int.reduceLT, Int.reduceLE]
      exact hQ _ ((Ext.refl _ _).newB _ _)
    · have ef : (sp.L.filter (lostP sp.gr now (waitL r))).filter (fun _ => true) = sp.L.filter (lostP sp.gr now (waitL r)) := List.filter_eq_self.2 (by simp)
      rw [ef, dropM_filter hml.1] at h6
      try simp only [ew, Nat.reduceAdd, Nat.reduceMul, Nat.reduceLeDiff, Int.reduceBNe, Int.reduceBEq, Int.reduceLT, Int.reduceLE]
      exact hR1 heq K5 v' (h6.s5 [2, 3, 4, 0, 1] rfl).drop.drop.drop
end
end Go.Hc
set_option linter.unusedSimpArgs false
set_option linter.unusedVariables false
namespace Go.Hc
open Go

/-- an element of a list of numbers is read -/
theorem ShowA.at1 {K : Heap} {v : Value} {l : List Int} (h : ShowA intE K v l) {i : Nat} (hi : i < l.length) {j : Int} (hj : j = i) :
    ∃ b o, ixSV 1 v (.int .i64 j) = some (.pointer (some ⟨b, o, none⟩)) ∧ ldE false 1 (.pointer (some ⟨b, o, none⟩)) K = some (iv l[i]) := by
  obtain ⟨b, o, c, h1, h2, h3, _⟩ := h.ix (by decide) hi hj
  exact ⟨b, o, h1, ld_ptr h2 (h3 0 (by decide))⟩
theorem ShowA.at1' {K : Heap} {v : Value} {l : List Int} (h : ShowA intE K v l) {i : Nat} (hi : i < l.length) {j : Int} (hj : j = i) {b o : Nat} (hx : ixSV 1 v (.int .i64 j) = some (.pointer (some ⟨b, o, none⟩))) :
    ldE false 1 (.pointer (some ⟨b, o, none⟩)) K = some (iv l[i]) := by
  obtain ⟨b', o', h1, h2⟩ := h.at1 hi hj
  rw [hx] at h1; cases h1; exact h2
/-- an element of a list of ranges is read, end by end -/
theorem ShowA.at2 {K : Heap} {v : Value} {l : List Rng} (h : ShowA rngE K v l) {i : Nat} (hi : i < l.length) {j : Int} (hj : j = i) :
    ∃ b o, ixSV 2 v (.int .i64 j) = some (.pointer (some ⟨b, o, none⟩)) ∧ ldE false 1 (.pointer (some ⟨b, o, none⟩)) K = some (iv l[i].1) ∧ ldE false 1 (.pointer (some ⟨b, o + 1, none⟩)) K = some (iv l[i].2) := by
  obtain ⟨b, o, c, h1, h2, h3, _⟩ := h.ix (by decide) hi hj
  exact ⟨b, o, h1, ld_ptr h2 (h3 0 (by decide)), ld_ptr h2 (h3 1 (by decide))⟩
theorem ShowA.at2' {K : Heap} {v : Value} {l : List Rng} (h : ShowA rngE K v l) {i : Nat} (hi : i < l.length) {j : Int} (hj : j = i) {b o : Nat} (hx : ixSV 2 v (.int .i64 j) = some (.pointer (some ⟨b, o, none⟩))) :
    ldE false 1 (.pointer (some ⟨b, o, none⟩)) K = some (iv l[i].1) ∧ ldE false 1 (.pointer (some ⟨b, o + 1, none⟩)) K = some (iv l[i].2) := by
  obtain ⟨b', o', h1, h2, h3⟩ := h.at2 hi hj
  rw [hx] at h1; cases h1; exact ⟨h2, h3⟩
/-- the number of a packet of a list is read -/
theorem ShowA.at6 {K : Heap} {v : Value} {l : List Pkt} (h : ShowA pktE K v l) {i : Nat} (hi : i < l.length) {j : Int} (hj : j = i) :
    ∃ b o, ixSV 6 v (.int .i64 j) = some (.pointer (some ⟨b, o, none⟩)) ∧ ldE false 1 (.pointer (some ⟨b, o, none⟩)) K = some (iv l[i].num) ∧ ldE false 1 (.pointer (some ⟨b, o + 2, none⟩)) K = some (iv l[i].size) ∧
      ldE false 1 (.pointer (some ⟨b, o + 3, none⟩)) K = some (.bool l[i].el) ∧ ldE false 1 (.pointer (some ⟨b, o + 4, none⟩)) K = some (.bool l[i].fl) := by
  obtain ⟨b, o, c, h1, h2, h3, _⟩ := h.ix (by decide) hi hj
  exact ⟨b, o, h1, ld_ptr h2 (h3 0 (by decide)), ld_ptr h2 (h3 2 (by decide)), ld_ptr h2 (h3 3 (by decide)), ld_ptr h2 (h3 4 (by decide))⟩
def stdy : Rtt := ⟨100, 1, 100, 0, 0⟩
def pk (n t : Int) : Pkt := ⟨n, t, 100, true, true, false⟩
def ackOf (rs : List Rng) : AckR := ⟨0, rs, false, 0, 0, 0⟩
def ints (l : List Pkt) : List Int := l.map (·.num)
theorem stdy_in : In64r stdy := by unfold In64r In64 stdy; simp only; omega
theorem stdy_ok : rttOK stdy = true := by decide
theorem stdy_w : waitL stdy = 1000000 := by unfold waitL; rw [if_pos stdy_ok]; rfl
section
variable {H0 H : Heap} {Qs : List Asr} {R : Value → Heap → Prop}
theorem steady_sep (h : Sep H0 H Qs) (hR : ∀ H', Sep H0 H' Qs → R (rtv stdy) H') : EvF P N.sounderlaw17_steady #[] H R := by
  refine z18_ev _ _ ?_
  have hb : buildV #[(.int .i64 0), (.int .i64 0), (.int .i64 0), (.int .i64 0), (.int .i64 0)] (places [(0, 1), (1, 1), (2, 1), (3, 1), (4, 1)]) [(0, (.int .i64 100)), (1, (.int .i64 1)), (2, (.int .i64 100))] = some (rtv stdy) := rfl
  have hsz : (#[.int .i64 0, .int .i64 0, .int .i64 0, .int .i64 0, .int .i64 0] : Array Value).size = 5 := rfl
  simp only [z18_g5, z18_g6, sounderlaw17_steady]
  try simp only [ew, Nat.reduceAdd, Nat.reduceMul, Nat.reduceLeDiff, Int.reduceBNe, Int.reduceBEq, Int.reduceLT, Int.reduceLE, hb, st_rtt hsz]
  generalize hK : setB (newB H _ _) _ _ = K
  have e : Ext [] H K := by rw [← hK]; exact box_new.1
  have q : own K H.size = some (rttC stdy) := by rw [← hK]; exact box_new.2.1
  try simp only [ew, Nat.reduceAdd, Nat.reduceMul, Nat.reduceLeDiff, Int.reduceBNe, Int.reduceBEq, Int.reduceLT, Int.reduceLE, ldE_t, rdA_u, own_blk q, rttC_g]
  exact hR K (h.ext e)
theorem packet_sep {n t : Int} (h : Sep H0 H Qs) (hR : ∀ H', Sep H0 H' Qs → R (pv (pk n t)) H') : EvF P N.sounderlaw17_packet #[iv n, iv t] H R := by
  refine z26_ev _ _ _ _ ?_
  have hb : buildV (pktC pkt0) (places [(0, 1), (1, 1), (2, 1), (3, 1), (4, 1), (5, 1)]) [(0, iv n), (1, iv t), (2, (.int .i64 100)), (3, (.bool true)), (4, (.bool true))] = some (pv (pk n t)) := rfl
  have er := Ext.refl [] (newB H 40 (pktC pkt0))
  simp only [z26_g5, z26_g6, sounderlaw17_packet]
  try simp only [ew, Nat.reduceAdd, Nat.reduceMul, Nat.reduceLeDiff, Int.reduceBNe, Int.reduceBEq, Int.reduceLT, Int.reduceLE, pkt0_C, hb, st_pkt er, st_pkt' er]
  exact hR _ (h.ext (ext_pkt er))
theorem ack_sep {v : Value} {l : List Rng} (h : Sep H0 H Qs) (hv : ∀ K, Sep H0 K Qs → ShowA rngE K v l) (hl : l.length ≤ 10000)
    (hR : ∀ H' w, Sep H0 H' (lstA rngE w l :: Qs) → R (.agg (ackC w (ackOf l))) H') : EvF P N.sounderlaw17_ack #[v] H R := by
  refine z22_ev _ _ _ ?_
  simp only [sounderlaw17_ack, z22_g21, z22_g22, z22_g23]
  try simp only [ew, Nat.reduceAdd, Nat.reduceMul, Nat.reduceLeDiff, Int.reduceBNe, Int.reduceBEq, Int.reduceLT, Int.reduceLE]
  have z : (#[(.int .i64 0), (.slice none 0 0), (.bool false), (.int .i64 0), (.int .i64 0), (.int .i64 0)] : Array Value) = ackC nilS (ackOf []) := rfl
  rw [z]
  generalize hK1 : newB H _ _ = K1
  have h1 := h.newC (t := 52) (c := ackC nilS (ackOf []))
  rw [hK1] at h1
  have z1 : H.size + 1 = K1.size := by rw [← hK1, size_newB]
  rw [z1]
  generalize hK2 : newB K1 _ _ = K2
  have h2 := h1.newC (t := 52) (c := ackC nilS (ackOf []))
  rw [hK2] at h2
  simp only [z22_l33]
  refine ⟨fun x K => ∃ k : Nat, k ≤ l.length ∧ x = iv k ∧ ∃ w, Sep H0 K (lstA rngE w (l.take k) :: cellsA K1.size (ackC w (ackOf [])) :: cellsA H.size (ackC nilS (ackOf [])) :: Qs), fun x _ => (match x with | .int _ k => (l.length - k).toNat | _ => 0),
    ⟨0, by omega, rfl, nilS, h2.nilL⟩, ?_⟩
  rintro x K ⟨k, hk, rfl, w, hs⟩
  have hvK := hv K hs.drop.drop.drop
  have w4 : IntKind.i64.wrap ((k : Int) + 1) = ((k + 1 : Nat) : Int) := by rw [wrap_in (by omega)]; omega
  simp only [z22_s24, z22_g25]
  try simp only [ew, Nat.reduceAdd, Nat.reduceMul, Nat.reduceLeDiff, Int.reduceBNe, Int.reduceBEq, Int.reduceLT, Int.reduceLE, hvK.len]
  refine brV_d (fun hlt => ?_) (fun hge => ?_)
  · have hk' : k < l.length := by omega
    obtain ⟨b, o, i1, i2, i3⟩ := hvK.at2 hk' (rfl : (k : Int) = k)
    have ix0 : ixAV 1 2 (.pointer (some ⟨b, o, none⟩)) (.int .i64 0) = some (.pointer (some ⟨b, o, none⟩)) := rfl
    have ix1 : ixAV 1 2 (.pointer (some ⟨b, o, none⟩)) (.int .i64 1) = some (.pointer (some ⟨b, o + 1, none⟩)) := rfl
    have q := own_blk hs.b1.cells
    have l1 : ∀ K' w', Sep H0 K' (w' :: cellsA K1.size (ackC w (ackOf [])) :: cellsA H.size (ackC nilS (ackOf [])) :: Qs) → ldE false 1 (.pointer (some ⟨K1.size, 1, none⟩)) K' = some w := fun K' w' h => ld_ptr (own_blk h.b1.cells) ackC_1
    have l2 : ∀ K', Sep H0 K' Qs → ldE false 1 (.pointer (some ⟨b, o, none⟩)) K' = some (iv l[k].1) ∧ ldE false 1 (.pointer (some ⟨b, o + 1, none⟩)) K' = some (iv l[k].2) := fun K' h => (hv K' h).at2' hk' rfl i1
    have hb : buildV #[(.int .i64 0), (.int .i64 0)] (places [(0, 1), (1, 1)]) [(0, iv l[k].1), (1, iv l[k].2)] = some (.agg (rngC l[k])) := rfl
    simp only [z22_g26]
    try simp only [ew, Nat.reduceAdd, Nat.reduceMul, Nat.reduceLeDiff, Int.reduceBNe, Int.reduceBEq, Int.reduceLT, Int.reduceLE, l1 K _ hs, i1, ix0, ix1, i2, i3, hb]
    refine bslE_sep (E := rngE) (vs := [_]) (l := [l[k]]) hs rfl rfl (fun i hi => ?_) (by decide) (by decide) fun K3 u h3 => ?_
    · match i, hi with
      | 0, _ => rfl
    have m3 := l2 K3 h3.drop.drop.drop.drop
    have n3 := l1 K3 (lstA rngE u [l[k]]) (h3.s4 [0, 2, 3, 1] rfl |>.b3.drop)
    try simp only [ew, Nat.reduceAdd, Nat.reduceMul, Nat.reduceLeDiff, Int.reduceBNe, Int.reduceBEq, Int.reduceLT, Int.reduceLE, m3.1, m3.2, n3]
    obtain ⟨T, hu⟩ := h3.list
    refine appE_sep h3.b1 hu.show ?_ (by decide) (by simp; omega) fun K4 v4 h4 => ?_
    · simp; omega
    have etk : l.take k ++ [l[k]] = l.take (k + 1) := by rw [List.take_add_one, List.getElem?_eq_getElem hk', Option.toList_some]
    rw [etk] at h4
    -- v4, u, x3, x2
    have m4 := l2 K4 h4.drop.drop.drop.drop
    obtain ⟨T4, o4⟩ := h4.list
    have h5 := h4.b1.drop.b1
    have s5 : stE 1 (.pointer (some ⟨K1.size, 1, none⟩)) v4 K4 = some (setB K4 K1.size (ackC v4 (ackOf []))) := by
      rw [st_ptr h5.cells (by show 1 < 6; decide) o4.cell.1 o4.cell.2]; rfl
    have h6 := (h5.set (c' := ackC v4 (ackOf []))).b1
    try simp only [ew, Nat.reduceAdd, Nat.reduceMul, Nat.reduceLeDiff, Int.reduceBNe, Int.reduceBEq, Int.reduceLT, Int.reduceLE, m4.1, m4.2, s5]
    simp only [z22_g27]
    try simp only [ew, Nat.reduceAdd, Nat.reduceMul, Nat.reduceLeDiff, Int.reduceBNe, Int.reduceBEq, Int.reduceLT, Int.reduceLE, bin_add, w4]
    exact ⟨⟨k + 1, by omega, rfl, v4, h6⟩, by show _ < _; omega⟩
  · have hk' : k = l.length := by omega
    subst hk'
    rw [List.take_length] at hs
    have q := own_blk hs.b1.cells
    have q2 := hs.b2.cells
    have s6 : stE 6 (.pointer (some ⟨H.size, 0, none⟩)) (.agg (ackC w (ackOf []))) K = some (setB K H.size (ackC w (ackOf []))) := by
      obtain ⟨T, ow⟩ := hs.list
      rw [stE_p, show (Value.agg (ackC w (ackOf []))).cells = ackC w (ackOf []) from rfl, if_pos (show (ackC w (ackOf [])).size = 6 from rfl), wrA_u q2 (by show 0 + 6 ≤ 6; decide) (by simp [ackC, isCell_int, isCell_bool, ow.cell.2])]
      rfl
    have h7 := hs.b2.set (c' := ackC w (ackOf []))
    simp only [z22_g28]
    try simp only [ew, Nat.reduceAdd, Nat.reduceMul, Nat.reduceLeDiff, Int.reduceBNe, Int.reduceBEq, Int.reduceLT, Int.reduceLE, ldE_t, rdA_u, q, ackC_g, s6, own_blk h7.cells]
    exact hR _ w (h7.drop.b1.drop)
theorem numbers_sep {v : Value} {l : List Pkt} (h : Sep H0 H Qs) (hv : ∀ K, Sep H0 K Qs → ShowA pktE K v l) (hl : l.length ≤ 10000)
    (hR : ∀ H' w, Sep H0 H' (lstA intE w (ints l) :: Qs) → R w H') : EvF P N.sounderlaw17_numbersOf #[v] H R := by
  refine z24_ev _ _ _ ?_
  simp only [sounderlaw17_numbersOf, z24_g21, z24_g22, z24_g23, z24_l33]
  refine ⟨fun w x K => ∃ k : Nat, k ≤ l.length ∧ x = iv k ∧ Sep H0 K (lstA intE w (ints (l.take k)) :: Qs), fun _ x _ => (match x with | .int _ k => (l.length - k).toNat | _ => 0), ⟨0, by omega, rfl, h.nilL⟩, ?_⟩
  rintro w x K ⟨k, hk, rfl, hs⟩
  have hvK := hv K hs.drop
  have w4 : IntKind.i64.wrap ((k : Int) + 1) = ((k + 1 : Nat) : Int) := by rw [wrap_in (by omega)]; omega
  simp only [z24_s24, z24_g25]
  try simp only [ew, Nat.reduceAdd, Nat.reduceMul, Nat.reduceLeDiff, Int.reduceBNe, Int.reduceBEq, Int.reduceLT, Int.reduceLE, hvK.len]
  refine brV_d (fun hlt => ?_) (fun hge => ?_)
  · have hk' : k < l.length := by omega
    obtain ⟨b, o, i1, i2, _⟩ := hvK.at6 hk' (rfl : (k : Int) = k)
    have etk : ints (l.take k) ++ [l[k].num] = ints (l.take (k + 1)) := by unfold ints; rw [List.take_add_one, List.getElem?_eq_getElem hk', Option.toList_some, List.map_append]; rfl
    simp only [z24_g26]
    try simp only [ew, Nat.reduceAdd, Nat.reduceMul, Nat.reduceLeDiff, Int.reduceBNe, Int.reduceBEq, Int.reduceLT, Int.reduceLE, i1, i2]
    refine push_sep (E := intE) (x := l[k].num) hs rfl (by simp [ints]; omega) (by decide) (by decide) fun K2 w2 h2 => ?_
    rw [etk] at h2
    simp only [z24_g27]
    try simp only [ew, Nat.reduceAdd, Nat.reduceMul, Nat.reduceLeDiff, Int.reduceBNe, Int.reduceBEq, Int.reduceLT, Int.reduceLE, bin_add, w4]
    exact ⟨⟨k + 1, by omega, rfl, h2⟩, by show _ < _; omega⟩
  · have hk' : k = l.length := by omega
    subst hk'
    rw [List.take_length] at hs
    simp only [z24_g28]
    exact hR K w hs
theorem has_ev {v : Value} {l : List Int} {n : Int} (hv : ShowA intE H v l) (hR : R (.bool (decide (n ∈ l))) H) : EvF P N.sounderlaw17_has #[v, iv n] H R := by
  refine z19_ev _ _ _ _ ?_
  simp only [sounderlaw17_has, z19_g23, z19_g24, z19_l35]
  have hsm := hv.small
  refine ⟨fun x K => K = H ∧ ∃ k : Nat, k ≤ l.length ∧ x = iv k ∧ n ∉ l.take k, fun x _ => (match x with | .int _ k => (l.length - k).toNat | _ => 0), ⟨rfl, 0, by omega, rfl, by simp⟩, ?_⟩
  rintro x K ⟨rfl, k, hk, rfl, hnot⟩
  simp only [z19_s25, z19_g26]
  try simp only [ew, Nat.reduceAdd, Nat.reduceMul, Nat.reduceLeDiff, Int.reduceBNe, Int.reduceBEq, Int.reduceLT, Int.reduceLE, hv.len]
  refine brV_d (fun hlt => ?_) (fun hge => ?_)
  · have hk' : k < l.length := by omega
    have w4 : IntKind.i64.wrap ((k : Int) + 1) = ((k + 1 : Nat) : Int) := by rw [wrap_in (by omega)]; omega
    obtain ⟨b, o, i1, i2⟩ := hv.at1 hk' (rfl : (k : Int) = k)
    simp only [z19_g27]
    try simp only [ew, Nat.reduceAdd, Nat.reduceMul, Nat.reduceLeDiff, Int.reduceBNe, Int.reduceBEq, Int.reduceLT, Int.reduceLE, i1, i2]
    refine brV_i (fun he => ?_) (fun hne => ?_)
    · have : n ∈ l := by have : l[k] = n := by simpa using he
                         rw [← this]; exact List.getElem_mem hk'
      rw [decide_eq_true this] at hR
      simp only [z19_g28]
      exact hR
    · simp only [z19_g29]
      try simp only [ew, Nat.reduceAdd, Nat.reduceMul, Nat.reduceLeDiff, Int.reduceBNe, Int.reduceBEq, Int.reduceLT, Int.reduceLE, bin_add, w4]
      have h1 : l[k] ≠ n := by simpa using hne
      have h2 : n ∉ l.take (k + 1) := by
        rw [List.take_add_one, List.getElem?_eq_getElem hk', Option.toList_some, List.mem_append]
        rintro (h | h)
        · exact hnot h
        · exact h1 (by simpa using Eq.symm (List.mem_singleton.1 h))
      exact ⟨⟨k + 1, by omega, rfl, h2⟩, by show _ < _; omega⟩
  · have hk' : k = l.length := by omega
    subst hk'
    rw [List.take_length] at hnot
    rw [decide_eq_false hnot] at hR
    simp only [z19_g30]
    exact hR
theorem eqInts_ev {v w : Value} {l m : List Int} (hv : ShowA intE H v l) (hw : ShowA intE H w m) (hR : R (.bool (decide (l = m))) H) : EvF P N.sounderref00_EqInts #[v, w] H R := by
  refine z23_ev _ _ _ _ ?_
  have hsm := hv.small
  simp only [sounderref00_EqInts, z23_g29, z23_g30]
  try simp only [ew, Nat.reduceAdd, Nat.reduceMul, Nat.reduceLeDiff, Int.reduceBNe, Int.reduceBEq, Int.reduceLT, Int.reduceLE, hv.len, hw.len]
  refine brV_i (fun hne => ?_) (fun heq => ?_)
  · have : l ≠ m := fun e => by subst e; simp at hne
    rw [decide_eq_false this] at hR
    simp only [z23_g31]
    exact hR
  · have hlen : l.length = m.length := by have : (l.length : Int) = m.length := by simpa using heq
                                          omega
    simp only [z23_g32, z23_l43]
    refine ⟨fun x K => K = H ∧ ∃ k : Nat, k ≤ l.length ∧ x = iv k ∧ ∀ i (h : i < k) (h1 : i < l.length) (h2 : i < m.length), l[i] = m[i], fun x _ => (match x with | .int _ k => (l.length - k).toNat | _ => 0), ⟨rfl, 0, by omega, rfl, by omega⟩, ?_⟩
    rintro x K ⟨rfl, k, hk, rfl, hs⟩
    simp only [z23_s33, z23_g34]
    try simp only [ew, Nat.reduceAdd, Nat.reduceMul, Nat.reduceLeDiff, Int.reduceBNe, Int.reduceBEq, Int.reduceLT, Int.reduceLE, hv.len]
    refine brV_d (fun hlt => ?_) (fun hge => ?_)
    · have hk' : k < l.length := by omega
      have w4 : IntKind.i64.wrap ((k : Int) + 1) = ((k + 1 : Nat) : Int) := by rw [wrap_in (by omega)]; omega
      obtain ⟨b, o, i1, i2⟩ := hv.at1 hk' (rfl : (k : Int) = k)
      obtain ⟨b', o', j1, j2⟩ := hw.at1 (show k < m.length by omega) (rfl : (k : Int) = k)
      simp only [z23_g35]
      try simp only [ew, Nat.reduceAdd, Nat.reduceMul, Nat.reduceLeDiff, Int.reduceBNe, Int.reduceBEq, Int.reduceLT, Int.reduceLE, i1, i2, j1, j2]
      refine brV_i (fun hx => ?_) (fun hx => ?_)
      · have : l ≠ m := fun e => by subst e; simp at hx
        rw [decide_eq_false this] at hR
        simp only [z23_g36]
        exact hR
      · have hx' : l[k] = m[k]'(by omega) := by simpa using hx
        simp only [z23_g37]
        try simp only [ew, Nat.reduceAdd, Nat.reduceMul, Nat.reduceLeDiff, Int.reduceBNe, Int.reduceBEq, Int.reduceLT, Int.reduceLE, bin_add, w4]
        refine ⟨⟨k + 1, by omega, rfl, fun i h h1 h2 => ?_⟩, by show _ < _; omega⟩
        rcases Nat.lt_or_ge i k with h3 | h3
        · exact hs i h3 h1 h2
        · have : i = k := by omega
          subst this; exact hx'
    · have : l = m := List.ext_getElem hlen fun i h1 h2 => hs i (by omega) h1 h2
      rw [decide_eq_true this] at hR
      simp only [z23_g38]
      exact hR
end
end Go.Hc
