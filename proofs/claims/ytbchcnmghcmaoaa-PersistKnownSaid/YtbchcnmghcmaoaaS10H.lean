/- The lists and the sets which the laws make. -/
import Derived.Test.YtbchcnmghcmaoaaS10G
import Derived.Test.YtbchcnmghcmaoaaHcU
set_option linter.unusedSimpArgs false
set_option linter.unusedVariables false
namespace Go.Hc
open Go

theorem st_el {K : Heap} {x : Nat} {p : Pkt} {b : Bool} (ho : own K x = some (pktC p)) : stE 1 (.pointer (some ⟨x, 3, none⟩)) (.bool b) K = some (setB K x (pktC { p with el := b })) := by
  rw [stE_p, show (Value.bool b).cells = #[.bool b] from rfl, if_pos (show (#[Value.bool b] : Array Value).size = 1 from rfl), wrA_b, ho]
  have h1 : splice (pktC p) 3 (#[Value.bool b] : Array Value).toList = pktC { p with el := b } := rfl
  simp only [Option.bind_some, h1, pktC_s]
  simp [isCell]
structure Mk (k : Nat) (n t : Int) (out : List Pkt) : Prop where
  hn : 0 ≤ n ∧ n ≤ 3 * k
  ht : 0 ≤ t ∧ t ≤ k * 17179869184
  len : out.length = k
  each : ∀ p ∈ out, 0 ≤ p.num ∧ p.num ≤ n ∧ 0 ≤ p.time ∧ p.time ≤ t ∧ p.size = 100
  up : out.Pairwise fun a b => a.num < b.num ∧ a.time ≤ b.time
theorem Mk.next {k : Nat} {n t a b : Int} {out : List Pkt} {p : Pkt} (h : Mk k n t out) (ha : 0 ≤ a ∧ a < 3) (hb : 0 ≤ b ∧ b < 17179869184) (hp : p.num = n + 1 + a ∧ p.time = t + b ∧ p.size = 100) : Mk (k + 1) (n + 1 + a) (t + b) (out ++ [p]) := by
  have h1 := h.hn
  have h2 := h.ht
  refine ⟨by omega, by omega, by simp [h.len], fun q hq => ?_, ?_⟩
  · rcases List.mem_append.1 hq with hq | hq
    · have := h.each q hq; omega
    · rw [List.mem_singleton] at hq; subst hq; omega
  · refine List.pairwise_append.2 ⟨h.up, by simp, fun x hx y hy => ?_⟩
    rw [List.mem_singleton] at hy; subst hy
    have := h.each x hx; omega
theorem Mk.rise {k : Nat} {n t : Int} {out : List Pkt} (h : Mk k n t out) (hk : k ≤ 40) : Rise out :=
  ⟨by rw [h.len]; exact hk, fun p hp => by have h1 := h.each p hp; have h2 := h.hn; have h3 := h.ht; omega, h.up⟩
end Go.Hc
