/- A part of the proof that shardWaits of chapter 10 returns true at every room, every deal and every count, and leaves its arguments as they read; no condition. -/
import Derived.Test.YteeobhehfdifnaaTBe
set_option linter.unusedVariables false
set_option linter.unusedSimpArgs false
namespace TB
open Go
/- A SHARD'S STATE IN A LAW -/
structure SOK (σ : ShS) (n m : Nat) : Prop where
  g : GOK σ.g (10 * n)
  tot : TotLe σ.g (10 * n)
  ws : ∀ x ∈ σ.q, x.2.length ≤ 10
  q : σ.q.length ≤ m
theorem SOK.new (room : Nat) : SOK ⟨room, [], fun _ => [], Vec.zero⟩ 0 0 := ⟨gok_nil, ⟨0, Total.nil, Nat.le_refl _⟩, (fun _ h => nomatch h), Nat.le_refl _⟩
theorem SOK.push {σ : ShS} {n m : Nat} (h : SOK σ n m) {st : Stamp} {ws : List Write} (hl : ws.length ≤ 10) : SOK (σ.push st ws) n (m + 1) := by
  unfold ShS.push
  split
  · refine ⟨h.g, h.tot, fun x hx => ?_, ?_⟩
    · rcases List.mem_append.1 hx with hx | hx
      · exact h.ws x hx
      · simp at hx; subst hx; exact hl
    · have := h.q
      show (σ.q ++ [(st, ws)]).length ≤ _
      simp; omega
  · exact ⟨h.g, h.tot, h.ws, Nat.le_succ_of_le h.q⟩
theorem SOK.step {σ : ShS} {n m : Nat} (h : SOK σ n m) : SOK σ.step (n + 1) m := by
  obtain ⟨room, q, g, ap⟩ := σ
  obtain ⟨h1, h2, h3, h4⟩ := h
  cases q with
  | nil => exact ⟨h1.mono (by omega), h2.mono (by omega), h3, h4⟩
  | cons x q =>
    obtain ⟨st, ws⟩ := x
    have hw : ws.length ≤ 10 := h3 (st, ws) (by simp)
    exact ⟨(h1.apply (st := st) (ws := ws)).mono (by omega), (h2.apply (st := st) (ws := ws)).mono (by omega), fun x hx => h3 x (List.mem_cons_of_mem _ hx), by show q.length ≤ m; simp at h4; omega⟩
theorem SOK.mono {σ : ShS} {n m n' m' : Nat} (h : SOK σ n m) (hn : n ≤ n') (hm : m ≤ m') : SOK σ n' m' := ⟨h.g.mono (by omega), h.tot.mono (by omega), h.ws, Nat.le_trans h.q hm⟩
theorem SOK.prune {σ : ShS} {n m : Nat} (h : SOK σ n m) (v : Vec) : SOK { σ with g := pruneG v σ.g } n m := ⟨h.g.prune v, h.tot.prune v, h.ws, h.q⟩
theorem SOK.len {σ : ShS} {n m : Nat} (h : SOK σ n m) (hn : n ≤ 50000) : ∀ k, (σ.g k).length ≤ 1000000 := fun k => Nat.le_trans (h.g.len k) (by omega)
theorem SOK.sum {σ : ShS} {n m : Nat} (h : SOK σ n m) (hn : n ≤ 50000) : ∀ k, Total σ.g k → k ≤ 1000000 := fun k hk => Nat.le_trans (h.tot.le k hk) (by omega)
theorem SOK.may {σ : ShS} {n m : Nat} (h : SOK σ n m) (hn : n ≤ 50000) : ∀ st ws q, σ.q = (st, ws) :: q → ws.length ≤ 1000000 ∧ ∀ (j : Nat) k, j ≤ ws.length → Ordered (applyW st (ws.take j) σ.g k) ∧ (applyW st (ws.take j) σ.g k).length ≤ 1000000 :=
  GOK.step (n := 10 * n) h.g (by omega) h.ws
theorem readR_prune {σ : ShS} {h far : Vec} (hs : ∀ v : Vec, v.leq h = true → v.leq far = true) (k : K2) : readR { σ with g := pruneG h σ.g } k far = readR σ k far := by
  unfold readR readV
  simp only [pruneG, prune_far hs]
structure PG where
  i : Nat
  σ : ShS
  H : HL
end TB
