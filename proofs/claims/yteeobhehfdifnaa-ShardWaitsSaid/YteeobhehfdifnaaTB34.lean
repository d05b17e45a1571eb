/- A part of the proof that shardWaits of chapter 10 returns true at every room, every deal and every count, and leaves its arguments as they read; no condition. -/
import Derived.Test.YteeobhehfdifnaaTB32
set_option linter.unusedVariables false
set_option linter.unusedSimpArgs false
namespace TB
open Go
/- WHAT WAITS -/
theorem u8_mod {x : Int} (h : 0 ≤ x ∧ x ≤ 255) (d : Int) (hd : 0 < d ∧ d ≤ 255) : ∃ n : Nat, IntKind.i64.wrap (x.tmod d) = (n : Int) ∧ (n : Int) < d := by
  have h1 : x.tmod d = x % d := Int.tmod_eq_emod_of_nonneg h.1
  have h2 := Int.emod_nonneg x (show d ≠ 0 by omega)
  have h3 := Int.emod_lt_of_pos x hd.1
  refine ⟨(x % d).toNat, ?_, by omega⟩
  rw [h1, IntWalk.i64_in _ (by omega)]
  omega
theorem waits_k {room : Int} (h : 0 ≤ room ∧ room ≤ 255) : ∃ k : Nat, IntKind.i64.wrap (1 + IntKind.i64.wrap (room.tmod 16)) = (k : Int) ∧ 1 ≤ k ∧ k ≤ 16 := by
  obtain ⟨n, h1, h2⟩ := u8_mod h 16 (by omega)
  refine ⟨n + 1, ?_, by omega, by omega⟩
  rw [h1, IntWalk.i64_in _ (by omega)]
  omega
theorem waits_pushOK {k i : Nat} {st : Stamp} {ws : List Write} {g : K2 → List Ver} {ap : Vec} (h1 : st.ok = true) (h2 : ws.all Write.ok = true) : pushOK ⟨k, List.replicate (min i k) (st, ws), g, ap⟩ st ws = decide (i < k) := by
  unfold pushOK
  rw [h1, h2]
  simp
  omega
theorem waits_push {k i : Nat} {st : Stamp} {ws : List Write} {g : K2 → List Ver} {ap : Vec} (h1 : st.ok = true) (h2 : ws.all Write.ok = true) :
    ShS.push ⟨k, List.replicate (min i k) (st, ws), g, ap⟩ st ws = ⟨k, List.replicate (min (i + 1) k) (st, ws), g, ap⟩ := by
  unfold ShS.push
  rw [waits_pushOK h1 h2]
  by_cases h : i < k
  · rw [if_pos (decide_eq_true h), Nat.min_eq_left (by omega), Nat.min_eq_left (by omega)]
    simp only [List.replicate_succ']
  · rw [if_neg (by simp [h]), Nat.min_eq_right (by omega), Nat.min_eq_right (by omega)]
theorem waits_sok {k m : Nat} {st : Stamp} {ws : List Write} {ap : Vec} (hl : ws.length ≤ 10) : SOK ⟨k, List.replicate m (st, ws), fun _ => [], ap⟩ 0 m :=
  ⟨gok_nil, ⟨0, Total.nil, Nat.le_refl _⟩, (fun x hx => by rw [(List.mem_replicate.1 hx).2]; exact hl), by simp⟩
theorem readR_nil {k : Nat} {q : List Tx} {ap : Vec} {key : K2} {v : Vec} : readR ⟨k, q, fun _ => [], ap⟩ key v = (⟨#[]⟩, Stamp.zero, false) := rfl
theorem waits_g {st : Stamp} {ws : List Write} {w : Write} (hst : st.ok = true) (nd : (ws.map Write.at).Nodup) (hw : w ∈ ws) : applyW st ws (fun _ => []) (w.bucket, w.key) = [⟨st, w⟩] := by
  have := applyW_in (st := st) (g := fun _ => []) nd hw
  rw [addV_nil hst] at this
  exact this
theorem waits_read {k : Nat} {q : List Tx} {ap : Vec} {st : Stamp} {ws : List Write} {w : Write} (hst : st.ok = true) (nd : (ws.map Write.at).Nodup) (hw : w ∈ ws) :
    readR ⟨k, q, applyW st ws (fun _ => []), ap⟩ (w.bucket, w.key) st.v = (w.value, st, !w.gone) := by
  unfold readR readV
  simp only [waits_g hst nd hw, lastOf, List.reverse_cons, List.reverse_nil, List.nil_append, List.find?_cons, leq_refl]
  rfl
theorem waits_below {k : Nat} {q : List Tx} {ap : Vec} {st : Stamp} {ws : List Write} {w : Write} (hst : st.ok = true) (nd : (ws.map Write.at).Nodup) (hw : w ∈ ws) (h1 : 1 ≤ st.n ∧ st.n ≤ 4) (hd : st.dc = 1 ∨ st.dc = 2 ∨ st.dc = 3) :
    readR ⟨k, q, applyW st ws (fun _ => []), ap⟩ (w.bucket, w.key) (st.v.set' st.dc (IntKind.u64.wrap (st.n - 1))) = (⟨#[]⟩, Stamp.zero, false) := by
  have hf : st.v.leq (st.v.set' st.dc (IntKind.u64.wrap (st.n - 1))) = false := by
    rw [IntWalk.u64_in _ (by omega)]
    obtain ⟨v, dc⟩ := st
    simp only [Stamp.n] at h1 hd ⊢
    rcases hd with rfl | rfl | rfl <;> simp [Vec.leq, Vec.set', Vec.at'] <;> omega
  unfold readR readV
  simp only [waits_g hst nd hw, lastOf, List.reverse_cons, List.reverse_nil, List.nil_append, List.find?_cons, hf]
  rfl
theorem waits_at {st : Stamp} (h1 : 1 ≤ st.n) (hd : st.dc = 1 ∨ st.dc = 2 ∨ st.dc = 3) : (apS Vec.zero st).at' st.dc = st.n := by
  have e : (Vec.zero).at' st.dc = 0 := by rcases hd with h | h | h <;> rw [h] <;> rfl
  unfold apS
  rw [e, Int.max_eq_left (by omega)]
  rcases hd with h | h | h <;> rw [h] <;> rfl
theorem waits_total {st : Stamp} {ws : List Write} (hst : st.ok = true) (nd : (ws.map Write.at).Nodup) : Total (applyW st ws (fun _ => [])) ws.length := by
  have := apply_total hst nd (g := fun _ => []) (n := 0) (fun _ _ => rfl) Total.nil
  rwa [Nat.zero_add] at this
end TB
