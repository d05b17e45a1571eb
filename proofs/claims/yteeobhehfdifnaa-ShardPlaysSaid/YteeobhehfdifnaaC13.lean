/- A part of the proof that shardPlays of chapter 10 returns true at every room and every list of deeds, and leaves its arguments as they read; no condition. -/
import Derived.Test.YteeobhehfdifnaaC12
import Derived.Test.YteeobhehfdifnaaTBd
set_option linter.unusedVariables false
set_option linter.unusedSimpArgs false
set_option linter.unusedVariables false
set_option linter.unusedSimpArgs false
namespace Go.Proofs.Yteeobhehfdifnaa
open Go TB Go.Proofs Go.ChangeShapes Go.WideShapes Go.ChangeAt Go.RowKit
variable {H : Type} {enc : TypeId × Value → H} {w : World} {base : Nat} {sp : Nat → Bool} {hd : Bool}
theorem cO3 : Try.prog.cellsOf 3 = 1 := by kernel_rfl
theorem cO4 : Try.prog.cellsOf 4 = 1 := by kernel_rfl
theorem cO5 : Try.prog.cellsOf 5 = 1 := by kernel_rfl
theorem cO9 : Try.prog.cellsOf 9 = 1 := by kernel_rfl
theorem cO31 : Try.prog.cellsOf 31 = 1 := by kernel_rfl
theorem cO33 : Try.prog.cellsOf 33 = 4 := by kernel_rfl
theorem cO35 : Try.prog.cellsOf 35 = 5 := by kernel_rfl
theorem cO37 : Try.prog.cellsOf 37 = 6 := by kernel_rfl
theorem cO38 : Try.prog.cellsOf 38 = 1 := by kernel_rfl
theorem cO40 : Try.prog.cellsOf 40 = 8 := by kernel_rfl
theorem cO42 : Try.prog.cellsOf 42 = 4 := by kernel_rfl
theorem cO44 : Try.prog.cellsOf 44 = 6 := by kernel_rfl
set_option maxRecDepth 100000 in
theorem op_write : Opn enc Try.prog w base sp hd 42 fun cs => ∃ x : Write, cs = writeL x := fun fuel cs x h => by
  obtain ⟨h1, h2⟩ := op_struct Try.underlying42 (ok := fun i l => match i with | 3 => ∃ b, l = [.bool b] | _ => ∃ s, l = [.string s]) (fun i f hif => match i, hif with
    | 0, hif => by cases hif; exact op_str Try.underlying9
    | 1, hif => by cases hif; exact op_str Try.underlying9
    | 2, hif => by cases hif; exact op_str Try.underlying9
    | 3, hif => by cases hif; exact op_bool Try.underlying4
    | n + 4, hif => by cases hif) fuel cs x h
  rw [cO42] at h1
  match cs, h1 with
  | [c0, c1, c2, c3], _ =>
    obtain ⟨s0, e0⟩ := h2 0 _ rfl
    obtain ⟨s1, e1⟩ := h2 1 _ rfl
    obtain ⟨s2, e2⟩ := h2 2 _ rfl
    obtain ⟨s3, e3⟩ := h2 3 _ rfl
    simp [cO9, cO4] at e0 e1 e2 e3
    subst e0 e1 e2 e3
    exact ⟨⟨s0, s1, s2, s3⟩, rfl⟩
theorem flat_six {l : List Value} (h : l.length = 6) : ∃ a b c d e f, l = [a, b, c, d, e, f] := by
  match l, h with
  | [a, b, c, d, e, f], _ => exact ⟨a, b, c, d, e, f, rfl⟩
set_option maxRecDepth 100000 in
theorem op_put : Opn enc Try.prog w base sp hd 44 fun cs => ∃ x : PutD, cs = putL x ∧ PutOK x := fun fuel cs x h => by
  obtain ⟨h1, h2⟩ := op_struct Try.underlying44 (ok := fun i l => match i with | 0 => ∃ x : Write, l = writeL x | 1 => ∃ b, l = [.bool b] | _ => ∃ n, l = [.int .u8 n] ∧ (Lit.int .u8 n).wf = true) (fun i f hif => match i, hif with
    | 0, hif => by cases hif; exact op_write
    | 1, hif => by cases hif; exact op_bool Try.underlying4
    | 2, hif => by cases hif; exact op_int Try.underlying5
    | n + 3, hif => by cases hif) fuel cs x h
  rw [cO44] at h1
  obtain ⟨c0, c1, c2, c3, c4, c5, rfl⟩ := flat_six h1
  obtain ⟨x, e0⟩ := h2 0 _ rfl
  obtain ⟨b, e1⟩ := h2 1 _ rfl
  obtain ⟨n, e2, hn⟩ := h2 2 _ rfl
  simp [cO42, cO4, cO5] at e0 e1 e2
  obtain ⟨rfl, rfl, rfl, rfl⟩ := e0
  subst e1 e2
  have hn' : 0 ≤ n ∧ n ≤ 255 := by simpa [Lit.wf, IntKind.min, IntKind.max, IntKind.signed, IntKind.bits] using hn
  exact ⟨⟨x, b, n⟩, rfl, hn'.1, hn'.2⟩
instance : Inhabited PutD := ⟨⟨⟨⟨#[]⟩, ⟨#[]⟩, ⟨#[]⟩, false⟩, false, 0⟩⟩
instance : Inhabited DealA := ⟨⟨⟨⟨Stamp.zero, false⟩, [], false⟩, none, 0⟩⟩
set_option maxRecDepth 100000 in
theorem op_stamp : Opn enc Try.prog w base sp hd 35 fun cs => ∃ s : Stamp, cs = stampL s ∧ VecR s.v := fun fuel cs x h => by
  obtain ⟨h1, h2⟩ := op_struct Try.underlying35 (ok := fun i l => match i with | 0 => ∃ v : Vec, l = vecL v ∧ VecR v | _ => ∃ n, l = [.int .i64 n] ∧ (Lit.int .i64 n).wf = true) (fun i f hif => match i, hif with
    | 0, hif => by cases hif; exact op_vec Try.underlying33 Try.underlying31 cO31 cO33
    | 1, hif => by cases hif; exact op_int Try.underlying3
    | n + 2, hif => by cases hif) fuel cs x h
  rw [cO35] at h1
  obtain ⟨v, e0, hv⟩ := h2 0 _ rfl
  obtain ⟨n, e1, _⟩ := h2 1 _ rfl
  match cs, h1 with
  | [c0, c1, c2, c3, c4], _ =>
    simp [cO33, cO3] at e0 e1
    obtain ⟨rfl, rfl, rfl, rfl⟩ := e0
    subst e1
    exact ⟨⟨v, n⟩, rfl, hv⟩
set_option maxRecDepth 100000 in
theorem op_mark : Opn enc Try.prog w base sp hd 37 fun cs => ∃ m : MarkD, cs = markL m ∧ VecR m.s.v := fun fuel cs x h => by
  obtain ⟨h1, h2⟩ := op_struct Try.underlying37 (ok := fun i l => match i with | 0 => ∃ s : Stamp, l = stampL s ∧ VecR s.v | _ => ∃ b, l = [.bool b]) (fun i f hif => match i, hif with
    | 0, hif => by cases hif; exact op_stamp
    | 1, hif => by cases hif; exact op_bool Try.underlying4
    | n + 2, hif => by cases hif) fuel cs x h
  rw [cO37] at h1
  obtain ⟨c0, c1, c2, c3, c4, c5, rfl⟩ := flat_six h1
  obtain ⟨s, e0, hv⟩ := h2 0 _ rfl
  obtain ⟨b, e1⟩ := h2 1 _ rfl
  simp [cO35, cO4] at e0 e1
  obtain ⟨rfl, rfl, rfl, rfl, rfl⟩ := e0
  subst e1
  exact ⟨⟨s, b⟩, rfl, hv⟩
set_option maxRecDepth 100000 in
theorem op_deal : Opn enc Try.prog w base sp hd 40 fun cs => ∃ x : DealA, cs = dealL x ∧ DealR (allH w) x := fun fuel cs x h => by
  obtain ⟨h1, h2⟩ := op_struct Try.underlying40 (ok := fun i l => match i with | 0 => ∃ m : MarkD, l = markL m ∧ VecR m.s.v | 1 => ∃ p cap, ∃ xs : List PutD, l = [.slice p xs.length cap] ∧ xs.length ≤ maxLen ∧ Lies (allH w) p (xs.flatMap putL) ∧ ∀ x ∈ xs, PutOK x | _ => ∃ b, l = [.bool b]) (fun i f hif => match i, hif with
    | 0, hif => by cases hif; exact op_mark
    | 1, hif => by cases hif; exact op_list Try.underlying38 cO44 (by decide) putL_len op_put
    | 2, hif => by cases hif; exact op_bool Try.underlying4
    | n + 3, hif => by cases hif) fuel cs x h
  rw [cO40] at h1
  obtain ⟨m, e0, hv⟩ := h2 0 _ rfl
  obtain ⟨p, cap, ps, e1, hlen, hl, hp⟩ := h2 1 _ rfl
  obtain ⟨b, e2⟩ := h2 2 _ rfl
  match cs, h1 with
  | [c0, c1, c2, c3, c4, c5, c6, c7], _ =>
    simp [cO37, cO38, cO4] at e0 e1 e2
    obtain ⟨rfl, rfl, rfl, rfl, rfl, rfl⟩ := e0
    subst e1 e2
    exact ⟨⟨⟨m, ps, b⟩, p, cap⟩, rfl, hl, by have := hlen; unfold maxLen at this; show ps.length ≤ _; omega, hp, hv⟩
end Go.Proofs.Yteeobhehfdifnaa
