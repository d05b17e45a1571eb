/- A part of the proof that shardPlays of chapter 10 returns true at every room and every list of deeds, and leaves its arguments as they read; no condition. -/
import Derived.Test.YteeobhehfdifnaaC26
import Derived.Test.YteeobhehfdifnaaC16
set_option linter.unusedVariables false
set_option linter.unusedSimpArgs false
set_option linter.unusedVariables false
set_option linter.unusedSimpArgs false
namespace Go.Proofs.Yteeobhehfdifnaa
open Go TB Go.Proofs Go.ChangeShapes Go.WideShapes Go.ChangeAt Go.RowKit
variable {H : Type} {enc : TypeId × Value → H} {w : World} {base : Nat} {sp : Nat → Bool} {hd : Bool}
theorem cO48 : Try.prog.cellsOf 48 = 20 := by kernel_rfl
instance : Inhabited DeedA := ⟨⟨0, default, default, ⟨Vec.zero, false⟩⟩⟩
theorem flat_twenty {l : List Value} (h : l.length = 20) : ∃ a0 a1 a2 a3 a4 a5 a6 a7 a8 a9 b0 b1 b2 b3 b4 b5 b6 b7 b8 b9, l = [a0, a1, a2, a3, a4, a5, a6, a7, a8, a9, b0, b1, b2, b3, b4, b5, b6, b7, b8, b9] := by
  match l, h with
  | [a0, a1, a2, a3, a4, a5, a6, a7, a8, a9, b0, b1, b2, b3, b4, b5, b6, b7, b8, b9], _ => exact ⟨a0, a1, a2, a3, a4, a5, a6, a7, a8, a9, b0, b1, b2, b3, b4, b5, b6, b7, b8, b9, rfl⟩
set_option maxRecDepth 100000 in
theorem op_deed : Opn enc Try.prog w base sp hd 48 fun cs => ∃ x : DeedA, cs = deedL x ∧ DeedR (allH w) x := fun fuel cs x h => by
  obtain ⟨h1, h2⟩ := op_struct Try.underlying48 (ok := fun i l => match i with | 0 => ∃ n, l = [.int .u8 n] ∧ (Lit.int .u8 n).wf = true | 1 => ∃ x : DealA, l = dealL x ∧ DealR (allH w) x | 2 => ∃ x : PutD, l = putL x ∧ PutOK x | _ => ∃ x : VecD, l = vecdL x ∧ VecR x.v) (fun i f hif => match i, hif with
    | 0, hif => by cases hif; exact op_int Try.underlying5
    | 1, hif => by cases hif; exact op_deal
    | 2, hif => by cases hif; exact op_put
    | 3, hif => by cases hif; exact op_vecd
    | n + 4, hif => by cases hif) fuel cs x h
  rw [cO48] at h1
  obtain ⟨a0, a1, a2, a3, a4, a5, a6, a7, a8, a9, b0, b1, b2, b3, b4, b5, b6, b7, b8, b9, rfl⟩ := flat_twenty h1
  obtain ⟨n, e0, _⟩ := h2 0 _ rfl
  obtain ⟨y, e1, hy⟩ := h2 1 _ rfl
  obtain ⟨p, e2, hp⟩ := h2 2 _ rfl
  obtain ⟨v, e3, hv⟩ := h2 3 _ rfl
  simp [cO5, cO40, cO44, cO46] at e0 e1 e2 e3
  obtain ⟨rfl, rfl, rfl, rfl, rfl, rfl, rfl, rfl⟩ := e1
  obtain ⟨rfl, rfl, rfl, rfl, rfl, rfl⟩ := e2
  obtain ⟨rfl, rfl, rfl, rfl, rfl⟩ := e3
  subst e0
  exact ⟨⟨n, y, p, v⟩, rfl, hy, hp, hv⟩
end Go.Proofs.Yteeobhehfdifnaa
