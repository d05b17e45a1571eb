/- A part of the proof that shardPlays of chapter 10 returns true at every room and every list of deeds, and leaves its arguments as they read; no condition. -/
import Derived.Test.YteeobhehfdifnaaC13
import Derived.Test.YteeobhehfdifnaaTBd
set_option linter.unusedVariables false
set_option linter.unusedSimpArgs false
set_option linter.unusedVariables false
set_option linter.unusedSimpArgs false
namespace Go.Proofs.Yteeobhehfdifnaa
open Go TB Go.Proofs Go.ChangeShapes Go.WideShapes Go.ChangeAt Go.RowKit
variable {H : Type} {enc : TypeId × Value → H} {w : World} {base : Nat} {sp : Nat → Bool} {hd : Bool}
theorem cO46 : Try.prog.cellsOf 46 = 5 := by kernel_rfl
set_option maxRecDepth 100000 in
theorem op_vecd : Opn enc Try.prog w base sp hd 46 fun cs => ∃ x : VecD, cs = vecdL x ∧ VecR x.v := fun fuel cs x h => by
  obtain ⟨h1, h2⟩ := op_struct Try.underlying46 (ok := fun i l => match i with | 0 => ∃ v : Vec, l = vecL v ∧ VecR v | _ => ∃ b, l = [.bool b]) (fun i f hif => match i, hif with
    | 0, hif => by cases hif; exact op_vec Try.underlying33 Try.underlying31 cO31 cO33
    | 1, hif => by cases hif; exact op_bool Try.underlying4
    | n + 2, hif => by cases hif) fuel cs x h
  rw [cO46] at h1
  obtain ⟨v, e0, hv⟩ := h2 0 _ rfl
  obtain ⟨b, e1⟩ := h2 1 _ rfl
  match cs, h1 with
  | [c0, c1, c2, c3, c4], _ =>
    simp [cO33, cO4] at e0 e1
    obtain ⟨rfl, rfl, rfl, rfl⟩ := e0
    subst e1
    exact ⟨⟨v, b⟩, rfl, hv⟩
end Go.Proofs.Yteeobhehfdifnaa
