/- ShardApplied of chapter 10 returns true at every list of deals and leaves its argument as it read; no condition. -/
import Derived.Test.YteeobhehfdifnaaC13
import Derived.Test.YteeobhehfdifnaaRows
set_option linter.unusedVariables false
set_option linter.unusedSimpArgs false
set_option linter.unusedVariables false
set_option linter.unusedSimpArgs false
namespace Go.Proofs.Yteeobhehfdifnaa
open Go TB Go.Proofs Go.ChangeShapes Go.WideShapes Go.ChangeAt Go.RowKit
set_option maxRecDepth 100000 in
theorem applied_calls (W : World) (p : Option Addr) (cap : Nat) (xs : List DealA) (hl : Lies (allH W) p (dealsL xs)) (hlen : xs.length ≤ 9223372036854775807) (hR : ∀ x ∈ xs, DealR (allH W) x) :
    Calls Try.prog 7 #[.slice p xs.length cap] W fun e W' => e = .returned (.bool true) ∧ Below W.heap.size W W' := by
  refine (c7 xs p cap (allH W) hl hlen hR W (allH_has W) (fun x hx => nomatch hx) List.nodup_nil (fun k _ hk => nomatch hk)).mono fun e W' hq => ?_
  cases e with
  | returned v =>
    obtain ⟨L', ⟨rfl, rfl⟩, _, _, _, hu⟩ := hq
    exact ⟨rfl, Upd.below hu⟩
  | panicked c => exact hq.elim
  | outgrown => exact hq.elim
namespace shardApplied
theorem own : ownKnob Try.prog.godebug = none := by kernel_rfl
set_option maxRecDepth 100000 in
theorem contract (H : Type) (enc : TypeId × Value → H) (W : World) (base : Nat) (args : Array Value) (ds gs : List (DataW H)) (before : List MemPlace)
    (hval : ∀ (j : Nat) t v, Try.f7.params[j]? = some t → args[j]? = some v → Value.okWide Try.prog W .any base t v)
    (hW : DataW.Whole enc Try.prog Try.f7.params.toList Rows.shardAppliedSpec.vars false W args.toList ds gs before) :
    Calls Try.prog 7 args W fun e W' => ∃ v, e = .returned v ∧ Rows.shardAppliedSpec.post enc Try.prog Try.f7 false true false false W args v W' := by
  have hW' := hW
  obtain ⟨p, q, hA0, hV, rfl, hfz, hnd⟩ := hW
  have hA : DataW.TrodAll enc Try.prog W 0 (fun _ => true) true Try.f7.params.toList args.toList ds p := hA0
  rw [Try.params7] at hA hval
  obtain ⟨v0, vs0, d0, ds0, p0, q0, hargs, rfl, rfl, h0, r0⟩ := trodAll_cons hA
  obtain ⟨rfl, rfl, rfl⟩ := trodAll_nil r0
  obtain rfl : args = #[v0] := by cases args; simp_all
  obtain ⟨rfl, rfl⟩ := trodVars_none hV
  clear hA0
  simp only [List.append_nil] at hW'
  have hv := hval 0 85 v0 rfl rfl
  obtain ⟨fuel, ht⟩ := h0
  obtain ⟨pp, cap, xs, hcs, hlen, hl, hR⟩ := op_list Try.underlying85 cO40 (by decide) dealL_len op_deal fuel _ _ ht
  have hv0 : v0 = .slice pp xs.length cap := by
    unfold Value.okWide at hv
    rw [Try.underlying85] at hv
    cases v0 <;> first | (simp [Value.cells] at hcs; first | exact hcs | (obtain ⟨h1, h2, h3⟩ := hcs; rw [h1, h2, h3])) | (exfalso; simp [Cell.okWide, Cell.ok, Try.underlying85] at hv; done) | (exfalso; simp [Value.cells] at hcs; done)
  subst hv0
  have h0 : DataW.Trod enc Try.prog W 0 (fun _ => true) true 85 (.slice pp xs.length cap) d0 p0 := ⟨fuel, ht⟩
  have hlt : ∀ x ∈ p0, x.block < W.heap.size := fun x hx => hW'.lt x (by simpa using hx)
  refine (applied_calls W pp cap xs hl (by unfold maxLen at hlen; omega) hR).mono fun e W' ⟨he, hb⟩ => ?_
  subst he
  refine ⟨_, rfl, post_of_below (pa := p0 ++ []) (pv := []) hW' (fun _ _ _ => (trodAll_cons_mk (shut_bool Try.underlying4 _) trodAll_mk0)) (fun sp hsp => ?_) (fun _ _ => rfl) (by simp) hb (ok_one (by kernel_rfl) rfl (okWide_bool_mk Try.underlying4 _))⟩
  exact trodAll_cons_mk (WideElems.Trod_stays (by kernel_rfl) (by kernel_rfl) (of_decide_eq_true (by kernel_rfl)) h0 (fun x hx => hb.same (hlt x hx)) (fun x hx => hsp x (by simpa using hx))) trodAll_mk0
set_option maxRecDepth 100000 in
theorem lifted (os : Os) (started : os.Started) (H : Type) (enc : TypeId × Value → H) :
    ReturnsInHanded {} Try.checked os 7 .any (Rows.shardAppliedSpec.pre6 enc Try.prog Try.f7 Rows.shardAppliedRow.domain false) (Rows.shardAppliedSpec.post enc Try.prog Try.f7 false true false false) := by
  refine returnsInHanded_of_change (C := Try.checked) own started (by kernel_rfl) Try.func7
    (ChangeSpec.witness6 (enc := enc) (C := Try.checked) false ⟨#[], #[.slice none 0 0], []⟩ 8 (by kernel_rfl) (by kernel_rfl) (by kernel_rfl) (by kernel_rfl)) ?_
  intro W base args ds gs before hval hW _ _
  exact contract H enc W base args ds gs before hval hW
theorem proved : Rows.ShardAppliedSaid :=
  OpenClaim.holds_of_wide 7 Try.f7 rfl rfl rfl rfl rfl rfl rfl ⟨rfl, rfl, rfl, rfl, rfl⟩ rfl rfl rfl rfl rfl (by kernel_rfl) Try.func7 (by kernel_rfl)
    (of_decide_eq_true (by kernel_rfl)) (by unfold Func.isWrapper; first | (rw [if_pos (by decide +kernel)]; kernel_rfl) | (rw [if_neg (by decide +kernel)]; exact ⟨rfl, rfl⟩))
    (fun os started H enc _ => lifted os started H enc)
end shardApplied
end Go.Proofs.Yteeobhehfdifnaa
