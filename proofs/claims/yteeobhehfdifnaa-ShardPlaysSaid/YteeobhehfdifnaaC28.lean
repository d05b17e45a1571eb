/- ShardPlays of chapter 10 returns true at every room and every list of deeds, and leaves its arguments as they read; no condition. -/
import Derived.Test.YteeobhehfdifnaaC27
import Derived.Test.YteeobhehfdifnaaRows
set_option linter.unusedVariables false
set_option linter.unusedSimpArgs false
set_option linter.unusedVariables false
set_option linter.unusedSimpArgs false
namespace Go.Proofs.Yteeobhehfdifnaa
open Go TB Go.Proofs Go.ChangeShapes Go.WideShapes Go.ChangeAt Go.RowKit
set_option maxRecDepth 100000 in
theorem shardPlays_calls (W : World) (n0 : Int) (hn0 : -9223372036854775808 ≤ n0 ∧ n0 ≤ 9223372036854775807) (b1 : Bool) (p2 : Option Addr) (cap2 : Nat) (xs2 : List DeedA) (hl2 : Lies (allH W) p2 (deedsL xs2)) (hlen2 : xs2.length ≤ 9223372036854775807) (hR2 : ∀ x ∈ xs2, DeedR (allH W) x) :
    Calls Try.prog 3 #[.int .i64 n0, .bool b1, .slice p2 xs2.length cap2] W fun e W' => e = .returned (.bool true) ∧ Below W.heap.size W W' := by
  refine (c3 n0 b1 xs2 p2 cap2 (allH W) hl2 hlen2 hR2 W (allH_has W) (fun x hx => nomatch hx) List.nodup_nil (fun k _ hk => nomatch hk)).mono fun e W' hq => ?_
  cases e with
  | returned v =>
    obtain ⟨L', ⟨rfl, rfl⟩, _, _, _, hu⟩ := hq
    exact ⟨rfl, Upd.below hu⟩
  | panicked c => exact hq.elim
  | outgrown => exact hq.elim
namespace shardPlays
theorem own : ownKnob Try.prog.godebug = none := by kernel_rfl
set_option maxRecDepth 100000 in
theorem contract (H : Type) (enc : TypeId × Value → H) (W : World) (base : Nat) (args : Array Value) (ds gs : List (DataW H)) (before : List MemPlace)
    (hval : ∀ (j : Nat) t v, Try.f3.params[j]? = some t → args[j]? = some v → Value.okWide Try.prog W .any base t v)
    (hW : DataW.Whole enc Try.prog Try.f3.params.toList Rows.shardPlaysSpec.vars false W args.toList ds gs before) :
    Calls Try.prog 3 args W fun e W' => ∃ v, e = .returned v ∧ Rows.shardPlaysSpec.post enc Try.prog Try.f3 false true false false W args v W' := by
  have hW' := hW
  obtain ⟨p, q, hA0, hV, rfl, hfz, hnd⟩ := hW
  have hA : DataW.TrodAll enc Try.prog W 0 (fun _ => true) true Try.f3.params.toList args.toList ds p := hA0
  rw [Try.params3] at hA hval
  obtain ⟨v0, vs0, d0, ds0, pl0, pr0, hargs0, rfl, rfl, h0, r0⟩ := trodAll_cons hA
  obtain ⟨v1, vs1, d1, ds1, pl1, pr1, hargs1, rfl, rfl, h1, r1⟩ := trodAll_cons r0
  obtain ⟨v2, vs2, d2, ds2, pl2, pr2, hargs2, rfl, rfl, h2, r2⟩ := trodAll_cons r1
  obtain ⟨rfl, rfl, rfl⟩ := trodAll_nil r2
  subst hargs2
  subst hargs1
  obtain rfl : args = #[v0, v1, v2] := by cases args; simp_all
  obtain ⟨rfl, rfl⟩ := trodVars_none hV
  clear hA0
  simp only [List.append_nil] at hW'
  have hv0 := hval 0 3 v0 rfl rfl
  obtain ⟨fu0, ht0⟩ := h0
  obtain ⟨n0, hcs0, hn0⟩ := op_int Try.underlying3 fu0 _ _ ht0
  obtain rfl := int_of_okWide Try.underlying3 hv0 hcs0
  have hn0 : -9223372036854775808 ≤ n0 ∧ n0 ≤ 9223372036854775807 := by simpa [Lit.wf, IntKind.min, IntKind.max, IntKind.signed, IntKind.bits] using hn0
  have h0 : DataW.Trod enc Try.prog W 0 (fun _ => true) true 3 _ d0 pl0 := ⟨fu0, ht0⟩
  have hv1 := hval 1 4 v1 rfl rfl
  obtain ⟨fu1, ht1⟩ := h1
  obtain ⟨b1, hcs1⟩ := op_bool Try.underlying4 fu1 _ _ ht1
  obtain rfl := bool_of_okWide Try.underlying4 hv1 hcs1
  have h1 : DataW.Trod enc Try.prog W 0 (fun _ => true) true 4 _ d1 pl1 := ⟨fu1, ht1⟩
  have hv2 := hval 2 22 v2 rfl rfl
  obtain ⟨fu2, ht2⟩ := h2
  obtain ⟨pp2, cap2, xs2, hcs2, hlen2, hl2, hR2⟩ := op_list Try.underlying22 cO48 (by decide) deedL_len op_deed fu2 _ _ ht2
  obtain rfl := slice_of_okWide Try.underlying22 hv2 hcs2
  have h2 : DataW.Trod enc Try.prog W 0 (fun _ => true) true 22 _ d2 pl2 := ⟨fu2, ht2⟩
  have hlt0 : ∀ x ∈ pl0, x.block < W.heap.size := fun x hx => hW'.lt x (by simp [hx])
  have hlt1 : ∀ x ∈ pl1, x.block < W.heap.size := fun x hx => hW'.lt x (by simp [hx])
  have hlt2 : ∀ x ∈ pl2, x.block < W.heap.size := fun x hx => hW'.lt x (by simp [hx])
  refine (shardPlays_calls W n0 hn0 b1 pp2 cap2 xs2 hl2 (by unfold maxLen at hlen2; omega) hR2).mono fun e W' ⟨he, hb⟩ => ?_
  subst he
  refine ⟨_, rfl, post_of_below (pa := (pl0 ++ (pl1 ++ (pl2 ++ [])))) (pv := []) hW' (fun _ _ _ => (trodAll_cons_mk (shut_bool Try.underlying4 _) trodAll_mk0)) (fun sp hsp => ?_) (fun _ _ => rfl) (by simp) hb (ok_one (by kernel_rfl) rfl (okWide_bool_mk Try.underlying4 _))⟩
  exact (trodAll_cons_mk (WideElems.Trod_stays (by kernel_rfl) (by kernel_rfl) (of_decide_eq_true (by kernel_rfl)) h0 (fun x hx => hb.same (hlt0 x hx)) (fun x hx => hsp x (by simp [hx]))) (trodAll_cons_mk (WideElems.Trod_stays (by kernel_rfl) (by kernel_rfl) (of_decide_eq_true (by kernel_rfl)) h1 (fun x hx => hb.same (hlt1 x hx)) (fun x hx => hsp x (by simp [hx]))) (trodAll_cons_mk (WideElems.Trod_stays (by kernel_rfl) (by kernel_rfl) (of_decide_eq_true (by kernel_rfl)) h2 (fun x hx => hb.same (hlt2 x hx)) (fun x hx => hsp x (by simp [hx]))) trodAll_mk0)))
set_option maxRecDepth 100000 in
theorem lifted (os : Os) (started : os.Started) (H : Type) (enc : TypeId × Value → H) :
    ReturnsInHanded {} Try.checked os 3 .any (Rows.shardPlaysSpec.pre6 enc Try.prog Try.f3 Rows.shardPlaysRow.domain false) (Rows.shardPlaysSpec.post enc Try.prog Try.f3 false true false false) := by
  refine returnsInHanded_of_change (C := Try.checked) own started (by kernel_rfl) Try.func3
    (ChangeSpec.witness6 (enc := enc) (C := Try.checked) false ⟨#[], #[.int .i64 0, .bool false, .slice none 0 0], []⟩ 8 (by kernel_rfl) (by kernel_rfl) (by kernel_rfl) (by kernel_rfl)) ?_
  intro W base args ds gs before hval hW _ _
  exact contract H enc W base args ds gs before hval hW
theorem proved : Rows.ShardPlaysSaid :=
  OpenClaim.holds_of_wide 3 Try.f3 rfl rfl rfl rfl rfl rfl rfl ⟨rfl, rfl, rfl, rfl, rfl⟩ rfl rfl rfl rfl rfl (by kernel_rfl) Try.func3 (by kernel_rfl)
    (of_decide_eq_true (by kernel_rfl)) (by unfold Func.isWrapper; first | (rw [if_pos (by decide +kernel)]; kernel_rfl) | (rw [if_neg (by decide +kernel)]; exact ⟨rfl, rfl⟩))
    (fun os started H enc _ => lifted os started H enc)
end shardPlays
end Go.Proofs.Yteeobhehfdifnaa
