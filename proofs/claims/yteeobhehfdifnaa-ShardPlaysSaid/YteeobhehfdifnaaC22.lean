/- A part of the proof that shardPlays of chapter 10 returns true at every room and every list of deeds, and leaves its arguments as they read; no condition. -/
import Derived.Test.YteeobhehfdifnaaC20
import Derived.Test.YteeobhehfdifnaaTBf
set_option linter.unusedVariables false
set_option linter.unusedSimpArgs false
set_option linter.unusedVariables false
set_option linter.unusedSimpArgs false
namespace Go.Proofs.Yteeobhehfdifnaa
open Go TB Go.Proofs
theorem tA57 : TA Try.prog 57 4 := ⟨fun w => by kernel_rfl, fun w => by kernel_rfl⟩
theorem tA61 : TA Try.prog 61 5 := ⟨fun w => by kernel_rfl, fun w => by kernel_rfl⟩
theorem bU61 : BU Try.prog 61 [(0, 4), (4, 1)] [.int .u64 0, .int .u64 0, .int .u64 0, .int .u64 0, .int .i64 0] := bu_struct (v := .agg #[.int .u64 0, .int .u64 0, .int .u64 0, .int .u64 0, .int .i64 0]) Try.underlying61 (fun w => by kernel_rfl) rfl (fun w => by kernel_rfl)
theorem eN42 : EN Try.prog 42 := fun args w => by kernel_rfl
theorem eN44 : EN Try.prog 44 := fun args w => by kernel_rfl
theorem eN73 : EN Try.prog 73 := fun args w => by kernel_rfl
theorem eN77 : EN Try.prog 77 := fun args w => by kernel_rfl
theorem eN89 : EN Try.prog 89 := fun args w => by kernel_rfl
theorem eN90 : EN Try.prog 90 := fun args w => by kernel_rfl
theorem fA61_0 : FA Try.prog 61 0 0 := fun b o w => by kernel_rfl
theorem fA61_1 : FA Try.prog 61 1 4 := fun b o w => by kernel_rfl
theorem fA71_0 : FA Try.prog 71 0 0 := fun b o w => by kernel_rfl
theorem fA71_1 : FA Try.prog 71 1 1 := fun b o w => by kernel_rfl
theorem fA71_2 : FA Try.prog 71 2 2 := fun b o w => by kernel_rfl
theorem fA71_3 : FA Try.prog 71 3 3 := fun b o w => by kernel_rfl
theorem iA57 : IA Try.prog 57 4 1 := ⟨_, Try.underlying57, fun w => by kernel_rfl⟩
theorem zC57 : ZC Try.prog 57 [.int .u64 0, .int .u64 0, .int .u64 0, .int .u64 0] := fun w => ⟨.agg #[.int .u64 0, .int .u64 0, .int .u64 0, .int .u64 0], by kernel_rfl, rfl⟩
theorem zC61 : ZC Try.prog 61 [.int .u64 0, .int .u64 0, .int .u64 0, .int .u64 0, .int .i64 0] := fun w => ⟨.agg #[.int .u64 0, .int .u64 0, .int .u64 0, .int .u64 0, .int .i64 0], by kernel_rfl, rfl⟩
theorem bEq57 (v u : Vec) : BinR Try.prog .eql 57 (vecV v) (vecV u) (.bool (decide (v = u))) := bEqV Try.underlying57 Try.underlying31 (fun w => by kernel_rfl) (fun w => by kernel_rfl) (by kernel_rfl) v u
theorem bEq61 (s t : Stamp) : BinR Try.prog .eql 61 (stampV s) (stampV t) (.bool (decide (s = t))) := bAgg (by kernel_rfl) fun w => by
  have hS : Try.prog.underlying 61 = some (.struct (Try.prog.fieldsOf 61)) := by kernel_rfl
  have hp : Try.prog.stoodInHeld 61 = false := by kernel_rfl
  rw [run_eql_struct, show (10000 : Nat) = 9997 + 1 + 1 + 1 from rfl, run_equalIn_agg w (9997 + 1 + 1) 61 _ _ hS hp]
  have a57 : ∀ w, (isAgg 57).run Try.prog w = .ok true w := fun w => by kernel_rfl
  have s57 : ∀ w, (Go.sizeOf 57).run Try.prog w = .ok 4 w := fun w => by kernel_rfl
  have a3 : ∀ w, (isAgg 3).run Try.prog w = .ok false w := fun w => by kernel_rfl
  have e1 := fun x0 x1 x2 x3 y0 y1 y2 y3 w => eq_arr4 (P := Try.prog) Try.underlying57 Try.underlying31 (fun w => by kernel_rfl) (fun w => by kernel_rfl) 9997 x0 x1 x2 x3 y0 y1 y2 y3 w
  have e2 : ∀ (x y : Int) w, (Op.equalIn (9997 + 1 + 1) 3 (.int .i64 x) (.int .i64 y)).run Try.prog w = .ok (x == y) w := fun x y w => run_equalIn_int w (9997 + 1) 3 .i64 .i64 x y Try.underlying3
  simp only [Program.fieldsOf, Try.underlying61]
  generalize 9997 + 1 + 1 = d at e1 e2 ⊢
  simp [Op.eqFields, part, a57, s57, a3, e1, e2]
  obtain ⟨⟨s0, s1, s2, s3⟩, s4⟩ := s
  obtain ⟨⟨t0, t1, t2, t3⟩, t4⟩ := t
  simp only [Stamp.mk.injEq, Vec.mk.injEq]
  by_cases h0 : s0 = t0 <;> by_cases h1 : s1 = t1 <;> by_cases h2 : s2 = t2 <;> by_cases h3 : s3 = t3 <;> by_cases h4 : s4 = t4 <;> simp [h0, h1, h2, h3, h4]
theorem bEq71 (s t : Write) : BinR Try.prog .eql 71 (writeV s) (writeV t) (.bool (decide (s = t))) := bAgg (by kernel_rfl) fun w => by
  have hS : Try.prog.underlying 71 = some (.struct (Try.prog.fieldsOf 71)) := by kernel_rfl
  have hp : Try.prog.stoodInHeld 71 = false := by kernel_rfl
  rw [run_eql_struct, show (10000 : Nat) = 9998 + 1 + 1 from rfl, run_equalIn_agg w (9998 + 1) 71 _ _ hS hp]
  have a9 : ∀ w, (isAgg 9).run Try.prog w = .ok false w := fun w => by kernel_rfl
  have a4 : ∀ w, (isAgg 4).run Try.prog w = .ok false w := fun w => by kernel_rfl
  have e1 : ∀ (x y : ByteArray) w, (Op.equalIn (9998 + 1) 9 (.string x) (.string y)).run Try.prog w = .ok (decide (x = y)) w := fun x y w => by
    rw [run_equalIn_string w 9998 9 x y Try.underlying9, TB.bytes_beq]
  have e2 : ∀ (x y : Bool) w, (Op.equalIn (9998 + 1) 4 (.bool x) (.bool y)).run Try.prog w = .ok (x == y) w := fun x y w => run_equalIn_bool w 9998 4 x y Try.underlying4
  simp only [Program.fieldsOf, Try.underlying71]
  generalize 9998 + 1 = d at e1 e2 ⊢
  simp [Op.eqFields, part, a9, a4, e1, e2]
  obtain ⟨s0, s1, s2, s3⟩ := s
  obtain ⟨t0, t1, t2, t3⟩ := t
  simp only [Write.mk.injEq]
  by_cases h0 : s0 = t0 <;> by_cases h1 : s1 = t1 <;> by_cases h2 : s2 = t2 <;> by_cases h3 : s3 = t3 <;> simp [h0, h1, h2, h3]
set_option maxRecDepth 4000 in
theorem c44 (v : Vec) (n : Int) : Pf Try.prog 44 [vecV v, .int .i64 n] [] (.int .u64 (v.at' n)) := by
  refine trEnter Try.func44 rfl Try.ntmps44 (l := [(0, _), (1, _)]) rfl rfl (fun w0 => ?_)
  refine gSeq ?_
  refine gText (σ := wk [(0, .p), (1, .p)]) rfl ?_
  refine pm rfl (mBox rfl rfl) (fun b2 => ?_)
  refine pv rfl (rAs rfl) ?_
  refine gs_nil ?_
  refine gSeq ?_
  refine gSeq ?_
  refine gText (σ := wk [(0, .p), (1, .p), (2, .p), (3, .p), (4, .p), (5, .p)]) rfl ?_
  refine pv rfl (rMv rfl) ?_
  refine pv rfl (rBin rfl rfl bLt) ?_
  refine pv rfl (rMv rfl) ?_
  refine gB (e := 7) rfl (fun g7 => ?_) (fun g7 => ?_)
  · have h1 : ¬ (1 ≤ n ∧ n ≤ 4) := by have := of_decide_eq_true g7; omega
    refine pn rfl ?_
    refine pn rfl ?_
    refine pv rfl (rPk rfl rfl) ?_
    refine gs_nil ?_
    refine gKeep [1, 2, 4, 10] rfl ?_
    refine gCondT rfl rfl ?_
    refine gSeq ?_
    refine gText (σ := wk [(0, .p)]) rfl ?_
    refine pv rfl (rAs rfl) ?_
    refine gs_nil ?_
    refine gRet ?_
    refine gEnd1 Try.results44 (resT rfl) ⟨?_, rfl⟩
    unfold Vec.at'
    rw [if_neg (by omega), if_neg (by omega), if_neg (by omega), if_neg (by omega)]
  · refine pv rfl (rMv rfl) ?_
    refine pv rfl (rBin rfl rfl bGt) ?_
    refine pv rfl (rPk rfl rfl) ?_
    refine gs_nil ?_
    refine gKeep [1, 2, 4, 10] rfl ?_
    refine gCondD rfl (fun h1 => ?_) (fun h1 => ?_)
    · have h1 : ¬ (1 ≤ n ∧ n ≤ 4) := by omega
      refine gSeq ?_
      refine gText (σ := wk [(0, .p)]) rfl ?_
      refine pv rfl (rAs rfl) ?_
      refine gs_nil ?_
      refine gRet ?_
      refine gEnd1 Try.results44 (resT rfl) ⟨?_, rfl⟩
      unfold Vec.at'
      rw [if_neg (by omega), if_neg (by omega), if_neg (by omega), if_neg (by omega)]
    · have h1 : 1 ≤ n ∧ n ≤ 4 := by have := of_decide_eq_false g7; omega
      refine gSkip ?_
      refine gSeq ?_
      refine gText (σ := wk [(0, .p), (1, .p), (2, .p), (3, .p), (4, .p)]) rfl ?_
      refine pv rfl (rMv rfl) ?_
      refine pv rfl (rBin rfl rfl (bSubI (by omega))) ?_
      refine pv rfl (rIa iA57 rfl rfl (by omega)) ?_
      refine pv rfl (rLd1 t131 rfl (vec_nth v n h1)) ?_
      refine pv rfl (rAs rfl) ?_
      refine gs_nil ?_
      refine gKeep [4] rfl ?_
      refine gRet ?_
      refine gEnd1 Try.results44 (resT rfl) ⟨?_, rfl⟩
      rfl

set_option maxRecDepth 4000 in
theorem c43 (v : Vec) (n x : Int) : Pf Try.prog 43 [vecV v, .int .i64 n, .int .u64 x] [] (vecV (v.set' n x)) := by
  refine trEnter Try.func43 rfl Try.ntmps43 (l := [(0, _), (1, _), (2, _)]) rfl rfl (fun w0 => ?_)
  refine gSeq ?_
  refine gText (σ := wk [(0, .p), (1, .p)]) rfl ?_
  refine pm rfl (mBox rfl rfl) (fun b3 => ?_)
  refine pm rfl (mAlloc zC57) (fun b6 => ?_)
  refine gs_nil ?_
  refine gSeq ?_
  refine gSeq ?_
  refine gText (σ := wk [(0, .p), (1, .p), (2, .p), (3, .p), (4, .p), (5, .p)]) rfl ?_
  refine pv rfl (rMv rfl) ?_
  refine pv rfl (rBin rfl rfl bGe) ?_
  refine pv rfl (rMv rfl) ?_
  refine gB (e := 9) rfl (fun g9 => ?_) (fun g9 => ?_)
  · refine pv rfl (rMv rfl) ?_
    refine pv rfl (rBin rfl rfl bLe) ?_
    refine pv rfl (rPk rfl rfl) ?_
    refine gs_nil ?_
    refine gKeep [1, 2, 3, 6, 12] rfl ?_
    refine gCondD rfl (fun h0 => ?_) (fun h0 => ?_)
    · have h1 : 1 ≤ n ∧ n ≤ 4 := by have := of_decide_eq_true g9; omega
      refine gText (σ := wk [(0, .p), (1, .p), (2, .p), (3, .p), (4, .p)]) rfl ?_
      refine pv rfl (rMv rfl) ?_
      refine pv rfl (rBin rfl rfl (bSubI (by omega))) ?_
      refine pv rfl (rMv rfl) ?_
      refine pv rfl (rIa iA57 rfl rfl (by omega)) ?_
      refine ps0 rfl (tSt1 t131.2 rfl rfl rfl rfl (by show _ < 4; have := h1; omega) (vec_set v n x h1)) ?_
      refine gs_nil ?_
      refine gKeep [3, 6] rfl ?_
      refine gSeq ?_
      refine gText (σ := wk [(0, .p), (1, .p)]) rfl ?_
      refine pv rfl (rLdA tA57 rfl rfl) ?_
      refine ps0 rfl (tSt tA57.2 rfl rfl rfl rfl rfl rfl rfl) ?_
      refine gs_nil ?_
      refine gRet ?_
      refine gEnd1 Try.results43 (resA tA57 rfl rfl) ⟨?_, rfl⟩
      rfl
    · have h1 : ¬ (1 ≤ n ∧ n ≤ 4) := by omega
      refine gSkip ?_
      refine gSeq ?_
      refine gText (σ := wk [(0, .p), (1, .p)]) rfl ?_
      refine pv rfl (rLdA tA57 rfl rfl) ?_
      refine ps0 rfl (tSt tA57.2 rfl rfl rfl rfl rfl rfl rfl) ?_
      refine gs_nil ?_
      refine gKeep [6] rfl ?_
      refine gRet ?_
      refine gEnd1 Try.results43 (resA tA57 rfl rfl) ⟨?_, rfl⟩
      unfold Vec.set'
      rw [if_neg (by omega), if_neg (by omega), if_neg (by omega), if_neg (by omega)]
      rfl
  · have h1 : ¬ (1 ≤ n ∧ n ≤ 4) := by have := of_decide_eq_false g9; omega
    refine pn rfl ?_
    refine pn rfl ?_
    refine pv rfl (rPk rfl rfl) ?_
    refine gs_nil ?_
    refine gKeep [1, 2, 3, 6, 12] rfl ?_
    refine gCondF rfl rfl ?_
    refine gSkip ?_
    refine gSeq ?_
    refine gText (σ := wk [(0, .p), (1, .p)]) rfl ?_
    refine pv rfl (rLdA tA57 rfl rfl) ?_
    refine ps0 rfl (tSt tA57.2 rfl rfl rfl rfl rfl rfl rfl) ?_
    refine gs_nil ?_
    refine gKeep [6] rfl ?_
    refine gRet ?_
    refine gEnd1 Try.results43 (resA tA57 rfl rfl) ⟨?_, rfl⟩
    unfold Vec.set'
    rw [if_neg (by omega), if_neg (by omega), if_neg (by omega), if_neg (by omega)]
    rfl

set_option maxRecDepth 4000 in
theorem c42 (s : Stamp) : Pf Try.prog 42 [stampV s] [] (.int .u64 s.n) := by
  refine trEnter Try.func42 rfl Try.ntmps42 (l := [(0, _)]) rfl rfl (fun w0 => ?_)
  refine gSeq ?_
  refine gText (σ := wk [(0, .p), (1, .p)]) rfl ?_
  refine pm rfl (mBox rfl rfl) (fun b1 => ?_)
  refine pv rfl (rAs rfl) ?_
  refine gs_nil ?_
  refine gSeq ?_
  refine gText (σ := wk [(0, .p), (1, .p), (2, .p), (3, .p), (4, .p), (5, .p)]) rfl ?_
  refine pv rfl (rFa fA61_0 rfl) ?_
  refine pv rfl (rLdA tA57 rfl rfl) ?_
  refine pv rfl (rFa fA61_1 rfl) ?_
  refine pv rfl (rLdN t13 rfl rfl) ?_
  refine pf rfl eN44 (c44 s.v s.dc) ?_
  refine pv rfl (rAs rfl) ?_
  refine gs_nil ?_
  refine gKeep [2] rfl ?_
  refine gRet ?_
  refine gEnd1 Try.results42 (resT rfl) ⟨?_, rfl⟩
  rfl

set_option maxRecDepth 4000 in
theorem c77 (v : Vec) : Pf Try.prog 77 [vecV v] [] (.bool v.ok) := by
  refine trEnter Try.func77 rfl Try.ntmps77 (l := [(0, _)]) rfl rfl (fun w0 => ?_)
  refine gSeq ?_
  refine gText (σ := wk [(0, .p), (1, .p)]) rfl ?_
  refine pm rfl (mBox rfl rfl) (fun b1 => ?_)
  refine pv rfl (rAs rfl) ?_
  refine gs_nil ?_
  refine gSeq ?_
  refine gSeq ?_
  refine gText (σ := wk [(0, .p)]) rfl ?_
  refine pv rfl (rAs rfl) ?_
  refine gs_nil ?_
  refine gBlock ?_
  refine gLoop (σ := Nat) (fun s => ([(1, .pointer (some ⟨b1, 0, none⟩)), (3, .int .i64 s)], [(b1, .cells (vecL v).toArray 57)])) (fun s => s ≤ 4 ∧ (1 ≤ s → v.a ≤ 1152921504606846976) ∧ (2 ≤ s → v.b ≤ 1152921504606846976) ∧ (3 ≤ s → v.c ≤ 1152921504606846976) ∧ (4 ≤ s → v.d ≤ 1152921504606846976)) (fun s => 4 - s) ?_ (fun s hs => ?_)
  · refine gInvK (0) [1, 3] (by simp) rfl rfl
  · refine gSeq ?_
    refine gSeq ?_
    refine gText (σ := wk [(0, .p), (1, .p)]) rfl ?_
    refine pv rfl (rMv rfl) ?_
    refine pv rfl (rBin rfl rfl bLt) ?_
    refine gs_nil ?_
    refine gCondD rfl (fun h0 => ?_) (fun h0 => ?_)
    · have hk : s = 0 ∨ s = 1 ∨ s = 2 ∨ s = 3 := by omega
      rcases hk with rfl | rfl | rfl | rfl
      all_goals
        refine gSkip ?_
        refine gSeq ?_
        refine gBlock ?_
        refine gSeq ?_
        refine gText (σ := wk [(0, .p), (1, .p), (2, .p), (3, .p)]) rfl ?_
        refine pv rfl (rMv rfl) ?_
        refine pv rfl (rIa iA57 rfl rfl ⟨by decide, by decide⟩) ?_
        refine pv rfl (rLdN t131 rfl rfl) ?_
        refine pv rfl (rBin rfl rfl bGt) ?_
        refine gs_nil ?_
        refine gKeep [1, 3, 11] rfl ?_
        refine gCondD rfl (fun h1 => ?_) (fun h1 => ?_)
        · refine gSeq ?_
          refine gText (σ := wk [(0, .p)]) rfl ?_
          refine pv rfl (rAs rfl) ?_
          refine gs_nil ?_
          refine gRet ?_
          refine gEnd1 Try.results77 (resT rfl) ⟨?_, rfl⟩
          first | (rw [ok_false (by omega)]) | (rw [(ok_iff v).2 (by omega)])
        · refine gSkip ?_
          refine gText (σ := wk [(0, .p), (1, .p), (2, .p)]) rfl ?_
          refine pv rfl (rMv rfl) ?_
          refine pv rfl (rBin rfl rfl (bAddI (by omega))) ?_
          refine pv rfl (rAs rfl) ?_
          refine gs_nil ?_
          first | refine gInvK (0 + 1) [1, 3] ⟨by simp; omega, by omega⟩ rfl rfl | refine gInvK (1 + 1) [1, 3] ⟨by simp; omega, by omega⟩ rfl rfl | refine gInvK (2 + 1) [1, 3] ⟨by simp; omega, by omega⟩ rfl rfl | refine gInvK (3 + 1) [1, 3] ⟨by simp; omega, by omega⟩ rfl rfl
    · have hk : s = 4 := by omega
      subst hk
      refine gExit rfl ?_
      refine gSeq ?_
      refine gText (σ := wk [(0, .p)]) rfl ?_
      refine pv rfl (rAs rfl) ?_
      refine gs_nil ?_
      refine gRet ?_
      refine gEnd1 Try.results77 (resT rfl) ⟨?_, rfl⟩
      first | (rw [ok_false (by omega)]) | (rw [(ok_iff v).2 (by omega)])

set_option maxRecDepth 4000 in
theorem c73 (u v : Vec) : Pf Try.prog 73 [vecV u, vecV v] [] (.bool (u.leq v)) := by
  refine trEnter Try.func73 rfl Try.ntmps73 (l := [(0, _), (1, _)]) rfl rfl (fun w0 => ?_)
  refine gSeq ?_
  refine gText (σ := wk [(0, .p), (1, .p), (2, .p)]) rfl ?_
  refine pm rfl (mBox rfl rfl) (fun b2 => ?_)
  refine pm rfl (mBox rfl rfl) (fun b3 => ?_)
  refine pv rfl (rAs rfl) ?_
  refine gs_nil ?_
  refine gSeq ?_
  refine gSeq ?_
  refine gText (σ := wk [(0, .p)]) rfl ?_
  refine pv rfl (rAs rfl) ?_
  refine gs_nil ?_
  refine gBlock ?_
  refine gLoop (σ := Nat) (fun s => ([(2, .pointer (some ⟨b2, 0, none⟩)), (3, .pointer (some ⟨b3, 0, none⟩)), (5, .int .i64 s)], [(b3, .cells (vecL v).toArray 57), (b2, .cells (vecL u).toArray 57)])) (fun s => s ≤ 4 ∧ (1 ≤ s → u.a ≤ v.a) ∧ (2 ≤ s → u.b ≤ v.b) ∧ (3 ≤ s → u.c ≤ v.c) ∧ (4 ≤ s → u.d ≤ v.d)) (fun s => 4 - s) ?_ (fun s hs => ?_)
  · refine gInvK (0) [2, 3, 5] (by simp) rfl rfl
  · refine gSeq ?_
    refine gSeq ?_
    refine gText (σ := wk [(0, .p), (1, .p)]) rfl ?_
    refine pv rfl (rMv rfl) ?_
    refine pv rfl (rBin rfl rfl bLt) ?_
    refine gs_nil ?_
    refine gCondD rfl (fun h0 => ?_) (fun h0 => ?_)
    · have hk : s = 0 ∨ s = 1 ∨ s = 2 ∨ s = 3 := by omega
      rcases hk with rfl | rfl | rfl | rfl
      all_goals
        refine gSkip ?_
        refine gSeq ?_
        refine gBlock ?_
        refine gSeq ?_
        refine gD [b2, b3] (wk [(0, .q), (1, .q), (2, .q), (3, .q), (4, .q), (5, .q), (6, .q)]) fol (by kernel_rfl) rfl (by kernel_rfl) ?_
        refine qv rfl (rMv rfl) ?_
        refine qv rfl (rIa iA57 rfl rfl ⟨by decide, by decide⟩) ?_
        refine qv rfl (rLdN t131 rfl rfl) ?_
        refine qv rfl (rMv rfl) ?_
        refine qv rfl (rIa iA57 rfl rfl ⟨by decide, by decide⟩) ?_
        refine qv rfl (rLdN t131 rfl rfl) ?_
        refine qv rfl (rBin rfl rfl bGt) ?_
        refine gs_nil ?_
        refine gKeep [2, 3, 5, 16] rfl ?_
        refine gCondD rfl (fun h1 => ?_) (fun h1 => ?_)
        · refine gSeq ?_
          refine gText (σ := wk [(0, .p)]) rfl ?_
          refine pv rfl (rAs rfl) ?_
          refine gs_nil ?_
          refine gRet ?_
          refine gEnd1 Try.results73 (resT rfl) ⟨?_, rfl⟩
          simp only [Vec.leq]; simp_all; try omega
        · refine gSkip ?_
          refine gText (σ := wk [(0, .p), (1, .p), (2, .p)]) rfl ?_
          refine pv rfl (rMv rfl) ?_
          refine pv rfl (rBin rfl rfl (bAddI (by omega))) ?_
          refine pv rfl (rAs rfl) ?_
          refine gs_nil ?_
          first | refine gInvK (0 + 1) [2, 3, 5] ⟨by simp; omega, by omega⟩ rfl rfl | refine gInvK (1 + 1) [2, 3, 5] ⟨by simp; omega, by omega⟩ rfl rfl | refine gInvK (2 + 1) [2, 3, 5] ⟨by simp; omega, by omega⟩ rfl rfl | refine gInvK (3 + 1) [2, 3, 5] ⟨by simp; omega, by omega⟩ rfl rfl
    · have hk : s = 4 := by omega
      subst hk
      refine gExit rfl ?_
      refine gSeq ?_
      refine gText (σ := wk [(0, .p)]) rfl ?_
      refine pv rfl (rAs rfl) ?_
      refine gs_nil ?_
      refine gRet ?_
      refine gEnd1 Try.results73 (resT rfl) ⟨?_, rfl⟩
      simp only [Vec.leq]; simp_all; try omega

set_option maxRecDepth 4000 in
theorem c90 (u v : Vec) : Pf Try.prog 90 [vecV u, vecV v] [] (.bool (lessV u v)) := by
  refine trEnter Try.func90 rfl Try.ntmps90 (l := [(0, _), (1, _)]) rfl rfl (fun w0 => ?_)
  refine gSeq ?_
  refine gText (σ := wk [(0, .p), (1, .p), (2, .p)]) rfl ?_
  refine pm rfl (mBox rfl rfl) (fun b2 => ?_)
  refine pm rfl (mBox rfl rfl) (fun b3 => ?_)
  refine pv rfl (rAs rfl) ?_
  refine gs_nil ?_
  refine gSeq ?_
  refine gSeq ?_
  refine gText (σ := wk [(0, .p)]) rfl ?_
  refine pv rfl (rAs rfl) ?_
  refine gs_nil ?_
  refine gBlock ?_
  refine gLoop (σ := Nat) (fun s => ([(2, .pointer (some ⟨b2, 0, none⟩)), (3, .pointer (some ⟨b3, 0, none⟩)), (5, .int .i64 s)], [(b3, .cells (vecL v).toArray 57), (b2, .cells (vecL u).toArray 57)])) (fun s => s ≤ 4 ∧ (1 ≤ s → u.a = v.a) ∧ (2 ≤ s → u.b = v.b) ∧ (3 ≤ s → u.c = v.c) ∧ (4 ≤ s → u.d = v.d)) (fun s => 4 - s) ?_ (fun s hs => ?_)
  · refine gInvK (0) [2, 3, 5] (by simp) rfl rfl
  · refine gSeq ?_
    refine gSeq ?_
    refine gText (σ := wk [(0, .p), (1, .p)]) rfl ?_
    refine pv rfl (rMv rfl) ?_
    refine pv rfl (rBin rfl rfl bLt) ?_
    refine gs_nil ?_
    refine gCondD rfl (fun h0 => ?_) (fun h0 => ?_)
    · have hk : s = 0 ∨ s = 1 ∨ s = 2 ∨ s = 3 := by omega
      rcases hk with rfl | rfl | rfl | rfl
      all_goals
        refine gSkip ?_
        refine gSeq ?_
        refine gBlock ?_
        refine gSeq ?_
        refine gD [b2, b3] (wk [(0, .q), (1, .q), (2, .q), (3, .q), (4, .q), (5, .q), (6, .q)]) fol (by kernel_rfl) rfl (by kernel_rfl) ?_
        refine qv rfl (rMv rfl) ?_
        refine qv rfl (rIa iA57 rfl rfl ⟨by decide, by decide⟩) ?_
        refine qv rfl (rLdN t131 rfl rfl) ?_
        refine qv rfl (rMv rfl) ?_
        refine qv rfl (rIa iA57 rfl rfl ⟨by decide, by decide⟩) ?_
        refine qv rfl (rLdN t131 rfl rfl) ?_
        refine qv rfl (rBin rfl rfl bNe) ?_
        refine gs_nil ?_
        refine gKeep [2, 3, 5, 16] rfl ?_
        refine gCondD rfl (fun h1 => ?_) (fun h1 => ?_)
        · refine gSeq ?_
          refine gD [b2, b3] (wk [(0, .q), (1, .q), (2, .q), (3, .q), (4, .q), (5, .q), (6, .q), (7, .q)]) fol (by kernel_rfl) rfl (by kernel_rfl) ?_
          refine qv rfl (rMv rfl) ?_
          refine qv rfl (rIa iA57 rfl rfl ⟨by decide, by decide⟩) ?_
          refine qv rfl (rLdN t131 rfl rfl) ?_
          refine qv rfl (rMv rfl) ?_
          refine qv rfl (rIa iA57 rfl rfl ⟨by decide, by decide⟩) ?_
          refine qv rfl (rLdN t131 rfl rfl) ?_
          refine qv rfl (rBin rfl rfl bLt) ?_
          refine qv rfl (rAs rfl) ?_
          refine gs_nil ?_
          refine gKeep [2, 3, 4, 5] rfl ?_
          refine gRet ?_
          refine gEnd1 Try.results90 (resT rfl) ⟨?_, rfl⟩
          simp only [lessV, lex4, cmp3]; simp_all; try (repeat (split <;> try omega)); try omega
        · refine gSkip ?_
          refine gText (σ := wk [(0, .p), (1, .p), (2, .p)]) rfl ?_
          refine pv rfl (rMv rfl) ?_
          refine pv rfl (rBin rfl rfl (bAddI (by omega))) ?_
          refine pv rfl (rAs rfl) ?_
          refine gs_nil ?_
          first | refine gInvK (0 + 1) [2, 3, 5] ⟨by simp; omega, by omega⟩ rfl rfl | refine gInvK (1 + 1) [2, 3, 5] ⟨by simp; omega, by omega⟩ rfl rfl | refine gInvK (2 + 1) [2, 3, 5] ⟨by simp; omega, by omega⟩ rfl rfl | refine gInvK (3 + 1) [2, 3, 5] ⟨by simp; omega, by omega⟩ rfl rfl
    · have hk : s = 4 := by omega
      subst hk
      refine gExit rfl ?_
      refine gSeq ?_
      refine gText (σ := wk [(0, .p)]) rfl ?_
      refine pv rfl (rAs rfl) ?_
      refine gs_nil ?_
      refine gRet ?_
      refine gEnd1 Try.results90 (resT rfl) ⟨?_, rfl⟩
      simp only [lessV, lex4, cmp3]; simp_all; try (repeat (split <;> try omega)); try omega

set_option maxRecDepth 4000 in
theorem c47 (s : Stamp) (v : Vec) : Pf Try.prog 47 [stampV s, vecV v] [] (.bool (s.v.leq v)) := by
  refine trEnter Try.func47 rfl Try.ntmps47 (l := [(0, _), (1, _)]) rfl rfl (fun w0 => ?_)
  refine gSeq ?_
  refine gText (σ := wk [(0, .p), (1, .p), (2, .p)]) rfl ?_
  refine pm rfl (mBox rfl rfl) (fun b2 => ?_)
  refine pm rfl (mBox rfl rfl) (fun b3 => ?_)
  refine pv rfl (rAs rfl) ?_
  refine gs_nil ?_
  refine gSeq ?_
  refine gText (σ := wk [(0, .p), (1, .p), (2, .p), (3, .p), (4, .p)]) rfl ?_
  refine pv rfl (rFa fA61_0 rfl) ?_
  refine pv rfl (rLdA tA57 rfl rfl) ?_
  refine pv rfl (rLdA tA57 rfl rfl) ?_
  refine pf rfl eN73 (c73 s.v v) ?_
  refine pv rfl (rAs rfl) ?_
  refine gs_nil ?_
  refine gKeep [4] rfl ?_
  refine gRet ?_
  refine gEnd1 Try.results47 (resT rfl) ⟨?_, rfl⟩
  rfl

set_option maxRecDepth 4000 in
theorem c54 (s : Stamp) : Pf Try.prog 54 [stampV s] [] (.bool s.ok) := by
  refine trEnter Try.func54 rfl Try.ntmps54 (l := [(0, _)]) rfl rfl (fun w0 => ?_)
  refine gSeq ?_
  refine gText (σ := wk [(0, .p), (1, .p)]) rfl ?_
  refine pm rfl (mBox rfl rfl) (fun b1 => ?_)
  refine pv rfl (rAs rfl) ?_
  refine gs_nil ?_
  refine gSeq ?_
  refine gText (σ := wk [(0, .p), (1, .p), (2, .p), (3, .p), (4, .p), (5, .p), (6, .p), (7, .p), (8, .p)]) rfl ?_
  refine pv rfl (rFa fA61_0 rfl) ?_
  refine pv rfl (rLdA tA57 rfl rfl) ?_
  refine pf rfl eN77 (c77 s.v) ?_
  refine pv rfl (rMv rfl) ?_
  refine gB (e := 6) rfl (fun g6 => ?_) (fun g6 => ?_)
  · refine pv rfl (rLdA tA61 rfl rfl) ?_
    refine pf rfl eN42 (c42 _) ?_
    refine pv rfl (rBin rfl rfl bGe) ?_
    refine pv rfl (rPk rfl rfl) ?_
    refine pv rfl (rAs rfl) ?_
    refine gs_nil ?_
    refine gKeep [2] rfl ?_
    refine gRet ?_
    refine gEnd1 Try.results54 (resT rfl) ⟨?_, rfl⟩
    first | (simp_all [Stamp.ok]; done) | (simp_all [Stamp.ok]; omega)
  · refine pn rfl ?_
    refine pn rfl ?_
    refine pn rfl ?_
    refine pv rfl (rPk rfl rfl) ?_
    refine pv rfl (rAs rfl) ?_
    refine gs_nil ?_
    refine gKeep [2] rfl ?_
    refine gRet ?_
    refine gEnd1 Try.results54 (resT rfl) ⟨?_, rfl⟩
    first | (simp_all [Stamp.ok]; done) | (simp_all [Stamp.ok]; omega)

set_option maxRecDepth 4000 in
theorem c55 (w : Write) : Pf Try.prog 55 [writeV w] [] (.bool w.ok) := by
  refine trEnter Try.func55 rfl Try.ntmps55 (l := [(0, _)]) rfl rfl (fun w0 => ?_)
  refine gSeq ?_
  refine gText (σ := wk [(0, .p), (1, .p)]) rfl ?_
  refine pm rfl (mBox rfl rfl) (fun b1 => ?_)
  refine pv rfl (rAs rfl) ?_
  refine gs_nil ?_
  refine gSeq ?_
  refine gText (σ := wk [(0, .p), (1, .p), (2, .p), (3, .p), (4, .p), (5, .p), (6, .p), (7, .p), (8, .p), (9, .p), (10, .p), (11, .p), (12, .p), (13, .p), (14, .p), (15, .p), (16, .p), (17, .p), (18, .p), (19, .p), (20, .p), (21, .p), (22, .p), (23, .p), (24, .p), (25, .p), (26, .p), (27, .p), (28, .p), (29, .p), (30, .p), (31, .p), (32, .p), (33, .p), (34, .p), (35, .p), (36, .p), (37, .p), (38, .p)]) rfl ?_
  refine pv rfl (rFa fA71_0 rfl) ?_
  refine pv rfl (rLdN t19 rfl rfl) ?_
  refine pv rfl (rLenS Try.underlying9 rfl) ?_
  refine pv rfl (rBin rfl rfl bGe) ?_
  refine pv rfl (rMv rfl) ?_
  refine gB (e := 7) rfl (fun g7 => ?_) (fun g7 => ?_)
  · refine pv rfl (rFa fA71_0 rfl) ?_
    refine pv rfl (rLdN t19 rfl rfl) ?_
    refine pv rfl (rLenS Try.underlying9 rfl) ?_
    refine pv rfl (rBin rfl rfl bLe) ?_
    refine pv rfl (rPk rfl rfl) ?_
    refine pv rfl (rMv rfl) ?_
    refine gB (e := 13) rfl (fun g13 => ?_) (fun g13 => ?_)
    · refine pv rfl (rFa fA71_1 rfl) ?_
      refine pv rfl (rLdN t19 rfl rfl) ?_
      refine pv rfl (rLenS Try.underlying9 rfl) ?_
      refine pv rfl (rBin rfl rfl bGe) ?_
      refine pv rfl (rPk rfl rfl) ?_
      refine pv rfl (rMv rfl) ?_
      refine gB (e := 19) rfl (fun g19 => ?_) (fun g19 => ?_)
      · refine pv rfl (rFa fA71_1 rfl) ?_
        refine pv rfl (rLdN t19 rfl rfl) ?_
        refine pv rfl (rLenS Try.underlying9 rfl) ?_
        refine pv rfl (rBin rfl rfl bLe) ?_
        refine pv rfl (rPk rfl rfl) ?_
        refine pv rfl (rMv rfl) ?_
        refine gB (e := 25) rfl (fun g25 => ?_) (fun g25 => ?_)
        · refine pv rfl (rFa fA71_2 rfl) ?_
          refine pv rfl (rLdN t19 rfl rfl) ?_
          refine pv rfl (rLenS Try.underlying9 rfl) ?_
          refine pv rfl (rBin rfl rfl bLe) ?_
          refine pv rfl (rPk rfl rfl) ?_
          refine pv rfl (rMv rfl) ?_
          refine gB (e := 31) rfl (fun g31 => ?_) (fun g31 => ?_)
          · refine pv rfl (rFa fA71_3 rfl) ?_
            refine pv rfl (rLdN t14 rfl rfl) ?_
            refine pv rfl (rNot rfl) ?_
            refine pv rfl (rMv rfl) ?_
            refine gB (e := 35) rfl (fun g35 => ?_) (fun g35 => ?_)
            · refine pn rfl ?_
              refine pn rfl ?_
              refine pn rfl ?_
              refine pv rfl (rPk rfl rfl) ?_
              refine pv rfl (rPk rfl rfl) ?_
              refine pv rfl (rAs rfl) ?_
              refine gs_nil ?_
              refine gKeep [2] rfl ?_
              refine gRet ?_
              refine gEnd1 Try.results55 (resT rfl) ⟨?_, rfl⟩
              simp only [Write.ok, nameOk_eq]; simp_all; try omega
            · refine pv rfl (rFa fA71_2 rfl) ?_
              refine pv rfl (rLdN t19 rfl rfl) ?_
              refine pv rfl (rBin rfl rfl bEqS) ?_
              refine pv rfl (rPk rfl rfl) ?_
              refine pv rfl (rPk rfl rfl) ?_
              refine pv rfl (rAs rfl) ?_
              refine gs_nil ?_
              refine gKeep [2] rfl ?_
              refine gRet ?_
              refine gEnd1 Try.results55 (resT rfl) ⟨?_, rfl⟩
              simp only [Write.ok, nameOk_eq]; simp_all; try omega
          · refine pn rfl ?_
            refine pn rfl ?_
            refine pn rfl ?_
            refine pn rfl ?_
            refine pn rfl ?_
            refine pn rfl ?_
            refine pn rfl ?_
            refine pn rfl ?_
            refine pv rfl (rPk rfl rfl) ?_
            refine pv rfl (rAs rfl) ?_
            refine gs_nil ?_
            refine gKeep [2] rfl ?_
            refine gRet ?_
            refine gEnd1 Try.results55 (resT rfl) ⟨?_, rfl⟩
            simp only [Write.ok, nameOk_eq]; simp_all; try omega
        · refine pn rfl ?_
          refine pn rfl ?_
          refine pn rfl ?_
          refine pn rfl ?_
          refine pv rfl (rPk rfl rfl) ?_
          refine pv rfl (rMv rfl) ?_
          refine pn rfl ?_
          refine pn rfl ?_
          refine pn rfl ?_
          refine pn rfl ?_
          refine pn rfl ?_
          refine pn rfl ?_
          refine pn rfl ?_
          refine pn rfl ?_
          refine pv rfl (rPk rfl rfl) ?_
          refine pv rfl (rAs rfl) ?_
          refine gs_nil ?_
          refine gKeep [2] rfl ?_
          refine gRet ?_
          refine gEnd1 Try.results55 (resT rfl) ⟨?_, rfl⟩
          simp only [Write.ok, nameOk_eq]; simp_all; try omega
      · refine pn rfl ?_
        refine pn rfl ?_
        refine pn rfl ?_
        refine pn rfl ?_
        refine pv rfl (rPk rfl rfl) ?_
        refine pv rfl (rMv rfl) ?_
        refine pn rfl ?_
        refine pn rfl ?_
        refine pn rfl ?_
        refine pn rfl ?_
        refine pv rfl (rPk rfl rfl) ?_
        refine pv rfl (rMv rfl) ?_
        refine pn rfl ?_
        refine pn rfl ?_
        refine pn rfl ?_
        refine pn rfl ?_
        refine pn rfl ?_
        refine pn rfl ?_
        refine pn rfl ?_
        refine pn rfl ?_
        refine pv rfl (rPk rfl rfl) ?_
        refine pv rfl (rAs rfl) ?_
        refine gs_nil ?_
        refine gKeep [2] rfl ?_
        refine gRet ?_
        refine gEnd1 Try.results55 (resT rfl) ⟨?_, rfl⟩
        simp only [Write.ok, nameOk_eq]; simp_all; try omega
    · refine pn rfl ?_
      refine pn rfl ?_
      refine pn rfl ?_
      refine pn rfl ?_
      refine pv rfl (rPk rfl rfl) ?_
      refine pv rfl (rMv rfl) ?_
      refine pn rfl ?_
      refine pn rfl ?_
      refine pn rfl ?_
      refine pn rfl ?_
      refine pv rfl (rPk rfl rfl) ?_
      refine pv rfl (rMv rfl) ?_
      refine pn rfl ?_
      refine pn rfl ?_
      refine pn rfl ?_
      refine pn rfl ?_
      refine pv rfl (rPk rfl rfl) ?_
      refine pv rfl (rMv rfl) ?_
      refine pn rfl ?_
      refine pn rfl ?_
      refine pn rfl ?_
      refine pn rfl ?_
      refine pn rfl ?_
      refine pn rfl ?_
      refine pn rfl ?_
      refine pn rfl ?_
      refine pv rfl (rPk rfl rfl) ?_
      refine pv rfl (rAs rfl) ?_
      refine gs_nil ?_
      refine gKeep [2] rfl ?_
      refine gRet ?_
      refine gEnd1 Try.results55 (resT rfl) ⟨?_, rfl⟩
      simp only [Write.ok, nameOk_eq]; simp_all; try omega
  · refine pn rfl ?_
    refine pn rfl ?_
    refine pn rfl ?_
    refine pn rfl ?_
    refine pv rfl (rPk rfl rfl) ?_
    refine pv rfl (rMv rfl) ?_
    refine pn rfl ?_
    refine pn rfl ?_
    refine pn rfl ?_
    refine pn rfl ?_
    refine pv rfl (rPk rfl rfl) ?_
    refine pv rfl (rMv rfl) ?_
    refine pn rfl ?_
    refine pn rfl ?_
    refine pn rfl ?_
    refine pn rfl ?_
    refine pv rfl (rPk rfl rfl) ?_
    refine pv rfl (rMv rfl) ?_
    refine pn rfl ?_
    refine pn rfl ?_
    refine pn rfl ?_
    refine pn rfl ?_
    refine pv rfl (rPk rfl rfl) ?_
    refine pv rfl (rMv rfl) ?_
    refine pn rfl ?_
    refine pn rfl ?_
    refine pn rfl ?_
    refine pn rfl ?_
    refine pn rfl ?_
    refine pn rfl ?_
    refine pn rfl ?_
    refine pn rfl ?_
    refine pv rfl (rPk rfl rfl) ?_
    refine pv rfl (rAs rfl) ?_
    refine gs_nil ?_
    refine gKeep [2] rfl ?_
    refine gRet ?_
    refine gEnd1 Try.results55 (resT rfl) ⟨?_, rfl⟩
    simp only [Write.ok, nameOk_eq]; simp_all; try omega

set_option maxRecDepth 4000 in
theorem c89 (v : Vec) : Pf Try.prog 89 [vecV v] [] (.int .u64 v.sum) := by
  refine trEnter Try.func89 rfl Try.ntmps89 (l := [(0, _)]) rfl rfl (fun w0 => ?_)
  refine gSeq ?_
  refine gText (σ := wk [(0, .p), (1, .p)]) rfl ?_
  refine pm rfl (mBox rfl rfl) (fun b1 => ?_)
  refine pv rfl (rAs rfl) ?_
  refine gs_nil ?_
  refine gSeq ?_
  refine gText (σ := wk [(0, .p), (1, .p), (2, .p), (3, .p), (4, .p), (5, .p), (6, .p), (7, .p), (8, .p), (9, .p), (10, .p), (11, .p)]) rfl ?_
  refine pv rfl (rIa iA57 rfl rfl ⟨by decide, by decide⟩) ?_
  refine pv rfl (rLdN t131 rfl rfl) ?_
  refine pv rfl (rIa iA57 rfl rfl ⟨by decide, by decide⟩) ?_
  refine pv rfl (rLdN t131 rfl rfl) ?_
  refine pv rfl (rBin rfl rfl bAdd) ?_
  refine pv rfl (rIa iA57 rfl rfl ⟨by decide, by decide⟩) ?_
  refine pv rfl (rLdN t131 rfl rfl) ?_
  refine pv rfl (rBin rfl rfl bAdd) ?_
  refine pv rfl (rIa iA57 rfl rfl ⟨by decide, by decide⟩) ?_
  refine pv rfl (rLdN t131 rfl rfl) ?_
  refine pv rfl (rBin rfl rfl bAdd) ?_
  refine pv rfl (rAs rfl) ?_
  refine gs_nil ?_
  refine gKeep [2] rfl ?_
  refine gRet ?_
  refine gEnd1 Try.results89 (resT rfl) ⟨?_, rfl⟩
  exact congrArg _ (sum_ref v)

set_option maxRecDepth 4000 in
theorem c72 (s t : Stamp) : Pf Try.prog 72 [stampV s, stampV t] [] (.int .i64 (s.ord t)) := by
  refine trEnter Try.func72 rfl Try.ntmps72 (l := [(0, _), (1, _)]) rfl rfl (fun w0 => ?_)
  refine gSeq ?_
  refine gText (σ := wk [(0, .p), (1, .p), (2, .p)]) rfl ?_
  refine pm rfl (mBox rfl rfl) (fun b2 => ?_)
  refine pm rfl (mBox rfl rfl) (fun b3 => ?_)
  refine pv rfl (rAs rfl) ?_
  refine gs_nil ?_
  refine gSeq ?_
  refine gSeq ?_
  refine gText (σ := wk [(0, .p), (1, .p), (2, .p)]) rfl ?_
  refine pv rfl (rLdA tA61 rfl rfl) ?_
  refine pv rfl (rLdA tA61 rfl rfl) ?_
  refine pv rfl (rBin rfl rfl (bEq61 s t)) ?_
  refine gs_nil ?_
  refine gKeep [2, 3, 4, 9] rfl ?_
  refine gCondD rfl (fun h0 => ?_) (fun h0 => ?_)
  · refine gSeq ?_
    refine gText (σ := wk [(0, .p)]) rfl ?_
    refine pv rfl (rAs rfl) ?_
    refine gs_nil ?_
    refine gRet ?_
    refine gEnd1 Try.results72 (resT rfl) ⟨?_, rfl⟩
    simp [Stamp.ord, h0]
  · refine gSkip ?_
    refine gSeq ?_
    refine gText (σ := wk [(0, .p), (1, .p), (2, .p), (3, .p)]) rfl ?_
    refine pv rfl (rFa fA61_0 rfl) ?_
    refine pv rfl (rLdA tA57 rfl rfl) ?_
    refine pf rfl eN89 (c89 s.v) ?_
    refine pv rfl (rAs rfl) ?_
    refine gs_nil ?_
    refine gKeep [2, 3, 4, 5] rfl ?_
    refine gSeq ?_
    refine gText (σ := wk [(0, .p), (1, .p), (2, .p), (3, .p)]) rfl ?_
    refine pv rfl (rFa fA61_0 rfl) ?_
    refine pv rfl (rLdA tA57 rfl rfl) ?_
    refine pf rfl eN89 (c89 t.v) ?_
    refine pv rfl (rAs rfl) ?_
    refine gs_nil ?_
    refine gSeq ?_
    refine gSeq ?_
    refine gText (σ := wk [(0, .p), (1, .p), (2, .p), (3, .p), (4, .p), (5, .p), (6, .p), (7, .p), (8, .p), (9, .p), (10, .p), (11, .p), (12, .p), (13, .p), (14, .p), (15, .p), (16, .p), (17, .p), (18, .p), (19, .p), (20, .p), (21, .p), (22, .p), (23, .p), (24, .p), (25, .p), (26, .p), (27, .p), (28, .p)]) rfl ?_
    refine pv rfl (rMv rfl) ?_
    refine pv rfl (rMv rfl) ?_
    refine pv rfl (rBin rfl rfl bLt) ?_
    refine pv rfl (rMv rfl) ?_
    refine gB (e := 19) rfl (fun g19 => ?_) (fun g19 => ?_)
    · refine pn rfl ?_
      refine pn rfl ?_
      refine pn rfl ?_
      refine pn rfl ?_
      refine pn rfl ?_
      refine pn rfl ?_
      refine pn rfl ?_
      refine pn rfl ?_
      refine pn rfl ?_
      refine pn rfl ?_
      refine pn rfl ?_
      refine pn rfl ?_
      refine pn rfl ?_
      refine pn rfl ?_
      refine pn rfl ?_
      refine pn rfl ?_
      refine pn rfl ?_
      refine pn rfl ?_
      refine pn rfl ?_
      refine pn rfl ?_
      refine pn rfl ?_
      refine pn rfl ?_
      refine pn rfl ?_
      refine pn rfl ?_
      refine pv rfl (rPk rfl rfl) ?_
      refine gs_nil ?_
      refine gKeep [4, 44] rfl ?_
      refine gCondT rfl rfl ?_
      refine gSeq ?_
      refine gText (σ := wk [(0, .p)]) rfl ?_
      refine pv rfl (rAs rfl) ?_
      refine gs_nil ?_
      refine gRet ?_
      refine gEnd1 Try.results72 (resT rfl) ⟨?_, rfl⟩
      exact congrArg _ (by rw [ord_ref h0]; simp_all)
    · refine pv rfl (rMv rfl) ?_
      refine pv rfl (rMv rfl) ?_
      refine pv rfl (rBin rfl rfl bEq) ?_
      refine pv rfl (rMv rfl) ?_
      refine gB (e := 23) rfl (fun g23 => ?_) (fun g23 => ?_)
      · refine pv rfl (rFa fA61_1 rfl) ?_
        refine pv rfl (rLdN t13 rfl rfl) ?_
        refine pv rfl (rFa fA61_1 rfl) ?_
        refine pv rfl (rLdN t13 rfl rfl) ?_
        refine pv rfl (rBin rfl rfl bLt) ?_
        refine pv rfl (rMv rfl) ?_
        refine gB (e := 29) rfl (fun g29 => ?_) (fun g29 => ?_)
        · refine pn rfl ?_
          refine pn rfl ?_
          refine pn rfl ?_
          refine pn rfl ?_
          refine pn rfl ?_
          refine pn rfl ?_
          refine pn rfl ?_
          refine pn rfl ?_
          refine pn rfl ?_
          refine pn rfl ?_
          refine pn rfl ?_
          refine pn rfl ?_
          refine pv rfl (rPk rfl rfl) ?_
          refine pv rfl (rPk rfl rfl) ?_
          refine pv rfl (rPk rfl rfl) ?_
          refine gs_nil ?_
          refine gKeep [4, 44] rfl ?_
          refine gCondT rfl rfl ?_
          refine gSeq ?_
          refine gText (σ := wk [(0, .p)]) rfl ?_
          refine pv rfl (rAs rfl) ?_
          refine gs_nil ?_
          refine gRet ?_
          refine gEnd1 Try.results72 (resT rfl) ⟨?_, rfl⟩
          exact congrArg _ (by rw [ord_ref h0]; simp_all)
        · refine pv rfl (rFa fA61_1 rfl) ?_
          refine pv rfl (rLdN t13 rfl rfl) ?_
          refine pv rfl (rFa fA61_1 rfl) ?_
          refine pv rfl (rLdN t13 rfl rfl) ?_
          refine pv rfl (rBin rfl rfl bEq) ?_
          refine pv rfl (rMv rfl) ?_
          refine gB (e := 35) rfl (fun g35 => ?_) (fun g35 => ?_)
          · refine pv rfl (rFa fA61_0 rfl) ?_
            refine pv rfl (rLdA tA57 rfl rfl) ?_
            refine pv rfl (rFa fA61_0 rfl) ?_
            refine pv rfl (rLdA tA57 rfl rfl) ?_
            refine pf rfl eN90 (c90 s.v t.v) ?_
            refine pv rfl (rPk rfl rfl) ?_
            refine pv rfl (rPk rfl rfl) ?_
            refine pv rfl (rPk rfl rfl) ?_
            refine pv rfl (rPk rfl rfl) ?_
            refine gs_nil ?_
            refine gKeep [4, 44] rfl ?_
            refine gCond rfl (fun h3 => ?_) (fun h3 => ?_)
            · refine gSeq ?_
              refine gText (σ := wk [(0, .p)]) rfl ?_
              refine pv rfl (rAs rfl) ?_
              refine gs_nil ?_
              refine gRet ?_
              refine gEnd1 Try.results72 (resT rfl) ⟨?_, rfl⟩
              exact congrArg _ (by rw [ord_ref h0]; simp_all)
            · refine gSkip ?_
              refine gSeq ?_
              refine gText (σ := wk [(0, .p)]) rfl ?_
              refine pv rfl (rAs rfl) ?_
              refine gs_nil ?_
              refine gRet ?_
              refine gEnd1 Try.results72 (resT rfl) ⟨?_, rfl⟩
              exact congrArg _ (by rw [ord_ref h0]; simp_all)
          · refine pn rfl ?_
            refine pn rfl ?_
            refine pn rfl ?_
            refine pn rfl ?_
            refine pn rfl ?_
            refine pv rfl (rPk rfl rfl) ?_
            refine pv rfl (rPk rfl rfl) ?_
            refine pv rfl (rPk rfl rfl) ?_
            refine pv rfl (rPk rfl rfl) ?_
            refine gs_nil ?_
            refine gKeep [4, 44] rfl ?_
            refine gCondF rfl rfl ?_
            refine gSkip ?_
            refine gSeq ?_
            refine gText (σ := wk [(0, .p)]) rfl ?_
            refine pv rfl (rAs rfl) ?_
            refine gs_nil ?_
            refine gRet ?_
            refine gEnd1 Try.results72 (resT rfl) ⟨?_, rfl⟩
            exact congrArg _ (by rw [ord_ref h0]; simp_all)
      · refine pn rfl ?_
        refine pn rfl ?_
        refine pn rfl ?_
        refine pn rfl ?_
        refine pn rfl ?_
        refine pn rfl ?_
        refine pn rfl ?_
        refine pn rfl ?_
        refine pn rfl ?_
        refine pn rfl ?_
        refine pn rfl ?_
        refine pn rfl ?_
        refine pn rfl ?_
        refine pn rfl ?_
        refine pn rfl ?_
        refine pn rfl ?_
        refine pn rfl ?_
        refine pn rfl ?_
        refine pn rfl ?_
        refine pv rfl (rPk rfl rfl) ?_
        refine pv rfl (rPk rfl rfl) ?_
        refine gs_nil ?_
        refine gKeep [4, 44] rfl ?_
        refine gCondF rfl rfl ?_
        refine gSkip ?_
        refine gSeq ?_
        refine gText (σ := wk [(0, .p)]) rfl ?_
        refine pv rfl (rAs rfl) ?_
        refine gs_nil ?_
        refine gRet ?_
        refine gEnd1 Try.results72 (resT rfl) ⟨?_, rfl⟩
        exact congrArg _ (by rw [ord_ref h0]; simp_all)

set_option maxRecDepth 4000 in
theorem c20 (s : Stamp) : Pf Try.prog 20 [stampV s] [] (stampV s) := by
  refine trEnter Try.func20 rfl Try.ntmps20 (l := [(0, _)]) rfl rfl (fun w0 => ?_)
  refine gSeq ?_
  refine gText (σ := wk [(0, .p), (1, .p)]) rfl ?_
  refine pm rfl (mBox rfl rfl) (fun b1 => ?_)
  refine pm rfl (mAlloc zC61) (fun b2 => ?_)
  refine gs_nil ?_
  refine gSeq ?_
  refine gText (σ := wk [(0, .p), (1, .p), (2, .p), (3, .p), (4, .p), (5, .p)]) rfl ?_
  refine pv rfl (rFa fA35_0 rfl) ?_
  refine pv rfl (rLdA tA33 rfl rfl) ?_
  refine pv rfl (rFa fA35_1 rfl) ?_
  refine pv rfl (rLdN t13 rfl rfl) ?_
  refine pv rfl (rBu bU61 rfl rfl) ?_
  refine ps0 rfl (tSt tA61.2 rfl rfl rfl rfl rfl rfl rfl) ?_
  refine gs_nil ?_
  refine gKeep [2] rfl ?_
  refine gRet ?_
  refine gEnd1 Try.results20 (resA tA61 rfl rfl) ⟨?_, rfl⟩
  rfl
end Go.Proofs.Yteeobhehfdifnaa
