/- A part of the proof that shardPlays of chapter 10 returns true at every room and every list of deeds, and leaves its arguments as they read; no condition. -/
import Derived.Test.YteeobhehfdifnaaCb
import Derived.Test.YteeobhehfdifnaaTBc
set_option linter.unusedVariables false
set_option linter.unusedSimpArgs false
set_option linter.unusedVariables false
set_option linter.unusedSimpArgs false
namespace Go.Proofs.Yteeobhehfdifnaa
open Go TB Go.Proofs
theorem t15 : T1 Try.prog 5 := ⟨fun w => by kernel_rfl, fun w => by kernel_rfl⟩
theorem bU35 : BU Try.prog 35 [(0, 4), (4, 1)] [.int .u64 0, .int .u64 0, .int .u64 0, .int .u64 0, .int .i64 0] := bu_struct (v := .agg #[.int .u64 0, .int .u64 0, .int .u64 0, .int .u64 0, .int .i64 0]) Try.underlying35 (fun w => by kernel_rfl) rfl (fun w => by kernel_rfl)
theorem bU42 : BU Try.prog 42 [(0, 1), (1, 1), (2, 1), (3, 1)] [.string ⟨#[]⟩, .string ⟨#[]⟩, .string ⟨#[]⟩, .bool false] := bu_struct (v := .agg #[.string ⟨#[]⟩, .string ⟨#[]⟩, .string ⟨#[]⟩, .bool false]) Try.underlying42 (fun w => by kernel_rfl) rfl (fun w => by kernel_rfl)
theorem fA37_0 : FA Try.prog 37 0 0 := fun b o w => by kernel_rfl
theorem fA37_1 : FA Try.prog 37 1 5 := fun b o w => by kernel_rfl
theorem fA44_0 : FA Try.prog 44 0 0 := fun b o w => by kernel_rfl
theorem fA44_1 : FA Try.prog 44 1 4 := fun b o w => by kernel_rfl
theorem fA44_2 : FA Try.prog 44 2 5 := fun b o w => by kernel_rfl
theorem fA46_0 : FA Try.prog 46 0 0 := fun b o w => by kernel_rfl
theorem fA46_1 : FA Try.prog 46 1 4 := fun b o w => by kernel_rfl
theorem bS101_1 : BS Try.prog 101 1 5 [(0, 1)] [.int .u8 0] := bs_of (v := .int .u8 0) (sz := 1) Try.underlying101 (fun w => by kernel_rfl) (by decide) (fun w => by kernel_rfl) (by kernel_rfl) (by decide) rfl
theorem bS101_2 : BS Try.prog 101 2 5 [(0, 1), (1, 1)] [.int .u8 0, .int .u8 0] := bs_of (v := .int .u8 0) (sz := 1) Try.underlying101 (fun w => by kernel_rfl) (by decide) (fun w => by kernel_rfl) (by kernel_rfl) (by decide) rfl
set_option maxRecDepth 4000 in
theorem c36 (m : MarkD) : Pf Try.prog 36 [markV m] [] (stampV (markOf m)) := by
  refine trEnter Try.func36 rfl Try.ntmps36 (l := [(0, _)]) rfl rfl (fun w0 => ?_)
  refine gSeq ?_
  refine gText (σ := wk [(0, .p), (1, .p)]) rfl ?_
  refine pm rfl (mBox rfl rfl) (fun b1 => ?_)
  refine pm rfl (mAlloc zC35) (fun b2 => ?_)
  refine gs_nil ?_
  refine gSeq ?_
  refine gSeq ?_
  refine gText (σ := wk [(0, .p), (1, .p), (2, .p)]) rfl ?_
  refine pv rfl (rFa fA37_1 rfl) ?_
  refine pv rfl (rLdN t14 rfl rfl) ?_
  refine pv rfl (rNot rfl) ?_
  refine gs_nil ?_
  refine gCond rfl (fun h0 => ?_) (fun h0 => ?_)
  · have ho : m.own = false := by simpa using h0
    refine gSeq ?_
    refine gText (σ := wk [(0, .p), (1, .p), (2, .p)]) rfl ?_
    refine pv rfl (rFa fA37_0 rfl) ?_
    refine pv rfl (rLdA tA35 rfl rfl) ?_
    refine ps0 rfl (tSt tA35.2 rfl rfl rfl rfl rfl rfl rfl) ?_
    refine gs_nil ?_
    refine gKeep [1, 2] rfl ?_
    refine gRet ?_
    refine gEnd1 Try.results36 (resA tA35 rfl rfl) ⟨?_, rfl⟩
    unfold markOf; rw [ho]; rfl
  · have ho : m.own = true := by simpa using h0
    refine gSkip ?_
    refine gSeq ?_
    refine gText (σ := wk [(0, .p), (1, .p), (2, .p), (3, .p), (4, .p), (5, .p), (6, .p), (7, .p), (8, .p), (9, .p)]) rfl ?_
    refine pv rfl (rFa fA37_0 rfl) ?_
    refine pv rfl (rFa fA35_1 rfl) ?_
    refine pv rfl (rLdN t13 rfl rfl) ?_
    refine pv rfl (bConv Try.underlying24 Try.underlying3 rfl) ?_
    refine pv rfl (rBin rfl rfl (bRem (by decide))) ?_
    refine pv rfl (bConv Try.underlying3 Try.underlying24 rfl) ?_
    refine pv rfl (rBin rfl rfl bAdd) ?_
    refine pv rfl (rBu bU35 rfl rfl) ?_
    refine pm rfl (mAlloc zC35) (fun b3 => ?_)
    refine ps0 rfl (tSt tA35.2 rfl rfl rfl rfl rfl rfl rfl) ?_
    refine gs_nil ?_
    refine gKeep [1, 2, 3] rfl ?_
    refine gSeq ?_
    refine gSeq ?_
    refine gText (σ := wk [(0, .p)]) rfl ?_
    refine pv rfl (rAs rfl) ?_
    refine gs_nil ?_
    refine gBlock ?_
    refine gLoop (σ := Nat) (fun s => ([(1, .pointer (some ⟨b1, 0, none⟩)), (2, .pointer (some ⟨b2, 0, none⟩)), (3, .pointer (some ⟨b3, 0, none⟩)), (4, .int .i64 s)], [(b3, Obj.cells (List.toArray (mixM m.s.v (dcOf m.s.dc) s)) 35), (b2, Obj.cells #[.int .u64 0, .int .u64 0, .int .u64 0, .int .u64 0, .int .i64 0] 35), (b1, Obj.cells (List.toArray (markL m)) 37)])) (fun s => s ≤ 3) (fun s => 3 - s) ?_ (fun s hs => ?_)
    · refine gInvK (0) [1, 2, 3, 4] (by simp) rfl rfl
    · refine gSeq ?_
      refine gSeq ?_
      refine gText (σ := wk [(0, .p), (1, .p)]) rfl ?_
      refine pv rfl (rMv rfl) ?_
      refine pv rfl (rBin rfl rfl bLt) ?_
      refine gs_nil ?_
      refine gCondD rfl (fun h1 => ?_) (fun h1 => ?_)
      · have hk : s = 0 ∨ s = 1 ∨ s = 2 := by omega
        rcases hk with rfl | rfl | rfl
        all_goals
          refine gSkip ?_
          refine gSeq ?_
          refine gBlock ?_
          refine gText (σ := wk [(0, .p), (1, .p), (2, .p), (3, .p), (4, .p), (5, .p), (6, .p), (7, .p), (8, .p), (9, .p)]) rfl ?_
          refine pv rfl (rMv rfl) ?_
          refine pv rfl (rMv rfl) ?_
          refine pv rfl (rFa fA37_0 rfl) ?_
          refine pv rfl (rFa fA35_0 rfl) ?_
          refine pv rfl (rIa iA33 rfl rfl ⟨by decide, by decide⟩) ?_
          refine pv rfl (rLdN t131 rfl rfl) ?_
          refine pv rfl (rBin rfl rfl (bRem (by decide))) ?_
          refine pv rfl (rFa fA35_0 rfl) ?_
          refine pv rfl (rIa iA33 rfl rfl ⟨by decide, by decide⟩) ?_
          refine ps0 rfl (tSt t131.2 rfl rfl rfl rfl rfl rfl rfl) ?_
          refine gs_nil ?_
          refine gKeep [1, 2, 3, 4] rfl ?_
          refine gText (σ := wk [(0, .p), (1, .p), (2, .p)]) rfl ?_
          refine pv rfl (rMv rfl) ?_
          refine pv rfl (rBin rfl rfl (bAddI (by omega))) ?_
          refine pv rfl (rAs rfl) ?_
          refine gs_nil ?_
          first | refine gInvK (0 + 1) [1, 2, 3, 4] ⟨by omega, by omega⟩ rfl rfl | refine gInvK (1 + 1) [1, 2, 3, 4] ⟨by omega, by omega⟩ rfl rfl | refine gInvK (2 + 1) [1, 2, 3, 4] ⟨by omega, by omega⟩ rfl rfl
      · have hk : s = 3 := by omega
        subst hk
        have hD := dcOf_cases m.s.dc
        have hM : markOf m = ⟨(markVec m.s.v).set' (dcOf m.s.dc) (IntKind.u64.wrap (1 + (markVec m.s.v).at' (dcOf m.s.dc))), dcOf m.s.dc⟩ := by unfold markOf; rw [ho]; rfl
        rw [hM]
        generalize dcOf m.s.dc = D at hD ⊢
        rcases hD with rfl | rfl | rfl
        all_goals
          refine gExit rfl ?_
          refine gSeq ?_
          refine gD [b3] (wk [(0, .q), (1, .q), (2, .q), (3, .q), (4, .q), (5, .q), (6, .q), (7, .q), (8, .q), (9, .q), (10, .q), (11, .q), (12, .p)]) fol (by kernel_rfl) rfl (by kernel_rfl) ?_
          refine qv rfl (rFa fA35_1 rfl) ?_
          refine qv rfl (rLdN t13 rfl rfl) ?_
          refine qv rfl (rBin rfl rfl (bSubI (by decide))) ?_
          refine qv rfl (rFa fA35_1 rfl) ?_
          refine qv rfl (rLdN t13 rfl rfl) ?_
          refine qv rfl (rBin rfl rfl (bSubI (by decide))) ?_
          refine qv rfl (rFa fA35_0 rfl) ?_
          refine qv rfl (rIa iA33 rfl rfl ⟨by decide, by decide⟩) ?_
          refine qv rfl (rLdN t131 rfl rfl) ?_
          refine qv rfl (rBin rfl rfl bAdd) ?_
          refine qv rfl (rFa fA35_0 rfl) ?_
          refine qv rfl (rIa iA33 rfl rfl ⟨by decide, by decide⟩) ?_
          refine ps rfl (tSt t131.2 rfl rfl rfl rfl rfl rfl rfl) (by kernel_rfl) ?_
          refine gKeep [1, 2, 3, 4] rfl ?_
          refine gSeq ?_
          refine gText (σ := wk [(0, .p), (1, .p)]) rfl ?_
          refine pv rfl (rLdA tA35 rfl rfl) ?_
          refine ps0 rfl (tSt tA35.2 rfl rfl rfl rfl rfl rfl rfl) ?_
          refine gs_nil ?_
          refine gRet ?_
          refine gEnd1 Try.results36 (resA tA35 rfl rfl) ⟨?_, rfl⟩
          rfl

set_option maxRecDepth 4000 in
theorem c12 (m : VecD) : Pf Try.prog 12 [vecdV m] [] (vecV (vecOf m)) := by
  refine trEnter Try.func12 rfl Try.ntmps12 (l := [(0, _)]) rfl rfl (fun w0 => ?_)
  refine gSeq ?_
  refine gText (σ := wk [(0, .p), (1, .p)]) rfl ?_
  refine pm rfl (mBox rfl rfl) (fun b1 => ?_)
  refine pm rfl (mAlloc zC33) (fun b2 => ?_)
  refine gs_nil ?_
  refine gSeq ?_
  refine gSeq ?_
  refine gText (σ := wk [(0, .p), (1, .p)]) rfl ?_
  refine pv rfl (rFa fA46_1 rfl) ?_
  refine pv rfl (rLdN t14 rfl rfl) ?_
  refine gs_nil ?_
  refine gCond rfl (fun h0 => ?_) (fun h0 => ?_)
  · have ho : m.own = true := h0
    refine gSeq ?_
    refine gText (σ := wk [(0, .p)]) rfl ?_
    refine pv rfl (rAs rfl) ?_
    refine gs_nil ?_
    refine gBlock ?_
    refine gLoop (σ := Nat) (fun s => ([(1, .pointer (some ⟨b1, 0, none⟩)), (2, .pointer (some ⟨b2, 0, none⟩)), (3, .int .i64 s)], [(b2, Obj.cells #[.int .u64 0, .int .u64 0, .int .u64 0, .int .u64 0] 33), (b1, Obj.cells (List.toArray (mixV m.v s)) 46)])) (fun s => s ≤ 4) (fun s => 4 - s) ?_ (fun s hs => ?_)
    · refine gInvK (0) [1, 2, 3] (by simp) rfl (by rw [ho]; rfl)
    · refine gSeq ?_
      refine gSeq ?_
      refine gText (σ := wk [(0, .p), (1, .p)]) rfl ?_
      refine pv rfl (rMv rfl) ?_
      refine pv rfl (rBin rfl rfl bLt) ?_
      refine gs_nil ?_
      refine gCondD rfl (fun h1 => ?_) (fun h1 => ?_)
      · have hk : s = 0 ∨ s = 1 ∨ s = 2 ∨ s = 3 := by omega
        rcases hk with rfl | rfl | rfl | rfl
        all_goals
          refine gSkip ?_
          refine gSeq ?_
          refine gBlock ?_
          refine gText (σ := wk [(0, .p), (1, .p), (2, .p), (3, .p), (4, .p), (5, .p), (6, .p), (7, .p), (8, .p)]) rfl ?_
          refine pv rfl (rMv rfl) ?_
          refine pv rfl (rMv rfl) ?_
          refine pv rfl (rFa fA46_0 rfl) ?_
          refine pv rfl (rIa iA33 rfl rfl ⟨by decide, by decide⟩) ?_
          refine pv rfl (rLdN t131 rfl rfl) ?_
          refine pv rfl (rBin rfl rfl (bRem (by decide))) ?_
          refine pv rfl (rFa fA46_0 rfl) ?_
          refine pv rfl (rIa iA33 rfl rfl ⟨by decide, by decide⟩) ?_
          refine ps0 rfl (tSt t131.2 rfl rfl rfl rfl rfl rfl rfl) ?_
          refine gs_nil ?_
          refine gKeep [1, 2, 3] rfl ?_
          refine gText (σ := wk [(0, .p), (1, .p), (2, .p)]) rfl ?_
          refine pv rfl (rMv rfl) ?_
          refine pv rfl (rBin rfl rfl (bAddI (by omega))) ?_
          refine pv rfl (rAs rfl) ?_
          refine gs_nil ?_
          first | refine gInvK (0 + 1) [1, 2, 3] ⟨by omega, by omega⟩ rfl rfl | refine gInvK (1 + 1) [1, 2, 3] ⟨by omega, by omega⟩ rfl rfl | refine gInvK (2 + 1) [1, 2, 3] ⟨by omega, by omega⟩ rfl rfl | refine gInvK (3 + 1) [1, 2, 3] ⟨by omega, by omega⟩ rfl rfl
      · have hk : s = 4 := by omega
        subst hk
        refine gExit rfl ?_
        refine gSeq ?_
        refine gText (σ := wk [(0, .p), (1, .p), (2, .p)]) rfl ?_
        refine pv rfl (rFa fA46_0 rfl) ?_
        refine pv rfl (rLdA tA33 rfl rfl) ?_
        refine ps0 rfl (tSt tA33.2 rfl rfl rfl rfl rfl rfl rfl) ?_
        refine gs_nil ?_
        refine gKeep [1, 2, 3] rfl ?_
        refine gRet ?_
        refine gEnd1 Try.results12 (resA tA33 rfl rfl) ⟨?_, rfl⟩
        unfold vecOf; rw [ho]; rfl
  · have ho : m.own = false := h0
    refine gSkip ?_
    refine gSeq ?_
    refine gText (σ := wk [(0, .p), (1, .p), (2, .p)]) rfl ?_
    refine pv rfl (rFa fA46_0 rfl) ?_
    refine pv rfl (rLdA tA33 rfl rfl) ?_
    refine ps0 rfl (tSt tA33.2 rfl rfl rfl rfl rfl rfl rfl) ?_
    refine gs_nil ?_
    refine gKeep [1, 2] rfl ?_
    refine gRet ?_
    refine gEnd1 Try.results12 (resA tA33 rfl rfl) ⟨?_, rfl⟩
    unfold vecOf; rw [ho]; rfl

set_option maxRecDepth 4000 in
theorem c13 (p : PutD) : Pf Try.prog 13 [putV p] [] (writeV (writeOf p)) := by
  refine trEnter Try.func13 rfl Try.ntmps13 (l := [(0, _)]) rfl rfl (fun w0 => ?_)
  refine gSeq ?_
  refine gText (σ := wk [(0, .p), (1, .p)]) rfl ?_
  refine pm rfl (mBox rfl rfl) (fun b1 => ?_)
  refine pm rfl (mAlloc zC42) (fun b2 => ?_)
  refine gs_nil ?_
  refine gSeq ?_
  refine gSeq ?_
  refine gText (σ := wk [(0, .p), (1, .p), (2, .p)]) rfl ?_
  refine pv rfl (rFa fA44_1 rfl) ?_
  refine pv rfl (rLdN t14 rfl rfl) ?_
  refine pv rfl (rNot rfl) ?_
  refine gs_nil ?_
  refine gCond rfl (fun h0 => ?_) (fun h0 => ?_)
  · have ho : p.own = false := by simpa using h0
    refine gSeq ?_
    refine gText (σ := wk [(0, .p), (1, .p), (2, .p)]) rfl ?_
    refine pv rfl (rFa fA44_0 rfl) ?_
    refine pv rfl (rLdA tA42 rfl rfl) ?_
    refine ps0 rfl (tSt tA42.2 rfl rfl rfl rfl rfl rfl rfl) ?_
    refine gs_nil ?_
    refine gKeep [1, 2] rfl ?_
    refine gRet ?_
    refine gEnd1 Try.results13 (resA tA42 rfl rfl) ⟨?_, rfl⟩
    unfold writeOf; rw [ho]; rfl
  · have ho : p.own = true := by simpa using h0
    refine gSkip ?_
    refine gSeq ?_
    refine gCutN (σ := Nat) (fun z => ([(2, .pointer (some ⟨b2, 0, none⟩)), (3, .pointer (some ⟨z, 0, none⟩))], [(z, Obj.cells (List.toArray (writeL (preW p))) 42), (b2, Obj.cells #[.string ⟨#[]⟩, .string ⟨#[]⟩, .string ⟨#[]⟩, .bool false] 42)])) (fun z => True) ?_ (fun z hs => ?_)
    · refine gD [b1] (.one 0 .q (.one 1 .q (.one 2 .q (.one 3 .q (.one 6 .q (.one 7 .q (.one 8 .q (.one 9 .q (.one 10 .q (.one 13 .q (.one 14 .q (.one 15 .q (.one 16 .q (.one 17 .q (.one 18 .q (.one 19 .q (.one 20 .q (.one 21 .q (.one 22 .q (.one 23 .q (.one 24 .q (.alt (.one 4 .p (.alt (.one 5 .p (.alt (.one 11 .p (.alt (wk [(12, .p), (25, .q), (26, .p), (27, .p)]) (wk [(26, .p), (12, .p), (25, .q), (27, .p)]))) (wk [(26, .p), (11, .p), (12, .p), (25, .q), (27, .p)]))) (.alt (.one 11 .p (.alt (.one 5 .p (.alt (wk [(12, .p), (25, .q), (26, .p), (27, .p)]) (wk [(26, .p), (12, .p), (25, .q), (27, .p)]))) (.alt (.one 12 .p (.alt (wk [(5, .p), (25, .q), (26, .p), (27, .p)]) (wk [(26, .p), (5, .p), (25, .q), (27, .p)]))) (.one 26 .p (.alt (wk [(5, .p), (12, .p), (25, .q), (27, .p)]) (wk [(12, .p), (5, .p), (25, .q), (27, .p)])))))) (.one 26 .p (.alt (wk [(5, .p), (11, .p), (12, .p), (25, .q), (27, .p)]) (.one 11 .p (.alt (wk [(5, .p), (12, .p), (25, .q), (27, .p)]) (wk [(12, .p), (5, .p), (25, .q), (27, .p)])))))))) (.alt (.one 11 .p (.alt (.one 4 .p (.alt (.one 5 .p (.alt (wk [(12, .p), (25, .q), (26, .p), (27, .p)]) (wk [(26, .p), (12, .p), (25, .q), (27, .p)]))) (.alt (.one 12 .p (.alt (wk [(5, .p), (25, .q), (26, .p), (27, .p)]) (wk [(26, .p), (5, .p), (25, .q), (27, .p)]))) (.one 26 .p (.alt (wk [(5, .p), (12, .p), (25, .q), (27, .p)]) (wk [(12, .p), (5, .p), (25, .q), (27, .p)])))))) (.alt (.one 12 .p (.alt (.one 4 .p (.alt (wk [(5, .p), (25, .q), (26, .p), (27, .p)]) (wk [(26, .p), (5, .p), (25, .q), (27, .p)]))) (wk [(26, .p), (4, .p), (5, .p), (25, .q), (27, .p)]))) (.one 26 .p (.alt (.one 4 .p (.alt (wk [(5, .p), (12, .p), (25, .q), (27, .p)]) (wk [(12, .p), (5, .p), (25, .q), (27, .p)]))) (wk [(12, .p), (4, .p), (5, .p), (25, .q), (27, .p)])))))) (.one 26 .p (.alt (.one 4 .p (.alt (wk [(5, .p), (11, .p), (12, .p), (25, .q), (27, .p)]) (.one 11 .p (.alt (wk [(5, .p), (12, .p), (25, .q), (27, .p)]) (wk [(12, .p), (5, .p), (25, .q), (27, .p)]))))) (.one 11 .p (.alt (.one 4 .p (.alt (wk [(5, .p), (12, .p), (25, .q), (27, .p)]) (wk [(12, .p), (5, .p), (25, .q), (27, .p)]))) (wk [(12, .p), (4, .p), (5, .p), (25, .q), (27, .p)])))))))))))))))))))))))))))) fol (by kernel_rfl) rfl (by kernel_rfl) ?_
      refine qv rfl (rFa fA44_2 rfl) ?_
      refine qv rfl (rLdN t15 rfl rfl) ?_
      refine qv rfl (rBin rfl rfl (bRem (by decide))) ?_
      refine qv rfl (rBin rfl rfl bAdd) ?_
      refine qv rfl (rFa fA44_2 rfl) ?_
      refine qv rfl (rLdN t15 rfl rfl) ?_
      refine qv rfl (rBin rfl rfl (bQuo (by decide))) ?_
      refine qv rfl (rBin rfl rfl (bRem (by decide))) ?_
      refine qv rfl (rBin rfl rfl bAdd) ?_
      refine qv rfl (rFa fA44_0 rfl) ?_
      refine qv rfl (rFa fA42_2 rfl) ?_
      refine qv rfl (rLdN t19 rfl rfl) ?_
      refine qv rfl (rFa fA44_0 rfl) ?_
      refine qv rfl (rFa fA42_2 rfl) ?_
      refine qv rfl (rLdN t19 rfl rfl) ?_
      refine qv rfl (rLenS Try.underlying9 rfl) ?_
      refine qv rfl (rMin2 rfl rfl) ?_
      refine qv rfl (rCutS Try.underlying9 rfl (i := 0) (j := (min (p.w.value.size : Int) 8).toNat) (.inr ⟨rfl, rfl⟩) (.inl ⟨_, .i64, rfl, by show some (Value.int .i64 (min (p.w.value.size : Int) 8)) = _; congr 2; omega⟩) (Nat.zero_le _) (by omega)) ?_
      refine qv rfl (rFa fA44_2 rfl) ?_
      refine qv rfl (rLdN t15 rfl rfl) ?_
      refine qv rfl (rBin rfl rfl bGe) ?_
      refine gAlt ?_ ?_
      · refine pm rfl (mBs bS101_2 rfl rfl) (fun b13 => ?_)
        refine gAlt ?_ ?_
        · refine pv rfl (rBytes (xs := [98, IntKind.u8.wrap (48 + p.k.tmod 2)]) Try.underlying101 Try.underlying5 Try.underlying9 rfl rfl rfl) ?_
          refine gAlt ?_ ?_
          · refine pm rfl (mBs bS101_1 rfl rfl) (fun b20 => ?_)
            refine gAlt ?_ ?_
            · refine pv rfl (rBytes (xs := [IntKind.u8.wrap (97 + (IntKind.u8.wrap (p.k.tdiv 2)).tmod 4)]) Try.underlying101 Try.underlying5 Try.underlying9 rfl rfl rfl) ?_
              refine qv rfl (rBu bU42 rfl rfl) ?_
              refine pm rfl (mAlloc zC42) (fun b3 => ?_)
              refine ps rfl (tSt tA42.2 rfl rfl rfl rfl rfl rfl rfl) (by kernel_rfl) ?_
              refine gKeep [2, 3] rfl ?_
              refine gTo ([(b3, Obj.cells (List.toArray (writeL (preW p))) 42), (b2, Obj.cells #[.string ⟨#[]⟩, .string ⟨#[]⟩, .string ⟨#[]⟩, .bool false] 42), (b13, Obj.cells #[.int .u8 98, .int .u8 (IntKind.u8.wrap (48 + p.k.tmod 2))] 5), (b20, Obj.cells #[.int .u8 (IntKind.u8.wrap (97 + (IntKind.u8.wrap (p.k.tdiv 2)).tmod 4))] 5), (b1, Obj.cells (List.toArray (putL p)) 44)]) ?_
              refine gDrop [(b13, Obj.cells #[.int .u8 98, .int .u8 (IntKind.u8.wrap (48 + p.k.tmod 2))] 5), (b20, Obj.cells #[.int .u8 (IntKind.u8.wrap (97 + (IntKind.u8.wrap (p.k.tdiv 2)).tmod 4))] 5), (b1, Obj.cells (List.toArray (putL p)) 44)] ?_
              refine gInvK b3 [2, 3] trivial rfl rfl
            · refine pm rfl (mAlloc zC42) (fun b3 => ?_)
              refine pv rfl (rBytes (xs := [IntKind.u8.wrap (97 + (IntKind.u8.wrap (p.k.tdiv 2)).tmod 4)]) Try.underlying101 Try.underlying5 Try.underlying9 rfl rfl rfl) ?_
              refine qv rfl (rBu bU42 rfl rfl) ?_
              refine ps rfl (tSt tA42.2 rfl rfl rfl rfl rfl rfl rfl) (by kernel_rfl) ?_
              refine gKeep [2, 3] rfl ?_
              refine gTo ([(b3, Obj.cells (List.toArray (writeL (preW p))) 42), (b2, Obj.cells #[.string ⟨#[]⟩, .string ⟨#[]⟩, .string ⟨#[]⟩, .bool false] 42), (b13, Obj.cells #[.int .u8 98, .int .u8 (IntKind.u8.wrap (48 + p.k.tmod 2))] 5), (b20, Obj.cells #[.int .u8 (IntKind.u8.wrap (97 + (IntKind.u8.wrap (p.k.tdiv 2)).tmod 4))] 5), (b1, Obj.cells (List.toArray (putL p)) 44)]) ?_
              refine gDrop [(b13, Obj.cells #[.int .u8 98, .int .u8 (IntKind.u8.wrap (48 + p.k.tmod 2))] 5), (b20, Obj.cells #[.int .u8 (IntKind.u8.wrap (97 + (IntKind.u8.wrap (p.k.tdiv 2)).tmod 4))] 5), (b1, Obj.cells (List.toArray (putL p)) 44)] ?_
              refine gInvK b3 [2, 3] trivial rfl rfl
          · refine pm rfl (mAlloc zC42) (fun b3 => ?_)
            refine pm rfl (mBs bS101_1 rfl rfl) (fun b20 => ?_)
            refine pv rfl (rBytes (xs := [IntKind.u8.wrap (97 + (IntKind.u8.wrap (p.k.tdiv 2)).tmod 4)]) Try.underlying101 Try.underlying5 Try.underlying9 rfl rfl rfl) ?_
            refine qv rfl (rBu bU42 rfl rfl) ?_
            refine ps rfl (tSt tA42.2 rfl rfl rfl rfl rfl rfl rfl) (by kernel_rfl) ?_
            refine gKeep [2, 3] rfl ?_
            refine gTo ([(b3, Obj.cells (List.toArray (writeL (preW p))) 42), (b2, Obj.cells #[.string ⟨#[]⟩, .string ⟨#[]⟩, .string ⟨#[]⟩, .bool false] 42), (b13, Obj.cells #[.int .u8 98, .int .u8 (IntKind.u8.wrap (48 + p.k.tmod 2))] 5), (b20, Obj.cells #[.int .u8 (IntKind.u8.wrap (97 + (IntKind.u8.wrap (p.k.tdiv 2)).tmod 4))] 5), (b1, Obj.cells (List.toArray (putL p)) 44)]) ?_
            refine gDrop [(b13, Obj.cells #[.int .u8 98, .int .u8 (IntKind.u8.wrap (48 + p.k.tmod 2))] 5), (b20, Obj.cells #[.int .u8 (IntKind.u8.wrap (97 + (IntKind.u8.wrap (p.k.tdiv 2)).tmod 4))] 5), (b1, Obj.cells (List.toArray (putL p)) 44)] ?_
            refine gInvK b3 [2, 3] trivial rfl rfl
        · refine gAlt ?_ ?_
          · refine pm rfl (mBs bS101_1 rfl rfl) (fun b20 => ?_)
            refine gAlt ?_ ?_
            · refine pv rfl (rBytes (xs := [98, IntKind.u8.wrap (48 + p.k.tmod 2)]) Try.underlying101 Try.underlying5 Try.underlying9 rfl rfl rfl) ?_
              refine gAlt ?_ ?_
              · refine pv rfl (rBytes (xs := [IntKind.u8.wrap (97 + (IntKind.u8.wrap (p.k.tdiv 2)).tmod 4)]) Try.underlying101 Try.underlying5 Try.underlying9 rfl rfl rfl) ?_
                refine qv rfl (rBu bU42 rfl rfl) ?_
                refine pm rfl (mAlloc zC42) (fun b3 => ?_)
                refine ps rfl (tSt tA42.2 rfl rfl rfl rfl rfl rfl rfl) (by kernel_rfl) ?_
                refine gKeep [2, 3] rfl ?_
                refine gTo ([(b3, Obj.cells (List.toArray (writeL (preW p))) 42), (b2, Obj.cells #[.string ⟨#[]⟩, .string ⟨#[]⟩, .string ⟨#[]⟩, .bool false] 42), (b13, Obj.cells #[.int .u8 98, .int .u8 (IntKind.u8.wrap (48 + p.k.tmod 2))] 5), (b20, Obj.cells #[.int .u8 (IntKind.u8.wrap (97 + (IntKind.u8.wrap (p.k.tdiv 2)).tmod 4))] 5), (b1, Obj.cells (List.toArray (putL p)) 44)]) ?_
                refine gDrop [(b13, Obj.cells #[.int .u8 98, .int .u8 (IntKind.u8.wrap (48 + p.k.tmod 2))] 5), (b20, Obj.cells #[.int .u8 (IntKind.u8.wrap (97 + (IntKind.u8.wrap (p.k.tdiv 2)).tmod 4))] 5), (b1, Obj.cells (List.toArray (putL p)) 44)] ?_
                refine gInvK b3 [2, 3] trivial rfl rfl
              · refine pm rfl (mAlloc zC42) (fun b3 => ?_)
                refine pv rfl (rBytes (xs := [IntKind.u8.wrap (97 + (IntKind.u8.wrap (p.k.tdiv 2)).tmod 4)]) Try.underlying101 Try.underlying5 Try.underlying9 rfl rfl rfl) ?_
                refine qv rfl (rBu bU42 rfl rfl) ?_
                refine ps rfl (tSt tA42.2 rfl rfl rfl rfl rfl rfl rfl) (by kernel_rfl) ?_
                refine gKeep [2, 3] rfl ?_
                refine gTo ([(b3, Obj.cells (List.toArray (writeL (preW p))) 42), (b2, Obj.cells #[.string ⟨#[]⟩, .string ⟨#[]⟩, .string ⟨#[]⟩, .bool false] 42), (b13, Obj.cells #[.int .u8 98, .int .u8 (IntKind.u8.wrap (48 + p.k.tmod 2))] 5), (b20, Obj.cells #[.int .u8 (IntKind.u8.wrap (97 + (IntKind.u8.wrap (p.k.tdiv 2)).tmod 4))] 5), (b1, Obj.cells (List.toArray (putL p)) 44)]) ?_
                refine gDrop [(b13, Obj.cells #[.int .u8 98, .int .u8 (IntKind.u8.wrap (48 + p.k.tmod 2))] 5), (b20, Obj.cells #[.int .u8 (IntKind.u8.wrap (97 + (IntKind.u8.wrap (p.k.tdiv 2)).tmod 4))] 5), (b1, Obj.cells (List.toArray (putL p)) 44)] ?_
                refine gInvK b3 [2, 3] trivial rfl rfl
            · refine gAlt ?_ ?_
              · refine pv rfl (rBytes (xs := [IntKind.u8.wrap (97 + (IntKind.u8.wrap (p.k.tdiv 2)).tmod 4)]) Try.underlying101 Try.underlying5 Try.underlying9 rfl rfl rfl) ?_
                refine gAlt ?_ ?_
                · refine pv rfl (rBytes (xs := [98, IntKind.u8.wrap (48 + p.k.tmod 2)]) Try.underlying101 Try.underlying5 Try.underlying9 rfl rfl rfl) ?_
                  refine qv rfl (rBu bU42 rfl rfl) ?_
                  refine pm rfl (mAlloc zC42) (fun b3 => ?_)
                  refine ps rfl (tSt tA42.2 rfl rfl rfl rfl rfl rfl rfl) (by kernel_rfl) ?_
                  refine gKeep [2, 3] rfl ?_
                  refine gTo ([(b3, Obj.cells (List.toArray (writeL (preW p))) 42), (b2, Obj.cells #[.string ⟨#[]⟩, .string ⟨#[]⟩, .string ⟨#[]⟩, .bool false] 42), (b13, Obj.cells #[.int .u8 98, .int .u8 (IntKind.u8.wrap (48 + p.k.tmod 2))] 5), (b20, Obj.cells #[.int .u8 (IntKind.u8.wrap (97 + (IntKind.u8.wrap (p.k.tdiv 2)).tmod 4))] 5), (b1, Obj.cells (List.toArray (putL p)) 44)]) ?_
                  refine gDrop [(b13, Obj.cells #[.int .u8 98, .int .u8 (IntKind.u8.wrap (48 + p.k.tmod 2))] 5), (b20, Obj.cells #[.int .u8 (IntKind.u8.wrap (97 + (IntKind.u8.wrap (p.k.tdiv 2)).tmod 4))] 5), (b1, Obj.cells (List.toArray (putL p)) 44)] ?_
                  refine gInvK b3 [2, 3] trivial rfl rfl
                · refine pm rfl (mAlloc zC42) (fun b3 => ?_)
                  refine pv rfl (rBytes (xs := [98, IntKind.u8.wrap (48 + p.k.tmod 2)]) Try.underlying101 Try.underlying5 Try.underlying9 rfl rfl rfl) ?_
                  refine qv rfl (rBu bU42 rfl rfl) ?_
                  refine ps rfl (tSt tA42.2 rfl rfl rfl rfl rfl rfl rfl) (by kernel_rfl) ?_
                  refine gKeep [2, 3] rfl ?_
                  refine gTo ([(b3, Obj.cells (List.toArray (writeL (preW p))) 42), (b2, Obj.cells #[.string ⟨#[]⟩, .string ⟨#[]⟩, .string ⟨#[]⟩, .bool false] 42), (b13, Obj.cells #[.int .u8 98, .int .u8 (IntKind.u8.wrap (48 + p.k.tmod 2))] 5), (b20, Obj.cells #[.int .u8 (IntKind.u8.wrap (97 + (IntKind.u8.wrap (p.k.tdiv 2)).tmod 4))] 5), (b1, Obj.cells (List.toArray (putL p)) 44)]) ?_
                  refine gDrop [(b13, Obj.cells #[.int .u8 98, .int .u8 (IntKind.u8.wrap (48 + p.k.tmod 2))] 5), (b20, Obj.cells #[.int .u8 (IntKind.u8.wrap (97 + (IntKind.u8.wrap (p.k.tdiv 2)).tmod 4))] 5), (b1, Obj.cells (List.toArray (putL p)) 44)] ?_
                  refine gInvK b3 [2, 3] trivial rfl rfl
              · refine pm rfl (mAlloc zC42) (fun b3 => ?_)
                refine gAlt ?_ ?_
                · refine pv rfl (rBytes (xs := [98, IntKind.u8.wrap (48 + p.k.tmod 2)]) Try.underlying101 Try.underlying5 Try.underlying9 rfl rfl rfl) ?_
                  refine pv rfl (rBytes (xs := [IntKind.u8.wrap (97 + (IntKind.u8.wrap (p.k.tdiv 2)).tmod 4)]) Try.underlying101 Try.underlying5 Try.underlying9 rfl rfl rfl) ?_
                  refine qv rfl (rBu bU42 rfl rfl) ?_
                  refine ps rfl (tSt tA42.2 rfl rfl rfl rfl rfl rfl rfl) (by kernel_rfl) ?_
                  refine gKeep [2, 3] rfl ?_
                  refine gTo ([(b3, Obj.cells (List.toArray (writeL (preW p))) 42), (b2, Obj.cells #[.string ⟨#[]⟩, .string ⟨#[]⟩, .string ⟨#[]⟩, .bool false] 42), (b13, Obj.cells #[.int .u8 98, .int .u8 (IntKind.u8.wrap (48 + p.k.tmod 2))] 5), (b20, Obj.cells #[.int .u8 (IntKind.u8.wrap (97 + (IntKind.u8.wrap (p.k.tdiv 2)).tmod 4))] 5), (b1, Obj.cells (List.toArray (putL p)) 44)]) ?_
                  refine gDrop [(b13, Obj.cells #[.int .u8 98, .int .u8 (IntKind.u8.wrap (48 + p.k.tmod 2))] 5), (b20, Obj.cells #[.int .u8 (IntKind.u8.wrap (97 + (IntKind.u8.wrap (p.k.tdiv 2)).tmod 4))] 5), (b1, Obj.cells (List.toArray (putL p)) 44)] ?_
                  refine gInvK b3 [2, 3] trivial rfl rfl
                · refine pv rfl (rBytes (xs := [IntKind.u8.wrap (97 + (IntKind.u8.wrap (p.k.tdiv 2)).tmod 4)]) Try.underlying101 Try.underlying5 Try.underlying9 rfl rfl rfl) ?_
                  refine pv rfl (rBytes (xs := [98, IntKind.u8.wrap (48 + p.k.tmod 2)]) Try.underlying101 Try.underlying5 Try.underlying9 rfl rfl rfl) ?_
                  refine qv rfl (rBu bU42 rfl rfl) ?_
                  refine ps rfl (tSt tA42.2 rfl rfl rfl rfl rfl rfl rfl) (by kernel_rfl) ?_
                  refine gKeep [2, 3] rfl ?_
                  refine gTo ([(b3, Obj.cells (List.toArray (writeL (preW p))) 42), (b2, Obj.cells #[.string ⟨#[]⟩, .string ⟨#[]⟩, .string ⟨#[]⟩, .bool false] 42), (b13, Obj.cells #[.int .u8 98, .int .u8 (IntKind.u8.wrap (48 + p.k.tmod 2))] 5), (b20, Obj.cells #[.int .u8 (IntKind.u8.wrap (97 + (IntKind.u8.wrap (p.k.tdiv 2)).tmod 4))] 5), (b1, Obj.cells (List.toArray (putL p)) 44)]) ?_
                  refine gDrop [(b13, Obj.cells #[.int .u8 98, .int .u8 (IntKind.u8.wrap (48 + p.k.tmod 2))] 5), (b20, Obj.cells #[.int .u8 (IntKind.u8.wrap (97 + (IntKind.u8.wrap (p.k.tdiv 2)).tmod 4))] 5), (b1, Obj.cells (List.toArray (putL p)) 44)] ?_
                  refine gInvK b3 [2, 3] trivial rfl rfl
          · refine pm rfl (mAlloc zC42) (fun b3 => ?_)
            refine gAlt ?_ ?_
            · refine pv rfl (rBytes (xs := [98, IntKind.u8.wrap (48 + p.k.tmod 2)]) Try.underlying101 Try.underlying5 Try.underlying9 rfl rfl rfl) ?_
              refine pm rfl (mBs bS101_1 rfl rfl) (fun b20 => ?_)
              refine pv rfl (rBytes (xs := [IntKind.u8.wrap (97 + (IntKind.u8.wrap (p.k.tdiv 2)).tmod 4)]) Try.underlying101 Try.underlying5 Try.underlying9 rfl rfl rfl) ?_
              refine qv rfl (rBu bU42 rfl rfl) ?_
              refine ps rfl (tSt tA42.2 rfl rfl rfl rfl rfl rfl rfl) (by kernel_rfl) ?_
              refine gKeep [2, 3] rfl ?_
              refine gTo ([(b3, Obj.cells (List.toArray (writeL (preW p))) 42), (b2, Obj.cells #[.string ⟨#[]⟩, .string ⟨#[]⟩, .string ⟨#[]⟩, .bool false] 42), (b13, Obj.cells #[.int .u8 98, .int .u8 (IntKind.u8.wrap (48 + p.k.tmod 2))] 5), (b20, Obj.cells #[.int .u8 (IntKind.u8.wrap (97 + (IntKind.u8.wrap (p.k.tdiv 2)).tmod 4))] 5), (b1, Obj.cells (List.toArray (putL p)) 44)]) ?_
              refine gDrop [(b13, Obj.cells #[.int .u8 98, .int .u8 (IntKind.u8.wrap (48 + p.k.tmod 2))] 5), (b20, Obj.cells #[.int .u8 (IntKind.u8.wrap (97 + (IntKind.u8.wrap (p.k.tdiv 2)).tmod 4))] 5), (b1, Obj.cells (List.toArray (putL p)) 44)] ?_
              refine gInvK b3 [2, 3] trivial rfl rfl
            · refine pm rfl (mBs bS101_1 rfl rfl) (fun b20 => ?_)
              refine gAlt ?_ ?_
              · refine pv rfl (rBytes (xs := [98, IntKind.u8.wrap (48 + p.k.tmod 2)]) Try.underlying101 Try.underlying5 Try.underlying9 rfl rfl rfl) ?_
                refine pv rfl (rBytes (xs := [IntKind.u8.wrap (97 + (IntKind.u8.wrap (p.k.tdiv 2)).tmod 4)]) Try.underlying101 Try.underlying5 Try.underlying9 rfl rfl rfl) ?_
                refine qv rfl (rBu bU42 rfl rfl) ?_
                refine ps rfl (tSt tA42.2 rfl rfl rfl rfl rfl rfl rfl) (by kernel_rfl) ?_
                refine gKeep [2, 3] rfl ?_
                refine gTo ([(b3, Obj.cells (List.toArray (writeL (preW p))) 42), (b2, Obj.cells #[.string ⟨#[]⟩, .string ⟨#[]⟩, .string ⟨#[]⟩, .bool false] 42), (b13, Obj.cells #[.int .u8 98, .int .u8 (IntKind.u8.wrap (48 + p.k.tmod 2))] 5), (b20, Obj.cells #[.int .u8 (IntKind.u8.wrap (97 + (IntKind.u8.wrap (p.k.tdiv 2)).tmod 4))] 5), (b1, Obj.cells (List.toArray (putL p)) 44)]) ?_
                refine gDrop [(b13, Obj.cells #[.int .u8 98, .int .u8 (IntKind.u8.wrap (48 + p.k.tmod 2))] 5), (b20, Obj.cells #[.int .u8 (IntKind.u8.wrap (97 + (IntKind.u8.wrap (p.k.tdiv 2)).tmod 4))] 5), (b1, Obj.cells (List.toArray (putL p)) 44)] ?_
                refine gInvK b3 [2, 3] trivial rfl rfl
              · refine pv rfl (rBytes (xs := [IntKind.u8.wrap (97 + (IntKind.u8.wrap (p.k.tdiv 2)).tmod 4)]) Try.underlying101 Try.underlying5 Try.underlying9 rfl rfl rfl) ?_
                refine pv rfl (rBytes (xs := [98, IntKind.u8.wrap (48 + p.k.tmod 2)]) Try.underlying101 Try.underlying5 Try.underlying9 rfl rfl rfl) ?_
                refine qv rfl (rBu bU42 rfl rfl) ?_
                refine ps rfl (tSt tA42.2 rfl rfl rfl rfl rfl rfl rfl) (by kernel_rfl) ?_
                refine gKeep [2, 3] rfl ?_
                refine gTo ([(b3, Obj.cells (List.toArray (writeL (preW p))) 42), (b2, Obj.cells #[.string ⟨#[]⟩, .string ⟨#[]⟩, .string ⟨#[]⟩, .bool false] 42), (b13, Obj.cells #[.int .u8 98, .int .u8 (IntKind.u8.wrap (48 + p.k.tmod 2))] 5), (b20, Obj.cells #[.int .u8 (IntKind.u8.wrap (97 + (IntKind.u8.wrap (p.k.tdiv 2)).tmod 4))] 5), (b1, Obj.cells (List.toArray (putL p)) 44)]) ?_
                refine gDrop [(b13, Obj.cells #[.int .u8 98, .int .u8 (IntKind.u8.wrap (48 + p.k.tmod 2))] 5), (b20, Obj.cells #[.int .u8 (IntKind.u8.wrap (97 + (IntKind.u8.wrap (p.k.tdiv 2)).tmod 4))] 5), (b1, Obj.cells (List.toArray (putL p)) 44)] ?_
                refine gInvK b3 [2, 3] trivial rfl rfl
      · refine gAlt ?_ ?_
        · refine pm rfl (mBs bS101_1 rfl rfl) (fun b20 => ?_)
          refine gAlt ?_ ?_
          · refine pm rfl (mBs bS101_2 rfl rfl) (fun b13 => ?_)
            refine gAlt ?_ ?_
            · refine pv rfl (rBytes (xs := [98, IntKind.u8.wrap (48 + p.k.tmod 2)]) Try.underlying101 Try.underlying5 Try.underlying9 rfl rfl rfl) ?_
              refine gAlt ?_ ?_
              · refine pv rfl (rBytes (xs := [IntKind.u8.wrap (97 + (IntKind.u8.wrap (p.k.tdiv 2)).tmod 4)]) Try.underlying101 Try.underlying5 Try.underlying9 rfl rfl rfl) ?_
                refine qv rfl (rBu bU42 rfl rfl) ?_
                refine pm rfl (mAlloc zC42) (fun b3 => ?_)
                refine ps rfl (tSt tA42.2 rfl rfl rfl rfl rfl rfl rfl) (by kernel_rfl) ?_
                refine gKeep [2, 3] rfl ?_
                refine gTo ([(b3, Obj.cells (List.toArray (writeL (preW p))) 42), (b2, Obj.cells #[.string ⟨#[]⟩, .string ⟨#[]⟩, .string ⟨#[]⟩, .bool false] 42), (b13, Obj.cells #[.int .u8 98, .int .u8 (IntKind.u8.wrap (48 + p.k.tmod 2))] 5), (b20, Obj.cells #[.int .u8 (IntKind.u8.wrap (97 + (IntKind.u8.wrap (p.k.tdiv 2)).tmod 4))] 5), (b1, Obj.cells (List.toArray (putL p)) 44)]) ?_
                refine gDrop [(b13, Obj.cells #[.int .u8 98, .int .u8 (IntKind.u8.wrap (48 + p.k.tmod 2))] 5), (b20, Obj.cells #[.int .u8 (IntKind.u8.wrap (97 + (IntKind.u8.wrap (p.k.tdiv 2)).tmod 4))] 5), (b1, Obj.cells (List.toArray (putL p)) 44)] ?_
                refine gInvK b3 [2, 3] trivial rfl rfl
              · refine pm rfl (mAlloc zC42) (fun b3 => ?_)
                refine pv rfl (rBytes (xs := [IntKind.u8.wrap (97 + (IntKind.u8.wrap (p.k.tdiv 2)).tmod 4)]) Try.underlying101 Try.underlying5 Try.underlying9 rfl rfl rfl) ?_
                refine qv rfl (rBu bU42 rfl rfl) ?_
                refine ps rfl (tSt tA42.2 rfl rfl rfl rfl rfl rfl rfl) (by kernel_rfl) ?_
                refine gKeep [2, 3] rfl ?_
                refine gTo ([(b3, Obj.cells (List.toArray (writeL (preW p))) 42), (b2, Obj.cells #[.string ⟨#[]⟩, .string ⟨#[]⟩, .string ⟨#[]⟩, .bool false] 42), (b13, Obj.cells #[.int .u8 98, .int .u8 (IntKind.u8.wrap (48 + p.k.tmod 2))] 5), (b20, Obj.cells #[.int .u8 (IntKind.u8.wrap (97 + (IntKind.u8.wrap (p.k.tdiv 2)).tmod 4))] 5), (b1, Obj.cells (List.toArray (putL p)) 44)]) ?_
                refine gDrop [(b13, Obj.cells #[.int .u8 98, .int .u8 (IntKind.u8.wrap (48 + p.k.tmod 2))] 5), (b20, Obj.cells #[.int .u8 (IntKind.u8.wrap (97 + (IntKind.u8.wrap (p.k.tdiv 2)).tmod 4))] 5), (b1, Obj.cells (List.toArray (putL p)) 44)] ?_
                refine gInvK b3 [2, 3] trivial rfl rfl
            · refine gAlt ?_ ?_
              · refine pv rfl (rBytes (xs := [IntKind.u8.wrap (97 + (IntKind.u8.wrap (p.k.tdiv 2)).tmod 4)]) Try.underlying101 Try.underlying5 Try.underlying9 rfl rfl rfl) ?_
                refine gAlt ?_ ?_
                · refine pv rfl (rBytes (xs := [98, IntKind.u8.wrap (48 + p.k.tmod 2)]) Try.underlying101 Try.underlying5 Try.underlying9 rfl rfl rfl) ?_
                  refine qv rfl (rBu bU42 rfl rfl) ?_
                  refine pm rfl (mAlloc zC42) (fun b3 => ?_)
                  refine ps rfl (tSt tA42.2 rfl rfl rfl rfl rfl rfl rfl) (by kernel_rfl) ?_
                  refine gKeep [2, 3] rfl ?_
                  refine gTo ([(b3, Obj.cells (List.toArray (writeL (preW p))) 42), (b2, Obj.cells #[.string ⟨#[]⟩, .string ⟨#[]⟩, .string ⟨#[]⟩, .bool false] 42), (b13, Obj.cells #[.int .u8 98, .int .u8 (IntKind.u8.wrap (48 + p.k.tmod 2))] 5), (b20, Obj.cells #[.int .u8 (IntKind.u8.wrap (97 + (IntKind.u8.wrap (p.k.tdiv 2)).tmod 4))] 5), (b1, Obj.cells (List.toArray (putL p)) 44)]) ?_
                  refine gDrop [(b13, Obj.cells #[.int .u8 98, .int .u8 (IntKind.u8.wrap (48 + p.k.tmod 2))] 5), (b20, Obj.cells #[.int .u8 (IntKind.u8.wrap (97 + (IntKind.u8.wrap (p.k.tdiv 2)).tmod 4))] 5), (b1, Obj.cells (List.toArray (putL p)) 44)] ?_
                  refine gInvK b3 [2, 3] trivial rfl rfl
                · refine pm rfl (mAlloc zC42) (fun b3 => ?_)
                  refine pv rfl (rBytes (xs := [98, IntKind.u8.wrap (48 + p.k.tmod 2)]) Try.underlying101 Try.underlying5 Try.underlying9 rfl rfl rfl) ?_
                  refine qv rfl (rBu bU42 rfl rfl) ?_
                  refine ps rfl (tSt tA42.2 rfl rfl rfl rfl rfl rfl rfl) (by kernel_rfl) ?_
                  refine gKeep [2, 3] rfl ?_
                  refine gTo ([(b3, Obj.cells (List.toArray (writeL (preW p))) 42), (b2, Obj.cells #[.string ⟨#[]⟩, .string ⟨#[]⟩, .string ⟨#[]⟩, .bool false] 42), (b13, Obj.cells #[.int .u8 98, .int .u8 (IntKind.u8.wrap (48 + p.k.tmod 2))] 5), (b20, Obj.cells #[.int .u8 (IntKind.u8.wrap (97 + (IntKind.u8.wrap (p.k.tdiv 2)).tmod 4))] 5), (b1, Obj.cells (List.toArray (putL p)) 44)]) ?_
                  refine gDrop [(b13, Obj.cells #[.int .u8 98, .int .u8 (IntKind.u8.wrap (48 + p.k.tmod 2))] 5), (b20, Obj.cells #[.int .u8 (IntKind.u8.wrap (97 + (IntKind.u8.wrap (p.k.tdiv 2)).tmod 4))] 5), (b1, Obj.cells (List.toArray (putL p)) 44)] ?_
                  refine gInvK b3 [2, 3] trivial rfl rfl
              · refine pm rfl (mAlloc zC42) (fun b3 => ?_)
                refine gAlt ?_ ?_
                · refine pv rfl (rBytes (xs := [98, IntKind.u8.wrap (48 + p.k.tmod 2)]) Try.underlying101 Try.underlying5 Try.underlying9 rfl rfl rfl) ?_
                  refine pv rfl (rBytes (xs := [IntKind.u8.wrap (97 + (IntKind.u8.wrap (p.k.tdiv 2)).tmod 4)]) Try.underlying101 Try.underlying5 Try.underlying9 rfl rfl rfl) ?_
                  refine qv rfl (rBu bU42 rfl rfl) ?_
                  refine ps rfl (tSt tA42.2 rfl rfl rfl rfl rfl rfl rfl) (by kernel_rfl) ?_
                  refine gKeep [2, 3] rfl ?_
                  refine gTo ([(b3, Obj.cells (List.toArray (writeL (preW p))) 42), (b2, Obj.cells #[.string ⟨#[]⟩, .string ⟨#[]⟩, .string ⟨#[]⟩, .bool false] 42), (b13, Obj.cells #[.int .u8 98, .int .u8 (IntKind.u8.wrap (48 + p.k.tmod 2))] 5), (b20, Obj.cells #[.int .u8 (IntKind.u8.wrap (97 + (IntKind.u8.wrap (p.k.tdiv 2)).tmod 4))] 5), (b1, Obj.cells (List.toArray (putL p)) 44)]) ?_
                  refine gDrop [(b13, Obj.cells #[.int .u8 98, .int .u8 (IntKind.u8.wrap (48 + p.k.tmod 2))] 5), (b20, Obj.cells #[.int .u8 (IntKind.u8.wrap (97 + (IntKind.u8.wrap (p.k.tdiv 2)).tmod 4))] 5), (b1, Obj.cells (List.toArray (putL p)) 44)] ?_
                  refine gInvK b3 [2, 3] trivial rfl rfl
                · refine pv rfl (rBytes (xs := [IntKind.u8.wrap (97 + (IntKind.u8.wrap (p.k.tdiv 2)).tmod 4)]) Try.underlying101 Try.underlying5 Try.underlying9 rfl rfl rfl) ?_
                  refine pv rfl (rBytes (xs := [98, IntKind.u8.wrap (48 + p.k.tmod 2)]) Try.underlying101 Try.underlying5 Try.underlying9 rfl rfl rfl) ?_
                  refine qv rfl (rBu bU42 rfl rfl) ?_
                  refine ps rfl (tSt tA42.2 rfl rfl rfl rfl rfl rfl rfl) (by kernel_rfl) ?_
                  refine gKeep [2, 3] rfl ?_
                  refine gTo ([(b3, Obj.cells (List.toArray (writeL (preW p))) 42), (b2, Obj.cells #[.string ⟨#[]⟩, .string ⟨#[]⟩, .string ⟨#[]⟩, .bool false] 42), (b13, Obj.cells #[.int .u8 98, .int .u8 (IntKind.u8.wrap (48 + p.k.tmod 2))] 5), (b20, Obj.cells #[.int .u8 (IntKind.u8.wrap (97 + (IntKind.u8.wrap (p.k.tdiv 2)).tmod 4))] 5), (b1, Obj.cells (List.toArray (putL p)) 44)]) ?_
                  refine gDrop [(b13, Obj.cells #[.int .u8 98, .int .u8 (IntKind.u8.wrap (48 + p.k.tmod 2))] 5), (b20, Obj.cells #[.int .u8 (IntKind.u8.wrap (97 + (IntKind.u8.wrap (p.k.tdiv 2)).tmod 4))] 5), (b1, Obj.cells (List.toArray (putL p)) 44)] ?_
                  refine gInvK b3 [2, 3] trivial rfl rfl
          · refine gAlt ?_ ?_
            · refine pv rfl (rBytes (xs := [IntKind.u8.wrap (97 + (IntKind.u8.wrap (p.k.tdiv 2)).tmod 4)]) Try.underlying101 Try.underlying5 Try.underlying9 rfl rfl rfl) ?_
              refine gAlt ?_ ?_
              · refine pm rfl (mBs bS101_2 rfl rfl) (fun b13 => ?_)
                refine gAlt ?_ ?_
                · refine pv rfl (rBytes (xs := [98, IntKind.u8.wrap (48 + p.k.tmod 2)]) Try.underlying101 Try.underlying5 Try.underlying9 rfl rfl rfl) ?_
                  refine qv rfl (rBu bU42 rfl rfl) ?_
                  refine pm rfl (mAlloc zC42) (fun b3 => ?_)
                  refine ps rfl (tSt tA42.2 rfl rfl rfl rfl rfl rfl rfl) (by kernel_rfl) ?_
                  refine gKeep [2, 3] rfl ?_
                  refine gTo ([(b3, Obj.cells (List.toArray (writeL (preW p))) 42), (b2, Obj.cells #[.string ⟨#[]⟩, .string ⟨#[]⟩, .string ⟨#[]⟩, .bool false] 42), (b13, Obj.cells #[.int .u8 98, .int .u8 (IntKind.u8.wrap (48 + p.k.tmod 2))] 5), (b20, Obj.cells #[.int .u8 (IntKind.u8.wrap (97 + (IntKind.u8.wrap (p.k.tdiv 2)).tmod 4))] 5), (b1, Obj.cells (List.toArray (putL p)) 44)]) ?_
                  refine gDrop [(b13, Obj.cells #[.int .u8 98, .int .u8 (IntKind.u8.wrap (48 + p.k.tmod 2))] 5), (b20, Obj.cells #[.int .u8 (IntKind.u8.wrap (97 + (IntKind.u8.wrap (p.k.tdiv 2)).tmod 4))] 5), (b1, Obj.cells (List.toArray (putL p)) 44)] ?_
                  refine gInvK b3 [2, 3] trivial rfl rfl
                · refine pm rfl (mAlloc zC42) (fun b3 => ?_)
                  refine pv rfl (rBytes (xs := [98, IntKind.u8.wrap (48 + p.k.tmod 2)]) Try.underlying101 Try.underlying5 Try.underlying9 rfl rfl rfl) ?_
                  refine qv rfl (rBu bU42 rfl rfl) ?_
                  refine ps rfl (tSt tA42.2 rfl rfl rfl rfl rfl rfl rfl) (by kernel_rfl) ?_
                  refine gKeep [2, 3] rfl ?_
                  refine gTo ([(b3, Obj.cells (List.toArray (writeL (preW p))) 42), (b2, Obj.cells #[.string ⟨#[]⟩, .string ⟨#[]⟩, .string ⟨#[]⟩, .bool false] 42), (b13, Obj.cells #[.int .u8 98, .int .u8 (IntKind.u8.wrap (48 + p.k.tmod 2))] 5), (b20, Obj.cells #[.int .u8 (IntKind.u8.wrap (97 + (IntKind.u8.wrap (p.k.tdiv 2)).tmod 4))] 5), (b1, Obj.cells (List.toArray (putL p)) 44)]) ?_
                  refine gDrop [(b13, Obj.cells #[.int .u8 98, .int .u8 (IntKind.u8.wrap (48 + p.k.tmod 2))] 5), (b20, Obj.cells #[.int .u8 (IntKind.u8.wrap (97 + (IntKind.u8.wrap (p.k.tdiv 2)).tmod 4))] 5), (b1, Obj.cells (List.toArray (putL p)) 44)] ?_
                  refine gInvK b3 [2, 3] trivial rfl rfl
              · refine pm rfl (mAlloc zC42) (fun b3 => ?_)
                refine pm rfl (mBs bS101_2 rfl rfl) (fun b13 => ?_)
                refine pv rfl (rBytes (xs := [98, IntKind.u8.wrap (48 + p.k.tmod 2)]) Try.underlying101 Try.underlying5 Try.underlying9 rfl rfl rfl) ?_
                refine qv rfl (rBu bU42 rfl rfl) ?_
                refine ps rfl (tSt tA42.2 rfl rfl rfl rfl rfl rfl rfl) (by kernel_rfl) ?_
                refine gKeep [2, 3] rfl ?_
                refine gTo ([(b3, Obj.cells (List.toArray (writeL (preW p))) 42), (b2, Obj.cells #[.string ⟨#[]⟩, .string ⟨#[]⟩, .string ⟨#[]⟩, .bool false] 42), (b13, Obj.cells #[.int .u8 98, .int .u8 (IntKind.u8.wrap (48 + p.k.tmod 2))] 5), (b20, Obj.cells #[.int .u8 (IntKind.u8.wrap (97 + (IntKind.u8.wrap (p.k.tdiv 2)).tmod 4))] 5), (b1, Obj.cells (List.toArray (putL p)) 44)]) ?_
                refine gDrop [(b13, Obj.cells #[.int .u8 98, .int .u8 (IntKind.u8.wrap (48 + p.k.tmod 2))] 5), (b20, Obj.cells #[.int .u8 (IntKind.u8.wrap (97 + (IntKind.u8.wrap (p.k.tdiv 2)).tmod 4))] 5), (b1, Obj.cells (List.toArray (putL p)) 44)] ?_
                refine gInvK b3 [2, 3] trivial rfl rfl
            · refine pm rfl (mAlloc zC42) (fun b3 => ?_)
              refine gAlt ?_ ?_
              · refine pm rfl (mBs bS101_2 rfl rfl) (fun b13 => ?_)
                refine gAlt ?_ ?_
                · refine pv rfl (rBytes (xs := [98, IntKind.u8.wrap (48 + p.k.tmod 2)]) Try.underlying101 Try.underlying5 Try.underlying9 rfl rfl rfl) ?_
                  refine pv rfl (rBytes (xs := [IntKind.u8.wrap (97 + (IntKind.u8.wrap (p.k.tdiv 2)).tmod 4)]) Try.underlying101 Try.underlying5 Try.underlying9 rfl rfl rfl) ?_
                  refine qv rfl (rBu bU42 rfl rfl) ?_
                  refine ps rfl (tSt tA42.2 rfl rfl rfl rfl rfl rfl rfl) (by kernel_rfl) ?_
                  refine gKeep [2, 3] rfl ?_
                  refine gTo ([(b3, Obj.cells (List.toArray (writeL (preW p))) 42), (b2, Obj.cells #[.string ⟨#[]⟩, .string ⟨#[]⟩, .string ⟨#[]⟩, .bool false] 42), (b13, Obj.cells #[.int .u8 98, .int .u8 (IntKind.u8.wrap (48 + p.k.tmod 2))] 5), (b20, Obj.cells #[.int .u8 (IntKind.u8.wrap (97 + (IntKind.u8.wrap (p.k.tdiv 2)).tmod 4))] 5), (b1, Obj.cells (List.toArray (putL p)) 44)]) ?_
                  refine gDrop [(b13, Obj.cells #[.int .u8 98, .int .u8 (IntKind.u8.wrap (48 + p.k.tmod 2))] 5), (b20, Obj.cells #[.int .u8 (IntKind.u8.wrap (97 + (IntKind.u8.wrap (p.k.tdiv 2)).tmod 4))] 5), (b1, Obj.cells (List.toArray (putL p)) 44)] ?_
                  refine gInvK b3 [2, 3] trivial rfl rfl
                · refine pv rfl (rBytes (xs := [IntKind.u8.wrap (97 + (IntKind.u8.wrap (p.k.tdiv 2)).tmod 4)]) Try.underlying101 Try.underlying5 Try.underlying9 rfl rfl rfl) ?_
                  refine pv rfl (rBytes (xs := [98, IntKind.u8.wrap (48 + p.k.tmod 2)]) Try.underlying101 Try.underlying5 Try.underlying9 rfl rfl rfl) ?_
                  refine qv rfl (rBu bU42 rfl rfl) ?_
                  refine ps rfl (tSt tA42.2 rfl rfl rfl rfl rfl rfl rfl) (by kernel_rfl) ?_
                  refine gKeep [2, 3] rfl ?_
                  refine gTo ([(b3, Obj.cells (List.toArray (writeL (preW p))) 42), (b2, Obj.cells #[.string ⟨#[]⟩, .string ⟨#[]⟩, .string ⟨#[]⟩, .bool false] 42), (b13, Obj.cells #[.int .u8 98, .int .u8 (IntKind.u8.wrap (48 + p.k.tmod 2))] 5), (b20, Obj.cells #[.int .u8 (IntKind.u8.wrap (97 + (IntKind.u8.wrap (p.k.tdiv 2)).tmod 4))] 5), (b1, Obj.cells (List.toArray (putL p)) 44)]) ?_
                  refine gDrop [(b13, Obj.cells #[.int .u8 98, .int .u8 (IntKind.u8.wrap (48 + p.k.tmod 2))] 5), (b20, Obj.cells #[.int .u8 (IntKind.u8.wrap (97 + (IntKind.u8.wrap (p.k.tdiv 2)).tmod 4))] 5), (b1, Obj.cells (List.toArray (putL p)) 44)] ?_
                  refine gInvK b3 [2, 3] trivial rfl rfl
              · refine pv rfl (rBytes (xs := [IntKind.u8.wrap (97 + (IntKind.u8.wrap (p.k.tdiv 2)).tmod 4)]) Try.underlying101 Try.underlying5 Try.underlying9 rfl rfl rfl) ?_
                refine pm rfl (mBs bS101_2 rfl rfl) (fun b13 => ?_)
                refine pv rfl (rBytes (xs := [98, IntKind.u8.wrap (48 + p.k.tmod 2)]) Try.underlying101 Try.underlying5 Try.underlying9 rfl rfl rfl) ?_
                refine qv rfl (rBu bU42 rfl rfl) ?_
                refine ps rfl (tSt tA42.2 rfl rfl rfl rfl rfl rfl rfl) (by kernel_rfl) ?_
                refine gKeep [2, 3] rfl ?_
                refine gTo ([(b3, Obj.cells (List.toArray (writeL (preW p))) 42), (b2, Obj.cells #[.string ⟨#[]⟩, .string ⟨#[]⟩, .string ⟨#[]⟩, .bool false] 42), (b13, Obj.cells #[.int .u8 98, .int .u8 (IntKind.u8.wrap (48 + p.k.tmod 2))] 5), (b20, Obj.cells #[.int .u8 (IntKind.u8.wrap (97 + (IntKind.u8.wrap (p.k.tdiv 2)).tmod 4))] 5), (b1, Obj.cells (List.toArray (putL p)) 44)]) ?_
                refine gDrop [(b13, Obj.cells #[.int .u8 98, .int .u8 (IntKind.u8.wrap (48 + p.k.tmod 2))] 5), (b20, Obj.cells #[.int .u8 (IntKind.u8.wrap (97 + (IntKind.u8.wrap (p.k.tdiv 2)).tmod 4))] 5), (b1, Obj.cells (List.toArray (putL p)) 44)] ?_
                refine gInvK b3 [2, 3] trivial rfl rfl
        · refine pm rfl (mAlloc zC42) (fun b3 => ?_)
          refine gAlt ?_ ?_
          · refine pm rfl (mBs bS101_2 rfl rfl) (fun b13 => ?_)
            refine gAlt ?_ ?_
            · refine pv rfl (rBytes (xs := [98, IntKind.u8.wrap (48 + p.k.tmod 2)]) Try.underlying101 Try.underlying5 Try.underlying9 rfl rfl rfl) ?_
              refine pm rfl (mBs bS101_1 rfl rfl) (fun b20 => ?_)
              refine pv rfl (rBytes (xs := [IntKind.u8.wrap (97 + (IntKind.u8.wrap (p.k.tdiv 2)).tmod 4)]) Try.underlying101 Try.underlying5 Try.underlying9 rfl rfl rfl) ?_
              refine qv rfl (rBu bU42 rfl rfl) ?_
              refine ps rfl (tSt tA42.2 rfl rfl rfl rfl rfl rfl rfl) (by kernel_rfl) ?_
              refine gKeep [2, 3] rfl ?_
              refine gTo ([(b3, Obj.cells (List.toArray (writeL (preW p))) 42), (b2, Obj.cells #[.string ⟨#[]⟩, .string ⟨#[]⟩, .string ⟨#[]⟩, .bool false] 42), (b13, Obj.cells #[.int .u8 98, .int .u8 (IntKind.u8.wrap (48 + p.k.tmod 2))] 5), (b20, Obj.cells #[.int .u8 (IntKind.u8.wrap (97 + (IntKind.u8.wrap (p.k.tdiv 2)).tmod 4))] 5), (b1, Obj.cells (List.toArray (putL p)) 44)]) ?_
              refine gDrop [(b13, Obj.cells #[.int .u8 98, .int .u8 (IntKind.u8.wrap (48 + p.k.tmod 2))] 5), (b20, Obj.cells #[.int .u8 (IntKind.u8.wrap (97 + (IntKind.u8.wrap (p.k.tdiv 2)).tmod 4))] 5), (b1, Obj.cells (List.toArray (putL p)) 44)] ?_
              refine gInvK b3 [2, 3] trivial rfl rfl
            · refine pm rfl (mBs bS101_1 rfl rfl) (fun b20 => ?_)
              refine gAlt ?_ ?_
              · refine pv rfl (rBytes (xs := [98, IntKind.u8.wrap (48 + p.k.tmod 2)]) Try.underlying101 Try.underlying5 Try.underlying9 rfl rfl rfl) ?_
                refine pv rfl (rBytes (xs := [IntKind.u8.wrap (97 + (IntKind.u8.wrap (p.k.tdiv 2)).tmod 4)]) Try.underlying101 Try.underlying5 Try.underlying9 rfl rfl rfl) ?_
                refine qv rfl (rBu bU42 rfl rfl) ?_
                refine ps rfl (tSt tA42.2 rfl rfl rfl rfl rfl rfl rfl) (by kernel_rfl) ?_
                refine gKeep [2, 3] rfl ?_
                refine gTo ([(b3, Obj.cells (List.toArray (writeL (preW p))) 42), (b2, Obj.cells #[.string ⟨#[]⟩, .string ⟨#[]⟩, .string ⟨#[]⟩, .bool false] 42), (b13, Obj.cells #[.int .u8 98, .int .u8 (IntKind.u8.wrap (48 + p.k.tmod 2))] 5), (b20, Obj.cells #[.int .u8 (IntKind.u8.wrap (97 + (IntKind.u8.wrap (p.k.tdiv 2)).tmod 4))] 5), (b1, Obj.cells (List.toArray (putL p)) 44)]) ?_
                refine gDrop [(b13, Obj.cells #[.int .u8 98, .int .u8 (IntKind.u8.wrap (48 + p.k.tmod 2))] 5), (b20, Obj.cells #[.int .u8 (IntKind.u8.wrap (97 + (IntKind.u8.wrap (p.k.tdiv 2)).tmod 4))] 5), (b1, Obj.cells (List.toArray (putL p)) 44)] ?_
                refine gInvK b3 [2, 3] trivial rfl rfl
              · refine pv rfl (rBytes (xs := [IntKind.u8.wrap (97 + (IntKind.u8.wrap (p.k.tdiv 2)).tmod 4)]) Try.underlying101 Try.underlying5 Try.underlying9 rfl rfl rfl) ?_
                refine pv rfl (rBytes (xs := [98, IntKind.u8.wrap (48 + p.k.tmod 2)]) Try.underlying101 Try.underlying5 Try.underlying9 rfl rfl rfl) ?_
                refine qv rfl (rBu bU42 rfl rfl) ?_
                refine ps rfl (tSt tA42.2 rfl rfl rfl rfl rfl rfl rfl) (by kernel_rfl) ?_
                refine gKeep [2, 3] rfl ?_
                refine gTo ([(b3, Obj.cells (List.toArray (writeL (preW p))) 42), (b2, Obj.cells #[.string ⟨#[]⟩, .string ⟨#[]⟩, .string ⟨#[]⟩, .bool false] 42), (b13, Obj.cells #[.int .u8 98, .int .u8 (IntKind.u8.wrap (48 + p.k.tmod 2))] 5), (b20, Obj.cells #[.int .u8 (IntKind.u8.wrap (97 + (IntKind.u8.wrap (p.k.tdiv 2)).tmod 4))] 5), (b1, Obj.cells (List.toArray (putL p)) 44)]) ?_
                refine gDrop [(b13, Obj.cells #[.int .u8 98, .int .u8 (IntKind.u8.wrap (48 + p.k.tmod 2))] 5), (b20, Obj.cells #[.int .u8 (IntKind.u8.wrap (97 + (IntKind.u8.wrap (p.k.tdiv 2)).tmod 4))] 5), (b1, Obj.cells (List.toArray (putL p)) 44)] ?_
                refine gInvK b3 [2, 3] trivial rfl rfl
          · refine pm rfl (mBs bS101_1 rfl rfl) (fun b20 => ?_)
            refine gAlt ?_ ?_
            · refine pm rfl (mBs bS101_2 rfl rfl) (fun b13 => ?_)
              refine gAlt ?_ ?_
              · refine pv rfl (rBytes (xs := [98, IntKind.u8.wrap (48 + p.k.tmod 2)]) Try.underlying101 Try.underlying5 Try.underlying9 rfl rfl rfl) ?_
                refine pv rfl (rBytes (xs := [IntKind.u8.wrap (97 + (IntKind.u8.wrap (p.k.tdiv 2)).tmod 4)]) Try.underlying101 Try.underlying5 Try.underlying9 rfl rfl rfl) ?_
                refine qv rfl (rBu bU42 rfl rfl) ?_
                refine ps rfl (tSt tA42.2 rfl rfl rfl rfl rfl rfl rfl) (by kernel_rfl) ?_
                refine gKeep [2, 3] rfl ?_
                refine gTo ([(b3, Obj.cells (List.toArray (writeL (preW p))) 42), (b2, Obj.cells #[.string ⟨#[]⟩, .string ⟨#[]⟩, .string ⟨#[]⟩, .bool false] 42), (b13, Obj.cells #[.int .u8 98, .int .u8 (IntKind.u8.wrap (48 + p.k.tmod 2))] 5), (b20, Obj.cells #[.int .u8 (IntKind.u8.wrap (97 + (IntKind.u8.wrap (p.k.tdiv 2)).tmod 4))] 5), (b1, Obj.cells (List.toArray (putL p)) 44)]) ?_
                refine gDrop [(b13, Obj.cells #[.int .u8 98, .int .u8 (IntKind.u8.wrap (48 + p.k.tmod 2))] 5), (b20, Obj.cells #[.int .u8 (IntKind.u8.wrap (97 + (IntKind.u8.wrap (p.k.tdiv 2)).tmod 4))] 5), (b1, Obj.cells (List.toArray (putL p)) 44)] ?_
                refine gInvK b3 [2, 3] trivial rfl rfl
              · refine pv rfl (rBytes (xs := [IntKind.u8.wrap (97 + (IntKind.u8.wrap (p.k.tdiv 2)).tmod 4)]) Try.underlying101 Try.underlying5 Try.underlying9 rfl rfl rfl) ?_
                refine pv rfl (rBytes (xs := [98, IntKind.u8.wrap (48 + p.k.tmod 2)]) Try.underlying101 Try.underlying5 Try.underlying9 rfl rfl rfl) ?_
                refine qv rfl (rBu bU42 rfl rfl) ?_
                refine ps rfl (tSt tA42.2 rfl rfl rfl rfl rfl rfl rfl) (by kernel_rfl) ?_
                refine gKeep [2, 3] rfl ?_
                refine gTo ([(b3, Obj.cells (List.toArray (writeL (preW p))) 42), (b2, Obj.cells #[.string ⟨#[]⟩, .string ⟨#[]⟩, .string ⟨#[]⟩, .bool false] 42), (b13, Obj.cells #[.int .u8 98, .int .u8 (IntKind.u8.wrap (48 + p.k.tmod 2))] 5), (b20, Obj.cells #[.int .u8 (IntKind.u8.wrap (97 + (IntKind.u8.wrap (p.k.tdiv 2)).tmod 4))] 5), (b1, Obj.cells (List.toArray (putL p)) 44)]) ?_
                refine gDrop [(b13, Obj.cells #[.int .u8 98, .int .u8 (IntKind.u8.wrap (48 + p.k.tmod 2))] 5), (b20, Obj.cells #[.int .u8 (IntKind.u8.wrap (97 + (IntKind.u8.wrap (p.k.tdiv 2)).tmod 4))] 5), (b1, Obj.cells (List.toArray (putL p)) 44)] ?_
                refine gInvK b3 [2, 3] trivial rfl rfl
            · refine pv rfl (rBytes (xs := [IntKind.u8.wrap (97 + (IntKind.u8.wrap (p.k.tdiv 2)).tmod 4)]) Try.underlying101 Try.underlying5 Try.underlying9 rfl rfl rfl) ?_
              refine pm rfl (mBs bS101_2 rfl rfl) (fun b13 => ?_)
              refine pv rfl (rBytes (xs := [98, IntKind.u8.wrap (48 + p.k.tmod 2)]) Try.underlying101 Try.underlying5 Try.underlying9 rfl rfl rfl) ?_
              refine qv rfl (rBu bU42 rfl rfl) ?_
              refine ps rfl (tSt tA42.2 rfl rfl rfl rfl rfl rfl rfl) (by kernel_rfl) ?_
              refine gKeep [2, 3] rfl ?_
              refine gTo ([(b3, Obj.cells (List.toArray (writeL (preW p))) 42), (b2, Obj.cells #[.string ⟨#[]⟩, .string ⟨#[]⟩, .string ⟨#[]⟩, .bool false] 42), (b13, Obj.cells #[.int .u8 98, .int .u8 (IntKind.u8.wrap (48 + p.k.tmod 2))] 5), (b20, Obj.cells #[.int .u8 (IntKind.u8.wrap (97 + (IntKind.u8.wrap (p.k.tdiv 2)).tmod 4))] 5), (b1, Obj.cells (List.toArray (putL p)) 44)]) ?_
              refine gDrop [(b13, Obj.cells #[.int .u8 98, .int .u8 (IntKind.u8.wrap (48 + p.k.tmod 2))] 5), (b20, Obj.cells #[.int .u8 (IntKind.u8.wrap (97 + (IntKind.u8.wrap (p.k.tdiv 2)).tmod 4))] 5), (b1, Obj.cells (List.toArray (putL p)) 44)] ?_
              refine gInvK b3 [2, 3] trivial rfl rfl
    · refine gSeq ?_
      refine gSeq ?_
      refine gText (σ := wk [(0, .p), (1, .p)]) rfl ?_
      refine pv rfl (rFa fA42_3 rfl) ?_
      refine pv rfl (rLdN t14 rfl rfl) ?_
      refine gs_nil ?_
      refine gCond rfl (fun h1 => ?_) (fun h1 => ?_)
      · have hk : p.k ≥ 224 := of_decide_eq_true h1
        refine gText (σ := wk [(0, .p), (1, .p)]) rfl ?_
        refine pv rfl (rFa fA42_2 rfl) ?_
        refine ps0 rfl (tSt t19.2 rfl rfl rfl rfl rfl rfl rfl) ?_
        refine gs_nil ?_
        refine gSeq ?_
        refine gText (σ := wk [(0, .p), (1, .p)]) rfl ?_
        refine pv rfl (rLdA tA42 rfl rfl) ?_
        refine ps0 rfl (tSt tA42.2 rfl rfl rfl rfl rfl rfl rfl) ?_
        refine gs_nil ?_
        refine gKeep [2] rfl ?_
        refine gRet ?_
        refine gEnd1 Try.results13 (resA tA42 rfl rfl) ⟨?_, rfl⟩
        unfold writeOf; rw [ho, if_pos rfl, if_pos hk]; simp only [preW]; rfl
      · have hk : ¬ p.k ≥ 224 := of_decide_eq_false h1
        refine gSkip ?_
        refine gSeq ?_
        refine gText (σ := wk [(0, .p), (1, .p)]) rfl ?_
        refine pv rfl (rLdA tA42 rfl rfl) ?_
        refine ps0 rfl (tSt tA42.2 rfl rfl rfl rfl rfl rfl rfl) ?_
        refine gs_nil ?_
        refine gKeep [2] rfl ?_
        refine gRet ?_
        refine gEnd1 Try.results13 (resA tA42 rfl rfl) ⟨?_, rfl⟩
        unfold writeOf; rw [ho, if_pos rfl, if_neg hk]; rfl
end Go.Proofs.Yteeobhehfdifnaa
