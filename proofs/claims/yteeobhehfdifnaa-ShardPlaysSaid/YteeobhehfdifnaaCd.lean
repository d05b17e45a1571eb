/- A part of the proof that shardPlays of chapter 10 returns true at every room and every list of deeds, and leaves its arguments as they read; no condition. -/
import Derived.Test.YteeobhehfdifnaaC9
import Derived.Test.YteeobhehfdifnaaTBc
set_option linter.unusedVariables false
set_option linter.unusedSimpArgs false
set_option linter.unusedVariables false
set_option linter.unusedSimpArgs false
namespace Go.Proofs.Yteeobhehfdifnaa
open Go TB Go.Proofs
theorem bS49_1 : BS Try.prog 49 1 42 [(0, 4)] [.string ⟨#[]⟩, .string ⟨#[]⟩, .string ⟨#[]⟩, .bool false] := bs_of (v := .agg #[.string ⟨#[]⟩, .string ⟨#[]⟩, .string ⟨#[]⟩, .bool false]) (sz := 4) Try.underlying49 (fun w => by kernel_rfl) (by decide) (fun w => by kernel_rfl) (by kernel_rfl) (by decide) rfl
theorem tA44 : TA Try.prog 44 6 := ⟨fun w => by kernel_rfl, fun w => by kernel_rfl⟩
theorem eN13 : EN Try.prog 13 := fun args w => by kernel_rfl
theorem iS38 : IS Try.prog 38 6 := ⟨_, Try.underlying38, fun w => by kernel_rfl⟩
theorem uS38 : ∃ e, Try.prog.underlying 38 = some (.slice e) := ⟨_, Try.underlying38⟩
theorem zC44 : ZC Try.prog 44 [.string ⟨#[]⟩, .string ⟨#[]⟩, .string ⟨#[]⟩, .bool false, .bool false, .int .u8 0] := fun w => ⟨.agg #[.string ⟨#[]⟩, .string ⟨#[]⟩, .string ⟨#[]⟩, .bool false, .bool false, .int .u8 0], by kernel_rfl, rfl⟩
set_option maxRecDepth 4000 in
theorem c37 (p : Option Addr) (cap0 : Nat) (ps : List PutD) (most : Nat) (whole : Bool) (R : HL) (hl : Lies R p (putsL ps)) (hlen : ps.length ≤ 9223372036854775807) (hmo : most ≤ 1000) : Tr Try.prog 37 [.slice p ps.length cap0, .int .i64 (most : Nat), .bool whole] R [] (fun u L' => ∃ q cap, u = .slice q (wsGo most whole ps []).length cap ∧ Row 42 4 (wsGo most whole ps []).length (writesL (wsGo most whole ps [])) u L') := by
  refine trEnter Try.func37 rfl Try.ntmps37 (l := [(0, _), (1, _), (2, _)]) rfl rfl (fun w0 => ?_)
  refine gSeq ?_
  refine gText (σ := wk [(0, .p)]) rfl ?_
  refine pv rfl (rAs rfl) ?_
  refine gs_nil ?_
  refine gSeq ?_
  refine gText (σ := wk [(0, .p)]) rfl ?_
  refine pv rfl (rAs rfl) ?_
  refine gs_nil ?_
  refine gSeq ?_
  refine gSeq ?_
  refine gText (σ := wk [(0, .p)]) rfl ?_
  refine pv rfl (rAs rfl) ?_
  refine gs_nil ?_
  refine gBlock ?_
  refine gLoop (σ := WG) (fun z => ([(0, .slice p ps.length cap0), (1, .int .i64 (most : Nat)), (2, .bool whole), (7, .slice z.q z.out.length z.cap), (8, .int .i64 (z.i : Nat))], z.Lr)) (fun z => z.i ≤ ps.length ∧ z.out.length ≤ most ∧ Row 42 4 z.out.length (writesL z.out) (.slice z.q z.out.length z.cap) z.Lr ∧ wsGo most whole (ps.drop z.i) z.out = wsGo most whole ps []) (fun z => ps.length - z.i) ?_ (fun z hs => ?_)
  · refine gInvK (⟨0, [], none, 0, []⟩) [0, 1, 2, 7, 8] ⟨Nat.zero_le _, Nat.zero_le _, Row.nil _ _, rfl⟩ rfl rfl
  · obtain ⟨i, out, q, cap, Lr⟩ := z
    obtain ⟨hi, ho, hrow, hgo⟩ := hs
    simp only at hi ho hrow hgo ⊢
    refine gSeq ?_
    refine gSeq ?_
    refine gText (σ := wk [(0, .p), (1, .p), (2, .p), (3, .p), (4, .p), (5, .p), (6, .p), (7, .p), (8, .p), (9, .p)]) rfl ?_
    refine pv rfl (rMv rfl) ?_
    refine pv rfl (rMv rfl) ?_
    refine pv rfl (rLen uS38 rfl) ?_
    refine pv rfl (rBin rfl rfl bLt) ?_
    refine pv rfl (rMv rfl) ?_
    refine gB (e := 17) rfl (fun g17 => ?_) (fun g17 => ?_)
    · have hin : i < ps.length := by have := of_decide_eq_true g17; omega
      have hx := List.getElem?_eq_getElem hin
      generalize ps[i] = x at hx
      obtain ⟨b, o, cl, E, fr, rfl, hm, hv⟩ := hl.at putL_len hx (by decide)
      refine pv rfl (rMv rfl) ?_
      refine pv rfl (rLen uS49 rfl) ?_
      refine pv rfl (rMv rfl) ?_
      refine pv rfl (rBin rfl rfl bLt) ?_
      refine pv rfl (rPk rfl rfl) ?_
      refine gs_nil ?_
      refine gKeep [0, 1, 2, 7, 8, 22] rfl ?_
      refine gCondD rfl (fun h0 => ?_) (fun h0 => ?_)
      · have hlt : out.length < most := by omega
        refine gSkip ?_
        refine gSeq ?_
        refine gBlock ?_
        refine gSeq ?_
        refine gText (σ := wk [(0, .p), (1, .p), (2, .p), (3, .p), (4, .p), (5, .p)]) rfl ?_
        refine pv rfl (rMv rfl) ?_
        refine pv rfl (rMv rfl) ?_
        refine pv rfl (rIs iS38 rfl rfl ⟨by omega, by omega⟩) ?_
        refine pv rfl (rLdAm tA44 rfl (List.mem_append_right _ hm) (vs := putL x) rfl (fun j v h => hv j v h)) ?_
        refine pm rfl (mAlloc zC44) (fun b9 => ?_)
        refine ps0 rfl (tSt tA44.2 rfl rfl rfl rfl rfl rfl rfl) ?_
        refine gs_nil ?_
        refine gKeep [0, 1, 2, 7, 8, 9] rfl ?_
        refine gSeq ?_
        refine gSeq ?_
        refine gText (σ := wk [(0, .p)]) rfl ?_
        refine pv rfl (rMv rfl) ?_
        refine gs_nil ?_
        refine gCond rfl (fun h1 => ?_) (fun h1 => ?_)
        · subst h1
          obtain ⟨w, hw⟩ : ∃ w, writeOf { x with own := true } = w := ⟨_, rfl⟩
          refine gText (σ := wk [(0, .p), (1, .p)]) rfl ?_
          refine pv rfl (rFa fA44_1 rfl) ?_
          refine ps0 rfl (tSt t14.2 rfl rfl rfl rfl rfl rfl rfl) ?_
          refine gs_nil ?_
          refine gSeq ?_
          refine gText (σ := wk [(0, .p), (1, .p), (2, .p), (3, .p)]) rfl ?_
          refine pv rfl (rLdA tA44 rfl rfl) ?_
          refine pf rfl eN13 (hw ▸ c13 { x with own := true }) ?_
          refine pm rfl (mAlloc zC42) (fun b10 => ?_)
          refine ps0 rfl (tSt tA42.2 rfl rfl rfl rfl rfl rfl rfl) ?_
          refine gs_nil ?_
          refine gKeep [0, 1, 2, 7, 8, 10] rfl ?_
          refine gSeq ?_
          refine gText (σ := wk [(0, .p)]) rfl ?_
          refine pv rfl (rAs rfl) ?_
          refine gs_nil ?_
          refine gSeq ?_
          refine gSeq ?_
          refine gText (σ := wk [(0, .p)]) rfl ?_
          refine pv rfl (rAs rfl) ?_
          refine gs_nil ?_
          refine gBlock ?_
          refine gLoop (σ := Nat) (fun k => ([(0, .slice (some ⟨b, o, none⟩) ps.length cap0), (1, .int .i64 (most : Nat)), (2, .bool true), (7, .slice q out.length cap), (8, .int .i64 (i : Nat)), (10, .pointer (some ⟨b10, 0, none⟩)), (11, .bool ((out.take k).any (sameW w))), (12, .int .i64 (k : Nat))], (b10, Obj.cells (List.toArray (writeL w)) 42) :: (b9, Obj.cells (List.toArray (putL { x with own := true })) 44) :: Lr)) (fun k => k ≤ out.length) (fun k => out.length - k) ?_ (fun k hs => ?_)
          · refine gInvK (0) [0, 1, 2, 7, 8, 10, 11, 12] (Nat.zero_le _) rfl rfl
          · refine gSeq ?_
            refine gSeq ?_
            refine gText (σ := wk [(0, .p), (1, .p), (2, .p), (3, .p)]) rfl ?_
            refine pv rfl (rMv rfl) ?_
            refine pv rfl (rMv rfl) ?_
            refine pv rfl (rLen uS49 rfl) ?_
            refine pv rfl (rBin rfl rfl bLt) ?_
            refine gs_nil ?_
            refine gCondD rfl (fun h2 => ?_) (fun h2 => ?_)
            · have hkl : k < out.length := by omega
              have hy := List.getElem?_eq_getElem hkl
              generalize out[k] = y at hy
              obtain ⟨gg, cap2, T, he, rfl, hnc, hcm, hT⟩ := hrow.some' (by omega)
              cases he
              refine gSkip ?_
              refine gSeq ?_
              refine gBlock ?_
              refine gD [b10, gg] (wk [(0, .q), (1, .q), (2, .q), (3, .q), (4, .q), (5, .q), (6, .q), (7, .q), (8, .q), (9, .q), (10, .q), (11, .q), (12, .q), (13, .q), (14, .q), (15, .q), (16, .q), (17, .q), (18, .q), (19, .q), (20, .q), (21, .q)]) fol (by kernel_rfl) rfl (by kernel_rfl) ?_
              refine qv rfl (rMv rfl) ?_
              refine qv rfl (rMv rfl) ?_
              refine gB (e := 40) rfl (fun g40 => ?_) (fun g40 => ?_)
              · refine qn rfl ?_
                refine qn rfl ?_
                refine qn rfl ?_
                refine qn rfl ?_
                refine qn rfl ?_
                refine qn rfl ?_
                refine qn rfl ?_
                refine qn rfl ?_
                refine qn rfl ?_
                refine qn rfl ?_
                refine qn rfl ?_
                refine qn rfl ?_
                refine qn rfl ?_
                refine qn rfl ?_
                refine qn rfl ?_
                refine qn rfl ?_
                refine qn rfl ?_
                refine qn rfl ?_
                refine qv rfl (rPk rfl rfl) ?_
                refine qv rfl (rAs rfl) ?_
                refine gs_nil ?_
                refine gKeep [0, 1, 2, 7, 8, 10, 11, 12] rfl ?_
                refine gText (σ := wk [(0, .p), (1, .p), (2, .p)]) rfl ?_
                refine pv rfl (rMv rfl) ?_
                refine pv rfl (rBin rfl rfl (bAddI (by omega))) ?_
                refine pv rfl (rAs rfl) ?_
                refine gs_nil ?_
                have hst := any_step (f := sameW w) hy
                refine gVN (u := .bool ((out.take (k + 1)).any (sameW w))) 11 rfl (by rw [hst]; first | (rw [g40]; rfl) | (rw [g40]; simp [sameW, g49]; done) | (rw [g40]; simp [sameW, of_decide_eq_true g49]; done) | (rw [g40]; simp [sameW, of_decide_eq_false g49]; done)) ?_
                refine gInvK (k + 1) [0, 1, 2, 7, 8, 10, 11, 12] ⟨by omega, by omega⟩ rfl rfl
              · refine qv rfl (rMv rfl) ?_
                refine qv rfl (rMv rfl) ?_
                refine qv rfl (rIs iS49 rfl rfl ⟨by omega, by omega⟩) ?_
                refine qv rfl (rFa fA42_0 rfl) ?_
                refine qv rfl (rLd1m t19 rfl (List.mem_append_left _ (List.mem_cons_of_mem _ (List.mem_singleton.2 rfl))) (writes_cell hy 0 _ rfl)) ?_
                refine qv rfl (rFa fA42_0 rfl) ?_
                refine qv rfl (rLdN t19 rfl rfl) ?_
                refine qv rfl (rBin rfl rfl bEqS) ?_
                refine qv rfl (rMv rfl) ?_
                refine gB (e := 49) rfl (fun g49 => ?_) (fun g49 => ?_)
                · refine qv rfl (rMv rfl) ?_
                  refine qv rfl (rMv rfl) ?_
                  refine qv rfl (rIs iS49 rfl rfl ⟨by omega, by omega⟩) ?_
                  refine qv rfl (rFa fA42_1 rfl) ?_
                  refine qv rfl (rLd1m t19 rfl (List.mem_append_left _ (List.mem_cons_of_mem _ (List.mem_singleton.2 rfl))) (writes_cell hy 1 _ rfl)) ?_
                  refine qv rfl (rFa fA42_1 rfl) ?_
                  refine qv rfl (rLdN t19 rfl rfl) ?_
                  refine qv rfl (rBin rfl rfl bEqS) ?_
                  refine qv rfl (rPk rfl rfl) ?_
                  refine qv rfl (rPk rfl rfl) ?_
                  refine qv rfl (rAs rfl) ?_
                  refine gs_nil ?_
                  refine gKeep [0, 1, 2, 7, 8, 10, 11, 12] rfl ?_
                  refine gText (σ := wk [(0, .p), (1, .p), (2, .p)]) rfl ?_
                  refine pv rfl (rMv rfl) ?_
                  refine pv rfl (rBin rfl rfl (bAddI (by omega))) ?_
                  refine pv rfl (rAs rfl) ?_
                  refine gs_nil ?_
                  have hst := any_step (f := sameW w) hy
                  refine gVN (u := .bool ((out.take (k + 1)).any (sameW w))) 11 rfl (by rw [hst]; first | (rw [g40]; rfl) | (rw [g40]; simp [sameW, g49]; done) | (rw [g40]; simp [sameW, of_decide_eq_true g49]; done) | (rw [g40]; simp [sameW, of_decide_eq_false g49]; done)) ?_
                  refine gInvK (k + 1) [0, 1, 2, 7, 8, 10, 11, 12] ⟨by omega, by omega⟩ rfl rfl
                · refine qn rfl ?_
                  refine qn rfl ?_
                  refine qn rfl ?_
                  refine qn rfl ?_
                  refine qn rfl ?_
                  refine qn rfl ?_
                  refine qn rfl ?_
                  refine qn rfl ?_
                  refine qv rfl (rPk rfl rfl) ?_
                  refine qv rfl (rPk rfl rfl) ?_
                  refine qv rfl (rAs rfl) ?_
                  refine gs_nil ?_
                  refine gKeep [0, 1, 2, 7, 8, 10, 11, 12] rfl ?_
                  refine gText (σ := wk [(0, .p), (1, .p), (2, .p)]) rfl ?_
                  refine pv rfl (rMv rfl) ?_
                  refine pv rfl (rBin rfl rfl (bAddI (by omega))) ?_
                  refine pv rfl (rAs rfl) ?_
                  refine gs_nil ?_
                  have hst := any_step (f := sameW w) hy
                  refine gVN (u := .bool ((out.take (k + 1)).any (sameW w))) 11 rfl (by rw [hst]; first | (rw [g40]; rfl) | (rw [g40]; simp [sameW, g49]; done) | (rw [g40]; simp [sameW, of_decide_eq_true g49]; done) | (rw [g40]; simp [sameW, of_decide_eq_false g49]; done)) ?_
                  refine gInvK (k + 1) [0, 1, 2, 7, 8, 10, 11, 12] ⟨by omega, by omega⟩ rfl rfl
            · have hk0 : k = out.length := by omega
              subst hk0
              rw [List.take_length]
              refine gExit rfl ?_
              refine gSeq ?_
              refine gText (σ := wk [(0, .p), (1, .p), (2, .p), (3, .p), (4, .p), (5, .p)]) rfl ?_
              refine pv rfl (rMv rfl) ?_
              refine pv rfl (rNot rfl) ?_
              refine pv rfl (rMv rfl) ?_
              refine gB (e := 62) rfl (fun g62 => by cases g62) (fun _ => ?_)
              refine pv rfl (rMv rfl) ?_
              refine pv rfl (rNot rfl) ?_
              refine pv rfl (rPk rfl rfl) ?_
              refine gs_nil ?_
              refine gKeep [0, 1, 2, 7, 8, 10, 11, 12, 65] rfl ?_
              refine gCond rfl (fun h3 => ?_) (fun h3 => ?_)
              · refine gText (σ := wk [(0, .p), (1, .p), (2, .p), (3, .p), (4, .p)]) rfl ?_
                refine pv rfl (rMv rfl) ?_
                refine pv rfl (rLdA tA42 rfl rfl) ?_
                refine pm rfl (mBs bS49_1 rfl rfl) (fun b68 => ?_)
                refine papp (news := writeL w) (m := 1) (L1 := Lr) aP49 rfl rfl hrow rfl (List.mem_append_left _ List.mem_cons_self) rfl (fun j u h => by rw [Nat.zero_add]; exact h) (writeL_one w) (by omega) (fun v' L' hv => ?_)
                have hv2 : Row 42 4 (out ++ [w]).length (writesL (out ++ [w])) v' L' := by simpa [writesL] using hv
                obtain ⟨q', cap', rfl, _⟩ := hv2.lies
                refine pv rfl (rAs rfl) ?_
                refine gs_nil ?_
                refine gKeep [0, 1, 2, 7, 8, 10, 11, 12] rfl ?_
                refine gText (σ := wk [(0, .p), (1, .p), (2, .p)]) rfl ?_
                refine pv rfl (rMv rfl) ?_
                refine pv rfl (rBin rfl rfl (bAddI (by omega))) ?_
                refine pv rfl (rAs rfl) ?_
                refine gs_nil ?_
                have hgo2 := wsGo_cons (most := most) (whole := true) (out := out) hx hlt
                have hws : wsStep true out x = out ++ [w] := by
                  unfold wsStep
                  simp only [if_true, hw]
                  rw [if_pos (by simpa using h3)]
                rw [hws] at hgo2
                have hwl := wsStep_len true out x
                rw [hws] at hwl
                refine gDrop [(b68, Obj.cells (List.toArray (writeL w)) 42)] ?_
                refine gDrop [(b10, Obj.cells (List.toArray (writeL w)) 42)] ?_
                refine gDrop [(b9, Obj.cells (List.toArray (putL { x with own := true })) 44)] ?_
                simp only [List.append_nil]
                refine gInvK ⟨i + 1, out ++ [w], q', cap', L'⟩ [0, 1, 2, 7, 8] ⟨⟨by show i + 1 ≤ _; omega, by show (out ++ [w]).length ≤ _; omega, hv2, hgo2.symm.trans hgo⟩, by show _ - (i + 1) < _ - i; omega⟩ rfl rfl
              · refine gSkip ?_
                refine gText (σ := wk [(0, .p), (1, .p), (2, .p)]) rfl ?_
                refine pv rfl (rMv rfl) ?_
                refine pv rfl (rBin rfl rfl (bAddI (by omega))) ?_
                refine pv rfl (rAs rfl) ?_
                refine gs_nil ?_
                have hgo2 := wsGo_cons (most := most) (whole := true) (out := out) hx hlt
                have hws : wsStep true out x = out := by
                  unfold wsStep
                  simp only [if_true, hw]
                  rw [if_neg (by simpa using h3)]
                rw [hws] at hgo2
                have hwl := wsStep_len true out x
                rw [hws] at hwl
                refine gDrop [(b10, Obj.cells (List.toArray (writeL w)) 42)] ?_
                refine gDrop [(b9, Obj.cells (List.toArray (putL { x with own := true })) 44)] ?_
                refine gInvK ⟨i + 1, out, q, cap, Lr⟩ [0, 1, 2, 7, 8] ⟨⟨by show i + 1 ≤ _; omega, ho, hrow, hgo2.symm.trans hgo⟩, by show _ - (i + 1) < _ - i; omega⟩ rfl rfl
        · subst h1
          obtain ⟨w, hw⟩ : ∃ w, writeOf x = w := ⟨_, rfl⟩
          refine gSkip ?_
          refine gSeq ?_
          refine gText (σ := wk [(0, .p), (1, .p), (2, .p), (3, .p)]) rfl ?_
          refine pv rfl (rLdA tA44 rfl rfl) ?_
          refine pf rfl eN13 (hw ▸ c13 x) ?_
          refine pm rfl (mAlloc zC42) (fun b10 => ?_)
          refine ps0 rfl (tSt tA42.2 rfl rfl rfl rfl rfl rfl rfl) ?_
          refine gs_nil ?_
          refine gKeep [0, 1, 2, 7, 8, 10] rfl ?_
          refine gSeq ?_
          refine gText (σ := wk [(0, .p)]) rfl ?_
          refine pv rfl (rAs rfl) ?_
          refine gs_nil ?_
          refine gSeq ?_
          refine gSeq ?_
          refine gText (σ := wk [(0, .p)]) rfl ?_
          refine pv rfl (rAs rfl) ?_
          refine gs_nil ?_
          refine gBlock ?_
          refine gLoop (σ := Nat) (fun k => ([(0, .slice (some ⟨b, o, none⟩) ps.length cap0), (1, .int .i64 (most : Nat)), (2, .bool false), (7, .slice q out.length cap), (8, .int .i64 (i : Nat)), (10, .pointer (some ⟨b10, 0, none⟩)), (11, .bool ((out.take k).any (sameW w))), (12, .int .i64 (k : Nat))], (b10, Obj.cells (List.toArray (writeL w)) 42) :: (b9, Obj.cells (List.toArray (putL x)) 44) :: Lr)) (fun k => k ≤ out.length) (fun k => out.length - k) ?_ (fun k hs => ?_)
          · refine gInvK (0) [0, 1, 2, 7, 8, 10, 11, 12] (Nat.zero_le _) rfl rfl
          · refine gSeq ?_
            refine gSeq ?_
            refine gText (σ := wk [(0, .p), (1, .p), (2, .p), (3, .p)]) rfl ?_
            refine pv rfl (rMv rfl) ?_
            refine pv rfl (rMv rfl) ?_
            refine pv rfl (rLen uS49 rfl) ?_
            refine pv rfl (rBin rfl rfl bLt) ?_
            refine gs_nil ?_
            refine gCondD rfl (fun h4 => ?_) (fun h4 => ?_)
            · have hkl : k < out.length := by omega
              have hy := List.getElem?_eq_getElem hkl
              generalize out[k] = y at hy
              obtain ⟨gg, cap2, T, he, rfl, hnc, hcm, hT⟩ := hrow.some' (by omega)
              cases he
              refine gSkip ?_
              refine gSeq ?_
              refine gBlock ?_
              refine gD [b10, gg] (wk [(0, .q), (1, .q), (2, .q), (3, .q), (4, .q), (5, .q), (6, .q), (7, .q), (8, .q), (9, .q), (10, .q), (11, .q), (12, .q), (13, .q), (14, .q), (15, .q), (16, .q), (17, .q), (18, .q), (19, .q), (20, .q), (21, .q)]) fol (by kernel_rfl) rfl (by kernel_rfl) ?_
              refine qv rfl (rMv rfl) ?_
              refine qv rfl (rMv rfl) ?_
              refine gB (e := 40) rfl (fun g40 => ?_) (fun g40 => ?_)
              · refine qn rfl ?_
                refine qn rfl ?_
                refine qn rfl ?_
                refine qn rfl ?_
                refine qn rfl ?_
                refine qn rfl ?_
                refine qn rfl ?_
                refine qn rfl ?_
                refine qn rfl ?_
                refine qn rfl ?_
                refine qn rfl ?_
                refine qn rfl ?_
                refine qn rfl ?_
                refine qn rfl ?_
                refine qn rfl ?_
                refine qn rfl ?_
                refine qn rfl ?_
                refine qn rfl ?_
                refine qv rfl (rPk rfl rfl) ?_
                refine qv rfl (rAs rfl) ?_
                refine gs_nil ?_
                refine gKeep [0, 1, 2, 7, 8, 10, 11, 12] rfl ?_
                refine gText (σ := wk [(0, .p), (1, .p), (2, .p)]) rfl ?_
                refine pv rfl (rMv rfl) ?_
                refine pv rfl (rBin rfl rfl (bAddI (by omega))) ?_
                refine pv rfl (rAs rfl) ?_
                refine gs_nil ?_
                have hst := any_step (f := sameW w) hy
                refine gVN (u := .bool ((out.take (k + 1)).any (sameW w))) 11 rfl (by rw [hst]; first | (rw [g40]; rfl) | (rw [g40]; simp [sameW, g49]; done) | (rw [g40]; simp [sameW, of_decide_eq_true g49]; done) | (rw [g40]; simp [sameW, of_decide_eq_false g49]; done)) ?_
                refine gInvK (k + 1) [0, 1, 2, 7, 8, 10, 11, 12] ⟨by omega, by omega⟩ rfl rfl
              · refine qv rfl (rMv rfl) ?_
                refine qv rfl (rMv rfl) ?_
                refine qv rfl (rIs iS49 rfl rfl ⟨by omega, by omega⟩) ?_
                refine qv rfl (rFa fA42_0 rfl) ?_
                refine qv rfl (rLd1m t19 rfl (List.mem_append_left _ (List.mem_cons_of_mem _ (List.mem_singleton.2 rfl))) (writes_cell hy 0 _ rfl)) ?_
                refine qv rfl (rFa fA42_0 rfl) ?_
                refine qv rfl (rLdN t19 rfl rfl) ?_
                refine qv rfl (rBin rfl rfl bEqS) ?_
                refine qv rfl (rMv rfl) ?_
                refine gB (e := 49) rfl (fun g49 => ?_) (fun g49 => ?_)
                · refine qv rfl (rMv rfl) ?_
                  refine qv rfl (rMv rfl) ?_
                  refine qv rfl (rIs iS49 rfl rfl ⟨by omega, by omega⟩) ?_
                  refine qv rfl (rFa fA42_1 rfl) ?_
                  refine qv rfl (rLd1m t19 rfl (List.mem_append_left _ (List.mem_cons_of_mem _ (List.mem_singleton.2 rfl))) (writes_cell hy 1 _ rfl)) ?_
                  refine qv rfl (rFa fA42_1 rfl) ?_
                  refine qv rfl (rLdN t19 rfl rfl) ?_
                  refine qv rfl (rBin rfl rfl bEqS) ?_
                  refine qv rfl (rPk rfl rfl) ?_
                  refine qv rfl (rPk rfl rfl) ?_
                  refine qv rfl (rAs rfl) ?_
                  refine gs_nil ?_
                  refine gKeep [0, 1, 2, 7, 8, 10, 11, 12] rfl ?_
                  refine gText (σ := wk [(0, .p), (1, .p), (2, .p)]) rfl ?_
                  refine pv rfl (rMv rfl) ?_
                  refine pv rfl (rBin rfl rfl (bAddI (by omega))) ?_
                  refine pv rfl (rAs rfl) ?_
                  refine gs_nil ?_
                  have hst := any_step (f := sameW w) hy
                  refine gVN (u := .bool ((out.take (k + 1)).any (sameW w))) 11 rfl (by rw [hst]; first | (rw [g40]; rfl) | (rw [g40]; simp [sameW, g49]; done) | (rw [g40]; simp [sameW, of_decide_eq_true g49]; done) | (rw [g40]; simp [sameW, of_decide_eq_false g49]; done)) ?_
                  refine gInvK (k + 1) [0, 1, 2, 7, 8, 10, 11, 12] ⟨by omega, by omega⟩ rfl rfl
                · refine qn rfl ?_
                  refine qn rfl ?_
                  refine qn rfl ?_
                  refine qn rfl ?_
                  refine qn rfl ?_
                  refine qn rfl ?_
                  refine qn rfl ?_
                  refine qn rfl ?_
                  refine qv rfl (rPk rfl rfl) ?_
                  refine qv rfl (rPk rfl rfl) ?_
                  refine qv rfl (rAs rfl) ?_
                  refine gs_nil ?_
                  refine gKeep [0, 1, 2, 7, 8, 10, 11, 12] rfl ?_
                  refine gText (σ := wk [(0, .p), (1, .p), (2, .p)]) rfl ?_
                  refine pv rfl (rMv rfl) ?_
                  refine pv rfl (rBin rfl rfl (bAddI (by omega))) ?_
                  refine pv rfl (rAs rfl) ?_
                  refine gs_nil ?_
                  have hst := any_step (f := sameW w) hy
                  refine gVN (u := .bool ((out.take (k + 1)).any (sameW w))) 11 rfl (by rw [hst]; first | (rw [g40]; rfl) | (rw [g40]; simp [sameW, g49]; done) | (rw [g40]; simp [sameW, of_decide_eq_true g49]; done) | (rw [g40]; simp [sameW, of_decide_eq_false g49]; done)) ?_
                  refine gInvK (k + 1) [0, 1, 2, 7, 8, 10, 11, 12] ⟨by omega, by omega⟩ rfl rfl
            · have hk0 : k = out.length := by omega
              subst hk0
              rw [List.take_length]
              refine gExit rfl ?_
              refine gSeq ?_
              refine gText (σ := wk [(0, .p), (1, .p), (2, .p), (3, .p), (4, .p), (5, .p)]) rfl ?_
              refine pv rfl (rMv rfl) ?_
              refine pv rfl (rNot rfl) ?_
              refine pv rfl (rMv rfl) ?_
              refine gB (e := 62) rfl (fun _ => ?_) (fun g62 => by cases g62)
              refine pn rfl ?_
              refine pn rfl ?_
              refine pv rfl (rPk rfl rfl) ?_
              refine gs_nil ?_
              refine gKeep [0, 1, 2, 7, 8, 10, 11, 12, 65] rfl ?_
              refine gCondT rfl rfl ?_
              refine gText (σ := wk [(0, .p), (1, .p), (2, .p), (3, .p), (4, .p)]) rfl ?_
              refine pv rfl (rMv rfl) ?_
              refine pv rfl (rLdA tA42 rfl rfl) ?_
              refine pm rfl (mBs bS49_1 rfl rfl) (fun b68 => ?_)
              refine papp (news := writeL w) (m := 1) (L1 := Lr) aP49 rfl rfl hrow rfl (List.mem_append_left _ List.mem_cons_self) rfl (fun j u h => by rw [Nat.zero_add]; exact h) (writeL_one w) (by omega) (fun v' L' hv => ?_)
              have hv2 : Row 42 4 (out ++ [w]).length (writesL (out ++ [w])) v' L' := by simpa [writesL] using hv
              obtain ⟨q', cap', rfl, _⟩ := hv2.lies
              refine pv rfl (rAs rfl) ?_
              refine gs_nil ?_
              refine gKeep [0, 1, 2, 7, 8, 10, 11, 12] rfl ?_
              refine gText (σ := wk [(0, .p), (1, .p), (2, .p)]) rfl ?_
              refine pv rfl (rMv rfl) ?_
              refine pv rfl (rBin rfl rfl (bAddI (by omega))) ?_
              refine pv rfl (rAs rfl) ?_
              refine gs_nil ?_
              have hgo2 := wsGo_cons (most := most) (whole := false) (out := out) hx hlt
              have hws : wsStep false out x = out ++ [w] := by
                unfold wsStep
                simp only [Bool.false_eq_true, if_false, hw]
                rw [if_pos (by simp)]
              rw [hws] at hgo2
              have hwl := wsStep_len false out x
              rw [hws] at hwl
              refine gDrop [(b68, Obj.cells (List.toArray (writeL w)) 42)] ?_
              refine gDrop [(b10, Obj.cells (List.toArray (writeL w)) 42)] ?_
              refine gDrop [(b9, Obj.cells (List.toArray (putL x)) 44)] ?_
              simp only [List.append_nil]
              refine gInvK ⟨i + 1, out ++ [w], q', cap', L'⟩ [0, 1, 2, 7, 8] ⟨⟨by show i + 1 ≤ _; omega, by show (out ++ [w]).length ≤ _; omega, hv2, hgo2.symm.trans hgo⟩, by show _ - (i + 1) < _ - i; omega⟩ rfl rfl
      · have hlt : ¬ out.length < most := by omega
        rw [wsGo_full hlt] at hgo
        refine gExit rfl ?_
        refine gSeq ?_
        refine gText (σ := wk [(0, .p), (1, .p)]) rfl ?_
        refine pv rfl (rMv rfl) ?_
        refine pv rfl (rAs rfl) ?_
        refine gs_nil ?_
        refine gRet ?_
        refine gEnd1 (hF := Front.all _) Try.results37 (resT rfl) ?_
        first | (have h2 : out = wsGo most whole ps [] := hgo; rw [← h2]; exact ⟨q, cap, rfl, hrow⟩)
    · have hin : i = ps.length := by have := of_decide_eq_false g17; omega
      subst hin
      rw [List.drop_length] at hgo
      refine pn rfl ?_
      refine pn rfl ?_
      refine pn rfl ?_
      refine pn rfl ?_
      refine pv rfl (rPk rfl rfl) ?_
      refine gs_nil ?_
      refine gKeep [0, 1, 2, 7, 8, 22] rfl ?_
      refine gCondF rfl rfl ?_
      refine gExit rfl ?_
      refine gSeq ?_
      refine gText (σ := wk [(0, .p), (1, .p)]) rfl ?_
      refine pv rfl (rMv rfl) ?_
      refine pv rfl (rAs rfl) ?_
      refine gs_nil ?_
      refine gRet ?_
      refine gEnd1 (hF := Front.all _) Try.results37 (resT rfl) ?_
      first | (have h2 : out = wsGo most whole ps [] := hgo; rw [← h2]; exact ⟨q, cap, rfl, hrow⟩)
end Go.Proofs.Yteeobhehfdifnaa
set_option linter.unusedVariables false
set_option linter.unusedSimpArgs false
namespace Go.Proofs.Yteeobhehfdifnaa
open Go TB Go.Proofs
theorem t138 : T1 Try.prog 38 := ⟨fun w => by kernel_rfl, fun w => by kernel_rfl⟩
theorem tA37 : TA Try.prog 37 6 := ⟨fun w => by kernel_rfl, fun w => by kernel_rfl⟩
theorem tA51 : TA Try.prog 51 6 := ⟨fun w => by kernel_rfl, fun w => by kernel_rfl⟩
theorem bU51 : BU Try.prog 51 [(0, 5), (5, 1)] [.int .u64 0, .int .u64 0, .int .u64 0, .int .u64 0, .int .i64 0, .slice none 0 0] := bu_struct (v := .agg #[.int .u64 0, .int .u64 0, .int .u64 0, .int .u64 0, .int .i64 0, .slice none 0 0]) Try.underlying51 (fun w => by kernel_rfl) rfl (fun w => by kernel_rfl)
theorem eN14 : EN Try.prog 14 := fun args w => by kernel_rfl
theorem eN16 : EN Try.prog 16 := fun args w => by kernel_rfl
theorem eN18 : EN Try.prog 18 := fun args w => by kernel_rfl
theorem eN22 : EN Try.prog 22 := fun args w => by kernel_rfl
theorem eN24 : EN Try.prog 24 := fun args w => by kernel_rfl
theorem eN26 : EN Try.prog 26 := fun args w => by kernel_rfl
theorem eN27 : EN Try.prog 27 := fun args w => by kernel_rfl
theorem eN28 : EN Try.prog 28 := fun args w => by kernel_rfl
theorem eN29 : EN Try.prog 29 := fun args w => by kernel_rfl
theorem eN36 : EN Try.prog 36 := fun args w => by kernel_rfl
theorem eN37 : EN Try.prog 37 := fun args w => by kernel_rfl
theorem eN9 : EN Try.prog 9 := fun args w => by kernel_rfl
theorem fA40_0 : FA Try.prog 40 0 0 := fun b o w => by kernel_rfl
theorem fA40_1 : FA Try.prog 40 1 6 := fun b o w => by kernel_rfl
theorem fA40_2 : FA Try.prog 40 2 7 := fun b o w => by kernel_rfl
theorem fA51_1 : FA Try.prog 51 1 5 := fun b o w => by kernel_rfl
theorem zC51 : ZC Try.prog 51 [.int .u64 0, .int .u64 0, .int .u64 0, .int .u64 0, .int .i64 0, .slice none 0 0] := fun w => ⟨.agg #[.int .u64 0, .int .u64 0, .int .u64 0, .int .u64 0, .int .i64 0, .slice none 0 0], by kernel_rfl, rfl⟩
theorem bEq42 (s t : Write) : BinR Try.prog .eql 42 (writeV s) (writeV t) (.bool (decide (s = t))) := bAgg (by kernel_rfl) fun w => by
  have hS : Try.prog.underlying 42 = some (.struct (Try.prog.fieldsOf 42)) := by kernel_rfl
  have hp : Try.prog.stoodInHeld 42 = false := by kernel_rfl
  rw [run_eql_struct, show (10000 : Nat) = 9998 + 1 + 1 from rfl, run_equalIn_agg w (9998 + 1) 42 _ _ hS hp]
  have a9 : ∀ w, (isAgg 9).run Try.prog w = .ok false w := fun w => by kernel_rfl
  have a4 : ∀ w, (isAgg 4).run Try.prog w = .ok false w := fun w => by kernel_rfl
  have e1 : ∀ (x y : ByteArray) w, (Op.equalIn (9998 + 1) 9 (.string x) (.string y)).run Try.prog w = .ok (decide (x = y)) w := fun x y w => by
    rw [run_equalIn_string w 9998 9 x y Try.underlying9, TB.bytes_beq]
  have e2 : ∀ (x y : Bool) w, (Op.equalIn (9998 + 1) 4 (.bool x) (.bool y)).run Try.prog w = .ok (x == y) w := fun x y w => run_equalIn_bool w 9998 4 x y Try.underlying4
  simp only [Program.fieldsOf, Try.underlying42]
  generalize 9998 + 1 = d at e1 e2 ⊢
  simp [Op.eqFields, part, a9, a4, e1, e2]
  obtain ⟨s0, s1, s2, s3⟩ := s
  obtain ⟨t0, t1, t2, t3⟩ := t
  simp only [Write.mk.injEq]
  by_cases h0 : s0 = t0 <;> by_cases h1 : s1 = t1 <;> by_cases h2 : s2 = t2 <;> by_cases h3 : s3 = t3 <;> simp [h0, h1, h2, h3]
set_option maxRecDepth 4000 in
theorem c11 (d : DealD) (p : Option Addr) (cap0 : Nat) (R : HL) (hl : Lies R p (putsL d.ps)) (hlen : d.ps.length ≤ 9223372036854775807) : Tr Try.prog 11 [.agg (List.toArray (markL d.m ++ [.slice p d.ps.length cap0, .bool d.own]))] R [] (fun u L' => ∃ q cap, u = batV ⟨dealSt d, q, (dealWs d).length, cap⟩ ∧ Row 42 4 (dealWs d).length (writesL (dealWs d)) (.slice q (dealWs d).length cap) L') := by
  refine trEnter Try.func11 rfl Try.ntmps11 (l := [(0, _)]) rfl rfl (fun w0 => ?_)
  refine gSeq ?_
  refine gText (σ := wk [(0, .p), (1, .p)]) rfl ?_
  refine pm rfl (mBox rfl rfl) (fun b1 => ?_)
  refine pm rfl (mAlloc zC51) (fun b2 => ?_)
  refine gs_nil ?_
  refine gSeq ?_
  refine gSeq ?_
  refine gText (σ := wk [(0, .p), (1, .p), (2, .p)]) rfl ?_
  refine pv rfl (rFa fA40_2 rfl) ?_
  refine pv rfl (rLdN t14 rfl rfl) ?_
  refine pv rfl (rNot rfl) ?_
  refine gs_nil ?_
  refine gCond rfl (fun h0 => ?_) (fun h0 => ?_)
  · have ho : d.own = false := by simpa using h0
    refine gSeq ?_
    refine gD [b1] (wk [(0, .q), (1, .q), (3, .q), (4, .q), (2, .p), (5, .p), (6, .q), (7, .p)]) fol (by kernel_rfl) rfl (by kernel_rfl) ?_
    refine qv rfl (rFa fA40_0 rfl) ?_
    refine qv rfl (rLdA tA37 rfl rfl) ?_
    refine qv rfl (rFa fA40_1 rfl) ?_
    refine qv rfl (rLdN t138 rfl rfl) ?_
    refine pf rfl eN36 (c36 d.m) ?_
    refine pc (R' := R) rfl eN37 (c37 p cap0 d.ps 10 false R hl hlen (by omega)) (fun v L' hv => ?_)
    obtain ⟨q, cap, rfl, hr⟩ := hv
    refine qv rfl (rBu bU51 rfl rfl) ?_
    refine ps rfl (tSt tA51.2 rfl rfl rfl rfl rfl rfl rfl) (by kernel_rfl) ?_
    refine gKeep [1, 2] rfl ?_
    refine gRet ?_
    have e1 : dealSt d = markOf d.m := by unfold dealSt; rw [ho]; rfl
    have e2 : dealWs d = wsGo 10 false d.ps [] := by unfold dealWs; rw [ho]; rfl
    rw [e1, e2]
    refine gEnd1 (L' := L') Try.results11 (resA tA51 rfl rfl) ⟨q, cap, rfl, hr⟩
  · have ho : d.own = true := by simpa using h0
    refine gSkip ?_
    refine gSeq ?_
    refine gText (σ := wk [(0, .p), (1, .p), (2, .p)]) rfl ?_
    refine pv rfl (rFa fA40_0 rfl) ?_
    refine pv rfl (rFa fA37_1 rfl) ?_
    refine ps0 rfl (tSt t14.2 rfl rfl rfl rfl rfl rfl rfl) ?_
    refine gs_nil ?_
    refine gKeep [1, 2] rfl ?_
    refine gSeq ?_
    refine gCutN (σ := Nat × Option Addr × Nat × HL) (fun z => ([(2, .pointer (some ⟨b2, 0, none⟩)), (3, .pointer (some ⟨z.1, 0, none⟩))], (z.1, Obj.cells (List.toArray (batL ⟨(markOf { d.m with own := true }), z.2.1, (wsGo 8 true d.ps []).length, z.2.2.1⟩)) 51) :: (b2, Obj.cells #[.int .u64 0, .int .u64 0, .int .u64 0, .int .u64 0, .int .i64 0, .slice none 0 0] 51) :: z.2.2.2)) (fun z => Row 42 4 (wsGo 8 true d.ps []).length (writesL (wsGo 8 true d.ps [])) (.slice z.2.1 (wsGo 8 true d.ps []).length z.2.2.1) z.2.2.2) ?_ (fun z hs => ?_)
    · refine gD [b1] (.one 0 .q (.one 1 .q (.one 3 .q (.one 4 .q (.alt (.one 2 .p (.alt (wk [(5, .p), (6, .q), (7, .p), (8, .p)]) (wk [(7, .p), (5, .p), (6, .q), (8, .p)]))) (wk [(7, .p), (2, .p), (5, .p), (6, .q), (8, .p)])))))) fol (by kernel_rfl) rfl (by kernel_rfl) ?_
      refine qv rfl (rFa fA40_0 rfl) ?_
      refine qv rfl (rLdA tA37 rfl rfl) ?_
      refine qv rfl (rFa fA40_1 rfl) ?_
      refine qv rfl (rLdN t138 rfl rfl) ?_
      refine gAlt ?_ ?_
      · refine pf rfl eN36 (c36 { d.m with own := true }) ?_
        refine gAlt ?_ ?_
        · refine pc (R' := R) rfl eN37 (c37 p cap0 d.ps 8 true R hl hlen (by omega)) (fun v L' hv => ?_)
          obtain ⟨q, cap, rfl, hr⟩ := hv
          refine qv rfl (rBu bU51 rfl rfl) ?_
          refine pm rfl (mAlloc zC51) (fun b3 => ?_)
          refine ps rfl (tSt tA51.2 rfl rfl rfl rfl rfl rfl rfl) (by kernel_rfl) ?_
          refine gKeep [2, 3] rfl ?_
          refine gTo ((b3, Obj.cells (List.toArray (batL ⟨(markOf { d.m with own := true }), q, (wsGo 8 true d.ps []).length, cap⟩)) 51) :: (b2, Obj.cells #[.int .u64 0, .int .u64 0, .int .u64 0, .int .u64 0, .int .i64 0, .slice none 0 0] 51) :: (b1, Obj.cells (List.toArray [.int .u64 d.m.s.v.a, .int .u64 d.m.s.v.b, .int .u64 d.m.s.v.c, .int .u64 d.m.s.v.d, .int .i64 d.m.s.dc, .bool true, .slice p d.ps.length cap0, .bool d.own]) 40) :: L') ?_
          refine gDrop [(b1, Obj.cells (List.toArray [.int .u64 d.m.s.v.a, .int .u64 d.m.s.v.b, .int .u64 d.m.s.v.c, .int .u64 d.m.s.v.d, .int .i64 d.m.s.dc, .bool true, .slice p d.ps.length cap0, .bool d.own]) 40)] ?_
          refine gInvK (b3, q, cap, L') [2, 3] hr rfl rfl
        · refine pm rfl (mAlloc zC51) (fun b3 => ?_)
          refine pc (R' := R) rfl eN37 (c37 p cap0 d.ps 8 true R hl hlen (by omega)) (fun v L' hv => ?_)
          obtain ⟨q, cap, rfl, hr⟩ := hv
          refine qv rfl (rBu bU51 rfl rfl) ?_
          refine ps rfl (tSt tA51.2 rfl rfl rfl rfl rfl rfl rfl) (by kernel_rfl) ?_
          refine gKeep [2, 3] rfl ?_
          refine gTo ((b3, Obj.cells (List.toArray (batL ⟨(markOf { d.m with own := true }), q, (wsGo 8 true d.ps []).length, cap⟩)) 51) :: (b2, Obj.cells #[.int .u64 0, .int .u64 0, .int .u64 0, .int .u64 0, .int .i64 0, .slice none 0 0] 51) :: (b1, Obj.cells (List.toArray [.int .u64 d.m.s.v.a, .int .u64 d.m.s.v.b, .int .u64 d.m.s.v.c, .int .u64 d.m.s.v.d, .int .i64 d.m.s.dc, .bool true, .slice p d.ps.length cap0, .bool d.own]) 40) :: L') ?_
          refine gDrop [(b1, Obj.cells (List.toArray [.int .u64 d.m.s.v.a, .int .u64 d.m.s.v.b, .int .u64 d.m.s.v.c, .int .u64 d.m.s.v.d, .int .i64 d.m.s.dc, .bool true, .slice p d.ps.length cap0, .bool d.own]) 40)] ?_
          refine gInvK (b3, q, cap, L') [2, 3] hr rfl rfl
      · refine pm rfl (mAlloc zC51) (fun b3 => ?_)
        refine pf rfl eN36 (c36 { d.m with own := true }) ?_
        refine pc (R' := R) rfl eN37 (c37 p cap0 d.ps 8 true R hl hlen (by omega)) (fun v L' hv => ?_)
        obtain ⟨q, cap, rfl, hr⟩ := hv
        refine qv rfl (rBu bU51 rfl rfl) ?_
        refine ps rfl (tSt tA51.2 rfl rfl rfl rfl rfl rfl rfl) (by kernel_rfl) ?_
        refine gKeep [2, 3] rfl ?_
        refine gTo ((b3, Obj.cells (List.toArray (batL ⟨(markOf { d.m with own := true }), q, (wsGo 8 true d.ps []).length, cap⟩)) 51) :: (b2, Obj.cells #[.int .u64 0, .int .u64 0, .int .u64 0, .int .u64 0, .int .i64 0, .slice none 0 0] 51) :: (b1, Obj.cells (List.toArray [.int .u64 d.m.s.v.a, .int .u64 d.m.s.v.b, .int .u64 d.m.s.v.c, .int .u64 d.m.s.v.d, .int .i64 d.m.s.dc, .bool true, .slice p d.ps.length cap0, .bool d.own]) 40) :: L') ?_
        refine gDrop [(b1, Obj.cells (List.toArray [.int .u64 d.m.s.v.a, .int .u64 d.m.s.v.b, .int .u64 d.m.s.v.c, .int .u64 d.m.s.v.d, .int .i64 d.m.s.dc, .bool true, .slice p d.ps.length cap0, .bool d.own]) 40)] ?_
        refine gInvK (b3, q, cap, L') [2, 3] hr rfl rfl
    · obtain ⟨b3, q, cap, Lr⟩ := z
      simp only at hs ⊢
      refine gSeq ?_
      refine gSeq ?_
      refine gText (σ := wk [(0, .p), (1, .p), (2, .p), (3, .p)]) rfl ?_
      refine pv rfl (rFa fA51_1 rfl) ?_
      refine pv rfl (rLdN t149 rfl rfl) ?_
      refine pv rfl (rLen uS49 rfl) ?_
      refine pv rfl (rBin rfl rfl bEq) ?_
      refine gs_nil ?_
      refine gCondD rfl (fun h1 => ?_) (fun h1 => ?_)
      · have h1n : ((wsGo 8 true d.ps []).length : Int) = 0 := h1
        have hw : (wsGo 8 true d.ps []) = [] := List.eq_nil_of_length_eq_zero (by omega)
        refine gText (σ := wk [(0, .p), (1, .p), (2, .p), (3, .p)]) rfl ?_
        refine pv rfl (rBu bU42 rfl rfl) ?_
        refine pm rfl (mBs bS49_1 rfl rfl) (fun b28 => ?_)
        refine pv rfl (rFa fA51_1 rfl) ?_
        refine ps0 rfl (tSt t149.2 rfl rfl rfl rfl rfl rfl rfl) ?_
        refine gs_nil ?_
        refine gKeep [2, 3] rfl ?_
        refine gSeq ?_
        refine gText (σ := wk [(0, .p), (1, .p)]) rfl ?_
        refine pv rfl (rLdA tA51 rfl rfl) ?_
        refine ps0 rfl (tSt tA51.2 rfl rfl rfl rfl rfl rfl rfl) ?_
        refine gs_nil ?_
        refine gRet ?_
        have e1 : dealSt d = (markOf { d.m with own := true }) := by unfold dealSt; rw [ho]; rfl
        have e2 : dealWs d = [Write.dflt] := by unfold dealWs; rw [ho, if_pos rfl, if_pos hw]
        rw [e1, e2]
        refine gEnd1 (L' := [(b28, Obj.cells (List.toArray (writeL Write.dflt)) 42)]) Try.results11 (resA tA51 rfl rfl) ⟨some ⟨b28, 0, none⟩, 1, rfl, rfl, .inr ⟨b28, 1, _, rfl, rfl, Nat.le_refl _, by decide, rfl, rfl⟩⟩
      · have hw : ¬ (wsGo 8 true d.ps []) = [] := fun h => h1 (by rw [h]; rfl)
        refine gSkip ?_
        refine gSeq ?_
        refine gText (σ := wk [(0, .p), (1, .p)]) rfl ?_
        refine pv rfl (rLdA tA51 rfl rfl) ?_
        refine ps0 rfl (tSt tA51.2 rfl rfl rfl rfl rfl rfl rfl) ?_
        refine gs_nil ?_
        refine gKeep [2] rfl ?_
        refine gRet ?_
        have e1 : dealSt d = (markOf { d.m with own := true }) := by unfold dealSt; rw [ho]; rfl
        have e2 : dealWs d = (wsGo 8 true d.ps []) := by unfold dealWs; rw [ho, if_pos rfl, if_neg hw]
        rw [e1, e2]
        refine gEnd1 (L' := Lr) Try.results11 (resA tA51 rfl rfl) ⟨q, cap, rfl, hs⟩

set_option maxHeartbeats 8000000 in
set_option maxRecDepth 4000 in
theorem c8  : Pf Try.prog 8 [] [] (.bool true) := by
  refine trEnter Try.func8 rfl Try.ntmps8 (l := []) rfl rfl (fun w0 => ?_)
  refine gSeq ?_
  refine gText (σ := wk [(0, .p)]) rfl ?_
  refine pv rfl (rAs rfl) ?_
  refine gs_nil ?_
  refine gSeq ?_
  refine gText (σ := wk [(0, .p), (1, .p), (2, .p), (3, .p), (4, .p), (5, .p)]) rfl ?_
  refine pc (R' := []) rfl eN9 (c9 0) (fun u L' hv => ?_)
  rw [if_pos (by decide)] at hv
  obtain ⟨rfl, rfl⟩ := hv
  rw [List.nil_append]
  refine pv rfl (rMv rfl) ?_
  refine pv rfl (rEx rfl rfl) ?_
  refine pv rfl (rEx rfl rfl) ?_
  refine pv rfl (rAs rfl) ?_
  refine pv rfl (rAs rfl) ?_
  refine gs_nil ?_
  refine gKeep [0, 2] rfl ?_
  refine gSeq ?_
  refine gText (σ := wk [(0, .p), (1, .p), (2, .p), (3, .p), (4, .p), (5, .p)]) rfl ?_
  refine pc (R' := []) rfl eN9 (c9 2) (fun u H0 hv => ?_)
  rw [if_neg (by decide)] at hv
  obtain ⟨s, rfl, hH0⟩ := hv
  rw [List.append_nil]
  change ShRep T0 s ex0 H0 at hH0
  refine pv rfl (rMv rfl) ?_
  refine pv rfl (rEx rfl rfl) ?_
  refine pv rfl (rEx rfl rfl) ?_
  refine pv rfl (rAs rfl) ?_
  refine pv rfl (rAs rfl) ?_
  refine gs_nil ?_
  refine gKeep [0, 2, 3, 4] rfl ?_
  refine gSeq ?_
  refine gSeq ?_
  refine gText (σ := wk [(0, .p), (1, .p)]) rfl ?_
  refine pv rfl (rMv rfl) ?_
  refine pv rfl (rBin rfl rfl (bPtNil Try.underlying25)) ?_
  refine gs_nil ?_
  refine gCondF rfl rfl ?_
  refine gSkip ?_
  refine gSeq ?_
  refine gText (σ := wk [(0, .p), (1, .p), (2, .p), (3, .p)]) rfl ?_
  refine pv rfl (rBu bU33 rfl rfl) ?_
  refine pv rfl (rBu bU35 rfl rfl) ?_
  refine pm rfl (mAlloc zC35) (fun b5 => ?_)
  refine ps0 rfl (tSt tA35.2 rfl rfl rfl rfl rfl rfl rfl) ?_
  refine gs_nil ?_
  refine gKeep [0, 2, 3, 4, 5] rfl ?_
  refine gSeq ?_
  refine gText (σ := wk [(0, .p), (1, .p), (2, .p)]) rfl ?_
  refine pv rfl (rBu bU42 rfl rfl) ?_
  refine pm rfl (mAlloc zC42) (fun b6 => ?_)
  refine ps0 rfl (tSt tA42.2 rfl rfl rfl rfl rfl rfl rfl) ?_
  refine gs_nil ?_
  refine gSeq ?_
  refine gText (σ := wk [(0, .p), (1, .p), (2, .p), (3, .p), (4, .p), (5, .p)]) rfl ?_
  refine pv rfl (rMv rfl) ?_
  refine pv rfl (rLdA tA35 rfl rfl) ?_
  refine pv rfl (rLdA tA42 rfl rfl) ?_
  refine pm rfl (mBs bS49_1 rfl rfl) (fun b39 => ?_)
  refine pc (R' := [(b39, Obj.cells (List.toArray (writeL exW)) 42)]) (L1 := H0) rfl eN18 (c18 s ex0 H0 hH0 exA [exW] (some ⟨b39, 0, none⟩) 1 [(b39, Obj.cells (List.toArray (writeL exW)) 42)] (.inr ⟨b39, 0, writeL exW, 42, (0, 0), rfl, List.mem_singleton.2 rfl, fun j hj => by rw [Nat.zero_add]; rfl⟩) (by decide)) (fun u H1 hv => ?_)
  obtain ⟨rfl, hH1⟩ := hv
  have e1 : ex0.push exA [exW] = ex1 := by unfold ShS.push; rw [show pushOK ex0 exA [exW] = true by kernel_rfl]; rfl
  rw [e1] at hH1
  refine pv rfl (rAs rfl) ?_
  refine gs_nil ?_
  refine gVN (u := .bool true) 7 rfl (congrArg Value.bool (by kernel_rfl)) ?_
  refine gKeep [0, 2, 3, 4, 5, 6, 7] rfl ?_
  refine gSeq ?_
  refine gText (σ := wk [(0, .p), (1, .p), (2, .p)]) rfl ?_
  refine pv rfl (rMv rfl) ?_
  refine pf (R' := H1) rfl eN26 (c26 s ex1 H1 hH1) ?_
  refine pv rfl (rAs rfl) ?_
  refine gs_nil ?_
  refine gVN (u := .int .i64 1) 8 rfl rfl ?_
  refine gSeq ?_
  refine gText (σ := wk [(0, .p), (1, .p), (2, .p), (3, .p), (4, .p), (5, .p), (6, .p), (7, .p), (8, .p), (9, .p), (10, .p), (11, .p)]) rfl ?_
  refine pv rfl (rMv rfl) ?_
  refine pv rfl (rFa fA35_0 rfl) ?_
  refine pv rfl (rLdA tA33 rfl rfl) ?_
  refine pc (R' := []) (L1 := H1) rfl eN22 (c22 s ex1 H1 hH1 ⟨#[98]⟩ ⟨#[107]⟩ exA.v (fun k => Nat.le_trans (gok_nil.len k) (by omega))) (fun u H2 hv => ?_)
  obtain ⟨rfl, hH2⟩ := hv
  refine pv rfl (rMv rfl) ?_
  refine pv rfl (rEx rfl rfl) ?_
  refine pv rfl (rEx rfl rfl) ?_
  refine pv rfl (rEx rfl rfl) ?_
  refine pm rfl (mAlloc zC35) (fun b10 => ?_)
  refine pv rfl (rAs rfl) ?_
  refine ps0 rfl (tSt tA35.2 rfl rfl rfl rfl rfl rfl rfl) ?_
  refine pv rfl (rAs rfl) ?_
  refine gs_nil ?_
  refine gVN (u := .bool false) 11 rfl (congrArg Value.bool (by kernel_rfl)) ?_
  refine gKeep [0, 2, 3, 4, 5, 6, 7, 8, 11] rfl ?_
  refine gSeq ?_
  refine gText (σ := wk [(0, .p), (1, .p), (2, .p)]) rfl ?_
  refine pv rfl (rMv rfl) ?_
  refine pc (R' := []) (L1 := H2) rfl eN14 (c14 s ex1 H2 hH2 (GOK.step (n := 0) gok_nil (by omega) (by decide))) (fun u H3 hv => ?_)
  obtain ⟨rfl, hH3⟩ := hv
  change ShRep T0 s ex2 H3 at hH3
  refine pv rfl (rAs rfl) ?_
  refine gs_nil ?_
  refine gVN (u := .bool true) 12 rfl rfl ?_
  refine gSeq ?_
  refine gText (σ := wk [(0, .p), (1, .p), (2, .p)]) rfl ?_
  refine pv rfl (rMv rfl) ?_
  refine pc (R' := []) (L1 := H3) rfl eN14 (c14 s ex2 H3 hH3 (GOK.step (n := 1) gok_ex2 (by omega) (by decide))) (fun u H4 hv => ?_)
  obtain ⟨rfl, hH4⟩ := hv
  change ShRep T0 s ex2 H4 at hH4
  refine pv rfl (rAs rfl) ?_
  refine gs_nil ?_
  refine gVN (u := .bool false) 13 rfl rfl ?_
  refine gKeep [0, 2, 3, 4, 5, 6, 7, 8, 11, 12, 13] rfl ?_
  refine gSeq ?_
  refine gText (σ := wk [(0, .p), (1, .p), (2, .p), (3, .p), (4, .p), (5, .p), (6, .p), (7, .p), (8, .p), (9, .p), (10, .p), (11, .p)]) rfl ?_
  refine pv rfl (rMv rfl) ?_
  refine pv rfl (rFa fA35_0 rfl) ?_
  refine pv rfl (rLdA tA33 rfl rfl) ?_
  refine pc (R' := []) (L1 := H4) rfl eN22 (c22 s ex2 H4 hH4 ⟨#[98]⟩ ⟨#[107]⟩ exA.v (fun k => Nat.le_trans (gok_ex2.len k) (by omega))) (fun u H5 hv => ?_)
  obtain ⟨rfl, hH5⟩ := hv
  refine pv rfl (rMv rfl) ?_
  refine pv rfl (rEx rfl rfl) ?_
  refine pv rfl (rEx rfl rfl) ?_
  refine gV (u := stampV exA) 61 rfl (congrArg stampV (by kernel_rfl)) ?_
  refine pv rfl (rEx rfl rfl) ?_
  refine pm rfl (mAlloc zC35) (fun b15 => ?_)
  refine pv rfl (rAs rfl) ?_
  refine ps0 rfl (tSt tA35.2 rfl rfl rfl rfl rfl rfl rfl) ?_
  refine pv rfl (rAs rfl) ?_
  refine gs_nil ?_
  refine gVN (u := .string ⟨#[118]⟩) 14 rfl (congrArg Value.string (by kernel_rfl)) ?_
  refine gVN (u := .bool true) 16 rfl (congrArg Value.bool (by kernel_rfl)) ?_
  refine gKeep [0, 2, 3, 4, 5, 6, 7, 8, 11, 12, 13, 14, 15, 16] rfl ?_
  refine gSeq ?_
  refine gText (σ := wk [(0, .p), (1, .p), (2, .p), (3, .p), (4, .p), (5, .p), (6, .p), (7, .p), (8, .p), (9, .p), (10, .p)]) rfl ?_
  refine pv rfl (rMv rfl) ?_
  refine pv rfl (rBu bU33 rfl rfl) ?_
  refine pc (R' := []) (L1 := H5) rfl eN22 (c22 s ex2 H5 hH5 ⟨#[98]⟩ ⟨#[107]⟩ Vec.zero (fun k => Nat.le_trans (gok_ex2.len k) (by omega))) (fun u H6 hv => ?_)
  obtain ⟨rfl, hH6⟩ := hv
  refine pv rfl (rMv rfl) ?_
  refine pv rfl (rEx rfl rfl) ?_
  refine pv rfl (rEx rfl rfl) ?_
  refine pv rfl (rEx rfl rfl) ?_
  refine pm rfl (mAlloc zC35) (fun b18 => ?_)
  refine pv rfl (rAs rfl) ?_
  refine ps0 rfl (tSt tA35.2 rfl rfl rfl rfl rfl rfl rfl) ?_
  refine pv rfl (rAs rfl) ?_
  refine gs_nil ?_
  refine gVN (u := .bool false) 19 rfl (congrArg Value.bool (by kernel_rfl)) ?_
  refine gKeep [0, 2, 3, 4, 5, 6, 7, 8, 11, 12, 13, 14, 15, 16, 19] rfl ?_
  refine gSeq ?_
  refine gText (σ := wk [(0, .p), (1, .p), (2, .p), (3, .p), (4, .p), (5, .p), (6, .p), (7, .p), (8, .p), (9, .p), (10, .p)]) rfl ?_
  refine pv rfl (rMv rfl) ?_
  refine pc (R' := []) (L1 := H6) rfl eN24 (c24 s ex2 H6 hH6 ⟨#[98]⟩ ⟨#[107]⟩ (fun k => Nat.le_trans (gok_ex2.len k) (by omega))) (fun u H7 hv => ?_)
  obtain ⟨rfl, hH7⟩ := hv
  refine pv rfl (rMv rfl) ?_
  refine pv rfl (rEx rfl rfl) ?_
  refine gV (u := writeV exW) 73 rfl (congrArg writeV (by kernel_rfl)) ?_
  refine pv rfl (rEx rfl rfl) ?_
  refine pv rfl (rEx rfl rfl) ?_
  refine pm rfl (mAlloc zC42) (fun b20 => ?_)
  refine pm rfl (mAlloc zC35) (fun b21 => ?_)
  refine ps0 rfl (tSt tA42.2 rfl rfl rfl rfl rfl rfl rfl) ?_
  refine ps0 rfl (tSt tA35.2 rfl rfl rfl rfl rfl rfl rfl) ?_
  refine pv rfl (rAs rfl) ?_
  refine gs_nil ?_
  refine gVN (u := .bool true) 22 rfl (congrArg Value.bool (by kernel_rfl)) ?_
  refine gKeep [0, 2, 3, 4, 5, 6, 7, 8, 11, 12, 13, 14, 15, 16, 19, 20, 22] rfl ?_
  refine gSeq ?_
  refine gD [b15, b5, b20, b6] (wk [(0, .q), (1, .q), (2, .q), (3, .q), (4, .q), (5, .q), (6, .q), (7, .q), (8, .q), (9, .q), (10, .q), (11, .q), (12, .q), (13, .q), (14, .q), (15, .q), (16, .q), (17, .q), (18, .q), (19, .q), (20, .q), (21, .q), (22, .q), (23, .q), (24, .q), (25, .q), (26, .q), (27, .q), (28, .q), (29, .q), (30, .q), (31, .q), (32, .q), (33, .q), (34, .q), (35, .q), (36, .q), (37, .q), (38, .q), (39, .q), (40, .q), (41, .q), (42, .q), (43, .q), (44, .q), (45, .q), (46, .q), (47, .q), (48, .q), (49, .q), (51, .q), (52, .q), (50, .p), (53, .q), (54, .q), (55, .q), (56, .q), (57, .p), (58, .q), (59, .q), (60, .q), (61, .q), (62, .p), (63, .q), (64, .q), (65, .q), (66, .q), (67, .q), (68, .q), (69, .p), (70, .q), (71, .q), (72, .q)]) fol (by kernel_rfl) rfl (by kernel_rfl) ?_
  refine qv rfl (rMv rfl) ?_
  refine qv rfl (rBin rfl rfl bEq) ?_
  refine qv rfl (rMv rfl) ?_
  refine gB (e := 78) rfl (fun _ => ?_) (fun g78 => by cases g78)
  refine qv rfl (rMv rfl) ?_
  refine qv rfl (rBin rfl rfl bEq) ?_
  refine qv rfl (rPk rfl rfl) ?_
  refine qv rfl (rMv rfl) ?_
  refine gB (e := 82) rfl (fun _ => ?_) (fun g82 => by cases g82)
  refine qv rfl (rMv rfl) ?_
  refine qv rfl (rPk rfl rfl) ?_
  refine qv rfl (rMv rfl) ?_
  refine gB (e := 85) rfl (fun _ => ?_) (fun g85 => by cases g85)
  refine qv rfl (rMv rfl) ?_
  refine qv rfl (rBin rfl rfl bEq) ?_
  refine qv rfl (rPk rfl rfl) ?_
  refine qv rfl (rMv rfl) ?_
  refine gB (e := 89) rfl (fun _ => ?_) (fun g89 => by cases g89)
  refine qv rfl (rMv rfl) ?_
  refine qv rfl (rNot rfl) ?_
  refine qv rfl (rPk rfl rfl) ?_
  refine qv rfl (rMv rfl) ?_
  refine gB (e := 93) rfl (fun _ => ?_) (fun g93 => by cases g93)
  refine qv rfl (rMv rfl) ?_
  refine qv rfl (rPk rfl rfl) ?_
  refine qv rfl (rMv rfl) ?_
  refine gB (e := 96) rfl (fun _ => ?_) (fun g96 => by cases g96)
  refine qv rfl (rMv rfl) ?_
  refine qv rfl (rNot rfl) ?_
  refine qv rfl (rPk rfl rfl) ?_
  refine qv rfl (rMv rfl) ?_
  refine gB (e := 100) rfl (fun _ => ?_) (fun g100 => by cases g100)
  refine qv rfl (rMv rfl) ?_
  refine qv rfl (rBin rfl rfl bEqS) ?_
  refine qv rfl (rPk rfl rfl) ?_
  refine qv rfl (rMv rfl) ?_
  refine gB (e := 104) rfl (fun _ => ?_) (fun g104 => by cases g104)
  refine qv rfl (rLdA tA35 rfl rfl) ?_
  refine qv rfl (rLdA tA35 rfl rfl) ?_
  refine qv rfl (rBin rfl rfl (bEq35 exA exA)) ?_
  refine qv rfl (rPk rfl rfl) ?_
  refine qv rfl (rMv rfl) ?_
  refine gB (e := 109) rfl (fun _ => ?_) (fun g109 => by cases g109)
  refine qv rfl (rMv rfl) ?_
  refine qv rfl (rPk rfl rfl) ?_
  refine qv rfl (rMv rfl) ?_
  refine gB (e := 112) rfl (fun _ => ?_) (fun g112 => by cases g112)
  refine qv rfl (rMv rfl) ?_
  refine qv rfl (rNot rfl) ?_
  refine qv rfl (rPk rfl rfl) ?_
  refine qv rfl (rMv rfl) ?_
  refine gB (e := 116) rfl (fun _ => ?_) (fun g116 => by cases g116)
  refine qv rfl (rLdA tA42 rfl rfl) ?_
  refine qv rfl (rLdA tA42 rfl rfl) ?_
  refine qv rfl (rBin rfl rfl (bEq42 exW exW)) ?_
  refine qv rfl (rPk rfl rfl) ?_
  refine qv rfl (rMv rfl) ?_
  refine gB (e := 121) rfl (fun _ => ?_) (fun g121 => by cases g121)
  refine qv rfl (rMv rfl) ?_
  refine qv rfl (rPk rfl rfl) ?_
  refine qv rfl (rMv rfl) ?_
  refine gB (e := 124) rfl (fun _ => ?_) (fun g124 => by cases g124)
  refine qv rfl (rMv rfl) ?_
  refine qv rfl (rFa fA35_0 rfl) ?_
  refine qv rfl (rLdA tA33 rfl rfl) ?_
  refine pf (R' := H7) rfl eN28 (c28 s ex2 H7 hH7) ?_
  refine gV (u := vecV ⟨1, 0, 0, 0⟩) 126 rfl (by kernel_rfl) ?_
  refine qv rfl (rBin rfl rfl (bEq33 ⟨1, 0, 0, 0⟩ ⟨1, 0, 0, 0⟩)) ?_
  refine qv rfl (rPk rfl rfl) ?_
  refine qv rfl (rMv rfl) ?_
  refine gB (e := 131) rfl (fun _ => ?_) (fun g131 => by cases g131)
  refine qv rfl (rMv rfl) ?_
  refine pf (R' := H7) rfl eN27 (c27 s ex2 H7 hH7 (by decide) (by decide)) ?_
  refine gV (u := .int .i64 2) 133 rfl (by kernel_rfl) ?_
  refine qv rfl (rBin rfl rfl bEq) ?_
  refine qv rfl (rPk rfl rfl) ?_
  refine qv rfl (rMv rfl) ?_
  refine gB (e := 136) rfl (fun _ => ?_) (fun g136 => by cases g136)
  refine qv rfl (rMv rfl) ?_
  refine pc (R' := []) (L1 := H7) rfl eN29 (c29 s ex2 H7 hH7 (fun n hn => by rw [hn.uniq ex_total]; omega)) (fun u H8 hv => ?_)
  obtain ⟨n, rfl, hn, hH8⟩ := hv
  obtain rfl := hn.uniq ex_total
  refine qv rfl (rBin rfl rfl bEq) ?_
  refine qv rfl (rPk rfl rfl) ?_
  refine qv rfl (rMv rfl) ?_
  refine gB (e := 141) rfl (fun _ => ?_) (fun g141 => by cases g141)
  refine qv rfl (rMv rfl) ?_
  refine qv rfl (rFa fA35_0 rfl) ?_
  refine qv rfl (rLdA tA33 rfl rfl) ?_
  refine pc (R' := []) (L1 := H8) rfl eN16 (c16 s ex2 H8 hH8 exA.v (fun n hn => by rw [hn.uniq ex_total]; omega)) (fun u H9 hv => ?_)
  obtain ⟨n, n', rfl, hn, hn', hH9⟩ := hv
  obtain rfl := hn.uniq ex_total
  obtain rfl := hn'.uniq ex_total2
  refine gV (u := .int .i64 0) 145 rfl (by kernel_rfl) ?_
  refine qv rfl (rBin rfl rfl bEq) ?_
  refine qv rfl (rPk rfl rfl) ?_
  refine qv rfl (rAs rfl) ?_
  refine gs_nil ?_
  refine gKeep [0] rfl ?_
  refine gRet ?_
  refine gEnd1 Try.results8 (resT rfl) ⟨?_, rfl⟩
  rfl
end Go.Proofs.Yteeobhehfdifnaa
