/- A part of the proof that shardPlays of chapter 10 returns true at every room and every list of deeds, and leaves its arguments as they read; no condition. -/
import Derived.Test.YteeobhehfdifnaaC23
set_option linter.unusedVariables false
set_option linter.unusedSimpArgs false
set_option linter.unusedVariables false
set_option linter.unusedSimpArgs false
namespace Go.Proofs.Yteeobhehfdifnaa
open Go TB Go.Proofs
theorem tA111 : TA Try.prog 111 9 := ⟨fun w => by kernel_rfl, fun w => by kernel_rfl⟩
theorem tA71 : TA Try.prog 71 4 := ⟨fun w => by kernel_rfl, fun w => by kernel_rfl⟩
theorem bU57 : BU Try.prog 57 [(0, 1), (1, 1), (2, 1), (3, 1)] [.int .u64 0, .int .u64 0, .int .u64 0, .int .u64 0] := bu_array (sz := 1) (v := .agg #[.int .u64 0, .int .u64 0, .int .u64 0, .int .u64 0]) Try.underlying57 (fun w => by kernel_rfl) rfl (fun w => by kernel_rfl) rfl
theorem bU71 : BU Try.prog 71 [(0, 1), (1, 1), (2, 1), (3, 1)] [.string ⟨#[]⟩, .string ⟨#[]⟩, .string ⟨#[]⟩, .bool false] := bu_struct (v := .agg #[.string ⟨#[]⟩, .string ⟨#[]⟩, .string ⟨#[]⟩, .bool false]) Try.underlying71 (fun w => by kernel_rfl) rfl (fun w => by kernel_rfl)
theorem bU78 : BU Try.prog 78 [(0, 1), (1, 1), (2, 1), (3, 4)] [.int .i64 0, .slice none 0 0, .slice none 0 0, .int .u64 0, .int .u64 0, .int .u64 0, .int .u64 0] := bu_struct (v := .agg #[.int .i64 0, .slice none 0 0, .slice none 0 0, .int .u64 0, .int .u64 0, .int .u64 0, .int .u64 0]) Try.underlying78 (fun w => by kernel_rfl) rfl (fun w => by kernel_rfl)
theorem eN46 : EN Try.prog 46 := fun args w => by kernel_rfl
theorem zC71 : ZC Try.prog 71 [.string ⟨#[]⟩, .string ⟨#[]⟩, .string ⟨#[]⟩, .bool false] := fun w => ⟨.agg #[.string ⟨#[]⟩, .string ⟨#[]⟩, .string ⟨#[]⟩, .bool false], by kernel_rfl, rfl⟩
theorem bS63_1 : BS Try.prog 63 1 71 [(0, 4)] [.string ⟨#[]⟩, .string ⟨#[]⟩, .string ⟨#[]⟩, .bool false] := bs_of (v := .agg #[.string ⟨#[]⟩, .string ⟨#[]⟩, .string ⟨#[]⟩, .bool false]) (sz := 4) Try.underlying63 (fun w => by kernel_rfl) (by decide) (fun w => by kernel_rfl) (by kernel_rfl) (by decide) rfl
theorem aP63 : AP Try.prog 63 71 4 56 := ap_of (z := .agg #[.string ⟨#[]⟩, .string ⟨#[]⟩, .string ⟨#[]⟩, .bool false]) Try.underlying63 (by kernel_rfl) rfl (by decide) (by decide)
theorem bS76_1 : BS Try.prog 76 1 111 [(0, 9)] [.int .u64 0, .int .u64 0, .int .u64 0, .int .u64 0, .int .i64 0, .string ⟨#[]⟩, .string ⟨#[]⟩, .string ⟨#[]⟩, .bool false] := bs_of (v := .agg #[.int .u64 0, .int .u64 0, .int .u64 0, .int .u64 0, .int .i64 0, .string ⟨#[]⟩, .string ⟨#[]⟩, .string ⟨#[]⟩, .bool false]) (sz := 9) Try.underlying76 (fun w => by kernel_rfl) (by decide) (fun w => by kernel_rfl) (by kernel_rfl) (by decide) rfl
theorem aP76 : AP Try.prog 76 111 9 96 := ap_of (z := .agg #[.int .u64 0, .int .u64 0, .int .u64 0, .int .u64 0, .int .i64 0, .string ⟨#[]⟩, .string ⟨#[]⟩, .string ⟨#[]⟩, .bool false]) Try.underlying76 (by kernel_rfl) rfl (by decide) (by decide)
theorem bS75_1 : BS Try.prog 75 1 108 [(0, 6)] [.int .u64 0, .int .u64 0, .int .u64 0, .int .u64 0, .int .i64 0, .slice none 0 0] := bs_of (v := .agg #[.int .u64 0, .int .u64 0, .int .u64 0, .int .u64 0, .int .i64 0, .slice none 0 0]) (sz := 6) Try.underlying75 (fun w => by kernel_rfl) (by decide) (fun w => by kernel_rfl) (by kernel_rfl) (by decide) rfl
theorem aP75 : AP Try.prog 75 108 6 64 := ap_of (z := .agg #[.int .u64 0, .int .u64 0, .int .u64 0, .int .u64 0, .int .i64 0, .slice none 0 0]) Try.underlying75 (by kernel_rfl) rfl (by decide) (by decide)
set_option maxRecDepth 4000 in
theorem c41 (x : Nat) (ρ : RefS) (H : HL) (h : RefRep x ρ H) (v : Ver) (hlen : ρ.l.length ≤ 1000000) : Tr Try.prog 41 [.pointer (some ⟨x, 0, none⟩), verV v] [] H (fun u L' => u = .tuple #[] ∧ RefRep x { ρ with l := refAdd ρ.l v } L') := by
  obtain ⟨room, q, l, ap⟩ := ρ
  obtain ⟨pW, capW, bs, pL, capL, HW, WH, LH, hp, hW, hW0, hQ, hrow⟩ := h
  refine Tr.perm hp ?_
  dsimp only at *
  refine trEnter Try.func41 rfl Try.ntmps41 (l := [(0, _), (1, _)]) rfl rfl (fun w0 => ?_)
  refine gSeq ?_
  refine gText (σ := wk [(0, .p)]) rfl ?_
  refine pm rfl (mBox rfl rfl) (fun b3 => ?_)
  refine gs_nil ?_
  refine gSeq ?_
  refine gSeq ?_
  refine gText (σ := wk [(0, .p)]) rfl ?_
  refine pv rfl (rAs rfl) ?_
  refine gs_nil ?_
  refine gBlock ?_
  refine gLoop (σ := Nat) (fun i => ([(0, .pointer (some ⟨x, 0, none⟩)), (3, .pointer (some ⟨b3, 0, none⟩)), (4, .int .i64 (i : Nat))], (b3, Obj.cells (List.toArray (verL v)) 111) :: (x, Obj.cells (List.toArray (refC room pW bs.length capW pL l.length capL ap)) 78) :: (HW ++ (WH ++ LH)))) (fun i => i ≤ l.length ∧ noneTo (sameV v) l i) (fun i => l.length - i) ?_ (fun i hs => ?_)
  · refine gInvK (0) [0, 3, 4] ⟨Nat.zero_le _, noneTo_zero _ _⟩ rfl rfl
  · obtain ⟨hi, hn⟩ := hs
    refine gSeq ?_
    refine gSeq ?_
    refine gText (σ := wk [(0, .p), (1, .p), (2, .p), (3, .p), (4, .p), (5, .p), (6, .p)]) rfl ?_
    refine pv rfl (rMv rfl) ?_
    refine pv rfl (rMv rfl) ?_
    refine pv rfl (rNc rfl) ?_
    refine pv rfl (rFa fA78_2 rfl) ?_
    refine pv rfl (rLdN t176 rfl rfl) ?_
    refine pv rfl (rLen uS76 rfl) ?_
    refine pv rfl (rBin rfl rfl bLt) ?_
    refine gs_nil ?_
    refine gKeep [0, 3, 4, 11] rfl ?_
    refine gCondD rfl (fun h0 => ?_) (fun h0 => ?_)
    · have hil : i < l.length := by omega
      obtain ⟨y, hx⟩ : ∃ y, l[i]? = some y := ⟨_, List.getElem?_eq_getElem hil⟩
      obtain ⟨gg, capt, T, he, rfl, hnc, hcm, hT⟩ := hrow.some' (by omega)
      cases he
      refine gSkip ?_
      refine gSeq ?_
      refine gBlock ?_
      refine gSeq ?_
      refine gD [x, b3, gg] (wk [(0, .q), (1, .q), (2, .q), (3, .q), (4, .q), (5, .q), (6, .q), (7, .q), (8, .q), (9, .q), (10, .q), (11, .q), (12, .q), (13, .q), (14, .q), (15, .q), (16, .q), (17, .q), (18, .q), (19, .q), (20, .q), (21, .q), (22, .q), (23, .q), (24, .q), (25, .q), (26, .q), (27, .q), (28, .q), (29, .q), (30, .q), (31, .q), (32, .q), (33, .q), (34, .q), (35, .q), (36, .q), (37, .q), (38, .q), (39, .q), (40, .q)]) fol (by kernel_rfl) rfl (by kernel_rfl) ?_
      refine qv rfl (rMv rfl) ?_
      refine qv rfl (rNc rfl) ?_
      refine qv rfl (rFa fA78_2 rfl) ?_
      refine qv rfl (rLdN t176 rfl rfl) ?_
      refine qv rfl (rMv rfl) ?_
      refine qv rfl (rIs iS76 rfl rfl ⟨by omega, by show (i : Int) < (l.length : Int); omega⟩) ?_
      refine qv rfl (rFa fA111_0 rfl) ?_
      refine qv rfl (rLdAm tA61 rfl (List.mem_append_left _ (List.mem_cons_of_mem _ (List.mem_cons_of_mem _ (List.mem_singleton.2 rfl)))) (vs := stampL y.s) rfl (fun j v h => vers_cell hx j v (verL_get h))) ?_
      refine qv rfl (rFa fA111_0 rfl) ?_
      refine qv rfl (rLdA tA61 rfl rfl) ?_
      refine qv rfl (rBin rfl rfl (bEq61 y.s v.s)) ?_
      refine qv rfl (rMv rfl) ?_
      refine gB (e := 25) rfl (fun g25 => ?_) (fun g25 => ?_)
      · refine qv rfl (rMv rfl) ?_
        refine qv rfl (rNc rfl) ?_
        refine qv rfl (rFa fA78_2 rfl) ?_
        refine qv rfl (rLdN t176 rfl rfl) ?_
        refine qv rfl (rMv rfl) ?_
        refine qv rfl (rIs iS76 rfl rfl ⟨by omega, by show (i : Int) < (l.length : Int); omega⟩) ?_
        refine qv rfl (rFa fA111_1 rfl) ?_
        refine qv rfl (rFa fA71_0 rfl) ?_
        refine qv rfl (rLd1m t19 rfl (List.mem_append_left _ (List.mem_cons_of_mem _ (List.mem_cons_of_mem _ (List.mem_singleton.2 rfl)))) (vers_cell hx 5 _ rfl)) ?_
        refine qv rfl (rFa fA111_1 rfl) ?_
        refine qv rfl (rFa fA71_0 rfl) ?_
        refine qv rfl (rLdN t19 rfl rfl) ?_
        refine qv rfl (rBin rfl rfl bEqS) ?_
        refine qv rfl (rPk rfl rfl) ?_
        refine qv rfl (rMv rfl) ?_
        refine gB (e := 40) rfl (fun g40 => ?_) (fun g40 => ?_)
        · refine qv rfl (rMv rfl) ?_
          refine qv rfl (rNc rfl) ?_
          refine qv rfl (rFa fA78_2 rfl) ?_
          refine qv rfl (rLdN t176 rfl rfl) ?_
          refine qv rfl (rMv rfl) ?_
          refine qv rfl (rIs iS76 rfl rfl (by omega)) ?_
          refine qv rfl (rFa fA111_1 rfl) ?_
          refine qv rfl (rFa fA71_1 rfl) ?_
          refine qv rfl (rLd1m t19 rfl (List.mem_append_left _ (List.mem_cons_of_mem _ (List.mem_cons_of_mem _ (List.mem_singleton.2 rfl)))) (vers_cell hx 6 _ rfl)) ?_
          refine qv rfl (rFa fA111_1 rfl) ?_
          refine qv rfl (rFa fA71_1 rfl) ?_
          refine qv rfl (rLdN t19 rfl rfl) ?_
          refine qv rfl (rBin rfl rfl bEqS) ?_
          refine qv rfl (rPk rfl rfl) ?_
          refine gs_nil ?_
          refine gKeep [0, 3, 4, 54] rfl ?_
          refine gCond rfl (fun h1 => ?_) (fun h1 => ?_)
          · refine gRet ?_
            have ha : l.any (sameV v) = true := any_some hx (by simp_all [sameV])
            refine gDrop [(b3, Obj.cells (List.toArray (verL v)) 111)] ?_
            refine gEnd0 (hF := Front.all _) Try.results41 ⟨rfl, ?_⟩
            unfold refAdd
            rw [if_pos ha]
            exact ⟨pW, capW, bs, _, _, HW, WH, _, List.Perm.refl _, hW, hW0, hQ, hrow⟩
          · refine gSkip ?_
            refine gText (σ := wk [(0, .p), (1, .p), (2, .p)]) rfl ?_
            refine pv rfl (rMv rfl) ?_
            refine pv rfl (rBin rfl rfl (bAddI (by omega))) ?_
            refine pv rfl (rAs rfl) ?_
            refine gs_nil ?_
            refine gInvK (i + 1) [0, 3, 4] ⟨⟨by omega, noneTo_step hn hx (by simp_all [sameV])⟩, by omega⟩ rfl rfl
        · refine qn rfl ?_
          refine qn rfl ?_
          refine qn rfl ?_
          refine qn rfl ?_
          refine qn rfl ?_
          refine qn rfl ?_
          refine qn rfl ?_
          refine qn rfl ?_
          refine qn rfl ?_
          refine qn rfl ?_
          refine qn rfl ?_
          refine qn rfl ?_
          refine qn rfl ?_
          refine qv rfl (rPk rfl rfl) ?_
          refine gs_nil ?_
          refine gKeep [0, 3, 4, 54] rfl ?_
          refine gCondF rfl rfl ?_
          refine gSkip ?_
          refine gText (σ := wk [(0, .p), (1, .p), (2, .p)]) rfl ?_
          refine pv rfl (rMv rfl) ?_
          refine pv rfl (rBin rfl rfl (bAddI (by omega))) ?_
          refine pv rfl (rAs rfl) ?_
          refine gs_nil ?_
          refine gInvK (i + 1) [0, 3, 4] ⟨⟨by omega, noneTo_step hn hx (by simp_all [sameV])⟩, by omega⟩ rfl rfl
      · refine qn rfl ?_
        refine qn rfl ?_
        refine qn rfl ?_
        refine qn rfl ?_
        refine qn rfl ?_
        refine qn rfl ?_
        refine qn rfl ?_
        refine qn rfl ?_
        refine qn rfl ?_
        refine qn rfl ?_
        refine qn rfl ?_
        refine qn rfl ?_
        refine qn rfl ?_
        refine qv rfl (rPk rfl rfl) ?_
        refine qv rfl (rMv rfl) ?_
        refine qn rfl ?_
        refine qn rfl ?_
        refine qn rfl ?_
        refine qn rfl ?_
        refine qn rfl ?_
        refine qn rfl ?_
        refine qn rfl ?_
        refine qn rfl ?_
        refine qn rfl ?_
        refine qn rfl ?_
        refine qn rfl ?_
        refine qn rfl ?_
        refine qn rfl ?_
        refine qv rfl (rPk rfl rfl) ?_
        refine gs_nil ?_
        refine gKeep [0, 3, 4, 54] rfl ?_
        refine gCondF rfl rfl ?_
        refine gSkip ?_
        refine gText (σ := wk [(0, .p), (1, .p), (2, .p)]) rfl ?_
        refine pv rfl (rMv rfl) ?_
        refine pv rfl (rBin rfl rfl (bAddI (by omega))) ?_
        refine pv rfl (rAs rfl) ?_
        refine gs_nil ?_
        refine gInvK (i + 1) [0, 3, 4] ⟨⟨by omega, noneTo_step hn hx (by simp_all [sameV])⟩, by omega⟩ rfl rfl
    · have hil : i = l.length := by omega
      subst hil
      refine gExit rfl ?_
      refine gD [x, b3] (wk [(0, .q), (1, .q), (2, .q), (3, .q), (4, .q), (5, .q), (6, .p), (7, .p), (8, .q), (9, .q), (10, .p)]) fol (by kernel_rfl) rfl (by kernel_rfl) ?_
      refine qv rfl (rMv rfl) ?_
      refine qv rfl (rMv rfl) ?_
      refine qv rfl (rNc rfl) ?_
      refine qv rfl (rFa fA78_2 rfl) ?_
      refine qv rfl (rLdN t176 rfl rfl) ?_
      refine qv rfl (rLdA tA111 rfl rfl) ?_
      refine pm rfl (mBs bS76_1 rfl rfl) (fun b61 => ?_)
      refine papp (news := verL v) (m := 1) (L1 := LH) aP76 rfl rfl hrow rfl (List.mem_append_left _ List.mem_cons_self) rfl (fun j u h => by rw [Nat.zero_add]; exact h) (verL_one v) (by omega) (fun v' L' hv => ?_)
      have hv2 : Row 111 9 (l ++ [v]).length (versL (l ++ [v])) v' L' := by simpa [versL] using hv
      obtain ⟨pn, capn, rfl, _⟩ := hv2.lies
      refine qv rfl (rNc rfl) ?_
      refine qv rfl (rFa fA78_2 rfl) ?_
      refine ps rfl (tSt t176.2 rfl rfl rfl rfl rfl rfl rfl) (by kernel_rfl) ?_
      refine gKeep [0, 3, 4] rfl ?_
      refine gDrop [(b61, Obj.cells (List.toArray (verL v)) 111)] ?_
      refine gDrop [(b3, Obj.cells (List.toArray (verL v)) 111)] ?_
      refine gTo ((x, Obj.cells (List.toArray (refC room pW bs.length capW pn (l ++ [v]).length capn ap)) 78) :: (HW ++ (WH ++ L'))) ?_
      refine gEnd0 (hF := Front.all _) Try.results41 ⟨rfl, ?_⟩
      unfold refAdd
      rw [any_none hn]
      exact ⟨pW, capW, bs, pn, capn, HW, WH, L', List.Perm.refl _, hW, hW0, hQ, hv2⟩

set_option maxRecDepth 4000 in
theorem c21 (ws : List Write) (p : Option Addr) (cap : Nat) (R : HL) (hl : Lies R p (writesL ws)) (hlen : ws.length ≤ 1000000) : Tr Try.prog 21 [.slice p ws.length cap] R [] (fun u L' => Row 71 4 ws.length (writesL ws) u L') := by
  refine trEnter Try.func21 rfl Try.ntmps21 (l := [(0, _)]) rfl rfl (fun w0 => ?_)
  refine gSeq ?_
  refine gText (σ := wk [(0, .p)]) rfl ?_
  refine pv rfl (rAs rfl) ?_
  refine gs_nil ?_
  refine gSeq ?_
  refine gText (σ := wk [(0, .p)]) rfl ?_
  refine pv rfl (rAs rfl) ?_
  refine gs_nil ?_
  refine gSeq ?_
  refine gSeq ?_
  refine gText (σ := wk [(0, .p)]) rfl ?_
  refine pv rfl (rAs rfl) ?_
  refine gs_nil ?_
  refine gBlock ?_
  refine gLoop (σ := OG) (fun z => ([(0, .slice p ws.length cap), (3, .slice z.q z.i z.cap), (4, .int .i64 (z.i : Nat))], z.Lr)) (fun z => z.i ≤ ws.length ∧ Row 71 4 z.i (writesL (ws.take z.i)) (.slice z.q z.i z.cap) z.Lr) (fun z => ws.length - z.i) ?_ (fun z hs => ?_)
  · refine gInvK (⟨0, none, 0, []⟩) [0, 3, 4] ⟨Nat.zero_le _, Row.nil _ _⟩ rfl rfl
  · obtain ⟨i, q0, cap0, Lr⟩ := z
    obtain ⟨hi, hrow⟩ := hs
    simp only at hi hrow ⊢
    refine gSeq ?_
    refine gSeq ?_
    refine gText (σ := wk [(0, .p), (1, .p), (2, .p), (3, .p)]) rfl ?_
    refine pv rfl (rMv rfl) ?_
    refine pv rfl (rMv rfl) ?_
    refine pv rfl (rLen uS49 rfl) ?_
    refine pv rfl (rBin rfl rfl bLt) ?_
    refine gs_nil ?_
    refine gCondD rfl (fun h0 => ?_) (fun h0 => ?_)
    · have hil : i < ws.length := by omega
      obtain ⟨w, hx⟩ : ∃ w, ws[i]? = some w := ⟨_, List.getElem?_eq_getElem hil⟩
      obtain ⟨b, o, cl, E, fr, rfl, hm, hv⟩ := hl.at writeL_len hx (by decide)
      refine gSkip ?_
      refine gSeq ?_
      refine gBlock ?_
      refine gD [] (wk [(0, .q), (1, .q), (2, .q), (3, .q), (4, .q), (5, .q), (6, .q), (7, .q), (8, .q), (9, .q), (10, .q), (11, .q), (12, .q), (13, .q), (14, .q), (15, .q), (16, .q), (17, .q), (18, .q), (19, .q), (20, .q), (21, .q), (22, .p), (23, .p), (24, .q)]) fol (by kernel_rfl) rfl (by kernel_rfl) ?_
      refine qv rfl (rMv rfl) ?_
      refine qv rfl (rMv rfl) ?_
      refine qv rfl (rMv rfl) ?_
      refine qv rfl (rIs iS49 rfl rfl ⟨by omega, by show (i : Int) < (ws.length : Int); omega⟩) ?_
      refine qv rfl (rFa fA42_0 rfl) ?_
      refine qv rfl (rLd1m t19 rfl (List.mem_append_right _ hm) (hv 0 _ rfl)) ?_
      refine qv rfl (rMv rfl) ?_
      refine qv rfl (rMv rfl) ?_
      refine qv rfl (rIs iS49 rfl rfl ⟨by omega, by show (i : Int) < (ws.length : Int); omega⟩) ?_
      refine qv rfl (rFa fA42_1 rfl) ?_
      refine qv rfl (rLd1m t19 rfl (List.mem_append_right _ hm) (hv 1 _ rfl)) ?_
      refine qv rfl (rMv rfl) ?_
      refine qv rfl (rMv rfl) ?_
      refine qv rfl (rIs iS49 rfl rfl ⟨by omega, by show (i : Int) < (ws.length : Int); omega⟩) ?_
      refine qv rfl (rFa fA42_2 rfl) ?_
      refine qv rfl (rLd1m t19 rfl (List.mem_append_right _ hm) (hv 2 _ rfl)) ?_
      refine qv rfl (rMv rfl) ?_
      refine qv rfl (rMv rfl) ?_
      refine qv rfl (rIs iS49 rfl rfl ⟨by omega, by show (i : Int) < (ws.length : Int); omega⟩) ?_
      refine qv rfl (rFa fA42_3 rfl) ?_
      refine qv rfl (rLd1m t14 rfl (List.mem_append_right _ hm) (hv 3 _ rfl)) ?_
      refine qv rfl (rBu bU71 rfl rfl) ?_
      refine pm rfl (mBs bS63_1 rfl rfl) (fun b33 => ?_)
      refine papp (news := writeL w) (m := 1) (L1 := Lr) aP63 rfl rfl hrow rfl (List.mem_append_left _ List.mem_cons_self) rfl (fun j u h => by rw [Nat.zero_add]; exact h) (writeL_one w) (by omega) (fun v' L' hv' => ?_)
      have hv2 : Row 71 4 (i + 1) (writesL (ws.take (i + 1))) v' L' := by rw [List.take_add_one, hx]; simpa [writesL] using hv'
      obtain ⟨q', cap', rfl, _⟩ := hv2.lies
      refine qv rfl (rAs rfl) ?_
      refine gs_nil ?_
      refine gKeep [0, 3, 4] rfl ?_
      refine gText (σ := wk [(0, .p), (1, .p), (2, .p)]) rfl ?_
      refine pv rfl (rMv rfl) ?_
      refine pv rfl (rBin rfl rfl (bAddI (by omega))) ?_
      refine pv rfl (rAs rfl) ?_
      refine gs_nil ?_
      refine gDrop [(b33, Obj.cells (List.toArray (writeL w)) 71)] ?_
      simp only [List.append_nil]
      refine gInvK ⟨i + 1, q', cap', L'⟩ [0, 3, 4] ⟨⟨by show i + 1 ≤ _; omega, hv2⟩, by show _ - (i + 1) < _ - i; omega⟩ rfl rfl
    · have hil : i = ws.length := by omega
      subst hil
      rw [List.take_length] at hrow
      refine gExit rfl ?_
      refine gSeq ?_
      refine gText (σ := wk [(0, .p), (1, .p)]) rfl ?_
      refine pv rfl (rMv rfl) ?_
      refine pv rfl (rAs rfl) ?_
      refine gs_nil ?_
      refine gKeep [0, 2, 3, 4] rfl ?_
      refine gRet ?_
      refine gEnd1 (hF := Front.all _) Try.results21 (resT rfl) hrow

set_option maxRecDepth 4000 in
theorem c10 (room : Int) : Tr Try.prog 10 [.int .i64 room] [] [] (fun u L' => if room < 1 ∨ room > 16 then u = .pointer none ∧ L' = [] else ∃ x, u = .pointer (some ⟨x, 0, none⟩) ∧ RefRep x ⟨room.toNat, [], [], Vec.zero⟩ L') := by
  refine trEnter Try.func10 rfl Try.ntmps10 (l := [(0, _)]) rfl rfl (fun w0 => ?_)
  refine gSeq ?_
  refine gText (σ := wk [(0, .p)]) rfl ?_
  refine pv rfl (rAs rfl) ?_
  refine gs_nil ?_
  refine gSeq ?_
  refine gSeq ?_
  refine gText (σ := wk [(0, .p), (1, .p), (2, .p), (3, .p), (4, .p), (5, .p)]) rfl ?_
  refine pv rfl (rMv rfl) ?_
  refine pv rfl (rBin rfl rfl bLt) ?_
  refine pv rfl (rMv rfl) ?_
  refine gB (e := 5) rfl (fun g5 => ?_) (fun g5 => ?_)
  · have hr : room < 1 ∨ room > 16 := .inl (of_decide_eq_true g5)
    refine pn rfl ?_
    refine pn rfl ?_
    refine pv rfl (rPk rfl rfl) ?_
    refine gs_nil ?_
    refine gKeep [0, 2, 8] rfl ?_
    refine gCondT rfl rfl ?_
    refine gSeq ?_
    refine gText (σ := wk [(0, .p)]) rfl ?_
    refine pv rfl (rAs rfl) ?_
    refine gs_nil ?_
    refine gRet ?_
    refine gEnd1 (L' := []) Try.results10 (resT rfl) ?_
    rw [if_pos hr]
    exact ⟨rfl, rfl⟩
  · have hr1 := of_decide_eq_false g5
    refine pv rfl (rMv rfl) ?_
    refine pv rfl (rBin rfl rfl bGt) ?_
    refine pv rfl (rPk rfl rfl) ?_
    refine gs_nil ?_
    refine gKeep [0, 2, 8] rfl ?_
    refine gCondD rfl (fun h1 => ?_) (fun h1 => ?_)
    · have hr : room < 1 ∨ room > 16 := .inr h1
      refine gSeq ?_
      refine gText (σ := wk [(0, .p)]) rfl ?_
      refine pv rfl (rAs rfl) ?_
      refine gs_nil ?_
      refine gRet ?_
      refine gEnd1 (L' := []) Try.results10 (resT rfl) ?_
      rw [if_pos hr]
      exact ⟨rfl, rfl⟩
    · have hr : ¬ (room < 1 ∨ room > 16) := by omega
      refine gSkip ?_
      refine gSeq ?_
      obtain ⟨k, rfl⟩ : ∃ k : Nat, room = k := ⟨room.toNat, by omega⟩
      refine gText (σ := wk [(0, .p), (1, .p), (2, .p), (3, .p)]) rfl ?_
      refine pv rfl (rMv rfl) ?_
      refine pv rfl (rBu bU78 rfl rfl) ?_
      refine pm rfl (mBox rfl rfl) (fun b11 => ?_)
      refine pv rfl (rAs rfl) ?_
      refine gs_nil ?_
      refine gKeep [2] rfl ?_
      refine gRet ?_
      refine gEnd1 (hF := Front.all _) Try.results10 (resT rfl) ?_
      rw [if_neg hr]
      exact ⟨b11, rfl, none, 0, [], none, 0, [], [], [], List.Perm.refl _, .inl ⟨rfl, rfl⟩, ⟨fun _ => rfl, Nat.le_refl _⟩, ⟨rfl, rfl⟩, Row.nil _ _⟩

set_option maxRecDepth 4000 in
theorem c23 (x room nW capW capL : Nat) (pW pL : Option Addr) (l : List Ver) (ap : Vec) (LH : HL) (hL : Lies LH pL (versL l)) (hlen : l.length ≤ 1000000) (bk ky : ByteArray) (v : Vec) : Pf Try.prog 23 [.pointer (some ⟨x, 0, none⟩), .string bk, .string ky, vecV v] ((x, Obj.cells (List.toArray (refC room pW nW capW pL l.length capL ap)) 78) :: LH) (.tuple #[.string (refRd (refBest (refP (bk, ky) v false) l 0 none)).1, stampV (refRd (refBest (refP (bk, ky) v false) l 0 none)).2.1, .bool (refRd (refBest (refP (bk, ky) v false) l 0 none)).2.2]) := by
  refine trEnter Try.func23 rfl Try.ntmps23 (l := [(0, _), (1, _), (2, _), (3, _)]) rfl rfl (fun w0 => ?_)
  refine gSeq ?_
  refine gText (σ := wk [(0, .p), (1, .p), (2, .p), (3, .p)]) rfl ?_
  refine pm rfl (mBox rfl rfl) (fun b7 => ?_)
  refine pv rfl (rAs rfl) ?_
  refine pm rfl (mAlloc zC61) (fun b9 => ?_)
  refine pv rfl (rAs rfl) ?_
  refine gs_nil ?_
  refine gSeq ?_
  refine gText (σ := wk [(0, .p), (1, .p), (2, .p), (3, .p), (4, .p), (5, .p)]) rfl ?_
  refine pv rfl (rMv rfl) ?_
  refine pv rfl (rMv rfl) ?_
  refine pv rfl (rMv rfl) ?_
  refine pv rfl (rLdA tA57 rfl rfl) ?_
  refine pf (R' := (x, Obj.cells (List.toArray (refC room pW nW capW pL l.length capL ap)) 78) :: LH) rfl eN46 (c46 x room nW capW capL pW pL l ap LH hL hlen bk ky v false) ?_
  refine pv rfl (rAs rfl) ?_
  refine gs_nil ?_
  refine gKeep [0, 8, 9, 10, 11] rfl ?_
  refine gSeq ?_
  refine gSeq ?_
  refine gText (σ := wk [(0, .p), (1, .p)]) rfl ?_
  refine pv rfl (rMv rfl) ?_
  refine pv rfl (rBin rfl rfl bLt) ?_
  refine gs_nil ?_
  refine gCondD rfl (fun h0 => ?_) (fun h0 => ?_)
  · have hB := idxB_neg h0
    rw [hB]
    refine gSeq ?_
    refine gText (σ := wk [(0, .p), (1, .p), (2, .p), (3, .p)]) rfl ?_
    refine pv rfl (rBu bU61 rfl rfl) ?_
    refine pv rfl (rAs rfl) ?_
    refine ps0 rfl (tSt tA61.2 rfl rfl rfl rfl rfl rfl rfl) ?_
    refine pv rfl (rAs rfl) ?_
    refine gs_nil ?_
    refine gRet ?_
    refine gEnd3 Try.results23 (resT rfl) (resA tA61 rfl rfl) (resT rfl) ⟨?_, rfl⟩
    rfl
  · obtain ⟨k, y, hB⟩ := idxB_pos h0
    have hx := (refBest_get hB).1
    rw [hB]
    have hkl := (List.getElem?_eq_some_iff.1 hx).1
    obtain ⟨b, o, cl, E, fr, rfl, hm, hv⟩ := hL.at verL_len hx (by decide)
    refine gSkip ?_
    refine gSeq ?_
    refine gD [] (wk [(0, .q), (1, .q), (2, .q), (3, .q), (4, .q), (5, .q), (6, .q), (7, .q), (8, .q), (9, .q), (10, .q), (11, .q), (12, .q), (13, .q), (14, .q), (15, .q), (16, .q), (17, .q), (18, .q), (19, .q), (20, .q), (21, .q), (22, .q), (23, .q), (24, .q), (25, .q), (26, .q), (27, .q), (28, .p), (29, .q)]) fol (by kernel_rfl) rfl (by kernel_rfl) ?_
    refine qv rfl (rMv rfl) ?_
    refine qv rfl (rNc rfl) ?_
    refine qv rfl (rFa fA78_2 rfl) ?_
    refine qv rfl (rLdN t176 rfl rfl) ?_
    refine qv rfl (rMv rfl) ?_
    refine qv rfl (rIs iS76 rfl rfl ⟨by show (0 : Int) ≤ (k : Int); omega, by show (k : Int) < (l.length : Int); omega⟩) ?_
    refine qv rfl (rFa fA111_1 rfl) ?_
    refine qv rfl (rFa fA71_2 rfl) ?_
    refine qv rfl (rLd1m t19 rfl (List.mem_append_right _ (List.mem_cons_of_mem _ hm)) (hv 7 _ rfl)) ?_
    refine qv rfl (rMv rfl) ?_
    refine qv rfl (rNc rfl) ?_
    refine qv rfl (rFa fA78_2 rfl) ?_
    refine qv rfl (rLdN t176 rfl rfl) ?_
    refine qv rfl (rMv rfl) ?_
    refine qv rfl (rIs iS76 rfl rfl ⟨by show (0 : Int) ≤ (k : Int); omega, by show (k : Int) < (l.length : Int); omega⟩) ?_
    refine qv rfl (rFa fA111_0 rfl) ?_
    refine qv rfl (rLdAm tA61 rfl (List.mem_append_right _ (List.mem_cons_of_mem _ hm)) (vs := stampL y.s) rfl (fun j v h => hv j v (verL_get h))) ?_
    refine qv rfl (rMv rfl) ?_
    refine qv rfl (rNc rfl) ?_
    refine qv rfl (rFa fA78_2 rfl) ?_
    refine qv rfl (rLdN t176 rfl rfl) ?_
    refine qv rfl (rMv rfl) ?_
    refine qv rfl (rIs iS76 rfl rfl ⟨by show (0 : Int) ≤ (k : Int); omega, by show (k : Int) < (l.length : Int); omega⟩) ?_
    refine qv rfl (rFa fA111_1 rfl) ?_
    refine qv rfl (rFa fA71_3 rfl) ?_
    refine qv rfl (rLd1m t14 rfl (List.mem_append_right _ (List.mem_cons_of_mem _ hm)) (hv 8 _ rfl)) ?_
    refine qv rfl (rNot rfl) ?_
    refine qv rfl (rAs rfl) ?_
    refine psT rfl (tSt tA61.2 rfl rfl rfl rfl rfl rfl rfl) ?_
    refine qv rfl (rAs rfl) ?_
    refine gs_nil ?_
    refine gKeep [8, 9, 10] rfl ?_
    refine gRet ?_
    refine gEnd3 Try.results23 (resT rfl) (resA tA61 rfl rfl) (resT rfl) ⟨?_, rfl⟩
    rfl

set_option maxRecDepth 4000 in
theorem c25 (x room nW capW capL : Nat) (pW pL : Option Addr) (l : List Ver) (ap : Vec) (LH : HL) (hL : Lies LH pL (versL l)) (hlen : l.length ≤ 1000000) (bk ky : ByteArray) : Pf Try.prog 25 [.pointer (some ⟨x, 0, none⟩), .string bk, .string ky] ((x, Obj.cells (List.toArray (refC room pW nW capW pL l.length capL ap)) 78) :: LH) (.tuple #[writeV (refLt (refBest (refP (bk, ky) Vec.zero true) l 0 none)).1, stampV (refLt (refBest (refP (bk, ky) Vec.zero true) l 0 none)).2.1, .bool (refLt (refBest (refP (bk, ky) Vec.zero true) l 0 none)).2.2]) := by
  refine trEnter Try.func25 rfl Try.ntmps25 (l := [(0, _), (1, _), (2, _)]) rfl rfl (fun w0 => ?_)
  refine gSeq ?_
  refine gText (σ := wk [(0, .p), (1, .p), (2, .p)]) rfl ?_
  refine pm rfl (mAlloc zC71) (fun b6 => ?_)
  refine pm rfl (mAlloc zC61) (fun b7 => ?_)
  refine pv rfl (rAs rfl) ?_
  refine gs_nil ?_
  refine gSeq ?_
  refine gText (σ := wk [(0, .p), (1, .p), (2, .p), (3, .p), (4, .p), (5, .p)]) rfl ?_
  refine pv rfl (rMv rfl) ?_
  refine pv rfl (rMv rfl) ?_
  refine pv rfl (rMv rfl) ?_
  refine pv rfl (rBu bU57 rfl rfl) ?_
  refine pf (R' := (x, Obj.cells (List.toArray (refC room pW nW capW pL l.length capL ap)) 78) :: LH) rfl eN46 (c46 x room nW capW capL pW pL l ap LH hL hlen bk ky Vec.zero true) ?_
  refine pv rfl (rAs rfl) ?_
  refine gs_nil ?_
  refine gKeep [0, 6, 7, 8, 9] rfl ?_
  refine gSeq ?_
  refine gSeq ?_
  refine gText (σ := wk [(0, .p), (1, .p)]) rfl ?_
  refine pv rfl (rMv rfl) ?_
  refine pv rfl (rBin rfl rfl bLt) ?_
  refine gs_nil ?_
  refine gCondD rfl (fun h0 => ?_) (fun h0 => ?_)
  · have hB := idxB_neg h0
    rw [hB]
    refine gSeq ?_
    refine gText (σ := wk [(0, .p), (1, .p), (2, .p), (3, .p), (4, .p)]) rfl ?_
    refine pv rfl (rBu bU71 rfl rfl) ?_
    refine pv rfl (rBu bU61 rfl rfl) ?_
    refine ps0 rfl (tSt tA71.2 rfl rfl rfl rfl rfl rfl rfl) ?_
    refine ps0 rfl (tSt tA61.2 rfl rfl rfl rfl rfl rfl rfl) ?_
    refine pv rfl (rAs rfl) ?_
    refine gs_nil ?_
    refine gKeep [0, 6, 7, 8, 9] rfl ?_
    refine gRet ?_
    refine gEnd3 Try.results25 (resA tA71 rfl rfl) (resA tA61 rfl rfl) (resT rfl) ⟨?_, rfl⟩
    rfl
  · obtain ⟨k, y, hB⟩ := idxB_pos h0
    have hx := (refBest_get hB).1
    rw [hB]
    have hkl := (List.getElem?_eq_some_iff.1 hx).1
    obtain ⟨b, o, cl, E, fr, rfl, hm, hv⟩ := hL.at verL_len hx (by decide)
    refine gSkip ?_
    refine gSeq ?_
    refine gD [] (wk [(0, .q), (1, .q), (2, .q), (3, .q), (4, .q), (5, .q), (6, .q), (7, .q), (8, .q), (9, .q), (10, .q), (11, .q), (12, .q), (13, .q), (14, .q), (15, .q), (16, .p), (17, .p), (18, .q)]) fol (by kernel_rfl) rfl (by kernel_rfl) ?_
    refine qv rfl (rMv rfl) ?_
    refine qv rfl (rNc rfl) ?_
    refine qv rfl (rFa fA78_2 rfl) ?_
    refine qv rfl (rLdN t176 rfl rfl) ?_
    refine qv rfl (rMv rfl) ?_
    refine qv rfl (rIs iS76 rfl rfl ⟨by show (0 : Int) ≤ (k : Int); omega, by show (k : Int) < (l.length : Int); omega⟩) ?_
    refine qv rfl (rFa fA111_1 rfl) ?_
    refine qv rfl (rLdAm tA71 rfl (List.mem_append_right _ (List.mem_cons_of_mem _ hm)) (vs := writeL y.w) rfl (fun j v h => by rw [Nat.add_assoc]; exact hv (5 + j) v (verL_get5 h))) ?_
    refine qv rfl (rMv rfl) ?_
    refine qv rfl (rNc rfl) ?_
    refine qv rfl (rFa fA78_2 rfl) ?_
    refine qv rfl (rLdN t176 rfl rfl) ?_
    refine qv rfl (rMv rfl) ?_
    refine qv rfl (rIs iS76 rfl rfl ⟨by show (0 : Int) ≤ (k : Int); omega, by show (k : Int) < (l.length : Int); omega⟩) ?_
    refine qv rfl (rFa fA111_0 rfl) ?_
    refine qv rfl (rLdAm tA61 rfl (List.mem_append_right _ (List.mem_cons_of_mem _ hm)) (vs := stampL y.s) rfl (fun j v h => hv j v (verL_get h))) ?_
    refine psT rfl (tSt tA71.2 rfl rfl rfl rfl rfl rfl rfl) ?_
    refine psT rfl (tSt tA61.2 rfl rfl rfl rfl rfl rfl rfl) ?_
    refine qv rfl (rAs rfl) ?_
    refine gs_nil ?_
    refine gKeep [6, 7, 8] rfl ?_
    refine gRet ?_
    refine gEnd3 Try.results25 (resA tA71 rfl rfl) (resA tA61 rfl rfl) (resT rfl) ⟨?_, rfl⟩
    rfl
end Go.Proofs.Yteeobhehfdifnaa
