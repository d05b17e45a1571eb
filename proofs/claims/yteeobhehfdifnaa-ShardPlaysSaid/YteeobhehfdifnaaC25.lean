/- A part of the proof that shardPlays of chapter 10 returns true at every room and every list of deeds, and leaves its arguments as they read; no condition. -/
import Derived.Test.YteeobhehfdifnaaC24
set_option linter.unusedVariables false
set_option linter.unusedSimpArgs false
set_option linter.unusedVariables false
set_option linter.unusedSimpArgs false
namespace Go.Proofs.Yteeobhehfdifnaa
open Go TB Go.Proofs
theorem t163 : T1 Try.prog 63 := ⟨fun w => by kernel_rfl, fun w => by kernel_rfl⟩
theorem t175 : T1 Try.prog 75 := ⟨fun w => by kernel_rfl, fun w => by kernel_rfl⟩
theorem tA108 : TA Try.prog 108 6 := ⟨fun w => by kernel_rfl, fun w => by kernel_rfl⟩
theorem bU108 : BU Try.prog 108 [(0, 5), (5, 1)] [.int .u64 0, .int .u64 0, .int .u64 0, .int .u64 0, .int .i64 0, .slice none 0 0] := bu_struct (v := .agg #[.int .u64 0, .int .u64 0, .int .u64 0, .int .u64 0, .int .i64 0, .slice none 0 0]) Try.underlying108 (fun w => by kernel_rfl) rfl (fun w => by kernel_rfl)
theorem bU111 : BU Try.prog 111 [(0, 5), (5, 4)] [.int .u64 0, .int .u64 0, .int .u64 0, .int .u64 0, .int .i64 0, .string ⟨#[]⟩, .string ⟨#[]⟩, .string ⟨#[]⟩, .bool false] := bu_struct (v := .agg #[.int .u64 0, .int .u64 0, .int .u64 0, .int .u64 0, .int .i64 0, .string ⟨#[]⟩, .string ⟨#[]⟩, .string ⟨#[]⟩, .bool false]) Try.underlying111 (fun w => by kernel_rfl) rfl (fun w => by kernel_rfl)
theorem eN41 : EN Try.prog 41 := fun args w => by kernel_rfl
theorem eN43 : EN Try.prog 43 := fun args w => by kernel_rfl
theorem eN54 : EN Try.prog 54 := fun args w => by kernel_rfl
theorem eN55 : EN Try.prog 55 := fun args w => by kernel_rfl
theorem fA108_0 : FA Try.prog 108 0 0 := fun b o w => by kernel_rfl
theorem fA108_1 : FA Try.prog 108 1 5 := fun b o w => by kernel_rfl
theorem fA78_0 : FA Try.prog 78 0 0 := fun b o w => by kernel_rfl
theorem fA78_1 : FA Try.prog 78 1 1 := fun b o w => by kernel_rfl
theorem fA78_3 : FA Try.prog 78 3 3 := fun b o w => by kernel_rfl
theorem iS63 : IS Try.prog 63 4 := ⟨_, Try.underlying63, fun w => by kernel_rfl⟩
theorem iS75 : IS Try.prog 75 6 := ⟨_, Try.underlying75, fun w => by kernel_rfl⟩
theorem uS63 : ∃ e, Try.prog.underlying 63 = some (.slice e) := ⟨_, Try.underlying63⟩
theorem uS75 : ∃ e, Try.prog.underlying 75 = some (.slice e) := ⟨_, Try.underlying75⟩
theorem zC108 : ZC Try.prog 108 [.int .u64 0, .int .u64 0, .int .u64 0, .int .u64 0, .int .i64 0, .slice none 0 0] := fun w => ⟨.agg #[.int .u64 0, .int .u64 0, .int .u64 0, .int .u64 0, .int .i64 0, .slice none 0 0], by kernel_rfl, rfl⟩
theorem zC111 : ZC Try.prog 111 [.int .u64 0, .int .u64 0, .int .u64 0, .int .u64 0, .int .i64 0, .string ⟨#[]⟩, .string ⟨#[]⟩, .string ⟨#[]⟩, .bool false] := fun w => ⟨.agg #[.int .u64 0, .int .u64 0, .int .u64 0, .int .u64 0, .int .i64 0, .string ⟨#[]⟩, .string ⟨#[]⟩, .string ⟨#[]⟩, .bool false], by kernel_rfl, rfl⟩
set_option maxRecDepth 4000 in
theorem c17 (x : Nat) (ρ : RefS) (H : HL) (h : RefRep x ρ H) (hz : Vec) (hlen : ρ.l.length ≤ 1000000) : Tr Try.prog 17 [.pointer (some ⟨x, 0, none⟩), vecV hz] [] H (fun u L' => u = .int .i64 ((ρ.l.length : Int) - (ρ.prune hz).l.length) ∧ RefRep x (ρ.prune hz) L') := by
  obtain ⟨room, q, l, ap⟩ := ρ
  obtain ⟨pW, capW, bs, pL, capL, HW, WH, LH, hp, hW, hW0, hQ, hrow⟩ := h
  refine Tr.perm hp ?_
  dsimp only at *
  obtain ⟨pl2, capl2, hple, hL⟩ := hrow.lies
  cases hple
  refine trEnter Try.func17 rfl Try.ntmps17 (l := [(0, _), (1, _)]) rfl rfl (fun w0 => ?_)
  refine gSeq ?_
  refine gText (σ := wk [(0, .p), (1, .p)]) rfl ?_
  refine pm rfl (mBox rfl rfl) (fun b3 => ?_)
  refine pv rfl (rAs rfl) ?_
  refine gs_nil ?_
  refine gSeq ?_
  refine gText (σ := wk [(0, .p)]) rfl ?_
  refine pv rfl (rAs rfl) ?_
  refine gs_nil ?_
  refine gSeq ?_
  refine gSeq ?_
  refine gText (σ := wk [(0, .p)]) rfl ?_
  refine pv rfl (rAs rfl) ?_
  refine gs_nil ?_
  refine gBlock ?_
  refine gLoop (σ := OG) (fun z => ([(0, .pointer (some ⟨x, 0, none⟩)), (3, .pointer (some ⟨b3, 0, none⟩)), (5, .slice z.q (refOut l hz z.i).length z.cap), (6, .int .i64 (z.i : Nat))], z.Lr ++ ((b3, Obj.cells (List.toArray (vecL hz)) 57) :: (x, Obj.cells (List.toArray (refC room pW bs.length capW pL l.length capL ap)) 78) :: (HW ++ (WH ++ LH))))) (fun z => z.i ≤ l.length ∧ Row 111 9 (refOut l hz z.i).length (versL (refOut l hz z.i)) (.slice z.q (refOut l hz z.i).length z.cap) z.Lr) (fun z => l.length - z.i) ?_ (fun z hs => ?_)
  · refine gInvK (⟨0, none, 0, []⟩) [0, 3, 5, 6] ⟨Nat.zero_le _, Row.nil _ _⟩ rfl rfl
  · obtain ⟨i, q0, cap0, Lr⟩ := z
    obtain ⟨hi, hrw⟩ := hs
    simp only at hi hrw ⊢
    refine gSeq ?_
    refine gSeq ?_
    refine gText (σ := wk [(0, .p), (1, .p), (2, .p), (3, .p), (4, .p), (5, .p), (6, .p)]) rfl ?_
    refine pv rfl (rMv rfl) ?_
    refine pv rfl (rMv rfl) ?_
    refine pv rfl (rNc rfl) ?_
    refine pv rfl (rFa fA78_2 rfl) ?_
    refine pv rfl (rLdN t176 rfl rfl) ?_
    refine pv rfl (rLen uS76 rfl) ?_
    refine pv rfl (rBin rfl rfl bLt) ?_
    refine gs_nil ?_
    refine gKeep [0, 3, 5, 6, 16] rfl ?_
    refine gCondD rfl (fun h0 => ?_) (fun h0 => ?_)
    · have hil : i < l.length := by omega
      obtain ⟨y, hx⟩ : ∃ y, l[i]? = some y := ⟨_, List.getElem?_eq_getElem hil⟩
      obtain ⟨b, o, cl, E, fr, rfl, hm, hv⟩ := hL.at verL_len hx (by decide)
      refine gSkip ?_
      refine gSeq ?_
      refine gBlock ?_
      refine gSeq ?_
      refine gText (σ := wk [(0, .p), (1, .p), (2, .p), (3, .p), (4, .p), (5, .p), (6, .p), (7, .p), (8, .p)]) rfl ?_
      refine pv rfl (rMv rfl) ?_
      refine pv rfl (rNc rfl) ?_
      refine pv rfl (rFa fA78_2 rfl) ?_
      refine pv rfl (rLdN t176 rfl rfl) ?_
      refine pv rfl (rMv rfl) ?_
      refine pv rfl (rIs iS76 rfl rfl ⟨by omega, by show (i : Int) < (l.length : Int); omega⟩) ?_
      refine pv rfl (rLdAm tA111 rfl (List.mem_append_left _ (List.mem_append_right _ (List.mem_cons_of_mem _ (List.mem_cons_of_mem _ (List.mem_append_right _ (List.mem_append_right _ hm)))))) (vs := verL y) rfl (fun j v h => hv j v h)) ?_
      refine pm rfl (mAlloc zC111) (fun b7 => ?_)
      refine ps0 rfl (tSt tA111.2 rfl rfl rfl rfl rfl rfl rfl) ?_
      refine gs_nil ?_
      refine gKeep [0, 3, 5, 6, 7] rfl ?_
      refine gSeq ?_
      refine gText (σ := wk [(0, .p), (1, .p), (2, .p), (3, .p), (4, .p), (5, .p), (6, .p), (7, .p), (8, .p), (9, .p)]) rfl ?_
      refine pv rfl (rMv rfl) ?_
      refine pv rfl (rFa fA111_1 rfl) ?_
      refine pv rfl (rFa fA71_0 rfl) ?_
      refine pv rfl (rLdN t19 rfl rfl) ?_
      refine pv rfl (rFa fA111_1 rfl) ?_
      refine pv rfl (rFa fA71_1 rfl) ?_
      refine pv rfl (rLdN t19 rfl rfl) ?_
      refine pv rfl (rLdA tA57 rfl rfl) ?_
      refine pf (R' := (x, Obj.cells (List.toArray (refC room pW bs.length capW (some ⟨b, o, none⟩) l.length capL ap)) 78) :: LH) rfl eN46 (c46 x room bs.length capW capL pW _ l ap LH hL hlen y.w.bucket y.w.key hz false) ?_
      refine pv rfl (rAs rfl) ?_
      refine gs_nil ?_
      refine gKeep [0, 3, 5, 6, 7, 8] rfl ?_
      refine gSeq ?_
      refine gText (σ := wk [(0, .p), (1, .p), (2, .p), (3, .p), (4, .p), (5, .p), (6, .p), (7, .p), (8, .p), (9, .p)]) rfl ?_
      refine pv rfl (rFa fA111_0 rfl) ?_
      refine pv rfl (rLdA tA61 rfl rfl) ?_
      refine pv rfl (rLdA tA57 rfl rfl) ?_
      refine pf rfl eN47 (c47 y.s hz) ?_
      refine pv rfl (rNot rfl) ?_
      refine pv rfl (rMv rfl) ?_
      refine gB (e := 40) rfl (fun g40 => ?_) (fun g40 => ?_)
      · refine pn rfl ?_
        refine pn rfl ?_
        refine pn rfl ?_
        refine pv rfl (rPk rfl rfl) ?_
        refine gs_nil ?_
        refine gKeep [0, 3, 5, 6, 7, 44] rfl ?_
        refine gCondT rfl rfl ?_
        refine gText (σ := wk [(0, .p), (1, .p), (2, .p), (3, .p), (4, .p)]) rfl ?_
        refine pv rfl (rMv rfl) ?_
        refine pv rfl (rLdA tA111 rfl rfl) ?_
        refine pm rfl (mBs bS76_1 rfl rfl) (fun b47 => ?_)
        refine papp (news := verL y) (m := 1) (L1 := Lr) aP76 rfl rfl hrw rfl (List.mem_append_left _ List.mem_cons_self) rfl (fun j u h => by rw [Nat.zero_add]; exact h) (verL_one y) (by have := refOut_le l hz i; omega) (fun v' L' hv' => ?_)
        have hv2 : Row 111 9 (refOut l hz i ++ [y]).length (versL (refOut l hz i ++ [y])) v' L' := by simpa [versL] using hv'
        obtain ⟨q', cap', rfl, _⟩ := hv2.lies
        refine pv rfl (rAs rfl) ?_
        refine gs_nil ?_
        refine gKeep [0, 3, 5, 6] rfl ?_
        refine gText (σ := wk [(0, .p), (1, .p), (2, .p)]) rfl ?_
        refine pv rfl (rMv rfl) ?_
        refine pv rfl (rBin rfl rfl (bAddI (by omega))) ?_
        refine pv rfl (rAs rfl) ?_
        refine gs_nil ?_
        have ho : refOut l hz (i + 1) = refOut l hz i ++ [y] := by rw [refOut_snoc hx, if_pos (by simp_all [refKeep])]
        rw [← ho] at hv2
        refine gDrop [(b47, Obj.cells (List.toArray (verL y)) 111)] ?_
        refine gDrop [(b7, Obj.cells (List.toArray (verL y)) 111)] ?_
        refine gTo (L' ++ ((b3, Obj.cells (List.toArray (vecL hz)) 57) :: (x, Obj.cells (List.toArray (refC room pW bs.length capW (some ⟨b, o, none⟩) l.length capL ap)) 78) :: (HW ++ (WH ++ LH)))) ?_
        refine gInvK ⟨i + 1, q', cap', L'⟩ [0, 3, 5, 6] ⟨⟨by show i + 1 ≤ _; omega, hv2⟩, by show _ - (i + 1) < _ - i; omega⟩ (by rw [← ho]; rfl) rfl
      · refine pv rfl (rMv rfl) ?_
        refine pv rfl (rMv rfl) ?_
        refine pv rfl (rBin rfl rfl bEq) ?_
        refine pv rfl (rPk rfl rfl) ?_
        refine gs_nil ?_
        refine gKeep [0, 3, 5, 6, 7, 44] rfl ?_
        refine gCond rfl (fun h2 => ?_) (fun h2 => ?_)
        · refine gText (σ := wk [(0, .p), (1, .p), (2, .p), (3, .p), (4, .p)]) rfl ?_
          refine pv rfl (rMv rfl) ?_
          refine pv rfl (rLdA tA111 rfl rfl) ?_
          refine pm rfl (mBs bS76_1 rfl rfl) (fun b47 => ?_)
          refine papp (news := verL y) (m := 1) (L1 := Lr) aP76 rfl rfl hrw rfl (List.mem_append_left _ List.mem_cons_self) rfl (fun j u h => by rw [Nat.zero_add]; exact h) (verL_one y) (by have := refOut_le l hz i; omega) (fun v' L' hv' => ?_)
          have hv2 : Row 111 9 (refOut l hz i ++ [y]).length (versL (refOut l hz i ++ [y])) v' L' := by simpa [versL] using hv'
          obtain ⟨q', cap', rfl, _⟩ := hv2.lies
          refine pv rfl (rAs rfl) ?_
          refine gs_nil ?_
          refine gKeep [0, 3, 5, 6] rfl ?_
          refine gText (σ := wk [(0, .p), (1, .p), (2, .p)]) rfl ?_
          refine pv rfl (rMv rfl) ?_
          refine pv rfl (rBin rfl rfl (bAddI (by omega))) ?_
          refine pv rfl (rAs rfl) ?_
          refine gs_nil ?_
          have ho : refOut l hz (i + 1) = refOut l hz i ++ [y] := by rw [refOut_snoc hx, if_pos (by simp_all [refKeep])]
          rw [← ho] at hv2
          refine gDrop [(b47, Obj.cells (List.toArray (verL y)) 111)] ?_
          refine gDrop [(b7, Obj.cells (List.toArray (verL y)) 111)] ?_
          refine gTo (L' ++ ((b3, Obj.cells (List.toArray (vecL hz)) 57) :: (x, Obj.cells (List.toArray (refC room pW bs.length capW (some ⟨b, o, none⟩) l.length capL ap)) 78) :: (HW ++ (WH ++ LH)))) ?_
          refine gInvK ⟨i + 1, q', cap', L'⟩ [0, 3, 5, 6] ⟨⟨by show i + 1 ≤ _; omega, hv2⟩, by show _ - (i + 1) < _ - i; omega⟩ (by rw [← ho]; rfl) rfl
        · refine gSkip ?_
          refine gText (σ := wk [(0, .p), (1, .p), (2, .p)]) rfl ?_
          refine pv rfl (rMv rfl) ?_
          refine pv rfl (rBin rfl rfl (bAddI (by omega))) ?_
          refine pv rfl (rAs rfl) ?_
          refine gs_nil ?_
          refine gKeep [0, 3, 5, 6] rfl ?_
          have ho : refOut l hz (i + 1) = refOut l hz i := by rw [refOut_snoc hx, if_neg (by simp_all [refKeep])]
          refine gDrop [(b7, Obj.cells (List.toArray (verL y)) 111)] ?_
          refine gTo (Lr ++ ((b3, Obj.cells (List.toArray (vecL hz)) 57) :: (x, Obj.cells (List.toArray (refC room pW bs.length capW (some ⟨b, o, none⟩) l.length capL ap)) 78) :: (HW ++ (WH ++ LH)))) ?_
          refine gInvK ⟨i + 1, q0, cap0, Lr⟩ [0, 3, 5, 6] ⟨⟨by show i + 1 ≤ _; omega, by show Row 111 9 (refOut l hz (i + 1)).length (versL (refOut l hz (i + 1))) (.slice q0 (refOut l hz (i + 1)).length cap0) Lr; rw [ho]; exact hrw⟩, by show _ - (i + 1) < _ - i; omega⟩ (by show _ = some [(0, _), (3, _), (5, Value.slice q0 (refOut l hz (i + 1)).length cap0), (6, _)]; rw [ho]; rfl) rfl
    · have hil : i = l.length := by omega
      subst hil
      refine gExit rfl ?_
      refine gSeq ?_
      refine gText (σ := wk [(0, .p), (1, .p), (2, .p), (3, .p), (4, .p), (5, .p), (6, .p), (7, .p), (8, .p)]) rfl ?_
      refine pv rfl (rMv rfl) ?_
      refine pv rfl (rNc rfl) ?_
      refine pv rfl (rFa fA78_2 rfl) ?_
      refine pv rfl (rLdN t176 rfl rfl) ?_
      refine pv rfl (rLen uS76 rfl) ?_
      refine pv rfl (rMv rfl) ?_
      refine pv rfl (rLen uS76 rfl) ?_
      refine pv rfl (rBin rfl rfl (bSubI (by have := refOut_le l hz l.length; constructor <;> omega))) ?_
      refine pv rfl (rAs rfl) ?_
      refine gs_nil ?_
      refine gKeep [0, 3, 5, 6, 9] rfl ?_
      refine gSeq ?_
      refine gText (σ := wk [(0, .p), (1, .p), (2, .p), (3, .p), (4, .p)]) rfl ?_
      refine pv rfl (rMv rfl) ?_
      refine pv rfl (rMv rfl) ?_
      refine pv rfl (rNc rfl) ?_
      refine pv rfl (rFa fA78_2 rfl) ?_
      refine ps0 rfl (tSt t176.2 rfl rfl rfl rfl rfl rfl rfl) ?_
      refine gs_nil ?_
      refine gKeep [0, 3, 5, 6, 9] rfl ?_
      refine gSeq ?_
      refine gText (σ := wk [(0, .p), (1, .p)]) rfl ?_
      refine pv rfl (rMv rfl) ?_
      refine pv rfl (rAs rfl) ?_
      refine gs_nil ?_
      refine gRet ?_
      refine gDrop [(b3, Obj.cells (List.toArray (vecL hz)) 57)] ?_
      refine gDrop LH ?_
      refine gTo ((x, Obj.cells (List.toArray (refC room pW bs.length capW q0 (refOut l hz l.length).length cap0 ap)) 78) :: (HW ++ (WH ++ Lr))) ?_
      refine gEnd1 (hF := Front.all _) Try.results17 (resT rfl) ⟨rfl, pW, capW, bs, q0, cap0, HW, WH, Lr, List.Perm.refl _, hW, hW0, hQ, hrw⟩

set_option maxRecDepth 4000 in
theorem c19 (x : Nat) (ρ : RefS) (H : HL) (h : RefRep x ρ H) (st : Stamp) (ws : List Write) (q0 : Option Addr) (cap0 : Nat) (R : HL) (hsrc : Src R q0 ws.length (writesL ws)) (hq0 : q0 = none → cap0 = 0) (hlen : ws.length ≤ 1000000) (hql : ρ.q.length ≤ 1000000) : Tr Try.prog 19 [.pointer (some ⟨x, 0, none⟩), stampV st, .slice q0 ws.length cap0] R H (fun u L' => u = .bool (refOK ρ st ws) ∧ RefRep x (ρ.push st ws) L') := by
  obtain ⟨room, q, l, ap⟩ := ρ
  obtain ⟨pW, capW, bs, pL, capL, HW, WH, LH, hp, hW, hW0, hQ, hrow⟩ := h
  refine Tr.perm hp ?_
  dsimp only at *
  have hbl := hQ.len
  have hlw := hsrc.lies (writesL_len ws)
  refine trEnter Try.func19 rfl Try.ntmps19 (l := [(0, _), (1, _), (2, _)]) rfl rfl (fun w0 => ?_)
  refine gSeq ?_
  refine gText (σ := wk [(0, .p), (1, .p)]) rfl ?_
  refine pm rfl (mBox rfl rfl) (fun b4 => ?_)
  refine pv rfl (rAs rfl) ?_
  refine gs_nil ?_
  refine gSeq ?_
  refine gSeq ?_
  refine gD [b4, x] (wk [(0, .q), (1, .p), (2, .q), (3, .q), (4, .q), (5, .q), (6, .q), (7, .q), (8, .q), (9, .q), (10, .q), (11, .q), (12, .q), (13, .q), (14, .q)]) fol (by kernel_rfl) rfl (by kernel_rfl) ?_
  refine qv rfl (rLdA tA61 rfl rfl) ?_
  refine pf rfl eN54 (c54 st) ?_
  refine qv rfl (rNot rfl) ?_
  refine qv rfl (rMv rfl) ?_
  refine gB (e := 11) rfl (fun g11 => ?_) (fun g11 => ?_)
  · have hno : refOK ⟨room, q, l, ap⟩ st ws = false := by simp_all [refOK]
    refine qn rfl ?_
    refine qn rfl ?_
    refine qn rfl ?_
    refine qn rfl ?_
    refine qn rfl ?_
    refine qn rfl ?_
    refine qn rfl ?_
    refine qn rfl ?_
    refine qn rfl ?_
    refine qn rfl ?_
    refine qv rfl (rPk rfl rfl) ?_
    refine gs_nil ?_
    refine gKeep [0, 2, 4, 6, 22] rfl ?_
    refine gCondT rfl rfl ?_
    refine gSeq ?_
    refine gText (σ := wk [(0, .p)]) rfl ?_
    refine pv rfl (rAs rfl) ?_
    refine gs_nil ?_
    refine gRet ?_
    refine gDrop [(b4, Obj.cells (List.toArray (stampL st)) 61)] ?_
    refine gEnd1 (hF := Front.all _) Try.results19 (resT rfl) ⟨by rw [hno], ?_⟩
    unfold RefS.push
    rw [hno]
    exact ⟨pW, capW, bs, pL, capL, HW, WH, LH, List.Perm.refl _, hW, hW0, hQ, hrow⟩
  · refine qv rfl (rMv rfl) ?_
    refine qv rfl (rNc rfl) ?_
    refine qv rfl (rFa fA78_1 rfl) ?_
    refine qv rfl (rLdN t175 rfl rfl) ?_
    refine qv rfl (rLen uS75 rfl) ?_
    refine qv rfl (rMv rfl) ?_
    refine qv rfl (rNc rfl) ?_
    refine qv rfl (rFa fA78_0 rfl) ?_
    refine qv rfl (rLdN t13 rfl rfl) ?_
    refine qv rfl (rBin rfl rfl bGe) ?_
    refine qv rfl (rPk rfl rfl) ?_
    refine gs_nil ?_
    refine gKeep [0, 2, 4, 6, 22] rfl ?_
    refine gCond rfl (fun h1 => ?_) (fun h1 => ?_)
    · have hno : refOK ⟨room, q, l, ap⟩ st ws = false := by have := of_decide_eq_true h1; unfold refOK; rw [decide_eq_false (by show ¬ q.length < room; omega)]; simp
      refine gSeq ?_
      refine gText (σ := wk [(0, .p)]) rfl ?_
      refine pv rfl (rAs rfl) ?_
      refine gs_nil ?_
      refine gRet ?_
      refine gDrop [(b4, Obj.cells (List.toArray (stampL st)) 61)] ?_
      refine gEnd1 (hF := Front.all _) Try.results19 (resT rfl) ⟨by rw [hno], ?_⟩
      unfold RefS.push
      rw [hno]
      exact ⟨pW, capW, bs, pL, capL, HW, WH, LH, List.Perm.refl _, hW, hW0, hQ, hrow⟩
    · have hroom : q.length < room := by have := of_decide_eq_false h1; omega
      have hst : st.ok = true := by simpa using g11
      refine gSkip ?_
      refine gSeq ?_
      refine gSeq ?_
      refine gText (σ := wk [(0, .p)]) rfl ?_
      refine pv rfl (rAs rfl) ?_
      refine gs_nil ?_
      refine gBlock ?_
      refine gLoop (σ := Nat) (fun i => ([(0, .pointer (some ⟨x, 0, none⟩)), (2, .slice q0 ws.length cap0), (4, .pointer (some ⟨b4, 0, none⟩)), (7, .int .i64 (i : Nat))], (b4, Obj.cells (List.toArray (stampL st)) 61) :: (x, Obj.cells (List.toArray (refC room pW bs.length capW pL l.length capL ap)) 78) :: (HW ++ (WH ++ LH)))) (fun i => i ≤ ws.length ∧ noneTo (fun w => !Write.ok w) ws i) (fun i => ws.length - i) ?_ (fun i hs => ?_)
      · refine gInvK (0) [0, 2, 4, 7] ⟨Nat.zero_le _, noneTo_zero _ _⟩ rfl rfl
      · obtain ⟨hi, hn⟩ := hs
        refine gSeq ?_
        refine gSeq ?_
        refine gText (σ := wk [(0, .p), (1, .p), (2, .p), (3, .p)]) rfl ?_
        refine pv rfl (rMv rfl) ?_
        refine pv rfl (rMv rfl) ?_
        refine pv rfl (rLen uS63 rfl) ?_
        refine pv rfl (rBin rfl rfl bLt) ?_
        refine gs_nil ?_
        refine gCondD rfl (fun h2 => ?_) (fun h2 => ?_)
        · have hil : i < ws.length := by omega
          obtain ⟨w, hx⟩ : ∃ w, ws[i]? = some w := ⟨_, List.getElem?_eq_getElem hil⟩
          obtain ⟨b, o, cl, E, fr, rfl, hm, hv⟩ := hlw.at writeL_len hx (by decide)
          refine gSkip ?_
          refine gSeq ?_
          refine gBlock ?_
          refine gSeq ?_
          refine gText (σ := wk [(0, .p), (1, .p), (2, .p), (3, .p), (4, .p), (5, .p)]) rfl ?_
          refine pv rfl (rMv rfl) ?_
          refine pv rfl (rMv rfl) ?_
          refine pv rfl (rIs iS63 rfl rfl ⟨by omega, by show (i : Int) < (ws.length : Int); omega⟩) ?_
          refine pv rfl (rLdAm tA71 rfl (List.mem_append_right _ hm) (vs := writeL w) rfl (fun j v h => hv j v h)) ?_
          refine pf rfl eN55 (c55 w) ?_
          refine pv rfl (rNot rfl) ?_
          refine gs_nil ?_
          refine gKeep [0, 2, 4, 7, 34] rfl ?_
          refine gCond rfl (fun h3 => ?_) (fun h3 => ?_)
          · have hw : ws.all Write.ok = false := by rw [List.all_eq_false]; exact ⟨w, List.mem_of_getElem? hx, by simpa using h3⟩
            have hno : refOK ⟨room, q, l, ap⟩ st ws = false := by unfold refOK; rw [hw]; simp
            refine gSeq ?_
            refine gText (σ := wk [(0, .p)]) rfl ?_
            refine pv rfl (rAs rfl) ?_
            refine gs_nil ?_
            refine gRet ?_
            refine gDrop [(b4, Obj.cells (List.toArray (stampL st)) 61)] ?_
            refine gEnd1 (hF := Front.all _) Try.results19 (resT rfl) ⟨by rw [hno], ?_⟩
            unfold RefS.push
            rw [hno]
            exact ⟨pW, capW, bs, pL, capL, HW, WH, LH, List.Perm.refl _, hW, hW0, hQ, hrow⟩
          · have hwo : (!Write.ok w) = false := h3
            refine gSkip ?_
            refine gText (σ := wk [(0, .p), (1, .p), (2, .p)]) rfl ?_
            refine pv rfl (rMv rfl) ?_
            refine pv rfl (rBin rfl rfl (bAddI (by omega))) ?_
            refine pv rfl (rAs rfl) ?_
            refine gs_nil ?_
            refine gInvK (i + 1) [0, 2, 4, 7] ⟨⟨by omega, noneTo_step hn hx hwo⟩, by omega⟩ rfl rfl
        · have hil : i = ws.length := by omega
          subst hil
          have hall : ws.all Write.ok = true := by have := any_none hn; simpa using this
          refine gExit rfl ?_
          refine gSeq ?_
          refine gD [x, b4] (wk [(0, .q), (1, .q), (2, .q), (3, .q), (4, .q), (6, .q), (7, .q), (5, .p), (8, .p), (9, .q), (10, .p), (11, .p), (12, .q), (13, .q), (14, .p)]) fol (by kernel_rfl) rfl (by kernel_rfl) ?_
          refine qv rfl (rMv rfl) ?_
          refine qv rfl (rMv rfl) ?_
          refine qv rfl (rNc rfl) ?_
          refine qv rfl (rFa fA78_1 rfl) ?_
          refine qv rfl (rLdN t175 rfl rfl) ?_
          refine qv rfl (rLdA tA61 rfl rfl) ?_
          refine qv rfl (rMv rfl) ?_
          refine pappS (A := HW) aP75 rfl rfl rfl hW (fun y hy => by simp [hy]) hW0.1 (batF_len bs) (batF_one bs) (by omega) (fun v1 L1 hv1 => ?_)
          obtain ⟨p1, cap1, rfl, _⟩ := hv1.lies
          refine pappS (A := R) aP63 rfl rfl rfl hsrc (fun y hy => by simp [hy]) hq0 (writesL_len ws) (writesL_one ws) (by omega) (fun v2 L2 hv2 => ?_)
          obtain ⟨p2, cap2, rfl, _⟩ := hv2.lies
          refine qv rfl (rBu bU108 rfl rfl) ?_
          refine pm rfl (mBs bS75_1 rfl rfl) (fun b45 => ?_)
          refine papp (news := batL ⟨st, p2, ws.length, cap2⟩) (m := 1) (L1 := L1) aP75 rfl rfl hv1 rfl (List.mem_append_left _ List.mem_cons_self) rfl (fun j u h => by rw [Nat.zero_add]; exact h) (batL_one _) (by omega) (fun v3 L3 hv3 => ?_)
          have hv4 : Row 108 6 (bs ++ [(⟨st, p2, ws.length, cap2⟩ : Bat)]).length (batF (bs ++ [(⟨st, p2, ws.length, cap2⟩ : Bat)])) v3 L3 := by simpa [batF] using hv3
          obtain ⟨p3, cap3, rfl, hs3, hc3, hn3⟩ := hv4.srcc
          refine qv rfl (rNc rfl) ?_
          refine qv rfl (rFa fA78_1 rfl) ?_
          refine ps rfl (tSt t175.2 rfl rfl rfl rfl rfl rfl rfl) (by kernel_rfl) ?_
          refine gKeep [0, 2, 4, 7] rfl ?_
          refine gSeq ?_
          refine gText (σ := wk [(0, .p)]) rfl ?_
          refine pv rfl (rAs rfl) ?_
          refine gs_nil ?_
          refine gRet ?_
          have hyes : refOK ⟨room, q, l, ap⟩ st ws = true := by unfold refOK; rw [hst, hall, decide_eq_true hroom]; rfl
          refine gDrop [(b45, Obj.cells (List.toArray (batL ⟨st, p2, ws.length, cap2⟩)) 108)] ?_
          refine gDrop [(b4, Obj.cells (List.toArray (stampL st)) 61)] ?_
          refine gDrop HW ?_
          refine gTo ((x, Obj.cells (List.toArray (refC room p3 (bs ++ [(⟨st, p2, ws.length, cap2⟩ : Bat)]).length cap3 pL l.length capL ap)) 78) :: (L3 ++ ((WH ++ L2) ++ LH))) ?_
          refine gEnd1 (hF := Front.all _) Try.results19 (resT rfl) ⟨by rw [hyes], ?_⟩
          unfold RefS.push
          rw [hyes, if_pos rfl]
          exact ⟨p3, cap3, bs ++ [⟨st, p2, ws.length, cap2⟩], pL, capL, L3, WH ++ L2, LH, List.Perm.refl _, hs3, ⟨hc3, hn3⟩, WtF.add hv2 hQ, hrow⟩

set_option maxRecDepth 4000 in
theorem c15 (x : Nat) (ρ : RefS) (H : HL) (h : RefRep x ρ H) (hlen : ρ.l.length ≤ 900000) (hws : ∀ t ∈ ρ.q, t.2.length ≤ 1000) : Tr Try.prog 15 [.pointer (some ⟨x, 0, none⟩)] [] H (fun u L' => u = .bool (!ρ.q.isEmpty) ∧ RefRep x ρ.step L') := by
  obtain ⟨room, q, l, ap⟩ := ρ
  obtain ⟨pW, capW, bs, pL, capL, HW, WH, LH, hp, hW, hW0, hQ, hrow⟩ := h
  refine Tr.perm hp ?_
  dsimp only at *
  have hbl := hQ.len
  refine trEnter Try.func15 rfl Try.ntmps15 (l := [(0, _)]) rfl rfl (fun w0 => ?_)
  refine gSeq ?_
  refine gText (σ := wk [(0, .p)]) rfl ?_
  refine pv rfl (rAs rfl) ?_
  refine gs_nil ?_
  refine gSeq ?_
  refine gSeq ?_
  refine gText (σ := wk [(0, .p), (1, .p), (2, .p), (3, .p), (4, .p), (5, .p)]) rfl ?_
  refine pv rfl (rMv rfl) ?_
  refine pv rfl (rNc rfl) ?_
  refine pv rfl (rFa fA78_1 rfl) ?_
  refine pv rfl (rLdN t175 rfl rfl) ?_
  refine pv rfl (rLen uS75 rfl) ?_
  refine pv rfl (rBin rfl rfl bEq) ?_
  refine gs_nil ?_
  refine gKeep [0, 2, 11] rfl ?_
  refine gCondD rfl (fun h0 => ?_) (fun h0 => ?_)
  · have hq0 : q = [] := List.eq_nil_of_length_eq_zero (by have : (bs.length : Int) = 0 := h0; omega)
    subst hq0
    refine gSeq ?_
    refine gText (σ := wk [(0, .p)]) rfl ?_
    refine pv rfl (rAs rfl) ?_
    refine gs_nil ?_
    refine gRet ?_
    refine gEnd1 (hF := Front.all _) Try.results15 (resT rfl) ⟨rfl, pW, capW, bs, pL, capL, HW, WH, LH, List.Perm.refl _, hW, hW0, hQ, hrow⟩
  · obtain ⟨t, q', rfl⟩ := List.exists_cons_of_ne_nil (show q ≠ [] from fun e => h0 (by rw [e] at hbl; simp [hbl]))
    obtain ⟨pt, capt, bs', Lr, WH', rfl, hrt, hQ', rfl⟩ := hQ
    rcases hW with ⟨_, hbad⟩ | ⟨b, o, cl, E, fr, rfl, hm, hv⟩
    · simp at hbad
    have htl := hws t (by simp)
    simp only [List.append_assoc]
    refine gSkip ?_
    refine gSeq ?_
    refine gText (σ := wk [(0, .p), (1, .p), (2, .p), (3, .p), (4, .p), (5, .p), (6, .p), (7, .p)]) rfl ?_
    refine pv rfl (rMv rfl) ?_
    refine pv rfl (rNc rfl) ?_
    refine pv rfl (rFa fA78_1 rfl) ?_
    refine pv rfl (rLdN t175 rfl rfl) ?_
    refine pv rfl (rIs iS75 rfl rfl ⟨by omega, by show (0 : Int) < ((bs'.length + 1 : Nat) : Int); omega⟩) ?_
    refine pv rfl (rLdAm tA108 rfl (List.mem_append_left _ (List.mem_cons_of_mem _ (List.mem_append_left _ hm))) (vs := batL ⟨t.1, pt, t.2.length, capt⟩) rfl (fun j v h => by have h2 := bat_head (bs := bs') h; have h3 := hv j (List.getElem?_eq_some_iff.1 h2).1; rw [h2] at h3; show cl[o + 0 * 6 + j]? = some v; rw [Nat.zero_mul, Nat.add_zero]; exact h3)) ?_
    refine pm rfl (mAlloc zC108) (fun b3 => ?_)
    refine ps0 rfl (tSt tA108.2 rfl rfl rfl rfl rfl rfl rfl) ?_
    refine gs_nil ?_
    refine gKeep [0, 2, 3] rfl ?_
    refine gSeq ?_
    refine gText (σ := wk [(0, .p), (1, .p), (2, .p), (3, .p), (4, .p), (5, .p), (6, .p), (7, .p), (8, .p)]) rfl ?_
    refine pv rfl (rMv rfl) ?_
    refine pv rfl (rMv rfl) ?_
    refine pv rfl (rNc rfl) ?_
    refine pv rfl (rFa fA78_1 rfl) ?_
    refine pv rfl (rLdN t175 rfl rfl) ?_
    refine pv rfl (rCutL iS75 rfl rfl (by show 1 ≤ bs'.length + 1; omega)) ?_
    refine pv rfl (rNc rfl) ?_
    refine pv rfl (rFa fA78_1 rfl) ?_
    refine ps0 rfl (tSt t175.2 rfl rfl rfl rfl rfl rfl rfl) ?_
    refine gs_nil ?_
    refine gKeep [0, 2, 3] rfl ?_
    refine gSeq ?_
    refine gSeq ?_
    refine gText (σ := wk [(0, .p)]) rfl ?_
    refine pv rfl (rAs rfl) ?_
    refine gs_nil ?_
    refine gBlock ?_
    refine gLoop (σ := Nat × HL) (fun z => ([(0, .pointer (some ⟨x, 0, none⟩)), (3, .pointer (some ⟨b3, 0, none⟩)), (4, .int .i64 (z.1 : Nat))], (b3, Obj.cells (List.toArray (batL ⟨t.1, pt, t.2.length, capt⟩)) 108) :: (Lr ++ z.2))) (fun z => z.1 ≤ t.2.length ∧ RefRep x ⟨room, q', (refAddAll t.1 (t.2.take z.1) l), ap⟩ z.2 ∧ (refAddAll t.1 (t.2.take z.1) l).length ≤ l.length + z.1) (fun z => t.2.length - z.1) ?_ (fun z hs => ?_)
    · refine gTo ((b3, Obj.cells (List.toArray (batL ⟨t.1, pt, t.2.length, capt⟩)) 108) :: (Lr ++ ((x, Obj.cells (List.toArray (refC room (some ⟨b, offc capW 1 o 6, none⟩) (((⟨t.1, pt, t.2.length, capt⟩ : Bat) :: bs').length - 1) (capW - 1) pL l.length capL ap)) 78) :: (HW ++ (WH' ++ LH))))) ?_
      refine gInvK ((0, (x, Obj.cells (List.toArray (refC room (some ⟨b, offc capW 1 o 6, none⟩) (((⟨t.1, pt, t.2.length, capt⟩ : Bat) :: bs').length - 1) (capW - 1) pL l.length capL ap)) 78) :: (HW ++ (WH' ++ LH)))) [0, 3, 4] ⟨Nat.zero_le _, ⟨_, _, bs', pL, capL, HW, WH', LH, List.Perm.refl _, src_tail hm hv hW0.2, ⟨(fun h => nomatch h), by have h5 : bs'.length + 1 ≤ capW := hW0.2; show bs'.length ≤ capW - 1; omega⟩, hQ', hrow⟩, Nat.le_refl _⟩ rfl rfl
    · obtain ⟨i, H2⟩ := z
      obtain ⟨hi, hsh, hll⟩ := hs
      simp only at hi hsh hll ⊢
      refine gSeq ?_
      refine gSeq ?_
      refine gText (σ := wk [(0, .p), (1, .p), (2, .p), (3, .p), (4, .p)]) rfl ?_
      refine pv rfl (rMv rfl) ?_
      refine pv rfl (rFa fA108_1 rfl) ?_
      refine pv rfl (rLdN t163 rfl rfl) ?_
      refine pv rfl (rLen uS63 rfl) ?_
      refine pv rfl (rBin rfl rfl bLt) ?_
      refine gs_nil ?_
      refine gKeep [0, 3, 4, 30] rfl ?_
      refine gCondD rfl (fun h1 => ?_) (fun h1 => ?_)
      · have hil : i < t.2.length := by have h5 : (i : Int) < (t.2.length : Int) := h1; omega
        obtain ⟨w, hx⟩ : ∃ w, t.2[i]? = some w := ⟨_, List.getElem?_eq_getElem hil⟩
        obtain ⟨gw, capt, Tw, he, rfl, hnc, hcm, hT⟩ := hrt.some' (by omega)
        cases he
        refine gSkip ?_
        refine gSeq ?_
        refine gBlock ?_
        refine gD [b3, gw] (wk [(0, .q), (1, .q), (2, .q), (3, .q), (4, .q), (5, .q), (6, .q), (7, .q), (8, .q), (9, .p)]) fol (by kernel_rfl) rfl (by kernel_rfl) ?_
        refine qv rfl (rMv rfl) ?_
        refine qv rfl (rFa fA108_0 rfl) ?_
        refine qv rfl (rLdA tA61 rfl rfl) ?_
        refine qv rfl (rFa fA108_1 rfl) ?_
        refine qv rfl (rLdN t163 rfl rfl) ?_
        refine qv rfl (rMv rfl) ?_
        refine qv rfl (rIs iS63 rfl rfl ⟨by omega, by show (i : Int) < (t.2.length : Int); omega⟩) ?_
        refine qv rfl (rLdAm tA71 rfl (List.mem_append_left _ (List.mem_cons_of_mem _ (List.mem_singleton.2 rfl))) (vs := writeL w) rfl (fun j v h => writes_cell hx j v h)) ?_
        refine qv rfl (rBu bU111 rfl rfl) ?_
        refine pc (R' := []) (L1 := H2) rfl eN41 (c41 x _ H2 hsh ⟨t.1, w⟩ (by show (refAddAll t.1 (t.2.take i) l).length ≤ _; omega)) (fun u H3 hu => ?_)
        obtain ⟨rfl, hsh3⟩ := hu
        refine gs_nil ?_
        refine gKeep [0, 3, 4] rfl ?_
        refine gText (σ := wk [(0, .p), (1, .p), (2, .p)]) rfl ?_
        refine pv rfl (rMv rfl) ?_
        refine pv rfl (rBin rfl rfl (bAddI (by omega))) ?_
        refine pv rfl (rAs rfl) ?_
        refine gs_nil ?_
        refine gTo ((b3, Obj.cells (List.toArray (batL ⟨t.1, some ⟨gw, 0, none⟩, t.2.length, capt⟩)) 108) :: ([(gw, Obj.cells (List.toArray (writesL t.2 ++ Tw)) 71)] ++ H3)) ?_
        refine gInvK (i + 1, H3) [0, 3, 4] ⟨⟨by show i + 1 ≤ _; omega, by show RefRep x ⟨room, q', (refAddAll t.1 (t.2.take (i + 1)) l), ap⟩ H3; rw [refAddAll_snoc hx]; exact hsh3, by show (refAddAll t.1 (t.2.take (i + 1)) l).length ≤ l.length + (i + 1); rw [refAddAll_snoc hx]; have := refAdd_len (refAddAll t.1 (t.2.take i) l) ⟨t.1, w⟩; omega⟩, by show _ - (i + 1) < _ - i; omega⟩ rfl rfl
      · have hil : i = t.2.length := by have h5 : ¬ (i : Int) < (t.2.length : Int) := h1; omega
        subst hil
        rw [List.take_length] at hsh
        refine gExit rfl ?_
        refine gSeq ?_
        refine gText (σ := wk [(0, .p), (1, .p), (2, .p), (3, .p)]) rfl ?_
        refine pv rfl (rFa fA108_0 rfl) ?_
        refine pv rfl (rLdA tA61 rfl rfl) ?_
        refine pf rfl eN42 (c42 t.1) ?_
        refine pv rfl (rAs rfl) ?_
        refine gs_nil ?_
        refine gKeep [0, 3, 4, 5] rfl ?_
        refine gSeq ?_
        obtain ⟨pW2, capW2, bs2, pL2, capL2, HW2, WH2, LH2, hp2, hW2, hW02, hQ2, hrow2⟩ := hsh
        refine gPerm ((hp2.append_left Lr).cons _) ?_
        dsimp only
        refine gD [x, b3] (wk [(0, .q), (1, .q), (2, .q), (3, .q), (4, .q), (5, .q), (6, .q), (7, .q), (8, .q), (9, .q), (10, .q), (11, .q), (12, .q), (13, .q), (14, .q), (15, .q), (16, .p), (17, .q), (18, .p), (19, .q), (20, .q), (21, .p)]) fol (by kernel_rfl) rfl (by kernel_rfl) ?_
        refine qv rfl (rMv rfl) ?_
        refine qv rfl (rMv rfl) ?_
        refine qv rfl (rNc rfl) ?_
        refine qv rfl (rFa fA78_3 rfl) ?_
        refine qv rfl (rLdA tA57 rfl rfl) ?_
        refine qv rfl (rFa fA108_0 rfl) ?_
        refine qv rfl (rFa fA61_1 rfl) ?_
        refine qv rfl (rLdN t13 rfl rfl) ?_
        refine qv rfl (rMv rfl) ?_
        refine qv rfl (rMv rfl) ?_
        refine qv rfl (rNc rfl) ?_
        refine qv rfl (rFa fA78_3 rfl) ?_
        refine qv rfl (rLdA tA57 rfl rfl) ?_
        refine qv rfl (rFa fA108_0 rfl) ?_
        refine qv rfl (rFa fA61_1 rfl) ?_
        refine qv rfl (rLdN t13 rfl rfl) ?_
        refine pf rfl eN44 (c44 ap t.1.dc) ?_
        refine qv rfl (rMax2 rfl rfl) ?_
        refine pf rfl eN43 (c43 ap t.1.dc (max t.1.n (ap.at' t.1.dc))) ?_
        refine qv rfl (rNc rfl) ?_
        refine qv rfl (rFa fA78_3 rfl) ?_
        refine ps rfl (tSt tA57.2 rfl rfl rfl rfl rfl rfl rfl) (by kernel_rfl) ?_
        refine gKeep [0, 3, 4] rfl ?_
        refine gSeq ?_
        refine gText (σ := wk [(0, .p)]) rfl ?_
        refine pv rfl (rAs rfl) ?_
        refine gs_nil ?_
        refine gRet ?_
        refine gDrop [(b3, Obj.cells (List.toArray (batL ⟨t.1, pt, t.2.length, capt⟩)) 108)] ?_
        refine gDrop Lr ?_
        refine gEnd1 (hF := Front.all _) Try.results15 (resT rfl) ⟨rfl, pW2, capW2, bs2, pL2, capL2, HW2, WH2, LH2, List.Perm.refl _, hW2, hW02, hQ2, hrow2⟩
end Go.Proofs.Yteeobhehfdifnaa
