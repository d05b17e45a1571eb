/- A part of the proof that shardPlays of chapter 10 returns true at every room and every list of deeds, and leaves its arguments as they read; no condition. -/
import Derived.Test.YteeobhehfdifnaaCd
import Derived.Test.YteeobhehfdifnaaTBc
set_option linter.unusedVariables false
set_option linter.unusedSimpArgs false
set_option linter.unusedVariables false
set_option linter.unusedSimpArgs false
namespace Go.Proofs.Yteeobhehfdifnaa
open Go TB Go.Proofs
theorem tA40 : TA Try.prog 40 8 := ⟨fun w => by kernel_rfl, fun w => by kernel_rfl⟩
theorem eN11 : EN Try.prog 11 := fun args w => by kernel_rfl
theorem eN8 : EN Try.prog 8 := fun args w => by kernel_rfl
theorem fA51_0 : FA Try.prog 51 0 0 := fun b o w => by kernel_rfl
theorem iS85 : IS Try.prog 85 8 := ⟨_, Try.underlying85, fun w => by kernel_rfl⟩
theorem uS85 : ∃ e, Try.prog.underlying 85 = some (.slice e) := ⟨_, Try.underlying85⟩
theorem zC40 : ZC Try.prog 40 [.int .u64 0, .int .u64 0, .int .u64 0, .int .u64 0, .int .i64 0, .bool false, .slice none 0 0, .bool false] := fun w => ⟨.agg #[.int .u64 0, .int .u64 0, .int .u64 0, .int .u64 0, .int .i64 0, .bool false, .slice none 0 0, .bool false], by kernel_rfl, rfl⟩
theorem bNe33 (s t : Vec) : BinR Try.prog .neq 33 (vecV s) (vecV t) (.bool (decide (s ≠ t))) := (by
  have := bNeOf (bEq33 s t) (by kernel_rfl)
  have e : decide (s ≠ t) = !decide (s = t) := by simp
  rw [e]; exact this)
set_option maxRecDepth 4000 in
theorem c7 (xs : List DealA) (p : Option Addr) (cap0 : Nat) (R : HL) (hl : Lies R p (dealsL xs)) (hlen : xs.length ≤ 9223372036854775807) (hR : ∀ x ∈ xs, DealR R x) : Pf Try.prog 7 [.slice p xs.length cap0] R (.bool true) := by
  refine trEnter Try.func7 rfl Try.ntmps7 (l := [(0, _)]) rfl rfl (fun w0 => ?_)
  refine gSeq ?_
  refine gText (σ := wk [(0, .p)]) rfl ?_
  refine pv rfl (rAs rfl) ?_
  refine gs_nil ?_
  refine gSeq ?_
  refine gText (σ := wk [(0, .p), (1, .p)]) rfl ?_
  refine pf rfl eN8 c8 ?_
  refine pv rfl (rAs rfl) ?_
  refine gs_nil ?_
  refine gSeq ?_
  refine gSeq ?_
  refine gText (σ := wk [(0, .p), (1, .p)]) rfl ?_
  refine pv rfl (rMv rfl) ?_
  refine pv rfl (rNot rfl) ?_
  refine gs_nil ?_
  refine gCondF rfl rfl ?_
  refine gSkip ?_
  refine gSeq ?_
  refine gText (σ := wk [(0, .p), (1, .p), (2, .p), (3, .p), (4, .p), (5, .p)]) rfl ?_
  refine pc (R' := []) rfl eN9 (c9 16) (fun u H0 hv => ?_)
  rw [if_neg (by decide)] at hv
  obtain ⟨s, rfl, hH0⟩ := hv
  rw [List.append_nil]
  change ShRep T0 s ⟨16, [], fun _ => [], Vec.zero⟩ H0 at hH0
  refine pv rfl (rMv rfl) ?_
  refine pv rfl (rEx rfl rfl) ?_
  refine pv rfl (rEx rfl rfl) ?_
  refine pv rfl (rAs rfl) ?_
  refine pv rfl (rAs rfl) ?_
  refine gs_nil ?_
  refine gKeep [0, 2, 3, 4, 5] rfl ?_
  refine gSeq ?_
  refine gSeq ?_
  refine gText (σ := wk [(0, .p), (1, .p), (2, .p), (3, .p), (4, .p), (5, .p)]) rfl ?_
  refine pv rfl (rMv rfl) ?_
  refine pv rfl (rBin rfl rfl (bPtNil Try.underlying25)) ?_
  refine pv rfl (rMv rfl) ?_
  refine gB (e := 19) rfl (fun g19 => by cases g19) (fun _ => ?_)
  refine pv rfl (rMv rfl) ?_
  refine pv rfl (rBin rfl rfl bNe) ?_
  refine pv rfl (rPk rfl rfl) ?_
  refine gs_nil ?_
  refine gKeep [0, 2, 3, 4, 22] rfl ?_
  refine gCondF rfl (by decide) ?_
  refine gSkip ?_
  refine gSeq ?_
  refine gText (σ := wk [(0, .p), (1, .p), (2, .p)]) rfl ?_
  refine pv rfl (rBu bU33 rfl rfl) ?_
  refine pm rfl (mAlloc zC33) (fun b6 => ?_)
  refine ps0 rfl (tSt tA33.2 rfl rfl rfl rfl rfl rfl rfl) ?_
  refine gs_nil ?_
  refine gSeq ?_
  refine gSeq ?_
  refine gText (σ := wk [(0, .p)]) rfl ?_
  refine pv rfl (rAs rfl) ?_
  refine gs_nil ?_
  refine gBlock ?_
  refine gLoop (σ := AG) (fun z => ([(0, .slice p xs.length cap0), (3, .bool true), (4, .pointer (some ⟨s, 0, none⟩)), (6, .pointer (some ⟨b6, 0, none⟩)), (7, .int .i64 (z.i : Nat))], (b6, Obj.cells (List.toArray (vecL z.ap)) 33) :: z.H)) (fun z => z.i ≤ xs.length ∧ z.i ≤ 12 ∧ ShRep T0 s ⟨16, [], z.g, z.ap⟩ z.H ∧ GOK z.g (10 * z.i)) (fun z => xs.length - z.i) ?_ (fun z hs => ?_)
  · refine gInvK (⟨0, fun _ => [], Vec.zero, H0⟩) [0, 3, 4, 6, 7] ⟨Nat.zero_le _, Nat.zero_le _, hH0, gok_nil⟩ rfl rfl
  · obtain ⟨i, gg, ap, H⟩ := z
    obtain ⟨hi, hi12, hsh, hgok⟩ := hs
    simp only at hi hi12 hsh hgok ⊢
    refine gSeq ?_
    refine gSeq ?_
    refine gText (σ := wk [(0, .p), (1, .p), (2, .p), (3, .p), (4, .p), (5, .p), (6, .p), (7, .p)]) rfl ?_
    refine pv rfl (rMv rfl) ?_
    refine pv rfl (rMv rfl) ?_
    refine pv rfl (rLen uS85 rfl) ?_
    refine pv rfl (rBin rfl rfl bLt) ?_
    refine pv rfl (rMv rfl) ?_
    refine gB (e := 28) rfl (fun g28 => ?_) (fun g28 => ?_)
    · have hin : i < xs.length := by have := of_decide_eq_true g28; omega
      refine pv rfl (rMv rfl) ?_
      refine pv rfl (rBin rfl rfl bLt) ?_
      refine pv rfl (rPk rfl rfl) ?_
      refine gs_nil ?_
      refine gKeep [0, 3, 4, 6, 7, 31] rfl ?_
      refine gCondD rfl (fun h2 => ?_) (fun h2 => ?_)
      · have hx := List.getElem?_eq_getElem hin
        generalize xs[i] = x at hx
        have hxR := hR x (List.mem_of_getElem? hx)
        obtain ⟨b, o, cl, E, fr, rfl, hm, hv⟩ := hl.at dealL_len hx (by decide)
        obtain ⟨hst1, hst2, hst3, hst4, _⟩ := dealSt_spec (d := { x.d with own := true }) rfl hxR.vec
        have hwok := dealWs_ok (d := { x.d with own := true }) rfl
        have hwl := dealWs_len { x.d with own := true }
        refine gSkip ?_
        refine gSeq ?_
        refine gBlock ?_
        refine gSeq ?_
        refine gText (σ := wk [(0, .p), (1, .p), (2, .p), (3, .p), (4, .p), (5, .p)]) rfl ?_
        refine pv rfl (rMv rfl) ?_
        refine pv rfl (rMv rfl) ?_
        refine pv rfl (rIs iS85 rfl rfl ⟨by omega, by omega⟩) ?_
        refine pv rfl (rLdAm tA40 rfl (List.mem_append_right _ hm) (vs := dealL x) rfl (fun j v h => hv j v h)) ?_
        refine pm rfl (mAlloc zC40) (fun b8 => ?_)
        refine ps0 rfl (tSt tA40.2 rfl rfl rfl rfl rfl rfl rfl) ?_
        refine gs_nil ?_
        refine gKeep [0, 3, 4, 6, 7, 8] rfl ?_
        refine gSeq ?_
        refine gText (σ := wk [(0, .p), (1, .p)]) rfl ?_
        refine pv rfl (rFa fA40_2 rfl) ?_
        refine ps0 rfl (tSt t14.2 rfl rfl rfl rfl rfl rfl rfl) ?_
        refine gs_nil ?_
        refine gSeq ?_
        refine gText (σ := wk [(0, .p), (1, .p), (2, .p), (3, .p)]) rfl ?_
        refine pv rfl (rLdA tA40 rfl rfl) ?_
        refine pc (R' := R) rfl eN11 (c11 { x.d with own := true } x.p x.cap R hxR.src hxR.len) (fun u Lr hu => ?_)
        obtain ⟨q, cap, rfl, hr⟩ := hu
        obtain ⟨q2, cap2, he, hsr⟩ := hr.src
        cases he
        refine pm rfl (mAlloc zC51) (fun b9 => ?_)
        refine ps0 rfl (tSt tA51.2 rfl rfl rfl rfl rfl rfl rfl) ?_
        refine gs_nil ?_
        refine gKeep [0, 3, 4, 6, 7, 9] rfl ?_
        refine gSeq ?_
        refine gSeq ?_
        refine gD [b9, b6] (wk [(0, .q), (1, .q), (2, .q), (3, .q), (4, .q), (5, .p), (6, .q), (7, .q), (8, .q), (10, .q), (9, .p), (11, .q), (12, .q), (13, .q), (14, .q), (15, .p), (16, .q), (17, .q)]) fol (by kernel_rfl) rfl (by kernel_rfl) ?_
        refine qv rfl (rMv rfl) ?_
        refine qv rfl (rFa fA51_0 rfl) ?_
        refine qv rfl (rLdA tA35 rfl rfl) ?_
        refine qv rfl (rFa fA51_1 rfl) ?_
        refine qv rfl (rLdN t149 rfl rfl) ?_
        refine pc (R' := Lr) (L1 := H) rfl eN18 (c18 s ⟨16, [], gg, ap⟩ H hsh (dealSt { x.d with own := true }) (dealWs { x.d with own := true }) q cap Lr hsr (by omega)) (fun u H1 hu => ?_)
        obtain ⟨rfl, hsh1⟩ := hu
        have hpo : pushOK ⟨16, [], gg, ap⟩ (dealSt { x.d with own := true }) (dealWs { x.d with own := true }) = true := by unfold pushOK; rw [hst1, hwok]; rfl
        have e1 : ShS.push ⟨16, [], gg, ap⟩ (dealSt { x.d with own := true }) (dealWs { x.d with own := true }) = ⟨16, [(dealSt { x.d with own := true }, dealWs { x.d with own := true })], gg, ap⟩ := by unfold ShS.push; rw [hpo]; rfl
        rw [e1] at hsh1
        refine gV (u := .bool true) 46 rfl (by rw [hpo]) ?_
        simp only [List.append_assoc]
        refine qv rfl (rNot rfl) ?_
        refine qv rfl (rMv rfl) ?_
        refine gB (e := 48) rfl (fun g48 => by cases g48) (fun _ => ?_)
        refine qv rfl (rMv rfl) ?_
        refine qv rfl (rLdA tA33 rfl rfl) ?_
        refine pf (R' := H1) rfl eN28 (c28 s _ H1 hsh1) ?_
        refine qv rfl (rBin rfl rfl (bNe33 ap ap)) ?_
        refine gV (u := .bool false) 52 rfl (by simp) ?_
        refine qv rfl (rPk rfl rfl) ?_
        refine qv rfl (rMv rfl) ?_
        refine gB (e := 54) rfl (fun g54 => by cases g54) (fun _ => ?_)
        refine qv rfl (rMv rfl) ?_
        refine pc (R' := []) (L1 := H1) rfl eN14 (c14 s _ H1 hsh1 (GOK.step (n := 10 * i) hgok (by omega) (by intro y hy; simp at hy; subst hy; exact hwl))) (fun u H2 hu => ?_)
        obtain ⟨rfl, hsh2⟩ := hu
        change ShRep T0 s ⟨16, [], applyW (dealSt { x.d with own := true }) (dealWs { x.d with own := true }) gg, ap.set' (dealSt { x.d with own := true }).dc (max (dealSt { x.d with own := true }).n (ap.at' (dealSt { x.d with own := true }).dc))⟩ H2 at hsh2
        simp only [List.append_assoc]
        refine qv rfl (rNot rfl) ?_
        refine qv rfl (rPk rfl rfl) ?_
        refine gs_nil ?_
        refine gKeep [0, 3, 4, 6, 7, 9, 58] rfl ?_
        refine gCondF rfl rfl ?_
        refine gSkip ?_
        refine gSeq ?_
        obtain ⟨apn, hapn⟩ : ∃ apn, ap.set' (dealSt { x.d with own := true }).dc (max (dealSt { x.d with own := true }).n (ap.at' (dealSt { x.d with own := true }).dc)) = apn := ⟨_, rfl⟩
        rw [hapn] at hsh2
        refine gD [b6, b9] (wk [(0, .q), (1, .q), (2, .q), (3, .q), (4, .q), (5, .q), (6, .q), (7, .q), (9, .q), (10, .q), (8, .p), (11, .p), (12, .q), (13, .p), (14, .p)]) fol (by kernel_rfl) rfl (by kernel_rfl) ?_
        refine qv rfl (rLdA tA33 rfl rfl) ?_
        refine qv rfl (rFa fA51_0 rfl) ?_
        refine qv rfl (rFa fA35_1 rfl) ?_
        refine qv rfl (rLdN t13 rfl rfl) ?_
        refine qv rfl (rLdA tA33 rfl rfl) ?_
        refine qv rfl (rFa fA51_0 rfl) ?_
        refine qv rfl (rFa fA35_1 rfl) ?_
        refine qv rfl (rLdN t13 rfl rfl) ?_
        refine qv rfl (rFa fA51_0 rfl) ?_
        refine qv rfl (rLdA tA35 rfl rfl) ?_
        refine pf rfl eN33 (c33 ap (dealSt { x.d with own := true }).dc) ?_
        refine pf rfl eN31 (c31 (dealSt { x.d with own := true })) ?_
        refine qv rfl (rMax2 rfl rfl) ?_
        refine pf rfl eN30 (c30 ap (dealSt { x.d with own := true }).dc (max (ap.at' (dealSt { x.d with own := true }).dc) (dealSt { x.d with own := true }).n)) ?_
        refine gV (u := vecV apn) 72 rfl (by rw [← hapn, Int.max_comm]) ?_
        refine ps rfl (tSt tA33.2 rfl rfl rfl rfl rfl rfl rfl) (by kernel_rfl) ?_
        refine gKeep [0, 3, 4, 6, 7] rfl ?_
        refine gSeq ?_
        refine gD [b6] (wk [(0, .q), (2, .q), (1, .p), (3, .q), (4, .q), (5, .q), (6, .p), (7, .q), (8, .q)]) fol (by kernel_rfl) rfl (by kernel_rfl) ?_
        refine qv rfl (rMv rfl) ?_
        refine qv rfl (rLdA tA33 rfl rfl) ?_
        refine pf (R' := H2) rfl eN28 (c28 s _ H2 hsh2) ?_
        refine qv rfl (rBin rfl rfl (bNe33 apn apn)) ?_
        refine gV (u := .bool false) 76 rfl (by simp) ?_
        refine qv rfl (rMv rfl) ?_
        refine gB (e := 77) rfl (fun g77 => by cases g77) (fun _ => ?_)
        refine qv rfl (rMv rfl) ?_
        refine pf (R' := H2) rfl eN26 (c26 s _ H2 hsh2) ?_
        refine qv rfl (rBin rfl rfl bNe) ?_
        refine gV (u := .bool false) 80 rfl rfl ?_
        refine qv rfl (rPk rfl rfl) ?_
        refine gs_nil ?_
        refine gKeep [0, 3, 4, 6, 7, 81] rfl ?_
        refine gCondF rfl rfl ?_
        refine gSkip ?_
        refine gText (σ := wk [(0, .p), (1, .p), (2, .p)]) rfl ?_
        refine pv rfl (rMv rfl) ?_
        refine pv rfl (rBin rfl rfl (bAddI (by omega))) ?_
        refine pv rfl (rAs rfl) ?_
        refine gs_nil ?_
        refine gDrop [(b9, Obj.cells (List.toArray (batL ⟨dealSt { x.d with own := true }, q, (dealWs { x.d with own := true }).length, cap⟩)) 51)] ?_
        refine gDrop [(b8, Obj.cells (List.toArray [.int .u64 x.d.m.s.v.a, .int .u64 x.d.m.s.v.b, .int .u64 x.d.m.s.v.c, .int .u64 x.d.m.s.v.d, .int .i64 x.d.m.s.dc, .bool x.d.m.own, .slice x.p x.d.ps.length x.cap, .bool true]) 40)] ?_
        refine gDrop Lr ?_
        refine gTo ((b6, Obj.cells (List.toArray (vecL apn)) 33) :: H2) ?_
        refine gInvK ⟨i + 1, _, apn, H2⟩ [0, 3, 4, 6, 7] ⟨⟨by show i + 1 ≤ _; omega, by show i + 1 ≤ _; omega, hsh2, ?_⟩, by show _ - (i + 1) < _ - i; omega⟩ rfl rfl
        exact ⟨applyW_sorted hgok.sorted, fun k => Nat.le_trans (applyW_len hgok.len k) (by have := dealWs_len { x.d with own := true }; show _ ≤ 10 * (i + 1); omega)⟩
      · refine gExit rfl ?_
        refine gSeq ?_
        refine gText (σ := wk [(0, .p), (1, .p), (2, .p), (3, .p), (4, .p), (5, .p), (6, .p)]) rfl ?_
        refine pv rfl (rMv rfl) ?_
        refine pv rfl (rMv rfl) ?_
        refine gB (e := 83) rfl (fun _ => ?_) (fun g83 => by cases g83)
        refine pv rfl (rMv rfl) ?_
        refine pc (R' := []) (L1 := H) rfl eN14 (c14 s _ H hsh (GOK.step (n := 10 * i) hgok (by omega) (fun y hy => nomatch hy))) (fun u H2 hu => ?_)
        obtain ⟨rfl, hsh2⟩ := hu
        refine pv rfl (rNot rfl) ?_
        refine pv rfl (rPk rfl rfl) ?_
        refine pv rfl (rAs rfl) ?_
        refine gs_nil ?_
        refine gKeep [0, 2, 3, 4, 6, 7] rfl ?_
        refine gRet ?_
        refine gEnd1 Try.results7 (resT rfl) ⟨?_, rfl⟩
        rfl
    · refine pn rfl ?_
      refine pn rfl ?_
      refine pv rfl (rPk rfl rfl) ?_
      refine gs_nil ?_
      refine gKeep [0, 3, 4, 6, 7, 31] rfl ?_
      refine gCondF rfl rfl ?_
      refine gExit rfl ?_
      refine gSeq ?_
      refine gText (σ := wk [(0, .p), (1, .p), (2, .p), (3, .p), (4, .p), (5, .p), (6, .p)]) rfl ?_
      refine pv rfl (rMv rfl) ?_
      refine pv rfl (rMv rfl) ?_
      refine gB (e := 83) rfl (fun _ => ?_) (fun g83 => by cases g83)
      refine pv rfl (rMv rfl) ?_
      refine pc (R' := []) (L1 := H) rfl eN14 (c14 s _ H hsh (GOK.step (n := 10 * i) hgok (by omega) (fun y hy => nomatch hy))) (fun u H2 hu => ?_)
      obtain ⟨rfl, hsh2⟩ := hu
      refine pv rfl (rNot rfl) ?_
      refine pv rfl (rPk rfl rfl) ?_
      refine pv rfl (rAs rfl) ?_
      refine gs_nil ?_
      refine gKeep [0, 2, 3, 4, 6, 7] rfl ?_
      refine gRet ?_
      refine gEnd1 Try.results7 (resT rfl) ⟨?_, rfl⟩
      rfl
end Go.Proofs.Yteeobhehfdifnaa
