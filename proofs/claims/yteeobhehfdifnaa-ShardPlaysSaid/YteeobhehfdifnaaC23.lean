/- A part of the proof that shardPlays of chapter 10 returns true at every room and every list of deeds, and leaves its arguments as they read; no condition. -/
import Derived.Test.YteeobhehfdifnaaC22
import Derived.Test.YteeobhehfdifnaaTBf
set_option linter.unusedVariables false
set_option linter.unusedSimpArgs false
set_option linter.unusedVariables false
set_option linter.unusedSimpArgs false
namespace Go.Proofs.Yteeobhehfdifnaa
open Go TB Go.Proofs
theorem t176 : T1 Try.prog 76 := ⟨fun w => by kernel_rfl, fun w => by kernel_rfl⟩
theorem eN47 : EN Try.prog 47 := fun args w => by kernel_rfl
theorem eN72 : EN Try.prog 72 := fun args w => by kernel_rfl
theorem fA111_0 : FA Try.prog 111 0 0 := fun b o w => by kernel_rfl
theorem fA111_1 : FA Try.prog 111 1 5 := fun b o w => by kernel_rfl
theorem fA78_2 : FA Try.prog 78 2 2 := fun b o w => by kernel_rfl
theorem iS76 : IS Try.prog 76 9 := ⟨_, Try.underlying76, fun w => by kernel_rfl⟩
theorem uS76 : ∃ e, Try.prog.underlying 76 = some (.slice e) := ⟨_, Try.underlying76⟩
set_option maxRecDepth 4000 in
theorem c46 (x room nW capW capL : Nat) (pW pL : Option Addr) (l : List Ver) (ap : Vec) (LH : HL) (hL : Lies LH pL (versL l)) (hlen : l.length ≤ 1000000) (bk ky : ByteArray) (v : Vec) (all : Bool) : Pf Try.prog 46 [.pointer (some ⟨x, 0, none⟩), .string bk, .string ky, vecV v, .bool all] ((x, Obj.cells (List.toArray (refC room pW nW capW pL l.length capL ap)) 78) :: LH) (.int .i64 (idxB (refBest (refP (bk, ky) v all) l 0 none))) := by
  refine trEnter Try.func46 rfl Try.ntmps46 (l := [(0, _), (1, _), (2, _), (3, _), (4, _)]) rfl rfl (fun w0 => ?_)
  refine gSeq ?_
  refine gText (σ := wk [(0, .p), (1, .p)]) rfl ?_
  refine pm rfl (mBox rfl rfl) (fun b8 => ?_)
  refine pv rfl (rAs rfl) ?_
  refine gs_nil ?_
  refine gSeq ?_
  refine gText (σ := wk [(0, .p)]) rfl ?_
  refine pv rfl (rAs rfl) ?_
  refine gs_nil ?_
  refine gSeq ?_
  refine gSeq ?_
  refine gText (σ := wk [(0, .p)]) rfl ?_
  refine pv rfl (rAs rfl) ?_
  refine gs_nil ?_
  refine gBlock ?_
  refine gLoop (σ := Nat × Option (Nat × Ver)) (fun z => ([(0, .pointer (some ⟨x, 0, none⟩)), (1, .string bk), (2, .string ky), (4, .bool all), (8, .pointer (some ⟨b8, 0, none⟩)), (11, .int .i64 (idxB z.2)), (12, .int .i64 (z.1 : Nat))], [(b8, Obj.cells (List.toArray (vecL v)) 57)])) (fun z => z.1 ≤ l.length ∧ refBest (refP (bk, ky) v all) (l.drop z.1) z.1 z.2 = (refBest (refP (bk, ky) v all) l 0 none) ∧ ∀ k y, z.2 = some (k, y) → l[k]? = some y) (fun z => l.length - z.1) ?_ (fun z hs => ?_)
  · refine gInvK ((0, none)) [0, 1, 2, 4, 8, 11, 12] ⟨Nat.zero_le _, rfl, fun _ _ h => nomatch h⟩ rfl rfl
  · obtain ⟨i, best⟩ := z
    obtain ⟨hi, hbest, hbk⟩ := hs
    simp only at hi hbest hbk ⊢
    refine gSeq ?_
    refine gSeq ?_
    refine gText (σ := wk [(0, .p), (1, .p), (2, .p), (3, .p), (4, .p), (5, .p), (6, .p)]) rfl ?_
    refine pv rfl (rMv rfl) ?_
    refine pv rfl (rMv rfl) ?_
    refine pv rfl (rNc rfl) ?_
    refine pv rfl (rFa fA78_2 rfl) ?_
    refine pv rfl (rLdN t176 rfl rfl) ?_
    refine pv rfl (rLen uS76 rfl) ?_
    refine pv rfl (rBin rfl rfl bLt) ?_
    refine gs_nil ?_
    refine gKeep [0, 1, 2, 4, 8, 11, 12, 19] rfl ?_
    refine gCondD rfl (fun h0 => ?_) (fun h0 => ?_)
    · have hil : i < l.length := by omega
      obtain ⟨y, hx⟩ : ∃ y, l[i]? = some y := ⟨_, List.getElem?_eq_getElem hil⟩
      obtain ⟨b, o, cl, E, fr, rfl, hm, hv⟩ := hL.at verL_len hx (by decide)
      refine gSkip ?_
      refine gSeq ?_
      refine gBlock ?_
      refine gSeq ?_
      refine gSeq ?_
      refine gD [b8] (wk [(0, .q), (1, .q), (2, .q), (3, .q), (4, .q), (5, .q), (6, .q), (7, .q), (8, .q), (9, .q), (10, .q), (11, .q), (12, .q), (13, .q), (14, .q), (15, .q), (16, .q), (17, .q), (18, .q), (19, .q), (20, .q), (21, .q), (22, .q), (23, .q), (24, .q), (25, .q), (26, .q), (27, .q), (28, .q), (29, .q), (30, .q), (31, .q), (32, .q), (33, .q), (34, .q), (35, .q), (36, .q), (37, .p), (38, .q), (39, .q), (40, .q)]) fol (by kernel_rfl) rfl (by kernel_rfl) ?_
      refine qv rfl (rMv rfl) ?_
      refine qv rfl (rNc rfl) ?_
      refine qv rfl (rFa fA78_2 rfl) ?_
      refine qv rfl (rLdN t176 rfl rfl) ?_
      refine qv rfl (rMv rfl) ?_
      refine qv rfl (rIs iS76 rfl rfl ⟨by omega, by show (i : Int) < (l.length : Int); omega⟩) ?_
      refine qv rfl (rFa fA111_1 rfl) ?_
      refine qv rfl (rFa fA71_0 rfl) ?_
      refine qv rfl (rLd1m t19 rfl (List.mem_append_right _ (List.mem_cons_of_mem _ hm)) (hv 5 _ rfl)) ?_
      refine qv rfl (rMv rfl) ?_
      refine qv rfl (rBin rfl rfl bNeS) ?_
      refine qv rfl (rMv rfl) ?_
      refine gB (e := 33) rfl (fun g33 => ?_) (fun g33 => ?_)
      · refine qn rfl ?_
        refine qn rfl ?_
        refine qn rfl ?_
        refine qn rfl ?_
        refine qn rfl ?_
        refine qn rfl ?_
        refine qn rfl ?_
        refine qn rfl ?_
        refine qn rfl ?_
        refine qn rfl ?_
        refine qn rfl ?_
        refine qv rfl (rPk rfl rfl) ?_
        refine qv rfl (rMv rfl) ?_
        refine qn rfl ?_
        refine qn rfl ?_
        refine qn rfl ?_
        refine qn rfl ?_
        refine qn rfl ?_
        refine qn rfl ?_
        refine qn rfl ?_
        refine qn rfl ?_
        refine qn rfl ?_
        refine qn rfl ?_
        refine qn rfl ?_
        refine qn rfl ?_
        refine pn rfl ?_
        refine qn rfl ?_
        refine qn rfl ?_
        refine qv rfl (rPk rfl rfl) ?_
        refine gs_nil ?_
        refine gKeep [0, 1, 2, 4, 8, 11, 12, 62] rfl ?_
        refine gCondT rfl rfl ?_
        refine gExit rfl ?_
        refine gText (σ := wk [(0, .p), (1, .p), (2, .p)]) rfl ?_
        refine pv rfl (rMv rfl) ?_
        refine pv rfl (rBin rfl rfl (bAddI (by omega))) ?_
        refine pv rfl (rAs rfl) ?_
        refine gs_nil ?_
        first | refine gInvK (i + 1, best) [0, 1, 2, 4, 8, 11, 12] ⟨⟨by show i + 1 ≤ _; omega, (by rw [← hbest, refBest_at hx]; rw [if_neg (by simp_all [refP])]), hbk⟩, by show _ - (i + 1) < _ - i; omega⟩ rfl rfl | refine gInvK (i + 1, some (i, y)) [0, 1, 2, 4, 8, 11, 12] ⟨⟨by show i + 1 ≤ _; omega, (by rw [← hbest, refBest_at hx]; rw [if_pos (by simp_all [refP, better])]), (by intro k2 y2 h2; cases h2; exact hx)⟩, by show _ - (i + 1) < _ - i; omega⟩ rfl rfl | refine gInvK (i + 1, some (k, z)) [0, 1, 2, 4, 8, 11, 12] ⟨⟨by show i + 1 ≤ _; omega, (by rw [← hbest, refBest_at hx]; rw [if_neg (by simp_all [refP, better])]), hbk⟩, by show _ - (i + 1) < _ - i; omega⟩ rfl rfl
      · refine qv rfl (rMv rfl) ?_
        refine qv rfl (rNc rfl) ?_
        refine qv rfl (rFa fA78_2 rfl) ?_
        refine qv rfl (rLdN t176 rfl rfl) ?_
        refine qv rfl (rMv rfl) ?_
        refine qv rfl (rIs iS76 rfl rfl ⟨by omega, by show (i : Int) < (l.length : Int); omega⟩) ?_
        refine qv rfl (rFa fA111_1 rfl) ?_
        refine qv rfl (rFa fA71_1 rfl) ?_
        refine qv rfl (rLd1m t19 rfl (List.mem_append_right _ (List.mem_cons_of_mem _ hm)) (hv 6 _ rfl)) ?_
        refine qv rfl (rMv rfl) ?_
        refine qv rfl (rBin rfl rfl bNeS) ?_
        refine qv rfl (rPk rfl rfl) ?_
        refine qv rfl (rMv rfl) ?_
        refine gB (e := 46) rfl (fun g46 => ?_) (fun g46 => ?_)
        · refine qn rfl ?_
          refine qn rfl ?_
          refine qn rfl ?_
          refine qn rfl ?_
          refine qn rfl ?_
          refine qn rfl ?_
          refine qn rfl ?_
          refine qn rfl ?_
          refine qn rfl ?_
          refine qn rfl ?_
          refine qn rfl ?_
          refine qn rfl ?_
          refine pn rfl ?_
          refine qn rfl ?_
          refine qn rfl ?_
          refine qv rfl (rPk rfl rfl) ?_
          refine gs_nil ?_
          refine gKeep [0, 1, 2, 4, 8, 11, 12, 62] rfl ?_
          refine gCondT rfl rfl ?_
          refine gExit rfl ?_
          refine gText (σ := wk [(0, .p), (1, .p), (2, .p)]) rfl ?_
          refine pv rfl (rMv rfl) ?_
          refine pv rfl (rBin rfl rfl (bAddI (by omega))) ?_
          refine pv rfl (rAs rfl) ?_
          refine gs_nil ?_
          first | refine gInvK (i + 1, best) [0, 1, 2, 4, 8, 11, 12] ⟨⟨by show i + 1 ≤ _; omega, (by rw [← hbest, refBest_at hx]; rw [if_neg (by simp_all [refP])]), hbk⟩, by show _ - (i + 1) < _ - i; omega⟩ rfl rfl | refine gInvK (i + 1, some (i, y)) [0, 1, 2, 4, 8, 11, 12] ⟨⟨by show i + 1 ≤ _; omega, (by rw [← hbest, refBest_at hx]; rw [if_pos (by simp_all [refP, better])]), (by intro k2 y2 h2; cases h2; exact hx)⟩, by show _ - (i + 1) < _ - i; omega⟩ rfl rfl | refine gInvK (i + 1, some (k, z)) [0, 1, 2, 4, 8, 11, 12] ⟨⟨by show i + 1 ≤ _; omega, (by rw [← hbest, refBest_at hx]; rw [if_neg (by simp_all [refP, better])]), hbk⟩, by show _ - (i + 1) < _ - i; omega⟩ rfl rfl
        · refine qv rfl (rMv rfl) ?_
          refine qv rfl (rNot rfl) ?_
          refine qv rfl (rMv rfl) ?_
          refine gB (e := 49) rfl (fun g49 => ?_) (fun g49 => ?_)
          · refine qv rfl (rMv rfl) ?_
            refine qv rfl (rNc rfl) ?_
            refine qv rfl (rFa fA78_2 rfl) ?_
            refine qv rfl (rLdN t176 rfl rfl) ?_
            refine qv rfl (rMv rfl) ?_
            refine qv rfl (rIs iS76 rfl rfl ⟨by omega, by show (i : Int) < (l.length : Int); omega⟩) ?_
            refine qv rfl (rFa fA111_0 rfl) ?_
            refine qv rfl (rLdAm tA61 rfl (List.mem_append_right _ (List.mem_cons_of_mem _ hm)) (vs := stampL y.s) rfl (fun j v h => hv j v (verL_get h))) ?_
            refine qv rfl (rLdA tA57 rfl rfl) ?_
            refine pf rfl eN47 (c47 y.s v) ?_
            refine qv rfl (rNot rfl) ?_
            refine qv rfl (rPk rfl rfl) ?_
            refine qv rfl (rPk rfl rfl) ?_
            refine gs_nil ?_
            refine gKeep [0, 1, 2, 4, 8, 11, 12, 62] rfl ?_
            refine gCond rfl (fun h3 => ?_) (fun h3 => ?_)
            · refine gExit rfl ?_
              refine gText (σ := wk [(0, .p), (1, .p), (2, .p)]) rfl ?_
              refine pv rfl (rMv rfl) ?_
              refine pv rfl (rBin rfl rfl (bAddI (by omega))) ?_
              refine pv rfl (rAs rfl) ?_
              refine gs_nil ?_
              first | refine gInvK (i + 1, best) [0, 1, 2, 4, 8, 11, 12] ⟨⟨by show i + 1 ≤ _; omega, (by rw [← hbest, refBest_at hx]; rw [if_neg (by simp_all [refP])]), hbk⟩, by show _ - (i + 1) < _ - i; omega⟩ rfl rfl | refine gInvK (i + 1, some (i, y)) [0, 1, 2, 4, 8, 11, 12] ⟨⟨by show i + 1 ≤ _; omega, (by rw [← hbest, refBest_at hx]; rw [if_pos (by simp_all [refP, better])]), (by intro k2 y2 h2; cases h2; exact hx)⟩, by show _ - (i + 1) < _ - i; omega⟩ rfl rfl | refine gInvK (i + 1, some (k, z)) [0, 1, 2, 4, 8, 11, 12] ⟨⟨by show i + 1 ≤ _; omega, (by rw [← hbest, refBest_at hx]; rw [if_neg (by simp_all [refP, better])]), hbk⟩, by show _ - (i + 1) < _ - i; omega⟩ rfl rfl
            · refine gSkip ?_
              refine gSeq ?_
              refine gD [] (wk [(0, .q), (1, .q), (2, .q), (3, .q), (4, .q), (5, .q), (6, .q), (7, .q), (8, .q), (9, .q), (10, .q), (11, .q), (12, .q), (13, .q), (14, .q), (15, .q), (16, .q), (17, .q), (18, .q), (19, .p), (20, .q), (21, .q)]) fol (by kernel_rfl) rfl (by kernel_rfl) ?_
              refine qv rfl (rMv rfl) ?_
              refine qv rfl (rBin rfl rfl bLt) ?_
              refine qv rfl (rMv rfl) ?_
              refine gB (e := 65) rfl (fun g65 => ?_) (fun g65 => ?_)
              · have hb0 : best = none := idxB_neg (of_decide_eq_true g65)
                subst hb0
                refine qn rfl ?_
                refine qn rfl ?_
                refine qn rfl ?_
                refine qn rfl ?_
                refine qn rfl ?_
                refine qn rfl ?_
                refine qn rfl ?_
                refine qn rfl ?_
                refine qn rfl ?_
                refine qn rfl ?_
                refine qn rfl ?_
                refine qn rfl ?_
                refine qn rfl ?_
                refine qn rfl ?_
                refine qn rfl ?_
                refine qn rfl ?_
                refine pn rfl ?_
                refine qn rfl ?_
                refine qv rfl (rPk rfl rfl) ?_
                refine gs_nil ?_
                refine gKeep [0, 1, 2, 4, 8, 11, 12, 84] rfl ?_
                refine gCondT rfl rfl ?_
                refine gText (σ := wk [(0, .p), (1, .p)]) rfl ?_
                refine pv rfl (rMv rfl) ?_
                refine pv rfl (rAs rfl) ?_
                refine gs_nil ?_
                refine gText (σ := wk [(0, .p), (1, .p), (2, .p)]) rfl ?_
                refine pv rfl (rMv rfl) ?_
                refine pv rfl (rBin rfl rfl (bAddI (by omega))) ?_
                refine pv rfl (rAs rfl) ?_
                refine gs_nil ?_
                refine gKeep [0, 1, 2, 4, 8, 11, 12] rfl ?_
                first | refine gInvK (i + 1, best) [0, 1, 2, 4, 8, 11, 12] ⟨⟨by show i + 1 ≤ _; omega, (by rw [← hbest, refBest_at hx]; rw [if_neg (by simp_all [refP])]), hbk⟩, by show _ - (i + 1) < _ - i; omega⟩ rfl rfl | refine gInvK (i + 1, some (i, y)) [0, 1, 2, 4, 8, 11, 12] ⟨⟨by show i + 1 ≤ _; omega, (by rw [← hbest, refBest_at hx]; rw [if_pos (by simp_all [refP, better])]), (by intro k2 y2 h2; cases h2; exact hx)⟩, by show _ - (i + 1) < _ - i; omega⟩ rfl rfl | refine gInvK (i + 1, some (k, z)) [0, 1, 2, 4, 8, 11, 12] ⟨⟨by show i + 1 ≤ _; omega, (by rw [← hbest, refBest_at hx]; rw [if_neg (by simp_all [refP, better])]), hbk⟩, by show _ - (i + 1) < _ - i; omega⟩ rfl rfl
              · obtain ⟨k, z, hb0⟩ := idxB_pos (of_decide_eq_false g65)
                subst hb0
                have hz := hbk k z rfl
                obtain ⟨b2, o2, cl2, E2, fr2, hpe, hm2, hv2⟩ := hL.at verL_len hz (by decide)
                cases hpe
                have hkl := (List.getElem?_eq_some_iff.1 hz).1
                refine qv rfl (rMv rfl) ?_
                refine qv rfl (rNc rfl) ?_
                refine qv rfl (rFa fA78_2 rfl) ?_
                refine qv rfl (rLdN t176 rfl rfl) ?_
                refine qv rfl (rMv rfl) ?_
                refine qv rfl (rIs iS76 rfl rfl ⟨by omega, by show (i : Int) < (l.length : Int); omega⟩) ?_
                refine qv rfl (rFa fA111_0 rfl) ?_
                refine qv rfl (rLdAm tA61 rfl (List.mem_append_right _ (List.mem_cons_of_mem _ hm)) (vs := stampL y.s) rfl (fun j v h => hv j v (verL_get h))) ?_
                refine qv rfl (rMv rfl) ?_
                refine qv rfl (rNc rfl) ?_
                refine qv rfl (rFa fA78_2 rfl) ?_
                refine qv rfl (rLdN t176 rfl rfl) ?_
                refine qv rfl (rMv rfl) ?_
                refine qv rfl (rIs iS76 rfl rfl ⟨by show (0 : Int) ≤ (k : Int); omega, by show (k : Int) < (l.length : Int); omega⟩) ?_
                refine qv rfl (rFa fA111_0 rfl) ?_
                refine qv rfl (rLdAm tA61 rfl (List.mem_append_right _ (List.mem_cons_of_mem _ hm2)) (vs := stampL z.s) rfl (fun j v h => hv2 j v (verL_get h))) ?_
                refine pf rfl eN72 (c72 y.s z.s) ?_
                refine qv rfl (rBin rfl rfl bGt) ?_
                refine qv rfl (rPk rfl rfl) ?_
                refine gs_nil ?_
                refine gKeep [0, 1, 2, 4, 8, 11, 12, 84] rfl ?_
                refine gCond rfl (fun h5 => ?_) (fun h5 => ?_)
                · refine gText (σ := wk [(0, .p), (1, .p)]) rfl ?_
                  refine pv rfl (rMv rfl) ?_
                  refine pv rfl (rAs rfl) ?_
                  refine gs_nil ?_
                  refine gText (σ := wk [(0, .p), (1, .p), (2, .p)]) rfl ?_
                  refine pv rfl (rMv rfl) ?_
                  refine pv rfl (rBin rfl rfl (bAddI (by omega))) ?_
                  refine pv rfl (rAs rfl) ?_
                  refine gs_nil ?_
                  refine gKeep [0, 1, 2, 4, 8, 11, 12] rfl ?_
                  first | refine gInvK (i + 1, best) [0, 1, 2, 4, 8, 11, 12] ⟨⟨by show i + 1 ≤ _; omega, (by rw [← hbest, refBest_at hx]; rw [if_neg (by simp_all [refP])]), hbk⟩, by show _ - (i + 1) < _ - i; omega⟩ rfl rfl | refine gInvK (i + 1, some (i, y)) [0, 1, 2, 4, 8, 11, 12] ⟨⟨by show i + 1 ≤ _; omega, (by rw [← hbest, refBest_at hx]; rw [if_pos (by simp_all [refP, better])]), (by intro k2 y2 h2; cases h2; exact hx)⟩, by show _ - (i + 1) < _ - i; omega⟩ rfl rfl | refine gInvK (i + 1, some (k, z)) [0, 1, 2, 4, 8, 11, 12] ⟨⟨by show i + 1 ≤ _; omega, (by rw [← hbest, refBest_at hx]; rw [if_neg (by simp_all [refP, better])]), hbk⟩, by show _ - (i + 1) < _ - i; omega⟩ rfl rfl
                · refine gSkip ?_
                  refine gText (σ := wk [(0, .p), (1, .p), (2, .p)]) rfl ?_
                  refine pv rfl (rMv rfl) ?_
                  refine pv rfl (rBin rfl rfl (bAddI (by omega))) ?_
                  refine pv rfl (rAs rfl) ?_
                  refine gs_nil ?_
                  first | refine gInvK (i + 1, best) [0, 1, 2, 4, 8, 11, 12] ⟨⟨by show i + 1 ≤ _; omega, (by rw [← hbest, refBest_at hx]; rw [if_neg (by simp_all [refP])]), hbk⟩, by show _ - (i + 1) < _ - i; omega⟩ rfl rfl | refine gInvK (i + 1, some (i, y)) [0, 1, 2, 4, 8, 11, 12] ⟨⟨by show i + 1 ≤ _; omega, (by rw [← hbest, refBest_at hx]; rw [if_pos (by simp_all [refP, better])]), (by intro k2 y2 h2; cases h2; exact hx)⟩, by show _ - (i + 1) < _ - i; omega⟩ rfl rfl | refine gInvK (i + 1, some (k, z)) [0, 1, 2, 4, 8, 11, 12] ⟨⟨by show i + 1 ≤ _; omega, (by rw [← hbest, refBest_at hx]; rw [if_neg (by simp_all [refP, better])]), hbk⟩, by show _ - (i + 1) < _ - i; omega⟩ rfl rfl
          · refine qn rfl ?_
            refine qn rfl ?_
            refine qn rfl ?_
            refine qn rfl ?_
            refine qn rfl ?_
            refine qn rfl ?_
            refine qn rfl ?_
            refine qn rfl ?_
            refine qn rfl ?_
            refine pn rfl ?_
            refine qn rfl ?_
            refine qv rfl (rPk rfl rfl) ?_
            refine qv rfl (rPk rfl rfl) ?_
            refine gs_nil ?_
            refine gKeep [0, 1, 2, 4, 8, 11, 12, 62] rfl ?_
            refine gCondF rfl rfl ?_
            refine gSkip ?_
            refine gSeq ?_
            refine gD [] (wk [(0, .q), (1, .q), (2, .q), (3, .q), (4, .q), (5, .q), (6, .q), (7, .q), (8, .q), (9, .q), (10, .q), (11, .q), (12, .q), (13, .q), (14, .q), (15, .q), (16, .q), (17, .q), (18, .q), (19, .p), (20, .q), (21, .q)]) fol (by kernel_rfl) rfl (by kernel_rfl) ?_
            refine qv rfl (rMv rfl) ?_
            refine qv rfl (rBin rfl rfl bLt) ?_
            refine qv rfl (rMv rfl) ?_
            refine gB (e := 65) rfl (fun g65 => ?_) (fun g65 => ?_)
            · have hb0 : best = none := idxB_neg (of_decide_eq_true g65)
              subst hb0
              refine qn rfl ?_
              refine qn rfl ?_
              refine qn rfl ?_
              refine qn rfl ?_
              refine qn rfl ?_
              refine qn rfl ?_
              refine qn rfl ?_
              refine qn rfl ?_
              refine qn rfl ?_
              refine qn rfl ?_
              refine qn rfl ?_
              refine qn rfl ?_
              refine qn rfl ?_
              refine qn rfl ?_
              refine qn rfl ?_
              refine qn rfl ?_
              refine pn rfl ?_
              refine qn rfl ?_
              refine qv rfl (rPk rfl rfl) ?_
              refine gs_nil ?_
              refine gKeep [0, 1, 2, 4, 8, 11, 12, 84] rfl ?_
              refine gCondT rfl rfl ?_
              refine gText (σ := wk [(0, .p), (1, .p)]) rfl ?_
              refine pv rfl (rMv rfl) ?_
              refine pv rfl (rAs rfl) ?_
              refine gs_nil ?_
              refine gText (σ := wk [(0, .p), (1, .p), (2, .p)]) rfl ?_
              refine pv rfl (rMv rfl) ?_
              refine pv rfl (rBin rfl rfl (bAddI (by omega))) ?_
              refine pv rfl (rAs rfl) ?_
              refine gs_nil ?_
              refine gKeep [0, 1, 2, 4, 8, 11, 12] rfl ?_
              first | refine gInvK (i + 1, best) [0, 1, 2, 4, 8, 11, 12] ⟨⟨by show i + 1 ≤ _; omega, (by rw [← hbest, refBest_at hx]; rw [if_neg (by simp_all [refP])]), hbk⟩, by show _ - (i + 1) < _ - i; omega⟩ rfl rfl | refine gInvK (i + 1, some (i, y)) [0, 1, 2, 4, 8, 11, 12] ⟨⟨by show i + 1 ≤ _; omega, (by rw [← hbest, refBest_at hx]; rw [if_pos (by simp_all [refP, better])]), (by intro k2 y2 h2; cases h2; exact hx)⟩, by show _ - (i + 1) < _ - i; omega⟩ rfl rfl | refine gInvK (i + 1, some (k, z)) [0, 1, 2, 4, 8, 11, 12] ⟨⟨by show i + 1 ≤ _; omega, (by rw [← hbest, refBest_at hx]; rw [if_neg (by simp_all [refP, better])]), hbk⟩, by show _ - (i + 1) < _ - i; omega⟩ rfl rfl
            · obtain ⟨k, z, hb0⟩ := idxB_pos (of_decide_eq_false g65)
              subst hb0
              have hz := hbk k z rfl
              obtain ⟨b2, o2, cl2, E2, fr2, hpe, hm2, hv2⟩ := hL.at verL_len hz (by decide)
              cases hpe
              have hkl := (List.getElem?_eq_some_iff.1 hz).1
              refine qv rfl (rMv rfl) ?_
              refine qv rfl (rNc rfl) ?_
              refine qv rfl (rFa fA78_2 rfl) ?_
              refine qv rfl (rLdN t176 rfl rfl) ?_
              refine qv rfl (rMv rfl) ?_
              refine qv rfl (rIs iS76 rfl rfl ⟨by omega, by show (i : Int) < (l.length : Int); omega⟩) ?_
              refine qv rfl (rFa fA111_0 rfl) ?_
              refine qv rfl (rLdAm tA61 rfl (List.mem_append_right _ (List.mem_cons_of_mem _ hm)) (vs := stampL y.s) rfl (fun j v h => hv j v (verL_get h))) ?_
              refine qv rfl (rMv rfl) ?_
              refine qv rfl (rNc rfl) ?_
              refine qv rfl (rFa fA78_2 rfl) ?_
              refine qv rfl (rLdN t176 rfl rfl) ?_
              refine qv rfl (rMv rfl) ?_
              refine qv rfl (rIs iS76 rfl rfl ⟨by show (0 : Int) ≤ (k : Int); omega, by show (k : Int) < (l.length : Int); omega⟩) ?_
              refine qv rfl (rFa fA111_0 rfl) ?_
              refine qv rfl (rLdAm tA61 rfl (List.mem_append_right _ (List.mem_cons_of_mem _ hm2)) (vs := stampL z.s) rfl (fun j v h => hv2 j v (verL_get h))) ?_
              refine pf rfl eN72 (c72 y.s z.s) ?_
              refine qv rfl (rBin rfl rfl bGt) ?_
              refine qv rfl (rPk rfl rfl) ?_
              refine gs_nil ?_
              refine gKeep [0, 1, 2, 4, 8, 11, 12, 84] rfl ?_
              refine gCond rfl (fun h8 => ?_) (fun h8 => ?_)
              · refine gText (σ := wk [(0, .p), (1, .p)]) rfl ?_
                refine pv rfl (rMv rfl) ?_
                refine pv rfl (rAs rfl) ?_
                refine gs_nil ?_
                refine gText (σ := wk [(0, .p), (1, .p), (2, .p)]) rfl ?_
                refine pv rfl (rMv rfl) ?_
                refine pv rfl (rBin rfl rfl (bAddI (by omega))) ?_
                refine pv rfl (rAs rfl) ?_
                refine gs_nil ?_
                refine gKeep [0, 1, 2, 4, 8, 11, 12] rfl ?_
                first | refine gInvK (i + 1, best) [0, 1, 2, 4, 8, 11, 12] ⟨⟨by show i + 1 ≤ _; omega, (by rw [← hbest, refBest_at hx]; rw [if_neg (by simp_all [refP])]), hbk⟩, by show _ - (i + 1) < _ - i; omega⟩ rfl rfl | refine gInvK (i + 1, some (i, y)) [0, 1, 2, 4, 8, 11, 12] ⟨⟨by show i + 1 ≤ _; omega, (by rw [← hbest, refBest_at hx]; rw [if_pos (by simp_all [refP, better])]), (by intro k2 y2 h2; cases h2; exact hx)⟩, by show _ - (i + 1) < _ - i; omega⟩ rfl rfl | refine gInvK (i + 1, some (k, z)) [0, 1, 2, 4, 8, 11, 12] ⟨⟨by show i + 1 ≤ _; omega, (by rw [← hbest, refBest_at hx]; rw [if_neg (by simp_all [refP, better])]), hbk⟩, by show _ - (i + 1) < _ - i; omega⟩ rfl rfl
              · refine gSkip ?_
                refine gText (σ := wk [(0, .p), (1, .p), (2, .p)]) rfl ?_
                refine pv rfl (rMv rfl) ?_
                refine pv rfl (rBin rfl rfl (bAddI (by omega))) ?_
                refine pv rfl (rAs rfl) ?_
                refine gs_nil ?_
                first | refine gInvK (i + 1, best) [0, 1, 2, 4, 8, 11, 12] ⟨⟨by show i + 1 ≤ _; omega, (by rw [← hbest, refBest_at hx]; rw [if_neg (by simp_all [refP])]), hbk⟩, by show _ - (i + 1) < _ - i; omega⟩ rfl rfl | refine gInvK (i + 1, some (i, y)) [0, 1, 2, 4, 8, 11, 12] ⟨⟨by show i + 1 ≤ _; omega, (by rw [← hbest, refBest_at hx]; rw [if_pos (by simp_all [refP, better])]), (by intro k2 y2 h2; cases h2; exact hx)⟩, by show _ - (i + 1) < _ - i; omega⟩ rfl rfl | refine gInvK (i + 1, some (k, z)) [0, 1, 2, 4, 8, 11, 12] ⟨⟨by show i + 1 ≤ _; omega, (by rw [← hbest, refBest_at hx]; rw [if_neg (by simp_all [refP, better])]), hbk⟩, by show _ - (i + 1) < _ - i; omega⟩ rfl rfl
    · have hil : i = l.length := by omega
      subst hil
      rw [List.drop_length] at hbest
      have hbest2 : best = (refBest (refP (bk, ky) v all) l 0 none) := hbest
      refine gExit rfl ?_
      refine gSeq ?_
      refine gText (σ := wk [(0, .p), (1, .p)]) rfl ?_
      refine pv rfl (rMv rfl) ?_
      refine pv rfl (rAs rfl) ?_
      refine gs_nil ?_
      refine gRet ?_
      refine gEnd1 Try.results46 (resT rfl) ⟨?_, rfl⟩
      rw [hbest2]
end Go.Proofs.Yteeobhehfdifnaa
