/- A part of the proof that shardPlays of chapter 10 returns true at every room and every list of deeds, and leaves its arguments as they read; no condition. -/
import Derived.Test.YteeobhehfdifnaaC12
import Derived.Test.YteeobhehfdifnaaTBe
set_option linter.unusedVariables false
set_option linter.unusedSimpArgs false
set_option linter.unusedVariables false
set_option linter.unusedSimpArgs false
namespace Go.Proofs.Yteeobhehfdifnaa
open Go TB Go.Proofs
theorem tA46 : TA Try.prog 46 5 := ⟨fun w => by kernel_rfl, fun w => by kernel_rfl⟩
theorem eN12 : EN Try.prog 12 := fun args w => by kernel_rfl
set_option maxRecDepth 4000 in
theorem c6 (xs : List DealA) (p : Option Addr) (cap0 : Nat) (R : HL) (hl : Lies R p (dealsL xs)) (hlen : xs.length ≤ 9223372036854775807) (hR : ∀ x ∈ xs, DealR R x) (pd : PutD) (va vm : VecD) : Pf Try.prog 6 [.slice p xs.length cap0, putV pd, vecdV va, vecdV vm] R (.bool true) := by
  refine trEnter Try.func6 rfl Try.ntmps6 (l := [(0, _), (1, _), (2, _), (3, _)]) rfl rfl (fun w0 => ?_)
  refine gSeq ?_
  refine gText (σ := wk [(0, .p), (1, .p), (2, .p), (3, .p)]) rfl ?_
  refine pm rfl (mBox rfl rfl) (fun b5 => ?_)
  refine pm rfl (mBox rfl rfl) (fun b6 => ?_)
  refine pm rfl (mBox rfl rfl) (fun b7 => ?_)
  refine pv rfl (rAs rfl) ?_
  refine gs_nil ?_
  refine gSeq ?_
  refine gText (σ := wk [(0, .p), (1, .p)]) rfl ?_
  refine pf rfl eN8 c8 ?_
  refine pv rfl (rAs rfl) ?_
  refine gs_nil ?_
  refine gKeep [0, 5, 6, 7, 8, 9] rfl ?_
  refine gSeq ?_
  refine gSeq ?_
  refine gText (σ := wk [(0, .p), (1, .p)]) rfl ?_
  refine pv rfl (rMv rfl) ?_
  refine pv rfl (rNot rfl) ?_
  refine gs_nil ?_
  refine gCondF rfl rfl ?_
  refine gSkip ?_
  refine gSeq ?_
  refine gText (σ := wk [(0, .p), (1, .p), (2, .p), (3, .p), (4, .p), (5, .p)]) rfl ?_
  refine pc (R' := []) rfl eN9 (c9 16) (fun u H0 hv => ?_)
  rw [if_neg (by decide)] at hv
  obtain ⟨s, rfl, hH0⟩ := hv
  change ShRep T0 s ⟨16, [], fun _ => [], Vec.zero⟩ H0 at hH0
  refine pv rfl (rMv rfl) ?_
  refine pv rfl (rEx rfl rfl) ?_
  refine pv rfl (rEx rfl rfl) ?_
  refine pv rfl (rAs rfl) ?_
  refine pv rfl (rAs rfl) ?_
  refine gs_nil ?_
  refine gKeep [0, 5, 6, 7, 8, 9, 10, 11] rfl ?_
  refine gSeq ?_
  refine gSeq ?_
  refine gText (σ := wk [(0, .p), (1, .p), (2, .p), (3, .p), (4, .p), (5, .p)]) rfl ?_
  refine pv rfl (rMv rfl) ?_
  refine pv rfl (rBin rfl rfl (bPtNil Try.underlying25)) ?_
  refine pv rfl (rMv rfl) ?_
  refine gB (e := 42) rfl (fun g42 => by cases g42) (fun _ => ?_)
  refine pv rfl (rMv rfl) ?_
  refine pv rfl (rBin rfl rfl bNe) ?_
  refine pv rfl (rPk rfl rfl) ?_
  refine gs_nil ?_
  refine gKeep [0, 5, 6, 7, 8, 9, 10, 45] rfl ?_
  refine gCondF rfl (by decide) ?_
  refine gSkip ?_
  refine gSeq ?_
  refine gSeq ?_
  refine gText (σ := wk [(0, .p)]) rfl ?_
  refine pv rfl (rAs rfl) ?_
  refine gs_nil ?_
  refine gBlock ?_
  refine gLoop (σ := PG) (fun z => ([(0, .slice p xs.length cap0), (5, .pointer (some ⟨b5, 0, none⟩)), (6, .pointer (some ⟨b6, 0, none⟩)), (7, .pointer (some ⟨b7, 0, none⟩)), (9, .bool true), (10, .pointer (some ⟨s, 0, none⟩)), (12, .int .i64 (z.i : Nat))], (b7, Obj.cells (List.toArray (vecdL vm)) 46) :: (b6, Obj.cells (List.toArray (vecdL va)) 46) :: (b5, Obj.cells (List.toArray (putL pd)) 44) :: z.H)) (fun z => z.i ≤ xs.length ∧ z.i ≤ 10 ∧ ShRep T0 s z.σ z.H ∧ SOK z.σ z.i z.i) (fun z => xs.length - z.i) ?_ (fun z hs => ?_)
  · refine gTo ((b7, Obj.cells (List.toArray (vecdL vm)) 46) :: (b6, Obj.cells (List.toArray (vecdL va)) 46) :: (b5, Obj.cells (List.toArray (putL pd)) 44) :: H0) ?_
    refine gInvK (⟨0, ⟨16, [], fun _ => [], Vec.zero⟩, H0⟩) [0, 5, 6, 7, 9, 10, 12] ⟨Nat.zero_le _, Nat.zero_le _, hH0, SOK.new 16⟩ rfl rfl
  · obtain ⟨i, σ, H⟩ := z
    obtain ⟨hi, hi10, hsh, hok⟩ := hs
    simp only at hi hi10 hsh hok ⊢
    refine gSeq ?_
    refine gSeq ?_
    refine gText (σ := wk [(0, .p), (1, .p), (2, .p), (3, .p), (4, .p), (5, .p), (6, .p), (7, .p)]) rfl ?_
    refine pv rfl (rMv rfl) ?_
    refine pv rfl (rMv rfl) ?_
    refine pv rfl (rLen uS85 rfl) ?_
    refine pv rfl (rBin rfl rfl bLt) ?_
    refine pv rfl (rMv rfl) ?_
    refine gB (e := 50) rfl (fun g50 => ?_) (fun g50 => ?_)
    · have hin : i < xs.length := by have := of_decide_eq_true g50; omega
      refine pv rfl (rMv rfl) ?_
      refine pv rfl (rBin rfl rfl bLt) ?_
      refine pv rfl (rPk rfl rfl) ?_
      refine gs_nil ?_
      refine gKeep [0, 5, 6, 7, 9, 10, 12, 53] rfl ?_
      refine gCondD rfl (fun h2 => ?_) (fun h2 => ?_)
      · have hx := List.getElem?_eq_getElem hin
        generalize xs[i] = x at hx
        have hxR := hR x (List.mem_of_getElem? hx)
        obtain ⟨b, o, cl, E, fr, rfl, hm, hv⟩ := hl.at dealL_len hx (by decide)
        have hwl := dealWs_len { x.d with own := true }
        refine gSkip ?_
        refine gSeq ?_
        refine gBlock ?_
        refine gSeq ?_
        refine gText (σ := wk [(0, .p), (1, .p), (2, .p), (3, .p), (4, .p), (5, .p)]) rfl ?_
        refine pv rfl (rMv rfl) ?_
        refine pv rfl (rMv rfl) ?_
        refine pv rfl (rIs iS85 rfl rfl ⟨by omega, by omega⟩) ?_
        refine pv rfl (rLdAm tA40 rfl (List.mem_append_right _ hm) (vs := dealL x) rfl (fun j v h => hv j v h)) ?_
        refine pm rfl (mAlloc zC40) (fun b13 => ?_)
        refine ps0 rfl (tSt tA40.2 rfl rfl rfl rfl rfl rfl rfl) ?_
        refine gs_nil ?_
        refine gKeep [0, 5, 6, 7, 9, 10, 12, 13] rfl ?_
        refine gSeq ?_
        refine gText (σ := wk [(0, .p), (1, .p)]) rfl ?_
        refine pv rfl (rFa fA40_2 rfl) ?_
        refine ps0 rfl (tSt t14.2 rfl rfl rfl rfl rfl rfl rfl) ?_
        refine gs_nil ?_
        refine gSeq ?_
        refine gText (σ := wk [(0, .p), (1, .p), (2, .p), (3, .p)]) rfl ?_
        refine pv rfl (rLdA tA40 rfl rfl) ?_
        refine pc (R' := R) rfl eN11 (c11 { x.d with own := true } x.p x.cap R hxR.src hxR.len) (fun u Lr hu => ?_)
        obtain ⟨q, cap, rfl, hr⟩ := hu
        obtain ⟨q2, cap2, he, hsr⟩ := hr.src
        cases he
        refine pm rfl (mAlloc zC51) (fun b14 => ?_)
        refine ps0 rfl (tSt tA51.2 rfl rfl rfl rfl rfl rfl rfl) ?_
        refine gs_nil ?_
        refine gKeep [0, 5, 6, 7, 9, 10, 12, 14] rfl ?_
        refine gSeq ?_
        refine gText (σ := wk [(0, .p), (1, .p), (2, .p), (3, .p), (4, .p), (5, .p)]) rfl ?_
        refine pv rfl (rMv rfl) ?_
        refine pv rfl (rFa fA51_0 rfl) ?_
        refine pv rfl (rLdA tA35 rfl rfl) ?_
        refine pv rfl (rFa fA51_1 rfl) ?_
        refine pv rfl (rLdN t149 rfl rfl) ?_
        refine pc (R' := Lr) (L1 := H) rfl eN18 (c18 s σ H hsh (dealSt { x.d with own := true }) (dealWs { x.d with own := true }) q cap Lr hsr (by omega)) (fun u H1 hu => ?_)
        obtain ⟨rfl, hsh1⟩ := hu
        simp only [List.append_assoc]
        refine gs_nil ?_
        refine gKeep [0, 5, 6, 7, 9, 10, 12] rfl ?_
        refine gSeq ?_
        refine gText (σ := wk [(0, .p), (1, .p), (2, .p)]) rfl ?_
        refine pv rfl (rMv rfl) ?_
        refine pv rfl (rBin rfl rfl (bRem (by decide))) ?_
        refine pv rfl (rBin rfl rfl bLt) ?_
        refine gs_nil ?_
        refine gCondD rfl (fun h3 => ?_) (fun h3 => ?_)
        · refine gText (σ := wk [(0, .p), (1, .p)]) rfl ?_
          refine pv rfl (rMv rfl) ?_
          refine pc (R' := []) (L1 := H1) rfl eN14 (c14 s _ H1 hsh1 ((hok.push hwl).may (by omega))) (fun u H2 hu => ?_)
          obtain ⟨rfl, hsh2⟩ := hu
          simp only [List.append_assoc]
          refine gs_nil ?_
          refine gKeep [0, 5, 6, 7, 9, 10, 12] rfl ?_
          refine gText (σ := wk [(0, .p), (1, .p), (2, .p)]) rfl ?_
          refine pv rfl (rMv rfl) ?_
          refine pv rfl (rBin rfl rfl (bAddI (by omega))) ?_
          refine pv rfl (rAs rfl) ?_
          refine gs_nil ?_
          refine gDrop [(b14, Obj.cells (List.toArray (batL ⟨dealSt { x.d with own := true }, q, (dealWs { x.d with own := true }).length, cap⟩)) 51)] ?_
          refine gDrop [(b13, Obj.cells (List.toArray [.int .u64 x.d.m.s.v.a, .int .u64 x.d.m.s.v.b, .int .u64 x.d.m.s.v.c, .int .u64 x.d.m.s.v.d, .int .i64 x.d.m.s.dc, .bool x.d.m.own, .slice x.p x.d.ps.length x.cap, .bool true]) 40)] ?_
          refine gDrop Lr ?_
          refine gTo ((b7, Obj.cells (List.toArray (vecdL vm)) 46) :: (b6, Obj.cells (List.toArray (vecdL va)) 46) :: (b5, Obj.cells (List.toArray (putL pd)) 44) :: H2) ?_
          refine gInvK ⟨i + 1, (σ.push (dealSt { x.d with own := true }) (dealWs { x.d with own := true })).step, H2⟩ [0, 5, 6, 7, 9, 10, 12] ⟨⟨by show i + 1 ≤ _; omega, by show i + 1 ≤ _; omega, hsh2, (hok.push hwl).step⟩, by show _ - (i + 1) < _ - i; omega⟩ rfl rfl
        · refine gSkip ?_
          refine gText (σ := wk [(0, .p), (1, .p), (2, .p)]) rfl ?_
          refine pv rfl (rMv rfl) ?_
          refine pv rfl (rBin rfl rfl (bAddI (by omega))) ?_
          refine pv rfl (rAs rfl) ?_
          refine gs_nil ?_
          refine gKeep [0, 5, 6, 7, 9, 10, 12] rfl ?_
          refine gDrop [(b14, Obj.cells (List.toArray (batL ⟨dealSt { x.d with own := true }, q, (dealWs { x.d with own := true }).length, cap⟩)) 51)] ?_
          refine gDrop [(b13, Obj.cells (List.toArray [.int .u64 x.d.m.s.v.a, .int .u64 x.d.m.s.v.b, .int .u64 x.d.m.s.v.c, .int .u64 x.d.m.s.v.d, .int .i64 x.d.m.s.dc, .bool x.d.m.own, .slice x.p x.d.ps.length x.cap, .bool true]) 40)] ?_
          refine gDrop Lr ?_
          refine gTo ((b7, Obj.cells (List.toArray (vecdL vm)) 46) :: (b6, Obj.cells (List.toArray (vecdL va)) 46) :: (b5, Obj.cells (List.toArray (putL pd)) 44) :: H1) ?_
          refine gInvK ⟨i + 1, (σ.push (dealSt { x.d with own := true }) (dealWs { x.d with own := true })), H1⟩ [0, 5, 6, 7, 9, 10, 12] ⟨⟨by show i + 1 ≤ _; omega, by show i + 1 ≤ _; omega, hsh1, ((hok.push hwl).mono (Nat.le_succ _) (Nat.le_refl _))⟩, by show _ - (i + 1) < _ - i; omega⟩ rfl rfl
      · refine gExit rfl ?_
        refine gSeq ?_
        have hsH := hsh
        obtain ⟨hh, hhe⟩ : ∃ hh, vecOf va = hh := ⟨_, rfl⟩
        obtain ⟨mm, hme⟩ : ∃ mm, vecOf vm = mm := ⟨_, rfl⟩
        obtain ⟨ff, hfe⟩ : ∃ ff, hh.join mm = ff := ⟨_, rfl⟩
        obtain ⟨w, hwe⟩ : ∃ w, writeOf { pd with own := true } = w := ⟨_, rfl⟩
        refine gText (σ := wk [(0, .p), (1, .p), (2, .p), (3, .p)]) rfl ?_
        refine pv rfl (rLdA tA46 rfl rfl) ?_
        refine pf rfl eN12 (hhe ▸ c12 va) ?_
        refine pm rfl (mAlloc zC33) (fun b15 => ?_)
        refine ps0 rfl (tSt tA33.2 rfl rfl rfl rfl rfl rfl rfl) ?_
        refine gs_nil ?_
        refine gSeq ?_
        refine gD [b15, b7] (.one 0 .q (.one 1 .q (.alt (.one 2 .p (.alt (wk [(3, .p), (4, .p), (5, .p)]) (wk [(4, .p), (3, .p), (5, .p)]))) (wk [(4, .p), (2, .p), (3, .p), (5, .p)])))) fol (by kernel_rfl) rfl (by kernel_rfl) ?_
        refine qv rfl (rLdA tA33 rfl rfl) ?_
        refine qv rfl (rLdA tA46 rfl rfl) ?_
        refine gAlt ?_ ?_
        · refine pf rfl eN12 (hme ▸ c12 vm) ?_
          refine gAlt ?_ ?_
          · refine pf rfl eN34 (hfe ▸ c34 hh mm) ?_
            refine pm rfl (mAlloc zC33) (fun b16 => ?_)
            refine ps rfl (tSt tA33.2 rfl rfl rfl rfl rfl rfl rfl) (by kernel_rfl) ?_
            refine gKeep [0, 5, 6, 7, 9, 10, 12, 15, 16] rfl ?_
            refine gSeq ?_
            refine gText (σ := wk [(0, .p), (1, .p)]) rfl ?_
            refine pv rfl (rFa fA44_1 rfl) ?_
            refine ps0 rfl (tSt t14.2 rfl rfl rfl rfl rfl rfl rfl) ?_
            refine gs_nil ?_
            refine gSeq ?_
            refine gText (σ := wk [(0, .p), (1, .p), (2, .p), (3, .p)]) rfl ?_
            refine pv rfl (rLdA tA44 rfl rfl) ?_
            refine pf rfl eN13 (hwe ▸ c13 { pd with own := true }) ?_
            refine pm rfl (mAlloc zC42) (fun b17 => ?_)
            refine ps0 rfl (tSt tA42.2 rfl rfl rfl rfl rfl rfl rfl) ?_
            refine gs_nil ?_
            refine gSeq ?_
            refine gText (σ := wk [(0, .p), (1, .p), (2, .p), (3, .p), (4, .p), (5, .p), (6, .p), (7, .p), (8, .p), (9, .p), (10, .p), (11, .p), (12, .p), (13, .p), (14, .p)]) rfl ?_
            refine pv rfl (rMv rfl) ?_
            refine pv rfl (rFa fA42_0 rfl) ?_
            refine pv rfl (rLdN t19 rfl rfl) ?_
            refine pv rfl (rFa fA42_1 rfl) ?_
            refine pv rfl (rLdN t19 rfl rfl) ?_
            refine pv rfl (rLdA tA33 rfl rfl) ?_
            refine pc (R' := []) (L1 := H) rfl eN22 (c22 s σ H hsH w.bucket w.key hh (hok.len (by omega))) (fun u Ha hv => ?_)
            obtain ⟨rfl, hsHa⟩ := hv
            refine pv rfl (rMv rfl) ?_
            refine pv rfl (rEx rfl rfl) ?_
            refine pv rfl (rEx rfl rfl) ?_
            refine pv rfl (rEx rfl rfl) ?_
            refine pm rfl (mAlloc zC35) (fun b19 => ?_)
            refine pv rfl (rAs rfl) ?_
            refine ps0 rfl (tSt tA35.2 rfl rfl rfl rfl rfl rfl rfl) ?_
            refine pv rfl (rAs rfl) ?_
            refine gs_nil ?_
            refine gKeep [0, 5, 6, 7, 9, 10, 12, 15, 16, 17, 18, 20] rfl ?_
            refine gSeq ?_
            refine gText (σ := wk [(0, .p), (1, .p), (2, .p), (3, .p), (4, .p), (5, .p), (6, .p), (7, .p), (8, .p), (9, .p), (10, .p), (11, .p), (12, .p), (13, .p), (14, .p)]) rfl ?_
            refine pv rfl (rMv rfl) ?_
            refine pv rfl (rFa fA42_0 rfl) ?_
            refine pv rfl (rLdN t19 rfl rfl) ?_
            refine pv rfl (rFa fA42_1 rfl) ?_
            refine pv rfl (rLdN t19 rfl rfl) ?_
            refine pv rfl (rLdA tA33 rfl rfl) ?_
            refine pc (R' := []) (L1 := Ha) rfl eN22 (c22 s σ Ha hsHa w.bucket w.key ff (hok.len (by omega))) (fun u Hb hv => ?_)
            obtain ⟨rfl, hsHb⟩ := hv
            refine pv rfl (rMv rfl) ?_
            refine pv rfl (rEx rfl rfl) ?_
            refine pv rfl (rEx rfl rfl) ?_
            refine pv rfl (rEx rfl rfl) ?_
            refine pm rfl (mAlloc zC35) (fun b22 => ?_)
            refine pv rfl (rAs rfl) ?_
            refine ps0 rfl (tSt tA35.2 rfl rfl rfl rfl rfl rfl rfl) ?_
            refine pv rfl (rAs rfl) ?_
            refine gs_nil ?_
            refine gKeep [0, 5, 6, 7, 9, 10, 12, 15, 16, 17, 18, 20, 21, 23] rfl ?_
            refine gSeq ?_
            refine gText (σ := wk [(0, .p), (1, .p), (2, .p)]) rfl ?_
            refine pv rfl (rMv rfl) ?_
            refine pc (R' := []) (L1 := Hb) rfl eN29 (c29 s σ Hb hsHb (hok.sum (by omega))) (fun u Hc hv => ?_)
            obtain ⟨n1, rfl, hn1, hsHc⟩ := hv
            refine pv rfl (rAs rfl) ?_
            refine gs_nil ?_
            refine gSeq ?_
            refine gText (σ := wk [(0, .p), (1, .p), (2, .p)]) rfl ?_
            refine pv rfl (rMv rfl) ?_
            refine pf (R' := Hc) rfl eN26 (c26 s σ Hc hsHc) ?_
            refine pv rfl (rAs rfl) ?_
            refine gs_nil ?_
            refine gKeep [0, 5, 6, 7, 9, 10, 12, 15, 16, 17, 18, 20, 21, 23, 24, 25] rfl ?_
            refine gSeq ?_
            refine gText (σ := wk [(0, .p), (1, .p), (2, .p), (3, .p)]) rfl ?_
            refine pv rfl (rMv rfl) ?_
            refine pv rfl (rLdA tA33 rfl rfl) ?_
            refine pc (R' := []) (L1 := Hc) rfl eN16 (c16 s σ Hc hsHc hh (hok.sum (by omega))) (fun u Hd hv => ?_)
            obtain ⟨n2, n3, rfl, hn2, hn3, hsHd⟩ := hv
            obtain rfl := hn2.uniq hn1
            have hl1 := hok.sum (by omega) _ hn2
            have hl3 := (hok.prune hh).sum (by omega) _ hn3
            refine pv rfl (rAs rfl) ?_
            refine gs_nil ?_
            refine gSeq ?_
            refine gText (σ := wk [(0, .p), (1, .p), (2, .p), (3, .p), (4, .p), (5, .p), (6, .p), (7, .p), (8, .p), (9, .p), (10, .p), (11, .p), (12, .p), (13, .p), (14, .p)]) rfl ?_
            refine pv rfl (rMv rfl) ?_
            refine pv rfl (rFa fA42_0 rfl) ?_
            refine pv rfl (rLdN t19 rfl rfl) ?_
            refine pv rfl (rFa fA42_1 rfl) ?_
            refine pv rfl (rLdN t19 rfl rfl) ?_
            refine pv rfl (rLdA tA33 rfl rfl) ?_
            refine pc (R' := []) (L1 := Hd) rfl eN22 (c22 s { σ with g := pruneG hh σ.g } Hd hsHd w.bucket w.key hh ((hok.prune hh).len (by omega))) (fun u He hv => ?_)
            rw [readR_prune (fun v h => h)] at hv
            obtain ⟨rfl, hsHe⟩ := hv
            refine pv rfl (rMv rfl) ?_
            refine pv rfl (rEx rfl rfl) ?_
            refine pv rfl (rEx rfl rfl) ?_
            refine pv rfl (rEx rfl rfl) ?_
            refine pm rfl (mAlloc zC35) (fun b28 => ?_)
            refine pv rfl (rAs rfl) ?_
            refine ps0 rfl (tSt tA35.2 rfl rfl rfl rfl rfl rfl rfl) ?_
            refine pv rfl (rAs rfl) ?_
            refine gs_nil ?_
            refine gKeep [0, 5, 6, 7, 9, 10, 12, 15, 16, 17, 18, 20, 21, 23, 24, 25, 26, 27, 29] rfl ?_
            refine gSeq ?_
            refine gText (σ := wk [(0, .p), (1, .p), (2, .p), (3, .p), (4, .p), (5, .p), (6, .p), (7, .p), (8, .p), (9, .p), (10, .p), (11, .p), (12, .p), (13, .p), (14, .p)]) rfl ?_
            refine pv rfl (rMv rfl) ?_
            refine pv rfl (rFa fA42_0 rfl) ?_
            refine pv rfl (rLdN t19 rfl rfl) ?_
            refine pv rfl (rFa fA42_1 rfl) ?_
            refine pv rfl (rLdN t19 rfl rfl) ?_
            refine pv rfl (rLdA tA33 rfl rfl) ?_
            refine pc (R' := []) (L1 := He) rfl eN22 (c22 s { σ with g := pruneG hh σ.g } He hsHe w.bucket w.key ff ((hok.prune hh).len (by omega))) (fun u Hf hv => ?_)
            rw [readR_prune (fun v h => by rw [← hfe]; exact leq_join h)] at hv
            obtain ⟨rfl, hsHf⟩ := hv
            refine pv rfl (rMv rfl) ?_
            refine pv rfl (rEx rfl rfl) ?_
            refine pv rfl (rEx rfl rfl) ?_
            refine pv rfl (rEx rfl rfl) ?_
            refine pm rfl (mAlloc zC35) (fun b31 => ?_)
            refine pv rfl (rAs rfl) ?_
            refine ps0 rfl (tSt tA35.2 rfl rfl rfl rfl rfl rfl rfl) ?_
            refine pv rfl (rAs rfl) ?_
            refine gs_nil ?_
            refine gKeep [0, 5, 6, 7, 9, 10, 12, 15, 18, 20, 21, 23, 24, 25, 26, 27, 29, 30, 32] rfl ?_
            refine gSeq ?_
            refine gText (σ := wk [(0, .p), (1, .p), (2, .p), (3, .p), (4, .p), (5, .p), (6, .p), (7, .p), (8, .p), (9, .p), (10, .p), (11, .p), (12, .p), (13, .p), (14, .p), (15, .p), (16, .p), (17, .p), (18, .p), (19, .p), (20, .p), (21, .p), (22, .p), (23, .p), (24, .p), (25, .p), (26, .p), (27, .p), (28, .p), (29, .p), (30, .p), (31, .p), (32, .p), (33, .p), (34, .p), (35, .p), (36, .p), (37, .p), (38, .p), (39, .p), (40, .p), (41, .p)]) rfl ?_
            refine pv rfl (rMv rfl) ?_
            refine pv rfl (rMv rfl) ?_
            refine gB (e := 135) rfl (fun _ => ?_) (fun g135 => by cases g135)
            refine pv rfl (rMv rfl) ?_
            refine pv rfl (rMv rfl) ?_
            refine pv rfl (rBin rfl rfl bEqS) ?_
            refine gV (u := .bool true) 138 rfl (by simp) ?_
            refine pv rfl (rPk rfl rfl) ?_
            refine pv rfl (rMv rfl) ?_
            refine gB (e := 140) rfl (fun _ => ?_) (fun g140 => by cases g140)
            refine pv rfl (rMv rfl) ?_
            refine pv rfl (rMv rfl) ?_
            refine pv rfl (rBin rfl rfl (bEqB Try.underlying4)) ?_
            refine gV (u := .bool true) 143 rfl (by simp) ?_
            refine pv rfl (rPk rfl rfl) ?_
            refine pv rfl (rMv rfl) ?_
            refine gB (e := 145) rfl (fun _ => ?_) (fun g145 => by cases g145)
            refine pv rfl (rMv rfl) ?_
            refine pv rfl (rMv rfl) ?_
            refine pv rfl (rBin rfl rfl bEqS) ?_
            refine gV (u := .bool true) 148 rfl (by simp) ?_
            refine pv rfl (rPk rfl rfl) ?_
            refine pv rfl (rMv rfl) ?_
            refine gB (e := 150) rfl (fun _ => ?_) (fun g150 => by cases g150)
            refine pv rfl (rMv rfl) ?_
            refine pv rfl (rMv rfl) ?_
            refine pv rfl (rBin rfl rfl (bEqB Try.underlying4)) ?_
            refine gV (u := .bool true) 153 rfl (by simp) ?_
            refine pv rfl (rPk rfl rfl) ?_
            refine pv rfl (rMv rfl) ?_
            refine gB (e := 155) rfl (fun _ => ?_) (fun g155 => by cases g155)
            refine pv rfl (rMv rfl) ?_
            refine pv rfl (rMv rfl) ?_
            refine pv rfl (rMv rfl) ?_
            refine pc (R' := []) (L1 := Hf) rfl eN29 (c29 s _ Hf hsHf ((hok.prune hh).sum (by omega))) (fun u Hg hv => ?_)
            obtain ⟨n4, rfl, hn4, hsHg⟩ := hv
            obtain rfl := hn4.uniq hn3
            refine pv rfl (rBin rfl rfl (bSubI (by omega))) ?_
            refine pv rfl (rBin rfl rfl bEq) ?_
            refine gV (u := .bool true) 161 rfl (by simp) ?_
            refine pv rfl (rPk rfl rfl) ?_
            refine pv rfl (rMv rfl) ?_
            refine gB (e := 163) rfl (fun _ => ?_) (fun g163 => by cases g163)
            refine pv rfl (rMv rfl) ?_
            refine pv rfl (rLdA tA33 rfl rfl) ?_
            refine pc (R' := []) (L1 := Hg) rfl eN16 (c16 s _ Hg hsHg hh ((hok.prune hh).sum (by omega))) (fun u Hi hv => ?_)
            obtain ⟨n5, n6, rfl, hn5, hn6, hsHi⟩ := hv
            obtain rfl := hn5.uniq hn4
            change Total (pruneG hh (pruneG hh σ.g)) n6 at hn6
            rw [pruneG_idem] at hn6
            obtain rfl := hn6.uniq hn5
            refine pv rfl (rBin rfl rfl bEq) ?_
            refine gV (u := .bool true) 167 rfl (by simp) ?_
            refine pv rfl (rPk rfl rfl) ?_
            refine pv rfl (rMv rfl) ?_
            refine gB (e := 169) rfl (fun _ => ?_) (fun g169 => by cases g169)
            refine pv rfl (rMv rfl) ?_
            refine pf (R' := Hi) rfl eN26 (c26 s _ Hi hsHi) ?_
            refine pv rfl (rMv rfl) ?_
            refine pv rfl (rBin rfl rfl bEq) ?_
            refine gV (u := .bool true) 173 rfl (by simp) ?_
            refine pv rfl (rPk rfl rfl) ?_
            refine pv rfl (rAs rfl) ?_
            refine gs_nil ?_
            refine gKeep [0, 5, 6, 7, 8, 9, 10, 12] rfl ?_
            refine gRet ?_
            refine gEnd1 Try.results6 (resT rfl) ⟨?_, rfl⟩
            rfl
          · refine pm rfl (mAlloc zC33) (fun b16 => ?_)
            refine pf rfl eN34 (hfe ▸ c34 hh mm) ?_
            refine ps rfl (tSt tA33.2 rfl rfl rfl rfl rfl rfl rfl) (by kernel_rfl) ?_
            refine gKeep [0, 5, 6, 7, 9, 10, 12, 15, 16] rfl ?_
            refine gSeq ?_
            refine gText (σ := wk [(0, .p), (1, .p)]) rfl ?_
            refine pv rfl (rFa fA44_1 rfl) ?_
            refine ps0 rfl (tSt t14.2 rfl rfl rfl rfl rfl rfl rfl) ?_
            refine gs_nil ?_
            refine gSeq ?_
            refine gText (σ := wk [(0, .p), (1, .p), (2, .p), (3, .p)]) rfl ?_
            refine pv rfl (rLdA tA44 rfl rfl) ?_
            refine pf rfl eN13 (hwe ▸ c13 { pd with own := true }) ?_
            refine pm rfl (mAlloc zC42) (fun b17 => ?_)
            refine ps0 rfl (tSt tA42.2 rfl rfl rfl rfl rfl rfl rfl) ?_
            refine gs_nil ?_
            refine gSeq ?_
            refine gText (σ := wk [(0, .p), (1, .p), (2, .p), (3, .p), (4, .p), (5, .p), (6, .p), (7, .p), (8, .p), (9, .p), (10, .p), (11, .p), (12, .p), (13, .p), (14, .p)]) rfl ?_
            refine pv rfl (rMv rfl) ?_
            refine pv rfl (rFa fA42_0 rfl) ?_
            refine pv rfl (rLdN t19 rfl rfl) ?_
            refine pv rfl (rFa fA42_1 rfl) ?_
            refine pv rfl (rLdN t19 rfl rfl) ?_
            refine pv rfl (rLdA tA33 rfl rfl) ?_
            refine pc (R' := []) (L1 := H) rfl eN22 (c22 s σ H hsH w.bucket w.key hh (hok.len (by omega))) (fun u Ha hv => ?_)
            obtain ⟨rfl, hsHa⟩ := hv
            refine pv rfl (rMv rfl) ?_
            refine pv rfl (rEx rfl rfl) ?_
            refine pv rfl (rEx rfl rfl) ?_
            refine pv rfl (rEx rfl rfl) ?_
            refine pm rfl (mAlloc zC35) (fun b19 => ?_)
            refine pv rfl (rAs rfl) ?_
            refine ps0 rfl (tSt tA35.2 rfl rfl rfl rfl rfl rfl rfl) ?_
            refine pv rfl (rAs rfl) ?_
            refine gs_nil ?_
            refine gKeep [0, 5, 6, 7, 9, 10, 12, 15, 16, 17, 18, 20] rfl ?_
            refine gSeq ?_
            refine gText (σ := wk [(0, .p), (1, .p), (2, .p), (3, .p), (4, .p), (5, .p), (6, .p), (7, .p), (8, .p), (9, .p), (10, .p), (11, .p), (12, .p), (13, .p), (14, .p)]) rfl ?_
            refine pv rfl (rMv rfl) ?_
            refine pv rfl (rFa fA42_0 rfl) ?_
            refine pv rfl (rLdN t19 rfl rfl) ?_
            refine pv rfl (rFa fA42_1 rfl) ?_
            refine pv rfl (rLdN t19 rfl rfl) ?_
            refine pv rfl (rLdA tA33 rfl rfl) ?_
            refine pc (R' := []) (L1 := Ha) rfl eN22 (c22 s σ Ha hsHa w.bucket w.key ff (hok.len (by omega))) (fun u Hb hv => ?_)
            obtain ⟨rfl, hsHb⟩ := hv
            refine pv rfl (rMv rfl) ?_
            refine pv rfl (rEx rfl rfl) ?_
            refine pv rfl (rEx rfl rfl) ?_
            refine pv rfl (rEx rfl rfl) ?_
            refine pm rfl (mAlloc zC35) (fun b22 => ?_)
            refine pv rfl (rAs rfl) ?_
            refine ps0 rfl (tSt tA35.2 rfl rfl rfl rfl rfl rfl rfl) ?_
            refine pv rfl (rAs rfl) ?_
            refine gs_nil ?_
            refine gKeep [0, 5, 6, 7, 9, 10, 12, 15, 16, 17, 18, 20, 21, 23] rfl ?_
            refine gSeq ?_
            refine gText (σ := wk [(0, .p), (1, .p), (2, .p)]) rfl ?_
            refine pv rfl (rMv rfl) ?_
            refine pc (R' := []) (L1 := Hb) rfl eN29 (c29 s σ Hb hsHb (hok.sum (by omega))) (fun u Hc hv => ?_)
            obtain ⟨n1, rfl, hn1, hsHc⟩ := hv
            refine pv rfl (rAs rfl) ?_
            refine gs_nil ?_
            refine gSeq ?_
            refine gText (σ := wk [(0, .p), (1, .p), (2, .p)]) rfl ?_
            refine pv rfl (rMv rfl) ?_
            refine pf (R' := Hc) rfl eN26 (c26 s σ Hc hsHc) ?_
            refine pv rfl (rAs rfl) ?_
            refine gs_nil ?_
            refine gKeep [0, 5, 6, 7, 9, 10, 12, 15, 16, 17, 18, 20, 21, 23, 24, 25] rfl ?_
            refine gSeq ?_
            refine gText (σ := wk [(0, .p), (1, .p), (2, .p), (3, .p)]) rfl ?_
            refine pv rfl (rMv rfl) ?_
            refine pv rfl (rLdA tA33 rfl rfl) ?_
            refine pc (R' := []) (L1 := Hc) rfl eN16 (c16 s σ Hc hsHc hh (hok.sum (by omega))) (fun u Hd hv => ?_)
            obtain ⟨n2, n3, rfl, hn2, hn3, hsHd⟩ := hv
            obtain rfl := hn2.uniq hn1
            have hl1 := hok.sum (by omega) _ hn2
            have hl3 := (hok.prune hh).sum (by omega) _ hn3
            refine pv rfl (rAs rfl) ?_
            refine gs_nil ?_
            refine gSeq ?_
            refine gText (σ := wk [(0, .p), (1, .p), (2, .p), (3, .p), (4, .p), (5, .p), (6, .p), (7, .p), (8, .p), (9, .p), (10, .p), (11, .p), (12, .p), (13, .p), (14, .p)]) rfl ?_
            refine pv rfl (rMv rfl) ?_
            refine pv rfl (rFa fA42_0 rfl) ?_
            refine pv rfl (rLdN t19 rfl rfl) ?_
            refine pv rfl (rFa fA42_1 rfl) ?_
            refine pv rfl (rLdN t19 rfl rfl) ?_
            refine pv rfl (rLdA tA33 rfl rfl) ?_
            refine pc (R' := []) (L1 := Hd) rfl eN22 (c22 s { σ with g := pruneG hh σ.g } Hd hsHd w.bucket w.key hh ((hok.prune hh).len (by omega))) (fun u He hv => ?_)
            rw [readR_prune (fun v h => h)] at hv
            obtain ⟨rfl, hsHe⟩ := hv
            refine pv rfl (rMv rfl) ?_
            refine pv rfl (rEx rfl rfl) ?_
            refine pv rfl (rEx rfl rfl) ?_
            refine pv rfl (rEx rfl rfl) ?_
            refine pm rfl (mAlloc zC35) (fun b28 => ?_)
            refine pv rfl (rAs rfl) ?_
            refine ps0 rfl (tSt tA35.2 rfl rfl rfl rfl rfl rfl rfl) ?_
            refine pv rfl (rAs rfl) ?_
            refine gs_nil ?_
            refine gKeep [0, 5, 6, 7, 9, 10, 12, 15, 16, 17, 18, 20, 21, 23, 24, 25, 26, 27, 29] rfl ?_
            refine gSeq ?_
            refine gText (σ := wk [(0, .p), (1, .p), (2, .p), (3, .p), (4, .p), (5, .p), (6, .p), (7, .p), (8, .p), (9, .p), (10, .p), (11, .p), (12, .p), (13, .p), (14, .p)]) rfl ?_
            refine pv rfl (rMv rfl) ?_
            refine pv rfl (rFa fA42_0 rfl) ?_
            refine pv rfl (rLdN t19 rfl rfl) ?_
            refine pv rfl (rFa fA42_1 rfl) ?_
            refine pv rfl (rLdN t19 rfl rfl) ?_
            refine pv rfl (rLdA tA33 rfl rfl) ?_
            refine pc (R' := []) (L1 := He) rfl eN22 (c22 s { σ with g := pruneG hh σ.g } He hsHe w.bucket w.key ff ((hok.prune hh).len (by omega))) (fun u Hf hv => ?_)
            rw [readR_prune (fun v h => by rw [← hfe]; exact leq_join h)] at hv
            obtain ⟨rfl, hsHf⟩ := hv
            refine pv rfl (rMv rfl) ?_
            refine pv rfl (rEx rfl rfl) ?_
            refine pv rfl (rEx rfl rfl) ?_
            refine pv rfl (rEx rfl rfl) ?_
            refine pm rfl (mAlloc zC35) (fun b31 => ?_)
            refine pv rfl (rAs rfl) ?_
            refine ps0 rfl (tSt tA35.2 rfl rfl rfl rfl rfl rfl rfl) ?_
            refine pv rfl (rAs rfl) ?_
            refine gs_nil ?_
            refine gKeep [0, 5, 6, 7, 9, 10, 12, 15, 18, 20, 21, 23, 24, 25, 26, 27, 29, 30, 32] rfl ?_
            refine gSeq ?_
            refine gText (σ := wk [(0, .p), (1, .p), (2, .p), (3, .p), (4, .p), (5, .p), (6, .p), (7, .p), (8, .p), (9, .p), (10, .p), (11, .p), (12, .p), (13, .p), (14, .p), (15, .p), (16, .p), (17, .p), (18, .p), (19, .p), (20, .p), (21, .p), (22, .p), (23, .p), (24, .p), (25, .p), (26, .p), (27, .p), (28, .p), (29, .p), (30, .p), (31, .p), (32, .p), (33, .p), (34, .p), (35, .p), (36, .p), (37, .p), (38, .p), (39, .p), (40, .p), (41, .p)]) rfl ?_
            refine pv rfl (rMv rfl) ?_
            refine pv rfl (rMv rfl) ?_
            refine gB (e := 135) rfl (fun _ => ?_) (fun g135 => by cases g135)
            refine pv rfl (rMv rfl) ?_
            refine pv rfl (rMv rfl) ?_
            refine pv rfl (rBin rfl rfl bEqS) ?_
            refine gV (u := .bool true) 138 rfl (by simp) ?_
            refine pv rfl (rPk rfl rfl) ?_
            refine pv rfl (rMv rfl) ?_
            refine gB (e := 140) rfl (fun _ => ?_) (fun g140 => by cases g140)
            refine pv rfl (rMv rfl) ?_
            refine pv rfl (rMv rfl) ?_
            refine pv rfl (rBin rfl rfl (bEqB Try.underlying4)) ?_
            refine gV (u := .bool true) 143 rfl (by simp) ?_
            refine pv rfl (rPk rfl rfl) ?_
            refine pv rfl (rMv rfl) ?_
            refine gB (e := 145) rfl (fun _ => ?_) (fun g145 => by cases g145)
            refine pv rfl (rMv rfl) ?_
            refine pv rfl (rMv rfl) ?_
            refine pv rfl (rBin rfl rfl bEqS) ?_
            refine gV (u := .bool true) 148 rfl (by simp) ?_
            refine pv rfl (rPk rfl rfl) ?_
            refine pv rfl (rMv rfl) ?_
            refine gB (e := 150) rfl (fun _ => ?_) (fun g150 => by cases g150)
            refine pv rfl (rMv rfl) ?_
            refine pv rfl (rMv rfl) ?_
            refine pv rfl (rBin rfl rfl (bEqB Try.underlying4)) ?_
            refine gV (u := .bool true) 153 rfl (by simp) ?_
            refine pv rfl (rPk rfl rfl) ?_
            refine pv rfl (rMv rfl) ?_
            refine gB (e := 155) rfl (fun _ => ?_) (fun g155 => by cases g155)
            refine pv rfl (rMv rfl) ?_
            refine pv rfl (rMv rfl) ?_
            refine pv rfl (rMv rfl) ?_
            refine pc (R' := []) (L1 := Hf) rfl eN29 (c29 s _ Hf hsHf ((hok.prune hh).sum (by omega))) (fun u Hg hv => ?_)
            obtain ⟨n4, rfl, hn4, hsHg⟩ := hv
            obtain rfl := hn4.uniq hn3
            refine pv rfl (rBin rfl rfl (bSubI (by omega))) ?_
            refine pv rfl (rBin rfl rfl bEq) ?_
            refine gV (u := .bool true) 161 rfl (by simp) ?_
            refine pv rfl (rPk rfl rfl) ?_
            refine pv rfl (rMv rfl) ?_
            refine gB (e := 163) rfl (fun _ => ?_) (fun g163 => by cases g163)
            refine pv rfl (rMv rfl) ?_
            refine pv rfl (rLdA tA33 rfl rfl) ?_
            refine pc (R' := []) (L1 := Hg) rfl eN16 (c16 s _ Hg hsHg hh ((hok.prune hh).sum (by omega))) (fun u Hi hv => ?_)
            obtain ⟨n5, n6, rfl, hn5, hn6, hsHi⟩ := hv
            obtain rfl := hn5.uniq hn4
            change Total (pruneG hh (pruneG hh σ.g)) n6 at hn6
            rw [pruneG_idem] at hn6
            obtain rfl := hn6.uniq hn5
            refine pv rfl (rBin rfl rfl bEq) ?_
            refine gV (u := .bool true) 167 rfl (by simp) ?_
            refine pv rfl (rPk rfl rfl) ?_
            refine pv rfl (rMv rfl) ?_
            refine gB (e := 169) rfl (fun _ => ?_) (fun g169 => by cases g169)
            refine pv rfl (rMv rfl) ?_
            refine pf (R' := Hi) rfl eN26 (c26 s _ Hi hsHi) ?_
            refine pv rfl (rMv rfl) ?_
            refine pv rfl (rBin rfl rfl bEq) ?_
            refine gV (u := .bool true) 173 rfl (by simp) ?_
            refine pv rfl (rPk rfl rfl) ?_
            refine pv rfl (rAs rfl) ?_
            refine gs_nil ?_
            refine gKeep [0, 5, 6, 7, 8, 9, 10, 12] rfl ?_
            refine gRet ?_
            refine gEnd1 Try.results6 (resT rfl) ⟨?_, rfl⟩
            rfl
        · refine pm rfl (mAlloc zC33) (fun b16 => ?_)
          refine pf rfl eN12 (hme ▸ c12 vm) ?_
          refine pf rfl eN34 (hfe ▸ c34 hh mm) ?_
          refine ps rfl (tSt tA33.2 rfl rfl rfl rfl rfl rfl rfl) (by kernel_rfl) ?_
          refine gKeep [0, 5, 6, 7, 9, 10, 12, 15, 16] rfl ?_
          refine gSeq ?_
          refine gText (σ := wk [(0, .p), (1, .p)]) rfl ?_
          refine pv rfl (rFa fA44_1 rfl) ?_
          refine ps0 rfl (tSt t14.2 rfl rfl rfl rfl rfl rfl rfl) ?_
          refine gs_nil ?_
          refine gSeq ?_
          refine gText (σ := wk [(0, .p), (1, .p), (2, .p), (3, .p)]) rfl ?_
          refine pv rfl (rLdA tA44 rfl rfl) ?_
          refine pf rfl eN13 (hwe ▸ c13 { pd with own := true }) ?_
          refine pm rfl (mAlloc zC42) (fun b17 => ?_)
          refine ps0 rfl (tSt tA42.2 rfl rfl rfl rfl rfl rfl rfl) ?_
          refine gs_nil ?_
          refine gSeq ?_
          refine gText (σ := wk [(0, .p), (1, .p), (2, .p), (3, .p), (4, .p), (5, .p), (6, .p), (7, .p), (8, .p), (9, .p), (10, .p), (11, .p), (12, .p), (13, .p), (14, .p)]) rfl ?_
          refine pv rfl (rMv rfl) ?_
          refine pv rfl (rFa fA42_0 rfl) ?_
          refine pv rfl (rLdN t19 rfl rfl) ?_
          refine pv rfl (rFa fA42_1 rfl) ?_
          refine pv rfl (rLdN t19 rfl rfl) ?_
          refine pv rfl (rLdA tA33 rfl rfl) ?_
          refine pc (R' := []) (L1 := H) rfl eN22 (c22 s σ H hsH w.bucket w.key hh (hok.len (by omega))) (fun u Ha hv => ?_)
          obtain ⟨rfl, hsHa⟩ := hv
          refine pv rfl (rMv rfl) ?_
          refine pv rfl (rEx rfl rfl) ?_
          refine pv rfl (rEx rfl rfl) ?_
          refine pv rfl (rEx rfl rfl) ?_
          refine pm rfl (mAlloc zC35) (fun b19 => ?_)
          refine pv rfl (rAs rfl) ?_
          refine ps0 rfl (tSt tA35.2 rfl rfl rfl rfl rfl rfl rfl) ?_
          refine pv rfl (rAs rfl) ?_
          refine gs_nil ?_
          refine gKeep [0, 5, 6, 7, 9, 10, 12, 15, 16, 17, 18, 20] rfl ?_
          refine gSeq ?_
          refine gText (σ := wk [(0, .p), (1, .p), (2, .p), (3, .p), (4, .p), (5, .p), (6, .p), (7, .p), (8, .p), (9, .p), (10, .p), (11, .p), (12, .p), (13, .p), (14, .p)]) rfl ?_
          refine pv rfl (rMv rfl) ?_
          refine pv rfl (rFa fA42_0 rfl) ?_
          refine pv rfl (rLdN t19 rfl rfl) ?_
          refine pv rfl (rFa fA42_1 rfl) ?_
          refine pv rfl (rLdN t19 rfl rfl) ?_
          refine pv rfl (rLdA tA33 rfl rfl) ?_
          refine pc (R' := []) (L1 := Ha) rfl eN22 (c22 s σ Ha hsHa w.bucket w.key ff (hok.len (by omega))) (fun u Hb hv => ?_)
          obtain ⟨rfl, hsHb⟩ := hv
          refine pv rfl (rMv rfl) ?_
          refine pv rfl (rEx rfl rfl) ?_
          refine pv rfl (rEx rfl rfl) ?_
          refine pv rfl (rEx rfl rfl) ?_
          refine pm rfl (mAlloc zC35) (fun b22 => ?_)
          refine pv rfl (rAs rfl) ?_
          refine ps0 rfl (tSt tA35.2 rfl rfl rfl rfl rfl rfl rfl) ?_
          refine pv rfl (rAs rfl) ?_
          refine gs_nil ?_
          refine gKeep [0, 5, 6, 7, 9, 10, 12, 15, 16, 17, 18, 20, 21, 23] rfl ?_
          refine gSeq ?_
          refine gText (σ := wk [(0, .p), (1, .p), (2, .p)]) rfl ?_
          refine pv rfl (rMv rfl) ?_
          refine pc (R' := []) (L1 := Hb) rfl eN29 (c29 s σ Hb hsHb (hok.sum (by omega))) (fun u Hc hv => ?_)
          obtain ⟨n1, rfl, hn1, hsHc⟩ := hv
          refine pv rfl (rAs rfl) ?_
          refine gs_nil ?_
          refine gSeq ?_
          refine gText (σ := wk [(0, .p), (1, .p), (2, .p)]) rfl ?_
          refine pv rfl (rMv rfl) ?_
          refine pf (R' := Hc) rfl eN26 (c26 s σ Hc hsHc) ?_
          refine pv rfl (rAs rfl) ?_
          refine gs_nil ?_
          refine gKeep [0, 5, 6, 7, 9, 10, 12, 15, 16, 17, 18, 20, 21, 23, 24, 25] rfl ?_
          refine gSeq ?_
          refine gText (σ := wk [(0, .p), (1, .p), (2, .p), (3, .p)]) rfl ?_
          refine pv rfl (rMv rfl) ?_
          refine pv rfl (rLdA tA33 rfl rfl) ?_
          refine pc (R' := []) (L1 := Hc) rfl eN16 (c16 s σ Hc hsHc hh (hok.sum (by omega))) (fun u Hd hv => ?_)
          obtain ⟨n2, n3, rfl, hn2, hn3, hsHd⟩ := hv
          obtain rfl := hn2.uniq hn1
          have hl1 := hok.sum (by omega) _ hn2
          have hl3 := (hok.prune hh).sum (by omega) _ hn3
          refine pv rfl (rAs rfl) ?_
          refine gs_nil ?_
          refine gSeq ?_
          refine gText (σ := wk [(0, .p), (1, .p), (2, .p), (3, .p), (4, .p), (5, .p), (6, .p), (7, .p), (8, .p), (9, .p), (10, .p), (11, .p), (12, .p), (13, .p), (14, .p)]) rfl ?_
          refine pv rfl (rMv rfl) ?_
          refine pv rfl (rFa fA42_0 rfl) ?_
          refine pv rfl (rLdN t19 rfl rfl) ?_
          refine pv rfl (rFa fA42_1 rfl) ?_
          refine pv rfl (rLdN t19 rfl rfl) ?_
          refine pv rfl (rLdA tA33 rfl rfl) ?_
          refine pc (R' := []) (L1 := Hd) rfl eN22 (c22 s { σ with g := pruneG hh σ.g } Hd hsHd w.bucket w.key hh ((hok.prune hh).len (by omega))) (fun u He hv => ?_)
          rw [readR_prune (fun v h => h)] at hv
          obtain ⟨rfl, hsHe⟩ := hv
          refine pv rfl (rMv rfl) ?_
          refine pv rfl (rEx rfl rfl) ?_
          refine pv rfl (rEx rfl rfl) ?_
          refine pv rfl (rEx rfl rfl) ?_
          refine pm rfl (mAlloc zC35) (fun b28 => ?_)
          refine pv rfl (rAs rfl) ?_
          refine ps0 rfl (tSt tA35.2 rfl rfl rfl rfl rfl rfl rfl) ?_
          refine pv rfl (rAs rfl) ?_
          refine gs_nil ?_
          refine gKeep [0, 5, 6, 7, 9, 10, 12, 15, 16, 17, 18, 20, 21, 23, 24, 25, 26, 27, 29] rfl ?_
          refine gSeq ?_
          refine gText (σ := wk [(0, .p), (1, .p), (2, .p), (3, .p), (4, .p), (5, .p), (6, .p), (7, .p), (8, .p), (9, .p), (10, .p), (11, .p), (12, .p), (13, .p), (14, .p)]) rfl ?_
          refine pv rfl (rMv rfl) ?_
          refine pv rfl (rFa fA42_0 rfl) ?_
          refine pv rfl (rLdN t19 rfl rfl) ?_
          refine pv rfl (rFa fA42_1 rfl) ?_
          refine pv rfl (rLdN t19 rfl rfl) ?_
          refine pv rfl (rLdA tA33 rfl rfl) ?_
          refine pc (R' := []) (L1 := He) rfl eN22 (c22 s { σ with g := pruneG hh σ.g } He hsHe w.bucket w.key ff ((hok.prune hh).len (by omega))) (fun u Hf hv => ?_)
          rw [readR_prune (fun v h => by rw [← hfe]; exact leq_join h)] at hv
          obtain ⟨rfl, hsHf⟩ := hv
          refine pv rfl (rMv rfl) ?_
          refine pv rfl (rEx rfl rfl) ?_
          refine pv rfl (rEx rfl rfl) ?_
          refine pv rfl (rEx rfl rfl) ?_
          refine pm rfl (mAlloc zC35) (fun b31 => ?_)
          refine pv rfl (rAs rfl) ?_
          refine ps0 rfl (tSt tA35.2 rfl rfl rfl rfl rfl rfl rfl) ?_
          refine pv rfl (rAs rfl) ?_
          refine gs_nil ?_
          refine gKeep [0, 5, 6, 7, 9, 10, 12, 15, 18, 20, 21, 23, 24, 25, 26, 27, 29, 30, 32] rfl ?_
          refine gSeq ?_
          refine gText (σ := wk [(0, .p), (1, .p), (2, .p), (3, .p), (4, .p), (5, .p), (6, .p), (7, .p), (8, .p), (9, .p), (10, .p), (11, .p), (12, .p), (13, .p), (14, .p), (15, .p), (16, .p), (17, .p), (18, .p), (19, .p), (20, .p), (21, .p), (22, .p), (23, .p), (24, .p), (25, .p), (26, .p), (27, .p), (28, .p), (29, .p), (30, .p), (31, .p), (32, .p), (33, .p), (34, .p), (35, .p), (36, .p), (37, .p), (38, .p), (39, .p), (40, .p), (41, .p)]) rfl ?_
          refine pv rfl (rMv rfl) ?_
          refine pv rfl (rMv rfl) ?_
          refine gB (e := 135) rfl (fun _ => ?_) (fun g135 => by cases g135)
          refine pv rfl (rMv rfl) ?_
          refine pv rfl (rMv rfl) ?_
          refine pv rfl (rBin rfl rfl bEqS) ?_
          refine gV (u := .bool true) 138 rfl (by simp) ?_
          refine pv rfl (rPk rfl rfl) ?_
          refine pv rfl (rMv rfl) ?_
          refine gB (e := 140) rfl (fun _ => ?_) (fun g140 => by cases g140)
          refine pv rfl (rMv rfl) ?_
          refine pv rfl (rMv rfl) ?_
          refine pv rfl (rBin rfl rfl (bEqB Try.underlying4)) ?_
          refine gV (u := .bool true) 143 rfl (by simp) ?_
          refine pv rfl (rPk rfl rfl) ?_
          refine pv rfl (rMv rfl) ?_
          refine gB (e := 145) rfl (fun _ => ?_) (fun g145 => by cases g145)
          refine pv rfl (rMv rfl) ?_
          refine pv rfl (rMv rfl) ?_
          refine pv rfl (rBin rfl rfl bEqS) ?_
          refine gV (u := .bool true) 148 rfl (by simp) ?_
          refine pv rfl (rPk rfl rfl) ?_
          refine pv rfl (rMv rfl) ?_
          refine gB (e := 150) rfl (fun _ => ?_) (fun g150 => by cases g150)
          refine pv rfl (rMv rfl) ?_
          refine pv rfl (rMv rfl) ?_
          refine pv rfl (rBin rfl rfl (bEqB Try.underlying4)) ?_
          refine gV (u := .bool true) 153 rfl (by simp) ?_
          refine pv rfl (rPk rfl rfl) ?_
          refine pv rfl (rMv rfl) ?_
          refine gB (e := 155) rfl (fun _ => ?_) (fun g155 => by cases g155)
          refine pv rfl (rMv rfl) ?_
          refine pv rfl (rMv rfl) ?_
          refine pv rfl (rMv rfl) ?_
          refine pc (R' := []) (L1 := Hf) rfl eN29 (c29 s _ Hf hsHf ((hok.prune hh).sum (by omega))) (fun u Hg hv => ?_)
          obtain ⟨n4, rfl, hn4, hsHg⟩ := hv
          obtain rfl := hn4.uniq hn3
          refine pv rfl (rBin rfl rfl (bSubI (by omega))) ?_
          refine pv rfl (rBin rfl rfl bEq) ?_
          refine gV (u := .bool true) 161 rfl (by simp) ?_
          refine pv rfl (rPk rfl rfl) ?_
          refine pv rfl (rMv rfl) ?_
          refine gB (e := 163) rfl (fun _ => ?_) (fun g163 => by cases g163)
          refine pv rfl (rMv rfl) ?_
          refine pv rfl (rLdA tA33 rfl rfl) ?_
          refine pc (R' := []) (L1 := Hg) rfl eN16 (c16 s _ Hg hsHg hh ((hok.prune hh).sum (by omega))) (fun u Hi hv => ?_)
          obtain ⟨n5, n6, rfl, hn5, hn6, hsHi⟩ := hv
          obtain rfl := hn5.uniq hn4
          change Total (pruneG hh (pruneG hh σ.g)) n6 at hn6
          rw [pruneG_idem] at hn6
          obtain rfl := hn6.uniq hn5
          refine pv rfl (rBin rfl rfl bEq) ?_
          refine gV (u := .bool true) 167 rfl (by simp) ?_
          refine pv rfl (rPk rfl rfl) ?_
          refine pv rfl (rMv rfl) ?_
          refine gB (e := 169) rfl (fun _ => ?_) (fun g169 => by cases g169)
          refine pv rfl (rMv rfl) ?_
          refine pf (R' := Hi) rfl eN26 (c26 s _ Hi hsHi) ?_
          refine pv rfl (rMv rfl) ?_
          refine pv rfl (rBin rfl rfl bEq) ?_
          refine gV (u := .bool true) 173 rfl (by simp) ?_
          refine pv rfl (rPk rfl rfl) ?_
          refine pv rfl (rAs rfl) ?_
          refine gs_nil ?_
          refine gKeep [0, 5, 6, 7, 8, 9, 10, 12] rfl ?_
          refine gRet ?_
          refine gEnd1 Try.results6 (resT rfl) ⟨?_, rfl⟩
          rfl
    · refine pn rfl ?_
      refine pn rfl ?_
      refine pv rfl (rPk rfl rfl) ?_
      refine gs_nil ?_
      refine gKeep [0, 5, 6, 7, 9, 10, 12, 53] rfl ?_
      refine gCondF rfl rfl ?_
      refine gExit rfl ?_
      refine gSeq ?_
      have hsH := hsh
      obtain ⟨hh, hhe⟩ : ∃ hh, vecOf va = hh := ⟨_, rfl⟩
      obtain ⟨mm, hme⟩ : ∃ mm, vecOf vm = mm := ⟨_, rfl⟩
      obtain ⟨ff, hfe⟩ : ∃ ff, hh.join mm = ff := ⟨_, rfl⟩
      obtain ⟨w, hwe⟩ : ∃ w, writeOf { pd with own := true } = w := ⟨_, rfl⟩
      refine gText (σ := wk [(0, .p), (1, .p), (2, .p), (3, .p)]) rfl ?_
      refine pv rfl (rLdA tA46 rfl rfl) ?_
      refine pf rfl eN12 (hhe ▸ c12 va) ?_
      refine pm rfl (mAlloc zC33) (fun b15 => ?_)
      refine ps0 rfl (tSt tA33.2 rfl rfl rfl rfl rfl rfl rfl) ?_
      refine gs_nil ?_
      refine gSeq ?_
      refine gD [b15, b7] (.one 0 .q (.one 1 .q (.alt (.one 2 .p (.alt (wk [(3, .p), (4, .p), (5, .p)]) (wk [(4, .p), (3, .p), (5, .p)]))) (wk [(4, .p), (2, .p), (3, .p), (5, .p)])))) fol (by kernel_rfl) rfl (by kernel_rfl) ?_
      refine qv rfl (rLdA tA33 rfl rfl) ?_
      refine qv rfl (rLdA tA46 rfl rfl) ?_
      refine gAlt ?_ ?_
      · refine pf rfl eN12 (hme ▸ c12 vm) ?_
        refine gAlt ?_ ?_
        · refine pf rfl eN34 (hfe ▸ c34 hh mm) ?_
          refine pm rfl (mAlloc zC33) (fun b16 => ?_)
          refine ps rfl (tSt tA33.2 rfl rfl rfl rfl rfl rfl rfl) (by kernel_rfl) ?_
          refine gKeep [0, 5, 6, 7, 9, 10, 12, 15, 16] rfl ?_
          refine gSeq ?_
          refine gText (σ := wk [(0, .p), (1, .p)]) rfl ?_
          refine pv rfl (rFa fA44_1 rfl) ?_
          refine ps0 rfl (tSt t14.2 rfl rfl rfl rfl rfl rfl rfl) ?_
          refine gs_nil ?_
          refine gSeq ?_
          refine gText (σ := wk [(0, .p), (1, .p), (2, .p), (3, .p)]) rfl ?_
          refine pv rfl (rLdA tA44 rfl rfl) ?_
          refine pf rfl eN13 (hwe ▸ c13 { pd with own := true }) ?_
          refine pm rfl (mAlloc zC42) (fun b17 => ?_)
          refine ps0 rfl (tSt tA42.2 rfl rfl rfl rfl rfl rfl rfl) ?_
          refine gs_nil ?_
          refine gSeq ?_
          refine gText (σ := wk [(0, .p), (1, .p), (2, .p), (3, .p), (4, .p), (5, .p), (6, .p), (7, .p), (8, .p), (9, .p), (10, .p), (11, .p), (12, .p), (13, .p), (14, .p)]) rfl ?_
          refine pv rfl (rMv rfl) ?_
          refine pv rfl (rFa fA42_0 rfl) ?_
          refine pv rfl (rLdN t19 rfl rfl) ?_
          refine pv rfl (rFa fA42_1 rfl) ?_
          refine pv rfl (rLdN t19 rfl rfl) ?_
          refine pv rfl (rLdA tA33 rfl rfl) ?_
          refine pc (R' := []) (L1 := H) rfl eN22 (c22 s σ H hsH w.bucket w.key hh (hok.len (by omega))) (fun u Ha hv => ?_)
          obtain ⟨rfl, hsHa⟩ := hv
          refine pv rfl (rMv rfl) ?_
          refine pv rfl (rEx rfl rfl) ?_
          refine pv rfl (rEx rfl rfl) ?_
          refine pv rfl (rEx rfl rfl) ?_
          refine pm rfl (mAlloc zC35) (fun b19 => ?_)
          refine pv rfl (rAs rfl) ?_
          refine ps0 rfl (tSt tA35.2 rfl rfl rfl rfl rfl rfl rfl) ?_
          refine pv rfl (rAs rfl) ?_
          refine gs_nil ?_
          refine gKeep [0, 5, 6, 7, 9, 10, 12, 15, 16, 17, 18, 20] rfl ?_
          refine gSeq ?_
          refine gText (σ := wk [(0, .p), (1, .p), (2, .p), (3, .p), (4, .p), (5, .p), (6, .p), (7, .p), (8, .p), (9, .p), (10, .p), (11, .p), (12, .p), (13, .p), (14, .p)]) rfl ?_
          refine pv rfl (rMv rfl) ?_
          refine pv rfl (rFa fA42_0 rfl) ?_
          refine pv rfl (rLdN t19 rfl rfl) ?_
          refine pv rfl (rFa fA42_1 rfl) ?_
          refine pv rfl (rLdN t19 rfl rfl) ?_
          refine pv rfl (rLdA tA33 rfl rfl) ?_
          refine pc (R' := []) (L1 := Ha) rfl eN22 (c22 s σ Ha hsHa w.bucket w.key ff (hok.len (by omega))) (fun u Hb hv => ?_)
          obtain ⟨rfl, hsHb⟩ := hv
          refine pv rfl (rMv rfl) ?_
          refine pv rfl (rEx rfl rfl) ?_
          refine pv rfl (rEx rfl rfl) ?_
          refine pv rfl (rEx rfl rfl) ?_
          refine pm rfl (mAlloc zC35) (fun b22 => ?_)
          refine pv rfl (rAs rfl) ?_
          refine ps0 rfl (tSt tA35.2 rfl rfl rfl rfl rfl rfl rfl) ?_
          refine pv rfl (rAs rfl) ?_
          refine gs_nil ?_
          refine gKeep [0, 5, 6, 7, 9, 10, 12, 15, 16, 17, 18, 20, 21, 23] rfl ?_
          refine gSeq ?_
          refine gText (σ := wk [(0, .p), (1, .p), (2, .p)]) rfl ?_
          refine pv rfl (rMv rfl) ?_
          refine pc (R' := []) (L1 := Hb) rfl eN29 (c29 s σ Hb hsHb (hok.sum (by omega))) (fun u Hc hv => ?_)
          obtain ⟨n1, rfl, hn1, hsHc⟩ := hv
          refine pv rfl (rAs rfl) ?_
          refine gs_nil ?_
          refine gSeq ?_
          refine gText (σ := wk [(0, .p), (1, .p), (2, .p)]) rfl ?_
          refine pv rfl (rMv rfl) ?_
          refine pf (R' := Hc) rfl eN26 (c26 s σ Hc hsHc) ?_
          refine pv rfl (rAs rfl) ?_
          refine gs_nil ?_
          refine gKeep [0, 5, 6, 7, 9, 10, 12, 15, 16, 17, 18, 20, 21, 23, 24, 25] rfl ?_
          refine gSeq ?_
          refine gText (σ := wk [(0, .p), (1, .p), (2, .p), (3, .p)]) rfl ?_
          refine pv rfl (rMv rfl) ?_
          refine pv rfl (rLdA tA33 rfl rfl) ?_
          refine pc (R' := []) (L1 := Hc) rfl eN16 (c16 s σ Hc hsHc hh (hok.sum (by omega))) (fun u Hd hv => ?_)
          obtain ⟨n2, n3, rfl, hn2, hn3, hsHd⟩ := hv
          obtain rfl := hn2.uniq hn1
          have hl1 := hok.sum (by omega) _ hn2
          have hl3 := (hok.prune hh).sum (by omega) _ hn3
          refine pv rfl (rAs rfl) ?_
          refine gs_nil ?_
          refine gSeq ?_
          refine gText (σ := wk [(0, .p), (1, .p), (2, .p), (3, .p), (4, .p), (5, .p), (6, .p), (7, .p), (8, .p), (9, .p), (10, .p), (11, .p), (12, .p), (13, .p), (14, .p)]) rfl ?_
          refine pv rfl (rMv rfl) ?_
          refine pv rfl (rFa fA42_0 rfl) ?_
          refine pv rfl (rLdN t19 rfl rfl) ?_
          refine pv rfl (rFa fA42_1 rfl) ?_
          refine pv rfl (rLdN t19 rfl rfl) ?_
          refine pv rfl (rLdA tA33 rfl rfl) ?_
          refine pc (R' := []) (L1 := Hd) rfl eN22 (c22 s { σ with g := pruneG hh σ.g } Hd hsHd w.bucket w.key hh ((hok.prune hh).len (by omega))) (fun u He hv => ?_)
          rw [readR_prune (fun v h => h)] at hv
          obtain ⟨rfl, hsHe⟩ := hv
          refine pv rfl (rMv rfl) ?_
          refine pv rfl (rEx rfl rfl) ?_
          refine pv rfl (rEx rfl rfl) ?_
          refine pv rfl (rEx rfl rfl) ?_
          refine pm rfl (mAlloc zC35) (fun b28 => ?_)
          refine pv rfl (rAs rfl) ?_
          refine ps0 rfl (tSt tA35.2 rfl rfl rfl rfl rfl rfl rfl) ?_
          refine pv rfl (rAs rfl) ?_
          refine gs_nil ?_
          refine gKeep [0, 5, 6, 7, 9, 10, 12, 15, 16, 17, 18, 20, 21, 23, 24, 25, 26, 27, 29] rfl ?_
          refine gSeq ?_
          refine gText (σ := wk [(0, .p), (1, .p), (2, .p), (3, .p), (4, .p), (5, .p), (6, .p), (7, .p), (8, .p), (9, .p), (10, .p), (11, .p), (12, .p), (13, .p), (14, .p)]) rfl ?_
          refine pv rfl (rMv rfl) ?_
          refine pv rfl (rFa fA42_0 rfl) ?_
          refine pv rfl (rLdN t19 rfl rfl) ?_
          refine pv rfl (rFa fA42_1 rfl) ?_
          refine pv rfl (rLdN t19 rfl rfl) ?_
          refine pv rfl (rLdA tA33 rfl rfl) ?_
          refine pc (R' := []) (L1 := He) rfl eN22 (c22 s { σ with g := pruneG hh σ.g } He hsHe w.bucket w.key ff ((hok.prune hh).len (by omega))) (fun u Hf hv => ?_)
          rw [readR_prune (fun v h => by rw [← hfe]; exact leq_join h)] at hv
          obtain ⟨rfl, hsHf⟩ := hv
          refine pv rfl (rMv rfl) ?_
          refine pv rfl (rEx rfl rfl) ?_
          refine pv rfl (rEx rfl rfl) ?_
          refine pv rfl (rEx rfl rfl) ?_
          refine pm rfl (mAlloc zC35) (fun b31 => ?_)
          refine pv rfl (rAs rfl) ?_
          refine ps0 rfl (tSt tA35.2 rfl rfl rfl rfl rfl rfl rfl) ?_
          refine pv rfl (rAs rfl) ?_
          refine gs_nil ?_
          refine gKeep [0, 5, 6, 7, 9, 10, 12, 15, 18, 20, 21, 23, 24, 25, 26, 27, 29, 30, 32] rfl ?_
          refine gSeq ?_
          refine gText (σ := wk [(0, .p), (1, .p), (2, .p), (3, .p), (4, .p), (5, .p), (6, .p), (7, .p), (8, .p), (9, .p), (10, .p), (11, .p), (12, .p), (13, .p), (14, .p), (15, .p), (16, .p), (17, .p), (18, .p), (19, .p), (20, .p), (21, .p), (22, .p), (23, .p), (24, .p), (25, .p), (26, .p), (27, .p), (28, .p), (29, .p), (30, .p), (31, .p), (32, .p), (33, .p), (34, .p), (35, .p), (36, .p), (37, .p), (38, .p), (39, .p), (40, .p), (41, .p)]) rfl ?_
          refine pv rfl (rMv rfl) ?_
          refine pv rfl (rMv rfl) ?_
          refine gB (e := 135) rfl (fun _ => ?_) (fun g135 => by cases g135)
          refine pv rfl (rMv rfl) ?_
          refine pv rfl (rMv rfl) ?_
          refine pv rfl (rBin rfl rfl bEqS) ?_
          refine gV (u := .bool true) 138 rfl (by simp) ?_
          refine pv rfl (rPk rfl rfl) ?_
          refine pv rfl (rMv rfl) ?_
          refine gB (e := 140) rfl (fun _ => ?_) (fun g140 => by cases g140)
          refine pv rfl (rMv rfl) ?_
          refine pv rfl (rMv rfl) ?_
          refine pv rfl (rBin rfl rfl (bEqB Try.underlying4)) ?_
          refine gV (u := .bool true) 143 rfl (by simp) ?_
          refine pv rfl (rPk rfl rfl) ?_
          refine pv rfl (rMv rfl) ?_
          refine gB (e := 145) rfl (fun _ => ?_) (fun g145 => by cases g145)
          refine pv rfl (rMv rfl) ?_
          refine pv rfl (rMv rfl) ?_
          refine pv rfl (rBin rfl rfl bEqS) ?_
          refine gV (u := .bool true) 148 rfl (by simp) ?_
          refine pv rfl (rPk rfl rfl) ?_
          refine pv rfl (rMv rfl) ?_
          refine gB (e := 150) rfl (fun _ => ?_) (fun g150 => by cases g150)
          refine pv rfl (rMv rfl) ?_
          refine pv rfl (rMv rfl) ?_
          refine pv rfl (rBin rfl rfl (bEqB Try.underlying4)) ?_
          refine gV (u := .bool true) 153 rfl (by simp) ?_
          refine pv rfl (rPk rfl rfl) ?_
          refine pv rfl (rMv rfl) ?_
          refine gB (e := 155) rfl (fun _ => ?_) (fun g155 => by cases g155)
          refine pv rfl (rMv rfl) ?_
          refine pv rfl (rMv rfl) ?_
          refine pv rfl (rMv rfl) ?_
          refine pc (R' := []) (L1 := Hf) rfl eN29 (c29 s _ Hf hsHf ((hok.prune hh).sum (by omega))) (fun u Hg hv => ?_)
          obtain ⟨n4, rfl, hn4, hsHg⟩ := hv
          obtain rfl := hn4.uniq hn3
          refine pv rfl (rBin rfl rfl (bSubI (by omega))) ?_
          refine pv rfl (rBin rfl rfl bEq) ?_
          refine gV (u := .bool true) 161 rfl (by simp) ?_
          refine pv rfl (rPk rfl rfl) ?_
          refine pv rfl (rMv rfl) ?_
          refine gB (e := 163) rfl (fun _ => ?_) (fun g163 => by cases g163)
          refine pv rfl (rMv rfl) ?_
          refine pv rfl (rLdA tA33 rfl rfl) ?_
          refine pc (R' := []) (L1 := Hg) rfl eN16 (c16 s _ Hg hsHg hh ((hok.prune hh).sum (by omega))) (fun u Hi hv => ?_)
          obtain ⟨n5, n6, rfl, hn5, hn6, hsHi⟩ := hv
          obtain rfl := hn5.uniq hn4
          change Total (pruneG hh (pruneG hh σ.g)) n6 at hn6
          rw [pruneG_idem] at hn6
          obtain rfl := hn6.uniq hn5
          refine pv rfl (rBin rfl rfl bEq) ?_
          refine gV (u := .bool true) 167 rfl (by simp) ?_
          refine pv rfl (rPk rfl rfl) ?_
          refine pv rfl (rMv rfl) ?_
          refine gB (e := 169) rfl (fun _ => ?_) (fun g169 => by cases g169)
          refine pv rfl (rMv rfl) ?_
          refine pf (R' := Hi) rfl eN26 (c26 s _ Hi hsHi) ?_
          refine pv rfl (rMv rfl) ?_
          refine pv rfl (rBin rfl rfl bEq) ?_
          refine gV (u := .bool true) 173 rfl (by simp) ?_
          refine pv rfl (rPk rfl rfl) ?_
          refine pv rfl (rAs rfl) ?_
          refine gs_nil ?_
          refine gKeep [0, 5, 6, 7, 8, 9, 10, 12] rfl ?_
          refine gRet ?_
          refine gEnd1 Try.results6 (resT rfl) ⟨?_, rfl⟩
          rfl
        · refine pm rfl (mAlloc zC33) (fun b16 => ?_)
          refine pf rfl eN34 (hfe ▸ c34 hh mm) ?_
          refine ps rfl (tSt tA33.2 rfl rfl rfl rfl rfl rfl rfl) (by kernel_rfl) ?_
          refine gKeep [0, 5, 6, 7, 9, 10, 12, 15, 16] rfl ?_
          refine gSeq ?_
          refine gText (σ := wk [(0, .p), (1, .p)]) rfl ?_
          refine pv rfl (rFa fA44_1 rfl) ?_
          refine ps0 rfl (tSt t14.2 rfl rfl rfl rfl rfl rfl rfl) ?_
          refine gs_nil ?_
          refine gSeq ?_
          refine gText (σ := wk [(0, .p), (1, .p), (2, .p), (3, .p)]) rfl ?_
          refine pv rfl (rLdA tA44 rfl rfl) ?_
          refine pf rfl eN13 (hwe ▸ c13 { pd with own := true }) ?_
          refine pm rfl (mAlloc zC42) (fun b17 => ?_)
          refine ps0 rfl (tSt tA42.2 rfl rfl rfl rfl rfl rfl rfl) ?_
          refine gs_nil ?_
          refine gSeq ?_
          refine gText (σ := wk [(0, .p), (1, .p), (2, .p), (3, .p), (4, .p), (5, .p), (6, .p), (7, .p), (8, .p), (9, .p), (10, .p), (11, .p), (12, .p), (13, .p), (14, .p)]) rfl ?_
          refine pv rfl (rMv rfl) ?_
          refine pv rfl (rFa fA42_0 rfl) ?_
          refine pv rfl (rLdN t19 rfl rfl) ?_
          refine pv rfl (rFa fA42_1 rfl) ?_
          refine pv rfl (rLdN t19 rfl rfl) ?_
          refine pv rfl (rLdA tA33 rfl rfl) ?_
          refine pc (R' := []) (L1 := H) rfl eN22 (c22 s σ H hsH w.bucket w.key hh (hok.len (by omega))) (fun u Ha hv => ?_)
          obtain ⟨rfl, hsHa⟩ := hv
          refine pv rfl (rMv rfl) ?_
          refine pv rfl (rEx rfl rfl) ?_
          refine pv rfl (rEx rfl rfl) ?_
          refine pv rfl (rEx rfl rfl) ?_
          refine pm rfl (mAlloc zC35) (fun b19 => ?_)
          refine pv rfl (rAs rfl) ?_
          refine ps0 rfl (tSt tA35.2 rfl rfl rfl rfl rfl rfl rfl) ?_
          refine pv rfl (rAs rfl) ?_
          refine gs_nil ?_
          refine gKeep [0, 5, 6, 7, 9, 10, 12, 15, 16, 17, 18, 20] rfl ?_
          refine gSeq ?_
          refine gText (σ := wk [(0, .p), (1, .p), (2, .p), (3, .p), (4, .p), (5, .p), (6, .p), (7, .p), (8, .p), (9, .p), (10, .p), (11, .p), (12, .p), (13, .p), (14, .p)]) rfl ?_
          refine pv rfl (rMv rfl) ?_
          refine pv rfl (rFa fA42_0 rfl) ?_
          refine pv rfl (rLdN t19 rfl rfl) ?_
          refine pv rfl (rFa fA42_1 rfl) ?_
          refine pv rfl (rLdN t19 rfl rfl) ?_
          refine pv rfl (rLdA tA33 rfl rfl) ?_
          refine pc (R' := []) (L1 := Ha) rfl eN22 (c22 s σ Ha hsHa w.bucket w.key ff (hok.len (by omega))) (fun u Hb hv => ?_)
          obtain ⟨rfl, hsHb⟩ := hv
          refine pv rfl (rMv rfl) ?_
          refine pv rfl (rEx rfl rfl) ?_
          refine pv rfl (rEx rfl rfl) ?_
          refine pv rfl (rEx rfl rfl) ?_
          refine pm rfl (mAlloc zC35) (fun b22 => ?_)
          refine pv rfl (rAs rfl) ?_
          refine ps0 rfl (tSt tA35.2 rfl rfl rfl rfl rfl rfl rfl) ?_
          refine pv rfl (rAs rfl) ?_
          refine gs_nil ?_
          refine gKeep [0, 5, 6, 7, 9, 10, 12, 15, 16, 17, 18, 20, 21, 23] rfl ?_
          refine gSeq ?_
          refine gText (σ := wk [(0, .p), (1, .p), (2, .p)]) rfl ?_
          refine pv rfl (rMv rfl) ?_
          refine pc (R' := []) (L1 := Hb) rfl eN29 (c29 s σ Hb hsHb (hok.sum (by omega))) (fun u Hc hv => ?_)
          obtain ⟨n1, rfl, hn1, hsHc⟩ := hv
          refine pv rfl (rAs rfl) ?_
          refine gs_nil ?_
          refine gSeq ?_
          refine gText (σ := wk [(0, .p), (1, .p), (2, .p)]) rfl ?_
          refine pv rfl (rMv rfl) ?_
          refine pf (R' := Hc) rfl eN26 (c26 s σ Hc hsHc) ?_
          refine pv rfl (rAs rfl) ?_
          refine gs_nil ?_
          refine gKeep [0, 5, 6, 7, 9, 10, 12, 15, 16, 17, 18, 20, 21, 23, 24, 25] rfl ?_
          refine gSeq ?_
          refine gText (σ := wk [(0, .p), (1, .p), (2, .p), (3, .p)]) rfl ?_
          refine pv rfl (rMv rfl) ?_
          refine pv rfl (rLdA tA33 rfl rfl) ?_
          refine pc (R' := []) (L1 := Hc) rfl eN16 (c16 s σ Hc hsHc hh (hok.sum (by omega))) (fun u Hd hv => ?_)
          obtain ⟨n2, n3, rfl, hn2, hn3, hsHd⟩ := hv
          obtain rfl := hn2.uniq hn1
          have hl1 := hok.sum (by omega) _ hn2
          have hl3 := (hok.prune hh).sum (by omega) _ hn3
          refine pv rfl (rAs rfl) ?_
          refine gs_nil ?_
          refine gSeq ?_
          refine gText (σ := wk [(0, .p), (1, .p), (2, .p), (3, .p), (4, .p), (5, .p), (6, .p), (7, .p), (8, .p), (9, .p), (10, .p), (11, .p), (12, .p), (13, .p), (14, .p)]) rfl ?_
          refine pv rfl (rMv rfl) ?_
          refine pv rfl (rFa fA42_0 rfl) ?_
          refine pv rfl (rLdN t19 rfl rfl) ?_
          refine pv rfl (rFa fA42_1 rfl) ?_
          refine pv rfl (rLdN t19 rfl rfl) ?_
          refine pv rfl (rLdA tA33 rfl rfl) ?_
          refine pc (R' := []) (L1 := Hd) rfl eN22 (c22 s { σ with g := pruneG hh σ.g } Hd hsHd w.bucket w.key hh ((hok.prune hh).len (by omega))) (fun u He hv => ?_)
          rw [readR_prune (fun v h => h)] at hv
          obtain ⟨rfl, hsHe⟩ := hv
          refine pv rfl (rMv rfl) ?_
          refine pv rfl (rEx rfl rfl) ?_
          refine pv rfl (rEx rfl rfl) ?_
          refine pv rfl (rEx rfl rfl) ?_
          refine pm rfl (mAlloc zC35) (fun b28 => ?_)
          refine pv rfl (rAs rfl) ?_
          refine ps0 rfl (tSt tA35.2 rfl rfl rfl rfl rfl rfl rfl) ?_
          refine pv rfl (rAs rfl) ?_
          refine gs_nil ?_
          refine gKeep [0, 5, 6, 7, 9, 10, 12, 15, 16, 17, 18, 20, 21, 23, 24, 25, 26, 27, 29] rfl ?_
          refine gSeq ?_
          refine gText (σ := wk [(0, .p), (1, .p), (2, .p), (3, .p), (4, .p), (5, .p), (6, .p), (7, .p), (8, .p), (9, .p), (10, .p), (11, .p), (12, .p), (13, .p), (14, .p)]) rfl ?_
          refine pv rfl (rMv rfl) ?_
          refine pv rfl (rFa fA42_0 rfl) ?_
          refine pv rfl (rLdN t19 rfl rfl) ?_
          refine pv rfl (rFa fA42_1 rfl) ?_
          refine pv rfl (rLdN t19 rfl rfl) ?_
          refine pv rfl (rLdA tA33 rfl rfl) ?_
          refine pc (R' := []) (L1 := He) rfl eN22 (c22 s { σ with g := pruneG hh σ.g } He hsHe w.bucket w.key ff ((hok.prune hh).len (by omega))) (fun u Hf hv => ?_)
          rw [readR_prune (fun v h => by rw [← hfe]; exact leq_join h)] at hv
          obtain ⟨rfl, hsHf⟩ := hv
          refine pv rfl (rMv rfl) ?_
          refine pv rfl (rEx rfl rfl) ?_
          refine pv rfl (rEx rfl rfl) ?_
          refine pv rfl (rEx rfl rfl) ?_
          refine pm rfl (mAlloc zC35) (fun b31 => ?_)
          refine pv rfl (rAs rfl) ?_
          refine ps0 rfl (tSt tA35.2 rfl rfl rfl rfl rfl rfl rfl) ?_
          refine pv rfl (rAs rfl) ?_
          refine gs_nil ?_
          refine gKeep [0, 5, 6, 7, 9, 10, 12, 15, 18, 20, 21, 23, 24, 25, 26, 27, 29, 30, 32] rfl ?_
          refine gSeq ?_
          refine gText (σ := wk [(0, .p), (1, .p), (2, .p), (3, .p), (4, .p), (5, .p), (6, .p), (7, .p), (8, .p), (9, .p), (10, .p), (11, .p), (12, .p), (13, .p), (14, .p), (15, .p), (16, .p), (17, .p), (18, .p), (19, .p), (20, .p), (21, .p), (22, .p), (23, .p), (24, .p), (25, .p), (26, .p), (27, .p), (28, .p), (29, .p), (30, .p), (31, .p), (32, .p), (33, .p), (34, .p), (35, .p), (36, .p), (37, .p), (38, .p), (39, .p), (40, .p), (41, .p)]) rfl ?_
          refine pv rfl (rMv rfl) ?_
          refine pv rfl (rMv rfl) ?_
          refine gB (e := 135) rfl (fun _ => ?_) (fun g135 => by cases g135)
          refine pv rfl (rMv rfl) ?_
          refine pv rfl (rMv rfl) ?_
          refine pv rfl (rBin rfl rfl bEqS) ?_
          refine gV (u := .bool true) 138 rfl (by simp) ?_
          refine pv rfl (rPk rfl rfl) ?_
          refine pv rfl (rMv rfl) ?_
          refine gB (e := 140) rfl (fun _ => ?_) (fun g140 => by cases g140)
          refine pv rfl (rMv rfl) ?_
          refine pv rfl (rMv rfl) ?_
          refine pv rfl (rBin rfl rfl (bEqB Try.underlying4)) ?_
          refine gV (u := .bool true) 143 rfl (by simp) ?_
          refine pv rfl (rPk rfl rfl) ?_
          refine pv rfl (rMv rfl) ?_
          refine gB (e := 145) rfl (fun _ => ?_) (fun g145 => by cases g145)
          refine pv rfl (rMv rfl) ?_
          refine pv rfl (rMv rfl) ?_
          refine pv rfl (rBin rfl rfl bEqS) ?_
          refine gV (u := .bool true) 148 rfl (by simp) ?_
          refine pv rfl (rPk rfl rfl) ?_
          refine pv rfl (rMv rfl) ?_
          refine gB (e := 150) rfl (fun _ => ?_) (fun g150 => by cases g150)
          refine pv rfl (rMv rfl) ?_
          refine pv rfl (rMv rfl) ?_
          refine pv rfl (rBin rfl rfl (bEqB Try.underlying4)) ?_
          refine gV (u := .bool true) 153 rfl (by simp) ?_
          refine pv rfl (rPk rfl rfl) ?_
          refine pv rfl (rMv rfl) ?_
          refine gB (e := 155) rfl (fun _ => ?_) (fun g155 => by cases g155)
          refine pv rfl (rMv rfl) ?_
          refine pv rfl (rMv rfl) ?_
          refine pv rfl (rMv rfl) ?_
          refine pc (R' := []) (L1 := Hf) rfl eN29 (c29 s _ Hf hsHf ((hok.prune hh).sum (by omega))) (fun u Hg hv => ?_)
          obtain ⟨n4, rfl, hn4, hsHg⟩ := hv
          obtain rfl := hn4.uniq hn3
          refine pv rfl (rBin rfl rfl (bSubI (by omega))) ?_
          refine pv rfl (rBin rfl rfl bEq) ?_
          refine gV (u := .bool true) 161 rfl (by simp) ?_
          refine pv rfl (rPk rfl rfl) ?_
          refine pv rfl (rMv rfl) ?_
          refine gB (e := 163) rfl (fun _ => ?_) (fun g163 => by cases g163)
          refine pv rfl (rMv rfl) ?_
          refine pv rfl (rLdA tA33 rfl rfl) ?_
          refine pc (R' := []) (L1 := Hg) rfl eN16 (c16 s _ Hg hsHg hh ((hok.prune hh).sum (by omega))) (fun u Hi hv => ?_)
          obtain ⟨n5, n6, rfl, hn5, hn6, hsHi⟩ := hv
          obtain rfl := hn5.uniq hn4
          change Total (pruneG hh (pruneG hh σ.g)) n6 at hn6
          rw [pruneG_idem] at hn6
          obtain rfl := hn6.uniq hn5
          refine pv rfl (rBin rfl rfl bEq) ?_
          refine gV (u := .bool true) 167 rfl (by simp) ?_
          refine pv rfl (rPk rfl rfl) ?_
          refine pv rfl (rMv rfl) ?_
          refine gB (e := 169) rfl (fun _ => ?_) (fun g169 => by cases g169)
          refine pv rfl (rMv rfl) ?_
          refine pf (R' := Hi) rfl eN26 (c26 s _ Hi hsHi) ?_
          refine pv rfl (rMv rfl) ?_
          refine pv rfl (rBin rfl rfl bEq) ?_
          refine gV (u := .bool true) 173 rfl (by simp) ?_
          refine pv rfl (rPk rfl rfl) ?_
          refine pv rfl (rAs rfl) ?_
          refine gs_nil ?_
          refine gKeep [0, 5, 6, 7, 8, 9, 10, 12] rfl ?_
          refine gRet ?_
          refine gEnd1 Try.results6 (resT rfl) ⟨?_, rfl⟩
          rfl
      · refine pm rfl (mAlloc zC33) (fun b16 => ?_)
        refine pf rfl eN12 (hme ▸ c12 vm) ?_
        refine pf rfl eN34 (hfe ▸ c34 hh mm) ?_
        refine ps rfl (tSt tA33.2 rfl rfl rfl rfl rfl rfl rfl) (by kernel_rfl) ?_
        refine gKeep [0, 5, 6, 7, 9, 10, 12, 15, 16] rfl ?_
        refine gSeq ?_
        refine gText (σ := wk [(0, .p), (1, .p)]) rfl ?_
        refine pv rfl (rFa fA44_1 rfl) ?_
        refine ps0 rfl (tSt t14.2 rfl rfl rfl rfl rfl rfl rfl) ?_
        refine gs_nil ?_
        refine gSeq ?_
        refine gText (σ := wk [(0, .p), (1, .p), (2, .p), (3, .p)]) rfl ?_
        refine pv rfl (rLdA tA44 rfl rfl) ?_
        refine pf rfl eN13 (hwe ▸ c13 { pd with own := true }) ?_
        refine pm rfl (mAlloc zC42) (fun b17 => ?_)
        refine ps0 rfl (tSt tA42.2 rfl rfl rfl rfl rfl rfl rfl) ?_
        refine gs_nil ?_
        refine gSeq ?_
        refine gText (σ := wk [(0, .p), (1, .p), (2, .p), (3, .p), (4, .p), (5, .p), (6, .p), (7, .p), (8, .p), (9, .p), (10, .p), (11, .p), (12, .p), (13, .p), (14, .p)]) rfl ?_
        refine pv rfl (rMv rfl) ?_
        refine pv rfl (rFa fA42_0 rfl) ?_
        refine pv rfl (rLdN t19 rfl rfl) ?_
        refine pv rfl (rFa fA42_1 rfl) ?_
        refine pv rfl (rLdN t19 rfl rfl) ?_
        refine pv rfl (rLdA tA33 rfl rfl) ?_
        refine pc (R' := []) (L1 := H) rfl eN22 (c22 s σ H hsH w.bucket w.key hh (hok.len (by omega))) (fun u Ha hv => ?_)
        obtain ⟨rfl, hsHa⟩ := hv
        refine pv rfl (rMv rfl) ?_
        refine pv rfl (rEx rfl rfl) ?_
        refine pv rfl (rEx rfl rfl) ?_
        refine pv rfl (rEx rfl rfl) ?_
        refine pm rfl (mAlloc zC35) (fun b19 => ?_)
        refine pv rfl (rAs rfl) ?_
        refine ps0 rfl (tSt tA35.2 rfl rfl rfl rfl rfl rfl rfl) ?_
        refine pv rfl (rAs rfl) ?_
        refine gs_nil ?_
        refine gKeep [0, 5, 6, 7, 9, 10, 12, 15, 16, 17, 18, 20] rfl ?_
        refine gSeq ?_
        refine gText (σ := wk [(0, .p), (1, .p), (2, .p), (3, .p), (4, .p), (5, .p), (6, .p), (7, .p), (8, .p), (9, .p), (10, .p), (11, .p), (12, .p), (13, .p), (14, .p)]) rfl ?_
        refine pv rfl (rMv rfl) ?_
        refine pv rfl (rFa fA42_0 rfl) ?_
        refine pv rfl (rLdN t19 rfl rfl) ?_
        refine pv rfl (rFa fA42_1 rfl) ?_
        refine pv rfl (rLdN t19 rfl rfl) ?_
        refine pv rfl (rLdA tA33 rfl rfl) ?_
        refine pc (R' := []) (L1 := Ha) rfl eN22 (c22 s σ Ha hsHa w.bucket w.key ff (hok.len (by omega))) (fun u Hb hv => ?_)
        obtain ⟨rfl, hsHb⟩ := hv
        refine pv rfl (rMv rfl) ?_
        refine pv rfl (rEx rfl rfl) ?_
        refine pv rfl (rEx rfl rfl) ?_
        refine pv rfl (rEx rfl rfl) ?_
        refine pm rfl (mAlloc zC35) (fun b22 => ?_)
        refine pv rfl (rAs rfl) ?_
        refine ps0 rfl (tSt tA35.2 rfl rfl rfl rfl rfl rfl rfl) ?_
        refine pv rfl (rAs rfl) ?_
        refine gs_nil ?_
        refine gKeep [0, 5, 6, 7, 9, 10, 12, 15, 16, 17, 18, 20, 21, 23] rfl ?_
        refine gSeq ?_
        refine gText (σ := wk [(0, .p), (1, .p), (2, .p)]) rfl ?_
        refine pv rfl (rMv rfl) ?_
        refine pc (R' := []) (L1 := Hb) rfl eN29 (c29 s σ Hb hsHb (hok.sum (by omega))) (fun u Hc hv => ?_)
        obtain ⟨n1, rfl, hn1, hsHc⟩ := hv
        refine pv rfl (rAs rfl) ?_
        refine gs_nil ?_
        refine gSeq ?_
        refine gText (σ := wk [(0, .p), (1, .p), (2, .p)]) rfl ?_
        refine pv rfl (rMv rfl) ?_
        refine pf (R' := Hc) rfl eN26 (c26 s σ Hc hsHc) ?_
        refine pv rfl (rAs rfl) ?_
        refine gs_nil ?_
        refine gKeep [0, 5, 6, 7, 9, 10, 12, 15, 16, 17, 18, 20, 21, 23, 24, 25] rfl ?_
        refine gSeq ?_
        refine gText (σ := wk [(0, .p), (1, .p), (2, .p), (3, .p)]) rfl ?_
        refine pv rfl (rMv rfl) ?_
        refine pv rfl (rLdA tA33 rfl rfl) ?_
        refine pc (R' := []) (L1 := Hc) rfl eN16 (c16 s σ Hc hsHc hh (hok.sum (by omega))) (fun u Hd hv => ?_)
        obtain ⟨n2, n3, rfl, hn2, hn3, hsHd⟩ := hv
        obtain rfl := hn2.uniq hn1
        have hl1 := hok.sum (by omega) _ hn2
        have hl3 := (hok.prune hh).sum (by omega) _ hn3
        refine pv rfl (rAs rfl) ?_
        refine gs_nil ?_
        refine gSeq ?_
        refine gText (σ := wk [(0, .p), (1, .p), (2, .p), (3, .p), (4, .p), (5, .p), (6, .p), (7, .p), (8, .p), (9, .p), (10, .p), (11, .p), (12, .p), (13, .p), (14, .p)]) rfl ?_
        refine pv rfl (rMv rfl) ?_
        refine pv rfl (rFa fA42_0 rfl) ?_
        refine pv rfl (rLdN t19 rfl rfl) ?_
        refine pv rfl (rFa fA42_1 rfl) ?_
        refine pv rfl (rLdN t19 rfl rfl) ?_
        refine pv rfl (rLdA tA33 rfl rfl) ?_
        refine pc (R' := []) (L1 := Hd) rfl eN22 (c22 s { σ with g := pruneG hh σ.g } Hd hsHd w.bucket w.key hh ((hok.prune hh).len (by omega))) (fun u He hv => ?_)
        rw [readR_prune (fun v h => h)] at hv
        obtain ⟨rfl, hsHe⟩ := hv
        refine pv rfl (rMv rfl) ?_
        refine pv rfl (rEx rfl rfl) ?_
        refine pv rfl (rEx rfl rfl) ?_
        refine pv rfl (rEx rfl rfl) ?_
        refine pm rfl (mAlloc zC35) (fun b28 => ?_)
        refine pv rfl (rAs rfl) ?_
        refine ps0 rfl (tSt tA35.2 rfl rfl rfl rfl rfl rfl rfl) ?_
        refine pv rfl (rAs rfl) ?_
        refine gs_nil ?_
        refine gKeep [0, 5, 6, 7, 9, 10, 12, 15, 16, 17, 18, 20, 21, 23, 24, 25, 26, 27, 29] rfl ?_
        refine gSeq ?_
        refine gText (σ := wk [(0, .p), (1, .p), (2, .p), (3, .p), (4, .p), (5, .p), (6, .p), (7, .p), (8, .p), (9, .p), (10, .p), (11, .p), (12, .p), (13, .p), (14, .p)]) rfl ?_
        refine pv rfl (rMv rfl) ?_
        refine pv rfl (rFa fA42_0 rfl) ?_
        refine pv rfl (rLdN t19 rfl rfl) ?_
        refine pv rfl (rFa fA42_1 rfl) ?_
        refine pv rfl (rLdN t19 rfl rfl) ?_
        refine pv rfl (rLdA tA33 rfl rfl) ?_
        refine pc (R' := []) (L1 := He) rfl eN22 (c22 s { σ with g := pruneG hh σ.g } He hsHe w.bucket w.key ff ((hok.prune hh).len (by omega))) (fun u Hf hv => ?_)
        rw [readR_prune (fun v h => by rw [← hfe]; exact leq_join h)] at hv
        obtain ⟨rfl, hsHf⟩ := hv
        refine pv rfl (rMv rfl) ?_
        refine pv rfl (rEx rfl rfl) ?_
        refine pv rfl (rEx rfl rfl) ?_
        refine pv rfl (rEx rfl rfl) ?_
        refine pm rfl (mAlloc zC35) (fun b31 => ?_)
        refine pv rfl (rAs rfl) ?_
        refine ps0 rfl (tSt tA35.2 rfl rfl rfl rfl rfl rfl rfl) ?_
        refine pv rfl (rAs rfl) ?_
        refine gs_nil ?_
        refine gKeep [0, 5, 6, 7, 9, 10, 12, 15, 18, 20, 21, 23, 24, 25, 26, 27, 29, 30, 32] rfl ?_
        refine gSeq ?_
        refine gText (σ := wk [(0, .p), (1, .p), (2, .p), (3, .p), (4, .p), (5, .p), (6, .p), (7, .p), (8, .p), (9, .p), (10, .p), (11, .p), (12, .p), (13, .p), (14, .p), (15, .p), (16, .p), (17, .p), (18, .p), (19, .p), (20, .p), (21, .p), (22, .p), (23, .p), (24, .p), (25, .p), (26, .p), (27, .p), (28, .p), (29, .p), (30, .p), (31, .p), (32, .p), (33, .p), (34, .p), (35, .p), (36, .p), (37, .p), (38, .p), (39, .p), (40, .p), (41, .p)]) rfl ?_
        refine pv rfl (rMv rfl) ?_
        refine pv rfl (rMv rfl) ?_
        refine gB (e := 135) rfl (fun _ => ?_) (fun g135 => by cases g135)
        refine pv rfl (rMv rfl) ?_
        refine pv rfl (rMv rfl) ?_
        refine pv rfl (rBin rfl rfl bEqS) ?_
        refine gV (u := .bool true) 138 rfl (by simp) ?_
        refine pv rfl (rPk rfl rfl) ?_
        refine pv rfl (rMv rfl) ?_
        refine gB (e := 140) rfl (fun _ => ?_) (fun g140 => by cases g140)
        refine pv rfl (rMv rfl) ?_
        refine pv rfl (rMv rfl) ?_
        refine pv rfl (rBin rfl rfl (bEqB Try.underlying4)) ?_
        refine gV (u := .bool true) 143 rfl (by simp) ?_
        refine pv rfl (rPk rfl rfl) ?_
        refine pv rfl (rMv rfl) ?_
        refine gB (e := 145) rfl (fun _ => ?_) (fun g145 => by cases g145)
        refine pv rfl (rMv rfl) ?_
        refine pv rfl (rMv rfl) ?_
        refine pv rfl (rBin rfl rfl bEqS) ?_
        refine gV (u := .bool true) 148 rfl (by simp) ?_
        refine pv rfl (rPk rfl rfl) ?_
        refine pv rfl (rMv rfl) ?_
        refine gB (e := 150) rfl (fun _ => ?_) (fun g150 => by cases g150)
        refine pv rfl (rMv rfl) ?_
        refine pv rfl (rMv rfl) ?_
        refine pv rfl (rBin rfl rfl (bEqB Try.underlying4)) ?_
        refine gV (u := .bool true) 153 rfl (by simp) ?_
        refine pv rfl (rPk rfl rfl) ?_
        refine pv rfl (rMv rfl) ?_
        refine gB (e := 155) rfl (fun _ => ?_) (fun g155 => by cases g155)
        refine pv rfl (rMv rfl) ?_
        refine pv rfl (rMv rfl) ?_
        refine pv rfl (rMv rfl) ?_
        refine pc (R' := []) (L1 := Hf) rfl eN29 (c29 s _ Hf hsHf ((hok.prune hh).sum (by omega))) (fun u Hg hv => ?_)
        obtain ⟨n4, rfl, hn4, hsHg⟩ := hv
        obtain rfl := hn4.uniq hn3
        refine pv rfl (rBin rfl rfl (bSubI (by omega))) ?_
        refine pv rfl (rBin rfl rfl bEq) ?_
        refine gV (u := .bool true) 161 rfl (by simp) ?_
        refine pv rfl (rPk rfl rfl) ?_
        refine pv rfl (rMv rfl) ?_
        refine gB (e := 163) rfl (fun _ => ?_) (fun g163 => by cases g163)
        refine pv rfl (rMv rfl) ?_
        refine pv rfl (rLdA tA33 rfl rfl) ?_
        refine pc (R' := []) (L1 := Hg) rfl eN16 (c16 s _ Hg hsHg hh ((hok.prune hh).sum (by omega))) (fun u Hi hv => ?_)
        obtain ⟨n5, n6, rfl, hn5, hn6, hsHi⟩ := hv
        obtain rfl := hn5.uniq hn4
        change Total (pruneG hh (pruneG hh σ.g)) n6 at hn6
        rw [pruneG_idem] at hn6
        obtain rfl := hn6.uniq hn5
        refine pv rfl (rBin rfl rfl bEq) ?_
        refine gV (u := .bool true) 167 rfl (by simp) ?_
        refine pv rfl (rPk rfl rfl) ?_
        refine pv rfl (rMv rfl) ?_
        refine gB (e := 169) rfl (fun _ => ?_) (fun g169 => by cases g169)
        refine pv rfl (rMv rfl) ?_
        refine pf (R' := Hi) rfl eN26 (c26 s _ Hi hsHi) ?_
        refine pv rfl (rMv rfl) ?_
        refine pv rfl (rBin rfl rfl bEq) ?_
        refine gV (u := .bool true) 173 rfl (by simp) ?_
        refine pv rfl (rPk rfl rfl) ?_
        refine pv rfl (rAs rfl) ?_
        refine gs_nil ?_
        refine gKeep [0, 5, 6, 7, 8, 9, 10, 12] rfl ?_
        refine gRet ?_
        refine gEnd1 Try.results6 (resT rfl) ⟨?_, rfl⟩
        rfl
end Go.Proofs.Yteeobhehfdifnaa
