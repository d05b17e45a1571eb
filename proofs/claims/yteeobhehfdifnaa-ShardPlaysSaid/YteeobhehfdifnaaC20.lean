/- A part of the proof that shardPlays of chapter 10 returns true at every room and every list of deeds, and leaves its arguments as they read; no condition. -/
import Derived.Test.YteeobhehfdifnaaC18
import Derived.Test.YteeobhehfdifnaaTBe
set_option linter.unusedVariables false
set_option linter.unusedSimpArgs false
set_option linter.unusedVariables false
set_option linter.unusedSimpArgs false
namespace Go.Proofs.Yteeobhehfdifnaa
open Go TB Go.Proofs
theorem iS86 : IS Try.prog 86 6 := ⟨_, Try.underlying86, fun w => by kernel_rfl⟩
theorem uS86 : ∃ e, Try.prog.underlying 86 = some (.slice e) := ⟨_, Try.underlying86⟩
theorem bS86_1 : BS Try.prog 86 1 51 [(0, 6)] [.int .u64 0, .int .u64 0, .int .u64 0, .int .u64 0, .int .i64 0, .slice none 0 0] := bs_of (v := .agg #[.int .u64 0, .int .u64 0, .int .u64 0, .int .u64 0, .int .i64 0, .slice none 0 0]) (sz := 6) Try.underlying86 (fun w => by kernel_rfl) (by decide) (fun w => by kernel_rfl) (by kernel_rfl) (by decide) rfl
theorem aP86 : AP Try.prog 86 51 6 64 := ap_of (z := .agg #[.int .u64 0, .int .u64 0, .int .u64 0, .int .u64 0, .int .i64 0, .slice none 0 0]) Try.underlying86 (by kernel_rfl) rfl (by decide) (by decide)
set_option maxRecDepth 4000 in
theorem c5 (xs : List DealA) (p : Option Addr) (cap0 : Nat) (R : HL) (hl : Lies R p (dealsL xs)) (hlen : xs.length ≤ 9223372036854775807) (hR : ∀ x ∈ xs, DealR R x) (pd : PutD) (va : VecD) : Pf Try.prog 5 [.slice p xs.length cap0, putV pd, vecdV va] R (.bool true) := by
  refine trEnter Try.func5 rfl Try.ntmps5 (l := [(0, _), (1, _), (2, _)]) rfl rfl (fun w0 => ?_)
  refine gSeq ?_
  refine gText (σ := wk [(0, .p), (1, .p), (2, .p)]) rfl ?_
  refine pm rfl (mBox rfl rfl) (fun b4 => ?_)
  refine pm rfl (mBox rfl rfl) (fun b5 => ?_)
  refine pv rfl (rAs rfl) ?_
  refine gs_nil ?_
  refine gSeq ?_
  refine gText (σ := wk [(0, .p), (1, .p)]) rfl ?_
  refine pf rfl eN8 c8 ?_
  refine pv rfl (rAs rfl) ?_
  refine gs_nil ?_
  refine gSeq ?_
  refine gSeq ?_
  refine gText (σ := wk [(0, .p), (1, .p)]) rfl ?_
  refine pv rfl (rMv rfl) ?_
  refine pv rfl (rNot rfl) ?_
  refine gs_nil ?_
  refine gKeep [0, 4, 5, 6, 7, 34] rfl ?_
  refine gCondF rfl rfl ?_
  refine gSkip ?_
  refine gSeq ?_
  refine gText (σ := wk [(0, .p), (1, .p), (2, .p), (3, .p), (4, .p), (5, .p)]) rfl ?_
  refine pc (R' := []) rfl eN9 (c9 16) (fun u Ha hv => ?_)
  rw [if_neg (by decide)] at hv
  obtain ⟨sa, rfl, hHa⟩ := hv
  change ShRep T0 sa ⟨16, [], fun _ => [], Vec.zero⟩ Ha at hHa
  refine pv rfl (rMv rfl) ?_
  refine pv rfl (rEx rfl rfl) ?_
  refine pv rfl (rEx rfl rfl) ?_
  refine pv rfl (rAs rfl) ?_
  refine pv rfl (rAs rfl) ?_
  refine gs_nil ?_
  refine gKeep [0, 4, 5, 6, 7, 8, 9] rfl ?_
  refine gSeq ?_
  refine gText (σ := wk [(0, .p), (1, .p), (2, .p), (3, .p), (4, .p), (5, .p)]) rfl ?_
  refine pc (R' := []) rfl eN9 (c9 16) (fun u Hb hv => ?_)
  rw [if_neg (by decide)] at hv
  obtain ⟨sb, rfl, hHb⟩ := hv
  change ShRep T0 sb ⟨16, [], fun _ => [], Vec.zero⟩ Hb at hHb
  refine pv rfl (rMv rfl) ?_
  refine pv rfl (rEx rfl rfl) ?_
  refine pv rfl (rEx rfl rfl) ?_
  refine pv rfl (rAs rfl) ?_
  refine pv rfl (rAs rfl) ?_
  refine gs_nil ?_
  refine gKeep [0, 4, 5, 6, 7, 8, 9, 10, 11] rfl ?_
  refine gSeq ?_
  refine gSeq ?_
  refine gText (σ := wk [(0, .p), (1, .p), (2, .p), (3, .p), (4, .p), (5, .p), (6, .p), (7, .p), (8, .p), (9, .p), (10, .p), (11, .p), (12, .p), (13, .p)]) rfl ?_
  refine pv rfl (rMv rfl) ?_
  refine pv rfl (rBin rfl rfl (bPtNil Try.underlying25)) ?_
  refine pv rfl (rMv rfl) ?_
  refine gB (e := 45) rfl (fun g45 => by cases g45) (fun _ => ?_)
  refine pv rfl (rMv rfl) ?_
  refine pv rfl (rBin rfl rfl (bPtNil Try.underlying25)) ?_
  refine pv rfl (rPk rfl rfl) ?_
  refine pv rfl (rMv rfl) ?_
  refine gB (e := 49) rfl (fun g49 => by cases g49) (fun _ => ?_)
  refine pv rfl (rMv rfl) ?_
  refine pv rfl (rBin rfl rfl bNe) ?_
  refine pv rfl (rPk rfl rfl) ?_
  refine pv rfl (rMv rfl) ?_
  refine gB (e := 53) rfl (fun g53 => by cases g53) (fun _ => ?_)
  refine pv rfl (rMv rfl) ?_
  refine pv rfl (rBin rfl rfl bNe) ?_
  refine pv rfl (rPk rfl rfl) ?_
  refine gs_nil ?_
  refine gKeep [0, 4, 5, 6, 7, 8, 10, 56] rfl ?_
  refine gCondF rfl (by decide) ?_
  refine gSkip ?_
  refine gSeq ?_
  refine gText (σ := wk [(0, .p)]) rfl ?_
  refine pv rfl (rAs rfl) ?_
  refine gs_nil ?_
  refine gSeq ?_
  refine gSeq ?_
  refine gText (σ := wk [(0, .p)]) rfl ?_
  refine pv rfl (rAs rfl) ?_
  refine gs_nil ?_
  refine gBlock ?_
  refine gLoop (σ := AlG) (fun z => ([(0, .slice p xs.length cap0), (4, .pointer (some ⟨b4, 0, none⟩)), (5, .pointer (some ⟨b5, 0, none⟩)), (7, .bool true), (8, .pointer (some ⟨sa, 0, none⟩)), (10, .pointer (some ⟨sb, 0, none⟩)), (12, .slice z.q z.bs.length z.cap), (13, .int .i64 (z.i : Nat))], (b5, Obj.cells (List.toArray (vecdL va)) 46) :: (b4, Obj.cells (List.toArray (putL pd)) 44) :: (z.Lt ++ (z.WH ++ (Ha ++ Hb))))) (fun z => z.i ≤ xs.length ∧ z.i ≤ 10 ∧ z.ts.length = z.i ∧ WtF 42 z.ts z.bs z.WH ∧ Row 51 6 z.bs.length (batF z.bs) (.slice z.q z.bs.length z.cap) z.Lt ∧ AltOK z.ts) (fun z => xs.length - z.i) ?_ (fun z hs => ?_)
  · refine gTo ((b5, Obj.cells (List.toArray (vecdL va)) 46) :: (b4, Obj.cells (List.toArray (putL pd)) 44) :: ([] ++ ([] ++ (Ha ++ Hb)))) ?_
    refine gInvK (⟨0, [], [], none, 0, [], []⟩) [0, 4, 5, 7, 8, 10, 12, 13] ⟨Nat.zero_le _, Nat.zero_le _, rfl, ⟨rfl, rfl⟩, Row.nil _ _, AltOK.nil⟩ rfl rfl
  · obtain ⟨i, ts, bs, q0, cap0b, Lt, WH⟩ := z
    obtain ⟨hi, hi10, hti, hW, hrow, halt⟩ := hs
    simp only at hi hi10 hti hW hrow halt ⊢
    have hbl := hW.len
    refine gSeq ?_
    refine gSeq ?_
    refine gText (σ := wk [(0, .p), (1, .p), (2, .p), (3, .p), (4, .p), (5, .p), (6, .p), (7, .p)]) rfl ?_
    refine pv rfl (rMv rfl) ?_
    refine pv rfl (rMv rfl) ?_
    refine pv rfl (rLen uS85 rfl) ?_
    refine pv rfl (rBin rfl rfl bLt) ?_
    refine pv rfl (rMv rfl) ?_
    refine gB (e := 61) rfl (fun g61 => ?_) (fun g61 => ?_)
    · have hin : i < xs.length := by have := of_decide_eq_true g61; omega
      refine pv rfl (rMv rfl) ?_
      refine pv rfl (rBin rfl rfl bLt) ?_
      refine pv rfl (rPk rfl rfl) ?_
      refine gs_nil ?_
      refine gKeep [0, 4, 5, 7, 8, 10, 12, 13, 64] rfl ?_
      refine gCondD rfl (fun h2 => ?_) (fun h2 => ?_)
      · have hx := List.getElem?_eq_getElem hin
        generalize xs[i] = x at hx
        have hxR := hR x (List.mem_of_getElem? hx)
        obtain ⟨b, o, cl, E, fr, rfl, hm, hv⟩ := hl.at dealL_len hx (by decide)
        have hwl := dealWs_len { x.d with own := true }
        refine gSkip ?_
        refine gSeq ?_
        refine gBlock ?_
        refine gSeq ?_
        refine gText (σ := wk [(0, .p), (1, .p), (2, .p), (3, .p), (4, .p), (5, .p)]) rfl ?_
        refine pv rfl (rMv rfl) ?_
        refine pv rfl (rMv rfl) ?_
        refine pv rfl (rIs iS85 rfl rfl ⟨by omega, by omega⟩) ?_
        refine pv rfl (rLdAm tA40 rfl (List.mem_append_right _ hm) (vs := dealL x) rfl (fun j v h => hv j v h)) ?_
        refine pm rfl (mAlloc zC40) (fun b14 => ?_)
        refine ps0 rfl (tSt tA40.2 rfl rfl rfl rfl rfl rfl rfl) ?_
        refine gs_nil ?_
        refine gKeep [0, 4, 5, 7, 8, 10, 12, 13, 14] rfl ?_
        refine gSeq ?_
        refine gText (σ := wk [(0, .p), (1, .p)]) rfl ?_
        refine pv rfl (rFa fA40_2 rfl) ?_
        refine ps0 rfl (tSt t14.2 rfl rfl rfl rfl rfl rfl rfl) ?_
        refine gs_nil ?_
        refine gSeq ?_
        refine gText (σ := wk [(0, .p), (1, .p), (2, .p), (3, .p)]) rfl ?_
        refine pv rfl (rLdA tA40 rfl rfl) ?_
        refine pc (R' := R) rfl eN11 (c11 { x.d with own := true } x.p x.cap R hxR.src hxR.len) (fun u Lr hu => ?_)
        obtain ⟨q, cap, rfl, hr⟩ := hu
        refine pm rfl (mAlloc zC51) (fun b15 => ?_)
        refine ps0 rfl (tSt tA51.2 rfl rfl rfl rfl rfl rfl rfl) ?_
        refine gs_nil ?_
        refine gKeep [0, 4, 5, 7, 8, 10, 12, 13, 15] rfl ?_
        refine gSeq ?_
        refine gText (σ := wk [(0, .p), (1, .p), (2, .p), (3, .p), (4, .p), (5, .p), (6, .p), (7, .p), (8, .p), (9, .p), (10, .p), (11, .p), (12, .p)]) rfl ?_
        refine pv rfl (rFa fA51_0 rfl) ?_
        refine pv rfl (rFa fA35_0 rfl) ?_
        refine pv rfl (rLdA tA33 rfl rfl) ?_
        refine pv rfl (rFa fA51_0 rfl) ?_
        refine pv rfl (rFa fA35_1 rfl) ?_
        refine pv rfl (rLdN t13 rfl rfl) ?_
        refine pv rfl (rMv rfl) ?_
        refine pv rfl (rBin rfl rfl (bAddI (by omega))) ?_
        refine pv rfl (bConv Try.underlying31 Try.underlying3 rfl) ?_
        refine gV (u := .int .u64 ((i : Int) + 1)) 82 rfl (by rw [IntWalk.u64_in _ (by omega)]) ?_
        refine pf rfl eN30 (c30 (dealSt { x.d with own := true }).v (dealSt { x.d with own := true }).dc ((i : Int) + 1)) ?_
        refine pv rfl (rFa fA51_0 rfl) ?_
        refine pv rfl (rFa fA35_0 rfl) ?_
        refine ps0 rfl (tSt tA33.2 rfl rfl rfl rfl rfl rfl rfl) ?_
        refine gs_nil ?_
        refine gKeep [0, 4, 5, 7, 8, 10, 12, 13, 15] rfl ?_
        refine gText (σ := wk [(0, .p), (1, .p), (2, .p), (3, .p), (4, .p)]) rfl ?_
        refine pv rfl (rMv rfl) ?_
        refine pv rfl (rLdA tA51 rfl rfl) ?_
        refine pm rfl (mBs bS86_1 rfl rfl) (fun b88 => ?_)
        refine papp (news := batL (⟨⟨(dealSt { x.d with own := true }).v.set' (dealSt { x.d with own := true }).dc ((i : Int) + 1), (dealSt { x.d with own := true }).dc⟩, q, (dealWs { x.d with own := true }).length, cap⟩ : Bat)) (m := 1) (L1 := Lt) aP86 rfl rfl hrow rfl (List.mem_append_left _ List.mem_cons_self) rfl (fun j u h => by rw [Nat.zero_add]; exact h) (batL_one _) (by omega) (fun v' L' hv => ?_)
        have hv2 : Row 51 6 (bs ++ [(⟨⟨(dealSt { x.d with own := true }).v.set' (dealSt { x.d with own := true }).dc ((i : Int) + 1), (dealSt { x.d with own := true }).dc⟩, q, (dealWs { x.d with own := true }).length, cap⟩ : Bat)]).length (batF (bs ++ [(⟨⟨(dealSt { x.d with own := true }).v.set' (dealSt { x.d with own := true }).dc ((i : Int) + 1), (dealSt { x.d with own := true }).dc⟩, q, (dealWs { x.d with own := true }).length, cap⟩ : Bat)])) v' L' := by simpa [batF] using hv
        obtain ⟨q', cap', rfl, _⟩ := hv2.lies
        refine pv rfl (rAs rfl) ?_
        refine gs_nil ?_
        refine gKeep [0, 4, 5, 7, 8, 10, 12, 13] rfl ?_
        refine gText (σ := wk [(0, .p), (1, .p), (2, .p)]) rfl ?_
        refine pv rfl (rMv rfl) ?_
        refine pv rfl (rBin rfl rfl (bAddI (by omega))) ?_
        refine pv rfl (rAs rfl) ?_
        refine gs_nil ?_
        refine gDrop [(b88, Obj.cells (List.toArray (batL (⟨⟨(dealSt { x.d with own := true }).v.set' (dealSt { x.d with own := true }).dc ((i : Int) + 1), (dealSt { x.d with own := true }).dc⟩, q, (dealWs { x.d with own := true }).length, cap⟩ : Bat))) 51)] ?_
        refine gDrop [(b15, Obj.cells (List.toArray (batL (⟨⟨(dealSt { x.d with own := true }).v.set' (dealSt { x.d with own := true }).dc ((i : Int) + 1), (dealSt { x.d with own := true }).dc⟩, q, (dealWs { x.d with own := true }).length, cap⟩ : Bat))) 51)] ?_
        refine gDrop [(b14, Obj.cells (List.toArray [.int .u64 x.d.m.s.v.a, .int .u64 x.d.m.s.v.b, .int .u64 x.d.m.s.v.c, .int .u64 x.d.m.s.v.d, .int .i64 x.d.m.s.dc, .bool x.d.m.own, .slice x.p x.d.ps.length x.cap, .bool true]) 40)] ?_
        refine gTo ((b5, Obj.cells (List.toArray (vecdL va)) 46) :: (b4, Obj.cells (List.toArray (putL pd)) 44) :: (L' ++ ((WH ++ Lr) ++ (Ha ++ Hb)))) ?_
        refine gInvK ⟨i + 1, ts ++ [altTx i x.d], bs ++ [(⟨⟨(dealSt { x.d with own := true }).v.set' (dealSt { x.d with own := true }).dc ((i : Int) + 1), (dealSt { x.d with own := true }).dc⟩, q, (dealWs { x.d with own := true }).length, cap⟩ : Bat)], q', cap', L', WH ++ Lr⟩ [0, 4, 5, 7, 8, 10, 12, 13] ⟨⟨by show i + 1 ≤ _; omega, by show i + 1 ≤ _; omega, by show (ts ++ [altTx i x.d]).length = i + 1; simp; omega, WtF.add (s := (altTx i x.d).1) (ws := (altTx i x.d).2) hr hW, hv2, halt.snoc (altTx_ok hxR.vec (by omega)).1 (by rw [(altTx_ok hxR.vec (by omega)).2, hti])⟩, by show _ - (i + 1) < _ - i; omega⟩ rfl rfl
      · refine gExit rfl ?_
        refine gSeq ?_
        refine gSeq ?_
        refine gText (σ := wk [(0, .p)]) rfl ?_
        refine pv rfl (rAs rfl) ?_
        refine gs_nil ?_
        refine gBlock ?_
        refine gLoop (σ := Nat × HL × HL) (fun z => ([(4, .pointer (some ⟨b4, 0, none⟩)), (5, .pointer (some ⟨b5, 0, none⟩)), (7, .bool true), (8, .pointer (some ⟨sa, 0, none⟩)), (10, .pointer (some ⟨sb, 0, none⟩)), (12, .slice q0 bs.length cap0b), (16, .int .i64 (z.1 : Nat))], (b5, Obj.cells (List.toArray (vecdL va)) 46) :: (b4, Obj.cells (List.toArray (putL pd)) 44) :: (Lt ++ (WH ++ (z.2.1 ++ z.2.2))))) (fun z => z.1 ≤ ts.length ∧ ShRep T0 sa ⟨16, ts.take z.1, (fun _ => []), Vec.zero⟩ z.2.1 ∧ ShRep T0 sb ⟨16, ts.reverse.take z.1, (fun _ => []), Vec.zero⟩ z.2.2) (fun z => ts.length - z.1) ?_ (fun z hs => ?_)
        · refine gInvK ((0, Ha, Hb)) [4, 5, 7, 8, 10, 12, 16] ⟨Nat.zero_le _, hHa, hHb⟩ rfl rfl
        · obtain ⟨j, HA, HB⟩ := z
          obtain ⟨hj, hsHA, hsHB⟩ := hs
          simp only at hj hsHA hsHB ⊢
          refine gSeq ?_
          refine gSeq ?_
          refine gText (σ := wk [(0, .p), (1, .p), (2, .p), (3, .p)]) rfl ?_
          refine pv rfl (rMv rfl) ?_
          refine pv rfl (rMv rfl) ?_
          refine pv rfl (rLen uS86 rfl) ?_
          refine pv rfl (rBin rfl rfl bLt) ?_
          refine gs_nil ?_
          refine gCondD rfl (fun h3 => ?_) (fun h3 => ?_)
          · have hjb : j < bs.length := by have : (j : Int) < (bs.length : Int) := h3; omega
            obtain ⟨gg, capt, T, he, rfl, hnc, hcm, hT⟩ := hrow.some' (by omega)
            cases he
            obtain ⟨t, ht⟩ : ∃ t, ts[j]? = some t := ⟨_, List.getElem?_eq_getElem (show j < ts.length by omega)⟩
            obtain ⟨pB, capB, hy, hsrc⟩ := hW.get ht
            have htk := halt.ok t (List.mem_of_getElem? ht)
            obtain ⟨r, hr⟩ : ∃ r, r + 1 + j = ts.length := ⟨ts.length - 1 - j, by omega⟩
            obtain ⟨t2, ht2⟩ : ∃ t, ts[r]? = some t := ⟨_, List.getElem?_eq_getElem (show r < ts.length by omega)⟩
            obtain ⟨pB2, capB2, hy2, hsrc2⟩ := hW.get ht2
            have htk2 := halt.ok t2 (List.mem_of_getElem? ht2)
            have htr : ts.reverse[j]? = some t2 := (rev_get hr).trans ht2
            refine gSkip ?_
            refine gSeq ?_
            refine gBlock ?_
            refine gSeq ?_
            refine gD [gg] (wk [(0, .q), (1, .q), (2, .q), (3, .q), (4, .q), (5, .q), (6, .q), (7, .q), (8, .q), (9, .q), (10, .q), (11, .p)]) fol (by kernel_rfl) rfl (by kernel_rfl) ?_
            refine qv rfl (rMv rfl) ?_
            refine qv rfl (rMv rfl) ?_
            refine qv rfl (rMv rfl) ?_
            refine qv rfl (rIs iS86 rfl rfl ⟨by omega, by show (j : Int) < (bs.length : Int); omega⟩) ?_
            refine qv rfl (rFa fA51_0 rfl) ?_
            refine qv rfl (rLdAm tA35 rfl (List.mem_append_left _ (List.mem_singleton.2 rfl)) (vs := stampL t.1) rfl (fun j v h => bats_cell hy j v (batL_get h))) ?_
            refine qv rfl (rMv rfl) ?_
            refine qv rfl (rMv rfl) ?_
            refine qv rfl (rIs iS86 rfl rfl ⟨by omega, by show (j : Int) < (bs.length : Int); omega⟩) ?_
            refine qv rfl (rFa fA51_1 rfl) ?_
            refine qv rfl (rLd1m t149 rfl (List.mem_append_left _ (List.mem_singleton.2 rfl)) (bats_cell hy 5 _ rfl)) ?_
            refine pc (R' := WH) (L1 := HA) rfl eN18 (c18 sa _ HA hsHA t.1 t.2 pB capB WH hsrc (by have := htk.len; omega)) (fun u HA1 hu => ?_)
            obtain ⟨rfl, hsA1⟩ := hu
            rw [alike_push ht htk (by omega)] at hsA1
            refine gs_nil ?_
            refine gKeep [4, 5, 7, 8, 10, 12, 16] rfl ?_
            refine gD [gg] (wk [(0, .q), (1, .q), (2, .q), (3, .q), (4, .q), (5, .q), (6, .q), (7, .q), (8, .q), (9, .q), (10, .q), (11, .q), (12, .q), (13, .q), (14, .q), (15, .q), (16, .q), (17, .q), (18, .q), (19, .p)]) fol (by kernel_rfl) rfl (by kernel_rfl) ?_
            refine qv rfl (rMv rfl) ?_
            refine qv rfl (rMv rfl) ?_
            refine qv rfl (rMv rfl) ?_
            refine qv rfl (rLen uS86 rfl) ?_
            refine qv rfl (rBin rfl rfl (bSubI (by constructor <;> omega))) ?_
            refine qv rfl (rMv rfl) ?_
            refine qv rfl (rBin rfl rfl (bSubI (by constructor <;> omega))) ?_
            refine gV (u := .int .i64 (r : Nat)) 114 rfl (by congr 1; omega) ?_
            refine qv rfl (rIs iS86 rfl rfl ⟨by omega, by show (r : Int) < (bs.length : Int); omega⟩) ?_
            refine qv rfl (rFa fA51_0 rfl) ?_
            refine qv rfl (rLdAm tA35 rfl (List.mem_append_left _ (List.mem_singleton.2 rfl)) (vs := stampL t2.1) rfl (fun j v h => bats_cell hy2 j v (batL_get h))) ?_
            refine qv rfl (rMv rfl) ?_
            refine qv rfl (rMv rfl) ?_
            refine qv rfl (rLen uS86 rfl) ?_
            refine qv rfl (rBin rfl rfl (bSubI (by constructor <;> omega))) ?_
            refine qv rfl (rMv rfl) ?_
            refine qv rfl (rBin rfl rfl (bSubI (by constructor <;> omega))) ?_
            refine gV (u := .int .i64 (r : Nat)) 123 rfl (by congr 1; omega) ?_
            refine qv rfl (rIs iS86 rfl rfl ⟨by omega, by show (r : Int) < (bs.length : Int); omega⟩) ?_
            refine qv rfl (rFa fA51_1 rfl) ?_
            refine qv rfl (rLd1m t149 rfl (List.mem_append_left _ (List.mem_singleton.2 rfl)) (bats_cell hy2 5 _ rfl)) ?_
            refine pc (R' := WH) (L1 := HB) rfl eN18 (c18 sb _ HB hsHB t2.1 t2.2 pB2 capB2 WH hsrc2 (by have := htk2.len; omega)) (fun u HB1 hu => ?_)
            obtain ⟨rfl, hsB1⟩ := hu
            rw [alike_push htr htk2 (by omega)] at hsB1
            refine gs_nil ?_
            refine gKeep [4, 5, 7, 8, 10, 12, 16] rfl ?_
            refine gText (σ := wk [(0, .p), (1, .p), (2, .p)]) rfl ?_
            refine pv rfl (rMv rfl) ?_
            refine pv rfl (rBin rfl rfl (bAddI (by omega))) ?_
            refine pv rfl (rAs rfl) ?_
            refine gs_nil ?_
            refine gTo ((b5, Obj.cells (List.toArray (vecdL va)) 46) :: (b4, Obj.cells (List.toArray (putL pd)) 44) :: ([(gg, Obj.cells (List.toArray (batF bs ++ T)) 51)] ++ (WH ++ (HA1 ++ HB1)))) ?_
            refine gInvK (j + 1, HA1, HB1) [4, 5, 7, 8, 10, 12, 16] ⟨⟨by show j + 1 ≤ _; omega, hsA1, hsB1⟩, by show _ - (j + 1) < _ - j; omega⟩ rfl rfl
          · have hj0 : j = ts.length := by have : ¬ (j : Int) < (bs.length : Int) := h3; omega
            subst hj0
            rw [List.take_length] at hsHA
            rw [show ts.length = ts.reverse.length by simp, List.take_length] at hsHB
            refine gExit rfl ?_
            refine gSeq ?_
            refine gSeq ?_
            refine gText (σ := wk [(0, .p)]) rfl ?_
            refine pv rfl (rAs rfl) ?_
            refine gs_nil ?_
            refine gKeep [4, 5, 7, 8, 10, 12, 16, 17] rfl ?_
            refine gBlock ?_
            refine gLoop (σ := Nat × HL × HL) (fun z => ([(4, .pointer (some ⟨b4, 0, none⟩)), (5, .pointer (some ⟨b5, 0, none⟩)), (7, .bool true), (8, .pointer (some ⟨sa, 0, none⟩)), (10, .pointer (some ⟨sb, 0, none⟩)), (12, .slice q0 bs.length cap0b), (17, .int .i64 (z.1 : Nat))], (b5, Obj.cells (List.toArray (vecdL va)) 46) :: (b4, Obj.cells (List.toArray (putL pd)) 44) :: (Lt ++ (WH ++ (z.2.1 ++ z.2.2))))) (fun z => z.1 ≤ ts.length ∧ ShRep T0 sa ⟨16, ts.drop z.1, TB.stepG (ts.take z.1) (fun _ => []), TB.stepA (ts.take z.1) Vec.zero⟩ z.2.1 ∧ ShRep T0 sb ⟨16, ts.reverse.drop z.1, TB.stepG (ts.reverse.take z.1) (fun _ => []), TB.stepA (ts.reverse.take z.1) Vec.zero⟩ z.2.2) (fun z => ts.length - z.1) ?_ (fun z hs => ?_)
            · refine gInvK ((0, HA, HB)) [4, 5, 7, 8, 10, 12, 17] ⟨Nat.zero_le _, hsHA, hsHB⟩ rfl rfl
            · obtain ⟨j, HA, HB⟩ := z
              obtain ⟨hj, hsHA, hsHB⟩ := hs
              simp only at hj hsHA hsHB ⊢
              refine gSeq ?_
              refine gSeq ?_
              refine gText (σ := wk [(0, .p), (1, .p), (2, .p), (3, .p)]) rfl ?_
              refine pv rfl (rMv rfl) ?_
              refine pv rfl (rMv rfl) ?_
              refine pv rfl (rLen uS86 rfl) ?_
              refine pv rfl (rBin rfl rfl bLt) ?_
              refine gs_nil ?_
              refine gCondD rfl (fun h4 => ?_) (fun h4 => ?_)
              · have hjb : j < bs.length := by have : (j : Int) < (bs.length : Int) := h4; omega
                obtain ⟨t, ht⟩ : ∃ t, ts[j]? = some t := ⟨_, List.getElem?_eq_getElem (show j < ts.length by omega)⟩
                obtain ⟨t2, htr⟩ : ∃ t, ts.reverse[j]? = some t := ⟨_, List.getElem?_eq_getElem (show j < ts.reverse.length by simp; omega)⟩
                refine gSkip ?_
                refine gSeq ?_
                refine gBlock ?_
                refine gSeq ?_
                refine gText (σ := wk [(0, .p), (1, .p)]) rfl ?_
                refine pv rfl (rMv rfl) ?_
                refine pc (R' := []) (L1 := HA) rfl eN14 (c14 sa _ HA hsHA ((alike_sok halt.ok j _).may (by omega))) (fun u HA1 hu => ?_)
                obtain ⟨rfl, hsA1⟩ := hu
                rw [step_drop ht] at hsA1
                refine gs_nil ?_
                refine gKeep [4, 5, 7, 8, 10, 12, 17] rfl ?_
                refine gText (σ := wk [(0, .p), (1, .p)]) rfl ?_
                refine pv rfl (rMv rfl) ?_
                refine pc (R' := []) (L1 := HB) rfl eN14 (c14 sb _ HB hsHB ((alike_sok (rev_ok halt.ok) j _).may (by omega))) (fun u HB1 hu => ?_)
                obtain ⟨rfl, hsB1⟩ := hu
                rw [step_drop htr] at hsB1
                refine gs_nil ?_
                refine gText (σ := wk [(0, .p), (1, .p), (2, .p)]) rfl ?_
                refine pv rfl (rMv rfl) ?_
                refine pv rfl (rBin rfl rfl (bAddI (by omega))) ?_
                refine pv rfl (rAs rfl) ?_
                refine gs_nil ?_
                refine gKeep [4, 5, 7, 8, 10, 12, 17] rfl ?_
                refine gTo ((b5, Obj.cells (List.toArray (vecdL va)) 46) :: (b4, Obj.cells (List.toArray (putL pd)) 44) :: (Lt ++ (WH ++ (HA1 ++ HB1)))) ?_
                refine gInvK (j + 1, HA1, HB1) [4, 5, 7, 8, 10, 12, 17] ⟨⟨by show j + 1 ≤ _; omega, hsA1, hsB1⟩, by show _ - (j + 1) < _ - j; omega⟩ rfl rfl
              · have hj0 : j = ts.length := by have : ¬ (j : Int) < (bs.length : Int) := h4; omega
                subst hj0
                have hok1 := alike_sok halt.ok ts.length (TB.stepA (ts.take ts.length) Vec.zero)
                rw [List.take_length, List.drop_length] at hsHA hok1
                rw [show ts.length = ts.reverse.length by simp, List.take_length, List.drop_length, stepG_rev halt.ok halt.nodup, stepA_rev] at hsHB
                obtain ⟨σ, hσ⟩ : ∃ σ : ShS, (⟨16, [], TB.stepG ts (fun _ => []), TB.stepA ts Vec.zero⟩ : ShS) = σ := ⟨_, rfl⟩
                rw [hσ] at hsHA hsHB hok1
                have hok := hok1.mono (n' := 10) (m' := 10) (by omega) (by omega)
                obtain ⟨hh, hhe⟩ : ∃ hh, vecOf va = hh := ⟨_, rfl⟩
                obtain ⟨w, hwe⟩ : ∃ w, writeOf { pd with own := true } = w := ⟨_, rfl⟩
                refine gExit rfl ?_
                refine gSeq ?_
                refine gText (σ := wk [(0, .p), (1, .p)]) rfl ?_
                refine pv rfl (rFa fA44_1 rfl) ?_
                refine ps0 rfl (tSt t14.2 rfl rfl rfl rfl rfl rfl rfl) ?_
                refine gs_nil ?_
                refine gKeep [4, 5, 7, 8, 10, 12, 17] rfl ?_
                refine gSeq ?_
                refine gText (σ := wk [(0, .p), (1, .p), (2, .p), (3, .p)]) rfl ?_
                refine pv rfl (rLdA tA44 rfl rfl) ?_
                refine pf rfl eN13 (hwe ▸ c13 { pd with own := true }) ?_
                refine pm rfl (mAlloc zC42) (fun b18 => ?_)
                refine ps0 rfl (tSt tA42.2 rfl rfl rfl rfl rfl rfl rfl) ?_
                refine gs_nil ?_
                refine gSeq ?_
                refine gText (σ := wk [(0, .p), (1, .p), (2, .p), (3, .p)]) rfl ?_
                refine pv rfl (rLdA tA46 rfl rfl) ?_
                refine pf rfl eN12 (hhe ▸ c12 va) ?_
                refine pm rfl (mAlloc zC33) (fun b19 => ?_)
                refine ps0 rfl (tSt tA33.2 rfl rfl rfl rfl rfl rfl rfl) ?_
                refine gs_nil ?_
                refine gKeep [4, 5, 7, 8, 10, 12, 17, 18, 19] rfl ?_
                refine gSeq ?_
                refine gText (σ := wk [(0, .p), (1, .p), (2, .p), (3, .p), (4, .p), (5, .p), (6, .p), (7, .p), (8, .p), (9, .p), (10, .p), (11, .p), (12, .p), (13, .p), (14, .p)]) rfl ?_
                refine pv rfl (rMv rfl) ?_
                refine pv rfl (rFa fA42_0 rfl) ?_
                refine pv rfl (rLdN t19 rfl rfl) ?_
                refine pv rfl (rFa fA42_1 rfl) ?_
                refine pv rfl (rLdN t19 rfl rfl) ?_
                refine pv rfl (rLdA tA33 rfl rfl) ?_
                refine pc (R' := []) (L1 := HA) rfl eN22 (c22 sa σ HA hsHA w.bucket w.key hh (hok.len (by omega))) (fun u HA1 hv => ?_)
                obtain ⟨rfl, hsHA1⟩ := hv
                refine pv rfl (rMv rfl) ?_
                refine pv rfl (rEx rfl rfl) ?_
                refine pv rfl (rEx rfl rfl) ?_
                refine pv rfl (rEx rfl rfl) ?_
                refine pm rfl (mAlloc zC35) (fun b21 => ?_)
                refine pv rfl (rAs rfl) ?_
                refine ps0 rfl (tSt tA35.2 rfl rfl rfl rfl rfl rfl rfl) ?_
                refine pv rfl (rAs rfl) ?_
                refine gs_nil ?_
                refine gKeep [4, 5, 7, 8, 10, 12, 17, 18, 19, 20, 21, 22] rfl ?_
                refine gSeq ?_
                refine gText (σ := wk [(0, .p), (1, .p), (2, .p), (3, .p), (4, .p), (5, .p), (6, .p), (7, .p), (8, .p), (9, .p), (10, .p), (11, .p), (12, .p), (13, .p), (14, .p)]) rfl ?_
                refine pv rfl (rMv rfl) ?_
                refine pv rfl (rFa fA42_0 rfl) ?_
                refine pv rfl (rLdN t19 rfl rfl) ?_
                refine pv rfl (rFa fA42_1 rfl) ?_
                refine pv rfl (rLdN t19 rfl rfl) ?_
                refine pv rfl (rLdA tA33 rfl rfl) ?_
                refine pc (R' := []) (L1 := HB) rfl eN22 (c22 sb σ HB hsHB w.bucket w.key hh (hok.len (by omega))) (fun u HB1 hv => ?_)
                obtain ⟨rfl, hsHB1⟩ := hv
                refine pv rfl (rMv rfl) ?_
                refine pv rfl (rEx rfl rfl) ?_
                refine pv rfl (rEx rfl rfl) ?_
                refine pv rfl (rEx rfl rfl) ?_
                refine pm rfl (mAlloc zC35) (fun b24 => ?_)
                refine pv rfl (rAs rfl) ?_
                refine ps0 rfl (tSt tA35.2 rfl rfl rfl rfl rfl rfl rfl) ?_
                refine pv rfl (rAs rfl) ?_
                refine gs_nil ?_
                refine gKeep [4, 5, 7, 8, 10, 12, 17, 18, 20, 21, 22, 23, 24, 25] rfl ?_
                refine gSeq ?_
                refine gText (σ := wk [(0, .p), (1, .p), (2, .p), (3, .p), (4, .p), (5, .p), (6, .p), (7, .p), (8, .p), (9, .p), (10, .p), (11, .p), (12, .p), (13, .p), (14, .p)]) rfl ?_
                refine pv rfl (rMv rfl) ?_
                refine pv rfl (rFa fA42_0 rfl) ?_
                refine pv rfl (rLdN t19 rfl rfl) ?_
                refine pv rfl (rFa fA42_1 rfl) ?_
                refine pv rfl (rLdN t19 rfl rfl) ?_
                refine pc (R' := []) (L1 := HA1) rfl eN24 (c24 sa σ HA1 hsHA1 w.bucket w.key (hok.len (by omega))) (fun u HA2 hv => ?_)
                obtain ⟨rfl, hsHA2⟩ := hv
                refine pv rfl (rMv rfl) ?_
                refine pv rfl (rEx rfl rfl) ?_
                refine pv rfl (rEx rfl rfl) ?_
                refine pv rfl (rEx rfl rfl) ?_
                refine pm rfl (mAlloc zC42) (fun b26 => ?_)
                refine pm rfl (mAlloc zC35) (fun b27 => ?_)
                refine ps0 rfl (tSt tA42.2 rfl rfl rfl rfl rfl rfl rfl) ?_
                refine ps0 rfl (tSt tA35.2 rfl rfl rfl rfl rfl rfl rfl) ?_
                refine pv rfl (rAs rfl) ?_
                refine gs_nil ?_
                refine gKeep [4, 5, 7, 8, 10, 12, 17, 18, 20, 21, 22, 23, 24, 25, 26, 28] rfl ?_
                refine gSeq ?_
                refine gText (σ := wk [(0, .p), (1, .p), (2, .p), (3, .p), (4, .p), (5, .p), (6, .p), (7, .p), (8, .p), (9, .p), (10, .p), (11, .p), (12, .p), (13, .p), (14, .p)]) rfl ?_
                refine pv rfl (rMv rfl) ?_
                refine pv rfl (rFa fA42_0 rfl) ?_
                refine pv rfl (rLdN t19 rfl rfl) ?_
                refine pv rfl (rFa fA42_1 rfl) ?_
                refine pv rfl (rLdN t19 rfl rfl) ?_
                refine pc (R' := []) (L1 := HB1) rfl eN24 (c24 sb σ HB1 hsHB1 w.bucket w.key (hok.len (by omega))) (fun u HB2 hv => ?_)
                obtain ⟨rfl, hsHB2⟩ := hv
                refine pv rfl (rMv rfl) ?_
                refine pv rfl (rEx rfl rfl) ?_
                refine pv rfl (rEx rfl rfl) ?_
                refine pv rfl (rEx rfl rfl) ?_
                refine pm rfl (mAlloc zC42) (fun b29 => ?_)
                refine pm rfl (mAlloc zC35) (fun b30 => ?_)
                refine ps0 rfl (tSt tA42.2 rfl rfl rfl rfl rfl rfl rfl) ?_
                refine ps0 rfl (tSt tA35.2 rfl rfl rfl rfl rfl rfl rfl) ?_
                refine pv rfl (rAs rfl) ?_
                refine gs_nil ?_
                refine gKeep [4, 5, 7, 8, 10, 12, 17, 20, 21, 22, 23, 24, 25, 26, 28, 29, 31] rfl ?_
                refine gSeq ?_
                refine gText (σ := wk [(0, .p), (1, .p), (2, .p), (3, .p), (4, .p), (5, .p), (6, .p), (7, .p), (8, .p), (9, .p), (10, .p), (11, .p), (12, .p), (13, .p), (14, .p), (15, .p), (16, .p), (17, .p), (18, .p), (19, .p), (20, .p), (21, .p), (22, .p), (23, .p), (24, .p), (25, .p), (26, .p), (27, .p), (28, .p), (29, .p), (30, .p), (31, .p), (32, .p), (33, .p), (34, .p), (35, .p), (36, .p), (37, .p), (38, .p), (39, .p), (40, .p)]) rfl ?_
                refine pv rfl (rMv rfl) ?_
                refine pv rfl (rMv rfl) ?_
                refine gB (e := 186) rfl (fun _ => ?_) (fun g186 => by cases g186)
                refine pv rfl (rMv rfl) ?_
                refine pv rfl (rMv rfl) ?_
                refine pv rfl (rBin rfl rfl bEqS) ?_
                refine gV (u := .bool true) 189 rfl (by simp) ?_
                refine pv rfl (rPk rfl rfl) ?_
                refine pv rfl (rMv rfl) ?_
                refine gB (e := 191) rfl (fun _ => ?_) (fun g191 => by cases g191)
                refine pv rfl (rLdA tA35 rfl rfl) ?_
                refine pv rfl (rLdA tA35 rfl rfl) ?_
                refine pv rfl (rBin rfl rfl (bEq35 (readR σ (w.bucket, w.key) hh).2.1 (readR σ (w.bucket, w.key) hh).2.1)) ?_
                refine gV (u := .bool true) 194 rfl (by simp) ?_
                refine pv rfl (rPk rfl rfl) ?_
                refine pv rfl (rMv rfl) ?_
                refine gB (e := 196) rfl (fun _ => ?_) (fun g196 => by cases g196)
                refine pv rfl (rMv rfl) ?_
                refine pv rfl (rMv rfl) ?_
                refine pv rfl (rBin rfl rfl (bEqB Try.underlying4)) ?_
                refine gV (u := .bool true) 199 rfl (by simp) ?_
                refine pv rfl (rPk rfl rfl) ?_
                refine pv rfl (rMv rfl) ?_
                refine gB (e := 201) rfl (fun _ => ?_) (fun g201 => by cases g201)
                refine pv rfl (rLdA tA42 rfl rfl) ?_
                refine pv rfl (rLdA tA42 rfl rfl) ?_
                refine pv rfl (rBin rfl rfl (bEq42 ((lastR σ (w.bucket, w.key)).getD Ver.zero).w ((lastR σ (w.bucket, w.key)).getD Ver.zero).w)) ?_
                refine gV (u := .bool true) 204 rfl (by simp) ?_
                refine pv rfl (rPk rfl rfl) ?_
                refine pv rfl (rMv rfl) ?_
                refine gB (e := 206) rfl (fun _ => ?_) (fun g206 => by cases g206)
                refine pv rfl (rMv rfl) ?_
                refine pv rfl (rMv rfl) ?_
                refine pv rfl (rBin rfl rfl (bEqB Try.underlying4)) ?_
                refine gV (u := .bool true) 209 rfl (by simp) ?_
                refine pv rfl (rPk rfl rfl) ?_
                refine pv rfl (rMv rfl) ?_
                refine gB (e := 211) rfl (fun _ => ?_) (fun g211 => by cases g211)
                refine pv rfl (rMv rfl) ?_
                refine pf (R' := HA2) rfl eN28 (c28 sa σ HA2 hsHA2) ?_
                refine pv rfl (rMv rfl) ?_
                refine pf (R' := HB2) rfl eN28 (c28 sb σ HB2 hsHB2) ?_
                refine pv rfl (rBin rfl rfl (bEq33 σ.ap σ.ap)) ?_
                refine gV (u := .bool true) 216 rfl (by simp) ?_
                refine pv rfl (rPk rfl rfl) ?_
                refine pv rfl (rMv rfl) ?_
                refine gB (e := 218) rfl (fun _ => ?_) (fun g218 => by cases g218)
                refine pv rfl (rMv rfl) ?_
                refine pc (R' := []) (L1 := HA2) rfl eN29 (c29 sa σ HA2 hsHA2 (hok.sum (by omega))) (fun u HA3 hv => ?_)
                obtain ⟨n1, rfl, hn1, hsA3⟩ := hv
                refine pv rfl (rMv rfl) ?_
                refine pc (R' := []) (L1 := HB2) rfl eN29 (c29 sb σ HB2 hsHB2 (hok.sum (by omega))) (fun u HB3 hv => ?_)
                obtain ⟨n2, rfl, hn2, hsB3⟩ := hv
                obtain rfl := hn2.uniq hn1
                refine pv rfl (rBin rfl rfl bEq) ?_
                refine gV (u := .bool true) 223 rfl (by simp) ?_
                refine pv rfl (rPk rfl rfl) ?_
                refine pv rfl (rAs rfl) ?_
                refine gs_nil ?_
                refine gKeep [4, 5, 6, 7, 8, 10, 12, 17] rfl ?_
                refine gRet ?_
                refine gEnd1 Try.results5 (resT rfl) ⟨?_, rfl⟩
                rfl
    · refine pn rfl ?_
      refine pn rfl ?_
      refine pv rfl (rPk rfl rfl) ?_
      refine gs_nil ?_
      refine gKeep [0, 4, 5, 7, 8, 10, 12, 13, 64] rfl ?_
      refine gCondF rfl rfl ?_
      refine gExit rfl ?_
      refine gSeq ?_
      refine gSeq ?_
      refine gText (σ := wk [(0, .p)]) rfl ?_
      refine pv rfl (rAs rfl) ?_
      refine gs_nil ?_
      refine gBlock ?_
      refine gLoop (σ := Nat × HL × HL) (fun z => ([(4, .pointer (some ⟨b4, 0, none⟩)), (5, .pointer (some ⟨b5, 0, none⟩)), (7, .bool true), (8, .pointer (some ⟨sa, 0, none⟩)), (10, .pointer (some ⟨sb, 0, none⟩)), (12, .slice q0 bs.length cap0b), (16, .int .i64 (z.1 : Nat))], (b5, Obj.cells (List.toArray (vecdL va)) 46) :: (b4, Obj.cells (List.toArray (putL pd)) 44) :: (Lt ++ (WH ++ (z.2.1 ++ z.2.2))))) (fun z => z.1 ≤ ts.length ∧ ShRep T0 sa ⟨16, ts.take z.1, (fun _ => []), Vec.zero⟩ z.2.1 ∧ ShRep T0 sb ⟨16, ts.reverse.take z.1, (fun _ => []), Vec.zero⟩ z.2.2) (fun z => ts.length - z.1) ?_ (fun z hs => ?_)
      · refine gInvK ((0, Ha, Hb)) [4, 5, 7, 8, 10, 12, 16] ⟨Nat.zero_le _, hHa, hHb⟩ rfl rfl
      · obtain ⟨j, HA, HB⟩ := z
        obtain ⟨hj, hsHA, hsHB⟩ := hs
        simp only at hj hsHA hsHB ⊢
        refine gSeq ?_
        refine gSeq ?_
        refine gText (σ := wk [(0, .p), (1, .p), (2, .p), (3, .p)]) rfl ?_
        refine pv rfl (rMv rfl) ?_
        refine pv rfl (rMv rfl) ?_
        refine pv rfl (rLen uS86 rfl) ?_
        refine pv rfl (rBin rfl rfl bLt) ?_
        refine gs_nil ?_
        refine gCondD rfl (fun h6 => ?_) (fun h6 => ?_)
        · have hjb : j < bs.length := by have : (j : Int) < (bs.length : Int) := h6; omega
          obtain ⟨gg, capt, T, he, rfl, hnc, hcm, hT⟩ := hrow.some' (by omega)
          cases he
          obtain ⟨t, ht⟩ : ∃ t, ts[j]? = some t := ⟨_, List.getElem?_eq_getElem (show j < ts.length by omega)⟩
          obtain ⟨pB, capB, hy, hsrc⟩ := hW.get ht
          have htk := halt.ok t (List.mem_of_getElem? ht)
          obtain ⟨r, hr⟩ : ∃ r, r + 1 + j = ts.length := ⟨ts.length - 1 - j, by omega⟩
          obtain ⟨t2, ht2⟩ : ∃ t, ts[r]? = some t := ⟨_, List.getElem?_eq_getElem (show r < ts.length by omega)⟩
          obtain ⟨pB2, capB2, hy2, hsrc2⟩ := hW.get ht2
          have htk2 := halt.ok t2 (List.mem_of_getElem? ht2)
          have htr : ts.reverse[j]? = some t2 := (rev_get hr).trans ht2
          refine gSkip ?_
          refine gSeq ?_
          refine gBlock ?_
          refine gSeq ?_
          refine gD [gg] (wk [(0, .q), (1, .q), (2, .q), (3, .q), (4, .q), (5, .q), (6, .q), (7, .q), (8, .q), (9, .q), (10, .q), (11, .p)]) fol (by kernel_rfl) rfl (by kernel_rfl) ?_
          refine qv rfl (rMv rfl) ?_
          refine qv rfl (rMv rfl) ?_
          refine qv rfl (rMv rfl) ?_
          refine qv rfl (rIs iS86 rfl rfl ⟨by omega, by show (j : Int) < (bs.length : Int); omega⟩) ?_
          refine qv rfl (rFa fA51_0 rfl) ?_
          refine qv rfl (rLdAm tA35 rfl (List.mem_append_left _ (List.mem_singleton.2 rfl)) (vs := stampL t.1) rfl (fun j v h => bats_cell hy j v (batL_get h))) ?_
          refine qv rfl (rMv rfl) ?_
          refine qv rfl (rMv rfl) ?_
          refine qv rfl (rIs iS86 rfl rfl ⟨by omega, by show (j : Int) < (bs.length : Int); omega⟩) ?_
          refine qv rfl (rFa fA51_1 rfl) ?_
          refine qv rfl (rLd1m t149 rfl (List.mem_append_left _ (List.mem_singleton.2 rfl)) (bats_cell hy 5 _ rfl)) ?_
          refine pc (R' := WH) (L1 := HA) rfl eN18 (c18 sa _ HA hsHA t.1 t.2 pB capB WH hsrc (by have := htk.len; omega)) (fun u HA1 hu => ?_)
          obtain ⟨rfl, hsA1⟩ := hu
          rw [alike_push ht htk (by omega)] at hsA1
          refine gs_nil ?_
          refine gKeep [4, 5, 7, 8, 10, 12, 16] rfl ?_
          refine gD [gg] (wk [(0, .q), (1, .q), (2, .q), (3, .q), (4, .q), (5, .q), (6, .q), (7, .q), (8, .q), (9, .q), (10, .q), (11, .q), (12, .q), (13, .q), (14, .q), (15, .q), (16, .q), (17, .q), (18, .q), (19, .p)]) fol (by kernel_rfl) rfl (by kernel_rfl) ?_
          refine qv rfl (rMv rfl) ?_
          refine qv rfl (rMv rfl) ?_
          refine qv rfl (rMv rfl) ?_
          refine qv rfl (rLen uS86 rfl) ?_
          refine qv rfl (rBin rfl rfl (bSubI (by constructor <;> omega))) ?_
          refine qv rfl (rMv rfl) ?_
          refine qv rfl (rBin rfl rfl (bSubI (by constructor <;> omega))) ?_
          refine gV (u := .int .i64 (r : Nat)) 114 rfl (by congr 1; omega) ?_
          refine qv rfl (rIs iS86 rfl rfl ⟨by omega, by show (r : Int) < (bs.length : Int); omega⟩) ?_
          refine qv rfl (rFa fA51_0 rfl) ?_
          refine qv rfl (rLdAm tA35 rfl (List.mem_append_left _ (List.mem_singleton.2 rfl)) (vs := stampL t2.1) rfl (fun j v h => bats_cell hy2 j v (batL_get h))) ?_
          refine qv rfl (rMv rfl) ?_
          refine qv rfl (rMv rfl) ?_
          refine qv rfl (rLen uS86 rfl) ?_
          refine qv rfl (rBin rfl rfl (bSubI (by constructor <;> omega))) ?_
          refine qv rfl (rMv rfl) ?_
          refine qv rfl (rBin rfl rfl (bSubI (by constructor <;> omega))) ?_
          refine gV (u := .int .i64 (r : Nat)) 123 rfl (by congr 1; omega) ?_
          refine qv rfl (rIs iS86 rfl rfl ⟨by omega, by show (r : Int) < (bs.length : Int); omega⟩) ?_
          refine qv rfl (rFa fA51_1 rfl) ?_
          refine qv rfl (rLd1m t149 rfl (List.mem_append_left _ (List.mem_singleton.2 rfl)) (bats_cell hy2 5 _ rfl)) ?_
          refine pc (R' := WH) (L1 := HB) rfl eN18 (c18 sb _ HB hsHB t2.1 t2.2 pB2 capB2 WH hsrc2 (by have := htk2.len; omega)) (fun u HB1 hu => ?_)
          obtain ⟨rfl, hsB1⟩ := hu
          rw [alike_push htr htk2 (by omega)] at hsB1
          refine gs_nil ?_
          refine gKeep [4, 5, 7, 8, 10, 12, 16] rfl ?_
          refine gText (σ := wk [(0, .p), (1, .p), (2, .p)]) rfl ?_
          refine pv rfl (rMv rfl) ?_
          refine pv rfl (rBin rfl rfl (bAddI (by omega))) ?_
          refine pv rfl (rAs rfl) ?_
          refine gs_nil ?_
          refine gTo ((b5, Obj.cells (List.toArray (vecdL va)) 46) :: (b4, Obj.cells (List.toArray (putL pd)) 44) :: ([(gg, Obj.cells (List.toArray (batF bs ++ T)) 51)] ++ (WH ++ (HA1 ++ HB1)))) ?_
          refine gInvK (j + 1, HA1, HB1) [4, 5, 7, 8, 10, 12, 16] ⟨⟨by show j + 1 ≤ _; omega, hsA1, hsB1⟩, by show _ - (j + 1) < _ - j; omega⟩ rfl rfl
        · have hj0 : j = ts.length := by have : ¬ (j : Int) < (bs.length : Int) := h6; omega
          subst hj0
          rw [List.take_length] at hsHA
          rw [show ts.length = ts.reverse.length by simp, List.take_length] at hsHB
          refine gExit rfl ?_
          refine gSeq ?_
          refine gSeq ?_
          refine gText (σ := wk [(0, .p)]) rfl ?_
          refine pv rfl (rAs rfl) ?_
          refine gs_nil ?_
          refine gKeep [4, 5, 7, 8, 10, 12, 16, 17] rfl ?_
          refine gBlock ?_
          refine gLoop (σ := Nat × HL × HL) (fun z => ([(4, .pointer (some ⟨b4, 0, none⟩)), (5, .pointer (some ⟨b5, 0, none⟩)), (7, .bool true), (8, .pointer (some ⟨sa, 0, none⟩)), (10, .pointer (some ⟨sb, 0, none⟩)), (12, .slice q0 bs.length cap0b), (17, .int .i64 (z.1 : Nat))], (b5, Obj.cells (List.toArray (vecdL va)) 46) :: (b4, Obj.cells (List.toArray (putL pd)) 44) :: (Lt ++ (WH ++ (z.2.1 ++ z.2.2))))) (fun z => z.1 ≤ ts.length ∧ ShRep T0 sa ⟨16, ts.drop z.1, TB.stepG (ts.take z.1) (fun _ => []), TB.stepA (ts.take z.1) Vec.zero⟩ z.2.1 ∧ ShRep T0 sb ⟨16, ts.reverse.drop z.1, TB.stepG (ts.reverse.take z.1) (fun _ => []), TB.stepA (ts.reverse.take z.1) Vec.zero⟩ z.2.2) (fun z => ts.length - z.1) ?_ (fun z hs => ?_)
          · refine gInvK ((0, HA, HB)) [4, 5, 7, 8, 10, 12, 17] ⟨Nat.zero_le _, hsHA, hsHB⟩ rfl rfl
          · obtain ⟨j, HA, HB⟩ := z
            obtain ⟨hj, hsHA, hsHB⟩ := hs
            simp only at hj hsHA hsHB ⊢
            refine gSeq ?_
            refine gSeq ?_
            refine gText (σ := wk [(0, .p), (1, .p), (2, .p), (3, .p)]) rfl ?_
            refine pv rfl (rMv rfl) ?_
            refine pv rfl (rMv rfl) ?_
            refine pv rfl (rLen uS86 rfl) ?_
            refine pv rfl (rBin rfl rfl bLt) ?_
            refine gs_nil ?_
            refine gCondD rfl (fun h7 => ?_) (fun h7 => ?_)
            · have hjb : j < bs.length := by have : (j : Int) < (bs.length : Int) := h7; omega
              obtain ⟨t, ht⟩ : ∃ t, ts[j]? = some t := ⟨_, List.getElem?_eq_getElem (show j < ts.length by omega)⟩
              obtain ⟨t2, htr⟩ : ∃ t, ts.reverse[j]? = some t := ⟨_, List.getElem?_eq_getElem (show j < ts.reverse.length by simp; omega)⟩
              refine gSkip ?_
              refine gSeq ?_
              refine gBlock ?_
              refine gSeq ?_
              refine gText (σ := wk [(0, .p), (1, .p)]) rfl ?_
              refine pv rfl (rMv rfl) ?_
              refine pc (R' := []) (L1 := HA) rfl eN14 (c14 sa _ HA hsHA ((alike_sok halt.ok j _).may (by omega))) (fun u HA1 hu => ?_)
              obtain ⟨rfl, hsA1⟩ := hu
              rw [step_drop ht] at hsA1
              refine gs_nil ?_
              refine gKeep [4, 5, 7, 8, 10, 12, 17] rfl ?_
              refine gText (σ := wk [(0, .p), (1, .p)]) rfl ?_
              refine pv rfl (rMv rfl) ?_
              refine pc (R' := []) (L1 := HB) rfl eN14 (c14 sb _ HB hsHB ((alike_sok (rev_ok halt.ok) j _).may (by omega))) (fun u HB1 hu => ?_)
              obtain ⟨rfl, hsB1⟩ := hu
              rw [step_drop htr] at hsB1
              refine gs_nil ?_
              refine gText (σ := wk [(0, .p), (1, .p), (2, .p)]) rfl ?_
              refine pv rfl (rMv rfl) ?_
              refine pv rfl (rBin rfl rfl (bAddI (by omega))) ?_
              refine pv rfl (rAs rfl) ?_
              refine gs_nil ?_
              refine gKeep [4, 5, 7, 8, 10, 12, 17] rfl ?_
              refine gTo ((b5, Obj.cells (List.toArray (vecdL va)) 46) :: (b4, Obj.cells (List.toArray (putL pd)) 44) :: (Lt ++ (WH ++ (HA1 ++ HB1)))) ?_
              refine gInvK (j + 1, HA1, HB1) [4, 5, 7, 8, 10, 12, 17] ⟨⟨by show j + 1 ≤ _; omega, hsA1, hsB1⟩, by show _ - (j + 1) < _ - j; omega⟩ rfl rfl
            · have hj0 : j = ts.length := by have : ¬ (j : Int) < (bs.length : Int) := h7; omega
              subst hj0
              have hok1 := alike_sok halt.ok ts.length (TB.stepA (ts.take ts.length) Vec.zero)
              rw [List.take_length, List.drop_length] at hsHA hok1
              rw [show ts.length = ts.reverse.length by simp, List.take_length, List.drop_length, stepG_rev halt.ok halt.nodup, stepA_rev] at hsHB
              obtain ⟨σ, hσ⟩ : ∃ σ : ShS, (⟨16, [], TB.stepG ts (fun _ => []), TB.stepA ts Vec.zero⟩ : ShS) = σ := ⟨_, rfl⟩
              rw [hσ] at hsHA hsHB hok1
              have hok := hok1.mono (n' := 10) (m' := 10) (by omega) (by omega)
              obtain ⟨hh, hhe⟩ : ∃ hh, vecOf va = hh := ⟨_, rfl⟩
              obtain ⟨w, hwe⟩ : ∃ w, writeOf { pd with own := true } = w := ⟨_, rfl⟩
              refine gExit rfl ?_
              refine gSeq ?_
              refine gText (σ := wk [(0, .p), (1, .p)]) rfl ?_
              refine pv rfl (rFa fA44_1 rfl) ?_
              refine ps0 rfl (tSt t14.2 rfl rfl rfl rfl rfl rfl rfl) ?_
              refine gs_nil ?_
              refine gKeep [4, 5, 7, 8, 10, 12, 17] rfl ?_
              refine gSeq ?_
              refine gText (σ := wk [(0, .p), (1, .p), (2, .p), (3, .p)]) rfl ?_
              refine pv rfl (rLdA tA44 rfl rfl) ?_
              refine pf rfl eN13 (hwe ▸ c13 { pd with own := true }) ?_
              refine pm rfl (mAlloc zC42) (fun b18 => ?_)
              refine ps0 rfl (tSt tA42.2 rfl rfl rfl rfl rfl rfl rfl) ?_
              refine gs_nil ?_
              refine gSeq ?_
              refine gText (σ := wk [(0, .p), (1, .p), (2, .p), (3, .p)]) rfl ?_
              refine pv rfl (rLdA tA46 rfl rfl) ?_
              refine pf rfl eN12 (hhe ▸ c12 va) ?_
              refine pm rfl (mAlloc zC33) (fun b19 => ?_)
              refine ps0 rfl (tSt tA33.2 rfl rfl rfl rfl rfl rfl rfl) ?_
              refine gs_nil ?_
              refine gKeep [4, 5, 7, 8, 10, 12, 17, 18, 19] rfl ?_
              refine gSeq ?_
              refine gText (σ := wk [(0, .p), (1, .p), (2, .p), (3, .p), (4, .p), (5, .p), (6, .p), (7, .p), (8, .p), (9, .p), (10, .p), (11, .p), (12, .p), (13, .p), (14, .p)]) rfl ?_
              refine pv rfl (rMv rfl) ?_
              refine pv rfl (rFa fA42_0 rfl) ?_
              refine pv rfl (rLdN t19 rfl rfl) ?_
              refine pv rfl (rFa fA42_1 rfl) ?_
              refine pv rfl (rLdN t19 rfl rfl) ?_
              refine pv rfl (rLdA tA33 rfl rfl) ?_
              refine pc (R' := []) (L1 := HA) rfl eN22 (c22 sa σ HA hsHA w.bucket w.key hh (hok.len (by omega))) (fun u HA1 hv => ?_)
              obtain ⟨rfl, hsHA1⟩ := hv
              refine pv rfl (rMv rfl) ?_
              refine pv rfl (rEx rfl rfl) ?_
              refine pv rfl (rEx rfl rfl) ?_
              refine pv rfl (rEx rfl rfl) ?_
              refine pm rfl (mAlloc zC35) (fun b21 => ?_)
              refine pv rfl (rAs rfl) ?_
              refine ps0 rfl (tSt tA35.2 rfl rfl rfl rfl rfl rfl rfl) ?_
              refine pv rfl (rAs rfl) ?_
              refine gs_nil ?_
              refine gKeep [4, 5, 7, 8, 10, 12, 17, 18, 19, 20, 21, 22] rfl ?_
              refine gSeq ?_
              refine gText (σ := wk [(0, .p), (1, .p), (2, .p), (3, .p), (4, .p), (5, .p), (6, .p), (7, .p), (8, .p), (9, .p), (10, .p), (11, .p), (12, .p), (13, .p), (14, .p)]) rfl ?_
              refine pv rfl (rMv rfl) ?_
              refine pv rfl (rFa fA42_0 rfl) ?_
              refine pv rfl (rLdN t19 rfl rfl) ?_
              refine pv rfl (rFa fA42_1 rfl) ?_
              refine pv rfl (rLdN t19 rfl rfl) ?_
              refine pv rfl (rLdA tA33 rfl rfl) ?_
              refine pc (R' := []) (L1 := HB) rfl eN22 (c22 sb σ HB hsHB w.bucket w.key hh (hok.len (by omega))) (fun u HB1 hv => ?_)
              obtain ⟨rfl, hsHB1⟩ := hv
              refine pv rfl (rMv rfl) ?_
              refine pv rfl (rEx rfl rfl) ?_
              refine pv rfl (rEx rfl rfl) ?_
              refine pv rfl (rEx rfl rfl) ?_
              refine pm rfl (mAlloc zC35) (fun b24 => ?_)
              refine pv rfl (rAs rfl) ?_
              refine ps0 rfl (tSt tA35.2 rfl rfl rfl rfl rfl rfl rfl) ?_
              refine pv rfl (rAs rfl) ?_
              refine gs_nil ?_
              refine gKeep [4, 5, 7, 8, 10, 12, 17, 18, 20, 21, 22, 23, 24, 25] rfl ?_
              refine gSeq ?_
              refine gText (σ := wk [(0, .p), (1, .p), (2, .p), (3, .p), (4, .p), (5, .p), (6, .p), (7, .p), (8, .p), (9, .p), (10, .p), (11, .p), (12, .p), (13, .p), (14, .p)]) rfl ?_
              refine pv rfl (rMv rfl) ?_
              refine pv rfl (rFa fA42_0 rfl) ?_
              refine pv rfl (rLdN t19 rfl rfl) ?_
              refine pv rfl (rFa fA42_1 rfl) ?_
              refine pv rfl (rLdN t19 rfl rfl) ?_
              refine pc (R' := []) (L1 := HA1) rfl eN24 (c24 sa σ HA1 hsHA1 w.bucket w.key (hok.len (by omega))) (fun u HA2 hv => ?_)
              obtain ⟨rfl, hsHA2⟩ := hv
              refine pv rfl (rMv rfl) ?_
              refine pv rfl (rEx rfl rfl) ?_
              refine pv rfl (rEx rfl rfl) ?_
              refine pv rfl (rEx rfl rfl) ?_
              refine pm rfl (mAlloc zC42) (fun b26 => ?_)
              refine pm rfl (mAlloc zC35) (fun b27 => ?_)
              refine ps0 rfl (tSt tA42.2 rfl rfl rfl rfl rfl rfl rfl) ?_
              refine ps0 rfl (tSt tA35.2 rfl rfl rfl rfl rfl rfl rfl) ?_
              refine pv rfl (rAs rfl) ?_
              refine gs_nil ?_
              refine gKeep [4, 5, 7, 8, 10, 12, 17, 18, 20, 21, 22, 23, 24, 25, 26, 28] rfl ?_
              refine gSeq ?_
              refine gText (σ := wk [(0, .p), (1, .p), (2, .p), (3, .p), (4, .p), (5, .p), (6, .p), (7, .p), (8, .p), (9, .p), (10, .p), (11, .p), (12, .p), (13, .p), (14, .p)]) rfl ?_
              refine pv rfl (rMv rfl) ?_
              refine pv rfl (rFa fA42_0 rfl) ?_
              refine pv rfl (rLdN t19 rfl rfl) ?_
              refine pv rfl (rFa fA42_1 rfl) ?_
              refine pv rfl (rLdN t19 rfl rfl) ?_
              refine pc (R' := []) (L1 := HB1) rfl eN24 (c24 sb σ HB1 hsHB1 w.bucket w.key (hok.len (by omega))) (fun u HB2 hv => ?_)
              obtain ⟨rfl, hsHB2⟩ := hv
              refine pv rfl (rMv rfl) ?_
              refine pv rfl (rEx rfl rfl) ?_
              refine pv rfl (rEx rfl rfl) ?_
              refine pv rfl (rEx rfl rfl) ?_
              refine pm rfl (mAlloc zC42) (fun b29 => ?_)
              refine pm rfl (mAlloc zC35) (fun b30 => ?_)
              refine ps0 rfl (tSt tA42.2 rfl rfl rfl rfl rfl rfl rfl) ?_
              refine ps0 rfl (tSt tA35.2 rfl rfl rfl rfl rfl rfl rfl) ?_
              refine pv rfl (rAs rfl) ?_
              refine gs_nil ?_
              refine gKeep [4, 5, 7, 8, 10, 12, 17, 20, 21, 22, 23, 24, 25, 26, 28, 29, 31] rfl ?_
              refine gSeq ?_
              refine gText (σ := wk [(0, .p), (1, .p), (2, .p), (3, .p), (4, .p), (5, .p), (6, .p), (7, .p), (8, .p), (9, .p), (10, .p), (11, .p), (12, .p), (13, .p), (14, .p), (15, .p), (16, .p), (17, .p), (18, .p), (19, .p), (20, .p), (21, .p), (22, .p), (23, .p), (24, .p), (25, .p), (26, .p), (27, .p), (28, .p), (29, .p), (30, .p), (31, .p), (32, .p), (33, .p), (34, .p), (35, .p), (36, .p), (37, .p), (38, .p), (39, .p), (40, .p)]) rfl ?_
              refine pv rfl (rMv rfl) ?_
              refine pv rfl (rMv rfl) ?_
              refine gB (e := 186) rfl (fun _ => ?_) (fun g186 => by cases g186)
              refine pv rfl (rMv rfl) ?_
              refine pv rfl (rMv rfl) ?_
              refine pv rfl (rBin rfl rfl bEqS) ?_
              refine gV (u := .bool true) 189 rfl (by simp) ?_
              refine pv rfl (rPk rfl rfl) ?_
              refine pv rfl (rMv rfl) ?_
              refine gB (e := 191) rfl (fun _ => ?_) (fun g191 => by cases g191)
              refine pv rfl (rLdA tA35 rfl rfl) ?_
              refine pv rfl (rLdA tA35 rfl rfl) ?_
              refine pv rfl (rBin rfl rfl (bEq35 (readR σ (w.bucket, w.key) hh).2.1 (readR σ (w.bucket, w.key) hh).2.1)) ?_
              refine gV (u := .bool true) 194 rfl (by simp) ?_
              refine pv rfl (rPk rfl rfl) ?_
              refine pv rfl (rMv rfl) ?_
              refine gB (e := 196) rfl (fun _ => ?_) (fun g196 => by cases g196)
              refine pv rfl (rMv rfl) ?_
              refine pv rfl (rMv rfl) ?_
              refine pv rfl (rBin rfl rfl (bEqB Try.underlying4)) ?_
              refine gV (u := .bool true) 199 rfl (by simp) ?_
              refine pv rfl (rPk rfl rfl) ?_
              refine pv rfl (rMv rfl) ?_
              refine gB (e := 201) rfl (fun _ => ?_) (fun g201 => by cases g201)
              refine pv rfl (rLdA tA42 rfl rfl) ?_
              refine pv rfl (rLdA tA42 rfl rfl) ?_
              refine pv rfl (rBin rfl rfl (bEq42 ((lastR σ (w.bucket, w.key)).getD Ver.zero).w ((lastR σ (w.bucket, w.key)).getD Ver.zero).w)) ?_
              refine gV (u := .bool true) 204 rfl (by simp) ?_
              refine pv rfl (rPk rfl rfl) ?_
              refine pv rfl (rMv rfl) ?_
              refine gB (e := 206) rfl (fun _ => ?_) (fun g206 => by cases g206)
              refine pv rfl (rMv rfl) ?_
              refine pv rfl (rMv rfl) ?_
              refine pv rfl (rBin rfl rfl (bEqB Try.underlying4)) ?_
              refine gV (u := .bool true) 209 rfl (by simp) ?_
              refine pv rfl (rPk rfl rfl) ?_
              refine pv rfl (rMv rfl) ?_
              refine gB (e := 211) rfl (fun _ => ?_) (fun g211 => by cases g211)
              refine pv rfl (rMv rfl) ?_
              refine pf (R' := HA2) rfl eN28 (c28 sa σ HA2 hsHA2) ?_
              refine pv rfl (rMv rfl) ?_
              refine pf (R' := HB2) rfl eN28 (c28 sb σ HB2 hsHB2) ?_
              refine pv rfl (rBin rfl rfl (bEq33 σ.ap σ.ap)) ?_
              refine gV (u := .bool true) 216 rfl (by simp) ?_
              refine pv rfl (rPk rfl rfl) ?_
              refine pv rfl (rMv rfl) ?_
              refine gB (e := 218) rfl (fun _ => ?_) (fun g218 => by cases g218)
              refine pv rfl (rMv rfl) ?_
              refine pc (R' := []) (L1 := HA2) rfl eN29 (c29 sa σ HA2 hsHA2 (hok.sum (by omega))) (fun u HA3 hv => ?_)
              obtain ⟨n1, rfl, hn1, hsA3⟩ := hv
              refine pv rfl (rMv rfl) ?_
              refine pc (R' := []) (L1 := HB2) rfl eN29 (c29 sb σ HB2 hsHB2 (hok.sum (by omega))) (fun u HB3 hv => ?_)
              obtain ⟨n2, rfl, hn2, hsB3⟩ := hv
              obtain rfl := hn2.uniq hn1
              refine pv rfl (rBin rfl rfl bEq) ?_
              refine gV (u := .bool true) 223 rfl (by simp) ?_
              refine pv rfl (rPk rfl rfl) ?_
              refine pv rfl (rAs rfl) ?_
              refine gs_nil ?_
              refine gKeep [4, 5, 6, 7, 8, 10, 12, 17] rfl ?_
              refine gRet ?_
              refine gEnd1 Try.results5 (resT rfl) ⟨?_, rfl⟩
              rfl
end Go.Proofs.Yteeobhehfdifnaa
