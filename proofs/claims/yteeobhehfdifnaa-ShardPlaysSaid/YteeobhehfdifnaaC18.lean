/- A part of the proof that shardPlays of chapter 10 returns true at every room and every list of deeds, and leaves its arguments as they read; no condition. -/
import Derived.Test.YteeobhehfdifnaaC15
import Derived.Test.YteeobhehfdifnaaTBe
set_option linter.unusedVariables false
set_option linter.unusedSimpArgs false
set_option linter.unusedVariables false
set_option linter.unusedSimpArgs false
namespace Go.Proofs.Yteeobhehfdifnaa
open Go TB Go.Proofs

set_option maxRecDepth 4000 in
theorem c4 (room many : Int) (hr0 : 0 ≤ room ∧ room ≤ 255) (hm0 : 0 ≤ many ∧ many ≤ 255) (x : DealA) (R : HL) (hxR : DealR R x) : Pf Try.prog 4 [.int .u8 room, .agg (List.toArray (dealL x)), .int .u8 many] R (.bool true) := by
  refine trEnter Try.func4 rfl Try.ntmps4 (l := [(0, _), (1, _), (2, _)]) rfl rfl (fun w0 => ?_)
  refine gSeq ?_
  refine gText (σ := wk [(0, .p), (1, .p)]) rfl ?_
  refine pm rfl (mBox rfl rfl) (fun b4 => ?_)
  refine pv rfl (rAs rfl) ?_
  refine gs_nil ?_
  refine gSeq ?_
  refine gText (σ := wk [(0, .p), (1, .p)]) rfl ?_
  refine pf rfl eN8 c8 ?_
  refine pv rfl (rAs rfl) ?_
  refine gs_nil ?_
  refine gSeq ?_
  refine gSeq ?_
  refine gText (σ := wk [(0, .p), (1, .p)]) rfl ?_
  refine pv rfl (rMv rfl) ?_
  refine pv rfl (rNot rfl) ?_
  refine gs_nil ?_
  refine gCondF rfl rfl ?_
  refine gSkip ?_
  refine gSeq ?_
  refine gText (σ := wk [(0, .p), (1, .p), (2, .p), (3, .p), (4, .p)]) rfl ?_
  refine pv rfl (rMv rfl) ?_
  refine pv rfl (rBin rfl rfl (bRem (by decide))) ?_
  refine pv rfl (bConv Try.underlying3 Try.underlying5 rfl) ?_
  refine pv rfl (rBin rfl rfl bAdd) ?_
  refine pv rfl (rAs rfl) ?_
  refine gs_nil ?_
  obtain ⟨k, hk, hk1, hk2⟩ := waits_k hr0
  refine gVN (u := .int .i64 (k : Nat)) 8 rfl (by rw [hk]) ?_
  refine gKeep [2, 4, 6, 7, 8] rfl ?_
  refine gSeq ?_
  refine gText (σ := wk [(0, .p), (1, .p), (2, .p), (3, .p), (4, .p), (5, .p), (6, .p)]) rfl ?_
  refine pv rfl (rMv rfl) ?_
  refine pc (R' := []) rfl eN9 (c9 k) (fun u H0 hv => ?_)
  rw [if_neg (by omega)] at hv
  obtain ⟨s, rfl, hH0⟩ := hv
  change ShRep T0 s ⟨k, [], fun _ => [], Vec.zero⟩ H0 at hH0
  refine pv rfl (rMv rfl) ?_
  refine pv rfl (rEx rfl rfl) ?_
  refine pv rfl (rEx rfl rfl) ?_
  refine pv rfl (rAs rfl) ?_
  refine pv rfl (rAs rfl) ?_
  refine gs_nil ?_
  refine gKeep [2, 4, 6, 7, 8, 9, 10] rfl ?_
  refine gSeq ?_
  refine gSeq ?_
  refine gText (σ := wk [(0, .p), (1, .p), (2, .p), (3, .p), (4, .p), (5, .p)]) rfl ?_
  refine pv rfl (rMv rfl) ?_
  refine pv rfl (rBin rfl rfl (bPtNil Try.underlying25)) ?_
  refine pv rfl (rMv rfl) ?_
  refine gB (e := 40) rfl (fun g40 => by cases g40) (fun _ => ?_)
  refine pv rfl (rMv rfl) ?_
  refine pv rfl (rBin rfl rfl bNe) ?_
  refine pv rfl (rPk rfl rfl) ?_
  refine gs_nil ?_
  refine gKeep [2, 4, 6, 7, 8, 9, 43] rfl ?_
  refine gCondF rfl (by decide) ?_
  refine gSkip ?_
  refine gSeq ?_
  refine gText (σ := wk [(0, .p), (1, .p)]) rfl ?_
  refine pv rfl (rFa fA40_2 rfl) ?_
  refine ps0 rfl (tSt t14.2 rfl rfl rfl rfl rfl rfl rfl) ?_
  refine gs_nil ?_
  refine gSeq ?_
  refine gText (σ := wk [(0, .p), (1, .p), (2, .p), (3, .p)]) rfl ?_
  refine pv rfl (rLdA tA40 rfl rfl) ?_
  refine pc (R' := R) rfl eN11 (c11 { x.d with own := true } x.p x.cap R hxR.src hxR.len) (fun u Lr hu => ?_)
  obtain ⟨q, cap, rfl, hr⟩ := hu
  obtain ⟨hst1, hst2, hst3, hst4, _⟩ := dealSt_spec (d := { x.d with own := true }) rfl hxR.vec
  have hwok := dealWs_ok (d := { x.d with own := true }) rfl
  have hwl := dealWs_len { x.d with own := true }
  have hwn := dealWs_nodup (d := { x.d with own := true }) rfl
  have hne := dealWs_ne (d := { x.d with own := true }) rfl
  obtain ⟨st, hst⟩ : ∃ st, dealSt { x.d with own := true } = st := ⟨_, rfl⟩
  obtain ⟨ws, hws⟩ : ∃ ws, dealWs { x.d with own := true } = ws := ⟨_, rfl⟩
  rw [hst, hws]
  rw [hws] at hr hwok hwl hwn hne
  rw [hst] at hst1 hst2 hst3 hst4
  obtain ⟨q2, cap2, he, hsr⟩ := hr.src
  cases he
  refine pm rfl (mAlloc zC51) (fun b11 => ?_)
  refine ps0 rfl (tSt tA51.2 rfl rfl rfl rfl rfl rfl rfl) ?_
  refine gs_nil ?_
  refine gKeep [2, 6, 7, 8, 9, 11] rfl ?_
  refine gSeq ?_
  refine gText (σ := wk [(0, .p), (1, .p), (2, .p), (3, .p)]) rfl ?_
  refine pv rfl (rMv rfl) ?_
  refine pv rfl (rBin rfl rfl (bRem (by decide))) ?_
  refine pv rfl (bConv Try.underlying3 Try.underlying5 rfl) ?_
  refine pv rfl (rAs rfl) ?_
  refine gs_nil ?_
  obtain ⟨n, hn, hn1⟩ := u8_mod hm0 20 (by omega)
  refine gVN (u := .int .i64 (n : Nat)) 12 rfl (by rw [hn]) ?_
  refine gKeep [6, 7, 8, 9, 11, 12] rfl ?_
  refine gSeq ?_
  refine gSeq ?_
  refine gText (σ := wk [(0, .p)]) rfl ?_
  refine pv rfl (rAs rfl) ?_
  refine gs_nil ?_
  refine gBlock ?_
  refine gLoop (σ := Nat × HL) (fun z => ([(7, .bool true), (8, .int .i64 (k : Nat)), (9, .pointer (some ⟨s, 0, none⟩)), (11, .pointer (some ⟨b11, 0, none⟩)), (12, .int .i64 (n : Nat)), (13, .int .i64 (z.1 : Nat))], (b11, Obj.cells (List.toArray (batL ⟨st, q, ws.length, cap⟩)) 51) :: (Lr ++ z.2))) (fun z => z.1 ≤ n ∧ ShRep T0 s ⟨k, List.replicate (min z.1 k) (st, ws), fun _ => [], Vec.zero⟩ z.2) (fun z => n - z.1) ?_ (fun z hs => ?_)
  · refine gDrop [(b4, Obj.cells (List.toArray [.int .u64 x.d.m.s.v.a, .int .u64 x.d.m.s.v.b, .int .u64 x.d.m.s.v.c, .int .u64 x.d.m.s.v.d, .int .i64 x.d.m.s.dc, .bool x.d.m.own, .slice x.p x.d.ps.length x.cap, .bool true]) 40)] ?_
    refine gTo ((b11, Obj.cells (List.toArray (batL ⟨st, q, ws.length, cap⟩)) 51) :: (Lr ++ H0)) ?_
    refine gInvK ((0, H0)) [7, 8, 9, 11, 12, 13] ⟨Nat.zero_le _, by rw [Nat.zero_min]; exact hH0⟩ rfl rfl
  · obtain ⟨i, H⟩ := z
    obtain ⟨hi, hsH⟩ := hs
    simp only at hi hsH ⊢
    refine gSeq ?_
    refine gSeq ?_
    refine gText (σ := wk [(0, .p), (1, .p), (2, .p)]) rfl ?_
    refine pv rfl (rMv rfl) ?_
    refine pv rfl (rMv rfl) ?_
    refine pv rfl (rBin rfl rfl bLt) ?_
    refine gs_nil ?_
    refine gCondD rfl (fun h2 => ?_) (fun h2 => ?_)
    · have hin : i < n := by omega
      refine gSkip ?_
      refine gSeq ?_
      refine gBlock ?_
      refine gSeq ?_
      refine gText (σ := wk [(0, .p), (1, .p), (2, .p), (3, .p), (4, .p), (5, .p), (6, .p), (7, .p), (8, .p), (9, .p)]) rfl ?_
      refine pv rfl (rMv rfl) ?_
      refine pv rfl (rFa fA51_0 rfl) ?_
      refine pv rfl (rLdA tA35 rfl rfl) ?_
      refine pv rfl (rFa fA51_1 rfl) ?_
      refine pv rfl (rLdN t149 rfl rfl) ?_
      refine pc (R' := Lr) (L1 := H) rfl eN18 (c18 s _ H hsH st ws q cap Lr hsr (by omega)) (fun u H1 hu => ?_)
      obtain ⟨rfl, hsH1⟩ := hu
      rw [waits_push hst1 hwok] at hsH1
      refine pv rfl (rMv rfl) ?_
      refine pv rfl (rMv rfl) ?_
      refine pv rfl (rBin rfl rfl bLt) ?_
      refine pv rfl (rBin rfl rfl (bNeB Try.underlying4)) ?_
      refine gV (u := .bool false) 64 rfl (by rw [waits_pushOK hst1 hwok]; simp) ?_
      refine gs_nil ?_
      refine gKeep [7, 8, 9, 11, 12, 13, 64] rfl ?_
      refine gCondF rfl rfl ?_
      refine gSkip ?_
      refine gText (σ := wk [(0, .p), (1, .p), (2, .p)]) rfl ?_
      refine pv rfl (rMv rfl) ?_
      refine pv rfl (rBin rfl rfl (bAddI (by omega))) ?_
      refine pv rfl (rAs rfl) ?_
      refine gs_nil ?_
      refine gTo ((b11, Obj.cells (List.toArray (batL ⟨st, q, ws.length, cap⟩)) 51) :: (Lr ++ H1)) ?_
      refine gInvK (i + 1, H1) [7, 8, 9, 11, 12, 13] ⟨⟨by show i + 1 ≤ _; omega, hsH1⟩, by show _ - (i + 1) < _ - i; omega⟩ rfl rfl
    · have hin : i = n := by omega
      subst hin
      refine gExit rfl ?_
      refine gSeq ?_
      obtain ⟨w, ws', hwe⟩ := List.exists_cons_of_ne_nil hne
      have hx0 : ws[0]? = some w := by rw [hwe]; rfl
      have hwi : w ∈ ws := by rw [hwe]; simp
      have hpos : 0 < ws.length := by rw [hwe]; simp
      obtain ⟨q2, cap2, he, hlw⟩ := hr.lies
      cases he
      obtain ⟨b, o, cl, E, fr, rfl, hm, hv⟩ := hlw.at writeL_len hx0 (by decide)
      refine gText (σ := wk [(0, .p), (1, .p), (2, .p), (3, .p), (4, .p), (5, .p)]) rfl ?_
      refine pv rfl (rFa fA51_1 rfl) ?_
      refine pv rfl (rLdN t149 rfl rfl) ?_
      refine pv rfl (rIs iS49 rfl rfl ⟨by omega, by show (0 : Int) < (ws.length : Int); omega⟩) ?_
      refine pv rfl (rLdAm tA42 rfl (List.mem_append_left _ (List.mem_cons_of_mem _ (List.mem_append_left _ hm))) (vs := writeL w) rfl (fun j v h => hv j v h)) ?_
      refine pm rfl (mAlloc zC42) (fun b14 => ?_)
      refine ps0 rfl (tSt tA42.2 rfl rfl rfl rfl rfl rfl rfl) ?_
      refine gs_nil ?_
      refine gKeep [7, 8, 9, 11, 12, 13, 14] rfl ?_
      refine gSeq ?_
      refine gText (σ := wk [(0, .p), (1, .p), (2, .p), (3, .p), (4, .p), (5, .p), (6, .p), (7, .p), (8, .p), (9, .p), (10, .p), (11, .p), (12, .p), (13, .p), (14, .p), (15, .p), (16, .p)]) rfl ?_
      refine pv rfl (rMv rfl) ?_
      refine pv rfl (rFa fA42_0 rfl) ?_
      refine pv rfl (rLdN t19 rfl rfl) ?_
      refine pv rfl (rFa fA42_1 rfl) ?_
      refine pv rfl (rLdN t19 rfl rfl) ?_
      refine pv rfl (rFa fA51_0 rfl) ?_
      refine pv rfl (rFa fA35_0 rfl) ?_
      refine pv rfl (rLdA tA33 rfl rfl) ?_
      refine pc (R' := []) (L1 := H) rfl eN22 (c22 s _ H hsH w.bucket w.key st.v (fun _ => Nat.zero_le _)) (fun u Ha hv => ?_)
      rw [readR_nil] at hv
      obtain ⟨rfl, hsHa⟩ := hv
      refine pv rfl (rMv rfl) ?_
      refine pv rfl (rEx rfl rfl) ?_
      refine pv rfl (rEx rfl rfl) ?_
      refine pv rfl (rEx rfl rfl) ?_
      refine pm rfl (mAlloc zC35) (fun b16 => ?_)
      refine pv rfl (rAs rfl) ?_
      refine ps0 rfl (tSt tA35.2 rfl rfl rfl rfl rfl rfl rfl) ?_
      refine pv rfl (rAs rfl) ?_
      refine gs_nil ?_
      refine gKeep [7, 8, 9, 11, 12, 13, 14, 17] rfl ?_
      refine gSeq ?_
      refine gText (σ := wk [(0, .p), (1, .p), (2, .p), (3, .p)]) rfl ?_
      refine pv rfl (rMv rfl) ?_
      refine pf (R' := Ha) rfl eN28 (c28 s _ Ha hsHa) ?_
      refine pm rfl (mAlloc zC33) (fun b18 => ?_)
      refine ps0 rfl (tSt tA33.2 rfl rfl rfl rfl rfl rfl rfl) ?_
      refine gs_nil ?_
      refine gSeq ?_
      refine gText (σ := wk [(0, .p), (1, .p), (2, .p)]) rfl ?_
      refine pv rfl (rMv rfl) ?_
      refine pc (R' := []) (L1 := Ha) rfl eN14 (c14 s _ Ha hsHa ((waits_sok hwl).may (by omega))) (fun u Hb hv => ?_)
      obtain ⟨rfl, hsHb⟩ := hv
      rcases Nat.eq_zero_or_pos i with hn0 | hn0
      · subst hn0
        rw [Nat.zero_min] at hsHb
        change ShRep T0 s ⟨k, [], fun _ => [], Vec.zero⟩ Hb at hsHb
        refine gV (u := .bool false) 85 rfl (by simp) ?_
        refine pv rfl (rAs rfl) ?_
        refine gs_nil ?_
        refine gKeep [7, 8, 9, 11, 12, 13, 14, 17, 18, 19] rfl ?_
        refine gSeq ?_
        refine gText (σ := wk [(0, .p), (1, .p), (2, .p), (3, .p), (4, .p), (5, .p), (6, .p), (7, .p), (8, .p), (9, .p), (10, .p), (11, .p), (12, .p), (13, .p), (14, .p), (15, .p), (16, .p)]) rfl ?_
        refine pv rfl (rMv rfl) ?_
        refine pv rfl (rFa fA42_0 rfl) ?_
        refine pv rfl (rLdN t19 rfl rfl) ?_
        refine pv rfl (rFa fA42_1 rfl) ?_
        refine pv rfl (rLdN t19 rfl rfl) ?_
        refine pv rfl (rFa fA51_0 rfl) ?_
        refine pv rfl (rFa fA35_0 rfl) ?_
        refine pv rfl (rLdA tA33 rfl rfl) ?_
        refine pc (R' := []) (L1 := Hb) rfl eN22 (c22 s _ Hb hsHb w.bucket w.key st.v (fun _ => Nat.zero_le _)) (fun u Hc hv => ?_)
        rw [readR_nil] at hv
        obtain ⟨rfl, hsHc⟩ := hv
        refine pv rfl (rMv rfl) ?_
        refine pv rfl (rEx rfl rfl) ?_
        refine pv rfl (rEx rfl rfl) ?_
        refine pv rfl (rEx rfl rfl) ?_
        refine pm rfl (mAlloc zC35) (fun b21 => ?_)
        refine pv rfl (rAs rfl) ?_
        refine ps0 rfl (tSt tA35.2 rfl rfl rfl rfl rfl rfl rfl) ?_
        refine pv rfl (rAs rfl) ?_
        refine gs_nil ?_
        refine gKeep [7, 8, 9, 11, 12, 13, 14, 17, 18, 19, 20, 21, 22] rfl ?_
        refine gSeq ?_
        refine gD [b14, b11] (.one 0 .q (.one 1 .q (.one 2 .q (.one 3 .q (.one 4 .q (.one 5 .q (.one 6 .q (.one 7 .q (.one 8 .q (.one 9 .q (.one 10 .q (.one 11 .q (.one 12 .q (.alt (.one 13 .p (.one 14 .q (.alt (.one 15 .p (.alt (wk [(16, .p), (17, .q), (18, .q), (19, .q), (20, .q), (21, .p), (22, .q), (23, .p), (24, .q)]) (wk [(21, .p), (16, .p), (17, .q), (18, .q), (19, .q), (20, .q), (22, .q), (23, .p), (24, .q)]))) (wk [(21, .p), (15, .p), (16, .p), (17, .q), (18, .q), (19, .q), (20, .q), (22, .q), (23, .p), (24, .q)])))) (wk [(21, .p), (13, .p), (14, .q), (15, .p), (16, .p), (17, .q), (18, .q), (19, .q), (20, .q), (22, .q), (23, .p), (24, .q)]))))))))))))))) fol (by kernel_rfl) rfl (by kernel_rfl) ?_
        refine qv rfl (rMv rfl) ?_
        refine qv rfl (rFa fA42_0 rfl) ?_
        refine qv rfl (rLdN t19 rfl rfl) ?_
        refine qv rfl (rFa fA42_1 rfl) ?_
        refine qv rfl (rLdN t19 rfl rfl) ?_
        refine qv rfl (rFa fA51_0 rfl) ?_
        refine qv rfl (rFa fA35_0 rfl) ?_
        refine qv rfl (rLdA tA33 rfl rfl) ?_
        refine qv rfl (rFa fA51_0 rfl) ?_
        refine qv rfl (rFa fA35_1 rfl) ?_
        refine qv rfl (rLdN t13 rfl rfl) ?_
        refine qv rfl (rFa fA51_0 rfl) ?_
        refine qv rfl (rLdA tA35 rfl rfl) ?_
        refine gAlt ?_ ?_
        · refine pf rfl eN31 (c31 st) ?_
          refine qv rfl (rBin rfl rfl bSub) ?_
          refine gAlt ?_ ?_
          · refine pf rfl eN30 (c30 st.v st.dc (IntKind.u64.wrap (st.n - 1))) ?_
            refine gAlt ?_ ?_
            · refine pc (R' := []) (L1 := Hc) rfl eN22 (c22 s _ Hc hsHc w.bucket w.key (st.v.set' st.dc (IntKind.u64.wrap (st.n - 1))) (fun _ => Nat.zero_le _)) (fun u Hd hv => ?_)
              rw [readR_nil] at hv
              obtain ⟨rfl, hsHd⟩ := hv
              refine qv rfl (rMv rfl) ?_
              refine qv rfl (rEx rfl rfl) ?_
              refine qv rfl (rEx rfl rfl) ?_
              refine qv rfl (rEx rfl rfl) ?_
              refine pm rfl (mAlloc zC35) (fun b24 => ?_)
              refine qv rfl (rAs rfl) ?_
              refine psT rfl (tSt tA35.2 rfl rfl rfl rfl rfl rfl rfl) ?_
              refine qv rfl (rAs rfl) ?_
              refine gs_nil ?_
              refine gKeep [7, 8, 9, 11, 12, 13, 14, 17, 18, 19, 20, 21, 22, 25] rfl ?_
              refine gSeq ?_
              refine gSeq ?_
              refine gText (σ := wk [(0, .p), (1, .p)]) rfl ?_
              refine pv rfl (rMv rfl) ?_
              refine pv rfl (rBin rfl rfl bEq) ?_
              refine gs_nil ?_
              refine gCondT rfl (by decide) ?_
              refine gSeq ?_
              refine gText (σ := wk [(0, .p), (1, .p), (2, .p), (3, .p), (4, .p), (5, .p), (6, .p), (7, .p), (8, .p), (9, .p), (10, .p), (11, .p), (12, .p), (13, .p)]) rfl ?_
              refine pv rfl (rMv rfl) ?_
              refine pv rfl (rMv rfl) ?_
              refine gB (e := 123) rfl (fun _ => ?_) (fun g123 => by cases g123)
              refine pv rfl (rMv rfl) ?_
              refine pv rfl (rNot rfl) ?_
              refine pv rfl (rPk rfl rfl) ?_
              refine pv rfl (rMv rfl) ?_
              refine gB (e := 127) rfl (fun _ => ?_) (fun g127 => by cases g127)
              refine pv rfl (rMv rfl) ?_
              refine pv rfl (rNot rfl) ?_
              refine pv rfl (rPk rfl rfl) ?_
              refine pv rfl (rMv rfl) ?_
              refine gB (e := 131) rfl (fun _ => ?_) (fun g131 => by cases g131)
              refine pv rfl (rMv rfl) ?_
              refine pv rfl (rNot rfl) ?_
              refine pv rfl (rPk rfl rfl) ?_
              refine pv rfl (rAs rfl) ?_
              refine gs_nil ?_
              refine gKeep [6, 7, 8, 9, 11, 12, 13, 14, 17, 18, 19, 20, 21, 22, 25] rfl ?_
              refine gRet ?_
              refine gEnd1 Try.results4 (resT rfl) ⟨?_, rfl⟩
              rfl
            · refine pm rfl (mAlloc zC35) (fun b24 => ?_)
              refine pc (R' := []) (L1 := Hc) rfl eN22 (c22 s _ Hc hsHc w.bucket w.key (st.v.set' st.dc (IntKind.u64.wrap (st.n - 1))) (fun _ => Nat.zero_le _)) (fun u Hd hv => ?_)
              rw [readR_nil] at hv
              obtain ⟨rfl, hsHd⟩ := hv
              refine qv rfl (rMv rfl) ?_
              refine qv rfl (rEx rfl rfl) ?_
              refine qv rfl (rEx rfl rfl) ?_
              refine qv rfl (rEx rfl rfl) ?_
              refine qv rfl (rAs rfl) ?_
              refine psT rfl (tSt tA35.2 rfl rfl rfl rfl rfl rfl rfl) ?_
              refine qv rfl (rAs rfl) ?_
              refine gs_nil ?_
              refine gKeep [7, 8, 9, 11, 12, 13, 14, 17, 18, 19, 20, 21, 22, 25] rfl ?_
              refine gSeq ?_
              refine gSeq ?_
              refine gText (σ := wk [(0, .p), (1, .p)]) rfl ?_
              refine pv rfl (rMv rfl) ?_
              refine pv rfl (rBin rfl rfl bEq) ?_
              refine gs_nil ?_
              refine gCondT rfl (by decide) ?_
              refine gSeq ?_
              refine gText (σ := wk [(0, .p), (1, .p), (2, .p), (3, .p), (4, .p), (5, .p), (6, .p), (7, .p), (8, .p), (9, .p), (10, .p), (11, .p), (12, .p), (13, .p)]) rfl ?_
              refine pv rfl (rMv rfl) ?_
              refine pv rfl (rMv rfl) ?_
              refine gB (e := 123) rfl (fun _ => ?_) (fun g123 => by cases g123)
              refine pv rfl (rMv rfl) ?_
              refine pv rfl (rNot rfl) ?_
              refine pv rfl (rPk rfl rfl) ?_
              refine pv rfl (rMv rfl) ?_
              refine gB (e := 127) rfl (fun _ => ?_) (fun g127 => by cases g127)
              refine pv rfl (rMv rfl) ?_
              refine pv rfl (rNot rfl) ?_
              refine pv rfl (rPk rfl rfl) ?_
              refine pv rfl (rMv rfl) ?_
              refine gB (e := 131) rfl (fun _ => ?_) (fun g131 => by cases g131)
              refine pv rfl (rMv rfl) ?_
              refine pv rfl (rNot rfl) ?_
              refine pv rfl (rPk rfl rfl) ?_
              refine pv rfl (rAs rfl) ?_
              refine gs_nil ?_
              refine gKeep [6, 7, 8, 9, 11, 12, 13, 14, 17, 18, 19, 20, 21, 22, 25] rfl ?_
              refine gRet ?_
              refine gEnd1 Try.results4 (resT rfl) ⟨?_, rfl⟩
              rfl
          · refine pm rfl (mAlloc zC35) (fun b24 => ?_)
            refine pf rfl eN30 (c30 st.v st.dc (IntKind.u64.wrap (st.n - 1))) ?_
            refine pc (R' := []) (L1 := Hc) rfl eN22 (c22 s _ Hc hsHc w.bucket w.key (st.v.set' st.dc (IntKind.u64.wrap (st.n - 1))) (fun _ => Nat.zero_le _)) (fun u Hd hv => ?_)
            rw [readR_nil] at hv
            obtain ⟨rfl, hsHd⟩ := hv
            refine qv rfl (rMv rfl) ?_
            refine qv rfl (rEx rfl rfl) ?_
            refine qv rfl (rEx rfl rfl) ?_
            refine qv rfl (rEx rfl rfl) ?_
            refine qv rfl (rAs rfl) ?_
            refine psT rfl (tSt tA35.2 rfl rfl rfl rfl rfl rfl rfl) ?_
            refine qv rfl (rAs rfl) ?_
            refine gs_nil ?_
            refine gKeep [7, 8, 9, 11, 12, 13, 14, 17, 18, 19, 20, 21, 22, 25] rfl ?_
            refine gSeq ?_
            refine gSeq ?_
            refine gText (σ := wk [(0, .p), (1, .p)]) rfl ?_
            refine pv rfl (rMv rfl) ?_
            refine pv rfl (rBin rfl rfl bEq) ?_
            refine gs_nil ?_
            refine gCondT rfl (by decide) ?_
            refine gSeq ?_
            refine gText (σ := wk [(0, .p), (1, .p), (2, .p), (3, .p), (4, .p), (5, .p), (6, .p), (7, .p), (8, .p), (9, .p), (10, .p), (11, .p), (12, .p), (13, .p)]) rfl ?_
            refine pv rfl (rMv rfl) ?_
            refine pv rfl (rMv rfl) ?_
            refine gB (e := 123) rfl (fun _ => ?_) (fun g123 => by cases g123)
            refine pv rfl (rMv rfl) ?_
            refine pv rfl (rNot rfl) ?_
            refine pv rfl (rPk rfl rfl) ?_
            refine pv rfl (rMv rfl) ?_
            refine gB (e := 127) rfl (fun _ => ?_) (fun g127 => by cases g127)
            refine pv rfl (rMv rfl) ?_
            refine pv rfl (rNot rfl) ?_
            refine pv rfl (rPk rfl rfl) ?_
            refine pv rfl (rMv rfl) ?_
            refine gB (e := 131) rfl (fun _ => ?_) (fun g131 => by cases g131)
            refine pv rfl (rMv rfl) ?_
            refine pv rfl (rNot rfl) ?_
            refine pv rfl (rPk rfl rfl) ?_
            refine pv rfl (rAs rfl) ?_
            refine gs_nil ?_
            refine gKeep [6, 7, 8, 9, 11, 12, 13, 14, 17, 18, 19, 20, 21, 22, 25] rfl ?_
            refine gRet ?_
            refine gEnd1 Try.results4 (resT rfl) ⟨?_, rfl⟩
            rfl
        · refine pm rfl (mAlloc zC35) (fun b24 => ?_)
          refine pf rfl eN31 (c31 st) ?_
          refine qv rfl (rBin rfl rfl bSub) ?_
          refine pf rfl eN30 (c30 st.v st.dc (IntKind.u64.wrap (st.n - 1))) ?_
          refine pc (R' := []) (L1 := Hc) rfl eN22 (c22 s _ Hc hsHc w.bucket w.key (st.v.set' st.dc (IntKind.u64.wrap (st.n - 1))) (fun _ => Nat.zero_le _)) (fun u Hd hv => ?_)
          rw [readR_nil] at hv
          obtain ⟨rfl, hsHd⟩ := hv
          refine qv rfl (rMv rfl) ?_
          refine qv rfl (rEx rfl rfl) ?_
          refine qv rfl (rEx rfl rfl) ?_
          refine qv rfl (rEx rfl rfl) ?_
          refine qv rfl (rAs rfl) ?_
          refine psT rfl (tSt tA35.2 rfl rfl rfl rfl rfl rfl rfl) ?_
          refine qv rfl (rAs rfl) ?_
          refine gs_nil ?_
          refine gKeep [7, 8, 9, 11, 12, 13, 14, 17, 18, 19, 20, 21, 22, 25] rfl ?_
          refine gSeq ?_
          refine gSeq ?_
          refine gText (σ := wk [(0, .p), (1, .p)]) rfl ?_
          refine pv rfl (rMv rfl) ?_
          refine pv rfl (rBin rfl rfl bEq) ?_
          refine gs_nil ?_
          refine gCondT rfl (by decide) ?_
          refine gSeq ?_
          refine gText (σ := wk [(0, .p), (1, .p), (2, .p), (3, .p), (4, .p), (5, .p), (6, .p), (7, .p), (8, .p), (9, .p), (10, .p), (11, .p), (12, .p), (13, .p)]) rfl ?_
          refine pv rfl (rMv rfl) ?_
          refine pv rfl (rMv rfl) ?_
          refine gB (e := 123) rfl (fun _ => ?_) (fun g123 => by cases g123)
          refine pv rfl (rMv rfl) ?_
          refine pv rfl (rNot rfl) ?_
          refine pv rfl (rPk rfl rfl) ?_
          refine pv rfl (rMv rfl) ?_
          refine gB (e := 127) rfl (fun _ => ?_) (fun g127 => by cases g127)
          refine pv rfl (rMv rfl) ?_
          refine pv rfl (rNot rfl) ?_
          refine pv rfl (rPk rfl rfl) ?_
          refine pv rfl (rMv rfl) ?_
          refine gB (e := 131) rfl (fun _ => ?_) (fun g131 => by cases g131)
          refine pv rfl (rMv rfl) ?_
          refine pv rfl (rNot rfl) ?_
          refine pv rfl (rPk rfl rfl) ?_
          refine pv rfl (rAs rfl) ?_
          refine gs_nil ?_
          refine gKeep [6, 7, 8, 9, 11, 12, 13, 14, 17, 18, 19, 20, 21, 22, 25] rfl ?_
          refine gRet ?_
          refine gEnd1 Try.results4 (resT rfl) ⟨?_, rfl⟩
          rfl
      · obtain ⟨m, hmm⟩ : ∃ m, min i k = m + 1 := ⟨min i k - 1, by omega⟩
        rw [hmm] at hsHb
        change ShRep T0 s ⟨k, List.replicate m (st, ws), applyW st ws (fun _ => []), apS Vec.zero st⟩ Hb at hsHb
        refine gV (u := .bool true) 85 rfl (by rw [hmm]; rfl) ?_
        have hsg : SOK ⟨k, List.replicate m (st, ws), applyW st ws (fun _ => []), apS Vec.zero st⟩ 1 (m + 1) := (waits_sok (m := m + 1) hwl).step
        refine pv rfl (rAs rfl) ?_
        refine gs_nil ?_
        refine gKeep [7, 8, 9, 11, 12, 13, 14, 17, 18, 19] rfl ?_
        refine gSeq ?_
        refine gText (σ := wk [(0, .p), (1, .p), (2, .p), (3, .p), (4, .p), (5, .p), (6, .p), (7, .p), (8, .p), (9, .p), (10, .p), (11, .p), (12, .p), (13, .p), (14, .p), (15, .p), (16, .p)]) rfl ?_
        refine pv rfl (rMv rfl) ?_
        refine pv rfl (rFa fA42_0 rfl) ?_
        refine pv rfl (rLdN t19 rfl rfl) ?_
        refine pv rfl (rFa fA42_1 rfl) ?_
        refine pv rfl (rLdN t19 rfl rfl) ?_
        refine pv rfl (rFa fA51_0 rfl) ?_
        refine pv rfl (rFa fA35_0 rfl) ?_
        refine pv rfl (rLdA tA33 rfl rfl) ?_
        refine pc (R' := []) (L1 := Hb) rfl eN22 (c22 s _ Hb hsHb w.bucket w.key st.v (fun k => Nat.le_trans (hsg.g.len k) (by omega))) (fun u Hc hv => ?_)
        rw [waits_read hst1 hwn hwi] at hv
        obtain ⟨rfl, hsHc⟩ := hv
        refine pv rfl (rMv rfl) ?_
        refine pv rfl (rEx rfl rfl) ?_
        refine pv rfl (rEx rfl rfl) ?_
        refine pv rfl (rEx rfl rfl) ?_
        refine pm rfl (mAlloc zC35) (fun b21 => ?_)
        refine pv rfl (rAs rfl) ?_
        refine ps0 rfl (tSt tA35.2 rfl rfl rfl rfl rfl rfl rfl) ?_
        refine pv rfl (rAs rfl) ?_
        refine gs_nil ?_
        refine gKeep [7, 8, 9, 11, 12, 13, 14, 17, 18, 19, 20, 21, 22] rfl ?_
        refine gSeq ?_
        refine gD [b14, b11] (.one 0 .q (.one 1 .q (.one 2 .q (.one 3 .q (.one 4 .q (.one 5 .q (.one 6 .q (.one 7 .q (.one 8 .q (.one 9 .q (.one 10 .q (.one 11 .q (.one 12 .q (.alt (.one 13 .p (.one 14 .q (.alt (.one 15 .p (.alt (wk [(16, .p), (17, .q), (18, .q), (19, .q), (20, .q), (21, .p), (22, .q), (23, .p), (24, .q)]) (wk [(21, .p), (16, .p), (17, .q), (18, .q), (19, .q), (20, .q), (22, .q), (23, .p), (24, .q)]))) (wk [(21, .p), (15, .p), (16, .p), (17, .q), (18, .q), (19, .q), (20, .q), (22, .q), (23, .p), (24, .q)])))) (wk [(21, .p), (13, .p), (14, .q), (15, .p), (16, .p), (17, .q), (18, .q), (19, .q), (20, .q), (22, .q), (23, .p), (24, .q)]))))))))))))))) fol (by kernel_rfl) rfl (by kernel_rfl) ?_
        refine qv rfl (rMv rfl) ?_
        refine qv rfl (rFa fA42_0 rfl) ?_
        refine qv rfl (rLdN t19 rfl rfl) ?_
        refine qv rfl (rFa fA42_1 rfl) ?_
        refine qv rfl (rLdN t19 rfl rfl) ?_
        refine qv rfl (rFa fA51_0 rfl) ?_
        refine qv rfl (rFa fA35_0 rfl) ?_
        refine qv rfl (rLdA tA33 rfl rfl) ?_
        refine qv rfl (rFa fA51_0 rfl) ?_
        refine qv rfl (rFa fA35_1 rfl) ?_
        refine qv rfl (rLdN t13 rfl rfl) ?_
        refine qv rfl (rFa fA51_0 rfl) ?_
        refine qv rfl (rLdA tA35 rfl rfl) ?_
        refine gAlt ?_ ?_
        · refine pf rfl eN31 (c31 st) ?_
          refine qv rfl (rBin rfl rfl bSub) ?_
          refine gAlt ?_ ?_
          · refine pf rfl eN30 (c30 st.v st.dc (IntKind.u64.wrap (st.n - 1))) ?_
            refine gAlt ?_ ?_
            · refine pc (R' := []) (L1 := Hc) rfl eN22 (c22 s _ Hc hsHc w.bucket w.key (st.v.set' st.dc (IntKind.u64.wrap (st.n - 1))) (fun k => Nat.le_trans (hsg.g.len k) (by omega))) (fun u Hd hv => ?_)
              rw [waits_below hst1 hwn hwi ⟨hst2, hst3⟩ hst4] at hv
              obtain ⟨rfl, hsHd⟩ := hv
              refine qv rfl (rMv rfl) ?_
              refine qv rfl (rEx rfl rfl) ?_
              refine qv rfl (rEx rfl rfl) ?_
              refine qv rfl (rEx rfl rfl) ?_
              refine pm rfl (mAlloc zC35) (fun b24 => ?_)
              refine qv rfl (rAs rfl) ?_
              refine psT rfl (tSt tA35.2 rfl rfl rfl rfl rfl rfl rfl) ?_
              refine qv rfl (rAs rfl) ?_
              refine gs_nil ?_
              refine gKeep [7, 8, 9, 11, 12, 13, 14, 17, 18, 19, 20, 21, 22, 25] rfl ?_
              refine gSeq ?_
              refine gSeq ?_
              refine gText (σ := wk [(0, .p), (1, .p)]) rfl ?_
              refine pv rfl (rMv rfl) ?_
              refine pv rfl (rBin rfl rfl bEq) ?_
              refine gs_nil ?_
              refine gCondF rfl (by simp; omega) ?_
              refine gSkip ?_
              refine gSeq ?_
              refine gD [b18, b14, b21, b11] (wk [(0, .q), (1, .q), (2, .q), (3, .q), (4, .q), (5, .q), (6, .q), (7, .p), (8, .q), (9, .q), (10, .q), (11, .q), (12, .q), (13, .q), (14, .q), (15, .q), (16, .q), (17, .q), (18, .q), (19, .q), (20, .q), (21, .q), (22, .q), (23, .q), (24, .q), (25, .q), (26, .q), (27, .q), (28, .q), (29, .q), (30, .q), (31, .q), (32, .q), (33, .q), (34, .q), (35, .q), (36, .q), (37, .q), (39, .q), (40, .q), (41, .q), (43, .q), (44, .q), (38, .p), (42, .p), (45, .p), (46, .q), (47, .q), (48, .q), (49, .q), (51, .q), (52, .q), (53, .q), (54, .q), (50, .p), (55, .q), (56, .q), (57, .q), (58, .q), (60, .q), (61, .q), (62, .q), (59, .p), (63, .q), (64, .q), (65, .q)]) fol (by kernel_rfl) rfl (by kernel_rfl) ?_
              refine qv rfl (rMv rfl) ?_
              refine qv rfl (rMv rfl) ?_
              refine gB (e := 136) rfl (fun _ => ?_) (fun g136 => by cases g136)
              refine qv rfl (rMv rfl) ?_
              refine qv rfl (rNot rfl) ?_
              refine qv rfl (rPk rfl rfl) ?_
              refine qv rfl (rMv rfl) ?_
              refine gB (e := 140) rfl (fun _ => ?_) (fun g140 => by cases g140)
              refine qv rfl (rLdA tA33 rfl rfl) ?_
              refine pf rfl eN32 (c32 Vec.zero) ?_
              refine qv rfl (rBin rfl rfl bEq) ?_
              refine gV (u := .bool true) 143 rfl (congrArg Value.bool (by decide)) ?_
              refine qv rfl (rPk rfl rfl) ?_
              refine qv rfl (rMv rfl) ?_
              refine gB (e := 145) rfl (fun _ => ?_) (fun g145 => by cases g145)
              refine qv rfl (rMv rfl) ?_
              refine qv rfl (rPk rfl rfl) ?_
              refine qv rfl (rMv rfl) ?_
              refine gB (e := 148) rfl (fun _ => ?_) (fun g148 => by cases g148)
              refine qv rfl (rMv rfl) ?_
              refine qv rfl (rFa fA42_2 rfl) ?_
              refine qv rfl (rLdN t19 rfl rfl) ?_
              refine qv rfl (rBin rfl rfl bEqS) ?_
              refine gV (u := .bool true) 152 rfl (by simp) ?_
              refine qv rfl (rPk rfl rfl) ?_
              refine qv rfl (rMv rfl) ?_
              refine gB (e := 154) rfl (fun _ => ?_) (fun g154 => by cases g154)
              refine qv rfl (rLdA tA35 rfl rfl) ?_
              refine qv rfl (rFa fA51_0 rfl) ?_
              refine qv rfl (rLdA tA35 rfl rfl) ?_
              refine qv rfl (rBin rfl rfl (bEq35 st st)) ?_
              refine gV (u := .bool true) 158 rfl (by simp) ?_
              refine qv rfl (rPk rfl rfl) ?_
              refine qv rfl (rMv rfl) ?_
              refine gB (e := 160) rfl (fun _ => ?_) (fun g160 => by cases g160)
              refine qv rfl (rMv rfl) ?_
              refine qv rfl (rFa fA42_3 rfl) ?_
              refine qv rfl (rLdN t14 rfl rfl) ?_
              refine qv rfl (rNot rfl) ?_
              refine qv rfl (rBin rfl rfl (bEqB Try.underlying4)) ?_
              refine gV (u := .bool true) 165 rfl (by simp) ?_
              refine qv rfl (rPk rfl rfl) ?_
              refine qv rfl (rMv rfl) ?_
              refine gB (e := 167) rfl (fun _ => ?_) (fun g167 => by cases g167)
              refine qv rfl (rMv rfl) ?_
              refine qv rfl (rNot rfl) ?_
              refine qv rfl (rPk rfl rfl) ?_
              refine qv rfl (rMv rfl) ?_
              refine gB (e := 171) rfl (fun _ => ?_) (fun g171 => by cases g171)
              refine qv rfl (rMv rfl) ?_
              refine qv rfl (rFa fA51_0 rfl) ?_
              refine qv rfl (rFa fA35_1 rfl) ?_
              refine qv rfl (rLdN t13 rfl rfl) ?_
              refine qv rfl (rFa fA51_0 rfl) ?_
              refine qv rfl (rLdA tA35 rfl rfl) ?_
              refine pf (R' := Hd) rfl eN28 (c28 s _ Hd hsHd) ?_
              refine pf rfl eN33 (c33 (apS Vec.zero st) st.dc) ?_
              refine pf rfl eN31 (c31 st) ?_
              refine qv rfl (rBin rfl rfl bEq) ?_
              refine gV (u := .bool true) 181 rfl (by rw [waits_at hst2 hst4]; simp) ?_
              refine qv rfl (rPk rfl rfl) ?_
              refine qv rfl (rMv rfl) ?_
              refine gB (e := 183) rfl (fun _ => ?_) (fun g183 => by cases g183)
              refine qv rfl (rMv rfl) ?_
              refine qv rfl (rMv rfl) ?_
              refine qv rfl (rMv rfl) ?_
              refine qv rfl (rMin2 rfl rfl) ?_
              refine qv rfl (rBin rfl rfl (bSubI (by omega))) ?_
              refine pf (R' := Hd) rfl eN26 (c26 s _ Hd hsHd) ?_
              refine qv rfl (rBin rfl rfl bEq) ?_
              refine gV (u := .bool true) 190 rfl (congrArg Value.bool (decide_eq_true (by rw [List.length_replicate]; omega))) ?_
              refine qv rfl (rPk rfl rfl) ?_
              refine qv rfl (rMv rfl) ?_
              refine gB (e := 192) rfl (fun _ => ?_) (fun g192 => by cases g192)
              refine qv rfl (rMv rfl) ?_
              refine qv rfl (rFa fA51_1 rfl) ?_
              refine qv rfl (rLdN t149 rfl rfl) ?_
              refine qv rfl (rLen uS49 rfl) ?_
              refine pc (R' := []) (L1 := Hd) rfl eN29 (c29 s _ Hd hsHd (hsg.sum (by omega))) (fun u He hv => ?_)
              obtain ⟨n1, rfl, hn1', hsHe⟩ := hv
              obtain rfl := hn1'.uniq (waits_total hst1 hwn)
              refine qv rfl (rBin rfl rfl bEq) ?_
              refine gV (u := .bool true) 198 rfl (by simp) ?_
              refine qv rfl (rPk rfl rfl) ?_
              refine qv rfl (rAs rfl) ?_
              refine gs_nil ?_
              refine gKeep [6, 7, 8, 9, 11, 12, 13] rfl ?_
              refine gRet ?_
              refine gEnd1 Try.results4 (resT rfl) ⟨?_, rfl⟩
              rfl
            · refine pm rfl (mAlloc zC35) (fun b24 => ?_)
              refine pc (R' := []) (L1 := Hc) rfl eN22 (c22 s _ Hc hsHc w.bucket w.key (st.v.set' st.dc (IntKind.u64.wrap (st.n - 1))) (fun k => Nat.le_trans (hsg.g.len k) (by omega))) (fun u Hd hv => ?_)
              rw [waits_below hst1 hwn hwi ⟨hst2, hst3⟩ hst4] at hv
              obtain ⟨rfl, hsHd⟩ := hv
              refine qv rfl (rMv rfl) ?_
              refine qv rfl (rEx rfl rfl) ?_
              refine qv rfl (rEx rfl rfl) ?_
              refine qv rfl (rEx rfl rfl) ?_
              refine qv rfl (rAs rfl) ?_
              refine psT rfl (tSt tA35.2 rfl rfl rfl rfl rfl rfl rfl) ?_
              refine qv rfl (rAs rfl) ?_
              refine gs_nil ?_
              refine gKeep [7, 8, 9, 11, 12, 13, 14, 17, 18, 19, 20, 21, 22, 25] rfl ?_
              refine gSeq ?_
              refine gSeq ?_
              refine gText (σ := wk [(0, .p), (1, .p)]) rfl ?_
              refine pv rfl (rMv rfl) ?_
              refine pv rfl (rBin rfl rfl bEq) ?_
              refine gs_nil ?_
              refine gCondF rfl (by simp; omega) ?_
              refine gSkip ?_
              refine gSeq ?_
              refine gD [b18, b14, b21, b11] (wk [(0, .q), (1, .q), (2, .q), (3, .q), (4, .q), (5, .q), (6, .q), (7, .p), (8, .q), (9, .q), (10, .q), (11, .q), (12, .q), (13, .q), (14, .q), (15, .q), (16, .q), (17, .q), (18, .q), (19, .q), (20, .q), (21, .q), (22, .q), (23, .q), (24, .q), (25, .q), (26, .q), (27, .q), (28, .q), (29, .q), (30, .q), (31, .q), (32, .q), (33, .q), (34, .q), (35, .q), (36, .q), (37, .q), (39, .q), (40, .q), (41, .q), (43, .q), (44, .q), (38, .p), (42, .p), (45, .p), (46, .q), (47, .q), (48, .q), (49, .q), (51, .q), (52, .q), (53, .q), (54, .q), (50, .p), (55, .q), (56, .q), (57, .q), (58, .q), (60, .q), (61, .q), (62, .q), (59, .p), (63, .q), (64, .q), (65, .q)]) fol (by kernel_rfl) rfl (by kernel_rfl) ?_
              refine qv rfl (rMv rfl) ?_
              refine qv rfl (rMv rfl) ?_
              refine gB (e := 136) rfl (fun _ => ?_) (fun g136 => by cases g136)
              refine qv rfl (rMv rfl) ?_
              refine qv rfl (rNot rfl) ?_
              refine qv rfl (rPk rfl rfl) ?_
              refine qv rfl (rMv rfl) ?_
              refine gB (e := 140) rfl (fun _ => ?_) (fun g140 => by cases g140)
              refine qv rfl (rLdA tA33 rfl rfl) ?_
              refine pf rfl eN32 (c32 Vec.zero) ?_
              refine qv rfl (rBin rfl rfl bEq) ?_
              refine gV (u := .bool true) 143 rfl (congrArg Value.bool (by decide)) ?_
              refine qv rfl (rPk rfl rfl) ?_
              refine qv rfl (rMv rfl) ?_
              refine gB (e := 145) rfl (fun _ => ?_) (fun g145 => by cases g145)
              refine qv rfl (rMv rfl) ?_
              refine qv rfl (rPk rfl rfl) ?_
              refine qv rfl (rMv rfl) ?_
              refine gB (e := 148) rfl (fun _ => ?_) (fun g148 => by cases g148)
              refine qv rfl (rMv rfl) ?_
              refine qv rfl (rFa fA42_2 rfl) ?_
              refine qv rfl (rLdN t19 rfl rfl) ?_
              refine qv rfl (rBin rfl rfl bEqS) ?_
              refine gV (u := .bool true) 152 rfl (by simp) ?_
              refine qv rfl (rPk rfl rfl) ?_
              refine qv rfl (rMv rfl) ?_
              refine gB (e := 154) rfl (fun _ => ?_) (fun g154 => by cases g154)
              refine qv rfl (rLdA tA35 rfl rfl) ?_
              refine qv rfl (rFa fA51_0 rfl) ?_
              refine qv rfl (rLdA tA35 rfl rfl) ?_
              refine qv rfl (rBin rfl rfl (bEq35 st st)) ?_
              refine gV (u := .bool true) 158 rfl (by simp) ?_
              refine qv rfl (rPk rfl rfl) ?_
              refine qv rfl (rMv rfl) ?_
              refine gB (e := 160) rfl (fun _ => ?_) (fun g160 => by cases g160)
              refine qv rfl (rMv rfl) ?_
              refine qv rfl (rFa fA42_3 rfl) ?_
              refine qv rfl (rLdN t14 rfl rfl) ?_
              refine qv rfl (rNot rfl) ?_
              refine qv rfl (rBin rfl rfl (bEqB Try.underlying4)) ?_
              refine gV (u := .bool true) 165 rfl (by simp) ?_
              refine qv rfl (rPk rfl rfl) ?_
              refine qv rfl (rMv rfl) ?_
              refine gB (e := 167) rfl (fun _ => ?_) (fun g167 => by cases g167)
              refine qv rfl (rMv rfl) ?_
              refine qv rfl (rNot rfl) ?_
              refine qv rfl (rPk rfl rfl) ?_
              refine qv rfl (rMv rfl) ?_
              refine gB (e := 171) rfl (fun _ => ?_) (fun g171 => by cases g171)
              refine qv rfl (rMv rfl) ?_
              refine qv rfl (rFa fA51_0 rfl) ?_
              refine qv rfl (rFa fA35_1 rfl) ?_
              refine qv rfl (rLdN t13 rfl rfl) ?_
              refine qv rfl (rFa fA51_0 rfl) ?_
              refine qv rfl (rLdA tA35 rfl rfl) ?_
              refine pf (R' := Hd) rfl eN28 (c28 s _ Hd hsHd) ?_
              refine pf rfl eN33 (c33 (apS Vec.zero st) st.dc) ?_
              refine pf rfl eN31 (c31 st) ?_
              refine qv rfl (rBin rfl rfl bEq) ?_
              refine gV (u := .bool true) 181 rfl (by rw [waits_at hst2 hst4]; simp) ?_
              refine qv rfl (rPk rfl rfl) ?_
              refine qv rfl (rMv rfl) ?_
              refine gB (e := 183) rfl (fun _ => ?_) (fun g183 => by cases g183)
              refine qv rfl (rMv rfl) ?_
              refine qv rfl (rMv rfl) ?_
              refine qv rfl (rMv rfl) ?_
              refine qv rfl (rMin2 rfl rfl) ?_
              refine qv rfl (rBin rfl rfl (bSubI (by omega))) ?_
              refine pf (R' := Hd) rfl eN26 (c26 s _ Hd hsHd) ?_
              refine qv rfl (rBin rfl rfl bEq) ?_
              refine gV (u := .bool true) 190 rfl (congrArg Value.bool (decide_eq_true (by rw [List.length_replicate]; omega))) ?_
              refine qv rfl (rPk rfl rfl) ?_
              refine qv rfl (rMv rfl) ?_
              refine gB (e := 192) rfl (fun _ => ?_) (fun g192 => by cases g192)
              refine qv rfl (rMv rfl) ?_
              refine qv rfl (rFa fA51_1 rfl) ?_
              refine qv rfl (rLdN t149 rfl rfl) ?_
              refine qv rfl (rLen uS49 rfl) ?_
              refine pc (R' := []) (L1 := Hd) rfl eN29 (c29 s _ Hd hsHd (hsg.sum (by omega))) (fun u He hv => ?_)
              obtain ⟨n1, rfl, hn1', hsHe⟩ := hv
              obtain rfl := hn1'.uniq (waits_total hst1 hwn)
              refine qv rfl (rBin rfl rfl bEq) ?_
              refine gV (u := .bool true) 198 rfl (by simp) ?_
              refine qv rfl (rPk rfl rfl) ?_
              refine qv rfl (rAs rfl) ?_
              refine gs_nil ?_
              refine gKeep [6, 7, 8, 9, 11, 12, 13] rfl ?_
              refine gRet ?_
              refine gEnd1 Try.results4 (resT rfl) ⟨?_, rfl⟩
              rfl
          · refine pm rfl (mAlloc zC35) (fun b24 => ?_)
            refine pf rfl eN30 (c30 st.v st.dc (IntKind.u64.wrap (st.n - 1))) ?_
            refine pc (R' := []) (L1 := Hc) rfl eN22 (c22 s _ Hc hsHc w.bucket w.key (st.v.set' st.dc (IntKind.u64.wrap (st.n - 1))) (fun k => Nat.le_trans (hsg.g.len k) (by omega))) (fun u Hd hv => ?_)
            rw [waits_below hst1 hwn hwi ⟨hst2, hst3⟩ hst4] at hv
            obtain ⟨rfl, hsHd⟩ := hv
            refine qv rfl (rMv rfl) ?_
            refine qv rfl (rEx rfl rfl) ?_
            refine qv rfl (rEx rfl rfl) ?_
            refine qv rfl (rEx rfl rfl) ?_
            refine qv rfl (rAs rfl) ?_
            refine psT rfl (tSt tA35.2 rfl rfl rfl rfl rfl rfl rfl) ?_
            refine qv rfl (rAs rfl) ?_
            refine gs_nil ?_
            refine gKeep [7, 8, 9, 11, 12, 13, 14, 17, 18, 19, 20, 21, 22, 25] rfl ?_
            refine gSeq ?_
            refine gSeq ?_
            refine gText (σ := wk [(0, .p), (1, .p)]) rfl ?_
            refine pv rfl (rMv rfl) ?_
            refine pv rfl (rBin rfl rfl bEq) ?_
            refine gs_nil ?_
            refine gCondF rfl (by simp; omega) ?_
            refine gSkip ?_
            refine gSeq ?_
            refine gD [b18, b14, b21, b11] (wk [(0, .q), (1, .q), (2, .q), (3, .q), (4, .q), (5, .q), (6, .q), (7, .p), (8, .q), (9, .q), (10, .q), (11, .q), (12, .q), (13, .q), (14, .q), (15, .q), (16, .q), (17, .q), (18, .q), (19, .q), (20, .q), (21, .q), (22, .q), (23, .q), (24, .q), (25, .q), (26, .q), (27, .q), (28, .q), (29, .q), (30, .q), (31, .q), (32, .q), (33, .q), (34, .q), (35, .q), (36, .q), (37, .q), (39, .q), (40, .q), (41, .q), (43, .q), (44, .q), (38, .p), (42, .p), (45, .p), (46, .q), (47, .q), (48, .q), (49, .q), (51, .q), (52, .q), (53, .q), (54, .q), (50, .p), (55, .q), (56, .q), (57, .q), (58, .q), (60, .q), (61, .q), (62, .q), (59, .p), (63, .q), (64, .q), (65, .q)]) fol (by kernel_rfl) rfl (by kernel_rfl) ?_
            refine qv rfl (rMv rfl) ?_
            refine qv rfl (rMv rfl) ?_
            refine gB (e := 136) rfl (fun _ => ?_) (fun g136 => by cases g136)
            refine qv rfl (rMv rfl) ?_
            refine qv rfl (rNot rfl) ?_
            refine qv rfl (rPk rfl rfl) ?_
            refine qv rfl (rMv rfl) ?_
            refine gB (e := 140) rfl (fun _ => ?_) (fun g140 => by cases g140)
            refine qv rfl (rLdA tA33 rfl rfl) ?_
            refine pf rfl eN32 (c32 Vec.zero) ?_
            refine qv rfl (rBin rfl rfl bEq) ?_
            refine gV (u := .bool true) 143 rfl (congrArg Value.bool (by decide)) ?_
            refine qv rfl (rPk rfl rfl) ?_
            refine qv rfl (rMv rfl) ?_
            refine gB (e := 145) rfl (fun _ => ?_) (fun g145 => by cases g145)
            refine qv rfl (rMv rfl) ?_
            refine qv rfl (rPk rfl rfl) ?_
            refine qv rfl (rMv rfl) ?_
            refine gB (e := 148) rfl (fun _ => ?_) (fun g148 => by cases g148)
            refine qv rfl (rMv rfl) ?_
            refine qv rfl (rFa fA42_2 rfl) ?_
            refine qv rfl (rLdN t19 rfl rfl) ?_
            refine qv rfl (rBin rfl rfl bEqS) ?_
            refine gV (u := .bool true) 152 rfl (by simp) ?_
            refine qv rfl (rPk rfl rfl) ?_
            refine qv rfl (rMv rfl) ?_
            refine gB (e := 154) rfl (fun _ => ?_) (fun g154 => by cases g154)
            refine qv rfl (rLdA tA35 rfl rfl) ?_
            refine qv rfl (rFa fA51_0 rfl) ?_
            refine qv rfl (rLdA tA35 rfl rfl) ?_
            refine qv rfl (rBin rfl rfl (bEq35 st st)) ?_
            refine gV (u := .bool true) 158 rfl (by simp) ?_
            refine qv rfl (rPk rfl rfl) ?_
            refine qv rfl (rMv rfl) ?_
            refine gB (e := 160) rfl (fun _ => ?_) (fun g160 => by cases g160)
            refine qv rfl (rMv rfl) ?_
            refine qv rfl (rFa fA42_3 rfl) ?_
            refine qv rfl (rLdN t14 rfl rfl) ?_
            refine qv rfl (rNot rfl) ?_
            refine qv rfl (rBin rfl rfl (bEqB Try.underlying4)) ?_
            refine gV (u := .bool true) 165 rfl (by simp) ?_
            refine qv rfl (rPk rfl rfl) ?_
            refine qv rfl (rMv rfl) ?_
            refine gB (e := 167) rfl (fun _ => ?_) (fun g167 => by cases g167)
            refine qv rfl (rMv rfl) ?_
            refine qv rfl (rNot rfl) ?_
            refine qv rfl (rPk rfl rfl) ?_
            refine qv rfl (rMv rfl) ?_
            refine gB (e := 171) rfl (fun _ => ?_) (fun g171 => by cases g171)
            refine qv rfl (rMv rfl) ?_
            refine qv rfl (rFa fA51_0 rfl) ?_
            refine qv rfl (rFa fA35_1 rfl) ?_
            refine qv rfl (rLdN t13 rfl rfl) ?_
            refine qv rfl (rFa fA51_0 rfl) ?_
            refine qv rfl (rLdA tA35 rfl rfl) ?_
            refine pf (R' := Hd) rfl eN28 (c28 s _ Hd hsHd) ?_
            refine pf rfl eN33 (c33 (apS Vec.zero st) st.dc) ?_
            refine pf rfl eN31 (c31 st) ?_
            refine qv rfl (rBin rfl rfl bEq) ?_
            refine gV (u := .bool true) 181 rfl (by rw [waits_at hst2 hst4]; simp) ?_
            refine qv rfl (rPk rfl rfl) ?_
            refine qv rfl (rMv rfl) ?_
            refine gB (e := 183) rfl (fun _ => ?_) (fun g183 => by cases g183)
            refine qv rfl (rMv rfl) ?_
            refine qv rfl (rMv rfl) ?_
            refine qv rfl (rMv rfl) ?_
            refine qv rfl (rMin2 rfl rfl) ?_
            refine qv rfl (rBin rfl rfl (bSubI (by omega))) ?_
            refine pf (R' := Hd) rfl eN26 (c26 s _ Hd hsHd) ?_
            refine qv rfl (rBin rfl rfl bEq) ?_
            refine gV (u := .bool true) 190 rfl (congrArg Value.bool (decide_eq_true (by rw [List.length_replicate]; omega))) ?_
            refine qv rfl (rPk rfl rfl) ?_
            refine qv rfl (rMv rfl) ?_
            refine gB (e := 192) rfl (fun _ => ?_) (fun g192 => by cases g192)
            refine qv rfl (rMv rfl) ?_
            refine qv rfl (rFa fA51_1 rfl) ?_
            refine qv rfl (rLdN t149 rfl rfl) ?_
            refine qv rfl (rLen uS49 rfl) ?_
            refine pc (R' := []) (L1 := Hd) rfl eN29 (c29 s _ Hd hsHd (hsg.sum (by omega))) (fun u He hv => ?_)
            obtain ⟨n1, rfl, hn1', hsHe⟩ := hv
            obtain rfl := hn1'.uniq (waits_total hst1 hwn)
            refine qv rfl (rBin rfl rfl bEq) ?_
            refine gV (u := .bool true) 198 rfl (by simp) ?_
            refine qv rfl (rPk rfl rfl) ?_
            refine qv rfl (rAs rfl) ?_
            refine gs_nil ?_
            refine gKeep [6, 7, 8, 9, 11, 12, 13] rfl ?_
            refine gRet ?_
            refine gEnd1 Try.results4 (resT rfl) ⟨?_, rfl⟩
            rfl
        · refine pm rfl (mAlloc zC35) (fun b24 => ?_)
          refine pf rfl eN31 (c31 st) ?_
          refine qv rfl (rBin rfl rfl bSub) ?_
          refine pf rfl eN30 (c30 st.v st.dc (IntKind.u64.wrap (st.n - 1))) ?_
          refine pc (R' := []) (L1 := Hc) rfl eN22 (c22 s _ Hc hsHc w.bucket w.key (st.v.set' st.dc (IntKind.u64.wrap (st.n - 1))) (fun k => Nat.le_trans (hsg.g.len k) (by omega))) (fun u Hd hv => ?_)
          rw [waits_below hst1 hwn hwi ⟨hst2, hst3⟩ hst4] at hv
          obtain ⟨rfl, hsHd⟩ := hv
          refine qv rfl (rMv rfl) ?_
          refine qv rfl (rEx rfl rfl) ?_
          refine qv rfl (rEx rfl rfl) ?_
          refine qv rfl (rEx rfl rfl) ?_
          refine qv rfl (rAs rfl) ?_
          refine psT rfl (tSt tA35.2 rfl rfl rfl rfl rfl rfl rfl) ?_
          refine qv rfl (rAs rfl) ?_
          refine gs_nil ?_
          refine gKeep [7, 8, 9, 11, 12, 13, 14, 17, 18, 19, 20, 21, 22, 25] rfl ?_
          refine gSeq ?_
          refine gSeq ?_
          refine gText (σ := wk [(0, .p), (1, .p)]) rfl ?_
          refine pv rfl (rMv rfl) ?_
          refine pv rfl (rBin rfl rfl bEq) ?_
          refine gs_nil ?_
          refine gCondF rfl (by simp; omega) ?_
          refine gSkip ?_
          refine gSeq ?_
          refine gD [b18, b14, b21, b11] (wk [(0, .q), (1, .q), (2, .q), (3, .q), (4, .q), (5, .q), (6, .q), (7, .p), (8, .q), (9, .q), (10, .q), (11, .q), (12, .q), (13, .q), (14, .q), (15, .q), (16, .q), (17, .q), (18, .q), (19, .q), (20, .q), (21, .q), (22, .q), (23, .q), (24, .q), (25, .q), (26, .q), (27, .q), (28, .q), (29, .q), (30, .q), (31, .q), (32, .q), (33, .q), (34, .q), (35, .q), (36, .q), (37, .q), (39, .q), (40, .q), (41, .q), (43, .q), (44, .q), (38, .p), (42, .p), (45, .p), (46, .q), (47, .q), (48, .q), (49, .q), (51, .q), (52, .q), (53, .q), (54, .q), (50, .p), (55, .q), (56, .q), (57, .q), (58, .q), (60, .q), (61, .q), (62, .q), (59, .p), (63, .q), (64, .q), (65, .q)]) fol (by kernel_rfl) rfl (by kernel_rfl) ?_
          refine qv rfl (rMv rfl) ?_
          refine qv rfl (rMv rfl) ?_
          refine gB (e := 136) rfl (fun _ => ?_) (fun g136 => by cases g136)
          refine qv rfl (rMv rfl) ?_
          refine qv rfl (rNot rfl) ?_
          refine qv rfl (rPk rfl rfl) ?_
          refine qv rfl (rMv rfl) ?_
          refine gB (e := 140) rfl (fun _ => ?_) (fun g140 => by cases g140)
          refine qv rfl (rLdA tA33 rfl rfl) ?_
          refine pf rfl eN32 (c32 Vec.zero) ?_
          refine qv rfl (rBin rfl rfl bEq) ?_
          refine gV (u := .bool true) 143 rfl (congrArg Value.bool (by decide)) ?_
          refine qv rfl (rPk rfl rfl) ?_
          refine qv rfl (rMv rfl) ?_
          refine gB (e := 145) rfl (fun _ => ?_) (fun g145 => by cases g145)
          refine qv rfl (rMv rfl) ?_
          refine qv rfl (rPk rfl rfl) ?_
          refine qv rfl (rMv rfl) ?_
          refine gB (e := 148) rfl (fun _ => ?_) (fun g148 => by cases g148)
          refine qv rfl (rMv rfl) ?_
          refine qv rfl (rFa fA42_2 rfl) ?_
          refine qv rfl (rLdN t19 rfl rfl) ?_
          refine qv rfl (rBin rfl rfl bEqS) ?_
          refine gV (u := .bool true) 152 rfl (by simp) ?_
          refine qv rfl (rPk rfl rfl) ?_
          refine qv rfl (rMv rfl) ?_
          refine gB (e := 154) rfl (fun _ => ?_) (fun g154 => by cases g154)
          refine qv rfl (rLdA tA35 rfl rfl) ?_
          refine qv rfl (rFa fA51_0 rfl) ?_
          refine qv rfl (rLdA tA35 rfl rfl) ?_
          refine qv rfl (rBin rfl rfl (bEq35 st st)) ?_
          refine gV (u := .bool true) 158 rfl (by simp) ?_
          refine qv rfl (rPk rfl rfl) ?_
          refine qv rfl (rMv rfl) ?_
          refine gB (e := 160) rfl (fun _ => ?_) (fun g160 => by cases g160)
          refine qv rfl (rMv rfl) ?_
          refine qv rfl (rFa fA42_3 rfl) ?_
          refine qv rfl (rLdN t14 rfl rfl) ?_
          refine qv rfl (rNot rfl) ?_
          refine qv rfl (rBin rfl rfl (bEqB Try.underlying4)) ?_
          refine gV (u := .bool true) 165 rfl (by simp) ?_
          refine qv rfl (rPk rfl rfl) ?_
          refine qv rfl (rMv rfl) ?_
          refine gB (e := 167) rfl (fun _ => ?_) (fun g167 => by cases g167)
          refine qv rfl (rMv rfl) ?_
          refine qv rfl (rNot rfl) ?_
          refine qv rfl (rPk rfl rfl) ?_
          refine qv rfl (rMv rfl) ?_
          refine gB (e := 171) rfl (fun _ => ?_) (fun g171 => by cases g171)
          refine qv rfl (rMv rfl) ?_
          refine qv rfl (rFa fA51_0 rfl) ?_
          refine qv rfl (rFa fA35_1 rfl) ?_
          refine qv rfl (rLdN t13 rfl rfl) ?_
          refine qv rfl (rFa fA51_0 rfl) ?_
          refine qv rfl (rLdA tA35 rfl rfl) ?_
          refine pf (R' := Hd) rfl eN28 (c28 s _ Hd hsHd) ?_
          refine pf rfl eN33 (c33 (apS Vec.zero st) st.dc) ?_
          refine pf rfl eN31 (c31 st) ?_
          refine qv rfl (rBin rfl rfl bEq) ?_
          refine gV (u := .bool true) 181 rfl (by rw [waits_at hst2 hst4]; simp) ?_
          refine qv rfl (rPk rfl rfl) ?_
          refine qv rfl (rMv rfl) ?_
          refine gB (e := 183) rfl (fun _ => ?_) (fun g183 => by cases g183)
          refine qv rfl (rMv rfl) ?_
          refine qv rfl (rMv rfl) ?_
          refine qv rfl (rMv rfl) ?_
          refine qv rfl (rMin2 rfl rfl) ?_
          refine qv rfl (rBin rfl rfl (bSubI (by omega))) ?_
          refine pf (R' := Hd) rfl eN26 (c26 s _ Hd hsHd) ?_
          refine qv rfl (rBin rfl rfl bEq) ?_
          refine gV (u := .bool true) 190 rfl (congrArg Value.bool (decide_eq_true (by rw [List.length_replicate]; omega))) ?_
          refine qv rfl (rPk rfl rfl) ?_
          refine qv rfl (rMv rfl) ?_
          refine gB (e := 192) rfl (fun _ => ?_) (fun g192 => by cases g192)
          refine qv rfl (rMv rfl) ?_
          refine qv rfl (rFa fA51_1 rfl) ?_
          refine qv rfl (rLdN t149 rfl rfl) ?_
          refine qv rfl (rLen uS49 rfl) ?_
          refine pc (R' := []) (L1 := Hd) rfl eN29 (c29 s _ Hd hsHd (hsg.sum (by omega))) (fun u He hv => ?_)
          obtain ⟨n1, rfl, hn1', hsHe⟩ := hv
          obtain rfl := hn1'.uniq (waits_total hst1 hwn)
          refine qv rfl (rBin rfl rfl bEq) ?_
          refine gV (u := .bool true) 198 rfl (by simp) ?_
          refine qv rfl (rPk rfl rfl) ?_
          refine qv rfl (rAs rfl) ?_
          refine gs_nil ?_
          refine gKeep [6, 7, 8, 9, 11, 12, 13] rfl ?_
          refine gRet ?_
          refine gEnd1 Try.results4 (resT rfl) ⟨?_, rfl⟩
          rfl
end Go.Proofs.Yteeobhehfdifnaa
