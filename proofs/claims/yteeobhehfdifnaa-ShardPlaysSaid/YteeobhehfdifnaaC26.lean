/- A part of the proof that shardPlays of chapter 10 returns true at every room and every list of deeds, and leaves its arguments as they read; no condition. -/
import Derived.Test.YteeobhehfdifnaaC25
import Derived.Test.YteeobhehfdifnaaTBf
set_option linter.unusedVariables false
set_option linter.unusedSimpArgs false
set_option linter.unusedVariables false
set_option linter.unusedSimpArgs false
namespace Go.Proofs.Yteeobhehfdifnaa
open Go TB Go.Proofs
theorem tA48 : TA Try.prog 48 20 := ⟨fun w => by kernel_rfl, fun w => by kernel_rfl⟩
theorem eN10 : EN Try.prog 10 := fun args w => by kernel_rfl
theorem eN15 : EN Try.prog 15 := fun args w => by kernel_rfl
theorem eN17 : EN Try.prog 17 := fun args w => by kernel_rfl
theorem eN19 : EN Try.prog 19 := fun args w => by kernel_rfl
theorem eN20 : EN Try.prog 20 := fun args w => by kernel_rfl
theorem eN21 : EN Try.prog 21 := fun args w => by kernel_rfl
theorem eN23 : EN Try.prog 23 := fun args w => by kernel_rfl
theorem eN25 : EN Try.prog 25 := fun args w => by kernel_rfl
theorem fA48_0 : FA Try.prog 48 0 0 := fun b o w => by kernel_rfl
theorem fA48_1 : FA Try.prog 48 1 1 := fun b o w => by kernel_rfl
theorem fA48_2 : FA Try.prog 48 2 9 := fun b o w => by kernel_rfl
theorem fA48_3 : FA Try.prog 48 3 15 := fun b o w => by kernel_rfl
theorem iS22 : IS Try.prog 22 20 := ⟨_, Try.underlying22, fun w => by kernel_rfl⟩
theorem uS22 : ∃ e, Try.prog.underlying 22 = some (.slice e) := ⟨_, Try.underlying22⟩
theorem zC48 : ZC Try.prog 48 [.int .u8 0, .int .u64 0, .int .u64 0, .int .u64 0, .int .u64 0, .int .i64 0, .bool false, .slice none 0 0, .bool false, .string ⟨#[]⟩, .string ⟨#[]⟩, .string ⟨#[]⟩, .bool false, .bool false, .int .u8 0, .int .u64 0, .int .u64 0, .int .u64 0, .int .u64 0, .bool false] := fun w => ⟨.agg #[.int .u8 0, .int .u64 0, .int .u64 0, .int .u64 0, .int .u64 0, .int .i64 0, .bool false, .slice none 0 0, .bool false, .string ⟨#[]⟩, .string ⟨#[]⟩, .string ⟨#[]⟩, .bool false, .bool false, .int .u8 0, .int .u64 0, .int .u64 0, .int .u64 0, .int .u64 0, .bool false], by kernel_rfl, rfl⟩
theorem bNe61 (s t : Stamp) : BinR Try.prog .neq 61 (stampV s) (stampV t) (.bool (decide (s ≠ t))) := (by
  have := bNeOf (bEq61 s t) (by kernel_rfl)
  have e : decide (s ≠ t) = !decide (s = t) := by simp
  rw [e]; exact this)
theorem bNe57 (s t : Vec) : BinR Try.prog .neq 57 (vecV s) (vecV t) (.bool (decide (s ≠ t))) := (by
  have := bNeOf (bEq57 s t) (by kernel_rfl)
  have e : decide (s ≠ t) = !decide (s = t) := by simp
  rw [e]; exact this)
theorem bNe71 (s t : Write) : BinR Try.prog .neq 71 (writeV s) (writeV t) (.bool (decide (s ≠ t))) := (by
  have := bNeOf (bEq71 s t) (by kernel_rfl)
  have e : decide (s ≠ t) = !decide (s = t) := by simp
  rw [e]; exact this)
theorem c23r (x : Nat) (ρ : RefS) (H : HL) (h : RefRep x ρ H) (hlen : ρ.l.length ≤ 1000000) (bk ky : ByteArray) (v : Vec) : Pf Try.prog 23 [.pointer (some ⟨x, 0, none⟩), .string bk, .string ky, vecV v] H (.tuple #[.string (refRd (refBest (refP (bk, ky) v false) ρ.l 0 none)).1, stampV (refRd (refBest (refP (bk, ky) v false) ρ.l 0 none)).2.1, .bool (refRd (refBest (refP (bk, ky) v false) ρ.l 0 none)).2.2]) := by
  obtain ⟨pW, capW, bs, pL, capL, HW, WH, LH, hp, hW, hW0, hQ, hrow⟩ := h
  obtain ⟨p2, cap2, he, hL⟩ := hrow.lies
  cases he
  exact Tr.permR hp (Tr.monoR (fun y hy => by
    rcases List.mem_cons.1 hy with rfl | hy
    · simp
    · simp [hy]) (c23 x ρ.room bs.length capW capL pW pL ρ.l ρ.ap LH hL hlen bk ky v))
theorem c25r (x : Nat) (ρ : RefS) (H : HL) (h : RefRep x ρ H) (hlen : ρ.l.length ≤ 1000000) (bk ky : ByteArray) : Pf Try.prog 25 [.pointer (some ⟨x, 0, none⟩), .string bk, .string ky] H (.tuple #[writeV (refLt (refBest (refP (bk, ky) Vec.zero true) ρ.l 0 none)).1, stampV (refLt (refBest (refP (bk, ky) Vec.zero true) ρ.l 0 none)).2.1, .bool (refLt (refBest (refP (bk, ky) Vec.zero true) ρ.l 0 none)).2.2]) := by
  obtain ⟨pW, capW, bs, pL, capL, HW, WH, LH, hp, hW, hW0, hQ, hrow⟩ := h
  obtain ⟨p2, cap2, he, hL⟩ := hrow.lies
  cases he
  exact Tr.permR hp (Tr.monoR (fun y hy => by
    rcases List.mem_cons.1 hy with rfl | hy
    · simp
    · simp [hy]) (c25 x ρ.room bs.length capW capL pW pL ρ.l ρ.ap LH hL hlen bk ky))

set_option maxRecDepth 4000 in
theorem c3 (room : Int) (near : Bool) (xs : List DeedA) (p : Option Addr) (cap0 : Nat) (R : HL) (hl : Lies R p (deedsL xs)) (hlen : xs.length ≤ 9223372036854775807) (hR : ∀ x ∈ xs, DeedR R x) : Pf Try.prog 3 [.int .i64 room, .bool near, .slice p xs.length cap0] R (.bool true) := by
  refine trEnter Try.func3 rfl Try.ntmps3 (l := [(0, _), (1, _), (2, _)]) rfl rfl (fun w0 => ?_)
  refine gSeq ?_
  refine gText (σ := wk [(0, .p)]) rfl ?_
  refine pv rfl (rAs rfl) ?_
  refine gs_nil ?_
  refine gSeq ?_
  refine gText (σ := wk [(0, .p), (1, .p)]) rfl ?_
  refine pf rfl eN8 c8 ?_
  refine pv rfl (rAs rfl) ?_
  refine gs_nil ?_
  refine gSeq ?_
  refine gSeq ?_
  refine gText (σ := wk [(0, .p), (1, .p)]) rfl ?_
  refine pv rfl (rMv rfl) ?_
  refine pv rfl (rNot rfl) ?_
  refine gs_nil ?_
  refine gCondF rfl rfl ?_
  refine gSkip ?_
  refine gCut (σ := Int) (fun r => ([(0, .int .i64 r), (2, .slice p xs.length cap0), (7, .bool true)], [])) (fun r => True) ?_ (fun r hs => ?_)
  · refine gSeq ?_
    refine gText (σ := wk [(0, .p)]) rfl ?_
    refine pv rfl (rMv rfl) ?_
    refine gs_nil ?_
    refine gKeep [0, 2, 6, 7, 32] rfl ?_
    refine gCond rfl (fun h1 => ?_) (fun h1 => ?_)
    · refine gText (σ := wk [(0, .p), (1, .p), (2, .p), (3, .p), (4, .p), (5, .p)]) rfl ?_
      refine pv rfl (rMv rfl) ?_
      refine pv rfl (bConv Try.underlying24 Try.underlying3 rfl) ?_
      refine pv rfl (rBin rfl rfl (bRem (by decide))) ?_
      refine pv rfl (bConv Try.underlying3 Try.underlying24 rfl) ?_
      refine pv rfl (rBin rfl rfl bAdd) ?_
      refine pv rfl (rAs rfl) ?_
      refine gs_nil ?_
      refine gKeep [0, 2, 6, 7] rfl ?_
      refine gInvK (playRoom room) [0, 2, 7] trivial rfl rfl
    · refine gSkip ?_
      refine gInvK room [0, 2, 7] trivial rfl rfl
  · refine gSeq ?_
    refine gText (σ := wk [(0, .p), (1, .p), (2, .p), (3, .p), (4, .p), (5, .p), (6, .p)]) rfl ?_
    refine pv rfl (rMv rfl) ?_
    refine pc (R' := []) rfl eN9 (c9 r) (fun u H1 hv => ?_)
    by_cases hroom : r < 1 ∨ r > 16
    · rw [if_pos hroom] at hv
      obtain ⟨rfl, rfl⟩ := hv
      refine pv rfl (rMv rfl) ?_
      refine pv rfl (rEx rfl rfl) ?_
      refine pv rfl (rEx rfl rfl) ?_
      refine pv rfl (rAs rfl) ?_
      refine pv rfl (rAs rfl) ?_
      refine gs_nil ?_
      refine gKeep [0, 2, 7, 8, 9] rfl ?_
      refine gSeq ?_
      refine gText (σ := wk [(0, .p), (1, .p), (2, .p)]) rfl ?_
      refine pv rfl (rMv rfl) ?_
      refine pc (R' := []) rfl eN10 (c10 r) (fun u H2 hv => ?_)
      rw [if_pos hroom] at hv
      obtain ⟨rfl, rfl⟩ := hv
      refine pv rfl (rAs rfl) ?_
      refine gs_nil ?_
      refine gSeq ?_
      refine gSeq ?_
      refine gText (σ := wk [(0, .p), (1, .p)]) rfl ?_
      refine pv rfl (rMv rfl) ?_
      refine pv rfl (rBin rfl rfl (bPtNil Try.underlying29)) ?_
      refine gs_nil ?_
      refine gKeep [2, 7, 8, 9, 10, 46] rfl ?_
      refine gCondT rfl (by decide) ?_
      refine gSeq ?_
      refine gText (σ := wk [(0, .p), (1, .p), (2, .p), (3, .p), (4, .p), (5, .p), (6, .p), (7, .p), (8, .p), (9, .p)]) rfl ?_
      refine pv rfl (rMv rfl) ?_
      refine pv rfl (rMv rfl) ?_
      refine gB (e := 48) rfl (fun _ => ?_) (fun g48 => by cases g48)
      refine pv rfl (rMv rfl) ?_
      refine pv rfl (rBin rfl rfl (bPtNil Try.underlying25)) ?_
      refine pv rfl (rPk rfl rfl) ?_
      refine pv rfl (rMv rfl) ?_
      refine gB (e := 52) rfl (fun _ => ?_) (fun g52 => by cases g52)
      refine pv rfl (rMv rfl) ?_
      refine pv rfl (rBin rfl rfl bEq) ?_
      refine pv rfl (rPk rfl rfl) ?_
      refine pv rfl (rAs rfl) ?_
      refine gs_nil ?_
      refine gKeep [2, 6, 7, 8, 9, 10] rfl ?_
      refine gRet ?_
      refine gEnd1 Try.results3 (resT rfl) ⟨?_, rfl⟩
      rfl
    · rw [if_neg hroom] at hv
      obtain ⟨s, rfl, hsH1⟩ := hv
      refine pv rfl (rMv rfl) ?_
      refine pv rfl (rEx rfl rfl) ?_
      refine pv rfl (rEx rfl rfl) ?_
      refine pv rfl (rAs rfl) ?_
      refine pv rfl (rAs rfl) ?_
      refine gs_nil ?_
      refine gKeep [0, 2, 7, 8, 9] rfl ?_
      refine gSeq ?_
      refine gText (σ := wk [(0, .p), (1, .p), (2, .p)]) rfl ?_
      refine pv rfl (rMv rfl) ?_
      refine pc (R' := []) rfl eN10 (c10 r) (fun u H2 hv => ?_)
      rw [if_neg hroom] at hv
      obtain ⟨x, rfl, hrH2⟩ := hv
      refine pv rfl (rAs rfl) ?_
      refine gs_nil ?_
      refine gSeq ?_
      refine gSeq ?_
      refine gText (σ := wk [(0, .p), (1, .p)]) rfl ?_
      refine pv rfl (rMv rfl) ?_
      refine pv rfl (rBin rfl rfl (bPtNil Try.underlying29)) ?_
      refine gs_nil ?_
      refine gKeep [2, 7, 8, 9, 10, 46] rfl ?_
      refine gCondF rfl rfl ?_
      refine gSkip ?_
      refine gSeq ?_
      refine gSeq ?_
      refine gText (σ := wk [(0, .p), (1, .p), (2, .p), (3, .p), (4, .p), (5, .p)]) rfl ?_
      refine pv rfl (rMv rfl) ?_
      refine pv rfl (rBin rfl rfl (bPtNil Try.underlying25)) ?_
      refine pv rfl (rMv rfl) ?_
      refine gB (e := 58) rfl (fun g58 => by cases g58) (fun _ => ?_)
      refine pv rfl (rMv rfl) ?_
      refine pv rfl (rBin rfl rfl bNe) ?_
      refine pv rfl (rPk rfl rfl) ?_
      refine gs_nil ?_
      refine gKeep [2, 7, 8, 10, 61] rfl ?_
      refine gCondF rfl (by decide) ?_
      refine gSkip ?_
      refine gSeq ?_
      refine gSeq ?_
      refine gText (σ := wk [(0, .p)]) rfl ?_
      refine pv rfl (rAs rfl) ?_
      refine gs_nil ?_
      refine gBlock ?_
      refine gLoop (σ := PlG) (fun z => ([(2, .slice p xs.length cap0), (7, .bool true), (8, .pointer (some ⟨s, 0, none⟩)), (10, .pointer (some ⟨x, 0, none⟩)), (11, .int .i64 (z.i : Nat))], z.H1 ++ z.H2)) (fun z => z.i ≤ xs.length ∧ z.i ≤ 50 ∧ ShRep T0 s z.σ z.H1 ∧ RefRep x z.ρ z.H2 ∧ Rel z.σ z.ρ ∧ SOK z.σ z.i z.i ∧ z.σ.room ≤ 16) (fun z => xs.length - z.i) ?_ (fun z hs => ?_)
      · refine gTo (H1 ++ H2) ?_
        refine gInvK (⟨0, ⟨r.toNat, [], fun _ => [], Vec.zero⟩, ⟨r.toNat, [], [], Vec.zero⟩, H1, H2⟩) [2, 7, 8, 10, 11] ⟨Nat.zero_le _, Nat.zero_le _, hsH1, hrH2, Rel.new _, SOK.new _, by show r.toNat ≤ 16; omega⟩ rfl rfl
      · obtain ⟨i, σ, ρ, H1, H2⟩ := z
        obtain ⟨hi, hi50, hsH, hrH, hrel, hok, hrm⟩ := hs
        simp only at hi hi50 hsH hrH hrel hok hrm ⊢
        refine gSeq ?_
        refine gSeq ?_
        refine gText (σ := wk [(0, .p), (1, .p), (2, .p), (3, .p), (4, .p), (5, .p), (6, .p), (7, .p)]) rfl ?_
        refine pv rfl (rMv rfl) ?_
        refine pv rfl (rMv rfl) ?_
        refine pv rfl (rLen uS22 rfl) ?_
        refine pv rfl (rBin rfl rfl bLt) ?_
        refine pv rfl (rMv rfl) ?_
        refine gB (e := 66) rfl (fun g66 => ?_) (fun g66 => ?_)
        · have hin : i < xs.length := by have := of_decide_eq_true g66; omega
          refine pv rfl (rMv rfl) ?_
          refine pv rfl (rBin rfl rfl bLt) ?_
          refine pv rfl (rPk rfl rfl) ?_
          refine gs_nil ?_
          refine gKeep [2, 7, 8, 10, 11, 69] rfl ?_
          refine gCondD rfl (fun h5 => ?_) (fun h5 => ?_)
          · obtain ⟨u, hx⟩ : ∃ u, xs[i]? = some u := ⟨_, List.getElem?_eq_getElem hin⟩
            have huR := hR u (List.mem_of_getElem? hx)
            obtain ⟨b, o, cl, E, fr, rfl, hm, hv⟩ := hl.at deedL_len hx (by decide)
            have hwl := dealWs_len u.x.d
            refine gSkip ?_
            refine gSeq ?_
            refine gBlock ?_
            refine gSeq ?_
            refine gText (σ := wk [(0, .p), (1, .p), (2, .p), (3, .p), (4, .p), (5, .p)]) rfl ?_
            refine pv rfl (rMv rfl) ?_
            refine pv rfl (rMv rfl) ?_
            refine pv rfl (rIs iS22 rfl rfl ⟨by omega, by omega⟩) ?_
            refine pv rfl (rLdAm tA48 rfl (List.mem_append_right _ hm) (vs := deedL u) rfl (fun j v h => hv j v h)) ?_
            refine pm rfl (mAlloc zC48) (fun b12 => ?_)
            refine ps0 rfl (tSt tA48.2 rfl rfl rfl rfl rfl rfl rfl) ?_
            refine gs_nil ?_
            refine gKeep [2, 7, 8, 10, 11, 12] rfl ?_
            refine gSeq ?_
            refine gText (σ := wk [(0, .p), (1, .p), (2, .p), (3, .p), (4, .p)]) rfl ?_
            refine pv rfl (rFa fA48_1 rfl) ?_
            refine pv rfl (rLdA tA40 rfl rfl) ?_
            refine pc (R' := R) rfl eN11 (c11 u.x.d u.x.p u.x.cap R huR.x.src huR.x.len) (fun u2 Lr hu => ?_)
            obtain ⟨q, cap, rfl, hr⟩ := hu
            obtain ⟨st, hst⟩ : ∃ st, dealSt u.x.d = st := ⟨_, rfl⟩
            obtain ⟨ws, hws⟩ : ∃ ws, dealWs u.x.d = ws := ⟨_, rfl⟩
            rw [hst, hws]
            rw [hws] at hr hwl
            obtain ⟨q2, cap2, he, hsr⟩ := hr.src
            cases he
            have hlr := hsr.lies (writesL_len ws)
            refine pm rfl (mAlloc zC51) (fun b13 => ?_)
            refine ps0 rfl (tSt tA51.2 rfl rfl rfl rfl rfl rfl rfl) ?_
            refine gs_nil ?_
            refine gSeq ?_
            refine gText (σ := wk [(0, .p), (1, .p), (2, .p), (3, .p), (4, .p)]) rfl ?_
            refine pv rfl (rFa fA48_3 rfl) ?_
            refine pv rfl (rLdA tA46 rfl rfl) ?_
            obtain ⟨hh, hhe⟩ : ∃ hh, vecOf u.va = hh := ⟨_, rfl⟩
            refine pf rfl eN12 (hhe ▸ c12 u.va) ?_
            refine pm rfl (mAlloc zC33) (fun b14 => ?_)
            refine ps0 rfl (tSt tA33.2 rfl rfl rfl rfl rfl rfl rfl) ?_
            refine gs_nil ?_
            refine gKeep [2, 7, 8, 10, 11, 12, 13, 14] rfl ?_
            refine gSeq ?_
            refine gText (σ := wk [(0, .p), (1, .p), (2, .p), (3, .p), (4, .p)]) rfl ?_
            refine pv rfl (rFa fA48_2 rfl) ?_
            refine pv rfl (rLdA tA44 rfl rfl) ?_
            obtain ⟨w, hwe⟩ : ∃ w, writeOf u.pd = w := ⟨_, rfl⟩
            refine pf rfl eN13 (hwe ▸ c13 u.pd) ?_
            refine pm rfl (mAlloc zC42) (fun b15 => ?_)
            refine ps0 rfl (tSt tA42.2 rfl rfl rfl rfl rfl rfl rfl) ?_
            refine gs_nil ?_
            refine gSeq ?_
            refine gText (σ := wk [(0, .p)]) rfl ?_
            refine pv rfl (rAs rfl) ?_
            refine gs_nil ?_
            refine gCut (σ := PlG) (fun z => ([(2, .slice (some ⟨b, o, none⟩) xs.length cap0), (7, .bool true), (8, .pointer (some ⟨s, 0, none⟩)), (10, .pointer (some ⟨x, 0, none⟩)), (11, .int .i64 (i : Nat)), (14, .pointer (some ⟨b14, 0, none⟩)), (15, .pointer (some ⟨b15, 0, none⟩)), (16, .bool true)], (b15, Obj.cells (List.toArray (writeL w)) 42) :: (b14, Obj.cells (List.toArray (vecL hh)) 33) :: (z.H1 ++ z.H2))) (fun z => ShRep T0 s z.σ z.H1 ∧ RefRep x z.ρ z.H2 ∧ Rel z.σ z.ρ ∧ SOK z.σ (i + 1) (i + 1) ∧ z.σ.room ≤ 16) ?_ (fun z hs => ?_)
            · refine gSeq ?_
              refine gText (σ := wk [(0, .p), (1, .p), (2, .p)]) rfl ?_
              refine pv rfl (rFa fA48_0 rfl) ?_
              refine pv rfl (rLdN t15 rfl rfl) ?_
              refine pv rfl (rBin rfl rfl (bRem (by decide))) ?_
              refine gs_nil ?_
              refine gKeep [2, 7, 8, 10, 11, 13, 14, 15, 16, 87] rfl ?_
              refine gBlock ?_
              refine gSeq ?_
              refine gSeq ?_
              refine gText (σ := wk [(0, .p), (1, .p)]) rfl ?_
              refine pv rfl (rBin rfl rfl bEq) ?_
              refine pv rfl (rAs rfl) ?_
              refine gs_nil ?_
              refine gCondD rfl (fun h6 => ?_) (fun h6 => ?_)
              · refine gSkip ?_
                refine gCondD rfl (fun h7 => ?_) (fun h7 => ?_)
                · refine gText (σ := wk [(0, .p), (1, .p), (2, .p), (3, .p), (4, .p), (5, .p)]) rfl ?_
                  refine pv rfl (rMv rfl) ?_
                  refine pc (R' := []) (L1 := H1) rfl eN14 (c14 s σ H1 hsH (hok.may (by omega))) (fun u1 H1s hu1 => ?_)
                  obtain ⟨rfl, hs1⟩ := hu1
                  refine pv rfl (rMv rfl) ?_
                  refine pc (R' := []) (L1 := H2) rfl eN15 (c15 x ρ H2 hrH (by have := hrel.len hok (by omega); omega) (fun t ht => by have := hok.ws t (by rw [hrel.q]; exact ht); omega)) (fun u2 H2s hu2 => ?_)
                  obtain ⟨rfl, hr1⟩ := hu2
                  refine pv rfl (rBin rfl rfl (bEqB Try.underlying4)) ?_
                  refine gV (u := .bool true) 111 rfl (by rw [hrel.q]; simp) ?_
                  refine pv rfl (rAs rfl) ?_
                  refine gs_nil ?_
                  refine gKeep [2, 7, 8, 10, 11, 14, 15, 16] rfl ?_
                  refine gDrop [(b13, Obj.cells (List.toArray (batL ⟨st, q, ws.length, cap⟩)) 51)] ?_
                  refine gDrop [(b12, Obj.cells (List.toArray (deedL u)) 48)] ?_
                  refine gDrop Lr ?_
                  refine gTo ((b15, Obj.cells (List.toArray (writeL w)) 42) :: (b14, Obj.cells (List.toArray (vecL hh)) 33) :: (H1s ++ H2s)) ?_
                  refine gInvK ⟨i, σ.step, ρ.step, H1s, H2s⟩ [2, 7, 8, 10, 11, 14, 15, 16] ⟨hs1, hr1, hrel.step, (hok.step.mono (Nat.le_refl _) (Nat.le_succ _)), by rw [ShS.step_room]; exact hrm⟩ rfl rfl
                · refine gSeq ?_
                  refine gText (σ := wk [(0, .p), (1, .p)]) rfl ?_
                  refine pv rfl (rBin rfl rfl bEq) ?_
                  refine pv rfl (rAs rfl) ?_
                  refine gs_nil ?_
                  refine gKeep [2, 7, 8, 10, 11, 13, 14, 15, 16, 112] rfl ?_
                  refine gCondD rfl (fun h8 => ?_) (fun h8 => ?_)
                  · refine gD [b14] (wk [(0, .q), (1, .q), (3, .q), (4, .q), (2, .p), (5, .p), (6, .q), (7, .q)]) fol (by kernel_rfl) rfl (by kernel_rfl) ?_
                    refine qv rfl (rMv rfl) ?_
                    refine qv rfl (rLdA tA33 rfl rfl) ?_
                    refine qv rfl (rMv rfl) ?_
                    refine qv rfl (rLdA tA33 rfl rfl) ?_
                    refine pc (R' := []) (L1 := H1) rfl eN16 (c16 s σ H1 hsH hh (hok.sum (by omega))) (fun u1 H1s hu1 => ?_)
                    obtain ⟨n1, n2, rfl, hn1, hn2, hs1⟩ := hu1
                    refine pc (R' := []) (L1 := H2) rfl eN17 (c17 x ρ H2 hrH hh (by have := hrel.len hok (by omega); omega)) (fun u2 H2s hu2 => ?_)
                    obtain ⟨rfl, hr1⟩ := hu2
                    refine qv rfl (rBin rfl rfl bEq) ?_
                    refine gV (u := .bool true) 120 rfl (by rw [hn1.uniq hrel.total, hn2.uniq (hrel.prune hh).total]; simp) ?_
                    refine qv rfl (rAs rfl) ?_
                    refine gs_nil ?_
                    refine gKeep [2, 7, 8, 10, 11, 14, 15, 16] rfl ?_
                    refine gDrop [(b13, Obj.cells (List.toArray (batL ⟨st, q, ws.length, cap⟩)) 51)] ?_
                    refine gDrop [(b12, Obj.cells (List.toArray (deedL u)) 48)] ?_
                    refine gDrop Lr ?_
                    refine gTo ((b15, Obj.cells (List.toArray (writeL w)) 42) :: (b14, Obj.cells (List.toArray (vecL hh)) 33) :: (H1s ++ H2s)) ?_
                    refine gInvK ⟨i, { σ with g := pruneG hh σ.g }, (ρ.prune hh), H1s, H2s⟩ [2, 7, 8, 10, 11, 14, 15, 16] ⟨hs1, hr1, (hrel.prune hh), ((hok.prune hh).mono (Nat.le_succ _) (Nat.le_succ _)), hrm⟩ rfl rfl
                  · refine gD [b13] (wk [(0, .q), (1, .q), (2, .q), (3, .q), (4, .q), (6, .q), (7, .q), (8, .q), (10, .q), (11, .q), (5, .p), (9, .p), (12, .p), (13, .p), (14, .q), (15, .q)]) fol (by kernel_rfl) rfl (by kernel_rfl) ?_
                    refine qv rfl (rMv rfl) ?_
                    refine qv rfl (rFa fA51_0 rfl) ?_
                    refine qv rfl (rLdA tA35 rfl rfl) ?_
                    refine qv rfl (rFa fA51_1 rfl) ?_
                    refine qv rfl (rLdN t149 rfl rfl) ?_
                    refine qv rfl (rMv rfl) ?_
                    refine qv rfl (rFa fA51_0 rfl) ?_
                    refine qv rfl (rLdA tA35 rfl rfl) ?_
                    refine qv rfl (rFa fA51_1 rfl) ?_
                    refine qv rfl (rLdN t149 rfl rfl) ?_
                    refine pc (R' := Lr) (L1 := H1) rfl eN18 (c18 s σ H1 hsH st ws q cap Lr hsr (by omega)) (fun u1 H1s hu1 => ?_)
                    obtain ⟨rfl, hs1⟩ := hu1
                    refine pf rfl eN20 (c20 st) ?_
                    refine pc (R' := Lr) (L1 := []) rfl eN21 (c21 ws q cap Lr hlr (by omega)) (fun u3 L2w hu3 => ?_)
                    obtain ⟨q3, cap3, rfl, hs3, hc3, _⟩ := Row.srcc hu3
                    refine pc (R' := L2w) (L1 := H2) rfl eN19 (c19 x ρ H2 hrH st ws q3 cap3 L2w hs3 hc3 (by omega) (by have := hok.q; rw [hrel.q] at this; omega)) (fun u2 H2s hu2 => ?_)
                    obtain ⟨rfl, hr1⟩ := hu2
                    refine qv rfl (rBin rfl rfl (bEqB Try.underlying4)) ?_
                    refine gV (u := .bool true) 102 rfl (by rw [hrel.okEq]; simp) ?_
                    refine qv rfl (rAs rfl) ?_
                    refine gs_nil ?_
                    refine gKeep [2, 7, 8, 10, 11, 14, 15, 16] rfl ?_
                    refine gDrop L2w ?_
                    refine gDrop [(b13, Obj.cells (List.toArray (batL ⟨st, q, ws.length, cap⟩)) 51)] ?_
                    refine gDrop [(b12, Obj.cells (List.toArray (deedL u)) 48)] ?_
                    refine gDrop Lr ?_
                    refine gTo ((b15, Obj.cells (List.toArray (writeL w)) 42) :: (b14, Obj.cells (List.toArray (vecL hh)) 33) :: (H1s ++ H2s)) ?_
                    refine gInvK ⟨i, (σ.push st ws), (ρ.push st ws), H1s, H2s⟩ [2, 7, 8, 10, 11, 14, 15, 16] ⟨hs1, hr1, (hrel.push st ws), ((hok.push hwl).mono (Nat.le_succ _) (Nat.le_refl _)), by rw [ShS.push_room]; exact hrm⟩ rfl rfl
              · refine gSeq ?_
                refine gText (σ := wk [(0, .p), (1, .p)]) rfl ?_
                refine pv rfl (rBin rfl rfl bEq) ?_
                refine pv rfl (rAs rfl) ?_
                refine gs_nil ?_
                refine gCondD rfl (fun h9 => ?_) (fun h9 => ?_)
                · refine gSkip ?_
                  refine gCondD rfl (fun h10 => ?_) (fun h10 => ?_)
                  · refine gText (σ := wk [(0, .p), (1, .p), (2, .p), (3, .p), (4, .p), (5, .p)]) rfl ?_
                    refine pv rfl (rMv rfl) ?_
                    refine pc (R' := []) (L1 := H1) rfl eN14 (c14 s σ H1 hsH (hok.may (by omega))) (fun u1 H1s hu1 => ?_)
                    obtain ⟨rfl, hs1⟩ := hu1
                    refine pv rfl (rMv rfl) ?_
                    refine pc (R' := []) (L1 := H2) rfl eN15 (c15 x ρ H2 hrH (by have := hrel.len hok (by omega); omega) (fun t ht => by have := hok.ws t (by rw [hrel.q]; exact ht); omega)) (fun u2 H2s hu2 => ?_)
                    obtain ⟨rfl, hr1⟩ := hu2
                    refine pv rfl (rBin rfl rfl (bEqB Try.underlying4)) ?_
                    refine gV (u := .bool true) 111 rfl (by rw [hrel.q]; simp) ?_
                    refine pv rfl (rAs rfl) ?_
                    refine gs_nil ?_
                    refine gKeep [2, 7, 8, 10, 11, 14, 15, 16] rfl ?_
                    refine gDrop [(b13, Obj.cells (List.toArray (batL ⟨st, q, ws.length, cap⟩)) 51)] ?_
                    refine gDrop [(b12, Obj.cells (List.toArray (deedL u)) 48)] ?_
                    refine gDrop Lr ?_
                    refine gTo ((b15, Obj.cells (List.toArray (writeL w)) 42) :: (b14, Obj.cells (List.toArray (vecL hh)) 33) :: (H1s ++ H2s)) ?_
                    refine gInvK ⟨i, σ.step, ρ.step, H1s, H2s⟩ [2, 7, 8, 10, 11, 14, 15, 16] ⟨hs1, hr1, hrel.step, (hok.step.mono (Nat.le_refl _) (Nat.le_succ _)), by rw [ShS.step_room]; exact hrm⟩ rfl rfl
                  · refine gSeq ?_
                    refine gText (σ := wk [(0, .p), (1, .p)]) rfl ?_
                    refine pv rfl (rBin rfl rfl bEq) ?_
                    refine pv rfl (rAs rfl) ?_
                    refine gs_nil ?_
                    refine gKeep [2, 7, 8, 10, 11, 13, 14, 15, 16, 112] rfl ?_
                    refine gCondD rfl (fun h11 => ?_) (fun h11 => ?_)
                    · refine gD [b14] (wk [(0, .q), (1, .q), (3, .q), (4, .q), (2, .p), (5, .p), (6, .q), (7, .q)]) fol (by kernel_rfl) rfl (by kernel_rfl) ?_
                      refine qv rfl (rMv rfl) ?_
                      refine qv rfl (rLdA tA33 rfl rfl) ?_
                      refine qv rfl (rMv rfl) ?_
                      refine qv rfl (rLdA tA33 rfl rfl) ?_
                      refine pc (R' := []) (L1 := H1) rfl eN16 (c16 s σ H1 hsH hh (hok.sum (by omega))) (fun u1 H1s hu1 => ?_)
                      obtain ⟨n1, n2, rfl, hn1, hn2, hs1⟩ := hu1
                      refine pc (R' := []) (L1 := H2) rfl eN17 (c17 x ρ H2 hrH hh (by have := hrel.len hok (by omega); omega)) (fun u2 H2s hu2 => ?_)
                      obtain ⟨rfl, hr1⟩ := hu2
                      refine qv rfl (rBin rfl rfl bEq) ?_
                      refine gV (u := .bool true) 120 rfl (by rw [hn1.uniq hrel.total, hn2.uniq (hrel.prune hh).total]; simp) ?_
                      refine qv rfl (rAs rfl) ?_
                      refine gs_nil ?_
                      refine gKeep [2, 7, 8, 10, 11, 14, 15, 16] rfl ?_
                      refine gDrop [(b13, Obj.cells (List.toArray (batL ⟨st, q, ws.length, cap⟩)) 51)] ?_
                      refine gDrop [(b12, Obj.cells (List.toArray (deedL u)) 48)] ?_
                      refine gDrop Lr ?_
                      refine gTo ((b15, Obj.cells (List.toArray (writeL w)) 42) :: (b14, Obj.cells (List.toArray (vecL hh)) 33) :: (H1s ++ H2s)) ?_
                      refine gInvK ⟨i, { σ with g := pruneG hh σ.g }, (ρ.prune hh), H1s, H2s⟩ [2, 7, 8, 10, 11, 14, 15, 16] ⟨hs1, hr1, (hrel.prune hh), ((hok.prune hh).mono (Nat.le_succ _) (Nat.le_succ _)), hrm⟩ rfl rfl
                    · refine gD [b13] (wk [(0, .q), (1, .q), (2, .q), (3, .q), (4, .q), (6, .q), (7, .q), (8, .q), (10, .q), (11, .q), (5, .p), (9, .p), (12, .p), (13, .p), (14, .q), (15, .q)]) fol (by kernel_rfl) rfl (by kernel_rfl) ?_
                      refine qv rfl (rMv rfl) ?_
                      refine qv rfl (rFa fA51_0 rfl) ?_
                      refine qv rfl (rLdA tA35 rfl rfl) ?_
                      refine qv rfl (rFa fA51_1 rfl) ?_
                      refine qv rfl (rLdN t149 rfl rfl) ?_
                      refine qv rfl (rMv rfl) ?_
                      refine qv rfl (rFa fA51_0 rfl) ?_
                      refine qv rfl (rLdA tA35 rfl rfl) ?_
                      refine qv rfl (rFa fA51_1 rfl) ?_
                      refine qv rfl (rLdN t149 rfl rfl) ?_
                      refine pc (R' := Lr) (L1 := H1) rfl eN18 (c18 s σ H1 hsH st ws q cap Lr hsr (by omega)) (fun u1 H1s hu1 => ?_)
                      obtain ⟨rfl, hs1⟩ := hu1
                      refine pf rfl eN20 (c20 st) ?_
                      refine pc (R' := Lr) (L1 := []) rfl eN21 (c21 ws q cap Lr hlr (by omega)) (fun u3 L2w hu3 => ?_)
                      obtain ⟨q3, cap3, rfl, hs3, hc3, _⟩ := Row.srcc hu3
                      refine pc (R' := L2w) (L1 := H2) rfl eN19 (c19 x ρ H2 hrH st ws q3 cap3 L2w hs3 hc3 (by omega) (by have := hok.q; rw [hrel.q] at this; omega)) (fun u2 H2s hu2 => ?_)
                      obtain ⟨rfl, hr1⟩ := hu2
                      refine qv rfl (rBin rfl rfl (bEqB Try.underlying4)) ?_
                      refine gV (u := .bool true) 102 rfl (by rw [hrel.okEq]; simp) ?_
                      refine qv rfl (rAs rfl) ?_
                      refine gs_nil ?_
                      refine gKeep [2, 7, 8, 10, 11, 14, 15, 16] rfl ?_
                      refine gDrop L2w ?_
                      refine gDrop [(b13, Obj.cells (List.toArray (batL ⟨st, q, ws.length, cap⟩)) 51)] ?_
                      refine gDrop [(b12, Obj.cells (List.toArray (deedL u)) 48)] ?_
                      refine gDrop Lr ?_
                      refine gTo ((b15, Obj.cells (List.toArray (writeL w)) 42) :: (b14, Obj.cells (List.toArray (vecL hh)) 33) :: (H1s ++ H2s)) ?_
                      refine gInvK ⟨i, (σ.push st ws), (ρ.push st ws), H1s, H2s⟩ [2, 7, 8, 10, 11, 14, 15, 16] ⟨hs1, hr1, (hrel.push st ws), ((hok.push hwl).mono (Nat.le_succ _) (Nat.le_refl _)), by rw [ShS.push_room]; exact hrm⟩ rfl rfl
                · refine gText (σ := wk [(0, .p), (1, .p)]) rfl ?_
                  refine pv rfl (rBin rfl rfl bEq) ?_
                  refine pv rfl (rAs rfl) ?_
                  refine gs_nil ?_
                  refine gCondD rfl (fun h12 => ?_) (fun h12 => ?_)
                  · refine gText (σ := wk [(0, .p), (1, .p), (2, .p), (3, .p), (4, .p), (5, .p)]) rfl ?_
                    refine pv rfl (rMv rfl) ?_
                    refine pc (R' := []) (L1 := H1) rfl eN14 (c14 s σ H1 hsH (hok.may (by omega))) (fun u1 H1s hu1 => ?_)
                    obtain ⟨rfl, hs1⟩ := hu1
                    refine pv rfl (rMv rfl) ?_
                    refine pc (R' := []) (L1 := H2) rfl eN15 (c15 x ρ H2 hrH (by have := hrel.len hok (by omega); omega) (fun t ht => by have := hok.ws t (by rw [hrel.q]; exact ht); omega)) (fun u2 H2s hu2 => ?_)
                    obtain ⟨rfl, hr1⟩ := hu2
                    refine pv rfl (rBin rfl rfl (bEqB Try.underlying4)) ?_
                    refine gV (u := .bool true) 111 rfl (by rw [hrel.q]; simp) ?_
                    refine pv rfl (rAs rfl) ?_
                    refine gs_nil ?_
                    refine gKeep [2, 7, 8, 10, 11, 14, 15, 16] rfl ?_
                    refine gDrop [(b13, Obj.cells (List.toArray (batL ⟨st, q, ws.length, cap⟩)) 51)] ?_
                    refine gDrop [(b12, Obj.cells (List.toArray (deedL u)) 48)] ?_
                    refine gDrop Lr ?_
                    refine gTo ((b15, Obj.cells (List.toArray (writeL w)) 42) :: (b14, Obj.cells (List.toArray (vecL hh)) 33) :: (H1s ++ H2s)) ?_
                    refine gInvK ⟨i, σ.step, ρ.step, H1s, H2s⟩ [2, 7, 8, 10, 11, 14, 15, 16] ⟨hs1, hr1, hrel.step, (hok.step.mono (Nat.le_refl _) (Nat.le_succ _)), by rw [ShS.step_room]; exact hrm⟩ rfl rfl
                  · refine gSeq ?_
                    refine gText (σ := wk [(0, .p), (1, .p)]) rfl ?_
                    refine pv rfl (rBin rfl rfl bEq) ?_
                    refine pv rfl (rAs rfl) ?_
                    refine gs_nil ?_
                    refine gKeep [2, 7, 8, 10, 11, 13, 14, 15, 16, 112] rfl ?_
                    refine gCondD rfl (fun h13 => ?_) (fun h13 => ?_)
                    · refine gD [b14] (wk [(0, .q), (1, .q), (3, .q), (4, .q), (2, .p), (5, .p), (6, .q), (7, .q)]) fol (by kernel_rfl) rfl (by kernel_rfl) ?_
                      refine qv rfl (rMv rfl) ?_
                      refine qv rfl (rLdA tA33 rfl rfl) ?_
                      refine qv rfl (rMv rfl) ?_
                      refine qv rfl (rLdA tA33 rfl rfl) ?_
                      refine pc (R' := []) (L1 := H1) rfl eN16 (c16 s σ H1 hsH hh (hok.sum (by omega))) (fun u1 H1s hu1 => ?_)
                      obtain ⟨n1, n2, rfl, hn1, hn2, hs1⟩ := hu1
                      refine pc (R' := []) (L1 := H2) rfl eN17 (c17 x ρ H2 hrH hh (by have := hrel.len hok (by omega); omega)) (fun u2 H2s hu2 => ?_)
                      obtain ⟨rfl, hr1⟩ := hu2
                      refine qv rfl (rBin rfl rfl bEq) ?_
                      refine gV (u := .bool true) 120 rfl (by rw [hn1.uniq hrel.total, hn2.uniq (hrel.prune hh).total]; simp) ?_
                      refine qv rfl (rAs rfl) ?_
                      refine gs_nil ?_
                      refine gKeep [2, 7, 8, 10, 11, 14, 15, 16] rfl ?_
                      refine gDrop [(b13, Obj.cells (List.toArray (batL ⟨st, q, ws.length, cap⟩)) 51)] ?_
                      refine gDrop [(b12, Obj.cells (List.toArray (deedL u)) 48)] ?_
                      refine gDrop Lr ?_
                      refine gTo ((b15, Obj.cells (List.toArray (writeL w)) 42) :: (b14, Obj.cells (List.toArray (vecL hh)) 33) :: (H1s ++ H2s)) ?_
                      refine gInvK ⟨i, { σ with g := pruneG hh σ.g }, (ρ.prune hh), H1s, H2s⟩ [2, 7, 8, 10, 11, 14, 15, 16] ⟨hs1, hr1, (hrel.prune hh), ((hok.prune hh).mono (Nat.le_succ _) (Nat.le_succ _)), hrm⟩ rfl rfl
                    · refine gD [b13] (wk [(0, .q), (1, .q), (2, .q), (3, .q), (4, .q), (6, .q), (7, .q), (8, .q), (10, .q), (11, .q), (5, .p), (9, .p), (12, .p), (13, .p), (14, .q), (15, .q)]) fol (by kernel_rfl) rfl (by kernel_rfl) ?_
                      refine qv rfl (rMv rfl) ?_
                      refine qv rfl (rFa fA51_0 rfl) ?_
                      refine qv rfl (rLdA tA35 rfl rfl) ?_
                      refine qv rfl (rFa fA51_1 rfl) ?_
                      refine qv rfl (rLdN t149 rfl rfl) ?_
                      refine qv rfl (rMv rfl) ?_
                      refine qv rfl (rFa fA51_0 rfl) ?_
                      refine qv rfl (rLdA tA35 rfl rfl) ?_
                      refine qv rfl (rFa fA51_1 rfl) ?_
                      refine qv rfl (rLdN t149 rfl rfl) ?_
                      refine pc (R' := Lr) (L1 := H1) rfl eN18 (c18 s σ H1 hsH st ws q cap Lr hsr (by omega)) (fun u1 H1s hu1 => ?_)
                      obtain ⟨rfl, hs1⟩ := hu1
                      refine pf rfl eN20 (c20 st) ?_
                      refine pc (R' := Lr) (L1 := []) rfl eN21 (c21 ws q cap Lr hlr (by omega)) (fun u3 L2w hu3 => ?_)
                      obtain ⟨q3, cap3, rfl, hs3, hc3, _⟩ := Row.srcc hu3
                      refine pc (R' := L2w) (L1 := H2) rfl eN19 (c19 x ρ H2 hrH st ws q3 cap3 L2w hs3 hc3 (by omega) (by have := hok.q; rw [hrel.q] at this; omega)) (fun u2 H2s hu2 => ?_)
                      obtain ⟨rfl, hr1⟩ := hu2
                      refine qv rfl (rBin rfl rfl (bEqB Try.underlying4)) ?_
                      refine gV (u := .bool true) 102 rfl (by rw [hrel.okEq]; simp) ?_
                      refine qv rfl (rAs rfl) ?_
                      refine gs_nil ?_
                      refine gKeep [2, 7, 8, 10, 11, 14, 15, 16] rfl ?_
                      refine gDrop L2w ?_
                      refine gDrop [(b13, Obj.cells (List.toArray (batL ⟨st, q, ws.length, cap⟩)) 51)] ?_
                      refine gDrop [(b12, Obj.cells (List.toArray (deedL u)) 48)] ?_
                      refine gDrop Lr ?_
                      refine gTo ((b15, Obj.cells (List.toArray (writeL w)) 42) :: (b14, Obj.cells (List.toArray (vecL hh)) 33) :: (H1s ++ H2s)) ?_
                      refine gInvK ⟨i, (σ.push st ws), (ρ.push st ws), H1s, H2s⟩ [2, 7, 8, 10, 11, 14, 15, 16] ⟨hs1, hr1, (hrel.push st ws), ((hok.push hwl).mono (Nat.le_succ _) (Nat.le_refl _)), by rw [ShS.push_room]; exact hrm⟩ rfl rfl
            · obtain ⟨i0, σ', ρ', H1', H2'⟩ := z
              obtain ⟨hsH', hrH', hrel', hok', hrm'⟩ := hs
              simp only at hsH' hrH' hrel' hok' hrm' ⊢
              have hll := hrel'.len hok' (by omega)
              refine gSeq ?_
              refine gText (σ := wk [(0, .p), (1, .p), (2, .p), (3, .p), (4, .p), (5, .p), (6, .p), (7, .p), (8, .p), (9, .p), (10, .p), (11, .p), (12, .p), (13, .p), (14, .p)]) rfl ?_
              refine pv rfl (rMv rfl) ?_
              refine pv rfl (rFa fA42_0 rfl) ?_
              refine pv rfl (rLdN t19 rfl rfl) ?_
              refine pv rfl (rFa fA42_1 rfl) ?_
              refine pv rfl (rLdN t19 rfl rfl) ?_
              refine pv rfl (rLdA tA33 rfl rfl) ?_
              refine pc (R' := []) (L1 := H1') rfl eN22 (c22 s σ' H1' hsH' w.bucket w.key hh (hok'.len (by omega))) (fun u H1a hu => ?_)
              rw [hrel'.read] at hu
              obtain ⟨rfl, hsH1a⟩ := hu
              refine pv rfl (rMv rfl) ?_
              refine pv rfl (rEx rfl rfl) ?_
              refine pv rfl (rEx rfl rfl) ?_
              refine pv rfl (rEx rfl rfl) ?_
              refine pm rfl (mAlloc zC35) (fun b18 => ?_)
              refine pv rfl (rAs rfl) ?_
              refine ps0 rfl (tSt tA35.2 rfl rfl rfl rfl rfl rfl rfl) ?_
              refine pv rfl (rAs rfl) ?_
              refine gs_nil ?_
              refine gKeep [2, 7, 8, 10, 11, 14, 15, 16, 17, 18, 19] rfl ?_
              refine gSeq ?_
              refine gText (σ := wk [(0, .p), (1, .p), (2, .p), (3, .p), (4, .p), (5, .p), (6, .p), (7, .p), (8, .p), (9, .p), (10, .p), (11, .p), (12, .p), (13, .p), (14, .p)]) rfl ?_
              refine pv rfl (rMv rfl) ?_
              refine pv rfl (rFa fA42_0 rfl) ?_
              refine pv rfl (rLdN t19 rfl rfl) ?_
              refine pv rfl (rFa fA42_1 rfl) ?_
              refine pv rfl (rLdN t19 rfl rfl) ?_
              refine pv rfl (rLdA tA33 rfl rfl) ?_
              refine pf (R' := H2') rfl eN23 (c23r x ρ' H2' hrH' (by omega) w.bucket w.key hh) ?_
              refine pv rfl (rMv rfl) ?_
              refine pv rfl (rEx rfl rfl) ?_
              refine pv rfl (rEx rfl rfl) ?_
              refine pv rfl (rEx rfl rfl) ?_
              refine pm rfl (mAlloc zC61) (fun b21 => ?_)
              refine pv rfl (rAs rfl) ?_
              refine ps0 rfl (tSt tA61.2 rfl rfl rfl rfl rfl rfl rfl) ?_
              refine pv rfl (rAs rfl) ?_
              refine gs_nil ?_
              refine gKeep [2, 7, 8, 10, 11, 15, 16, 17, 18, 19, 20, 21, 22] rfl ?_
              refine gSeq ?_
              refine gText (σ := wk [(0, .p), (1, .p), (2, .p), (3, .p), (4, .p), (5, .p), (6, .p), (7, .p), (8, .p), (9, .p), (10, .p), (11, .p), (12, .p), (13, .p), (14, .p)]) rfl ?_
              refine pv rfl (rMv rfl) ?_
              refine pv rfl (rFa fA42_0 rfl) ?_
              refine pv rfl (rLdN t19 rfl rfl) ?_
              refine pv rfl (rFa fA42_1 rfl) ?_
              refine pv rfl (rLdN t19 rfl rfl) ?_
              refine pc (R' := []) (L1 := H1a) rfl eN24 (c24 s σ' H1a hsH1a w.bucket w.key (hok'.len (by omega))) (fun u H1b hu => ?_)
              have hla := hrel'.last (w.bucket, w.key)
              have hl1 : ((lastR σ' (w.bucket, w.key)).getD Ver.zero).w = (refLt (refBest (refP (w.bucket, w.key) Vec.zero true) ρ'.l 0 none)).1 := congrArg (fun t => t.1) hla
              have hl2 : ((lastR σ' (w.bucket, w.key)).getD Ver.zero).s = (refLt (refBest (refP (w.bucket, w.key) Vec.zero true) ρ'.l 0 none)).2.1 := congrArg (fun t => t.2.1) hla
              have hl3 : (lastR σ' (w.bucket, w.key)).isSome = (refLt (refBest (refP (w.bucket, w.key) Vec.zero true) ρ'.l 0 none)).2.2 := congrArg (fun t => t.2.2) hla
              rw [hl1, hl2, hl3] at hu
              obtain ⟨rfl, hsH1b⟩ := hu
              refine pv rfl (rMv rfl) ?_
              refine pv rfl (rEx rfl rfl) ?_
              refine pv rfl (rEx rfl rfl) ?_
              refine pv rfl (rEx rfl rfl) ?_
              refine pm rfl (mAlloc zC42) (fun b23 => ?_)
              refine pm rfl (mAlloc zC35) (fun b24 => ?_)
              refine ps0 rfl (tSt tA42.2 rfl rfl rfl rfl rfl rfl rfl) ?_
              refine ps0 rfl (tSt tA35.2 rfl rfl rfl rfl rfl rfl rfl) ?_
              refine pv rfl (rAs rfl) ?_
              refine gs_nil ?_
              refine gKeep [2, 7, 8, 10, 11, 15, 16, 17, 18, 19, 20, 21, 22, 23, 24, 25] rfl ?_
              refine gSeq ?_
              refine gText (σ := wk [(0, .p), (1, .p), (2, .p), (3, .p), (4, .p), (5, .p), (6, .p), (7, .p), (8, .p), (9, .p), (10, .p), (11, .p), (12, .p), (13, .p), (14, .p)]) rfl ?_
              refine pv rfl (rMv rfl) ?_
              refine pv rfl (rFa fA42_0 rfl) ?_
              refine pv rfl (rLdN t19 rfl rfl) ?_
              refine pv rfl (rFa fA42_1 rfl) ?_
              refine pv rfl (rLdN t19 rfl rfl) ?_
              refine pf (R' := H2') rfl eN25 (c25r x ρ' H2' hrH' (by omega) w.bucket w.key) ?_
              refine pv rfl (rMv rfl) ?_
              refine pv rfl (rEx rfl rfl) ?_
              refine pv rfl (rEx rfl rfl) ?_
              refine pv rfl (rEx rfl rfl) ?_
              refine pm rfl (mAlloc zC71) (fun b26 => ?_)
              refine pm rfl (mAlloc zC61) (fun b27 => ?_)
              refine ps0 rfl (tSt tA71.2 rfl rfl rfl rfl rfl rfl rfl) ?_
              refine ps0 rfl (tSt tA61.2 rfl rfl rfl rfl rfl rfl rfl) ?_
              refine pv rfl (rAs rfl) ?_
              refine gs_nil ?_
              refine gKeep [2, 7, 8, 10, 11, 16, 17, 18, 19, 20, 21, 22, 23, 24, 25, 26, 27, 28] rfl ?_
              refine gSeq ?_
              refine gSeq ?_
              refine gD [b18, b21, b23, b26, b24, b27] (wk [(0, .q), (1, .q), (2, .q), (3, .q), (4, .q), (5, .q), (6, .q), (7, .q), (8, .q), (10, .q), (9, .p), (11, .q), (12, .q), (13, .q), (14, .q), (15, .q), (16, .q), (17, .q), (18, .q), (19, .q), (24, .q), (20, .p), (21, .p), (22, .p), (23, .p), (25, .q), (26, .q), (27, .q), (28, .q), (30, .q), (29, .p), (31, .q), (32, .q), (33, .q), (34, .q), (35, .q), (36, .q), (37, .q)]) fol (by kernel_rfl) rfl (by kernel_rfl) ?_
              refine qv rfl (rMv rfl) ?_
              refine qv rfl (rNot rfl) ?_
              refine qv rfl (rMv rfl) ?_
              refine gB (e := 165) rfl (fun g165 => by cases g165) (fun _ => ?_)
              refine qv rfl (rMv rfl) ?_
              refine qv rfl (rMv rfl) ?_
              refine qv rfl (rBin rfl rfl bNeS) ?_
              refine gV (u := .bool false) 168 rfl (by simp) ?_
              refine qv rfl (rPk rfl rfl) ?_
              refine qv rfl (rMv rfl) ?_
              refine gB (e := 170) rfl (fun g170 => by cases g170) (fun _ => ?_)
              refine qv rfl (rLdA tA35 rfl rfl) ?_
              refine qv rfl (rLdA tA61 rfl rfl) ?_
              refine pf rfl eN20 (c20 (refRd (refBest (refP (w.bucket, w.key) hh false) ρ'.l 0 none)).2.1) ?_
              refine qv rfl (rBin rfl rfl (bNe61 (refRd (refBest (refP (w.bucket, w.key) hh false) ρ'.l 0 none)).2.1 (refRd (refBest (refP (w.bucket, w.key) hh false) ρ'.l 0 none)).2.1)) ?_
              refine gV (u := .bool false) 174 rfl (by simp) ?_
              refine qv rfl (rPk rfl rfl) ?_
              refine qv rfl (rMv rfl) ?_
              refine gB (e := 176) rfl (fun g176 => by cases g176) (fun _ => ?_)
              refine qv rfl (rMv rfl) ?_
              refine qv rfl (rMv rfl) ?_
              refine qv rfl (rBin rfl rfl (bNeB Try.underlying4)) ?_
              refine gV (u := .bool false) 179 rfl (by simp) ?_
              refine qv rfl (rPk rfl rfl) ?_
              refine qv rfl (rMv rfl) ?_
              refine gB (e := 181) rfl (fun g181 => by cases g181) (fun _ => ?_)
              refine qv rfl (rLdA tA42 rfl rfl) ?_
              refine qv rfl (rLdA tA71 rfl rfl) ?_
              refine pm rfl (mBs bS49_1 rfl rfl) (fun b183 => ?_)
              refine pc (R' := [(b183, Obj.cells (List.toArray (writeL (refLt (refBest (refP (w.bucket, w.key) Vec.zero true) ρ'.l 0 none)).1)) 42)]) (L1 := []) rfl eN21 (c21 [(refLt (refBest (refP (w.bucket, w.key) Vec.zero true) ρ'.l 0 none)).1] (some ⟨b183, 0, none⟩) 1 [(b183, Obj.cells (List.toArray (writeL (refLt (refBest (refP (w.bucket, w.key) Vec.zero true) ρ'.l 0 none)).1)) 42)] (.inr ⟨b183, 0, writeL (refLt (refBest (refP (w.bucket, w.key) Vec.zero true) ρ'.l 0 none)).1, 42, (0, 0), rfl, List.mem_singleton.2 rfl, fun j hj => by rw [Nat.zero_add]; simp [writesL]⟩) (by show 1 ≤ 1000000; decide)) (fun u9 L9 hu9 => ?_)
              obtain ⟨g9, cap9, T9, rfl, rfl, hnc9, hcm9, hT9⟩ := hu9.some' (by show 1 ≠ 0; decide)
              refine pv rfl (rIs iS63 rfl rfl ⟨by omega, by show (0 : Int) < ((1 : Nat) : Int); omega⟩) ?_
              refine pv rfl (rLdAm tA71 rfl (List.mem_append_left _ List.mem_cons_self) (vs := writeL (refLt (refBest (refP (w.bucket, w.key) Vec.zero true) ρ'.l 0 none)).1) rfl (fun j v h => by have h9 := writes_cell (out := [(refLt (refBest (refP (w.bucket, w.key) Vec.zero true) ρ'.l 0 none)).1]) (T := T9) (k := 0) rfl j v h; exact h9)) ?_
              refine qv rfl (rBin rfl rfl (bNe71 (refLt (refBest (refP (w.bucket, w.key) Vec.zero true) ρ'.l 0 none)).1 (refLt (refBest (refP (w.bucket, w.key) Vec.zero true) ρ'.l 0 none)).1)) ?_
              refine gV (u := .bool false) 188 rfl (by simp) ?_
              refine qv rfl (rPk rfl rfl) ?_
              refine qv rfl (rMv rfl) ?_
              refine gB (e := 190) rfl (fun g190 => by cases g190) (fun _ => ?_)
              refine qv rfl (rLdA tA35 rfl rfl) ?_
              refine qv rfl (rLdA tA61 rfl rfl) ?_
              refine pf rfl eN20 (c20 (refLt (refBest (refP (w.bucket, w.key) Vec.zero true) ρ'.l 0 none)).2.1) ?_
              refine qv rfl (rBin rfl rfl (bNe61 (refLt (refBest (refP (w.bucket, w.key) Vec.zero true) ρ'.l 0 none)).2.1 (refLt (refBest (refP (w.bucket, w.key) Vec.zero true) ρ'.l 0 none)).2.1)) ?_
              refine gV (u := .bool false) 194 rfl (by simp) ?_
              refine qv rfl (rPk rfl rfl) ?_
              refine qv rfl (rMv rfl) ?_
              refine gB (e := 196) rfl (fun g196 => by cases g196) (fun _ => ?_)
              refine qv rfl (rMv rfl) ?_
              refine qv rfl (rMv rfl) ?_
              refine qv rfl (rBin rfl rfl (bNeB Try.underlying4)) ?_
              refine gV (u := .bool false) 199 rfl (by simp) ?_
              refine qv rfl (rPk rfl rfl) ?_
              refine gs_nil ?_
              refine gKeep [2, 7, 8, 10, 11, 200] rfl ?_
              refine gCondF rfl rfl ?_
              refine gSkip ?_
              refine gSeq ?_
              obtain ⟨pW, capW, bs, pL, capL, HW, WH, LH, hp, hW, hW0, hQ, hrow⟩ := hrH'
              refine gFront H2' ?_
              refine gPerm (hp.append_right _) ?_
              simp only [List.cons_append, List.append_assoc]
              have hbl := hQ.len
              have hql := hok'.q
              refine gD [x] (wk [(0, .q), (2, .q), (3, .q), (4, .q), (5, .q), (6, .q), (1, .p), (7, .q), (8, .q), (9, .q), (11, .q), (12, .q), (13, .q), (14, .q), (15, .q), (16, .q), (17, .q), (18, .q), (19, .q), (20, .q), (10, .p), (21, .q), (22, .q), (23, .q), (24, .q), (26, .q), (27, .q), (28, .q), (29, .q), (25, .p), (30, .q), (31, .q), (32, .q), (33, .q), (35, .q), (36, .q), (37, .q), (38, .q), (39, .q), (34, .p), (40, .q), (41, .q)]) fol (by kernel_rfl) rfl (by kernel_rfl) ?_
              refine qv rfl (rMv rfl) ?_
              refine qv rfl (rMv rfl) ?_
              refine qv rfl (rNc rfl) ?_
              refine qv rfl (rFa fA78_1 rfl) ?_
              refine qv rfl (rLdN t175 rfl rfl) ?_
              refine qv rfl (rLen uS75 rfl) ?_
              refine pf (R' := H1b) rfl eN26 (c26 s σ' H1b hsH1b) ?_
              refine qv rfl (rBin rfl rfl bNe) ?_
              refine gV (u := .bool false) 208 rfl (by rw [hbl, hrel'.q]; simp) ?_
              refine qv rfl (rMv rfl) ?_
              refine gB (e := 209) rfl (fun g209 => by cases g209) (fun _ => ?_)
              refine qv rfl (rMv rfl) ?_
              refine qv rfl (rMv rfl) ?_
              refine qv rfl (rNc rfl) ?_
              refine qv rfl (rFa fA78_0 rfl) ?_
              refine qv rfl (rLdN t13 rfl rfl) ?_
              refine qv rfl (rMv rfl) ?_
              refine qv rfl (rNc rfl) ?_
              refine qv rfl (rFa fA78_1 rfl) ?_
              refine qv rfl (rLdN t175 rfl rfl) ?_
              refine qv rfl (rLen uS75 rfl) ?_
              refine qv rfl (rBin rfl rfl (bSubI (by have h7 := hrel'.room; have h8 := hrel'.q; rw [← h8] at hbl; constructor <;> omega))) ?_
              refine pf (R' := H1b) rfl eN27 (c27 s σ' H1b hsH1b hrm' (by omega)) ?_
              refine qv rfl (rBin rfl rfl bNe) ?_
              refine gV (u := .bool false) 222 rfl (by rw [hbl, hrel'.q, hrel'.room]; simp) ?_
              refine qv rfl (rPk rfl rfl) ?_
              refine qv rfl (rMv rfl) ?_
              refine gB (e := 224) rfl (fun g224 => by cases g224) (fun _ => ?_)
              refine qv rfl (rMv rfl) ?_
              refine qv rfl (rMv rfl) ?_
              refine qv rfl (rNc rfl) ?_
              refine qv rfl (rFa fA78_3 rfl) ?_
              refine qv rfl (rLdA tA57 rfl rfl) ?_
              refine pf (R' := H1b) rfl eN28 (c28 s σ' H1b hsH1b) ?_
              refine qv rfl (rBin rfl rfl (bNe57 σ'.ap ρ'.ap)) ?_
              refine gV (u := .bool false) 231 rfl (by rw [hrel'.ap]; simp) ?_
              refine qv rfl (rPk rfl rfl) ?_
              refine qv rfl (rMv rfl) ?_
              refine gB (e := 233) rfl (fun g233 => by cases g233) (fun _ => ?_)
              refine qv rfl (rMv rfl) ?_
              refine qv rfl (rMv rfl) ?_
              refine qv rfl (rNc rfl) ?_
              refine qv rfl (rFa fA78_2 rfl) ?_
              refine qv rfl (rLdN t176 rfl rfl) ?_
              refine qv rfl (rLen uS76 rfl) ?_
              refine pc (R' := []) (L1 := H1b) rfl eN29 (c29 s σ' H1b hsH1b (hok'.sum (by omega))) (fun u4 H1d hu4 => ?_)
              obtain ⟨n4, rfl, hn4, hsH1d⟩ := hu4
              obtain rfl := hn4.uniq hrel'.total
              refine qv rfl (rBin rfl rfl bNe) ?_
              refine gV (u := .bool false) 241 rfl (by simp) ?_
              refine qv rfl (rPk rfl rfl) ?_
              refine gs_nil ?_
              refine gKeep [2, 7, 8, 10, 11, 242] rfl ?_
              refine gCondF rfl rfl ?_
              refine gSkip ?_
              refine gText (σ := wk [(0, .p), (1, .p), (2, .p)]) rfl ?_
              refine pv rfl (rMv rfl) ?_
              refine pv rfl (rBin rfl rfl (bAddI (by omega))) ?_
              refine pv rfl (rAs rfl) ?_
              refine gs_nil ?_
              refine gDrop [(g9, Obj.cells (List.toArray (writesL [(refLt (refBest (refP (w.bucket, w.key) Vec.zero true) ρ'.l 0 none)).1] ++ T9)) 71)] ?_
              refine gDrop [(b183, Obj.cells (List.toArray (writeL (refLt (refBest (refP (w.bucket, w.key) Vec.zero true) ρ'.l 0 none)).1)) 42)] ?_
              refine gDrop [(b27, Obj.cells (List.toArray (stampL (refLt (refBest (refP (w.bucket, w.key) Vec.zero true) ρ'.l 0 none)).2.1)) 61)] ?_
              refine gDrop [(b26, Obj.cells (List.toArray (writeL (refLt (refBest (refP (w.bucket, w.key) Vec.zero true) ρ'.l 0 none)).1)) 71)] ?_
              refine gDrop [(b24, Obj.cells (List.toArray (stampL (refLt (refBest (refP (w.bucket, w.key) Vec.zero true) ρ'.l 0 none)).2.1)) 35)] ?_
              refine gDrop [(b23, Obj.cells (List.toArray (writeL (refLt (refBest (refP (w.bucket, w.key) Vec.zero true) ρ'.l 0 none)).1)) 42)] ?_
              refine gDrop [(b21, Obj.cells (List.toArray (stampL (refRd (refBest (refP (w.bucket, w.key) hh false) ρ'.l 0 none)).2.1)) 61)] ?_
              refine gDrop [(b18, Obj.cells (List.toArray (stampL (refRd (refBest (refP (w.bucket, w.key) hh false) ρ'.l 0 none)).2.1)) 35)] ?_
              refine gDrop [(b15, Obj.cells (List.toArray (writeL w)) 42)] ?_
              refine gDrop [(b14, Obj.cells (List.toArray (vecL hh)) 33)] ?_
              refine gTo (H1d ++ ((x, Obj.cells (List.toArray (refC ρ'.room pW bs.length capW pL ρ'.l.length capL ρ'.ap)) 78) :: (HW ++ (WH ++ LH)))) ?_
              refine gInvK ⟨i + 1, σ', ρ', H1d, (x, Obj.cells (List.toArray (refC ρ'.room pW bs.length capW pL ρ'.l.length capL ρ'.ap)) 78) :: (HW ++ (WH ++ LH))⟩ [2, 7, 8, 10, 11] ⟨⟨by show i + 1 ≤ _; omega, by show i + 1 ≤ _; omega, hsH1d, ⟨pW, capW, bs, pL, capL, HW, WH, LH, List.Perm.refl _, hW, hW0, hQ, hrow⟩, hrel', hok', hrm'⟩, by show _ - (i + 1) < _ - i; omega⟩ rfl rfl
          · refine gExit rfl ?_
            refine gSeq ?_
            refine gText (σ := wk [(0, .p), (1, .p)]) rfl ?_
            refine pv rfl (rMv rfl) ?_
            refine pv rfl (rAs rfl) ?_
            refine gs_nil ?_
            refine gRet ?_
            refine gEnd1 Try.results3 (resT rfl) ⟨?_, rfl⟩
            rfl
        · refine pn rfl ?_
          refine pn rfl ?_
          refine pv rfl (rPk rfl rfl) ?_
          refine gs_nil ?_
          refine gKeep [2, 7, 8, 10, 11, 69] rfl ?_
          refine gCondF rfl rfl ?_
          refine gExit rfl ?_
          refine gSeq ?_
          refine gText (σ := wk [(0, .p), (1, .p)]) rfl ?_
          refine pv rfl (rMv rfl) ?_
          refine pv rfl (rAs rfl) ?_
          refine gs_nil ?_
          refine gRet ?_
          refine gEnd1 Try.results3 (resT rfl) ⟨?_, rfl⟩
          rfl
end Go.Proofs.Yteeobhehfdifnaa
