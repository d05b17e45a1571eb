/- A part of the proof that shardPlays of chapter 10 returns true at every room and every list of deeds, and leaves its arguments as they read; no condition. -/
import Derived.Test.YteeobhehfdifnaaCa
import Derived.Test.YteeobhehfdifnaaTBc
set_option linter.unusedVariables false
set_option linter.unusedSimpArgs false
set_option linter.unusedVariables false
set_option linter.unusedSimpArgs false
namespace Go.Proofs.Yteeobhehfdifnaa
open Go TB Go.Proofs
theorem t1133 : T1 Try.prog 133 := ⟨fun w => by kernel_rfl, fun w => by kernel_rfl⟩
theorem tA95 : TA Try.prog 95 6 := ⟨fun w => by kernel_rfl, fun w => by kernel_rfl⟩
theorem bU126 : BU Try.prog 126 [(0, 5), (5, 4)] [.int .u64 0, .int .u64 0, .int .u64 0, .int .u64 0, .int .i64 0, .string ⟨#[]⟩, .string ⟨#[]⟩, .string ⟨#[]⟩, .bool false] := bu_struct (v := .agg #[.int .u64 0, .int .u64 0, .int .u64 0, .int .u64 0, .int .i64 0, .string ⟨#[]⟩, .string ⟨#[]⟩, .string ⟨#[]⟩, .bool false]) Try.underlying126 (fun w => by kernel_rfl) rfl (fun w => by kernel_rfl)
theorem bU135 : BU Try.prog 135 [(0, 1)] [.chan none] := bu_struct (v := .agg #[.chan none]) Try.underlying135 (fun w => by kernel_rfl) rfl (fun w => by kernel_rfl)
theorem eN50 : EN Try.prog 50 := fun args w => by kernel_rfl
theorem eN56 : EN Try.prog 56 := fun args w => by kernel_rfl
theorem eN65 : EN Try.prog 65 := fun args w => by kernel_rfl
theorem eN68 : EN Try.prog 68 := fun args w => by kernel_rfl
theorem eN69 : EN Try.prog 69 := fun args w => by kernel_rfl
theorem eN70 : EN Try.prog 70 := fun args w => by kernel_rfl
theorem fA135_0 : FA Try.prog 135 0 0 := fun b o w => by kernel_rfl
theorem zC95 : ZC Try.prog 95 [.int .u64 0, .int .u64 0, .int .u64 0, .int .u64 0, .int .i64 0, .slice none 0 0] := fun w => ⟨.agg #[.int .u64 0, .int .u64 0, .int .u64 0, .int .u64 0, .int .i64 0, .slice none 0 0], by kernel_rfl, rfl⟩
theorem bY95 : ∀ w, ∃ ti, (typeInfo 95).run Try.prog w = .ok ti w ∧ ti.bytes = 64 := ti_of (by kernel_rfl)
theorem uC133 : ∃ d e, Try.prog.underlying 133 = some (.chan d e) := ⟨_, _, Try.underlying133⟩
theorem bS139_1 : BS Try.prog 139 1 126 [(0, 9)] [.int .u64 0, .int .u64 0, .int .u64 0, .int .u64 0, .int .i64 0, .string ⟨#[]⟩, .string ⟨#[]⟩, .string ⟨#[]⟩, .bool false] := bs_of (v := .agg (List.toArray [.int .u64 0, .int .u64 0, .int .u64 0, .int .u64 0, .int .i64 0, .string ⟨#[]⟩, .string ⟨#[]⟩, .string ⟨#[]⟩, .bool false])) (sz := 9) Try.underlying139 (fun w => by kernel_rfl) (by decide) (fun w => by kernel_rfl) (by kernel_rfl) (by decide) rfl
set_option maxRecDepth 4000 in
theorem c68n (bx : Nat) (new : List Value) (hnew : new.length = 9) (on : oneL new) : Tr Try.prog 68 [.slice none 0 0, .int .i64 0, .slice (some ⟨bx, 0, none⟩) 1 1] [(bx, Obj.cells new.toArray 126)] [] (fun u L' => Row 126 9 1 new u L') := by
  refine trEnter Try.func68 rfl Try.ntmps68 (l := [(0, _), (1, _), (2, _)]) rfl rfl (fun w0 => ?_)
  refine gSeq ?_
  refine gText (σ := wk [(0, .p)]) rfl ?_
  refine pv rfl (rAs rfl) ?_
  refine gs_nil ?_
  refine gSeq ?_
  refine gText (σ := wk [(0, .p), (1, .p), (2, .p)]) rfl ?_
  refine pv rfl (rMv rfl) ?_
  refine pv rfl (rMv rfl) ?_
  refine pv rfl (rCutNilL iS139 rfl rfl (i := 0) (by omega)) ?_
  refine gs_nil ?_
  refine gSeq ?_
  refine gText (σ := wk [(0, .p), (1, .p), (2, .p)]) rfl ?_
  refine pv rfl (rMv rfl) ?_
  refine pv rfl (rLen uS139 rfl) ?_
  refine pv rfl (rAs rfl) ?_
  refine gs_nil ?_
  refine gKeep [0, 1, 2, 6, 7] rfl ?_
  refine gSeq ?_
  refine gSeq ?_
  refine gText (σ := wk [(0, .p), (1, .p)]) rfl ?_
  refine pv rfl (rMv rfl) ?_
  refine pv rfl (rBin rfl rfl bEq) ?_
  refine gs_nil ?_
  refine gCondF rfl (by decide) ?_
  refine gSkip ?_
  refine gSeq ?_
  refine gText (σ := wk [(0, .p), (1, .p), (2, .p)]) rfl ?_
  refine pv rfl (rMv rfl) ?_
  refine pv rfl (rLen uS139 rfl) ?_
  refine pv rfl (rAs rfl) ?_
  refine gs_nil ?_
  refine gKeep [0, 1, 2, 6, 7, 8] rfl ?_
  refine gSeq ?_
  refine gSeq ?_
  refine gText (σ := wk [(0, .p), (1, .p), (2, .p)]) rfl ?_
  refine pv rfl (rMv rfl) ?_
  refine pv rfl (rMv rfl) ?_
  refine pv rfl (rBin rfl rfl bEq) ?_
  refine gs_nil ?_
  refine gCondT rfl (by decide) ?_
  refine gSeq ?_
  refine gText (σ := wk [(0, .p), (1, .p), (2, .p), (3, .p)]) rfl ?_
  refine pv rfl (rMv rfl) ?_
  refine pv rfl (rMv rfl) ?_
  refine papp (news := new) (L1 := []) (xs := []) aP139 rfl rfl (Row.nil 126 9) rfl (List.mem_append_right _ (List.mem_singleton.2 rfl)) (by rw [hnew]) (fun j u h => by rw [Nat.zero_add]; exact h) on (by omega) (fun v' L' hv => ?_)
  rw [List.append_nil]
  refine pv rfl (rAs rfl) ?_
  refine gs_nil ?_
  refine gKeep [0, 1, 2, 6, 7, 8] rfl ?_
  refine gRet ?_
  refine gEnd1 (hF := Front.all _) Try.results68 (resT rfl) ?_
  exact hv

theorem c68r (xs : List Ver) (v : Value) (Lr : HL) (i bx : Nat) (x : Ver) (hrow : Row 126 9 xs.length (versL xs) v Lr) (hi : i ≤ xs.length) (hn : xs.length ≤ 1000000) :
    Tr Try.prog 68 [v, .int .i64 (i : Nat), .slice (some ⟨bx, 0, none⟩) 1 1] [(bx, Obj.cells (List.toArray (verL x)) 126)] Lr (fun u L' => Row 126 9 (xs.take i ++ x :: xs.drop i).length (versL (xs.take i ++ x :: xs.drop i)) u L') := by
  have el : (xs.take i ++ x :: xs.drop i).length = xs.length + 1 := by simp; omega
  have ev : versL (xs.take i ++ x :: xs.drop i) = versL (xs.take i) ++ (verL x ++ versL (xs.drop i)) := by rw [versL_app, versL_cons]
  rw [el, ev]
  by_cases h0 : xs.length = 0
  · have hx : xs = [] := List.eq_nil_of_length_eq_zero h0
    subst hx
    have hi0 : i = 0 := by simpa using hi
    subst hi0
    rcases hrow.2 with ⟨rfl, _, rfl⟩ | ⟨gg, cap, cur, rfl, rfl, h3, h4, h5, h6⟩
    · exact c68n bx (verL x) rfl (verL_one x)
    · have := c68 gg 0 cap 0 bx [] [] cur.toList (verL x) rfl rfl (by simp [h5]) (by omega) (by omega) h4 rfl (fun u h => nomatch h) (fun u h => nomatch h) (verL_one x) (by omega)
      simpa [versL] using this
  · obtain ⟨gg, cap, T, rfl, rfl, h3, h4, h5⟩ := hrow.some' h0
    have := c68 gg xs.length cap i bx (versL (xs.take i)) (versL (xs.drop i)) T (verL x) (by rw [versL_len]; simp; omega) (by rw [versL_len]; simp) h5 hi h3 h4 rfl (versL_one _) (versL_one _) (verL_one x) hn
    rw [← List.append_assoc, ← versL_app, List.take_append_drop] at this
    exact this

set_option maxRecDepth 4000 in
theorem c40 (c : Nat) (xs : List Ver) (s : Stamp) (w : Write) (v : Value) (Lr : HL) (hrow : Row 126 9 xs.length (versL xs) v Lr) (hlen : xs.length ≤ 1000000) (ho : Ordered xs) : Tr Try.prog 40 [.pointer (some ⟨c, 0, none⟩), stampV s, writeV w] [] ((c, Obj.cells #[v] 141) :: Lr) (fun u L' => u = .bool (addV ⟨s, w⟩ xs).1 ∧ ∃ v' Lr', Row 126 9 (addV ⟨s, w⟩ xs).2.length (versL (addV ⟨s, w⟩ xs).2) v' Lr' ∧ L' = (c, Obj.cells #[v'] 141) :: Lr') := by
  obtain ⟨q, cap, rfl, hl⟩ := hrow.lies
  refine trEnter Try.func40 rfl Try.ntmps40 (l := [(0, _), (1, _), (2, _)]) rfl rfl (fun w0 => ?_)
  refine gSeq ?_
  refine gText (σ := wk [(0, .p), (1, .p), (2, .p)]) rfl ?_
  refine pm rfl (mBox rfl rfl) (fun b4 => ?_)
  refine pm rfl (mBox rfl rfl) (fun b5 => ?_)
  refine pv rfl (rAs rfl) ?_
  refine gs_nil ?_
  refine gSeq ?_
  refine gD [b4, c] (wk [(0, .q), (1, .q), (2, .q), (3, .q), (4, .q), (5, .p), (6, .q), (7, .q), (8, .q), (9, .q), (10, .q)]) fol (by kernel_rfl) rfl (by kernel_rfl) ?_
  refine qv rfl (rMv rfl) ?_
  refine qv rfl (rNc rfl) ?_
  refine qv rfl (rFa fA141_0 rfl) ?_
  refine qv rfl (rLdN t1139 rfl rfl) ?_
  refine qv rfl (rLdA tA35 rfl rfl) ?_
  refine pf (R' := Lr) rfl eN65 (c65 cap xs s q Lr hl hlen ho) ?_
  refine qv rfl (rMv rfl) ?_
  refine qv rfl (rEx rfl rfl) ?_
  refine qv rfl (rEx rfl rfl) ?_
  refine qv rfl (rAs rfl) ?_
  refine qv rfl (rAs rfl) ?_
  refine gs_nil ?_
  refine gKeep [0, 4, 5, 6, 7, 8] rfl ?_
  refine gSeq ?_
  refine gSeq ?_
  refine gText (σ := wk [(0, .p), (1, .p), (2, .p), (3, .p), (4, .p), (5, .p)]) rfl ?_
  refine pv rfl (rMv rfl) ?_
  refine pv rfl (rMv rfl) ?_
  refine gB (e := 19) rfl (fun g19 => ?_) (fun g19 => ?_)
  · refine pn rfl ?_
    refine pn rfl ?_
    refine pn rfl ?_
    refine pv rfl (rPk rfl rfl) ?_
    refine gs_nil ?_
    refine gKeep [0, 4, 5, 6, 7, 23] rfl ?_
    refine gCondT rfl rfl ?_
    refine gSeq ?_
    refine gText (σ := wk [(0, .p)]) rfl ?_
    refine pv rfl (rAs rfl) ?_
    refine gs_nil ?_
    refine gRet ?_
    have e : addV ⟨s, w⟩ xs = (false, xs) := by simp [addV, g19]
    refine gEnd1 (L' := (c, Obj.cells #[.slice q xs.length cap] 141) :: Lr) Try.results40 (resT rfl) ⟨by rw [e], _, Lr, ?_, rfl⟩
    rw [e]; exact hrow
  · refine pv rfl (rLdA tA35 rfl rfl) ?_
    refine pf rfl eN50 (c50 _) ?_
    refine pv rfl (rNot rfl) ?_
    refine pv rfl (rPk rfl rfl) ?_
    refine gs_nil ?_
    refine gKeep [0, 4, 5, 6, 7, 23] rfl ?_
    refine gCond rfl (fun h1 => ?_) (fun h1 => ?_)
    · refine gSeq ?_
      refine gText (σ := wk [(0, .p)]) rfl ?_
      refine pv rfl (rAs rfl) ?_
      refine gs_nil ?_
      refine gRet ?_
      have e : addV ⟨s, w⟩ xs = (false, xs) := by simp at h1; simp [addV, h1]
      refine gEnd1 (L' := (c, Obj.cells #[.slice q xs.length cap] 141) :: Lr) Try.results40 (resT rfl) ⟨by rw [e], _, Lr, ?_, rfl⟩
      rw [e]; exact hrow
    · refine gSkip ?_
      refine gSeq ?_
      refine gD [b4, b5, c] (wk [(0, .q), (1, .q), (2, .q), (3, .q), (4, .q), (5, .q), (6, .q), (7, .q), (8, .q), (9, .p), (10, .p), (11, .q), (12, .q), (13, .p)]) fol (by kernel_rfl) rfl (by kernel_rfl) ?_
      refine qv rfl (rMv rfl) ?_
      refine qv rfl (rMv rfl) ?_
      refine qv rfl (rNc rfl) ?_
      refine qv rfl (rFa fA141_0 rfl) ?_
      refine qv rfl (rLdN t1139 rfl rfl) ?_
      refine qv rfl (rMv rfl) ?_
      refine qv rfl (rLdA tA35 rfl rfl) ?_
      refine qv rfl (rLdA tA42 rfl rfl) ?_
      refine qv rfl (rBu bU126 rfl rfl) ?_
      refine pm rfl (mBs bS139_1 rfl rfl) (fun b33 => ?_)
      refine pc (R' := [(b33, Obj.cells (List.toArray (verL ⟨s, w⟩)) 126)]) rfl eN68 (c68r xs _ Lr (slotV s xs) b33 ⟨s, w⟩ hrow (slotV_le s xs) hlen) (fun v' L' hv => ?_)
      obtain ⟨q', cap', rfl, _⟩ := hv.lies
      refine qv rfl (rNc rfl) ?_
      refine qv rfl (rFa fA141_0 rfl) ?_
      refine ps rfl (tSt t1139.2 rfl rfl rfl rfl rfl rfl rfl) (by kernel_rfl) ?_
      refine gKeep [6] rfl ?_
      refine gSeq ?_
      refine gText (σ := wk [(0, .p)]) rfl ?_
      refine pv rfl (rAs rfl) ?_
      refine gs_nil ?_
      refine gRet ?_
      have e : addV ⟨s, w⟩ xs = (true, xs.take (slotV s xs) ++ ⟨s, w⟩ :: xs.drop (slotV s xs)) := by simp at h1; simp [addV, h1, g19]
      refine gTk c ?_
      refine gEnd1 (hF := @Front.cons _ _ _ _ (Front.here _ _)) Try.results40 (resT rfl) ⟨by rw [e], _, L', ?_, rfl⟩
      rw [e]; exact hv

set_option maxRecDepth 4000 in
theorem c45 (c : Nat) (xs : List Ver) (h : Vec) (v : Value) (Lr : HL) (hrow : Row 126 9 xs.length (versL xs) v Lr) (hlen : xs.length ≤ 1000000) : Tr Try.prog 45 [.pointer (some ⟨c, 0, none⟩), vecV h] [] ((c, Obj.cells #[v] 141) :: Lr) (fun u L' => u = .int .i64 ((xs.length : Int) - (pruneV h xs).length) ∧ ∃ v' Lr', Row 126 9 (pruneV h xs).length (versL (pruneV h xs)) v' Lr' ∧ L' = (c, Obj.cells #[v'] 141) :: Lr') := by
  obtain ⟨q, cap, rfl, hl⟩ := hrow.lies
  have hpl : (pruneV h xs).length ≤ xs.length := List.length_filter_le _ _
  refine trEnter Try.func45 rfl Try.ntmps45 (l := [(0, _), (1, _)]) rfl rfl (fun w0 => ?_)
  refine gSeq ?_
  refine gText (σ := wk [(0, .p), (1, .p)]) rfl ?_
  refine pm rfl (mBox rfl rfl) (fun b3 => ?_)
  refine pv rfl (rAs rfl) ?_
  refine gs_nil ?_
  refine gSeq ?_
  refine gText (σ := wk [(0, .p), (1, .p), (2, .p), (3, .p), (4, .p), (5, .p)]) rfl ?_
  refine pv rfl (rMv rfl) ?_
  refine pv rfl (rNc rfl) ?_
  refine pv rfl (rFa fA141_0 rfl) ?_
  refine pv rfl (rLdN t1139 rfl rfl) ?_
  refine pv rfl (rLen uS139 rfl) ?_
  refine pv rfl (rAs rfl) ?_
  refine gs_nil ?_
  refine gKeep [0, 3, 4, 5] rfl ?_
  refine gSeq ?_
  refine gText (σ := wk [(0, .p), (1, .p), (2, .p), (3, .p), (4, .p), (5, .p), (6, .p), (7, .p), (8, .p)]) rfl ?_
  refine pv rfl (rMv rfl) ?_
  refine pv rfl (rLdA tA33 rfl rfl) ?_
  refine pf (R' := (c, Obj.cells #[.slice q xs.length cap] 141) :: Lr) rfl eN56 (c56 h c cap xs q Lr hl (by omega)) ?_
  refine pv rfl (rMv rfl) ?_
  refine pv rfl (rEx rfl rfl) ?_
  refine pv rfl (rEx rfl rfl) ?_
  refine pm rfl (mAlloc zC126) (fun b6 => ?_)
  refine ps0 rfl (tSt tA126.2 rfl rfl rfl rfl rfl rfl rfl) ?_
  refine pv rfl (rAs rfl) ?_
  refine gs_nil ?_
  refine gKeep [0, 3, 4, 5, 6] rfl ?_
  refine gSeq ?_
  refine gText (σ := wk [(0, .p), (1, .p), (2, .p), (3, .p), (4, .p), (5, .p), (6, .p), (7, .p), (8, .p), (9, .p)]) rfl ?_
  refine pv rfl (rMv rfl) ?_
  refine pv rfl (rMv rfl) ?_
  refine pv rfl (rNc rfl) ?_
  refine pv rfl (rFa fA141_0 rfl) ?_
  refine pv rfl (rLdN t1139 rfl rfl) ?_
  refine pv rfl (rMf rfl rfl) ?_
  refine pc (R' := [(b3, Obj.cells (vecL h).toArray 33), (b6, Obj.cells (List.toArray (verL ((lastOf (fun x => x.s.v.leq h) xs).getD Ver.zero))) 126)]) rfl eN69 (c69 70 eN70 (fun x => x.s.v.leq h && decide (x.s ≠ ((lastOf (fun x => x.s.v.leq h) xs).getD Ver.zero).s)) [.pointer (some ⟨b3, 0, none⟩), .pointer (some ⟨b6, 0, none⟩)] [(b3, Obj.cells (vecL h).toArray 33), (b6, Obj.cells (List.toArray (verL ((lastOf (fun x => x.s.v.leq h) xs).getD Ver.zero))) 126)] (fun x => c70 x ((lastOf (fun x => x.s.v.leq h) xs).getD Ver.zero) h b3 b6) xs _ Lr hrow (by omega)) (fun v' L' hv => ?_)
  change Row 126 9 (pruneV h xs).length (versL (pruneV h xs)) v' L' at hv
  obtain ⟨q', cap', rfl, _⟩ := hv.lies
  refine pv rfl (rNc rfl) ?_
  refine pv rfl (rFa fA141_0 rfl) ?_
  refine ps0 rfl (tSt t1139.2 rfl rfl rfl rfl rfl rfl rfl) ?_
  refine gs_nil ?_
  refine gKeep [0, 4, 5] rfl ?_
  refine gSeq ?_
  refine gText (σ := wk [(0, .p), (1, .p), (2, .p), (3, .p), (4, .p), (5, .p), (6, .p), (7, .p)]) rfl ?_
  refine pv rfl (rMv rfl) ?_
  refine pv rfl (rMv rfl) ?_
  refine pv rfl (rNc rfl) ?_
  refine pv rfl (rFa fA141_0 rfl) ?_
  refine pv rfl (rLdN t1139 rfl rfl) ?_
  refine pv rfl (rLen uS139 rfl) ?_
  refine pv rfl (rBin rfl rfl (bSubI (by omega))) ?_
  refine pv rfl (rAs rfl) ?_
  refine gs_nil ?_
  refine gKeep [4] rfl ?_
  refine gRet ?_
  refine gTk c ?_
  refine gEnd1 (hF := @Front.cons _ _ _ _ (Front.here _ _)) Try.results45 (resT rfl) ⟨rfl, _, L', hv, rfl⟩

set_option maxRecDepth 4000 in
theorem c58 (l ch cap sn rc : Nat) (bs : List Bat) : Pf Try.prog 58 [.pointer (some ⟨l, 0, none⟩)] [(l, Obj.cells #[.chan (some ch)] 135), (ch, .chan cap (batsV bs).toArray false sn rc false)] (.int .i64 bs.length) := by
  refine trEnter Try.func58 rfl Try.ntmps58 (l := [(0, _)]) rfl rfl (fun w0 => ?_)
  refine gSeq ?_
  refine gText (σ := wk [(0, .p)]) rfl ?_
  refine pv rfl (rAs rfl) ?_
  refine gs_nil ?_
  refine gSeq ?_
  refine gText (σ := wk [(0, .p), (1, .p), (2, .p), (3, .p), (4, .p), (5, .p)]) rfl ?_
  refine pv rfl (rMv rfl) ?_
  refine pv rfl (rNc rfl) ?_
  refine pv rfl (rFa fA135_0 rfl) ?_
  refine pv rfl (rLdN t1133 rfl rfl) ?_
  refine pv rfl (rLenC uC133 rfl) ?_
  refine pv rfl (rAs rfl) ?_
  refine gs_nil ?_
  refine gKeep [2] rfl ?_
  refine gRet ?_
  refine gEnd1 Try.results58 (resT rfl) ⟨?_, rfl⟩
  simp

set_option maxRecDepth 4000 in
theorem c59 (l ch cap sn rc : Nat) (bs : List Bat) : Pf Try.prog 59 [.pointer (some ⟨l, 0, none⟩)] [(l, Obj.cells #[.chan (some ch)] 135), (ch, .chan cap (batsV bs).toArray false sn rc false)] (.int .i64 cap) := by
  refine trEnter Try.func59 rfl Try.ntmps59 (l := [(0, _)]) rfl rfl (fun w0 => ?_)
  refine gSeq ?_
  refine gText (σ := wk [(0, .p)]) rfl ?_
  refine pv rfl (rAs rfl) ?_
  refine gs_nil ?_
  refine gSeq ?_
  refine gText (σ := wk [(0, .p), (1, .p), (2, .p), (3, .p), (4, .p), (5, .p)]) rfl ?_
  refine pv rfl (rMv rfl) ?_
  refine pv rfl (rNc rfl) ?_
  refine pv rfl (rFa fA135_0 rfl) ?_
  refine pv rfl (rLdN t1133 rfl rfl) ?_
  refine pv rfl (rCapC uC133 rfl) ?_
  refine pv rfl (rAs rfl) ?_
  refine gs_nil ?_
  refine gKeep [2] rfl ?_
  refine gRet ?_
  refine gEnd1 Try.results59 (resT rfl) ⟨?_, rfl⟩
  rfl

set_option maxRecDepth 4000 in
theorem c35 (room : Int) : Tr Try.prog 35 [.int .i64 room] [] [] (fun u L' => if room < 1 ∨ room > 16 then u = .tuple #[.pointer none, .int .i64 1] ∧ L' = [] else ∃ l ch, u = .tuple #[.pointer (some ⟨l, 0, none⟩), .int .i64 0] ∧ L' = [(l, Obj.cells #[.chan (some ch)] 135), (ch, .chan room.toNat #[] false 0 0 false)]) := by
  refine trEnter Try.func35 rfl Try.ntmps35 (l := [(0, _)]) rfl rfl (fun w0 => ?_)
  refine gSeq ?_
  refine gText (σ := wk [(0, .p), (1, .p)]) rfl ?_
  refine pv rfl (rAs rfl) ?_
  refine pv rfl (rAs rfl) ?_
  refine gs_nil ?_
  refine gSeq ?_
  refine gSeq ?_
  refine gText (σ := wk [(0, .p), (1, .p), (2, .p), (3, .p), (4, .p), (5, .p)]) rfl ?_
  refine pv rfl (rMv rfl) ?_
  refine pv rfl (rBin rfl rfl bLt) ?_
  refine pv rfl (rMv rfl) ?_
  refine gB (e := 6) rfl (fun g6 => ?_) (fun g6 => ?_)
  · refine pn rfl ?_
    refine pn rfl ?_
    refine pv rfl (rPk rfl rfl) ?_
    refine gs_nil ?_
    refine gKeep [0, 2, 3, 9] rfl ?_
    refine gCondT rfl rfl ?_
    refine gSeq ?_
    refine gText (σ := wk [(0, .p), (1, .p)]) rfl ?_
    refine pv rfl (rAs rfl) ?_
    refine pv rfl (rAs rfl) ?_
    refine gs_nil ?_
    refine gRet ?_
    refine gEnd2 (L' := []) Try.results35 (resT rfl) (resT rfl) ?_
    rw [if_pos (Or.inl (of_decide_eq_true g6))]; exact ⟨rfl, rfl⟩
  · refine pv rfl (rMv rfl) ?_
    refine pv rfl (rBin rfl rfl bGt) ?_
    refine pv rfl (rPk rfl rfl) ?_
    refine gs_nil ?_
    refine gKeep [0, 2, 3, 9] rfl ?_
    refine gCondD rfl (fun h1 => ?_) (fun h1 => ?_)
    · refine gSeq ?_
      refine gText (σ := wk [(0, .p), (1, .p)]) rfl ?_
      refine pv rfl (rAs rfl) ?_
      refine pv rfl (rAs rfl) ?_
      refine gs_nil ?_
      refine gRet ?_
      refine gEnd2 (L' := []) Try.results35 (resT rfl) (resT rfl) ?_
      rw [if_pos (Or.inr h1)]; exact ⟨rfl, rfl⟩
    · refine gSkip ?_
      refine gSeq ?_
      refine gText (σ := wk [(0, .p), (1, .p), (2, .p), (3, .p), (4, .p), (5, .p)]) rfl ?_
      refine pv rfl (rMv rfl) ?_
      obtain ⟨m, rfl⟩ : ∃ m : Nat, room = m := ⟨room.toNat, by have := of_decide_eq_false g6; omega⟩
      refine pm rfl (mChan Try.underlying133 (fun w => (bY95 w).imp fun ti h => ⟨h.1, by rw [h.2]; omega⟩) (by omega) rfl) (fun b11 => ?_)
      refine pv rfl (rBu bU135 rfl rfl) ?_
      refine pm rfl (mBox rfl rfl) (fun b13 => ?_)
      refine pv rfl (rAs rfl) ?_
      refine pv rfl (rAs rfl) ?_
      refine gs_nil ?_
      refine gKeep [2, 3] rfl ?_
      refine gRet ?_
      refine gEnd2 (L' := [(b13, Obj.cells #[.chan (some b11)] 135), (b11, .chan m #[] false 0 0 false)]) Try.results35 (resT rfl) (resT rfl) ?_
      rw [if_neg (by have := of_decide_eq_false g6; omega)]; exact ⟨b13, b11, rfl, rfl⟩

set_option maxRecDepth 4000 in
theorem c52 (l ch cap sn rc : Nat) (bs : List Bat) (x : Bat) : Tr Try.prog 52 [.pointer (some ⟨l, 0, none⟩), batV x] [] [(l, Obj.cells #[.chan (some ch)] 135), (ch, .chan cap (batsV bs).toArray false sn rc false)] (fun u L' => if bs.length < cap then u = .bool true ∧ L' = [(l, Obj.cells #[.chan (some ch)] 135), (ch, .chan cap (batsV (bs ++ [x])).toArray false (sn + 1) rc false)] else u = .bool false ∧ L' = [(l, Obj.cells #[.chan (some ch)] 135), (ch, .chan cap (batsV (bs)).toArray false sn rc false)]) := by
  refine trEnter Try.func52 rfl Try.ntmps52 (l := [(0, _), (1, _)]) rfl rfl (fun w0 => ?_)
  refine gSeq ?_
  refine gText (σ := wk [(0, .p), (1, .p)]) rfl ?_
  refine pm rfl (mBox rfl rfl) (fun b3 => ?_)
  refine pv rfl (rAs rfl) ?_
  refine gs_nil ?_
  refine gSeq ?_
  refine gSeq ?_
  refine gText (σ := wk [(0, .p), (1, .p), (2, .p), (3, .p)]) rfl ?_
  refine pv rfl (rMv rfl) ?_
  refine pv rfl (rNc rfl) ?_
  refine pv rfl (rFa fA135_0 rfl) ?_
  refine pv rfl (rLdN t1133 rfl rfl) ?_
  refine gs_nil ?_
  refine gKeep [3, 4, 8] rfl ?_
  refine gText (σ := wk [(0, .p)]) rfl ?_
  refine pv rfl (rLdA tA95 rfl rfl) ?_
  refine gs_nil ?_
  refine gSeq ?_
  refine gSend (z := .agg #[.int .u64 0, .int .u64 0, .int .u64 0, .int .u64 0, .int .i64 0, .slice none 0 0]) (f := fun o => [(b3, _), (l, _), (ch, o)]) (hs := inferInstance) rfl rfl rfl rfl rfl rfl (fun w => by kernel_rfl) rfl rfl (fun hlt => ?_) (fun hge => ?_)
  · have hlt' : bs.length < cap := by simpa using hlt
    refine pv rfl (rEx rfl rfl) ?_
    refine pv rfl (rBin rfl rfl bEq) ?_
    refine gs_nil ?_
    refine gKeep [4, 12] rfl ?_
    refine gBlock ?_
    refine gCondT rfl rfl ?_
    refine gSeq ?_
    refine gText (σ := wk [(0, .p)]) rfl ?_
    refine pv rfl (rAs rfl) ?_
    refine gs_nil ?_
    refine gRet ?_
    refine gEnd1 (L' := [(l, Obj.cells #[.chan (some ch)] 135), (ch, .chan cap ((batsV bs).toArray.push (batV x)) false (sn + 1) rc false)]) Try.results52 (resT rfl) ?_
    rw [if_pos hlt']; refine ⟨rfl, ?_⟩
    simp
  · have hge' : ¬ bs.length < cap := by simpa using hge
    refine pv rfl (rEx rfl rfl) ?_
    refine pv rfl (rBin rfl rfl bEq) ?_
    refine gs_nil ?_
    refine gKeep [4, 12] rfl ?_
    refine gBlock ?_
    refine gCondF rfl rfl ?_
    refine gSeq ?_
    refine gText (σ := wk [(0, .p)]) rfl ?_
    refine pv rfl (rAs rfl) ?_
    refine gs_nil ?_
    refine gRet ?_
    refine gEnd1 (L' := [(l, Obj.cells #[.chan (some ch)] 135), (ch, .chan cap (batsV bs).toArray false sn rc false)]) Try.results52 (resT rfl) ?_
    rw [if_neg hge']; exact ⟨rfl, rfl⟩

set_option maxRecDepth 4000 in
theorem c38 (l ch cap sn rc : Nat) (bs : List Bat) : Tr Try.prog 38 [.pointer (some ⟨l, 0, none⟩)] [] [(l, Obj.cells #[.chan (some ch)] 135), (ch, .chan cap (batsV bs).toArray false sn rc false)] (fun u L' => match bs with | [] => u = .tuple #[batV Bat.zero, .bool false] ∧ L' = [(l, Obj.cells #[.chan (some ch)] 135), (ch, .chan cap (batsV ([])).toArray false sn rc false)] | b :: bs' => u = .tuple #[batV b, .bool true] ∧ L' = [(l, Obj.cells #[.chan (some ch)] 135), (ch, .chan cap (batsV (bs')).toArray false sn (rc + 1) false)]) := by
  refine trEnter Try.func38 rfl Try.ntmps38 (l := [(0, _)]) rfl rfl (fun w0 => ?_)
  refine gSeq ?_
  refine gText (σ := wk [(0, .p), (1, .p)]) rfl ?_
  refine pm rfl (mAlloc zC95) (fun b2 => ?_)
  refine pv rfl (rAs rfl) ?_
  refine gs_nil ?_
  refine gSeq ?_
  refine gText (σ := wk [(0, .p), (1, .p), (2, .p), (3, .p)]) rfl ?_
  refine pv rfl (rMv rfl) ?_
  refine pv rfl (rNc rfl) ?_
  refine pv rfl (rFa fA135_0 rfl) ?_
  refine pv rfl (rLdN t1133 rfl rfl) ?_
  refine gs_nil ?_
  refine gKeep [2, 3, 7] rfl ?_
  refine gSeq ?_
  refine gRecv (z := .agg #[.int .u64 0, .int .u64 0, .int .u64 0, .int .u64 0, .int .i64 0, .slice none 0 0]) (buf := batsV bs) (f := fun o => [(b2, _), (l, _), (ch, o)]) (hs := inferInstance) rfl rfl rfl rfl rfl rfl (fun w => by kernel_rfl) rfl (fun v vs hv => ?_) (fun hv => ?_)
  · obtain ⟨b, bs', rfl, rfl, rfl⟩ : ∃ b bs', bs = b :: bs' ∧ v = batV b ∧ vs = batsV bs' := by
        cases bs with
        | nil => cases hv
        | cons b bs' => simp only [batsV, List.map_cons, List.cons.injEq] at hv; exact ⟨b, bs', rfl, hv.1.symm, hv.2.symm⟩
    refine pv rfl (rEx rfl rfl) ?_
    refine pv rfl (rBin rfl rfl bEq) ?_
    refine gs_nil ?_
    refine gBlock ?_
    refine gCondT rfl rfl ?_
    refine gSeq ?_
    refine gText (σ := wk [(0, .p), (1, .p)]) rfl ?_
    refine pv rfl (rEx rfl rfl) ?_
    refine ps0 rfl (tSt tA95.2 rfl rfl rfl rfl rfl rfl rfl) ?_
    refine gs_nil ?_
    refine gKeep [2, 3] rfl ?_
    refine gSeq ?_
    refine gText (σ := wk [(0, .p), (1, .p), (2, .p)]) rfl ?_
    refine pv rfl (rLdA tA95 rfl rfl) ?_
    refine ps0 rfl (tSt tA95.2 rfl rfl rfl rfl rfl rfl rfl) ?_
    refine pv rfl (rAs rfl) ?_
    refine gs_nil ?_
    refine gRet ?_
    refine gEnd2 (L' := [(l, Obj.cells #[.chan (some ch)] 135), (ch, .chan cap (batsV (bs')).toArray false sn (rc + 1) false)]) Try.results38 (resA tA95 rfl rfl) (resT rfl) ⟨rfl, rfl⟩
  · have hb : bs = [] := by simpa using hv
    subst hb
    refine pv rfl (rEx rfl rfl) ?_
    refine pv rfl (rBin rfl rfl bEq) ?_
    refine gs_nil ?_
    refine gBlock ?_
    refine gCondF rfl rfl ?_
    refine gSeq ?_
    refine gText (σ := wk [(0, .p), (1, .p), (2, .p)]) rfl ?_
    refine pv rfl (rLdA tA95 rfl rfl) ?_
    refine ps0 rfl (tSt tA95.2 rfl rfl rfl rfl rfl rfl rfl) ?_
    refine pv rfl (rAs rfl) ?_
    refine gs_nil ?_
    refine gKeep [2, 3] rfl ?_
    refine gRet ?_
    refine gEnd2 (L' := [(l, Obj.cells #[.chan (some ch)] 135), (ch, .chan cap (batsV ([])).toArray false sn rc false)]) Try.results38 (resA tA95 rfl rfl) (resT rfl) ⟨rfl, rfl⟩
end Go.Proofs.Yteeobhehfdifnaa
set_option linter.unusedVariables false
set_option linter.unusedSimpArgs false
namespace Go.Proofs.Yteeobhehfdifnaa
open Go TB Go.Proofs
abbrev T0 : ShT := ⟨126, 141, 42, 135, 98⟩
theorem t191 : T1 Try.prog 91 := ⟨fun w => by kernel_rfl, fun w => by kernel_rfl⟩
theorem bU95 : BU Try.prog 95 [(0, 5), (5, 1)] [.int .u64 0, .int .u64 0, .int .u64 0, .int .u64 0, .int .i64 0, .slice none 0 0] := bu_struct (v := .agg #[.int .u64 0, .int .u64 0, .int .u64 0, .int .u64 0, .int .i64 0, .slice none 0 0]) Try.underlying95 (fun w => by kernel_rfl) rfl (fun w => by kernel_rfl)
theorem bU98 : BU Try.prog 98 [(0, 1), (1, 1), (2, 4)] [.pointer none, .map none, .int .u64 0, .int .u64 0, .int .u64 0, .int .u64 0] := bu_struct (v := .agg #[.pointer none, .map none, .int .u64 0, .int .u64 0, .int .u64 0, .int .u64 0]) Try.underlying98 (fun w => by kernel_rfl) rfl (fun w => by kernel_rfl)
theorem eN35 : EN Try.prog 35 := fun args w => by kernel_rfl
theorem eN48 : EN Try.prog 48 := fun args w => by kernel_rfl
theorem eN49 : EN Try.prog 49 := fun args w => by kernel_rfl
theorem eN51 : EN Try.prog 51 := fun args w => by kernel_rfl
theorem eN52 : EN Try.prog 52 := fun args w => by kernel_rfl
theorem eN53 : EN Try.prog 53 := fun args w => by kernel_rfl
theorem eN58 : EN Try.prog 58 := fun args w => by kernel_rfl
theorem eN59 : EN Try.prog 59 := fun args w => by kernel_rfl
theorem fA98_0 : FA Try.prog 98 0 0 := fun b o w => by kernel_rfl
theorem fA98_2 : FA Try.prog 98 2 2 := fun b o w => by kernel_rfl
theorem aP49 : AP Try.prog 49 42 4 56 := ap_of (z := .agg #[.string ⟨#[]⟩, .string ⟨#[]⟩, .string ⟨#[]⟩, .bool false]) Try.underlying49 (by kernel_rfl) rfl (by decide) (by decide)
set_option maxRecDepth 4000 in
theorem c9 (room : Int) : Tr Try.prog 9 [.int .i64 room] [] [] (fun u L' => if room < 1 ∨ room > 16 then u = .tuple #[.pointer none, .int .i64 1] ∧ L' = [] else ∃ s, u = .tuple #[.pointer (some ⟨s, 0, none⟩), .int .i64 0] ∧ ShRep T0 s ⟨room.toNat, [], fun _ => [], Vec.zero⟩ L') := by
  refine trEnter Try.func9 rfl Try.ntmps9 (l := [(0, _)]) rfl rfl (fun w0 => ?_)
  refine gSeq ?_
  refine gText (σ := wk [(0, .p), (1, .p)]) rfl ?_
  refine pv rfl (rAs rfl) ?_
  refine pv rfl (rAs rfl) ?_
  refine gs_nil ?_
  refine gSeq ?_
  refine gText (σ := wk [(0, .p), (1, .p), (2, .p), (3, .p), (4, .p), (5, .p), (6, .p)]) rfl ?_
  refine pv rfl (rMv rfl) ?_
  refine pc (R' := []) rfl eN35 (c35 room) (fun v L' hv => ?_)
  split at hv
  · rename_i hr
    obtain ⟨rfl, rfl⟩ := hv
    simp only [List.nil_append]
    refine pv rfl (rMv rfl) ?_
    refine pv rfl (rEx rfl rfl) ?_
    refine pv rfl (rEx rfl rfl) ?_
    refine pv rfl (rAs rfl) ?_
    refine pv rfl (rAs rfl) ?_
    refine gs_nil ?_
    refine gKeep [2, 3, 4, 5] rfl ?_
    refine gSeq ?_
    refine gSeq ?_
    refine gText (σ := wk [(0, .p), (1, .p)]) rfl ?_
    refine pv rfl (rMv rfl) ?_
    refine pv rfl (rBin rfl rfl bNe) ?_
    refine gs_nil ?_
    refine gCondT rfl (by decide) ?_
    refine gSeq ?_
    refine gText (σ := wk [(0, .p), (1, .p), (2, .p)]) rfl ?_
    refine pv rfl (rMv rfl) ?_
    refine pv rfl (rAs rfl) ?_
    refine pv rfl (rAs rfl) ?_
    refine gs_nil ?_
    refine gKeep [2, 3, 4] rfl ?_
    refine gRet ?_
    refine gEnd2 (L' := []) Try.results9 (resT rfl) (resT rfl) ?_
    rw [if_pos hr]; exact ⟨rfl, rfl⟩
  · rename_i hr
    obtain ⟨l, ch, rfl, rfl⟩ := hv
    simp only [List.cons_append, List.nil_append]
    refine pv rfl (rMv rfl) ?_
    refine pv rfl (rEx rfl rfl) ?_
    refine pv rfl (rEx rfl rfl) ?_
    refine pv rfl (rAs rfl) ?_
    refine pv rfl (rAs rfl) ?_
    refine gs_nil ?_
    refine gKeep [2, 3, 4, 5] rfl ?_
    refine gSeq ?_
    refine gSeq ?_
    refine gText (σ := wk [(0, .p), (1, .p)]) rfl ?_
    refine pv rfl (rMv rfl) ?_
    refine pv rfl (rBin rfl rfl bNe) ?_
    refine gs_nil ?_
    refine gCondF rfl (by decide) ?_
    refine gSkip ?_
    refine gSeq ?_
    refine gText (σ := wk [(0, .p), (1, .p), (2, .p), (3, .p), (4, .p), (5, .p)]) rfl ?_
    refine pv rfl (rMv rfl) ?_
    refine pm rfl mMap (fun b15 => ?_)
    refine pv rfl (rBu bU98 rfl rfl) ?_
    refine pm rfl (mBox rfl rfl) (fun b17 => ?_)
    refine pv rfl (rAs rfl) ?_
    refine pv rfl (rAs rfl) ?_
    refine gs_nil ?_
    refine gKeep [2, 3] rfl ?_
    refine gRet ?_
    refine gEnd2 (hF := Front.all _) Try.results9 (resT rfl) (resT rfl) ?_
    rw [if_neg hr]; exact ⟨b17, rfl, l, ch, b15, [], [], 0, 0, 0, [], [], List.Perm.cons _ ((List.Perm.swap _ _ _).trans (List.Perm.cons _ (List.Perm.swap _ _ _))), ⟨rfl, rfl⟩, rfl, ⟨List.nodup_nil, List.nodup_nil, (fun e he => nomatch he), fun k _ => rfl⟩⟩

set_option maxRecDepth 4000 in
theorem c26 (s : Nat) (σ : ShS) (H : HL) (h : ShRep T0 s σ H) : Pf Try.prog 26 [.pointer (some ⟨s, 0, none⟩)] H (.int .i64 (σ.q.length : Nat)) := by
  obtain ⟨l, ch, m, bs, es, clock, sn, rc, WH, CH, hp, hW, hC, hE⟩ := h
  refine Tr.permR hp ?_
  dsimp only [shL, T0] at hp hW hC ⊢
  refine trEnter Try.func26 rfl Try.ntmps26 (l := [(0, _)]) rfl rfl (fun w0 => ?_)
  refine gSeq ?_
  refine gText (σ := wk [(0, .p)]) rfl ?_
  refine pv rfl (rAs rfl) ?_
  refine gs_nil ?_
  refine gSeq ?_
  refine gText (σ := wk [(0, .p), (1, .p), (2, .p), (3, .p), (4, .p), (5, .p)]) rfl ?_
  refine pv rfl (rMv rfl) ?_
  refine pv rfl (rNc rfl) ?_
  refine pv rfl (rFa fA98_0 rfl) ?_
  refine pv rfl (rLdN t191 rfl rfl) ?_
  refine pf (R' := [(l, Obj.cells #[.chan (some ch)] 135), (ch, .chan σ.room (batsV bs).toArray false sn rc false)]) rfl eN58 (c58 l ch σ.room sn rc bs) ?_
  refine pv rfl (rAs rfl) ?_
  refine gs_nil ?_
  refine gKeep [2] rfl ?_
  refine gRet ?_
  refine gEnd1 Try.results26 (resT rfl) ⟨?_, rfl⟩
  rw [hW.len]

set_option maxRecDepth 4000 in
theorem c27 (s : Nat) (σ : ShS) (H : HL) (h : ShRep T0 s σ H) (hro : σ.room ≤ 16) (hq : σ.q.length ≤ 1000000) : Pf Try.prog 27 [.pointer (some ⟨s, 0, none⟩)] H (.int .i64 ((σ.room : Int) - σ.q.length)) := by
  obtain ⟨l, ch, m, bs, es, clock, sn, rc, WH, CH, hp, hW, hC, hE⟩ := h
  refine Tr.permR hp ?_
  dsimp only [shL, T0] at hp hW hC ⊢
  have hwl := hW.len
  refine trEnter Try.func27 rfl Try.ntmps27 (l := [(0, _)]) rfl rfl (fun w0 => ?_)
  refine gSeq ?_
  refine gText (σ := wk [(0, .p)]) rfl ?_
  refine pv rfl (rAs rfl) ?_
  refine gs_nil ?_
  refine gSeq ?_
  refine gD [] (wk [(0, .q), (1, .q), (2, .q), (3, .q), (5, .q), (6, .q), (7, .q), (8, .q), (4, .p), (9, .p), (10, .q), (11, .q)]) fol (by kernel_rfl) rfl (by kernel_rfl) ?_
  refine qv rfl (rMv rfl) ?_
  refine qv rfl (rNc rfl) ?_
  refine qv rfl (rFa fA98_0 rfl) ?_
  refine qv rfl (rLdN t191 rfl rfl) ?_
  refine qv rfl (rMv rfl) ?_
  refine qv rfl (rNc rfl) ?_
  refine qv rfl (rFa fA98_0 rfl) ?_
  refine qv rfl (rLdN t191 rfl rfl) ?_
  refine pf (R' := [(l, Obj.cells #[.chan (some ch)] 135), (ch, .chan σ.room (batsV bs).toArray false sn rc false)]) rfl eN59 (c59 l ch σ.room sn rc bs) ?_
  refine pf (R' := [(l, Obj.cells #[.chan (some ch)] 135), (ch, .chan σ.room (batsV bs).toArray false sn rc false)]) rfl eN58 (c58 l ch σ.room sn rc bs) ?_
  refine qv rfl (rBin rfl rfl (bSubI (by omega))) ?_
  refine qv rfl (rAs rfl) ?_
  refine gs_nil ?_
  refine gKeep [2] rfl ?_
  refine gRet ?_
  refine gEnd1 Try.results27 (resT rfl) ⟨?_, rfl⟩
  rw [hwl]

set_option maxRecDepth 4000 in
theorem c28 (s : Nat) (σ : ShS) (H : HL) (h : ShRep T0 s σ H) : Pf Try.prog 28 [.pointer (some ⟨s, 0, none⟩)] H (vecV σ.ap) := by
  obtain ⟨l, ch, m, bs, es, clock, sn, rc, WH, CH, hp, hW, hC, hE⟩ := h
  refine Tr.permR hp ?_
  dsimp only [shL, T0] at hp hW hC ⊢
  refine trEnter Try.func28 rfl Try.ntmps28 (l := [(0, _)]) rfl rfl (fun w0 => ?_)
  refine gSeq ?_
  refine gText (σ := wk [(0, .p)]) rfl ?_
  refine pm rfl (mAlloc zC33) (fun b2 => ?_)
  refine gs_nil ?_
  refine gSeq ?_
  refine gText (σ := wk [(0, .p), (1, .p), (2, .p), (3, .p), (4, .p)]) rfl ?_
  refine pv rfl (rMv rfl) ?_
  refine pv rfl (rNc rfl) ?_
  refine pv rfl (rFa fA98_2 rfl) ?_
  refine pv rfl (rLdA tA33 rfl rfl) ?_
  refine ps0 rfl (tSt tA33.2 rfl rfl rfl rfl rfl rfl rfl) ?_
  refine gs_nil ?_
  refine gKeep [2] rfl ?_
  refine gRet ?_
  refine gEnd1 Try.results28 (resA tA33 rfl rfl) ⟨?_, rfl⟩
  rfl

set_option maxRecDepth 4000 in
theorem c48 (x : Write) : Pf Try.prog 48 [writeV x] [] (.bool (!x.ok)) := by
  refine trEnter Try.func48 rfl Try.ntmps48 (l := [(0, _)]) rfl rfl (fun w0 => ?_)
  refine gSeq ?_
  refine gText (σ := wk [(0, .p), (1, .p)]) rfl ?_
  refine pm rfl (mBox rfl rfl) (fun b1 => ?_)
  refine pv rfl (rAs rfl) ?_
  refine gs_nil ?_
  refine gSeq ?_
  refine gText (σ := wk [(0, .p), (1, .p), (2, .p), (3, .p)]) rfl ?_
  refine pv rfl (rLdA tA42 rfl rfl) ?_
  refine pf rfl eN49 (c49 x) ?_
  refine pv rfl (rNot rfl) ?_
  refine pv rfl (rAs rfl) ?_
  refine gs_nil ?_
  refine gKeep [2] rfl ?_
  refine gRet ?_
  refine gEnd1 Try.results48 (resT rfl) ⟨?_, rfl⟩
  rfl

set_option maxRecDepth 4000 in
theorem c53n (c : Nat) : Tr Try.prog 53 [.slice none 0 c] [] [] (fun u L' => u = .slice none 0 0 ∧ L' = []) := by
  refine trEnter Try.func53 rfl Try.ntmps53 (l := [(0, _)]) rfl rfl (fun w0 => ?_)
  refine gSeq ?_
  refine gText (σ := wk [(0, .p)]) rfl ?_
  refine pv rfl (rAs rfl) ?_
  refine gs_nil ?_
  refine gSeq ?_
  refine gSeq ?_
  refine gText (σ := wk [(0, .p), (1, .p)]) rfl ?_
  refine pv rfl (rMv rfl) ?_
  refine pv rfl (rBin rfl rfl (bSlNil ⟨_, Try.underlying49⟩)) ?_
  refine gs_nil ?_
  refine gCondT rfl rfl ?_
  refine gSeq ?_
  refine gText (σ := wk [(0, .p)]) rfl ?_
  refine pv rfl (rAs rfl) ?_
  refine gs_nil ?_
  refine gRet ?_
  refine gEnd1 (L' := []) Try.results53 (resT rfl) ⟨rfl, rfl⟩

set_option maxRecDepth 4000 in
theorem c53s (ws : List Write) (b o cap : Nat) (cl : List Value) (E : Nat) (fr : Nat × Nat) (R : HL) (hm : (b, Obj.cells (List.toArray cl) E fr) ∈ R) (hv : ∀ j, j < (writesL ws).length → cl[o + j]? = (writesL ws)[j]?) (hlen : ws.length ≤ 1000000) : Tr Try.prog 53 [.slice (some ⟨b, o, none⟩) ws.length cap] R [] (fun u L' => Row 42 4 ws.length (writesL ws) u L') := by
  refine trEnter Try.func53 rfl Try.ntmps53 (l := [(0, _)]) rfl rfl (fun w0 => ?_)
  refine gSeq ?_
  refine gText (σ := wk [(0, .p)]) rfl ?_
  refine pv rfl (rAs rfl) ?_
  refine gs_nil ?_
  refine gSeq ?_
  refine gSeq ?_
  refine gText (σ := wk [(0, .p), (1, .p)]) rfl ?_
  refine pv rfl (rMv rfl) ?_
  refine pv rfl (rBin rfl rfl (bSlNil ⟨_, Try.underlying49⟩)) ?_
  refine gs_nil ?_
  refine gCondF rfl rfl ?_
  refine gSkip ?_
  refine gSeq ?_
  refine gText (σ := wk [(0, .p), (1, .p), (2, .p), (3, .p)]) rfl ?_
  refine pm rfl (mBs0 (sz := 4) Try.underlying49 (fun w => by kernel_rfl)) (fun b5 => ?_)
  refine pv rfl (rMv rfl) ?_
  refine papp (news := writesL ws) (m := ws.length) (xs := []) (L1 := [(b5, Obj.cells #[] 42)]) aP49 rfl rfl ⟨rfl, .inr ⟨b5, 0, #[], rfl, rfl, Nat.le_refl _, by decide, rfl, rfl⟩⟩ rfl (List.mem_append_right _ hm) (writesL_len ws) (fun j u h => (hv j (List.getElem?_eq_some_iff.1 h).1).trans h) (writesL_one ws) (by omega) (fun v' L' hv => ?_)
  rw [Nat.zero_add, List.nil_append] at hv
  rw [List.append_nil]
  refine pv rfl (rAs rfl) ?_
  refine gs_nil ?_
  refine gKeep [2] rfl ?_
  refine gRet ?_
  refine gEnd1 (hF := Front.all _) Try.results53 (resT rfl) hv

theorem c53 (ws : List Write) (p : Option Addr) (cap : Nat) (R : HL) (h : Src R p ws.length (writesL ws)) (hlen : ws.length ≤ 1000000) : Tr Try.prog 53 [.slice p ws.length cap] R [] (fun u L' => Row 42 4 ws.length (writesL ws) u L') := by
  rcases h with ⟨rfl, h0⟩ | ⟨b, o, cl, E, fr, rfl, h2, h3⟩
  · have hw : ws = [] := List.eq_nil_of_length_eq_zero h0
    subst hw
    intro w hR hL nd hd
    refine (c53n cap w (fun x hx => nomatch hx) hL nd (fun k hk => nomatch hk)).mono fun e w' hq => ?_
    cases e with
    | returned v => obtain ⟨L', ⟨rfl, rfl⟩, h2⟩ := hq; exact ⟨[], Row.nil _ _, h2⟩
    | panicked c => exact hq
    | outgrown => exact hq
  · exact c53s ws b o cap cl E fr R h2 h3 hlen

set_option maxRecDepth 4000 in
theorem c18 (s : Nat) (σ : ShS) (H : HL) (h : ShRep T0 s σ H) (st : Stamp) (ws : List Write) (p : Option Addr) (cap : Nat) (R : HL) (hsrc : Src R p ws.length (writesL ws)) (hlen : ws.length ≤ 1000000) : Tr Try.prog 18 [.pointer (some ⟨s, 0, none⟩), stampV st, .slice p ws.length cap] R H (fun u L' => u = .bool (pushOK σ st ws) ∧ ShRep T0 s (σ.push st ws) L') := by
  obtain ⟨l, ch, m, bs, es, clock, sn, rc, WH, CH, hp, hW, hC, hE⟩ := h
  refine Tr.perm hp ?_
  dsimp only [shL, T0] at hp hW hC ⊢
  have hwl := hW.len
  have hnot : ∀ c, pushOK σ st ws = c → c = false → σ.push st ws = σ := fun c h1 h2 => by rw [ShS.push, h1, h2]; rfl
  refine trEnter Try.func18 rfl Try.ntmps18 (l := [(0, _), (1, _), (2, _)]) rfl rfl (fun w0 => ?_)
  refine gSeq ?_
  refine gText (σ := wk [(0, .p), (1, .p)]) rfl ?_
  refine pm rfl (mBox rfl rfl) (fun b4 => ?_)
  refine pv rfl (rAs rfl) ?_
  refine gs_nil ?_
  refine gSeq ?_
  refine gText (σ := wk [(0, .p)]) rfl ?_
  refine pv rfl (rAs rfl) ?_
  refine gs_nil ?_
  refine gSeq ?_
  refine gD [b4, s] (wk [(0, .q), (1, .p), (2, .q), (3, .q), (4, .q), (5, .p), (6, .q), (7, .q), (8, .q), (9, .q), (10, .q), (11, .q), (12, .q), (13, .q), (14, .q), (15, .p), (16, .q), (17, .p), (18, .q), (19, .q)]) fol (by kernel_rfl) rfl (by kernel_rfl) ?_
  refine qv rfl (rLdA tA35 rfl rfl) ?_
  refine pf rfl eN50 (c50 _) ?_
  refine qv rfl (rMv rfl) ?_
  refine gB (e := 10) rfl (fun g10 => ?_) (fun g10 => ?_)
  · refine qv rfl (rMv rfl) ?_
    refine qv rfl (rMv rfl) ?_
    refine pf (R' := R ++ []) rfl eN51 (c51 48 eN48 (fun w => !w.ok) [] [] (fun x => c48 x) cap ws p R (hsrc.lies (writesL_len ws)) (by omega)) ?_
    refine qv rfl (rNot rfl) ?_
    refine qv rfl (rPk rfl rfl) ?_
    refine qv rfl (rMv rfl) ?_
    refine gB (e := 16) rfl (fun g16 => ?_) (fun g16 => ?_)
    · refine qv rfl (rMv rfl) ?_
      refine qv rfl (rNc rfl) ?_
      refine qv rfl (rFa fA98_0 rfl) ?_
      refine qv rfl (rLdN t191 rfl rfl) ?_
      refine qv rfl (rLdA tA35 rfl rfl) ?_
      refine qv rfl (rMv rfl) ?_
      refine pc (R' := R) rfl eN53 (c53 ws p cap R hsrc hlen) (fun v Lc hv => ?_)
      obtain ⟨p', cap', rfl, _⟩ := hv.lies
      refine qv rfl (rBu bU95 rfl rfl) ?_
      refine pc (R' := []) (L1 := [(l, Obj.cells #[.chan (some ch)] 135), (ch, .chan σ.room (batsV bs).toArray false sn rc false)]) rfl eN52 (c52 l ch σ.room sn rc bs ⟨st, p', ws.length, cap'⟩) (fun v L' hv2 => ?_)
      split at hv2
      · rename_i hlt
        obtain ⟨rfl, rfl⟩ := hv2
        refine qv rfl (rPk rfl rfl) ?_
        refine qv rfl (rAs rfl) ?_
        refine gs_nil ?_
        refine gKeep [6] rfl ?_
        refine gRet ?_
        have e : pushOK σ st ws = true := by rw [idx_all] at g16; simp at g16; simp [pushOK, g10, ← hwl, hlt]; exact g16
        have e2 : σ.push st ws = { σ with q := σ.q ++ [(st, ws)] } := by rw [ShS.push, e]; rfl
        refine gDrop [(b4, Obj.cells (List.toArray (stampL st)) 35)] ?_
        refine gTo (shL T0 s l ch m σ (bs ++ [⟨st, p', ws.length, cap'⟩]) es clock (sn + 1) rc ((WH ++ Lc) ++ CH)) ?_
        refine gEnd1 (hF := Front.all _) Try.results18 (resT rfl) ⟨by rw [e], ?_⟩
        rw [e2]; exact ⟨l, ch, m, _, es, clock, sn + 1, rc, WH ++ Lc, CH, List.Perm.refl _, hW.add hv, hC, hE⟩
      · rename_i hlt
        obtain ⟨rfl, rfl⟩ := hv2
        refine qv rfl (rPk rfl rfl) ?_
        refine qv rfl (rAs rfl) ?_
        refine gs_nil ?_
        refine gKeep [6] rfl ?_
        refine gRet ?_
        have e : pushOK σ st ws = false := by simp [pushOK, ← hwl, hlt]
        refine gDrop [(b4, Obj.cells (List.toArray (stampL st)) 35)] ?_
        refine gDrop Lc ?_
        refine gTo (shL T0 s l ch m σ bs es clock sn rc (WH ++ CH)) ?_
        refine gEnd1 (hF := Front.all _) Try.results18 (resT rfl) ⟨by rw [e], ?_⟩
        rw [hnot _ e rfl]; exact ⟨l, ch, m, _, es, clock, sn, rc, WH, CH, List.Perm.refl _, hW, hC, hE⟩
    · refine qn rfl ?_
      refine qn rfl ?_
      refine qn rfl ?_
      refine qn rfl ?_
      refine qn rfl ?_
      refine qn rfl ?_
      refine pn rfl ?_
      refine qn rfl ?_
      refine pn rfl ?_
      refine qv rfl (rPk rfl rfl) ?_
      refine qv rfl (rAs rfl) ?_
      refine gs_nil ?_
      refine gKeep [6] rfl ?_
      refine gRet ?_
      have e : pushOK σ st ws = false := by rw [idx_all] at g16; simp at g16; simp [pushOK, g10]; intro h1; exact absurd h1 (by simpa using g16)
      refine gEnd1 (L' := shL T0 s l ch m σ bs es clock sn rc (WH ++ CH)) Try.results18 (resT rfl) ⟨by rw [e], ?_⟩
      rw [hnot _ e rfl]; exact ⟨l, ch, m, _, es, clock, sn, rc, WH, CH, List.Perm.refl _, hW, hC, hE⟩
  · refine qn rfl ?_
    refine qn rfl ?_
    refine pn rfl ?_
    refine qn rfl ?_
    refine qv rfl (rPk rfl rfl) ?_
    refine qv rfl (rMv rfl) ?_
    refine qn rfl ?_
    refine qn rfl ?_
    refine qn rfl ?_
    refine qn rfl ?_
    refine qn rfl ?_
    refine qn rfl ?_
    refine pn rfl ?_
    refine qn rfl ?_
    refine pn rfl ?_
    refine qv rfl (rPk rfl rfl) ?_
    refine qv rfl (rAs rfl) ?_
    refine gs_nil ?_
    refine gKeep [6] rfl ?_
    refine gRet ?_
    have e : pushOK σ st ws = false := by simp [pushOK, g10]
    refine gEnd1 (L' := shL T0 s l ch m σ bs es clock sn rc (WH ++ CH)) Try.results18 (resT rfl) ⟨by rw [e], ?_⟩
    rw [hnot _ e rfl]; exact ⟨l, ch, m, _, es, clock, sn, rc, WH, CH, List.Perm.refl _, hW, hC, hE⟩
end Go.Proofs.Yteeobhehfdifnaa
set_option linter.unusedVariables false
set_option linter.unusedSimpArgs false
namespace Go.Proofs.Yteeobhehfdifnaa
open Go TB Go.Proofs
theorem kT115 : KT Try.prog 115 := by
  refine ⟨⟨_, Try.underlying115⟩, fun e k w => ?_, fun k k' w => ?_⟩
  · unfold keyV; kernel_rfl
  · have hS : Try.prog.underlying 115 = some (.struct (Try.prog.fieldsOf 115)) := by kernel_rfl
    have hp : Try.prog.stoodInHeld 115 = false := by kernel_rfl
    show (Op.equalIn (9998 + 1 + 1) 115 (keyV k) (keyV k')).run Try.prog w = _
    unfold keyV
    rw [run_equalIn_agg w (9998 + 1) 115 _ _ hS hp]
    have a9 : ∀ w, (isAgg 9).run Try.prog w = .ok false w := fun w => by kernel_rfl
    have e2 : ∀ (x y : ByteArray) w, (Op.equalIn (9998 + 1) 9 (.string x) (.string y)).run Try.prog w = .ok (decide (x = y)) w := fun x y w => by
      rw [run_equalIn_string w 9998 9 x y Try.underlying9, TB.bytes_beq]
    simp only [Program.fieldsOf, Try.underlying115]
    generalize 9998 + 1 = d at e2 ⊢
    simp [Op.eqFields, part, a9, e2]
    obtain ⟨a, b⟩ := k
    obtain ⟨c, d⟩ := k'
    by_cases h0 : a = c <;> by_cases h1 : b = d <;> simp [h0, h1]


theorem t196 : T1 Try.prog 96 := ⟨fun w => by kernel_rfl, fun w => by kernel_rfl⟩
theorem tA115 : TA Try.prog 115 2 := ⟨fun w => by kernel_rfl, fun w => by kernel_rfl⟩
theorem bU115 : BU Try.prog 115 [(0, 1), (1, 1)] [.string ⟨#[]⟩, .string ⟨#[]⟩] := bu_struct (v := .agg #[.string ⟨#[]⟩, .string ⟨#[]⟩]) Try.underlying115 (fun w => by kernel_rfl) rfl (fun w => by kernel_rfl)
theorem eN39 : EN Try.prog 39 := fun args w => by kernel_rfl
theorem eN64 : EN Try.prog 64 := fun args w => by kernel_rfl
theorem fA126_1 : FA Try.prog 126 1 5 := fun b o w => by kernel_rfl
theorem fA98_1 : FA Try.prog 98 1 1 := fun b o w => by kernel_rfl
theorem zC115 : ZC Try.prog 115 [.string ⟨#[]⟩, .string ⟨#[]⟩] := fun w => ⟨.agg #[.string ⟨#[]⟩, .string ⟨#[]⟩], by kernel_rfl, rfl⟩
theorem zC35 : ZC Try.prog 35 [.int .u64 0, .int .u64 0, .int .u64 0, .int .u64 0, .int .i64 0] := fun w => ⟨.agg #[.int .u64 0, .int .u64 0, .int .u64 0, .int .u64 0, .int .i64 0], by kernel_rfl, rfl⟩
set_option maxRecDepth 4000 in
theorem c39 (s : Nat) (σ : ShS) (H : HL) (h : ShRep T0 s σ H) (bk ky : ByteArray) : Tr Try.prog 39 [.pointer (some ⟨s, 0, none⟩), .string bk, .string ky] [] H (fun u L' => ∃ c v Lr rest, u = .pointer (some ⟨c, 0, none⟩) ∧ Row 126 9 (σ.g (bk, ky)).length (versL (σ.g (bk, ky))) v Lr ∧ L' = (c, Obj.cells #[v] 141) :: (Lr ++ rest) ∧ ShAt T0 s σ (bk, ky) c rest) := by
  obtain ⟨l, ch, m, bs, es, clock, sn, rc, WH, CH, hp, hW, hC, hE⟩ := h
  refine Tr.perm hp ?_
  dsimp only [shL, T0] at hp ⊢
  refine trEnter Try.func39 rfl Try.ntmps39 (l := [(0, _), (1, _), (2, _)]) rfl rfl (fun w0 => ?_)
  refine gSeq ?_
  refine gText (σ := wk [(0, .p)]) rfl ?_
  refine pv rfl (rAs rfl) ?_
  refine gs_nil ?_
  refine gSeq ?_
  refine gText (σ := wk [(0, .p), (1, .p), (2, .p), (3, .p), (4, .p)]) rfl ?_
  refine pv rfl (rMv rfl) ?_
  refine pv rfl (rMv rfl) ?_
  refine pv rfl (rBu bU115 rfl rfl) ?_
  refine pm rfl (mAlloc zC115) (fun b7 => ?_)
  refine ps0 rfl (tSt tA115.2 rfl rfl rfl rfl rfl rfl rfl) ?_
  refine gs_nil ?_
  refine gKeep [0, 6, 7] rfl ?_
  refine gSeq ?_
  refine gSeq ?_
  refine gD [b7, s, m] (wk [(0, .q), (1, .q), (2, .q), (3, .q), (4, .q), (5, .q), (6, .q)]) fol (by kernel_rfl) rfl (by kernel_rfl) ?_
  refine qv rfl (rMv rfl) ?_
  refine qv rfl (rNc rfl) ?_
  refine qv rfl (rFa fA98_1 rfl) ?_
  refine qv rfl (rLdN t196 rfl rfl) ?_
  refine qv rfl (rLdA tA115 rfl rfl) ?_
  refine qv rfl (rLk (z := .pointer none) (k := (bk, ky)) Try.underlying96 kT115 (fun w => by kernel_rfl) rfl rfl) ?_
  rcases hgk : get2 (bk, ky) es with _ | vv
  · refine gV (u := .pointer none) 16 rfl rfl ?_
    refine qv rfl (rBin rfl rfl (bPtNil Try.underlying104)) ?_
    refine gs_nil ?_
    refine gKeep [0, 6, 7, 17] rfl ?_
    refine gCondT rfl rfl ?_
    refine gD [b7, s] (wk [(0, .q), (1, .q), (2, .q), (3, .q), (4, .q), (5, .p), (6, .p)]) fol (by kernel_rfl) rfl (by kernel_rfl) ?_
    refine qv rfl (rMv rfl) ?_
    refine qv rfl (rNc rfl) ?_
    refine qv rfl (rFa fA98_1 rfl) ?_
    refine qv rfl (rLdN t196 rfl rfl) ?_
    refine qv rfl (rLdA tA115 rfl rfl) ?_
    refine pc (R' := []) rfl eN64 c64 (fun v L' hv => ?_)
    obtain ⟨bn, rfl, rfl⟩ := hv
    simp only [List.cons_append, List.nil_append]
    refine ps rfl (tMu (k := (bk, ky)) Try.underlying96 kT115 rfl rfl rfl (get2_none hgk)) (by kernel_rfl) ?_
    refine gKeep [0, 6, 7] rfl ?_
    refine gSeq ?_
    refine gD [b7, s, m] (wk [(0, .q), (1, .q), (2, .q), (3, .q), (4, .q), (5, .q), (6, .q)]) fol (by kernel_rfl) rfl (by kernel_rfl) ?_
    refine qv rfl (rMv rfl) ?_
    refine qv rfl (rNc rfl) ?_
    refine qv rfl (rFa fA98_1 rfl) ?_
    refine qv rfl (rLdN t196 rfl rfl) ?_
    refine qv rfl (rLdA tA115 rfl rfl) ?_
    refine qv rfl (rLk (z := .pointer none) (k := (bk, ky)) Try.underlying96 kT115 (fun w => by kernel_rfl) rfl rfl) ?_
    first | refine gV (u := .pointer (some ⟨bn, 0, none⟩)) 29 rfl (by rw [get2_app hgk]; rfl) ?_ | refine gV (u := .pointer (some ⟨c, 0, none⟩)) 29 rfl (by rw [hgk]; rfl) ?_
    refine qv rfl (rAs rfl) ?_
    refine gs_nil ?_
    refine gKeep [6] rfl ?_
    refine gRet ?_
    refine gTk bn ?_
    refine gDrop [(b7, Obj.cells #[.string bk, .string ky] 115)] ?_
    have hg0 : σ.g (bk, ky) = [] := hE.out _ (fun hh => by obtain ⟨x, hx, he⟩ := List.mem_map.1 hh; exact get2_none hgk x hx he)
    have hC2 := hC.add (e := ((bk, ky), .pointer (some ⟨bn, 0, none⟩), clock)) rfl (show Row T0.tv 9 (σ.g (bk, ky)).length (versL (σ.g (bk, ky))) (.slice none 0 0) [] by rw [hg0]; exact Row.nil _ _)
    obtain ⟨c, v, Lr, rest, h1, h2, h3, h4⟩ := ShRep.at (s := s) (l := l) (ch := ch) (m := m) (sn := sn) (rc := rc) hW hC2 (hE.add hgk) (e := ((bk, ky), .pointer (some ⟨bn, 0, none⟩), clock)) (by simp)
    simp only [Value.pointer.injEq, Option.some.injEq, Addr.mk.injEq, and_true] at h1
    subst h1
    refine gPerm (perm_end.trans h3) ?_
    refine gEnd1 (hF := Front.all _) Try.results39 (resT rfl) ⟨bn, v, Lr, rest, rfl, h2, rfl, h4⟩
  · obtain ⟨e, he, hek, hev⟩ := get2_some hgk
    obtain ⟨c, v, Lr, rest, h1, h2, h3, h4⟩ := ShRep.at (s := s) (l := l) (ch := ch) (m := m) (sn := sn) (rc := rc) hW hC hE he
    rw [hek] at h2 h4
    rw [h1] at hev
    subst hev
    refine gV (u := .pointer (some ⟨c, 0, none⟩)) 16 rfl rfl ?_
    refine qv rfl (rBin rfl rfl (bPtNil Try.underlying104)) ?_
    refine gs_nil ?_
    refine gKeep [0, 6, 7, 17] rfl ?_
    refine gCondF rfl rfl ?_
    refine gSkip ?_
    refine gSeq ?_
    refine gD [b7, s, m] (wk [(0, .q), (1, .q), (2, .q), (3, .q), (4, .q), (5, .q), (6, .q)]) fol (by kernel_rfl) rfl (by kernel_rfl) ?_
    refine qv rfl (rMv rfl) ?_
    refine qv rfl (rNc rfl) ?_
    refine qv rfl (rFa fA98_1 rfl) ?_
    refine qv rfl (rLdN t196 rfl rfl) ?_
    refine qv rfl (rLdA tA115 rfl rfl) ?_
    refine qv rfl (rLk (z := .pointer none) (k := (bk, ky)) Try.underlying96 kT115 (fun w => by kernel_rfl) rfl rfl) ?_
    first | refine gV (u := .pointer (some ⟨bn, 0, none⟩)) 29 rfl (by rw [get2_app hgk]; rfl) ?_ | refine gV (u := .pointer (some ⟨c, 0, none⟩)) 29 rfl (by rw [hgk]; rfl) ?_
    refine qv rfl (rAs rfl) ?_
    refine gs_nil ?_
    refine gKeep [6] rfl ?_
    refine gRet ?_
    refine gDrop [(b7, Obj.cells #[.string bk, .string ky] 115)] ?_
    refine gPerm h3 ?_
    refine gEnd1 (hF := Front.all _) Try.results39 (resT rfl) ⟨c, v, Lr, rest, rfl, h2, rfl, h4⟩

set_option maxRecDepth 4000 in
theorem c22 (s : Nat) (σ : ShS) (H : HL) (h : ShRep T0 s σ H) (bk ky : ByteArray) (vv : Vec) (hB : ∀ k, (σ.g k).length ≤ 1000000) : Tr Try.prog 22 [.pointer (some ⟨s, 0, none⟩), .string bk, .string ky, vecV vv] [] H (fun u L' => u = .tuple #[.string (readR σ (bk, ky) vv).1, stampV (readR σ (bk, ky) vv).2.1, .bool (readR σ (bk, ky) vv).2.2] ∧ ShRep T0 s σ L') := by
  refine trEnter Try.func22 rfl Try.ntmps22 (l := [(0, _), (1, _), (2, _), (3, _)]) rfl rfl (fun w0 => ?_)
  refine gSeq ?_
  refine gText (σ := wk [(0, .p), (1, .p), (2, .p), (3, .p)]) rfl ?_
  refine pm rfl (mBox rfl rfl) (fun b7 => ?_)
  refine pv rfl (rAs rfl) ?_
  refine pm rfl (mAlloc zC35) (fun b9 => ?_)
  refine pv rfl (rAs rfl) ?_
  refine gs_nil ?_
  refine gSeq ?_
  refine gCutN (σ := Nat × HL) (fun z => ([(7, .pointer (some ⟨b7, 0, none⟩)), (8, .string ⟨#[]⟩), (9, .pointer (some ⟨b9, 0, none⟩)), (10, .bool false), (11, .pointer (some ⟨z.1, 0, none⟩)), (12, .bool (readV σ (bk, ky) vv).isSome)], (z.1, Obj.cells (List.toArray (verL ((readV σ (bk, ky) vv).getD Ver.zero))) 126) :: (b9, Obj.cells #[.int .u64 0, .int .u64 0, .int .u64 0, .int .u64 0, .int .i64 0] 35) :: (b7, Obj.cells (List.toArray (vecL vv)) 33) :: z.2)) (fun z => ShRep T0 s σ z.2) ?_ (fun z hs => ?_)
  · refine gD [b7] (.one 0 .q (.one 1 .q (.one 2 .q (.one 4 .q (.alt (.one 3 .p (.alt (wk [(5, .p), (6, .q), (7, .q), (8, .q), (9, .p), (10, .p), (11, .q)]) (wk [(9, .p), (5, .p), (6, .q), (7, .q), (8, .q), (10, .p), (11, .q)]))) (wk [(9, .p), (3, .p), (5, .p), (6, .q), (7, .q), (8, .q), (10, .p), (11, .q)])))))) fol (by kernel_rfl) rfl (by kernel_rfl) ?_
    refine qv rfl (rMv rfl) ?_
    refine qv rfl (rMv rfl) ?_
    refine qv rfl (rMv rfl) ?_
    refine qv rfl (rLdA tA33 rfl rfl) ?_
    refine gAlt ?_ ?_
    · refine pc (R' := []) (L1 := H) rfl eN39 (c39 s σ H h bk ky) (fun u L' hv => ?_)
      obtain ⟨c, cv, Lr, rest, rfl, hr, rfl, hat⟩ := hv
      obtain ⟨q, cap, rfl, hl⟩ := hr.lies
      simp only [List.cons_append, List.append_assoc]
      refine gAlt ?_ ?_
      · refine pf (R' := (c, Obj.cells #[.slice q (σ.g (bk, ky)).length cap] 141) :: Lr) rfl eN56 (c56 vv c cap (σ.g (bk, ky)) q Lr hl (by have := hB (bk, ky); omega)) ?_
        refine qv rfl (rMv rfl) ?_
        refine qv rfl (rEx rfl rfl) ?_
        refine qv rfl (rEx rfl rfl) ?_
        refine pm rfl (mAlloc zC126) (fun b11 => ?_)
        refine psT rfl (tSt tA126.2 rfl rfl rfl rfl rfl rfl rfl) ?_
        refine qv rfl (rAs rfl) ?_
        refine gs_nil ?_
        refine gKeep [7, 8, 9, 10, 11, 12] rfl ?_
        refine gTo ((b11, Obj.cells (List.toArray (verL ((readV σ (bk, ky) vv).getD Ver.zero))) 126) :: (b9, Obj.cells #[.int .u64 0, .int .u64 0, .int .u64 0, .int .u64 0, .int .i64 0] 35) :: (b7, Obj.cells (List.toArray (vecL vv)) 33) :: ((c, Obj.cells #[.slice q (σ.g (bk, ky)).length cap] 141) :: (Lr ++ rest))) ?_
        refine gInvK (b11, (c, Obj.cells #[.slice q (σ.g (bk, ky)).length cap] 141) :: (Lr ++ rest)) [7, 8, 9, 10, 11, 12] (hat σ.g _ Lr (fun _ _ => rfl) hr) rfl rfl
      · refine pm rfl (mAlloc zC126) (fun b11 => ?_)
        refine pf (R' := (c, Obj.cells #[.slice q (σ.g (bk, ky)).length cap] 141) :: Lr) rfl eN56 (c56 vv c cap (σ.g (bk, ky)) q Lr hl (by have := hB (bk, ky); omega)) ?_
        refine qv rfl (rMv rfl) ?_
        refine qv rfl (rEx rfl rfl) ?_
        refine qv rfl (rEx rfl rfl) ?_
        refine psT rfl (tSt tA126.2 rfl rfl rfl rfl rfl rfl rfl) ?_
        refine qv rfl (rAs rfl) ?_
        refine gs_nil ?_
        refine gKeep [7, 8, 9, 10, 11, 12] rfl ?_
        refine gTo ((b11, Obj.cells (List.toArray (verL ((readV σ (bk, ky) vv).getD Ver.zero))) 126) :: (b9, Obj.cells #[.int .u64 0, .int .u64 0, .int .u64 0, .int .u64 0, .int .i64 0] 35) :: (b7, Obj.cells (List.toArray (vecL vv)) 33) :: ((c, Obj.cells #[.slice q (σ.g (bk, ky)).length cap] 141) :: (Lr ++ rest))) ?_
        refine gInvK (b11, (c, Obj.cells #[.slice q (σ.g (bk, ky)).length cap] 141) :: (Lr ++ rest)) [7, 8, 9, 10, 11, 12] (hat σ.g _ Lr (fun _ _ => rfl) hr) rfl rfl
    · refine pm rfl (mAlloc zC126) (fun b11 => ?_)
      refine pc (R' := []) (L1 := H) rfl eN39 (c39 s σ H h bk ky) (fun u L' hv => ?_)
      obtain ⟨c, cv, Lr, rest, rfl, hr, rfl, hat⟩ := hv
      obtain ⟨q, cap, rfl, hl⟩ := hr.lies
      simp only [List.cons_append, List.append_assoc]
      refine pf (R' := (c, Obj.cells #[.slice q (σ.g (bk, ky)).length cap] 141) :: Lr) rfl eN56 (c56 vv c cap (σ.g (bk, ky)) q Lr hl (by have := hB (bk, ky); omega)) ?_
      refine qv rfl (rMv rfl) ?_
      refine qv rfl (rEx rfl rfl) ?_
      refine qv rfl (rEx rfl rfl) ?_
      refine psT rfl (tSt tA126.2 rfl rfl rfl rfl rfl rfl rfl) ?_
      refine qv rfl (rAs rfl) ?_
      refine gs_nil ?_
      refine gKeep [7, 8, 9, 10, 11, 12] rfl ?_
      refine gTo ((b11, Obj.cells (List.toArray (verL ((readV σ (bk, ky) vv).getD Ver.zero))) 126) :: (b9, Obj.cells #[.int .u64 0, .int .u64 0, .int .u64 0, .int .u64 0, .int .i64 0] 35) :: (b7, Obj.cells (List.toArray (vecL vv)) 33) :: ((c, Obj.cells #[.slice q (σ.g (bk, ky)).length cap] 141) :: (Lr ++ rest))) ?_
      refine gInvK (b11, (c, Obj.cells #[.slice q (σ.g (bk, ky)).length cap] 141) :: (Lr ++ rest)) [7, 8, 9, 10, 11, 12] (hat σ.g _ Lr (fun _ _ => rfl) hr) rfl rfl
  · obtain ⟨b11, H2⟩ := z
    simp only at hs ⊢
    refine gSeq ?_
    refine gD [b11] (wk [(0, .q), (1, .q), (2, .q), (3, .q), (4, .q), (5, .q), (6, .q), (7, .q), (8, .q), (9, .q), (10, .q), (11, .q), (12, .q), (13, .p), (14, .q)]) fol (by kernel_rfl) rfl (by kernel_rfl) ?_
    refine qv rfl (rFa fA126_1 rfl) ?_
    refine qv rfl (rFa fA42_2 rfl) ?_
    refine qv rfl (rLdN t19 rfl rfl) ?_
    refine qv rfl (rFa fA126_0 rfl) ?_
    refine qv rfl (rLdA tA35 rfl rfl) ?_
    refine qv rfl (rMv rfl) ?_
    refine qv rfl (rMv rfl) ?_
    refine gB (e := 28) rfl (fun g28 => ?_) (fun g28 => ?_)
    · refine qv rfl (rFa fA126_1 rfl) ?_
      refine qv rfl (rFa fA42_3 rfl) ?_
      refine qv rfl (rLdN t14 rfl rfl) ?_
      refine qv rfl (rNot rfl) ?_
      refine qv rfl (rPk rfl rfl) ?_
      refine qv rfl (rAs rfl) ?_
      refine psT rfl (tSt tA35.2 rfl rfl rfl rfl rfl rfl rfl) ?_
      refine qv rfl (rAs rfl) ?_
      refine gs_nil ?_
      refine gKeep [8, 9, 10] rfl ?_
      refine gRet ?_
      refine gEnd3 (hF := ⟨?_⟩) (L' := H2) (B := [(b11, Obj.cells (List.toArray (verL ((readV σ (bk, ky) vv).getD Ver.zero))) 126), (b9, Obj.cells (List.toArray (stampL ((readV σ (bk, ky) vv).getD Ver.zero).s)) 35), (b7, Obj.cells (List.toArray (vecL vv)) 33)]) Try.results22 (resT rfl) (resA tA35 rfl rfl) (resT rfl) ⟨?_, hs⟩
      · exact PermTo.perm
      · first | (simp [readR, g28]; done) | (simp only [readR, g28, Bool.true_and]; rfl) | (simp only [readR, g28, Bool.false_and]; rfl)
    · refine qn rfl ?_
      refine qn rfl ?_
      refine qn rfl ?_
      refine qn rfl ?_
      refine qv rfl (rPk rfl rfl) ?_
      refine qv rfl (rAs rfl) ?_
      refine psT rfl (tSt tA35.2 rfl rfl rfl rfl rfl rfl rfl) ?_
      refine qv rfl (rAs rfl) ?_
      refine gs_nil ?_
      refine gKeep [8, 9, 10] rfl ?_
      refine gRet ?_
      refine gEnd3 (hF := ⟨?_⟩) (L' := H2) (B := [(b11, Obj.cells (List.toArray (verL ((readV σ (bk, ky) vv).getD Ver.zero))) 126), (b9, Obj.cells (List.toArray (stampL ((readV σ (bk, ky) vv).getD Ver.zero).s)) 35), (b7, Obj.cells (List.toArray (vecL vv)) 33)]) Try.results22 (resT rfl) (resA tA35 rfl rfl) (resT rfl) ⟨?_, hs⟩
      · exact PermTo.perm
      · first | (simp [readR, g28]; done) | (simp only [readR, g28, Bool.true_and]; rfl) | (simp only [readR, g28, Bool.false_and]; rfl)
end Go.Proofs.Yteeobhehfdifnaa
set_option linter.unusedVariables false
set_option linter.unusedSimpArgs false
namespace Go.Proofs.Yteeobhehfdifnaa
open Go TB Go.Proofs
theorem t149 : T1 Try.prog 49 := ⟨fun w => by kernel_rfl, fun w => by kernel_rfl⟩
theorem eN30 : EN Try.prog 30 := fun args w => by kernel_rfl
theorem eN38 : EN Try.prog 38 := fun args w => by kernel_rfl
theorem eN40 : EN Try.prog 40 := fun args w => by kernel_rfl
theorem eN45 : EN Try.prog 45 := fun args w => by kernel_rfl
theorem eN57 : EN Try.prog 57 := fun args w => by kernel_rfl
theorem eN60 : EN Try.prog 60 := fun args w => by kernel_rfl
theorem fA95_0 : FA Try.prog 95 0 0 := fun b o w => by kernel_rfl
theorem fA95_1 : FA Try.prog 95 1 5 := fun b o w => by kernel_rfl
theorem zC42 : ZC Try.prog 42 [.string ⟨#[]⟩, .string ⟨#[]⟩, .string ⟨#[]⟩, .bool false] := fun w => ⟨.agg #[.string ⟨#[]⟩, .string ⟨#[]⟩, .string ⟨#[]⟩, .bool false], by kernel_rfl, rfl⟩
set_option maxRecDepth 4000 in
theorem c24 (s : Nat) (σ : ShS) (H : HL) (h : ShRep T0 s σ H) (bk ky : ByteArray) (hB : ∀ k, (σ.g k).length ≤ 1000000) : Tr Try.prog 24 [.pointer (some ⟨s, 0, none⟩), .string bk, .string ky] [] H (fun u L' => u = .tuple #[writeV ((lastR σ (bk, ky)).getD Ver.zero).w, stampV ((lastR σ (bk, ky)).getD Ver.zero).s, .bool (lastR σ (bk, ky)).isSome] ∧ ShRep T0 s σ L') := by
  refine trEnter Try.func24 rfl Try.ntmps24 (l := [(0, _), (1, _), (2, _)]) rfl rfl (fun w0 => ?_)
  refine gSeq ?_
  refine gText (σ := wk [(0, .p), (1, .p), (2, .p)]) rfl ?_
  refine pm rfl (mAlloc zC42) (fun b6 => ?_)
  refine pm rfl (mAlloc zC35) (fun b7 => ?_)
  refine pv rfl (rAs rfl) ?_
  refine gs_nil ?_
  refine gSeq ?_
  refine gText (σ := wk [(0, .p), (1, .p), (2, .p), (3, .p), (4, .p), (5, .p), (6, .p), (7, .p), (8, .p), (9, .p), (10, .p)]) rfl ?_
  refine pv rfl (rMv rfl) ?_
  refine pv rfl (rMv rfl) ?_
  refine pv rfl (rMv rfl) ?_
  refine pc (R' := []) (L1 := H) rfl eN39 (c39 s σ H h bk ky) (fun u L' hv => ?_)
  obtain ⟨c, cv, Lr, rest, rfl, hr, rfl, hat⟩ := hv
  obtain ⟨q, cap, rfl, hl⟩ := hr.lies
  simp only [List.cons_append, List.append_assoc]
  refine pf (R' := (c, Obj.cells #[.slice q (σ.g (bk, ky)).length cap] 141) :: Lr) rfl eN57 (c57 c cap (σ.g (bk, ky)) q Lr hl (by have := hB (bk, ky); omega)) ?_
  refine pv rfl (rMv rfl) ?_
  refine pv rfl (rEx rfl rfl) ?_
  refine pv rfl (rEx rfl rfl) ?_
  refine pm rfl (mAlloc zC126) (fun b9 => ?_)
  refine ps0 rfl (tSt tA126.2 rfl rfl rfl rfl rfl rfl rfl) ?_
  refine pv rfl (rAs rfl) ?_
  refine gs_nil ?_
  refine gKeep [6, 7, 8, 9, 10] rfl ?_
  refine gSeq ?_
  refine gD [b9] (wk [(0, .q), (1, .q), (2, .q), (3, .q), (4, .q), (5, .p), (6, .p), (7, .q)]) fol (by kernel_rfl) rfl (by kernel_rfl) ?_
  refine qv rfl (rFa fA126_1 rfl) ?_
  refine qv rfl (rLdA tA42 rfl rfl) ?_
  refine qv rfl (rFa fA126_0 rfl) ?_
  refine qv rfl (rLdA tA35 rfl rfl) ?_
  refine qv rfl (rMv rfl) ?_
  refine psT rfl (tSt tA42.2 rfl rfl rfl rfl rfl rfl rfl) ?_
  refine psT rfl (tSt tA35.2 rfl rfl rfl rfl rfl rfl rfl) ?_
  refine qv rfl (rAs rfl) ?_
  refine gs_nil ?_
  refine gKeep [6, 7, 8] rfl ?_
  refine gRet ?_
  refine gEnd3 (L' := (c, Obj.cells #[.slice q (σ.g (bk, ky)).length cap] 141) :: (Lr ++ rest)) Try.results24 (resA tA42 rfl rfl) (resA tA35 rfl rfl) (resT rfl) ⟨rfl, ?_⟩
  exact hat σ.g _ Lr (fun _ _ => rfl) hr

set_option maxRecDepth 4000 in
theorem c14 (s : Nat) (σ : ShS) (H : HL) (h : ShRep T0 s σ H) (ho : ∀ st ws q, σ.q = (st, ws) :: q → ws.length ≤ 1000000 ∧ ∀ (j : Nat) k, j ≤ ws.length → Ordered (applyW st (ws.take j) σ.g k) ∧ (applyW st (ws.take j) σ.g k).length ≤ 1000000) : Tr Try.prog 14 [.pointer (some ⟨s, 0, none⟩)] [] H (fun u L' => u = .bool (!σ.q.isEmpty) ∧ ShRep T0 s σ.step L') := by
  obtain ⟨room, q, g, ap⟩ := σ
  obtain ⟨l, ch, m, bs, es, clock, sn, rc, WH, CH, hp, hW, hC, hE⟩ := h
  refine Tr.perm hp ?_
  dsimp only [shL, T0] at hp hW ⊢
  refine trEnter Try.func14 rfl Try.ntmps14 (l := [(0, _)]) rfl rfl (fun w0 => ?_)
  refine gSeq ?_
  refine gText (σ := wk [(0, .p)]) rfl ?_
  refine pv rfl (rAs rfl) ?_
  refine gs_nil ?_
  refine gSeq ?_
  refine gText (σ := wk [(0, .p), (1, .p), (2, .p), (3, .p), (4, .p), (5, .p), (6, .p), (7, .p), (8, .p), (9, .p), (10, .p)]) rfl ?_
  refine pv rfl (rMv rfl) ?_
  refine pv rfl (rNc rfl) ?_
  refine pv rfl (rFa fA98_0 rfl) ?_
  refine pv rfl (rLdN t191 rfl rfl) ?_
  refine pc (R' := []) (L1 := [(l, Obj.cells #[.chan (some ch)] 135), (ch, .chan room (batsV bs).toArray false sn rc false)]) rfl eN38 (c38 l ch room sn rc bs) (fun v L' hv => ?_)
  rcases q with _ | ⟨⟨st, ws⟩, q⟩
  · obtain ⟨rfl, rfl⟩ := hW
    obtain ⟨rfl, rfl⟩ := hv
    simp only [List.cons_append, List.nil_append]
    refine pv rfl (rMv rfl) ?_
    refine pv rfl (rEx rfl rfl) ?_
    refine pv rfl (rEx rfl rfl) ?_
    refine pm rfl (mAlloc zC95) (fun b3 => ?_)
    refine ps0 rfl (tSt tA95.2 rfl rfl rfl rfl rfl rfl rfl) ?_
    refine pv rfl (rAs rfl) ?_
    refine gs_nil ?_
    refine gKeep [0, 2, 3, 4] rfl ?_
    refine gSeq ?_
    refine gSeq ?_
    refine gText (σ := wk [(0, .p), (1, .p)]) rfl ?_
    refine pv rfl (rMv rfl) ?_
    refine pv rfl (rNot rfl) ?_
    refine gs_nil ?_
    refine gCondT rfl rfl ?_
    refine gSeq ?_
    refine gText (σ := wk [(0, .p)]) rfl ?_
    refine pv rfl (rAs rfl) ?_
    refine gs_nil ?_
    refine gRet ?_
    refine gDrop [(b3, Obj.cells (List.toArray (batL Bat.zero)) 95)] ?_
    refine gTo (shL T0 s l ch m ⟨room, [], g, ap⟩ [] es clock sn rc ([] ++ CH)) ?_
    refine gEnd1 (hF := Front.all _) Try.results14 (resT rfl) ⟨rfl, l, ch, m, [], es, clock, sn, rc, [], CH, List.Perm.refl _, ⟨rfl, rfl⟩, hC, hE⟩
  · obtain ⟨p, cap, bs', Lw, WH', rfl, hr, hW', rfl⟩ := hW
    obtain ⟨rfl, rfl⟩ := hv
    simp only [List.cons_append, List.nil_append, List.append_assoc]
    obtain ⟨p2, cap2, hpe, hlw⟩ := hr.lies
    cases hpe
    obtain ⟨hwl, ho⟩ := ho st ws q rfl
    refine pv rfl (rMv rfl) ?_
    refine pv rfl (rEx rfl rfl) ?_
    refine pv rfl (rEx rfl rfl) ?_
    refine pm rfl (mAlloc zC95) (fun b3 => ?_)
    refine ps0 rfl (tSt tA95.2 rfl rfl rfl rfl rfl rfl rfl) ?_
    refine pv rfl (rAs rfl) ?_
    refine gs_nil ?_
    refine gKeep [0, 2, 3, 4] rfl ?_
    refine gSeq ?_
    refine gSeq ?_
    refine gText (σ := wk [(0, .p), (1, .p)]) rfl ?_
    refine pv rfl (rMv rfl) ?_
    refine pv rfl (rNot rfl) ?_
    refine gs_nil ?_
    refine gCondF rfl rfl ?_
    refine gSkip ?_
    refine gSeq ?_
    refine gSeq ?_
    refine gText (σ := wk [(0, .p), (1, .p), (2, .p), (3, .p)]) rfl ?_
    refine pv rfl (rFa fA95_1 rfl) ?_
    refine pv rfl (rLdN t149 rfl rfl) ?_
    refine pv rfl (rLen uS49 rfl) ?_
    refine pv rfl (rMv rfl) ?_
    refine gs_nil ?_
    refine gKeep [0, 2, 3, 18, 19, 20] rfl ?_
    refine gBlock ?_
    refine gLoop (σ := Nat × HL) (fun z => ([(0, .pointer (some ⟨s, 0, none⟩)), (3, .pointer (some ⟨b3, 0, none⟩)), (18, .slice p ws.length cap), (19, .int .i64 ws.length), (20, .int .i64 (z.1 : Nat))], (b3, Obj.cells (List.toArray (batL ⟨st, p, ws.length, cap⟩)) 95) :: (Lw ++ z.2))) (fun z => z.1 ≤ ws.length ∧ ShRep T0 s ⟨room, q, (applyW st (ws.take z.1) g), ap⟩ z.2) (fun z => ws.length - z.1) ?_ (fun z hs => ?_)
    · refine gTo ((b3, Obj.cells (List.toArray (batL ⟨st, p, ws.length, cap⟩)) 95) :: (Lw ++ shL T0 s l ch m ⟨room, q, g, ap⟩ bs' es clock sn (rc + 1) (WH' ++ CH))) ?_
      refine gInvK ((0, shL T0 s l ch m ⟨room, q, g, ap⟩ bs' es clock sn (rc + 1) (WH' ++ CH))) [0, 3, 18, 19, 20] ⟨Nat.zero_le _, l, ch, m, bs', es, clock, sn, rc + 1, WH', CH, List.Perm.refl _, hW', hC, hE⟩ rfl rfl
    · obtain ⟨j, H2⟩ := z
      obtain ⟨hj, hsh⟩ := hs
      simp only at hj hsh ⊢
      refine gSeq ?_
      refine gText (σ := wk [(0, .p)]) rfl ?_
      refine pv rfl (rBin rfl rfl bLt) ?_
      refine gs_nil ?_
      refine gSeq ?_
      refine gCondD rfl (fun h2 => ?_) (fun h2 => ?_)
      · have hjl : j < ws.length := by omega
        have hx := List.getElem?_eq_getElem hjl
        generalize ws[j] = w at hx
        obtain ⟨b, o, cl, E, fr, rfl, hm, hv⟩ := hlw.at writeL_len hx (by decide)
        refine gSkip ?_
        refine gSeq ?_
        refine gBlock ?_
        refine gSeq ?_
        refine gText (σ := wk [(0, .p), (1, .p), (2, .p), (3, .p)]) rfl ?_
        refine pv rfl (rIs iS49 rfl rfl ⟨by omega, by omega⟩) ?_
        refine pv rfl (rLdAm tA42 rfl (List.mem_append_left _ (List.mem_cons_of_mem _ (List.mem_append_left _ hm))) (vs := writeL w) rfl (fun j v h => hv j v h)) ?_
        refine pm rfl (mAlloc zC42) (fun b6 => ?_)
        refine ps0 rfl (tSt tA42.2 rfl rfl rfl rfl rfl rfl rfl) ?_
        refine gs_nil ?_
        refine gD [b6, b3] (wk [(0, .q), (1, .q), (2, .q), (3, .q), (4, .q), (6, .q), (7, .q), (8, .q), (5, .p), (9, .p)]) fol (by kernel_rfl) rfl (by kernel_rfl) ?_
        refine qv rfl (rMv rfl) ?_
        refine qv rfl (rFa fA42_0 rfl) ?_
        refine qv rfl (rLdN t19 rfl rfl) ?_
        refine qv rfl (rFa fA42_1 rfl) ?_
        refine qv rfl (rLdN t19 rfl rfl) ?_
        refine qv rfl (rFa fA95_0 rfl) ?_
        refine qv rfl (rLdA tA35 rfl rfl) ?_
        refine qv rfl (rLdA tA42 rfl rfl) ?_
        refine pc (R' := []) (L1 := H2) rfl eN39 (c39 s _ H2 hsh w.bucket w.key) (fun u L' hv => ?_)
        obtain ⟨c, cv, Lr, rest, rfl, hr2, rfl, hat⟩ := hv
        simp only [List.cons_append, List.append_assoc]
        refine pc (R' := []) (L1 := (c, Obj.cells #[cv] 141) :: Lr) rfl eN40 (c40 c ((applyW st (ws.take j) g) (w.bucket, w.key)) st w cv Lr hr2 (ho j _ hj).2 (ho j _ hj).1) (fun v L' hv => ?_)
        obtain ⟨rfl, v', Lr', hr3, rfl⟩ := hv
        simp only [List.cons_append, List.append_assoc]
        refine gs_nil ?_
        refine gKeep [0, 3, 18, 19, 20] rfl ?_
        refine gText (σ := wk [(0, .p), (1, .p)]) rfl ?_
        refine pv rfl (rBin rfl rfl (bAddI (by omega))) ?_
        refine pv rfl (rMv rfl) ?_
        refine gs_nil ?_
        refine gDrop [(b6, Obj.cells (List.toArray (writeL w)) 42)] ?_
        refine gTo ((b3, Obj.cells (List.toArray (batL ⟨st, some ⟨b, o, none⟩, ws.length, cap⟩)) 95) :: (Lw ++ ((c, Obj.cells #[v'] 141) :: (Lr' ++ rest)))) ?_
        refine gInvK (j + 1, (c, Obj.cells #[v'] 141) :: (Lr' ++ rest)) [0, 3, 18, 19, 20] ⟨⟨by show j + 1 ≤ _; omega, ?_⟩, by show _ - (j + 1) < _ - j; omega⟩ rfl rfl
        show ShRep T0 s ⟨room, q, (applyW st (ws.take (j + 1)) g), ap⟩ _
        rw [applyW_step hx]
        exact hat (upd (applyW st (ws.take j) g) (w.bucket, w.key) (addV ⟨st, w⟩ ((applyW st (ws.take j) g) (w.bucket, w.key))).2) v' Lr' (fun k' hk => if_neg hk) (by simpa [upd] using hr3)
      · have hj0 : j = ws.length := by omega
        subst hj0
        rw [List.take_length] at hsh
        refine gExit rfl ?_
        refine gSeq ?_
        obtain ⟨l2, ch2, m2, bs2, es2, clock2, sn2, rc2, WH2, CH2, hp2, hW2, hC2, hE2⟩ := hsh
        refine gPerm ((hp2.append_left Lw).cons _) ?_
        dsimp only [shL, T0]
        refine gD [s, b3] (wk [(0, .q), (1, .q), (2, .q), (3, .q), (4, .q), (5, .q), (6, .q), (7, .q), (8, .q), (9, .q), (11, .q), (12, .q), (13, .q), (14, .q), (15, .q), (16, .q), (17, .q), (10, .p), (18, .p), (19, .p), (20, .p), (21, .q), (22, .q), (23, .p)]) fol (by kernel_rfl) rfl (by kernel_rfl) ?_
        refine qv rfl (rMv rfl) ?_
        refine qv rfl (rMv rfl) ?_
        refine qv rfl (rNc rfl) ?_
        refine qv rfl (rFa fA98_2 rfl) ?_
        refine qv rfl (rLdA tA33 rfl rfl) ?_
        refine qv rfl (rFa fA95_0 rfl) ?_
        refine qv rfl (rFa fA35_1 rfl) ?_
        refine qv rfl (rLdN t13 rfl rfl) ?_
        refine qv rfl (rFa fA95_0 rfl) ?_
        refine qv rfl (rLdA tA35 rfl rfl) ?_
        refine qv rfl (rMv rfl) ?_
        refine qv rfl (rNc rfl) ?_
        refine qv rfl (rFa fA98_2 rfl) ?_
        refine qv rfl (rLdA tA33 rfl rfl) ?_
        refine qv rfl (rFa fA95_0 rfl) ?_
        refine qv rfl (rFa fA35_1 rfl) ?_
        refine qv rfl (rLdN t13 rfl rfl) ?_
        refine pf rfl eN31 (c31 st) ?_
        refine pf rfl eN33 (c33 ap st.dc) ?_
        refine pv rfl (rMax2 rfl rfl) ?_
        refine pf rfl eN30 (c30 ap st.dc (max st.n (ap.at' st.dc))) ?_
        refine qv rfl (rNc rfl) ?_
        refine qv rfl (rFa fA98_2 rfl) ?_
        refine ps rfl (tSt tA33.2 rfl rfl rfl rfl rfl rfl rfl) (by kernel_rfl) ?_
        refine gKeep [0, 3, 18, 19, 20] rfl ?_
        refine gSeq ?_
        refine gText (σ := wk [(0, .p)]) rfl ?_
        refine pv rfl (rAs rfl) ?_
        refine gs_nil ?_
        refine gRet ?_
        refine gDrop [(b3, Obj.cells (List.toArray (batL ⟨st, p, ws.length, cap⟩)) 95)] ?_
        refine gDrop Lw ?_
        refine gEnd1 (hF := Front.all _) Try.results14 (resT rfl) ⟨rfl, l2, ch2, m2, bs2, es2, clock2, sn2, rc2, WH2, CH2, List.Perm.refl _, hW2, hC2, hE2⟩

set_option maxRecDepth 4000 in
theorem c29 (s : Nat) (σ : ShS) (H : HL) (h : ShRep T0 s σ H) (hT : ∀ n, Total σ.g n → n ≤ 1000000) : Tr Try.prog 29 [.pointer (some ⟨s, 0, none⟩)] [] H (fun u L' => ∃ n : Nat, u = .int .i64 n ∧ Total σ.g n ∧ ShRep T0 s σ L') := by
  obtain ⟨l, ch, m, bs, es, clock, sn, rc, WH, CH, hp, hW, hC, hE⟩ := h
  refine Tr.perm hp ?_
  dsimp only [shL, T0] at hp ⊢
  have htot := hT _ (total_es hE)
  refine trEnter Try.func29 rfl Try.ntmps29 (l := [(0, _)]) rfl rfl (fun w0 => ?_)
  refine gSeq ?_
  refine gText (σ := wk [(0, .p)]) rfl ?_
  refine pv rfl (rAs rfl) ?_
  refine gs_nil ?_
  refine gSeq ?_
  refine gText (σ := wk [(0, .p)]) rfl ?_
  refine pv rfl (rAs rfl) ?_
  refine gs_nil ?_
  refine gSeq ?_
  refine gSeq ?_
  refine gText (σ := wk [(0, .p), (1, .p), (2, .p), (3, .p), (4, .p)]) rfl ?_
  refine pv rfl (rMv rfl) ?_
  refine pv rfl (rNc rfl) ?_
  refine pv rfl (rFa fA98_1 rfl) ?_
  refine pv rfl (rLdN t196 rfl rfl) ?_
  refine pm rfl (mRange Try.underlying96 rfl) (fun b10 => ?_)
  refine gs_nil ?_
  refine gKeep [2, 3, 10] rfl ?_
  refine gBlock ?_
  refine gLoop (σ := List Ent) (fun vis => ([(3, .int .i64 (lenS σ.g vis : Nat)), (10, .pointer (some ⟨b10, 0, none⟩))], (b10, .mapIter (some m) clock (seenA vis) clock) :: shL T0 s l ch m σ bs es clock sn rc (WH ++ CH))) (fun vis => VisOK es vis) (fun vis => es.length - vis.length) ?_ (fun vis hs => ?_)
  · refine gInvK ([]) [3, 10] (VisOK.nil es) rfl rfl
  · refine gSeq ?_
    refine gText (σ := wk [(0, .p), (1, .p)]) rfl ?_
    refine pnext (fm := fun o => (b10, .mapIter (some m) clock (seenA vis) clock) :: (s, _) :: (l, _) :: (ch, _) :: (m, o) :: (WH ++ CH)) (hm := inferInstance) rfl rfl hE.old (Nat.le_refl _) (fun hd => ?_) (fun e he hne => ?_)
    · refine pv rfl (rEx rfl rfl) ?_
      refine gs_nil ?_
      refine gSeq ?_
      refine gCondF rfl rfl ?_
      refine gExit rfl ?_
      refine gSeq ?_
      refine gText (σ := wk [(0, .p), (1, .p)]) rfl ?_
      refine pv rfl (rMv rfl) ?_
      refine pv rfl (rAs rfl) ?_
      refine gs_nil ?_
      refine gRet ?_
      have hpv := hs.all hE.bd hd
      refine gDrop [(b10, .mapIter (some m) clock (seenA vis) clock)] ?_
      refine gEnd1 (hF := Front.all _) Try.results29 (resT rfl) ⟨lenS σ.g vis, rfl, ?_, l, ch, m, bs, es, clock, sn, rc, WH, CH, List.Perm.refl _, hW, hC, hE⟩
      rw [← lenS_perm hpv]; exact total_es hE
    · refine pv rfl (rEx rfl rfl) ?_
      refine gs_nil ?_
      refine gSeq ?_
      refine gCondT rfl rfl ?_
      refine gSkip ?_
      refine gBlock ?_
      refine gSeq ?_
      refine gText (σ := wk [(0, .p), (1, .p), (2, .p)]) rfl ?_
      refine pv rfl (rEntry rfl he hE.bd) ?_
      refine pv rfl (rEx rfl rfl) ?_
      refine pv rfl (rAs rfl) ?_
      refine gs_nil ?_
      refine gKeep [3, 5, 10] rfl ?_
      obtain ⟨c, v, Lr, rest, h1, h2, h3, h4⟩ := ShRep.at (s := s) (l := l) (ch := ch) (m := m) (sn := sn) (rc := rc) hW hC hE he
      refine gVN (u := .pointer (some ⟨c, 0, none⟩)) 5 rfl h1 ?_
      obtain ⟨q, cap, rfl, hl⟩ := h2.lies
      refine gPerm (h3.cons _) ?_
      have hvs := (hs.add he hne).sum σ.g
      rw [lenS_app, lenS_one] at hvs
      refine gText (σ := wk [(0, .p), (1, .p), (2, .p), (3, .p), (4, .p)]) rfl ?_
      refine pv rfl (rMv rfl) ?_
      refine pv rfl (rMv rfl) ?_
      refine pf (R' := [(c, Obj.cells #[.slice q (σ.g e.1).length cap] 141)]) rfl eN60 (c60 c _ cap q) ?_
      refine pv rfl (rBin rfl rfl (bAddI (by omega))) ?_
      refine pv rfl (rAs rfl) ?_
      refine gs_nil ?_
      refine gKeep [3, 10] rfl ?_
      refine gPerm ((h3.cons _).symm) ?_
      refine gVN (u := .int .i64 (lenS σ.g (vis ++ [e]) : Nat)) 3 rfl (by rw [lenS_app, lenS_one]; simp) ?_
      have hva := hs.add he hne
      have hvl := hva.len
      refine gInvK (vis ++ [e]) [3, 10] ⟨hva, by simp only [List.length_append, List.length_singleton] at hvl ⊢; omega⟩ rfl rfl

set_option maxRecDepth 4000 in
theorem c16 (s : Nat) (σ : ShS) (H : HL) (h : ShRep T0 s σ H) (vv : Vec) (hT : ∀ n, Total σ.g n → n ≤ 1000000) : Tr Try.prog 16 [.pointer (some ⟨s, 0, none⟩), vecV vv] [] H (fun u L' => ∃ n n' : Nat, u = .int .i64 ((n : Int) - n') ∧ Total σ.g n ∧ Total (pruneG vv σ.g) n' ∧ ShRep T0 s { σ with g := pruneG vv σ.g } L') := by
  obtain ⟨l, ch, m, bs, es, clock, sn, rc, WH, CH, hp, hW, hC, hE⟩ := h
  refine Tr.perm hp ?_
  dsimp only [shL, T0] at hp ⊢
  have htot := hT _ (total_es hE)
  refine trEnter Try.func16 rfl Try.ntmps16 (l := [(0, _), (1, _)]) rfl rfl (fun w0 => ?_)
  refine gSeq ?_
  refine gText (σ := wk [(0, .p), (1, .p)]) rfl ?_
  refine pm rfl (mBox rfl rfl) (fun b3 => ?_)
  refine pv rfl (rAs rfl) ?_
  refine gs_nil ?_
  refine gSeq ?_
  refine gText (σ := wk [(0, .p)]) rfl ?_
  refine pv rfl (rAs rfl) ?_
  refine gs_nil ?_
  refine gSeq ?_
  refine gSeq ?_
  refine gText (σ := wk [(0, .p), (1, .p), (2, .p), (3, .p), (4, .p)]) rfl ?_
  refine pv rfl (rMv rfl) ?_
  refine pv rfl (rNc rfl) ?_
  refine pv rfl (rFa fA98_1 rfl) ?_
  refine pv rfl (rLdN t196 rfl rfl) ?_
  refine pm rfl (mRange Try.underlying96 rfl) (fun b12 => ?_)
  refine gs_nil ?_
  refine gKeep [3, 4, 5, 12] rfl ?_
  refine gBlock ?_
  refine gLoop (σ := List Ent × HL) (fun z => ([(3, .pointer (some ⟨b3, 0, none⟩)), (5, .int .i64 ((lenS σ.g z.1 : Int) - (lenS (pruneG vv σ.g) z.1 : Nat))), (12, .pointer (some ⟨b12, 0, none⟩))], (b12, .mapIter (some m) clock (seenA z.1) clock) :: (s, Obj.cells #[.pointer (some ⟨l, 0, none⟩), .map (some m), .int .u64 σ.ap.a, .int .u64 σ.ap.b, .int .u64 σ.ap.c, .int .u64 σ.ap.d] 98) :: (l, Obj.cells #[.chan (some ch)] 135) :: (ch, Obj.chan σ.room (batsV bs).toArray false sn rc false) :: (m, mapO es clock) :: (((b3, Obj.cells (List.toArray (vecL vv)) 33) :: WH) ++ z.2))) (fun z => VisOK es z.1 ∧ ChF 126 141 es (gVis vv σ.g z.1) z.2) (fun z => es.length - z.1.length) ?_ (fun z hs => ?_)
  · refine gTo ((b12, .mapIter (some m) clock #[] clock) :: (s, Obj.cells #[.pointer (some ⟨l, 0, none⟩), .map (some m), .int .u64 σ.ap.a, .int .u64 σ.ap.b, .int .u64 σ.ap.c, .int .u64 σ.ap.d] 98) :: (l, Obj.cells #[.chan (some ch)] 135) :: (ch, Obj.chan σ.room (batsV bs).toArray false sn rc false) :: (m, mapO es clock) :: (((b3, Obj.cells (List.toArray (vecL vv)) 33) :: WH) ++ CH)) ?_
    refine gInvK (([], CH)) [3, 5, 12] ⟨VisOK.nil es, hC.congr (fun e he => by simp [gVis])⟩ rfl rfl
  · obtain ⟨vis, CV⟩ := z
    obtain ⟨hs, hCV⟩ := hs
    simp only at hs hCV ⊢
    refine gSeq ?_
    refine gText (σ := wk [(0, .p), (1, .p)]) rfl ?_
    refine pnext (fm := fun o => (b12, .mapIter (some m) clock (seenA vis) clock) :: (s, _) :: (l, _) :: (ch, _) :: (m, o) :: _) (hm := inferInstance) rfl rfl hE.old (Nat.le_refl _) (fun hd => ?_) (fun e he hne => ?_)
    · refine pv rfl (rEx rfl rfl) ?_
      refine gs_nil ?_
      refine gSeq ?_
      refine gCondF rfl rfl ?_
      refine gExit rfl ?_
      refine gSeq ?_
      refine gText (σ := wk [(0, .p), (1, .p)]) rfl ?_
      refine pv rfl (rMv rfl) ?_
      refine pv rfl (rAs rfl) ?_
      refine gs_nil ?_
      refine gRet ?_
      have hpv := hs.all hE.bd hd
      refine gDrop [(b12, .mapIter (some m) clock (seenA vis) clock)] ?_
      refine gDrop [(b3, Obj.cells (List.toArray (vecL vv)) 33)] ?_
      refine gEnd1 (hF := Front.all _) Try.results16 (resT rfl) ⟨lenS σ.g vis, lenS (pruneG vv σ.g) vis, rfl, ?_, ?_, l, ch, m, bs, es, clock, sn, rc, WH, CV, List.Perm.refl _, hW, ?_, hE.prune vv⟩
      · rw [← lenS_perm hpv]; exact total_es hE
      · rw [← lenS_perm hpv]; exact total_es (hE.prune vv)
      · show ChF 126 141 es (pruneG vv σ.g) CV; rw [← gVis_all hE hpv]; exact hCV
    · refine pv rfl (rEx rfl rfl) ?_
      refine gs_nil ?_
      refine gSeq ?_
      refine gCondT rfl rfl ?_
      refine gSkip ?_
      refine gBlock ?_
      refine gSeq ?_
      refine gText (σ := wk [(0, .p), (1, .p), (2, .p)]) rfl ?_
      refine pv rfl (rEntry rfl he hE.bd) ?_
      refine pv rfl (rEx rfl rfl) ?_
      refine pv rfl (rAs rfl) ?_
      refine gs_nil ?_
      refine gKeep [3, 5, 7, 12] rfl ?_
      have hgv : gVis vv σ.g vis e.1 = σ.g e.1 := gVis_not (vis_key hs hE.kd he hne)
      obtain ⟨c, v, Lr, rest, h1, h2, h3, h4⟩ := hCV.pick hE.kd he
      refine gVN (u := .pointer (some ⟨c, 0, none⟩)) 7 rfl h1 ?_
      refine gPerm (perm_in h3) ?_
      have hvs := (hs.add he hne).sum σ.g
      have hvp := (hs.add he hne).sum (pruneG vv σ.g)
      rw [lenS_app, lenS_one] at hvs hvp
      have hlp := lenS_mono (g := σ.g) (g' := pruneG vv σ.g) (fun k => List.length_filter_le _ _) es
      have hgl : (gVis vv σ.g vis e.1).length = (σ.g e.1).length := by rw [hgv]
      have hgl2 : (pruneV vv (gVis vv σ.g vis e.1)).length = (pruneG vv σ.g e.1).length := by rw [hgv]; rfl
      refine gText (σ := wk [(0, .p), (1, .p), (2, .p), (3, .p), (4, .p), (5, .p)]) rfl ?_
      refine pv rfl (rMv rfl) ?_
      refine pv rfl (rMv rfl) ?_
      refine pv rfl (rLdA tA33 rfl rfl) ?_
      refine pc (R' := []) (L1 := (c, Obj.cells #[v] 141) :: Lr) rfl eN45 (c45 c _ vv v Lr h2 (by rw [hgv]; omega)) (fun u L' hv => ?_)
      obtain ⟨rfl, v', Lr', hr3, rfl⟩ := hv
      simp only [List.cons_append, List.append_assoc]
      obtain ⟨CV2, hpl, hCV2⟩ := h4 (gVis vv σ.g (vis ++ [e])) v' Lr' gVis_step (by rw [gVis_at, ← hgv]; exact hr3)
      refine pv rfl (rBin rfl rfl (bAddI (by omega))) ?_
      refine pv rfl (rAs rfl) ?_
      refine gs_nil ?_
      refine gKeep [3, 5, 12] rfl ?_
      refine gPerm (perm_in (D := (b3, Obj.cells (List.toArray (vecL vv)) 33) :: WH) hpl).symm ?_
      refine gVN (u := .int .i64 ((lenS σ.g (vis ++ [e]) : Int) - (lenS (pruneG vv σ.g) (vis ++ [e]) : Nat))) 5 rfl (by congr 1; rw [lenS_app, lenS_one, lenS_app, lenS_one, hgv]; simp only [pruneG]; omega) ?_
      have hva := hs.add he hne
      have hvl := hva.len
      refine gInvK (vis ++ [e], CV2) [3, 5, 12] ⟨⟨hva, hCV2⟩, by simp only [List.length_append, List.length_singleton] at hvl ⊢; omega⟩ rfl rfl
end Go.Proofs.Yteeobhehfdifnaa
