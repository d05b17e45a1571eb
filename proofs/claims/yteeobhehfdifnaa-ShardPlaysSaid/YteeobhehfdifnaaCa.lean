/- A part of the proof that shardPlays of chapter 10 returns true at every room and every list of deeds, and leaves its arguments as they read; no condition. -/
import Derived.Test.YteeobhehfdifnaaTBa
import Derived.Test.YteeobhehfdifnaaProg
import Derived.Test.YteeobhehfdifnaaTBb
set_option linter.unusedVariables false
set_option linter.unusedSimpArgs false
set_option linter.unusedVariables false
namespace Go.Proofs.Yteeobhehfdifnaa
open Go TB Go.Proofs
theorem t13 : T1 Try.prog 3 := ⟨fun w => by kernel_rfl, fun w => by kernel_rfl⟩
theorem t131 : T1 Try.prog 31 := ⟨fun w => by kernel_rfl, fun w => by kernel_rfl⟩
theorem t14 : T1 Try.prog 4 := ⟨fun w => by kernel_rfl, fun w => by kernel_rfl⟩
theorem t19 : T1 Try.prog 9 := ⟨fun w => by kernel_rfl, fun w => by kernel_rfl⟩
theorem tA33 : TA Try.prog 33 4 := ⟨fun w => by kernel_rfl, fun w => by kernel_rfl⟩
theorem tA35 : TA Try.prog 35 5 := ⟨fun w => by kernel_rfl, fun w => by kernel_rfl⟩
theorem bU33 : BU Try.prog 33 [(0, 1), (1, 1), (2, 1), (3, 1)] [.int .u64 0, .int .u64 0, .int .u64 0, .int .u64 0] := bu_array (sz := 1) (v := .agg #[.int .u64 0, .int .u64 0, .int .u64 0, .int .u64 0]) Try.underlying33 (fun w => by kernel_rfl) rfl (fun w => by kernel_rfl) rfl
theorem eN31 : EN Try.prog 31 := fun args w => by kernel_rfl
theorem eN32 : EN Try.prog 32 := fun args w => by kernel_rfl
theorem eN33 : EN Try.prog 33 := fun args w => by kernel_rfl
theorem eN34 : EN Try.prog 34 := fun args w => by kernel_rfl
theorem eN61 : EN Try.prog 61 := fun args w => by kernel_rfl
theorem eN62 : EN Try.prog 62 := fun args w => by kernel_rfl
theorem eN63 : EN Try.prog 63 := fun args w => by kernel_rfl
theorem eN74 : EN Try.prog 74 := fun args w => by kernel_rfl
theorem eN75 : EN Try.prog 75 := fun args w => by kernel_rfl
theorem eN81 : EN Try.prog 81 := fun args w => by kernel_rfl
theorem eN82 : EN Try.prog 82 := fun args w => by kernel_rfl
theorem eN83 : EN Try.prog 83 := fun args w => by kernel_rfl
theorem eN84 : EN Try.prog 84 := fun args w => by kernel_rfl
theorem eN88 : EN Try.prog 88 := fun args w => by kernel_rfl
theorem eN92 : EN Try.prog 92 := fun args w => by kernel_rfl
theorem eN93 : EN Try.prog 93 := fun args w => by kernel_rfl
theorem fA35_0 : FA Try.prog 35 0 0 := fun b o w => by kernel_rfl
theorem fA35_1 : FA Try.prog 35 1 4 := fun b o w => by kernel_rfl
theorem fA42_0 : FA Try.prog 42 0 0 := fun b o w => by kernel_rfl
theorem fA42_1 : FA Try.prog 42 1 1 := fun b o w => by kernel_rfl
theorem fA42_2 : FA Try.prog 42 2 2 := fun b o w => by kernel_rfl
theorem fA42_3 : FA Try.prog 42 3 3 := fun b o w => by kernel_rfl
theorem iA33 : IA Try.prog 33 4 1 := ⟨_, Try.underlying33, fun w => by kernel_rfl⟩
theorem iS159 : IS Try.prog 159 1 := ⟨_, Try.underlying159, fun w => by kernel_rfl⟩
theorem iS168 : IS Try.prog 168 1 := ⟨_, Try.underlying168, fun w => by kernel_rfl⟩
theorem iX33 : IX Try.prog 33 4 := ⟨_, Try.underlying33, fun w => by kernel_rfl, fun w => by kernel_rfl⟩
theorem uS159 : ∃ e, Try.prog.underlying 159 = some (.slice e) := ⟨_, Try.underlying159⟩
theorem uS168 : ∃ e, Try.prog.underlying 168 = some (.slice e) := ⟨_, Try.underlying168⟩
theorem zC33 : ZC Try.prog 33 [.int .u64 0, .int .u64 0, .int .u64 0, .int .u64 0] := fun w => ⟨.agg #[.int .u64 0, .int .u64 0, .int .u64 0, .int .u64 0], by kernel_rfl, rfl⟩
theorem fol : Try.prog.follows .mixedOrders = true := by kernel_rfl
theorem bEq33 (v u : Vec) : BinR Try.prog .eql 33 (vecV v) (vecV u) (.bool (decide (v = u))) := bEqV Try.underlying33 Try.underlying31 (fun w => by kernel_rfl) (fun w => by kernel_rfl) (by kernel_rfl) v u
theorem sA33 : ∃ e, Try.prog.underlying 33 = some (.array 4 e) ∧ ∀ w, ∃ s, (Go.sizeOf e).run Try.prog w = .ok s w := ⟨_, Try.underlying33, fun w => ⟨1, by kernel_rfl⟩⟩
theorem bS168_3 : BS Try.prog 168 3 3 [(0, 1), (1, 1), (2, 1)] [.int .i64 0, .int .i64 0, .int .i64 0] := bs_of (v := .int .i64 0) (sz := 1) Try.underlying168 (fun w => by kernel_rfl) (by decide) (fun w => by kernel_rfl) (by kernel_rfl) (by decide) rfl
theorem bEq35 (s t : Stamp) : BinR Try.prog .eql 35 (stampV s) (stampV t) (.bool (decide (s = t))) := bAgg (by kernel_rfl) fun w => by
  have hS : Try.prog.underlying 35 = some (.struct (Try.prog.fieldsOf 35)) := by kernel_rfl
  have hp : Try.prog.stoodInHeld 35 = false := by kernel_rfl
  rw [run_eql_struct, show (10000 : Nat) = 9997 + 1 + 1 + 1 from rfl, run_equalIn_agg w (9997 + 1 + 1) 35 _ _ hS hp]
  have a33 : ∀ w, (isAgg 33).run Try.prog w = .ok true w := fun w => by kernel_rfl
  have s33 : ∀ w, (Go.sizeOf 33).run Try.prog w = .ok 4 w := fun w => by kernel_rfl
  have a3 : ∀ w, (isAgg 3).run Try.prog w = .ok false w := fun w => by kernel_rfl
  have e1 := fun x0 x1 x2 x3 y0 y1 y2 y3 w => eq_arr4 (P := Try.prog) Try.underlying33 Try.underlying31 (fun w => by kernel_rfl) (fun w => by kernel_rfl) 9997 x0 x1 x2 x3 y0 y1 y2 y3 w
  have e2 : ∀ (x y : Int) w, (Op.equalIn (9997 + 1 + 1) 3 (.int .i64 x) (.int .i64 y)).run Try.prog w = .ok (x == y) w := fun x y w => run_equalIn_int w (9997 + 1) 3 .i64 .i64 x y Try.underlying3
  simp only [Program.fieldsOf, Try.underlying35]
  generalize 9997 + 1 + 1 = d at e1 e2 ⊢
  simp [Op.eqFields, part, a33, s33, a3, e1, e2]
  obtain ⟨⟨s0, s1, s2, s3⟩, s4⟩ := s
  obtain ⟨⟨t0, t1, t2, t3⟩, t4⟩ := t
  simp only [Stamp.mk.injEq, Vec.mk.injEq]
  by_cases h0 : s0 = t0 <;> by_cases h1 : s1 = t1 <;> by_cases h2 : s2 = t2 <;> by_cases h3 : s3 = t3 <;> by_cases h4 : s4 = t4 <;> simp [h0, h1, h2, h3, h4]
set_option maxRecDepth 4000 in
theorem c61 (n : Int) : Pf Try.prog 61 [.int .i64 n] [] (.bool (decide (1 ≤ n ∧ n ≤ 4))) := by
  refine trEnter Try.func61 rfl Try.ntmps61 (l := [(0, _)]) rfl rfl (fun w0 => ?_)
  refine gSeq ?_
  refine gText (σ := wk [(0, .p)]) rfl ?_
  refine pv rfl (rAs rfl) ?_
  refine gs_nil ?_
  refine gSeq ?_
  refine gText (σ := wk [(0, .p), (1, .p), (2, .p), (3, .p), (4, .p), (5, .p), (6, .p)]) rfl ?_
  refine pv rfl (rMv rfl) ?_
  refine pv rfl (rBin rfl rfl bGe) ?_
  refine pv rfl (rMv rfl) ?_
  refine gB (e := 5) rfl (fun g5 => ?_) (fun g5 => ?_)
  · refine pv rfl (rMv rfl) ?_
    refine pv rfl (rBin rfl rfl bLe) ?_
    refine pv rfl (rPk rfl rfl) ?_
    refine pv rfl (rAs rfl) ?_
    refine gs_nil ?_
    refine gKeep [2] rfl ?_
    refine gRet ?_
    refine gEnd1 Try.results61 (resT rfl) ⟨?_, rfl⟩
    first | (simp_all; done) | (simp_all; omega)
  · refine pn rfl ?_
    refine pn rfl ?_
    refine pv rfl (rPk rfl rfl) ?_
    refine pv rfl (rAs rfl) ?_
    refine gs_nil ?_
    refine gKeep [2] rfl ?_
    refine gRet ?_
    refine gEnd1 Try.results61 (resT rfl) ⟨?_, rfl⟩
    first | (simp_all; done) | (simp_all; omega)

set_option maxRecDepth 4000 in
theorem c63 (x y : Int) : Pf Try.prog 63 [.int .u64 x, .int .u64 y] [] (.int .u64 (max x y)) := by
  refine trEnter Try.func63 rfl Try.ntmps63 (l := [(0, _), (1, _)]) rfl rfl (fun w0 => ?_)
  refine gSeq ?_
  refine gText (σ := wk [(0, .p)]) rfl ?_
  refine pv rfl (rAs rfl) ?_
  refine gs_nil ?_
  refine gSeq ?_
  refine gText (σ := wk [(0, .p), (1, .p), (2, .p), (3, .p)]) rfl ?_
  refine pv rfl (rMv rfl) ?_
  refine pv rfl (rMv rfl) ?_
  refine pv rfl (rMax2 rfl rfl) ?_
  refine pv rfl (rAs rfl) ?_
  refine gs_nil ?_
  refine gKeep [4] rfl ?_
  refine gRet ?_
  refine gEnd1 Try.results63 (resT rfl) ⟨?_, rfl⟩
  rfl

set_option maxRecDepth 4000 in
theorem c62 (f : Nat) (he : EN Try.prog f) (g : Int → Int → Int) (hg : ∀ x y, Pf Try.prog f [.int .u64 x, .int .u64 y] [] (.int .u64 (g x y))) (a b : Vec) : Pf Try.prog 62 [vecV a, vecV b, .func (.func f) #[] #[]] [] (vecV ⟨g a.a b.a, g a.b b.b, g a.c b.c, g a.d b.d⟩) := by
  refine trEnter Try.func62 rfl Try.ntmps62 (l := [(0, _), (1, _), (2, _)]) rfl rfl (fun w0 => ?_)
  refine gSeq ?_
  refine gText (σ := wk [(0, .p), (1, .p), (2, .p)]) rfl ?_
  refine pm rfl (mBox rfl rfl) (fun b3 => ?_)
  refine pm rfl (mBox rfl rfl) (fun b4 => ?_)
  refine pm rfl (mAlloc zC33) (fun b6 => ?_)
  refine gs_nil ?_
  refine gSeq ?_
  refine gSeq ?_
  refine gText (σ := wk [(0, .p), (1, .p)]) rfl ?_
  refine pv rfl (rLdA tA33 rfl rfl) ?_
  refine pv rfl (rMv rfl) ?_
  refine gs_nil ?_
  refine gBlock ?_
  refine gLoop (σ := Nat) (fun s => ([(2, .func (.func f) #[] #[]), (3, .pointer (some ⟨b3, 0, none⟩)), (4, .pointer (some ⟨b4, 0, none⟩)), (6, .pointer (some ⟨b6, 0, none⟩)), (9, .int .i64 s)], [(b6, .cells #[.int .u64 0, .int .u64 0, .int .u64 0, .int .u64 0] 33), (b4, .cells (vecL b).toArray 33), (b3, .cells (mixL g a b s).toArray 33)])) (fun s => s ≤ 4) (fun s => 4 - s) ?_ (fun s hs => ?_)
  · refine gInvK (0) [2, 3, 4, 6, 9] (by simp) rfl rfl
  · refine gSeq ?_
    refine gText (σ := wk [(0, .p)]) rfl ?_
    refine pv rfl (rBin rfl rfl bLt) ?_
    refine gs_nil ?_
    refine gSeq ?_
    refine gCondD rfl (fun h0 => ?_) (fun h0 => ?_)
    · have hk : s = 0 ∨ s = 1 ∨ s = 2 ∨ s = 3 := by omega
      rcases hk with rfl | rfl | rfl | rfl
      all_goals
        refine gSkip ?_
        refine gSeq ?_
        refine gBlock ?_
        refine gSeq ?_
        refine gText (σ := wk [(0, .p), (1, .p)]) rfl ?_
        refine pv rfl (rMv rfl) ?_
        refine pv rfl (rAs rfl) ?_
        refine gs_nil ?_
        refine gD [b3, b4] (wk [(0, .q), (1, .q), (2, .q), (3, .q), (4, .q), (5, .q), (6, .q), (7, .q), (8, .p), (9, .q), (10, .p)]) fol (by kernel_rfl) rfl (by kernel_rfl) ?_
        refine qv rfl (rMv rfl) ?_
        refine qv rfl (rMv rfl) ?_
        refine qv rfl (rMv rfl) ?_
        refine qv rfl (rIa iA33 rfl rfl ⟨by decide, by decide⟩) ?_
        refine qv rfl (rLdN t131 rfl rfl) ?_
        refine qv rfl (rMv rfl) ?_
        refine qv rfl (rIa iA33 rfl rfl ⟨by decide, by decide⟩) ?_
        refine qv rfl (rLdN t131 rfl rfl) ?_
        refine pf rfl he (hg _ _) ?_
        refine qv rfl (rIa iA33 rfl rfl ⟨by decide, by decide⟩) ?_
        refine ps rfl (tSt t131.2 rfl rfl rfl rfl rfl rfl rfl) (by kernel_rfl) ?_
        refine gKeep [2, 3, 4, 6, 9] rfl ?_
        refine gText (σ := wk [(0, .p), (1, .p)]) rfl ?_
        refine pv rfl (rBin rfl rfl (bAddI (by omega))) ?_
        refine pv rfl (rMv rfl) ?_
        refine gs_nil ?_
        first | refine gInvK (0 + 1) [2, 3, 4, 6, 9] ⟨by omega, by omega⟩ rfl rfl | refine gInvK (1 + 1) [2, 3, 4, 6, 9] ⟨by omega, by omega⟩ rfl rfl | refine gInvK (2 + 1) [2, 3, 4, 6, 9] ⟨by omega, by omega⟩ rfl rfl | refine gInvK (3 + 1) [2, 3, 4, 6, 9] ⟨by omega, by omega⟩ rfl rfl
    · have hk : s = 4 := by omega
      subst hk
      refine gExit rfl ?_
      refine gSeq ?_
      refine gText (σ := wk [(0, .p), (1, .p)]) rfl ?_
      refine pv rfl (rLdA tA33 rfl rfl) ?_
      refine ps0 rfl (tSt tA33.2 rfl rfl rfl rfl rfl rfl rfl) ?_
      refine gs_nil ?_
      refine gRet ?_
      refine gEnd1 Try.results62 (resA tA33 rfl rfl) ⟨?_, rfl⟩
      rfl

set_option maxRecDepth 4000 in
theorem c34 (a b : Vec) : Pf Try.prog 34 [vecV a, vecV b] [] (vecV (a.join b)) := by
  refine trEnter Try.func34 rfl Try.ntmps34 (l := [(0, _), (1, _)]) rfl rfl (fun w0 => ?_)
  refine gSeq ?_
  refine gText (σ := wk [(0, .p), (1, .p), (2, .p)]) rfl ?_
  refine pm rfl (mBox rfl rfl) (fun b2 => ?_)
  refine pm rfl (mBox rfl rfl) (fun b3 => ?_)
  refine pm rfl (mAlloc zC33) (fun b4 => ?_)
  refine gs_nil ?_
  refine gSeq ?_
  refine gText (σ := wk [(0, .p), (1, .p), (2, .p), (3, .p)]) rfl ?_
  refine pv rfl (rLdA tA33 rfl rfl) ?_
  refine pv rfl (rLdA tA33 rfl rfl) ?_
  refine pf rfl eN62 (c62 63 eN63 _ c63 _ _) ?_
  refine ps0 rfl (tSt tA33.2 rfl rfl rfl rfl rfl rfl rfl) ?_
  refine gs_nil ?_
  refine gKeep [4] rfl ?_
  refine gRet ?_
  refine gEnd1 Try.results34 (resA tA33 rfl rfl) ⟨?_, rfl⟩
  rfl

set_option maxRecDepth 4000 in
theorem c88 (a b : Vec) : Pf Try.prog 88 [vecV a, vecV b] [] (.bool (a.leq b)) := by
  refine trEnter Try.func88 rfl Try.ntmps88 (l := [(0, _), (1, _)]) rfl rfl (fun w0 => ?_)
  refine gSeq ?_
  refine gText (σ := wk [(0, .p), (1, .p), (2, .p)]) rfl ?_
  refine pm rfl (mBox rfl rfl) (fun b2 => ?_)
  refine pm rfl (mBox rfl rfl) (fun b3 => ?_)
  refine pv rfl (rAs rfl) ?_
  refine gs_nil ?_
  refine gSeq ?_
  refine gD [b2, b3] (wk [(0, .q), (1, .q), (3, .q), (2, .p), (4, .q), (5, .q)]) fol (by kernel_rfl) rfl (by kernel_rfl) ?_
  refine qv rfl (rLdA tA33 rfl rfl) ?_
  refine qv rfl (rLdA tA33 rfl rfl) ?_
  refine qv rfl (rLdA tA33 rfl rfl) ?_
  refine pf rfl eN34 (c34 _ _) ?_
  refine qv rfl (rBin rfl rfl (bEq33 _ _)) ?_
  refine qv rfl (rAs rfl) ?_
  refine gs_nil ?_
  refine gKeep [4] rfl ?_
  refine gRet ?_
  refine gEnd1 Try.results88 (resT rfl) ⟨?_, rfl⟩
  exact congrArg _ (join_eq _ _)

set_option maxRecDepth 4000 in
theorem c75 (a : Vec) : Pf Try.prog 75 [vecV a] [] (.bool a.ok) := by
  refine trEnter Try.func75 rfl Try.ntmps75 (l := [(0, _)]) rfl rfl (fun w0 => ?_)
  refine gSeq ?_
  refine gText (σ := wk [(0, .p), (1, .p)]) rfl ?_
  refine pm rfl (mBox rfl rfl) (fun b1 => ?_)
  refine pv rfl (rAs rfl) ?_
  refine gs_nil ?_
  refine gSeq ?_
  refine gText (σ := wk [(0, .p), (1, .p), (2, .p), (3, .p)]) rfl ?_
  refine pv rfl (rLdA tA33 rfl rfl) ?_
  refine pv rfl (rBu bU33 rfl rfl) ?_
  refine pf rfl eN88 (c88 _ ⟨_, _, _, _⟩) ?_
  refine pv rfl (rAs rfl) ?_
  refine gs_nil ?_
  refine gKeep [2] rfl ?_
  refine gRet ?_
  refine gEnd1 Try.results75 (resT rfl) ⟨?_, rfl⟩
  rfl

set_option maxRecDepth 4000 in
theorem c33 (v : Vec) (n : Int) : Pf Try.prog 33 [vecV v, .int .i64 n] [] (.int .u64 (v.at' n)) := by
  refine trEnter Try.func33 rfl Try.ntmps33 (l := [(0, _), (1, _)]) rfl rfl (fun w0 => ?_)
  refine gSeq ?_
  refine gText (σ := wk [(0, .p), (1, .p)]) rfl ?_
  refine pm rfl (mBox rfl rfl) (fun b2 => ?_)
  refine pv rfl (rAs rfl) ?_
  refine gs_nil ?_
  refine gSeq ?_
  refine gSeq ?_
  refine gText (σ := wk [(0, .p), (1, .p), (2, .p)]) rfl ?_
  refine pv rfl (rMv rfl) ?_
  refine pf rfl eN61 (c61 _) ?_
  refine pv rfl (rNot rfl) ?_
  refine gs_nil ?_
  refine gCond rfl (fun h0 => ?_) (fun h0 => ?_)
  · have h1 : ¬ (1 ≤ n ∧ n ≤ 4) := by have := h0; simp at this; omega
    refine gSeq ?_
    refine gText (σ := wk [(0, .p)]) rfl ?_
    refine pv rfl (rAs rfl) ?_
    refine gs_nil ?_
    refine gKeep [1, 2, 4] rfl ?_
    refine gRet ?_
    refine gEnd1 Try.results33 (resT rfl) ⟨?_, rfl⟩
    unfold Vec.at'
    rw [if_neg (by omega), if_neg (by omega), if_neg (by omega), if_neg (by omega)]
  · have h1 : 1 ≤ n ∧ n ≤ 4 := of_decide_eq_true (by simpa using h0)
    refine gSkip ?_
    refine gSeq ?_
    refine gText (σ := wk [(0, .p), (1, .p), (2, .p), (3, .p), (4, .p)]) rfl ?_
    refine pv rfl (rMv rfl) ?_
    refine pv rfl (rBin rfl rfl (bSubI (by omega))) ?_
    refine pv rfl (rIa iA33 rfl rfl (by omega)) ?_
    refine pv rfl (rLd1 t131 rfl (vec_nth v n h1)) ?_
    refine pv rfl (rAs rfl) ?_
    refine gs_nil ?_
    refine gKeep [4] rfl ?_
    refine gRet ?_
    refine gEnd1 Try.results33 (resT rfl) ⟨?_, rfl⟩
    rfl

set_option maxRecDepth 4000 in
theorem c30 (v : Vec) (n x : Int) : Pf Try.prog 30 [vecV v, .int .i64 n, .int .u64 x] [] (vecV (v.set' n x)) := by
  refine trEnter Try.func30 rfl Try.ntmps30 (l := [(0, _), (1, _), (2, _)]) rfl rfl (fun w0 => ?_)
  refine gSeq ?_
  refine gText (σ := wk [(0, .p), (1, .p)]) rfl ?_
  refine pm rfl (mBox rfl rfl) (fun b3 => ?_)
  refine pm rfl (mAlloc zC33) (fun b6 => ?_)
  refine gs_nil ?_
  refine gSeq ?_
  refine gSeq ?_
  refine gText (σ := wk [(0, .p), (1, .p)]) rfl ?_
  refine pv rfl (rMv rfl) ?_
  refine pf rfl eN61 (c61 _) ?_
  refine gs_nil ?_
  refine gCondD rfl (fun h0 => ?_) (fun h0 => ?_)
  · have h1 := h0
    refine gText (σ := wk [(0, .p), (1, .p), (2, .p), (3, .p), (4, .p)]) rfl ?_
    refine pv rfl (rMv rfl) ?_
    refine pv rfl (rBin rfl rfl (bSubI (by omega))) ?_
    refine pv rfl (rMv rfl) ?_
    refine pv rfl (rIa iA33 rfl rfl (by omega)) ?_
    refine ps0 rfl (tSt1 t131.2 rfl rfl rfl rfl (by show _ < 4; have := h1; omega) (vec_set v n x h1)) ?_
    refine gs_nil ?_
    refine gKeep [3, 6] rfl ?_
    refine gSeq ?_
    refine gText (σ := wk [(0, .p), (1, .p)]) rfl ?_
    refine pv rfl (rLdA tA33 rfl rfl) ?_
    refine ps0 rfl (tSt tA33.2 rfl rfl rfl rfl rfl rfl rfl) ?_
    refine gs_nil ?_
    refine gRet ?_
    refine gEnd1 Try.results30 (resA tA33 rfl rfl) ⟨?_, rfl⟩
    rfl
  · have h1 := h0
    refine gSkip ?_
    refine gSeq ?_
    refine gText (σ := wk [(0, .p), (1, .p)]) rfl ?_
    refine pv rfl (rLdA tA33 rfl rfl) ?_
    refine ps0 rfl (tSt tA33.2 rfl rfl rfl rfl rfl rfl rfl) ?_
    refine gs_nil ?_
    refine gKeep [6] rfl ?_
    refine gRet ?_
    refine gEnd1 Try.results30 (resA tA33 rfl rfl) ⟨?_, rfl⟩
    unfold Vec.set'
    rw [if_neg (by omega), if_neg (by omega), if_neg (by omega), if_neg (by omega)]
    rfl

set_option maxRecDepth 4000 in
theorem c32 (v : Vec) : Pf Try.prog 32 [vecV v] [] (.int .u64 v.sum) := by
  refine trEnter Try.func32 rfl Try.ntmps32 (l := [(0, _)]) rfl rfl (fun w0 => ?_)
  refine gSeq ?_
  refine gText (σ := wk [(0, .p), (1, .p)]) rfl ?_
  refine pm rfl (mBox rfl rfl) (fun b1 => ?_)
  refine pv rfl (rAs rfl) ?_
  refine gs_nil ?_
  refine gSeq ?_
  refine gSeq ?_
  refine gText (σ := wk [(0, .p), (1, .p)]) rfl ?_
  refine pv rfl (rLdA tA33 rfl rfl) ?_
  refine pv rfl (rMv rfl) ?_
  refine gs_nil ?_
  refine gBlock ?_
  refine gLoop (σ := Nat) (fun s => ([(2, .int .u64 (sumTo v s)), (5, vecV v), (6, .int .i64 s)], [(b1, .cells (vecL v).toArray 33)])) (fun s => s ≤ 4) (fun s => 4 - s) ?_ (fun s hs => ?_)
  · refine gInvK (0) [2, 5, 6] (by simp) rfl rfl
  · refine gSeq ?_
    refine gText (σ := wk [(0, .p)]) rfl ?_
    refine pv rfl (rBin rfl rfl bLt) ?_
    refine gs_nil ?_
    refine gSeq ?_
    refine gCondD rfl (fun h0 => ?_) (fun h0 => ?_)
    · have hk : s = 0 ∨ s = 1 ∨ s = 2 ∨ s = 3 := by omega
      rcases hk with rfl | rfl | rfl | rfl
      all_goals
        refine gSkip ?_
        refine gSeq ?_
        refine gBlock ?_
        refine gSeq ?_
        refine gText (σ := wk [(0, .p), (1, .p)]) rfl ?_
        refine pv rfl (rIx iX33 rfl rfl ⟨by decide, by decide⟩ rfl) ?_
        refine pv rfl (rAs rfl) ?_
        refine gs_nil ?_
        refine gText (σ := wk [(0, .p), (1, .p), (2, .p), (3, .p)]) rfl ?_
        refine pv rfl (rMv rfl) ?_
        refine pv rfl (rMv rfl) ?_
        refine pv rfl (rBin rfl rfl bAdd) ?_
        refine pv rfl (rAs rfl) ?_
        refine gs_nil ?_
        refine gKeep [2, 5, 6] rfl ?_
        refine gText (σ := wk [(0, .p), (1, .p)]) rfl ?_
        refine pv rfl (rBin rfl rfl (bAddI (by omega))) ?_
        refine pv rfl (rMv rfl) ?_
        refine gs_nil ?_
        first | refine gInvK (0 + 1) [2, 5, 6] ⟨by omega, by omega⟩ rfl rfl | refine gInvK (1 + 1) [2, 5, 6] ⟨by omega, by omega⟩ rfl rfl | refine gInvK (2 + 1) [2, 5, 6] ⟨by omega, by omega⟩ rfl rfl | refine gInvK (3 + 1) [2, 5, 6] ⟨by omega, by omega⟩ rfl rfl
    · have hk : s = 4 := by omega
      subst hk
      refine gExit rfl ?_
      refine gSeq ?_
      refine gText (σ := wk [(0, .p), (1, .p)]) rfl ?_
      refine pv rfl (rMv rfl) ?_
      refine pv rfl (rAs rfl) ?_
      refine gs_nil ?_
      refine gRet ?_
      refine gEnd1 Try.results32 (resT rfl) ⟨?_, rfl⟩
      rfl

set_option maxRecDepth 4000 in
theorem c31 (s : Stamp) : Pf Try.prog 31 [stampV s] [] (.int .u64 s.n) := by
  refine trEnter Try.func31 rfl Try.ntmps31 (l := [(0, _)]) rfl rfl (fun w0 => ?_)
  refine gSeq ?_
  refine gText (σ := wk [(0, .p), (1, .p)]) rfl ?_
  refine pm rfl (mBox rfl rfl) (fun b1 => ?_)
  refine pv rfl (rAs rfl) ?_
  refine gs_nil ?_
  refine gSeq ?_
  refine gText (σ := wk [(0, .p), (1, .p), (2, .p), (3, .p), (4, .p), (5, .p)]) rfl ?_
  refine pv rfl (rFa fA35_0 rfl) ?_
  refine pv rfl (rLdA tA33 rfl rfl) ?_
  refine pv rfl (rFa fA35_1 rfl) ?_
  refine pv rfl (rLdN t13 rfl rfl) ?_
  refine pf rfl eN33 (c33 _ _) ?_
  refine pv rfl (rAs rfl) ?_
  refine gs_nil ?_
  refine gKeep [2] rfl ?_
  refine gRet ?_
  refine gEnd1 Try.results31 (resT rfl) ⟨?_, rfl⟩
  rfl

set_option maxRecDepth 4000 in
theorem c50 (s : Stamp) : Pf Try.prog 50 [stampV s] [] (.bool s.ok) := by
  refine trEnter Try.func50 rfl Try.ntmps50 (l := [(0, _)]) rfl rfl (fun w0 => ?_)
  refine gSeq ?_
  refine gText (σ := wk [(0, .p), (1, .p)]) rfl ?_
  refine pm rfl (mBox rfl rfl) (fun b1 => ?_)
  refine pv rfl (rAs rfl) ?_
  refine gs_nil ?_
  refine gSeq ?_
  refine gText (σ := wk [(0, .p), (1, .p), (2, .p), (3, .p), (4, .p), (5, .p), (6, .p), (7, .p), (8, .p)]) rfl ?_
  refine pv rfl (rFa fA35_0 rfl) ?_
  refine pv rfl (rLdA tA33 rfl rfl) ?_
  refine pf rfl eN75 (c75 _) ?_
  refine pv rfl (rMv rfl) ?_
  refine gB (e := 6) rfl (fun g6 => ?_) (fun g6 => ?_)
  · refine pv rfl (rLdA tA35 rfl rfl) ?_
    refine pf rfl eN31 (c31 _) ?_
    refine pv rfl (rBin rfl rfl bGt) ?_
    refine pv rfl (rPk rfl rfl) ?_
    refine pv rfl (rAs rfl) ?_
    refine gs_nil ?_
    refine gKeep [2] rfl ?_
    refine gRet ?_
    refine gEnd1 Try.results50 (resT rfl) ⟨?_, rfl⟩
    simp_all [Stamp.ok]
  · refine pn rfl ?_
    refine pn rfl ?_
    refine pn rfl ?_
    refine pv rfl (rPk rfl rfl) ?_
    refine pv rfl (rAs rfl) ?_
    refine gs_nil ?_
    refine gKeep [2] rfl ?_
    refine gRet ?_
    refine gEnd1 Try.results50 (resT rfl) ⟨?_, rfl⟩
    simp_all [Stamp.ok]

set_option maxRecDepth 4000 in
theorem c71 (s : Stamp) (v : Vec) : Pf Try.prog 71 [stampV s, vecV v] [] (.bool (s.v.leq v)) := by
  refine trEnter Try.func71 rfl Try.ntmps71 (l := [(0, _), (1, _)]) rfl rfl (fun w0 => ?_)
  refine gSeq ?_
  refine gText (σ := wk [(0, .p), (1, .p), (2, .p)]) rfl ?_
  refine pm rfl (mBox rfl rfl) (fun b2 => ?_)
  refine pm rfl (mBox rfl rfl) (fun b3 => ?_)
  refine pv rfl (rAs rfl) ?_
  refine gs_nil ?_
  refine gSeq ?_
  refine gText (σ := wk [(0, .p), (1, .p), (2, .p), (3, .p), (4, .p)]) rfl ?_
  refine pv rfl (rFa fA35_0 rfl) ?_
  refine pv rfl (rLdA tA33 rfl rfl) ?_
  refine pv rfl (rLdA tA33 rfl rfl) ?_
  refine pf rfl eN88 (c88 _ _) ?_
  refine pv rfl (rAs rfl) ?_
  refine gs_nil ?_
  refine gKeep [4] rfl ?_
  refine gRet ?_
  refine gEnd1 Try.results71 (resT rfl) ⟨?_, rfl⟩
  rfl

set_option maxRecDepth 4000 in
theorem c74 (s : ByteArray) : Pf Try.prog 74 [.string s] [] (.bool (nameOk s)) := by
  refine trEnter Try.func74 rfl Try.ntmps74 (l := [(0, _)]) rfl rfl (fun w0 => ?_)
  refine gSeq ?_
  refine gText (σ := wk [(0, .p)]) rfl ?_
  refine pv rfl (rAs rfl) ?_
  refine gs_nil ?_
  refine gSeq ?_
  refine gText (σ := wk [(0, .p), (1, .p), (2, .p), (3, .p), (4, .p), (5, .p), (6, .p), (7, .p)]) rfl ?_
  refine pv rfl (rMv rfl) ?_
  refine pv rfl (rBin rfl rfl bNeS) ?_
  refine pv rfl (rMv rfl) ?_
  refine gB (e := 5) rfl (fun g5 => ?_) (fun g5 => ?_)
  · refine pv rfl (rMv rfl) ?_
    refine pv rfl (rLenS Try.underlying9 rfl) ?_
    refine pv rfl (rBin rfl rfl bLe) ?_
    refine pv rfl (rPk rfl rfl) ?_
    refine pv rfl (rAs rfl) ?_
    refine gs_nil ?_
    refine gKeep [2] rfl ?_
    refine gRet ?_
    refine gEnd1 Try.results74 (resT rfl) ⟨?_, rfl⟩
    simp_all [nameOk]
  · refine pn rfl ?_
    refine pn rfl ?_
    refine pn rfl ?_
    refine pv rfl (rPk rfl rfl) ?_
    refine pv rfl (rAs rfl) ?_
    refine gs_nil ?_
    refine gKeep [2] rfl ?_
    refine gRet ?_
    refine gEnd1 Try.results74 (resT rfl) ⟨?_, rfl⟩
    simp_all [nameOk]

set_option maxRecDepth 4000 in
theorem c49 (w : Write) : Pf Try.prog 49 [writeV w] [] (.bool w.ok) := by
  refine trEnter Try.func49 rfl Try.ntmps49 (l := [(0, _)]) rfl rfl (fun w0 => ?_)
  refine gSeq ?_
  refine gText (σ := wk [(0, .p), (1, .p)]) rfl ?_
  refine pm rfl (mBox rfl rfl) (fun b1 => ?_)
  refine pv rfl (rAs rfl) ?_
  refine gs_nil ?_
  refine gSeq ?_
  refine gText (σ := wk [(0, .p), (1, .p), (2, .p), (3, .p), (4, .p), (5, .p), (6, .p), (7, .p), (8, .p), (9, .p), (10, .p), (11, .p), (12, .p), (13, .p), (14, .p), (15, .p), (16, .p), (17, .p), (18, .p), (19, .p), (20, .p), (21, .p), (22, .p), (23, .p), (24, .p)]) rfl ?_
  refine pv rfl (rFa fA42_0 rfl) ?_
  refine pv rfl (rLdN t19 rfl rfl) ?_
  refine pf rfl eN74 (c74 _) ?_
  refine pv rfl (rMv rfl) ?_
  refine gB (e := 6) rfl (fun g6 => ?_) (fun g6 => ?_)
  · refine pv rfl (rFa fA42_1 rfl) ?_
    refine pv rfl (rLdN t19 rfl rfl) ?_
    refine pf rfl eN74 (c74 _) ?_
    refine pv rfl (rPk rfl rfl) ?_
    refine pv rfl (rMv rfl) ?_
    refine gB (e := 11) rfl (fun g11 => ?_) (fun g11 => ?_)
    · refine pv rfl (rFa fA42_2 rfl) ?_
      refine pv rfl (rLdN t19 rfl rfl) ?_
      refine pv rfl (rLenS Try.underlying9 rfl) ?_
      refine pv rfl (rBin rfl rfl bLe) ?_
      refine pv rfl (rPk rfl rfl) ?_
      refine pv rfl (rMv rfl) ?_
      refine gB (e := 17) rfl (fun g17 => ?_) (fun g17 => ?_)
      · refine pv rfl (rFa fA42_2 rfl) ?_
        refine pv rfl (rLdN t19 rfl rfl) ?_
        refine pv rfl (rBin rfl rfl bEqS) ?_
        refine pv rfl (rMv rfl) ?_
        refine gB (e := 21) rfl (fun g21 => ?_) (fun g21 => ?_)
        · refine pn rfl ?_
          refine pn rfl ?_
          refine pn rfl ?_
          refine pv rfl (rPk rfl rfl) ?_
          refine pv rfl (rPk rfl rfl) ?_
          refine pv rfl (rAs rfl) ?_
          refine gs_nil ?_
          refine gKeep [2] rfl ?_
          refine gRet ?_
          refine gEnd1 Try.results49 (resT rfl) ⟨?_, rfl⟩
          first | (simp_all [Write.ok]; done) | (simp_all [Write.ok]; omega)
        · refine pv rfl (rFa fA42_3 rfl) ?_
          refine pv rfl (rLdN t14 rfl rfl) ?_
          refine pv rfl (rNot rfl) ?_
          refine pv rfl (rPk rfl rfl) ?_
          refine pv rfl (rPk rfl rfl) ?_
          refine pv rfl (rAs rfl) ?_
          refine gs_nil ?_
          refine gKeep [2] rfl ?_
          refine gRet ?_
          refine gEnd1 Try.results49 (resT rfl) ⟨?_, rfl⟩
          first | (simp_all [Write.ok]; done) | (simp_all [Write.ok]; omega)
      · refine pn rfl ?_
        refine pn rfl ?_
        refine pn rfl ?_
        refine pn rfl ?_
        refine pn rfl ?_
        refine pn rfl ?_
        refine pn rfl ?_
        refine pn rfl ?_
        refine pv rfl (rPk rfl rfl) ?_
        refine pv rfl (rAs rfl) ?_
        refine gs_nil ?_
        refine gKeep [2] rfl ?_
        refine gRet ?_
        refine gEnd1 Try.results49 (resT rfl) ⟨?_, rfl⟩
        first | (simp_all [Write.ok]; done) | (simp_all [Write.ok]; omega)
    · refine pn rfl ?_
      refine pn rfl ?_
      refine pn rfl ?_
      refine pn rfl ?_
      refine pv rfl (rPk rfl rfl) ?_
      refine pv rfl (rMv rfl) ?_
      refine pn rfl ?_
      refine pn rfl ?_
      refine pn rfl ?_
      refine pn rfl ?_
      refine pn rfl ?_
      refine pn rfl ?_
      refine pn rfl ?_
      refine pn rfl ?_
      refine pv rfl (rPk rfl rfl) ?_
      refine pv rfl (rAs rfl) ?_
      refine gs_nil ?_
      refine gKeep [2] rfl ?_
      refine gRet ?_
      refine gEnd1 Try.results49 (resT rfl) ⟨?_, rfl⟩
      first | (simp_all [Write.ok]; done) | (simp_all [Write.ok]; omega)
  · refine pn rfl ?_
    refine pn rfl ?_
    refine pn rfl ?_
    refine pv rfl (rPk rfl rfl) ?_
    refine pv rfl (rMv rfl) ?_
    refine pn rfl ?_
    refine pn rfl ?_
    refine pn rfl ?_
    refine pn rfl ?_
    refine pv rfl (rPk rfl rfl) ?_
    refine pv rfl (rMv rfl) ?_
    refine pn rfl ?_
    refine pn rfl ?_
    refine pn rfl ?_
    refine pn rfl ?_
    refine pn rfl ?_
    refine pn rfl ?_
    refine pn rfl ?_
    refine pn rfl ?_
    refine pv rfl (rPk rfl rfl) ?_
    refine pv rfl (rAs rfl) ?_
    refine gs_nil ?_
    refine gKeep [2] rfl ?_
    refine gRet ?_
    refine gEnd1 Try.results49 (resT rfl) ⟨?_, rfl⟩
    first | (simp_all [Write.ok]; done) | (simp_all [Write.ok]; omega)

set_option maxRecDepth 4000 in
theorem c92 (x : Int) : Pf Try.prog 92 [.int .u64 x] [] (.bool false) := by
  refine trEnter Try.func92 rfl Try.ntmps92 (l := [(0, _)]) rfl rfl (fun w0 => ?_)
  refine gSeq ?_
  refine gText (σ := wk [(0, .p)]) rfl ?_
  refine pv rfl (rAs rfl) ?_
  refine gs_nil ?_
  refine gSeq ?_
  refine gText (σ := wk [(0, .p), (1, .p), (2, .p), (3, .p)]) rfl ?_
  refine pv rfl (rMv rfl) ?_
  refine pv rfl (rMv rfl) ?_
  refine pv rfl (rBin rfl rfl bNe) ?_
  refine pv rfl (rAs rfl) ?_
  refine gs_nil ?_
  refine gKeep [2] rfl ?_
  refine gRet ?_
  refine gEnd1 Try.results92 (resT rfl) ⟨?_, rfl⟩
  simp

set_option maxRecDepth 4000 in
theorem c93 (x : Int) : Pf Try.prog 93 [.int .i64 x] [] (.bool false) := by
  refine trEnter Try.func93 rfl Try.ntmps93 (l := [(0, _)]) rfl rfl (fun w0 => ?_)
  refine gSeq ?_
  refine gText (σ := wk [(0, .p)]) rfl ?_
  refine pv rfl (rAs rfl) ?_
  refine gs_nil ?_
  refine gSeq ?_
  refine gText (σ := wk [(0, .p), (1, .p), (2, .p), (3, .p)]) rfl ?_
  refine pv rfl (rMv rfl) ?_
  refine pv rfl (rMv rfl) ?_
  refine pv rfl (rBin rfl rfl bNe) ?_
  refine pv rfl (rAs rfl) ?_
  refine gs_nil ?_
  refine gKeep [2] rfl ?_
  refine gRet ?_
  refine gEnd1 Try.results93 (resT rfl) ⟨?_, rfl⟩
  simp

set_option maxRecDepth 4000 in
theorem c82 (x y : Int) : Pf Try.prog 82 [.int .u64 x, .int .u64 y] [] (.int .i64 (cmp3 x y)) := by
  refine trEnter Try.func82 rfl Try.ntmps82 (l := [(0, _), (1, _)]) rfl rfl (fun w0 => ?_)
  refine gSeq ?_
  refine gText (σ := wk [(0, .p)]) rfl ?_
  refine pv rfl (rAs rfl) ?_
  refine gs_nil ?_
  refine gSeq ?_
  refine gText (σ := wk [(0, .p), (1, .p), (2, .p)]) rfl ?_
  refine pv rfl (rMv rfl) ?_
  refine pf rfl eN92 (c92 _) ?_
  refine pv rfl (rAs rfl) ?_
  refine gs_nil ?_
  refine gSeq ?_
  refine gText (σ := wk [(0, .p), (1, .p), (2, .p)]) rfl ?_
  refine pv rfl (rMv rfl) ?_
  refine pf rfl eN92 (c92 _) ?_
  refine pv rfl (rAs rfl) ?_
  refine gs_nil ?_
  refine gKeep [0, 1, 4, 5, 6] rfl ?_
  refine gSeq ?_
  refine gSeq ?_
  refine gText (σ := wk [(0, .p)]) rfl ?_
  refine pv rfl (rMv rfl) ?_
  refine gs_nil ?_
  refine gCondF rfl rfl ?_
  refine gSkip ?_
  refine gSeq ?_
  refine gSeq ?_
  refine gText (σ := wk [(0, .p)]) rfl ?_
  refine pv rfl (rMv rfl) ?_
  refine gs_nil ?_
  refine gCondF rfl rfl ?_
  refine gSkip ?_
  refine gSeq ?_
  refine gSeq ?_
  refine gText (σ := wk [(0, .p), (1, .p), (2, .p)]) rfl ?_
  refine pv rfl (rMv rfl) ?_
  refine pv rfl (rMv rfl) ?_
  refine pv rfl (rBin rfl rfl bLt) ?_
  refine gs_nil ?_
  refine gKeep [0, 1, 4, 16] rfl ?_
  refine gCondD rfl (fun h2 => ?_) (fun h2 => ?_)
  · refine gSeq ?_
    refine gText (σ := wk [(0, .p)]) rfl ?_
    refine pv rfl (rAs rfl) ?_
    refine gs_nil ?_
    refine gRet ?_
    refine gEnd1 Try.results82 (resT rfl) ⟨?_, rfl⟩
    simp only [cmp3]; first | (simp [*]; done) | (simp [*]; omega)
  · refine gSkip ?_
    refine gSeq ?_
    refine gSeq ?_
    refine gText (σ := wk [(0, .p), (1, .p), (2, .p)]) rfl ?_
    refine pv rfl (rMv rfl) ?_
    refine pv rfl (rMv rfl) ?_
    refine pv rfl (rBin rfl rfl bGt) ?_
    refine gs_nil ?_
    refine gKeep [4, 19] rfl ?_
    refine gCondD rfl (fun h3 => ?_) (fun h3 => ?_)
    · refine gSeq ?_
      refine gText (σ := wk [(0, .p)]) rfl ?_
      refine pv rfl (rAs rfl) ?_
      refine gs_nil ?_
      refine gRet ?_
      refine gEnd1 Try.results82 (resT rfl) ⟨?_, rfl⟩
      simp only [cmp3]; first | (simp [*]; done) | (simp [*]; omega)
    · refine gSkip ?_
      refine gSeq ?_
      refine gText (σ := wk [(0, .p)]) rfl ?_
      refine pv rfl (rAs rfl) ?_
      refine gs_nil ?_
      refine gRet ?_
      refine gEnd1 Try.results82 (resT rfl) ⟨?_, rfl⟩
      simp only [cmp3]; first | (simp [*]; done) | (simp [*]; omega)

set_option maxRecDepth 4000 in
theorem c83 (x y : Int) : Pf Try.prog 83 [.int .i64 x, .int .i64 y] [] (.int .i64 (cmp3 x y)) := by
  refine trEnter Try.func83 rfl Try.ntmps83 (l := [(0, _), (1, _)]) rfl rfl (fun w0 => ?_)
  refine gSeq ?_
  refine gText (σ := wk [(0, .p)]) rfl ?_
  refine pv rfl (rAs rfl) ?_
  refine gs_nil ?_
  refine gSeq ?_
  refine gText (σ := wk [(0, .p), (1, .p), (2, .p)]) rfl ?_
  refine pv rfl (rMv rfl) ?_
  refine pf rfl eN93 (c93 _) ?_
  refine pv rfl (rAs rfl) ?_
  refine gs_nil ?_
  refine gSeq ?_
  refine gText (σ := wk [(0, .p), (1, .p), (2, .p)]) rfl ?_
  refine pv rfl (rMv rfl) ?_
  refine pf rfl eN93 (c93 _) ?_
  refine pv rfl (rAs rfl) ?_
  refine gs_nil ?_
  refine gKeep [0, 1, 4, 5, 6] rfl ?_
  refine gSeq ?_
  refine gSeq ?_
  refine gText (σ := wk [(0, .p)]) rfl ?_
  refine pv rfl (rMv rfl) ?_
  refine gs_nil ?_
  refine gCondF rfl rfl ?_
  refine gSkip ?_
  refine gSeq ?_
  refine gSeq ?_
  refine gText (σ := wk [(0, .p)]) rfl ?_
  refine pv rfl (rMv rfl) ?_
  refine gs_nil ?_
  refine gCondF rfl rfl ?_
  refine gSkip ?_
  refine gSeq ?_
  refine gSeq ?_
  refine gText (σ := wk [(0, .p), (1, .p), (2, .p)]) rfl ?_
  refine pv rfl (rMv rfl) ?_
  refine pv rfl (rMv rfl) ?_
  refine pv rfl (rBin rfl rfl bLt) ?_
  refine gs_nil ?_
  refine gKeep [0, 1, 4, 16] rfl ?_
  refine gCondD rfl (fun h2 => ?_) (fun h2 => ?_)
  · refine gSeq ?_
    refine gText (σ := wk [(0, .p)]) rfl ?_
    refine pv rfl (rAs rfl) ?_
    refine gs_nil ?_
    refine gRet ?_
    refine gEnd1 Try.results83 (resT rfl) ⟨?_, rfl⟩
    simp only [cmp3]; first | (simp [*]; done) | (simp [*]; omega)
  · refine gSkip ?_
    refine gSeq ?_
    refine gSeq ?_
    refine gText (σ := wk [(0, .p), (1, .p), (2, .p)]) rfl ?_
    refine pv rfl (rMv rfl) ?_
    refine pv rfl (rMv rfl) ?_
    refine pv rfl (rBin rfl rfl bGt) ?_
    refine gs_nil ?_
    refine gKeep [4, 19] rfl ?_
    refine gCondD rfl (fun h3 => ?_) (fun h3 => ?_)
    · refine gSeq ?_
      refine gText (σ := wk [(0, .p)]) rfl ?_
      refine pv rfl (rAs rfl) ?_
      refine gs_nil ?_
      refine gRet ?_
      refine gEnd1 Try.results83 (resT rfl) ⟨?_, rfl⟩
      simp only [cmp3]; first | (simp [*]; done) | (simp [*]; omega)
    · refine gSkip ?_
      refine gSeq ?_
      refine gText (σ := wk [(0, .p)]) rfl ?_
      refine pv rfl (rAs rfl) ?_
      refine gs_nil ?_
      refine gRet ?_
      refine gEnd1 Try.results83 (resT rfl) ⟨?_, rfl⟩
      simp only [cmp3]; first | (simp [*]; done) | (simp [*]; omega)

set_option maxRecDepth 4000 in
theorem c81 (x y z : Int) (b E : Nat) (fr : Nat × Nat) : Pf Try.prog 81 [.slice (some ⟨b, 0, none⟩) 3 3] [(b, .cells #[.int .i64 x, .int .i64 y, .int .i64 z] E fr)] (.int .i64 (or3 x y z)) := by
  refine trEnter Try.func81 rfl Try.ntmps81 (l := [(0, _)]) rfl rfl (fun w0 => ?_)
  refine gSeq ?_
  refine gText (σ := wk [(0, .p)]) rfl ?_
  refine pv rfl (rAs rfl) ?_
  refine gs_nil ?_
  refine gSeq ?_
  refine gText (σ := wk [(0, .p)]) rfl ?_
  refine pv rfl (rAs rfl) ?_
  refine gs_nil ?_
  refine gSeq ?_
  refine gSeq ?_
  refine gText (σ := wk [(0, .p), (1, .p), (2, .p)]) rfl ?_
  refine pv rfl (rMv rfl) ?_
  refine pv rfl (rLen uS168 rfl) ?_
  refine pv rfl (rMv rfl) ?_
  refine gs_nil ?_
  refine gBlock ?_
  refine gLoop (σ := Nat) (fun s => ([(3, .int .i64 0), (6, .slice (some ⟨b, 0, none⟩) 3 3), (7, .int .i64 3), (8, .int .i64 s)], [])) (fun s => s ≤ 3 ∧ (1 ≤ s → x = 0) ∧ (2 ≤ s → y = 0) ∧ (3 ≤ s → z = 0)) (fun s => 3 - s) ?_ (fun s hs => ?_)
  · refine gInvK (0) [3, 6, 7, 8] (by simp) rfl rfl
  · refine gSeq ?_
    refine gText (σ := wk [(0, .p)]) rfl ?_
    refine pv rfl (rBin rfl rfl bLt) ?_
    refine gs_nil ?_
    refine gSeq ?_
    refine gCondD rfl (fun h0 => ?_) (fun h0 => ?_)
    · have hk : s = 0 ∨ s = 1 ∨ s = 2 := by omega
      rcases hk with rfl | rfl | rfl
      all_goals
        refine gSkip ?_
        refine gSeq ?_
        refine gBlock ?_
        refine gSeq ?_
        refine gText (σ := wk [(0, .p), (1, .p), (2, .p)]) rfl ?_
        refine pv rfl (rIs iS168 rfl rfl ⟨by decide, by decide⟩) ?_
        refine pv rfl (rLdN t13 rfl rfl) ?_
        refine pv rfl (rAs rfl) ?_
        refine gs_nil ?_
        refine gSeq ?_
        refine gText (σ := wk [(0, .p), (1, .p), (2, .p)]) rfl ?_
        refine pv rfl (rMv rfl) ?_
        refine pv rfl (rMv rfl) ?_
        refine pv rfl (rBin rfl rfl bNe) ?_
        refine gs_nil ?_
        refine gKeep [3, 5, 6, 7, 8, 14] rfl ?_
        refine gCondD rfl (fun h1 => ?_) (fun h1 => ?_)
        · refine gSeq ?_
          refine gText (σ := wk [(0, .p), (1, .p)]) rfl ?_
          refine pv rfl (rMv rfl) ?_
          refine pv rfl (rAs rfl) ?_
          refine gs_nil ?_
          refine gRet ?_
          refine gEnd1 Try.results81 (resT rfl) ⟨?_, rfl⟩
          simp only [or3]; simp_all
        · refine gSkip ?_
          refine gText (σ := wk [(0, .p), (1, .p)]) rfl ?_
          refine pv rfl (rBin rfl rfl (bAddI (by omega))) ?_
          refine pv rfl (rMv rfl) ?_
          refine gs_nil ?_
          first | refine gInvK (0 + 1) [3, 6, 7, 8] ⟨by simp; omega, by omega⟩ rfl rfl | refine gInvK (1 + 1) [3, 6, 7, 8] ⟨by simp; omega, by omega⟩ rfl rfl | refine gInvK (2 + 1) [3, 6, 7, 8] ⟨by simp; omega, by omega⟩ rfl rfl
    · have hk : s = 3 := by omega
      subst hk
      refine gExit rfl ?_
      refine gSeq ?_
      refine gText (σ := wk [(0, .p), (1, .p)]) rfl ?_
      refine pv rfl (rMv rfl) ?_
      refine pv rfl (rAs rfl) ?_
      refine gs_nil ?_
      refine gRet ?_
      refine gEnd1 Try.results81 (resT rfl) ⟨?_, rfl⟩
      simp only [or3]; simp_all

set_option maxRecDepth 4000 in
theorem c84 (u v : Vec) (b1 b2 E1 E2 : Nat) (f1 f2 : Nat × Nat) (t1 t2 : List Value) : Pf Try.prog 84 [.slice (some ⟨b1, 0, none⟩) 4 4, .slice (some ⟨b2, 0, none⟩) 4 4] [(b1, .cells (vecL u ++ t1).toArray E1 f1), (b2, .cells (vecL v ++ t2).toArray E2 f2)] (.int .i64 (lex4 u v)) := by
  refine trEnter Try.func84 rfl Try.ntmps84 (l := [(0, _), (1, _)]) rfl rfl (fun w0 => ?_)
  refine gSeq ?_
  refine gText (σ := wk [(0, .p)]) rfl ?_
  refine pv rfl (rAs rfl) ?_
  refine gs_nil ?_
  refine gSeq ?_
  refine gSeq ?_
  refine gText (σ := wk [(0, .p), (1, .p), (2, .p)]) rfl ?_
  refine pv rfl (rMv rfl) ?_
  refine pv rfl (rLen uS159 rfl) ?_
  refine pv rfl (rMv rfl) ?_
  refine gs_nil ?_
  refine gBlock ?_
  refine gLoop (σ := Nat) (fun s => ([(0, .slice (some ⟨b1, 0, none⟩) 4 4), (1, .slice (some ⟨b2, 0, none⟩) 4 4), (9, .slice (some ⟨b1, 0, none⟩) 4 4), (10, .int .i64 4), (11, .int .i64 s)], [])) (fun s => s ≤ 4 ∧ (1 ≤ s → cmp3 u.a v.a = 0) ∧ (2 ≤ s → cmp3 u.b v.b = 0) ∧ (3 ≤ s → cmp3 u.c v.c = 0) ∧ (4 ≤ s → cmp3 u.d v.d = 0)) (fun s => 4 - s) ?_ (fun s hs => ?_)
  · refine gInvK (0) [0, 1, 9, 10, 11] (by simp) rfl rfl
  · refine gSeq ?_
    refine gText (σ := wk [(0, .p)]) rfl ?_
    refine pv rfl (rBin rfl rfl bLt) ?_
    refine gs_nil ?_
    refine gSeq ?_
    refine gCondD rfl (fun h0 => ?_) (fun h0 => ?_)
    · have hk : s = 0 ∨ s = 1 ∨ s = 2 ∨ s = 3 := by omega
      rcases hk with rfl | rfl | rfl | rfl
      all_goals
        refine gSkip ?_
        refine gSeq ?_
        refine gBlock ?_
        refine gSeq ?_
        refine gText (σ := wk [(0, .p), (1, .p), (2, .p), (3, .p), (4, .p)]) rfl ?_
        refine pv rfl (rMv rfl) ?_
        refine pv rfl (rIs iS159 rfl rfl ⟨by decide, by decide⟩) ?_
        refine pv rfl (rLdN t131 rfl rfl) ?_
        refine pv rfl (rAs rfl) ?_
        refine pv rfl (rAs rfl) ?_
        refine gs_nil ?_
        refine gKeep [0, 1, 5, 6, 9, 10, 11] rfl ?_
        refine gSeq ?_
        refine gSeq ?_
        refine gText (σ := wk [(0, .p), (1, .p), (2, .p), (3, .p)]) rfl ?_
        refine pv rfl (rMv rfl) ?_
        refine pv rfl (rMv rfl) ?_
        refine pv rfl (rLen uS159 rfl) ?_
        refine pv rfl (rBin rfl rfl bGe) ?_
        refine gs_nil ?_
        refine gCondF rfl (by decide) ?_
        refine gSkip ?_
        refine gSeq ?_
        refine gText (σ := wk [(0, .p), (1, .p), (2, .p), (3, .p), (4, .p)]) rfl ?_
        refine pv rfl (rMv rfl) ?_
        refine pv rfl (rMv rfl) ?_
        refine pv rfl (rIs iS159 rfl rfl ⟨by decide, by decide⟩) ?_
        refine pv rfl (rLdN t131 rfl rfl) ?_
        refine pv rfl (rAs rfl) ?_
        refine gs_nil ?_
        refine gKeep [0, 1, 6, 7, 9, 10, 11] rfl ?_
        refine gSeq ?_
        refine gText (σ := wk [(0, .p), (1, .p), (2, .p), (3, .p)]) rfl ?_
        refine pv rfl (rMv rfl) ?_
        refine pv rfl (rMv rfl) ?_
        refine pf rfl eN82 (c82 _ _) ?_
        refine pv rfl (rAs rfl) ?_
        refine gs_nil ?_
        refine gKeep [0, 1, 8, 9, 10, 11] rfl ?_
        refine gSeq ?_
        refine gText (σ := wk [(0, .p), (1, .p)]) rfl ?_
        refine pv rfl (rMv rfl) ?_
        refine pv rfl (rBin rfl rfl bNe) ?_
        refine gs_nil ?_
        refine gCondD rfl (fun h2 => ?_) (fun h2 => ?_)
        · refine gSeq ?_
          refine gText (σ := wk [(0, .p), (1, .p)]) rfl ?_
          refine pv rfl (rMv rfl) ?_
          refine pv rfl (rAs rfl) ?_
          refine gs_nil ?_
          refine gKeep [0, 1, 4, 9, 10, 11] rfl ?_
          refine gRet ?_
          refine gEnd1 Try.results84 (resT rfl) ⟨?_, rfl⟩
          simp only [lex4]; simp_all
        · refine gSkip ?_
          refine gText (σ := wk [(0, .p), (1, .p)]) rfl ?_
          refine pv rfl (rBin rfl rfl (bAddI (by omega))) ?_
          refine pv rfl (rMv rfl) ?_
          refine gs_nil ?_
          refine gKeep [0, 1, 9, 10, 11] rfl ?_
          first | refine gInvK (0 + 1) [0, 1, 9, 10, 11] ⟨by simp; omega, by omega⟩ rfl rfl | refine gInvK (1 + 1) [0, 1, 9, 10, 11] ⟨by simp; omega, by omega⟩ rfl rfl | refine gInvK (2 + 1) [0, 1, 9, 10, 11] ⟨by simp; omega, by omega⟩ rfl rfl | refine gInvK (3 + 1) [0, 1, 9, 10, 11] ⟨by simp; omega, by omega⟩ rfl rfl
    · have hk : s = 4 := by omega
      subst hk
      refine gExit rfl ?_
      refine gSeq ?_
      refine gSeq ?_
      refine gText (σ := wk [(0, .p), (1, .p), (2, .p), (3, .p), (4, .p)]) rfl ?_
      refine pv rfl (rMv rfl) ?_
      refine pv rfl (rLen uS159 rfl) ?_
      refine pv rfl (rMv rfl) ?_
      refine pv rfl (rLen uS159 rfl) ?_
      refine pv rfl (rBin rfl rfl bLt) ?_
      refine gs_nil ?_
      refine gKeep [0, 1, 9, 10, 11, 35] rfl ?_
      refine gCondF rfl (by decide) ?_
      refine gSkip ?_
      refine gSeq ?_
      refine gText (σ := wk [(0, .p)]) rfl ?_
      refine pv rfl (rAs rfl) ?_
      refine gs_nil ?_
      refine gRet ?_
      refine gEnd1 Try.results84 (resT rfl) ⟨?_, rfl⟩
      simp only [lex4]; simp_all

set_option maxRecDepth 4000 in
theorem c67 (s t : Stamp) : Pf Try.prog 67 [stampV s, stampV t] [] (.int .i64 (s.ord t)) := by
  refine trEnter Try.func67 rfl Try.ntmps67 (l := [(0, _), (1, _)]) rfl rfl (fun w0 => ?_)
  refine gSeq ?_
  refine gText (σ := wk [(0, .p), (1, .p), (2, .p)]) rfl ?_
  refine pm rfl (mBox rfl rfl) (fun b2 => ?_)
  refine pm rfl (mBox rfl rfl) (fun b3 => ?_)
  refine pv rfl (rAs rfl) ?_
  refine gs_nil ?_
  refine gSeq ?_
  refine gSeq ?_
  refine gText (σ := wk [(0, .p), (1, .p), (2, .p)]) rfl ?_
  refine pv rfl (rLdA tA35 rfl rfl) ?_
  refine pv rfl (rLdA tA35 rfl rfl) ?_
  refine pv rfl (rBin rfl rfl (bEq35 _ _)) ?_
  refine gs_nil ?_
  refine gKeep [2, 3, 4, 7] rfl ?_
  refine gCondD rfl (fun h0 => ?_) (fun h0 => ?_)
  · refine gSeq ?_
    refine gText (σ := wk [(0, .p)]) rfl ?_
    refine pv rfl (rAs rfl) ?_
    refine gs_nil ?_
    refine gRet ?_
    refine gEnd1 Try.results67 (resT rfl) ⟨?_, rfl⟩
    simp [Stamp.ord, h0]
  · refine gSkip ?_
    refine gSeq ?_
    refine gD [b2, b3] (wk [(0, .q), (1, .q), (3, .q), (4, .q), (7, .q), (8, .q), (9, .q), (10, .q), (12, .q), (13, .q), (14, .q), (15, .q), (2, .p), (5, .p), (6, .p), (11, .p), (16, .p), (17, .p), (18, .p), (19, .q)]) fol (by kernel_rfl) rfl (by kernel_rfl) ?_
    refine qv rfl (rFa fA35_0 rfl) ?_
    refine qv rfl (rLdA tA33 rfl rfl) ?_
    refine qv rfl (rFa fA35_0 rfl) ?_
    refine qv rfl (rLdA tA33 rfl rfl) ?_
    refine qv rfl (rFa fA35_1 rfl) ?_
    refine qv rfl (rLdN t13 rfl rfl) ?_
    refine qv rfl (rFa fA35_1 rfl) ?_
    refine qv rfl (rLdN t13 rfl rfl) ?_
    refine qv rfl (rFa fA35_0 rfl) ?_
    refine qv rfl (rSa sA33 (by decide) rfl) ?_
    refine qv rfl (rFa fA35_0 rfl) ?_
    refine qv rfl (rSa sA33 (by decide) rfl) ?_
    refine pf rfl eN32 (c32 _) ?_
    refine pf rfl eN32 (c32 _) ?_
    refine pf rfl eN82 (c82 _ _) ?_
    refine pf rfl eN83 (c83 _ _) ?_
    refine pf rfl eN84 (R' := [(b2, .cells #[.int .u64 s.v.a, .int .u64 s.v.b, .int .u64 s.v.c, .int .u64 s.v.d, .int .i64 s.dc] 35), (b3, .cells #[.int .u64 t.v.a, .int .u64 t.v.b, .int .u64 t.v.c, .int .u64 t.v.d, .int .i64 t.dc] 35)]) (c84 s.v t.v _ _ 35 35 (0, 0) (0, 0) [.int .i64 s.dc] [.int .i64 t.dc]) ?_
    refine pm rfl (mBs bS168_3 rfl rfl) (fun b25 => ?_)
    refine pf rfl eN81 (c81 (cmp3 s.v.sum t.v.sum) (cmp3 s.dc t.dc) (lex4 s.v t.v) b25 3 (0, 0)) ?_
    refine qv rfl (rAs rfl) ?_
    refine gs_nil ?_
    refine gKeep [4] rfl ?_
    refine gRet ?_
    refine gEnd1 Try.results67 (resT rfl) ⟨?_, rfl⟩
    simp [Stamp.ord, h0]
end Go.Proofs.Yteeobhehfdifnaa
set_option linter.unusedVariables false
set_option linter.unusedSimpArgs false
namespace Go.Proofs.Yteeobhehfdifnaa
open Go TB Go.Proofs
theorem t1139 : T1 Try.prog 139 := ⟨fun w => by kernel_rfl, fun w => by kernel_rfl⟩
theorem t1147 : T1 Try.prog 147 := ⟨fun w => by kernel_rfl, fun w => by kernel_rfl⟩
theorem tA126 : TA Try.prog 126 9 := ⟨fun w => by kernel_rfl, fun w => by kernel_rfl⟩
theorem eN67 : EN Try.prog 67 := fun args w => by kernel_rfl
theorem eN71 : EN Try.prog 71 := fun args w => by kernel_rfl
theorem eN78 : EN Try.prog 78 := fun args w => by kernel_rfl
theorem eN79 : EN Try.prog 79 := fun args w => by kernel_rfl
theorem eN80 : EN Try.prog 80 := fun args w => by kernel_rfl
theorem eN91 : EN Try.prog 91 := fun args w => by kernel_rfl
theorem eN95 : EN Try.prog 95 := fun args w => by kernel_rfl
theorem fA126_0 : FA Try.prog 126 0 0 := fun b o w => by kernel_rfl
theorem fA141_0 : FA Try.prog 141 0 0 := fun b o w => by kernel_rfl
theorem iS139 : IS Try.prog 139 9 := ⟨_, Try.underlying139, fun w => by kernel_rfl⟩
theorem uS139 : ∃ e, Try.prog.underlying 139 = some (.slice e) := ⟨_, Try.underlying139⟩
theorem zC126 : ZC Try.prog 126 [.int .u64 0, .int .u64 0, .int .u64 0, .int .u64 0, .int .i64 0, .string ⟨#[]⟩, .string ⟨#[]⟩, .string ⟨#[]⟩, .bool false] := fun w => ⟨.agg #[.int .u64 0, .int .u64 0, .int .u64 0, .int .u64 0, .int .i64 0, .string ⟨#[]⟩, .string ⟨#[]⟩, .string ⟨#[]⟩, .bool false], by kernel_rfl, rfl⟩
theorem zC4 : ZC Try.prog 4 [.bool false] := fun w => ⟨.bool false, by kernel_rfl, rfl⟩
set_option maxRecDepth 4000 in
theorem c79 (x : Ver) (v : Vec) (b : Nat) : Pf Try.prog 79 [verV x, .pointer (some ⟨b, 0, none⟩)] [(b, .cells (vecL v).toArray 33)] (.bool (x.s.v.leq v)) := by
  refine trEnter Try.func79 rfl Try.ntmps79 (l := [(0, _), (1, _)]) rfl rfl (fun w0 => ?_)
  refine gSeq ?_
  refine gText (σ := wk [(0, .p), (1, .p)]) rfl ?_
  refine pm rfl (mBox rfl rfl) (fun b2 => ?_)
  refine pv rfl (rAs rfl) ?_
  refine gs_nil ?_
  refine gSeq ?_
  refine gText (σ := wk [(0, .p), (1, .p), (2, .p), (3, .p), (4, .p)]) rfl ?_
  refine pv rfl (rFa fA126_0 rfl) ?_
  refine pv rfl (rLdA tA35 rfl rfl) ?_
  refine pv rfl (rLdA tA33 rfl rfl) ?_
  refine pf rfl eN71 (c71 x.s v) ?_
  refine pv rfl (rAs rfl) ?_
  refine gs_nil ?_
  refine gKeep [3] rfl ?_
  refine gRet ?_
  refine gEnd1 Try.results79 (resT rfl) ⟨?_, rfl⟩
  rfl

set_option maxRecDepth 4000 in
theorem c80 (x : Ver) : Pf Try.prog 80 [verV x] [] (.bool true) := by
  refine trEnter Try.func80 rfl Try.ntmps80 (l := [(0, _)]) rfl rfl (fun w0 => ?_)
  refine gSeq ?_
  refine gText (σ := wk [(0, .p), (1, .p)]) rfl ?_
  refine pm rfl (mBox rfl rfl) (fun b1 => ?_)
  refine pv rfl (rAs rfl) ?_
  refine gs_nil ?_
  refine gSeq ?_
  refine gText (σ := wk [(0, .p)]) rfl ?_
  refine pv rfl (rAs rfl) ?_
  refine gs_nil ?_
  refine gRet ?_
  refine gEnd1 Try.results80 (resT rfl) ⟨?_, rfl⟩
  rfl

set_option maxRecDepth 4000 in
theorem c66 (x : Ver) (s : Stamp) : Pf Try.prog 66 [verV x, stampV s] [] (.int .i64 (x.s.ord s)) := by
  refine trEnter Try.func66 rfl Try.ntmps66 (l := [(0, _), (1, _)]) rfl rfl (fun w0 => ?_)
  refine gSeq ?_
  refine gText (σ := wk [(0, .p), (1, .p), (2, .p)]) rfl ?_
  refine pm rfl (mBox rfl rfl) (fun b2 => ?_)
  refine pm rfl (mBox rfl rfl) (fun b3 => ?_)
  refine pv rfl (rAs rfl) ?_
  refine gs_nil ?_
  refine gSeq ?_
  refine gText (σ := wk [(0, .p), (1, .p), (2, .p), (3, .p), (4, .p)]) rfl ?_
  refine pv rfl (rFa fA126_0 rfl) ?_
  refine pv rfl (rLdA tA35 rfl rfl) ?_
  refine pv rfl (rLdA tA35 rfl rfl) ?_
  refine pf rfl eN67 (c67 x.s s) ?_
  refine pv rfl (rAs rfl) ?_
  refine gs_nil ?_
  refine gKeep [4] rfl ?_
  refine gRet ?_
  refine gEnd1 Try.results66 (resT rfl) ⟨?_, rfl⟩
  rfl

set_option maxRecDepth 4000 in
theorem c91 (p : Option Addr) (len cap : Nat) : Tr Try.prog 91 [.slice p len cap] [] [] (fun u L' => ∃ b, u = .func (.func 95) #[] #[.pointer (some ⟨b, 0, none⟩)] ∧ L' = [(b, .cells #[.slice p len cap] 139)]) := by
  refine trEnter Try.func91 rfl Try.ntmps91 (l := [(0, _)]) rfl rfl (fun w0 => ?_)
  refine gSeq ?_
  refine gText (σ := wk [(0, .p), (1, .p)]) rfl ?_
  refine pm rfl (mBox rfl rfl) (fun b1 => ?_)
  refine pv rfl (rAs rfl) ?_
  refine gs_nil ?_
  refine gSeq ?_
  refine gText (σ := wk [(0, .p), (1, .p)]) rfl ?_
  refine pv rfl (rMf rfl rfl) ?_
  refine pv rfl (rAs rfl) ?_
  refine gs_nil ?_
  refine gRet ?_
  refine gEnd1 Try.results91 (resT rfl) ⟨b1, rfl, rfl⟩

set_option maxRecDepth 4000 in
theorem c95 (lp bx cap : Nat) (xs : List Ver) (p : Option Addr) (R L : HL) (hb : (bx, Obj.cells #[.slice p xs.length cap] 139 (0, 0)) ∈ R) (hl : Lies R p (versL xs)) (hlen : xs.length ≤ 1099511627776) (good : Nat → Prop) (Z : HL → Prop) (hg : good xs.length) (hrd : ∀ (m : Nat) x, good (m + 1) → xs[m]? = some x → Rd Try.prog lp [.int .i64 m, verV x] R L (fun v L' => (v = .bool true ∧ L' = L ∧ good m) ∨ (v = .bool false ∧ Z L'))) : Tr Try.prog 95 [.func (.yield lp) #[] #[], .pointer (some ⟨bx, 0, none⟩)] R L (fun _ L' => (L' = L ∧ good 0) ∨ Z L') := by
  refine trEnter Try.func95 rfl Try.ntmps95 (l := [(0, _), (1, _)]) rfl rfl (fun w0 => ?_)
  refine gSeq ?_
  refine gText (σ := wk [(0, .p), (1, .p), (2, .p), (3, .p)]) rfl ?_
  refine pv rfl (rLd1m t1139 rfl (List.mem_append_right _ hb) rfl) ?_
  refine pv rfl (rLen uS139 rfl) ?_
  refine pv rfl (rBin rfl rfl (bSubI (by omega))) ?_
  refine pv rfl (rAs rfl) ?_
  refine gs_nil ?_
  refine gBlock ?_
  refine gLoop (σ := Nat) (fun s => ([(0, .func (.yield lp) #[] #[]), (1, .pointer (some ⟨bx, 0, none⟩)), (3, .int .i64 ((s : Int) - 1))], L)) (fun s => s ≤ xs.length ∧ good s) (fun s => s) ?_ (fun s hs => ?_)
  · refine gInvK (xs.length) [0, 1, 3] ⟨Nat.le_refl _, hg⟩ rfl rfl
  · refine gSeq ?_
    refine gSeq ?_
    refine gText (σ := wk [(0, .p), (1, .p)]) rfl ?_
    refine pv rfl (rMv rfl) ?_
    refine pv rfl (rBin rfl rfl bGe) ?_
    refine gs_nil ?_
    refine gCondD rfl (fun h0 => ?_) (fun h0 => ?_)
    · obtain ⟨m, rfl⟩ : ∃ m, s = m + 1 := ⟨s - 1, by omega⟩
      have hmx : m < xs.length := hs.1
      have hx := List.getElem?_eq_getElem hmx
      generalize xs[m] = x at hx
      obtain ⟨b, o, cl, E, fr, rfl, hm, hv⟩ := hl.at verL_len hx (by decide)
      refine gVN (u := .int .i64 (m : Int)) 3 rfl (by congr 1; omega) ?_
      refine gSkip ?_
      refine gSeq ?_
      refine gBlock ?_
      refine gSeq ?_
      refine gText (σ := wk [(0, .p), (1, .p), (2, .p), (3, .p), (4, .p), (5, .p), (6, .y), (7, .p)]) rfl ?_
      refine pv rfl (rMv rfl) ?_
      refine pv rfl (rMv rfl) ?_
      refine pv rfl (rLd1m t1139 rfl (List.mem_append_right _ hb) rfl) ?_
      refine pv rfl (rMv rfl) ?_
      refine pv rfl (rIs iS139 rfl rfl ⟨by omega, by omega⟩) ?_
      refine pv rfl (rLdAm tA126 rfl (List.mem_append_right _ hm) rfl (fun j v h => hv j v h)) ?_
      refine py rfl (hrd m x hs.2 hx) (fun v L' hv => ?_)
      rw [List.append_nil]
      rcases hv with ⟨rfl, rfl, hgm⟩ | ⟨rfl, hz⟩
      · refine pv rfl (rNot rfl) ?_
        refine gs_nil ?_
        refine gKeep [0, 1, 3, 18] rfl ?_
        refine gCondF rfl rfl ?_
        refine gSkip ?_
        refine gText (σ := wk [(0, .p), (1, .p), (2, .p)]) rfl ?_
        refine pv rfl (rMv rfl) ?_
        refine pv rfl (rBin rfl rfl (bSubI (by omega))) ?_
        refine pv rfl (rAs rfl) ?_
        refine gs_nil ?_
        refine gInvK m [0, 1, 3] ⟨⟨by omega, hgm⟩, by omega⟩ rfl rfl
      · refine pv rfl (rNot rfl) ?_
        refine gs_nil ?_
        refine gKeep [0, 1, 3, 18] rfl ?_
        refine gCondT rfl rfl ?_
        refine gRet ?_
        refine gEnd0 Try.results95 (Or.inr hz)
    · have hs0 : s = 0 := by omega
      subst hs0
      refine gExit rfl ?_
      refine gEnd0 Try.results95 (Or.inl ⟨rfl, hs.2⟩)

set_option maxRecDepth 4000 in
theorem c78 (f : Nat) (hf : EN Try.prog f) (p : Ver → Bool) (caps : List Value) (Rf : HL) (hp : ∀ x, Pf Try.prog f (verV x :: caps) Rf (.bool (p x))) (c cap : Nat) (xs : List Ver) (q : Option Addr) (Rc : HL) (hl : Lies Rc q (versL xs)) (hlen : xs.length ≤ 1099511627776) : Pf Try.prog 78 [.pointer (some ⟨c, 0, none⟩), .func (.func f) #[] caps.toArray] ((c, .cells #[.slice q xs.length cap] 141) :: (Rc ++ Rf)) (.tuple #[verV ((lastOf p xs).getD Ver.zero), .bool (lastOf p xs).isSome]) := by
  refine trEnter Try.func78 rfl Try.ntmps78 (l := [(0, _), (1, _)]) rfl rfl (fun w0 => ?_)
  refine gSeq ?_
  refine gText (σ := wk [(0, .p), (1, .p), (2, .p)]) rfl ?_
  refine pm rfl (mBox rfl rfl) (fun b3 => ?_)
  refine pm rfl (mAlloc zC126) (fun b4 => ?_)
  refine pm rfl (mAlloc zC4) (fun b5 => ?_)
  refine gs_nil ?_
  refine gSeq ?_
  refine gSeq ?_
  refine gText (σ := wk [(0, .p), (1, .p), (2, .p), (3, .p), (4, .p)]) rfl ?_
  refine pv rfl (rMv rfl) ?_
  refine pv rfl (rNc rfl) ?_
  refine pv rfl (rFa fA141_0 rfl) ?_
  refine pv rfl (rLdN t1139 rfl rfl) ?_
  refine pc (R' := []) rfl eN91 (c91 _ _ _) (fun v L' hv => ?_)
  obtain ⟨b12, rfl, rfl⟩ := hv
  simp only [List.cons_append, List.nil_append]
  refine gs_nil ?_
  refine gKeep [3, 4, 5, 12] rfl ?_
  refine gBlock ?_
  refine gRange (L1 := [(b5, .cells #[.bool false] 4), (b4, .cells (List.toArray [.int .u64 0, .int .u64 0, .int .u64 0, .int .u64 0, .int .i64 0, .string ⟨#[]⟩, .string ⟨#[]⟩, .string ⟨#[]⟩, .bool false]) 126), (b3, .cells #[.func (.func f) #[] caps.toArray] 147)]) (R' := (b12, .cells #[.slice q xs.length cap] 139) :: (Rc ++ Rf)) (ΨN := fun A => A = [(b5, .cells #[.bool false] 4), (b4, .cells (List.toArray [.int .u64 0, .int .u64 0, .int .u64 0, .int .u64 0, .int .i64 0, .string ⟨#[]⟩, .string ⟨#[]⟩, .string ⟨#[]⟩, .bool false]) 126), (b3, .cells #[.func (.func f) #[] caps.toArray] 147)] ∧ lastOf p xs = none) (ΨR := fun A => ∃ x, lastOf p xs = some x ∧ A = [(b5, .cells #[.bool true] 4), (b4, .cells (List.toArray (verL x)) 126), (b3, .cells #[.func (.func f) #[] caps.toArray] 147)]) rfl eN95 (fun D lp rec h1 h2 he hps ha hb => ?_) (fun D A hA => ?_) (fun D A hA => ?_)
  · obtain ⟨rst, rpe, rfn, rtm, rps, ras, rbo, rde⟩ := rec
    simp only at h1 h2 he hps ha hb
    subst h1 h2 hps ha hb
    refine Tr.mono (c95 lp b12 cap xs q _ _ List.mem_cons_self (hl.mono fun x hx => List.mem_cons_of_mem _ (List.mem_append_left _ hx)) hlen (stopAt p xs) (fun L' => ∃ A, L' = (lp, .loop ⟨.done, some .ret, rfn, rtm, _, _, _, rde⟩) :: (D, .deferred (some [])) :: A ∧ ∃ x, lastOf p xs = some x ∧ A = [(b5, .cells #[.bool true] 4), (b4, .cells (List.toArray (verL x)) 126), (b3, .cells #[.func (.func f) #[] caps.toArray] 147)]) (stopAt_len p xs) (fun m x hs hx => ?_)) (fun v L' h => by
        rcases h with ⟨rfl, hg⟩ | h
        · exact Or.inl ⟨_, rfl, rfl, lastOf_none hg⟩
        · exact Or.inr h)
    refine rdMk2 (p := 13) (q := 14) [] List.mem_cons_self rfl rfl rfl he (fun w1 => ?_)
    refine iText (σ := wk [(0, .p), (1, .p)]) rfl rfl ?_
    refine pm rfl (mAlloc zC126) (fun b7 => ?_)
    refine ps0 rfl (tSt tA126.2 rfl rfl rfl rfl rfl rfl rfl) ?_
    refine gs_nil ?_
    refine gKeep [3, 4, 5, 7] rfl ?_
    refine iBegin rfl ?_
    refine iBlock ?_
    refine iSeq ?_
    refine iText (σ := wk [(0, .p), (1, .p), (2, .p)]) rfl rfl ?_
    refine pv rfl (rLdN t1147 rfl rfl) ?_
    refine pv rfl (rLdA tA126 rfl rfl) ?_
    refine pf (R' := Rf) rfl hf (hp x) ?_
    refine gs_nil ?_
    refine iCond rfl (fun h0 => ?_) (fun h0 => ?_)
    · refine iSeq ?_
      refine iText (σ := wk [(0, .p), (1, .p), (2, .p)]) rfl rfl ?_
      refine pv rfl (rLdA tA126 rfl rfl) ?_
      refine ps0 rfl (tSt tA126.2 rfl rfl rfl rfl rfl rfl rfl) ?_
      refine ps0 rfl (tSt t14.2 rfl rfl rfl rfl rfl rfl rfl) ?_
      refine gs_nil ?_
      refine gKeep [4, 5] rfl ?_
      refine iRet ?_
      refine iEndR (Or.inr ⟨rfl, _, rfl, x, lastOf_some hs hx h0, rfl⟩)
    · refine iSkip ?_
      refine iEndN (Or.inl ⟨rfl, rfl, stopAt_step hs hx h0⟩)
  · obtain ⟨rfl, hn⟩ := hA
    simp only [List.cons_append, List.nil_append]
    refine gSeq ?_
    refine gText (σ := wk [(0, .p), (1, .p), (2, .p)]) rfl ?_
    refine pv rfl (rLdA tA126 rfl rfl) ?_
    refine ps0 rfl (tSt tA126.2 rfl rfl rfl rfl rfl rfl rfl) ?_
    refine ps0 rfl (tSt t14.2 rfl rfl rfl rfl rfl rfl rfl) ?_
    refine gs_nil ?_
    refine gRet ?_
    refine gTake ?_
    refine gEnd2 Try.results78 (resA tA126 rfl rfl) (resN t14 rfl rfl) ⟨?_, rfl⟩
    rw [hn]; rfl
  · obtain ⟨x, hn, rfl⟩ := hA
    simp only [List.cons_append, List.nil_append]
    refine gTake ?_
    refine gEnd2 Try.results78 (resA tA126 rfl rfl) (resN t14 rfl rfl) ⟨?_, rfl⟩
    rw [hn]; rfl

set_option maxRecDepth 4000 in
theorem c56 (v : Vec) (c cap : Nat) (xs : List Ver) (q : Option Addr) (Rc : HL) (hl : Lies Rc q (versL xs)) (hlen : xs.length ≤ 1099511627776) : Pf Try.prog 56 [.pointer (some ⟨c, 0, none⟩), vecV v] ((c, .cells #[.slice q xs.length cap] 141) :: Rc) (.tuple #[verV ((lastOf (fun x => x.s.v.leq v) xs).getD Ver.zero), .bool (lastOf (fun x => x.s.v.leq v) xs).isSome]) := by
  refine trEnter Try.func56 rfl Try.ntmps56 (l := [(0, _), (1, _)]) rfl rfl (fun w0 => ?_)
  refine gSeq ?_
  refine gText (σ := wk [(0, .p), (1, .p), (2, .p)]) rfl ?_
  refine pm rfl (mBox rfl rfl) (fun b3 => ?_)
  refine pm rfl (mAlloc zC126) (fun b4 => ?_)
  refine pv rfl (rAs rfl) ?_
  refine gs_nil ?_
  refine gSeq ?_
  refine gText (σ := wk [(0, .p), (1, .p), (2, .p), (3, .p), (4, .p), (5, .p), (6, .p)]) rfl ?_
  refine pv rfl (rMv rfl) ?_
  refine pv rfl (rMf rfl rfl) ?_
  refine pf (R' := (c, .cells #[.slice q xs.length cap] 141) :: (Rc ++ [(b3, Obj.cells (vecL v).toArray 33)])) rfl eN78 (c78 79 eN79 (fun x => x.s.v.leq v) [.pointer (some ⟨b3, 0, none⟩)] [(b3, Obj.cells (vecL v).toArray 33)] (fun x => c79 x v b3) c cap xs q Rc hl hlen) ?_
  refine pv rfl (rEx rfl rfl) ?_
  refine pv rfl (rEx rfl rfl) ?_
  refine ps0 rfl (tSt tA126.2 rfl rfl rfl rfl rfl rfl rfl) ?_
  refine pv rfl (rAs rfl) ?_
  refine gs_nil ?_
  refine gKeep [4, 5] rfl ?_
  refine gRet ?_
  refine gEnd2 Try.results56 (resA tA126 rfl rfl) (resT rfl) ⟨?_, rfl⟩
  rfl

set_option maxRecDepth 4000 in
theorem c57 (c cap : Nat) (xs : List Ver) (q : Option Addr) (Rc : HL) (hl : Lies Rc q (versL xs)) (hlen : xs.length ≤ 1099511627776) : Pf Try.prog 57 [.pointer (some ⟨c, 0, none⟩)] ((c, .cells #[.slice q xs.length cap] 141) :: Rc) (.tuple #[verV ((lastOf (fun _ => true) xs).getD Ver.zero), .bool (lastOf (fun _ => true) xs).isSome]) := by
  refine trEnter Try.func57 rfl Try.ntmps57 (l := [(0, _)]) rfl rfl (fun w0 => ?_)
  refine gSeq ?_
  refine gText (σ := wk [(0, .p), (1, .p)]) rfl ?_
  refine pm rfl (mAlloc zC126) (fun b2 => ?_)
  refine pv rfl (rAs rfl) ?_
  refine gs_nil ?_
  refine gSeq ?_
  refine gText (σ := wk [(0, .p), (1, .p), (2, .p), (3, .p), (4, .p), (5, .p)]) rfl ?_
  refine pv rfl (rMv rfl) ?_
  refine pf (R' := (c, .cells #[.slice q xs.length cap] 141) :: (Rc ++ [])) rfl eN78 (c78 80 eN80 (fun _ => true) [] [] (fun x => c80 x) c cap xs q Rc hl hlen) ?_
  refine pv rfl (rEx rfl rfl) ?_
  refine pv rfl (rEx rfl rfl) ?_
  refine ps0 rfl (tSt tA126.2 rfl rfl rfl rfl rfl rfl rfl) ?_
  refine pv rfl (rAs rfl) ?_
  refine gs_nil ?_
  refine gKeep [2, 3] rfl ?_
  refine gRet ?_
  refine gEnd2 Try.results57 (resA tA126 rfl rfl) (resT rfl) ⟨?_, rfl⟩
  rfl
end Go.Proofs.Yteeobhehfdifnaa
set_option linter.unusedVariables false
set_option linter.unusedSimpArgs false
namespace Go.Proofs.Yteeobhehfdifnaa
open Go TB Go.Proofs
theorem tA42 : TA Try.prog 42 4 := ⟨fun w => by kernel_rfl, fun w => by kernel_rfl⟩
theorem bU141 : BU Try.prog 141 [(0, 1)] [.slice none 0 0] := bu_struct (v := .agg #[.slice none 0 0]) Try.underlying141 (fun w => by kernel_rfl) rfl (fun w => by kernel_rfl)
theorem eN76 : EN Try.prog 76 := fun args w => by kernel_rfl
theorem eN87 : EN Try.prog 87 := fun args w => by kernel_rfl
theorem iS49 : IS Try.prog 49 4 := ⟨_, Try.underlying49, fun w => by kernel_rfl⟩
theorem uS49 : ∃ e, Try.prog.underlying 49 = some (.slice e) := ⟨_, Try.underlying49⟩
theorem bNe35 (s t : Stamp) : BinR Try.prog .neq 35 (stampV s) (stampV t) (.bool (decide (s ≠ t))) := (by
  have := bNeOf (bEq35 s t) (by kernel_rfl)
  have e : decide (s ≠ t) = !decide (s = t) := by simp
  rw [e]; exact this)
set_option maxRecDepth 4000 in
theorem c64  : Tr Try.prog 64 [] [] [] (fun u L' => ∃ b, u = .pointer (some ⟨b, 0, none⟩) ∧ L' = [(b, .cells #[.slice none 0 0] 141)]) := by
  refine trEnter Try.func64 rfl Try.ntmps64 (l := []) rfl rfl (fun w0 => ?_)
  refine gSeq ?_
  refine gText (σ := wk [(0, .p)]) rfl ?_
  refine pv rfl (rAs rfl) ?_
  refine gs_nil ?_
  refine gSeq ?_
  refine gText (σ := wk [(0, .p), (1, .p), (2, .p)]) rfl ?_
  refine pv rfl (rBu bU141 rfl rfl) ?_
  refine pm rfl (mBox rfl rfl) (fun b2 => ?_)
  refine pv rfl (rAs rfl) ?_
  refine gs_nil ?_
  refine gRet ?_
  refine gEnd1 Try.results64 (resT rfl) ⟨b2, rfl, rfl⟩

set_option maxRecDepth 4000 in
theorem c60 (c n cap : Nat) (q : Option Addr) : Pf Try.prog 60 [.pointer (some ⟨c, 0, none⟩)] [(c, .cells #[.slice q n cap] 141)] (.int .i64 n) := by
  refine trEnter Try.func60 rfl Try.ntmps60 (l := [(0, _)]) rfl rfl (fun w0 => ?_)
  refine gSeq ?_
  refine gText (σ := wk [(0, .p)]) rfl ?_
  refine pv rfl (rAs rfl) ?_
  refine gs_nil ?_
  refine gSeq ?_
  refine gText (σ := wk [(0, .p), (1, .p), (2, .p), (3, .p), (4, .p), (5, .p)]) rfl ?_
  refine pv rfl (rMv rfl) ?_
  refine pv rfl (rNc rfl) ?_
  refine pv rfl (rFa fA141_0 rfl) ?_
  refine pv rfl (rLdN t1139 rfl rfl) ?_
  refine pv rfl (rLen uS139 rfl) ?_
  refine pv rfl (rAs rfl) ?_
  refine gs_nil ?_
  refine gKeep [2] rfl ?_
  refine gRet ?_
  refine gEnd1 Try.results60 (resT rfl) ⟨?_, rfl⟩
  rfl

set_option maxRecDepth 4000 in
theorem c87 (f : Nat) (hf : EN Try.prog f) (p : Ver → Bool) (caps : List Value) (Rf : HL) (hp : ∀ x, Pf Try.prog f (verV x :: caps) Rf (.bool (p x))) (cap : Nat) (xs : List Ver) (q : Option Addr) (Rc : HL) (hl : Lies Rc q (versL xs)) (hlen : xs.length ≤ 1099511627776) : Pf Try.prog 87 [.slice q xs.length cap, .func (.func f) #[] caps.toArray] (Rc ++ Rf) (.int .i64 (idxOf p xs)) := by
  refine trEnter Try.func87 rfl Try.ntmps87 (l := [(0, _), (1, _)]) rfl rfl (fun w0 => ?_)
  refine gSeq ?_
  refine gText (σ := wk [(0, .p)]) rfl ?_
  refine pv rfl (rAs rfl) ?_
  refine gs_nil ?_
  refine gSeq ?_
  refine gSeq ?_
  refine gText (σ := wk [(0, .p), (1, .p), (2, .p)]) rfl ?_
  refine pv rfl (rMv rfl) ?_
  refine pv rfl (rLen uS139 rfl) ?_
  refine pv rfl (rMv rfl) ?_
  refine gs_nil ?_
  refine gBlock ?_
  refine gLoop (σ := Nat) (fun s => ([(0, .slice q xs.length cap), (1, .func (.func f) #[] caps.toArray), (7, .int .i64 xs.length), (8, .int .i64 s)], [])) (fun s => s ≤ xs.length ∧ noneTo p xs s) (fun s => xs.length - s) ?_ (fun s hs => ?_)
  · refine gInvK (0) [0, 1, 7, 8] ⟨Nat.zero_le _, noneTo_zero p xs⟩ rfl rfl
  · refine gSeq ?_
    refine gText (σ := wk [(0, .p)]) rfl ?_
    refine pv rfl (rBin rfl rfl bLt) ?_
    refine gs_nil ?_
    refine gSeq ?_
    refine gCondD rfl (fun h0 => ?_) (fun h0 => ?_)
    · have hmx : s < xs.length := by omega
      have hx := List.getElem?_eq_getElem hmx
      generalize xs[s] = x at hx
      obtain ⟨b, o, cl, E, fr, rfl, hm, hv⟩ := hl.at verL_len hx (by decide)
      refine gSkip ?_
      refine gSeq ?_
      refine gBlock ?_
      refine gSeq ?_
      refine gText (σ := wk [(0, .p), (1, .p)]) rfl ?_
      refine pv rfl (rMv rfl) ?_
      refine pv rfl (rAs rfl) ?_
      refine gs_nil ?_
      refine gSeq ?_
      refine gText (σ := wk [(0, .p), (1, .p), (2, .p), (3, .p), (4, .p), (5, .p)]) rfl ?_
      refine pv rfl (rMv rfl) ?_
      refine pv rfl (rMv rfl) ?_
      refine pv rfl (rMv rfl) ?_
      refine pv rfl (rIs iS139 rfl rfl ⟨by omega, by omega⟩) ?_
      refine pv rfl (rLdAm tA126 rfl (by simp; exact Or.inl hm) rfl (fun j v h => hv j v h)) ?_
      refine pf (R' := Rf) rfl hf (hp x) ?_
      refine gs_nil ?_
      refine gKeep [0, 1, 5, 7, 8, 16] rfl ?_
      refine gCond rfl (fun h1 => ?_) (fun h1 => ?_)
      · refine gSeq ?_
        refine gText (σ := wk [(0, .p), (1, .p)]) rfl ?_
        refine pv rfl (rMv rfl) ?_
        refine pv rfl (rAs rfl) ?_
        refine gs_nil ?_
        refine gRet ?_
        refine gEnd1 Try.results87 (resT rfl) ⟨?_, rfl⟩
        rw [idxOf_some hs.2 hx h1]
      · refine gSkip ?_
        refine gText (σ := wk [(0, .p), (1, .p)]) rfl ?_
        refine pv rfl (rBin rfl rfl (bAddI (by omega))) ?_
        refine pv rfl (rMv rfl) ?_
        refine gs_nil ?_
        refine gInvK (s + 1) [0, 1, 7, 8] ⟨⟨by omega, noneTo_step hs.2 hx (by simpa using h1)⟩, by omega⟩ rfl rfl
    · have hs0 : s = xs.length := by omega
      subst hs0
      refine gExit rfl ?_
      refine gSeq ?_
      refine gText (σ := wk [(0, .p)]) rfl ?_
      refine pv rfl (rAs rfl) ?_
      refine gs_nil ?_
      refine gRet ?_
      refine gEnd1 Try.results87 (resT rfl) ⟨?_, rfl⟩
      rw [idxOf_none hs.2]

set_option maxRecDepth 4000 in
theorem c76 (f : Nat) (hf : EN Try.prog f) (p : Write → Bool) (caps : List Value) (Rf : HL) (hp : ∀ x, Pf Try.prog f (writeV x :: caps) Rf (.bool (p x))) (cap : Nat) (xs : List Write) (q : Option Addr) (Rc : HL) (hl : Lies Rc q (writesL xs)) (hlen : xs.length ≤ 1099511627776) : Pf Try.prog 76 [.slice q xs.length cap, .func (.func f) #[] caps.toArray] (Rc ++ Rf) (.int .i64 (idxOf p xs)) := by
  refine trEnter Try.func76 rfl Try.ntmps76 (l := [(0, _), (1, _)]) rfl rfl (fun w0 => ?_)
  refine gSeq ?_
  refine gText (σ := wk [(0, .p)]) rfl ?_
  refine pv rfl (rAs rfl) ?_
  refine gs_nil ?_
  refine gSeq ?_
  refine gSeq ?_
  refine gText (σ := wk [(0, .p), (1, .p), (2, .p)]) rfl ?_
  refine pv rfl (rMv rfl) ?_
  refine pv rfl (rLen uS49 rfl) ?_
  refine pv rfl (rMv rfl) ?_
  refine gs_nil ?_
  refine gBlock ?_
  refine gLoop (σ := Nat) (fun s => ([(0, .slice q xs.length cap), (1, .func (.func f) #[] caps.toArray), (7, .int .i64 xs.length), (8, .int .i64 s)], [])) (fun s => s ≤ xs.length ∧ noneTo p xs s) (fun s => xs.length - s) ?_ (fun s hs => ?_)
  · refine gInvK (0) [0, 1, 7, 8] ⟨Nat.zero_le _, noneTo_zero p xs⟩ rfl rfl
  · refine gSeq ?_
    refine gText (σ := wk [(0, .p)]) rfl ?_
    refine pv rfl (rBin rfl rfl bLt) ?_
    refine gs_nil ?_
    refine gSeq ?_
    refine gCondD rfl (fun h0 => ?_) (fun h0 => ?_)
    · have hmx : s < xs.length := by omega
      have hx := List.getElem?_eq_getElem hmx
      generalize xs[s] = x at hx
      obtain ⟨b, o, cl, E, fr, rfl, hm, hv⟩ := hl.at writeL_len hx (by decide)
      refine gSkip ?_
      refine gSeq ?_
      refine gBlock ?_
      refine gSeq ?_
      refine gText (σ := wk [(0, .p), (1, .p)]) rfl ?_
      refine pv rfl (rMv rfl) ?_
      refine pv rfl (rAs rfl) ?_
      refine gs_nil ?_
      refine gSeq ?_
      refine gText (σ := wk [(0, .p), (1, .p), (2, .p), (3, .p), (4, .p), (5, .p)]) rfl ?_
      refine pv rfl (rMv rfl) ?_
      refine pv rfl (rMv rfl) ?_
      refine pv rfl (rMv rfl) ?_
      refine pv rfl (rIs iS49 rfl rfl ⟨by omega, by omega⟩) ?_
      refine pv rfl (rLdAm tA42 rfl (by simp; exact Or.inl hm) rfl (fun j v h => hv j v h)) ?_
      refine pf (R' := Rf) rfl hf (hp x) ?_
      refine gs_nil ?_
      refine gKeep [0, 1, 5, 7, 8, 16] rfl ?_
      refine gCond rfl (fun h1 => ?_) (fun h1 => ?_)
      · refine gSeq ?_
        refine gText (σ := wk [(0, .p), (1, .p)]) rfl ?_
        refine pv rfl (rMv rfl) ?_
        refine pv rfl (rAs rfl) ?_
        refine gs_nil ?_
        refine gRet ?_
        refine gEnd1 Try.results76 (resT rfl) ⟨?_, rfl⟩
        rw [idxOf_some hs.2 hx h1]
      · refine gSkip ?_
        refine gText (σ := wk [(0, .p), (1, .p)]) rfl ?_
        refine pv rfl (rBin rfl rfl (bAddI (by omega))) ?_
        refine pv rfl (rMv rfl) ?_
        refine gs_nil ?_
        refine gInvK (s + 1) [0, 1, 7, 8] ⟨⟨by omega, noneTo_step hs.2 hx (by simpa using h1)⟩, by omega⟩ rfl rfl
    · have hs0 : s = xs.length := by omega
      subst hs0
      refine gExit rfl ?_
      refine gSeq ?_
      refine gText (σ := wk [(0, .p)]) rfl ?_
      refine pv rfl (rAs rfl) ?_
      refine gs_nil ?_
      refine gRet ?_
      refine gEnd1 Try.results76 (resT rfl) ⟨?_, rfl⟩
      rw [idxOf_none hs.2]

set_option maxRecDepth 4000 in
theorem c51 (f : Nat) (hf : EN Try.prog f) (p : Write → Bool) (caps : List Value) (Rf : HL) (hp : ∀ x, Pf Try.prog f (writeV x :: caps) Rf (.bool (p x))) (cap : Nat) (xs : List Write) (q : Option Addr) (Rc : HL) (hl : Lies Rc q (writesL xs)) (hlen : xs.length ≤ 1099511627776) : Pf Try.prog 51 [.slice q xs.length cap, .func (.func f) #[] caps.toArray] (Rc ++ Rf) (.bool (decide (idxOf p xs ≥ 0))) := by
  refine trEnter Try.func51 rfl Try.ntmps51 (l := [(0, _), (1, _)]) rfl rfl (fun w0 => ?_)
  refine gSeq ?_
  refine gText (σ := wk [(0, .p)]) rfl ?_
  refine pv rfl (rAs rfl) ?_
  refine gs_nil ?_
  refine gSeq ?_
  refine gText (σ := wk [(0, .p), (1, .p), (2, .p), (3, .p), (4, .p)]) rfl ?_
  refine pv rfl (rMv rfl) ?_
  refine pv rfl (rMv rfl) ?_
  refine pf (R' := Rc ++ Rf) rfl eN76 (c76 f hf p caps Rf hp cap xs q Rc hl hlen) ?_
  refine pv rfl (rBin rfl rfl bGe) ?_
  refine pv rfl (rAs rfl) ?_
  refine gs_nil ?_
  refine gKeep [4] rfl ?_
  refine gRet ?_
  refine gEnd1 Try.results51 (resT rfl) ⟨?_, rfl⟩
  rfl

set_option maxRecDepth 4000 in
theorem c70 (x y : Ver) (h : Vec) (b1 b2 : Nat) : Pf Try.prog 70 [verV x, .pointer (some ⟨b1, 0, none⟩), .pointer (some ⟨b2, 0, none⟩)] [(b1, Obj.cells (vecL h).toArray 33), (b2, Obj.cells (List.toArray (verL y)) 126)] (.bool (x.s.v.leq h && decide (x.s ≠ y.s))) := by
  refine trEnter Try.func70 rfl Try.ntmps70 (l := [(0, _), (1, _), (2, _)]) rfl rfl (fun w0 => ?_)
  refine gSeq ?_
  refine gText (σ := wk [(0, .p), (1, .p)]) rfl ?_
  refine pm rfl (mBox rfl rfl) (fun b3 => ?_)
  refine pv rfl (rAs rfl) ?_
  refine gs_nil ?_
  refine gSeq ?_
  refine gText (σ := wk [(0, .p), (1, .p), (2, .p), (3, .p), (4, .p), (5, .p), (6, .p), (7, .p), (8, .p), (9, .p), (10, .p), (11, .p)]) rfl ?_
  refine pv rfl (rFa fA126_0 rfl) ?_
  refine pv rfl (rLdA tA35 rfl rfl) ?_
  refine pv rfl (rLdA tA33 rfl rfl) ?_
  refine pf rfl eN71 (c71 x.s h) ?_
  refine pv rfl (rMv rfl) ?_
  refine gB (e := 9) rfl (fun g9 => ?_) (fun g9 => ?_)
  · refine pv rfl (rFa fA126_0 rfl) ?_
    refine pv rfl (rLdA tA35 rfl rfl) ?_
    refine pv rfl (rFa fA126_0 rfl) ?_
    refine pv rfl (rLdA tA35 rfl rfl) ?_
    refine pv rfl (rBin rfl rfl (bNe35 x.s y.s)) ?_
    refine pv rfl (rPk rfl rfl) ?_
    refine pv rfl (rAs rfl) ?_
    refine gs_nil ?_
    refine gKeep [4] rfl ?_
    refine gRet ?_
    refine gEnd1 Try.results70 (resT rfl) ⟨?_, rfl⟩
    simp_all
  · refine pn rfl ?_
    refine pn rfl ?_
    refine pn rfl ?_
    refine pn rfl ?_
    refine pn rfl ?_
    refine pv rfl (rPk rfl rfl) ?_
    refine pv rfl (rAs rfl) ?_
    refine gs_nil ?_
    refine gKeep [4] rfl ?_
    refine gRet ?_
    refine gEnd1 Try.results70 (resT rfl) ⟨?_, rfl⟩
    simp_all

set_option maxRecDepth 4000 in
theorem c69 (f : Nat) (hf : EN Try.prog f) (p : Ver → Bool) (caps : List Value) (Rf : HL) (hp : ∀ x, Pf Try.prog f (verV x :: caps) Rf (.bool (p x))) (xs : List Ver) (v : Value) (Lr : HL) (hrow : Row 126 9 xs.length (versL xs) v Lr) (hlen : xs.length ≤ 1099511627776) : Tr Try.prog 69 [v, .func (.func f) #[] caps.toArray] Rf Lr (fun u L' => Row 126 9 (xs.filter fun x => !p x).length (versL (xs.filter fun x => !p x)) u L') := by
  obtain ⟨q, cap, rfl, hl⟩ := hrow.lies
  refine trEnter Try.func69 rfl Try.ntmps69 (l := [(0, _), (1, _)]) rfl rfl (fun w0 => ?_)
  refine gSeq ?_
  refine gText (σ := wk [(0, .p)]) rfl ?_
  refine pv rfl (rAs rfl) ?_
  refine gs_nil ?_
  refine gSeq ?_
  refine gText (σ := wk [(0, .p), (1, .p), (2, .p), (3, .p)]) rfl ?_
  refine pv rfl (rMv rfl) ?_
  refine pv rfl (rMv rfl) ?_
  refine pf (R' := Lr ++ Rf) rfl eN87 (c87 f hf p caps Rf hp cap xs q Lr hl hlen) ?_
  refine pv rfl (rAs rfl) ?_
  refine gs_nil ?_
  refine gSeq ?_
  refine gSeq ?_
  refine gText (σ := wk [(0, .p), (1, .p)]) rfl ?_
  refine pv rfl (rMv rfl) ?_
  refine pv rfl (rBin rfl rfl bEq) ?_
  refine gs_nil ?_
  refine gKeep [0, 1, 4, 5, 12] rfl ?_
  refine gCondD rfl (fun h0 => ?_) (fun h0 => ?_)
  · have hall : ∀ x ∈ xs, p x = false := by
        rcases idxOf_cases p xs with h | ⟨k, x, h, _⟩
        · exact h.2
        · omega
    refine gSeq ?_
    refine gText (σ := wk [(0, .p), (1, .p)]) rfl ?_
    refine pv rfl (rMv rfl) ?_
    refine pv rfl (rAs rfl) ?_
    refine gs_nil ?_
    refine gRet ?_
    refine gEnd1 (L' := Lr) Try.results69 (resT rfl) ?_
    rw [filter_all hall]; exact hrow
  · obtain ⟨k, x, hik, hxk, hpx, hno⟩ : ∃ k x, idxOf p xs = (k : Nat) ∧ xs[k]? = some x ∧ p x = true ∧ noneTo p xs k := by
        rcases idxOf_cases p xs with h | h
        · exact absurd h.1 h0
        · exact h
    have hkl : k < xs.length := (List.getElem?_eq_some_iff.1 hxk).1
    obtain ⟨gg, cap2, T, hv, rfl, hnc, hcm, hT⟩ := hrow.some' (by omega)
    cases hv
    refine gVN (u := .int .i64 (k : Int)) 5 rfl (by rw [hik]) ?_
    refine gSkip ?_
    refine gSeq ?_
    refine gSeq ?_
    refine gText (σ := wk [(0, .p), (1, .p), (2, .p)]) rfl ?_
    refine pv rfl (rMv rfl) ?_
    refine pv rfl (rBin rfl rfl (bAddI (by omega))) ?_
    refine pv rfl (rAs rfl) ?_
    refine gs_nil ?_
    refine gBlock ?_
    refine gLoop (σ := Nat × List Value) (fun s => ([(0, .slice (some ⟨gg, 0, none⟩) xs.length cap), (1, .func (.func f) #[] caps.toArray), (5, .int .i64 (((xs.take s.1).filter fun x => !p x).length : Nat)), (6, .int .i64 (s.1 : Nat))], [(gg, .cells (List.toArray (versL ((xs.take s.1).filter fun x => !p x) ++ (s.2 ++ (versL (xs.drop s.1) ++ T)))) 126)])) (fun s => s.1 ≤ xs.length ∧ s.2.length + ((xs.take s.1).filter fun x => !p x).length * 9 = s.1 * 9 ∧ 9 ≤ s.2.length) (fun s => xs.length - s.1) ?_ (fun s hs => ?_)
    · have hK := filter_take hno hxk hpx
      have hkk : (xs.take k).length = k := by simp; omega
      refine gVN (u := .int .i64 (((xs.take (k + 1)).filter fun x => !p x).length : Nat)) 5 rfl (by rw [hK, hkk]) ?_
      refine gInvK ((k + 1, verL x)) [0, 1, 5, 6] ⟨by show k + 1 ≤ _; omega, by show 9 + ((xs.take (k + 1)).filter fun x => !p x).length * 9 = (k + 1) * 9; rw [hK, hkk]; omega, Nat.le_refl _⟩ rfl (by
            show _ = [(gg, Obj.cells (List.toArray (versL ((xs.take (k + 1)).filter fun x => !p x) ++ (verL x ++ (versL (xs.drop (k + 1)) ++ T)))) 126)]
            rw [hK]
            conv => lhs; rw [← List.take_append_drop k xs, drop_step hxk, versL_app, versL_cons]
            simp only [List.append_assoc])
    · obtain ⟨j, M⟩ := s
      obtain ⟨hjn, hML, hM9⟩ := hs
      simp only at hjn hML hM9 ⊢
      have hKl := versL_len ((xs.take j).filter fun x => !p x)
      refine gSeq ?_
      refine gSeq ?_
      refine gText (σ := wk [(0, .p), (1, .p), (2, .p), (3, .p)]) rfl ?_
      refine pv rfl (rMv rfl) ?_
      refine pv rfl (rMv rfl) ?_
      refine pv rfl (rLen uS139 rfl) ?_
      refine pv rfl (rBin rfl rfl bLt) ?_
      refine gs_nil ?_
      refine gCondD rfl (fun h1 => ?_) (fun h1 => ?_)
      · have hjl : j < xs.length := by omega
        have hx := List.getElem?_eq_getElem hjl
        generalize xs[j] = y at hx
        have hdr := drop_step hx
        have hdr2 : versL (xs.drop j) = verL y ++ versL (xs.drop (j + 1)) := by rw [hdr, versL_cons]
        rw [hdr2, List.append_assoc]
        refine gSkip ?_
        refine gSeq ?_
        refine gBlock ?_
        refine gSeq ?_
        refine gText (σ := wk [(0, .p), (1, .p), (2, .p), (3, .p), (4, .p), (5, .p)]) rfl ?_
        refine pv rfl (rMv rfl) ?_
        refine pv rfl (rMv rfl) ?_
        refine pv rfl (rIs iS139 rfl rfl ⟨by omega, by omega⟩) ?_
        refine pv rfl (rLdAm tA126 rfl List.mem_cons_self (vs := verL y) rfl (fun i u hu => ?_)) ?_
        · show _[0 + j * 9 + i]? = _
          rw [← List.append_assoc, Nat.zero_add, get_left' (by rw [List.length_append, versL_len, ← hML]; omega)]
          exact (List.getElem?_append_left (List.getElem?_eq_some_iff.1 hu).1).trans hu
        refine pm rfl (mAlloc zC126) (fun b7 => ?_)
        refine ps0 rfl (tSt tA126.2 rfl rfl rfl rfl rfl rfl rfl) ?_
        refine gs_nil ?_
        refine gKeep [0, 1, 5, 6, 7] rfl ?_
        refine gSeq ?_
        refine gText (σ := wk [(0, .p), (1, .p), (2, .p), (3, .p)]) rfl ?_
        refine pv rfl (rMv rfl) ?_
        refine pv rfl (rLdA tA126 rfl rfl) ?_
        refine pf (R' := Rf) rfl hf (hp y) ?_
        refine pv rfl (rNot rfl) ?_
        refine gs_nil ?_
        refine gCond rfl (fun h2 => ?_) (fun h2 => ?_)
        · have hpy : p y = false := by simpa using h2
          have hK2 : ((xs.take (j + 1)).filter fun x => !p x) = ((xs.take j).filter fun x => !p x) ++ [y] := by rw [filter_step hx]; simp [hpy]
          refine gSeq ?_
          refine gText (σ := wk [(0, .p), (1, .p), (2, .p), (3, .p), (4, .p)]) rfl ?_
          refine pv rfl (rMv rfl) ?_
          refine pv rfl (rMv rfl) ?_
          refine pv rfl (rLdA tA126 rfl rfl) ?_
          refine pv rfl (rIs iS139 rfl rfl ⟨by omega, by omega⟩) ?_
          refine ps0 rfl (tStA (vs := verL y) (cl' := versL ((xs.take j).filter fun x => !p x) ++ (verL y ++ (M.drop 9 ++ (verL y ++ (versL (xs.drop (j + 1)) ++ T))))) tA126.2 rfl rfl rfl rfl (verL_one y) ?_ ?_) ?_
          · show 0 + _ * 9 + 9 ≤ _
            simp only [List.length_append, versL_len]; omega
          · show List.take (0 + _ * 9) _ ++ _ ++ List.drop (0 + _ * 9 + 9) _ = _
            conv => lhs; rw [← List.take_append_drop 9 M]
            rw [Nat.zero_add, List.append_assoc (M.take 9)]
            exact set_mid (c := verL y) (versL_len _) (by simp; omega)
          refine gs_nil ?_
          refine gKeep [0, 1, 5, 6] rfl ?_
          refine gText (σ := wk [(0, .p), (1, .p), (2, .p)]) rfl ?_
          refine pv rfl (rMv rfl) ?_
          refine pv rfl (rBin rfl rfl (bAddI (by omega))) ?_
          refine pv rfl (rAs rfl) ?_
          refine gs_nil ?_
          refine gText (σ := wk [(0, .p), (1, .p), (2, .p)]) rfl ?_
          refine pv rfl (rMv rfl) ?_
          refine pv rfl (rBin rfl rfl (bAddI (by omega))) ?_
          refine pv rfl (rAs rfl) ?_
          refine gs_nil ?_
          refine gKeep [0, 1, 5, 6] rfl ?_
          refine gVN (u := .int .i64 (((xs.take (j + 1)).filter fun x => !p x).length : Nat)) 5 rfl (by first | (rw [hK2]; done) | (rw [hK2]; simp)) ?_
          refine gDrop [(b7, Obj.cells (List.toArray (verL y)) 126)] ?_
          refine gInvK (j + 1, M.drop 9 ++ verL y) [0, 1, 5, 6] ⟨⟨by show j + 1 ≤ _; omega, ?_, ?_⟩, by show _ - (j + 1) < _ - j; omega⟩ rfl ?_
          · show (M.drop 9 ++ verL y).length + ((xs.take (j + 1)).filter fun x => !p x).length * 9 = (j + 1) * 9
            rw [hK2]; simp only [List.length_append, List.length_drop, verL_len, List.length_singleton]; omega
          · show 9 ≤ (M.drop 9 ++ verL y).length
            simp only [List.length_append, verL_len]; omega
          · show _ = [(gg, Obj.cells (List.toArray (versL ((xs.take (j + 1)).filter fun x => !p x) ++ ((M.drop 9 ++ verL y) ++ (versL (xs.drop (j + 1)) ++ T)))) 126)]
            rw [hK2, versL_app]; simp [versL]
        · have hpy : p y = true := by simpa using h2
          have hK2 : ((xs.take (j + 1)).filter fun x => !p x) = ((xs.take j).filter fun x => !p x) := by rw [filter_step hx]; simp [hpy]
          refine gSkip ?_
          refine gText (σ := wk [(0, .p), (1, .p), (2, .p)]) rfl ?_
          refine pv rfl (rMv rfl) ?_
          refine pv rfl (rBin rfl rfl (bAddI (by omega))) ?_
          refine pv rfl (rAs rfl) ?_
          refine gs_nil ?_
          refine gKeep [0, 1, 5, 6] rfl ?_
          refine gVN (u := .int .i64 (((xs.take (j + 1)).filter fun x => !p x).length : Nat)) 5 rfl (by first | (rw [hK2]; done) | (rw [hK2]; simp)) ?_
          refine gDrop [(b7, Obj.cells (List.toArray (verL y)) 126)] ?_
          refine gInvK (j + 1, M ++ verL y) [0, 1, 5, 6] ⟨⟨by show j + 1 ≤ _; omega, ?_, ?_⟩, by show _ - (j + 1) < _ - j; omega⟩ rfl ?_
          · show (M ++ verL y).length + ((xs.take (j + 1)).filter fun x => !p x).length * 9 = (j + 1) * 9
            rw [hK2]; simp only [List.length_append, verL_len]; omega
          · show 9 ≤ (M ++ verL y).length
            simp only [List.length_append, verL_len]; omega
          · show _ = [(gg, Obj.cells (List.toArray (versL ((xs.take (j + 1)).filter fun x => !p x) ++ ((M ++ verL y) ++ (versL (xs.drop (j + 1)) ++ T)))) 126)]
            rw [hK2]; simp
      · have hj0 : j = xs.length := by omega
        subst hj0
        have hKt : xs.take xs.length = xs := List.take_length
        have hKd : xs.drop xs.length = [] := List.drop_length
        have hfl := List.length_filter_le (fun x => !p x) (xs.take xs.length)
        rw [hKd] at *
        refine gExit rfl ?_
        refine gSeq ?_
        refine gText (σ := wk [(0, .p), (1, .p), (2, .p), (3, .p)]) rfl ?_
        refine pv rfl (rMv rfl) ?_
        refine pv rfl (rMv rfl) ?_
        refine pv rfl (rCutL iS139 rfl rfl (by omega)) ?_
        have hKl2 : xs.length - (xs.filter fun x => !p x).length = (xs.length - (xs.filter fun x => !p x).length - 1) + 1 := by rw [hKt] at hML; omega
        refine gV (u := .slice (some ⟨gg, (xs.filter fun x => !p x).length * 9, none⟩) ((xs.length - (xs.filter fun x => !p x).length - 1) + 1) (cap - (xs.filter fun x => !p x).length)) 38 rfl (by rw [hKt, ← hKl2, offc, if_neg (by rw [hKt] at hML; omega), Nat.zero_add]) ?_
        refine pt rfl (tClear (zs := (Builtin.zeroCells (List.toArray [.int .u64 0, .int .u64 0, .int .u64 0, .int .u64 0, .int .i64 0, .string ⟨#[]⟩, .string ⟨#[]⟩, .string ⟨#[]⟩, .bool false]) ((xs.length - (xs.filter fun x => !p x).length - 1) + 1)).toList) (cl' := versL (xs.filter fun x => !p x) ++ ((Builtin.zeroCells (List.toArray [.int .u64 0, .int .u64 0, .int .u64 0, .int .u64 0, .int .i64 0, .string ⟨#[]⟩, .string ⟨#[]⟩, .string ⟨#[]⟩, .bool false]) ((xs.length - (xs.filter fun x => !p x).length - 1) + 1)).toList ++ T)) (z := .agg (List.toArray [.int .u64 0, .int .u64 0, .int .u64 0, .int .u64 0, .int .i64 0, .string ⟨#[]⟩, .string ⟨#[]⟩, .string ⟨#[]⟩, .bool false])) Try.underlying139 (fun w => by kernel_rfl) rfl rfl (zeros_one (by intro u hu; simp at hu; rcases hu with rfl | rfl | rfl | rfl <;> rfl) (by decide) _) ?_ ?_) ?_
        · rw [hKt]; simp only [List.length_append, Array.length_toList, size_zeroCells, versL_len]; rw [hKt] at hML; simp; omega
        · rw [hKt]
          refine set_mid (versL_len _) ?_
          rw [Array.length_toList (xs := Builtin.zeroCells _ _), size_zeroCells]; rw [hKt] at hML; simp; omega
        refine gs_nil ?_
        refine gKeep [0, 1, 5, 6] rfl ?_
        refine gSeq ?_
        refine gText (σ := wk [(0, .p), (1, .p), (2, .p), (3, .p)]) rfl ?_
        refine pv rfl (rMv rfl) ?_
        refine pv rfl (rMv rfl) ?_
        refine pv rfl (rCutH iS139 rfl rfl (by omega)) ?_
        refine pv rfl (rAs rfl) ?_
        refine gs_nil ?_
        refine gRet ?_
        refine gEnd1 (hF := Front.all _) Try.results69 (resT rfl) ?_
        rw [hKt]
        refine Row.mk' (versL_len _) (by omega) hcm ?_
        rw [List.length_append, Array.length_toList, size_zeroCells, hT]; rw [hKt] at hML; simp; omega
end Go.Proofs.Yteeobhehfdifnaa
set_option linter.unusedVariables false
set_option linter.unusedSimpArgs false
namespace Go.Proofs.Yteeobhehfdifnaa
open Go TB Go.Proofs
theorem eN66 : EN Try.prog 66 := fun args w => by kernel_rfl
theorem aP139 : AP Try.prog 139 126 9 96 := ap_of (z := .agg (List.toArray [.int .u64 0, .int .u64 0, .int .u64 0, .int .u64 0, .int .i64 0, .string ⟨#[]⟩, .string ⟨#[]⟩, .string ⟨#[]⟩, .bool false])) Try.underlying139 (by kernel_rfl) rfl (by decide) (by decide)
set_option maxRecDepth 100000 in
theorem eX85 : EXT Try.prog 85 (Extern.SlicesOverlaps.overlaps #[139, 139] #[4]) := ext_of Try.func85 (by kernel_rfl) (by kernel_rfl) (Option.isNone_iff_eq_none.1 (by kernel_rfl)) (by kernel_rfl)
set_option maxRecDepth 4000 in
theorem c65 (cap : Nat) (xs : List Ver) (s : Stamp) (q : Option Addr) (Rc : HL) (hl : Lies Rc q (versL xs)) (hlen : xs.length ≤ 1000000) (ho : Ordered xs) : Pf Try.prog 65 [.slice q xs.length cap, stampV s, .func (.func 66) #[] #[]] Rc (.tuple #[.int .i64 (slotV s xs : Nat), .bool (thereV s xs)]) := by
  have hsl := slotV_le s xs
  refine trEnter Try.func65 rfl Try.ntmps65 (l := [(0, _), (1, _), (2, _)]) rfl rfl (fun w0 => ?_)
  refine gSeq ?_
  refine gText (σ := wk [(0, .p), (1, .p), (2, .p)]) rfl ?_
  refine pm rfl (mBox rfl rfl) (fun b4 => ?_)
  refine pv rfl (rAs rfl) ?_
  refine pv rfl (rAs rfl) ?_
  refine gs_nil ?_
  refine gSeq ?_
  refine gText (σ := wk [(0, .p), (1, .p), (2, .p)]) rfl ?_
  refine pv rfl (rMv rfl) ?_
  refine pv rfl (rLen uS139 rfl) ?_
  refine pv rfl (rAs rfl) ?_
  refine gs_nil ?_
  refine gSeq ?_
  refine gText (σ := wk [(0, .p), (1, .p), (2, .p)]) rfl ?_
  refine pv rfl (rMv rfl) ?_
  refine pv rfl (rAs rfl) ?_
  refine pv rfl (rAs rfl) ?_
  refine gs_nil ?_
  refine gKeep [0, 2, 4, 6, 7, 8, 9, 10] rfl ?_
  refine gSeq ?_
  refine gBlock ?_
  refine gLoop (σ := Nat × Nat) (fun s_ => ([(0, .slice q xs.length cap), (2, .func (.func 66) #[] #[]), (4, .pointer (some ⟨b4, 0, none⟩)), (8, .int .i64 xs.length), (9, .int .i64 (s_.1 : Nat)), (10, .int .i64 (s_.2 : Nat))], [(b4, .cells (List.toArray (stampL s)) 35)])) (fun s_ => s_.1 ≤ slotV s xs ∧ slotV s xs ≤ s_.2 ∧ s_.2 ≤ xs.length) (fun s_ => s_.2 - s_.1) ?_ (fun s_ hs => ?_)
  · refine gInvK ((0, xs.length)) [0, 2, 4, 8, 9, 10] ⟨Nat.zero_le _, hsl, Nat.le_refl _⟩ rfl rfl
  · obtain ⟨i, j⟩ := s_
    obtain ⟨hi, hj, hjn⟩ := hs
    simp only at hi hj hjn ⊢
    refine gSeq ?_
    refine gSeq ?_
    refine gText (σ := wk [(0, .p), (1, .p), (2, .p)]) rfl ?_
    refine pv rfl (rMv rfl) ?_
    refine pv rfl (rMv rfl) ?_
    refine pv rfl (rBin rfl rfl bLt) ?_
    refine gs_nil ?_
    refine gCondD rfl (fun h0 => ?_) (fun h0 => ?_)
    · have hmx : (i + j) / 2 < xs.length := by omega
      have hx := List.getElem?_eq_getElem hmx
      generalize xs[(i + j) / 2] = x at hx
      obtain ⟨b, o, cl, E, fr, rfl, hm, hv⟩ := hl.at verL_len hx (by decide)
      refine gSkip ?_
      refine gBlock ?_
      refine gSeq ?_
      refine gText (σ := wk [(0, .p), (1, .p), (2, .p), (3, .p), (4, .p), (5, .p), (6, .p)]) rfl ?_
      refine pv rfl (rMv rfl) ?_
      refine pv rfl (rMv rfl) ?_
      refine pv rfl (rBin rfl rfl (bAddI (by omega))) ?_
      refine pv rfl (bConv Try.underlying24 Try.underlying3 rfl) ?_
      refine pv rfl (rBin rfl rfl (bShr1 (by decide))) ?_
      refine pv rfl (bConv Try.underlying3 Try.underlying24 rfl) ?_
      refine pv rfl (rAs rfl) ?_
      refine gV (u := .int .i64 (((i + j) / 2 : Nat) : Int)) 11 rfl (by congr 1; rw [IntWalk.u64_in _ (by omega), IntWalk.i64_in _ (by omega)]; omega) ?_
      refine gs_nil ?_
      refine gKeep [0, 2, 4, 8, 9, 10, 11] rfl ?_
      refine gSeq ?_
      refine gD [b4] (wk [(0, .q), (1, .q), (2, .q), (3, .q), (4, .q), (5, .q), (6, .p), (7, .q)]) fol (by kernel_rfl) rfl (by kernel_rfl) ?_
      refine qv rfl (rMv rfl) ?_
      refine qv rfl (rMv rfl) ?_
      refine qv rfl (rMv rfl) ?_
      refine qv rfl (rIs iS139 rfl rfl ⟨by omega, by omega⟩) ?_
      refine qv rfl (rLdAm tA126 rfl (List.mem_append_right _ hm) rfl (fun j v h => hv j v h)) ?_
      refine qv rfl (rLdA tA35 rfl rfl) ?_
      refine pf rfl eN66 (c66 x s) ?_
      refine qv rfl (rBin rfl rfl bLt) ?_
      refine gs_nil ?_
      refine gKeep [0, 2, 4, 8, 9, 10, 11, 31] rfl ?_
      refine gCondD rfl (fun h1 => ?_) (fun h1 => ?_)
      · refine gText (σ := wk [(0, .p), (1, .p), (2, .p)]) rfl ?_
        refine pv rfl (rMv rfl) ?_
        refine pv rfl (rBin rfl rfl (bAddI (by omega))) ?_
        refine pv rfl (rAs rfl) ?_
        refine gs_nil ?_
        refine gKeep [0, 2, 4, 8, 9, 10] rfl ?_
        refine gInvK ((i + j) / 2 + 1, j) [0, 2, 4, 8, 9, 10] ⟨⟨?_, hj, hjn⟩, by show j - ((i + j) / 2 + 1) < j - i; omega⟩ rfl rfl
        show (i + j) / 2 + 1 ≤ _
        rcases Nat.lt_or_ge ((i + j) / 2) (slotV s xs) with h | h
        · exact h
        · exact absurd h1 (slotV_ge ho h hx)
      · refine gText (σ := wk [(0, .p), (1, .p)]) rfl ?_
        refine pv rfl (rMv rfl) ?_
        refine pv rfl (rAs rfl) ?_
        refine gs_nil ?_
        refine gInvK (i, (i + j) / 2) [0, 2, 4, 8, 9, 10] ⟨⟨hi, ?_, by show (i + j) / 2 ≤ _; omega⟩, by show (i + j) / 2 - i < j - i; omega⟩ rfl rfl
        show _ ≤ (i + j) / 2
        rcases Nat.lt_or_ge ((i + j) / 2) (slotV s xs) with h | h
        · exact absurd (slotV_lt h hx) h1
        · exact h
    · have hij : i = slotV s xs := by omega
      subst hij
      refine gExit rfl ?_
      refine gSeq ?_
      refine gD [b4] (wk [(0, .q), (1, .q), (2, .q), (3, .q), (4, .q), (5, .q), (6, .q), (7, .q), (8, .q), (9, .q), (10, .q), (11, .p), (12, .q), (13, .q), (14, .q), (15, .q)]) fol (by kernel_rfl) rfl (by kernel_rfl) ?_
      refine qv rfl (rMv rfl) ?_
      refine qv rfl (rMv rfl) ?_
      refine qv rfl (rMv rfl) ?_
      refine qv rfl (rBin rfl rfl bLt) ?_
      refine qv rfl (rMv rfl) ?_
      refine gB (e := 39) rfl (fun g39 => ?_) (fun g39 => ?_)
      · have hmx : slotV s xs < xs.length := by have := of_decide_eq_true g39; omega
        have hx := List.getElem?_eq_getElem hmx
        generalize xs[slotV s xs] = x at hx
        obtain ⟨b, o, cl, E, fr, rfl, hm, hv⟩ := hl.at verL_len hx (by decide)
        refine qv rfl (rMv rfl) ?_
        refine qv rfl (rMv rfl) ?_
        refine qv rfl (rMv rfl) ?_
        refine qv rfl (rIs iS139 rfl rfl ⟨by omega, by omega⟩) ?_
        refine qv rfl (rLdAm tA126 rfl (List.mem_append_right _ hm) rfl (fun j v h => hv j v h)) ?_
        refine qv rfl (rLdA tA35 rfl rfl) ?_
        refine pf rfl eN66 (c66 x s) ?_
        refine qv rfl (rBin rfl rfl bEq) ?_
        refine qv rfl (rPk rfl rfl) ?_
        refine qv rfl (rAs rfl) ?_
        refine qv rfl (rAs rfl) ?_
        refine gs_nil ?_
        refine gKeep [0, 2, 4, 6, 7, 8, 9, 10] rfl ?_
        refine gRet ?_
        refine gEnd2 Try.results65 (resT rfl) (resT rfl) ⟨?_, rfl⟩
        unfold thereV; rw [hx]
      · have hge : xs.length ≤ slotV s xs := by have := of_decide_eq_false g39; omega
        refine qn rfl ?_
        refine qn rfl ?_
        refine qn rfl ?_
        refine qn rfl ?_
        refine qn rfl ?_
        refine qn rfl ?_
        refine pn rfl ?_
        refine qn rfl ?_
        refine qv rfl (rPk rfl rfl) ?_
        refine qv rfl (rAs rfl) ?_
        refine qv rfl (rAs rfl) ?_
        refine gs_nil ?_
        refine gKeep [0, 2, 4, 6, 7, 8, 9, 10] rfl ?_
        refine gRet ?_
        refine gEnd2 Try.results65 (resT rfl) (resT rfl) ⟨?_, rfl⟩
        unfold thereV; rw [List.getElem?_eq_none hge]

set_option maxRecDepth 4000 in
theorem c68 (gg n cap i bx : Nat) (A B T new : List Value) (hA : A.length = i * 9) (hB : B.length = (n - i) * 9) (hT : T.length = (cap - n) * 9) (hin : i ≤ n) (hnc : n ≤ cap) (hcm : cap ≤ maxLen) (hnew : new.length = 9) (oA : oneL A) (oB : oneL B) (on : oneL new) (hn : n ≤ 1000000) : Tr Try.prog 68 [.slice (some ⟨gg, 0, none⟩) n cap, .int .i64 (i : Nat), .slice (some ⟨bx, 0, none⟩) 1 1] [(bx, Obj.cells new.toArray 126)] [(gg, Obj.cells (List.toArray (A ++ (B ++ T))) 126)] (fun u L' => Row 126 9 (n + 1) (A ++ (new ++ B)) u L') := by
  refine trEnter Try.func68 rfl Try.ntmps68 (l := [(0, _), (1, _), (2, _)]) rfl rfl (fun w0 => ?_)
  refine gDisR (b := bx) (g := gg) (List.mem_singleton.2 rfl) (fun hne => ?_)
  refine gSeq ?_
  refine gText (σ := wk [(0, .p)]) rfl ?_
  refine pv rfl (rAs rfl) ?_
  refine gs_nil ?_
  refine gSeq ?_
  refine gText (σ := wk [(0, .p), (1, .p), (2, .p)]) rfl ?_
  refine pv rfl (rMv rfl) ?_
  refine pv rfl (rMv rfl) ?_
  refine pv rfl (rCutL iS139 rfl rfl hin) ?_
  refine gs_nil ?_
  refine gSeq ?_
  refine gText (σ := wk [(0, .p), (1, .p), (2, .p)]) rfl ?_
  refine pv rfl (rMv rfl) ?_
  refine pv rfl (rLen uS139 rfl) ?_
  refine pv rfl (rAs rfl) ?_
  refine gs_nil ?_
  refine gKeep [0, 1, 2, 6, 7] rfl ?_
  refine gSeq ?_
  refine gSeq ?_
  refine gText (σ := wk [(0, .p), (1, .p)]) rfl ?_
  refine pv rfl (rMv rfl) ?_
  refine pv rfl (rBin rfl rfl bEq) ?_
  refine gs_nil ?_
  refine gCondF rfl (by decide) ?_
  refine gSkip ?_
  refine gSeq ?_
  refine gText (σ := wk [(0, .p), (1, .p), (2, .p)]) rfl ?_
  refine pv rfl (rMv rfl) ?_
  refine pv rfl (rLen uS139 rfl) ?_
  refine pv rfl (rAs rfl) ?_
  refine gs_nil ?_
  refine gKeep [0, 1, 2, 6, 7, 8] rfl ?_
  refine gSeq ?_
  refine gSeq ?_
  refine gText (σ := wk [(0, .p), (1, .p), (2, .p)]) rfl ?_
  refine pv rfl (rMv rfl) ?_
  refine pv rfl (rMv rfl) ?_
  refine pv rfl (rBin rfl rfl bEq) ?_
  refine gs_nil ?_
  refine gCondD rfl (fun h1 => ?_) (fun h1 => ?_)
  · have hi : i = n := by omega
    subst hi
    have hB0 : B = [] := List.eq_nil_of_length_eq_zero (by rw [hB]; simp)
    subst hB0
    simp only [List.nil_append, List.append_nil]
    refine gSeq ?_
    refine gText (σ := wk [(0, .p), (1, .p), (2, .p), (3, .p)]) rfl ?_
    refine pv rfl (rMv rfl) ?_
    refine pv rfl (rMv rfl) ?_
    refine papp (news := new) (L1 := [(gg, Obj.cells (List.toArray (A ++ T)) 126)]) aP139 rfl rfl (Row.mk' hA hnc hcm hT) rfl (List.mem_append_right _ (List.mem_singleton.2 rfl)) (by rw [hnew]) (fun j u h => by rw [Nat.zero_add]; exact h) on (by omega) (fun v' L' hv => ?_)
    rw [List.append_nil]
    refine pv rfl (rAs rfl) ?_
    refine gs_nil ?_
    refine gKeep [0, 1, 2, 6, 7, 8] rfl ?_
    refine gRet ?_
    refine gEnd1 (hF := Front.all _) Try.results68 (resT rfl) ?_
    exact hv
  · have hi : i < n := by omega
    refine gSkip ?_
    refine gSeq ?_
    refine gSeq ?_
    refine gText (σ := wk [(0, .p), (1, .p), (2, .p), (3, .p), (4, .p), (5, .p)]) rfl ?_
    refine pv rfl (rMv rfl) ?_
    refine pv rfl (rMv rfl) ?_
    refine pv rfl (rBin rfl rfl (bAddI (by omega))) ?_
    refine pv rfl (rMv rfl) ?_
    refine pv rfl (rCap uS139 rfl) ?_
    refine pv rfl (rBin rfl rfl bGt) ?_
    refine gs_nil ?_
    refine gKeep [0, 1, 2, 6, 7, 8, 31] rfl ?_
    refine gCondD rfl (fun h2 => ?_) (fun h2 => ?_)
    · have hroom : cap < n + 1 := by omega
      refine gSeq ?_
      refine gText (σ := wk [(0, .p), (1, .p), (2, .p), (3, .p), (4, .p), (5, .p), (6, .p), (7, .p), (8, .p), (9, .p)]) rfl ?_
      refine pv rfl (rMv rfl) ?_
      refine pv rfl (rMv rfl) ?_
      refine pv rfl (rCutH iS139 rfl rfl (by omega)) ?_
      refine pv rfl (rMv rfl) ?_
      refine pv rfl (rMv rfl) ?_
      refine pv rfl (rBin rfl rfl (bAddI (by omega))) ?_
      refine pv rfl (rMv rfl) ?_
      refine pv rfl (rBin rfl rfl (bSubI (by omega))) ?_
      refine gV (u := .int .i64 ((n + 1 - i : Nat) : Int)) 39 rfl (by congr 1; omega) ?_
      refine pappZ (olds := A) aP139 Try.underlying3 rfl rfl rfl (by omega) (List.mem_append_left _ List.mem_cons_self) hA (fun j u h => (List.getElem?_append_left (List.getElem?_eq_some_iff.1 h).1).trans h) (by omega) (by omega) (fun x hx => nomatch hx) (fun b cap' zs hc1 hc2 hzs => ?_)
      refine gV (u := .slice (some ⟨b, 0, none⟩) (n + 1) cap') 40 rfl (by congr 1; omega) ?_
      obtain ⟨z1, z2, rfl, hz1⟩ : ∃ z1 z2, zs = z1 ++ z2 ∧ z1.length = 9 := ⟨zs.take 9, zs.drop 9, by simp, by simp; omega⟩
      obtain ⟨z2, z3, rfl, hz2⟩ : ∃ z3 z4, z2 = z3 ++ z4 ∧ z3.length = (n - i) * 9 := ⟨z2.take ((n - i) * 9), z2.drop ((n - i) * 9), by simp, by simp at hzs ⊢; omega⟩
      refine pv rfl (rAs rfl) ?_
      refine gs_nil ?_
      refine gKeep [0, 1, 2, 6, 7, 8, 9] rfl ?_
      refine gSeq ?_
      refine gText (σ := wk [(0, .p), (1, .p), (2, .p), (3, .p), (4, .p)]) rfl ?_
      refine pv rfl (rMv rfl) ?_
      refine pv rfl (rMv rfl) ?_
      refine pv rfl (rCutL iS139 rfl rfl (by omega)) ?_
      refine gV (u := .slice (some ⟨b, i * 9, none⟩) (n + 1 - i) (cap' - i)) 43 rfl (by rw [offc, if_neg (by omega), Nat.zero_add]) ?_
      refine pv rfl (rMv rfl) ?_
      refine pt rfl (tCopy (size := 9) (m := 1) (cs := new) (cl' := A ++ (new ++ (z2 ++ z3))) Try.underlying139 (fun w => by kernel_rfl) rfl rfl (List.mem_append_right _ (List.mem_singleton.2 rfl)) (by show min _ _ = _; omega) (by rw [hnew]) (fun j u h => by rw [Nat.zero_add]; exact h) on (by simp only [List.length_append]; omega) (set_mid hA (by omega))) ?_
      refine gs_nil ?_
      refine gKeep [0, 1, 2, 6, 7, 8, 9] rfl ?_
      refine gSeq ?_
      refine gD [] (wk [(0, .q), (1, .q), (2, .q), (3, .q), (4, .q), (5, .q), (6, .q), (7, .q), (8, .p)]) fol (by kernel_rfl) rfl (by kernel_rfl) ?_
      refine qv rfl (rMv rfl) ?_
      refine qv rfl (rMv rfl) ?_
      refine qv rfl (rMv rfl) ?_
      refine qv rfl (rBin rfl rfl (bAddI (by omega))) ?_
      refine qv rfl (rCutL iS139 rfl rfl (by omega)) ?_
      refine gV (u := .slice (some ⟨b, (i + 1) * 9, none⟩) (n - i) (cap' - (i + 1))) 50 rfl (by rw [offc, if_neg (by omega), Nat.zero_add]; congr 1; omega) ?_
      refine qv rfl (rMv rfl) ?_
      refine qv rfl (rMv rfl) ?_
      refine qv rfl (rCutL iS139 rfl rfl (by omega)) ?_
      refine gV (u := .slice (some ⟨gg, i * 9, none⟩) (n - i) (cap - i)) 53 rfl (by rw [offc, if_neg (by omega), Nat.zero_add]) ?_
      refine pt rfl (tCopy (size := 9) (m := n - i) (cs := B) (cl' := A ++ (new ++ (B ++ z3))) Try.underlying139 (fun w => by kernel_rfl) rfl rfl (List.mem_append_left _ (List.mem_cons_of_mem _ List.mem_cons_self)) (by show min _ _ = _; omega) hB (fun j u h => by rw [get_left' hA]; exact (List.getElem?_append_left (List.getElem?_eq_some_iff.1 h).1).trans h) oB (by simp only [List.length_append]; omega) (by rw [← List.append_assoc A, ← List.append_assoc A]; exact set_mid (by rw [List.length_append]; omega) (by omega))) ?_
      refine gs_nil ?_
      refine gKeep [0, 1, 2, 6, 7, 8, 9] rfl ?_
      refine gSeq ?_
      refine gText (σ := wk [(0, .p), (1, .p)]) rfl ?_
      refine pv rfl (rMv rfl) ?_
      refine pv rfl (rAs rfl) ?_
      refine gs_nil ?_
      refine gRet ?_
      refine gEnd1 (L' := [(b, Obj.cells (List.toArray (A ++ (new ++ (B ++ z3)))) 126)]) Try.results68 (resT rfl) ?_
      rw [show A ++ (new ++ (B ++ z3)) = (A ++ (new ++ B)) ++ z3 by simp]
      refine Row.mk' (by simp only [List.length_append]; omega) (by omega) hc2 ?_
      simp only [List.length_append] at hzs; omega
    · have hroom : n + 1 ≤ cap := by omega
      refine gSkip ?_
      refine gSeq ?_
      refine gText (σ := wk [(0, .p), (1, .p), (2, .p), (3, .p), (4, .p), (5, .p)]) rfl ?_
      refine pv rfl (rMv rfl) ?_
      refine pv rfl (rMv rfl) ?_
      refine pv rfl (rMv rfl) ?_
      refine pv rfl (rBin rfl rfl (bAddI (by omega))) ?_
      refine pv rfl (rCutH iS139 rfl rfl (by omega)) ?_
      refine pv rfl (rAs rfl) ?_
      refine gs_nil ?_
      refine gKeep [0, 1, 2, 6, 7, 8] rfl ?_
      refine gSeq ?_
      refine gSeq ?_
      refine gText (σ := wk [(0, .p), (1, .p), (2, .p), (3, .p), (4, .p), (5, .p), (6, .p), (7, .p)]) rfl ?_
      refine pv rfl (rMv rfl) ?_
      refine pv rfl (rMv rfl) ?_
      refine pv rfl (rMv rfl) ?_
      refine pv rfl (rMv rfl) ?_
      refine pv rfl (rBin rfl rfl (bAddI (by omega))) ?_
      refine pv rfl (rCutL iS139 rfl rfl (by omega)) ?_
      refine pv rfl (rOv (size := 9) (cl1 := new.toArray) (cl2 := List.toArray (A ++ (B ++ T))) eX85 Try.underlying139 (fun w => by kernel_rfl) rfl rfl (List.mem_append_right _ (List.mem_singleton.2 rfl)) (List.mem_append_left _ List.mem_cons_self) hne (by simp only [List.size_toArray, List.length_append, hA, hB, hT]; omega)) ?_
      refine pv rfl (rNot rfl) ?_
      refine gs_nil ?_
      refine gKeep [0, 1, 2, 6, 7, 8, 68] rfl ?_
      refine gCondT rfl rfl ?_
      refine gSeq ?_
      obtain ⟨U1, U2, U3, hBT, hU1, hU2⟩ : ∃ U1 U2 U3, B ++ T = U1 ++ (U2 ++ U3) ∧ U1.length = 9 ∧ U2.length = (n - i) * 9 := ⟨(B ++ T).take 9, ((B ++ T).drop 9).take ((n - i) * 9), ((B ++ T).drop 9).drop ((n - i) * 9), by rw [List.take_append_drop, List.take_append_drop], by simp; omega, by simp; omega⟩
      refine gD [] (wk [(0, .q), (1, .q), (2, .q), (3, .q), (4, .q), (5, .q), (6, .q), (7, .q), (8, .p)]) fol (by kernel_rfl) rfl (by kernel_rfl) ?_
      refine qv rfl (rMv rfl) ?_
      refine qv rfl (rMv rfl) ?_
      refine qv rfl (rMv rfl) ?_
      refine qv rfl (rBin rfl rfl (bAddI (by omega))) ?_
      refine qv rfl (rCutL iS139 rfl rfl (by omega)) ?_
      refine gV (u := .slice (some ⟨gg, (i + 1) * 9, none⟩) (n - i) (cap - (i + 1))) 73 rfl (by rw [offc, if_neg (by omega), Nat.zero_add]; congr 1; omega) ?_
      refine qv rfl (rMv rfl) ?_
      refine qv rfl (rMv rfl) ?_
      refine qv rfl (rCutL iS139 rfl rfl (by omega)) ?_
      refine gV (u := .slice (some ⟨gg, i * 9, none⟩) (n + 1 - i) (cap - i)) 76 rfl (by rw [offc, if_neg (by omega), Nat.zero_add]) ?_
      refine pt rfl (tCopy (size := 9) (m := n - i) (cs := B) (cl' := A ++ (U1 ++ (B ++ U3))) Try.underlying139 (fun w => by kernel_rfl) rfl rfl (List.mem_append_left _ List.mem_cons_self) (by show min _ _ = _; omega) hB (fun j u h => by rw [get_left' hA]; exact (List.getElem?_append_left (List.getElem?_eq_some_iff.1 h).1).trans h) oB (by simp only [List.length_append]; omega) (by rw [hBT, ← List.append_assoc A, ← List.append_assoc A]; exact set_mid (by rw [List.length_append]; omega) (by omega))) ?_
      refine gs_nil ?_
      refine gKeep [0, 1, 2, 6, 7, 8] rfl ?_
      refine gSeq ?_
      refine gText (σ := wk [(0, .p), (1, .p), (2, .p), (3, .p), (4, .p)]) rfl ?_
      refine pv rfl (rMv rfl) ?_
      refine pv rfl (rMv rfl) ?_
      refine pv rfl (rCutL iS139 rfl rfl (by omega)) ?_
      refine gV (u := .slice (some ⟨gg, i * 9, none⟩) (n + 1 - i) (cap - i)) 80 rfl (by rw [offc, if_neg (by omega), Nat.zero_add]) ?_
      refine pv rfl (rMv rfl) ?_
      refine pt rfl (tCopy (size := 9) (m := 1) (cs := new) (cl' := A ++ (new ++ (B ++ U3))) Try.underlying139 (fun w => by kernel_rfl) rfl rfl (List.mem_append_right _ (List.mem_singleton.2 rfl)) (by show min _ _ = _; omega) (by rw [hnew]) (fun j u h => by rw [Nat.zero_add]; exact h) on (by simp only [List.length_append]; omega) (set_mid hA (by omega))) ?_
      refine gs_nil ?_
      refine gKeep [0, 1, 2, 6, 7, 8] rfl ?_
      refine gSeq ?_
      refine gText (σ := wk [(0, .p), (1, .p)]) rfl ?_
      refine pv rfl (rMv rfl) ?_
      refine pv rfl (rAs rfl) ?_
      refine gs_nil ?_
      refine gRet ?_
      refine gEnd1 (L' := [(gg, Obj.cells (List.toArray (A ++ (new ++ (B ++ U3)))) 126)]) Try.results68 (resT rfl) ?_
      have hl2 := congrArg List.length hBT
      simp only [List.length_append] at hl2
      rw [show A ++ (new ++ (B ++ U3)) = (A ++ (new ++ B)) ++ U3 by simp]
      refine Row.mk' (by simp only [List.length_append]; omega) hroom hcm ?_
      omega
end Go.Proofs.Yteeobhehfdifnaa
