/- A part of the proof that shardPlays of chapter 10 returns true at every room and every list of deeds, and leaves its arguments as they read; no condition. -/
import Derived.Test.YteeobhehfdifnaaTBc
import Derived.ProofKit
import Derived.OpenShut
import Derived.JoinedCond
import Derived.Deep.Slices
set_option linter.unusedVariables false
set_option linter.unusedSimpArgs false
namespace TB
open Go Go.ChangeShapes Go.WideShapes Go.ChangeAt Go.RowKit
variable {H : Type} {enc : TypeId × Value → H} {P : Program}
theorem Upd.below {w w' : World} (h : Upd w w' []) : Below w.heap.size w w' := ⟨h.os, h.tape, h.output, h.size, fun k hk => h.same k hk (fun hh => nomatch hh)⟩
/-- Nothing that lay has turned, one parameter. -/
theorem post_of_below {f : Func} {s : ChangeSpec} {apart fresh handsOn again : Bool} {W W' : World} {args : Array Value} {v : Value} {ds gs : List (DataW H)} {before pa pv : List MemPlace}
    (hW : DataW.Whole enc P f.params.toList s.vars apart W args.toList ds gs before)
    (hres : ∀ (b : Nat) (sp : Nat → Bool) (hd : Bool), DataW.TrodAll enc P W' b sp hd f.resultTypes.toList (v.resultList f.resultTypes.size) (s.fn H (ds ++ gs)).results [])
    (hargs : ∀ sp : Nat → Bool, (∀ p ∈ before, sp p.block = true) → DataW.TrodAll enc P W' 0 sp true f.params.toList args.toList (s.fn H (ds ++ gs)).args pa)
    (hvars : ∀ sp : Nat → Bool, (∀ p ∈ before, sp p.block = true) → DataW.TrodVars enc P W' sp s.vars (s.fn H (ds ++ gs)).vars pv)
    (hps : before = pa ++ pv) (hk : Below W.heap.size W W')
    (hok : ∀ (j : Nat) (t : TypeId) (r : Value), f.resultTypes[j]? = some t → (v.resultList f.resultTypes.size)[j]? = some r → Value.okWide P W' .any 0 t r) :
    s.post enc P f apart fresh handsOn again W args v W' := by
  have hold : ∀ p ∈ before, (fun b => decide (b < W.heap.size)) p.block = true := fun p hp => by simpa using hW.lt p hp
  have hlt := hW.lt
  refine ⟨ds, gs, before, [], pa, pv, hW, hres _ _ _, hargs _ hold, hvars _ hold, World.keptBut_mono (fun p hp => ⟨hp, ?_⟩) (hk.frame (· ∈ before)), fun _ => ?_⟩
  · rw [hps, List.mem_append] at hp
    exact Or.inr hp
  · obtain ⟨_, _, _, _, _, hz, hn⟩ := hW
    refine ⟨hok, _, _, ([] ++ pa) ++ pv, ⟨[] ++ pa, pv, trodAll_append (hargs _ (fun _ _ => rfl)) (hres _ _ _), hvars _ (fun _ _ => rfl), rfl, ?_, ?_⟩, ?_⟩
    · intro b off hp
      have hp' : MemPlace.cell b off ∈ before := by rw [hps]; simpa using hp
      rw [hk.frozen (hlt _ hp')]
      exact hz b off hp'
    · intro ha
      have := hn ha
      rw [hps] at this
      simpa using this
    · intro p hp _
      rw [hps]
      simpa using hp
end TB
namespace TB
open Go Go.ChangeShapes Go.WideShapes Go.ChangeAt Go.RowKit
variable {H : Type} {enc : TypeId × Value → H} {P : Program} {w : World} {base : Nat} {sp : Nat → Bool} {hd : Bool}
/-- What is read of a type's cells is so. -/
def Opn (enc : TypeId × Value → H) (P : Program) (w : World) (base : Nat) (sp : Nat → Bool) (hd : Bool) (t : TypeId) (ok : List Value → Prop) : Prop := ∀ fuel cs x, DataW.trod enc P w base sp hd fuel t cs = some x → ok cs
theorem op_int {t : TypeId} {k : IntKind} (ht : P.underlying t = some (.int k)) : Opn enc P w base sp hd t fun cs => ∃ n, cs = [.int k n] ∧ (Lit.int k n).wf = true := fun fuel cs x h => by
  obtain ⟨n, h1, _, h2⟩ := DataW.trod_int ht h
  exact ⟨n, h1, h2⟩
theorem op_bool {t : TypeId} (ht : P.underlying t = some .bool) : Opn enc P w base sp hd t fun cs => ∃ b, cs = [.bool b] := fun fuel cs x h => by
  obtain ⟨n, h1, _⟩ := DataW.trod_bool ht h
  exact ⟨n, h1⟩
theorem op_str {t : TypeId} (ht : P.underlying t = some .string) : Opn enc P w base sp hd t fun cs => ∃ s, cs = [.string s] := fun fuel cs x h => by
  obtain ⟨n, h1, _⟩ := DataW.trod_string ht h
  exact ⟨n, h1⟩
theorem op_struct {t : TypeId} {fs : Array Field} (ht : P.underlying t = some (.struct fs)) {ok : Nat → List Value → Prop} (hf : ∀ (i : Nat) (f : Field), fs[i]? = some f → Opn enc P w base sp hd f.type (ok i)) :
    Opn enc P w base sp hd t fun cs => cs.length = P.cellsOf t ∧ ∀ (i : Nat) (f : Field), fs[i]? = some f → ok i ((cs.drop f.offset).take (P.cellsOf f.type)) := fun fuel cs x h => by
  obtain ⟨xs, n, _, _, h1, h2, h3⟩ := DataW.trod_struct ht h
  refine ⟨h1, fun i f hif => ?_⟩
  have h4 := h3 i f hif
  have hlt : i < xs.length := by rw [h2]; exact (Array.getElem?_eq_some_iff.1 hif).1
  rw [List.getElem?_eq_getElem hlt] at h4
  exact hf i f hif _ _ _ h4
theorem op_vec {t e : TypeId} (ht : P.underlying t = some (.array 4 e)) (he : P.underlying e = some (.int .u64)) (hc : P.cellsOf e = 1) (hct : P.cellsOf t = 4) : Opn enc P w base sp hd t fun cs => ∃ v : Vec, cs = vecL v ∧ VecR v := fun fuel cs x h => by
  obtain ⟨xs, m, _, _, h1, h2, h3⟩ := DataW.trod_array ht h
  rw [hct] at h1
  match cs, h1 with
  | [c0, c1, c2, c3], _ =>
    have get : ∀ i, i < 4 → ∃ n, (([c0, c1, c2, c3].drop (i * P.cellsOf e)).take (P.cellsOf e)) = [.int .u64 n] ∧ (Lit.int .u64 n).wf = true := fun i hi => by
      have h4 := h3 i hi
      rw [List.getElem?_eq_getElem (by omega)] at h4
      obtain ⟨n, e1, _, e2⟩ := DataW.trod_int he h4
      exact ⟨n, e1, e2⟩
    rw [hc] at get
    obtain ⟨n0, e0, r0⟩ := get 0 (by omega)
    obtain ⟨n1, e1, r1⟩ := get 1 (by omega)
    obtain ⟨n2, e2, r2⟩ := get 2 (by omega)
    obtain ⟨n3, e3, r3⟩ := get 3 (by omega)
    simp at e0 e1 e2 e3
    subst e0 e1 e2 e3
    have rng : ∀ n : Int, (Lit.int .u64 n).wf = true → 0 ≤ n ∧ n ≤ 18446744073709551615 := fun n hn => by
      simpa [Lit.wf, IntKind.min, IntKind.max, IntKind.signed, IntKind.bits] using hn
    exact ⟨⟨n0, n1, n2, n3⟩, rfl, ⟨rng _ r0, rng _ r1, rng _ r2, rng _ r3⟩⟩
theorem cells_get {a : Addr} {n : Nat} {cs : List Value} (h : w.cells? base a n = some cs) : cs.length = n ∧ ∀ j, j < n → w.cell? (a.add j) = cs[j]? := by
  unfold World.cells? at h
  split at h
  · refine ⟨by simpa using mapM_some_length h, fun j hj => ?_⟩
    have := mapM_some_get h j j (by simp [hj])
    exact this
  · cases h
/-- All blocks there are. -/
def allH (w : World) : HL := (List.range w.heap.size).filterMap fun b => (w.heap[b]?).map fun o => (b, o)
theorem allH_mem {w : World} {b : Nat} {o : Obj} (h : w.heap[b]? = some o) : (b, o) ∈ allH w := by
  unfold allH
  rw [List.mem_filterMap]
  exact ⟨b, List.mem_range.2 (Array.getElem?_eq_some_iff.1 h).1, by rw [h]; rfl⟩
theorem allH_has (w : World) : Has w (allH w) := fun x hx => by
  unfold allH at hx
  rw [List.mem_filterMap] at hx
  obtain ⟨b, _, hb⟩ := hx
  cases ho : w.heap[b]? with
  | none => rw [ho] at hb; simp at hb
  | some o => rw [ho] at hb; simp at hb; subst hb; exact ho
theorem op_slice {t e : TypeId} {k : Nat} {ok : List Value → Prop} (ht : P.underlying t = some (.slice e)) (hc : P.cellsOf e = k) (hk : 0 < k) (hok : Opn enc P w base sp hd e ok) :
    Opn enc P w base sp hd t fun cs => ∃ p n cap, cs = [.slice p n cap] ∧ n ≤ maxLen ∧ (n = 0 ∨ ∃ b o cl E fr, p = some ⟨b, o, none⟩ ∧ w.heap[b]? = some (.cells (List.toArray cl) E fr) ∧
      ∀ i, i < n → ∃ cs', cs'.length = k ∧ ok cs' ∧ ∀ j, j < k → cl[o + i * k + j]? = cs'[j]?) := fun fuel cs x h => by
  rcases Go.Deep.open_slice ht h with ⟨rfl, _⟩ | ⟨a, len, cap, m, n, D, Pl, rfl, _, hlc, hcm, hm, _, hel⟩
  · exact ⟨none, 0, 0, rfl, Nat.zero_le _, .inl rfl⟩
  · refine ⟨some a, len, cap, rfl, by omega, ?_⟩
    rcases Nat.eq_zero_or_pos len with h0 | h0
    · exact .inl h0
    · right
      have hlm : len ≤ m := by rw [hm]; split <;> omega
      rw [hc] at hel
      obtain ⟨cs0, hc0, _⟩ := hel 0 (by omega)
      have g0 := (cells_get hc0).2 0 hk
      have hl0 := (cells_get hc0).1
      rw [Nat.zero_mul] at g0
      rw [show (a.add 0).add 0 = a by simp [Addr.add], List.getElem?_eq_getElem (by omega)] at g0
      obtain ⟨b, o, s⟩ := a
      unfold World.cell? at g0
      simp only at g0
      split at g0
      · rename_i c E fr hb
        split at g0
        · cases g0
        · rename_i hs
          have hs' : s = none := by cases s <;> simp_all
          subst hs'
          refine ⟨b, o, c.toList, E, fr, rfl, by simpa using hb, fun i hi => ?_⟩
          obtain ⟨cs', h1, h2⟩ := hel i (by omega)
          obtain ⟨g1, g2⟩ := cells_get h1
          refine ⟨cs', g1, hok _ _ _ h2, fun j hj => ?_⟩
          rw [← g2 j hj, add_lit, add_lit]
          simp [World.cell?, hb]
      · cases g0
/-- A slice as a list of what its elements are. -/
theorem op_list {α : Type} [Inhabited α] {t e : TypeId} {k : Nat} {en : α → List Value} {X : α → Prop} (ht : P.underlying t = some (.slice e)) (hc : P.cellsOf e = k) (hk : 0 < k) (hen : ∀ x, (en x).length = k) (hok : Opn enc P w base sp hd e fun cs => ∃ x, cs = en x ∧ X x) :
    Opn enc P w base sp hd t fun cs => ∃ p cap, ∃ xs : List α, cs = [.slice p xs.length cap] ∧ xs.length ≤ maxLen ∧ Lies (allH w) p (xs.flatMap en) ∧ ∀ x ∈ xs, X x := fun fuel cs x h => by
  obtain ⟨p, n, cap, rfl, hn, h1⟩ := op_slice ht hc hk hok fuel cs x h
  rcases h1 with rfl | ⟨b, o, cl, E, fr, rfl, hb, hel⟩
  · exact ⟨p, cap, [], rfl, Nat.zero_le _, .inl rfl, fun x hx => nomatch hx⟩
  · obtain ⟨f, hf⟩ := Go.Deep.choose_lt (p := fun i x => X x ∧ ∀ j, j < k → cl[o + i * k + j]? = (en x)[j]?) (fun i hi => by
      obtain ⟨cs', _, ⟨x, rfl, hx⟩, h3⟩ := hel i hi
      exact ⟨x, hx, h3⟩)
    refine ⟨_, cap, (List.range n).map f, by simp, by simpa using hn, .inr ⟨b, o, cl, E, fr, rfl, allH_mem hb, fun j hj => ?_⟩, fun x hx => ?_⟩
    · rw [flat_len hen, List.length_map, List.length_range] at hj
      have hi : j / k < n := Nat.div_lt_of_lt_mul (by rw [Nat.mul_comm]; exact hj)
      have hr : j % k < k := Nat.mod_lt _ hk
      have e1 : j = j / k * k + j % k := by rw [Nat.mul_comm]; exact (Nat.div_add_mod j k).symm
      have hx : ((List.range n).map f)[j / k]? = some (f (j / k)) := by simp [hi]
      have h5 := flat_get hen _ _ _ _ hx hr
      have h6 := (hf _ hi).2 _ hr
      rw [Nat.add_assoc, ← e1] at h6
      rw [← e1] at h5
      rw [h5, h6]
    · obtain ⟨i, hi, rfl⟩ := List.mem_map.1 hx
      exact (hf i (List.mem_range.1 hi)).1
end TB
namespace TB
open Go
theorem agg_of_okWide {P : Program} {w : World} {r : Reach} {base : Nat} {t : TypeId} {v : Value} {fs : Array Field} {l : List Value} (ht : P.underlying t = some (.struct fs)) (h : Value.okWide P w r base t v) (hc : v.cells.toList = l) : v = .agg l.toArray := by
  unfold Value.okWide at h
  rw [ht] at h
  obtain ⟨cs, rfl, _⟩ := h
  simp only [Value.cells] at hc
  subst hc; rfl
theorem int_of_okWide {P : Program} {w : World} {r : Reach} {base : Nat} {t : TypeId} {v : Value} {k : IntKind} {n : Int} (ht : P.underlying t = some (.int k)) (h : Value.okWide P w r base t v) (hc : v.cells.toList = [.int k n]) : v = .int k n := by
  unfold Value.okWide at h
  rw [ht] at h
  cases v <;> first | (simp [Value.cells] at hc; first | exact hc | (obtain ⟨h1, h2⟩ := hc; rw [h1, h2])) | (exfalso; simp [Cell.okWide, Cell.ok, ht] at h; done) | (exfalso; simp [Value.cells] at hc; done)
theorem bool_of_okWide {P : Program} {w : World} {r : Reach} {base : Nat} {t : TypeId} {v : Value} {b : Bool} (ht : P.underlying t = some .bool) (h : Value.okWide P w r base t v) (hc : v.cells.toList = [.bool b]) : v = .bool b := by
  unfold Value.okWide at h
  rw [ht] at h
  cases v <;> first | (simp [Value.cells] at hc; first | exact hc | (rw [hc])) | (exfalso; simp [Cell.okWide, Cell.ok, ht] at h; done) | (exfalso; simp [Value.cells] at hc; done)
theorem slice_of_okWide {P : Program} {w : World} {r : Reach} {base : Nat} {t e : TypeId} {v : Value} {p : Option Addr} {n c : Nat} (ht : P.underlying t = some (.slice e)) (h : Value.okWide P w r base t v) (hc : v.cells.toList = [.slice p n c]) : v = .slice p n c := by
  unfold Value.okWide at h
  rw [ht] at h
  cases v <;> first | (simp [Value.cells] at hc; first | exact hc | (obtain ⟨h1, h2, h3⟩ := hc; rw [h1, h2, h3])) | (exfalso; simp [Cell.okWide, Cell.ok, ht] at h; done) | (exfalso; simp [Value.cells] at hc; done)
theorem string_of_okWide {P : Program} {w : World} {r : Reach} {base : Nat} {t : TypeId} {v : Value} {s : ByteArray} (ht : P.underlying t = some .string) (h : Value.okWide P w r base t v) (hc : v.cells.toList = [.string s]) : v = .string s := by
  unfold Value.okWide at h
  rw [ht] at h
  cases v <;> first | (simp [Value.cells] at hc; first | exact hc | (rw [hc])) | (exfalso; simp [Cell.okWide, Cell.ok, ht] at h; done) | (exfalso; simp [Value.cells] at hc; done)
end TB
