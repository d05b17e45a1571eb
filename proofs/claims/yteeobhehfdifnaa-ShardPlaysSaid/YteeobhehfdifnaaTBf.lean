/- A part of the proof that shardPlays of chapter 10 returns true at every room and every list of deeds, and leaves its arguments as they read; no condition. -/
import Derived.Test.YteeobhehfdifnaaTBe
import Derived.Laws.OwnMore
set_option linter.unusedVariables false
set_option linter.unusedSimpArgs false
namespace TB
open Go
/- THE DOCUMENT'S OWN NUMBERS -/
def lessV (a b : Vec) : Bool := decide (lex4 a b < 0)
theorem sum_ref (v : Vec) : IntKind.u64.wrap (IntKind.u64.wrap (IntKind.u64.wrap (v.a + v.b) + v.c) + v.d) = v.sum := by
  unfold Vec.sum
  simp only [IntKind.wrap_u64]
  omega
theorem ord_ref {s t : Stamp} (h : s ≠ t) : s.ord t = if (decide (s.v.sum < t.v.sum) || (decide (s.v.sum = t.v.sum) && (decide (s.dc < t.dc) || (decide (s.dc = t.dc) && lessV s.v t.v)))) = true then -1 else 1 := by
  have hne : s.ord t ≠ 0 := fun e => h (ord_eq e)
  have c4 : lex4 s.v t.v = -1 ∨ lex4 s.v t.v = 0 ∨ lex4 s.v t.v = 1 := by
    unfold lex4 cmp3
    repeat' split
    all_goals omega
  unfold Stamp.ord or3 at *
  rw [if_neg h] at *
  unfold lessV
  generalize lex4 s.v t.v = x at *
  generalize s.v.sum = a at *
  generalize t.v.sum = b at *
  generalize s.dc = c at *
  generalize t.dc = d at *
  rcases Int.lt_trichotomy a b with h1 | h1 | h1
  · simp [cmp3, h1]
  · subst h1
    rcases Int.lt_trichotomy c d with h2 | h2 | h2
    · simp [cmp3, h2]
    · subst h2
      simp [cmp3] at hne ⊢
      rcases c4 with rfl | rfl | rfl <;> simp at hne ⊢
    · have e1 : ¬ c < d := by omega
      have e2 : ¬ c = d := by omega
      simp [cmp3, e1, e2, h2]
  · have e1 : ¬ a < b := by omega
    have e2 : ¬ a = b := by omega
    simp [cmp3, e1, e2, h1]
theorem ok_iff (v : Vec) : v.ok = true ↔ (v.a ≤ 1152921504606846976 ∧ v.b ≤ 1152921504606846976 ∧ v.c ≤ 1152921504606846976 ∧ v.d ≤ 1152921504606846976) := by
  have key : ∀ a b c d : Bool, ((a && b && c && d) = true) ↔ (a = true ∧ b = true ∧ c = true ∧ d = true) := by decide
  show (decide (v.a ≤ Vec.most) && decide (v.b ≤ Vec.most) && decide (v.c ≤ Vec.most) && decide (v.d ≤ Vec.most)) = true ↔ _
  rw [key, decide_eq_true_iff, decide_eq_true_iff, decide_eq_true_iff, decide_eq_true_iff]
  rfl
theorem ok_false {v : Vec} (h : ¬ (v.a ≤ 1152921504606846976 ∧ v.b ≤ 1152921504606846976 ∧ v.c ≤ 1152921504606846976 ∧ v.d ≤ 1152921504606846976)) : v.ok = false := by
  cases e : v.ok with
  | false => rfl
  | true => exact absurd ((ok_iff v).1 e) h
theorem nameOk_eq (s : ByteArray) : nameOk s = (decide ((s.size : Int) ≥ 1) && decide ((s.size : Int) ≤ 16)) := by
  have h : (s ≠ ⟨#[]⟩) ↔ (s.size : Int) ≥ 1 := by
    constructor
    · intro h
      have : s.size ≠ 0 := fun e => h (by
        obtain ⟨d⟩ := s
        have : d = #[] := Array.eq_empty_of_size_eq_zero e
        rw [this])
      omega
    · intro h e
      rw [e] at h
      exact absurd h (by decide)
  unfold nameOk
  congr 1
  exact decide_eq_decide.2 h
end TB
namespace TB
open Go
section
variable {P : Program} {w0 : World} {F : List Nat} {R : HL} {n : Cfg} {l : Env} {L Ls L1 L2 : HL} {N : Act → World → Prop} {ops : Array Oper} {i d : Nat} {ty : TypeId} {r : Wk} {v : Value}
/-- append(nil, nil...) -/
theorem pappN {t e size bytes : Nat} {s x : Operand} (hA : AP P t e size bytes)
    (hp : pre ops n l i = some (.call ⟨.builtin .append, #[s, x], #[t, t]⟩, ty, d)) (hs : evE l s = some (.slice none 0 0)) (hx : evE l x = some (.slice none 0 0))
    (h : GS w0 F R n Ls (SqN P ops Ls N r) ((d, .slice none 0 0) :: l) L) : GS w0 F R n Ls (SqN P ops Ls N (.one i .p r)) l L := fun a w st hLs => by
  obtain ⟨q, hq, hop, hty, hd, hbd, hg⟩ := pre_spec hp
  obtain ⟨ti, z, hu, hi, hz, hsz, hby, hzs, h0, h0b⟩ := hA
  have hr := run_append_owned_none (P := P) w 0 t q.type e ti size hu hi (.slice none 0 0) 0 [] ⟨by simp, .inl ⟨rfl, rfl⟩⟩
  refine ⟨q, hq, ?_⟩
  have hrun : (EX a.eval q.op q.type).run P w = .ok (.value (.slice none 0 0)) w := by
    rw [hop]
    simp only [EX, execOp, resolve, List.map_toArray, List.map_cons, List.map_nil, st.env.ev hs, st.env.ev hx]
    simp [invoke, builtin, hr]
  rw [if_pos (gd_wanted st.env hg), Oper.wp, EX_eq, hrun, Oper.upon_value, hd]
  exact ⟨.inr hLs, h _ _ (st.put hbd _) hLs⟩
/-- append(nil, xs...) -/
theorem pappS {t e size bytes m c : Nat} {s x : Operand} {p : Option Addr} {news : List Value} {A : HL} (hA : AP P t e size bytes)
    (hp : pre ops n l i = some (.call ⟨.builtin .append, #[s, x], #[t, t]⟩, ty, d)) (hs : evE l s = some (.slice none 0 0)) (hx : evE l x = some (.slice p m c))
    (hsrc : Src A p m news) (hA2 : ∀ x ∈ A, x ∈ L ++ R) (hc : p = none → c = 0) (hl : news.length = m * size) (ho : ∀ u ∈ news, u.oneCell' = true) (hb : m * bytes ≤ 140737488355328)
    [h3 : Among Ls (L ++ R)] (h : ∀ v' L', Row e size m news v' L' → GS w0 F R n Ls (SqN P ops Ls N r) ((d, v') :: l) (L' ++ L)) : GS w0 F R n Ls (SqN P ops Ls N (.one i .p r)) l L := by
  rcases hsrc with ⟨rfl, rfl⟩ | ⟨b, o, cl, E, fr, rfl, hm, hv⟩
  · obtain rfl := hc rfl
    have hn : news = [] := List.eq_nil_of_length_eq_zero (by rw [hl]; simp)
    subst hn
    exact pappN hA hp hs hx (h _ [] (Row.nil e size))
  · refine papp (L1 := []) (xs := []) (k := 0) hA hp hs (Row.nil e size) hx (hA2 _ hm) hl (fun j u hj => ?_) ho (by rw [Nat.zero_add]; exact hb) (fun v' L' hr => ?_)
    · rw [hv j (List.getElem?_eq_some_iff.1 hj).1]; exact hj
    · rw [Nat.zero_add, List.nil_append] at hr
      exact h v' L' hr
end
/- THE DOCUMENT'S SHARD -/
structure RefS where
  room : Nat
  q : List Tx
  l : List Ver
  ap : Vec
abbrev refC (room : Nat) (pW : Option Addr) (nW capW : Nat) (pL : Option Addr) (nL capL : Nat) (ap : Vec) : List Value :=
  [.int .i64 room, .slice pW nW capW, .slice pL nL capL, .int .u64 ap.a, .int .u64 ap.b, .int .u64 ap.c, .int .u64 ap.d]
def RefRep (x : Nat) (ρ : RefS) (H : HL) : Prop :=
  ∃ pW capW bs pL capL HW WH LH, H.Perm ((x, .cells (List.toArray (refC ρ.room pW bs.length capW pL ρ.l.length capL ρ.ap)) 78) :: (HW ++ (WH ++ LH))) ∧
    Src HW pW bs.length (batF bs) ∧ ((pW = none → capW = 0) ∧ bs.length ≤ capW) ∧ WtF 71 ρ.q bs WH ∧ Row 111 9 ρ.l.length (versL ρ.l) (.slice pL ρ.l.length capL) LH
theorem verL_get {y : Ver} {j : Nat} {v : Value} (h : (stampL y.s)[j]? = some v) : (verL y)[j]? = some v := by
  have : verL y = stampL y.s ++ writeL y.w := rfl
  rw [this, List.getElem?_append_left (List.getElem?_eq_some_iff.1 h).1]; exact h
theorem verL_get5 {y : Ver} {j : Nat} {v : Value} (h : (writeL y.w)[j]? = some v) : (verL y)[5 + j]? = some v := by
  have : verL y = stampL y.s ++ writeL y.w := rfl
  rw [this, List.getElem?_append_right (by show 5 ≤ 5 + j; omega)]
  show (writeL y.w)[5 + j - 5]? = some v
  rw [Nat.add_sub_cancel_left]; exact h
theorem vers_cell {l : List Ver} {T : List Value} {k : Nat} {y : Ver} (hy : l[k]? = some y) : ∀ (j : Nat) v, (verL y)[j]? = some v → (versL l ++ T)[0 + k * 9 + j]? = some v := fun j v hv => by
  have hj : j < 9 := (List.getElem?_eq_some_iff.1 hv).1
  have h1 := flat_get verL_len l k j y hy hj
  rw [hv] at h1
  have hlt : k * 9 + j < (versL l).length := (List.getElem?_eq_some_iff.1 h1).1
  rw [Nat.zero_add, List.getElem?_append_left hlt]; exact h1
/-- Is it of a key, and seen? -/
def refP (k : K2) (v : Vec) (all : Bool) (y : Ver) : Bool := decide (y.w.bucket = k.1) && decide (y.w.key = k.2) && (all || y.s.v.leq v)
def better (y : Ver) : Option (Nat × Ver) → Bool
  | none => true
  | some (_, z) => decide (y.s.ord z.s > 0)
def refBest (p : Ver → Bool) : List Ver → Nat → Option (Nat × Ver) → Option (Nat × Ver)
  | [], _, b => b
  | y :: ys, i, b => refBest p ys (i + 1) (if p y && better y b then some (i, y) else b)
def idxB : Option (Nat × Ver) → Int
  | none => -1
  | some (k, _) => k
theorem refBest_at {p : Ver → Bool} {l : List Ver} {i : Nat} {y : Ver} {b : Option (Nat × Ver)} (hx : l[i]? = some y) : refBest p (l.drop i) i b = refBest p (l.drop (i + 1)) (i + 1) (if p y && better y b then some (i, y) else b) := by
  rw [drop_step hx]; rfl
theorem idxB_neg {b : Option (Nat × Ver)} (h : idxB b < 0) : b = none := by
  cases b with
  | none => rfl
  | some x => obtain ⟨k, y⟩ := x; simp [idxB] at h; omega
theorem idxB_pos {b : Option (Nat × Ver)} (h : ¬ idxB b < 0) : ∃ k y, b = some (k, y) := by
  cases b with
  | none => exact absurd (by decide) h
  | some x => exact ⟨x.1, x.2, rfl⟩
def sameV (v y : Ver) : Bool := decide (y.s = v.s) && decide (y.w.bucket = v.w.bucket) && decide (y.w.key = v.w.key)
def refAdd (l : List Ver) (v : Ver) : List Ver := if l.any (sameV v) then l else l ++ [v]
def refAddAll (st : Stamp) (ws : List Write) (l : List Ver) : List Ver := ws.foldl (fun l w => refAdd l ⟨st, w⟩) l
theorem refAddAll_snoc {st : Stamp} {ws : List Write} {j : Nat} {w : Write} {l : List Ver} (h : ws[j]? = some w) : refAddAll st (ws.take (j + 1)) l = refAdd (refAddAll st (ws.take j) l) ⟨st, w⟩ := by
  rw [List.take_add_one, h]; simp [refAddAll]
def RefS.step (ρ : RefS) : RefS := match ρ.q with | [] => ρ | t :: q => ⟨ρ.room, q, refAddAll t.1 t.2 ρ.l, apS ρ.ap t.1⟩
def refOK (ρ : RefS) (st : Stamp) (ws : List Write) : Bool := st.ok && ws.all Write.ok && decide (ρ.q.length < ρ.room)
def RefS.push (ρ : RefS) (st : Stamp) (ws : List Write) : RefS := if refOK ρ st ws then { ρ with q := ρ.q ++ [(st, ws)] } else ρ
def refRd (b : Option (Nat × Ver)) : ByteArray × Stamp × Bool := match b with | none => (⟨#[]⟩, Stamp.zero, false) | some (_, y) => (y.w.value, y.s, !y.w.gone)
def refLt (b : Option (Nat × Ver)) : Write × Stamp × Bool := match b with | none => (Write.zero, Stamp.zero, false) | some (_, y) => (y.w, y.s, true)
def refKeep (l : List Ver) (h : Vec) (i : Nat) (y : Ver) : Bool := !(y.s.v.leq h) || decide (idxB (refBest (refP (y.w.bucket, y.w.key) h false) l 0 none) = (i : Int))
def refOut (l : List Ver) (h : Vec) : Nat → List Ver
  | 0 => []
  | i + 1 => match l[i]? with
    | some y => if refKeep l h i y then refOut l h i ++ [y] else refOut l h i
    | none => refOut l h i
def RefS.prune (ρ : RefS) (h : Vec) : RefS := { ρ with l := refOut ρ.l h ρ.l.length }
theorem refOut_snoc {l : List Ver} {h : Vec} {i : Nat} {y : Ver} (hx : l[i]? = some y) : refOut l h (i + 1) = if refKeep l h i y then refOut l h i ++ [y] else refOut l h i := by
  show (match l[i]? with | some y => if refKeep l h i y then refOut l h i ++ [y] else refOut l h i | none => refOut l h i) = _
  rw [hx]
theorem refOut_le (l : List Ver) (h : Vec) : ∀ i, (refOut l h i).length ≤ i
  | 0 => Nat.le_refl _
  | i + 1 => by
    have := refOut_le l h i
    show (match l[i]? with | some y => if refKeep l h i y then refOut l h i ++ [y] else refOut l h i | none => refOut l h i).length ≤ _
    split
    · split
      · simp; omega
      · omega
    · omega
theorem refBest_mem {p : Ver → Bool} : ∀ (l l0 : List Ver) (i : Nat) (b : Option (Nat × Ver)), (∀ j y, l[j]? = some y → l0[i + j]? = some y) → (∀ k y, b = some (k, y) → l0[k]? = some y ∧ p y = true) → ∀ k y, refBest p l i b = some (k, y) → l0[k]? = some y ∧ p y = true
  | [], _, _, b, _, hb, k, y, h => hb k y h
  | z :: l, l0, i, b, hl, hb, k, y, h => by
    refine refBest_mem l l0 (i + 1) _ (fun j y hj => ?_) (fun k y h2 => ?_) k y h
    · have := hl (j + 1) y (by simpa using hj)
      rwa [show i + 1 + j = i + (j + 1) by omega]
    · split at h2
      · rename_i hc
        simp only [Bool.and_eq_true] at hc
        cases h2
        exact ⟨by simpa using hl 0 z rfl, hc.1⟩
      · exact hb k y h2
theorem refBest_get {p : Ver → Bool} {l : List Ver} {k : Nat} {y : Ver} (h : refBest p l 0 none = some (k, y)) : l[k]? = some y ∧ p y = true :=
  refBest_mem l l 0 none (fun j y hj => by rw [Nat.zero_add]; exact hj) (fun _ _ h => nomatch h) k y h
theorem any_none {α : Type} {p : α → Bool} {xs : List α} (h : noneTo p xs xs.length) : xs.any p = false := by
  rw [List.any_eq_false]
  intro x hx
  obtain ⟨j, hj⟩ := List.getElem?_of_mem hx
  simp [h j x (List.getElem?_eq_some_iff.1 hj).1 hj]
theorem any_some {α : Type} {p : α → Bool} {xs : List α} {i : Nat} {x : α} (h : xs[i]? = some x) (hp : p x = true) : xs.any p = true := List.any_eq_true.2 ⟨x, List.mem_of_getElem? h, hp⟩
theorem Row.srcc {e size n : Nat} {xs : List Value} {v : Value} {L : HL} (h : Row e size n xs v L) : ∃ p cap, v = .slice p n cap ∧ Src L p n xs ∧ (p = none → cap = 0) ∧ n ≤ cap := by
  rcases h.2 with ⟨h1, h2, h3⟩ | ⟨g, cap, cur, h1, h2, h3, h4, h5, h6⟩
  · exact ⟨none, 0, by rw [h1, h2], .inl ⟨rfl, h2⟩, fun _ => rfl, by omega⟩
  · refine ⟨_, _, h1, .inr ⟨g, 0, cur.toList, e, (0, 0), rfl, by rw [h2]; simp, fun j hj => ?_⟩, (fun h => nomatch h), h3⟩
    rw [Nat.zero_add, ← h6, List.getElem?_take, if_pos (by rw [h.1] at hj; exact hj)]
theorem batF_len (bs : List Bat) : (batF bs).length = bs.length * 6 := flat_len batL_len bs
theorem batF_one (bs : List Bat) : oneL (batF bs) := fun u hu => by
  obtain ⟨x, _, h⟩ := List.mem_flatMap.1 hu; exact batL_one x u h
theorem bat_head {B : Bat} {bs : List Bat} {j : Nat} {v : Value} (h : (batL B)[j]? = some v) : (batF (B :: bs))[j]? = some v := by
  have : batF (B :: bs) = batL B ++ batF bs := rfl
  rw [this, List.getElem?_append_left (List.getElem?_eq_some_iff.1 h).1]; exact h
theorem src_tail {HW : HL} {b o capW : Nat} {cl : List Value} {E : TypeId} {fr : Nat × Nat} {B : Bat} {bs : List Bat} (hm : (b, Obj.cells (List.toArray cl) E fr) ∈ HW) (hv : ∀ j, j < (batF (B :: bs)).length → cl[o + j]? = (batF (B :: bs))[j]?) (hc : bs.length + 1 ≤ capW) :
    Src HW (some ⟨b, offc capW 1 o 6, none⟩) bs.length (batF bs) := by
  refine .inr ⟨b, _, cl, E, fr, rfl, hm, fun j hj => ?_⟩
  have hl := batF_len bs
  have h2 : offc capW 1 o 6 = o + 6 := by
    unfold offc
    rw [if_neg (by omega)]
  rw [h2, Nat.add_assoc, hv (6 + j) (by have := batF_len (B :: bs); simp only [List.length_cons] at this; omega)]
  have : batF (B :: bs) = batL B ++ batF bs := rfl
  rw [this, List.getElem?_append_right (by show 6 ≤ 6 + j; omega)]
  show (batF bs)[6 + j - 6]? = _
  rw [Nat.add_sub_cancel_left]
theorem refAdd_len (l : List Ver) (v : Ver) : (refAdd l v).length ≤ l.length + 1 := by
  unfold refAdd
  split <;> simp
structure OG where
  i : Nat
  q : Option Addr
  cap : Nat
  Lr : HL
end TB
namespace TB
open Go
/- THE SHARD AND THE DOCUMENT'S -/
structure Rel (σ : ShS) (ρ : RefS) : Prop where
  room : σ.room = ρ.room
  q : σ.q = ρ.q
  ap : σ.ap = ρ.ap
  sorted : ∀ k, Sorted (σ.g k)
  mem : ∀ k y, y ∈ σ.g k ↔ y ∈ ρ.l ∧ y.w.at = k
  uniq : ρ.l.Pairwise fun a b => ¬ (a.s = b.s ∧ a.w.at = b.w.at)
  ok : ∀ t ∈ σ.q, t.1.ok = true
theorem Rel.new (room : Nat) : Rel ⟨room, [], fun _ => [], Vec.zero⟩ ⟨room, [], [], Vec.zero⟩ :=
  ⟨rfl, rfl, rfl, fun _ => List.Pairwise.nil, (fun k y => by simp), List.Pairwise.nil, (fun _ h => nomatch h)⟩
theorem Rel.okEq {σ : ShS} {ρ : RefS} (h : Rel σ ρ) (st : Stamp) (ws : List Write) : pushOK σ st ws = refOK ρ st ws := by
  unfold pushOK refOK
  rw [h.q, h.room]
theorem Rel.push {σ : ShS} {ρ : RefS} (h : Rel σ ρ) (st : Stamp) (ws : List Write) : Rel (σ.push st ws) (ρ.push st ws) := by
  unfold ShS.push RefS.push
  rw [h.okEq]
  split
  · rename_i hp
    refine ⟨h.room, by show σ.q ++ _ = ρ.q ++ _; rw [h.q], h.ap, h.sorted, h.mem, h.uniq, fun t ht => ?_⟩
    rcases List.mem_append.1 ht with ht | ht
    · exact h.ok t ht
    · simp at ht
      subst ht
      simp only [refOK, Bool.and_eq_true] at hp
      exact hp.1.1
  · exact h
theorem Sorted.nodup {xs : List Ver} (h : Sorted xs) : xs.Nodup := List.Pairwise.imp (fun hab e => by rw [e] at hab; exact ord_irrefl hab) h
theorem addV_there {x : Ver} {xs : List Ver} (h : Sorted xs) {y : Ver} (hy : y ∈ xs) (e : y.s = x.s) : (addV x xs).2 = xs := by
  obtain ⟨j, hj⟩ := List.getElem?_of_mem hy
  have hjl := (List.getElem?_eq_some_iff.1 hj).1
  have h1 : slotV x.s xs ≤ j := by
    rcases Nat.lt_or_ge j (slotV x.s xs) with h2 | h2
    · have := slotV_lt h2 hj
      rw [e] at this
      exact absurd this ord_irrefl
    · exact h2
  have h2 : slotV x.s xs = j := by
    rcases Nat.lt_or_ge (slotV x.s xs) j with h3 | h3
    · have hs : slotV x.s xs < xs.length := by omega
      have h4 := slotV_at (List.getElem?_eq_getElem hs)
      have h5 := List.pairwise_iff_getElem.1 h _ _ hs hjl h3
      rw [(List.getElem?_eq_some_iff.1 hj).2, e] at h5
      exact absurd h5 h4
    · omega
  have h3 : thereV x.s xs = true := by
    unfold thereV
    rw [h2, hj]
    simp [e, ord_refl]
  unfold addV
  rw [h3]
  simp
theorem rel_add {g : K2 → List Ver} {l : List Ver} {x : Ver} (hs : ∀ k, Sorted (g k)) (hm : ∀ k y, y ∈ g k ↔ y ∈ l ∧ y.w.at = k) (hu : l.Pairwise fun a b => ¬ (a.s = b.s ∧ a.w.at = b.w.at)) (hok : x.s.ok = true) :
    (∀ k, Sorted (upd g x.w.at (addV x (g x.w.at)).2 k)) ∧ (∀ k y, y ∈ upd g x.w.at (addV x (g x.w.at)).2 k ↔ y ∈ refAdd l x ∧ y.w.at = k) ∧ (refAdd l x).Pairwise fun a b => ¬ (a.s = b.s ∧ a.w.at = b.w.at) := by
  refine ⟨fun k => ?_, ?_, ?_⟩
  · unfold upd
    split
    · exact addV_sorted (hs _)
    · exact hs k
  · intro k y
    by_cases ha : l.any (sameV x) = true
    · obtain ⟨z, hz, hzs⟩ := List.any_eq_true.1 ha
      simp only [sameV, Bool.and_eq_true, decide_eq_true_eq] at hzs
      have hzk : z.w.at = x.w.at := Prod.ext hzs.1.2 hzs.2
      have e : (addV x (g x.w.at)).2 = g x.w.at := addV_there (hs _) ((hm _ z).2 ⟨hz, hzk⟩) hzs.1.1
      rw [e]
      unfold refAdd
      rw [if_pos ha]
      have : upd g x.w.at (g x.w.at) k = g k := by
        unfold upd
        split
        · rename_i hk; rw [hk]
        · rfl
      rw [this]; exact hm k y
    · have hn : ∀ z ∈ g x.w.at, z.s ≠ x.s := fun z hz e => ha (by
        have := (hm _ z).1 hz
        refine List.any_eq_true.2 ⟨z, this.1, ?_⟩
        have h1 : z.w.bucket = x.w.bucket := congrArg Prod.fst this.2
        have h2 : z.w.key = x.w.key := congrArg Prod.snd this.2
        simp [sameV, e, h1, h2])
      unfold refAdd
      rw [if_neg ha]
      unfold upd
      split
      · rename_i hk
        subst hk
        rw [addV_mem hok hn, hm]
        simp only [List.mem_append, List.mem_singleton]
        constructor
        · rintro (h | h)
          · exact ⟨.inl h.1, h.2⟩
          · exact ⟨.inr h, by rw [h]⟩
        · rintro ⟨h | h, h2⟩
          · exact .inl ⟨h, h2⟩
          · exact .inr h
      · rename_i hk
        rw [hm]
        simp only [List.mem_append, List.mem_singleton]
        constructor
        · rintro ⟨h, h2⟩; exact ⟨.inl h, h2⟩
        · rintro ⟨h | h, h2⟩
          · exact ⟨h, h2⟩
          · rw [h] at h2; exact absurd h2.symm hk
  · unfold refAdd
    split
    · exact hu
    · rename_i ha
      refine List.pairwise_append.2 ⟨hu, List.pairwise_singleton _ _, fun a hal b hb he => ha ?_⟩
      simp at hb
      subst hb
      have h1 : a.w.bucket = b.w.bucket := congrArg Prod.fst he.2
      have h2 : a.w.key = b.w.key := congrArg Prod.snd he.2
      exact List.any_eq_true.2 ⟨a, hal, by simp [sameV, he.1, h1, h2]⟩
theorem rel_apply {st : Stamp} (hok : st.ok = true) : ∀ {ws : List Write} {g : K2 → List Ver} {l : List Ver}, (∀ k, Sorted (g k)) → (∀ k y, y ∈ g k ↔ y ∈ l ∧ y.w.at = k) → (l.Pairwise fun a b => ¬ (a.s = b.s ∧ a.w.at = b.w.at)) →
    (∀ k, Sorted (applyW st ws g k)) ∧ (∀ k y, y ∈ applyW st ws g k ↔ y ∈ refAddAll st ws l ∧ y.w.at = k) ∧ (refAddAll st ws l).Pairwise fun a b => ¬ (a.s = b.s ∧ a.w.at = b.w.at)
  | [], _, _, h1, h2, h3 => ⟨h1, h2, h3⟩
  | w :: ws, g, l, h1, h2, h3 => by
    obtain ⟨k1, k2, k3⟩ := rel_add (x := ⟨st, w⟩) h1 h2 h3 hok
    exact rel_apply hok (ws := ws) k1 k2 k3
theorem Rel.step {σ : ShS} {ρ : RefS} (h : Rel σ ρ) : Rel σ.step ρ.step := by
  obtain ⟨room, q, g, ap⟩ := σ
  obtain ⟨room', q', l, ap'⟩ := ρ
  obtain ⟨h1, h2, h3, h4, h5, h6, h7⟩ := h
  simp only at h1 h2 h3 h4 h5 h6 h7
  subst h1 h2 h3
  cases q with
  | nil => exact ⟨rfl, rfl, rfl, h4, h5, h6, h7⟩
  | cons t q =>
    obtain ⟨k1, k2, k3⟩ := rel_apply (st := t.1) (h7 t (by simp)) (ws := t.2) h4 h5 h6
    exact ⟨rfl, rfl, rfl, k1, k2, k3, fun u hu => h7 u (List.mem_cons_of_mem _ hu)⟩
/- WHAT IS READ -/
theorem refBest_spec {p : Ver → Bool} : ∀ (l : List Ver) (i : Nat) (b : Option (Nat × Ver)), match refBest p l i b with
    | none => b = none ∧ ∀ y ∈ l, p y = false
    | some (_, z) => (∀ y ∈ l, p y = true → ¬ y.s.ord z.s > 0) ∧ ∀ k u, b = some (k, u) → ¬ u.s.ord z.s > 0
  | [], i, b => by
    show match b with | none => _ | some (_, z) => _
    cases b with
    | none => exact ⟨rfl, fun _ h => nomatch h⟩
    | some x => exact ⟨(fun _ h => nomatch h), fun k u hu => by cases hu; rw [ord_refl]; omega⟩
  | y :: l, i, b => by
    show match refBest p l (i + 1) (if p y && better y b then some (i, y) else b) with | none => _ | some (_, z) => _
    have ih := refBest_spec (p := p) l (i + 1) (if p y && better y b then some (i, y) else b)
    cases hr : refBest p l (i + 1) (if p y && better y b then some (i, y) else b) with
    | none =>
      rw [hr] at ih
      simp only at ih ⊢
      by_cases hc : (p y && better y b) = true
      · rw [if_pos hc] at ih; cases ih.1
      · rw [if_neg hc] at ih
        refine ⟨ih.1, fun u hu => ?_⟩
        rcases List.mem_cons.1 hu with rfl | hu
        · rw [ih.1] at hc
          simpa [better] using hc
        · exact ih.2 u hu
    | some x =>
      obtain ⟨k, z⟩ := x
      rw [hr] at ih
      simp only at ih ⊢
      have tr : ∀ a b c : Stamp, ¬ a.ord b > 0 → ¬ b.ord c > 0 → ¬ a.ord c > 0 := fun a b c h1 h2 h3 => by
        have h3' := ord_flip.1 h3
        rcases ord_tri a b with q | q | q
        · exact h2 (ord_flip.2 (ord_trans h3' q))
        · rw [q] at h3; exact h2 h3
        · exact h1 (ord_flip.2 q)
      by_cases hc : (p y && better y b) = true
      · rw [if_pos hc] at ih
        have hyz := ih.2 i y rfl
        refine ⟨fun u hu hp => ?_, fun k u hu => ?_⟩
        · rcases List.mem_cons.1 hu with rfl | hu
          · exact hyz
          · exact ih.1 u hu hp
        · simp only [Bool.and_eq_true] at hc
          rw [hu] at hc
          have h3 : y.s.ord u.s > 0 := of_decide_eq_true hc.2
          exact tr _ _ _ (fun h => ord_irrefl (ord_trans (ord_flip.1 h3) (ord_flip.1 h))) hyz
      · rw [if_neg hc] at ih
        refine ⟨fun u hu hp => ?_, ih.2⟩
        rcases List.mem_cons.1 hu with rfl | hu
        · rw [hp, Bool.true_and] at hc
          cases b with
          | none => exact absurd rfl hc
          | some v =>
            obtain ⟨kk, v⟩ := v
            have hv := ih.2 kk v rfl
            have h3 : ¬ u.s.ord v.s > 0 := fun h => hc (decide_eq_true h)
            exact tr _ _ _ h3 hv
        · exact ih.1 u hu hp
theorem lastOf_spec {p : Ver → Bool} {xs : List Ver} {z : Ver} (hs : Sorted xs) (h : lastOf p xs = some z) : ∀ y ∈ xs, p y = true → y = z ∨ y.s.ord z.s < 0 := by
  induction xs with
  | nil => exact fun y hy => nomatch hy
  | cons x xs ih =>
    have hs' := List.pairwise_cons.1 hs
    intro y hy hp
    have e : lastOf p (x :: xs) = (lastOf p xs).or (if p x then some x else none) := by
      unfold lastOf
      rw [List.reverse_cons, List.find?_append]
      congr 1
      rw [List.find?_cons, List.find?_nil]
      cases p x <;> rfl
    rw [e] at h
    cases hl : lastOf p xs with
    | none =>
      rw [hl] at h
      have hn := lastOf_eq_none.1 hl
      rcases List.mem_cons.1 hy with rfl | hy
      · rw [hp] at h; simp at h; exact .inl h
      · rw [hn y hy] at hp; cases hp
    | some u =>
      rw [hl] at h
      simp at h
      subst h
      rcases List.mem_cons.1 hy with rfl | hy
      · exact .inr (hs'.1 u (lastOf_mem hl).1)
      · exact ih hs'.2 hl y hy hp
theorem Rel.best {σ : ShS} {ρ : RefS} (h : Rel σ ρ) (k : K2) (v : Vec) (all : Bool) : lastOf (fun x => all || x.s.v.leq v) (σ.g k) = (refBest (refP k v all) ρ.l 0 none).map (·.2) := by
  have sp := refBest_spec (p := refP k v all) ρ.l 0 none
  have hp : ∀ y, y.w.at = k → refP k v all y = (all || y.s.v.leq v) := fun y hy => by
    have h1 : y.w.bucket = k.1 := congrArg Prod.fst hy
    have h2 : y.w.key = k.2 := congrArg Prod.snd hy
    simp [refP, h1, h2]
  cases hr : refBest (refP k v all) ρ.l 0 none with
  | none =>
    rw [hr] at sp
    simp only at sp
    rw [Option.map_none, lastOf_eq_none]
    intro x hx
    have hx' := (h.mem k x).1 hx
    rw [← hp x hx'.2]
    exact sp.2 x hx'.1
  | some b =>
    obtain ⟨j, z⟩ := b
    rw [hr] at sp
    simp only at sp
    obtain ⟨hz1, hz2⟩ := refBest_get hr
    have hzk : z.w.at = k := by
      simp only [refP, Bool.and_eq_true, decide_eq_true_eq] at hz2
      exact Prod.ext hz2.1.1 hz2.1.2
    have hzp : (all || z.s.v.leq v) = true := by rw [← hp z hzk]; exact hz2
    have hzm : z ∈ σ.g k := (h.mem k z).2 ⟨List.mem_of_getElem? hz1, hzk⟩
    cases hl : lastOf (fun x => all || x.s.v.leq v) (σ.g k) with
    | none => have := lastOf_eq_none.1 hl z hzm; rw [hzp] at this; cases this
    | some z' =>
      obtain ⟨m1, m2⟩ := lastOf_mem hl
      have m3 := (h.mem k z').1 m1
      have h1 := sp.1 z' m3.1 (by rw [hp z' m3.2]; exact m2)
      rcases lastOf_spec (h.sorted k) hl z hzm hzp with h2 | h2
      · rw [h2]; rfl
      · exact absurd (ord_flip.2 h2) h1
theorem Rel.read {σ : ShS} {ρ : RefS} (h : Rel σ ρ) (k : K2) (v : Vec) : readR σ k v = refRd (refBest (refP k v false) ρ.l 0 none) := by
  have := h.best k v false
  simp only [Bool.false_or] at this
  unfold readR readV
  rw [this]
  cases refBest (refP k v false) ρ.l 0 none with
  | none => rfl
  | some b => obtain ⟨j, z⟩ := b; rfl
theorem Rel.last {σ : ShS} {ρ : RefS} (h : Rel σ ρ) (k : K2) : (((lastR σ k).getD Ver.zero).w, ((lastR σ k).getD Ver.zero).s, (lastR σ k).isSome) = refLt (refBest (refP k Vec.zero true) ρ.l 0 none) := by
  have := h.best k Vec.zero true
  simp only [Bool.true_or] at this
  unfold lastR
  rw [this]
  cases refBest (refP k Vec.zero true) ρ.l 0 none with
  | none => rfl
  | some b => obtain ⟨j, z⟩ := b; rfl
/- PRUNED -/
theorem refOut_mem {l : List Ver} {h : Vec} {y : Ver} : ∀ {i : Nat}, y ∈ refOut l h i ↔ ∃ j, j < i ∧ l[j]? = some y ∧ refKeep l h j y = true
  | 0 => by simp [refOut]
  | i + 1 => by
    have ih := refOut_mem (l := l) (h := h) (y := y) (i := i)
    cases hx : l[i]? with
    | none =>
      have e : refOut l h (i + 1) = refOut l h i := by
        show (match l[i]? with | some y => if refKeep l h i y then refOut l h i ++ [y] else refOut l h i | none => refOut l h i) = _
        rw [hx]
      rw [e, ih]
      constructor
      · rintro ⟨j, h1, h2⟩; exact ⟨j, by omega, h2⟩
      · rintro ⟨j, h1, h2⟩
        refine ⟨j, ?_, h2⟩
        rcases Nat.lt_or_ge j i with h3 | h3
        · exact h3
        · have : j = i := by omega
          subst this; rw [hx] at h2; cases h2.1
    | some z =>
      rw [refOut_snoc hx]
      have key : (∃ j, j < i + 1 ∧ l[j]? = some y ∧ refKeep l h j y = true) ↔ ((∃ j, j < i ∧ l[j]? = some y ∧ refKeep l h j y = true) ∨ (z = y ∧ refKeep l h i z = true)) := by
        constructor
        · rintro ⟨j, h1, h2, h3⟩
          rcases Nat.lt_or_ge j i with h4 | h4
          · exact .inl ⟨j, h4, h2, h3⟩
          · have : j = i := by omega
            subst this
            rw [hx] at h2; cases h2
            exact .inr ⟨rfl, h3⟩
        · rintro (⟨j, h1, h2⟩ | ⟨rfl, h3⟩)
          · exact ⟨j, by omega, h2⟩
          · exact ⟨i, by omega, hx, h3⟩
      rw [key]
      split
      · rename_i hk
        simp only [List.mem_append, List.mem_singleton, ih]
        constructor
        · rintro (h1 | h1)
          · exact .inl h1
          · exact .inr ⟨h1.symm, hk⟩
        · rintro (h1 | h1)
          · exact .inl h1
          · exact .inr h1.1.symm
      · rename_i hk
        rw [ih]
        constructor
        · exact .inl
        · rintro (h1 | h1)
          · exact h1
          · exact absurd h1.2 hk
theorem refOut_sub (l : List Ver) (h : Vec) : ∀ i, (refOut l h i).Sublist (l.take i)
  | 0 => by simp [refOut]
  | i + 1 => by
    have ih := refOut_sub l h i
    cases hx : l[i]? with
    | none =>
      have e : refOut l h (i + 1) = refOut l h i := by
        show (match l[i]? with | some y => if refKeep l h i y then refOut l h i ++ [y] else refOut l h i | none => refOut l h i) = _
        rw [hx]
      rw [e, List.take_add_one, hx]
      simpa using ih
    | some z =>
      rw [refOut_snoc hx, List.take_add_one, hx]
      split
      · exact ih.append (List.Sublist.refl _)
      · exact ih.trans (List.sublist_append_left _ _)
theorem uniq_idx {l : List Ver} (hu : l.Pairwise fun a b => ¬ (a.s = b.s ∧ a.w.at = b.w.at)) {i j : Nat} {y z : Ver} (hi : l[i]? = some y) (hj : l[j]? = some z) (hs : y.s = z.s) (hk : y.w.at = z.w.at) : i = j := by
  obtain ⟨hil, rfl⟩ := List.getElem?_eq_some_iff.1 hi
  obtain ⟨hjl, rfl⟩ := List.getElem?_eq_some_iff.1 hj
  rcases Nat.lt_trichotomy i j with h | h | h
  · exact absurd ⟨hs, hk⟩ (List.pairwise_iff_getElem.1 hu i j hil hjl h)
  · exact h
  · exact absurd ⟨hs.symm, hk.symm⟩ (List.pairwise_iff_getElem.1 hu j i hjl hil h)
theorem Rel.prune {σ : ShS} {ρ : RefS} (h : Rel σ ρ) (v : Vec) : Rel { σ with g := pruneG v σ.g } (ρ.prune v) := by
  refine ⟨h.room, h.q, h.ap, fun k => pruneV_sorted (h.sorted k), fun k y => ?_, h.uniq.sublist ((refOut_sub ρ.l v ρ.l.length).trans (List.take_sublist _ _)), h.ok⟩
  show y ∈ pruneV v (σ.g k) ↔ y ∈ refOut ρ.l v ρ.l.length ∧ y.w.at = k
  have hb := h.best k v false
  simp only [Bool.false_or] at hb
  have key : ∀ j, ρ.l[j]? = some y → y.w.at = k → ((!(y.s.v.leq v && decide (y.s ≠ ((lastOf (fun x => x.s.v.leq v) (σ.g k)).getD Ver.zero).s))) = true ↔ refKeep ρ.l v j y = true) := fun j hj hk => by
    unfold refKeep
    rw [show (y.w.bucket, y.w.key) = k from hk]
    cases hs : y.s.v.leq v with
    | false => simp
    | true =>
      rw [hb]
      cases hr : refBest (refP k v false) ρ.l 0 none with
      | none =>
        have sp := refBest_spec (p := refP k v false) ρ.l 0 none
        rw [hr] at sp
        have h1 : y.w.bucket = k.1 := congrArg Prod.fst hk
        have h2 : y.w.key = k.2 := congrArg Prod.snd hk
        have := sp.2 y (List.mem_of_getElem? hj)
        simp [refP, h1, h2, hs] at this
      | some b =>
        obtain ⟨i, z⟩ := b
        obtain ⟨hz1, hz2⟩ := refBest_get hr
        have hzk : z.w.at = k := by
          simp only [refP, Bool.and_eq_true, decide_eq_true_eq] at hz2
          exact Prod.ext hz2.1.1 hz2.1.2
        have hiff : y.s = z.s ↔ (i : Int) = (j : Int) := by
          constructor
          · intro e
            rw [uniq_idx h.uniq hj hz1 e (hk.trans hzk.symm)]
          · intro e
            have : i = j := by omega
            subst this
            rw [hz1] at hj; cases hj; rfl
        by_cases e : y.s = z.s
        · simp [idxB, hiff.1 e, e]
        · have : ¬ (i : Int) = (j : Int) := fun h => e (hiff.2 h)
          simp [idxB, this, e]
  unfold pruneV
  rw [List.mem_filter, h.mem k y, refOut_mem]
  constructor
  · rintro ⟨⟨h1, h2⟩, h3⟩
    obtain ⟨j, hj⟩ := List.getElem?_of_mem h1
    exact ⟨⟨j, (List.getElem?_eq_some_iff.1 hj).1, hj, (key j hj h2).1 h3⟩, h2⟩
  · rintro ⟨⟨j, _, hj, h3⟩, h2⟩
    exact ⟨⟨List.mem_of_getElem? hj, h2⟩, (key j hj h2).2 h3⟩
/- HOW MANY -/
theorem Total.lens {g g' : K2 → List Ver} {n : Nat} (hl : ∀ k, (g k).length = (g' k).length) (h : Total g n) : Total g' n := by
  obtain ⟨ks, nd, out, rfl⟩ := h
  refine ⟨ks, nd, fun k hk => List.eq_nil_of_length_eq_zero (by rw [← hl, out k hk]; rfl), ?_⟩
  congr 1
  exact List.map_congr_left fun k _ => hl k
theorem total_list : ∀ l : List Ver, Total (fun k => l.filter fun y => decide (y.w.at = k)) l.length
  | [] => Total.nil
  | y :: l => by
    obtain ⟨m, hm, he⟩ := (total_list l).upd y.w.at (y :: l.filter fun x => decide (x.w.at = y.w.at))
    have e : m = l.length + 1 := by simp only [List.length_cons] at he; omega
    subst e
    refine hm.lens fun k => ?_
    unfold upd
    by_cases hk : k = y.w.at
    · subst hk; simp
    · rw [if_neg hk, List.filter_cons, if_neg (by simp; exact fun h => hk h.symm)]
theorem Rel.total {σ : ShS} {ρ : RefS} (h : Rel σ ρ) : Total σ.g ρ.l.length := by
  refine (total_list ρ.l).lens fun k => ?_
  have nd1 : (σ.g k).Nodup := (h.sorted k).nodup
  have nd2 : (ρ.l.filter fun y => decide (y.w.at = k)).Nodup := List.Pairwise.filter _ (h.uniq.imp fun hn e => hn ⟨by rw [e], by rw [e]⟩)
  have hm : ∀ y, y ∈ (ρ.l.filter fun y => decide (y.w.at = k)) ↔ y ∈ σ.g k := fun y => by
    rw [h.mem, List.mem_filter]; simp
  obtain ⟨r1, p1⟩ := split_perm nd1 (fun y hy => (hm y).2 hy)
  obtain ⟨r2, p2⟩ := split_perm nd2 (fun y hy => (hm y).1 hy)
  have l1 := p1.length_eq
  have l2 := p2.length_eq
  simp only [List.length_append] at l1 l2
  omega
end TB
namespace TB
open Go
theorem Tr.monoR {P : Program} {f : Nat} {args : List Value} {R R0 L : HL} {Φ : Value → HL → Prop} (hs : ∀ x ∈ R0, x ∈ R) (h : Tr P f args R0 L Φ) : Tr P f args R L Φ := fun w hR hL nd hd =>
  h w (hR.sub hs) hL nd (fun k hk => by
    obtain ⟨x, hx, rfl⟩ := List.mem_map.1 hk
    exact hd _ (List.mem_map_of_mem (hs x hx)))
/- DEEDS -/
structure DeedA where
  kind : Int
  x : DealA
  pd : PutD
  va : VecD
abbrev deedL (u : DeedA) : List Value := [.int .u8 u.kind,
  .int .u64 u.x.d.m.s.v.a, .int .u64 u.x.d.m.s.v.b, .int .u64 u.x.d.m.s.v.c, .int .u64 u.x.d.m.s.v.d, .int .i64 u.x.d.m.s.dc, .bool u.x.d.m.own, .slice u.x.p u.x.d.ps.length u.x.cap, .bool u.x.d.own,
  .string u.pd.w.bucket, .string u.pd.w.key, .string u.pd.w.value, .bool u.pd.w.gone, .bool u.pd.own, .int .u8 u.pd.k,
  .int .u64 u.va.v.a, .int .u64 u.va.v.b, .int .u64 u.va.v.c, .int .u64 u.va.v.d, .bool u.va.own]
theorem deedL_len (u : DeedA) : (deedL u).length = 20 := rfl
def deedsL (us : List DeedA) : List Value := us.flatMap deedL
structure DeedR (R : HL) (u : DeedA) : Prop where
  x : DealR R u.x
  put : PutOK u.pd
  vec : VecR u.va.v
structure PlG where
  i : Nat
  σ : ShS
  ρ : RefS
  H1 : HL
  H2 : HL
def playRoom (room : Int) : Int := IntKind.i64.wrap (1 + IntKind.i64.wrap ((IntKind.u64.wrap room).tmod 6))
theorem Rel.len {σ : ShS} {ρ : RefS} {n m : Nat} (h : Rel σ ρ) (k : SOK σ n m) (hn : n ≤ 50000) : ρ.l.length ≤ 10 * n := k.tot.le _ h.total
theorem ShS.push_room (σ : ShS) (st : Stamp) (ws : List Write) : (σ.push st ws).room = σ.room := by
  unfold ShS.push
  split <;> rfl
theorem ShS.step_room (σ : ShS) : σ.step.room = σ.room := by
  obtain ⟨room, q, g, ap⟩ := σ
  cases q <;> rfl
end TB
