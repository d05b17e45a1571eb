/- A part of the proof that shardPlays of chapter 10 returns true at every room and every list of deeds, and leaves its arguments as they read; no condition. -/
import Derived.Test.YteeobhehfdifnaaTBc
set_option linter.unusedVariables false
set_option linter.unusedSimpArgs false
namespace TB
open Go
/- WHAT IS READ BEHIND A PRUNING -/
theorem leq_refl (v : Vec) : v.leq v = true := by simp [Vec.leq]
theorem leq_join {v h m : Vec} (hl : v.leq h = true) : v.leq (h.join m) = true := by
  unfold Vec.leq Vec.join at *
  simp only [Bool.and_eq_true] at hl ⊢
  obtain ⟨⟨⟨h1, h2⟩, h3⟩, h4⟩ := hl
  have key : ∀ a b c : Int, decide (a ≤ b) = true → decide (a ≤ max b c) = true := fun a b c h => decide_eq_true (Int.le_trans (of_decide_eq_true h) (Int.le_max_left _ _))
  exact ⟨⟨⟨key _ _ _ h1, key _ _ _ h2⟩, key _ _ _ h3⟩, key _ _ _ h4⟩
theorem lastOf_filter {p q : Ver → Bool} {xs : List Ver} {b : Ver} (h : lastOf p xs = some b) (hq : q b = true) : lastOf p (xs.filter q) = some b := by
  unfold lastOf at *
  rw [← List.filter_reverse]
  generalize xs.reverse = ys at *
  induction ys with
  | nil => simp at h
  | cons y ys ih =>
    rw [List.find?_cons] at h
    cases hp : p y with
    | true => rw [hp] at h; simp at h; subst h; simp [hq, hp]
    | false =>
      rw [hp] at h
      simp only at h
      rw [List.filter_cons]
      split
      · rw [List.find?_cons, hp]; exact ih h
      · exact ih h
theorem lastOf_eq_none {p : Ver → Bool} {xs : List Ver} : lastOf p xs = none ↔ ∀ x ∈ xs, p x = false := by
  unfold lastOf
  rw [List.find?_eq_none]
  simp
theorem lastOf_mem {p : Ver → Bool} {xs : List Ver} {b : Ver} (h : lastOf p xs = some b) : b ∈ xs ∧ p b = true := by
  unfold lastOf at h
  exact ⟨List.mem_reverse.1 (List.mem_of_find?_eq_some h), List.find?_some h⟩
theorem lastOf_sub {p p' : Ver → Bool} {xs : List Ver} {b : Ver} (hs : ∀ x, p x = true → p' x = true) (h : lastOf p' xs = some b) (hb : p b = true) : lastOf p xs = some b := by
  unfold lastOf at *
  generalize xs.reverse = ys at *
  induction ys with
  | nil => simp at h
  | cons y ys ih =>
    rw [List.find?_cons] at h ⊢
    cases hp : p' y with
    | true => rw [hp] at h; simp at h; subst h; rw [hb]
    | false =>
      rw [hp] at h
      have : p y = false := by
        cases hy : p y with
        | false => rfl
        | true => rw [hs y hy] at hp; cases hp
      rw [this]; exact ih h
theorem prune_none {h : Vec} {xs : List Ver} {p : Ver → Bool} (e : lastOf p xs = none) : lastOf p (pruneV h xs) = none := by
  rw [lastOf_eq_none] at e ⊢
  exact fun x hx => e x (List.mem_filter.1 hx).1
theorem prune_far {h far : Vec} {xs : List Ver} (hs : ∀ v : Vec, v.leq h = true → v.leq far = true) : lastOf (fun x => x.s.v.leq far) (pruneV h xs) = lastOf (fun x => x.s.v.leq far) xs := by
  cases e : lastOf (fun x => x.s.v.leq far) xs with
  | none => exact prune_none e
  | some b =>
    refine lastOf_filter e ?_
    cases hb : b.s.v.leq h with
    | false => simp
    | true =>
      have := lastOf_sub (p := fun x => x.s.v.leq h) (fun x hx => hs _ hx) e hb
      simp [this]
theorem prune_read {h : Vec} {xs : List Ver} : lastOf (fun x => x.s.v.leq h) (pruneV h xs) = lastOf (fun x => x.s.v.leq h) xs := prune_far (fun _ h => h)
theorem prune_idem (h : Vec) (xs : List Ver) : pruneV h (pruneV h xs) = pruneV h xs := by
  have e := prune_read (h := h) (xs := xs)
  show (pruneV h xs).filter (fun x => !(x.s.v.leq h && decide (x.s ≠ ((lastOf (fun x => x.s.v.leq h) (pruneV h xs)).getD Ver.zero).s))) = _
  rw [e]
  unfold pruneV
  rw [List.filter_filter]
  congr 1
  funext x
  exact Bool.and_self _
theorem pruneG_idem (h : Vec) (g : K2 → List Ver) : pruneG h (pruneG h g) = pruneG h g := funext fun k => prune_idem h (g k)
/- HOW MANY THERE ARE -/
theorem Total.with {g : K2 → List Ver} {n : Nat} (h : Total g n) (k : K2) : ∃ ks : List K2, (k :: ks).Nodup ∧ (∀ k', k' ∉ k :: ks → g k' = []) ∧ n = (g k).length + (ks.map fun k => (g k).length).sum := by
  obtain ⟨ks, nd, out, rfl⟩ := h
  by_cases hk : k ∈ ks
  · obtain ⟨A, B, rfl⟩ := List.append_of_mem hk
    have p : (A ++ k :: B).Perm (k :: (A ++ B)) := List.perm_middle
    exact ⟨A ++ B, p.nodup_iff.1 nd, fun k' hk' => out k' (fun hh => hk' (p.mem_iff.1 hh)), by rw [(p.map fun k => (g k).length).sum_nat]; simp⟩
  · exact ⟨ks, List.nodup_cons.2 ⟨hk, nd⟩, fun k' hk' => out k' (fun hh => hk' (List.mem_cons_of_mem _ hh)), by rw [out k hk]; simp⟩
theorem Total.upd {g : K2 → List Ver} {n : Nat} (h : Total g n) (k : K2) (xs : List Ver) : ∃ m, Total (upd g k xs) m ∧ m + (g k).length = n + xs.length := by
  obtain ⟨ks, nd, out, rfl⟩ := h.with k
  have hk := (List.nodup_cons.1 nd).1
  have e : (ks.map fun k' => (TB.upd g k xs k').length) = ks.map fun k' => (g k').length := List.map_congr_left fun k' hk' => by
    have hne : k' ≠ k := fun hh => hk (by rw [← hh]; exact hk')
    unfold TB.upd; rw [if_neg hne]
  refine ⟨xs.length + (ks.map fun k => (g k).length).sum, ⟨k :: ks, nd, fun k' hk' => ?_, ?_⟩, by omega⟩
  · unfold TB.upd
    rw [if_neg (fun hh => hk' (by rw [hh]; simp))]; exact out k' hk'
  · rw [List.map_cons, List.sum_cons, e]
    unfold TB.upd; rw [if_pos rfl]
theorem Total.apply {st : Stamp} : ∀ {ws : List Write} {g : K2 → List Ver} {n : Nat}, Total g n → ∃ m, Total (applyW st ws g) m ∧ m ≤ n + ws.length
  | [], g, n, h => ⟨n, h, by simp⟩
  | w :: ws, g, n, h => by
    obtain ⟨m, hm, he⟩ := h.upd (w.bucket, w.key) (addV ⟨st, w⟩ (g (w.bucket, w.key))).2
    have hl := addV_len ⟨st, w⟩ (g (w.bucket, w.key))
    obtain ⟨m2, hm2, he2⟩ := Total.apply (st := st) (ws := ws) hm
    exact ⟨m2, hm2, by simp only [List.length_cons]; omega⟩
theorem Total.nil : Total (fun _ => []) 0 := ⟨[], List.nodup_nil, fun _ _ => rfl, rfl⟩
/-- At most so many. -/
def TotLe (g : K2 → List Ver) (n : Nat) : Prop := ∃ m, Total g m ∧ m ≤ n
theorem TotLe.le {g : K2 → List Ver} {n : Nat} (h : TotLe g n) : ∀ m, Total g m → m ≤ n := fun m hm => by
  obtain ⟨k, hk, hl⟩ := h
  rw [hm.uniq hk]; exact hl
theorem TotLe.apply {g : K2 → List Ver} {n : Nat} {st : Stamp} {ws : List Write} (h : TotLe g n) : TotLe (applyW st ws g) (n + ws.length) := by
  obtain ⟨k, hk, hl⟩ := h
  obtain ⟨m, hm, he⟩ := hk.apply (st := st) (ws := ws)
  exact ⟨m, hm, by omega⟩
theorem TotLe.mono {g : K2 → List Ver} {n m : Nat} (h : TotLe g n) (hn : n ≤ m) : TotLe g m := by
  obtain ⟨k, hk, hl⟩ := h
  exact ⟨k, hk, by omega⟩
theorem TotLe.prune {g : K2 → List Ver} {n : Nat} (h : TotLe g n) (v : Vec) : TotLe (pruneG v g) n := by
  obtain ⟨k, ⟨ks, nd, out, rfl⟩, hl⟩ := h
  refine ⟨_, ⟨ks, nd, fun k hk => by rw [pruneG, out k hk, pruneV_nil], rfl⟩, Nat.le_trans ?_ hl⟩
  clear nd out hl
  induction ks with
  | nil => simp
  | cons a as ih =>
    have : (pruneG v g a).length ≤ (g a).length := List.length_filter_le _ _
    simp only [List.map_cons, List.sum_cons]; omega
theorem pruneV_sorted {v : Vec} {xs : List Ver} (h : Sorted xs) : Sorted (pruneV v xs) := List.Pairwise.filter _ h
theorem GOK.prune {g : K2 → List Ver} {n : Nat} (h : GOK g n) (v : Vec) : GOK (pruneG v g) n := ⟨fun k => pruneV_sorted (h.sorted k), fun k => Nat.le_trans (List.length_filter_le _ _) (h.len k)⟩
theorem GOK.mono {g : K2 → List Ver} {n m : Nat} (h : GOK g n) (hn : n ≤ m) : GOK g m := ⟨h.sorted, fun k => Nat.le_trans (h.len k) hn⟩
theorem GOK.apply {g : K2 → List Ver} {n : Nat} {st : Stamp} {ws : List Write} (h : GOK g n) : GOK (applyW st ws g) (n + ws.length) := ⟨applyW_sorted h.sorted, applyW_len h.len⟩
/- EACH KEY ONCE -/
abbrev Write.at (w : Write) : K2 := (w.bucket, w.key)
theorem applyW_out {st : Stamp} : ∀ {ws : List Write} {g : K2 → List Ver} {k : K2}, k ∉ ws.map Write.at → applyW st ws g k = g k
  | [], _, _, _ => rfl
  | w :: ws, g, k, h => by
    simp only [List.map_cons, List.mem_cons, not_or] at h
    show applyW st ws (upd g w.at _) k = g k
    rw [applyW_out h.2]
    exact if_neg h.1
theorem applyW_in {st : Stamp} : ∀ {ws : List Write} {g : K2 → List Ver} {w : Write}, (ws.map Write.at).Nodup → w ∈ ws → applyW st ws g w.at = (addV ⟨st, w⟩ (g w.at)).2
  | [], _, _, _, h => nomatch h
  | x :: ws, g, w, nd, h => by
    simp only [List.map_cons, List.nodup_cons] at nd
    show applyW st ws (upd g x.at _) w.at = _
    rcases List.mem_cons.1 h with rfl | h
    · rw [applyW_out nd.1]
      exact if_pos rfl
    · rw [applyW_in nd.2 h]
      have : w.at ≠ x.at := fun hh => nd.1 (by rw [← hh]; exact List.mem_map_of_mem h)
      have e : upd g x.at (addV ⟨st, x⟩ (g x.at)).2 w.at = g w.at := if_neg this
      rw [e]
theorem addV_nil {x : Ver} (h : x.s.ok = true) : (addV x []).2 = [x] := by
  unfold addV thereV
  simp [h]
theorem apply_total {st : Stamp} (hst : st.ok = true) : ∀ {ws : List Write} {g : K2 → List Ver} {n : Nat}, (ws.map Write.at).Nodup → (∀ w ∈ ws, g w.at = []) → Total g n → Total (applyW st ws g) (n + ws.length)
  | [], _, _, _, _, h => h
  | w :: ws, g, n, nd, hg, h => by
    simp only [List.map_cons, List.nodup_cons] at nd
    obtain ⟨m, hm, he⟩ := h.upd w.at (addV ⟨st, w⟩ (g w.at)).2
    rw [hg w (by simp), addV_nil hst] at he
    simp at he
    subst he
    have := apply_total hst (ws := ws) (g := upd g w.at (addV ⟨st, w⟩ (g w.at)).2) (n := n + 1) nd.2 (fun x hx => by
      have : x.at ≠ w.at := fun hh => nd.1 (by rw [← hh]; exact List.mem_map_of_mem hx)
      rw [show upd g w.at (addV ⟨st, w⟩ (g w.at)).2 x.at = g x.at from if_neg this]
      exact hg x (List.mem_cons_of_mem _ hx)) hm
    rw [show n + (w :: ws).length = n + 1 + ws.length by simp; omega]
    exact this
theorem wsStep_nodup {out : List Write} {p : PutD} (h : (out.map Write.at).Nodup) : ((wsStep true out p).map Write.at).Nodup := by
  unfold wsStep
  generalize writeOf (if true = true then { p with own := true } else p) = w
  simp only [Bool.not_true, Bool.false_or, Bool.not_eq_true']
  split
  · rename_i hn
    rw [List.map_append, List.map_cons, List.map_nil]
    refine List.nodup_append.2 ⟨h, by simp, fun a ha b hb e => ?_⟩
    simp at hb
    subst hb
    obtain ⟨y, hy, hye⟩ := List.mem_map.1 ha
    rw [List.any_eq_false] at hn
    have := hn y hy
    have he : y.bucket = w.bucket ∧ y.key = w.key := by
      have := hye.trans e
      exact ⟨congrArg Prod.fst this, congrArg Prod.snd this⟩
    simp [sameW, he.1, he.2] at this
  · exact h
theorem wsGo_nodup (most : Nat) : ∀ (ps : List PutD) (out : List Write), (out.map Write.at).Nodup → ((wsGo most true ps out).map Write.at).Nodup
  | [], out, h => h
  | p :: ps, out, h => by
    unfold wsGo
    split
    · exact wsGo_nodup most ps _ (wsStep_nodup h)
    · exact h
theorem dealWs_nodup {d : DealD} (h : d.own = true) : ((dealWs d).map Write.at).Nodup := by
  unfold dealWs
  rw [h, if_pos rfl]
  split
  · simp
  · exact wsGo_nodup 8 d.ps [] (by simp)
end TB
namespace TB
open Go
/- IN WHATEVER ORDER -/
abbrev Tx := Stamp × List Write
def stepG (ts : List Tx) (g : K2 → List Ver) : K2 → List Ver := ts.foldl (fun g t => applyW t.1 t.2 g) g
def apS (ap : Vec) (s : Stamp) : Vec := ap.set' s.dc (max s.n (ap.at' s.dc))
def stepA (ts : List Tx) (ap : Vec) : Vec := ts.foldl (fun ap t => apS ap t.1) ap
theorem stepG_snoc {ts : List Tx} {t : Tx} {i : Nat} {g : K2 → List Ver} (h : ts[i]? = some t) : stepG (ts.take (i + 1)) g = applyW t.1 t.2 (stepG (ts.take i) g) := by
  rw [List.take_add_one, h]; simp [stepG]
theorem stepA_snoc {ts : List Tx} {t : Tx} {i : Nat} {ap : Vec} (h : ts[i]? = some t) : stepA (ts.take (i + 1)) ap = apS (stepA (ts.take i) ap) t.1 := by
  rw [List.take_add_one, h]; simp [stepA]
theorem step_cons {room : Nat} {t : Tx} {q : List Tx} {g : K2 → List Ver} {ap : Vec} : ShS.step ⟨room, t :: q, g, ap⟩ = ⟨room, q, applyW t.1 t.2 g, apS ap t.1⟩ := rfl
theorem step_drop {room : Nat} {ts : List Tx} {i : Nat} {t : Tx} {g : K2 → List Ver} {ap : Vec} (h : ts[i]? = some t) : ShS.step ⟨room, ts.drop i, stepG (ts.take i) g, stepA (ts.take i) ap⟩ = ⟨room, ts.drop (i + 1), stepG (ts.take (i + 1)) g, stepA (ts.take (i + 1)) ap⟩ := by
  rw [drop_step h, step_cons, stepG_snoc h, stepA_snoc h]
theorem addV_mem {x : Ver} {xs : List Ver} (hok : x.s.ok = true) (hn : ∀ z ∈ xs, z.s ≠ x.s) (y : Ver) : y ∈ (addV x xs).2 ↔ y ∈ xs ∨ y = x := by
  have ht : thereV x.s xs = false := by
    unfold thereV
    split
    · rename_i z hz
      exact decide_eq_false fun h => hn z (List.mem_of_getElem? hz) (ord_eq h)
    · rfl
  unfold addV
  rw [ht, hok]
  simp only [Bool.not_true, Bool.or_false, Bool.false_eq_true, if_false]
  have e := List.take_append_drop (slotV x.s xs) xs
  constructor
  · intro h
    rcases List.mem_append.1 h with h | h
    · exact .inl (List.mem_of_mem_take h)
    · rcases List.mem_cons.1 h with h | h
      · exact .inr h
      · exact .inl (List.mem_of_mem_drop h)
  · rintro (h | h)
    · rw [← e] at h
      rcases List.mem_append.1 h with h | h
      · exact List.mem_append_left _ h
      · exact List.mem_append_right _ (List.mem_cons_of_mem _ h)
    · rw [h]; exact List.mem_append_right _ List.mem_cons_self
theorem at_inj : ∀ {ws : List Write} {a b : Write}, (ws.map Write.at).Nodup → a ∈ ws → b ∈ ws → a.at = b.at → a = b
  | [], _, _, _, h, _, _ => nomatch h
  | x :: ws, a, b, nd, ha, hb, e => by
    simp only [List.map_cons, List.nodup_cons] at nd
    rcases List.mem_cons.1 ha with h1 | h1 <;> rcases List.mem_cons.1 hb with h2 | h2
    · rw [h1, h2]
    · exact absurd (show x.at ∈ ws.map Write.at by rw [← h1, e]; exact List.mem_map_of_mem h2) nd.1
    · exact absurd (show x.at ∈ ws.map Write.at by rw [← h2, ← e]; exact List.mem_map_of_mem h1) nd.1
    · exact at_inj nd.2 h1 h2 e
theorem applyW_mem {st : Stamp} {ws : List Write} {g : K2 → List Ver} (hok : st.ok = true) (nd : (ws.map Write.at).Nodup) (hn : ∀ k, ∀ z ∈ g k, z.s ≠ st) (k : K2) (y : Ver) :
    y ∈ applyW st ws g k ↔ y ∈ g k ∨ ∃ w ∈ ws, w.at = k ∧ y = ⟨st, w⟩ := by
  by_cases hk : k ∈ ws.map Write.at
  · obtain ⟨w, hw, rfl⟩ := List.mem_map.1 hk
    rw [applyW_in nd hw, addV_mem (x := ⟨st, w⟩) hok (hn w.at)]
    constructor
    · rintro (h | h)
      · exact .inl h
      · exact .inr ⟨w, hw, rfl, h⟩
    · rintro (h | ⟨w', hw', he, h⟩)
      · exact .inl h
      · rw [at_inj nd hw' hw he] at h; exact .inr h
  · rw [applyW_out hk]
    constructor
    · exact .inl
    · rintro (h | ⟨w, hw, he, h⟩)
      · exact h
      · exact absurd (he ▸ List.mem_map_of_mem hw) hk
structure TxOK (t : Tx) : Prop where
  st : t.1.ok = true
  ws : t.2.all Write.ok = true
  nd : (t.2.map Write.at).Nodup
  len : t.2.length ≤ 10
theorem stepG_mem : ∀ {ts : List Tx} {g : K2 → List Ver}, (∀ t ∈ ts, TxOK t) → (ts.map (·.1)).Nodup → (∀ k, ∀ z ∈ g k, z.s ∉ ts.map (·.1)) → ∀ (k : K2) (y : Ver), y ∈ stepG ts g k ↔ y ∈ g k ∨ ∃ t ∈ ts, ∃ w ∈ t.2, w.at = k ∧ y = ⟨t.1, w⟩
  | [], g, _, _, _, k, y => by simp [stepG]
  | t :: ts, g, hok, nd, hn, k, y => by
    simp only [List.map_cons, List.nodup_cons] at nd
    have ht := hok t (by simp)
    have h1 := applyW_mem (g := g) ht.st ht.nd (fun k z hz he => hn k z hz (by rw [he]; simp))
    show y ∈ stepG ts (applyW t.1 t.2 g) k ↔ _
    rw [stepG_mem (fun u hu => hok u (List.mem_cons_of_mem _ hu)) nd.2 (fun k z hz => by
      rcases (h1 k z).1 hz with h | ⟨w, _, _, h⟩
      · exact fun hh => hn k z h (List.mem_cons_of_mem _ hh)
      · rw [h]; exact nd.1), h1]
    constructor
    · rintro ((h | ⟨w, hw, he, h⟩) | ⟨u, hu, w, hw, he, h⟩)
      · exact .inl h
      · exact .inr ⟨t, by simp, w, hw, he, h⟩
      · exact .inr ⟨u, List.mem_cons_of_mem _ hu, w, hw, he, h⟩
    · rintro (h | ⟨u, hu, w, hw, he, h⟩)
      · exact .inl (.inl h)
      · rcases List.mem_cons.1 hu with rfl | hu
        · exact .inl (.inr ⟨w, hw, he, h⟩)
        · exact .inr ⟨u, hu, w, hw, he, h⟩
theorem stepG_gok : ∀ {ts : List Tx} {g : K2 → List Ver} {n : Nat}, GOK g n → (∀ t ∈ ts, t.2.length ≤ 10) → GOK (stepG ts g) (n + 10 * ts.length)
  | [], _, _, h, _ => h
  | t :: ts, g, n, h, hl => by
    have := stepG_gok (ts := ts) (h.apply (st := t.1) (ws := t.2)) (fun u hu => hl u (List.mem_cons_of_mem _ hu))
    have h2 := hl t (by simp)
    exact this.mono (by simp only [List.length_cons]; omega)
theorem stepG_tot : ∀ {ts : List Tx} {g : K2 → List Ver} {n : Nat}, TotLe g n → (∀ t ∈ ts, t.2.length ≤ 10) → TotLe (stepG ts g) (n + 10 * ts.length)
  | [], _, _, h, _ => h
  | t :: ts, g, n, h, hl => by
    have := stepG_tot (ts := ts) (h.apply (st := t.1) (ws := t.2)) (fun u hu => hl u (List.mem_cons_of_mem _ hu))
    have h2 := hl t (by simp)
    exact this.mono (by simp only [List.length_cons]; omega)
theorem sorted_ext : ∀ {xs ys : List Ver}, Sorted xs → Sorted ys → (∀ y, y ∈ xs ↔ y ∈ ys) → xs = ys
  | [], [], _, _, _ => rfl
  | [], y :: ys, _, _, h => by have := (h y).2 (by simp); cases this
  | x :: xs, [], _, _, h => by have := (h x).1 (by simp); cases this
  | x :: xs, y :: ys, hx, hy, h => by
    have hx' := List.pairwise_cons.1 hx
    have hy' := List.pairwise_cons.1 hy
    have exy : x = y := by
      rcases List.mem_cons.1 ((h x).1 (by simp)) with h1 | h1
      · exact h1
      · rcases List.mem_cons.1 ((h y).2 (by simp)) with h2 | h2
        · exact h2.symm
        · exact absurd (ord_trans (hy'.1 x h1) (hx'.1 y h2)) ord_irrefl
    subst exy
    rw [sorted_ext hx'.2 hy'.2 (fun z => ?_)]
    constructor
    · intro hz
      rcases List.mem_cons.1 ((h z).1 (List.mem_cons_of_mem _ hz)) with h1 | h1
      · subst h1; exact absurd (hx'.1 _ hz) ord_irrefl
      · exact h1
    · intro hz
      rcases List.mem_cons.1 ((h z).2 (List.mem_cons_of_mem _ hz)) with h1 | h1
      · subst h1; exact absurd (hy'.1 _ hz) ord_irrefl
      · exact h1
theorem stepG_rev {ts : List Tx} (hok : ∀ t ∈ ts, TxOK t) (nd : (ts.map (·.1)).Nodup) : stepG ts.reverse (fun _ => []) = stepG ts (fun _ => []) := funext fun k => by
  have h1 := stepG_mem (g := fun _ => []) hok nd (fun k z hz => nomatch hz) k
  have h2 := stepG_mem (ts := ts.reverse) (g := fun _ => []) (fun t ht => hok t (List.mem_reverse.1 ht)) (by rw [List.map_reverse]; exact (List.reverse_perm _).nodup_iff.2 nd) (fun k z hz => nomatch hz) k
  refine sorted_ext ((stepG_gok (n := 0) ⟨fun _ => List.Pairwise.nil, fun _ => Nat.le_refl _⟩ (fun t ht => (hok t (List.mem_reverse.1 ht)).len)).sorted k) ((stepG_gok (n := 0) ⟨fun _ => List.Pairwise.nil, fun _ => Nat.le_refl _⟩ (fun t ht => (hok t ht).len)).sorted k) fun y => ?_
  rw [h1, h2]
  simp
theorem apS_comm (ap : Vec) (s t : Stamp) : apS (apS ap s) t = apS (apS ap t) s := by
  unfold apS Vec.set' Vec.at'
  generalize s.n = a
  generalize t.n = b
  by_cases s1 : s.dc = 1 <;> by_cases s2 : s.dc = 2 <;> by_cases s3 : s.dc = 3 <;> by_cases s4 : s.dc = 4 <;>
    by_cases t1 : t.dc = 1 <;> by_cases t2 : t.dc = 2 <;> by_cases t3 : t.dc = 3 <;> by_cases t4 : t.dc = 4 <;> simp [*] <;> omega
theorem foldl_rev {α β : Type} {f : β → α → β} (hc : ∀ b x y, f (f b x) y = f (f b y) x) : ∀ (l : List α) (b : β), l.reverse.foldl f b = l.foldl f b
  | [], _ => rfl
  | x :: l, b => by
    have key : ∀ (l : List α) (b : β), l.foldl f (f b x) = f (l.foldl f b) x := fun l => by
      induction l with
      | nil => exact fun _ => rfl
      | cons y l ih => intro b; rw [List.foldl_cons, List.foldl_cons, hc, ih]
    rw [List.reverse_cons, List.foldl_append, foldl_rev hc l b]
    exact (key l b).symm
theorem stepA_rev (ts : List Tx) (ap : Vec) : stepA ts.reverse ap = stepA ts ap := foldl_rev (fun b x y => apS_comm b x.1 y.1) ts ap
/- TRANSACTIONS, EACH OF ITS OWN STAMP -/
def altTx (i : Nat) (d : DealD) : Tx := (⟨(dealSt { d with own := true }).v.set' (dealSt { d with own := true }).dc ((i : Int) + 1), (dealSt { d with own := true }).dc⟩, dealWs { d with own := true })
structure AltOK (ts : List Tx) : Prop where
  ok : ∀ t ∈ ts, TxOK t
  n : ∀ (j : Nat) t, ts[j]? = some t → t.1.n = (j : Int) + 1
theorem AltOK.nodup {ts : List Tx} (h : AltOK ts) : (ts.map (·.1)).Nodup := by
  rw [List.nodup_iff_pairwise_ne, List.pairwise_iff_getElem]
  intro i j hi hj hij e
  simp only [List.length_map] at hi hj
  simp only [List.getElem_map] at e
  have h1 := h.n i _ (List.getElem?_eq_getElem hi)
  have h2 := h.n j _ (List.getElem?_eq_getElem hj)
  rw [e, h2] at h1
  omega
theorem altTx_ok {i : Nat} {d : DealD} (hr : VecR d.m.s.v) (hi : i < 10) : TxOK (altTx i d) ∧ (altTx i d).1.n = (i : Int) + 1 := by
  obtain ⟨h1, h2, h3, h4, h5, h6, h7, h8⟩ := dealSt_spec (d := { d with own := true }) rfl hr
  have hn : (altTx i d).1.n = (i : Int) + 1 := by
    unfold altTx Stamp.n
    generalize (dealSt { d with own := true }) = s at *
    obtain ⟨v, dc⟩ := s
    simp only at h4 ⊢
    rcases h4 with rfl | rfl | rfl <;> rfl
  refine ⟨⟨?_, ?_, dealWs_nodup (d := { d with own := true }) rfl, dealWs_len { d with own := true }⟩, hn⟩
  · unfold Stamp.ok
    rw [hn]
    unfold altTx
    generalize (dealSt { d with own := true }) = s at *
    obtain ⟨⟨a, b, c, e⟩, dc⟩ := s
    simp only at h4 h5 h6 h7 h8 ⊢
    rcases h4 with rfl | rfl | rfl <;> simp [Vec.set', Vec.ok, Vec.leq, Vec.most] <;> omega
  · exact dealWs_ok (d := { d with own := true }) rfl
theorem AltOK.nil : AltOK [] := ⟨(fun _ h => nomatch h), (fun j t h => by simp at h)⟩
theorem AltOK.snoc {ts : List Tx} {t : Tx} (h : AltOK ts) (ht : TxOK t) (hn : t.1.n = (ts.length : Int) + 1) : AltOK (ts ++ [t]) where
  ok := fun u hu => by
    rcases List.mem_append.1 hu with hu | hu
    · exact h.ok u hu
    · simp at hu; subst hu; exact ht
  n := fun j u hu => by
    rcases Nat.lt_or_ge j ts.length with h1 | h1
    · rw [List.getElem?_append_left h1] at hu; exact h.n j u hu
    · rw [List.getElem?_append_right h1] at hu
      have : j - ts.length = 0 := by
        have := (List.getElem?_eq_some_iff.1 hu).1
        simp at this; omega
      rw [this] at hu; simp at hu; subst hu
      rw [hn]; omega
end TB
namespace TB
open Go
/- A SHARD'S STATE IN A LAW -/
structure SOK (σ : ShS) (n m : Nat) : Prop where
  g : GOK σ.g (10 * n)
  tot : TotLe σ.g (10 * n)
  ws : ∀ x ∈ σ.q, x.2.length ≤ 10
  q : σ.q.length ≤ m
theorem SOK.new (room : Nat) : SOK ⟨room, [], fun _ => [], Vec.zero⟩ 0 0 := ⟨gok_nil, ⟨0, Total.nil, Nat.le_refl _⟩, (fun _ h => nomatch h), Nat.le_refl _⟩
theorem SOK.push {σ : ShS} {n m : Nat} (h : SOK σ n m) {st : Stamp} {ws : List Write} (hl : ws.length ≤ 10) : SOK (σ.push st ws) n (m + 1) := by
  unfold ShS.push
  split
  · refine ⟨h.g, h.tot, fun x hx => ?_, ?_⟩
    · rcases List.mem_append.1 hx with hx | hx
      · exact h.ws x hx
      · simp at hx; subst hx; exact hl
    · have := h.q
      show (σ.q ++ [(st, ws)]).length ≤ _
      simp; omega
  · exact ⟨h.g, h.tot, h.ws, Nat.le_succ_of_le h.q⟩
theorem SOK.step {σ : ShS} {n m : Nat} (h : SOK σ n m) : SOK σ.step (n + 1) m := by
  obtain ⟨room, q, g, ap⟩ := σ
  obtain ⟨h1, h2, h3, h4⟩ := h
  cases q with
  | nil => exact ⟨h1.mono (by omega), h2.mono (by omega), h3, h4⟩
  | cons x q =>
    obtain ⟨st, ws⟩ := x
    have hw : ws.length ≤ 10 := h3 (st, ws) (by simp)
    exact ⟨(h1.apply (st := st) (ws := ws)).mono (by omega), (h2.apply (st := st) (ws := ws)).mono (by omega), fun x hx => h3 x (List.mem_cons_of_mem _ hx), by show q.length ≤ m; simp at h4; omega⟩
theorem SOK.mono {σ : ShS} {n m n' m' : Nat} (h : SOK σ n m) (hn : n ≤ n') (hm : m ≤ m') : SOK σ n' m' := ⟨h.g.mono (by omega), h.tot.mono (by omega), h.ws, Nat.le_trans h.q hm⟩
theorem SOK.prune {σ : ShS} {n m : Nat} (h : SOK σ n m) (v : Vec) : SOK { σ with g := pruneG v σ.g } n m := ⟨h.g.prune v, h.tot.prune v, h.ws, h.q⟩
theorem SOK.len {σ : ShS} {n m : Nat} (h : SOK σ n m) (hn : n ≤ 50000) : ∀ k, (σ.g k).length ≤ 1000000 := fun k => Nat.le_trans (h.g.len k) (by omega)
theorem SOK.sum {σ : ShS} {n m : Nat} (h : SOK σ n m) (hn : n ≤ 50000) : ∀ k, Total σ.g k → k ≤ 1000000 := fun k hk => Nat.le_trans (h.tot.le k hk) (by omega)
theorem SOK.may {σ : ShS} {n m : Nat} (h : SOK σ n m) (hn : n ≤ 50000) : ∀ st ws q, σ.q = (st, ws) :: q → ws.length ≤ 1000000 ∧ ∀ (j : Nat) k, j ≤ ws.length → Ordered (applyW st (ws.take j) σ.g k) ∧ (applyW st (ws.take j) σ.g k).length ≤ 1000000 :=
  GOK.step (n := 10 * n) h.g (by omega) h.ws
theorem readR_prune {σ : ShS} {h far : Vec} (hs : ∀ v : Vec, v.leq h = true → v.leq far = true) (k : K2) : readR { σ with g := pruneG h σ.g } k far = readR σ k far := by
  unfold readR readV
  simp only [pruneG, prune_far hs]
structure PG where
  i : Nat
  σ : ShS
  H : HL
end TB
namespace TB
open Go
/- WHAT WAITS -/
theorem u8_mod {x : Int} (h : 0 ≤ x ∧ x ≤ 255) (d : Int) (hd : 0 < d ∧ d ≤ 255) : ∃ n : Nat, IntKind.i64.wrap (x.tmod d) = (n : Int) ∧ (n : Int) < d := by
  have h1 : x.tmod d = x % d := Int.tmod_eq_emod_of_nonneg h.1
  have h2 := Int.emod_nonneg x (show d ≠ 0 by omega)
  have h3 := Int.emod_lt_of_pos x hd.1
  refine ⟨(x % d).toNat, ?_, by omega⟩
  rw [h1, IntWalk.i64_in _ (by omega)]
  omega
theorem waits_k {room : Int} (h : 0 ≤ room ∧ room ≤ 255) : ∃ k : Nat, IntKind.i64.wrap (1 + IntKind.i64.wrap (room.tmod 16)) = (k : Int) ∧ 1 ≤ k ∧ k ≤ 16 := by
  obtain ⟨n, h1, h2⟩ := u8_mod h 16 (by omega)
  refine ⟨n + 1, ?_, by omega, by omega⟩
  rw [h1, IntWalk.i64_in _ (by omega)]
  omega
theorem waits_pushOK {k i : Nat} {st : Stamp} {ws : List Write} {g : K2 → List Ver} {ap : Vec} (h1 : st.ok = true) (h2 : ws.all Write.ok = true) : pushOK ⟨k, List.replicate (min i k) (st, ws), g, ap⟩ st ws = decide (i < k) := by
  unfold pushOK
  rw [h1, h2]
  simp
  omega
theorem waits_push {k i : Nat} {st : Stamp} {ws : List Write} {g : K2 → List Ver} {ap : Vec} (h1 : st.ok = true) (h2 : ws.all Write.ok = true) :
    ShS.push ⟨k, List.replicate (min i k) (st, ws), g, ap⟩ st ws = ⟨k, List.replicate (min (i + 1) k) (st, ws), g, ap⟩ := by
  unfold ShS.push
  rw [waits_pushOK h1 h2]
  by_cases h : i < k
  · rw [if_pos (decide_eq_true h), Nat.min_eq_left (by omega), Nat.min_eq_left (by omega)]
    simp only [List.replicate_succ']
  · rw [if_neg (by simp [h]), Nat.min_eq_right (by omega), Nat.min_eq_right (by omega)]
theorem waits_sok {k m : Nat} {st : Stamp} {ws : List Write} {ap : Vec} (hl : ws.length ≤ 10) : SOK ⟨k, List.replicate m (st, ws), fun _ => [], ap⟩ 0 m :=
  ⟨gok_nil, ⟨0, Total.nil, Nat.le_refl _⟩, (fun x hx => by rw [(List.mem_replicate.1 hx).2]; exact hl), by simp⟩
theorem readR_nil {k : Nat} {q : List Tx} {ap : Vec} {key : K2} {v : Vec} : readR ⟨k, q, fun _ => [], ap⟩ key v = (⟨#[]⟩, Stamp.zero, false) := rfl
theorem waits_g {st : Stamp} {ws : List Write} {w : Write} (hst : st.ok = true) (nd : (ws.map Write.at).Nodup) (hw : w ∈ ws) : applyW st ws (fun _ => []) (w.bucket, w.key) = [⟨st, w⟩] := by
  have := applyW_in (st := st) (g := fun _ => []) nd hw
  rw [addV_nil hst] at this
  exact this
theorem waits_read {k : Nat} {q : List Tx} {ap : Vec} {st : Stamp} {ws : List Write} {w : Write} (hst : st.ok = true) (nd : (ws.map Write.at).Nodup) (hw : w ∈ ws) :
    readR ⟨k, q, applyW st ws (fun _ => []), ap⟩ (w.bucket, w.key) st.v = (w.value, st, !w.gone) := by
  unfold readR readV
  simp only [waits_g hst nd hw, lastOf, List.reverse_cons, List.reverse_nil, List.nil_append, List.find?_cons, leq_refl]
  rfl
theorem waits_below {k : Nat} {q : List Tx} {ap : Vec} {st : Stamp} {ws : List Write} {w : Write} (hst : st.ok = true) (nd : (ws.map Write.at).Nodup) (hw : w ∈ ws) (h1 : 1 ≤ st.n ∧ st.n ≤ 4) (hd : st.dc = 1 ∨ st.dc = 2 ∨ st.dc = 3) :
    readR ⟨k, q, applyW st ws (fun _ => []), ap⟩ (w.bucket, w.key) (st.v.set' st.dc (IntKind.u64.wrap (st.n - 1))) = (⟨#[]⟩, Stamp.zero, false) := by
  have hf : st.v.leq (st.v.set' st.dc (IntKind.u64.wrap (st.n - 1))) = false := by
    rw [IntWalk.u64_in _ (by omega)]
    obtain ⟨v, dc⟩ := st
    simp only [Stamp.n] at h1 hd ⊢
    rcases hd with rfl | rfl | rfl <;> simp [Vec.leq, Vec.set', Vec.at'] <;> omega
  unfold readR readV
  simp only [waits_g hst nd hw, lastOf, List.reverse_cons, List.reverse_nil, List.nil_append, List.find?_cons, hf]
  rfl
theorem waits_at {st : Stamp} (h1 : 1 ≤ st.n) (hd : st.dc = 1 ∨ st.dc = 2 ∨ st.dc = 3) : (apS Vec.zero st).at' st.dc = st.n := by
  have e : (Vec.zero).at' st.dc = 0 := by rcases hd with h | h | h <;> rw [h] <;> rfl
  unfold apS
  rw [e, Int.max_eq_left (by omega)]
  rcases hd with h | h | h <;> rw [h] <;> rfl
theorem waits_total {st : Stamp} {ws : List Write} (hst : st.ok = true) (nd : (ws.map Write.at).Nodup) : Total (applyW st ws (fun _ => [])) ws.length := by
  have := apply_total hst nd (g := fun _ => []) (n := 0) (fun _ _ => rfl) Total.nil
  rwa [Nat.zero_add] at this
end TB
namespace TB
open Go
/- TRANSACTIONS THAT LIE IN A ROW -/
theorem batL_len (b : Bat) : (batL b).length = 6 := rfl
def batF (bs : List Bat) : List Value := bs.flatMap batL
theorem batL_one (b : Bat) : oneL (batL b) := fun u hu => by
  simp only [batL, List.mem_cons, List.not_mem_nil, or_false] at hu
  rcases hu with rfl | rfl | rfl | rfl | rfl | rfl <;> rfl
theorem batL_get {b : Bat} {j : Nat} {v : Value} (h : (stampL b.s)[j]? = some v) : (batL b)[j]? = some v := by
  have : batL b = stampL b.s ++ [.slice b.p b.n b.cap] := rfl
  rw [this, List.getElem?_append_left (List.getElem?_eq_some_iff.1 h).1]; exact h
theorem bats_cell {bs : List Bat} {T : List Value} {k : Nat} {y : Bat} (hy : bs[k]? = some y) : ∀ (j : Nat) v, (batL y)[j]? = some v → (batF bs ++ T)[0 + k * 6 + j]? = some v := fun j v hv => by
  have hj : j < 6 := (List.getElem?_eq_some_iff.1 hv).1
  have h1 := flat_get batL_len bs k j y hy hj
  rw [hv] at h1
  have hlt : k * 6 + j < (batF bs).length := (List.getElem?_eq_some_iff.1 h1).1
  rw [Nat.zero_add, List.getElem?_append_left hlt]; exact h1
theorem WtF.get {tw : Nat} : ∀ {q : List Tx} {bs : List Bat} {H : HL} {j : Nat} {t : Tx}, WtF tw q bs H → q[j]? = some t → ∃ p cap, bs[j]? = some ⟨t.1, p, t.2.length, cap⟩ ∧ Src H p t.2.length (writesL t.2)
  | [], _, _, _, _, _, h => by simp at h
  | x :: q, _, _, j, t, ⟨p, cap, bs', Lr, H', h1, h2, h3, h4⟩, h => by
    subst h1 h4
    cases j with
    | zero =>
      simp at h
      subst h
      obtain ⟨p2, cap2, he, hs⟩ := h2.src
      cases he
      exact ⟨_, _, rfl, hs.mono (fun x hx => List.mem_append_left _ hx)⟩
    | succ j =>
      simp at h
      obtain ⟨p2, cap2, h5, h6⟩ := WtF.get h3 h
      exact ⟨p2, cap2, by simpa using h5, h6.mono (fun x hx => List.mem_append_right _ hx)⟩
theorem alike_push {ts : List Tx} {j : Nat} {t : Tx} {g : K2 → List Ver} {ap : Vec} (ht : ts[j]? = some t) (hok : TxOK t) (hj : j < 16) : ShS.push ⟨16, ts.take j, g, ap⟩ t.1 t.2 = ⟨16, ts.take (j + 1), g, ap⟩ := by
  have h1 : pushOK ⟨16, ts.take j, g, ap⟩ t.1 t.2 = true := by
    unfold pushOK
    rw [hok.st, hok.ws]
    simp
    omega
  unfold ShS.push
  rw [if_pos h1, List.take_add_one, ht]; rfl
theorem alike_sok {ts : List Tx} (hok : ∀ t ∈ ts, TxOK t) (j : Nat) (ap : Vec) : SOK ⟨16, ts.drop j, stepG (ts.take j) (fun _ => []), ap⟩ j ts.length where
  g := (stepG_gok (n := 0) gok_nil (fun t ht => (hok t (List.mem_of_mem_take ht)).len)).mono (by simp; omega)
  tot := (stepG_tot (n := 0) ⟨0, Total.nil, Nat.le_refl _⟩ (fun t ht => (hok t (List.mem_of_mem_take ht)).len)).mono (by simp; omega)
  ws := fun x hx => (hok x (List.mem_of_mem_drop hx)).len
  q := by simp
theorem rev_get {ts : List Tx} {j r : Nat} (h : r + 1 + j = ts.length) : ts.reverse[j]? = ts[r]? := by
  rw [List.getElem?_reverse (by omega)]
  congr 1
  omega
theorem rev_ok {ts : List Tx} (h : ∀ t ∈ ts, TxOK t) : ∀ t ∈ ts.reverse, TxOK t := fun t ht => h t (List.mem_reverse.1 ht)
structure AlG where
  i : Nat
  ts : List Tx
  bs : List Bat
  q : Option Addr
  cap : Nat
  Lt : HL
  WH : HL
end TB
