/- A part of the proof that shardPlays of chapter 10 returns true at every room and every list of deeds, and leaves its arguments as they read; no condition. -/
import Derived.WalkKit
import Derived.KernelRfl
import Derived.Below
import Derived.OrdersHeld
import Derived.Deep.LoopGhost
import Derived.RangeFuncLeaves
import Derived.RangeFuncRecord
import Derived.Laws.CopyRow
import Derived.Laws.StructEq
set_option linter.unusedVariables false
set_option linter.unusedSimpArgs false
namespace TB
open Go

abbrev HL := List (Nat × Obj)
abbrev Env := List (Nat × Value)
abbrev keys (L : HL) : List Nat := L.map Prod.fst
def Has (w : World) (L : HL) : Prop := ∀ x ∈ L, w.heap[x.1]? = some x.2

structure Upd (w w' : World) (F : List Nat) : Prop where
  os : w'.os = w.os
  tape : w'.tape = w.tape
  output : w'.output = w.output
  size : w.heap.size ≤ w'.heap.size
  same : ∀ b, b < w.heap.size → b ∉ F → w'.heap[b]? = w.heap[b]?

theorem Upd.refl (w : World) (F : List Nat) : Upd w w F := ⟨rfl, rfl, rfl, Nat.le_refl _, fun _ _ _ => rfl⟩
theorem Upd.trans {a b c : World} {F F' : List Nat} (h : Upd a b F) (k : Upd b c F') (hF : ∀ x ∈ F', x ∈ F ∨ a.heap.size ≤ x) : Upd a c F :=
  ⟨k.os.trans h.os, k.tape.trans h.tape, k.output.trans h.output, Nat.le_trans h.size k.size, fun x hx hn => by
    rw [k.same x (Nat.lt_of_lt_of_le hx h.size) (fun hf => by rcases hF x hf with h1 | h1; exact hn h1; omega), h.same x hx hn]⟩
theorem Upd.drew {a b : World} {F : List Nat} (h : Upd a b F) : Upd a { b with drawn := b.drawn + 1 } F := ⟨h.os, h.tape, h.output, h.size, h.same⟩

theorem Has.lt {w : World} {L : HL} (h : Has w L) {x : Nat × Obj} (hx : x ∈ L) : x.1 < w.heap.size := by
  have := h x hx
  rcases Nat.lt_or_ge x.1 w.heap.size with h1 | h1
  · exact h1
  · rw [Array.getElem?_eq_none h1] at this; cases this
theorem Has.klt {w : World} {L : HL} (h : Has w L) {k : Nat} (hk : k ∈ keys L) : k < w.heap.size := by
  obtain ⟨x, hx, rfl⟩ := List.mem_map.1 hk; exact h.lt hx
theorem Has.upd {w w' : World} {L : HL} {F : List Nat} (h : Has w L) (u : Upd w w' F) (hd : ∀ k ∈ keys L, k ∉ F) : Has w' L := fun x hx => by
  rw [u.same x.1 (h.lt hx) (hd x.1 (List.mem_map_of_mem hx))]; exact h x hx
theorem Has.sub {w : World} {L L' : HL} (h : Has w L) (hs : ∀ x ∈ L', x ∈ L) : Has w L' := fun x hx => h x (hs x hx)
theorem Has.app {w : World} {L L' : HL} (h : Has w L) (h' : Has w L') : Has w (L ++ L') := fun x hx => by
  rcases List.mem_append.1 hx with h1 | h1; exact h x h1; exact h' x h1
theorem Has.drew {w : World} {L : HL} (h : Has w L) : Has { w with drawn := w.drawn + 1 } L := h

def lk (d : Nat) : Env → Option Value
  | [] => none
  | (e, v) :: l => bif Nat.beq d e then some v else lk d l
/-- How many temporaries there are; what is deferred. -/
structure Cfg where
  k : Nat
  ds : List Deferred
def EnvOK (n : Cfg) (l : Env) (a : Act) : Prop := a.tmps.size = n.k ∧ a.defers = n.ds ∧ ∀ d v, lk d l = some v → a.tmps.getD d undef = v
theorem EnvOK.put {n : Cfg} {l : Env} {a : Act} (h : EnvOK n l a) {d : Nat} (hd : Nat.blt d n.k = true) (v : Value) : EnvOK n ((d, v) :: l) (a.put (some d) v) := by
  have hlt : d < n.k := by have : d + 1 ≤ n.k := by simpa [Nat.blt] using hd
                           omega
  refine ⟨by simp [Act.put, h.1], h.2.1, fun e u hu => ?_⟩
  simp only [lk] at hu
  by_cases he : e = d
  · subst he; simp at hu; subst hu
    simp [Act.put, h.1, hlt]
  · have hb : Nat.beq e d = false := by
      cases hh : Nat.beq e d; rfl; exact absurd (Nat.eq_of_beq_eq_true hh) he
    rw [hb] at hu; simp at hu
    have := h.2.2 e u hu
    simp [Act.put, Array.getElem?_setIfInBounds_ne (Ne.symm he)] at this ⊢
    exact this
def evE (l : Env) : Operand → Option Value
  | .tmp t => lk t l
  | .const v => some v
  | .global g => some (.pointer (some ⟨g, 0, none⟩))
  | .func f => some (.func (.func f) #[] #[])
theorem EnvOK.ev {n : Cfg} {l : Env} {a : Act} (h : EnvOK n l a) {x : Operand} {v : Value} (hx : evE l x = some v) : a.eval x = v := by
  cases x with
  | tmp t => exact h.2.2 t v hx
  | const u => simp [evE] at hx; exact hx
  | global g => simp [evE] at hx; exact hx
  | func f => simp [evE] at hx; exact hx
def evL (l : Env) : List Operand → Option (List Value)
  | [] => some []
  | x :: xs => match evE l x with
    | none => none
    | some v => match evL l xs with
      | none => none
      | some vs => some (v :: vs)
theorem EnvOK.evL {n : Cfg} {l : Env} {a : Act} (h : EnvOK n l a) : ∀ {xs : List Operand} {vs : List Value}, evL l xs = some vs → xs.map a.eval = vs
  | [], vs, hv => by simpa [TB.evL] using hv
  | x :: xs, vs, hv => by
    simp only [TB.evL] at hv
    cases hx : evE l x with
    | none => simp [hx] at hv
    | some v =>
      rw [hx] at hv
      cases hxs : TB.evL l xs with
      | none => simp [hxs] at hv
      | some us => rw [hxs] at hv; simp at hv; subst hv; simp [h.ev hx, h.evL hxs]

/-- The state. -/
structure St (w0 : World) (F : List Nat) (R : HL) (n : Cfg) (l : Env) (L : HL) (a : Act) (w : World) : Prop where
  env : EnvOK n l a
  has : Has w L
  nd : (keys L).Nodup
  own : ∀ k ∈ keys L, k ∈ F ∨ w0.heap.size ≤ k
  ro : Has w R
  rk : ∀ k ∈ keys R, k < w0.heap.size ∧ k ∉ F
  upd : Upd w0 w F

theorem St.dis {w0 : World} {F : List Nat} {R : HL} {n : Cfg} {l : Env} {L : HL} {a : Act} {w : World} (h : St w0 F R n l L a w) : ∀ k ∈ keys R, k ∉ keys L := fun k hk hL => by
  rcases h.own k hL with h1 | h1
  · exact (h.rk k hk).2 h1
  · exact absurd (h.rk k hk).1 (by omega)

def GN (w0 : World) (F : List Nat) (R : HL) (n : Cfg) (M : Act → World → Prop) (l : Env) (L : HL) : Prop := ∀ a w, St w0 F R n l L a w → M a w

/-- Where a code may go. -/
structure Po where
  N : Act → World → Prop
  X : List (Nat × (Act → World → Prop))
  Rt : Act → World → Prop
def lkX (d : Nat) : List (Nat × (Act → World → Prop)) → Option (Act → World → Prop)
  | [] => none
  | (e, v) :: l => bif Nat.beq d e then some v else lkX d l
def toQ (q : Po) : Exit → Act → World → Prop
  | .normal, a, w => q.N a w
  | .exit id, a, w => match lkX id q.X with | some M => M a w | none => False
  | .ret, a, w => q.Rt a w
  | _, _, _ => False
abbrev CW (P : Program) (c : Code) (N : Act → World → Prop) (X : List (Nat × (Act → World → Prop))) (Rt : Act → World → Prop) : Act → World → Prop := Code.wp P c (toQ ⟨N, X, Rt⟩)

section
variable {P : Program} {w0 : World} {F : List Nat} {R : HL} {n : Cfg} {l : Env} {L : HL} {N : Act → World → Prop} {X : List (Nat × (Act → World → Prop))} {Rt : Act → World → Prop}
theorem gSeq {x y : Code} (h : GN w0 F R n (CW P x (CW P y N X Rt) X Rt) l L) : GN w0 F R n (CW P (.seq x y) N X Rt) l L := fun a w s =>
  wp_seq (wp_mono (h a w s) fun e a w hq => by cases e <;> exact hq)
theorem gBlock {id : Nat} {c : Code} (h : GN w0 F R n (CW P c N ((id, N) :: X) Rt) l L) : GN w0 F R n (CW P (.block id c) N X Rt) l L := fun a w s =>
  wp_block (wp_mono (h a w s) fun e a w hq => by
    cases e with
    | exit id' =>
      simp only [toQ, lkX] at hq
      simp only [Exit.inBlock]
      by_cases hi : id' = id
      · subst hi; simp at hq; simp only [if_true]; exact hq
      · have hb : Nat.beq id' id = false := by
          cases hh : Nat.beq id' id; rfl; exact absurd (Nat.eq_of_beq_eq_true hh) hi
        rw [hb] at hq; simp at hq; simp only [hi, if_false]; exact hq
    | _ => exact hq)
theorem gSkip (h : GN w0 F R n N l L) : GN w0 F R n (CW P .skip N X Rt) l L := fun a w s => wp_skip (h a w s)
theorem gLabel {k : Nat} (h : GN w0 F R n N l L) : GN w0 F R n (CW P (.label k) N X Rt) l L := fun a w s => wp_label (h a w s)
theorem gRet (h : GN w0 F R n Rt l L) : GN w0 F R n (CW P .ret N X Rt) l L := fun a w s => wp_ret (h a w s)
theorem gExit {id : Nat} {M : Act → World → Prop} (hM : lkX id X = some M) (h : GN w0 F R n M l L) : GN w0 F R n (CW P (.exit id) N X Rt) l L := fun a w s =>
  wp_exit (by show (match lkX id X with | some M => M a w | none => False); rw [hM]; exact h a w s)
theorem gCond {c : Operand} {x y : Code} {t : Bool} (hc : evE l c = some (.bool t)) (ht : t = true → GN w0 F R n (CW P x N X Rt) l L) (hf : t = false → GN w0 F R n (CW P y N X Rt) l L) :
    GN w0 F R n (CW P (.cond c x y) N X Rt) l L := fun a w s => wp_cond_split (s.env.ev hc) (fun h => ht h a w s) (fun h => hf h a w s)
theorem gCondD {c : Operand} {x y : Code} {p : Prop} [Decidable p] (hc : evE l c = some (.bool (decide p))) (ht : p → GN w0 F R n (CW P x N X Rt) l L) (hf : ¬ p → GN w0 F R n (CW P y N X Rt) l L) :
    GN w0 F R n (CW P (.cond c x y) N X Rt) l L := fun a w s => wp_cond_split (s.env.ev hc) (fun h => ht (of_decide_eq_true h) a w s) (fun h => hf (of_decide_eq_false h) a w s)
theorem gCondT {c : Operand} {x y : Code} {t : Bool} (hc : evE l c = some (.bool t)) (ht : t = true) (h : GN w0 F R n (CW P x N X Rt) l L) :
    GN w0 F R n (CW P (.cond c x y) N X Rt) l L := fun a w s => wp_cond_true ((s.env.ev hc).trans (by rw [ht])) (h a w s)
theorem gCondF {c : Operand} {x y : Code} {t : Bool} (hc : evE l c = some (.bool t)) (ht : t = false) (h : GN w0 F R n (CW P y N X Rt) l L) :
    GN w0 F R n (CW P (.cond c x y) N X Rt) l L := fun a w s => wp_cond_false ((s.env.ev hc).trans (by rw [ht])) (h a w s)
/-- A family of states. -/
def InvN {σ : Sort _} (w0 : World) (F : List Nat) (R : HL) (n : Cfg) (I : σ → Env × HL) (good : σ → Prop) : Act → World → Prop := fun a w => ∃ s, good s ∧ St w0 F R n (I s).1 (I s).2 a w
theorem gLoop {σ : Type} {c : Code} (I : σ → Env × HL) (good : σ → Prop) (μ : σ → Nat) (hs : GN w0 F R n (InvN w0 F R n I good) l L)
    (round : ∀ s, good s → GN w0 F R n (CW P c (InvN w0 F R n I (fun s' => good s' ∧ μ s' < μ s)) X Rt) (I s).1 (I s).2) : GN w0 F R n (CW P (.loop c) N X Rt) l L := fun a w st => by
  obtain ⟨s, hg, hst⟩ := hs a w st
  refine wp_loop_ghost (fun k a w => ∃ s, good s ∧ μ s = k ∧ St w0 F R n (I s).1 (I s).2 a w) (μ s) ⟨s, hg, rfl, hst⟩ ?_
  rintro k a w ⟨s, hg, rfl, hst⟩
  refine wp_mono (round s hg a w hst) fun e a w hq => ?_
  cases e with
  | normal =>
    obtain ⟨s', ⟨hg', hlt⟩, hst'⟩ := hq
    exact ⟨μ s', hlt, s', hg', rfl, hst'⟩
  | _ => exact hq
theorem gInv {σ : Type} {I : σ → Env × HL} {good : σ → Prop} (s : σ) (hg : good s) (h : ∀ a w, St w0 F R n l L a w → St w0 F R n (I s).1 (I s).2 a w) : GN w0 F R n (InvN w0 F R n I good) l L :=
  fun a w st => ⟨s, hg, h a w st⟩
theorem gInvE {σ : Type} {I : σ → Env × HL} {good : σ → Prop} {M : Act → World → Prop} (h : ∀ s, good s → GN w0 F R n M (I s).1 (I s).2) (a : Act) (w : World) (hi : InvN w0 F R n I good a w) : M a w := by
  obtain ⟨s, hg, st⟩ := hi; exact h s hg a w st
/-- A cut: all ways through x end in one family of states. -/
theorem gCut {σ : Type} {x y : Code} (I : σ → Env × HL) (good : σ → Prop) (h : GN w0 F R n (CW P x (InvN w0 F R n I good) X Rt) l L)
    (hy : ∀ s, good s → GN w0 F R n (CW P y N X Rt) (I s).1 (I s).2) : GN w0 F R n (CW P (.seq x y) N X Rt) l L :=
  gSeq (fun a w st => wp_mono (h a w st) fun e a w hq => by
    cases e with
    | normal => exact gInvE hy a w hq
    | _ => exact hq)
end
end TB
namespace TB
open Go

section
variable {P : Program} {ops : Array Oper} {Q : Exit → Act → World → Prop} {S : World → Prop}

/-- Operation j waits for k. -/
def dep (ops : Array Oper) (j k : Nat) : Bool := match ops[j]? with | none => false | some o => o.after.any fun e => e.on == k && Region.binds .any e
/-- Operation j waits for each other one: it comes last. -/
def lastB (ops : Array Oper) (j : Nat) : Bool :=
  match ops[j]? with
  | none => false
  | some _ => (List.range ops.size).all fun k => k == j || dep ops j k || (List.range ops.size).any fun m => dep ops j m && dep ops m k
/-- What is listed waits for nothing that is not. -/
def Closed (ops : Array Oper) (listed : Array Bool) : Prop := ∀ m om, ops[m]? = some om → listed.getD m true = true → ∀ e ∈ om.after, Region.binds .any e = true → listed.getD e.on true = true
theorem getD_ready {listed : Array Bool} {k : Nat} (h : listed[k]?.getD true = true) : listed.getD k true = true := by
  rcases Nat.lt_or_ge k listed.size with h' | h'
  · simp [h'] at h ⊢; exact h
  · simp [Array.getElem?_eq_none h']
theorem Closed.step {ops : Array Oper} {listed : Array Bool} {i : Nat} (h : Closed ops listed) (hi : i ∈ Region.ready .any ops listed) : Closed ops (listed.setIfInBounds i true) := fun m om hm hl e he hb => by
  obtain ⟨_, o, ho, hall⟩ := mem_ready.1 hi
  have key : listed.getD e.on true = true := by
    by_cases hmi : m = i
    · subst hmi; rw [ho] at hm; cases hm
      have := hall e he hb
      rcases Nat.lt_or_ge e.on listed.size with h' | h'
      · simp [h'] at this ⊢; exact this
      · simp [Array.getElem?_eq_none h']
    · rw [getD_set_ne true (fun e => hmi e.symm)] at hl
      exact h m om hm hl e he hb
  by_cases hei : e.on = i
  · rw [hei]
    rcases Nat.lt_or_ge i listed.size with h' | h'
    · simp [h']
    · simp [Array.getElem?_eq_none (show (listed.setIfInBounds i true).size ≤ i by simpa using h')]
  · rw [getD_set_ne true (fun e' => hei e'.symm)]; exact key
/-- Whatever order is picked; S holds behind each operation but the last. -/
def wpAnyL (P : Program) (ops : Array Oper) (Q : Exit → Act → World → Prop) (S : World → Prop) : Nat → Array Bool → Act → World → Prop
  | 0, listed, a, w => Region.ready .any ops listed = [] ∧ Q .normal a w
  | k + 1, listed, a, w =>
    (Region.ready .any ops listed = [] → Q .normal a w) ∧
    ∀ i ∈ Region.ready .any ops listed, wpOp P ops Q i (fun a' w' => (lastB ops i = true ∨ S w') ∧ wpAnyL P ops Q S k (listed.setIfInBounds i true) a' w') a w
theorem wpAnyL_any : ∀ (k : Nat) (listed : Array Bool) (a : Act) (w : World), wpAnyL P ops Q S k listed a w → wpAny P .any ops Q k listed a w
  | 0, _, _, _, h => h
  | k + 1, _, _, _, h => ⟨h.1, fun i hi => wpOp_mono (fun a' w' h' => wpAnyL_any k _ a' w' h'.2) (h.2 i hi)⟩
theorem dep_listed {j k : Nat} {listed : Array Bool} (h : dep ops j k = true) (hall : ∀ o, ops[j]? = some o → ∀ e ∈ o.after, Region.binds .any e = true → listed.getD e.on true = true) : listed.getD k true = true := by
  unfold dep at h
  split at h
  · cases h
  · rename_i o ho
    simp only [Array.any_eq_true, Bool.and_eq_true, beq_iff_eq] at h
    obtain ⟨x, hx, h2, h3⟩ := h
    have := hall o ho _ (Array.getElem_mem hx) h3
    rwa [h2] at this
theorem last_waits {i j : Nat} {oi : Oper} {listed : Array Bool} (hcl : Closed ops listed) (hi : ops[i]? = some oi) (hj : j ∈ Region.ready .any ops listed) (hne : j ≠ i) (hu : listed.getD i true = false) : lastB ops j = false := by
  cases hl : lastB ops j with
  | false => rfl
  | true =>
    exfalso
    obtain ⟨_, o, ho, hall⟩ := mem_ready.1 hj
    have hlt : i < ops.size := by
      rcases Nat.lt_or_ge i ops.size with h | h
      · exact h
      · rw [Array.getElem?_eq_none h] at hi; cases hi
    have hall' : ∀ o, ops[j]? = some o → ∀ e ∈ o.after, Region.binds .any e = true → listed.getD e.on true = true := fun o' ho' e he hb => by
      rw [ho] at ho'; cases ho'
      have := hall e he hb
      rcases Nat.lt_or_ge e.on listed.size with h' | h'
      · simp [h'] at this ⊢; exact this
      · simp [Array.getElem?_eq_none h']
    simp only [lastB, ho, List.all_eq_true] at hl
    have h1 := hl i (List.mem_range.2 hlt)
    simp only [Bool.or_eq_true, beq_iff_eq, List.any_eq_true, Bool.and_eq_true] at h1
    rcases h1 with (h1 | h1) | ⟨m, _, h1, h2⟩
    · exact hne h1.symm
    · rw [dep_listed h1 hall'] at hu; cases hu
    · have hm := dep_listed h1 hall'
      rw [dep_listed h2 (fun om hom e he hb => hcl m om hom hm e he hb)] at hu; cases hu
theorem wpAnyL_first {i : Nat} {oi : Oper} {v : Value} (hi : ops[i]? = some oi) (hsel : Region.noSelect ops = true)
    (hQ : ∀ c a w, Q (.panic c) (a.put oi.dst v) w → Q (.panic c) a w) :
    ∀ (k : Nat) (listed : Array Bool) (a : Act) (w : World), Closed ops listed →
      (∀ j oj, ops[j]? = some oj → j ≠ i → listed.getD j true = false → (∀ e ∈ oj.after, Region.binds .any e = true → e.on ≠ i) → oi.apart ops oj = true) →
      i ∈ Region.ready .any ops listed → YieldsIf P ops S oi v a → S w →
      wpAnyL P ops Q S k (listed.setIfInBounds i true) (a.put oi.dst v) w → wpAnyL P ops Q S (k + 1) listed a w := by
  intro k
  induction k with
  | zero =>
    intro listed a w _ _ hr hy hS H
    refine ⟨fun h => (by rw [h] at hr; cases hr), fun j hj => ?_⟩
    rcases Decidable.em (j = i) with rfl | hji
    · exact hy.wpOp hi hS ⟨.inr hS, H⟩
    · have := ready_mono hj hji
      rw [H.1] at this; cases this
  | succ k ih =>
    intro listed a w hcl hfree hr hy hS H
    refine ⟨fun h => (by rw [h] at hr; cases hr), fun j hj => ?_⟩
    rcases Decidable.em (j = i) with rfl | hji
    · exact hy.wpOp hi hS ⟨.inr hS, H⟩
    · obtain ⟨hjun, oj, hoj, hall⟩ := mem_ready.1 hj
      have hiun := (mem_ready.1 hr).1
      have hiun' : listed.getD i true = false := by simpa using hiun
      have hlast := last_waits hcl hi hj hji hiun'
      have hnot : ∀ e ∈ oj.after, Region.binds .any e = true → e.on ≠ i := fun e he hb heq => by
        have h4 := hall e he hb
        rw [heq] at h4
        rcases Nat.lt_or_ge i listed.size with h' | h'
        · simp [h'] at hiun' h4; rw [hiun'] at h4; cases h4
        · simp [Array.getElem?_eq_none h'] at h4
      have h1 := H.2 j (ready_mono hj hji)
      have h2 := wpOp_putIf hoj (hfree j oj hoj hji (by simpa using hjun) hnot) (fun cs b => Region.noSelect_spec hsel i oi cs b hi) (fun cs b => Region.noSelect_spec hsel j oj cs b hoj) hQ hy h1
      refine wpOp_mono (fun a' w' h3 => ?_) h2
      obtain ⟨h3, h4, h5⟩ := h3
      have hS' : S w' := by
        rcases h4 with h4 | h4
        · rw [hlast] at h4; cases h4
        · exact h4
      refine ⟨.inr hS', ih (listed.setIfInBounds j true) a' w' (hcl.step hj) (fun m om hm hmi hun hno => ?_) (ready_mono hr (Ne.symm hji)) h3 hS' ?_⟩
      · refine hfree m om hm hmi ?_ hno
        rcases Decidable.em (j = m) with rfl | hjm
        · simpa using hjun
        · rw [getD_set_ne true hjm] at hun; exact hun
      · rw [Array.setIfInBounds_comm _ _ hji]; exact h5

/-- How an operation of a region is met: taken first wherever it may come (q), or in its turn (p); a yield (y). -/
inductive Fl where
  | q | p | y
  deriving DecidableEq
/-- The orders that are walked. -/
inductive Wk where
  | nil
  | one (i : Nat) (f : Fl) (r : Wk)
  | alt (a b : Wk)
def wk : List (Nat × Fl) → Wk
  | [] => .nil
  | (i, f) :: r => .one i f (wk r)
def wkP : List Nat → Wk
  | [] => .nil
  | i :: r => .one i .p (wkP r)
/-- The order of the text, with yields perhaps. -/
def Wk.text (y : Bool) : Wk → Option (List Nat)
  | .nil => some []
  | .one i .p r => (r.text y).map (i :: ·)
  | .one i .y r => if y then (r.text y).map (i :: ·) else none
  | .one _ .q _ => none
  | .alt _ _ => none
def SqN (P : Program) (ops : Array Oper) (Ls : HL) (N : Act → World → Prop) : Wk → Act → World → Prop
  | .nil, a, w => N a w
  | .one i .q r, a, w => ∃ o v, ops[i]? = some o ∧ YieldsIf P ops (fun w => Has w Ls) o v a ∧ Has w Ls ∧ SqN P ops Ls N r (a.put o.dst v) w
  | .one i .p r, a, w => ∃ o, ops[i]? = some o ∧ if Region.wanted o (yielded ops a.tmps) = true
      then o.wp P a w (fun a' w' => (lastB ops i = true ∨ Has w' Ls) ∧ SqN P ops Ls N r a' w') (fun _ _ _ => False) else ((lastB ops i = true ∨ Has w Ls) ∧ SqN P ops Ls N r (a.put o.dst undef) w)
  | .one i .y r, a, w => ∃ o l f tmps assign body, ops[i]? = some o ∧ Region.wanted o (yielded ops a.tmps) = true ∧ (execOp a.eval o).run P w = .ok (.round l f tmps assign body) w ∧
      RoundIn Fence.wide 0 P l f tmps assign body w fun | .returned v, w'' => SqN P ops Ls N r (a.put o.dst v) w'' | _, _ => False
  | .alt x y, a, w => SqN P ops Ls N x a w ∧ SqN P ops Ls N y a w
def Wk.heads : Wk → List Nat
  | .one i .p _ => [i]
  | .alt x y => x.heads ++ y.heads
  | _ => []
def Wk.depth : Wk → Nat
  | .nil => 0
  | .one _ _ r => r.depth + 1
  | .alt x y => Nat.max x.depth y.depth
theorem Wk.heads_zero : ∀ (x : Wk), x.depth ≤ 0 → x.heads = []
  | .nil, _ => rfl
  | .one i f r, h => by simp [Wk.depth] at h
  | .alt x y, h => by
    simp only [Wk.depth] at h
    have h1 := Nat.le_trans (Nat.le_max_left x.depth y.depth) h
    have h2 := Nat.le_trans (Nat.le_max_right x.depth y.depth) h
    simp [Wk.heads, heads_zero x h1, heads_zero y h2]
/-- May the orders be walked so? -/
def okSq (ops : Array Oper) : Bool → Wk → Array Bool → Bool
  | t, .nil, listed => t && (Region.ready .any ops listed).isEmpty
  | t, .one i .q r, listed => t && Region.free .any ops listed i && (Region.ready .any ops listed).contains i && okSq ops true r (listed.setIfInBounds i true)
  | t, .one i .p r, listed => (!t || Region.ready .any ops listed == [i]) && okSq ops true r (listed.setIfInBounds i true)
  | _, .one _ .y _, _ => false
  | t, .alt x y, listed => (!t || (!(Region.ready .any ops listed).isEmpty && (Region.ready .any ops listed).all fun i => (x.heads ++ y.heads).contains i)) && (okSq ops false x listed && okSq ops false y listed)
theorem wpAnyL_nil : ∀ (k : Nat) (listed : Array Bool) (a : Act) (w : World), Region.ready .any ops listed = [] → Q .normal a w → wpAnyL P ops Q S k listed a w
  | 0, _, _, _, h, hq => ⟨h, hq⟩
  | _ + 1, _, _, _, h, hq => ⟨fun _ => hq, fun i hi => by rw [h] at hi; cases hi⟩
def nQ (N : Act → World → Prop) : Exit → Act → World → Prop := fun e a w => match e with | .normal => N a w | _ => False
theorem SqN_any {Ls : HL} {N : Act → World → Prop} (hsel : Region.noSelect ops = true) : ∀ (σ : Wk) (k : Nat) (t : Bool) (listed : Array Bool) (a : Act) (w : World), σ.depth ≤ k → Closed ops listed → okSq ops t σ listed = true →
    SqN P ops Ls N σ a w → (t = true → wpAnyL P ops (nQ N) (fun w => Has w Ls) k listed a w) ∧
      (t = false → ∀ i ∈ σ.heads, i ∈ Region.ready .any ops listed → wpOp P ops (nQ N) i (fun a' w' => (lastB ops i = true ∨ Has w' Ls) ∧ wpAnyL P ops (nQ N) (fun w => Has w Ls) (k - 1) (listed.setIfInBounds i true) a' w') a w)
  | .nil, k, t, listed, a, w, _, _, hk, h => by
    simp only [okSq, Bool.and_eq_true] at hk
    exact ⟨fun _ => wpAnyL_nil k _ _ _ (by simpa using hk.2) h, fun ht => by rw [ht] at hk; simp at hk⟩
  | .one i .q r, k, t, listed, a, w, hd, hcl, hk, h => by
    simp only [okSq, Bool.and_eq_true] at hk
    obtain ⟨o, v, ho, hy, hL, hr⟩ := h
    have hmem : i ∈ Region.ready .any ops listed := by simpa using hk.1.2
    refine ⟨fun _ => ?_, fun ht => by rw [ht] at hk; simp at hk⟩
    obtain ⟨k, rfl⟩ : ∃ k', k = k' + 1 := ⟨k - 1, by simp only [Wk.depth] at hd; omega⟩
    exact wpAnyL_first ho hsel (fun _ _ _ h => h) _ _ _ _ hcl (Region.free_spec ho hk.1.1.2) hmem hy hL ((SqN_any hsel r k true _ _ _ (by simp only [Wk.depth] at hd; omega) (hcl.step hmem) hk.2 hr).1 rfl)
  | .one i .p r, k, t, listed, a, w, hd, hcl, hk, h => by
    simp only [okSq, Bool.and_eq_true, Bool.or_eq_true, Bool.not_eq_true', beq_iff_eq] at hk
    obtain ⟨k, rfl⟩ : ∃ k', k = k' + 1 := ⟨k - 1, by simp only [Wk.depth] at hd; omega⟩
    obtain ⟨o, ho, hr⟩ := h
    have key : i ∈ Region.ready .any ops listed → wpOp P ops (nQ N) i (fun a' w' => (lastB ops i = true ∨ Has w' Ls) ∧ wpAnyL P ops (nQ N) (fun w => Has w Ls) k (listed.setIfInBounds i true) a' w') a w := fun hmem => by
      have hcl' := hcl.step hmem
      have hd' : r.depth ≤ k := by simp only [Wk.depth] at hd; omega
      unfold wpOp
      simp only [ho]
      split
      · rename_i hw
        rw [if_pos hw] at hr
        left
        have key := Oper.wp_mono (fun a' w' h' => (⟨h'.1, (SqN_any hsel r k true _ _ _ hd' hcl' hk.2 h'.2).1 rfl⟩ : (lastB ops i = true ∨ Has w' Ls) ∧ _)) hr
        unfold Oper.wp at key ⊢
        generalize (execOp a.eval o).run P w = res at *
        cases res with
        | ok nx w' =>
          cases nx <;> simp only [Oper.upon] at key ⊢ <;> exact key
        | halt x w' => cases x <;> simp only [Oper.upon] at key ⊢ <;> exact key.elim
      · rename_i hw
        rw [if_neg hw] at hr
        exact ⟨hr.1, (SqN_any hsel r k true _ _ _ hd' hcl' hk.2 hr.2).1 rfl⟩
    refine ⟨fun ht => ?_, fun _ j hj hrd => ?_⟩
    · have hrd : Region.ready .any ops listed = [i] := by
        rcases hk.1 with h | h
        · rw [ht] at h; cases h
        · exact h
      refine ⟨(fun h0 => by rw [hrd] at h0; cases h0), fun j hj => ?_⟩
      have hj' := hj
      rw [hrd, List.mem_singleton] at hj'
      subst hj'
      exact key hj
    · simp only [Wk.heads, List.mem_singleton] at hj
      subst hj
      exact key hrd
  | .one i .y r, _, _, listed, a, w, _, _, hk, h => by simp [okSq] at hk
  | .alt x y, k, t, listed, a, w, hd, hcl, hk, h => by
    simp only [okSq, Bool.and_eq_true, Bool.or_eq_true, Bool.not_eq_true', List.all_eq_true] at hk
    simp only [Wk.depth] at hd
    have hdx : x.depth ≤ k := Nat.le_trans (Nat.le_max_left _ _) hd
    have hdy : y.depth ≤ k := Nat.le_trans (Nat.le_max_right _ _) hd
    have h1 := (SqN_any hsel x k false listed a w hdx hcl hk.2.1 h.1).2 rfl
    have h2 := (SqN_any hsel y k false listed a w hdy hcl hk.2.2 h.2).2 rfl
    have key : ∀ i ∈ x.heads ++ y.heads, i ∈ Region.ready .any ops listed → _ := fun i hi hr => (List.mem_append.1 hi).elim (fun h => h1 i h hr) (fun h => h2 i h hr)
    refine ⟨fun ht => ?_, fun _ i hi hr => key i hi hr⟩
    have hne : Region.ready .any ops listed ≠ [] ∧ ∀ i ∈ Region.ready .any ops listed, i ∈ x.heads ++ y.heads := by
      rcases hk.1 with h | h
      · rw [ht] at h; cases h
      · exact ⟨fun e => by rw [e] at h; simp at h, fun i hi => by simpa using h.2 i hi⟩
    cases k with
    | zero =>
      exfalso
      have e1 := Wk.heads_zero x (by omega)
      have e2 := Wk.heads_zero y (by omega)
      cases hrd : Region.ready .any ops listed with
      | nil => exact hne.1 hrd
      | cons i rest =>
        have := hne.2 i (by rw [hrd]; exact List.mem_cons_self)
        rw [e1, e2] at this; cases this
    | succ k => exact ⟨fun h0 => absurd h0 hne.1, fun i hi => key i (hne.2 i hi) hi⟩
end

section
variable {P : Program} {w0 : World} {F : List Nat} {R : HL} {n : Cfg} {l : Env} {L : HL} {N : Act → World → Prop} {X : List (Nat × (Act → World → Prop))} {Rt : Act → World → Prop}
/-- A state inside a region. -/
def GS (w0 : World) (F : List Nat) (R : HL) (n : Cfg) (Ls : HL) (M : Act → World → Prop) (l : Env) (L : HL) : Prop := ∀ a w, St w0 F R n l L a w → Has w Ls → M a w
theorem toQ_panicless {q : Po} {e : Exit} {a : Act} {w : World} (h : (fun (e : Exit) a w => match e with | .normal => q.N a w | _ => False) e a w) : toQ q e a w := by
  cases e <;> first | exact h | exact h.elim
/-- A region that draws its order. -/
theorem gDraw {id : Nat} {ops : Array Oper} (Ls : HL) (σ : Wk) (hm : P.follows .mixedOrders = true) (hsel : Region.noSelect ops = true) (hsz : Nat.ble σ.depth ops.size = true)
    (hk : okSq ops true σ (Array.replicate ops.size false) = true) (hL : ∀ x ∈ Ls, x ∈ L ++ R) (h : GS w0 F R n Ls (SqN P ops Ls N σ) l L) :
    GN w0 F R n (CW P (.region id ops true) N X Rt) l L := fun a w st => by
  have st' : St w0 F R n l L a { w with drawn := w.drawn + 1 } := ⟨st.env, st.has, st.nd, st.own, st.ro, st.rk, st.upd.drew⟩
  have h1 := (SqN_any hsel σ ops.size true _ a _ (Nat.le_of_ble_eq_true hsz) (fun m om hm hl => by
    exfalso
    have hlt : m < ops.size := (Array.getElem?_eq_some_iff.1 hm).1
    simp [hlt] at hl) hk (h a _ st' ((st.has.app st.ro).sub hL))).1 rfl
  exact wp_mono (wp_region_any hm (wpAnyL_any _ _ _ _ h1)) fun e a w hq => toQ_panicless (q := ⟨N, X, Rt⟩) hq
/-- The fence that asks nothing, in a round or not. -/
def wideAt (ro : Option Nat) : Fence := { Fence.wide with round := ro }
theorem wp_wpIn {P : Program} {ro : Option Nat} {o : Oper} (hd : ro = none ∨ ∀ c, o.op ≠ .defer c) {a : Act} {w : World} {next next' : Act → World → Prop} {Q : Exit → Act → World → Prop} (hn : ∀ a w, next a w → next' a w)
    (h : o.wp P a w next (fun _ _ _ => False)) : o.wpIn (wideAt ro) 0 P a w next' Q := by
  refine ⟨fun _ _ => trivial, ?_⟩
  have e : o.semAt (wideAt ro).round a.eval = execOp a.eval o := by
    rcases hd with rfl | hd
    · rfl
    · exact Oper.semAt_eq _ _ _ hd
  rw [e]
  have key := Oper.wp_mono hn h
  unfold Oper.wp at key
  generalize (execOp a.eval o).run P w = res at *
  cases res with
  | ok nx w' =>
    cases nx <;> simp only [Oper.upon] at key <;> simp only [Oper.uponIn] <;> first
      | exact key
      | exact ⟨fun h => by simp [wideAt, Fence.wide] at h, (show CallsIn Fence.wide _ P _ _ _ _ from callsIn_wide.2 (key.mono fun e w'' he => by cases e <;> first | exact he | exact he.elim | exact (let ⟨_, _, h⟩ := he; h.elim)))⟩
      | exact ⟨fun h => by simp [wideAt, Fence.wide] at h, fun c cs _ => let ⟨v, w2, h1, h2⟩ := key c cs; ⟨v, w2, h1, (show StepsIn (Machine.fenced P Fence.wide) P _ _ from stepsIn_wide.2 h2)⟩⟩
      | exact key.elim
  | halt x w' => cases x <;> simp only [Oper.upon] at key <;> exact key.elim
theorem SqN_ops {ops : Array Oper} {N : Act → World → Prop} {ro : Option Nat} {Q : Exit → Act → World → Prop} (hd : ro = none ∨ ∀ (i : Nat) (o : Oper), ops[i]? = some o → ∀ c, o.op ≠ .defer c) (hQ : ∀ a w, N a w → Q .normal a w) :
    ∀ (r : Wk) (is : List Nat) (a : Act) (w : World), r.text (ro.isNone) = some is → SqN P ops [] N r a w → wpOpsIn (wideAt ro) 0 P ops Q is a w
  | .nil, is, _, _, hq, h => by simp [Wk.text] at hq; subst hq; exact hQ _ _ h
  | .one i .q r, is, a, w, hq, h => by simp [Wk.text] at hq
  | .alt x y, is, a, w, hq, h => by simp [Wk.text] at hq
  | .one i .p r, is, a, w, hq, h => by
    obtain ⟨o, ho, hr⟩ := h
    simp only [Wk.text, Option.map_eq_some_iff] at hq
    obtain ⟨js, hjs, rfl⟩ := hq
    simp only [wpOpsIn, ho]
    split
    · rename_i hw
      rw [if_pos hw] at hr
      exact wp_wpIn (hd.imp id fun h c => h i o ho c) (fun a' w' h' => SqN_ops hd hQ r js a' w' hjs h'.2) hr
    · rename_i hw
      rw [if_neg hw] at hr
      exact ⟨fun _ _ => trivial, SqN_ops hd hQ r js _ _ hjs hr.2⟩
  | .one i .y r, is, a, w, hq, h => by
    simp only [Wk.text] at hq
    cases ro with
    | some l => simp at hq
    | none =>
      obtain ⟨js, hjs, rfl⟩ : ∃ js, r.text true = some js ∧ i :: js = is := by simpa [Option.map_eq_some_iff] using hq
      obtain ⟨o, l, f, tmps, assign, body, ho, hw, hrun, hr⟩ := h
      simp only [wpOpsIn, ho]
      rw [if_pos hw]
      refine ⟨fun _ _ => trivial, ?_⟩
      rw [show o.semAt (wideAt none).round a.eval = execOp a.eval o from rfl, hrun, Oper.uponIn_round]
      refine ⟨fun h => by simp [wideAt, Fence.wide] at h, RoundIn.mono hr fun e w' he => ?_⟩
      cases e with
      | returned v => exact SqN_ops (.inl rfl) hQ r js _ _ hjs he
      | panicked c => exact he.elim
      | outgrown => exact he.elim
theorem gText {id : Nat} {ops : Array Oper} {σ : Wk} (hσ : σ.text true = some (List.range ops.size)) (h : GS w0 F R n [] (SqN P ops [] N σ) l L) : GN w0 F R n (CW P (.region id ops false) N X Rt) l L := fun a w st => by
  have h1 := SqN_ops (ro := none) (Q := toQ ⟨N, X, Rt⟩) (.inl rfl) (fun _ _ h => h) σ _ a w hσ (h a w st (fun x hx => nomatch hx))
  exact wpIn_wide.1 (wpIn_region h1)
theorem gAlt {Ls : HL} {ops : Array Oper} {x y : Wk} (hx : GS w0 F R n Ls (SqN P ops Ls N x) l L) (hy : GS w0 F R n Ls (SqN P ops Ls N y) l L) : GS w0 F R n Ls (SqN P ops Ls N (.alt x y)) l L := fun a w st hL => ⟨hx a w st hL, hy a w st hL⟩
theorem gs_nil {Ls : HL} {ops : Array Oper} (h : GN w0 F R n N l L) : GS w0 F R n Ls (SqN P ops Ls N .nil) l L := fun a w st _ => h a w st
end
end TB
namespace TB
open Go

/- HEAP LISTS -/
/-- Where a block stands in a list, and the list with another object there. -/
class Slot (L : HL) (b : Nat) (o : outParam Obj) (f : outParam (Obj → HL)) : Prop where
  mem : (b, o) ∈ L
  upd : ∀ o', ∃ A B, L = A ++ (b, o) :: B ∧ f o' = A ++ (b, o') :: B
instance Slot.here (b : Nat) (o : Obj) (L : HL) : Slot ((b, o) :: L) b o (fun o' => (b, o') :: L) := ⟨List.mem_cons_self, fun _ => ⟨[], L, rfl, rfl⟩⟩
instance (priority := 500) Slot.there (b : Nat) (o : Obj) (L : HL) (f : Obj → HL) (x : Nat × Obj) [h : Slot L b o f] : Slot (x :: L) b o (fun o' => x :: f o') :=
  ⟨List.mem_cons_of_mem _ h.mem, fun o' => let ⟨A, B, h1, h2⟩ := h.upd o'; ⟨x :: A, B, by rw [h1]; rfl, by rw [h2]; rfl⟩⟩
instance (priority := 400) Slot.right (b : Nat) (o : Obj) (A L : HL) (f : Obj → HL) [h : Slot L b o f] : Slot (A ++ L) b o (fun o' => A ++ f o') :=
  ⟨List.mem_append_right _ h.mem, fun o' => let ⟨A', B, h1, h2⟩ := h.upd o'; ⟨A ++ A', B, by rw [h1]; simp, by rw [h2]; simp⟩⟩
instance (priority := 300) Slot.left (b : Nat) (o : Obj) (A L : HL) (f : Obj → HL) [h : Slot A b o f] : Slot (A ++ L) b o (fun o' => f o' ++ L) :=
  ⟨List.mem_append_left _ h.mem, fun o' => let ⟨A', B, h1, h2⟩ := h.upd o'; ⟨A', B ++ L, by rw [h1]; simp, by rw [h2]; simp⟩⟩
/-- A segment brought to the front. -/
class Front (A L : HL) (B : outParam HL) : Prop where
  perm : L.Perm (A ++ B)
instance Front.nil (L : HL) : Front [] L L := ⟨List.Perm.refl _⟩
instance (priority := 900) Front.all (A : HL) : Front A A [] := ⟨by simp⟩
instance (priority := 900) Front.here (A B : HL) : Front A (A ++ B) B := ⟨List.Perm.refl _⟩
instance (priority := 900) Front.one (x : Nat × Obj) (B : HL) : Front [x] (x :: B) B := ⟨List.Perm.refl _⟩
instance (priority := 500) Front.there (A B C : HL) (x : Nat × Obj) [h : Front A B C] : Front A (x :: B) (x :: C) := ⟨(h.perm.cons x).trans (List.perm_middle.symm)⟩
instance (priority := 400) Front.app (A B C D : HL) [h : Front A B C] : Front A (D ++ B) (D ++ C) :=
  ⟨(h.perm.append_left D).trans (by rw [← List.append_assoc, ← List.append_assoc]; exact (List.perm_append_comm).append_right C)⟩
/-- Each of a list stands in another one. -/
class Among (A L : HL) : Prop where
  sub : ∀ x ∈ A, x ∈ L
instance Among.nil (L : HL) : Among [] L := ⟨fun _ h => nomatch h⟩
instance Among.cons (b : Nat) (o : Obj) (A L : HL) (f : Obj → HL) [h : Slot L b o f] [k : Among A L] : Among ((b, o) :: A) L := ⟨fun x hx => by
  rcases List.mem_cons.1 hx with rfl | hx; exact h.mem; exact k.sub x hx⟩
instance (priority := 900) Among.refl (A : HL) : Among A A := ⟨fun _ h => h⟩
instance (priority := 800) Among.pre (A B : HL) : Among A (A ++ B) := ⟨fun _ h => List.mem_append_left _ h⟩
instance (priority := 700) Among.post (A B L : HL) [h : Among A L] : Among A (B ++ L) := ⟨fun _ hx => List.mem_append_right _ (h.sub _ hx)⟩
instance (priority := 600) Among.left (A B L : HL) [h : Among A B] : Among A (B ++ L) := ⟨fun _ hx => List.mem_append_left _ (h.sub _ hx)⟩
instance (priority := 650) Among.tail (A L : HL) (x : Nat × Obj) [h : Among A L] : Among A (x :: L) := ⟨fun _ hx => List.mem_cons_of_mem _ (h.sub _ hx)⟩
instance (priority := 950) Among.app (A B L : HL) [h : Among A L] [k : Among B L] : Among (A ++ B) L := ⟨fun x hx => by
  rcases List.mem_append.1 hx with h1 | h1; exact h.sub x h1; exact k.sub x h1⟩

/-- Some blocks of a list, by their numbers. -/
class Pick (bs : List Nat) (L : HL) (Ls : outParam HL) : Prop where
  sub : ∀ x ∈ Ls, x ∈ L
instance Pick.nil (L : HL) : Pick [] L [] := ⟨fun _ h => nomatch h⟩
instance Pick.cons (b : Nat) (bs : List Nat) (o : Obj) (L Ls : HL) (f : Obj → HL) [h : Slot L b o f] [k : Pick bs L Ls] : Pick (b :: bs) L ((b, o) :: Ls) := ⟨fun x hx => by
  rcases List.mem_cons.1 hx with rfl | hx; exact h.mem; exact k.sub x hx⟩
theorem keys_perm {L L' : HL} (h : L.Perm L') : (keys L).Perm (keys L') := h.map _
theorem Has.perm {w : World} {L L' : HL} (h : Has w L) (p : L.Perm L') : Has w L' := fun x hx => h x (p.mem_iff.2 hx)
section
variable {w0 : World} {F : List Nat} {R : HL} {n : Cfg} {l : Env} {L : HL} {a : Act} {w : World}
theorem St.perm {L' : HL} (s : St w0 F R n l L a w) (p : L.Perm L') : St w0 F R n l L' a w :=
  ⟨s.env, s.has.perm p, (keys_perm p).nodup_iff.1 s.nd, fun k hk => s.own k ((keys_perm p).mem_iff.2 hk), s.ro, s.rk, s.upd⟩
theorem St.front {A B : HL} [h : Front A L B] (s : St w0 F R n l L a w) : St w0 F R n l (A ++ B) a w := s.perm h.perm
/-- Some blocks are let go. -/
theorem St.drop {A B : HL} (s : St w0 F R n l (A ++ B) a w) : St w0 F R n l B a w :=
  ⟨s.env, fun x hx => s.has x (List.mem_append_right _ hx), by have := s.nd; simp only [keys, List.map_append] at this; exact (List.nodup_append.1 this).2.1,
   fun k hk => s.own k (by simp only [keys, List.map_append]; exact List.mem_append_right _ hk), s.ro, s.rk, s.upd⟩
theorem St.env' {l' : Env} (s : St w0 F R n l L a w) (h : EnvOK n l' a) : St w0 F R n l' L a w := ⟨h, s.has, s.nd, s.own, s.ro, s.rk, s.upd⟩
/-- A new block. -/
theorem St.alloc (s : St w0 F R n l L a w) (o : Obj) : St w0 F R n l ((w.heap.size, o) :: L) a (w.alloc o) :=
  ⟨s.env, fun x hx => by
      rcases List.mem_cons.1 hx with rfl | hx
      · show (w.heap.push o)[w.heap.size]? = some o; simp
      · have := s.has.lt hx
        show (w.heap.push o)[x.1]? = _
        rw [Array.getElem?_push, if_neg (by omega)]; exact s.has x hx,
   by simp only [keys, List.map_cons, List.nodup_cons]; exact ⟨fun h => absurd (s.has.klt h) (Nat.lt_irrefl _), s.nd⟩,
   fun k hk => by
      simp only [keys, List.map_cons, List.mem_cons] at hk
      rcases hk with rfl | hk
      · exact .inr s.upd.size
      · exact s.own k hk,
   fun x hx => by
      have := s.ro.lt hx
      show (w.heap.push o)[x.1]? = _
      rw [Array.getElem?_push, if_neg (by omega)]; exact s.ro x hx,
   s.rk, s.upd.trans (F' := []) ⟨rfl, rfl, rfl, by show _ ≤ (w.heap.push o).size; simp, fun b hb _ => by show (w.heap.push o)[b]? = _; rw [Array.getElem?_push, if_neg (by omega)]⟩ (fun x hx => nomatch hx)⟩
theorem Has.alloc {w : World} {L : HL} (h : Has w L) (o : Obj) : Has (w.alloc o) L := fun x hx => by
  have := h.lt hx
  show (w.heap.push o)[x.1]? = _
  rw [Array.getElem?_push, if_neg (by omega)]; exact h x hx
/-- An object turned. -/
theorem St.set {b : Nat} {o o' : Obj} {f : Obj → HL} [h : Slot L b o f] (s : St w0 F R n l L a w) {w' : World} (hw : w'.heap = w.heap.setIfInBounds b o') (h1 : w'.os = w.os) (h2 : w'.tape = w.tape) (h3 : w'.output = w.output) :
    St w0 F R n l (f o') a w' := by
  obtain ⟨A, B, hL, hf⟩ := h.upd o'
  have hlt := s.has.lt h.mem
  have hb : ∀ k, k ≠ b → w'.heap[k]? = w.heap[k]? := fun k hk => by rw [hw, Array.getElem?_setIfInBounds_ne (Ne.symm hk)]
  have nd := s.nd
  rw [hL] at nd
  simp only [keys, List.map_append, List.map_cons] at nd
  have hd := List.nodup_append.1 nd
  have hd2 := List.nodup_cons.1 hd.2.1
  have hk : keys (f o') = keys L := by rw [hf, hL]; simp
  refine ⟨s.env, fun x hx => ?_, by rw [hk]; exact s.nd, by rw [hk]; exact s.own, fun x hx => ?_, s.rk, ?_⟩
  · rw [hf] at hx
    rcases List.mem_append.1 hx with hx | hx
    · rw [hb x.1 (fun e => hd.2.2 x.1 (List.mem_map_of_mem hx) b (by simp) e)]
      exact s.has x (by rw [hL]; exact List.mem_append_left _ hx)
    · rcases List.mem_cons.1 hx with rfl | hx
      · show w'.heap[b]? = some o'
        rw [hw]; simp [hlt]
      · rw [hb x.1 (fun e => hd2.1 (e ▸ List.mem_map_of_mem hx))]
        exact s.has x (by rw [hL]; exact List.mem_append_right _ (List.mem_cons_of_mem _ hx))
  · rw [hb x.1 (fun e => s.dis x.1 (List.mem_map_of_mem hx) (e ▸ List.mem_map_of_mem h.mem))]
    exact s.ro x hx
  · refine s.upd.trans (F' := [b]) ⟨h1, h2, h3, by rw [hw]; simp, fun k _ hn => hb k (by simpa using hn)⟩ (fun x hx => ?_)
    rw [List.mem_singleton] at hx; subst hx
    exact s.own _ (List.mem_map_of_mem h.mem)
end

/- FACTS ON TYPES -/
def TA (P : Program) (t k : Nat) : Prop := (∀ w, (isAgg t).run P w = .ok true w) ∧ ∀ w, (Go.sizeOf t).run P w = .ok k w
def T1 (P : Program) (t : Nat) : Prop := (∀ w, (isAgg t).run P w = .ok false w) ∧ ∀ w, (Go.sizeOf t).run P w = .ok 1 w
/-- The zero value's cells. -/
def ZC (P : Program) (t : Nat) (cl : List Value) : Prop := ∀ w, ∃ v, (zeroValue t).run P w = .ok v w ∧ v.cells = cl.toArray
def FA (P : Program) (s f off : Nat) : Prop := ∀ b o w, (Instr.fieldAt s (.pointer (some ⟨b, o, none⟩)) f).run P w = .ok (.pointer (some ⟨b, o + off, none⟩)) w
def EN (P : Program) (f : Nat) : Prop := ∀ args w, (callFunc f args).run P w = .ok (.enter f args) w
/-- the list, laid out -/
def cpy : List Value → Option (List Value)
  | [] => some []
  | v :: l => match cpy l with
    | some r => some (v :: r)
    | none => none
theorem cpy_eq : ∀ {l r : List Value}, cpy l = some r → r = l
  | [], r, h => by simp [cpy] at h; exact h
  | v :: l, r, h => by
    simp only [cpy] at h
    cases hc : cpy l with
    | none => simp [hc] at h
    | some q => rw [hc] at h; simp at h; rw [← h, cpy_eq hc]
def celO (v : Value) : Option (List Value) := match v with
  | .agg cs => cpy cs.toList
  | .tuple _ => none
  | v => some [v]
theorem celO_cells {v : Value} {cl : List Value} (h : celO v = some cl) : v.cells = cl.toArray := by
  cases v <;> simp only [celO] at h <;> first | (simp at h; subst h; rfl) | (have := cpy_eq h; subst this; simp [Value.cells]) | cases h
/-- k cells from o on, laid out -/
def tk : Nat → Nat → List Value → Option (List Value)
  | _, 0, _ => some []
  | 0, _ + 1, [] => none
  | 0, k + 1, v :: l => match tk 0 k l with
    | some r => some (v :: r)
    | none => none
  | _ + 1, _ + 1, [] => none
  | o + 1, k + 1, _ :: l => tk o (k + 1) l
theorem tk_spec : ∀ {o k : Nat} {l r : List Value}, tk o k l = some r → r.length = k ∧ ∀ j v, r[j]? = some v → l[o + j]? = some v
  | o, 0, l, r, h => by
    cases o <;> (simp [tk] at h; subst h; simp)
  | 0, k + 1, [], r, h => by simp [tk] at h
  | 0, k + 1, v :: l, r, h => by
    simp only [tk] at h
    cases hc : tk 0 k l with
    | none => simp [hc] at h
    | some q =>
      rw [hc] at h; simp at h; subst h
      obtain ⟨h1, h2⟩ := tk_spec hc
      refine ⟨by simp [h1], fun j u hj => ?_⟩
      cases j with
      | zero => simpa using hj
      | succ j => simp at hj ⊢; simpa using h2 j u hj
  | o + 1, k + 1, [], r, h => by simp [tk] at h
  | o + 1, k + 1, v :: l, r, h => by
    simp only [tk] at h
    obtain ⟨h1, h2⟩ := tk_spec h
    exact ⟨h1, fun j u hj => by have := h2 j u hj; rw [show o + 1 + j = (o + j) + 1 by omega]; simpa using this⟩
/-- the cells with some turned, laid out -/
def up : Nat → List Value → List Value → Option (List Value)
  | _, [], l => cpy l
  | 0, _ :: _, [] => none
  | 0, v :: vs, _ :: l => match up 0 vs l with
    | some r => some (v :: r)
    | none => none
  | _ + 1, _ :: _, [] => none
  | o + 1, v :: vs, u :: l => match up o (v :: vs) l with
    | some r => some (u :: r)
    | none => none
theorem up_spec : ∀ {o : Nat} {vs l r : List Value}, up o vs l = some r → o + vs.length ≤ l.length ∨ vs = [] ∧ r = l
  | _, [], l, r, h => by right; exact ⟨rfl, cpy_eq (by cases l <;> simpa [up] using h)⟩
  | 0, v :: vs, [], r, h => by simp [up] at h
  | 0, v :: vs, u :: l, r, h => by
    simp only [up] at h
    cases hc : up 0 vs l with
    | none => simp [hc] at h
    | some q =>
      left
      rcases up_spec hc with h1 | ⟨h1, _⟩
      · simp at h1 ⊢; omega
      · subst h1; simp
  | o + 1, v :: vs, [], r, h => by simp [up] at h
  | o + 1, v :: vs, u :: l, r, h => by
    simp only [up] at h
    cases hc : up o (v :: vs) l with
    | none => simp [hc] at h
    | some q =>
      left
      rcases up_spec hc with h1 | ⟨h1, _⟩
      · simp at h1 ⊢; omega
      · cases h1
theorem up_eq : ∀ {o : Nat} {vs l r : List Value}, up o vs l = some r → r = l.take o ++ vs ++ l.drop (o + vs.length)
  | o, [], l, r, h => by have := cpy_eq (r := r) (l := l) (by cases l <;> simpa [up] using h); simp [this]
  | 0, v :: vs, [], r, h => by simp [up] at h
  | 0, v :: vs, u :: l, r, h => by
    simp only [up] at h
    cases hc : up 0 vs l with
    | none => simp [hc] at h
    | some q => rw [hc] at h; simp at h; have := up_eq hc; subst h; simp [this]
  | o + 1, v :: vs, [], r, h => by simp [up] at h
  | o + 1, v :: vs, u :: l, r, h => by
    simp only [up] at h
    cases hc : up o (v :: vs) l with
    | none => simp [hc] at h
    | some q => rw [hc] at h; simp at h; have := up_eq hc; subst h; simp [this, Nat.succ_add]
def nth : Nat → List Value → Option Value
  | _, [] => none
  | 0, v :: _ => some v
  | o + 1, _ :: l => nth o l
theorem nth_eq : ∀ {o : Nat} {l : List Value} {v : Value}, nth o l = some v → l[o]? = some v
  | _, [], _, h => by simp [nth] at h
  | 0, v :: l, u, h => by simpa [nth] using h
  | o + 1, v :: l, u, h => by simp only [nth] at h; simpa using nth_eq h
end TB
namespace TB
open Go
def EX (ρ : Operand → Value) (op : Op) (ty : TypeId) : Sem Next := execOp ρ { dst := none, op := op, type := ty, pos := "", after := #[], guard := none }
theorem EX_eq (ρ : Operand → Value) (o : Oper) : execOp ρ o = EX ρ o.op o.type := by cases o; rfl
def gd (ops : Array Oper) (l : Env) (o : Oper) : Option Bool :=
  match o.guard with
  | none => some true
  | some (j, want) => match (ops[j]?).bind (·.dst) with
    | none => none
    | some d => match lk d l with
      | some (.bool b) => some (b == want)
      | some (.tuple _) => some false
      | _ => none
theorem gd_wanted {ops : Array Oper} {n : Cfg} {l : Env} {o : Oper} {a : Act} {b : Bool} (h : EnvOK n l a) (hg : gd ops l o = some b) : Region.wanted o (yielded ops a.tmps) = b := by
  unfold gd at hg
  unfold Region.wanted
  cases hgu : o.guard with
  | none => rw [hgu] at hg; simp at hg; simpa using hg
  | some jw =>
    obtain ⟨j, want⟩ := jw
    rw [hgu] at hg
    simp only at hg ⊢
    cases hd : (ops[j]?).bind (·.dst) with
    | none => rw [hd] at hg; cases hg
    | some d =>
      rw [hd] at hg
      simp only at hg
      unfold yielded
      rw [hd]
      simp only [Option.bind_some]
      cases hl : lk d l with
      | none => rw [hl] at hg; cases hg
      | some v =>
        rw [hl] at hg
        have hv := h.2.2 d v hl
        rcases Nat.lt_or_ge d a.tmps.size with hlt | hge
        · simp [hlt] at hv
          simp only [Array.getElem?_eq_getElem hlt, hv]
          cases v <;> simp at hg ⊢ <;> first | (rw [← hg]; done) | exact hg | (rename_i b'; cases b' <;> cases want <;> simp_all)
        · simp [Array.getElem?_eq_none hge] at hv
          rw [Array.getElem?_eq_none hge]
          subst hv
          simp [undef] at hg
          simp [← hg]
def pre (ops : Array Oper) (n : Cfg) (l : Env) (i : Nat) : Option (Op × TypeId × Nat) :=
  match ops[i]? with
  | some o => match o.dst with
    | some d => match Nat.blt d n.k with
      | true => match gd ops l o with
        | some true => some (o.op, o.type, d)
        | _ => none
      | false => none
    | none => none
  | none => none
theorem pre_spec {ops : Array Oper} {n : Cfg} {l : Env} {i : Nat} {op : Op} {ty : TypeId} {d : Nat} (h : pre ops n l i = some (op, ty, d)) :
    ∃ o, ops[i]? = some o ∧ o.op = op ∧ o.type = ty ∧ o.dst = some d ∧ Nat.blt d n.k = true ∧ gd ops l o = some true := by
  unfold pre at h
  split at h
  · rename_i o ho
    split at h
    · rename_i d' hd
      split at h
      · rename_i hb
        split at h
        · rename_i hg
          simp at h
          obtain ⟨rfl, rfl, rfl⟩ := h
          exact ⟨o, ho, rfl, rfl, hd, hb, hg⟩
        · cases h
      · cases h
    · cases h
  · cases h
/-- an operation that yields nothing -/
def preS (ops : Array Oper) (l : Env) (i : Nat) : Option (Op × TypeId) :=
  match ops[i]? with
  | some o => match o.dst with
    | none => match gd ops l o with
      | some true => some (o.op, o.type)
      | _ => none
    | some _ => none
  | none => none
theorem preS_spec {ops : Array Oper} {l : Env} {i : Nat} {op : Op} {ty : TypeId} (h : preS ops l i = some (op, ty)) :
    ∃ o, ops[i]? = some o ∧ o.op = op ∧ o.type = ty ∧ o.dst = none ∧ gd ops l o = some true := by
  unfold preS at h
  split at h
  · rename_i o ho
    split at h
    · rename_i hd
      split at h
      · rename_i hg
        simp at h
        obtain ⟨rfl, rfl⟩ := h
        exact ⟨o, ho, rfl, rfl, hd, hg⟩
      · cases h
    · cases h
  · cases h
/-- an operation that is passed over -/
def preN (ops : Array Oper) (n : Cfg) (l : Env) (i : Nat) : Option (Option Nat) :=
  match ops[i]? with
  | some o => match gd ops l o with
    | some false => match o.dst with
      | some d => match Nat.blt d n.k with
        | true => some (some d)
        | false => none
      | none => some none
    | _ => none
  | none => none
theorem preN_spec {ops : Array Oper} {n : Cfg} {l : Env} {i : Nat} {d : Option Nat} (h : preN ops n l i = some d) :
    ∃ o, ops[i]? = some o ∧ gd ops l o = some false ∧ o.dst = d ∧ ∀ e, d = some e → Nat.blt e n.k = true := by
  unfold preN at h
  split at h
  · rename_i o ho
    split at h
    · rename_i hg
      split at h
      · rename_i d' hd
        split at h
        · rename_i hb
          simp at h; subst h
          exact ⟨o, ho, hg, hd, fun e he => by simp at he; subst he; exact hb⟩
        · cases h
      · rename_i hd
        simp at h; subst h
        exact ⟨o, ho, hg, hd, fun e he => nomatch he⟩
    · cases h
  · cases h
def putE (d : Option Nat) (v : Value) (l : Env) : Env := match d with | some d => (d, v) :: l | none => l

/-- In every such world the operation yields v and does nothing else. -/
def Runs (P : Program) (n : Cfg) (l : Env) (Lx : HL) (op : Op) (ty : TypeId) (v : Value) : Prop := ∀ a w, EnvOK n l a → Has w Lx → (EX a.eval op ty).run P w = .ok (.value v) w

section
variable {P : Program} {w0 : World} {F : List Nat} {R : HL} {n : Cfg} {l : Env} {L Ls : HL} {N : Act → World → Prop} {ops : Array Oper} {i d : Nat} {op : Op} {ty : TypeId} {r : Wk} {v : Value}
theorem St.put {a : Act} {w : World} (s : St w0 F R n l L a w) (hd : Nat.blt d n.k = true) (v : Value) : St w0 F R n ((d, v) :: l) L (a.put (some d) v) w := ⟨s.env.put hd v, s.has, s.nd, s.own, s.ro, s.rk, s.upd⟩
theorem qv (hp : pre ops n l i = some (op, ty, d)) (hr : Runs P n l Ls op ty v) (h : GS w0 F R n Ls (SqN P ops Ls N r) ((d, v) :: l) L) : GS w0 F R n Ls (SqN P ops Ls N (.one i .q r)) l L := fun a w st hL => by
  obtain ⟨o, ho, rfl, rfl, hd, hb, hg⟩ := pre_spec hp
  refine ⟨o, v, ho, .inl ⟨gd_wanted st.env hg, fun w' hw' => by rw [EX_eq]; exact hr a w' st.env hw'⟩, hL, ?_⟩
  rw [hd]; exact h _ _ (st.put hb v) hL
theorem pv (hp : pre ops n l i = some (op, ty, d)) (hr : Runs P n l (L ++ R) op ty v) (h : GS w0 F R n Ls (SqN P ops Ls N r) ((d, v) :: l) L) : GS w0 F R n Ls (SqN P ops Ls N (.one i .p r)) l L := fun a w st hL => by
  obtain ⟨o, ho, rfl, rfl, hd, hb, hg⟩ := pre_spec hp
  refine ⟨o, ho, ?_⟩
  rw [if_pos (gd_wanted st.env hg), Oper.wp, EX_eq, hr a w st.env (st.has.app st.ro), Oper.upon_value, hd]
  exact ⟨.inr hL, h _ _ (st.put hb v) hL⟩
theorem qn {d : Option Nat} (hp : preN ops n l i = some d) (h : GS w0 F R n Ls (SqN P ops Ls N r) (putE d undef l) L) : GS w0 F R n Ls (SqN P ops Ls N (.one i .q r)) l L := fun a w st hL => by
  obtain ⟨o, ho, hg, hd, hb⟩ := preN_spec hp
  refine ⟨o, undef, ho, .inr ⟨gd_wanted st.env hg, rfl⟩, hL, ?_⟩
  rw [hd]
  cases d with
  | none => exact h _ _ st hL
  | some d => exact h _ _ (st.put (hb d rfl) _) hL
theorem pn {d : Option Nat} (hp : preN ops n l i = some d) (h : GS w0 F R n Ls (SqN P ops Ls N r) (putE d undef l) L) : GS w0 F R n Ls (SqN P ops Ls N (.one i .p r)) l L := fun a w st hL => by
  obtain ⟨o, ho, hg, hd, hb⟩ := preN_spec hp
  refine ⟨o, ho, ?_⟩
  rw [if_neg (by rw [gd_wanted st.env hg]; simp), hd]
  refine ⟨.inr hL, ?_⟩
  cases d with
  | none => exact h _ _ st hL
  | some d => exact h _ _ (st.put (hb d rfl) _) hL
theorem lk_cons_of {e : Nat} {v : Value} {n : Cfg} {a : Act} (h : EnvOK n l a) (hv : lk e l = some v) : EnvOK n ((e, v) :: l) a := ⟨h.1, h.2.1, fun d u hu => by
  simp only [lk] at hu
  by_cases hd : Nat.beq d e = true
  · rw [hd] at hu; simp at hu; subst hu; rw [Nat.eq_of_beq_eq_true hd]; exact h.2.2 e v hv
  · simp only [Bool.not_eq_true] at hd; rw [hd] at hu; simp at hu; exact h.2.2 d u hu⟩
/-- the two ways of a Bool in a slot -/
theorem gB {e : Nat} {b : Bool} {M : Act → World → Prop} (he : lk e l = some (.bool b)) (ht : b = true → GS w0 F R n Ls M ((e, .bool true) :: l) L) (hf : b = false → GS w0 F R n Ls M ((e, .bool false) :: l) L) : GS w0 F R n Ls M l L := fun a w st hL => by
  cases b with
  | true => exact ht rfl a w (st.env' (lk_cons_of st.env he)) hL
  | false => exact hf rfl a w (st.env' (lk_cons_of st.env he)) hL
/-- a slot's value spelled otherwise -/
theorem gV {M : Act → World → Prop} {v u : Value} (e : Nat) (he : lk e l = some v) (hv : v = u) (h : GS w0 F R n Ls M ((e, u) :: l) L) : GS w0 F R n Ls M l L := fun a w st hL => h a w (st.env' (lk_cons_of st.env (hv ▸ he))) hL
theorem gVN {M : Act → World → Prop} {v u : Value} (e : Nat) (he : lk e l = some v) (hv : v = u) (h : GN w0 F R n M ((e, u) :: l) L) : GN w0 F R n M l L := fun a w st => h a w (st.env' (lk_cons_of st.env (hv ▸ he)))
/-- what the slots of a list hold -/
def kp (l : Env) : List Nat → Option Env
  | [] => some []
  | d :: ds => match lk d l with
    | none => none
    | some v => match kp l ds with
      | none => none
      | some r => some ((d, v) :: r)
theorem kp_ok {n : Cfg} {a : Act} (h : EnvOK n l a) : ∀ {ds : List Nat} {r : Env}, kp l ds = some r → EnvOK n r a
  | [], r, hk => by simp [kp] at hk; subst hk; exact ⟨h.1, h.2.1, fun _ _ h => nomatch h⟩
  | d :: ds, r, hk => by
    simp only [kp] at hk
    cases hd : lk d l with
    | none => simp [hd] at hk
    | some v =>
      rw [hd] at hk
      cases hr : kp l ds with
      | none => simp [hr] at hk
      | some q =>
        rw [hr] at hk; simp at hk; subst hk
        have hq := kp_ok h hr
        refine ⟨hq.1, hq.2.1, fun e u hu => ?_⟩
        simp only [lk] at hu
        by_cases he : Nat.beq e d = true
        · rw [he] at hu; simp at hu; subst hu; rw [Nat.eq_of_beq_eq_true he]; exact h.2.2 d v hd
        · simp only [Bool.not_eq_true] at he; rw [he] at hu; simp at hu; exact hq.2.2 e u hu
theorem gKeep {M : Act → World → Prop} {r : Env} (ds : List Nat) (hk : kp l ds = some r) (h : GN w0 F R n M r L) : GN w0 F R n M l L := fun a w st => h a w (st.env' (kp_ok st.env hk))
theorem gFront {M : Act → World → Prop} (A : HL) {B : HL} [h : Front A L B] (h : GN w0 F R n M l (A ++ B)) : GN w0 F R n M l L := fun a w st => h a w st.front
theorem gPerm {M : Act → World → Prop} {L' : HL} (p : L.Perm L') (h : GN w0 F R n M l L') : GN w0 F R n M l L := fun a w st => h a w (st.perm p)
theorem gDrop {M : Act → World → Prop} (A : HL) {B : HL} [h : Front A L B] (h : GN w0 F R n M l B) : GN w0 F R n M l L := fun a w st => h a w (st.front (A := A)).drop
end

section
variable {P : Program} {n : Cfg} {l : Env} {Lx : HL} {ty : TypeId} {v : Value}
theorem rMv {x : Operand} (hx : evE l x = some v) : Runs P n l Lx (.move x) ty v := fun a w h _ => by simp [EX, execOp, h.ev hx]
theorem rAs {x : Operand} (hx : evE l x = some v) : Runs P n l Lx (.assign x) ty v := fun a w h _ => by simp [EX, execOp, h.ev hx]
theorem rPk {c x y : Operand} {b : Bool} (hc : evE l c = some (.bool b)) (hx : evE l (bif b then x else y) = some v) : Runs P n l Lx (.pick c x y) ty v := fun a w h _ => by
  simp only [EX, execOp, h.ev hc, asBool]
  cases b <;> simp at hx <;> simp [h.ev hx]
theorem rNot {x : Operand} {T : TypeId} {b : Bool} (hx : evE l x = some (.bool b)) : Runs P n l Lx (.unOp .not T x) ty (.bool (!b)) := fun a w h _ => by
  simp [EX, execOp, h.ev hx, Op.unary]
theorem rFa {s f off b o : Nat} {x : Operand} (hf : FA P s f off) (hx : evE l x = some (.pointer (some ⟨b, o, none⟩))) : Runs P n l Lx (.fieldAddr s x f) ty (.pointer (some ⟨b, o + off, none⟩)) := fun a w h _ => by
  simp [EX, execOp, h.ev hx, hf b o w]
theorem rNc {x : Operand} {p : Addr} (hx : evE l x = some (.pointer (some p))) : Runs P n l Lx (.nilCheck x) ty (.pointer (some p)) := fun a w h _ => by
  simp [EX, execOp, h.ev hx]
theorem rEx {x : Operand} {i : Nat} {vs : Array Value} (hx : evE l x = some (.tuple vs)) (hv : nth i vs.toList = some v) : Runs P n l Lx (.extract x i) ty v := fun a w h _ => by
  have : vs[i]? = some v := by simpa using nth_eq hv
  simp [EX, execOp, h.ev hx, Instr.extract, this]
def BinR (P : Program) (op : BinOp) (T : TypeId) (x y v : Value) : Prop := ∀ (ox oy : Operand) (w : World), (do eqGuard op T ox oy x y; binOp op T x y : Sem Value).run P w = .ok v w
theorem rBin {bop : BinOp} {T T' : TypeId} {x y : Operand} {vx vy : Value} (hx : evE l x = some vx) (hy : evE l y = some vy) (hb : BinR P bop T vx vy v) : Runs P n l Lx (.binOp bop T x y T') ty v := fun a w h _ => by
  have := hb x y w
  simp only [EX, execOp, h.ev hx, h.ev hy]
  rw [Sem.run_bind, this]; rfl
theorem add_lit (b o i : Nat) : (⟨b, o, none⟩ : Addr).add i = ⟨b, o + i, none⟩ := by unfold Addr.add; split <;> simp_all
theorem cell_of {w : World} {b : Nat} {cl : List Value} {E : TypeId} {fr : Nat × Nat} (h : w.heap[b]? = some (.cells cl.toArray E fr)) (o : Nat) : w.cell? ⟨b, o, none⟩ = cl[o]? := by simp [World.cell?, h]
theorem rLd1 {T b o : Nat} {x : Operand} {cl : List Value} {E : TypeId} {fr : Nat × Nat} {f : Obj → HL} (hT : T1 P T) (hx : evE l x = some (.pointer (some ⟨b, o, none⟩))) [hs : Slot Lx b (.cells cl.toArray E fr) f] (hv : cl[o]? = some v) :
    Runs P n l Lx (.load T x) ty v := fun a w h hL => by
  have h1 := cell_of (hL _ hs.mem) o
  rw [hv] at h1
  simp [EX, execOp, h.ev hx, Instr.loadAt, Instr.sureAddr, loadVar, hT.1, h1]
theorem rLdN {T b o : Nat} {x : Operand} {cl : List Value} {E : TypeId} {fr : Nat × Nat} {f : Obj → HL} (hT : T1 P T) (hx : evE l x = some (.pointer (some ⟨b, o, none⟩))) [hs : Slot Lx b (.cells cl.toArray E fr) f] (hv : nth o cl = some v) :
    Runs P n l Lx (.load T x) ty v := rLd1 hT hx (nth_eq hv)
theorem rLdA' {T b o k : Nat} {x : Operand} {cl vs : List Value} {E : TypeId} {fr : Nat × Nat} {f : Obj → HL} (hT : TA P T k) (hx : evE l x = some (.pointer (some ⟨b, o, none⟩))) [hs : Slot Lx b (.cells cl.toArray E fr) f] (hk : vs.length = k) (hv : ∀ j v, vs[j]? = some v → cl[o + j]? = some v) :
    Runs P n l Lx (.load T x) ty (.agg vs.toArray) := fun a w h hL => by
  have h1 := cell_of (hL _ hs.mem)
  have h2 := run_loadCells_list (P := P) w ⟨b, o, none⟩ vs (fun j v hj => by rw [add_lit, h1]; exact hv j v hj)
  rw [hk] at h2
  simp [EX, execOp, h.ev hx, Instr.loadAt, Instr.sureAddr, loadVar, hT.1, hT.2, h2]
theorem rLdA {T b o k : Nat} {x : Operand} {cl vs : List Value} {E : TypeId} {fr : Nat × Nat} {f : Obj → HL} (hT : TA P T k) (hx : evE l x = some (.pointer (some ⟨b, o, none⟩))) [hs : Slot Lx b (.cells cl.toArray E fr) f] (hv : tk o k cl = some vs) :
    Runs P n l Lx (.load T x) ty (.agg vs.toArray) := rLdA' hT hx (tk_spec hv).1 (tk_spec hv).2
end
end TB
namespace TB
open Go
section
variable {P : Program} {w0 : World} {F : List Nat} {R : HL} {n : Cfg} {l : Env} {L Ls : HL} {N : Act → World → Prop} {ops : Array Oper} {i d : Nat} {op : Op} {ty : TypeId} {r : Wk} {v : Value}
/-- the operation makes a block -/
def Makes (P : Program) (n : Cfg) (l : Env) (Lx : HL) (op : Op) (ty : TypeId) (o : Obj) (v : Nat → Value) : Prop := ∀ a w, EnvOK n l a → Has w Lx → (EX a.eval op ty).run P w = .ok (.value (v w.heap.size)) (w.alloc o)
theorem pm {o : Obj} {v : Nat → Value} (hp : pre ops n l i = some (op, ty, d)) (hr : Makes P n l (L ++ R) op ty o v) (h : ∀ b, GS w0 F R n Ls (SqN P ops Ls N r) ((d, v b) :: l) ((b, o) :: L)) : GS w0 F R n Ls (SqN P ops Ls N (.one i .p r)) l L := fun a w st hL => by
  obtain ⟨o', ho, rfl, rfl, hd, hb, hg⟩ := pre_spec hp
  refine ⟨o', ho, ?_⟩
  rw [if_pos (gd_wanted st.env hg), Oper.wp, EX_eq, hr a w st.env (st.has.app st.ro), Oper.upon_value, hd]
  exact ⟨.inr (hL.alloc _), h _ _ _ ((st.alloc o).put hb _) (hL.alloc _)⟩
theorem mBox {T : TypeId} {x : Operand} {v : Value} {cl : List Value} {Lx : HL} (hx : evE l x = some v) (hc : celO v = some cl) : Makes P n l Lx (.box T x) ty (.cells cl.toArray T) (fun b => .pointer (some ⟨b, 0, none⟩)) := fun a w h _ => by
  simp [EX, execOp, h.ev hx, Instr.box, newVar, newRow, celO_cells hc]
theorem mAlloc {T : TypeId} {cl : List Value} {Lx : HL} (hz : ZC P T cl) : Makes P n l Lx (.alloc T) ty (.cells cl.toArray T) (fun b => .pointer (some ⟨b, 0, none⟩)) := fun a w h _ => by
  obtain ⟨v, h1, h2⟩ := hz w
  simp [EX, execOp, Instr.alloc, h1, newVar, newRow, h2]
/-- the operation turns an object -/
def Turns (P : Program) (n : Cfg) (l : Env) (Lx : HL) (op : Op) (ty : TypeId) (b : Nat) (o' : Obj) : Prop := ∀ a w, EnvOK n l a → Has w Lx → ∃ w', (EX a.eval op ty).run P w = .ok .skip w' ∧ w'.heap = w.heap.setIfInBounds b o' ∧ w'.os = w.os ∧ w'.tape = w.tape ∧ w'.output = w.output
/-- a store as the last of a region, or where nothing is held -/
theorem ps {b : Nat} {o o' : Obj} {f : Obj → HL} (hp : preS ops l i = some (op, ty)) [hs : Slot L b o f] (hr : Turns P n l (L ++ R) op ty b o') (hl : lastB ops i = true) (h : GN w0 F R n N l (f o')) : GS w0 F R n Ls (SqN P ops Ls N (.one i .p .nil)) l L := fun a w st hL => by
  obtain ⟨q, ho, rfl, rfl, hd, hg⟩ := preS_spec hp
  refine ⟨q, ho, ?_⟩
  obtain ⟨w', h1, h2, h3, h4, h5⟩ := hr a w st.env (st.has.app st.ro)
  rw [if_pos (gd_wanted st.env hg), Oper.wp, EX_eq, h1, Oper.upon_skip, hd]
  exact ⟨.inl hl, h _ _ (st.set h2 h3 h4 h5)⟩
theorem ps0 {b : Nat} {o o' : Obj} {f : Obj → HL} (hp : preS ops l i = some (op, ty)) [hs : Slot L b o f] (hr : Turns P n l (L ++ R) op ty b o') (h : GS w0 F R n [] (SqN P ops [] N r) l (f o')) : GS w0 F R n [] (SqN P ops [] N (.one i .p r)) l L := fun a w st hL => by
  obtain ⟨q, ho, rfl, rfl, hd, hg⟩ := preS_spec hp
  refine ⟨q, ho, ?_⟩
  obtain ⟨w', h1, h2, h3, h4, h5⟩ := hr a w st.env (st.has.app st.ro)
  rw [if_pos (gd_wanted st.env hg), Oper.wp, EX_eq, h1, Oper.upon_skip, hd]
  exact ⟨.inr (fun x hx => nomatch hx), h _ _ (st.set h2 h3 h4 h5) (fun x hx => nomatch hx)⟩
def ones : List Value → Bool
  | [] => true
  | v :: l => match v with
    | .agg _ => false
    | .tuple _ => false
    | _ => ones l
theorem ones_all : ∀ {l : List Value}, ones l = true → ∀ v ∈ l, v.oneCell' = true
  | [], _, _, h => nomatch h
  | v :: l, h, u, hu => by
    rcases List.mem_cons.1 hu with rfl | hu
    · cases u <;> first | rfl | simp [ones] at h
    · exact ones_all (by cases v <;> first | exact h | simp [ones] at h) u hu
theorem setRow_alike (w : World) (b : Nat) (c : Array Value) {c0 : Array Value} {E : TypeId} {fr : Nat × Nat} (hb : w.heap[b]? = some (.cells c0 E fr)) :
    (w.setRow b c).heap = w.heap.setIfInBounds b (.cells c E fr) ∧ (w.setRow b c).os = w.os ∧ (w.setRow b c).tape = w.tape ∧ (w.setRow b c).output = w.output := by
  refine ⟨?_, rfl, rfl, rfl⟩
  have hlt : b < w.heap.size := (Array.getElem?_eq_some_iff.1 hb).1
  have hv : w.heap[b] = .cells c0 E fr := (Array.getElem?_eq_some_iff.1 hb).2
  unfold World.setRow
  apply Array.ext
  · simp
  · intro k h1 h2
    simp only [Array.getElem_modify]
    split
    · rename_i hk; subst hk; simp [hv]
    · rename_i hk; rw [Array.getElem_setIfInBounds_ne _ hk]
theorem tSt {T b o k : Nat} {x y : Operand} {v : Value} {vs cl cl' : List Value} {E : TypeId} {Lx : HL} {f : Obj → HL} (hT : ∀ w, (Go.sizeOf T).run P w = .ok k w) (hx : evE l x = some (.pointer (some ⟨b, o, none⟩))) (hy : evE l y = some v)
    [hs : Slot Lx b (.cells cl.toArray E (0, 0)) f] (hc : celO v = some vs) (hk : vs.length = k) (h1 : ones vs = true) (hu : up o vs cl = some cl') (hln : Nat.ble (o + vs.length) cl.length = true) : Turns P n l Lx (.store T x y) ty b (.cells cl'.toArray E (0, 0)) := fun a w h hL => by
  have hlen : o + vs.length ≤ cl.length := Nat.le_of_ble_eq_true hln
  have hb := hL _ hs.mem
  have hst := run_storeCells_at P b o E vs 0 cl.toArray w hb (by simpa using hlen) (ones_all h1)
  have hc' := celO_cells hc
  have e : (cl.take o ++ vs ++ cl.drop (o + vs.length)).toArray = cl'.toArray := by rw [up_eq hu]
  simp only [Nat.add_zero] at hst
  rw [e] at hst
  refine ⟨_, ?_, setRow_alike w b _ hb⟩
  simp only [EX, execOp, h.ev hx, h.ev hy, Instr.storeAt, Instr.sureAddr, storeVar]
  simp [hT, hc', hk, hst]
end
end TB
namespace TB
open Go
def RetP (w : World) (F : List Nat) (Φ : Value → HL → Prop) : Ending → World → Prop
  | .returned v, w' => ∃ L', Φ v L' ∧ Has w' L' ∧ (keys L').Nodup ∧ (∀ k ∈ keys L', k ∈ F ∨ w.heap.size ≤ k) ∧ Upd w w' F
  | _, _ => False
/-- What a call of f does: R is read, L is the call's own, Φ says what it hands back and what L has become. -/
def Tr (P : Program) (f : Nat) (args : List Value) (R L : HL) (Φ : Value → HL → Prop) : Prop :=
  ∀ w, Has w R → Has w L → (keys L).Nodup → (∀ k ∈ keys R, k ∉ keys L) → Calls P f args.toArray w (RetP w (keys L) Φ)
/-- A call that reads R, lays blocks of its own perhaps, and hands back v. -/
def Pf (P : Program) (f : Nat) (args : List Value) (R : HL) (v : Value) : Prop := Tr P f args R [] (fun u L' => u = v ∧ L' = [])
def RT (P : Program) (fn : Func) (w0 : World) (F : List Nat) (Φ : Value → HL → Prop) : Act → World → Prop := fun a w =>
  (a.defers = [] ∧ ∃ v, (results fn a.tmps).run P w = .ok v w ∧ RetP w0 F Φ (.returned v) w) ∨
  ∃ D w', a.defers = [{ target := .collected D, args := #[] }] ∧ (Instr.takeDeferred D).run P w = .ok [] w' ∧ ∃ v, (results fn a.tmps).run P w' = .ok v w' ∧ RetP w0 F Φ (.returned v) w'
theorem rt_body {P : Program} {fn : Func} {w0 : World} {F : List Nat} {Φ : Value → HL → Prop} {a : Act} {w : World} (h : RT P fn w0 F Φ a w) : LeavesInM Fence.wide 0 P fn a.tmps (RetP w0 F Φ) a.defers .returning w := by
  rcases h with ⟨h1, v, h2, h3⟩ | ⟨D, w', h1, h4, v, h2, h3⟩
  · rw [h1]; exact ⟨v, h2, h3⟩
  · rw [h1]; exact ⟨by simp, .inl ⟨D, w', rfl, h4, ⟨v, h2, h3⟩⟩⟩
def en : Nat → List Value → Env
  | _, [] => []
  | k, v :: vs => (k, v) :: en (k + 1) vs
theorem en_lk : ∀ (vs : List Value) (k d : Nat) (v : Value), lk d (en k vs) = some v → k ≤ d ∧ vs[d - k]? = some v
  | [], _, _, _, h => by simp [en, lk] at h
  | u :: vs, k, d, v, h => by
    simp only [en, lk] at h
    by_cases hd : Nat.beq d k = true
    · rw [hd] at h; simp at h; subst h
      rw [Nat.eq_of_beq_eq_true hd]; simp
    · simp only [Bool.not_eq_true] at hd; rw [hd] at h; simp at h
      obtain ⟨h1, h2⟩ := en_lk vs (k + 1) d v h
      refine ⟨by omega, ?_⟩
      rw [show d - k = (d - (k + 1)) + 1 by omega]; simpa using h2
theorem trEnter {P : Program} {f : Nat} {args : List Value} {R L : HL} {Φ : Value → HL → Prop} {fn : Func} {c : Code} {n : Nat} {l : Env} (hf : P.funcs[f]? = some fn) (hb : fn.body = some c) (hn : fn.ntmps = n)
    (hl : en 0 args = l) (ha : Nat.ble args.length n = true) (h : ∀ w0, GN w0 (keys L) R ⟨n, []⟩ (CW P c (RT P fn w0 (keys L) Φ) [] (RT P fn w0 (keys L) Φ)) l L) : Tr P f args R L Φ := fun w hR hL nd hd => by
  have ha' : args.length ≤ n := by simpa using ha
  refine callsIn_wide.1 (callsIn_of_wp_marks (n := 0) hf hb trivial (wpIn_wide.2 (wp_mono (h w _ w ⟨⟨?_, rfl, ?_⟩, hL, nd, fun k hk => .inl hk, hR, fun k hk => ⟨hR.klt hk, hd k hk⟩, Upd.refl _ _⟩) ?_)))
  · simp [hn]; omega
  · intro d v hv
    subst hl
    have := (en_lk args 0 d v hv).2
    simp only [Nat.sub_zero] at this
    have hlt : d < args.length := (List.getElem?_eq_some_iff.1 this).1
    simp [hlt, Array.getElem?_append, (List.getElem?_eq_some_iff.1 this).2]
  · intro e a w hq
    cases e <;> first | exact rt_body hq | exact hq.elim
/-- the result in one place -/
def ResO (P : Program) (n : Cfg) (l : Env) (Lx : HL) (r : ResultVar) (v : Value) : Prop := ∀ (a : Act) (w : World), EnvOK n l a → Has w Lx →
  match r with
    | .tmp t => a.tmps.getD t undef = v
    | .cell x t => (do loadVar t (← asAddr (a.tmps.getD x undef)) : Sem Value).run P w = .ok v w
section
variable {P : Program} {w0 : World} {F : List Nat} {R : HL} {n : Cfg} {l : Env} {L B L' : HL} {Φ : Value → HL → Prop} {fn : Func} {v : Value} {r r1 r2 r3 r4 : ResultVar} {v1 v2 v3 v4 : Value} {Lx : HL}
theorem resT {t : Nat} (h : lk t l = some v) : ResO P n l Lx (.tmp t) v := fun a w he _ => he.2.2 t v h
theorem resN {t b o T : Nat} {cl : List Value} {E : TypeId} {fr : Nat × Nat} {f : Obj → HL} (hT : T1 P T) (h : lk t l = some (.pointer (some ⟨b, o, none⟩))) [hs : Slot Lx b (.cells cl.toArray E fr) f] (hv : nth o cl = some v) : ResO P n l Lx (.cell t T) v := fun a w he hL => by
  have h1 := cell_of (hL _ hs.mem) o
  rw [nth_eq hv] at h1
  simp only [he.2.2 t _ h]
  simp [asAddr, loadVar, hT.1, h1]
theorem resA {t b o T k : Nat} {cl vs : List Value} {E : TypeId} {fr : Nat × Nat} {f : Obj → HL} (hT : TA P T k) (h : lk t l = some (.pointer (some ⟨b, o, none⟩))) [hs : Slot Lx b (.cells cl.toArray E fr) f] (hv : tk o k cl = some vs) : ResO P n l Lx (.cell t T) (.agg vs.toArray) := fun a w he hL => by
  have h1 := cell_of (hL _ hs.mem)
  have h2 := run_loadCells_list (P := P) w ⟨b, o, none⟩ vs (fun j v hj => by rw [add_lit, h1]; exact (tk_spec hv).2 j v hj)
  rw [(tk_spec hv).1] at h2
  simp only [he.2.2 t _ h]
  simp [asAddr, loadVar, hT.1, hT.2, h2]
theorem gEnd [hF : Front L' L B] (hds : n.ds = []) (hr : ∀ a w, EnvOK n l a → Has w (L ++ R) → (results fn a.tmps).run P w = .ok v w) (hΦ : Φ v L') : GN w0 F R n (RT P fn w0 F Φ) l L := fun a w st => by
  have s2 := st.front (A := L')
  refine .inl ⟨st.env.2.1.trans hds, v, hr a w st.env (st.has.app st.ro), L', hΦ, fun x hx => s2.has x (List.mem_append_left _ hx), ?_, fun k hk => s2.own k (by simp only [keys, List.map_append]; exact List.mem_append_left _ hk), st.upd⟩
  have := s2.nd
  simp only [keys, List.map_append] at this
  exact (List.nodup_append.1 this).1
theorem gEnd0 [hF : Front L' L B] (hr : fn.results = #[]) (hΦ : Φ (.tuple #[]) L') (hds : n.ds = [] := by rfl) : GN w0 F R n (RT P fn w0 F Φ) l L := gEnd hds (fun a w _ _ => by simp [results, hr]) hΦ
theorem gEnd1 [hF : Front L' L B] (hr : fn.results = #[r]) (h : ResO P n l (L ++ R) r v) (hΦ : Φ v L') (hds : n.ds = [] := by rfl) : GN w0 F R n (RT P fn w0 F Φ) l L := gEnd hds (fun a w he hL => by
  have e1 := h a w he hL
  simp only [results, hr]
  simp only [List.mapM_toArray, List.mapM_cons, List.mapM_nil]
  cases r <;> simp only at e1 <;> simp only [Sem.run_bind, Sem.run_map, Sem.run_pure] at e1 ⊢ <;> simp only [e1, Result.andThen_ok] <;> simp) hΦ
theorem gEnd2 [hF : Front L' L B] (hr : fn.results = #[r1, r2]) (h1 : ResO P n l (L ++ R) r1 v1) (h2 : ResO P n l (L ++ R) r2 v2) (hΦ : Φ (.tuple #[v1, v2]) L') (hds : n.ds = [] := by rfl) : GN w0 F R n (RT P fn w0 F Φ) l L := gEnd hds (fun a w he hL => by
  have e1 := h1 a w he hL
  have e2 := h2 a w he hL
  simp only [results, hr]
  simp only [List.mapM_toArray, List.mapM_cons, List.mapM_nil]
  cases r1 <;> cases r2 <;> simp only at e1 e2 <;> simp only [Sem.run_bind, Sem.run_map, Sem.run_pure] at e1 e2 ⊢ <;> simp only [e1, e2, Result.andThen_ok] <;> simp) hΦ
theorem gEnd3 [hF : Front L' L B] (hr : fn.results = #[r1, r2, r3]) (h1 : ResO P n l (L ++ R) r1 v1) (h2 : ResO P n l (L ++ R) r2 v2) (h3 : ResO P n l (L ++ R) r3 v3) (hΦ : Φ (.tuple #[v1, v2, v3]) L') (hds : n.ds = [] := by rfl) : GN w0 F R n (RT P fn w0 F Φ) l L := gEnd hds (fun a w he hL => by
  have e1 := h1 a w he hL
  have e2 := h2 a w he hL
  have e3 := h3 a w he hL
  simp only [results, hr]
  simp only [List.mapM_toArray, List.mapM_cons, List.mapM_nil]
  cases r1 <;> cases r2 <;> cases r3 <;> simp only at e1 e2 e3 <;> simp only [Sem.run_bind, Sem.run_map, Sem.run_pure] at e1 e2 e3 ⊢ <;> simp only [e1, e2, e3, Result.andThen_ok] <;> simp) hΦ
end
/-- A function that held a range over a function is left. -/
theorem gTake {P : Program} {w0 : World} {F : List Nat} {R : HL} {k D : Nat} {l : Env} {L : HL} {fn : Func} {Φ : Value → HL → Prop} {f : Obj → HL} [hs : Slot L D (.deferred (some [])) f] (h : GN w0 F R ⟨k, []⟩ (RT P fn w0 F Φ) l (f (.deferred none))) :
    GN w0 F R ⟨k, [{ target := .collected D, args := #[] }]⟩ (RT P fn w0 F Φ) l L := fun a w st => by
  have st' : St w0 F R ⟨k, []⟩ l L { a with defers := [] } w := ⟨⟨st.env.1, rfl, st.env.2.2⟩, st.has, st.nd, st.own, st.ro, st.rk, st.upd⟩
  have st2 := st'.set (o' := .deferred none) (w' := w.putObj D (.deferred none)) rfl rfl rfl rfl
  rcases h _ _ st2 with ⟨_, h2⟩ | ⟨D', w', h1, _⟩
  · exact .inr ⟨D, _, st.env.2.1, run_takeDeferred (st.has _ hs.mem), h2⟩
  · cases h1
/-- A region that draws, the blocks that are held given by their numbers; what is only read is held too. -/
theorem gD {P : Program} {w0 : World} {F : List Nat} {R : HL} {n : Cfg} {l : Env} {L : HL} {N : Act → World → Prop} {X : List (Nat × (Act → World → Prop))} {Rt : Act → World → Prop} {id : Nat} {ops : Array Oper} {Ls : HL}
    (bs : List Nat) (σ : Wk) (hm : P.follows .mixedOrders = true) (hsel : Region.noSelect ops = true) (hsz : Nat.ble σ.depth ops.size = true)
    (hk : okSq ops true σ (Array.replicate ops.size false) = true) [hL : Pick bs L Ls] (h : GS w0 F R n (Ls ++ R) (SqN P ops (Ls ++ R) N σ) l L) :
    GN w0 F R n (CW P (.region id ops true) N X Rt) l L := gDraw (Ls ++ R) σ hm hsel hsz hk (fun x hx => by
      rcases List.mem_append.1 hx with h1 | h1
      · exact List.mem_append_left _ (hL.sub x h1)
      · exact List.mem_append_right _ h1) h
/-- the state at a loop's head, or at a cut -/
theorem gInvK {w0 : World} {F : List Nat} {R : HL} {n : Cfg} {l : Env} {L : HL} {σ : Type} {I : σ → Env × HL} {good : σ → Prop} (s : σ) (ds : List Nat) (hg : good s) (hk : kp l ds = some (I s).1) (hL : L = (I s).2) : GN w0 F R n (InvN w0 F R n I good) l L :=
  fun a w st => ⟨s, hg, by rw [← hL]; exact st.env' (kp_ok st.env hk)⟩
/- CALLS -/
def preC (ops : Array Oper) (n : Cfg) (l : Env) (i : Nat) : Option (Nat × List Value × Option Nat) :=
  match ops[i]? with
  | some o => match gd ops l o with
    | some true => match o.op with
      | .call c => match c.callee with
        | .value f => match evE l f with
          | some (.func (.func g) fi ca) => match evL l c.args.toList with
            | some vs => match o.dst with
              | some d => match Nat.blt d n.k with
                | true => some (g, fi.toList ++ (vs ++ ca.toList), some d)
                | false => none
              | none => some (g, fi.toList ++ (vs ++ ca.toList), none)
            | none => none
          | _ => none
        | _ => none
      | _ => none
    | _ => none
  | none => none
theorem preC_spec {P : Program} {ops : Array Oper} {n : Cfg} {l : Env} {i g : Nat} {args : List Value} {d : Option Nat} (h : preC ops n l i = some (g, args, d)) (he : EN P g) :
    ∃ o, ops[i]? = some o ∧ gd ops l o = some true ∧ o.dst = d ∧ (∀ e, d = some e → Nat.blt e n.k = true) ∧ ∀ a w, EnvOK n l a → (execOp a.eval o).run P w = .ok (.enter g args.toArray) w := by
  unfold preC at h
  split at h
  case h_2 => cases h
  rename_i o ho
  split at h
  case h_2 => cases h
  rename_i hg
  split at h
  case h_2 => cases h
  rename_i c hc
  split at h
  case h_2 => cases h
  rename_i f hf
  split at h
  case h_2 => cases h
  rename_i g' fi ca hfv
  split at h
  case h_2 => cases h
  rename_i vs hvs
  have key : EN P g' → ∀ a w, EnvOK n l a → (execOp a.eval o).run P w = .ok (.enter g' (fi.toList ++ (vs ++ ca.toList)).toArray) w := fun he' a w hE => by
    have h1 := hE.ev hfv
    have h2 : c.args.map a.eval = vs.toArray := by
      have := hE.evL hvs
      apply Array.ext'; simpa using this
    simp only [execOp, hc, resolve, hf, h1, h2, Deferred.ofValue]
    simp only [Sem.run_bind, Sem.run_pure, Result.andThen_ok, invoke]
    rw [he']
    congr 2
    simp
  split at h
  · rename_i d' hd
    split at h
    case h_2 => cases h
    rename_i hb
    simp only [Option.some.injEq, Prod.mk.injEq] at h
    obtain ⟨rfl, rfl, rfl⟩ := h
    exact ⟨o, ho, hg, hd, (fun e hx => by simp at hx; subst hx; exact hb), key he⟩
  · rename_i hd
    simp only [Option.some.injEq, Prod.mk.injEq] at h
    obtain ⟨rfl, rfl, rfl⟩ := h
    exact ⟨o, ho, hg, hd, (fun e he => nomatch he), key he⟩
section
variable {P : Program} {w0 : World} {F : List Nat} {R : HL} {n : Cfg} {l : Env} {L Ls L1 L2 R' : HL} {N : Act → World → Prop} {ops : Array Oper} {i g : Nat} {r : Wk} {args : List Value} {d : Option Nat} {Φ : Value → HL → Prop}
theorem St.called {a : Act} {w w' : World} {L' : HL} (s : St w0 F R n l (L1 ++ L2) a w) (h1 : Has w' L') (h2 : (keys L').Nodup) (h3 : ∀ k ∈ keys L', k ∈ keys L1 ∨ w.heap.size ≤ k) (h4 : Upd w w' (keys L1)) :
    St w0 F R n l (L' ++ L2) a w' ∧ ∀ {A : HL}, (∀ x ∈ A, x ∈ L2 ++ R) → Has w' A := by
  have nd := s.nd
  simp only [keys, List.map_append] at nd
  obtain ⟨n1, n2, n3⟩ := List.nodup_append.1 nd
  have l2 : ∀ k ∈ keys L2, k < w.heap.size := fun k hk => (Has.klt s.has (by simp only [keys, List.map_append]; exact List.mem_append_right _ hk))
  have d2 : ∀ k ∈ keys L2, k ∉ keys L1 := fun k hk h => n3 k h k hk rfl
  have dR : ∀ k ∈ keys R, k ∉ keys L1 := fun k hk h => s.dis k hk (by simp only [keys, List.map_append]; exact List.mem_append_left _ h)
  have H2 : Has w' L2 := Has.upd (fun x hx => s.has x (List.mem_append_right _ hx)) h4 d2
  have HR : Has w' R := s.ro.upd h4 dR
  refine ⟨⟨s.env, h1.app H2, ?_, ?_, HR, s.rk, ?_⟩, fun hA => (H2.app HR).sub hA⟩
  · simp only [keys, List.map_append]
    refine List.nodup_append.2 ⟨h2, n2, fun x hx y hy e => ?_⟩
    subst e
    rcases h3 x hx with h | h
    · exact d2 x hy h
    · exact absurd (l2 x hy) (by omega)
  · intro k hk
    simp only [keys, List.map_append, List.mem_append] at hk
    rcases hk with hk | hk
    · rcases h3 k hk with h | h
      · exact s.own k (by simp only [keys, List.map_append]; exact List.mem_append_left _ h)
      · exact .inr (Nat.le_trans s.upd.size h)
    · exact s.own k (by simp only [keys, List.map_append]; exact List.mem_append_right _ hk)
  · exact s.upd.trans h4 fun k hk => s.own k (by simp only [keys, List.map_append]; exact List.mem_append_left _ hk)
theorem St.putO {a : Act} {w : World} (s : St w0 F R n l L a w) {d : Option Nat} (hd : ∀ e, d = some e → Nat.blt e n.k = true) (v : Value) : St w0 F R n (putE d v l) L (a.put d v) w := by
  cases d with
  | none => exact s
  | some d => exact s.put (hd d rfl) v
theorem pc (hp : preC ops n l i = some (g, args, d)) (he : EN P g) (hc : Tr P g args R' L1 Φ) [h1 : Front L1 L L2] [h2 : Among R' (L2 ++ R)] [h3 : Among Ls (L2 ++ R)]
    (h : ∀ v L', Φ v L' → GS w0 F R n Ls (SqN P ops Ls N r) (putE d v l) (L' ++ L2)) : GS w0 F R n Ls (SqN P ops Ls N (.one i .p r)) l L := fun a w st hL => by
  obtain ⟨o, ho, hg, hd, hb, hrun⟩ := preC_spec hp he
  refine ⟨o, ho, ?_⟩
  have s2 := st.front (A := L1)
  have nd := s2.nd
  simp only [keys, List.map_append] at nd
  obtain ⟨n1, n2, n3⟩ := List.nodup_append.1 nd
  rw [if_pos (gd_wanted st.env hg), Oper.wp, hrun a w st.env, Oper.upon_enter]
  refine (hc w ((s2.has.app s2.ro).sub fun x hx => ?_) (fun x hx => s2.has x (List.mem_append_left _ hx)) n1 fun k hk hk1 => ?_).mono ?_
  · rcases List.mem_append.1 (h2.sub x hx) with h | h
    · exact List.mem_append_left _ (List.mem_append_right _ h)
    · exact List.mem_append_right _ h
  · obtain ⟨x, hx, rfl⟩ := List.mem_map.1 hk
    rcases List.mem_append.1 (h2.sub x hx) with h | h
    · exact n3 _ hk1 _ (List.mem_map_of_mem h) rfl
    · exact s2.dis _ (List.mem_map_of_mem h) (by simp only [keys, List.map_append]; exact List.mem_append_left _ hk1)
  · intro e w' hq
    cases e with
    | returned v =>
      obtain ⟨L', hΦ, q1, q2, q3, q4⟩ := hq
      have hs := s2.called q1 q2 q3 q4
      rw [hd]
      have hLs := hs.2 h3.sub
      exact ⟨.inr hLs, h v L' hΦ _ _ (hs.1.putO hb v) hLs⟩
    | panicked c => exact hq
    | outgrown => exact hq.elim
/-- a pure call -/
theorem pf {v : Value} (hp : preC ops n l i = some (g, args, d)) (he : EN P g) (hc : Pf P g args R' v) [h2 : Among R' (L ++ R)]
    (h : GS w0 F R n Ls (SqN P ops Ls N r) (putE d v l) L) : GS w0 F R n Ls (SqN P ops Ls N (.one i .p r)) l L := fun a w st hL => by
  obtain ⟨o, ho, hg, hd, hb, hrun⟩ := preC_spec hp he
  refine ⟨o, ho, ?_⟩
  rw [if_pos (gd_wanted st.env hg), Oper.wp, hrun a w st.env, Oper.upon_enter]
  refine (hc w ((st.has.app st.ro).sub h2.sub) (fun x hx => nomatch hx) List.nodup_nil fun k _ hk => nomatch hk).mono ?_
  intro e w' hq
  cases e with
  | returned u =>
    obtain ⟨L', ⟨rfl, rfl⟩, q1, q2, q3, q4⟩ := hq
    have hs := St.called (L1 := []) (L2 := L) st q1 q2 q3 q4
    rw [hd]
    have hLs : Has w' Ls := hL.upd q4 (fun k _ hk => nomatch hk)
    exact ⟨.inr hLs, h _ _ (hs.1.putO hb _) hLs⟩
  | panicked c => exact hq
  | outgrown => exact hq.elim
/-- the last call of a region that draws: what was held need not stay -/
theorem pcz (hp : preC ops n l i = some (g, args, d)) (he : EN P g) (hc : Tr P g args R' L1 Φ) [h1 : Front L1 L L2] [h2 : Among R' (L2 ++ R)] (hl : lastB ops i = true)
    (h : ∀ v L', Φ v L' → GN w0 F R n N (putE d v l) (L' ++ L2)) : GS w0 F R n Ls (SqN P ops Ls N (.one i .p .nil)) l L := fun a w st hL => by
  obtain ⟨o, ho, hg, hd, hb, hrun⟩ := preC_spec hp he
  refine ⟨o, ho, ?_⟩
  have s2 := st.front (A := L1)
  have nd := s2.nd
  simp only [keys, List.map_append] at nd
  obtain ⟨n1, n2, n3⟩ := List.nodup_append.1 nd
  rw [if_pos (gd_wanted st.env hg), Oper.wp, hrun a w st.env, Oper.upon_enter]
  refine (hc w ((s2.has.app s2.ro).sub fun x hx => ?_) (fun x hx => s2.has x (List.mem_append_left _ hx)) n1 fun k hk hk1 => ?_).mono ?_
  · rcases List.mem_append.1 (h2.sub x hx) with h | h
    · exact List.mem_append_left _ (List.mem_append_right _ h)
    · exact List.mem_append_right _ h
  · obtain ⟨x, hx, rfl⟩ := List.mem_map.1 hk
    rcases List.mem_append.1 (h2.sub x hx) with h | h
    · exact n3 _ hk1 _ (List.mem_map_of_mem h) rfl
    · exact s2.dis _ (List.mem_map_of_mem h) (by simp only [keys, List.map_append]; exact List.mem_append_left _ hk1)
  · intro e w' hq
    cases e with
    | returned v =>
      obtain ⟨L', hΦ, q1, q2, q3, q4⟩ := hq
      have hs := s2.called q1 q2 q3 q4
      rw [hd]
      exact ⟨.inl hl, h v L' hΦ _ _ (hs.1.putO hb v)⟩
    | panicked c => exact hq
    | outgrown => exact hq.elim
end
end TB
namespace TB
open Go
section
variable {P : Program} {T : TypeId} {k : IntKind} {a b : Int}
theorem bInt {op : BinOp} {v : Value} (h : ∀ w, (binOp op T (.int k a) (.int k b)).run P w = .ok v w) : BinR P op T (.int k a) (.int k b) v := fun ox oy w => by
  rw [Sem.run_bind]
  have : (eqGuard op T ox oy (.int k a) (.int k b)).run P w = .ok () w := by unfold eqGuard; split <;> rfl
  rw [this]; exact h w
theorem bLt : BinR P .lss T (.int k a) (.int k b) (.bool (decide (a < b))) := bInt fun w => by simp [binOp, Op.intCmp]
theorem bGt : BinR P .gtr T (.int k a) (.int k b) (.bool (decide (a > b))) := bInt fun w => by simp [binOp, Op.intCmp]
theorem bLe : BinR P .leq T (.int k a) (.int k b) (.bool (decide (a ≤ b))) := bInt fun w => by simp [binOp, Op.intCmp]
theorem bGe : BinR P .geq T (.int k a) (.int k b) (.bool (decide (a ≥ b))) := bInt fun w => by simp [binOp, Op.intCmp]
theorem bEq : BinR P .eql T (.int k a) (.int k b) (.bool (decide (a = b))) := bInt fun w => by simp [binOp, Op.intCmp]; rfl
theorem bNe : BinR P .neq T (.int k a) (.int k b) (.bool (decide (a ≠ b))) := bInt fun w => by simp [binOp, Op.intCmp]; rfl
theorem bAdd : BinR P .add T (.int k a) (.int k b) (.int k (k.wrap (a + b))) := bInt fun w => by simp [binOp, Op.intArith]
theorem bSub : BinR P .sub T (.int k a) (.int k b) (.int k (k.wrap (a - b))) := bInt fun w => by simp [binOp, Op.intArith]
theorem bMul : BinR P .mul T (.int k a) (.int k b) (.int k (k.wrap (a * b))) := bInt fun w => by simp [binOp, Op.intArith]
theorem bAddI (h : -9223372036854775808 ≤ a + b ∧ a + b ≤ 9223372036854775807) : BinR P .add T (.int .i64 a) (.int .i64 b) (.int .i64 (a + b)) := by
  have := bAdd (P := P) (T := T) (k := .i64) (a := a) (b := b)
  rwa [IntWalk.i64_in _ h] at this
theorem bSubI (h : -9223372036854775808 ≤ a - b ∧ a - b ≤ 9223372036854775807) : BinR P .sub T (.int .i64 a) (.int .i64 b) (.int .i64 (a - b)) := by
  have := bSub (P := P) (T := T) (k := .i64) (a := a) (b := b)
  rwa [IntWalk.i64_in _ h] at this
/-- Addresses in an array, or in a slice's array. -/
def IA (P : Program) (t len sz : Nat) : Prop := ∃ e, P.underlying t = some (.array len e) ∧ ∀ w, (Go.sizeOf e).run P w = .ok sz w
def IS (P : Program) (t sz : Nat) : Prop := ∃ e, P.underlying t = some (.slice e) ∧ ∀ w, (Go.sizeOf e).run P w = .ok sz w
variable {n : Cfg} {l : Env} {Lx : HL} {ty : TypeId} {v : Value}
theorem rIa {t len sz b o : Nat} {x i : Operand} {k : IntKind} {m : Int} (hf : IA P t len sz) (hx : evE l x = some (.pointer (some ⟨b, o, none⟩))) (hi : evE l i = some (.int k m)) (h : 0 ≤ m ∧ m < len) :
    Runs P n l Lx (.indexAddr t x i) ty (.pointer (some ⟨b, o + m.toNat * sz, none⟩)) := fun a w he _ => by
  obtain ⟨e, hu, hs⟩ := hf
  simp only [EX, execOp, he.ev hx, he.ev hi]
  simp [Instr.indexAt, asIntOf, run_underlying hu, Instr.sureAddr, h, hs, add_lit]
theorem rIs {t len cap sz b o : Nat} {x i : Operand} {k : IntKind} {m : Int} (hf : IS P t sz) (hx : evE l x = some (.slice (some ⟨b, o, none⟩) len cap)) (hi : evE l i = some (.int k m)) (h : 0 ≤ m ∧ m < len) :
    Runs P n l Lx (.indexAddr t x i) ty (.pointer (some ⟨b, o + m.toNat * sz, none⟩)) := fun a w he _ => by
  obtain ⟨e, hu, hs⟩ := hf
  simp only [EX, execOp, he.ev hx, he.ev hi]
  simp [Instr.indexAt, asIntOf, run_underlying hu, h, hs, add_lit]
theorem tSt1 {b o : Nat} {x y : Operand} {v : Value} {cl cl' : List Value} {E : TypeId} {f : Obj → HL} (hT : ∀ w, (Go.sizeOf T).run P w = .ok 1 w) (hx : evE l x = some (.pointer (some ⟨b, o, none⟩))) (hy : evE l y = some v)
    [hs : Slot Lx b (.cells cl.toArray E (0, 0)) f] (hc : celO v = some [v]) (h1 : ones [v] = true) (ho : o < cl.length) (hcl : cl.set o v = cl') : Turns P n l Lx (.store T x y) ty b (.cells cl'.toArray E (0, 0)) := fun a w h hL => by
  have hb := hL _ hs.mem
  have hst := run_storeCells_at P b o E [v] 0 cl.toArray w hb (by simp; omega) (ones_all h1)
  have hc' := celO_cells hc
  have e : (cl.take o ++ [v] ++ cl.drop (o + 1)).toArray = cl'.toArray := by
    rw [← hcl, List.set_eq_take_append_cons_drop, if_pos ho]; simp
  simp only [Nat.add_zero, List.length_singleton] at hst
  rw [e] at hst
  refine ⟨_, ?_, setRow_alike w b _ hb⟩
  simp only [EX, execOp, h.ev hx, h.ev hy, Instr.storeAt, Instr.sureAddr, storeVar]
  simp [hT, hc', hst]
/-- '==' of two aggregates that hold numbers, strings, Bools. -/
theorem bAgg {op : BinOp} {x y : Array Value} {v : Value} (hg : P.eqGuardType P.depth T = false) (h : ∀ w, (binOp op T (.agg x) (.agg y)).run P w = .ok v w) : BinR P op T (.agg x) (.agg y) v := fun ox oy w => by
  rw [Sem.run_bind]
  have : (eqGuard op T ox oy (.agg x) (.agg y)).run P w = .ok () w := by unfold eqGuard; split <;> simp [hg]
  rw [this]; exact h w
theorem rMf {fn : Go.Fn} {f c : Array Operand} {vf vc : List Value} (hf : evL l f.toList = some vf) (hc : evL l c.toList = some vc) : Runs P n l Lx (.makeFunc fn f c) ty (.func fn vf.toArray vc.toArray) := fun a w he _ => by
  have h1 : f.map a.eval = vf.toArray := by apply Array.ext'; simpa using he.evL hf
  have h2 : c.map a.eval = vc.toArray := by apply Array.ext'; simpa using he.evL hc
  simp [EX, execOp, h1, h2, Instr.makeFunc]
theorem rLen {t : TypeId} {x : Operand} {p : Option Addr} {len cap : Nat} (hf : ∃ e, P.underlying t = some (.slice e)) (hx : evE l x = some (.slice p len cap)) : Runs P n l Lx (.call ⟨.builtin .len, #[x], #[t]⟩) ty (.int .i64 len) := fun a w he _ => by
  obtain ⟨e, hu⟩ := hf
  simp [EX, execOp, resolve, he.ev hx, invoke, builtin, Builtin.len_, run_underlying hu, goInt]
theorem rLenS {t : TypeId} {x : Operand} {s : ByteArray} (hu : P.underlying t = some .string) (hx : evE l x = some (.string s)) : Runs P n l Lx (.call ⟨.builtin .len, #[x], #[t]⟩) ty (.int .i64 s.size) := fun a w he _ => by
  simp [EX, execOp, resolve, he.ev hx, invoke, builtin, Builtin.len_, run_underlying hu, goInt]
theorem rMax2 {t1 t2 : TypeId} {x y : Operand} {k k' : IntKind} {a b : Int} (hx : evE l x = some (.int k a)) (hy : evE l y = some (.int k' b)) : Runs P n l Lx (.call ⟨.builtin .max, #[x, y], #[t1, t2]⟩) ty (.int k (max a b)) := fun e w he _ => by
  simp only [EX, execOp, resolve, List.map_toArray, List.map_cons, List.map_nil, he.ev hx, he.ev hy]
  simp [invoke, builtin, Builtin.max_, Builtin.max2]
  rw [Int.max_def]; split <;> split <;> omega
theorem rMin2 {t1 t2 : TypeId} {x y : Operand} {k k' : IntKind} {a b : Int} (hx : evE l x = some (.int k a)) (hy : evE l y = some (.int k' b)) : Runs P n l Lx (.call ⟨.builtin .min, #[x, y], #[t1, t2]⟩) ty (.int k (min a b)) := fun e w he _ => by
  simp only [EX, execOp, resolve, List.map_toArray, List.map_cons, List.map_nil, he.ev hx, he.ev hy]
  simp [invoke, builtin, Builtin.min_, Builtin.min2]
  rw [Int.min_def]; split <;> split <;> omega
end
end TB
namespace TB
open Go
theorem eq_arr4 {P : Program} {t e : TypeId} {k : IntKind} (hu : P.underlying t = some (.array 4 e)) (he : P.underlying e = some (.int k)) (hs : ∀ w, (Go.sizeOf e).run P w = .ok 1 w) (ha : ∀ w, (isAgg e).run P w = .ok false w)
   (d : Nat) (a0 a1 a2 a3 b0 b1 b2 b3 : Int) (w : World) : (Op.equalIn (d + 1 + 1) t (.agg #[.int k a0, .int k a1, .int k a2, .int k a3]) (.agg #[.int k b0, .int k b1, .int k b2, .int k b3])).run P w = .ok (a0 == b0 && (a1 == b1 && (a2 == b2 && a3 == b3))) w := by
  have e : ∀ (x y : Int) w, (Op.equalIn (d + 1) e (.int k x) (.int k y)).run P w = .ok (x == y) w := fun x y w => run_equalIn_int w d e k k x y he
  rw [Op.equalIn]
  simp only [Sem.run_bind, run_underlying hu, Result.andThen_ok, hs]
  simp [Std.Legacy.Range.forIn_eq_forIn_range', List.range', part, ha, e]
  by_cases h0 : a0 = b0 <;> by_cases h1 : a1 = b1 <;> by_cases h2 : a2 = b2 <;> by_cases h3 : a3 = b3 <;> simp [h0, h1, h2, h3]

/- THE NUMBERS OF THE DATACENTERS -/
structure Vec where
  a : Int
  b : Int
  c : Int
  d : Int
  deriving DecidableEq, Repr
namespace Vec
def zero : Vec := ⟨0, 0, 0, 0⟩
def at' (v : Vec) (n : Int) : Int := if n = 1 then v.a else if n = 2 then v.b else if n = 3 then v.c else if n = 4 then v.d else 0
def set' (v : Vec) (n x : Int) : Vec := if n = 1 then { v with a := x } else if n = 2 then { v with b := x } else if n = 3 then { v with c := x } else if n = 4 then { v with d := x } else v
def join (v u : Vec) : Vec := ⟨max v.a u.a, max v.b u.b, max v.c u.c, max v.d u.d⟩
def meet (v u : Vec) : Vec := ⟨min v.a u.a, min v.b u.b, min v.c u.c, min v.d u.d⟩
def leq (v u : Vec) : Bool := decide (v.a ≤ u.a) && decide (v.b ≤ u.b) && decide (v.c ≤ u.c) && decide (v.d ≤ u.d)
def most : Int := 1152921504606846976
def ok (v : Vec) : Bool := leq v ⟨most, most, most, most⟩
def sum (v : Vec) : Int := IntKind.u64.wrap (IntKind.u64.wrap (IntKind.u64.wrap (IntKind.u64.wrap (0 + v.a) + v.b) + v.c) + v.d)
end Vec
abbrev vecL (v : Vec) : List Value := [.int .u64 v.a, .int .u64 v.b, .int .u64 v.c, .int .u64 v.d]
def vecV (v : Vec) : Value := .agg #[.int .u64 v.a, .int .u64 v.b, .int .u64 v.c, .int .u64 v.d]
theorem join_eq (v u : Vec) : decide (v.join u = u) = v.leq u := by
  cases v; cases u
  simp only [Vec.join, Vec.leq, Vec.mk.injEq]
  rw [Bool.eq_iff_iff]
  simp
  omega
theorem vec_nth (v : Vec) (n : Int) (h : 1 ≤ n ∧ n ≤ 4) : (vecL v)[0 + (n - 1).toNat * 1]? = some (.int .u64 (v.at' n)) := by
  have : n = 1 ∨ n = 2 ∨ n = 3 ∨ n = 4 := by omega
  rcases this with rfl | rfl | rfl | rfl <;> rfl
theorem vec_set (v : Vec) (n x : Int) (h : 1 ≤ n ∧ n ≤ 4) : (vecL v).set (0 + (n - 1).toNat * 1) (.int .u64 x) = vecL (v.set' n x) := by
  have : n = 1 ∨ n = 2 ∨ n = 3 ∨ n = 4 := by omega
  rcases this with rfl | rfl | rfl | rfl <;> rfl
theorem bEqV {P : Program} {t e : TypeId} (hu : P.underlying t = some (.array 4 e)) (he : P.underlying e = some (.int .u64)) (hs : ∀ w, (Go.sizeOf e).run P w = .ok 1 w) (ha : ∀ w, (isAgg e).run P w = .ok false w) (hg : P.eqGuardType P.depth t = false)
   (v u : Vec) : BinR P .eql t (vecV v) (vecV u) (.bool (decide (v = u))) := bAgg hg fun w => by
  rw [run_eql_struct, show (10000 : Nat) = 9998 + 1 + 1 from rfl, eq_arr4 hu he hs ha]
  simp only [Result.andThen_ok]
  congr 2
  cases v; cases u
  simp only [Vec.mk.injEq]
  rw [Bool.eq_iff_iff]; simp
/- STAMPS -/
structure Stamp where
  v : Vec
  dc : Int
  deriving DecidableEq, Repr
def stampV (s : Stamp) : Value := .agg #[.int .u64 s.v.a, .int .u64 s.v.b, .int .u64 s.v.c, .int .u64 s.v.d, .int .i64 s.dc]
namespace Stamp
def zero : Stamp := ⟨.zero, 0⟩
def n (s : Stamp) : Int := s.v.at' s.dc
def ok (s : Stamp) : Bool := s.v.ok && decide (s.n > 0)
end Stamp
end TB
namespace TB
open Go
/-- parts laid into cells -/
def bld (pl : List (Nat × Nat)) : List Value → List (Nat × Value) → Option (List Value)
  | z, [] => some z
  | z, (i, v) :: ps => match pl[i]? with
    | none => none
    | some (off, sz) => match celO v with
      | none => none
      | some cs => match Nat.beq cs.length sz with
        | false => none
        | true => match Nat.ble (off + cs.length) z.length with
          | false => none
          | true => match up off cs z with
            | none => none
            | some r => bld pl r ps
theorem foldl_up : ∀ (vs : List Value) (k off : Nat) (z : List Value), off + k + vs.length ≤ z.length →
    (vs.zipIdx k).foldl (fun cs (x : Value × Nat) => cs.setIfInBounds (off + x.2) x.1) z.toArray = (z.take (off + k) ++ vs ++ z.drop (off + k + vs.length)).toArray
  | [], k, off, z, h => by simp
  | v :: vs, k, off, z, h => by
    simp only [List.length_cons] at h
    have ih := foldl_up vs (k + 1) off (z.set (off + k) v) (by simp; omega)
    simp only [List.zipIdx_cons, List.foldl_cons, List.setIfInBounds_toArray]
    rw [ih]
    congr 1
    have e := list_seg_step z (off + k) v vs (by omega)
    simpa [Nat.add_assoc, Nat.add_comm, Nat.add_left_comm] using e
theorem fill_bld {place : Nat → Option (Nat × Nat)} {pl : List (Nat × Nat)} (hpl : ∀ i x, pl[i]? = some x → place i = some x) : ∀ (ps : List (Nat × Value)) (z r : List Value), bld pl z ps = some r → Instr.fill place z.toArray ps = some r.toArray
  | [], z, r, h => by simp [bld] at h; subst h; rfl
  | (i, v) :: ps, z, r, h => by
    simp only [bld] at h
    split at h
    case h_1 => cases h
    rename_i off sz hp
    split at h
    case h_1 => cases h
    rename_i cs hc
    split at h
    case h_1 => cases h
    rename_i hs
    split at h
    case h_1 => cases h
    rename_i hle
    split at h
    case h_1 => cases h
    rename_i q hq
    have hs' : cs.length = sz := Nat.eq_of_beq_eq_true hs
    have hle' : off + cs.length ≤ z.length := Nat.le_of_ble_eq_true hle
    have hv := celO_cells hc
    have h1 := foldl_up cs 0 off z (by omega)
    simp only [Nat.add_zero] at h1
    rw [← up_eq hq] at h1
    simp only [Instr.fill, hpl i _ hp, hv]
    rw [if_neg (by simp [hs']; omega)]
    rw [← Array.foldl_toList, Array.toList_zipIdx, h1]
    exact fill_bld hpl ps q r h
def BU (P : Program) (t : Nat) (pl : List (Nat × Nat)) (z : List Value) : Prop := ∀ (parts : Array (Nat × Value)) r w, bld pl z parts.toList = some r → (Instr.build t parts).run P w = .ok (.agg r.toArray) w
theorem bu_struct {P : Program} {t : Nat} {fs : Array Field} {v : Value} {pl : List (Nat × Nat)} {z : List Value} (hu : P.underlying t = some (.struct fs)) (hz : ∀ w, (zeroValue t).run P w = .ok v w) (hv : v.cells = z.toArray)
    (hp : ∀ w, (fs.mapM fun f => do pure (f.offset, ← Go.sizeOf f.type) : Sem (Array (Nat × Nat))).run P w = .ok pl.toArray w) : BU P t pl z := fun parts r w h => by
  have := fill_bld (place := fun i => pl.toArray[i]?) (fun i x hx => by simpa using hx) _ _ _ h
  unfold Instr.build
  simp only [Sem.run_bind, hz, Result.andThen_ok, run_underlying hu, hv]
  rw [hp w]
  simp only [Result.andThen_ok]
  rw [this]; rfl
theorem bu_array {P : Program} {t e n sz : Nat} {v : Value} {pl : List (Nat × Nat)} {z : List Value} (hu : P.underlying t = some (.array n e)) (hz : ∀ w, (zeroValue t).run P w = .ok v w) (hv : v.cells = z.toArray)
    (hs : ∀ w, (Go.sizeOf e).run P w = .ok sz w) (hp : pl = (List.range n).map fun i => (i * sz, sz)) : BU P t pl z := fun parts r w h => by
  have := fill_bld (place := fun i => some (i * sz, sz)) (fun i x hx => by
    subst hp
    simp [List.getElem?_map] at hx
    obtain ⟨j, hj, rfl⟩ := hx
    have := (List.getElem?_eq_some_iff.1 hj).2
    simp at this; subst this; rfl) _ _ _ h
  unfold Instr.build
  simp only [Sem.run_bind, hz, Result.andThen_ok, run_underlying hu, hv, hs]
  rw [this]; rfl
def evP (l : Env) : List (Nat × Operand) → Option (List (Nat × Value))
  | [] => some []
  | (i, x) :: xs => match evE l x with
    | none => none
    | some v => match evP l xs with
      | none => none
      | some vs => some ((i, v) :: vs)
theorem evP_eq {n : Cfg} {l : Env} {a : Act} (h : EnvOK n l a) : ∀ {xs : List (Nat × Operand)} {vs : List (Nat × Value)}, evP l xs = some vs → xs.map (fun x => (x.1, a.eval x.2)) = vs
  | [], vs, hv => by simpa [evP] using hv
  | (i, x) :: xs, vs, hv => by
    simp only [evP] at hv
    cases hx : evE l x with
    | none => simp [hx] at hv
    | some v =>
      rw [hx] at hv
      cases hxs : evP l xs with
      | none => simp [hxs] at hv
      | some us => rw [hxs] at hv; simp at hv; subst hv; simp [h.ev hx, evP_eq h hxs]
section
variable {P : Program} {n : Cfg} {l : Env} {Lx : HL} {ty : TypeId} {v : Value}
theorem rBu {t : Nat} {pl : List (Nat × Nat)} {z r : List Value} {parts : Array (Nat × Operand)} {pv : List (Nat × Value)} (hb : BU P t pl z) (hp : evP l parts.toList = some pv) (hr : bld pl z pv = some r) : Runs P n l Lx (.build t parts) ty (.agg r.toArray) := fun a w he _ => by
  have h1 : (parts.map fun (i, x) => (i, a.eval x)) = pv.toArray := by apply Array.ext'; simpa using evP_eq he hp
  have h2 := hb pv.toArray r w (by simpa using hr)
  simp only [EX, execOp, h1]
  simp [h2]
/-- a part of an aggregate -/
def FD (P : Program) (t f off k : Nat) (ag : Bool) : Prop := ∃ fs fd, P.underlying t = some (.struct fs) ∧ fs[f]? = some fd ∧ fd.offset = off ∧ (∀ w, (isAgg fd.type).run P w = .ok ag w) ∧ ∀ w, (Go.sizeOf fd.type).run P w = .ok k w
theorem rFd1 {t f off : Nat} {x : Operand} {cs : Array Value} (hf : FD P t f off 1 false) (hx : evE l x = some (.agg cs)) (hv : nth off cs.toList = some v) : Runs P n l Lx (.field t x f) ty v := fun a w he _ => by
  obtain ⟨fs, fd, hu, hfd, ho, ha, hk⟩ := hf
  have : cs[off]? = some v := by simpa using nth_eq hv
  simp only [EX, execOp, he.ev hx]
  simp [Instr.field, run_underlying hu, hfd, asAgg, part, ha, ho, this]
theorem rFdA {t f off k : Nat} {x : Operand} {cs : Array Value} {vs : List Value} (hf : FD P t f off k true) (hx : evE l x = some (.agg cs)) (hv : tk off k cs.toList = some vs) : Runs P n l Lx (.field t x f) ty (.agg vs.toArray) := fun a w he _ => by
  obtain ⟨fs, fd, hu, hfd, ho, ha, hk⟩ := hf
  obtain ⟨h1, h2⟩ := tk_spec hv
  have : cs.extract off (off + k) = vs.toArray := by
    apply Array.ext'
    apply List.ext_getElem?
    intro j
    simp only [Array.toList_extract, List.extract_eq_take_drop, List.getElem?_take, List.getElem?_drop]
    by_cases hj : j < k
    · rw [if_pos (by omega)]
      rw [h2 j _ (List.getElem?_eq_getElem (by omega))]
      simp [List.getElem?_eq_getElem (show j < vs.length by omega)]
    · rw [if_neg (by omega)]
      simp [List.getElem?_eq_none (show vs.length ≤ j by omega)]
  simp only [EX, execOp, he.ev hx]
  simp [Instr.field, run_underlying hu, hfd, asAgg, part, ha, ho, hk, this]
/-- an element of an array that is a value -/
def IX (P : Program) (t len : Nat) : Prop := ∃ e, P.underlying t = some (.array len e) ∧ (∀ w, (isAgg e).run P w = .ok false w) ∧ ∀ w, (Go.sizeOf e).run P w = .ok 1 w
theorem rIx {t len : Nat} {x i : Operand} {cs : Array Value} {k : IntKind} {m : Int} (hf : IX P t len) (hx : evE l x = some (.agg cs)) (hi : evE l i = some (.int k m)) (h : 0 ≤ m ∧ m < len) (hv : cs.toList[m.toNat]? = some v) : Runs P n l Lx (.index t x i) ty v := fun a w he _ => by
  obtain ⟨e, hu, ha, hs⟩ := hf
  have : cs[m.toNat]? = some v := by simpa using hv
  simp only [EX, execOp, he.ev hx, he.ev hi]
  simp [Instr.index, asIntOf, run_underlying hu, h, part, ha, hs, this]
/-- a byte of a string -/
theorem rIxS {t : Nat} {x i : Operand} {s : ByteArray} {k : IntKind} {m : Int} {b : UInt8} (hu : P.underlying t = some .string) (hx : evE l x = some (.string s)) (hi : evE l i = some (.int k m)) (h : 0 ≤ m) (hv : s.data.toList[m.toNat]? = some b) : Runs P n l Lx (.index t x i) ty (.int .u8 b.toNat) := fun a w he _ => by
  have hlt := (List.getElem?_eq_some_iff.1 hv).1
  have hb := (List.getElem?_eq_some_iff.1 hv).2
  have hlt' : m.toNat < s.size := by show m.toNat < s.data.size; rw [← Array.length_toList]; exact hlt
  have : s[m.toNat]? = some b := by
    rw [getElem?_pos s m.toNat hlt', ← hb]
    rfl
  simp only [EX, execOp, he.ev hx, he.ev hi]
  simp [Instr.index, asIntOf, run_underlying hu, h, this]
end
end TB
namespace TB
open Go
section
variable {P : Program} {T : TypeId}
theorem bStr {op : BinOp} {a b : ByteArray} {v : Value} (h : ∀ w, (binOp op T (.string a) (.string b)).run P w = .ok v w) : BinR P op T (.string a) (.string b) v := fun ox oy w => by
  rw [Sem.run_bind]
  have : (eqGuard op T ox oy (.string a) (.string b)).run P w = .ok () w := by unfold eqGuard; split <;> rfl
  rw [this]; exact h w
theorem bEqS {a b : ByteArray} : BinR P .eql T (.string a) (.string b) (.bool (decide (a = b))) := bStr fun w => by
  have e : (a.toList == b.toList) = decide (a = b) := by rw [← beq_toListBytes]; exact Bool.eq_iff_iff.2 ⟨fun h => decide_eq_true (by obtain ⟨x⟩ := a; obtain ⟨y⟩ := b; have : (x == y) = true := h; rw [eq_of_beq this]), fun h => by rw [of_decide_eq_true h]; show (b.data == b.data) = true; simp⟩
  simp [binOp, Op.stringOp, e]
theorem bNeS {a b : ByteArray} : BinR P .neq T (.string a) (.string b) (.bool (decide (a ≠ b))) := bStr fun w => by
  have e : (a.toList == b.toList) = decide (a = b) := by rw [← beq_toListBytes]; exact Bool.eq_iff_iff.2 ⟨fun h => decide_eq_true (by obtain ⟨x⟩ := a; obtain ⟨y⟩ := b; have : (x == y) = true := h; rw [eq_of_beq this]), fun h => by rw [of_decide_eq_true h]; show (b.data == b.data) = true; simp⟩
  simp [binOp, Op.stringOp, e]
theorem bCat {a b : ByteArray} (h : (a.size : Int) + b.size ≤ 9223372036854775807) : BinR P .add T (.string a) (.string b) (.string (a ++ b)) := bStr fun w => by simp [binOp, Op.stringOp, h]
end
/- WRITES -/
structure Write where
  bucket : ByteArray
  key : ByteArray
  value : ByteArray
  gone : Bool
  deriving DecidableEq
def writeV (w : Write) : Value := .agg #[.string w.bucket, .string w.key, .string w.value, .bool w.gone]
def nameOk (s : ByteArray) : Bool := decide (s ≠ ⟨#[]⟩) && decide ((s.size : Int) ≤ 16)
def Write.ok (w : Write) : Bool := nameOk w.bucket && nameOk w.key && decide ((w.value.size : Int) ≤ 32) && (decide (w.value = ⟨#[]⟩) || !w.gone)
def mixL (g : Int → Int → Int) (a b : Vec) (k : Nat) : List Value :=
  [.int .u64 (bif Nat.blt 0 k then g a.a b.a else a.a), .int .u64 (bif Nat.blt 1 k then g a.b b.b else a.b), .int .u64 (bif Nat.blt 2 k then g a.c b.c else a.c), .int .u64 (bif Nat.blt 3 k then g a.d b.d else a.d)]
def sumTo (v : Vec) : Nat → Int
  | 0 => 0
  | 1 => IntKind.u64.wrap (0 + v.a)
  | 2 => IntKind.u64.wrap (IntKind.u64.wrap (0 + v.a) + v.b)
  | 3 => IntKind.u64.wrap (IntKind.u64.wrap (IntKind.u64.wrap (0 + v.a) + v.b) + v.c)
  | _ => v.sum
end TB
namespace TB
open Go
/- SLICES THAT ARE READ -/
/-- Behind the address p lie the cells fl, in R. -/
def Lies (R : HL) (p : Option Addr) (fl : List Value) : Prop := fl = [] ∨ ∃ b o cl E fr, p = some ⟨b, o, none⟩ ∧ (b, Obj.cells (List.toArray cl) E fr) ∈ R ∧ ∀ j, j < fl.length → cl[o + j]? = fl[j]?
theorem Lies.mono {R R' : HL} {p : Option Addr} {fl : List Value} (h : Lies R p fl) (hs : ∀ x ∈ R, x ∈ R') : Lies R' p fl := by
  rcases h with h | ⟨b, o, cl, E, fr, h1, h2, h3⟩
  · exact .inl h
  · exact .inr ⟨b, o, cl, E, fr, h1, hs _ h2, h3⟩
section
variable {α : Type} {enc : α → List Value} {k : Nat}
theorem flat_len (hk : ∀ x, (enc x).length = k) (xs : List α) : (xs.flatMap enc).length = xs.length * k := by
  induction xs with
  | nil => simp
  | cons x xs ih => simp [ih, hk, Nat.add_mul, Nat.add_comm]
theorem flat_get (hk : ∀ x, (enc x).length = k) : ∀ (xs : List α) (i j : Nat) (x : α), xs[i]? = some x → j < k → (xs.flatMap enc)[i * k + j]? = (enc x)[j]?
  | [], i, j, x, h, _ => by simp at h
  | y :: ys, 0, j, x, h, hj => by
    simp at h; subst h
    simp only [List.flatMap_cons, Nat.zero_mul, Nat.zero_add]
    rw [List.getElem?_append_left (by rw [hk]; exact hj)]
  | y :: ys, i + 1, j, x, h, hj => by
    simp at h
    simp only [List.flatMap_cons]
    rw [List.getElem?_append_right (by rw [hk, Nat.add_mul]; omega), hk]
    have := flat_get hk ys i j x h hj
    rw [show (i + 1) * k + j - k = i * k + j by rw [Nat.add_mul]; omega]; exact this
/-- An element of a slice that lies in R: where it is. -/
theorem Lies.at {R : HL} {p : Option Addr} (hk : ∀ x, (enc x).length = k) {xs : List α} (h : Lies R p (xs.flatMap enc)) {i : Nat} {x : α} (hx : xs[i]? = some x) (hk0 : 0 < k) :
    ∃ b o cl E fr, p = some ⟨b, o, none⟩ ∧ (b, Obj.cells (List.toArray cl) E fr) ∈ R ∧ ∀ j v, (enc x)[j]? = some v → cl[o + i * k + j]? = some v := by
  have hi : i < xs.length := (List.getElem?_eq_some_iff.1 hx).1
  rcases h with h | ⟨b, o, cl, E, fr, h1, h2, h3⟩
  · have := flat_len hk xs
    rw [h] at this
    simp only [List.length_nil] at this
    have : 0 < xs.length * k := Nat.mul_pos (by omega) hk0
    omega
  · refine ⟨b, o, cl, E, fr, h1, h2, fun j v hv => ?_⟩
    have hj : j < k := by rw [← hk x]; exact (List.getElem?_eq_some_iff.1 hv).1
    have hlt : i * k + j < (xs.flatMap enc).length := by
      rw [flat_len hk]
      have : (i + 1) * k ≤ xs.length * k := Nat.mul_le_mul_right _ (by omega)
      rw [Nat.add_mul] at this; omega
    rw [Nat.add_assoc, h3 _ hlt, flat_get hk xs i j x hx hj, hv]
end
section
variable {P : Program} {n : Cfg} {l : Env} {A R Lx : HL} {ty : TypeId} {v : Value}
theorem rLdAm {T b o k : Nat} {x : Operand} {cl vs : List Value} {E : TypeId} {fr : Nat × Nat} (hT : TA P T k) (hx : evE l x = some (.pointer (some ⟨b, o, none⟩))) (hm : (b, Obj.cells (List.toArray cl) E fr) ∈ Lx) (hk : vs.length = k) (hv : ∀ j v, vs[j]? = some v → cl[o + j]? = some v) :
    Runs P n l Lx (.load T x) ty (.agg vs.toArray) := fun a w h hL => by
  have h1 := cell_of (hL _ hm)
  have h2 := run_loadCells_list (P := P) w ⟨b, o, none⟩ vs (fun j v hj => by rw [add_lit, h1]; exact hv j v hj)
  rw [hk] at h2
  simp [EX, execOp, h.ev hx, Instr.loadAt, Instr.sureAddr, loadVar, hT.1, hT.2, h2]
theorem rLd1m {T b o : Nat} {x : Operand} {cl : List Value} {E : TypeId} {fr : Nat × Nat} (hT : T1 P T) (hx : evE l x = some (.pointer (some ⟨b, o, none⟩))) (hm : (b, Obj.cells (List.toArray cl) E fr) ∈ Lx) (hv : cl[o]? = some v) :
    Runs P n l Lx (.load T x) ty v := fun a w h hL => by
  have h1 := cell_of (hL _ hm) o
  simp only at h1
  rw [hv] at h1
  simp [EX, execOp, h.ev hx, Instr.loadAt, Instr.sureAddr, loadVar, hT.1, h1]
/-- a whole array as a slice -/
theorem rSa {t len : Nat} {x : Operand} {b o : Nat} (hu : ∃ e, P.underlying t = some (.array len e) ∧ ∀ w, ∃ s, (Go.sizeOf e).run P w = .ok s w) (h0 : 0 < len) (hx : evE l x = some (.pointer (some ⟨b, o, none⟩))) : Runs P n l Lx (.slice t x none none none) ty (.slice (some ⟨b, o, none⟩) len len) := fun a w he _ => by
  obtain ⟨e, hu, hs⟩ := hu
  obtain ⟨s, hs⟩ := hs w
  simp only [EX, execOp, he.ev hx]
  simp [Instr.sliceAt, run_underlying hu, Instr.sureAddr, Instr.sliceBounds, hs, add_lit]
/-- a string cut -/
theorem cut_run {P : Program} {w : World} (isS : Bool) (len cap : Nat) (lo hi : Option Value) (k1 k2 : IntKind) (i j : Nat) (hlo : lo = some (.int k1 i) ∨ lo = none ∧ i = 0) (hhi : hi = some (.int k2 j) ∨ hi = none ∧ j = len) (h1 : i ≤ j) (h2 : j ≤ cap) :
    (Instr.sliceBounds isS len cap lo hi none).run P w = .ok (i, j, cap) w := by
  rcases hlo with rfl | ⟨rfl, rfl⟩ <;> rcases hhi with rfl | ⟨rfl, rfl⟩ <;> simp [Instr.sliceBounds, Instr.sliceBound, asIntOf, h1, h2]
end
/- SLICES THAT ARE MADE -/
def BS (P : Program) (t len elem : Nat) (pl : List (Nat × Nat)) (zl : List Value) : Prop := ∀ (parts : Array (Nat × Value)) r w, bld pl zl parts.toList = some r → (Instr.buildSlice t len parts).run P w = .ok (.slice (some ⟨w.heap.size, 0, none⟩) len len) (w.alloc (.cells r.toArray elem))
theorem bs_of {P : Program} {t len e sz : Nat} {v : Value} {zl : List Value} {pl : List (Nat × Nat)} (hu : P.underlying t = some (.slice e)) (hs : ∀ w, (Go.sizeOf e).run P w = .ok sz w) (hl : len * sz ≤ 2 ^ 24) (hz : ∀ w, (zeroValue e).run P w = .ok v w)
    (hzl : ((Array.range (len * sz)).map fun i => v.cells[i % v.cells.size]!) = zl.toArray) (h0 : len * sz ≠ 0) (hp : pl = (List.range len).map fun i => (i * sz, sz)) : BS P t len e pl zl := fun parts r w h => by
  have := fill_bld (place := fun i => some (i * sz, sz)) (fun i x hx => by
    subst hp
    simp [List.getElem?_map] at hx
    obtain ⟨j, hj, rfl⟩ := hx
    have := (List.getElem?_eq_some_iff.1 hj).2
    simp at this; subst this; rfl) _ _ _ h
  unfold Instr.buildSlice
  simp only [Sem.run_bind, run_underlying hu, Result.andThen_ok, hs]
  rw [if_neg (by omega), if_neg h0]
  simp only [Sem.run_bind, hz, Result.andThen_ok, Sem.run_pure, hzl, this]
  simp [newRow]
section
variable {P : Program} {n : Cfg} {l : Env} {Lx : HL} {ty : TypeId}
theorem mBs {t len elem : Nat} {pl : List (Nat × Nat)} {z r : List Value} {parts : Array (Nat × Operand)} {pv : List (Nat × Value)} (hb : BS P t len elem pl z) (hp : evP l parts.toList = some pv) (hr : bld pl z pv = some r) :
    Makes P n l Lx (.buildSlice t len parts) ty (.cells r.toArray elem) (fun b => .slice (some ⟨b, 0, none⟩) len len) := fun a w he _ => by
  have h1 : (parts.map fun (i, x) => (i, a.eval x)) = pv.toArray := by apply Array.ext'; simpa using evP_eq he hp
  have h2 := hb pv.toArray r w (by simpa using hr)
  simp only [EX, execOp, h1]
  simp [h2]
theorem bConv {t1 t2 : TypeId} {k k1 : IntKind} {m : Int} {x : Operand} (hd : P.underlying t2 = some (.int k)) (hs : P.underlying t1 = some (.int k1)) (hx : evE l x = some (.int k1 m)) : Runs P n l Lx (.convert t1 t2 x) ty (.int k (k.wrap m)) := fun a w he _ => by
  simp [EX, execOp, he.ev hx, convert, run_underlying hd, run_underlying hs, Conv.intToInt]
end
/-- comparing numbers -/
def cmp3 (x y : Int) : Int := if x < y then -1 else if x > y then 1 else 0
def lex4 (a b : Vec) : Int :=
  if cmp3 a.a b.a ≠ 0 then cmp3 a.a b.a else if cmp3 a.b b.b ≠ 0 then cmp3 a.b b.b else if cmp3 a.c b.c ≠ 0 then cmp3 a.c b.c else cmp3 a.d b.d
def or3 (x y z : Int) : Int := if x ≠ 0 then x else if y ≠ 0 then y else z
def Stamp.ord (s t : Stamp) : Int := if s = t then 0 else or3 (cmp3 s.v.sum t.v.sum) (cmp3 s.dc t.dc) (lex4 s.v t.v)
end TB
