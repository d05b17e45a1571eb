/- A part of the proof that shardPlays of chapter 10 returns true at every room and every list of deeds, and leaves its arguments as they read; no condition. -/
import Derived.Test.YteeobhehfdifnaaTBb
import Derived.Laws.BytesArg
set_option linter.unusedVariables false
set_option linter.unusedSimpArgs false
namespace TB
open Go
theorem Tr.perm {P : Program} {f : Nat} {args : List Value} {R L L0 : HL} {Φ : Value → HL → Prop} (hp : L.Perm L0) (h : Tr P f args R L0 Φ) : Tr P f args R L Φ := fun w hR hL nd hd => by
  have hk := keys_perm hp
  refine (h w hR (hL.perm hp) (hk.nodup_iff.1 nd) (fun k hk1 hk2 => hd k hk1 (hk.mem_iff.2 hk2))).mono fun e w' hq => ?_
  cases e with
  | returned v =>
    obtain ⟨L', h1, h2, h3, h4, h5⟩ := hq
    exact ⟨L', h1, h2, h3, fun k hk' => (h4 k hk').imp hk.mem_iff.2 id, ⟨h5.os, h5.tape, h5.output, h5.size, fun b hb hn => h5.same b hb (fun hb' => hn (hk.mem_iff.2 hb'))⟩⟩
  | panicked c => exact hq
  | outgrown => exact hq
/- A SHARD -/
/-- The chains of a map's entries. -/
def ChF (tv tc : Nat) : List Ent → (K2 → List Ver) → HL → Prop
  | [], _, H => H = []
  | e :: es, g, H => ∃ c v Lr H', e.2.1 = .pointer (some ⟨c, 0, none⟩) ∧ Row tv 9 (g e.1).length (versL (g e.1)) v Lr ∧ ChF tv tc es g H' ∧ H = (c, .cells #[v] tc) :: (Lr ++ H')
theorem ChF.congr {tv tc : Nat} : ∀ {es : List Ent} {g g' : K2 → List Ver} {H : HL}, (∀ e ∈ es, g' e.1 = g e.1) → ChF tv tc es g H → ChF tv tc es g' H
  | [], _, _, _, _, h => h
  | e :: es, g, g', H, hg, ⟨c, v, Lr, H', h1, h2, h3, h4⟩ => ⟨c, v, Lr, H', h1, by rw [hg e (by simp)]; exact h2, h3.congr (fun x hx => hg x (List.mem_cons_of_mem _ hx)), h4⟩
theorem ChF.pick {tv tc : Nat} : ∀ {es : List Ent} {g : K2 → List Ver} {H : HL} {e : Ent}, (es.map (·.1)).Nodup → e ∈ es → ChF tv tc es g H →
    ∃ c v Lr rest, e.2.1 = .pointer (some ⟨c, 0, none⟩) ∧ Row tv 9 (g e.1).length (versL (g e.1)) v Lr ∧ H.Perm ((c, .cells #[v] tc) :: (Lr ++ rest)) ∧
      ∀ (g' : K2 → List Ver) v' Lr', (∀ k, k ≠ e.1 → g' k = g k) → Row tv 9 (g' e.1).length (versL (g' e.1)) v' Lr' → ∃ H', H'.Perm ((c, .cells #[v'] tc) :: (Lr' ++ rest)) ∧ ChF tv tc es g' H'
  | [], _, _, _, _, he, _ => nomatch he
  | x :: es, g, H, e, nd, he, ⟨c, v, Lr, H', h1, h2, h3, h4⟩ => by
    simp only [List.map_cons, List.nodup_cons] at nd
    rcases List.mem_cons.1 he with rfl | he
    · refine ⟨c, v, Lr, H', h1, h2, by rw [h4], fun g' v' Lr' hg hr => ⟨_, List.Perm.refl _, c, v', Lr', H', h1, hr, h3.congr (fun x hx => hg _ (fun hh => nd.1 (by rw [← hh]; exact List.mem_map_of_mem hx))), rfl⟩⟩
    · obtain ⟨c2, v2, Lr2, rest, q1, q2, q3, q4⟩ := ChF.pick nd.2 he h3
      have hne : x.1 ≠ e.1 := fun hh => nd.1 (by rw [hh]; exact List.mem_map_of_mem he)
      refine ⟨c2, v2, Lr2, (c, .cells #[v] tc) :: (Lr ++ rest), q1, q2, ?_, fun g' v' Lr' hg hr => ?_⟩
      · rw [h4]
        refine ((q3.append_left Lr).cons _).trans ?_
        have e1 : (Lr ++ (c2, Obj.cells #[v2] tc) :: (Lr2 ++ rest)).Perm ((c2, Obj.cells #[v2] tc) :: (Lr2 ++ (Lr ++ rest))) := by
          refine List.perm_middle.trans (List.Perm.cons _ ?_)
          rw [← List.append_assoc, ← List.append_assoc]
          exact List.perm_append_comm.append_right _
        refine (e1.cons _).trans ((List.Perm.swap _ _ _).trans (List.Perm.cons _ List.perm_middle.symm))
      · obtain ⟨H2, p2, p3⟩ := q4 g' v' Lr' hg hr
        refine ⟨(c, .cells #[v] tc) :: (Lr ++ H2), ?_, c, v, Lr, H2, h1, by rw [hg _ hne]; exact h2, p3, rfl⟩
        refine ((p2.append_left Lr).cons _).trans ?_
        have e1 : (Lr ++ (c2, Obj.cells #[v'] tc) :: (Lr' ++ rest)).Perm ((c2, Obj.cells #[v'] tc) :: (Lr' ++ (Lr ++ rest))) := by
          refine List.perm_middle.trans (List.Perm.cons _ ?_)
          rw [← List.append_assoc, ← List.append_assoc]
          exact List.perm_append_comm.append_right _
        refine (e1.cons _).trans ((List.Perm.swap _ _ _).trans (List.Perm.cons _ List.perm_middle.symm))
theorem ChF.add {tv tc : Nat} : ∀ {es : List Ent} {g : K2 → List Ver} {H : HL} {e : Ent} {c : Nat} {v : Value} {Lr : HL}, ChF tv tc es g H → e.2.1 = .pointer (some ⟨c, 0, none⟩) → Row tv 9 (g e.1).length (versL (g e.1)) v Lr → ChF tv tc (es ++ [e]) g (H ++ ((c, .cells #[v] tc) :: Lr))
  | [], _, _, e, c, v, Lr, h, h1, h2 => by
    cases h
    exact ⟨c, v, Lr, [], h1, h2, rfl, by simp⟩
  | x :: es, g, H, e, c, v, Lr, ⟨c2, v2, Lr2, H', q1, q2, q3, q4⟩, h1, h2 => ⟨c2, v2, Lr2, _, q1, q2, q3.add h1 h2, by rw [q4]; simp⟩
/-- What waits, and where its writes lie. -/
def WtF (tw : Nat) : List (Stamp × List Write) → List Bat → HL → Prop
  | [], bs, H => bs = [] ∧ H = []
  | x :: q, bs, H => ∃ p cap bs' Lr H', bs = ⟨x.1, p, x.2.length, cap⟩ :: bs' ∧ Row tw 4 x.2.length (writesL x.2) (.slice p x.2.length cap) Lr ∧ WtF tw q bs' H' ∧ H = Lr ++ H'
theorem WtF.len {tw : Nat} : ∀ {q : List (Stamp × List Write)} {bs : List Bat} {H : HL}, WtF tw q bs H → bs.length = q.length
  | [], _, _, h => by rw [h.1]; rfl
  | _ :: _, _, _, ⟨_, _, _, _, _, h1, _, h3, _⟩ => by rw [h1]; simp [h3.len]
theorem WtF.add {tw : Nat} {s : Stamp} {ws : List Write} {p : Option Addr} {cap : Nat} {Lr : HL} (hr : Row tw 4 ws.length (writesL ws) (.slice p ws.length cap) Lr) : ∀ {q : List (Stamp × List Write)} {bs : List Bat} {H : HL}, WtF tw q bs H → WtF tw (q ++ [(s, ws)]) (bs ++ [⟨s, p, ws.length, cap⟩]) (H ++ Lr)
  | [], _, _, h => by obtain ⟨rfl, rfl⟩ := h; exact ⟨p, cap, [], Lr, [], rfl, hr, ⟨rfl, rfl⟩, by simp⟩
  | _ :: _, _, _, ⟨p2, c2, bs2, Lr2, H2, h1, h2, h3, h4⟩ => ⟨p2, c2, _, Lr2, _, by rw [h1]; rfl, h2, WtF.add hr h3, by rw [h4]; simp⟩
structure ShS where
  room : Nat
  q : List (Stamp × List Write)
  g : K2 → List Ver
  ap : Vec
/-- The numbers of the types. -/
structure ShT where
  tv : Nat
  tc : Nat
  tw : Nat
  tl : Nat
  ts : Nat
abbrev shL (T : ShT) (s l ch m : Nat) (σ : ShS) (bs : List Bat) (es : List Ent) (clock sn rc : Nat) (H : HL) : HL :=
  (s, .cells #[.pointer (some ⟨l, 0, none⟩), .map (some m), .int .u64 σ.ap.a, .int .u64 σ.ap.b, .int .u64 σ.ap.c, .int .u64 σ.ap.d] T.ts) :: (l, .cells #[.chan (some ch)] T.tl) :: (ch, .chan σ.room (batsV bs).toArray false sn rc false) :: (m, mapO es clock) :: H
structure EsOK (es : List Ent) (clock : Nat) (g : K2 → List Ver) : Prop where
  kd : (es.map (·.1)).Nodup
  bd : (es.map (·.2.2)).Nodup
  old : ∀ e ∈ es, e.2.2 < clock
  out : ∀ k, k ∉ es.map (·.1) → g k = []
def ShRep (T : ShT) (s : Nat) (σ : ShS) (H : HL) : Prop :=
  ∃ l ch m bs es clock sn rc WH CH, H.Perm (shL T s l ch m σ bs es clock sn rc (WH ++ CH)) ∧ WtF T.tw σ.q bs WH ∧ ChF T.tv T.tc es σ.g CH ∧ EsOK es clock σ.g
/-- The chain of a key stands at c; whatever it becomes. -/
def ShAt (T : ShT) (s : Nat) (σ : ShS) (k : K2) (c : Nat) (rest : HL) : Prop :=
  ∀ g' v' Lr', (∀ k', k' ≠ k → g' k' = σ.g k') → Row T.tv 9 (g' k).length (versL (g' k)) v' Lr' → ShRep T s { σ with g := g' } ((c, .cells #[v'] T.tc) :: (Lr' ++ rest))
theorem ShRep.at {T : ShT} {s l ch m clock sn rc : Nat} {σ : ShS} {bs : List Bat} {es : List Ent} {WH CH : HL} {e : Ent} (hW : WtF T.tw σ.q bs WH) (hC : ChF T.tv T.tc es σ.g CH) (hE : EsOK es clock σ.g) (he : e ∈ es) :
    ∃ c v Lr rest, e.2.1 = .pointer (some ⟨c, 0, none⟩) ∧ Row T.tv 9 (σ.g e.1).length (versL (σ.g e.1)) v Lr ∧ (shL T s l ch m σ bs es clock sn rc (WH ++ CH)).Perm ((c, .cells #[v] T.tc) :: (Lr ++ rest)) ∧ ShAt T s σ e.1 c rest := by
  obtain ⟨c, v, Lr, rest, h1, h2, h3, h4⟩ := hC.pick hE.kd he
  have mv : ∀ (x : Nat × Obj) (A B C D : HL) (y1 y2 y3 y4 : Nat × Obj), C.Perm (x :: (A ++ B)) → (y1 :: y2 :: y3 :: y4 :: (D ++ C)).Perm (x :: (A ++ (y1 :: y2 :: y3 :: y4 :: (D ++ B)))) := fun x A B C D y1 y2 y3 y4 h => by
    have e0 : (y1 :: y2 :: y3 :: y4 :: (D ++ C)) = (y1 :: y2 :: y3 :: y4 :: D) ++ C := by simp
    have e1 : (y1 :: y2 :: y3 :: y4 :: (D ++ B)) = (y1 :: y2 :: y3 :: y4 :: D) ++ B := by simp
    rw [e0, e1]
    refine (h.append_left _).trans (List.perm_middle.trans (List.Perm.cons _ ?_))
    rw [← List.append_assoc, ← List.append_assoc]
    exact List.perm_append_comm.append_right _
  refine ⟨c, v, Lr, _, h1, h2, mv _ _ _ _ _ _ _ _ _ h3, fun g' v' Lr' hg hr => ?_⟩
  obtain ⟨H', p1, p2⟩ := h4 g' v' Lr' hg hr
  refine ⟨l, ch, m, bs, es, clock, sn, rc, WH, H', (mv _ _ _ _ _ _ _ _ _ p1).symm, hW, p2, hE.kd, hE.bd, hE.old, fun k hk => ?_⟩
  have : k ≠ e.1 := fun hh => hk (by rw [hh]; exact List.mem_map_of_mem he)
  show g' k = []
  rw [hg k this]; exact hE.out k hk
theorem get2_some {k : K2} {es : List Ent} {v : Value} (h : get2 k es = some v) : ∃ e ∈ es, e.1 = k ∧ e.2.1 = v := by
  unfold get2 at h
  cases hf : es.find? fun e => decide (k = e.1) with
  | none => rw [hf] at h; cases h
  | some e =>
    rw [hf] at h; simp at h
    have := List.find?_some hf
    exact ⟨e, List.mem_of_find?_eq_some hf, (of_decide_eq_true this).symm, h⟩
theorem get2_none {k : K2} {es : List Ent} (h : get2 k es = none) : ∀ e ∈ es, e.1 ≠ k := fun e he hh => by
  unfold get2 at h
  simp at h
  exact h _ _ _ _ he hh.symm
theorem get2_mem {k : K2} {es : List Ent} {e : Ent} (nd : (es.map (·.1)).Nodup) (he : e ∈ es) (hk : e.1 = k) : get2 k es = some e.2.1 := by
  cases h : get2 k es with
  | none => exact absurd hk (get2_none h e he)
  | some v =>
    obtain ⟨e', he', hk', hv⟩ := get2_some h
    have : e' = e := by
      clear h hv
      induction es with
      | nil => cases he
      | cons x es ih =>
        simp only [List.map_cons, List.nodup_cons] at nd
        rcases List.mem_cons.1 he with h1 | h1
        · rcases List.mem_cons.1 he' with h2 | h2
          · rw [h1, h2]
          · have := List.mem_map_of_mem (f := (·.1)) h2
            simp only [hk', ← hk, h1] at this
            exact absurd this nd.1
        · rcases List.mem_cons.1 he' with h2 | h2
          · have := List.mem_map_of_mem (f := (·.1)) h1
            simp only [hk, ← hk', h2] at this
            exact absurd this nd.1
          · exact ih nd.2 h1 h2
    rw [← hv, this]
end TB
namespace TB
open Go
instance (priority := 300) Front.appL (A B L C D : HL) [h : Front A L C] [k : Front B C D] : Front (A ++ B) L D := ⟨by
  rw [List.append_assoc]; exact h.perm.trans (k.perm.append_left A)⟩
instance (priority := 350) Front.left (A B C D : HL) [h : Front A B C] : Front A (B ++ D) (C ++ D) := ⟨by
  rw [← List.append_assoc]; exact h.perm.append_right D⟩
instance (priority := 350) Take.left (b : Nat) (o : Obj) (L B D : HL) [h : Take b L o B] : Take b (L ++ D) o (B ++ D) := ⟨(h.perm.append_right D)⟩
/-- One list turned into another one. -/
class PermTo (L L0 : HL) : Prop where
  perm : L.Perm L0
instance (priority := 900) PermTo.refl (L : HL) : PermTo L L := ⟨List.Perm.refl _⟩
instance (priority := 500) PermTo.cons (b : Nat) (o : Obj) (L L2 B : HL) [h : Take b L o L2] [k : PermTo L2 B] : PermTo L ((b, o) :: B) := ⟨h.perm.trans (k.perm.cons _)⟩
instance (priority := 400) PermTo.app (A L L2 B : HL) [h : Front A L L2] [k : PermTo L2 B] : PermTo L (A ++ B) := ⟨h.perm.trans (k.perm.append_left A)⟩
class NilL (L : HL) : Prop where
  nil : L = []
instance NilL.nil' : NilL [] := ⟨rfl⟩
instance NilL.app (A B : HL) [h : NilL A] [k : NilL B] : NilL (A ++ B) := ⟨by rw [h.nil, k.nil]; rfl⟩
instance (priority := 300) PermTo.fin (B L C : HL) [h : Front B L C] [k : NilL C] : PermTo L B := ⟨by have := h.perm; rw [k.nil, List.append_nil] at this; exact this⟩
instance (priority := 800) PermTo.nil (L : HL) [k : NilL L] : PermTo L [] := ⟨by rw [k.nil]⟩
theorem Tr.permR {P : Program} {f : Nat} {args : List Value} {R R0 L : HL} {Φ : Value → HL → Prop} (hp : R.Perm R0) (h : Tr P f args R0 L Φ) : Tr P f args R L Φ := fun w hR hL nd hd =>
  h w (hR.perm hp) hL nd (fun k hk => hd k ((keys_perm hp).mem_iff.2 hk))
section
variable {P : Program} {w0 : World} {F : List Nat} {R : HL} {n : Cfg} {l : Env} {L L' : HL} {M : Act → World → Prop}
theorem gTo (L' : HL) [p : PermTo L L'] (h : GN w0 F R n M l L') : GN w0 F R n M l L := gPerm p.perm h
end
theorem gCutN {P : Program} {w0 : World} {F : List Nat} {R : HL} {n : Cfg} {l : Env} {L : HL} {N : Act → World → Prop} {X : List (Nat × (Act → World → Prop))} {Rt : Act → World → Prop} {σ : Type} {x : Code} (I : σ → Env × HL) (good : σ → Prop) (h : GN w0 F R n (CW P x (InvN w0 F R n I good) X Rt) l L)
    (hy : ∀ s, good s → GN w0 F R n N (I s).1 (I s).2) : GN w0 F R n (CW P x N X Rt) l L := fun a w st => wp_mono (h a w st) fun e a w hq => by
  cases e with
  | normal => exact gInvE hy a w hq
  | _ => exact hq
theorem bytes_beq (a b : ByteArray) : (a.toList == b.toList) = decide (a = b) := by
  rw [← beq_toListBytes]; exact Bool.eq_iff_iff.2 ⟨fun h => decide_eq_true (by obtain ⟨x⟩ := a; obtain ⟨y⟩ := b; have : (x == y) = true := h; rw [eq_of_beq this]), fun h => by rw [of_decide_eq_true h]; show (b.data == b.data) = true; simp⟩
/-- A slice that is read. -/
def Src (R : HL) (p : Option Addr) (n : Nat) (fl : List Value) : Prop := (p = none ∧ n = 0) ∨ ∃ b o cl E fr, p = some ⟨b, o, none⟩ ∧ (b, Obj.cells (List.toArray cl) E fr) ∈ R ∧ ∀ j, j < fl.length → cl[o + j]? = fl[j]?
theorem Src.lies {R : HL} {p : Option Addr} {n k : Nat} {fl : List Value} (h : Src R p n fl) (hl : fl.length = n * k) : Lies R p fl := by
  rcases h with ⟨_, h⟩ | h
  · exact .inl (List.eq_nil_of_length_eq_zero (by rw [hl, h]; simp))
  · exact .inr h
theorem Row.src {e size n : Nat} {xs : List Value} {v : Value} {L : HL} (h : Row e size n xs v L) : ∃ p cap, v = .slice p n cap ∧ Src L p n xs := by
  rcases h.2 with ⟨h1, h2, h3⟩ | ⟨g, cap, cur, h1, h2, h3, h4, h5, h6⟩
  · exact ⟨none, 0, by rw [h1, h2], .inl ⟨rfl, h2⟩⟩
  · refine ⟨_, _, h1, .inr ⟨g, 0, cur.toList, e, (0, 0), rfl, by rw [h2]; simp, fun j hj => ?_⟩⟩
    rw [Nat.zero_add, ← h6, List.getElem?_take, if_pos (by rw [h.1] at hj; exact hj)]
theorem Src.mono {R R' : HL} {p : Option Addr} {n : Nat} {fl : List Value} (h : Src R p n fl) (hs : ∀ x ∈ R, x ∈ R') : Src R' p n fl := by
  rcases h with h | ⟨b, o, cl, E, fr, h1, h2, h3⟩
  · exact .inl h
  · exact .inr ⟨b, o, cl, E, fr, h1, hs _ h2, h3⟩
theorem mBs0 {P : Program} {n : Cfg} {l : Env} {Lx : HL} {ty t e sz : Nat} (hu : P.underlying t = some (.slice e)) (hs : ∀ w, (Go.sizeOf e).run P w = .ok sz w) : Makes P n l Lx (.buildSlice t 0 #[]) ty (.cells #[] e) (fun b => .slice (some ⟨b, 0, none⟩) 0 0) := fun a w he _ => by
  simp [EX, execOp, Instr.buildSlice, run_underlying hu, hs, Instr.fill, newRow]
  have : (Array.map (fun (_ : Nat) => (default : Value)) (Array.range 0)) = #[] := Array.eq_empty_of_size_eq_zero (by simp)
  rw [this]
def upd (g : K2 → List Ver) (k : K2) (xs : List Ver) : K2 → List Ver := fun k' => if k' = k then xs else g k'
def applyW (st : Stamp) (ws : List Write) (g : K2 → List Ver) : K2 → List Ver := ws.foldl (fun g w => upd g (w.bucket, w.key) (addV ⟨st, w⟩ (g (w.bucket, w.key))).2) g
theorem applyW_step {st : Stamp} {ws : List Write} {g : K2 → List Ver} {j : Nat} {w : Write} (h : ws[j]? = some w) : applyW st (ws.take (j + 1)) g = upd (applyW st (ws.take j) g) (w.bucket, w.key) (addV ⟨st, w⟩ (applyW st (ws.take j) g (w.bucket, w.key))).2 := by
  rw [List.take_add_one, h]
  simp [applyW]
def pushOK (σ : ShS) (st : Stamp) (ws : List Write) : Bool := st.ok && ws.all Write.ok && decide (σ.q.length < σ.room)
def ShS.push (σ : ShS) (st : Stamp) (ws : List Write) : ShS := if pushOK σ st ws then { σ with q := σ.q ++ [(st, ws)] } else σ
def ShS.step (σ : ShS) : ShS := match σ.q with | [] => σ | (st, ws) :: q => ⟨σ.room, q, applyW st ws σ.g, σ.ap.set' st.dc (max st.n (σ.ap.at' st.dc))⟩
abbrev readV (σ : ShS) (k : K2) (v : Vec) : Option Ver := lastOf (fun x => x.s.v.leq v) (σ.g k)
/-- What is read: its value, its stamp, whether it is there. -/
def readR (σ : ShS) (k : K2) (v : Vec) : ByteArray × Stamp × Bool := (((readV σ k v).getD Ver.zero).w.value, ((readV σ k v).getD Ver.zero).s, (readV σ k v).isSome && !((readV σ k v).getD Ver.zero).w.gone)
abbrev lastR (σ : ShS) (k : K2) : Option Ver := lastOf (fun _ => true) (σ.g k)
def Total (g : K2 → List Ver) (n : Nat) : Prop := ∃ ks : List K2, ks.Nodup ∧ (∀ k, k ∉ ks → g k = []) ∧ n = (ks.map fun k => (g k).length).sum
theorem get2_app {k : K2} {es : List Ent} {v : Value} {c : Nat} (h : get2 k es = none) : get2 k (es ++ [(k, v, c)]) = some v := by
  unfold get2 at h ⊢
  rw [List.find?_append]
  cases hf : es.find? fun e => decide (k = e.1) with
  | none => simp
  | some e => rw [hf] at h; cases h
theorem EsOK.add {es : List Ent} {clock : Nat} {g : K2 → List Ver} {k : K2} {v : Value} (h : EsOK es clock g) (hn : get2 k es = none) : EsOK (es ++ [(k, v, clock)]) (clock + 1) g where
  kd := by
    have := get2_none hn
    simp only [List.map_append, List.map_cons, List.map_nil]
    refine List.nodup_append.2 ⟨h.kd, by simp, fun a ha b hb e => ?_⟩
    simp at hb; subst hb e
    obtain ⟨x, hx, hh⟩ := List.mem_map.1 ha
    exact this x hx hh
  bd := by
    simp only [List.map_append, List.map_cons, List.map_nil]
    refine List.nodup_append.2 ⟨h.bd, by simp, fun a ha b hb e => ?_⟩
    simp at hb; subst hb e
    obtain ⟨x, hx, hh⟩ := List.mem_map.1 ha
    exact absurd (h.old x hx) (by omega)
  old := fun e he => by
    rcases List.mem_append.1 he with h1 | h1
    · exact Nat.lt_succ_of_lt (h.old e h1)
    · simp at h1; subst h1; exact Nat.lt_succ_self _
  out := fun k' hk => h.out k' (fun hh => hk (by simp only [List.map_append]; exact List.mem_append_left _ hh))
theorem perm_end {x a b c d : Nat × Obj} {A B : HL} : (x :: a :: b :: c :: d :: (A ++ B)).Perm (a :: b :: c :: d :: (A ++ (B ++ [x]))) := by
  have := (List.perm_append_singleton x (a :: b :: c :: d :: (A ++ B))).symm
  simpa using this
theorem idx_all {ws : List Write} : decide (idxOf (fun w => !Write.ok w) ws ≥ 0) = !ws.all Write.ok := by
  rcases idxOf_cases (fun w => !Write.ok w) ws with ⟨h1, h2⟩ | ⟨k, x, h1, h2, h3, _⟩
  · rw [h1]
    have : ws.all Write.ok = true := List.all_eq_true.2 fun x hx => by simpa using h2 x hx
    simp [this]
  · rw [h1]
    have : ws.all Write.ok = false := by
      cases h : ws.all Write.ok with
      | false => rfl
      | true =>
        have := List.all_eq_true.1 h x (List.mem_of_getElem? h2)
        simp [this] at h3
    simp [this]
end TB
namespace TB
open Go
theorem perm_in {x y0 y1 y2 y3 y4 : Nat × Obj} {A B C D : HL} (h : C.Perm (x :: (A ++ B))) : (y0 :: y1 :: y2 :: y3 :: y4 :: (D ++ C)).Perm (x :: (A ++ (y0 :: y1 :: y2 :: y3 :: y4 :: (D ++ B)))) := by
  have e0 : (y0 :: y1 :: y2 :: y3 :: y4 :: (D ++ C)) = (y0 :: y1 :: y2 :: y3 :: y4 :: D) ++ C := by simp
  have e1 : (y0 :: y1 :: y2 :: y3 :: y4 :: (D ++ B)) = (y0 :: y1 :: y2 :: y3 :: y4 :: D) ++ B := by simp
  rw [e0, e1]
  refine (h.append_left _).trans (List.perm_middle.trans (List.Perm.cons _ ?_))
  rw [← List.append_assoc, ← List.append_assoc]
  exact List.perm_append_comm.append_right _
theorem split_perm {α : Type} : ∀ {vis es : List α}, vis.Nodup → (∀ e ∈ vis, e ∈ es) → ∃ rest, es.Perm (vis ++ rest)
  | [], es, _, _ => ⟨es, List.Perm.refl _⟩
  | v :: vis, es, nd, hs => by
    obtain ⟨A, B, rfl⟩ := List.append_of_mem (hs v (by simp))
    rw [List.nodup_cons] at nd
    obtain ⟨rest, hr⟩ := split_perm (es := A ++ B) nd.2 (fun e he => by
      have := hs e (List.mem_cons_of_mem _ he)
      rcases List.mem_append.1 this with h | h
      · exact List.mem_append_left _ h
      · rcases List.mem_cons.1 h with rfl | h
        · exact absurd he nd.1
        · exact List.mem_append_right _ h)
    exact ⟨rest, List.perm_middle.trans (hr.cons v)⟩
def lenS (g : K2 → List Ver) (es : List Ent) : Nat := (es.map fun e => (g e.1).length).sum
theorem lenS_app (g : K2 → List Ver) (a b : List Ent) : lenS g (a ++ b) = lenS g a + lenS g b := by simp [lenS]
theorem lenS_one (g : K2 → List Ver) (e : Ent) : lenS g [e] = (g e.1).length := by simp [lenS]
theorem lenS_perm {g : K2 → List Ver} {a b : List Ent} (h : a.Perm b) : lenS g a = lenS g b := (h.map _).sum_nat
theorem lenS_mono {g g' : K2 → List Ver} (h : ∀ k, (g' k).length ≤ (g k).length) : ∀ es : List Ent, lenS g' es ≤ lenS g es
  | [] => Nat.le_refl _
  | e :: es => by have := lenS_mono h es; have := h e.1; simp only [lenS, List.map_cons, List.sum_cons] at *; omega
structure VisOK (es vis : List Ent) : Prop where
  sub : ∀ e ∈ vis, e ∈ es
  nd : (vis.map (·.2.2)).Nodup
theorem VisOK.nodup {es vis : List Ent} (h : VisOK es vis) : vis.Nodup := List.Pairwise.of_map (·.2.2) (fun a b hne e => hne (by rw [e])) h.nd
theorem VisOK.nil (es : List Ent) : VisOK es [] := ⟨(fun e he => nomatch he), List.nodup_nil⟩
theorem VisOK.add {es vis : List Ent} (h : VisOK es vis) {e : Ent} (he : e ∈ es) (hne : e.2.2 ∉ vis.map (·.2.2)) : VisOK es (vis ++ [e]) where
  sub := fun x hx => by
    rcases List.mem_append.1 hx with h1 | h1
    · exact h.sub x h1
    · simp at h1; subst h1; exact he
  nd := by
    simp only [List.map_append, List.map_cons, List.map_nil]
    refine List.nodup_append.2 ⟨h.nd, by simp, fun a ha b hb e' => ?_⟩
    simp at hb; subst hb e'
    exact hne ha
theorem VisOK.len {es vis : List Ent} (h : VisOK es vis) : vis.length ≤ es.length := by
  obtain ⟨rest, hr⟩ := split_perm h.nodup h.sub
  rw [hr.length_eq]; simp
theorem VisOK.sum {es vis : List Ent} (h : VisOK es vis) (g : K2 → List Ver) : lenS g vis ≤ lenS g es := by
  obtain ⟨rest, hr⟩ := split_perm h.nodup h.sub
  rw [lenS_perm hr, lenS_app]; omega
theorem VisOK.all {es vis : List Ent} (h : VisOK es vis) (hbd : (es.map (·.2.2)).Nodup) (hall : ∀ e ∈ es, e.2.2 ∈ vis.map (·.2.2)) : es.Perm vis := by
  obtain ⟨rest, hr⟩ := split_perm h.nodup h.sub
  cases rest with
  | nil => simpa using hr
  | cons r rest =>
    exfalso
    have nd := (hr.map (·.2.2)).nodup_iff.1 hbd
    simp only [List.map_append, List.map_cons] at nd
    have hd := (List.nodup_append.1 nd).2.2
    exact hd r.2.2 (hall r (hr.mem_iff.2 (by simp))) r.2.2 (by simp) rfl
theorem total_es {es : List Ent} {clock : Nat} {g : K2 → List Ver} (h : EsOK es clock g) : Total g (lenS g es) := ⟨es.map (·.1), h.kd, h.out, by simp [lenS, Function.comp_def]⟩
/-- The sum stands by the versions alone. -/
theorem Total.uniq {g : K2 → List Ver} {n m : Nat} (h : Total g n) (k : Total g m) : n = m := by
  obtain ⟨as, n1, o1, rfl⟩ := h
  obtain ⟨bs, n2, o2, rfl⟩ := k
  have key : ∀ (as bs : List K2), as.Nodup → bs.Nodup → (∀ k, k ∉ bs → g k = []) → (as.map fun k => (g k).length).sum ≤ (bs.map fun k => (g k).length).sum := by
    intro as bs n1 n2 o2
    classical
    have e : (as.map fun k => (g k).length).sum = ((as.filter fun k => decide (k ∈ bs)).map fun k => (g k).length).sum := by
      clear n1 n2
      induction as with
      | nil => rfl
      | cons a as ih =>
        by_cases ha : a ∈ bs
        · simp [ha, ih]
        · simp [ha, ih, o2 a ha]
    rw [e]
    obtain ⟨rest, hr⟩ := split_perm (vis := as.filter fun k => decide (k ∈ bs)) (es := bs) (n1.filter _) (fun x hx => by simpa using (List.mem_filter.1 hx).2)
    rw [(hr.map fun k => (g k).length).sum_nat]
    simp
  exact Nat.le_antisymm (key as bs n1 n2 o2) (key bs as n2 n1 o1)
def pruneG (h : Vec) (g : K2 → List Ver) : K2 → List Ver := fun k => pruneV h (g k)
open Classical in
noncomputable def gVis (h : Vec) (g : K2 → List Ver) (vis : List Ent) : K2 → List Ver := fun k => if k ∈ vis.map (·.1) then pruneV h (g k) else g k
theorem pruneV_nil (h : Vec) : pruneV h [] = [] := rfl
theorem EsOK.prune {es : List Ent} {clock : Nat} {g : K2 → List Ver} (h : EsOK es clock g) (v : Vec) : EsOK es clock (pruneG v g) := ⟨h.kd, h.bd, h.old, fun k hk => by rw [pruneG, h.out k hk, pruneV_nil]⟩
theorem gVis_step {h : Vec} {g : K2 → List Ver} {vis : List Ent} {e : Ent} : ∀ k, k ≠ e.1 → gVis h g (vis ++ [e]) k = gVis h g vis k := fun k hk => by
  have : k ∈ (vis ++ [e]).map (·.1) ↔ k ∈ vis.map (·.1) := by simp [hk]
  unfold gVis
  by_cases hv : k ∈ vis.map (·.1)
  · rw [if_pos hv, if_pos (this.2 hv)]
  · rw [if_neg hv, if_neg (fun hh => hv (this.1 hh))]
theorem gVis_at {h : Vec} {g : K2 → List Ver} {vis : List Ent} {e : Ent} : gVis h g (vis ++ [e]) e.1 = pruneV h (g e.1) := by
  simp [gVis]
theorem gVis_not {h : Vec} {g : K2 → List Ver} {vis : List Ent} {e : Ent} (hn : e.1 ∉ vis.map (·.1)) : gVis h g vis e.1 = g e.1 := by
  simp only [gVis, hn, if_false]
theorem vis_key {es vis : List Ent} {e : Ent} (h : VisOK es vis) (hkd : (es.map (·.1)).Nodup) (he : e ∈ es) (hne : e.2.2 ∉ vis.map (·.2.2)) : e.1 ∉ vis.map (·.1) := fun hh => by
  obtain ⟨x, hx, hxe⟩ := List.mem_map.1 hh
  have hxs := h.sub x hx
  have : x = e := by
    have a := get2_mem hkd hxs (k := e.1) hxe
    clear h hne hh hx
    induction es with
    | nil => cases he
    | cons y es ih =>
      simp only [List.map_cons, List.nodup_cons] at hkd
      rcases List.mem_cons.1 he with h1 | h1 <;> rcases List.mem_cons.1 hxs with h2 | h2
      · rw [h1, h2]
      · have := List.mem_map_of_mem (f := (·.1)) h2
        simp only [hxe, h1] at this
        exact absurd this hkd.1
      · have := List.mem_map_of_mem (f := (·.1)) h1
        simp only [← hxe, h2] at this
        exact absurd this hkd.1
      · refine ih hkd.2 h1 h2 (get2_mem hkd.2 h2 hxe)
  subst this
  exact hne (List.mem_map_of_mem hx)
theorem gVis_all {h : Vec} {g : K2 → List Ver} {es vis : List Ent} {clock : Nat} (hE : EsOK es clock g) (hp : es.Perm vis) : gVis h g vis = pruneG h g := by
  funext k
  unfold gVis pruneG
  split
  · rfl
  · rename_i hk
    have : g k = [] := hE.out k (fun hh => hk ((hp.map (·.1)).mem_iff.1 hh))
    rw [this, pruneV_nil]
end TB
namespace TB
open Go
section
variable {P : Program} {n : Cfg} {l : Env} {Lx : HL} {ty : TypeId} {T : TypeId} {k : IntKind} {a b : Int}
theorem bRem (h : b ≠ 0) : BinR P .rem T (.int k a) (.int k b) (.int k (a.tmod b)) := bInt fun w => by simp [binOp, Op.intDiv, h]
theorem bQuo (h : b ≠ 0) : BinR P .quo T (.int k a) (.int k b) (.int k (k.wrap (a.tdiv b))) := bInt fun w => by simp [binOp, Op.intDiv, h]
theorem eqB_run {x y : Bool} (hu : P.underlying T = some .bool) (w : World) : (Op.equal T (.bool x) (.bool y)).run P w = .ok (x == y) w := by
  show (Op.equalIn (9999 + 1) T (.bool x) (.bool y)).run P w = _
  generalize 9999 = d
  simp [Op.equalIn, run_underlying hu]
theorem bNeB {x y : Bool} (hu : P.underlying T = some .bool) : BinR P .neq T (.bool x) (.bool y) (.bool (!(x == y))) := fun ox oy w => by
  rw [Sem.run_bind]
  have : (eqGuard .neq T ox oy (.bool x) (.bool y)).run P w = .ok () w := by unfold eqGuard; rfl
  rw [this, Result.andThen_ok]
  simp only [binOp, Sem.run_bind, eqB_run hu, Result.andThen_ok]; rfl
theorem bEqB {x y : Bool} (hu : P.underlying T = some .bool) : BinR P .eql T (.bool x) (.bool y) (.bool (x == y)) := fun ox oy w => by
  rw [Sem.run_bind]
  have : (eqGuard .eql T ox oy (.bool x) (.bool y)).run P w = .ok () w := by unfold eqGuard; rfl
  rw [this, Result.andThen_ok]
  simp only [binOp, Sem.run_bind, eqB_run hu, Result.andThen_ok]; rfl
theorem rBytes {t1 t2 e g len cap : Nat} {x : Operand} {xs : List Int} {cl : List Value} {E : TypeId} {fr : Nat × Nat} {f : Obj → HL} (hs : P.underlying t1 = some (.slice e)) (he : P.underlying e = some (.int .u8)) (hd : P.underlying t2 = some .string)
    (hx : evE l x = some (.slice (some ⟨g, 0, none⟩) len cap)) [hsl : Slot Lx g (.cells cl.toArray E fr) f] (hl : xs.length = len) (hc : cl = xs.map (Value.int .u8)) : Runs P n l Lx (.convert t1 t2 x) ty (.string (strOfNums xs)) := fun a w h hL => by
  have hb := hL _ hsl.mem
  have := run_convert_bytes_arg (P := P) w t1 e hs he g 0 len cap xs hl (fun i hi => by
    rw [cell_of hb, hc]
    simp [List.getElem?_eq_getElem (show i < xs.length by omega), List.getD]) t2 hd
  simp [EX, execOp, h.ev hx, this]
end
/- WHAT THE LAWS ARE GIVEN -/
structure PutD where
  w : Write
  own : Bool
  k : Int
abbrev putL (p : PutD) : List Value := [.string p.w.bucket, .string p.w.key, .string p.w.value, .bool p.w.gone, .bool p.own, .int .u8 p.k]
def putV (p : PutD) : Value := .agg #[.string p.w.bucket, .string p.w.key, .string p.w.value, .bool p.w.gone, .bool p.own, .int .u8 p.k]
theorem putL_len (p : PutD) : (putL p).length = 6 := rfl
def putsL (ps : List PutD) : List Value := ps.flatMap putL
abbrev putBk (k : Int) : ByteArray := strOfNums [98, IntKind.u8.wrap (48 + k.tmod 2)]
abbrev putKy (k : Int) : ByteArray := strOfNums [IntKind.u8.wrap (97 + (IntKind.u8.wrap (k.tdiv 2)).tmod 4)]
abbrev putCut (s : ByteArray) : ByteArray := s.extract 0 (min (s.size : Int) 8).toNat
abbrev preW (p : PutD) : Write := ⟨putBk p.k, putKy p.k, putCut p.w.value, decide (p.k ≥ 224)⟩
def writeOf (p : PutD) : Write := if p.own then ⟨putBk p.k, putKy p.k, if p.k ≥ 224 then ⟨#[]⟩ else putCut p.w.value, decide (p.k ≥ 224)⟩ else p.w
def dcOf (d : Int) : Int := IntKind.i64.wrap (1 + IntKind.i64.wrap ((IntKind.u64.wrap d).tmod 3))
theorem u64_range (d : Int) : 0 ≤ IntKind.u64.wrap d ∧ IntKind.u64.wrap d ≤ 18446744073709551615 := by
  rw [IntKind.wrap_u64]; omega
theorem dcOf_cases (d : Int) : dcOf d = 1 ∨ dcOf d = 2 ∨ dcOf d = 3 := by
  have h := u64_range d
  unfold dcOf
  generalize IntKind.u64.wrap d = x at h
  have h1 : x.tmod 3 = x % 3 := Int.tmod_eq_emod_of_nonneg h.1
  have h2 : IntKind.i64.wrap (x % 3) = x % 3 := IntWalk.i64_in _ (by omega)
  rw [h1, h2, IntWalk.i64_in _ (by omega)]
  omega
structure MarkD where
  s : Stamp
  own : Bool
abbrev markL (m : MarkD) : List Value := [.int .u64 m.s.v.a, .int .u64 m.s.v.b, .int .u64 m.s.v.c, .int .u64 m.s.v.d, .int .i64 m.s.dc, .bool m.own]
def markV (m : MarkD) : Value := .agg #[.int .u64 m.s.v.a, .int .u64 m.s.v.b, .int .u64 m.s.v.c, .int .u64 m.s.v.d, .int .i64 m.s.dc, .bool m.own]
def markVec (v : Vec) : Vec := ⟨v.a.tmod 4, v.b.tmod 4, v.c.tmod 4, 0⟩
def markOf (m : MarkD) : Stamp := if m.own then ⟨(markVec m.s.v).set' (dcOf m.s.dc) (IntKind.u64.wrap (1 + (markVec m.s.v).at' (dcOf m.s.dc))), dcOf m.s.dc⟩ else m.s
abbrev mixM (v : Vec) (d : Int) (s : Nat) : List Value := [.int .u64 (bif Nat.blt 0 s then v.a.tmod 4 else 0), .int .u64 (bif Nat.blt 1 s then v.b.tmod 4 else 0), .int .u64 (bif Nat.blt 2 s then v.c.tmod 4 else 0), .int .u64 0, .int .i64 d]
structure VecD where
  v : Vec
  own : Bool
abbrev vecdL (m : VecD) : List Value := [.int .u64 m.v.a, .int .u64 m.v.b, .int .u64 m.v.c, .int .u64 m.v.d, .bool m.own]
def vecdV (m : VecD) : Value := .agg #[.int .u64 m.v.a, .int .u64 m.v.b, .int .u64 m.v.c, .int .u64 m.v.d, .bool m.own]
def vecOf (m : VecD) : Vec := if m.own then ⟨m.v.a.tmod 4, m.v.b.tmod 4, m.v.c.tmod 4, m.v.d.tmod 4⟩ else m.v
abbrev mixV (v : Vec) (s : Nat) : List Value := [.int .u64 (bif Nat.blt 0 s then v.a.tmod 4 else v.a), .int .u64 (bif Nat.blt 1 s then v.b.tmod 4 else v.b), .int .u64 (bif Nat.blt 2 s then v.c.tmod 4 else v.c), .int .u64 (bif Nat.blt 3 s then v.d.tmod 4 else v.d), .bool true]
def sameW (w x : Write) : Bool := decide (x.bucket = w.bucket) && decide (x.key = w.key)
def wsStep (whole : Bool) (out : List Write) (p : PutD) : List Write :=
  let w := writeOf (if whole then { p with own := true } else p)
  if !whole || !out.any (sameW w) then out ++ [w] else out
def wsGo (most : Nat) (whole : Bool) : List PutD → List Write → List Write
  | [], out => out
  | p :: ps, out => if out.length < most then wsGo most whole ps (wsStep whole out p) else out
structure DealD where
  m : MarkD
  ps : List PutD
  own : Bool
abbrev Write.dflt : Write := ⟨⟨#[98, 48]⟩, ⟨#[97]⟩, ⟨#[118]⟩, false⟩
def dealWs (d : DealD) : List Write := if d.own then (if wsGo 8 true d.ps [] = [] then [Write.dflt] else wsGo 8 true d.ps []) else wsGo 10 false d.ps []
def dealSt (d : DealD) : Stamp := markOf (if d.own then { d.m with own := true } else d.m)
structure WG where
  i : Nat
  out : List Write
  q : Option Addr
  cap : Nat
  Lr : HL
theorem writes_cell {out : List Write} {T : List Value} {k : Nat} {y : Write} (hy : out[k]? = some y) : ∀ (j : Nat) v, (writeL y)[j]? = some v → (writesL out ++ T)[0 + k * 4 + j]? = some v := fun j v hv => by
  have hj : j < 4 := (List.getElem?_eq_some_iff.1 hv).1
  have h1 := flat_get writeL_len out k j y hy hj
  rw [hv] at h1
  have hlt : k * 4 + j < (writesL out).length := (List.getElem?_eq_some_iff.1 h1).1
  rw [Nat.zero_add, List.getElem?_append_left hlt]; exact h1
theorem any_step {α : Type} {f : α → Bool} {out : List α} {k : Nat} {y : α} (hy : out[k]? = some y) : (out.take (k + 1)).any f = ((out.take k).any f || f y) := by
  rw [List.take_add_one, hy]; simp
theorem wsGo_cons {most : Nat} {whole : Bool} {ps : List PutD} {i : Nat} {x : PutD} {out : List Write} (hx : ps[i]? = some x) (h : out.length < most) : wsGo most whole (ps.drop i) out = wsGo most whole (ps.drop (i + 1)) (wsStep whole out x) := by
  rw [drop_step hx]; simp only [wsGo, h, if_true]
theorem wsGo_full {most : Nat} {whole : Bool} {ps : List PutD} {out : List Write} (h : ¬ out.length < most) : wsGo most whole ps out = out := by
  cases ps <;> simp [wsGo, h]
theorem wsStep_len (whole : Bool) (out : List Write) (p : PutD) : (wsStep whole out p).length ≤ out.length + 1 := by
  unfold wsStep
  generalize writeOf (if whole then { p with own := true } else p) = w
  simp only
  split <;> simp
theorem wsGo_len (most : Nat) (whole : Bool) : ∀ (ps : List PutD) (out : List Write), out.length ≤ most → (wsGo most whole ps out).length ≤ most
  | [], out, h => h
  | p :: ps, out, h => by
    unfold wsGo
    split
    · exact wsGo_len most whole ps _ (Nat.le_trans (wsStep_len whole out p) (by omega))
    · exact h
end TB
namespace TB
open Go
def lexL : List Int → List Int → Int
  | x :: xs, y :: ys => if cmp3 x y ≠ 0 then cmp3 x y else lexL xs ys
  | _, _ => 0
theorem cmp3_lt {x y : Int} : cmp3 x y < 0 ↔ x < y := by unfold cmp3; split <;> (try split) <;> omega
theorem cmp3_eq {x y : Int} : cmp3 x y = 0 ↔ x = y := by unfold cmp3; split <;> (try split) <;> omega
theorem cmp3_gt {x y : Int} : cmp3 x y > 0 ↔ x > y := by unfold cmp3; split <;> (try split) <;> omega
theorem lexL_refl : ∀ (a : List Int), lexL a a = 0
  | [] => rfl
  | x :: xs => by simp [lexL, cmp3_eq.2 rfl, lexL_refl xs]
theorem lexL_eq : ∀ {a b : List Int}, a.length = b.length → lexL a b = 0 → a = b
  | [], [], _, _ => rfl
  | x :: xs, y :: ys, hl, h => by
    simp only [lexL] at h
    split at h
    · rename_i hc; exact absurd h hc
    · rename_i hc
      have hxy : x = y := cmp3_eq.1 (by simpa using hc)
      rw [hxy, lexL_eq (by simpa using hl) h]
  | [], _ :: _, hl, _ => by simp at hl
  | _ :: _, [], hl, _ => by simp at hl
theorem lexL_trans : ∀ {a b c : List Int}, a.length = b.length → b.length = c.length → lexL a b < 0 → lexL b c < 0 → lexL a c < 0
  | [], _, _, _, _, h, _ => by simp [lexL] at h
  | _ :: _, [], _, hl, _, _, _ => by simp at hl
  | _ :: _, _ :: _, [], _, hl, _, _ => by simp at hl
  | x :: xs, y :: ys, z :: zs, hl, hl2, h1, h2 => by
    simp only [lexL] at h1 h2 ⊢
    split at h1
    · rename_i hc
      have hxy := cmp3_lt.1 h1
      split at h2
      · have hyz := cmp3_lt.1 h2
        rw [if_pos (by have := cmp3_lt.2 (show x < z by omega); omega)]
        exact cmp3_lt.2 (by omega)
      · rename_i hc2
        have hyz : y = z := cmp3_eq.1 (by simpa using hc2)
        subst hyz
        rw [if_pos hc]; exact h1
    · rename_i hc
      have hxy : x = y := cmp3_eq.1 (by simpa using hc)
      subst hxy
      split at h2
      · rename_i hc2; rw [if_pos hc2]; exact h2
      · rename_i hc2; rw [if_neg hc2]; exact lexL_trans (by simpa using hl) (by simpa using hl2) h1 h2
theorem lexL_flip : ∀ {a b : List Int}, a.length = b.length → (lexL a b > 0 ↔ lexL b a < 0)
  | [], [], _ => by simp [lexL]
  | [], _ :: _, hl => by simp at hl
  | _ :: _, [], hl => by simp at hl
  | x :: xs, y :: ys, hl => by
    simp only [lexL]
    by_cases hxy : x = y
    · subst hxy
      have h0 : cmp3 x x = 0 := cmp3_eq.2 rfl
      simp only [h0, ne_eq, not_true_eq_false, if_false]
      exact lexL_flip (by simpa using hl)
    · rw [if_pos (fun h => hxy (cmp3_eq.1 h)), if_pos (fun h => hxy (cmp3_eq.1 h).symm), cmp3_gt, cmp3_lt]
def keyS (s : Stamp) : List Int := [s.v.sum, s.dc, s.v.a, s.v.b, s.v.c, s.v.d]
theorem ord_key (s t : Stamp) : s.ord t = lexL (keyS s) (keyS t) := by
  unfold Stamp.ord
  split
  · rename_i h; rw [h, lexL_refl]
  · simp only [or3, lex4, keyS, lexL]
    by_cases h1 : cmp3 s.v.sum t.v.sum = 0 <;> by_cases h2 : cmp3 s.dc t.dc = 0 <;> by_cases h3 : cmp3 s.v.a t.v.a = 0 <;> by_cases h4 : cmp3 s.v.b t.v.b = 0 <;> by_cases h5 : cmp3 s.v.c t.v.c = 0 <;> by_cases h6 : cmp3 s.v.d t.v.d = 0 <;> simp [h1, h2, h3, h4, h5, h6]
theorem ord_trans {a b c : Stamp} (h1 : a.ord b < 0) (h2 : b.ord c < 0) : a.ord c < 0 := by
  rw [ord_key] at *; exact lexL_trans (a := keyS a) (b := keyS b) (c := keyS c) rfl rfl h1 h2
theorem ord_flip {a b : Stamp} : a.ord b > 0 ↔ b.ord a < 0 := by rw [ord_key, ord_key]; exact lexL_flip (a := keyS a) (b := keyS b) rfl
theorem ord_refl (a : Stamp) : a.ord a = 0 := by rw [ord_key, lexL_refl]
theorem ord_eq {a b : Stamp} (h : a.ord b = 0) : a = b := by
  rw [ord_key] at h
  have := lexL_eq (a := keyS a) (b := keyS b) rfl h
  obtain ⟨⟨a0, a1, a2, a3⟩, a4⟩ := a
  obtain ⟨⟨b0, b1, b2, b3⟩, b4⟩ := b
  simp only [keyS, List.cons.injEq] at this
  simp only [Stamp.mk.injEq, Vec.mk.injEq]
  exact ⟨⟨this.2.2.1, this.2.2.2.1, this.2.2.2.2.1, this.2.2.2.2.2.1⟩, this.2.1⟩
theorem ord_tri (a b : Stamp) : a.ord b < 0 ∨ a = b ∨ b.ord a < 0 := by
  rcases Int.lt_trichotomy (a.ord b) 0 with h | h | h
  · exact .inl h
  · exact .inr (.inl (ord_eq h))
  · exact .inr (.inr (ord_flip.1 h))
theorem ord_irrefl {a : Stamp} : ¬ a.ord a < 0 := by rw [ord_refl]; omega
/-- In order, each stamp once. -/
def Sorted (xs : List Ver) : Prop := xs.Pairwise fun a b => a.s.ord b.s < 0
theorem Sorted.ordered {xs : List Ver} (h : Sorted xs) : Ordered xs := fun i j x y hij hx hy s hs => by
  rcases Nat.lt_or_ge i j with h1 | h1
  · have hi := (List.getElem?_eq_some_iff.1 hx)
    have hj := (List.getElem?_eq_some_iff.1 hy)
    have := List.pairwise_iff_getElem.1 h i j hi.1 hj.1 h1
    rw [hi.2, hj.2] at this
    exact ord_trans this hs
  · have : i = j := by omega
    subst this; rw [hx] at hy; cases hy; exact hs
theorem addV_sorted {x : Ver} {xs : List Ver} (h : Sorted xs) : Sorted (addV x xs).2 := by
  unfold addV
  split
  · exact h
  · rename_i hc
    simp only [Bool.or_eq_true, Bool.not_eq_true', not_or, Bool.not_eq_true] at hc
    have e := List.take_append_drop (slotV x.s xs) xs
    have h' := h
    rw [← e] at h'
    unfold Sorted at h' ⊢
    rw [List.pairwise_append] at h' ⊢
    refine ⟨h'.1, List.pairwise_cons.2 ⟨fun y hy => ?_, h'.2.1⟩, fun a ha b hb => ?_⟩
    · obtain ⟨j, hj⟩ := List.getElem?_of_mem hy
      rw [List.getElem?_drop] at hj
      have hge := slotV_ge h.ordered (Nat.le_add_right (slotV x.s xs) j) hj
      rcases ord_tri y.s x.s with h1 | h1 | h1
      · exact absurd h1 hge
      · exfalso
        cases j with
        | zero =>
          simp only [Nat.add_zero] at hj
          have := hc.1
          unfold thereV at this
          rw [hj] at this
          simp [h1, ord_refl] at this
        | succ j =>
          have hlt : slotV x.s xs < xs.length := by have := (List.getElem?_eq_some_iff.1 hj).1; omega
          have h0 := slotV_at (List.getElem?_eq_getElem hlt)
          have hp := List.pairwise_iff_getElem.1 h (slotV x.s xs) (slotV x.s xs + (j + 1)) hlt (List.getElem?_eq_some_iff.1 hj).1 (by omega)
          rw [(List.getElem?_eq_some_iff.1 hj).2, h1] at hp
          exact h0 hp
      · exact h1
    · rcases List.mem_cons.1 hb with rfl | hb
      · obtain ⟨j, hj⟩ := List.getElem?_of_mem ha
        rw [List.getElem?_take] at hj
        split at hj
        · exact slotV_lt (by assumption) hj
        · cases hj
      · exact h'.2.2 a ha b hb
theorem addV_len (x : Ver) (xs : List Ver) : (addV x xs).2.length ≤ xs.length + 1 := by
  unfold addV
  have := slotV_le x.s xs
  split <;> simp
  omega
theorem applyW_sorted {st : Stamp} : ∀ {ws : List Write} {g : K2 → List Ver}, (∀ k, Sorted (g k)) → ∀ k, Sorted (applyW st ws g k)
  | [], _, h, k => h k
  | w :: ws, g, h, k => by
    show Sorted (applyW st ws (upd g (w.bucket, w.key) _) k)
    refine applyW_sorted (fun k' => ?_) k
    unfold upd
    split
    · exact addV_sorted (h _)
    · exact h k'
theorem applyW_len {st : Stamp} : ∀ {ws : List Write} {g : K2 → List Ver} {n : Nat}, (∀ k, (g k).length ≤ n) → ∀ k, (applyW st ws g k).length ≤ n + ws.length
  | [], _, _, h, k => h k
  | w :: ws, g, n, h, k => by
    show (applyW st ws (upd g (w.bucket, w.key) _) k).length ≤ _
    have := applyW_len (st := st) (ws := ws) (g := upd g (w.bucket, w.key) (addV ⟨st, w⟩ (g (w.bucket, w.key))).2) (n := n + 1) (fun k' => by
      unfold upd
      split
      · exact Nat.le_trans (addV_len _ _) (by have := h (w.bucket, w.key); omega)
      · have := h k'; omega) k
    simp only [List.length_cons]; omega
/-- What a shard's state must be. -/
structure GOK (g : K2 → List Ver) (n : Nat) : Prop where
  sorted : ∀ k, Sorted (g k)
  len : ∀ k, (g k).length ≤ n
theorem GOK.step {σ : ShS} {n : Nat} (h : GOK σ.g n) (hn : n ≤ 500000) (hq : ∀ x ∈ σ.q, x.2.length ≤ 10) : ∀ st ws q, σ.q = (st, ws) :: q → ws.length ≤ 1000000 ∧ ∀ (j : Nat) k, j ≤ ws.length → Ordered (applyW st (ws.take j) σ.g k) ∧ (applyW st (ws.take j) σ.g k).length ≤ 1000000 := fun st ws q hs => by
  have hw : ws.length ≤ 10 := hq (st, ws) (by rw [hs]; simp)
  refine ⟨by omega, fun j k hj => ⟨(applyW_sorted h.sorted k).ordered, ?_⟩⟩
  have := applyW_len (st := st) (ws := ws.take j) h.len k
  simp only [List.length_take] at this
  omega
end TB
namespace TB
open Go
def exK : K2 := (⟨#[98]⟩, ⟨#[107]⟩)
abbrev exA : Stamp := ⟨⟨1, 0, 0, 0⟩, 1⟩
abbrev exW : Write := ⟨⟨#[98]⟩, ⟨#[107]⟩, ⟨#[118]⟩, false⟩
def ex0 : ShS := ⟨2, [], fun _ => [], Vec.zero⟩
def ex1 : ShS := ⟨2, [(exA, [exW])], fun _ => [], Vec.zero⟩
def ex2 : ShS := ⟨2, [], applyW exA [exW] (fun _ => []), ⟨1, 0, 0, 0⟩⟩
theorem gok_nil : GOK (fun _ => []) 0 := ⟨fun _ => List.Pairwise.nil, fun _ => Nat.le_refl _⟩
theorem gok_ex2 : GOK ex2.g 1 := ⟨applyW_sorted (fun _ => List.Pairwise.nil), fun k => by have := applyW_len (st := exA) (ws := [exW]) (g := fun _ => []) (n := 0) (fun _ => Nat.le_refl _) k; show (applyW exA [exW] (fun _ => []) k).length ≤ 1; simpa using this⟩
theorem ex2_g (k : K2) : ex2.g k = if k = exK then [⟨exA, exW⟩] else [] := rfl
theorem ex_total : Total ex2.g 1 := ⟨[exK], by simp, fun k hk => by rw [ex2_g, if_neg (by simpa using hk)], by simp [ex2_g]⟩
theorem ex_total2 : Total (pruneG exA.v ex2.g) 1 := ⟨[exK], by simp, fun k hk => by rw [pruneG, ex2_g, if_neg (by simpa using hk)]; rfl, by simp [pruneG, ex2_g]; decide +kernel⟩
end TB
namespace TB
open Go
/- DEALS THAT ARE WHOLE -/
structure PutOK (p : PutD) : Prop where
  k0 : 0 ≤ p.k
  k1 : p.k ≤ 255
structure VecR (v : Vec) : Prop where
  a : 0 ≤ v.a ∧ v.a ≤ 18446744073709551615
  b : 0 ≤ v.b ∧ v.b ≤ 18446744073709551615
  c : 0 ≤ v.c ∧ v.c ≤ 18446744073709551615
  d : 0 ≤ v.d ∧ v.d ≤ 18446744073709551615
theorem tmod4 {x : Int} (h : 0 ≤ x) : 0 ≤ x.tmod 4 ∧ x.tmod 4 ≤ 3 := by
  rw [Int.tmod_eq_emod_of_nonneg h]; omega
theorem strOf_size (xs : List Int) : (strOfNums xs).size = xs.length := by
  show (strOfNums xs).data.size = _
  simp [strOfNums]
theorem nameOk_of {s : ByteArray} (h1 : 1 ≤ s.size) (h2 : s.size ≤ 16) : nameOk s = true := by
  unfold nameOk
  have h3 : s ≠ ⟨#[]⟩ := fun h => by rw [h] at h1; exact absurd h1 (by decide)
  have h4 : (s.size : Int) ≤ 16 := by omega
  rw [decide_eq_true h3, decide_eq_true h4]; rfl
theorem putCut_size (s : ByteArray) : (putCut s).size ≤ 8 := by
  unfold putCut
  rw [ByteArray.size_extract]
  omega
theorem writeOf_ok {p : PutD} (h : p.own = true) : (writeOf p).ok = true := by
  unfold writeOf
  rw [h, if_pos rfl]
  have hb : nameOk (putBk p.k) = true := nameOk_of (by rw [strOf_size]; simp) (by rw [strOf_size]; simp)
  have hk : nameOk (putKy p.k) = true := nameOk_of (by rw [strOf_size]; simp) (by rw [strOf_size]; simp)
  have hc := putCut_size p.w.value
  unfold Write.ok
  simp only [hb, hk, Bool.true_and]
  by_cases h224 : p.k ≥ 224
  · simp [h224]; decide
  · have h5 : ((putCut p.w.value).size : Int) ≤ 32 := by omega
    simp [h224]; simpa using h5
theorem wsStep_ok {out : List Write} {p : PutD} (h : ∀ w ∈ out, w.ok = true) : ∀ w ∈ wsStep true out p, w.ok = true := fun w hw => by
  unfold wsStep at hw
  simp only [if_true] at hw
  split at hw
  · rcases List.mem_append.1 hw with h1 | h1
    · exact h w h1
    · simp at h1; subst h1; exact writeOf_ok rfl
  · exact h w hw
theorem wsGo_ok {most : Nat} : ∀ {ps : List PutD} {out : List Write}, (∀ w ∈ out, w.ok = true) → ∀ w ∈ wsGo most true ps out, w.ok = true
  | [], _, h => h
  | p :: ps, out, h => by
    unfold wsGo
    split
    · exact wsGo_ok (wsStep_ok h)
    · exact h
theorem dealWs_ok {d : DealD} (h : d.own = true) : (dealWs d).all Write.ok = true := by
  unfold dealWs
  rw [h, if_pos rfl, List.all_eq_true]
  split
  · intro w hw; simp at hw; subst hw; decide
  · exact wsGo_ok (fun w hw => nomatch hw)
theorem dealWs_len (d : DealD) : (dealWs d).length ≤ 10 := by
  unfold dealWs
  split
  · split
    · simp
    · exact Nat.le_trans (wsGo_len 8 true d.ps [] (Nat.zero_le _)) (by omega)
  · exact wsGo_len 10 false d.ps [] (Nat.zero_le _)
theorem dealWs_ne {d : DealD} (h : d.own = true) : dealWs d ≠ [] := by
  unfold dealWs
  rw [h, if_pos rfl]
  split
  · simp
  · assumption
theorem markOf_spec {m : MarkD} (h : m.own = true) (hr : VecR m.s.v) : (markOf m).ok = true ∧ 1 ≤ (markOf m).n ∧ (markOf m).n ≤ 4 ∧ ((markOf m).dc = 1 ∨ (markOf m).dc = 2 ∨ (markOf m).dc = 3) ∧
    (0 ≤ (markOf m).v.a ∧ (markOf m).v.a ≤ 4) ∧ (0 ≤ (markOf m).v.b ∧ (markOf m).v.b ≤ 4) ∧ (0 ≤ (markOf m).v.c ∧ (markOf m).v.c ≤ 4) ∧ (markOf m).v.d = 0 := by
  have ha := tmod4 hr.a.1
  have hb := tmod4 hr.b.1
  have hc := tmod4 hr.c.1
  have hu : ∀ x : Int, 0 ≤ x → x ≤ 3 → IntKind.u64.wrap (1 + x) = 1 + x := fun x h1 h2 => IntWalk.u64_in _ (by omega)
  unfold markOf
  rw [h, if_pos rfl]
  rcases dcOf_cases m.s.dc with hd | hd | hd <;> rw [hd] <;>
    simp only [markVec, Vec.set', Vec.at', Stamp.ok, Stamp.n, Vec.ok, Vec.leq, Vec.most, if_true, Int.reduceEq, if_false] <;>
    simp only [hu _ ha.1 ha.2, hu _ hb.1 hb.2, hu _ hc.1 hc.2] <;>
    refine ⟨by simp; omega, by omega, by omega, by simp, by omega, by omega, by omega, trivial⟩
theorem dealSt_spec {d : DealD} (h : d.own = true) (hr : VecR d.m.s.v) : (dealSt d).ok = true ∧ 1 ≤ (dealSt d).n ∧ (dealSt d).n ≤ 4 ∧ ((dealSt d).dc = 1 ∨ (dealSt d).dc = 2 ∨ (dealSt d).dc = 3) ∧
    (0 ≤ (dealSt d).v.a ∧ (dealSt d).v.a ≤ 4) ∧ (0 ≤ (dealSt d).v.b ∧ (dealSt d).v.b ≤ 4) ∧ (0 ≤ (dealSt d).v.c ∧ (dealSt d).v.c ≤ 4) ∧ (dealSt d).v.d = 0 := by
  unfold dealSt
  rw [h, if_pos rfl]
  exact markOf_spec rfl hr
/-- Deals as they lie. -/
structure DealA where
  d : DealD
  p : Option Addr
  cap : Nat
abbrev dealL (x : DealA) : List Value := [.int .u64 x.d.m.s.v.a, .int .u64 x.d.m.s.v.b, .int .u64 x.d.m.s.v.c, .int .u64 x.d.m.s.v.d, .int .i64 x.d.m.s.dc, .bool x.d.m.own, .slice x.p x.d.ps.length x.cap, .bool x.d.own]
theorem dealL_len (x : DealA) : (dealL x).length = 8 := rfl
def dealsL (xs : List DealA) : List Value := xs.flatMap dealL
structure DealR (R : HL) (x : DealA) : Prop where
  src : Lies R x.p (putsL x.d.ps)
  len : x.d.ps.length ≤ 9223372036854775807
  puts : ∀ p ∈ x.d.ps, PutOK p
  vec : VecR x.d.m.s.v
end TB
namespace TB
open Go
structure AG where
  i : Nat
  g : K2 → List Ver
  ap : Vec
  H : HL
end TB
