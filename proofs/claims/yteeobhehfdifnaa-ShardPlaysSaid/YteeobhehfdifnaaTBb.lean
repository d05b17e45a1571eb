/- A part of the proof that shardPlays of chapter 10 returns true at every room and every list of deeds, and leaves its arguments as they read; no condition. -/
import Derived.Test.YteeobhehfdifnaaTBa
import Derived.Conc.LoneSelect
import Derived.Laws.IdiomRangeMap
import Derived.Lib.SliceRun
import Derived.Laws.Externs
import Derived.Lib.Overlaps
set_option linter.unusedVariables false
set_option linter.unusedSimpArgs false
namespace TB
open Go
/- SLICES OF ONE'S OWN -/
/-- The slice value v has n elements of type e, their cells xs; L is its block. -/
def Row (e size n : Nat) (xs : List Value) (v : Value) (L : HL) : Prop :=
  xs.length = n * size ∧ ((v = .slice none 0 0 ∧ n = 0 ∧ L = []) ∨
    ∃ g cap cur, v = .slice (some ⟨g, 0, none⟩) n cap ∧ L = [(g, .cells cur e (0, 0))] ∧ n ≤ cap ∧ cap ≤ maxLen ∧ cur.size = cap * size ∧ cur.toList.take (n * size) = xs)
theorem Row.nil (e size : Nat) : Row e size 0 [] (.slice none 0 0) [] := ⟨by simp, .inl ⟨rfl, rfl, rfl⟩⟩
theorem Row.owns {e size n : Nat} {xs : List Value} {v : Value} {L : HL} {w : World} (h : Row e size n xs v L) (hL : Has w L) : w.ownsRow 0 e size v n xs := by
  refine ⟨h.1, ?_⟩
  rcases h.2 with ⟨h1, h2, _⟩ | ⟨g, cap, cur, h1, h2, h3, h4, h5, h6⟩
  · exact .inl ⟨h1, h2⟩
  · exact .inr ⟨g, cap, cur, h1, Nat.zero_le _, hL _ (by rw [h2]; exact List.mem_singleton.2 rfl), h3, h4, h5, h6⟩
/-- What a row's cells are, for a reader. -/
theorem Row.lies {e size n : Nat} {xs : List Value} {v : Value} {L : HL} (h : Row e size n xs v L) : ∃ p cap, v = .slice p n cap ∧ Lies L p xs := by
  rcases h.2 with ⟨h1, h2, h3⟩ | ⟨g, cap, cur, h1, h2, h3, h4, h5, h6⟩
  · exact ⟨none, 0, by rw [h1, h2], .inl (List.eq_nil_of_length_eq_zero (by rw [h.1, h2]; simp))⟩
  · refine ⟨_, _, h1, .inr ⟨g, 0, cur.toList, e, (0, 0), rfl, by rw [h2]; simp, fun j hj => ?_⟩⟩
    rw [Nat.zero_add, ← h6, List.getElem?_take, if_pos (by rw [h.1] at hj; exact hj)]
def AP (P : Program) (t e size bytes : Nat) : Prop := ∃ i z, P.underlying t = some (.slice e) ∧ P.info? e = some i ∧ i.zero = some z ∧ i.size = size ∧ i.bytes = bytes ∧ z.cells.size = size ∧ 0 < size ∧ 0 < bytes
theorem ap_of {P : Program} {t e size bytes : Nat} {z : Value} (hu : P.underlying t = some (.slice e)) (hi : (P.info? e).map (fun i => (i.zero, i.size, i.bytes)) = some (some z, size, bytes)) (hz : z.cells.size = size) (h0 : 0 < size) (h1 : 0 < bytes) : AP P t e size bytes := by
  cases h : P.info? e with
  | none => simp [h] at hi
  | some i =>
    simp [h] at hi
    exact ⟨i, z, hu, h, hi.1, hi.2.1, hi.2.2, hz, h0, h1⟩
section
variable {P : Program} {w0 : World} {F : List Nat} {R : HL} {n : Cfg} {l : Env} {L Ls L1 L2 : HL} {N : Act → World → Prop} {ops : Array Oper} {i d : Nat} {ty : TypeId} {r : Wk} {v : Value}
theorem papp {t e size bytes k m c bx ox : Nat} {s x : Operand} {xs news clx : List Value} {Ex : TypeId} {frx : Nat × Nat} (hA : AP P t e size bytes)
    (hp : pre ops n l i = some (.call ⟨.builtin .append, #[s, x], #[t, t]⟩, ty, d)) (hs : evE l s = some v) (hrow : Row e size k xs v L1) [h1 : Front L1 L L2] (hx : evE l x = some (.slice (some ⟨bx, ox, none⟩) m c))
    (hm : (bx, Obj.cells clx.toArray Ex frx) ∈ L2 ++ R) (hl : news.length = m * size) (hn : ∀ j u, news[j]? = some u → clx[ox + j]? = some u) (ho : ∀ u ∈ news, u.oneCell' = true) (hb : (k + m) * bytes ≤ 140737488355328)
    [h3 : Among Ls (L2 ++ R)] (h : ∀ v' L', Row e size (k + m) (xs ++ news) v' L' → GS w0 F R n Ls (SqN P ops Ls N r) ((d, v') :: l) (L' ++ L2)) : GS w0 F R n Ls (SqN P ops Ls N (.one i .p r)) l L := fun a w st hLs => by
  obtain ⟨q, hq, hop, hty, hd, hbd, hg⟩ := pre_spec hp
  obtain ⟨ti, z, hu, hi, hz, hsz, hby, hzs, h0, h0b⟩ := hA
  have s2 := st.front (A := L1)
  have hcell : ∀ j u, news[j]? = some u → w.cell? ((⟨bx, ox, none⟩ : Addr).add j) = some u := fun j u hj => by
    have hb : w.heap[bx]? = some (Obj.cells clx.toArray Ex frx) := by
      rcases List.mem_append.1 hm with hm | hm
      · exact s2.has _ (List.mem_append_right _ hm)
      · exact s2.ro _ hm
    rw [add_lit, cell_of hb]; exact hn j u hj
  have hmax : k + m ≤ maxLen := by
    unfold maxLen
    have := Nat.le_mul_of_pos_right (k + m) h0b
    omega
  have hsmall : k + m ≤ 9223372036854775807 := by simp only [maxLen] at hmax; omega
  have hlen : (xs ++ news).length = (k + m) * size := by rw [List.length_append, hrow.1, hl, Nat.add_mul]
  have key : ∃ v' w' L', (Builtin.append_ #[t, t] q.type #[v, .slice (some ⟨bx, ox, none⟩) m c]).run P w = .ok v' w' ∧ Row e size (k + m) (xs ++ news) v' L' ∧ Has w' L' ∧ (keys L').Nodup ∧ (∀ g ∈ keys L', g ∈ keys L1 ∨ w.heap.size ≤ g) ∧ Upd w w' (keys L1) := by
    rcases hrow.2 with ⟨f1, f2, f3⟩ | ⟨g0, cap0, cur0, f1, f2, f3, f4, f5, f6⟩
    · have hown : w.ownsRow w.heap.size e size v k xs := ⟨hrow.1, .inl ⟨f1, f2⟩⟩
      obtain ⟨v', w', hr, ho', hgr, _⟩ := run_append_own (P := P) w w.heap.size t q.type e ti z size bytes hu hi hz hsz hby hzs h0 v k xs hown ⟨bx, ox, none⟩ m c news hl hcell ho hmax hb (Nat.le_refl _)
      have hupd : Upd w w' (keys L1) := ⟨hgr.os, hgr.tape, hgr.output, hgr.size, fun b hb _ => hgr.block b hb (by rw [f1]; simp [Value.ownBlock])⟩
      rcases ho'.2 with ⟨e1, e2⟩ | ⟨g, cap, cur, e1, e0, e3, e4, e5, e6, e7⟩
      · exact ⟨v', w', [], hr, ⟨ho'.1, .inl ⟨e1, e2, rfl⟩⟩, (fun x hx => nomatch hx), List.nodup_nil, (fun g hg => nomatch hg), hupd⟩
      · exact ⟨v', w', [(g, .cells cur e (0, 0))], hr, ⟨ho'.1, .inr ⟨g, cap, cur, e1, rfl, e4, e5, e6, e7⟩⟩, (fun x hx => by rw [List.mem_singleton] at hx; subst hx; exact e3), by simp, (fun g' hg' => by simp at hg'; subst hg'; exact .inr e0), hupd⟩
    · have hg0 : w.heap[g0]? = some (.cells cur0 e (0, 0)) := s2.has _ (List.mem_append_left _ (by rw [f2]; exact List.mem_singleton.2 rfl))
      subst f1
      subst hsz
      by_cases hroom : k + m ≤ cap0
      · have hfit : k * ti.size + news.length ≤ cur0.size := by rw [hl, f5, ← Nat.add_mul]; exact Nat.mul_le_mul_right _ hroom
        have hr := run_append_room (P := P) w t q.type e ti hu hi g0 k cap0 cur0 hg0 ⟨bx, ox, none⟩ m c news hl hcell ho hroom hfit
        refine ⟨_, _, [(g0, .cells _ e (0, 0))], hr, ⟨hlen, .inr ⟨g0, cap0, _, rfl, rfl, hroom, f4, ?_, ?_⟩⟩, (fun x hx => by rw [List.mem_singleton] at hx; subst hx; exact setRow_heap w g0 cur0 _ e _ hg0), by simp, (fun g' hg' => by simp at hg'; subst hg'; left; rw [f2]; simp), ?_⟩
        · simp only [List.size_toArray, List.length_append, List.length_take, List.length_drop, Array.length_toList]
          omega
        · rw [f6, ← hlen]; exact List.take_left
        · exact ⟨rfl, rfl, rfl, by simp, fun b hb hnb => setRow_other w g0 b _ (fun e => hnb (by rw [f2]; simp [e]))⟩
      · have holds : ∀ j u, xs[j]? = some u → w.cell? ((⟨g0, 0, none⟩ : Addr).add j) = some u := fun j u hj => by
          rw [add_lit, Nat.zero_add]
          have : w.cell? ⟨g0, j, none⟩ = cur0.toList[j]? := by simp [World.cell?, hg0]
          rw [this]
          rw [← f6, List.getElem?_take] at hj
          split at hj
          · exact hj
          · cases hj
        have hr := run_append_grow (P := P) w t q.type e ti z hu hi hz ⟨g0, 0, none⟩ k cap0 xs hrow.1 holds ⟨bx, ox, none⟩ m c news hl hcell (by omega) (by omega) (growslice_fits (by omega) (by rw [hby]; exact hb))
        refine ⟨_, _, [(w.heap.size, .cells _ e (0, 0))], hr, ⟨hlen, .inr ⟨w.heap.size, _, _, rfl, rfl, grownCap_ge w (k + m) cap0 e, grownCap_le_maxLen w (k + m) cap0 e hmax, ?_, ?_⟩⟩, (fun x hx => by rw [List.mem_singleton] at hx; subst hx; exact heap_alloc_new w.drew _), by simp, (fun g' hg' => by simp at hg'; subst hg'; exact .inr (Nat.le_refl _)), ?_⟩
        · have hge := grownCap_ge w (k + m) cap0 e
          simp only [Array.size_append, List.size_toArray, size_zeroCells, hzs, hrow.1, hl, ← Nat.add_mul]
          congr 1
          omega
        · simp only [Array.toList_append, List.append_assoc]
          rw [← List.append_assoc, ← hlen]
          exact List.take_left
        · exact ⟨rfl, rfl, rfl, by simp, fun b hb _ => heap_alloc_old w.drew _ hb⟩
  obtain ⟨v', w', L', hr, hR', q1, q2, q3, hupd⟩ := key
  refine ⟨q, hq, ?_⟩
  have hrun : (EX a.eval q.op q.type).run P w = .ok (.value v') w' := by
    rw [hop]
    simp only [EX, execOp, resolve, List.map_toArray, List.map_cons, List.map_nil, st.env.ev hs, st.env.ev hx]
    simp [invoke, builtin, hr]
  rw [if_pos (gd_wanted st.env hg), Oper.wp, EX_eq, hrun, Oper.upon_value, hd]
  have hs' := s2.called q1 q2 q3 hupd
  have hLs' := hs'.2 h3.sub
  exact ⟨.inr hLs', h v' L' hR' _ _ (hs'.1.put hbd v') hLs'⟩
end
end TB
namespace TB
open Go Go.Conc
theorem comm_step {P : Program} {ops : Array Oper} {i : Nat} {rest : List Nat} {o : Oper} {cases : Array CommCase} {blocking : Bool} {shape : CommShape} {a : Act} {w w' : World} (ho : ops[i]? = some o) (hw : Region.wanted o (yielded ops a.tmps) = true)
    (hr : (execOp a.eval o).run P w = .ok (.comm cases blocking shape) w') (b : Frame) (k : List Item) (cs : List Frame) :
    ∃ es, stepG P true (G (b.at a (.inRegion ops (i :: rest) :: k)) cs) w = .comm (G (b.at a (.inRegion ops (i :: rest) :: k)) cs) cases blocking shape w' es := by
  rw [stepG_oper ho hw]
  by_cases hk : (b.kind == CallKind.early) = true
  · exact ⟨_, by simp [stepG.apply, hr, G, Frame.at, hk, GStep.after]; rfl⟩
  · simp only [Bool.not_eq_true] at hk
    exact ⟨_, by simp [stepG.apply, hr, G, Frame.at, hk, GStep.after]; rfl⟩
theorem SqN_ops0 {P : Program} {ops : Array Oper} {N : Act → World → Prop} : ∀ (r : List Nat) (a : Act) (w : World), SqN P ops [] N (wkP r) a w → wpOps P ops (fun e a w => match e with | .normal => N a w | _ => False) r a w
  | [], _, _, h => h
  | i :: r, a, w, h => by
    obtain ⟨o, ho, hr⟩ := h
    rw [wpOps_cons]
    unfold wpOp
    simp only [ho]
    split
    · rename_i hw
      rw [if_pos hw] at hr
      left
      have key := Oper.wp_mono (fun a' w' h' => SqN_ops0 r a' w' h'.2) hr
      unfold Oper.wp at key ⊢
      generalize (execOp a.eval o).run P w = res at *
      cases res with
      | ok nx w' =>
        cases nx <;> simp only [Oper.upon] at key ⊢ <;> exact key
      | halt x w' => cases x <;> simp only [Oper.upon] at key ⊢ <;> exact key.elim
    · rename_i hw
      rw [if_neg hw] at hr
      exact SqN_ops0 r _ _ hr.2
section
variable {P : Program} {w0 : World} {F : List Nat} {R : HL} {n : Cfg} {l : Env} {L Ls L1 L2 : HL} {N : Act → World → Prop} {X : List (Nat × (Act → World → Prop))} {Rt : Act → World → Prop} {ops : Array Oper} {i d : Nat} {ty : TypeId} {r : List Nat} {v : Value} {id : Nat}
/-- A region whose first operation is a select that is met by one step of the machine. -/
theorem gSel {o : Oper} (hr : List.range ops.size = 0 :: r) (ho : ops[0]? = some o) (hd : o.dst = some d)
    (h : ∀ a w, St w0 F R n l L a w → ∃ u w', (∀ (b : Frame) (k : List Item) (cs : List Frame), step P (lone (b.at a (.inRegion ops (0 :: r) :: k)) cs w) = .next (lone ((b.at a (.inRegion ops (0 :: r) :: k)).finish u) cs w')) ∧
      SqN P ops [] N (wkP r) (a.put (some d) u) w') : GN w0 F R n (CW P (.region id ops false) N X Rt) l L := fun a w st b k cs => by
  obtain ⟨u, wn, hs, h1⟩ := h a w st
  obtain ⟨e, a', w', hq, harr⟩ := wp_ops r _ _ (SqN_ops0 r _ _ h1) b k cs
  have hs := hs b k cs
  rw [Frame.finish_at, ho] at hs
  simp only [Option.bind_some, hd] at hs
  refine ⟨e, a', w', toQ_panicless (q := ⟨N, X, Rt⟩) hq, .of_steps (.head ?_ (.one hs)) harr⟩
  rw [step_region, hr]
theorem setChan_heap (w : World) (c cap : Nat) (buf : Array Value) (cl : Bool) (s r : Nat) (tm : Bool) : (w.setChan c cap buf cl s r tm).heap = w.heap.setIfInBounds c (.chan cap buf cl s r tm) := by simp [World.setChan]
/-- A select of one send, with a default. -/
theorem gSend {o : Oper} {x y : Operand} {elem c cap sn rc : Nat} {buf : Array Value} {z : Value} {f : Obj → HL} (hr : List.range ops.size = 0 :: r) (ho : ops[0]? = some o) (hd : o.dst = some d) (hg : o.guard = none) (hdn : Nat.blt d n.k = true)
    (hop : o.op = .select #[{ chan := x, send := some y, elem := elem }] false) (hz : ∀ w, (zeroValue elem).run P w = .ok z w) (hx : evE l x = some (.chan (some c))) (hy : evE l y = some v)
    [hs : Slot L c (.chan cap buf false sn rc false) f]
    (hroom : buf.size < cap → GS w0 F R n [] (SqN P ops [] N (wkP r)) ((d, .tuple #[goInt 0, .bool false]) :: l) (f (.chan cap (buf.push v) false (sn + 1) rc false)))
    (hfull : ¬ buf.size < cap → GS w0 F R n [] (SqN P ops [] N (wkP r)) ((d, .tuple #[goInt (-1), .bool false]) :: l) L) : GN w0 F R n (CW P (.region id ops false) N X Rt) l L := by
  refine gSel hr ho hd fun a w st => ?_
  have hexec : (execOp a.eval o).run P w = .ok (.comm #[scase c v z] false .select) w := by
    simp only [execOp, hop]
    simp [st.env.ev hx, st.env.ev hy, hz, scase]
  have hwant : Region.wanted o (yielded ops a.tmps) = true := by simp [Region.wanted, hg]
  have hc := st.has _ hs.mem
  have nil : Has w [] := fun x hx => nomatch hx
  by_cases hlt : buf.size < cap
  · refine ⟨_, _, fun b k cs => ?_, hroom hlt _ (w.setChan c cap (buf.push v) false (sn + 1) rc false) ((st.set (setChan_heap ..) rfl rfl rfl).put hdn _) (fun x hx => nomatch hx)⟩
    obtain ⟨es, he⟩ := comm_step (rest := r) ho hwant hexec b k cs
    exact step_lone_select_send_room he hc hlt
  · refine ⟨_, _, fun b k cs => ?_, hfull hlt _ w (st.put hdn _) nil⟩
    obtain ⟨es, he⟩ := comm_step (rest := r) ho hwant hexec b k cs
    exact step_lone_select_send_full he hc (by omega)
/-- A select of one receive, with a default; the channel is open. -/
theorem gRecv {o : Oper} {x : Operand} {elem c cap sn rc : Nat} {buf : List Value} {z : Value} {f : Obj → HL} (hr : List.range ops.size = 0 :: r) (ho : ops[0]? = some o) (hd : o.dst = some d) (hg : o.guard = none) (hdn : Nat.blt d n.k = true)
    (hop : o.op = .select #[{ chan := x, send := none, elem := elem }] false) (hz : ∀ w, (zeroValue elem).run P w = .ok z w) (hx : evE l x = some (.chan (some c)))
    [hs : Slot L c (.chan cap buf.toArray false sn rc false) f]
    (hsome : ∀ v vs, buf = v :: vs → GS w0 F R n [] (SqN P ops [] N (wkP r)) ((d, .tuple #[goInt 0, .bool true, v]) :: l) (f (.chan cap vs.toArray false sn (rc + 1) false)))
    (hnone : buf = [] → GS w0 F R n [] (SqN P ops [] N (wkP r)) ((d, .tuple #[goInt (-1), .bool false, z]) :: l) L) : GN w0 F R n (CW P (.region id ops false) N X Rt) l L := by
  refine gSel hr ho hd fun a w st => ?_
  have hexec : (execOp a.eval o).run P w = .ok (.comm #[rcase c z] false .select) w := by
    simp only [execOp, hop]
    simp [st.env.ev hx, hz, rcase]
  have hwant : Region.wanted o (yielded ops a.tmps) = true := by simp [Region.wanted, hg]
  have hc := st.has _ hs.mem
  have nil : Has w [] := fun x hx => nomatch hx
  cases hb : buf with
  | nil =>
    subst hb
    refine ⟨_, _, fun b k cs => ?_, hnone rfl _ w (st.put hdn _) nil⟩
    obtain ⟨es, he⟩ := comm_step (rest := r) ho hwant hexec b k cs
    exact step_lone_select_default he hc
  | cons v vs =>
    subst hb
    refine ⟨_, _, fun b k cs => ?_, hsome v vs rfl _ (w.setChan c cap vs.toArray false sn (rc + 1) false) ((st.set (setChan_heap ..) rfl rfl rfl).put hdn _) (fun x hx => nomatch hx)⟩
    obtain ⟨es, he⟩ := comm_step (rest := r) ho hwant hexec b k cs
    have := step_lone_select_recv_buf he hc (by simp)
    have e : (List.toArray (v :: vs)).extract 1 (v :: vs).toArray.size = vs.toArray := by simp
    rw [e] at this
    exact this
end
section
variable {P : Program} {n : Cfg} {l : Env} {Lx : HL} {ty : TypeId}
theorem rLenC {t c cap sn rc : Nat} {buf : Array Value} {cl : Bool} {x : Operand} {f : Obj → HL} (hu : ∃ d e, P.underlying t = some (.chan d e)) (hx : evE l x = some (.chan (some c))) [hs : Slot Lx c (.chan cap buf cl sn rc false) f] : Runs P n l Lx (.call ⟨.builtin .len, #[x], #[t]⟩) ty (.int .i64 buf.size) := fun a w he hL => by
  obtain ⟨d, e, hu⟩ := hu
  have h1 := hL _ hs.mem
  simp only at h1
  simp [EX, execOp, resolve, he.ev hx, invoke, builtin, Builtin.len_, run_underlying hu, getObj, Sem.run, h1, goInt]
theorem rCapC {t c cap sn rc : Nat} {buf : Array Value} {cl : Bool} {x : Operand} {f : Obj → HL} (hu : ∃ d e, P.underlying t = some (.chan d e)) (hx : evE l x = some (.chan (some c))) [hs : Slot Lx c (.chan cap buf cl sn rc false) f] : Runs P n l Lx (.call ⟨.builtin .cap, #[x], #[t]⟩) ty (.int .i64 cap) := fun a w he hL => by
  obtain ⟨d, e, hu⟩ := hu
  have h1 := hL _ hs.mem
  simp only at h1
  simp [EX, execOp, resolve, he.ev hx, invoke, builtin, Builtin.cap_, run_underlying hu, getObj, Sem.run, h1, goInt]
theorem rCap {t : TypeId} {x : Operand} {p : Option Addr} {len cap : Nat} (hf : ∃ e, P.underlying t = some (.slice e)) (hx : evE l x = some (.slice p len cap)) : Runs P n l Lx (.call ⟨.builtin .cap, #[x], #[t]⟩) ty (.int .i64 cap) := fun a w he _ => by
  obtain ⟨e, hu⟩ := hf
  simp [EX, execOp, resolve, he.ev hx, invoke, builtin, Builtin.cap_, run_underlying hu, goInt]
theorem mChan {t e : TypeId} {dr : ChanDir} {x : Operand} {m : Nat} (hu : P.underlying t = some (.chan dr e)) (hb : ∀ w, ∃ ti, (typeInfo e).run P w = .ok ti w ∧ ti.bytes * m ≤ 2 ^ 48 - 112) (hm : m ≤ 9223372036854775807) (hx : evE l x = some (.int .i64 m)) : Makes P n l Lx (.makeChan t x) ty (.chan m #[] false 0 0 false) (fun b => .chan (some b)) := fun a w he _ => by
  obtain ⟨ti, h1, h2⟩ := hb w
  have h6 : ((ti.bytes : Int) * (m : Int)) ≤ 281474976710544 := by
    have : ((ti.bytes * m : Nat) : Int) ≤ ((2 ^ 48 - 112 : Nat) : Int) := Int.ofNat_le.2 h2
    simpa using this
  simp only [EX, execOp, he.ev hx]
  simp [Instr.makeChan, asInt, asIntOf, run_underlying hu, h1]
  intro h
  exfalso
  generalize (ti.bytes : Int) * (m : Int) = q at h6 h
  rcases h with h | h | h <;> omega
theorem mMap {t : TypeId} : Makes P n l Lx (.makeMap t none) ty (.map #[] 0) (fun b => .map (some b)) := fun a w he _ => by
  simp [EX, execOp, Instr.makeMap]
end
end TB
namespace TB
open Go
def preO (ops : Array Oper) (n : Cfg) (l : Env) (i : Nat) : Option (Op × TypeId × Option Nat) :=
  match ops[i]? with
  | some o => match gd ops l o with
    | some true => match o.dst with
      | some d => match Nat.blt d n.k with
        | true => some (o.op, o.type, some d)
        | false => none
      | none => some (o.op, o.type, none)
    | _ => none
  | none => none
theorem preO_spec {ops : Array Oper} {n : Cfg} {l : Env} {i : Nat} {op : Op} {ty : TypeId} {d : Option Nat} (h : preO ops n l i = some (op, ty, d)) :
    ∃ o, ops[i]? = some o ∧ o.op = op ∧ o.type = ty ∧ o.dst = d ∧ (∀ e, d = some e → Nat.blt e n.k = true) ∧ gd ops l o = some true := by
  unfold preO at h
  split at h
  case h_2 => cases h
  rename_i o ho
  split at h
  case h_2 => cases h
  rename_i hg
  split at h
  · rename_i d' hd
    split at h
    case h_2 => cases h
    rename_i hb
    simp only [Option.some.injEq, Prod.mk.injEq] at h
    obtain ⟨rfl, rfl, rfl⟩ := h
    exact ⟨o, ho, rfl, rfl, hd, (fun e he => by simp at he; subst he; exact hb), hg⟩
  · rename_i hd
    simp only [Option.some.injEq, Prod.mk.injEq] at h
    obtain ⟨rfl, rfl, rfl⟩ := h
    exact ⟨o, ho, rfl, rfl, hd, (fun e he => nomatch he), hg⟩
/-- the operation turns an object and yields v -/
def TurnsV (P : Program) (n : Cfg) (l : Env) (Lx : HL) (op : Op) (ty : TypeId) (b : Nat) (o' : Obj) (v : Value) : Prop := ∀ a w, EnvOK n l a → Has w Lx → ∃ w', (EX a.eval op ty).run P w = .ok (.value v) w' ∧ w'.heap = w.heap.setIfInBounds b o' ∧ w'.os = w.os ∧ w'.tape = w.tape ∧ w'.output = w.output
section
variable {P : Program} {w0 : World} {F : List Nat} {R : HL} {n : Cfg} {l : Env} {L Ls L1 L2 : HL} {N : Act → World → Prop} {ops : Array Oper} {i : Nat} {op : Op} {ty : TypeId} {r : Wk} {v : Value}
theorem pt {b : Nat} {o o' : Obj} {d : Option Nat} {f : Obj → HL} (hp : preO ops n l i = some (op, ty, d)) [hs : Slot L b o f] (hr : TurnsV P n l (L ++ R) op ty b o' v) [hA : Among Ls R] (h : GS w0 F R n Ls (SqN P ops Ls N r) (putE d v l) (f o')) : GS w0 F R n Ls (SqN P ops Ls N (.one i .p r)) l L := fun a w st hL => by
  obtain ⟨q, ho, rfl, rfl, hd, hb, hg⟩ := preO_spec hp
  refine ⟨q, ho, ?_⟩
  obtain ⟨w', h1, h2, h3, h4, h5⟩ := hr a w st.env (st.has.app st.ro)
  rw [if_pos (gd_wanted st.env hg), Oper.wp, EX_eq, h1, Oper.upon_value, hd]
  have st' := st.set h2 h3 h4 h5
  have hL' : Has w' Ls := st'.ro.sub hA.sub
  exact ⟨.inr hL', h _ _ (st'.putO hb v) hL'⟩
/-- the operation yields v and does nothing else; its result may be dropped -/
theorem pvO {d : Option Nat} (hp : preO ops n l i = some (op, ty, d)) (hr : Runs P n l (L ++ R) op ty v) (h : GS w0 F R n Ls (SqN P ops Ls N r) (putE d v l) L) : GS w0 F R n Ls (SqN P ops Ls N (.one i .p r)) l L := fun a w st hL => by
  obtain ⟨o, ho, rfl, rfl, hd, hb, hg⟩ := preO_spec hp
  refine ⟨o, ho, ?_⟩
  rw [if_pos (gd_wanted st.env hg), Oper.wp, EX_eq, hr a w st.env (st.has.app st.ro), Oper.upon_value, hd]
  exact ⟨.inr hL, h _ _ (st.putO hb v) hL⟩
end
/-- where a cut begins -/
def offc (cap lo o sz : Nat) : Nat := if cap = lo then o else o + lo * sz
section
variable {P : Program} {n : Cfg} {l : Env} {Lx : HL} {ty : TypeId}
theorem sliced_some (b o i j cap s : Nat) : sliced (some ⟨b, o, none⟩) i j cap s = .slice (some ⟨b, offc cap i o s, none⟩) (j - i) (cap - i) := by
  unfold sliced offc
  split <;> simp [add_lit]
theorem rCutLH {t sz b o len cap i j : Nat} {x lo hi : Operand} {k1 k2 : IntKind} (hf : IS P t sz) (hx : evE l x = some (.slice (some ⟨b, o, none⟩) len cap)) (hlo : evE l lo = some (.int k1 i)) (hhi : evE l hi = some (.int k2 j)) (h1 : i ≤ j) (h2 : j ≤ cap) :
    Runs P n l Lx (.slice t x (some lo) (some hi) none) ty (.slice (some ⟨b, offc cap i o sz, none⟩) (j - i) (cap - i)) := fun a w he _ => by
  obtain ⟨e, hu, hs⟩ := hf
  rw [← sliced_some]
  simp only [EX, execOp, he.ev hx, he.ev hlo, he.ev hhi, Option.map_some, Option.map_none]
  simp [Instr.sliceAt, Instr.slice, run_underlying hu, Instr.sliceBounds, Instr.sliceBound, asIntOf, h1, h2, hs, sliced]
theorem rCutH {t sz b o len cap j : Nat} {x hi : Operand} {k2 : IntKind} (hf : IS P t sz) (hx : evE l x = some (.slice (some ⟨b, o, none⟩) len cap)) (hhi : evE l hi = some (.int k2 j)) (h2 : j ≤ cap) :
    Runs P n l Lx (.slice t x none (some hi) none) ty (.slice (some ⟨b, o, none⟩) j cap) := fun a w he _ => by
  obtain ⟨e, hu, hs⟩ := hf
  simp only [EX, execOp, he.ev hx, he.ev hhi, Option.map_some, Option.map_none]
  simp [Instr.sliceAt, Instr.slice, run_underlying hu, Instr.sliceBounds, Instr.sliceBound, asIntOf, h2, hs, add_lit]
theorem rCutL {t sz b o len cap i : Nat} {x lo : Operand} {k1 : IntKind} (hf : IS P t sz) (hx : evE l x = some (.slice (some ⟨b, o, none⟩) len cap)) (hlo : evE l lo = some (.int k1 i)) (h1 : i ≤ len) :
    Runs P n l Lx (.slice t x (some lo) none none) ty (.slice (some ⟨b, offc cap i o sz, none⟩) (len - i) (cap - i)) := fun a w he _ => by
  obtain ⟨e, hu, hs⟩ := hf
  rw [← sliced_some]
  simp only [EX, execOp, he.ev hx, he.ev hlo, Option.map_some, Option.map_none]
  simp [Instr.sliceAt, Instr.slice, run_underlying hu, Instr.sliceBounds, Instr.sliceBound, asIntOf, h1, hs, sliced]
/-- a slice that is nil, cut -/
theorem rCutNilL {t sz len cap i : Nat} {x lo : Operand} {k1 : IntKind} (hf : IS P t sz) (hx : evE l x = some (.slice none len cap)) (hlo : evE l lo = some (.int k1 i)) (h1 : i ≤ len) :
    Runs P n l Lx (.slice t x (some lo) none none) ty (.slice none (len - i) (cap - i)) := fun a w he _ => by
  obtain ⟨e, hu, hs⟩ := hf
  simp only [EX, execOp, he.ev hx, he.ev hlo, Option.map_some, Option.map_none]
  simp [Instr.sliceAt, Instr.slice, run_underlying hu, Instr.sliceBounds, Instr.sliceBound, asIntOf, h1, hs]
theorem rCutNilH {t sz len cap i : Nat} {x lo : Operand} {k1 : IntKind} (hf : IS P t sz) (hx : evE l x = some (.slice none len cap)) (hlo : evE l lo = some (.int k1 i)) (h1 : i ≤ cap) :
    Runs P n l Lx (.slice t x none (some lo) none) ty (.slice none i cap) := fun a w he _ => by
  obtain ⟨e, hu, hs⟩ := hf
  simp only [EX, execOp, he.ev hx, he.ev hlo, Option.map_some, Option.map_none]
  simp [Instr.sliceAt, Instr.slice, run_underlying hu, Instr.sliceBounds, Instr.sliceBound, asIntOf, h1, hs]
/-- strings cut -/
theorem rCutS {t i j : Nat} {x : Operand} {s : ByteArray} {lo hi : Option Operand} (hu : P.underlying t = some .string) (hx : evE l x = some (.string s)) (hlo : (∃ o k, lo = some o ∧ evE l o = some (.int k i)) ∨ lo = none ∧ i = 0) (hhi : (∃ o k, hi = some o ∧ evE l o = some (.int k j)) ∨ hi = none ∧ j = s.size) (h1 : i ≤ j) (h2 : j ≤ s.size) :
    Runs P n l Lx (.slice t x lo hi none) ty (.string (s.extract i j)) := fun a w he _ => by
  rcases hlo with ⟨o, k, rfl, ho⟩ | ⟨rfl, rfl⟩ <;> rcases hhi with ⟨o', k', rfl, ho'⟩ | ⟨rfl, rfl⟩ <;> simp only [EX, execOp, he.ev hx, Option.map_some, Option.map_none] <;> (try simp only [he.ev ho]) <;> (try simp only [he.ev ho']) <;>
    simp [Instr.sliceAt, Instr.slice, run_underlying hu, Instr.sliceBounds, Instr.sliceBound, asIntOf, h1, h2]
/-- copy -/
theorem tCopy {dT sT e size g o dLen dCap a oa sLen sCap m : Nat} {x y : Operand} {cl cl' cla cs : List Value} {E Ea : TypeId} {fra : Nat × Nat} {f : Obj → HL} (hu : P.underlying dT = some (.slice e)) (hsz : ∀ w, (Go.sizeOf e).run P w = .ok size w)
    (hx : evE l x = some (.slice (some ⟨g, o, none⟩) dLen dCap)) (hy : evE l y = some (.slice (some ⟨a, oa, none⟩) sLen sCap)) [hs : Slot Lx g (.cells cl.toArray E (0, 0)) f] (hm : (a, Obj.cells cla.toArray Ea fra) ∈ Lx)
    (hn : Nat.min sLen dLen = m) (hl : cs.length = m * size) (hc : ∀ j u, cs[j]? = some u → cla[oa + j]? = some u) (h1 : ∀ u ∈ cs, u.oneCell' = true) (hfit : o + cs.length ≤ cl.length) (hcl : cl.take o ++ cs ++ cl.drop (o + cs.length) = cl') :
    TurnsV P n l Lx (.call ⟨.builtin .copy, #[x, y], #[dT, sT]⟩) ty g (.cells cl'.toArray E (0, 0)) (.int .i64 m) := fun ac w he hL => by
  have hg := hL _ hs.mem
  have ha := hL _ hm
  have hld := run_loadCells_list (P := P) w ⟨a, oa, none⟩ cs (fun j v hj => by rw [add_lit, cell_of ha]; exact hc j v hj)
  have hst := run_storeCells_at P g o E cs 0 cl.toArray w hg (by simpa using hfit) h1
  simp only [Nat.add_zero] at hst
  rw [show (cl.toArray.toList.take o ++ cs ++ cl.toArray.toList.drop (o + cs.length)).toArray = cl'.toArray by rw [← hcl]] at hst
  rw [hl] at hld
  refine ⟨_, ?_, setRow_alike w g _ hg⟩
  simp only [EX, execOp, resolve, List.map_toArray, List.map_cons, List.map_nil, he.ev hx, he.ev hy]
  simp [invoke, builtin, Builtin.copy_, run_underlying hu, Builtin.lenOf, Builtin.firstCells, hsz, hn, hld, hst, goInt]
/-- clear -/
theorem tClear {t e g o len cap : Nat} {x : Operand} {cl cl' zs : List Value} {z : Value} {E : TypeId} {f : Obj → HL} (hu : P.underlying t = some (.slice e)) (hz : ∀ w, (zeroValue e).run P w = .ok z w) (hx : evE l x = some (.slice (some ⟨g, o, none⟩) (len + 1) cap)) [hs : Slot Lx g (.cells cl.toArray E (0, 0)) f]
    (hzs : (Builtin.zeroCells z.cells (len + 1)).toList = zs) (h1 : ∀ u ∈ zs, u.oneCell' = true) (hfit : o + zs.length ≤ cl.length) (hcl : cl.take o ++ zs ++ cl.drop (o + zs.length) = cl') :
    TurnsV P n l Lx (.call ⟨.builtin .clear, #[x], #[t]⟩) ty g (.cells cl'.toArray E (0, 0)) (.tuple #[]) := fun ac w he hL => by
  have hg := hL _ hs.mem
  have hst := run_storeCells_at P g o E zs 0 cl.toArray w hg (by simpa using hfit) h1
  simp only [Nat.add_zero] at hst
  rw [show (cl.toArray.toList.take o ++ zs ++ cl.toArray.toList.drop (o + zs.length)).toArray = cl'.toArray by rw [← hcl]] at hst
  refine ⟨_, ?_, setRow_alike w g _ hg⟩
  simp only [EX, execOp, resolve, List.map_toArray, List.map_cons, List.map_nil, he.ev hx]
  simp [invoke, builtin, Builtin.clear_, run_underlying hu, hz, hzs, hst]
theorem rClear0 {t e cap : Nat} {x : Operand} {p : Option Addr} (hu : P.underlying t = some (.slice e)) (hx : evE l x = some (.slice p 0 cap)) : Runs P n l Lx (.call ⟨.builtin .clear, #[x], #[t]⟩) ty (.tuple #[]) := fun ac w he hL => by
  simp only [EX, execOp, resolve, List.map_toArray, List.map_cons, List.map_nil, he.ev hx]
  cases p <;> simp [invoke, builtin, Builtin.clear_, run_underlying hu]
/-- slices and pointers against nil -/
theorem bSlNil {T : TypeId} {p : Option Addr} {a b c d : Nat} (hu : ∃ e, P.underlying T = some (.slice e)) : BinR P .eql T (.slice p a b) (.slice none c d) (.bool p.isNone) := fun ox oy w => by
  obtain ⟨e, hu⟩ := hu
  rw [Sem.run_bind]
  have : (eqGuard .eql T ox oy (.slice p a b) (.slice none c d)).run P w = .ok () w := by unfold eqGuard; rfl
  rw [this, Result.andThen_ok]
  exact Lib.run_eql_slice_nil w _ _ p a b c d hu
theorem bPtNil {T e : TypeId} {p : Option Addr} (hu : P.underlying T = some (.pointer e)) : BinR P .eql T (.pointer p) (.pointer none) (.bool p.isNone) := fun ox oy w => by
  rw [Sem.run_bind]
  have : (eqGuard .eql T ox oy (.pointer p) (.pointer none)).run P w = .ok () w := by unfold eqGuard; rfl
  rw [this, Result.andThen_ok]
  have h : (binOp .eql T (.pointer p) (.pointer none)).run P w = ((Op.equalIn (9999 + 1) T (.pointer p) (.pointer none)).run P w).andThen fun b w' => .ok (.bool b) w' := by
    simp only [binOp]
    rw [show Op.equal T (.pointer p) (.pointer none) = Op.equalIn (9999 + 1) T (.pointer p) (.pointer none) from rfl]
    simp only [Sem.run_bind, Sem.run_pure]
  rw [h]
  generalize 9999 = d
  cases p <;> simp [Op.equalIn, run_underlying hu]
end
end TB
namespace TB
open Go
/- MAPS WHOSE KEYS ARE TWO STRINGS -/
abbrev K2 := ByteArray × ByteArray
def keyV (k : K2) : Value := .agg #[.string k.1, .string k.2]
abbrev Ent := K2 × Value × Nat
def entOf (e : Ent) : MapEntry := { key := keyV e.1, val := e.2.1, born := e.2.2 }
def mapO (es : List Ent) (clock : Nat) : Obj := .map (es.map entOf).toArray clock
/-- What is asked of the key's type. -/
structure KT (P : Program) (T : TypeId) : Prop where
  str : ∃ fs, P.underlying T = some (.struct fs)
  chk : ∀ e k w, (Instr.checkKey e 10000 T (keyV k)).run P w = .ok () w
  eq : ∀ k k' w, (Op.equal T (keyV k) (keyV k')).run P w = .ok (decide (k = k')) w
def find2 (k : K2) : List Ent → Nat → Option (Nat × Value)
  | [], _ => none
  | e :: es, i => if k = e.1 then some (i, e.2.1) else find2 k es (i + 1)
theorem find2_none {k : K2} : ∀ {es : List Ent} {i : Nat}, find2 k es i = none ↔ ∀ e ∈ es, e.1 ≠ k
  | [], i => by simp [find2]
  | e :: es, i => by
    simp only [find2]
    split
    · rename_i h; simp [h]
    · rename_i h
      rw [find2_none]; simp
      intro _ h'; exact h h'.symm
def get2 (k : K2) (es : List Ent) : Option Value := (es.find? fun e => decide (k = e.1)).map (·.2.1)
theorem find2_get {k : K2} : ∀ {es : List Ent} {i : Nat}, (find2 k es i).map (·.2) = get2 k es
  | [], i => by simp [find2, get2]
  | e :: es, i => by
    simp only [find2, get2, List.find?_cons]
    split
    · rename_i h; simp [h]
    · rename_i h; simp only [h, decide_false]; exact find2_get
section
variable {P : Program} {T : TypeId}
theorem run_asking (h : KT P T) (k : K2) (w : World) : ∀ (es : List Ent) (i : Nat), (Instr.findAsking T (keyV k) (es.map entOf) i).run P w = .ok (find2 k es i) w
  | [], i => by simp [Instr.findAsking, find2]
  | e :: es, i => by
    simp only [List.map_cons, Instr.findAsking, Sem.run_bind]
    rw [show (entOf e).key = keyV e.1 from rfl, h.eq, Result.andThen_ok]
    simp only [find2]
    by_cases hk : k = e.1
    · simp [hk, entOf]
    · simp [hk, run_asking h k w es (i + 1)]
theorem run_find2 (h : KT P T) (k : K2) (w : World) (es : List Ent) : (Instr.findKey T (keyV k) (es.map entOf)).run P w = .ok (find2 k es 0) w := by
  obtain ⟨fs, hs⟩ := h.str
  simp only [Instr.findKey, Sem.run_bind, run_underlying hs, Result.andThen_ok]
  cases es with
  | nil => simp [Instr.findNow, find2]
  | cons e es =>
    have : Instr.findNow (.struct fs) (keyV k) ((e :: es).map entOf) 0 = none := by
      simp [Instr.findNow, Instr.sameNow, keyV, entOf]
    rw [this]
    exact run_asking h k w _ 0
end
section
variable {P : Program} {w0 : World} {F : List Nat} {R : HL} {n : Cfg} {l : Env} {L Ls Lx : HL} {N : Act → World → Prop} {ops : Array Oper} {i d : Nat} {op : Op} {ty : TypeId} {r : Wk} {v : Value}
theorem obj_run {w : World} {b : Nat} {es : List Ent} {clock : Nat} (h : w.heap[b]? = some (mapO es clock)) : (getObj b).run P w = .ok (mapO es clock) w := by
  simp [getObj, Sem.run, h, mapO]
theorem rLk {T kT eT b clock : Nat} {m x : Operand} {k : K2} {es : List Ent} {z : Value} {f : Obj → HL} (hu : P.underlying T = some (.map kT eT)) (hk : KT P kT) (hz : ∀ w, (zeroValue eT).run P w = .ok z w) (hm : evE l m = some (.map (some b))) (hx : evE l x = some (.agg #[.string k.1, .string k.2])) [hs : Slot Lx b (mapO es clock) f] :
    Runs P n l Lx (.lookup T m x false) ty ((get2 k es).getD z) := fun a w he hL => by
  have hb := hL _ hs.mem
  have h1 := hk.chk (es.map entOf).toArray.isEmpty k w
  have h2 := run_find2 hk k w es
  rw [← find2_get (i := 0)]
  simp only [EX, execOp, he.ev hm, he.ev hx]
  rw [show (Value.agg #[.string k.1, .string k.2]) = keyV k from rfl]
  simp only [Instr.lookup, Sem.run_bind, run_underlying hu, Result.andThen_ok, obj_run hb, mapO, Sem.run_pure, h1, h2]
  cases hf : find2 k es 0 <;> simp [hz]
theorem rLkOk {T kT eT b clock : Nat} {m x : Operand} {k : K2} {es : List Ent} {z : Value} {f : Obj → HL} (hu : P.underlying T = some (.map kT eT)) (hk : KT P kT) (hz : ∀ w, (zeroValue eT).run P w = .ok z w) (hm : evE l m = some (.map (some b))) (hx : evE l x = some (.agg #[.string k.1, .string k.2])) [hs : Slot Lx b (mapO es clock) f] :
    Runs P n l Lx (.lookup T m x true) ty (.tuple #[(get2 k es).getD z, .bool (get2 k es).isSome]) := fun a w he hL => by
  have hb := hL _ hs.mem
  have h1 := hk.chk (es.map entOf).toArray.isEmpty k w
  have h2 := run_find2 hk k w es
  rw [← find2_get (i := 0)]
  simp only [EX, execOp, he.ev hm, he.ev hx]
  rw [show (Value.agg #[.string k.1, .string k.2]) = keyV k from rfl]
  simp only [Instr.lookup, Sem.run_bind, run_underlying hu, Result.andThen_ok, obj_run hb, mapO, Sem.run_pure, h1, h2]
  cases hf : find2 k es 0 <;> simp [hz]
/-- a key that is not there yet -/
theorem tMu {T kT eT b clock : Nat} {m x y : Operand} {k : K2} {es : List Ent} {v : Value} {f : Obj → HL} (hu : P.underlying T = some (.map kT eT)) (hk : KT P kT) (hm : evE l m = some (.map (some b))) (hx : evE l x = some (.agg #[.string k.1, .string k.2])) (hy : evE l y = some v) [hs : Slot Lx b (mapO es clock) f] (hno : ∀ e ∈ es, e.1 ≠ k) :
    Turns P n l Lx (.mapUpdate T m x y) ty b (mapO (es ++ [(k, v, clock)]) (clock + 1)) := fun a w he hL => by
  have hb := hL _ hs.mem
  have h1 := hk.chk false k w
  have h2 := run_find2 hk k w es
  rw [find2_none.2 hno] at h2
  refine ⟨{ w with heap := w.heap.setIfInBounds b (mapO (es ++ [(k, v, clock)]) (clock + 1)) }, ?_, rfl, rfl, rfl, rfl⟩
  simp only [EX, execOp, he.ev hm, he.ev hx, he.ev hy]
  rw [show (Value.agg #[.string k.1, .string k.2]) = keyV k from rfl]
  simp only [Instr.mapUpdate, Sem.run_bind, run_underlying hu, Result.andThen_ok, obj_run hb, mapO, h1, h2]
  have hs' : ∀ o, (∀ c t fr, o ≠ Obj.cells c t fr) → (setObj b o).run P w = .ok () { w with heap := w.heap.setIfInBounds b o } := fun o _ => by
    simp only [setObj, Sem.run]
    simp only at hb
    rw [hb]; simp [mapO]
  rw [hs' _ (by intros; simp)]
  simp [entOf]
end
end TB
namespace TB
open Go
section
variable {P : Program} {w0 : World} {F : List Nat} {R : HL} {n : Cfg} {l : Env} {L Ls Lx : HL} {N : Act → World → Prop} {ops : Array Oper} {i d : Nat} {op : Op} {ty : TypeId} {r : Wk} {v : Value}
theorem mRange {T k e b clock : Nat} {x : Operand} {es : List Ent} {f : Obj → HL} (hu : P.underlying T = some (.map k e)) (hx : evE l x = some (.map (some b))) [hs : Slot Lx b (mapO es clock) f] :
    Makes P n l Lx (.range T x) ty (.mapIter (some b) clock #[] clock) (fun r => .pointer (some ⟨r, 0, none⟩)) := fun a w he hL => by
  have hb := hL _ hs.mem
  simp only [EX, execOp, he.ev hx]
  simp only [Instr.range, Sem.run_bind, run_underlying hu, Result.andThen_ok, obj_run hb]
  simp [mapO]
def seenA (vis : List Ent) : Array Nat := (vis.map (·.2.2)).toArray
theorem next_run {w : World} {it m since last clock : Nat} {es vis : List Ent} (hi : w.heap[it]? = some (.mapIter (some m) since (seenA vis) last)) (hm : w.heap[m]? = some (mapO es clock)) (hold : ∀ e ∈ es, e.2.2 < since) (hsl : since ≤ last) :
    ((∀ e ∈ es, e.2.2 ∈ vis.map (·.2.2)) ∧ (Instr.next (.pointer (some ⟨it, 0, none⟩)) false ty).run P w = .ok (.tuple #[.bool false]) w) ∨
    ∃ e ∈ es, e.2.2 ∉ vis.map (·.2.2) ∧ ∃ w' : World, (Instr.next (.pointer (some ⟨it, 0, none⟩)) false ty).run P w = .ok (.tuple #[.bool true, keyV e.1, e.2.1]) w' ∧
      w'.heap = w.heap.setIfInBounds it (.mapIter (some m) since (seenA (vis ++ [e])) clock) ∧ w'.os = w.os ∧ w'.tape = w.tape ∧ w'.output = w.output := by
  have g1 : (getObj it).run P w = .ok (.mapIter (some m) since (seenA vis) last) w := by simp [getObj, Sem.run, hi]
  have hleft : ∀ x : MapEntry, x ∈ ((es.map entOf).toArray.filter fun e => !(seenA vis).contains e.born) ↔ ∃ e ∈ es, e.2.2 ∉ vis.map (·.2.2) ∧ entOf e = x := by
    intro x
    simp only [Array.mem_filter, List.mem_toArray, List.mem_map, seenA, List.contains_toArray]
    constructor
    · rintro ⟨⟨e, he, rfl⟩, h⟩
      refine ⟨e, he, ?_, rfl⟩
      simpa [entOf] using h
    · rintro ⟨e, he, h, rfl⟩
      exact ⟨⟨e, he, rfl⟩, by simpa [entOf] using h⟩
  generalize hlf : ((es.map entOf).toArray.filter fun e => !(seenA vis).contains e.born) = left at hleft
  have hold' : left.filter (fun x => x.born < since) = left := by
    apply Array.filter_eq_self.2
    intro x hx
    obtain ⟨e, he, _, rfl⟩ := (hleft x).1 hx
    exact decide_eq_true (hold e he)
  have hnew' : left.filter (fun x => x.born ≥ since) = #[] := by
    apply Array.filter_eq_empty_iff.2
    intro x hx
    obtain ⟨e, he, _, rfl⟩ := (hleft x).1 hx
    have := hold e he
    simp [entOf]; omega
  have htest : (!(seenA vis).isEmpty && !(es.map entOf).toArray.isEmpty && (es.map entOf).toArray.all (fun x => decide (x.born ≥ last))) = false := by
    cases es with
    | nil => simp
    | cons e es =>
      have := hold e (by simp)
      have h2 : ¬ (last ≤ e.2.2) := by omega
      simp [entOf, h2]
  cases hl : left.isEmpty with
  | true =>
    left
    have he : left = #[] := Array.isEmpty_iff.1 hl
    subst he
    refine ⟨fun e he => ?_, ?_⟩
    · rcases Classical.em (e.2.2 ∈ vis.map (·.2.2)) with h | h
      · exact h
      · exact absurd ((hleft (entOf e)).2 ⟨e, he, h, rfl⟩) (by simp)
    · simp only [Instr.next, Sem.run_bind, g1, Result.andThen_ok, obj_run hm, mapO, htest, Bool.false_eq_true, if_false, hlf, hold', hnew', Array.append_empty]
      simp [choose, Sem.run, Question.forced]
  | false =>
    right
    have hpos : 0 < left.size := by
      rcases Nat.eq_zero_or_pos left.size with h | h
      · rw [Array.eq_empty_of_size_eq_zero h] at hl; simp at hl
      · exact h
    have hch : ∃ c w1, (choose (.mapNext ((if false then #[none] else #[]) ++ left.map some).size)).run P w = .ok c w1 ∧ c < left.size ∧ w1.heap = w.heap ∧ w1.os = w.os ∧ w1.tape = w.tape ∧ w1.output = w.output := by
      simp only [Bool.false_eq_true, if_false, Array.empty_append, Array.size_map, choose, Sem.run]
      by_cases hf : (Question.mapNext left.size).forced = true
      · rw [if_pos hf]; exact ⟨0, w, rfl, hpos, rfl, rfl, rfl, rfl⟩
      · rw [if_neg hf]
        exact ⟨_, _, rfl, Nat.mod_lt _ hpos, rfl, rfl, rfl, rfl⟩
    obtain ⟨c, w1, h1, hc, q1, q2, q3, q4⟩ := hch
    obtain ⟨e, he, hne, hee⟩ := (hleft left[c]).1 (Array.getElem_mem hc)
    refine ⟨e, he, hne, { w1 with heap := w1.heap.setIfInBounds it (.mapIter (some m) since (seenA (vis ++ [e])) clock) }, ?_, by simp [q1], q2, q3, q4⟩
    simp only [Bool.false_eq_true, if_false] at h1
    have hg : ((#[] : Array (Option MapEntry)) ++ left.map some)[c]? = some (some (entOf e)) := by
      simp [hc, hee]
    simp only [Instr.next, Sem.run_bind, g1, Result.andThen_ok, obj_run hm, mapO, htest, Bool.false_eq_true, if_false, hlf, hold', hnew', Array.append_empty, hl, h1, hg]
    have hset : (setObj it (.mapIter (some m) since ((seenA vis).push (entOf e).born) clock)).run P w1 = .ok () { w1 with heap := w1.heap.setIfInBounds it (.mapIter (some m) since ((seenA vis).push (entOf e).born) clock) } := by
      simp only [setObj, Sem.run, q1, hi]
    rw [hset, Result.andThen_ok]
    simp [entOf, seenA]
/-- The next entry of a map that is ranged over, and that does not turn. -/
theorem pnext {it m since last clock : Nat} {es vis : List Ent} {x : Operand} {f : Obj → HL} {fm : Obj → HL} (hp : pre ops n l i = some (.next x false, ty, d)) (hx : evE l x = some (.pointer (some ⟨it, 0, none⟩)))
    [hs : Slot L it (.mapIter (some m) since (seenA vis) last) f] [hm : Slot L m (mapO es clock) fm] (hold : ∀ e ∈ es, e.2.2 < since) (hsl : since ≤ last) [hA : Among Ls R]
    (hdone : (∀ e ∈ es, e.2.2 ∈ vis.map (·.2.2)) → GS w0 F R n Ls (SqN P ops Ls N r) ((d, .tuple #[.bool false]) :: l) L)
    (hnext : ∀ e ∈ es, e.2.2 ∉ vis.map (·.2.2) → GS w0 F R n Ls (SqN P ops Ls N r) ((d, .tuple #[.bool true, keyV e.1, e.2.1]) :: l) (f (.mapIter (some m) since (seenA (vis ++ [e])) clock))) :
    GS w0 F R n Ls (SqN P ops Ls N (.one i .p r)) l L := fun a w st hL => by
  obtain ⟨q, ho, hop, hty, hd, hb, hg⟩ := pre_spec hp
  refine ⟨q, ho, ?_⟩
  have hrun := next_run (P := P) (ty := q.type) (st.has _ hs.mem) (st.has _ hm.mem) hold hsl
  have hex : ∀ v w', (Instr.next (.pointer (some ⟨it, 0, none⟩)) false q.type).run P w = .ok v w' → (EX a.eval q.op q.type).run P w = .ok (.value v) w' := fun v w' h => by
    rw [hop]; simp only [EX, execOp, st.env.ev hx]; simp [h]
  rw [if_pos (gd_wanted st.env hg), Oper.wp, EX_eq]
  rcases hrun with ⟨h1, h2⟩ | ⟨e, he, hne, w', h2, h3, h4, h5, h6⟩
  · rw [hex _ _ h2, Oper.upon_value, hd]
    exact ⟨.inr hL, hdone h1 _ _ (st.put hb _) hL⟩
  · rw [hex _ _ h2, Oper.upon_value, hd]
    have st' := st.set h3 h4 h5 h6
    have hL' : Has w' Ls := st'.ro.sub hA.sub
    exact ⟨.inr hL', hnext e he hne _ _ (st'.put hb _) hL'⟩
theorem rEntry {it m since clock : Nat} {es vis : List Ent} {e : Ent} {x : Operand} {f fm : Obj → HL} (hx : evE l x = some (.pointer (some ⟨it, 0, none⟩))) [hs : Slot Lx it (.mapIter (some m) since (seenA (vis ++ [e])) clock) f] [hm : Slot Lx m (mapO es clock) fm]
    (he : e ∈ es) (hnd : (es.map (·.2.2)).Nodup) : Runs P n l Lx (.entry x) ty (.tuple #[keyV e.1, e.2.1]) := fun a w hE hL => by
  have h1 := hL _ hs.mem
  have h2 := hL _ hm.mem
  have g1 : (getObj it).run P w = .ok (.mapIter (some m) since (seenA (vis ++ [e])) clock) w := by simp only [getObj, Sem.run]; simp only at h1; rw [h1]
  have hf : (es.map entOf).find? (fun x => x.born == e.2.2) = some (entOf e) := by
    clear h1 h2 g1 hL
    induction es with
    | nil => cases he
    | cons y es ih =>
      simp only [List.map_cons, List.find?_cons]
      simp only [List.map_cons, List.nodup_cons] at hnd
      rcases List.mem_cons.1 he with rfl | he
      · simp [entOf]
      · have hne : ¬ y.2.2 = e.2.2 := fun hh => hnd.1 (by rw [hh]; exact List.mem_map_of_mem he)
        have : ((entOf y).born == e.2.2) = false := by simpa [entOf] using hne
        rw [this]
        exact ih he hnd.2
  simp only [EX, execOp, hE.ev hx]
  simp only [Instr.entry, Sem.run_bind, g1, Result.andThen_ok]
  have hbk : (seenA (vis ++ [e])).back? = some e.2.2 := by simp [seenA]
  simp only [hbk, Sem.run_bind, obj_run h2, Result.andThen_ok, mapO]
  simp [hf, entOf]
end
end TB
namespace TB
open Go
/-- The function has no body here: its entry in the table of the library's own. -/
def EXT (P : Program) (g : Nat) (e : Array Value → Sem Value) : Prop := ∀ (args : Array Value) w, (callFunc g args).run P w = ((e args).run P w).andThen fun v w' => .ok (.value v) w'
theorem ext_of {P : Program} {g : Nat} {fn : Func} {e : Array Value → Sem Value} (hf : P.funcs[g]? = some fn) (hname : (fn.name == "runtime.NumGoroutine") = false)
    (hb : fn.body.isNone = true) (hn : Extern.findNext fn = none) (he : Extern.find fn = some e) : EXT P g e := fun args w => run_callFunc_extern hf hname hb hn he args w
theorem ov_run {P : Program} {w : World} {t e size b1 o1 l1 c1 b2 o2 l2 c2 : Nat} {cl1 cl2 : Array Value} {E1 E2 tR : TypeId} (hu : P.underlying t = some (.slice e)) (hs : ∀ w, (Go.sizeOf e).run P w = .ok size w)
    (h1 : w.heap[b1]? = some (.cells cl1 E1 (0, 0))) (h2 : w.heap[b2]? = some (.cells cl2 E2 (0, 0))) (hne : b1 ≠ b2) (h0 : cl2.size ≠ 0) :
    (Extern.SlicesOverlaps.overlaps #[t, t] #[tR] #[.slice (some ⟨b1, o1, none⟩) l1 c1, .slice (some ⟨b2, o2, none⟩) l2 c2]).run P w = .ok (.bool false) w := by
  have f1 : ∀ o s, w.frozen? ⟨b1, o, s⟩ = false := fun o s => by simp [World.frozen?, h1]
  have s1 : w.shape? b1 = some (E1, cl1.size) := by simp [World.shape?, h1]
  have s2 : w.shape? b2 = some (E2, cl2.size) := by simp [World.shape?, h2]
  exact Go.Lib.run_overlaps_apart w t tR e hu size hs ⟨b1, o1, none⟩ ⟨b2, o2, none⟩ l1 c1 l2 c2 hne E1 E2 cl1.size cl2.size s1 s2 h0 (f1 _ _) (f1 _ _)
section
variable {P : Program} {w0 : World} {F : List Nat} {R : HL} {n : Cfg} {l : Env} {L Ls Lx L1 L2 : HL} {N : Act → World → Prop} {ops : Array Oper} {i d : Nat} {op : Op} {ty : TypeId} {r : Wk} {v : Value}
theorem rOv {g t tR e size b1 o1 l1 c1 b2 o2 l2 c2 : Nat} {x y : Operand} {cl1 cl2 : Array Value} {E1 E2 : TypeId} {ts : Array TypeId} (hE : EXT P g (Extern.SlicesOverlaps.overlaps #[t, t] #[tR])) (hu : P.underlying t = some (.slice e)) (hs : ∀ w, (Go.sizeOf e).run P w = .ok size w)
    (hx : evE l x = some (.slice (some ⟨b1, o1, none⟩) l1 c1)) (hy : evE l y = some (.slice (some ⟨b2, o2, none⟩) l2 c2)) (h1 : (b1, Obj.cells cl1 E1 (0, 0)) ∈ Lx) (h2 : (b2, Obj.cells cl2 E2 (0, 0)) ∈ Lx) (hne : b1 ≠ b2) (h0 : cl2.size ≠ 0) :
    Runs P n l Lx (.call ⟨.value (.func g), #[x, y], ts⟩) ty (.bool false) := fun a w he hL => by
  have hr := ov_run (P := P) (o1 := o1) (l1 := l1) (c1 := c1) (o2 := o2) (l2 := l2) (c2 := c2) (tR := tR) hu hs (hL _ h1) (hL _ h2) hne h0
  have hf : a.eval (.func g) = .func (.func g) #[] #[] := rfl
  simp only [EX, execOp, resolve, List.map_toArray, List.map_cons, List.map_nil, he.ev hx, he.ev hy, hf, Deferred.ofValue]
  simp only [Sem.run_bind, Sem.run_pure, Result.andThen_ok, invoke]
  rw [Array.empty_append, Array.append_empty, hE]
  simp only at hr
  rw [hr]; rfl
/-- append(s, make(S, k)...) where there is no room -/
theorem pappZ {t t2 e size bytes g len cap z : Nat} {s x : Operand} {ki : IntKind} {olds clx : List Value} {Ex : TypeId} {frx : Nat × Nat} (hA : AP P t e size bytes) (hi2 : P.underlying t2 = some (.int ki))
    (hp : pre ops n l i = some (.call ⟨.builtin .append, #[s, x], #[t, t2]⟩, ty, d)) (hs : evE l s = some (.slice (some ⟨g, 0, none⟩) len cap)) (hx : evE l x = some (.int .i64 (z : Int))) (hz : 0 < z)
    (hm : (g, Obj.cells clx.toArray Ex frx) ∈ L ++ R) (hlo : olds.length = len * size) (ho : ∀ (j : Nat) u, olds[j]? = some u → clx[j]? = some u) (hroom : cap < len + z) (hb : (len + z) * bytes ≤ 140737488355328)
    (hAm : ∀ x ∈ Ls, x ∈ L ++ R) (h : ∀ b cap' zs, len + z ≤ cap' → cap' ≤ maxLen → zs.length = (cap' - len) * size → GS w0 F R n Ls (SqN P ops Ls N r) ((d, .slice (some ⟨b, 0, none⟩) (len + z) cap') :: l) ((b, .cells (olds ++ zs).toArray e) :: L)) :
    GS w0 F R n Ls (SqN P ops Ls N (.one i .p r)) l L := fun a w st hLs => by
  obtain ⟨q, hq, hop, hty, hd, hbd, hg⟩ := pre_spec hp
  obtain ⟨ti, zv, hu, hi, hzv, hsz, hby, hzs, h0, h0b⟩ := hA
  subst hsz hby
  have hcell : ∀ j u, olds[j]? = some u → w.cell? ((⟨g, 0, none⟩ : Addr).add j) = some u := fun j u hj => by
    have hb : w.heap[g]? = some (Obj.cells clx.toArray Ex frx) := (st.has.app st.ro) _ hm
    rw [add_lit, cell_of hb, Nat.zero_add]; exact ho j u hj
  have hmax : len + z ≤ maxLen := by
    unfold maxLen
    have := Nat.le_mul_of_pos_right (len + z) h0b
    omega
  have hsmall : len + z ≤ 9223372036854775807 := by simp only [maxLen] at hmax; omega
  have hzw : IntKind.i64.wrap (z : Int) = z := IntWalk.i64_in _ ⟨by omega, by omega⟩
  have hn0 : ¬ (z * ti.size = 0) := by
    have := Nat.mul_pos hz h0; omega
  have hfit := growslice_fits hroom hb
  have h48 : ¬ ((281474976710656 : Int) < (z : Int) * (ti.bytes : Int)) := by
    have h1 : (len + z) * ti.bytes = len * ti.bytes + z * ti.bytes := Nat.add_mul ..
    have h2 : z * ti.bytes ≤ 140737488355328 := by omega
    have h3 : ((z * ti.bytes : Nat) : Int) = (z : Int) * (ti.bytes : Int) := by simp
    rw [← h3]; omega
  have hrun : (Builtin.append_ #[t, t2] q.type #[.slice (some ⟨g, 0, none⟩) len cap, .int .i64 (z : Int)]).run P w =
      .ok (.slice (some ⟨w.heap.size, 0, none⟩) (len + z) (grownCap w (len + z) cap e)) (w.drew.alloc (.cells (olds ++ ((Builtin.zeroCells zv.cells z).toList ++ (Builtin.zeroCells zv.cells (grownCap w (len + z) cap e - (len + z))).toList)).toArray e)) := by
    have hnn : ¬ (len + z ≤ cap) := by omega
    have h63' : ¬ (9223372036854775807 < ((len : Int) + (z : Int))) := by omega
    have h48' : ¬ (281474976710656 < Builtin.nextslicecap (len + z) cap * ti.bytes) := by omega
    have hneg : ¬ ((z : Int) < 0) := by omega
    have hfo := run_firstCells_some (P := P) w.drew ti.size len ⟨g, 0, none⟩ len cap olds hlo (by simpa using hcell)
    simp [Builtin.append_, run_underlying hu, run_underlying hi2, Go.sizeOf, typeInfo, zeroValue, hi, hzv, asInt, asIntOf, hzw, hneg, h48, hn0, hnn, h63', h48', Question.forced, hfo, newRow, grownCap]
    congr 2
    apply Array.ext'
    simp [List.append_assoc]
  refine ⟨q, hq, ?_⟩
  generalize hW : w.drew.alloc (.cells (olds ++ ((Builtin.zeroCells zv.cells z).toList ++ (Builtin.zeroCells zv.cells (grownCap w (len + z) cap e - (len + z))).toList)).toArray e) = wn at hrun
  have hrun2 : (EX a.eval q.op q.type).run P w = .ok (.value (.slice (some ⟨w.heap.size, 0, none⟩) (len + z) (grownCap w (len + z) cap e))) wn := by
    rw [hop]
    simp only [EX, execOp, resolve, List.map_toArray, List.map_cons, List.map_nil, st.env.ev hs, st.env.ev hx]
    simp [invoke, builtin, hrun]
  rw [if_pos (gd_wanted st.env hg), Oper.wp, EX_eq, hrun2, Oper.upon_value, hd]
  subst hW
  have st' : St w0 F R n l L a w.drew := ⟨st.env, st.has, st.nd, st.own, st.ro, st.rk, st.upd.drew⟩
  have hLs' : Has w.drew Ls := hLs
  have hge := grownCap_ge w (len + z) cap e
  have hcm := grownCap_le_maxLen w (len + z) cap e hmax
  have st2 := st'.alloc (.cells (olds ++ ((Builtin.zeroCells zv.cells z).toList ++ (Builtin.zeroCells zv.cells (grownCap w (len + z) cap e - (len + z))).toList)).toArray e)
  exact ⟨.inr (hLs'.alloc _), h _ _ _ hge hcm (by simp only [List.length_append, Array.length_toList, size_zeroCells, hzs, ← Nat.add_mul]; congr 1; omega) _ _ (st2.put hbd _) (hLs'.alloc _)⟩
end
end TB
namespace TB
open Go
/- A RANGE OVER A FUNCTION -/
abbrev CI (P : Program) (lp : Nat) (c : Code) (N : Act → World → Prop) (X : List (Nat × (Act → World → Prop))) (Rt : Act → World → Prop) : Act → World → Prop := Code.wpIn (wideAt (some lp)) 0 P c (toQ ⟨N, X, Rt⟩)
section
variable {P : Program} {w0 : World} {F : List Nat} {R : HL} {n : Cfg} {l : Env} {L Ls L1 L2 R' : HL} {N : Act → World → Prop} {X : List (Nat × (Act → World → Prop))} {Rt : Act → World → Prop} {lp : Nat}
theorem iSeq {x y : Code} (h : GN w0 F R n (CI P lp x (CI P lp y N X Rt) X Rt) l L) : GN w0 F R n (CI P lp (.seq x y) N X Rt) l L := fun a w s =>
  wpIn_seq (wpIn_mono (h a w s) fun e a w hq => by cases e <;> exact hq)
theorem iBlock {id : Nat} {c : Code} (h : GN w0 F R n (CI P lp c N ((id, N) :: X) Rt) l L) : GN w0 F R n (CI P lp (.block id c) N X Rt) l L := fun a w s =>
  wpIn_block (wpIn_mono (h a w s) fun e a w hq => by
    cases e with
    | exit id' =>
      simp only [toQ, lkX] at hq
      simp only [Exit.inBlock]
      by_cases hi : id' = id
      · subst hi; simp at hq; simp only [if_true]; exact hq
      · have hb : Nat.beq id' id = false := by
          cases hh : Nat.beq id' id; rfl; exact absurd (Nat.eq_of_beq_eq_true hh) hi
        rw [hb] at hq; simp at hq; simp only [hi, if_false]; exact hq
    | _ => exact hq)
theorem iSkip (h : GN w0 F R n N l L) : GN w0 F R n (CI P lp .skip N X Rt) l L := fun a w s => wpIn_skip (h a w s)
theorem iLabel {k : Nat} (h : GN w0 F R n N l L) : GN w0 F R n (CI P lp (.label k) N X Rt) l L := fun a w s => wpIn_label (h a w s)
theorem iRet (h : GN w0 F R n Rt l L) : GN w0 F R n (CI P lp .ret N X Rt) l L := fun a w s => wpIn_ret (h a w s)
theorem iExit {id : Nat} {M : Act → World → Prop} (hM : lkX id X = some M) (h : GN w0 F R n M l L) : GN w0 F R n (CI P lp (.exit id) N X Rt) l L := fun a w s =>
  wpIn_exit (by show (match lkX id X with | some M => M a w | none => False); rw [hM]; exact h a w s)
theorem iCond {c : Operand} {x y : Code} {t : Bool} (hc : evE l c = some (.bool t)) (ht : t = true → GN w0 F R n (CI P lp x N X Rt) l L) (hf : t = false → GN w0 F R n (CI P lp y N X Rt) l L) :
    GN w0 F R n (CI P lp (.cond c x y) N X Rt) l L := fun a w s => wpIn_cond_split (s.env.ev hc) (fun h => ht h a w s) (fun h => hf h a w s)
theorem iCondD {c : Operand} {x y : Code} {p : Prop} [Decidable p] (hc : evE l c = some (.bool (decide p))) (ht : p → GN w0 F R n (CI P lp x N X Rt) l L) (hf : ¬ p → GN w0 F R n (CI P lp y N X Rt) l L) :
    GN w0 F R n (CI P lp (.cond c x y) N X Rt) l L := fun a w s => wpIn_cond_split (s.env.ev hc) (fun h => ht (of_decide_eq_true h) a w s) (fun h => hf (of_decide_eq_false h) a w s)
theorem iCondT {c : Operand} {x y : Code} {t : Bool} (hc : evE l c = some (.bool t)) (ht : t = true) (h : GN w0 F R n (CI P lp x N X Rt) l L) :
    GN w0 F R n (CI P lp (.cond c x y) N X Rt) l L := fun a w s => wpIn_cond_true ((s.env.ev hc).trans (by rw [ht])) (h a w s)
theorem iCondF {c : Operand} {x y : Code} {t : Bool} (hc : evE l c = some (.bool t)) (ht : t = false) (h : GN w0 F R n (CI P lp y N X Rt) l L) :
    GN w0 F R n (CI P lp (.cond c x y) N X Rt) l L := fun a w s => wpIn_cond_false ((s.env.ev hc).trans (by rw [ht])) (h a w s)
def noDefer (ops : Array Oper) : Bool := ops.toList.all fun o => match o.op with | .defer _ => false | _ => true
theorem noDefer_spec {ops : Array Oper} (h : noDefer ops = true) : ∀ (i : Nat) (o : Oper), ops[i]? = some o → ∀ c, o.op ≠ .defer c := fun i o ho c hc => by
  simp only [noDefer, List.all_eq_true] at h
  have := h o (by rw [Array.mem_toList_iff]; exact Array.mem_of_getElem? ho)
  rw [hc] at this; cases this
theorem iText {id : Nat} {ops : Array Oper} {σ : Wk} (hσ : σ.text false = some (List.range ops.size)) (hd : noDefer ops = true) (h : GS w0 F R n [] (SqN P ops [] N σ) l L) : GN w0 F R n (CI P lp (.region id ops false) N X Rt) l L := fun a w st => by
  have h1 := SqN_ops (ro := some lp) (Q := toQ ⟨N, X, Rt⟩) (.inr (noDefer_spec hd)) (fun _ _ h => h) σ _ a w hσ (h a w st (fun x hx => nomatch hx))
  exact wpIn_region h1
end
theorem Tr.mono {P : Program} {f : Nat} {args : List Value} {R L : HL} {Φ Φ' : Value → HL → Prop} (h : Tr P f args R L Φ) (hm : ∀ v L', Φ v L' → Φ' v L') : Tr P f args R L Φ' := fun w hR hL nd hd =>
  (h w hR hL nd hd).mono fun e w' hq => by
    cases e with
    | returned v => obtain ⟨L', h1, h2⟩ := hq; exact ⟨L', hm v L' h1, h2⟩
    | panicked c => exact hq
    | outgrown => exact hq
/-- What one round of a loop does. -/
def Rd (P : Program) (lp : Nat) (args : List Value) (R L : HL) (Φ : Value → HL → Prop) : Prop :=
  ∀ w, Has w R → Has w L → (keys L).Nodup → (∀ k ∈ keys R, k ∉ keys L) → ∃ f tmps assign body, (Instr.yield lp args.toArray).run P w = .ok (.round lp f tmps assign body) w ∧
    RoundIn Fence.wide 0 P lp f tmps assign body w (RetP w (keys L) Φ)
def preY (ops : Array Oper) (n : Cfg) (l : Env) (i : Nat) : Option (Nat × List Value × Option Nat) :=
  match ops[i]? with
  | some o => match gd ops l o with
    | some true => match o.op with
      | .call c => match c.callee with
        | .value f => match evE l f with
          | some (.func (.yield g) ⟨[]⟩ ⟨[]⟩) => match evL l c.args.toList with
            | some vs => match o.dst with
              | some d => match Nat.blt d n.k with
                | true => some (g, vs, some d)
                | false => none
              | none => some (g, vs, none)
            | none => none
          | _ => none
        | _ => none
      | _ => none
    | _ => none
  | none => none
theorem preY_spec {P : Program} {ops : Array Oper} {n : Cfg} {l : Env} {i g : Nat} {args : List Value} {d : Option Nat} (h : preY ops n l i = some (g, args, d)) :
    ∃ o, ops[i]? = some o ∧ gd ops l o = some true ∧ o.dst = d ∧ (∀ e, d = some e → Nat.blt e n.k = true) ∧ ∀ a, EnvOK n l a → ∀ w, (execOp a.eval o).run P w = (Instr.yield g args.toArray).run P w := by
  unfold preY at h
  split at h
  case h_2 => cases h
  rename_i o ho
  split at h
  case h_2 => cases h
  rename_i hg
  split at h
  case h_2 => cases h
  rename_i c hc
  split at h
  case h_2 => cases h
  rename_i f hf
  split at h
  case h_2 => cases h
  rename_i g' hfv
  split at h
  case h_2 => cases h
  rename_i vs hvs
  have key : ∀ a, EnvOK n l a → ∀ w, (execOp a.eval o).run P w = (Instr.yield g' vs.toArray).run P w := fun a hE w => by
    have h1 := hE.ev hfv
    have h2 : c.args.map a.eval = vs.toArray := by
      have := hE.evL hvs
      apply Array.ext'; simpa using this
    simp only [execOp, hc, resolve, hf, h1, h2, Deferred.ofValue]
    simp only [Sem.run_bind, Sem.run_pure, Result.andThen_ok, invoke]
    simp
  split at h
  · rename_i d' hd
    split at h
    case h_2 => cases h
    rename_i hb
    simp only [Option.some.injEq, Prod.mk.injEq] at h
    obtain ⟨rfl, rfl, rfl⟩ := h
    exact ⟨o, ho, hg, hd, (fun e hx => by simp at hx; subst hx; exact hb), key⟩
  · rename_i hd
    simp only [Option.some.injEq, Prod.mk.injEq] at h
    obtain ⟨rfl, rfl, rfl⟩ := h
    exact ⟨o, ho, hg, hd, (fun e he => nomatch he), key⟩
section
variable {P : Program} {w0 : World} {F : List Nat} {R : HL} {n : Cfg} {l : Env} {L Ls L1 L2 R' : HL} {N : Act → World → Prop} {ops : Array Oper} {i lp : Nat} {r : Wk} {args : List Value} {d : Option Nat} {Φ : Value → HL → Prop}
theorem py (hp : preY ops n l i = some (lp, args, d)) (hc : Rd P lp args R' L1 Φ) [h1 : Front L1 L L2] [h2 : Among R' (L2 ++ R)]
    (h : ∀ v L', Φ v L' → GS w0 F R n [] (SqN P ops [] N r) (putE d v l) (L' ++ L2)) : GS w0 F R n [] (SqN P ops [] N (.one i .y r)) l L := fun a w st hL => by
  obtain ⟨o, ho, hg, hd, hb, hrun⟩ := preY_spec (P := P) hp
  have s2 := st.front (A := L1)
  have nd := s2.nd
  simp only [keys, List.map_append] at nd
  obtain ⟨n1, n2, n3⟩ := List.nodup_append.1 nd
  obtain ⟨f, tmps, assign, body, hy, hR⟩ := hc w ((s2.has.app s2.ro).sub fun x hx => by
      rcases List.mem_append.1 (h2.sub x hx) with h | h
      · exact List.mem_append_left _ (List.mem_append_right _ h)
      · exact List.mem_append_right _ h) (fun x hx => s2.has x (List.mem_append_left _ hx)) n1 (fun k hk hk1 => by
      obtain ⟨x, hx, rfl⟩ := List.mem_map.1 hk
      rcases List.mem_append.1 (h2.sub x hx) with h | h
      · exact n3 _ hk1 _ (List.mem_map_of_mem h) rfl
      · exact s2.dis _ (List.mem_map_of_mem h) (by simp only [keys, List.map_append]; exact List.mem_append_left _ hk1))
  refine ⟨o, lp, f, tmps, assign, body, ho, gd_wanted st.env hg, (hrun a st.env w).trans hy, hR.mono fun e w' hq => ?_⟩
  cases e with
  | returned v =>
    obtain ⟨L', hΦ, q1, q2, q3, q4⟩ := hq
    have hs := s2.called q1 q2 q3 q4
    rw [hd]
    exact h v L' hΦ _ _ (hs.1.putO hb v) (fun x hx => nomatch hx)
  | panicked c => exact hq
  | outgrown => exact hq.elim
end
/-- Behind a round. -/
def RP (P : Program) (lp : Nat) (w0 : World) (F : List Nat) (Φ : Value → HL → Prop) (jump : Option Code) : Act → World → Prop := fun _ w => ∃ v w', (Instr.endRound lp jump).run P w = .ok v w' ∧ RetP w0 F Φ (.returned v) w'
def NB (P : Program) (lp : Nat) (body : Code) (w0 : World) (F : List Nat) (Φ : Value → HL → Prop) (xs : List Nat) : Act → World → Prop := fun a w => ∃ w2, (Instr.beginRound lp).run P w = .ok () w2 ∧
  CI P lp body (RP P lp w0 F Φ none) (xs.map fun id => (id, RP P lp w0 F Φ (some (.exit id)))) (RP P lp w0 F Φ (some .ret)) a w2
section
variable {P : Program} {w0 : World} {F : List Nat} {R : HL} {n : Cfg} {l : Env} {L L' B L1 L2 R' : HL} {lp : Nat} {Φ : Value → HL → Prop}
theorem iBegin {body : Code} {rec : Loop} {xs : List Nat} {f : Obj → HL} [hs : Slot L lp (.loop rec) f] (hr : rec.state = .ready)
    (h : GN w0 F R n (CI P lp body (RP P lp w0 F Φ none) (xs.map fun id => (id, RP P lp w0 F Φ (some (.exit id)))) (RP P lp w0 F Φ (some .ret))) l (f (.loop { rec with state := .busy }))) : GN w0 F R n (NB P lp body w0 F Φ xs) l L := fun a w st =>
  ⟨_, run_beginRound (st.has _ hs.mem) hr, h a _ (st.set (o' := .loop { rec with state := .busy }) rfl rfl rfl rfl)⟩
theorem iEnd {rec : Loop} {jump : Option Code} {f : Obj → HL} [hs : Slot L lp (.loop rec) f] {L3 : HL} (h3 : f (.loop { rec with state := if jump.isNone then .ready else .done, pending := jump }) = L3) [hF : Front L' L3 B] (hΦ : Φ (.bool jump.isNone) L') :
    GN w0 F R n (RP P lp w0 F Φ jump) l L := fun a w st => by
  have st2 := st.set (o' := .loop { rec with state := if jump.isNone then .ready else .done, pending := jump }) (w' := w.putObj lp (.loop { rec with state := if jump.isNone then .ready else .done, pending := jump })) rfl rfl rfl rfl
  rw [h3] at st2
  have s3 := st2.front (A := L')
  refine ⟨_, _, run_endRound jump (st.has _ hs.mem), L', hΦ, fun x hx => s3.has x (List.mem_append_left _ hx), ?_, fun k hk => s3.own k (by simp only [keys, List.map_append]; exact List.mem_append_left _ hk), s3.upd⟩
  have := s3.nd
  simp only [keys, List.map_append] at this
  exact (List.nodup_append.1 this).1
theorem iEndN {rec : Loop} {f : Obj → HL} [hs : Slot L lp (.loop rec) f] [hF : Front L' (f (.loop { rec with state := .ready, pending := none })) B] (hΦ : Φ (.bool true) L') : GN w0 F R n (RP P lp w0 F Φ none) l L := iEnd (jump := none) rfl hΦ (hF := hF)
theorem iEndR {rec : Loop} {c : Code} {f : Obj → HL} [hs : Slot L lp (.loop rec) f] [hF : Front L' (f (.loop { rec with state := .done, pending := some c })) B] (hΦ : Φ (.bool false) L') : GN w0 F R n (RP P lp w0 F Φ (some c)) l L := iEnd (jump := some c) rfl hΦ (hF := hF)
/-- One round out of its body's walk; two loop variables. -/
theorem rdMk2 {rec : Loop} {k p q : Nat} {x y : Value} (xs : List Nat) (hs : (lp, .loop rec) ∈ L) (hps : rec.params = #[p, q]) (hp : Nat.blt p k = true) (hq : Nat.blt q k = true) (henv : EnvOK ⟨k, []⟩ l { tmps := rec.tmps, defers := [] })
    (h : ∀ w0, GN w0 (keys L) R ⟨k, []⟩ (CI P lp rec.assign (NB P lp rec.body w0 (keys L) Φ xs) [] (fun _ _ => False)) ((q, y) :: (p, x) :: l) L) : Rd P lp [x, y] R L Φ := fun w hR hL nd hd => by
  have hl : w.heap[lp]? = some (.loop rec) := hL _ hs
  refine ⟨_, _, _, _, run_yield hl (by rw [hps]; rfl), roundIn_of_wpIn trivial ?_⟩
  have e1 : EnvOK ⟨k, []⟩ ((q, y) :: (p, x) :: l) { tmps := (rec.tmps.setIfInBounds p x).setIfInBounds q y, defers := [] } := (henv.put hp x).put hq y
  have hz : (rec.params.zip [x, y].toArray).foldl (fun tmps (t, a) => tmps.setIfInBounds t a) rec.tmps = (rec.tmps.setIfInBounds p x).setIfInBounds q y := by rw [hps]; simp
  rw [hz]
  have st : St w (keys L) R ⟨k, []⟩ ((q, y) :: (p, x) :: l) L { tmps := (rec.tmps.setIfInBounds p x).setIfInBounds q y, defers := [] } w := ⟨e1, hL, nd, fun k hk => .inl hk, hR, fun k hk => ⟨hR.klt hk, hd k hk⟩, Upd.refl _ _⟩
  refine wpIn_mono (h w _ w st) fun e a w' hq => ?_
  cases e with
  | normal =>
    obtain ⟨w2, h1, h2⟩ := hq
    refine ⟨w2, h1, wpIn_mono h2 fun e a w3 hq => ?_⟩
    cases e with
    | normal => exact hq
    | ret => exact hq
    | exit id =>
      have hx : ∀ (xs : List Nat), (match lkX id (xs.map fun id => (id, RP P lp w (keys L) Φ (some (.exit id)))) with | some M => M a w3 | none => False) → RP P lp w (keys L) Φ (some (.exit id)) a w3 := fun xs h => by
        induction xs with
        | nil => exact h.elim
        | cons z zs ih =>
          simp only [List.map_cons, lkX] at h
          cases hb : Nat.beq id z with
          | true => rw [hb] at h; simp at h; have := Nat.eq_of_beq_eq_true hb; subst this; exact h
          | false => rw [hb] at h; simp at h; exact ih h
      exact hx _ hq
    | _ => exact hq.elim
  | exit id => exact hq.elim
  | _ => exact hq.elim
/-- The statement: each round goes on, or returns out of the whole function. -/
theorem gRange {g : Operand} {ps : Array Tmp} {assign body : Code} {N : Act → World → Prop} {X : List (Nat × (Act → World → Prop))} {Rt : Act → World → Prop} {it k : Nat} {caps : List Value} {ΨN ΨR : HL → Prop}
    (hg : evE l g = some (.func (.func it) #[] caps.toArray)) (hE : EN P it) [h1 : Front L1 L L2] [h2 : Among R' (L2 ++ R)]
    (hcall : ∀ D lp rec, rec.state = .ready → rec.pending = none → EnvOK ⟨k, []⟩ l { tmps := rec.tmps, defers := [] } → rec.params = ps → rec.assign = assign → rec.body = body →
      Tr P it (.func (.yield lp) #[] #[] :: caps) R' ((lp, .loop rec) :: (D, .deferred (some [])) :: L1) (fun _ L' =>
        (∃ A, L' = (lp, .loop rec) :: (D, .deferred (some [])) :: A ∧ ΨN A) ∨ ∃ A, L' = (lp, .loop { rec with state := .done, pending := some .ret }) :: (D, .deferred (some [])) :: A ∧ ΨR A))
    (hN : ∀ D A, ΨN A → GN w0 F R ⟨k, [{ target := .collected D, args := #[] }]⟩ N l ((D, .deferred (some [])) :: A ++ L2))
    (hR : ∀ D A, ΨR A → GN w0 F R ⟨k, [{ target := .collected D, args := #[] }]⟩ Rt l ((D, .deferred (some [])) :: A ++ L2)) :
    GN w0 F R ⟨k, []⟩ (CW P (.rangeFunc g ps assign body) N X Rt) l L := fun a w st => by
  refine (wpIn_wide (n := 0)).1 (wpIn_rangeFunc fun fn _ => ?_)
  obtain ⟨rec, hrec⟩ : ∃ rec : Loop, rec = { state := .ready, pending := none, fn, tmps := a.tmps, params := ps, assign, body, defers := w.heap.size } := ⟨_, rfl⟩
  have hinv : (invoke (.fn (.func it) caps.toArray) #[.func (.yield (w.heap.size + 1)) #[] #[]]).run P ((w.alloc (.deferred (some []))).alloc (.loop rec)) = .ok (.enter it (.func (.yield (w.heap.size + 1)) #[] #[] :: caps).toArray) ((w.alloc (.deferred (some []))).alloc (.loop rec)) := by
    simp only [invoke]
    rw [hE]
    congr 2
    simp
  have hev : a.eval g = .func (.func it) #[] caps.toArray := st.env.ev hg
  have hcon : a.eval (.const (.func (.yield (w.heap.size + 1)) #[] #[])) = .func (.yield (w.heap.size + 1)) #[] #[] := rfl
  refine ⟨w.heap.size + 1, [{ target := .collected w.heap.size, args := #[] }], (w.alloc (.deferred (some []))).alloc (.loop rec), { target := .fn (.func it) caps.toArray, args := #[.func (.yield (w.heap.size + 1)) #[] #[]] }, (w.alloc (.deferred (some []))).alloc (.loop rec), it, (.func (.yield (w.heap.size + 1)) #[] #[] :: caps).toArray, (w.alloc (.deferred (some []))).alloc (.loop rec), ?_, ?_, fun _ _ => trivial, hinv, fun h => by simp [Fence.wide] at h, ?_⟩
  · rw [hrec]; exact run_enterLoop_outer _ _ _ _ _
  · simp only [resolve, rangeCall, hev, Deferred.ofValue, List.map_toArray, List.map_cons, List.map_nil, hcon]
    simp
  have st1 := st.front (A := L1)
  have st2 := st1.alloc (.deferred (some []))
  have st3 := st2.alloc (.loop rec)
  rw [World.size_alloc] at st3
  have hsz : (w.alloc (.deferred (some []))).heap.size = w.heap.size + 1 := by simp
  have nd := st3.nd
  have e0 : (w.heap.size + 1, Obj.loop rec) :: (w.heap.size, Obj.deferred (some [])) :: (L1 ++ L2) = ((w.heap.size + 1, Obj.loop rec) :: (w.heap.size, Obj.deferred (some [])) :: L1) ++ L2 := rfl
  rw [e0] at st3 nd
  simp only [keys, List.map_append] at nd
  obtain ⟨n1, n2, n3⟩ := List.nodup_append.1 nd
  have hc := hcall w.heap.size (w.heap.size + 1) rec (by rw [hrec]) (by rw [hrec]) (by rw [hrec]; exact ⟨st.env.1, rfl, st.env.2.2⟩) (by rw [hrec]) (by rw [hrec]) (by rw [hrec])
  have hm := hc ((w.alloc (.deferred (some []))).alloc (.loop rec)) ((st3.has.app st3.ro).sub fun x hx => by
      rcases List.mem_append.1 (h2.sub x hx) with h | h
      · exact List.mem_append_left _ (List.mem_append_right _ h)
      · exact List.mem_append_right _ h) (fun x hx => st3.has x (List.mem_append_left _ hx)) n1 (fun j hj hj1 => by
      obtain ⟨x, hx, rfl⟩ := List.mem_map.1 hj
      rcases List.mem_append.1 (h2.sub x hx) with h | h
      · exact n3 _ hj1 _ (List.mem_map_of_mem h) rfl
      · exact st3.dis _ (List.mem_map_of_mem h) (by simp only [keys, List.map_append]; exact List.mem_append_left _ hj1))
  refine callsIn_wide.2 (hm.mono fun e w3 hq => ?_)
  cases e with
  | panicked c => exact hq.elim
  | outgrown => exact hq.elim
  | returned v =>
    obtain ⟨L', hΦ, q1, q2, q3, q4⟩ := hq
    have hs := (st3.called q1 q2 q3 q4).1
    rcases hΦ with ⟨A, rfl, hA⟩ | ⟨A, rfl, hA⟩
    · have hl : w3.heap[w.heap.size + 1]? = some (.loop rec) := q1 _ List.mem_cons_self
      refine ⟨none, _, (by have := run_endLoop (P := P) hl (by rw [hrec]; simp); rwa [hrec] at this), ?_⟩
      have hs2 : St w0 F R ⟨k, []⟩ l ((w.heap.size + 1, .loop { rec with state := .exhausted }) :: ((w.heap.size, .deferred (some [])) :: A ++ L2)) a (w3.putObj (w.heap.size + 1) (.loop { rec with state := .exhausted })) :=
        St.set (f := fun o => (w.heap.size + 1, o) :: ((w.heap.size, .deferred (some [])) :: A ++ L2)) (h := Slot.here _ _ _) hs rfl rfl rfl rfl
      have hs3 := St.drop (A := [(w.heap.size + 1, .loop { rec with state := .exhausted })]) hs2
      exact hN _ A hA _ _ ⟨⟨hs3.env.1, by rw [hs3.env.2.1]; rfl, hs3.env.2.2⟩, by rw [← hrec]; exact hs3.has, hs3.nd, hs3.own, by rw [← hrec]; exact hs3.ro, hs3.rk, by rw [← hrec]; exact hs3.upd⟩
    · have hl : w3.heap[w.heap.size + 1]? = some (.loop { rec with state := .done, pending := some .ret }) := q1 _ List.mem_cons_self
      refine ⟨some .ret, _, run_endLoop (P := P) hl (by simp), ?_⟩
      have hs2 : St w0 F R ⟨k, []⟩ l ((w.heap.size + 1, .loop { rec with state := .exhausted, pending := some .ret }) :: ((w.heap.size, .deferred (some [])) :: A ++ L2)) a (w3.putObj (w.heap.size + 1) (.loop { rec with state := .exhausted, pending := some .ret })) :=
        St.set (f := fun o => (w.heap.size + 1, o) :: ((w.heap.size, .deferred (some [])) :: A ++ L2)) (h := Slot.here _ _ _) hs rfl rfl rfl rfl
      have hs3 := St.drop (A := [(w.heap.size + 1, .loop { rec with state := .exhausted, pending := some .ret })]) hs2
      exact wpIn_ret (hR _ A hA _ _ ⟨⟨hs3.env.1, by rw [hs3.env.2.1]; rfl, hs3.env.2.2⟩, hs3.has, hs3.nd, hs3.own, hs3.ro, hs3.rk, hs3.upd⟩)
end
end TB
namespace TB
open Go
/- VERSIONS -/
structure Ver where
  s : Stamp
  w : Write
  deriving DecidableEq
def Write.zero : Write := ⟨⟨#[]⟩, ⟨#[]⟩, ⟨#[]⟩, false⟩
def Ver.zero : Ver := ⟨.zero, .zero⟩
abbrev stampL (s : Stamp) : List Value := [.int .u64 s.v.a, .int .u64 s.v.b, .int .u64 s.v.c, .int .u64 s.v.d, .int .i64 s.dc]
abbrev writeL (w : Write) : List Value := [.string w.bucket, .string w.key, .string w.value, .bool w.gone]
abbrev verL (x : Ver) : List Value := [.int .u64 x.s.v.a, .int .u64 x.s.v.b, .int .u64 x.s.v.c, .int .u64 x.s.v.d, .int .i64 x.s.dc, .string x.w.bucket, .string x.w.key, .string x.w.value, .bool x.w.gone]
def verV (x : Ver) : Value := .agg #[.int .u64 x.s.v.a, .int .u64 x.s.v.b, .int .u64 x.s.v.c, .int .u64 x.s.v.d, .int .i64 x.s.dc, .string x.w.bucket, .string x.w.key, .string x.w.value, .bool x.w.gone]
theorem verL_len (x : Ver) : (verL x).length = 9 := rfl
theorem writeL_len (x : Write) : (writeL x).length = 4 := rfl
def versL (xs : List Ver) : List Value := xs.flatMap verL
def writesL (xs : List Write) : List Value := xs.flatMap writeL
/-- The versions of a key. -/
def ChainH (t c : Nat) (xs : List Ver) (tv : Nat) (L : HL) : Prop := ∃ v Lr, Row tv 9 xs.length (versL xs) v Lr ∧ L = (c, .cells #[v] t) :: Lr
/-- The last one of which something is so. -/
def lastOf (p : Ver → Bool) (xs : List Ver) : Option Ver := xs.reverse.find? p
def stopAt (p : Ver → Bool) (xs : List Ver) (k : Nat) : Prop := ∀ j x, k ≤ j → xs[j]? = some x → p x = false
theorem lastOf_none {p : Ver → Bool} {xs : List Ver} (h : stopAt p xs 0) : lastOf p xs = none := by
  unfold lastOf
  rw [List.find?_eq_none]
  intro x hx
  rw [List.mem_reverse] at hx
  obtain ⟨j, hj⟩ := List.getElem?_of_mem hx
  simp [h j x (Nat.zero_le _) hj]
theorem lastOf_some {p : Ver → Bool} {xs : List Ver} {k : Nat} {x : Ver} (h : stopAt p xs (k + 1)) (hx : xs[k]? = some x) (hp : p x = true) : lastOf p xs = some x := by
  unfold lastOf
  have hk : k < xs.length := (List.getElem?_eq_some_iff.1 hx).1
  have e : xs = xs.take k ++ x :: xs.drop (k + 1) := by
    rw [← (List.getElem?_eq_some_iff.1 hx).2]; simp
  rw [e, List.reverse_append, List.reverse_cons, List.append_assoc, List.find?_append]
  have : (xs.drop (k + 1)).reverse.find? p = none := by
    rw [List.find?_eq_none]
    intro y hy
    rw [List.mem_reverse] at hy
    obtain ⟨j, hj⟩ := List.getElem?_of_mem hy
    rw [List.getElem?_drop] at hj
    simp [h _ y (by omega) hj]
  rw [this]; simp [hp]
theorem stopAt_step {p : Ver → Bool} {xs : List Ver} {k : Nat} {x : Ver} (h : stopAt p xs (k + 1)) (hx : xs[k]? = some x) (hp : p x = false) : stopAt p xs k := fun j y hj hy => by
  rcases Nat.lt_or_ge k j with h1 | h1
  · exact h j y h1 hy
  · have : j = k := by omega
    subst this; rw [hx] at hy; cases hy; exact hp
theorem stopAt_len (p : Ver → Bool) (xs : List Ver) : stopAt p xs xs.length := fun j x hj hx => by
  rw [List.getElem?_eq_none hj] at hx; cases hx
end TB
namespace TB
open Go
instance (priority := 850) Front.cons (x : Nat × Obj) (A L B : HL) [h : Front A L B] : Front (x :: A) (x :: L) B := ⟨h.perm.cons x⟩
/-- One block brought to the front. -/
class Take (b : Nat) (L : HL) (o : outParam Obj) (B : outParam HL) : Prop where
  perm : L.Perm ((b, o) :: B)
instance Take.here (b : Nat) (o : Obj) (L : HL) : Take b ((b, o) :: L) o L := ⟨List.Perm.refl _⟩
instance (priority := 500) Take.there (b : Nat) (o : Obj) (L B : HL) (x : Nat × Obj) [h : Take b L o B] : Take b (x :: L) o (x :: B) := ⟨(h.perm.cons x).trans (.swap _ _ _)⟩
instance (priority := 400) Take.right (b : Nat) (o : Obj) (A L B : HL) [h : Take b L o B] : Take b (A ++ L) o (A ++ B) := ⟨(h.perm.append_left A).trans List.perm_middle⟩
theorem ti_of {P : Program} {e n : Nat} (h : (P.info? e).map (·.bytes) = some n) : ∀ w, ∃ ti, (typeInfo e).run P w = .ok ti w ∧ ti.bytes = n := fun w => by
  cases hi : P.info? e with
  | none => simp [hi] at h
  | some i => simp [hi] at h; exact ⟨i, by simp [typeInfo, hi], h⟩
section
variable {P : Program} {w0 : World} {F : List Nat} {R : HL} {n : Cfg} {l : Env} {L Ls L1 L2 Lx : HL} {M : Act → World → Prop} {ty : TypeId}
theorem bShr1 {T : TypeId} {k k' : IntKind} {a : Int} (hk : 1 ≤ k.bits) : BinR P .shr T (.int k a) (.int k' 1) (.int k (a / 2)) := fun ox oy w => by
  rw [Sem.run_bind]
  have : (eqGuard .shr T ox oy (.int k a) (.int k' 1)).run P w = .ok () w := by unfold eqGuard; split <;> rfl
  rw [this, Result.andThen_ok]
  have h1 : min 1 k.bits = 1 := by omega
  simp [binOp, Op.shift, h1]
  rw [Int.fdiv_eq_ediv_of_nonneg _ (by decide)]
theorem bNeOf {T : TypeId} {x y : Array Value} {b : Bool} (h : BinR P .eql T (.agg x) (.agg y) (.bool b)) (hg : P.eqGuardType P.depth T = false) : BinR P .neq T (.agg x) (.agg y) (.bool (!b)) := fun ox oy w => by
  have g : ∀ op, (eqGuard op T ox oy (.agg x) (.agg y)).run P w = .ok () w := fun op => by unfold eqGuard; split <;> simp [hg]
  have h := h ox oy w
  rw [Sem.run_bind, g, Result.andThen_ok] at h ⊢
  rw [run_eql_struct] at h
  rw [run_neq_struct]
  generalize (Op.equalIn 10000 T (.agg x) (.agg y)).run P w = r at *
  cases r with
  | ok c w' => simp at h; obtain ⟨rfl, rfl⟩ := h; rfl
  | halt c w' => simp [Result.andThen] at h
theorem psT {N : Act → World → Prop} {ops : Array Oper} {i : Nat} {op : Op} {r : Wk} {b : Nat} {o o' : Obj} {B : HL} (hp : preS ops l i = some (op, ty)) [hs : Take b L o B] (hr : Turns P n l ((b, o) :: B ++ R) op ty b o') [hA : Among Ls (B ++ R)] (h : GS w0 F R n Ls (SqN P ops Ls N r) l ((b, o') :: B)) : GS w0 F R n Ls (SqN P ops Ls N (.one i .p r)) l L := fun a w st hL => by
  obtain ⟨q, ho, rfl, rfl, hd, hg⟩ := preS_spec hp
  refine ⟨q, ho, ?_⟩
  have st1 := st.perm hs.perm
  obtain ⟨w', h1, h2, h3, h4, h5⟩ := hr a w st1.env (st1.has.app st1.ro)
  rw [if_pos (gd_wanted st.env hg), Oper.wp, EX_eq, h1, Oper.upon_skip, hd]
  have st2 : St w0 F R n l ((b, o') :: B) a w' := St.set (f := fun o => (b, o) :: B) (h := Slot.here _ _ _) st1 h2 h3 h4 h5
  have hL2 : Has w' Ls := ((show Has w' B from fun x hx => st2.has x (List.mem_cons_of_mem _ hx)).app st2.ro).sub hA.sub
  exact ⟨.inr hL2, h _ _ st2 hL2⟩
theorem gTk (b : Nat) {o : Obj} {B : HL} [hs : Take b L o B] (h : GN w0 F R n M l ((b, o) :: B)) : GN w0 F R n M l L := fun a w st => h a w (st.perm hs.perm)
theorem gDisR {b g : Nat} {o o' : Obj} {f : Obj → HL} [hs : Slot L g o f] (hm : (b, o') ∈ R) (h : b ≠ g → GN w0 F R n M l L) : GN w0 F R n M l L := fun a w st =>
  h (fun e => st.dis b (List.mem_map_of_mem hm) (e ▸ List.mem_map_of_mem hs.mem)) a w st
theorem gDisL {b g : Nat} {o o' : Obj} {B : HL} [hs : Front [(b, o), (g, o')] L B] (h : b ≠ g → GN w0 F R n M l L) : GN w0 F R n M l L := fun a w st =>
  h (fun e => by
    have nd := (st.front (A := [(b, o), (g, o')])).nd
    simp [keys, e] at nd) a w st
/-- a store anywhere -/
theorem tStA {T b o k : Nat} {x y : Operand} {v : Value} {vs cl cl' : List Value} {E : TypeId} {f : Obj → HL} (hT : ∀ w, (Go.sizeOf T).run P w = .ok k w) (hx : evE l x = some (.pointer (some ⟨b, o, none⟩))) (hy : evE l y = some v)
    [hs : Slot Lx b (.cells cl.toArray E (0, 0)) f] (hc : v.cells = vs.toArray) (hk : vs.length = k) (h1 : ∀ u ∈ vs, u.oneCell' = true) (hln : o + vs.length ≤ cl.length) (hu : cl.take o ++ vs ++ cl.drop (o + vs.length) = cl') : Turns P n l Lx (.store T x y) ty b (.cells cl'.toArray E (0, 0)) := fun a w h hL => by
  have hb := hL _ hs.mem
  have hst := run_storeCells_at P b o E vs 0 cl.toArray w hb (by simpa using hln) h1
  have e : (cl.take o ++ vs ++ cl.drop (o + vs.length)).toArray = cl'.toArray := by rw [hu]
  simp only [Nat.add_zero] at hst
  rw [e] at hst
  refine ⟨_, ?_, setRow_alike w b _ hb⟩
  simp only [EX, execOp, h.ev hx, h.ev hy, Instr.storeAt, Instr.sureAddr, storeVar]
  simp [hT, hc, hk, hst]
end
def oneL (l : List Value) : Prop := ∀ u ∈ l, u.oneCell' = true
theorem oneL_app {a b : List Value} (h : oneL a) (k : oneL b) : oneL (a ++ b) := fun u hu => by
  rcases List.mem_append.1 hu with h1 | h1; exact h u h1; exact k u h1
theorem verL_one (x : Ver) : oneL (verL x) := fun u hu => by
  simp only [verL, List.mem_cons, List.not_mem_nil, or_false] at hu
  rcases hu with rfl | rfl | rfl | rfl | rfl | rfl | rfl | rfl | rfl <;> rfl
theorem writeL_one (x : Write) : oneL (writeL x) := fun u hu => by
  simp only [writeL, List.mem_cons, List.not_mem_nil, or_false] at hu
  rcases hu with rfl | rfl | rfl | rfl <;> rfl
theorem versL_one (xs : List Ver) : oneL (versL xs) := fun u hu => by
  obtain ⟨x, _, h⟩ := List.mem_flatMap.1 hu; exact verL_one x u h
theorem writesL_one (xs : List Write) : oneL (writesL xs) := fun u hu => by
  obtain ⟨x, _, h⟩ := List.mem_flatMap.1 hu; exact writeL_one x u h
theorem versL_len (xs : List Ver) : (versL xs).length = xs.length * 9 := flat_len verL_len xs
theorem writesL_len (xs : List Write) : (writesL xs).length = xs.length * 4 := flat_len writeL_len xs
theorem versL_app (a b : List Ver) : versL (a ++ b) = versL a ++ versL b := by simp [versL]
theorem versL_cons (a : Ver) (b : List Ver) : versL (a :: b) = verL a ++ versL b := by simp [versL]
theorem zeros_one {z : List Value} (h : oneL z) (h0 : 0 < z.length) (n : Nat) : oneL (Builtin.zeroCells z.toArray n).toList := fun u hu => by
  simp only [Builtin.zeroCells, Array.toList_map, List.mem_map] at hu
  obtain ⟨i, _, rfl⟩ := hu
  have hlt : i % z.toArray.size < z.toArray.size := Nat.mod_lt _ (by simpa using h0)
  rw [getElem!_pos z.toArray _ hlt]
  exact h _ (by simp)
/-- lists put together -/
theorem take_left' {α : Type} {a b : List α} {k : Nat} (h : a.length = k) : (a ++ b).take k = a := by subst h; exact List.take_left
theorem drop_left' {α : Type} {a b : List α} {k : Nat} (h : a.length = k) : (a ++ b).drop k = b := by subst h; exact List.drop_left
theorem get_left' {α : Type} {a b : List α} {k j : Nat} (h : a.length = k) : (a ++ b)[k + j]? = b[j]? := by
  subst h; rw [List.getElem?_append_right (by omega)]; congr 1; omega
theorem set_mid {a b c d : List Value} {k : Nat} (h : a.length = k) (hl : b.length = c.length) : (a ++ (b ++ d)).take k ++ c ++ (a ++ (b ++ d)).drop (k + c.length) = a ++ (c ++ d) := by
  rw [take_left' h, ← hl, ← List.drop_drop, drop_left' h, drop_left' rfl, List.append_assoc]
end TB
namespace TB
open Go
theorem Row.some' {e size n : Nat} {xs : List Value} {v : Value} {L : HL} (h : Row e size n xs v L) (hn : n ≠ 0) : ∃ g cap T, v = .slice (some ⟨g, 0, none⟩) n cap ∧ L = [(g, .cells (List.toArray (xs ++ T)) e (0, 0))] ∧ n ≤ cap ∧ cap ≤ maxLen ∧ T.length = (cap - n) * size := by
  rcases h.2 with ⟨_, h2, _⟩ | ⟨g, cap, cur, h1, h2, h3, h4, h5, h6⟩
  · exact absurd h2 hn
  · refine ⟨g, cap, cur.toList.drop (n * size), h1, ?_, h3, h4, ?_⟩
    · rw [h2, ← h6, List.take_append_drop, Array.toArray_toList]
    · simp [h5, Nat.sub_mul]
theorem Row.mk' {e size n g cap : Nat} {xs T : List Value} (hl : xs.length = n * size) (hn : n ≤ cap) (hc : cap ≤ maxLen) (hT : T.length = (cap - n) * size) : Row e size n xs (.slice (some ⟨g, 0, none⟩) n cap) [(g, .cells (List.toArray (xs ++ T)) e (0, 0))] :=
  ⟨hl, .inr ⟨g, cap, _, rfl, rfl, hn, hc, by simp [hl, hT, ← Nat.add_mul]; congr 1; omega, by simp [take_left' hl]⟩⟩
/-- The first of which something is so. -/
def idxOf {α : Type} (p : α → Bool) (xs : List α) : Int := match xs.findIdx? p with | some k => k | none => -1
def noneTo {α : Type} (p : α → Bool) (xs : List α) (k : Nat) : Prop := ∀ j x, j < k → xs[j]? = some x → p x = false
theorem noneTo_step {α : Type} {p : α → Bool} {xs : List α} {k : Nat} {x : α} (h : noneTo p xs k) (hx : xs[k]? = some x) (hp : p x = false) : noneTo p xs (k + 1) := fun j y hj hy => by
  rcases Nat.lt_or_ge j k with h1 | h1
  · exact h j y h1 hy
  · have : j = k := by omega
    subst this; rw [hx] at hy; cases hy; exact hp
theorem noneTo_zero {α : Type} (p : α → Bool) (xs : List α) : noneTo p xs 0 := fun j x hj => absurd hj (by omega)
theorem idxOf_none {α : Type} {p : α → Bool} {xs : List α} (h : noneTo p xs xs.length) : idxOf p xs = -1 := by
  unfold idxOf
  have : xs.findIdx? p = none := by
    rw [List.findIdx?_eq_none_iff]
    intro x hx
    obtain ⟨j, hj⟩ := List.getElem?_of_mem hx
    exact h j x (List.getElem?_eq_some_iff.1 hj).1 hj
  rw [this]
theorem idxOf_some {α : Type} {p : α → Bool} {xs : List α} {k : Nat} {x : α} (h : noneTo p xs k) (hx : xs[k]? = some x) (hp : p x = true) : idxOf p xs = k := by
  unfold idxOf
  have hk := (List.getElem?_eq_some_iff.1 hx).1
  have : xs.findIdx? p = some k := by
    rw [List.findIdx?_eq_some_iff_getElem]
    refine ⟨hk, by rw [(List.getElem?_eq_some_iff.1 hx).2]; exact hp, fun j hj => ?_⟩
    rw [h j _ hj (List.getElem?_eq_getElem (by omega))]; simp
  rw [this]
theorem idxOf_cases {α : Type} (p : α → Bool) (xs : List α) : (idxOf p xs = -1 ∧ ∀ x ∈ xs, p x = false) ∨ ∃ k x, idxOf p xs = (k : Nat) ∧ xs[k]? = some x ∧ p x = true ∧ noneTo p xs k := by
  cases h : xs.findIdx? p with
  | none =>
    left
    exact ⟨by simp [idxOf, h], by rw [List.findIdx?_eq_none_iff] at h; exact h⟩
  | some k =>
    right
    rw [List.findIdx?_eq_some_iff_getElem] at h
    obtain ⟨hk, h1, h2⟩ := h
    refine ⟨k, xs[k], idxOf_some (fun j x hj hx => ?_) (List.getElem?_eq_getElem hk) h1, List.getElem?_eq_getElem hk, h1, fun j x hj hx => ?_⟩ <;>
    · have := h2 j hj
      rw [(List.getElem?_eq_some_iff.1 hx).2] at this
      simpa using this
theorem filter_all {α : Type} {p : α → Bool} {xs : List α} (h : ∀ x ∈ xs, p x = false) : xs.filter (fun x => !p x) = xs := by
  rw [List.filter_eq_self]; intro x hx; simp [h x hx]
theorem filter_take {α : Type} {p : α → Bool} {xs : List α} {k : Nat} {x : α} (h : noneTo p xs k) (hx : xs[k]? = some x) (hp : p x = true) : (xs.take (k + 1)).filter (fun x => !p x) = xs.take k := by
  have hk := (List.getElem?_eq_some_iff.1 hx).1
  rw [List.take_add_one, hx]
  simp [hp]
  intro y hy
  obtain ⟨j, hj⟩ := List.getElem?_of_mem hy
  rw [List.getElem?_take] at hj
  split at hj
  · exact h j y (by assumption) hj
  · cases hj
theorem filter_step {α : Type} {q : α → Bool} {xs : List α} {k : Nat} {x : α} (hx : xs[k]? = some x) : (xs.take (k + 1)).filter q = (xs.take k).filter q ++ (if q x then [x] else []) := by
  rw [List.take_add_one, hx]; simp; split <;> simp [*]
theorem drop_step {α : Type} {xs : List α} {k : Nat} {x : α} (hx : xs[k]? = some x) : xs.drop k = x :: xs.drop (k + 1) := by
  rw [← (List.getElem?_eq_some_iff.1 hx).2]; simp
/-- Where a version goes. -/
def slotV (s : Stamp) (xs : List Ver) : Nat := (xs.takeWhile fun y => decide (y.s.ord s < 0)).length
def thereV (s : Stamp) (xs : List Ver) : Bool := match xs[slotV s xs]? with | some y => decide (y.s.ord s = 0) | none => false
def addV (x : Ver) (xs : List Ver) : Bool × List Ver :=
  if thereV x.s xs || !x.s.ok then (false, xs) else (true, xs.take (slotV x.s xs) ++ x :: xs.drop (slotV x.s xs))
/-- The versions stand in order. -/
def Ordered (xs : List Ver) : Prop := ∀ (i j : Nat) x y, i ≤ j → xs[i]? = some x → xs[j]? = some y → ∀ s : Stamp, y.s.ord s < 0 → x.s.ord s < 0
theorem slotV_le (s : Stamp) (xs : List Ver) : slotV s xs ≤ xs.length := (List.takeWhile_sublist _).length_le
theorem slotV_lt {s : Stamp} : ∀ {xs : List Ver} {j : Nat} {x : Ver}, j < slotV s xs → xs[j]? = some x → x.s.ord s < 0
  | [], j, x, _, h => by simp at h
  | y :: ys, j, x, hj, h => by
    simp only [slotV, List.takeWhile_cons] at hj
    split at hj
    · rename_i hy
      cases j with
      | zero => simp at h; subst h; exact of_decide_eq_true hy
      | succ j => simp at h hj; exact slotV_lt (xs := ys) hj h
    · simp at hj
theorem slotV_at {s : Stamp} : ∀ {xs : List Ver} {x : Ver}, xs[slotV s xs]? = some x → ¬ x.s.ord s < 0
  | [], x, h => by simp at h
  | y :: ys, x, h => by
    simp only [slotV, List.takeWhile_cons] at h
    split at h
    · simp at h; exact slotV_at (xs := ys) h
    · rename_i hy
      simp at h; subst h; intro hh; exact hy (decide_eq_true hh)
theorem slotV_ge {s : Stamp} {xs : List Ver} (ho : Ordered xs) {j : Nat} {x : Ver} (hj : slotV s xs ≤ j) (h : xs[j]? = some x) : ¬ x.s.ord s < 0 := fun hx => by
  have hlt := (List.getElem?_eq_some_iff.1 h).1
  have hs : slotV s xs < xs.length := by omega
  exact slotV_at (List.getElem?_eq_getElem hs) (ho _ j _ x hj (List.getElem?_eq_getElem hs) h s hx)
/-- Let go. -/
def pruneV (h : Vec) (xs : List Ver) : List Ver := xs.filter fun x => !(x.s.v.leq h && decide (x.s ≠ ((lastOf (fun x => x.s.v.leq h) xs).getD Ver.zero).s))
/-- What waits. -/
structure Bat where
  s : Stamp
  p : Option Addr
  n : Nat
  cap : Nat
abbrev batL (b : Bat) : List Value := [.int .u64 b.s.v.a, .int .u64 b.s.v.b, .int .u64 b.s.v.c, .int .u64 b.s.v.d, .int .i64 b.s.dc, .slice b.p b.n b.cap]
abbrev batV (b : Bat) : Value := .agg #[.int .u64 b.s.v.a, .int .u64 b.s.v.b, .int .u64 b.s.v.c, .int .u64 b.s.v.d, .int .i64 b.s.dc, .slice b.p b.n b.cap]
def Bat.zero : Bat := ⟨.zero, none, 0, 0⟩
abbrev batsV (bs : List Bat) : List Value := bs.map batV
end TB
