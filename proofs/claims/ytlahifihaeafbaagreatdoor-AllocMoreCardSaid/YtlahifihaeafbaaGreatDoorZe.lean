/- Part 5 of 11 of a proof of the law AllocMore: what the last part leans on. -/
import Derived.Test.YtlahifihaeafbaaGreatDoorZd
import Derived.Laws.IdiomRangeMap
import Derived.RangeFuncLeaves
import Derived.RangeFuncRecord
import Derived.RangeFuncFrom
set_option linter.all false
set_option maxRecDepth 100000
namespace Go.Sx
open Go
theorem run_next_at {P : Program} (w : World) (ty : TypeId) (r bm clock : Nat) (seen : Array Nat) (es : Array MapEntry) (hr : w.heap[r]? = some (.mapIter (some bm) clock seen clock)) (hb : w.heap[bm]? = some (.map es clock))
 (hold : ∀ x ∈ es.toList, x.born < clock) :
 ((∀ e ∈ es.toList, e.born ∈ seen) ∧ (Instr.next (.pointer (some ⟨r, 0, none⟩)) false ty).run P w = .ok (.tuple #[.bool false]) w) ∨
 ∃ e ∈ es.toList, e.born ∉ seen ∧ ∃ w1 : World, w1.heap = w.heap.setIfInBounds r (.mapIter (some bm) clock (seen.push e.born) clock) ∧ w1.os = w.os ∧ w1.tape = w.tape ∧ w1.output = w.output ∧
  (Instr.next (.pointer (some ⟨r, 0, none⟩)) false ty).run P w = .ok (.tuple #[.bool true, e.key, e.val]) w1 := by
  simp only [Instr.next, getObj, Sem.run_bind, Sem.run, hr, hb, Result.andThen, next_test_false seen es clock clock hold (Nat.le_refl _), Bool.false_eq_true, if_false]
  have hmem : ∀ x ∈ (Array.filter (fun e => !seen.contains e.born) es).toList, x.born < clock ∧ x ∈ es.toList ∧ x.born ∉ seen := fun x hx => by
   simp at hx; exact ⟨hold x (by simp [hx.1]), by simp [hx.1], hx.2⟩
  have hall : ∀ x ∈ es.toList, x.born ∉ seen -> x ∈ (Array.filter (fun e => !seen.contains e.born) es).toList := fun x hx hn => by
   simp at hx ⊢; exact ⟨hx, hn⟩
  generalize Array.filter (fun e => !seen.contains e.born) es = L at hmem hall ⊢
  have e1 : L.filter (fun x => decide (x.born < clock)) = L := Array.filter_eq_self.2 (fun x hx => by simpa using (hmem x (by simpa using hx)).1)
  have e2 : L.filter (fun x => decide (x.born ≥ clock)) = #[] := by
   rw [Array.filter_eq_empty_iff]
   intro x hx
   have := (hmem x (by simpa using hx)).1
   simp
   omega
  simp only [e1, e2, Array.append_empty]
  by_cases h0 : L.size = 0
  . left
    have : L = #[] := Array.eq_empty_of_size_eq_zero h0
    subst this
    refine ⟨fun e he => ?_, ?_⟩
    . apply Classical.byContradiction
      intro hn
      have := hall e he hn
      simp at this
    . simp [choose, Sem.run, Question.forced]
  . right
    have hne : L.isEmpty = false := by simp [Array.isEmpty, h0]
    simp only [hne, Bool.false_eq_true, if_false, Array.empty_append, Array.size_map]
    have hch : ∃ (j : Nat) (w1 : World), j < L.size ∧ w1.heap = w.heap ∧ w1.os = w.os ∧ w1.tape = w.tape ∧ w1.output = w.output ∧ (choose (Question.mapNext L.size)).run P w = .ok j w1 := by
     by_cases hf : L.size ≤ 1
     . exact ⟨0, w, by omega, rfl, rfl, rfl, rfl, by simp [choose, Sem.run, Question.forced, hf]⟩
     . exact ⟨_, { w with drawn := w.drawn + 1 }, Nat.mod_lt _ (by omega), rfl, rfl, rfl, rfl, by
        simp only [choose, Sem.run, Question.forced, decide_eq_true_eq, hf, if_false, Question.cut]
        rfl⟩
    obtain ⟨j, w1, hj, g1, g2, g3, g4, hrun⟩ := hch
    obtain ⟨_, m1, m2⟩ := hmem L[j] (by simp)
    refine ⟨L[j], m1, m2, { w1 with heap := w1.heap.setIfInBounds r (.mapIter (some bm) clock (seen.push L[j].born) clock) }, by rw [g1], g2, g3, g4, ?_⟩
    have hset : (setObj r (.mapIter (some bm) clock (seen.push L[j].born) clock)).run P w1 = .ok () { w1 with heap := w1.heap.setIfInBounds r (.mapIter (some bm) clock (seen.push L[j].born) clock) } := by
     simp [setObj, Sem.run, g1, hr]
    simp only [hrun, Array.getElem?_map, Array.getElem?_eq_getElem hj, Option.map_some, Sem.run_bind, hset, Result.andThen]
    rfl
section
variable {C : Ctx} {gt : GT} {go : GO} {o : Oper} {fresh : Nat} {R : List Loc} {v : Option SV} {os : List (Nat × Option SO)} {k : Nat}
theorem ok_rngm {t : TypeId} {x : Operand} (ho : o.op = .range t x) (ht : ∃ K E, C.P.underlying t = some (.map K E)) (h : (MO.rt C.toEnv fresh (.rngm (cX x))).Runs gt go R v os k) (hd : DstOk C o.dst v) :
 OpOk C o fresh gt go v os k := by
  simp only [MO.rt] at h
  replace h := rd_inv h
  obtain ⟨sx, R1, h, hx⟩ := h
  split at h
  case h_2 => cases h
  rename_i id
  cases h with
  | rO h =>
    dsimp only at h
    split at h
    case h_2 => cases h
    rename_i M es it hg
    cases h with
    | done =>
      intro β own S a w H hβ next Q hn
      obtain ⟨B, b, ents, clock, hB, hblk, ex, hown, hb, he, ⟨hnd, hbp, hbl⟩, hit⟩ := map_at H hg (hx H)
      obtain ⟨K, E, hT⟩ := ht
      have hf : β fresh = none := hβ fresh (Nat.le_refl _) (by omega)
      have hne : id ≠ fresh := fun e => by subst e; rw [hB] at hf; cases hf
      let w' := w.alloc (.mapIter (some b) clock #[] clock)
      have hlt : ∀ j, j < w.heap.size -> w'.heap[j]? = w.heap[j]? := fun j hj => by
       show (w.heap.push _)[j]? = _; rw [Array.getElem?_push, if_neg (by omega)]
      have hnew : w'.heap[w.heap.size]? = some (.mapIter (some b) clock #[] clock) := by
       show (w.heap.push _)[w.heap.size]? = _; simp
      let Br : Base := ⟨some w.heap.size, 0, 0⟩
      let β' := upd β fresh (some Br)
      let own' := upd (upd own id (fun x => own id x ∨ x = w.heap.size)) fresh (fun _ => False)
      have x0 : Ext β w S β' w' S := ⟨fun i B' e => by
       by_cases hi : i = fresh
       . subst hi; rw [hf] at e; cases e
       . simp only [β']; rw [upd_other _ _ hi]; exact e, fun _ e => e, fun b hb => hlt b (H.mem.sz b hb)⟩
      have hgo : ∀ j, j ≠ id -> j ≠ fresh -> goPut go [(id, some (.map M es (some (fresh, es.map Prod.fst, none)))), (fresh, some (.itr id))] j = go j := fun j h1 h2 => by
       simp only [goPut]; rw [upd_other _ _ h2, upd_other _ _ h1]
      have hgi : goPut go [(id, some (.map M es (some (fresh, es.map Prod.fst, none)))), (fresh, some (.itr id))] id = some (.map M es (some (fresh, es.map Prod.fst, none))) := by
       simp only [goPut]; rw [upd_other _ _ hne, upd_same]
      have hgf : goPut go [(id, some (.map M es (some (fresh, es.map Prod.fst, none)))), (fresh, some (.itr id))] fresh = some (.itr id) := by
       simp only [goPut]; rw [upd_same]
      have hoi : own' id = fun x => own id x ∨ x = w.heap.size := by simp only [own']; rw [upd_other _ _ hne, upd_same]
      have hof : own' fresh = fun _ => False := upd_same _ _ _
      have hoo : ∀ j, j ≠ id -> j ≠ fresh -> own' j = own j := fun j h1 h2 => by simp only [own']; rw [upd_other _ _ h2, upd_other _ _ h1]
      have hltown : ∀ j, (go j).isSome -> ∀ b, own j b -> b < w.heap.size := fun j hj b hb => by
       obtain ⟨o', ho'⟩ := Option.isSome_iff_exists.1 hj
       obtain ⟨B', _, h2⟩ := H.mem.obj j o' ho'
       exact h2.lt b hb
      have hidsome : (go id).isSome := by simp [hg]
      have hm : MemOk β' own' S (goPut go [(id, some (.map M es (some (fresh, es.map Prod.fst, none)))), (fresh, some (.itr id))]) w' := by
       refine ⟨fun j o' e => ?_, fun i j q hij hi hj => ?_, fun i q hi => ?_, fun q hq => ?_⟩
       . by_cases h1 : j = fresh
         . subst h1
           rw [hgf] at e; cases e
           exact ⟨Br, upd_same _ _ _, ⟨_, rfl, hof⟩, B, x0.ids _ _ hB⟩
         . by_cases h2 : j = id
           . subst h2
             rw [hgi] at e; cases e
             refine ⟨B, x0.ids _ _ hB, b, ents, clock, hblk, ⟨by rw [hoi]; exact .inl hown.1, fun y hy => ?_⟩, (hlt b (hltown _ hidsome b hown.1)).trans hb, relE_ext x0 M _ _ he, ⟨hnd, hbp, hbl⟩, ?_⟩
             . rw [hoi] at hy
               rcases hy with hy | rfl
               . rw [hlt y (hltown _ hidsome y hy)]; exact hown.2 y hy
               . simp [hnew]
             . have hbs : b < w.heap.size := hltown _ hidsome b hown.1
               refine ⟨Br, w.heap.size, #[], upd_same _ _ _, rfl, by rw [hoi]; exact .inr rfl, by omega, hnew, fun i m k v h1 h2 => ?_, fun k e => by cases e⟩
               have hk : k ∈ es.map Prod.fst := List.mem_map.2 ⟨(k, v), List.mem_of_getElem? h2, rfl⟩
               exact ⟨fun h => by simp at h, fun h => absurd hk h⟩
           . rw [hgo j h2 h1] at e
             obtain ⟨B', q1, q2⟩ := H.mem.obj j o' e
             exact ⟨B', x0.ids _ _ q1, by rw [hoo j h2 h1]; exact q2.ext x0 (fun q hq => hlt q (q2.lt q hq))⟩
       . by_cases h1 : i = fresh
         . subst h1; rw [hof]; exact fun h => h.elim
         . by_cases h2 : j = fresh
           . subst h2; rw [hof]; exact fun _ h => h
           . have hi' : (go i).isSome := by
              by_cases h3 : i = id
              . subst h3; exact hidsome
              . rwa [hgo i h3 h1] at hi
             have hj' : (go j).isSome := by
              by_cases h3 : j = id
              . subst h3; exact hidsome
              . rwa [hgo j h3 h2] at hj
             have old := H.mem.sep i j q hij hi' hj'
             by_cases h3 : i = id
             . subst h3
               rw [hoi, hoo j (fun e => hij e.symm) h2]
               rintro (e | rfl) e'
               . exact old e e'
               . exact absurd (hltown j hj' _ e') (Nat.lt_irrefl _)
             . rw [hoo i h3 h1]
               by_cases h4 : j = id
               . subst h4
                 rw [hoi]
                 rintro e (e' | rfl)
                 . exact old e e'
                 . exact absurd (hltown i hi' _ e) (Nat.lt_irrefl _)
               . rw [hoo j h4 h2]; exact old
       . by_cases h1 : i = fresh
         . subst h1; rw [hof]; exact fun h => h.elim
         . by_cases h3 : i = id
           . subst h3
             rw [hoi]
             rintro (e | rfl) hs
             . exact H.mem.st i q hidsome e hs
             . exact absurd (H.mem.sz _ hs) (Nat.lt_irrefl _)
           . rw [hoo i h3 h1]
             exact H.mem.st i q (by rwa [hgo i h3 h1] at hi)
       . have := H.mem.sz q hq
         show q < (w.heap.push _).size
         simp; omega
      have hrun : (execOp a.eval o).run C.P w = .ok (.value (.pointer (some ⟨w.heap.size, 0, none⟩))) w' := by
       have := run_range_map (P := C.P) w t K E b ents clock hT hb
       simp [execOp, ho, ex, this, w']
      refine wpIn_run (by simp [ho]) hrun (hn β' own' S _ w' (fun i hi => upd_other _ _ (fun e => hi (by omega))) ?_)
      refine H.step x0 hm ⟨rfl, rfl, rfl, by show w.heap.size ≤ (w.heap.push _).size; simp, fun k hk _ => hlt k hk⟩ (fun i q e1 e2 => ?_) (fun q e => .inl e) o.dst _ _ (dstw_ok hd (fun s' e => ?_)) (dstw_none hd gt)
      . by_cases h1 : i = fresh
        . subst h1; rw [hof] at e2; exact e2.elim
        . by_cases h3 : i = id
          . subst h3
            rw [hoi] at e2
            rcases e2 with e2 | rfl
            . exact .inl ⟨i, hidsome, e2⟩
            . exact .inr (Nat.le_refl _)
          . rw [hgo i h3 h1] at e1
            rw [hoo i h3 h1] at e2
            exact .inl ⟨i, e1, e2⟩
      . cases e
        simp only [rel]
        exact ⟨Br, w.heap.size, upd_same _ _ _, rfl, by simp⟩
theorem ok_ent {x : Operand} (ho : o.op = .entry x) (h : (MO.rt C.toEnv fresh (.ent (cX x))).Runs gt go R v os k) (hd : DstOk C o.dst v) : OpOk C o fresh gt go v os k := by
 simp only [MO.rt] at h
 replace h := rd_inv h
 obtain ⟨sx, R1, h, hx⟩ := h
 split at h
 case h_2 => cases h
 rename_i rid idx sub
 cases h with
 | rO h =>
   dsimp only at h
   split at h
   case h_2 => cases h
   rename_i id hi
   cases h with
   | rO h =>
     dsimp only at h
     split at h
     case h_2 => cases h
     rename_i M es it hg
     split at h
     case h_2 => cases h
     rename_i rid' left cur
     split at h
     case h_2 => cases h
     rename_i kk
     unfold eqN at h
     split at h
     case h_2 => cases h
     rename_i hbq
     have hrr := Nat.eq_of_beq_eq_true hbq
     subst hrr
     cases h with
     | req hp h =>
       obtain ⟨rfl, rfl⟩ := hp
       obtain ⟨rfl, rfl, rfl⟩ := ret1_inv h
       refine ok_val (by simp [ho]) hd fun {β own S a w} H => ?_
       have hpr := hx H
       simp only [rel] at hpr
       obtain ⟨Br, r, hBr, hr, he⟩ := hpr
       obtain ⟨B, hB, b, ents, clock, hblk, hown, hb, hrel, ⟨hnd, hbp, hbl⟩, B', r', seen, q1, q2, q3, q4, q5, q6, q7⟩ := H.mem.obj _ _ hg
       rw [hBr] at q1; cases q1
       rw [hr] at q2; cases q2
       obtain ⟨i, m, v, h1, h2, h3⟩ := q7 kk rfl
       have he' : a.eval x = .pointer (some ⟨r, 0, none⟩) := by rw [he]; simp
       obtain ⟨m', hm', hkr, hvr⟩ := relE_at hrel i kk v h2
       rw [h1] at hm'; cases hm'
       have hnb : (ents.toList.map (·.born)).Nodup := hbp.imp (fun h => Nat.ne_of_lt h)
       have hfind : ents.find? (fun e => e.born == m.born) = some m := by
        rw [<- Array.find?_toList]
        exact find_born m ents.toList hnb (List.mem_of_getElem? h1)
       have hag : agetD M kk es = v := by
        unfold agetD
        rw [posK_aget]
        cases hp : posK M kk es with
        | none => exact absurd (List.mem_map.2 ⟨(kk, v), List.mem_of_getElem? h2, rfl⟩) ((posK_mem M kk es).1 hp)
        | some j =>
          obtain ⟨v0, hj⟩ := posK_lt hp
          have e1 : (es.map (·.1))[i]? = some kk := by simp [h2]
          have e2 : (es.map (·.1))[j]? = some kk := by simp [hj]
          have := (List.getElem?_inj (List.getElem?_eq_some_iff.1 e1).1 hnd).1 (e1.trans e2.symm)
          subst this
          simp [h2]
       refine ⟨.tuple #[m.key, m.val], ?_, ?_⟩
       . have hrun : (Instr.entry (.pointer (some ⟨r, 0, none⟩))).run C.P w = .ok (.tuple #[m.key, m.val]) w := by
          simp only [Instr.entry, getObj, Sem.run_bind, Sem.run, q5, hb, Result.andThen, h3, hfind, bne_self_eq_false, Bool.false_eq_true, if_false]
          rfl
         simp [execOp, ho, he', hrun]
       . simp only [rel, relL]
         exact ⟨_, rfl, _, _, rfl, hkr, _, _, rfl, by rw [hag]; exact hvr, rfl⟩
end
end Go.Sx
namespace Go.Sx
open Go
theorem leavesM {F : Fence} {n : Nat} {P : Program} {fn : Func} {tmps : Array Value} {R : Ending -> World -> Prop} : ∀ (ds : List Deferred) (w : World), ds.Nodup -> (∀ d ∈ ds, ∃ D, d = { target := .collected D, args := #[] } ∧ w.heap[D]? = some (.deferred (some []))) →
 (∀ w' : World, w'.heap.size = w.heap.size -> w'.os = w.os -> w'.tape = w.tape -> w'.output = w.output -> (∀ b, { target := .collected b, args := #[] } ∉ ds -> w'.heap[b]? = w.heap[b]?) →
  ∃ v, (results fn tmps).run P w' = .ok v w' ∧ R (.returned v) w') -> LeavesInM F n P fn tmps R ds .returning w
  | [], w, _, _, h => h w rfl rfl rfl rfl (fun _ _ => rfl)
  | d :: ds, w, hnd, hd, h => by
    obtain ⟨D, rfl, hD⟩ := hd d (by simp)
    have hlt := (Array.getElem?_eq_some_iff.1 hD).1
    have hnd' := List.nodup_cons.1 hnd
    have hput : ∀ b, b ≠ D -> (w.putObj D (.deferred none)).heap[b]? = w.heap[b]? := fun b hb => World.putObj_heap_other hb
    refine ⟨by simp, .inl ⟨D, _, rfl, run_takeDeferred hD, leavesM ds _ hnd'.2 (fun d' hd' => ?_) (fun w' h1 h2 h3 h4 h5 => ?_)⟩⟩
    . obtain ⟨D', rfl, hD'⟩ := hd d' (by simp [hd'])
      refine ⟨D', rfl, (hput D' (fun e => ?_)).trans hD'⟩
      subst e
      exact hnd'.1 hd'
    . refine h w' (h1.trans (by simp [World.putObj])) h2 h3 h4 (fun b hb => ?_)
      simp only [List.mem_cons, not_or] at hb
      exact (h5 b hb.2).trans (hput b (fun e => hb.1 (by rw [e])))
theorem Holds.undf {C : Ctx} {gt go β own S a w} (H : Holds C gt go β own S a w) {w' : World} (h1 : w'.heap.size = w.heap.size) (h2 : w'.os = w.os) (h3 : w'.tape = w.tape) (h4 : w'.output = w.output)
 {ms : List Deferred} (hdf : DfOk C.w0.heap.size go own S ms w)
 (h5 : ∀ b, { target := .collected b, args := #[] } ∉ ms -> w'.heap[b]? = w.heap[b]?) : Holds C gt go β own S { a with defers := C.dt } w' := by
  have mark : ∀ b, { target := .collected b, args := #[] } ∈ ms -> C.w0.heap.size ≤ b ∧ ¬ S b ∧ ∀ id, (go id).isSome -> ¬ own id b := fun b hb => by
   obtain ⟨D, e1, e2, e3, e4, e5⟩ := hdf.at_ _ hb
   injection e1 with e1
   injection e1 with e1
   subst e1
   exact ⟨e2, e4, e5⟩
  have x : Ext β w S β w' S := ⟨fun _ _ e => e, fun _ e => e, fun b hb => h5 b (fun e => (mark b e).2.1 hb)⟩
  refine ⟨fun t s e => rel_ext x _ _ (H.tm t s e), ⟨fun id o e => ?_, H.mem.sep, H.mem.st, fun b hb => by rw [h1]; exact H.mem.sz b hb⟩, ⟨h2.trans H.fr.os, h3.trans H.fr.tape, h4.trans H.fr.output, by rw [h1]; exact H.fr.size, fun k hk hx => ?_⟩,
   H.own0, H.s0, H.s1, H.n, ⟨⟨by rw [<- H.df.2, mks_nmk]; simp, fun d hd => by rw [<- H.df.2, mks_nmk] at hd; cases hd⟩, by rw [<- H.df.2, nmk_nmk]⟩, fun g s e => rel_ext ⟨fun _ _ e => e, fun _ e => e, x.heap⟩ _ _ (H.gl g s e)⟩
  . obtain ⟨B, hB, ho⟩ := H.mem.obj id o e
    exact ⟨B, hB, ho.ext x (fun b hb => h5 b (fun q => (mark b q).2.2 id (by simp [e]) hb))⟩
  . rw [h5 k (fun e => by have := (mark k e).1; omega)]
    exact H.fr.block k hk hx
def resRun (tmps : Array Value) : ResultVar -> Sem Value
 | .tmp t => pure (tmps.getD t undef)
 | .cell a t => do loadVar t (<- asAddr (tmps.getD a undef))
def resV (xs : List Value) : Value := match xs with | [x] => x | xs => .tuple xs.toArray
theorem res_run {P : Program} {fn : Func} {tmps : Array Value} {w : World} {xs : List Value} (h : (fn.results.toList.mapM (resRun tmps)).run P w = .ok xs w) :
 (results fn tmps).run P w = .ok (resV xs) w := by
  have hm : (fn.results.mapM (resRun tmps)).run P w = .ok xs.toArray w := by
   rw [Array.mapM_eq_mapM_toList]
   simp [h]
  have hres : results fn tmps = (do let vs <- fn.results.mapM (resRun tmps); pure (if h : vs.size = 1 then vs[0] else .tuple vs)) := rfl
  rw [hres]
  simp only [Sem.run_bind, hm, Result.andThen_ok, Sem.run_pure]
  match xs with
  | [] => simp [resV]
  | [x] => simp [resV]
  | x :: y :: r => simp [resV]
section
variable {C : Ctx} {gt : GT} {go : GO} {β : Nat -> Option Base} {own : Nat -> Nat -> Prop} {S : Nat -> Prop} {a : Act} {w : World}
theorem Holds.drop (H : Holds C gt go β own S a w) (id : Nat) : Holds C gt (upd go id none) β own S a w := by
 have hs : ∀ i, (upd go id none i).isSome -> (go i).isSome := fun i hi => by
  by_cases e : i = id
  . subst e; simp at hi
  . rwa [upd_other _ _ e] at hi
 exact ⟨H.tm, H.mem.drop id, H.fr, fun i b h1 h2 => H.own0 i b (hs i h1) h2, H.s0, H.s1, H.n, let ⟨hdf, hms⟩ := H.df; ⟨⟨hdf.nd, fun d hd => let ⟨D, h1, h2, h3, h4, h5⟩ := hdf.at_ d hd; ⟨D, h1, h2, h3, h4, fun i hi => h5 i (hs i hi)⟩⟩, hms⟩, H.gl⟩
theorem Holds.push (H : Holds C gt go β own S a w) (ob : Obj) : Holds C gt go β own S a (w.alloc ob) := by
 have hlt : ∀ b, b < w.heap.size -> (w.alloc ob).heap[b]? = w.heap[b]? := fun b hb => by
  show (w.heap.push ob)[b]? = _; rw [Array.getElem?_push, if_neg (by omega)]
 have x : Ext β w S β (w.alloc ob) S := ⟨fun _ _ e => e, fun _ e => e, fun b hb => hlt b (H.mem.sz b hb)⟩
 have hm : MemOk β own S go (w.alloc ob) := by
  refine ⟨fun id o e => ?_, H.mem.sep, H.mem.st, fun b hb => ?_⟩
  . obtain ⟨B, h1, h2⟩ := H.mem.obj id o e
    exact ⟨B, h1, h2.ext x (fun b hb => hlt b (h2.lt b hb))⟩
  . have := H.mem.sz b hb; show b < (w.heap.push ob).size; simp; omega
 exact H.step x hm ⟨rfl, rfl, rfl, by show w.heap.size ≤ (w.heap.push ob).size; simp, fun k hk _ => hlt k hk⟩ (fun id b e1 e2 => .inl ⟨id, e1, e2⟩) (fun b e => .inl e) none undef none (fun d s e => by cases e) (fun _ => .inl rfl)
theorem nest_back (H : Holds C gt go β own S a w) {C' : Ctx} {s' : St} {β' own' S' a' w'} (H' : HoldsS C' s' β' own' S' a' w')
 (e1 : C'.w0 = w) (e2 : C'.X0 = owned go own) (e3 : C'.S0 = S) (e4 : ∀ i B, β i = some B -> C'.β0 i = some B) (e5 : ∀ i, C'.m0 ≤ i -> C'.β0 i = none) :
 ∃ β'', (∀ i B, β' i = some B -> β'' i = some B) ∧ (∀ i, i < C'.m0 -> β'' i = C'.β0 i) ∧ (∀ i, s'.nx ≤ i -> β'' i = none) ∧ Holds C gt (goOf s'.o) β'' own' S' a w' := by
  have hw : ∀ i B, β' i = some B -> (if i < C'.m0 then C'.β0 i else β' i) = some B := fun i B e => by
   by_cases h : i < C'.m0
   . rw [if_pos h]; exact H'.b0 i B h e
   . rw [if_neg h]; exact e
  refine ⟨fun i => if i < C'.m0 then C'.β0 i else β' i, hw, fun i hi => if_pos hi, fun i hi => ?_, ?_⟩
  . have := H'.m0
    show (if i < C'.m0 then C'.β0 i else β' i) = none
    rw [if_neg (by omega)]
    exact H'.fresh i hi
  . have hm := H'.h.mem.widen hw
    have hS : ∀ b, S b -> S' b := fun b hb => H'.h.s0 b (by rw [e3]; exact hb)
    have hfr : Fr (owned go own) w w' := by rw [<- e1, <- e2]; exact H'.h.fr
    have x : Ext β w S (fun i => if i < C'.m0 then C'.β0 i else β' i) w' S' := ⟨fun i B e => by
     have h4 := e4 i B e
     by_cases h : i < C'.m0
     . simp only [if_pos h]; exact h4
     . rw [e5 i (by omega)] at h4; exact absurd h4 (by simp), hS, fun b hb => hfr.block b (H.mem.sz b hb) (fun ⟨i, q1, q2⟩ => H.mem.st i b q1 q2 hb)⟩
    exact H.step x hm hfr (fun id b h1 h2 => by have := H'.h.own0 id b h1 h2; rw [e1, e2] at this; exact this) (fun b hb => by have := H'.h.s1 b hb; rw [e1, e2, e3] at this; exact this) none undef none
     (fun d s e => by cases e) (fun _ => .inl rfl)
end
def rdX (t : List (Nat × SV)) : X -> Option SV
 | .t n => look n t
 | .k v => some v
 | .g _ => none
def rdXs (t : List (Nat × SV)) : List X -> (List SV -> Prop) -> Prop
 | [], K => K []
 | x :: xs, K => match rdX t x with | none => False | some v => rdXs t xs fun vs => K (v :: vs)
def putT (N : Nat) (d : Option Nat) (v : SV) (t : List (Nat × SV)) (K : List (Nat × SV) -> Prop) : Prop :=
 match d with
 | none => K t
 | some d => match Nat.blt d N with | false => False | true => fSV v fun v => K ((d, v) :: t)
def yldVc (E : Env) (y : YRn) (d : Option Nat) (xs : List X) (s : St) (K : Ex -> St -> Prop) : Prop :=
 match s with
 | ⟨t, o, nx⟩ => rdXs t xs fun vs => y.run vs o nx fun b o nx => putT E.N d (match b with | true => .tt | false => .ff) t fun t => K .nrm ⟨t, o, nx⟩
def nxtVc (E : Env) (d : Option Nat) (x : X) (s : St) (K : Ex -> St -> Prop) : Prop :=
 match s with
 | ⟨t, o, nx⟩ => match rdX t x with
   | some (.ptr rid idx sub) => match goOf o rid with
     | some (.itr id) => match goOf o id with
       | some (.map M es (some (rid', left, _))) => match Nat.beq rid rid' with
         | false => False
         | true => Sd (idx = 0 ∧ sub = 0) ∧ (∀ k v, (k, v) ∈ es -> k ∈ left -> putT E.N d (.tup [.tt, svOf M.one (M.ek k), svOf M.vone (M.ev v)]) t fun t => K .nrm ⟨t, (id, some (.map M es (some (rid, aerase M k left, some k)))) :: o, nx⟩) ∧
           ((∀ p ∈ es, p.1 ∉ left) -> putT E.N d (.tup [.ff]) t fun t => K .nrm ⟨t, o, nx⟩)
       | _ => False
     | _ => False
   | _ => False
def panVc (E : Env) (f : X) (xs : List X) (s : St) (K : Ex -> St -> Prop) : Prop :=
 match s with
 | ⟨t, o, nx⟩ => (callX E E.PS f xs nx).vc (gtOf t) (goOf o) [] fun _ v os k => match v with
   | none => False
   | some v => fSV v fun v => fNat (nx + k) fun nx => K (.pan v) ⟨t, revOn o os, nx⟩
def opVcY (E : Env) (op : MOp) (s : St) (K : Ex -> St -> Prop) : Prop :=
 match op.m with
 | .nxt x => (match op.g with | none => nxtVc E op.d x s K | some _ => False)
 | .pnc x => (match op.g with | none => (match rdX s.t x with | some (.ifc t v) => K (.pan (.ifc t v)) s | _ => False) | some _ => False)
 | .pcall f xs => (match op.g with | none => ∃ p : Prop, (p -> panVc E f xs s K) ∧ (¬ p -> opVc E { op with m := .call f xs } s (K .nrm)) | some _ => False)
 | .call f xs => (match E.Y with
   | none => opVc E op s (K .nrm)
   | some y => match rdX s.t f with
     | some (.fn (.yield l) [] _) => (match op.g with | none => Sd (l = y.l) ∧ yldVc E y op.d xs s K | some _ => False)
     | _ => opVc E op s (K .nrm))
 | _ => opVc E op s (K .nrm)
def Ex.then (f : St -> Prop) (K : Ex -> St -> Prop) : Ex -> St -> Prop
 | .nrm, s => f s
 | .exit i, s => K (.exit i) s
 | .ret, s => K .ret s
 | .pan v, s => K (.pan v) s
def runOpsY (E : Env) : List MOp -> St -> (Ex -> St -> Prop) -> Prop
 | [], s, K => K .nrm s
 | o :: r, s, K => opVcY E o s (Ex.then (fun s => runOpsY E r s K) K)
def post (C : Ctx) (K : Ex -> St -> Prop) : Exit -> Act -> World -> Prop
 | .normal, a, w => ∃ s β own S, K .nrm s ∧ HoldsS C s β own S a w
 | .exit id, a, w => ∃ s β own S, K (.exit id) s ∧ HoldsS C s β own S a w
 | .ret, a, w => ∃ s β own S, K .ret s ∧ HoldsS C s β own S a w
 | .panic ch, a, w => ∃ s β own S v x, ch = [{ v := x, recovered := false }] ∧ K (.pan v) s ∧ HoldsS C s β own S a w ∧ rel β w S v x
 | _, _, _ => False
def YOk (C : Ctx) (y : YRn) : Prop := ∀ vs t o nx K, y.run vs o nx K -> ∀ β own S a w (xs : List Value), HoldsS C ⟨t, o, nx⟩ β own S a w -> relL β w S vs xs →
 ∃ f tmps assign body, (Instr.yield y.l xs.toArray).run C.P w = .ok (.round y.l f tmps assign body) w ∧
  RoundIn (Wf C.rnd) 0 C.P y.l f tmps assign body w (fun e w' => ∃ b o' nx' β' own' S', e = .returned (.bool b) ∧ K b o' nx' ∧ HoldsS C ⟨t, o', nx'⟩ β' own' S' a w')
theorem rdX_inv {C : Ctx} {s : St} {β own S a w} (H : HoldsS C s β own S a w) {x : Operand} {v : SV} (h : rdX s.t (cX x) = some v) : rel β w S v (a.eval x) := by
 cases x with
 | tmp t => exact H.h.tm t v h
 | const c => simp only [cX, rdX, Option.some.injEq] at h; subst h; exact rel_cV c
 | global g => simp [cX, rdX] at h
 | func f => simp only [cX, rdX, Option.some.injEq] at h; subst h; simp [rel, relL, Act.eval]
theorem rdXs_inv {C : Ctx} {s : St} {β own S a w} (H : HoldsS C s β own S a w) : ∀ {xs : List Operand} {K : List SV -> Prop}, rdXs s.t (xs.map cX) K -> ∃ vs, K vs ∧ relL β w S vs (xs.map a.eval)
 | [], K, h => ⟨[], h, by simp [relL]⟩
 | x :: xs, K, h => by
   simp only [List.map, rdXs] at h
   split at h
   . exact h.elim
   . rename_i v hv
     obtain ⟨vs, h1, h2⟩ := rdXs_inv H h
     exact ⟨v :: vs, h1, by simp only [List.map, relL]; exact ⟨_, _, rfl, rdX_inv H hv, h2⟩⟩
theorem put_ok {C : Ctx} {t : List (Nat × SV)} {o : List (Nat × Option SO)} {nx : Nat} {β own S a w} (H : HoldsS C ⟨t, o, nx⟩ β own S a w) {d : Option Nat} {v : SV} {x : Value} {K : List (Nat × SV) -> Prop}
 (h : putT C.N d v t K) (hv : rel β w S v x) : ∃ t', K t' ∧ HoldsS C ⟨t', o, nx⟩ β own S (a.put d x) w := by
  cases d with
  | none => exact ⟨t, h, H⟩
  | some d =>
    simp only [putT] at h
    split at h
    . exact h.elim
    . rename_i hb
      rw [fSV_eq] at h
      have hlt : d < C.N := by rw [Nat.blt_eq] at hb; exact hb
      refine ⟨_, h, ⟨?_, H.fresh, H.m0, H.b0⟩⟩
      simp only [gtOf_cons]
      have := H.h.pure (w' := w) rfl rfl rfl rfl (some d) x (some (d, v)) (fun d' s' e => by cases e; exact ⟨rfl, hlt, hv⟩) (fun e => by cases e)
      exact this
theorem goOf_cons {i : Nat} {x : Option SO} {l : List (Nat × Option SO)} : goOf ((i, x) :: l) = upd (goOf l) i x := by
 funext j
 simp only [goOf, look_cons, upd]
 by_cases h : i = j
 . subst h; simp
 . rw [if_neg h, if_neg (fun e => h e.symm)]
theorem wpIn_of_run {r : Option Nat} {P : Program} {o : Oper} {a : Act} {w w' : World} {next : Act -> World -> Prop} {Q : Exit -> Act -> World -> Prop} {x : Value}
 (hd : ∀ c, o.op ≠ .defer c) (hr : (execOp a.eval o).run P w = .ok (.value x) w') (h : next (a.put o.dst x) w') : o.wpIn (Wf r) 0 P a w next Q := wpIn_run hd hr h
theorem opVcY_ok {C : Ctx} (hY : ∀ y, C.Y = some y -> YOk C y) {ops : Array Oper} {o : Oper} {m : MOp} (hm : MOpOk C ops o m) {s : St} {K : Ex -> St -> Prop} (h : opVcY C.toEnv m s K) {β own S a w} (H : HoldsS C s β own S a w)
 {next : Act -> World -> Prop} {Q : Exit -> Act -> World -> Prop} (hn : ∀ s' β' own' S' a' w', K .nrm s' -> HoldsS C s' β' own' S' a' w' -> next a' w')
 (hq : ∀ v x s' β' own' S' a' w', K (.pan v) s' -> HoldsS C s' β' own' S' a' w' -> rel β' w' S' v x -> Q (.panic [{ v := x, recovered := false }]) a' w') :
 if Region.wanted o (yielded ops a.tmps) then o.wpIn (Wf C.rnd) 0 C.P a w next Q else next (a.put o.dst undef) w := by
  obtain ⟨st, so, snx⟩ := s
  unfold opVcY at h
  split at h
  . rename_i x hx
    split at h
    . rename_i hg
      have hw := (wanted_of H.h hm).1 hg
      rw [if_pos hw]
      obtain ⟨ox, ho, rfl⟩ := hm.sh.nxt _ hx
      simp only [nxtVc] at h
      split at h
      . rename_i rid idx sub hp
        split at h
        . rename_i id hi
          split at h
          . rename_i M es rid' left cur hmap
            split at h
            . exact h.elim
            . rename_i hbq
              have hrr := Nat.eq_of_beq_eq_true hbq
              subst hrr
              obtain ⟨⟨rfl, rfl⟩, hk1, hk2⟩ := h
              have hpr := rdX_inv H hp
              simp only [rel] at hpr
              obtain ⟨Br, r, hBr, hr, he⟩ := hpr
              obtain ⟨Bi', hBi', _, Bm, hBm⟩ := H.h.mem.obj _ _ hi
              obtain ⟨B, hB, b, ents, clock, hblk, hown, hb, hrel, ⟨hnd, hbp, hbl⟩, B', r', seen, q1, q2, q3, q4, q5, q6, q7⟩ := H.h.mem.obj _ _ hmap
              rw [hBr] at q1; cases q1
              rw [hr] at q2; cases q2
              have he' : a.eval ox = .pointer (some ⟨r, 0, none⟩) := by rw [he]; simp
              have hlen := relE_length hrel
              rcases run_next_at (P := C.P) w o.type r b clock seen ents q5 hb hbl with ⟨hall, hrun⟩ | ⟨e, hemem, hens, w1, g1, g2, g3, g4, hrun⟩
              . have hover : ∀ p ∈ es, p.1 ∉ left := fun p hp => by
                 obtain ⟨i, hi', rfl⟩ := List.mem_iff_getElem.1 hp
                 have hi2 : i < ents.toList.length := by omega
                 have := (q6 i ents.toList[i] es[i].1 es[i].2 (by simp) (by simp [hi'])).1 (hall _ (List.getElem_mem hi2))
                 exact this
                obtain ⟨t', hk, H'⟩ := put_ok H (hk2 hover) (x := .tuple #[.bool false]) (by simp [rel, relL])
                rw [hm.d] at H'
                exact wpIn_of_run (x := .tuple #[.bool false]) (w' := w) (by simp [ho]) (by simp [execOp, ho, he', hrun]) (hn _ _ _ _ _ _ hk H')
              . obtain ⟨i, hi1, hi2⟩ := List.mem_iff_getElem.1 hemem
                have hi3 : i < es.length := by omega
                have hke : es[i]? = some (es[i].1, es[i].2) := by simp [hi3]
                have hme : ents.toList[i]? = some e := by simp only [List.getElem?_eq_getElem hi1, hi2]
                have hkl : es[i].1 ∈ left := by
                 have := q6 i e _ _ hme hke
                 apply Classical.byContradiction
                 intro hn'
                 exact hens (this.2 hn')
                obtain ⟨m', hm', hkr, hvr⟩ := relE_at hrel i _ _ hke
                rw [hme] at hm'; cases hm'
                have hlt : r < w.heap.size := (Array.getElem?_eq_some_iff.1 q5).1
                have hset : ∀ j, j ≠ r -> w1.heap[j]? = w.heap[j]? := fun j hj => by
                 rw [g1, Array.getElem?_setIfInBounds, if_neg (fun e => hj e.symm)]
                have hset' : w1.heap[r]? = some (.mapIter (some b) clock (seen.push e.born) clock) := by
                 rw [g1]; simp [hlt]
                have hbinj : ∀ (i' : Nat) m', ents.toList[i']? = some m' -> m'.born = e.born -> i' = i := fun i' m' h1 h2 => by
                 have hnb : (ents.toList.map (·.born)).Nodup := hbp.imp (fun h => Nat.ne_of_lt h)
                 have e1 : (ents.toList.map (·.born))[i']? = some e.born := by rw [List.getElem?_map, h1]; simp [h2]
                 have e2 : (ents.toList.map (·.born))[i]? = some e.born := by rw [List.getElem?_map, hme]; rfl
                 exact (List.getElem?_inj (List.getElem?_eq_some_iff.1 e1).1 hnb).1 (e1.trans e2.symm)
                have H2 := H.h.set hmap (w' := w1) hB (by rw [g1]; simp) (fun j hj => hset j (fun e => hj (e ▸ q3))) g2 g3 g4 (o := .map M es (some (rid, aerase M es[i].1 left, some es[i].1))) (fun xx => by
                 refine ⟨b, ents, clock, hblk, ⟨hown.1, fun y hy => ?_⟩, (hset b (fun e => q4 e.symm)).trans hb, relE_ext xx M _ _ hrel, ⟨hnd, hbp, hbl⟩, Br, r, seen.push e.born, hBr, hr, q3, q4, hset', fun i' m' k' v' h1 h2 => ?_, fun k' e' => ?_⟩
                 . by_cases e : y = r
                   . subst e; simp [hset']
                   . rw [hset y e]; exact hown.2 y hy
                 . rw [Array.mem_push, q6 i' m' k' v' h1 h2, mem_aerase]
                   constructor
                   . rintro (h3 | h3) ⟨h4, h5⟩
                     . exact h3 h4
                     . have := hbinj i' m' h1 h3
                       subst this
                       rw [hke] at h2; cases h2
                       exact h5 rfl
                   . intro h3
                     by_cases h4 : k' = es[i].1
                     . right
                       subst h4
                       have e1 : (es.map (·.1))[i']? = some es[i].1 := by simp [h2]
                       have e2 : (es.map (·.1))[i]? = some es[i].1 := by simp [hi3]
                       have := (List.getElem?_inj (List.getElem?_eq_some_iff.1 e1).1 hnd).1 (e1.trans e2.symm)
                       subst this
                       rw [hme] at h1; cases h1; rfl
                     . exact .inl (fun h5 => h3 ⟨h5, h4⟩)
                 . cases e'; exact ⟨i, e, es[i].2, hme, hke, by simp⟩) none undef none (fun d s e => by cases e) (fun _ => .inl rfl)
                have H3 : HoldsS C ⟨st, (id, some (.map M es (some (rid, aerase M es[i].1 left, some es[i].1)))) :: so, snx⟩ β own S a w1 := ⟨by simp only [goOf_cons]; exact H2, H.fresh, H.m0, H.b0⟩
                have xx : Ext β w S β w1 S := ⟨fun _ _ e => e, fun _ e => e, fun q hq => hset q (fun e => by subst e; exact H.h.mem.st id q (by simp [hmap]) q3 hq)⟩
                obtain ⟨t', hk, H'⟩ := put_ok (d := m.d) (K := fun t => K .nrm ⟨t, (id, some (.map M es (some (rid, aerase M es[i].1 left, some es[i].1)))) :: so, snx⟩) H3
                 (hk1 _ _ (List.getElem_mem hi3) hkl) (x := .tuple #[.bool true, e.key, e.val]) (by
                  simp only [rel, relL]
                  exact ⟨_, rfl, _, _, rfl, rfl, _, _, rfl, rel_ext xx _ _ hkr, _, _, rfl, rel_ext xx _ _ hvr, rfl⟩)
                rw [hm.d] at H'
                exact wpIn_of_run (by simp [ho]) (by simp [execOp, ho, he', hrun]) (hn _ _ _ _ _ _ hk H')
          . exact h.elim
        . exact h.elim
      . exact h.elim
    . exact h.elim
  . rename_i x hx
    split at h
    . rename_i hg
      have hw := (wanted_of H.h hm).1 hg
      rw [if_pos hw]
      obtain ⟨ox, ho, rfl⟩ := hm.sh.pnc _ hx
      split at h
      . rename_i t v hv
        have hr := rdX_inv H hv
        have hr' := hr
        simp only [rel] at hr'
        obtain ⟨y, hy, _⟩ := hr'
        refine ⟨fun _ _ => trivial, ?_⟩
        rw [Oper.semAt_eq _ _ _ (by simp [ho])]
        have hrun : (execOp a.eval o).run C.P w = .halt (.panic (.iface t y)) w := by
         simp [execOp, ho, hy, Instr.panic, goPanic, Sem.run, Sem.run_bind, Result.andThen]
        rw [hrun]
        exact hq _ _ _ β own S a w h H (by rw [<- hy]; exact hr)
      . exact h.elim
    . exact h.elim
  . rename_i f xs hx
    split at h
    . rename_i hg
      have hw := (wanted_of H.h hm).1 hg
      obtain ⟨fx, ax, ats, ho, rfl, rfl⟩ := hm.sh.pcall _ _ hx
      obtain ⟨p, hp1, hp2⟩ := h
      by_cases hp : p
      . rw [if_pos hw]
        have h := hp1 hp
        simp only [panVc] at h
        obtain ⟨R, v, os, k, hr, hc⟩ := RT.runs_of_vc _ _ _ h
        obtain ⟨s, rfl, hcall⟩ := call_core panicked C.psok ho hr
        simp only [fSV_eq, fNat_eq] at hc
        refine hcall β own S a w H.h (fun i h1 _ => H.fresh i h1) next Q (fun β' own' S' x w' h1 h2 h3 => ⟨fun y e => (by cases e), fun ch e => ?_, fun e => (by cases e)⟩)
        cases e
        have H' := h3 none x none (fun d s' e => by cases e) (fun _ => .inl rfl)
        simp only [gtPut] at H'
        have hm0 : C.m0 ≤ snx := H.m0
        refine hq s x ⟨st, revOn so os, snx + k⟩ β' own' S' a w' hc ⟨by simp only [goOf_rev]; exact H', fun i hi => ?_, ?_, fun i B hi e => ?_⟩ h2
        . have hi : snx + k ≤ i := hi
          rw [h1 i (by omega)]; exact H.fresh i (by show snx ≤ i; omega)
        . show C.m0 ≤ snx + k
          omega
        . rw [h1 i (by omega)] at e; exact H.b0 i B hi e
      . have hm' : MOpOk C ops o { m with m := .call (cX fx) (ax.toList.map cX) } := ⟨⟨fun f xs e => (by cases e; exact ⟨fx, ax, ats, ho, rfl, rfl⟩), fun _ _ e => (by cases e), fun _ e => (by cases e), fun _ e => (by cases e), fun _ _ _ e => (by cases e), fun _ _ _ e => (by cases e)⟩, hm.d, hm.g, fun hr hd => ok_call ho hr hd⟩
        exact opVc_ok hm' (hp2 hp) H hn
    . exact h.elim
  . rename_i f xs hx
    split at h
    . exact opVc_ok hm h H hn
    . rename_i y hy
      split at h
      . rename_i l fc hf
        split at h
        . rename_i hg
          have hw := (wanted_of H.h hm).1 hg
          rw [if_pos hw]
          obtain ⟨⟨rfl⟩, h⟩ := h
          obtain ⟨fx, ax, ats, ho, rfl, rfl⟩ := hm.sh.call _ _ hx
          have hfr := rdX_inv H hf
          simp only [rel] at hfr
          obtain ⟨va, vc, hfe, hra, hrc⟩ := hfr
          simp only [yldVc] at h
          obtain ⟨vs, hrun, hvs⟩ := rdXs_inv H h
          obtain ⟨f, tmps, assign, body, hyr, hround⟩ := hY y hy vs st so snx _ hrun β own S a w _ H hvs
          refine ⟨fun _ _ => trivial, ?_⟩
          have hva : va = #[] := by simp [relL] at hra; exact hra
          have hex : (execOp a.eval o).run C.P w = .ok (.round y.l f tmps assign body) w := by
           simp only [execOp, ho, resolve, hfe, Deferred.ofValue, invoke, Sem.run_bind, Sem.run_pure, Result.andThen_ok, hva]
           have e : (#[] ++ Array.map a.eval ax : Array Value) = (List.map a.eval ax.toList).toArray := by apply Array.toList_inj.1; simp
           rw [e]; exact hyr
          rw [Oper.semAt_eq _ _ _ (by simp [ho]), hex]
          refine ⟨fun e => by simp [Wf, Fence.wide] at e, ?_⟩
          refine hround.mono ?_
          rintro e w' ⟨b, o', nx', β', own', S', rfl, hk, H'⟩
          obtain ⟨t', hk, H''⟩ := put_ok (x := .bool b) H' hk (by cases b <;> simp [rel])
          rw [hm.d] at H''
          exact hn _ _ _ _ _ _ hk H''
        . exact h.elim
      . exact opVc_ok hm h H hn
  . exact opVc_ok hm h H hn
end Go.Sx
namespace Go.Sx
open Go
open Classical
def mTs (ρ : Ren) : List (Nat × SV) -> (Ren -> RT) -> RT
 | [], f => f ρ
 | (t, p) :: l, f => .rT t fun o => match o with
   | none => .fail
   | some c => mSV ρ p c fun ρ => mTs ρ l f
def someOs : List (Nat × Option SO) -> List (Nat × SO)
 | [] => []
 | (i, some o) :: l => (i, o) :: someOs l
 | (_, none) :: l => someOs l
def idLow (m : Nat) : List (Nat × Option Nat) -> Bool
 | [] => true
 | (i, some j) :: l => match Nat.blt i m with | true => (match Nat.beq i j with | true => idLow m l | false => false) | false => idLow m l
 | (i, none) :: l => match Nat.blt i m with | true => false | false => idLow m l
def endRT (m nx : Nat) (ρ : Ren) : RT :=
 match notBor ρ ρ.bor, keysLt nx ρ.m, idLow m ρ.m with
 | true, true, true => .done none [] 0
 | _, _, _ => .fail
def idL : Nat -> List (Nat × Option Nat)
 | 0 => []
 | m + 1 => (m, some m) :: idL m
theorem idL_look : ∀ {m i : Nat} {q : Option Nat}, look i (idL m) = some q -> q = some i
 | 0, i, q, h => by simp [idL, look] at h
 | m + 1, i, q, h => by
   simp only [idL] at h
   rw [look_cons] at h
   split at h
   . rename_i e; subst e; cases h; rfl
   . exact idL_look h
theorem idL_inj (m : Nat) : (⟨idL m, []⟩ : Ren).inj := fun i i' j h h' => by
 have a := idL_look h
 have b := idL_look h'
 rw [a] at b
 exact Option.some.inj b
def weakRT (m : Nat) (s' : St) : RT :=
 match Nat.ble m s'.nx with
 | true => mTs ⟨idL m, []⟩ s'.t fun ρ => mObjs ρ (someOs s'.o) fun ρ => endRT m s'.nx ρ
 | false => .fail
def Weak (m : Nat) (s s' : St) : Prop := (weakRT m s').vc (gtOf s.t) (goOf s.o) [] fun _ _ _ _ => True
theorem mTs_inv {gt : GT} {go : GO} : ∀ (l : List (Nat × SV)) {ρ : Ren} {f : Ren -> RT} {R v os k}, (mTs ρ l f).Runs gt go R v os k -> ∃ ρ' R', (f ρ').Runs gt go R' v os k ∧ ρ.le ρ' ∧ (ρ.inj -> ρ'.inj) ∧
 ∀ t p, (t, p) ∈ l -> ∃ c, gt t = some c ∧ ∀ ρ2, ρ'.le ρ2 -> ∀ {β own S w Sp}, Fit go ρ2 β own S w Sp -> ∀ sp x, rel β w S c x -> rel (bOf ρ2 β sp) w Sp p x
  | [], ρ, f, R, v, os, k, h => ⟨ρ, _, h, .refl _, id, fun _ _ h => by cases h⟩
  | (t, p) :: l, ρ, f, R, v, os, k, h => by
    simp only [mTs] at h
    cases h with
    | rT h =>
      dsimp only at h
      split at h
      . cases h
      . rename_i c hc
        obtain ⟨ρ1, R1, h, l1, i1, m1⟩ := mSV_inv _ h
        obtain ⟨ρ2, R2, h, l2, i2, m2⟩ := mTs_inv l h
        refine ⟨ρ2, R2, h, l1.trans l2, fun e => i2 (i1 e), fun t' p' hp => ?_⟩
        rcases List.mem_cons.1 hp with e | hp
        . cases e
          exact ⟨c, hc, fun ρ3 l3 => m1 ρ3 (l2.trans l3)⟩
        . exact m2 t' p' hp
theorem idLow_iff {m : Nat} : ∀ {l : List (Nat × Option Nat)}, idLow m l = true -> ∀ i q, i < m -> look i l = some q -> q = some i
 | [], _, i, q, _, h => by simp [look] at h
 | (k, some j) :: l, h, i, q, hi, e => by
   simp only [idLow] at h
   rw [look_cons] at e
   by_cases hk : k = i
   . subst hk
     rw [if_pos rfl] at e
     have : Nat.blt k m = true := by rw [Nat.blt_eq]; exact hi
     rw [this] at h
     simp only at h
     split at h
     . rename_i hj
       rw [<- Option.some.inj e, Nat.eq_of_beq_eq_true hj]
     . cases h
   . rw [if_neg hk] at e
     have h' : idLow m l = true := by
      split at h
      . split at h
        . exact h
        . cases h
      . exact h
     exact idLow_iff h' i q hi e
 | (k, none) :: l, h, i, q, hi, e => by
   simp only [idLow] at h
   rw [look_cons] at e
   split at h
   . cases h
   . rename_i hk
     by_cases hk' : k = i
     . subst hk'
       have : Nat.blt k m = true := by rw [Nat.blt_eq]; exact hi
       rw [this] at hk; cases hk
     . rw [if_neg hk'] at e
       exact idLow_iff h i q hi e
theorem endRT_inv {gt : GT} {go : GO} {m nx : Nat} {ρ : Ren} {R v os k} (h : (endRT m nx ρ).Runs gt go R v os k) :
 notBor ρ ρ.bor = true ∧ keysLt nx ρ.m = true ∧ idLow m ρ.m = true := by
  unfold endRT at h
  split at h
  . rename_i h1 h2 h3; exact ⟨h1, h2, h3⟩
  . cases h
theorem someOs_look : ∀ {l : List (Nat × Option SO)} {i : Nat} {o : SO}, goOf l i = some o -> look i (someOs l) = some o
 | [], i, o, h => by simp [goOf, look] at h
 | (k, some x) :: l, i, o, h => by
   simp only [goOf, look_cons] at h
   simp only [someOs]
   rw [look_cons]
   by_cases hk : k = i
   . rw [if_pos hk] at h ⊢; exact h
   . rw [if_neg hk] at h ⊢; exact someOs_look h
 | (k, none) :: l, i, o, h => by
   simp only [goOf, look_cons] at h
   simp only [someOs]
   by_cases hk : k = i
   . rw [if_pos hk] at h; cases h
   . rw [if_neg hk] at h; exact someOs_look h
theorem MemOk.sub {β own S w} {go go' : GO} (h : MemOk β own S go w) (hs : ∀ i o, go' i = some o -> go i = some o) : MemOk β own S go' w := by
 have hsome : ∀ i, (go' i).isSome -> (go i).isSome := fun i hi => by
  obtain ⟨o, ho⟩ := Option.isSome_iff_exists.1 hi
  simp [hs i o ho]
 exact ⟨fun i o e => h.obj i o (hs i o e), fun i j b hne hi hj => h.sep i j b hne (hsome i hi) (hsome j hj), fun i b hi => h.st i b (hsome i hi), h.sz⟩
def spOf (l : List (Nat × SO)) : Nat -> Nat := fun i =>
 match look i l with
 | some (.vec s _) => s
 | some (.arr s _) => s
 | _ => 0
theorem matched {C : Ctx} {gt : GT} {go : GO} {β own S a w} (H : Holds C gt go β own S a w) {ρ : Ren} (hinj : ρ.inj) (l : List (Nat × SO)) (hl : ∀ p ∈ l, OIs go ρ p.1 p.2)
 (hb : notBor ρ ρ.bor = true) : MemOk (bOf ρ β (spOf l)) (ownOf ρ own) (fun b => S b ∨ lent go ρ own b) (fun i => look i l) w ∧
  (∀ i b, (look i l).isSome -> ownOf ρ own i b -> ∃ j, (go j).isSome ∧ own j b) ∧ (∀ b, lent go ρ own b -> ∃ j, (go j).isSome ∧ own j b) := by
  refine ⟨match_mem H.mem hinj l hl (fun i j e hj => notBor_iff hb j hj i e) (fun i o e e' r s ho hr => ?_), fun i b hi hb => ?_, fun b ⟨j, _, h1, h2⟩ => ⟨j, h1, h2⟩⟩
  . subst ho
    simp only [spOf, e]
    cases r <;> rfl
  . obtain ⟨o, ho⟩ := Option.isSome_iff_exists.1 hi
    rcases hl _ (look_mem ho) with ⟨j, c, h1, h2, _⟩ | ⟨h1, _⟩
    . simp only [ownOf, h1] at hb
      exact ⟨j, by simp [h2], hb⟩
    . simp [ownOf, h1] at hb
theorem Weak.holds {C : Ctx} {s s' : St} (h : Weak C.m0 s s') {β own S a w} (H : HoldsS C s β own S a w) : ∃ β' own' S', HoldsS C s' β' own' S' a w := by
 obtain ⟨R, v, os, k, h, _⟩ := RT.runs_of_vc _ _ _ h
 unfold weakRT at h
 split at h
 case h_2 => cases h
 rename_i hm0
 have hm0 : C.m0 ≤ s'.nx := by simpa using hm0
 obtain ⟨ρ1, R1, h, l1, i1, m1⟩ := mTs_inv _ h
 obtain ⟨ρ2, R2, h, l2, i2, m2⟩ := mObjs_inv _ h
 obtain ⟨h1, h2, h3⟩ := endRT_inv h
 have hinj : ρ2.inj := i2 (i1 (idL_inj _))
 obtain ⟨hmem, hown, hlent⟩ := matched H.h hinj _ m2 h1
 refine ⟨bOf ρ2 β (spOf (someOs s'.o)), ownOf ρ2 own, fun b => S b ∨ lent (goOf s.o) ρ2 own b, ⟨fun t p e => ?_, hmem.sub (fun i o e => someOs_look e), H.h.fr, fun id b hi hb => ?_, fun b hb => .inl (H.h.s0 b hb), fun b hb => ?_, H.h.n, ?_, fun g s e => rel_ext ⟨fun _ _ e => e, fun _ e => .inl e, fun _ _ => rfl⟩ _ _ (H.h.gl g s e)⟩,
  fun i hi => by simp [bOf, keysLt_iff h2 i hi], hm0, fun i B hi e => ?_⟩
 . obtain ⟨c, hc, hr⟩ := m1 t p (look_mem e)
   exact hr ρ2 l2 (fit_of H.h.mem) _ _ (H.h.tm t c hc)
 . obtain ⟨o, ho⟩ := Option.isSome_iff_exists.1 hi
   obtain ⟨j, q1, q2⟩ := hown id b (by rw [someOs_look ho]; rfl) hb
   exact H.h.own0 j b q1 q2
 . rcases hb with hb | hb
   . exact H.h.s1 b hb
   . obtain ⟨j, q1, q2⟩ := hlent b hb
     exact .inr (H.h.own0 j b q1 q2)
 . obtain ⟨hdf, hms⟩ := H.h.df
   refine ⟨⟨hdf.nd, fun d hd => ?_⟩, hms⟩
   obtain ⟨D, e1, e2, e3, e4, e5⟩ := hdf.at_ d hd
   refine ⟨D, e1, e2, e3, fun e => ?_, fun id hi hb => ?_⟩
   . rcases e with e | e
     . exact e4 e
     . obtain ⟨j, q1, q2⟩ := hlent D e
       exact e5 j q1 q2
   . obtain ⟨o, ho⟩ := Option.isSome_iff_exists.1 hi
     obtain ⟨j, q1, q2⟩ := hown id D (by rw [someOs_look ho]; rfl) hb
     exact e5 j q1 q2
 . simp only [bOf] at e
   split at e
   . rename_i j hj
     have := idLow_iff h3 i _ hi hj
     cases this
     exact H.b0 i B hi e
   . rename_i hj
     have := idLow_iff h3 i _ hi hj
     cases this
   . cases e
def Ex.blk (id : Nat) (K : Ex -> St -> Prop) : Ex -> St -> Prop
 | .nrm, s => K .nrm s
 | .exit i, s => match Nat.beq i id with | true => K .nrm s | false => K (.exit i) s
 | .ret, s => K .ret s
 | .pan v, s => K (.pan v) s
abbrev Rn := St -> (Ex -> St -> Prop) -> Prop
def Join (m : Nat) (A B : Rn) (s : St) (K : Ex -> St -> Prop) : JAnn -> Prop
 | .plain => A s (Ex.then (fun s' => B s' K) K)
 | .cut _ I inv => A s (Ex.then (fun s' => ∃ c, Weak m s' (inv c) ∧ Sd (I c)) K) ∧ ∀ c, I c -> B (inv c) K
def Rounds (A : Rn) (K : Ex -> St -> Prop) : Nat -> St -> Prop
 | 0, _ => False
 | k + 1, s => A s (Ex.then (Rounds A K k) K)
def Loop (m : Nat) (A : Rn) (s : St) (K : Ex -> St -> Prop) : LAnn -> Prop
 | .inv _ I inv μ => ∃ c0, Weak m s (inv c0) ∧ Sd (I c0 c0) ∧ ∀ c, I c0 c -> A (inv c) (Ex.then (fun s' => ∃ c', Weak m s' (inv c') ∧ Sd (I c0 c' ∧ μ c' < μ c)) K)
 | .rounds k => Rounds A K k s
def condVc (E : Env) (x : X) (s : St) (A B : Prop) : Prop :=
 match rdX s.t x with
 | some .tt => A
 | some .ff => B
 | some (.bool b) => (b = true -> A) ∧ (b = false -> B)
 | some (.pr p) => (p -> A) ∧ (¬ p -> B)
 | _ => False
def bindPs (N : Nat) : List Nat -> List SV -> List (Nat × SV) -> (List (Nat × SV) -> Prop) -> Prop
 | [], [], t, K => K t
 | p :: ps, v :: vs, t, K => match Nat.blt p N with | true => fSV v fun v => bindPs N ps vs ((p, v) :: t) K | false => False
 | _, _, _, _ => False
def rdRec (o : List (Nat × Option SO)) (id l : Nat) (r : _root_.Go.Loop) (busy : Bool) (K : Prop) : Prop :=
 match goOf o id with
 | some (.lrec l' r' e) => match e, busy with
   | .ready, false => Sd (l' = l ∧ r' = r) ∧ K
   | .busy, true => Sd (l' = l ∧ r' = r) ∧ K
   | _, _ => False
 | _ => False
def rngB (id l : Nat) (r : _root_.Go.Loop) (K : Bool -> List (Nat × Option SO) -> Nat -> Prop) (ex : Ex) (s : St) : Prop :=
 match s with
 | ⟨_, o, nx⟩ => rdRec o id l r true (match ex with
   | .nrm => K true ((id, some (.lrec l r .ready)) :: o) nx
   | .ret => K false ((id, some (.lrec l r (.done .ret))) :: o) nx
   | .exit i => K false ((id, some (.lrec l r (.done (.exit i)))) :: o) nx
   | .pan _ => False)
def rngA (id l : Nat) (r : _root_.Go.Loop) (B : Rn) (K : Bool -> List (Nat × Option SO) -> Nat -> Prop) (s : St) : Prop :=
 match s with
 | ⟨t, o, nx⟩ => rdRec o id l r false (B ⟨t, (id, some (.lrec l r .busy)) :: o, nx⟩ (rngB id l r K))
def rngY (E : Env) (ps : List Nat) (t0 : List (Nat × SV)) (id l : Nat) (r : _root_.Go.Loop) (A B : Env -> Rn) (vs : List SV) (o : List (Nat × Option SO)) (nx : Nat) (K : Bool -> List (Nat × Option SO) -> Nat -> Prop) : Prop :=
 rdRec o id l r false (bindPs E.N ps vs t0 fun t => fNat nx fun nx =>
  A { E with rnd := some l, m0 := nx, Y := none } ⟨t, o, nx⟩ (Ex.then (rngA id l r (B { E with rnd := some l, m0 := nx, Y := none }) K) fun _ _ => False))
def rngK (id : Nat) (t0 : List (Nat × SV)) (K : Ex -> St -> Prop) (ex : Ex) (s : St) : Prop :=
 match s with
 | ⟨_, o, nx⟩ => match (match ex with | .nrm => true | .ret => true | _ => false) with
   | false => False
   | true => match goOf o id with
     | some (.lrec _ _ e) => match e with
       | .ready => K .nrm ⟨t0, (id, none) :: o, nx⟩
       | .done (.ret) => K .ret ⟨t0, (id, none) :: o, nx⟩
       | .done (.exit i) => K (.exit i) ⟨t0, (id, none) :: o, nx⟩
       | _ => False
     | _ => False
def run (E : Env) : MC -> Rn
 | .skip, s, K => K .nrm s
 | .reg l, s, K => runOpsY E l s K
 | .drw l pre, s, K => runD E l s [] fun es s' => Sd (noConf pre es = true) ∧ K .nrm s'
 | .seq a b, s, K => run E a s (Ex.then (fun s => run E b s K) K)
 | .join n a b, s, K => Join E.m0 (run E a) (run E b) s K (E.J n)
 | .cond x a b, s, K => condVc E x s (run E a s K) (run E b s K)
 | .blk id a, s, K => run E a s (Ex.blk id K)
 | .loop n a, s, K => Loop E.m0 (run E a) s K (E.L n)
 | .exit id, s, K => K (.exit id) s
 | .ret, s, K => K .ret s
 | .gh g a, s, K => ghVc g s fun s => run E a s K
 | .rng f ps a b n N it, s, K => match s with
   | ⟨t, o, nx⟩ => match E.rnd with
     | some _ => False
     | none => match rdX t f with
       | some (.fn (.func n') fa fc) => match Nat.beq n' n, Nat.ble (fa.length + 1 + fc.length) N with
         | true, true => ∀ (l : Nat) (r : _root_.Go.Loop), fSVs (fa ++ .fn (.yield l) [] [] :: fc) fun args => fNat (nx + 1) fun nx1 =>
           run { E with N := N, m0 := nx1, L := fun i => E.L (100 + i), J := fun i => E.J (100 + i), Y := some ⟨l, rngY E ps t nx l r (fun E => run E a) (fun E => run E b)⟩ } it ⟨idxd args 0, (nx, some (.lrec l r .ready)) :: o, nx1⟩ (rngK nx t K)
         | _, _ => False
       | _ => False
structure RegOk (C : Ctx) (ops : Array Oper) (ms : List MOp) : Prop where
 len : ops.size = ms.length
 ok : ∀ t (_ : t < ops.size) (h' : t < ms.length), ∃ o, ops[t]? = some o ∧ MOpOk C ops o ms[t]
structure DrwOk (ops : Array Oper) (pre : List (List Nat)) : Prop where
 ok : ∀ j o, ops[j]? = some o -> ∀ p, p ∈ pre.getD j [] ↔ ∃ e ∈ o.after, Region.binds .any e = true ∧ e.on = p
 lt : ∀ j p, p ∈ pre.getD j [] -> p < j
inductive McOk (P : Program) : Code -> MC -> Prop
 | skip : McOk P .skip .skip
 | reg {id ops ms} (h : ∀ C : Ctx, C.P = P -> RegOk C ops ms) : McOk P (.region id ops false) (.reg ms)
 | drw {id ops ms pre} (h : ∀ C : Ctx, C.P = P -> RegOk C ops ms) (hd : DrwOk ops pre) : McOk P (.region id ops true) (.drw ms pre)
 | seq {a b a' b'} (h1 : McOk P a a') (h2 : McOk P b b') : McOk P (.seq a b) (.seq a' b')
 | join {n a b a' b'} (h1 : McOk P a a') (h2 : McOk P b b') : McOk P (.seq a b) (.join n a' b')
 | cond {x a b a' b'} (h1 : McOk P a a') (h2 : McOk P b b') : McOk P (.cond x a b) (.cond (cX x) a' b')
 | blk {id a a'} (h : McOk P a a') : McOk P (.block id a) (.blk id a')
 | loop {n a a'} (h : McOk P a a') : McOk P (.loop a) (.loop n a')
 | exit {id} : McOk P (.exit id) (.exit id)
 | ret : McOk P .ret .ret
 | rng {f ps a b a' b' n N it fn code} (h1 : McOk P a a') (h2 : McOk P b b') (hf : P.funcs[n]? = some fn) (hb : fn.body = some code) (hN : fn.ntmps = N) (hr : fn.results = #[])
  (he : Enters P n) (h3 : McOk P code it) : McOk P (.rangeFunc f ps a b) (.rng (cX f) ps.toList a' b' n N it)
 | gh {g a a'} (h : McOk P a a') : McOk P a (.gh g a')
inductive LoopEnds (F : Fence) (n : Nat) (P : Program) (c : Code) (Q : Exit -> Act -> World -> Prop) : Act -> World -> Prop
 | mk {a w} (W : Act -> World -> Prop) (h : c.wpIn F n P (Exit.then W Q) a w) (hw : ∀ a' w', W a' w' -> LoopEnds F n P c Q a' w') : LoopEnds F n P c Q a w
theorem LoopEnds.wp {F : Fence} {n : Nat} {P : Program} {c : Code} {Q : Exit -> Act -> World -> Prop} {a : Act} {w : World} (h : LoopEnds F n P c Q a w) : (Code.loop c).wpIn F n P Q a w := by
 intro b k cs hro hb hr
 have key : ∃ e a' w', Q e a' w' ∧ ArrivesIn (Machine.fenced P F) P (lone (b.atR a (.code c :: .inLoop c :: k)) cs w) b k cs e a' w' := by
  induction h with
  | mk W h hw ih =>
    obtain ⟨e, a₁, w₁, hq, harr⟩ := h b (.inLoop c :: k) cs hro hb hr
    cases e with
    | normal =>
      obtain ⟨e₂, a₂, w₂, hq₂, harr₂⟩ := ih a₁ w₁ hq
      exact ⟨e₂, a₂, w₂, hq₂, .of_steps (StepsIn.trans harr (.one (fenced_calm hb hr rfl) stepR_inLoop)) harr₂⟩
    | exit id => exact ⟨_, a₁, w₁, hq, .pass (x := .inLoop c) rfl (fun _ _ => .inl (by simp)) harr⟩
    | goto l => exact ⟨_, a₁, w₁, hq, .pass (x := .inLoop c) rfl (fun _ _ => .inl (by simp)) harr⟩
    | ret => exact ⟨_, a₁, w₁, hq, .pass (x := .inLoop c) rfl (fun _ _ => .inl (by simp)) harr⟩
    | panic ch => exact ⟨_, a₁, w₁, hq, .pass (x := .inLoop c) rfl (fun _ _ => .inl (by simp)) harr⟩
    | outgrown => exact ⟨_, a₁, w₁, hq, .pass (x := .inLoop c) rfl (fun _ _ => .inl (by simp)) harr⟩
 obtain ⟨e, a', w', hq, harr⟩ := key
 exact ⟨e, a', w', hq, .of_steps (.one (fenced_calm hb hr rfl) stepR_loop) harr⟩
theorem post_then {C : Ctx} {f : St -> Prop} {K : Ex -> St -> Prop} {W : Act -> World -> Prop} {Q : Exit -> Act -> World -> Prop} (hf : ∀ s β own S a w, f s -> HoldsS C s β own S a w -> W a w)
 (hQ : ∀ e a w, post C K e a w -> Q e a w) : ∀ e a w, post C (Ex.then f K) e a w -> Exit.then W Q e a w := by
  intro e a w hp
  cases e with
  | normal => obtain ⟨s, β, own, S, h1, h2⟩ := hp; exact hf s β own S a w h1 h2
  | exit i => exact hQ (.exit i) a w hp
  | ret => exact hQ .ret a w hp
  | goto l => exact hp.elim
  | panic c => exact hQ (.panic c) a w hp
  | outgrown => exact hp.elim
theorem runOpsY_ok {C : Ctx} (hY : ∀ y, C.Y = some y -> YOk C y) {ops : Array Oper} : ∀ (l : List Nat) (ms : List MOp) {s : St} {K : Ex -> St -> Prop}, l.length = ms.length →
 (∀ t (h : t < l.length) (h' : t < ms.length), ∃ o, ops[l[t]]? = some o ∧ MOpOk C ops o ms[t]) -> runOpsY C.toEnv ms s K -> ∀ {β own S a w}, HoldsS C s β own S a w →
 wpOpsIn (Wf C.rnd) 0 C.P ops (post C K) l a w
  | [], ms, s, K, hl, _, h, β, own, S, a, w, H => by
    have : ms = [] := by simpa using hl.symm
    subst this
    exact ⟨s, β, own, S, h, H⟩
  | i :: l, ms, s, K, hl, hp, h, β, own, S, a, w, H => by
    cases ms with
    | nil => simp at hl
    | cons m ms =>
      obtain ⟨o, ho, hm⟩ := hp 0 (by simp) (by simp)
      simp at ho hm
      simp only [runOpsY] at h
      simp only [wpOpsIn, ho]
      have key := opVcY_ok (Q := post C K) (next := wpOpsIn (Wf C.rnd) 0 C.P ops (post C K) l) hY hm h H (fun s' β' own' S' a' w' hk H' =>
       runOpsY_ok hY l ms (by simpa using hl) (fun t ht ht' => hp (t + 1) (Nat.succ_lt_succ ht) (Nat.succ_lt_succ ht')) hk H')
       (fun v x s' β' own' S' a' w' hk H' hx => ⟨s', β', own', S', v, x, rfl, hk, H', hx⟩)
      split
      . rename_i hw; rw [if_pos hw] at key; exact key
      . rename_i hw; rw [if_neg hw] at key; exact ⟨fun _ _ => trivial, key⟩
theorem gtAt_no (D : Nat -> Bool) (hD : ∀ i, D i = false) : ∀ (es : List Ent) (i0 : Nat) (gt : GT), gtAt D gt es i0 = gt
 | [], _, _ => rfl
 | e :: es, i0, gt => by simp only [gtAt, hD]; exact gtAt_no D hD es _ _
theorem goAt_no (D : Nat -> Bool) (hD : ∀ i, D i = false) : ∀ (es : List Ent) (i0 : Nat) (go : GO), goAt D go es i0 = go
 | [], _, _ => rfl
 | e :: es, i0, go => by simp only [goAt, hD]; exact goAt_no D hD es _ _
theorem rdRec_inv {o : List (Nat × Option SO)} {id l : Nat} {r : _root_.Go.Loop} {busy : Bool} {K : Prop} (h : rdRec o id l r busy K) : goOf o id = some (.lrec l r (match busy with | true => .busy | false => .ready)) ∧ K := by
 unfold rdRec at h
 split at h
 . rename_i l' r' e hg
   split at h
   . obtain ⟨⟨h1, h2⟩, h3⟩ := h; subst h1; subst h2; exact ⟨hg, h3⟩
   . obtain ⟨⟨h1, h2⟩, h3⟩ := h; subst h1; subst h2; exact ⟨hg, h3⟩
   . exact h.elim
 . exact h.elim
def setPs (l : List (Nat × Value)) (tmps : Array Value) : Array Value := l.foldl (fun tm p => tm.setIfInBounds p.1 p.2) tmps
theorem setPs_size : ∀ (l : List (Nat × Value)) (tmps : Array Value), (setPs l tmps).size = tmps.size
 | [], _ => rfl
 | p :: l, tmps => by
   have := setPs_size l (tmps.setIfInBounds p.1 p.2)
   simp only [setPs, List.foldl] at this ⊢
   rw [this]; simp
theorem bindPs_inv {N : Nat} : ∀ {ps : List Nat} {vs : List SV} {t : List (Nat × SV)} {K : List (Nat × SV) -> Prop}, bindPs N ps vs t K -> ps.length = vs.length ∧ ∃ t', K t' ∧
 ∀ {β w S xs} {tmps : Array Value}, relL β w S vs xs -> tmps.size = N -> (∀ i v, look i t = some v -> rel β w S v (tmps.getD i undef)) -> ∀ i v, look i t' = some v -> rel β w S v ((setPs (ps.zip xs) tmps).getD i undef)
  | [], [], t, K, h => ⟨rfl, t, h, fun _ _ ht => by simpa [setPs] using ht⟩
  | [], _ :: _, t, K, h => by simp [bindPs] at h
  | _ :: _, [], t, K, h => by simp [bindPs] at h
  | p :: ps, v :: vs, t, K, h => by
    simp only [bindPs] at h
    split at h
    . rename_i hb
      rw [fSV_eq] at h
      have hlt : p < N := by rw [Nat.blt_eq] at hb; exact hb
      obtain ⟨h1, t', h2, h3⟩ := bindPs_inv h
      refine ⟨by simp [h1], t', h2, fun {β w S xs tmps} hx hs ht => ?_⟩
      simp only [relL] at hx
      obtain ⟨y, ys, rfl, hy, hys⟩ := hx
      have := h3 (tmps := tmps.setIfInBounds p y) hys (by simpa using hs) (fun i u hu => by
       rw [look_cons] at hu
       rw [Array.getD_eq_getD_getElem?, Array.getElem?_setIfInBounds]
       by_cases e : p = i
       . subst e
         rw [if_pos rfl] at hu ⊢
         cases hu
         rw [if_pos (by omega)]
         exact hy
       . rw [if_neg e] at hu ⊢
         have := ht i u hu
         rwa [Array.getD_eq_getD_getElem?] at this)
      simpa [setPs] using this
    . exact h.elim
theorem lrec_at {C : Ctx} {s : St} {β own S a w} (H : HoldsS C s β own S a w) {id l : Nat} {r : _root_.Go.Loop} {e : LSt} (hg : goOf s.o id = some (.lrec l r e)) :
 ∃ B, β id = some B ∧ B.blk = some l ∧ own id = one1 l ∧ w.heap[l]? = some (.loop (lrecOf r e)) := by
  obtain ⟨B, h1, h2, h3, h4⟩ := H.h.mem.obj _ _ hg
  exact ⟨B, h1, h2, h3, h4⟩
theorem lrec_set {C : Ctx} {s : St} {β own S a w} (H : HoldsS C s β own S a w) {id l : Nat} {r : _root_.Go.Loop} {e : LSt} (hg : goOf s.o id = some (.lrec l r e)) (e' : LSt) :
 HoldsS C ⟨s.t, (id, some (.lrec l r e')) :: s.o, s.nx⟩ β own S a (w.putObj l (.loop (lrecOf r e'))) := by
  obtain ⟨B, h1, h2, h3, h4⟩ := lrec_at H hg
  have hlt := (Array.getElem?_eq_some_iff.1 h4).1
  refine ⟨?_, H.fresh, H.m0, H.b0⟩
  simp only [goOf_cons]
  have := H.h.set hg (w' := w.putObj l (.loop (lrecOf r e'))) (o := .lrec l r e') h1 (by simp) (fun b hb => World.putObj_heap_other (fun q => hb (by rw [h3, q]; rfl))) rfl rfl rfl (fun x => ⟨h2, h3, World.putObj_heap_same hlt⟩)
   none undef none (fun d s e => by cases e) (fun _ => .inl rfl)
  exact this
theorem rngY_ok {P : Program} {C C1 : Ctx} {a' b' : MC} {assign body : Code} (hPC : C.P = P) (hPC1 : C1.P = P) (hG : C1.G = C.G) (hr1 : C1.rnd = none)
 (ihA : ∀ {C : Ctx}, C.P = P -> (∀ y, C.Y = some y -> YOk C y) -> ∀ {s : St} {K : Ex -> St -> Prop}, run C.toEnv a' s K -> ∀ {β own S a w}, HoldsS C s β own S a w -> assign.wpIn (Wf C.rnd) 0 C.P (post C K) a w)
 (ihB : ∀ {C : Ctx}, C.P = P -> (∀ y, C.Y = some y -> YOk C y) -> ∀ {s : St} {K : Ex -> St -> Prop}, run C.toEnv b' s K -> ∀ {β own S a w}, HoldsS C s β own S a w -> body.wpIn (Wf C.rnd) 0 C.P (post C K) a w)
 {t0 : List (Nat × SV)} {id : Nat} (hm0 : C1.m0 = id + 1) (hβ1 : ∀ i, id + 1 ≤ i -> C1.β0 i = none) {tmps : Array Value} (hsz : tmps.size = C.N)
 (ht0 : ∀ i v, look i t0 = some v -> rel C1.β0 C1.w0 C1.S0 v (tmps.getD i undef)) (hS0 : ∀ b, C1.S0 b -> b < C1.w0.heap.size ∧ ¬ C1.X0 b)
 {l D : Nat} {ps : Array Nat} {fn : FuncId} : 
 YOk C1 ⟨l, rngY C.toEnv ps.toList t0 id l { state := .ready, pending := none, fn, tmps, params := ps, assign, body, defers := D } (fun E => run E a') (fun E => run E b')⟩ := by
  subst hPC
  generalize hrec : ({ state := .ready, pending := none, fn, tmps, params := ps, assign, body, defers := D } : _root_.Go.Loop) = r
  intro vs t o nx K hy β2 own2 S2 a2 w2 xs H2 hxs
  simp only [rngY] at hy
  obtain ⟨hg, hy⟩ := rdRec_inv hy
  obtain ⟨hlen, t', hy, htmp⟩ := bindPs_inv hy
  rw [fNat_eq] at hy
  obtain ⟨B, q1, q2, q3, q4⟩ := lrec_at H2 hg
  have hr0 : lrecOf r .ready = r := by rw [<- hrec]; rfl
  simp only at q4
  rw [hr0] at q4
  have hxl := relL_length _ _ hxs
  have hyr := run_yield (P := C1.P) (args := xs.toArray) q4 (by rw [<- hrec]; simp at hlen ⊢; omega)
  refine ⟨fn, setPs (ps.toList.zip xs) tmps, assign, body, ?_, ?_⟩
  . rw [hyr]
    have : (r.params.zip xs.toArray).foldl (fun tmps (x : Nat × Value) => match x with | (t, a) => tmps.setIfInBounds t a) r.tmps = setPs (ps.toList.zip xs) tmps := by
     rw [<- Array.foldl_toList, <- hrec]
     simp only [Array.toList_zip, List.toList_toArray, setPs]
    rw [<- this, <- hrec]
  . -- the round's own frame
    have m2 : C1.m0 ≤ nx := H2.m0
    let βp : Nat -> Option Base := fun i => if i < id + 1 then C1.β0 i else β2 i
    have hβp : ∀ i B, β2 i = some B -> βp i = some B := fun i B e => by
     simp only [βp]
     by_cases h : i < id + 1
     . rw [if_pos h]; exact H2.b0 i B (by omega) e
     . rw [if_neg h]; exact e
    have hβ0 : ∀ i B, C1.β0 i = some B -> βp i = some B := fun i B e => by
     simp only [βp]
     by_cases h : i < id + 1
     . rw [if_pos h]; exact e
     . rw [hβ1 i (by omega)] at e; cases e
    have hfresh : ∀ i, nx ≤ i -> βp i = none := fun i hi => by
     simp only [βp]; rw [if_neg (by omega)]; exact H2.fresh i hi
    let C2 : Ctx := { toEnv := { C.toEnv with rnd := some l, m0 := nx, Y := none }, sok := C.sok, psok := C.psok, w0 := w2, X0 := owned (goOf o) own2, S0 := S2, β0 := βp }
    have x0 : Ext C1.β0 C1.w0 C1.S0 βp w2 S2 := ⟨hβ0, H2.h.s0, fun b hb => H2.h.fr.block b (hS0 b hb).1 (hS0 b hb).2⟩
    have hA : HoldsS C2 ⟨t', o, nx⟩ βp own2 S2 { tmps := setPs (ps.toList.zip xs) tmps, defers := [] } w2 := by
     refine ⟨⟨?_, H2.h.mem.widen hβp, Fr.refl _ _, fun i b h1 h2 => .inl ⟨i, h1, h2⟩, fun _ e => e, fun _ e => .inl e, ?_, ⟨⟨by simp [mks], fun d hd => by simp [mks] at hd⟩, rfl⟩, ?_⟩, hfresh, Nat.le_refl _, fun i B _ e => e⟩
     . exact htmp (relL_ext ⟨hβp, fun _ e => e, fun _ _ => rfl⟩ _ _ hxs) hsz (fun i v e => rel_ext x0 _ _ (ht0 i v e))
     . show (setPs _ _).size = C.N
       rw [setPs_size]; exact hsz
     . intro g s e
       exact H2.h.gl g s (by rw [hG]; exact e)
    have hY2 : ∀ y, C2.Y = some y -> YOk C2 y := fun y e => by cases e
    have back : ∀ (e : LSt) s3 β3 own3 S3 a3 w3, HoldsS C2 s3 β3 own3 S3 a3 w3 -> goOf s3.o id = some (.lrec l r .busy) →
     ∃ β4, HoldsS C1 ⟨t, (id, some (.lrec l r e)) :: s3.o, s3.nx⟩ β4 own3 S3 a2 (w3.putObj l (.loop (lrecOf r e))) := by
      intro e s3 β3 own3 S3 a3 w3 H3 hg3
      have H4 := lrec_set H3 hg3 e
      obtain ⟨β4, b1, b2, b3, H5⟩ := nest_back (H2.h.widen hβp) H4 rfl rfl rfl (fun i B e => e) hfresh
      refine ⟨β4, H5, b3, Nat.le_trans m2 H3.m0, fun i B hi e => ?_⟩
      rw [b2 i (Nat.lt_of_lt_of_le hi m2)] at e
      have hi' : i < id + 1 := by omega
      simp only [C2, βp, if_pos hi'] at e
      exact e
    rw [hr1, hPC1]
    refine roundIn_of_wpIn (F := Wf none) (n := 0) trivial ?_
    have wA := ihA (C := C2) rfl hY2 hy hA
    refine wpIn_mono wA (post_then (fun s2 β3 own3 S3 a3 w3 hf H3 => ?_) ?_)
    . simp only [rngA] at hf
      obtain ⟨hg3, hB⟩ := rdRec_inv hf
      obtain ⟨_, _, _, _, p4⟩ := lrec_at H3 hg3
      have hbr := run_beginRound (P := C.P) p4 (by rfl)
      refine ⟨_, hbr, ?_⟩
      have H4 := lrec_set H3 hg3 .busy
      have hbe : ({ lrecOf r .ready with state := .busy } : _root_.Go.Loop) = lrecOf r .busy := rfl
      rw [hbe]
      have wB := ihB (C := C2) rfl hY2 hB H4
      refine wpIn_mono wB ?_
      have fin : ∀ (jump : Option Code) (e : LSt) s5 β5 own5 S5 a5 w5, HoldsS C2 s5 β5 own5 S5 a5 w5 -> goOf s5.o id = some (.lrec l r .busy) →
       ({ lrecOf r .busy with state := if jump.isNone then .ready else .done, pending := jump } : _root_.Go.Loop) = lrecOf r e -> K jump.isNone ((id, some (.lrec l r e)) :: s5.o) s5.nx →
       ∃ v w', (Instr.endRound l jump).run C.P w5 = .ok v w' ∧ ∃ b o' nx' β' own' S', Ending.returned v = .returned (.bool b) ∧ K b o' nx' ∧ HoldsS C1 ⟨t, o', nx'⟩ β' own' S' a2 w' := by
        intro jump e s5 β5 own5 S5 a5 w5 H5 hg5 he hk
        obtain ⟨_, _, _, _, u4⟩ := lrec_at H5 hg5
        have hen := run_endRound (P := C.P) jump u4
        rw [he] at hen
        obtain ⟨β6, H6⟩ := back e s5 β5 own5 S5 a5 w5 H5 hg5
        exact ⟨_, _, hen, _, _, _, _, _, _, rfl, hk, H6⟩
      intro ex a5 w5 hp
      cases ex with
      | normal =>
        obtain ⟨s5, β5, own5, S5, hk, H5⟩ := hp
        simp only [rngB] at hk
        obtain ⟨hg5, hk⟩ := rdRec_inv hk
        exact fin none .ready s5 β5 own5 S5 a5 w5 H5 hg5 rfl hk
      | ret =>
        obtain ⟨s5, β5, own5, S5, hk, H5⟩ := hp
        simp only [rngB] at hk
        obtain ⟨hg5, hk⟩ := rdRec_inv hk
        exact fin (some .ret) (.done .ret) s5 β5 own5 S5 a5 w5 H5 hg5 rfl hk
      | exit i =>
        obtain ⟨s5, β5, own5, S5, hk, H5⟩ := hp
        simp only [rngB] at hk
        obtain ⟨hg5, hk⟩ := rdRec_inv hk
        exact fin (some (.exit i)) (.done (.exit i)) s5 β5 own5 S5 a5 w5 H5 hg5 rfl hk
      | panic ch =>
        obtain ⟨s5, β5, own5, S5, v, x, _, hk, _⟩ := hp
        simp only [rngB] at hk
        exact (rdRec_inv hk).2.elim
      | goto i => exact hp.elim
      | outgrown => exact hp.elim
    . intro e a w hp
      cases e <;> simp only [post] at hp
      all_goals first | (obtain ⟨_, _, _, _, h, _⟩ := hp; exact h.elim) | (obtain ⟨_, _, _, _, _, _, _, h, _⟩ := hp; exact h.elim) | exact hp.elim
theorem run_ok {P : Program} (hmix : P.follows .mixedOrders = true) {code : Code} {mc : MC} (hmc : McOk P code mc) : ∀ {C : Ctx}, C.P = P -> (∀ y, C.Y = some y -> YOk C y) -> ∀ {s : St} {K : Ex -> St -> Prop}, run C.toEnv mc s K -> ∀ {β own S a w}, HoldsS C s β own S a w →
 code.wpIn (Wf C.rnd) 0 C.P (post C K) a w := by
  induction hmc with
  | skip => intro C hP hY s K h β own S a w H; exact wpIn_skip ⟨s, β, own, S, h, H⟩
  | exit => intro C hP hY s K h β own S a w H; exact wpIn_exit ⟨s, β, own, S, h, H⟩
  | ret => intro C hP hY s K h β own S a w H; exact wpIn_ret ⟨s, β, own, S, h, H⟩
  | reg hr =>
    intro C hP hY s K h β own S a w H
    have hr := hr C hP
    refine wpIn_region (runOpsY_ok hY (List.range _) _ (by simpa using hr.len) (fun t h1 h2 => ?_) h H)
    obtain ⟨o, h3, h4⟩ := hr.ok t (by simpa using h1) h2
    exact ⟨o, by simpa using h3, h4⟩
  | drw hr hd =>
    rename_i id ops ms pre
    intro C hP hY s K h β own S a w H
    simp only [run] at h
    have hr := hr C hP
    obtain ⟨es, s', hrun, ⟨hnc⟩, hk⟩ := runD_ok (List.range ops.size) ms (by simpa using hr.len) (fun t h1 h2 => by
     obtain ⟨o, h3, h4⟩ := hr.ok t (by simpa using h1) h2
     exact ⟨o, by simpa using h3, h4⟩) h
    simp only [List.nil_append] at hnc hk
    refine wpIn_region_any (by rw [hP]; exact hmix) ?_
    have f0 : ∀ i, (Array.replicate ops.size false).getD i false = false := fun i => by simp [Array.getD_eq_getD_getElem?, Array.getElem?_replicate]; split <;> rfl
    refine anyOrder hrun hnc hd.ok hd.lt (fun β' own' S' a' w' H' => ⟨s', β', own', S', hk, H'⟩) H.m0 H.b0 ops.size _ β own S a _ (by simp) (fun j p _ e => ?_) ?_ ?_ (fun id hid _ => H.fresh id hid) (fun _ _ => rfl)
    . have := f0 j; simp only at e; rw [this] at e; cases e
    . exact Nat.le_trans (List.length_filter_le _ _) (by simp)
    . rw [gtAt_no _ f0, goAt_no _ f0]
      have := H.h.pure (w' := { w with drawn := w.drawn + 1 }) rfl rfl rfl rfl none undef none (fun d s e => by cases e) (fun _ => .inl rfl)
      simpa [gtPut, Act.put] using this
  | seq _ _ ih1 ih2 =>
    intro C hP hY s K h β own S a w H
    simp only [run] at h
    exact wpIn_seq (wpIn_mono (ih1 hP hY h H) (post_then (fun s β own S a w hf H => ih2 hP hY hf H) (fun _ _ _ h => h)))
  | join _ _ ih1 ih2 =>
    intro C hP hY s K h β own S a w H
    simp only [run] at h
    rename_i n _ _ _ _ _ _
    cases hj : C.J n with
    | plain => rw [hj] at h; exact wpIn_seq (wpIn_mono (ih1 hP hY h H) (post_then (fun s β own S a w hf H => ih2 hP hY hf H) (fun _ _ _ h => h)))
    | cut γ I inv =>
    rw [hj] at h
    obtain ⟨h1, h2⟩ := h
    . refine wpIn_seq (wpIn_mono (ih1 hP hY h1 H) (post_then (fun s β own S a w hf H => ?_) (fun _ _ _ h => h)))
      obtain ⟨c, hw, ⟨hc⟩⟩ := hf
      obtain ⟨β', own', S', H'⟩ := hw.holds H
      exact ih2 hP hY (h2 c hc) H'
  | cond _ _ ih1 ih2 =>
    rename_i x ca cb ca' cb' _ _
    intro C hP hY s K h β own S a w H
    simp only [run, condVc] at h
    split at h
    . rename_i e
      have := rdX_inv H e
      simp only [rel] at this
      exact wpIn_cond_true this (ih1 hP hY h H)
    . rename_i e
      have := rdX_inv H e
      simp only [rel] at this
      exact wpIn_cond_false this (ih2 hP hY h H)
    . rename_i b e
      have := rdX_inv H e
      simp only [rel] at this
      exact wpIn_cond_split this (fun hb => ih1 hP hY (h.1 hb) H) (fun hb => ih2 hP hY (h.2 hb) H)
    . rename_i p e
      have := rdX_inv H e
      simp only [rel] at this
      obtain ⟨b, hb, hi⟩ := this
      exact wpIn_cond_split hb (fun e => ih1 hP hY (h.1 (hi.1 e)) H) (fun e => ih2 hP hY (h.2 (fun hp => by rw [hi.2 hp] at e; cases e)) H)
    . exact h.elim
  | gh _ ih =>
    intro C hP hY s K h β own S a w H
    simp only [run] at h
    obtain ⟨s', β', own', S', hk, H'⟩ := gh_ok h H
    exact ih hP hY hk H'
  | blk _ ih =>
    rename_i id ca ca' _
    intro C hP hY s K h β own S a w H
    simp only [run] at h
    refine wpIn_block (wpIn_mono (ih hP hY h H) fun e a w hp => ?_)
    cases e with
    | normal => exact hp
    | exit i =>
      obtain ⟨s, β, own, S, h1, h2⟩ := hp
      simp only [Ex.blk] at h1
      simp only [Exit.inBlock]
      by_cases hi : i = id
      . subst hi
        rw [if_pos rfl]
        simp at h1
        exact ⟨s, β, own, S, h1, h2⟩
      . rw [if_neg hi]
        have : Nat.beq i id = false := by cases e : Nat.beq i id with | false => rfl | true => exact absurd (Nat.eq_of_beq_eq_true e) hi
        rw [this] at h1
        exact ⟨s, β, own, S, h1, h2⟩
    | ret => exact hp
    | goto l => exact hp.elim
    | panic c => exact hp
    | outgrown => exact hp.elim
  | loop _ ih =>
    rename_i n ca ca' _
    intro C hP hY s K h
    simp only [run] at h
    have key : ∀ {β own S a w}, HoldsS C s β own S a w -> LoopEnds (Wf C.rnd) 0 C.P ca (post C K) a w := by
     cases hl : C.L n with
     | inv γ I inv μ =>
       rw [hl] at h
       obtain ⟨c0, hw0, ⟨hc0⟩, h1⟩ := h
       intro β own S a w H
       have go : ∀ (j : Nat) c, μ c = j -> I c0 c -> ∀ {β own S a w}, HoldsS C (inv c) β own S a w -> LoopEnds (Wf C.rnd) 0 C.P ca (post C K) a w := by
        intro j
        induction j using Nat.strongRecOn with
        | _ j ihj =>
          intro c hj hc β own S a w H
          refine .mk (fun a' w' => ∃ c', I c0 c' ∧ μ c' < μ c ∧ ∃ β own S, HoldsS C (inv c') β own S a' w') (wpIn_mono (ih hP hY (h1 c hc) H) (post_then (fun s β own S a w hf H => ?_) (fun _ _ _ h => h))) ?_
          . obtain ⟨c', h4, ⟨h2, h3⟩⟩ := hf
            obtain ⟨β', own', S', H'⟩ := h4.holds H
            exact ⟨c', h2, h3, β', own', S', H'⟩
          . rintro a' w' ⟨c', h2, h3, β', own', S', H'⟩
            exact ihj (μ c') (by omega) c' rfl h2 H'
       obtain ⟨β', own', S', H'⟩ := hw0.holds H
       exact go _ c0 rfl hc0 H'
     | rounds k =>
       rw [hl] at h
       have go : ∀ (k : Nat) (s : St), Rounds (run C.toEnv ca') K k s -> ∀ {β own S a w}, HoldsS C s β own S a w -> LoopEnds (Wf C.rnd) 0 C.P ca (post C K) a w := by
        intro k
        induction k with
        | zero => intro s h; exact h.elim
        | succ k ihk =>
          intro s h β own S a w H
          exact .mk (fun a' w' => ∃ s' β own S, Rounds (run C.toEnv ca') K k s' ∧ HoldsS C s' β own S a' w') (wpIn_mono (ih hP hY h H) (post_then (fun s β own S a w hf H => ⟨s, β, own, S, hf, H⟩) (fun _ _ _ h => h)))
           (fun a' w' ⟨s', β', own', S', h1, h2⟩ => ihk s' h1 h2)
       intro β own S a w H; exact go k s h H
    intro β own S a w H
    exact (key H).wp
  | rng _ _ hf hb hN hr he _ ihA ihB ihI =>
    rename_i f ps ca cb ca' cb' n N it fn code _ _ _
    intro C hP hY s K h β own S act w H
    obtain ⟨st, so, nx⟩ := s
    subst hP
    simp only [run] at h
    split at h
    . exact h.elim
    rename_i hrnd
    split at h
    case h_2 => exact h.elim
    rename_i n' fa fc hfv
    split at h
    case h_2 => exact h.elim
    rename_i hbn hbl
    have hn := Nat.eq_of_beq_eq_true hbn
    subst hn
    have hfx := rdX_inv H hfv
    simp only [rel] at hfx
    obtain ⟨va, vc, hfe, hra, hrc⟩ := hfx
    have hW : Wf C.rnd = Wf none := by rw [hrnd]
    rw [hW]
    refine wpIn_rangeFunc ?_
    intro fid hfid
    show ∃ l mark w₁ d w₁' f args w₂, (Instr.enterLoop fid act.tmps ps ca cb none).run C.P w = _ ∧ _
    have hrunE := run_enterLoop_outer (P := C.P) (w := w) fid act.tmps ps ca cb
    generalize hrec : ({ state := .ready, pending := none, fn := fid, tmps := act.tmps, params := ps, assign := ca, body := cb, defers := w.heap.size } : _root_.Go.Loop) = r at hrunE
    have hr0 : lrecOf r .ready = r := by rw [<- hrec]; rfl
    have hsz1 : (w.alloc (.deferred (some []))).heap.size = w.heap.size + 1 := by simp
    generalize hW1 : (w.alloc (.deferred (some []))).alloc (.loop r) = W1 at hrunE
    have hsz2 : W1.heap.size = w.heap.size + 2 := by rw [<- hW1]; simp
    have hnx : β nx = none := H.fresh nx (Nat.le_refl _)
    have Ha := H.h.push (.deferred (some []))
    have hlast : W1.heap[(w.alloc (.deferred (some []))).heap.size]? = some (.loop r) := by rw [<- hW1]; exact World.alloc_heap_new _ _
    have Hb := Ha.new (id := nx) hnx (w' := W1) (ob := .loop r) (by rw [<- hW1]; rfl) (by rw [<- hW1]; rfl) (by rw [<- hW1]; rfl) (by rw [<- hW1]; rfl) (B := ⟨some (w.heap.size + 1), 0, 0⟩) (o := .lrec (w.heap.size + 1) r .ready)
     (fun x => ⟨rfl, by rw [hsz1], by rw [hr0, <- hsz1]; exact hlast⟩) none undef none (fun d s e => by cases e) (fun _ => .inl rfl)
    rw [hsz1] at Hb
    simp only [gtPut] at Hb
    rw [<- goOf_cons] at Hb
    have hD1 : W1.heap[w.heap.size]? = some (.deferred (some [])) := by
     rw [<- hW1]
     show ((w.alloc (.deferred (some []))).heap.push _)[w.heap.size]? = _
     rw [Array.getElem?_push, if_neg (by rw [hsz1]; omega)]
     exact World.alloc_heap_new w _
    have hold : ∀ b, b < w.heap.size -> W1.heap[b]? = w.heap[b]? := fun b hb => by
     rw [<- hW1]
     show ((w.heap.push _).push _)[b]? = _
     rw [Array.getElem?_push, if_neg (by simp; omega), Array.getElem?_push, if_neg (by omega)]
    generalize hβ1 : upd β nx (some ⟨some (w.heap.size + 1), 0, 0⟩) = β1 at Hb
    have hβ1a : ∀ i B, β i = some B -> β1 i = some B := fun i B e => by
     subst hβ1
     by_cases hi : i = nx
     . subst hi; rw [hnx] at e; cases e
     . rw [upd_other _ _ hi]; exact e
    have hβ1b : ∀ i, i ≠ nx -> β1 i = β i := fun i hi => by subst hβ1; exact upd_other _ _ hi
    have hβ1c : β1 nx = some ⟨some (w.heap.size + 1), 0, 0⟩ := by subst hβ1; exact upd_same _ _ _
    generalize hown1 : upd own nx (one1 (w.heap.size + 1)) = own1 at Hb
    have ownlt : ∀ id b, (goOf ((nx, some (.lrec (w.heap.size + 1) r .ready)) :: so) id).isSome -> own1 id b -> b < w.heap.size ∨ b = w.heap.size + 1 := fun id b h1 h2 => by
     subst hown1
     rw [goOf_cons] at h1
     by_cases hi : id = nx
     . subst hi; rw [upd_same] at h2; exact .inr h2
     . rw [upd_other _ _ hi] at h1 h2
       obtain ⟨o', ho'⟩ := Option.isSome_iff_exists.1 h1
       obtain ⟨B', _, h3⟩ := H.h.mem.obj id o' ho'
       exact .inl (h3.lt b h2)
    have h := h (w.heap.size + 1) r
    rw [fSVs_eq, fNat_eq] at h
    let o1 : List (Nat × Option SO) := (nx, some (.lrec (w.heap.size + 1) r .ready)) :: so
    let C1 : Ctx := { toEnv := { C.toEnv with N := N, m0 := nx + 1, L := fun i => C.L (100 + i), J := fun i => C.J (100 + i), Y := some ⟨w.heap.size + 1, rngY C.toEnv ps.toList st nx (w.heap.size + 1) r (fun E => run E ca') (fun E => run E cb')⟩ }, sok := C.sok, psok := C.psok, w0 := W1, X0 := owned (goOf o1) own1, S0 := S, β0 := β1 }
    have hXD : ¬ C1.X0 w.heap.size := fun ⟨i, h1, h2⟩ => by
     rcases ownlt i _ h1 h2 with h | h <;> omega
    have x1 : Ext β w S β1 W1 S := ⟨hβ1a, fun _ e => e, fun b hb => hold b (H.h.mem.sz b hb)⟩
    have hS0 : ∀ b, C1.S0 b -> b < C1.w0.heap.size ∧ ¬ C1.X0 b := fun b hb => by
     have := H.h.mem.sz b hb
     refine ⟨by show b < W1.heap.size; omega, fun ⟨i, h1, h2⟩ => ?_⟩
     exact Hb.mem.st i b h1 h2 hb
    let vs : Array Value := va ++ #[.func (.yield (w.heap.size + 1)) #[] #[]] ++ vc
    have hargs : relL β1 W1 S (fa ++ .fn (.yield (w.heap.size + 1)) [] [] :: fc) vs.toList := by
     have : vs.toList = va.toList ++ (.func (.yield (w.heap.size + 1)) #[] #[]) :: vc.toList := by simp [vs]
     rw [this]
     refine relL_append _ _ _ _ (relL_ext x1 _ _ hra) ?_
     simp only [relL]
     exact ⟨_, _, rfl, by simp [rel, relL], relL_ext x1 _ _ hrc⟩
    have hlen := relL_length _ _ hargs
    have hvN : vs.size ≤ fn.ntmps := by
     have : (fa ++ SV.fn (.yield (w.heap.size + 1)) [] [] :: fc).length = fa.length + 1 + fc.length := by simp; omega
     have h2 : vs.toList.length = vs.size := by simp
     have h3 := Nat.le_of_ble_eq_true hbl
     omega
    have H1 : HoldsS C1 ⟨idxd (fa ++ .fn (.yield (w.heap.size + 1)) [] [] :: fc) 0, o1, nx + 1⟩ β1 own1 S { tmps := vs ++ Array.replicate (fn.ntmps - vs.size) undef, defers := [] } W1 := by
     refine ⟨⟨fun t s e => ?_, Hb.mem, Fr.refl _ _, fun id b h1 h2 => .inl ⟨id, h1, h2⟩, fun _ e => e, fun _ e => .inl e, ?_, ⟨⟨by simp [mks], fun d hd => by simp [mks] at hd⟩, rfl⟩, fun g s e => Hb.gl g s e⟩, fun i hi => ?_, Nat.le_refl _, fun i B _ e => e⟩
     . simp only [gtOf, look_idxd, Nat.zero_le, if_true, Nat.sub_zero] at e
       rw [getN_eq] at e
       obtain ⟨y, h1, h2⟩ := relL_get (i := t) _ _ _ hargs e
       have ht : t < vs.size := by
        have := (List.getElem?_eq_some_iff.1 h1).1
        simpa using this
       have : (vs ++ Array.replicate (fn.ntmps - vs.size) undef).getD t undef = y := by
        rw [Array.getD_eq_getD_getElem?, Array.getElem?_append_left ht]
        simp at h1
        rw [h1]; rfl
       simp only [this]
       exact h2
     . show (vs ++ Array.replicate (fn.ntmps - vs.size) undef).size = N
       simp; omega
     . rw [hβ1b i (by show i ≠ nx; have : nx + 1 ≤ i := hi; omega)]
       exact H.fresh i (by show nx ≤ i; have : nx + 1 ≤ i := hi; omega)
    have hYok : ∀ y, C1.Y = some y -> YOk C1 y := fun y e => by
     simp only [C1, Option.some.injEq] at e
     subst e
     have := rngY_ok (P := C.P) (C := C) (C1 := C1) (l := w.heap.size + 1) (D := w.heap.size) (ps := ps) (fn := fid) (t0 := st) (id := nx) (tmps := act.tmps) rfl rfl rfl hrnd ihA ihB rfl (fun i hi => by
      show β1 i = none
      rw [hβ1b i (by omega)]; exact H.fresh i (by show nx ≤ i; omega)) H.h.n (fun i v e => rel_ext x1 _ _ (H.h.tm i v e)) hS0
     rw [hrec] at this
     exact this
    have wI := ihI (C := C1) rfl hYok h H1
    have hr1 : C1.rnd = none := hrnd
    rw [hr1] at wI
    have fin : ∀ s1 β2 own2 S2 a2 w2, (rngK nx st K .nrm s1) -> HoldsS C1 s1 β2 own2 S2 a2 w2 →
     LeavesInM (Wf none) 0 C.P fn a2.tmps (rangePost (Wf none) 0 C.P (w.heap.size + 1) (post C K) { act with defers := [{ target := .collected w.heap.size, args := #[] }] ++ act.defers }) a2.defers .returning w2 := by
      intro s1 β2 own2 S2 a2 w2 hk H2
      obtain ⟨hdf2, hms2⟩ := H2.h.df
      rw [all_mk hms2] at hdf2
      refine leavesM a2.defers w2 hdf2.nd (fun d hd => ?_) (fun w3 g1 g2 g3 g4 g5 => ?_)
      . obtain ⟨D, e1, _, e3, _⟩ := hdf2.at_ d hd
        exact ⟨D, e1, e3⟩
      . have H3 : HoldsS C1 s1 β2 own2 S2 { a2 with defers := [] } w3 := ⟨H2.h.undf g1 g2 g3 g4 hdf2 g5, H2.fresh, H2.m0, H2.b0⟩
        refine ⟨.tuple #[], res_run (xs := []) (by rw [hr]; rfl), ?_⟩
        obtain ⟨s1t, s1o, s1nx⟩ := s1
        simp only [rngK] at hk
        split at hk
        case h_2 => exact hk.elim
        rename_i l' r' e hg
        obtain ⟨B, q1, q2, q3, q4⟩ := lrec_at H3 hg
        have hB := H3.b0 nx B (by show nx < nx + 1; omega) q1
        simp only [C1] at hB
        rw [hβ1c] at hB
        cases hB
        cases q2
        have key : ∀ (p : Option Code), (lrecOf r' e).pending = p -> (lrecOf r' e).state ≠ .busy -> ({ lrecOf r' e with state := .exhausted } : _root_.Go.Loop) = lrecOf r' (.over p) →
         (∃ w4, (Instr.endLoop (w.heap.size + 1)).run C.P w3 = .ok p w4 ∧
          ∃ β5, HoldsS C ⟨st, (nx, none) :: s1o, s1nx⟩ β5 own2 S2 { act with defers := [{ target := .collected w.heap.size, args := #[] }] ++ act.defers } w4) := by
          intro p hp hnb hov
          have hrun := run_endLoop (P := C.P) q4 hnb
          rw [hov, hp] at hrun
          refine ⟨_, hrun, ?_⟩
          have H4 := lrec_set H3 hg (.over p)
          obtain ⟨β5, b1, b2, b3, H5⟩ := nest_back Hb H4 rfl rfl rfl (fun i B e => e) (fun i hi => by
           have hi : nx + 1 ≤ i := hi
           show β1 i = none
           rw [hβ1b i (by omega)]; exact H.fresh i (by show nx ≤ i; omega))
          have H6 := H5.drop nx
          rw [goOf_cons, upd_upd, <- goOf_cons] at H6
          have hm1 : nx + 1 ≤ s1nx := H3.m0
          have hm0 : C.m0 ≤ nx := H.m0
          obtain ⟨hdf6, hms6⟩ := H6.df
          obtain ⟨hdf0, hms0⟩ := H.h.df
          refine ⟨β5, ⟨⟨H6.tm, H6.mem, H6.fr, H6.own0, H6.s0, H6.s1, H6.n, ⟨(show DfOk _ _ _ _ (_ :: mks act.defers) _ from ⟨?_, fun d hd => ?_⟩), hms6⟩, H6.gl⟩, b3, by show C.m0 ≤ s1nx; omega, fun i B hi e => ?_⟩⟩
          . simp only [List.nodup_cons]
            refine ⟨fun hmem => ?_, hdf0.nd⟩
            obtain ⟨D, e1, _, e3, _⟩ := hdf0.at_ _ hmem
            injection e1 with e1
            injection e1 with e1
            subst e1
            have := (Array.getElem?_eq_some_iff.1 e3).1
            omega
          . simp only [List.mem_cons] at hd
            rcases hd with rfl | hd
            . refine ⟨w.heap.size, rfl, H.h.fr.size, ?_, fun hs => ?_, fun i hi hb => ?_⟩
              . rw [H4.h.fr.block w.heap.size (by show _ < W1.heap.size; omega) hXD]
                exact hD1
              . rcases H4.h.s1 _ hs with h | h | h
                . have : w.heap.size < w.heap.size := H.h.mem.sz _ h
                  omega
                . exact hXD h
                . have : W1.heap.size ≤ w.heap.size := h
                  omega
              . have hi' : (goOf ((nx, some (.lrec (w.heap.size + 1) r' (.over p))) :: s1o) i).isSome := by
                 rw [goOf_cons] at hi ⊢
                 by_cases e : i = nx
                 . subst e; simp
                 . rwa [upd_other _ _ e] at hi ⊢
                rcases H4.h.own0 i _ hi' hb with h | h
                . exact hXD h
                . have : W1.heap.size ≤ w.heap.size := h
                  omega
            . exact hdf6.at_ d hd
          . rw [b2 i (by show i < nx + 1; omega)] at e
            simp only [C1] at e
            rw [hβ1b i (by omega)] at e
            exact H.b0 i B hi e
        cases e with
        | ready =>
          obtain ⟨w4, k1, β5, k2⟩ := key none rfl (by simp [lrecOf]) rfl
          exact ⟨none, w4, k1, _, β5, own2, S2, hk, k2⟩
        | done j =>
          cases j with
          | ret =>
            obtain ⟨w4, k1, β5, k2⟩ := key (some .ret) rfl (by simp [lrecOf]) rfl
            exact ⟨some .ret, w4, k1, wpIn_ret ⟨_, β5, own2, S2, hk, k2⟩⟩
          | exit i =>
            obtain ⟨w4, k1, β5, k2⟩ := key (some (.exit i)) rfl (by simp [lrecOf]) rfl
            exact ⟨some (.exit i), w4, k1, wpIn_exit ⟨_, β5, own2, S2, hk, k2⟩⟩
          | _ => exact hk.elim
        | _ => exact hk.elim
    refine ⟨w.heap.size + 1, [{ target := .collected w.heap.size, args := #[] }], W1, { target := .fn (.func n') vc, args := va ++ #[.func (.yield (w.heap.size + 1)) #[] #[]] }, W1, n', vs, W1, hrunE, ?_, fun _ _ => trivial, ?_,
     fun e => by simp [Wf, Fence.wide] at e, ?_⟩
    . simp only [resolve, hfe, Deferred.ofValue, rangeCall]
      simp [Act.eval]
    . simp only [invoke]
      exact he _ _
    . refine callsIn_of_wp_marks (F := Wf none) (n := 0) hf hb trivial (wpIn_mono wI ?_) rfl
      intro ex a' w' hp
      cases ex with
      | normal => obtain ⟨s1, β2, own2, S2, hk, H2⟩ := hp; exact fin s1 β2 own2 S2 a' w' hk H2
      | ret => obtain ⟨s1, β2, own2, S2, hk, H2⟩ := hp; exact fin s1 β2 own2 S2 a' w' hk H2
      | exit i => obtain ⟨s1, β2, own2, S2, hk, H2⟩ := hp; exact hk.elim
      | panic ch => obtain ⟨s1, β2, own2, S2, v, x, _, hk, _⟩ := hp; exact hk.elim
      | goto l => exact hp.elim
      | outgrown => exact hp.elim
end Go.Sx
namespace Go.Sx
open Go
open Classical
inductive RV where
 | t (n : Nat)
 | c (n : Nat) (sz : Option Nat)
def pickK (cs : List SV) (sub : Nat) (n : Option Nat) (f : SV -> RT) : RT :=
 match n with
 | none => (match getN cs sub with | some c => f c | none => .fail)
 | some n => (match cutN cs sub n with | some l => f (.agg l) | none => .fail)
def RV.rd (f : SV -> RT) : RV -> RT
 | .t n => .rT n fun o => match o with | some v => f v | none => .fail
 | .c n sz => .rT n fun o => match o with
   | some (.ptr id idx sub) => .rO id fun o => (match o with
     | some (.row cs) => (match idx with | 0 => pickK cs sub sz f | _ => .fail)
     | _ => .fail)
   | _ => .fail
def RVs.rd : List RV -> (List SV -> RT) -> RT
 | [], f => f []
 | r :: rs, f => RV.rd (fun v => RVs.rd rs fun vs => f (v :: vs)) r
def resSV : List SV -> SV
 | [v] => v
 | vs => .tup vs
def identR : List (Option SO) -> Nat -> List (Nat × Option Nat)
 | [], _ => []
 | some _ :: l, i => (i, some i) :: identR l (i + 1)
 | none :: l, i => identR l (i + 1)
def outObjs : List (Option SO) -> Nat -> List (Nat × SO)
 | [], _ => []
 | some o :: l, i => (i, o) :: outObjs l (i + 1)
 | none :: l, i => outObjs l (i + 1)
def retRT (rs : List RV) (L : LSpec) : RT :=
 RVs.rd rs fun vs => mSV ⟨identR L.out 0, []⟩ L.res (resSV vs) fun ρ =>
  mObjs ρ (outObjs L.out 0 ++ idxd L.new L.foot.length) fun ρ => endRT L.foot.length (L.foot.length + L.new.length) ρ
def retK (rs : List RV) (L : LSpec) : Ex -> St -> Prop
 | .nrm, s => (retRT rs L).vc (gtOf s.t) (goOf s.o) [] fun _ _ _ _ => True
 | .ret, s => (retRT rs L).vc (gtOf s.t) (goOf s.o) [] fun _ _ _ _ => True
 | .exit _, _ => False
 | .pan _, _ => False
def somes : List SO -> List (Option SO)
 | [] => []
 | o :: l => some o :: somes l
def entry (L : LSpec) : St := ⟨idxd L.args 0, idxd (somes L.foot) 0, L.foot.length⟩
structure RVOk (P : Program) (r : ResultVar) (v : RV) : Prop where
 ok : match r, v with
  | .tmp t, .t n => t = n
  | .cell a t, .c n sz => a = n ∧ LdOk P t sz
  | _, _ => False
def RVsOk (P : Program) : List ResultVar -> List RV -> Prop
 | [], l => l = []
 | r :: rs, l => ∃ v vs, l = v :: vs ∧ RVOk P r v ∧ RVsOk P rs vs
theorem pickK_inv {gt go} {cs : List SV} {sub : Nat} {n : Option Nat} {f : SV -> RT} {R v os k} (h : (pickK cs sub n f).Runs gt go R v os k) : ∃ s, pick1 cs sub n = ret1 s ∧ (f s).Runs gt go R v os k := by
 unfold pickK at h
 split at h
 . split at h
   . rename_i c hc; exact ⟨c, by simp [pick1, hc], h⟩
   . cases h
 . split at h
   . rename_i c hc; exact ⟨_, by simp [pick1, hc], h⟩
   . cases h
theorem rv_inv {P : Program} {gt go} {r : ResultVar} {q : RV} (hq : RVOk P r q) {f : SV -> RT} {R v os k} (h : (RV.rd f q).Runs gt go R v os k) : ∃ s R', (f s).Runs gt go R' v os k ∧
 ∀ {C : Ctx} {β own S a w}, C.P = P -> Holds C gt go β own S a w -> ∃ x, (resRun a.tmps r).run P w = .ok x w ∧ rel β w S s x := by
  cases r with
  | tmp t =>
    cases q with
    | c n sz => exact hq.ok.elim
    | t n =>
      have : t = n := hq.ok
      subst this
      simp only [RV.rd] at h
      cases h with
      | rT h =>
        dsimp only at h
        split at h
        . rename_i s hs
          exact ⟨s, _, h, fun _ H => ⟨_, by simp [resRun], H.tm t s hs⟩⟩
        . cases h
  | cell b t =>
    cases q with
    | t n => exact hq.ok.elim
    | c n sz =>
      obtain ⟨e, hl⟩ : b = n ∧ LdOk P t sz := hq.ok
      subst e
      simp only [RV.rd] at h
      cases h with
      | rT h =>
        dsimp only at h
        split at h
        case h_2 => cases h
        rename_i id idx sub hs
        cases h with
        | rO h =>
          dsimp only at h
          split at h
          case h_2 => cases h
          rename_i cs hgo
          split at h
          case h_2 => cases h
          obtain ⟨s, hp, h⟩ := pickK_inv h
          refine ⟨s, _, h, fun {C β own S a w} hC H => ?_⟩
          have hr := H.tm b _ hs
          simp only [rel] at hr
          obtain ⟨B, b', h1, h2, h3⟩ := hr
          obtain ⟨B', h4, b'', arr, T, h5, h6, _, h7, h8, h9⟩ := H.mem.obj _ _ hgo
          rw [h1] at h4; cases h4
          rw [h2] at h5; cases h5
          have hruns : (pick1 cs sub sz).Runs gt go [] (some s) [] 0 := by rw [hp]; exact .done
          obtain ⟨s', e1, _, _, y, h10, h11⟩ := run_loadAt (P := P) (off := 0) (m := arr.toList.length) hl h8 (by rw [List.drop_zero, List.take_length]; exact h9) hruns
          cases e1
          refine ⟨y, ?_, h11⟩
          simp only [Nat.zero_mul, Nat.zero_add] at h3
          simp only [resRun, h3]
          simpa [Instr.loadAt, Instr.sureAddr, asAddr] using h10
theorem rvs_inv {P : Program} {gt go} : ∀ {rs : List ResultVar} {qs : List RV} {f : List SV -> RT} {R v os k}, RVsOk P rs qs -> (RVs.rd qs f).Runs gt go R v os k -> ∃ ss R', (f ss).Runs gt go R' v os k ∧
 ∀ {C : Ctx} {β own S a w}, C.P = P -> Holds C gt go β own S a w -> ∃ xs, (rs.mapM (resRun a.tmps)).run P w = .ok xs w ∧ relL β w S ss xs
  | [], qs, f, R, v, os, k, hq, h => by
    simp only [RVsOk] at hq
    subst hq
    exact ⟨[], _, h, fun _ _ => ⟨[], by simp, by simp [relL]⟩⟩
  | r :: rs, qs, f, R, v, os, k, hq, h => by
    obtain ⟨q, qs', rfl, h1, h2⟩ := hq
    simp only [RVs.rd] at h
    obtain ⟨s, R1, h, hs⟩ := rv_inv h1 h
    obtain ⟨ss, R2, h, hss⟩ := rvs_inv h2 h
    refine ⟨s :: ss, R2, h, fun {C β own S a w} hC H => ?_⟩
    obtain ⟨x, hx, hr⟩ := hs hC H
    obtain ⟨xs, hxs, hrs⟩ := hss hC H
    exact ⟨x :: xs, by simp [List.mapM_cons, hx, hxs], by simp only [relL]; exact ⟨x, xs, rfl, hr, hrs⟩⟩
theorem rel_res {β w S} {ss : List SV} {xs : List Value} (h : relL β w S ss xs) : rel β w S (resSV ss) (resV xs) := by
 match ss, xs, h with
 | [], xs, h => simp only [relL] at h; subst h; simp only [resSV, resV, rel]; exact ⟨_, rfl, by simp [relL]⟩
 | [s], xs, h =>
   simp only [relL] at h
   obtain ⟨x, r, rfl, hx, rfl⟩ := h
   exact hx
 | s :: s' :: ss, xs, h =>
   have h0 := h
   simp only [relL] at h
   obtain ⟨x, r, rfl, hx, x', r', rfl, hx', hr⟩ := h
   simp only [resSV, resV, rel]
   exact ⟨_, rfl, by simpa using h0⟩
theorem look_identR : ∀ (l : List (Option SO)) (i0 i : Nat) (q : Option Nat), look i (identR l i0) = some q -> q = some i
 | [], _, _, _, h => by simp [identR, look] at h
 | some o :: l, i0, i, q, h => by
   simp only [identR] at h
   rw [look_cons] at h
   split at h
   . rename_i e; subst e; cases h; rfl
   . exact look_identR l _ i q h
 | none :: l, i0, i, q, h => look_identR l _ i q (by simpa [identR] using h)
theorem look_outObjs : ∀ (l : List (Option SO)) (i0 i : Nat), look i (outObjs l i0) = if i0 ≤ i then (getN l (i - i0)).bind id else none
 | [], i0, i => by simp [outObjs, look, getN]
 | x :: l, i0, i => by
   have hs : i0 + 1 ≤ i -> i - i0 = (i - (i0 + 1)) + 1 := by omega
   cases x with
   | none =>
     simp only [outObjs]
     rw [look_outObjs l (i0 + 1) i]
     by_cases h : i0 = i
     . subst h; rw [if_neg (by omega)]; simp [getN]
     . by_cases h2 : i0 ≤ i
       . rw [if_pos h2, if_pos (by omega), hs (by omega)]; rfl
       . rw [if_neg h2, if_neg (by omega)]
   | some o =>
     simp only [outObjs]
     rw [look_cons, look_outObjs l (i0 + 1) i]
     by_cases h : i0 = i
     . subst h; simp [getN]
     . rw [if_neg h]
       by_cases h2 : i0 ≤ i
       . rw [if_pos h2, if_pos (by omega), hs (by omega)]; rfl
       . rw [if_neg h2, if_neg (by omega)]
theorem goOf_somes : ∀ (l : List SO) (i0 i : Nat), goOf (idxd (somes l) i0) i = if i0 ≤ i then getN l (i - i0) else none := by
 intro l i0 i
 have key : ∀ (l : List SO) (j : Nat), getN (somes l) j = (getN l j).map some := by
  intro l
  induction l with
  | nil => intro j; simp [somes, getN]
  | cons o l ih => intro j; cases j <;> simp [somes, getN, ih]
 simp only [goOf, look_idxd, key]
 by_cases h : i0 ≤ i
 . simp only [if_pos h]; cases getN l (i - i0) <;> rfl
 . simp only [if_neg h]
theorem spec_ok {P : Program} {G : Nat -> Option SV} {f : FuncId} {fn : Func} {code : Code} {mc : MC} {rs : List RV} {L : LSpec} (hmix : P.follows .mixedOrders = true) (hf : P.funcs[f]? = some fn) (hb : fn.body = some code)
 (hent : Enters P f) (hmc : McOk P code mc) (hrs : RVsOk P fn.results.toList rs) (hN : L.args.length ≤ fn.ntmps) (hout : L.out.length = L.foot.length)
 {S : STab} (hS : SOk P G S) (LA : Nat -> LAnn) (JA : Nat -> JAnn) {PS : STab} (hPS : SOkE panicked P G PS) (h : run ⟨P, G, fn.ntmps, none, L.foot.length, none, S, LA, JA, PS⟩ mc (entry L) (retK rs L)) : LSpec.ok P G f L := by
  refine ⟨hent, hout, fun β own S0 w vs hβ hmem hargs hgl => ?_⟩
  have hlen := relL_length _ _ hargs
  simp at hlen
  let C : Ctx := { P := P, G := G, N := fn.ntmps, rnd := none, m0 := L.foot.length, Y := none, S := S, L := LA, J := JA, PS := PS, sok := hS, psok := hPS, w0 := w, X0 := owned L.go0 own, S0 := S0, β0 := β }
  have hgo : goOf (idxd (somes L.foot) 0) = L.go0 := funext fun i => by rw [goOf_somes]; simp [LSpec.go0]
  have H0 : HoldsS C (entry L) β own S0 { tmps := vs ++ Array.replicate (fn.ntmps - vs.size) undef, defers := [] } w := by
   refine ⟨⟨fun t s e => ?_, by simp only [entry]; rw [hgo]; exact hmem, Fr.refl _ _, fun id b h1 h2 => ?_, fun _ e => e, fun _ e => .inl e, ?_, ⟨⟨by simp [mks], fun d hd => by simp [mks] at hd⟩, rfl⟩, hgl⟩, hβ, Nat.le_refl _, fun i B _ e => e⟩
   . simp only [entry, gtOf, look_idxd, Nat.zero_le, if_true, Nat.sub_zero] at e
     rw [getN_eq] at e
     obtain ⟨y, h1, h2⟩ := relL_get (i := t) _ _ _ hargs e
     have ht : t < vs.size := by
      have := (List.getElem?_eq_some_iff.1 h1).1
      simpa using this
     have : (vs ++ Array.replicate (fn.ntmps - vs.size) undef).getD t undef = y := by
      rw [Array.getD_eq_getD_getElem?, Array.getElem?_append_left ht]
      simp at h1
      rw [h1]; rfl
     simp only [this]
     exact h2
   . left
     simp only [entry] at h1
     rw [hgo] at h1
     exact ⟨id, h1, h2⟩
   . show (vs ++ Array.replicate (fn.ntmps - vs.size) undef).size = fn.ntmps
     simp; omega
  have hwp := run_ok (C := C) hmix hmc rfl (fun y e => by cases e) h H0
  refine callsIn_wide.1 (callsIn_of_wp_marks (F := Fence.wide) (n := 0) hf hb trivial (wpIn_mono (F := Fence.wide) hwp ?_) rfl)
  have fin : ∀ s' β1 own1 S1 a' w', ((retRT rs L).vc (gtOf s'.t) (goOf s'.o) [] fun _ _ _ _ => True) -> HoldsS C s' β1 own1 S1 a' w' →
   LeavesInM Fence.wide 0 P fn a'.tmps (fun e w' => ∃ v β' own' S', e = .returned v ∧ Keeps L.foot.length β w S0 β' w' S' ∧ (∀ id, L.foot.length + L.new.length ≤ id -> β' id = none) ∧
    rel β' w' S' L.res v ∧ MemOk β' own' S' L.go1 w' ∧ Fr (owned L.go0 own) w w' ∧ (∀ id b, (L.go1 id).isSome -> own' id b -> owned L.go0 own b ∨ w.heap.size ≤ b) ∧
    (∀ b, S' b -> S0 b ∨ owned L.go0 own b ∨ w.heap.size ≤ b)) a'.defers .returning w' := by
    intro s' β1 own1 S1 a' w' hk H
    obtain ⟨hdf, hms⟩ := H.h.df
    rw [all_mk hms] at hdf
    refine leavesM a'.defers w' hdf.nd (fun d hd => ?_) (fun w2 h1 h2 h3 h4 h5 => ?_)
    . obtain ⟨D, e1, _, e3, _⟩ := hdf.at_ d hd
      exact ⟨D, e1, e3⟩
    . have H2 := H.h.undf h1 h2 h3 h4 hdf h5
      obtain ⟨R, v, os, k, hk, _⟩ := RT.runs_of_vc _ _ _ hk
      obtain ⟨ss, R1, hk, hres⟩ := rvs_inv hrs hk
      obtain ⟨xs, hxs, hrel⟩ := hres (C := C) rfl H2
      obtain ⟨ρ1, R2, hk, l1, i1, m1⟩ := mSV_inv _ hk
      obtain ⟨ρ2, R3, hk, l2, i2, m2⟩ := mObjs_inv _ hk
      obtain ⟨e1, e2, e3⟩ := endRT_inv hk
      have hinj : ρ2.inj := i2 (i1 (fun i i' j q q' => by
       have := look_identR _ _ _ _ q
       have := look_identR _ _ _ _ q'
       simp_all))
      obtain ⟨hm, ho, hl⟩ := matched H2 hinj _ m2 e1
      have hgo1 : ∀ i, look i (outObjs L.out 0 ++ idxd L.new L.foot.length) = L.go1 i := fun i => by
       rw [look_append, look_outObjs, look_idxd]
       simp only [Nat.zero_le, if_true, Nat.sub_zero, LSpec.go1]
       by_cases c : i < L.foot.length
       . rw [if_pos c, if_neg (by omega)]
         cases getN L.out i with
         | none => rfl
         | some q => cases q <;> rfl
       . rw [if_neg c, if_pos (by omega)]
         have : getN L.out i = none := by rw [getN_eq]; simp; omega
         rw [this]; rfl
      have hgo1' : (fun i => look i (outObjs L.out 0 ++ idxd L.new L.foot.length)) = L.go1 := funext hgo1
      rw [hgo1'] at hm
      refine ⟨_, res_run hxs, _, bOf ρ2 β1 (spOf (outObjs L.out 0 ++ idxd L.new L.foot.length)), ownOf ρ2 own1, _, rfl, ⟨fun i B hi e => ?_, fun b hb => .inl (H2.s0 b hb), fun b hb => ?_⟩, fun i hi => by simp [bOf, keysLt_iff e2 i hi],
       m1 ρ2 l2 (fit_of H2.mem) _ _ (rel_res hrel), hm, H2.fr, fun id b hi hb => ?_, fun b hb => ?_⟩
      . simp only [bOf] at e
        split at e
        . rename_i j hj
          have := idLow_iff e3 i _ hi hj
          cases this
          exact H.b0 i B hi e
        . rename_i hj
          have := idLow_iff e3 i _ hi hj
          cases this
        . cases e
      . exact H2.fr.block b (hmem.sz b hb) (fun ⟨i, q1, q2⟩ => hmem.st i b q1 q2 hb)
      . obtain ⟨j, q1, q2⟩ := ho id b (by rw [hgo1]; exact hi) hb
        exact H2.own0 j b q1 q2
      . rcases hb with hb | hb
        . exact H2.s1 b hb
        . obtain ⟨j, q1, q2⟩ := hl b hb
          exact .inr (H2.own0 j b q1 q2)
  intro e a' w' hp
  cases e with
  | normal => obtain ⟨s', β1, own1, S1, hk, H⟩ := hp; exact fin s' β1 own1 S1 a' w' hk H
  | ret => obtain ⟨s', β1, own1, S1, hk, H⟩ := hp; exact fin s' β1 own1 S1 a' w' hk H
  | exit i => obtain ⟨s', β1, own1, S1, hk, H⟩ := hp; exact hk.elim
  | goto l => exact hp.elim
  | panic c => obtain ⟨s', β1, own1, S1, v, x, _, hk, _⟩ := hp; exact hk.elim
  | outgrown => exact hp.elim
end Go.Sx
namespace Go.Sx
open Go
def rowN (P : Program) (t : TypeId) : Option (Option Nat) :=
 match P.underlying t with
 | none => none
 | some d => match d.isRow with
   | false => some none
   | true => match P.info? t with | some i => some (some i.size) | none => none
theorem rowN_ok {P : Program} {t : TypeId} {n : Option Nat} (h : rowN P t = some n) : LdOk P t n := by
 unfold rowN at h
 split at h
 . cases h
 . rename_i d hd
   split at h
   . rename_i hr; cases h; exact ⟨d, hd, hr⟩
   . rename_i hr
     split at h
     . rename_i i hi; cases h; exact ⟨d, hd, hr, by rw [hi]; rfl⟩
     . cases h
def fldO (P : Program) (t : TypeId) (f : Nat) : Option Nat :=
 match P.underlying t with
 | some (.struct fs) => match fs[f]? with
   | some fd => match P.info? fd.type with
     | some i => match i.size with | 0 => none | _ + 1 => some fd.offset
     | none => none
   | none => none
 | _ => none
theorem fldO_ok {P : Program} {t : TypeId} {f off : Nat} (h : fldO P t f = some off) : FldOk P t f off := by
 unfold fldO at h
 split at h
 . rename_i fs hu
   split at h
   . rename_i fd hf
     split at h
     . rename_i i hi
       split at h
       . cases h
       . rename_i n hn
         cases h
         exact ⟨fs, fd, i, hu, hf, rfl, hi, by omega⟩
     . cases h
   . cases h
 . cases h
def sizeT (P : Program) (t : TypeId) : Option Nat := match P.info? t with | some i => some i.size | none => none
theorem sizeT_ok {P : Program} {t : TypeId} {n : Nat} (h : sizeT P t = some n) : ∃ i, P.info? t = some i ∧ i.size = n := by
 unfold sizeT at h
 split at h
 . rename_i i hi; cases h; exact ⟨i, hi, rfl⟩
 . cases h
def zeroT (P : Program) (t : TypeId) : Option Value := match P.info? t with | some i => i.zero | none => none
theorem zeroT_ok {P : Program} {t : TypeId} {z : Value} (h : zeroT P t = some z) : ∃ i, P.info? t = some i ∧ i.zero = some z := by
 unfold zeroT at h
 split at h
 . rename_i i hi; exact ⟨i, hi, h⟩
 . cases h
def cPls (pl : Nat -> Option (Nat × Nat)) : List (Nat × Operand) -> Option (List (Nat × Nat × X))
 | [] => some []
 | (i, x) :: r => match pl i with
   | some (off, n) => match cPls pl r with | some l => some ((off, n, cX x) :: l) | none => none
   | none => none
theorem cPls_ok {pl : Nat -> Option (Nat × Nat)} : ∀ {l : List (Nat × Operand)} {ps : List (Nat × Nat × X)}, cPls pl l = some ps -> PlsOk pl l ps
 | [], ps, h => by simp [cPls] at h; simp [PlsOk, h]
 | (i, x) :: r, ps, h => by
   simp only [cPls] at h
   split at h
   . rename_i off n hp
     split at h
     . rename_i l hl
       cases h
       exact ⟨off, n, l, rfl, hp, cPls_ok hl⟩
     . cases h
   . cases h
def cellPV : Value -> Option PV
 | .int k n => some (.int k n)
 | .bool b => some (.bool b)
 | .string s => some (.str s)
 | .map r => (match r with | none => some (.val (.map none)) | some _ => none)
 | _ => none
def cellPVs : List Value -> Option (List PV)
 | [] => some []
 | v :: l => match cellPV v with | some p => (match cellPVs l with | some r => some (p :: r) | none => none) | none => none
def zeroPV (P : Program) (t : TypeId) : Option (Bool × List PV) :=
 match P.underlying t, zeroT P t with
 | some (.slice e), some (.slice none 0 0) => (match sizeT P e with | some s => some (true, [.sl s []]) | none => none)
 | _, some (.agg cs) => (match cellPVs cs.toList with | some l => some (false, l) | none => none)
 | _, some v => (match cellPV v with | some p => some (true, [p]) | none => none)
 | _, none => none
theorem cellPV_ok {v : Value} {p : PV} (h : cellPV v = some p) (β w S) : rel β w S p.sv v := by
 cases v
 case map r =>
  cases r with
  | none => simp [cellPV] at h; subst h; simp [PV.sv, rel]
  | some _ => simp [cellPV] at h
 all_goals (simp [cellPV] at h <;> subst h <;> simp [PV.sv, rel])
theorem cellPV_sl {v : Value} {s : Nat} {L : List (List PV)} : cellPV v ≠ some (.sl s L) := by
 cases v
 case map r => cases r <;> simp [cellPV]
 all_goals simp [cellPV]
theorem cellPVs_ok : ∀ {l : List Value} {ps : List PV}, cellPVs l = some ps -> ∀ (β w S), relL β w S (ps.map PV.sv) l
 | [], ps, h, β, w, S => by simp [cellPVs] at h; subst h; simp [relL]
 | v :: l, ps, h, β, w, S => by
   simp only [cellPVs] at h
   split at h
   . rename_i p hp
     split at h
     . rename_i r hr
       cases h
       simp only [List.map, relL]
       exact ⟨v, l, rfl, cellPV_ok hp β w S, cellPVs_ok hr β w S⟩
     . cases h
   . cases h
theorem zeroPV_ok {P : Program} {t : TypeId} {zo : Bool} {z : List PV} (h : zeroPV P t = some (zo, z)) : ∃ i zv, P.info? t = some i ∧ i.zero = some zv ∧ ∀ (β : Nat -> Option Base) (w : World) (S : Nat -> Prop), rel β w S (svOf zo z) zv := by
 unfold zeroPV at h
 cases hz : zeroT P t with
 | none => rw [hz] at h; split at h <;> first | (cases h; done) | simp_all
 | some v =>
   obtain ⟨i, hi, hz'⟩ := zeroT_ok hz
   rw [hz] at h
   refine ⟨i, v, hi, hz', ?_⟩
   split at h
   . rename_i e _ hv
     cases hv
     split at h
     . cases h
       intro β w S
       simp only [svOf, PV.sv, rel, relP]
       exact ⟨none, 0, rfl, Nat.le_refl _, fun h => absurd rfl h, fun _ => rfl⟩
     . cases h
   . rename_i cs heq
     cases heq
     split at h
     . rename_i l hl
       cases h
       intro β w S
       simp only [svOf, rel]
       exact ⟨_, rfl, cellPVs_ok hl β w S⟩
     . cases h
   . rename_i v' _ heq _
     cases heq
     split at h
     . rename_i p hp
       cases h
       exact fun β w S => cellPV_ok hp β w S
     . cases h
   . rename_i hv; cases hv
theorem zeroPV_sl {P : Program} {t : TypeId} {zo : Bool} {s : Nat} (h : zeroPV P t = some (zo, [.sl s []])) : ∃ i, P.info? t = some i ∧ i.zero = some (.slice none 0 0) := by
 unfold zeroPV at h
 cases hz : zeroT P t with
 | none => rw [hz] at h; split at h <;> first | (cases h; done) | simp_all
 | some v =>
   obtain ⟨i, hi, hz'⟩ := zeroT_ok hz
   rw [hz] at h
   split at h
   . rename_i e _ hv
     cases hv
     exact ⟨i, hi, hz'⟩
   . rename_i cs heq
     cases heq
     split at h
     . rename_i l hl
       simp only [Option.some.injEq, Prod.mk.injEq] at h
       obtain ⟨_, rfl⟩ := h
       exfalso
       match cs.toList, hl with
       | [], hl => simp [cellPVs] at hl
       | v :: l, hl =>
         simp only [cellPVs] at hl
         split at hl
         . rename_i p hp
           split at hl
           . simp only [Option.some.injEq, List.cons.injEq] at hl
             rw [hl.1] at hp
             exact cellPV_sl hp
           . cases hl
         . cases hl
     . cases h
   . rename_i v' _ heq _
     cases heq
     split at h
     . rename_i p hp
       simp only [Option.some.injEq, Prod.mk.injEq, List.cons.injEq] at h
       rw [h.2.1] at hp
       exact absurd hp cellPV_sl
     . cases h
   . rename_i hv; cases hv
def cell1 : List Value -> Bool
 | [] => true
 | v :: l => match v with
   | .int _ _ => cell1 l
   | .bool _ => cell1 l
   | .string _ => cell1 l
   | .slice none 0 0 => cell1 l
   | _ => false
def zrowPV (P : Program) (e : TypeId) : Option (List PV) :=
 match P.underlying e, zeroT P e with
 | some (.slice f), some (.slice none 0 0) => (match sizeT P f with | some s => some [.sl s []] | none => none)
 | _, some v => cellPVs v.cells.toList
 | _, none => none
def zT (P : Program) (t : TypeId) : Option (Nat × Nat × List PV) :=
 match P.underlying t with
 | some (.slice e) => match P.info? e, zrowPV P e with
   | some i, some z => (match i.zero with
     | some zv => (match Nat.beq zv.cells.size i.size, Nat.beq z.length i.size, Nat.blt 0 i.size, Nat.blt 0 i.bytes, cell1 zv.cells.toList with
       | true, true, true, true, true => some (i.size, i.bytes, z)
       | _, _, _, _, _ => none)
     | none => none)
   | _, _ => none
 | _ => none
theorem cell1_ok : ∀ {l : List Value}, cell1 l = true -> ∀ y ∈ l, y.oneCell' = true
 | [], _, y, h => by cases h
 | v :: l, h, y, hy => by
   simp only [cell1] at h
   have hy2 := List.mem_cons.1 hy
   rcases hy2 with e | hy2
   . subst e
     split at h <;> first | (cases h; done) | simp [Value.oneCell']
   . split at h <;> first | (cases h; done) | exact cell1_ok h y hy2
theorem cellPV_p {v : Value} {p : PV} (h : cellPV v = some p) (w S) : relP w S p v := by
 cases v
 case map r =>
  cases r with
  | none => simp [cellPV] at h; subst h; simp [relP, Value.oneCell']
  | some _ => simp [cellPV] at h
 all_goals (simp [cellPV] at h <;> subst h <;> simp [relP])
theorem cellPVs_p : ∀ {l : List Value} {ps : List PV}, cellPVs l = some ps -> ∀ (w S), relPL w S ps l
 | [], ps, h, w, S => by simp [cellPVs] at h; subst h; simp [relPL]
 | v :: l, ps, h, w, S => by
   simp only [cellPVs] at h
   split at h
   . rename_i p hp
     split at h
     . rename_i r hr
       cases h
       simp only [relPL]
       exact ⟨v, l, rfl, cellPV_p hp w S, cellPVs_p hr w S⟩
     . cases h
   . cases h
theorem zT_ok {P : Program} {t : TypeId} {s b : Nat} {z : List PV} (h : zT P t = some (s, b, z)) : ZOk P t s b z := by
 unfold zT at h
 split at h
 . rename_i e hu
   split at h
   . rename_i i z' hi hz
     split at h
     . rename_i zv hzv
       split at h
       . rename_i h1 h2 h3 h4 h5
         cases h
         refine ⟨e, i, zv, hu, hi, rfl, rfl, hzv, Nat.eq_of_beq_eq_true h1, by rwa [Nat.blt_eq] at h3, by rwa [Nat.blt_eq] at h4, Nat.eq_of_beq_eq_true h2, cell1_ok h5, fun w S => ?_⟩
         have hzt : zeroT P e = some zv := by simp [zeroT, hi, hzv]
         unfold zrowPV at hz
         rw [hzt] at hz
         split at hz
         . rename_i f _ hv
           cases hv
           split at hz
           . cases hz
             simp only [Value.cells, relPL, relP]
             exact ⟨_, [], rfl, ⟨none, 0, rfl, Nat.le_refl _, fun h => absurd rfl h, fun _ => rfl⟩, trivial⟩
           . cases hz
         . rename_i v' heq _
           cases heq
           exact cellPVs_p hz w S
         . rename_i heq; cases heq
       . cases h
     . cases h
   . cases h
 . cases h
def isNilS : Operand -> Bool
 | .const (.slice none 0 0) => true
 | _ => false
theorem isNilS_ok {x : Operand} (h : isNilS x = true) : x = .const (.slice none 0 0) := by
 unfold isNilS at h
 split at h
 . rfl
 . cases h
def isCmp : BinOp -> Bool
 | .eql => true | .neq => true | .lss => true | .leq => true | .gtr => true | .geq => true
 | _ => false
def mapKeyT (P : Program) (t : TypeId) : Option (TypeId × TypeId × Bool × List SK) :=
 match P.underlying t with
 | some (.map K E) => match kindsT P 20 K with | some ks => some (K, E, !isRowT P K, ks) | none => none
 | _ => none
theorem mapKeyT_ok {P : Program} {t K E : TypeId} {one : Bool} {ks : List SK} (h : mapKeyT P t = some (K, E, one, ks)) : P.underlying t = some (.map K E) ∧ KeyOk P K one ks := by
 unfold mapKeyT at h
 split at h
 . rename_i K' E' hu
   split at h
   . rename_i ks' hk
     cases h
     exact ⟨hu, ⟨20, by omega, hk⟩, rfl⟩
   . cases h
 . cases h
def cBin (P : Program) (op : BinOp) (t : TypeId) (x y : Operand) : Option MO :=
 match P.underlying t with
 | some (.int _) => (match isCmp op with | true => some (.cmp op (cX x) (cX y)) | false => some (.ar op (cX x) (cX y)))
 | some .bool => (match op with | .eql => some (.eqb false (cX x) (cX y)) | .neq => some (.eqb true (cX x) (cX y)) | _ => none)
 | some .string => (match op with | .eql => some (.eqt false (cX x) (cX y)) | .neq => some (.eqt true (cX x) (cX y)) | _ => none)
 | some (.slice _) => (match isNilS y with
   | true => (match op with | .eql => some (.nils false (cX x)) | .neq => some (.nils true (cX x)) | _ => none)
   | false => none)
 | _ => (match kindsT P 20 t, isRowT P t, P.eqGuardType P.depth t with
   | some ks, true, false => (match op with | .eql => some (.eqs ks false (cX x) (cX y)) | .neq => some (.eqs ks true (cX x) (cX y)) | _ => none)
   | _, _, _ => none)
def notInt : TypeDesc -> Bool
 | .int _ => false
 | _ => true
def appT (P : Program) (sT xT : TypeId) : Option (Nat × Nat) :=
 match P.underlying sT, P.underlying xT with
 | some (.slice e), some d => match P.info? e with
   | some i => match i.zero with
     | some z => match notInt d, Nat.beq z.cells.size i.size, Nat.blt 0 i.size, Nat.blt 0 i.bytes, Nat.ble i.bytes (2 ^ 20) with
       | true, true, true, true, true => some (i.size, i.bytes)
       | _, _, _, _, _ => none
     | none => none
   | none => none
 | _, _ => none
theorem appT_ok {P : Program} {sT xT : TypeId} {s b : Nat} (h : appT P sT xT = some (s, b)) : AppOk P sT xT s b := by
 unfold appT at h
 split at h
 . rename_i e d hu hx
   split at h
   . rename_i i hi
     split at h
     . rename_i z hz
       split at h
       . rename_i h1 h2 h3 h4 h5
         cases h
         exact ⟨e, i, z, d, hu, hi, rfl, rfl, hz, Nat.eq_of_beq_eq_true h2, by rwa [Nat.blt_eq] at h3, by rwa [Nat.blt_eq] at h4, by simpa using h5, hx, fun k e => by subst e; cases h1⟩
       . cases h
     . cases h
   . cases h
 . cases h
def cCall (P : Program) (c : Call) : Option MO :=
 match c.callee with
 | .value f => some (.call (cX f) (c.args.toList.map cX))
 | .invoke _ _ => none
 | .builtin b => match b, c.args.toList, c.argTypes.toList with
   | .len, [x], [t] => (match P.underlying t with
     | some (.slice _) => some (.lenS (cX x))
     | some .string => some (.lenT (cX x))
     | some (.map _ _) => some (.lenM (cX x))
     | _ => none)
   | .append, [x, y], [sT, xT] => (match appT P sT xT with | some (s, b) => some (.app s b (cX x) (cX y)) | none => none)
   | .min, x :: ys, _ => some (.mm false (cX x) (ys.map cX))
   | .max, x :: ys, _ => some (.mm true (cX x) (ys.map cX))
   | .clear, [x], [t] => (match zT P t with | some (s, _, z) => some (.clr s z (cX x)) | none => none)
   | .delete, [x, y], [t, _] => (match mapKeyT P t with | some (_, _, one, ks) => some (.mdel one ks (cX x) (cX y)) | none => none)
   | _, _, _ => none
def cOp (P : Program) (o : Oper) : Option MO :=
 match o.op with
 | .move x => some (.mv (cX x))
 | .assign x => some (.mv (cX x))
 | .pick c a b => some (.pick (cX c) (cX a) (cX b))
 | .box _ x => some (.box (cX x))
 | .alloc t => (match zeroT P t with | some z => some (.alloc (z.cells.toList.map cV1)) | none => none)
 | .load t x => (match rowN P t with | some n => some (.ld n (cX x)) | none => none)
 | .store t x y => (match sizeT P t, o.dst with | some n, none => some (.st (some n) (cX x) (cX y)) | _, _ => none)
 | .nilCheck x => some (.nchk (cX x))
 | .fieldAddr t x f => (match fldO P t f with | some off => some (.fld off (cX x)) | none => none)
 | .field t x f => (match P.underlying t with
   | some (.struct fs) => (match fs[f]? with
     | some fd => (match rowN P fd.type with | some n => some (.fldv fd.offset n (cX x)) | none => none)
     | none => none)
   | _ => none)
 | .indexAddr t x y => (match P.underlying t with
   | some (.slice e) => (match sizeT P e with | some s => some (.ixa s (cX x) (cX y)) | none => none)
   | some (.array len e) => (match sizeT P e with | some s => some (.ixr len s (cX x) (cX y)) | none => none)
   | _ => none)
 | .index t x y => (match P.underlying t with
   | some (.array len e) => (match sizeT P e, rowN P e with | some s, some n => some (.ixv len s n (cX x) (cX y)) | _, _ => none)
   | some .string => some (.ixs (cX x) (cX y))
   | _ => none)
 | .binOp op t x y _ => cBin P op t x y
 | .unOp op _ x => (match op with | .not => some (.not (cX x)) | op => some (.un op (cX x)))
 | .convert s t x => (match P.underlying s, P.underlying t with | some _, some (.int k) => some (.cv k (cX x)) | _, _ => none)
 | .build t parts => (match bldInfo P t with
   | some (pl, z) => (match cPls pl parts.toList with | some ps => some (.bld (z.cells.toList.map cV1) ps) | none => none)
   | none => none)
 | .buildSlice t len parts => (match P.underlying t with
   | some (.slice e) => (match sizeT P e, zeroT P e with
     | some s, some z => (match Nat.blt 0 s, Nat.ble (len * s) (2 ^ 24), Nat.beq z.cells.size s with
       | true, true, true => some (.bsl s len (z.cells.toList.map cV1) (parts.toList.map fun p => (p.1, cX p.2)))
       | _, _, _ => none)
     | _, _ => none)
   | _ => none)
 | .slice t x lo hi none => (match P.underlying t with
   | some (.slice e) => (match sizeT P e with | some s => some (.sls s (cX x) (oX lo) (oX hi)) | none => none)
   | _ => none)
 | .extract x i => some (.ext i (cX x))
 | .makeFunc f a c => some (.mkf f (a.toList.map cX) (c.toList.map cX))
 | .makeInterface t x => (match P.underlying t with
   | some (.interface _) => none
   | some _ => some (.mki t (cX x))
   | none => none)
 | .makeMap _ none => some .mkm
 | .lookup t x y ok => (match mapKeyT P t with
   | some (_, E, one, ks) => (match zeroPV P E with | some (zo, z) => some (.lkp ok one ks zo z (cX x) (cX y)) | none => none)
   | none => none)
 | .mapUpdate t x y z => (match mapKeyT P t, o.dst with | some (_, _, one, ks), none => some (.mup one ks (cX x) (cX y) (cX z)) | _, _ => none)
 | .insert t x y z => (match mapKeyT P t, o.dst with | some (_, _, one, ks), none => some (.mup one ks (cX x) (cX y) (cX z)) | _, _ => none)
 | .call c => cCall P c
 | .makeSlice t x y => (match zT P t with | some (s, b, z) => some (.mks s b z (cX x) (cX y)) | none => none)
 | .range t x => (match P.underlying t with | some (.map _ _) => some (.rngm (cX x)) | _ => none)
 | .next x isS => (match isS with | false => some (.nxt (cX x)) | true => none)
 | .panic x => some (.pnc (cX x))
 | .entry x => some (.ent (cX x))
 | .slice t x none (some hi) (some mx) => (match P.underlying t with
   | some (.slice e) => (match sizeT P e with | some s => some (.sls3 s (cX x) (cX hi) (cX mx)) | none => none)
   | _ => none)
 | .mapEntry t x y => (match mapKeyT P t with
   | some (_, E, one, ks) => (match zeroPV P E with | some (zo, z) => some (.ment one ks zo z (cX x) (cX y)) | none => none)
   | none => none)
 | .entryStore _ x y z => (match o.dst with | none => some (.mest (cX x) (cX y) (cX z)) | some _ => none)
 | _ => none
theorem cBin_shape {P : Program} {o : Oper} {op : BinOp} {t ty : TypeId} {x y : Operand} {m : MO} (ho : o.op = .binOp op t x y ty) (h : cBin P op t x y = some m) : Shape o m := by
 unfold cBin at h
 refine ⟨fun f xs e => ?_, fun f xs e => ?_, fun z e => ?_, fun z e => ?_, fun op' a b e => ?_, fun op' a b e => ?_⟩ <;> subst e <;> (repeat' (split at h)) <;> first | (cases h; done) | (cases h; exact ⟨_, _, _, _, ho, rfl, rfl⟩)
theorem cCall_shape {P : Program} {o : Oper} {c : Call} {m : MO} (ho : o.op = .call c) (h : cCall P c = some m) : Shape o m := by
 obtain ⟨callee, args, ats⟩ := c
 unfold cCall at h
 refine ⟨fun f xs e => ?_, fun f xs e => ?_, fun z e => ?_, fun z e => ?_, fun op' a b e => ?_, fun op' a b e => ?_⟩ <;> subst e
 . split at h
   . rename_i fx hf
     simp only at hf
     subst hf
     cases h
     exact ⟨fx, args, ats, ho, rfl, rfl⟩
   . cases h
   . (repeat' (split at h)) <;> cases h
 all_goals ((repeat' (split at h)) <;> cases h)
theorem cOp_shape {P : Program} {o : Oper} {m : MO} (h : cOp P o = some m) : Shape o m := by
 unfold cOp at h
 split at h
 case h_13 op t x y ty ho => exact cBin_shape ho h
 case h_26 c ho => exact cCall_shape ho h
 case h_29 x isS ho =>
  split at h
  . cases h
    exact ⟨fun _ _ e => (by cases e), fun _ _ e => (by cases e), fun _ e => (by cases e; exact ⟨x, ho, rfl⟩), fun _ e => (by cases e), fun _ _ _ e => (by cases e), fun _ _ _ e => (by cases e)⟩
  . cases h
 case h_30 x ho =>
  cases h
  exact ⟨fun _ _ e => (by cases e), fun _ _ e => (by cases e), fun _ e => (by cases e), fun _ e => (by cases e; exact ⟨x, ho, rfl⟩), fun _ _ _ e => (by cases e), fun _ _ _ e => (by cases e)⟩
 all_goals
  refine ⟨fun f xs e => ?_, fun f xs e => ?_, fun z e => ?_, fun z e => ?_, fun _ _ _ e => ?_, fun _ _ _ e => ?_⟩ <;> subst e <;> (repeat' (split at h)) <;> cases h
section
variable {C : Ctx} {gt : GT} {go : GO} {o : Oper} {fresh : Nat} {R : List Loc} {v : Option SV} {os : List (Nat × Option SO)} {k : Nat}
theorem cBin_ok {op : BinOp} {t ty : TypeId} {x y : Operand} {m : MO} (ho : o.op = .binOp op t x y ty) (hm : cBin C.P op t x y = some m) (h : (m.rt C.toEnv fresh).Runs gt go R v os k) (hd : DstOk C o.dst v) : OpOk C o fresh gt go v os k := by
 unfold cBin at hm
 split at hm
 . split at hm
   . cases hm; exact ok_cmp ho h hd
   . cases hm; exact ok_ar ho h hd
 . rename_i hu
   split at hm
   . cases hm; exact ok_eqb (neg := false) (by simpa using ho) hu h hd
   . cases hm; exact ok_eqb (neg := true) (by simpa using ho) hu h hd
   . cases hm
 . split at hm
   . cases hm; exact ok_eqt (neg := false) (by simpa using ho) h hd
   . cases hm; exact ok_eqt (neg := true) (by simpa using ho) h hd
   . cases hm
 . rename_i e hu
   split at hm
   . rename_i hn
     have hn := isNilS_ok hn
     subst hn
     split at hm
     . cases hm; exact ok_nils (neg := false) (by simpa using ho) hu h hd
     . cases hm; exact ok_nils (neg := true) (by simpa using ho) hu h hd
     . cases hm
   . cases hm
 . split at hm
   . rename_i ks h1 h2 h3
     split at hm
     . cases hm; exact ok_eqs (neg := false) (by simpa using ho) ⟨⟨20, by omega, h1⟩, h2, h3⟩ h hd
     . cases hm; exact ok_eqs (neg := true) (by simpa using ho) ⟨⟨20, by omega, h1⟩, h2, h3⟩ h hd
     . cases hm
   . cases hm
theorem cCall_ok {c : Call} {m : MO} (ho : o.op = .call c) (hm : cCall C.P c = some m) (h : (m.rt C.toEnv fresh).Runs gt go R v os k) (hd : DstOk C o.dst v) : OpOk C o fresh gt go v os k := by
 obtain ⟨callee, args, ats⟩ := c
 unfold cCall at hm
 split at hm
 . rename_i f hf
   simp only at hf hm
   subst hf
   cases hm
   exact ok_call ho h hd
 . cases hm
 . rename_i b hb
   simp only at hb hm
   subst hb
   split at hm
   . rename_i x t h1 h2
     have h1 : args = #[x] := by rw [<- h1]
     have h2 : ats = #[t] := by rw [<- h2]
     subst h1; subst h2
     split at hm
     . rename_i e hu; cases hm; exact ok_lenS ho ⟨e, hu⟩ h hd
     . rename_i hu; cases hm; exact ok_lenT ho hu h hd
     . rename_i a b hu; cases hm; exact ok_lenM ho ⟨a, b, hu⟩ h hd
     . cases hm
   . rename_i x y sT xT h1 h2
     have h1 : args = #[x, y] := by rw [<- h1]
     have h2 : ats = #[sT, xT] := by rw [<- h2]
     subst h1; subst h2
     split at hm
     . rename_i s b hs; cases hm; exact ok_app ho (appT_ok hs) h hd
     . cases hm
   . rename_i x ys h1
     have h1 : args = (x :: ys).toArray := by rw [<- h1]
     subst h1
     cases hm; exact ok_mm (mx := false) (by simpa using ho) h hd
   . rename_i x ys h1
     have h1 : args = (x :: ys).toArray := by rw [<- h1]
     subst h1
     cases hm; exact ok_mm (mx := true) (by simpa using ho) h hd
   . rename_i x t h1 h2
     have h1 : args = #[x] := by rw [<- h1]
     have h2 : ats = #[t] := by rw [<- h2]
     subst h1; subst h2
     split at hm
     . rename_i hs; cases hm; exact ok_clr ho (zT_ok hs) h hd
     . cases hm
   . rename_i x y sT xT h1 h2
     have h1 : args = #[x, y] := by rw [<- h1]
     have h2 : ats = #[sT, xT] := by rw [<- h2]
     subst h1; subst h2
     split at hm
     . rename_i hs; cases hm; exact ok_mdel ho ⟨_, _, mapKeyT_ok hs⟩ h hd
     . cases hm
   . cases hm
theorem cOp_ok {m : MO} (hm : cOp C.P o = some m) (h : (m.rt C.toEnv fresh).Runs gt go R v os k) (hd : DstOk C o.dst v) : OpOk C o fresh gt go v os k := by
 unfold cOp at hm
 split at hm
 case h_1 x ho => cases hm; exact ok_mv (.inl ho) h hd
 case h_2 x ho => cases hm; exact ok_mv (.inr ho) h hd
 case h_3 c a b ho => cases hm; exact ok_pick ho h hd
 case h_4 t x ho => cases hm; exact ok_box ho h hd
 case h_5 t ho =>
  split at hm
  . rename_i z hz
    obtain ⟨i, hi, hz⟩ := zeroT_ok hz
    cases hm; exact ok_alloc ho hi hz h hd
  . cases hm
 case h_6 t x ho =>
  split at hm
  . rename_i n hn; cases hm; exact ok_ld ho (rowN_ok hn) h hd
  . cases hm
 case h_7 t x y ho =>
  split at hm
  . rename_i n hn hdst
    obtain ⟨i, hi, hs⟩ := sizeT_ok hn
    cases hm; exact ok_st ho (by simp [StOk, hi, hs]) hdst h
  . cases hm
 case h_8 x ho => cases hm; exact ok_nchk ho h hd
 case h_9 t x f ho =>
  split at hm
  . rename_i off hf; cases hm; exact ok_fld ho (fldO_ok hf) h hd
  . cases hm
 case h_10 t x f ho =>
  split at hm
  . rename_i fs hu
    split at hm
    . rename_i fd hf
      split at hm
      . rename_i n hn; cases hm; exact ok_fldv ho ⟨fs, fd, hu, hf, rfl, rowN_ok hn⟩ h hd
      . cases hm
    . cases hm
  . cases hm
 case h_11 t x y ho =>
  split at hm
  . rename_i e hu
    split at hm
    . rename_i s hs
      obtain ⟨i, hi, hs⟩ := sizeT_ok hs
      cases hm; exact ok_ixa ho ⟨e, i, hu, hi, hs⟩ h hd
    . cases hm
  . rename_i len e hu
    split at hm
    . rename_i s hs
      obtain ⟨i, hi, hs⟩ := sizeT_ok hs
      cases hm; exact ok_ixr ho ⟨e, i, hu, hi, hs⟩ h hd
    . cases hm
  . cases hm
 case h_12 t x y ho =>
  split at hm
  . rename_i len e hu
    split at hm
    . rename_i s n hs hn
      obtain ⟨i, hi, hs⟩ := sizeT_ok hs
      cases hm; exact ok_ixv ho ⟨e, i, hu, hi, hs, rowN_ok hn⟩ h hd
    . cases hm
  . rename_i hu; cases hm; exact ok_ixs ho hu h hd
  . cases hm
 case h_13 op t x y ty ho => exact cBin_ok ho hm h hd
 case h_14 op t x ho =>
  split at hm
  . cases hm; exact ok_not ho h hd
  . cases hm; exact ok_un ho h hd
 case h_15 s t x ho =>
  split at hm
  . rename_i d kd h1 h2; cases hm; exact ok_cv ho ⟨d, h1⟩ h2 h hd
  . cases hm
 case h_16 t parts ho =>
  split at hm
  . rename_i pl z hb
    split at hm
    . rename_i ps hp; cases hm; exact ok_bld ho hb (cPls_ok hp) h hd
    . cases hm
  . cases hm
 case h_17 t len parts ho =>
  split at hm
  . rename_i e hu
    split at hm
    . rename_i s z hs hz
      split at hm
      . rename_i h1 h2 h3
        obtain ⟨i, hi, hs⟩ := sizeT_ok hs
        obtain ⟨i', hi', hz⟩ := zeroT_ok hz
        rw [hi] at hi'; cases hi'
        cases hm
        exact ok_bsl ho ⟨e, i, hu, hi, hs, by rwa [Nat.blt_eq] at h1, by simpa using h2, hz, Nat.eq_of_beq_eq_true h3⟩ h hd
      . cases hm
    . cases hm
  . cases hm
 case h_18 t x lo hi ho =>
  split at hm
  . rename_i e hu
    split at hm
    . rename_i s hs
      obtain ⟨i, hi', hs⟩ := sizeT_ok hs
      cases hm; exact ok_sls ho ⟨e, i, hu, hi', hs⟩ h hd
    . cases hm
  . cases hm
 case h_19 x i ho => cases hm; exact ok_ext ho h hd
 case h_20 f a c ho => cases hm; exact ok_mkf ho h hd
 case h_21 t x ho =>
  split at hm
  . cases hm
  . rename_i d hn hu
    cases hm; exact ok_mki ho ⟨d, hu, hn⟩ h hd
  . cases hm
 case h_22 t ho => cases hm; exact ok_mkm ho h hd
 case h_23 t x y ok ho =>
  split at hm
  . rename_i K E one ks hk
    split at hm
    . rename_i zo z hz
      obtain ⟨hT, hK⟩ := mapKeyT_ok hk
      obtain ⟨i, zv, h1, h2, h3⟩ := zeroPV_ok hz
      cases hm; exact ok_lkp ho ⟨_, _, i, zv, hT, hK, h1, h2, h3, fun s e => by subst e; obtain ⟨i', q1, q2⟩ := zeroPV_sl hz; rw [h1] at q1; cases q1; rw [h2] at q2; exact Option.some.inj q2⟩ h hd
    . cases hm
  . cases hm
 case h_24 t x y z ho =>
  split at hm
  . rename_i K E one ks hk hdst
    cases hm; exact ok_mup (.inl ho) ⟨_, _, mapKeyT_ok hk⟩ hdst h
  . cases hm
 case h_25 t x y z ho =>
  split at hm
  . rename_i K E one ks hk hdst
    cases hm; exact ok_mup (.inr ho) ⟨_, _, mapKeyT_ok hk⟩ hdst h
  . cases hm
 case h_26 c ho => exact cCall_ok ho hm h hd
 case h_27 t x y ho =>
  split at hm
  . rename_i s b z hs; cases hm; exact ok_mks ho (zT_ok hs) h hd
  . cases hm
 case h_28 t x ho =>
  split at hm
  . rename_i a b hu; cases hm; exact ok_rngm ho ⟨a, b, hu⟩ h hd
  . cases hm
 case h_29 x isS ho =>
  split at hm
  . cases hm; simp only [MO.rt] at h; cases h
  . cases hm
 case h_30 x ho => cases hm; simp only [MO.rt] at h; cases h
 case h_31 x ho => cases hm; exact ok_ent ho h hd
 case h_32 t x hi mx ho =>
  split at hm
  . rename_i e hu
    split at hm
    . rename_i s hs
      obtain ⟨i, hi', hs⟩ := sizeT_ok hs
      cases hm; exact ok_sls3 ho ⟨e, i, hu, hi', hs⟩ h hd
    . cases hm
  . cases hm
 case h_33 t x y ho =>
  split at hm
  . rename_i K E one ks hk
    split at hm
    . rename_i zo z hz
      obtain ⟨hT, hK⟩ := mapKeyT_ok hk
      obtain ⟨i, zv, h1, h2, h3⟩ := zeroPV_ok hz
      cases hm; exact ok_ment ho ⟨_, _, i, zv, hT, hK, h1, h2, h3, fun s e => by subst e; obtain ⟨i', q1, q2⟩ := zeroPV_sl hz; rw [h1] at q1; cases q1; rw [h2] at q2; exact Option.some.inj q2⟩ h hd
    . cases hm
  . cases hm
 case h_34 t x y z ho =>
  split at hm
  . rename_i hdst
    cases hm; exact ok_mest ho hdst h
  . cases hm
 case h_35 => cases hm
end
def isGuard (i : Nat) : List Oper -> Bool
 | [] => false
 | o :: l => match o.guard with
   | some (j, _) => (match Nat.beq j i with | true => true | false => isGuard i l)
   | none => isGuard i l
def cGuard (all : Array Oper) (o : Oper) : Option (Option (Nat × Bool)) :=
 match o.guard with
 | none => some none
 | some (j, want) => match all[j]? with
   | some oj => match oj.dst with | some t => some (some (t, want)) | none => none
   | none => none
def cOps (P : Program) (all : Array Oper) : List Oper -> Nat -> Option (List MOp)
 | [], _ => some []
 | o :: l, i => match cOp P o, cGuard all o with
   | some m, some g => (match cOps P all l (i + 1) with
     | some r => some (⟨o.dst, m, g, isGuard i all.toList⟩ :: r)
     | none => none)
   | _, _ => none
theorem cOps_ok {C : Ctx} {all : Array Oper} : ∀ {l : List Oper} {i : Nat} {ms : List MOp}, cOps C.P all l i = some ms -> l.length = ms.length ∧ ∀ t (h : t < l.length) (h' : t < ms.length), MOpOk C all l[t] ms[t]
 | [], i, ms, h => by simp [cOps] at h; subst h; exact ⟨rfl, fun t h => by simp at h⟩
 | o :: l, i, ms, h => by
   simp only [cOps] at h
   split at h
   . rename_i m g hm hg
     split at h
     . rename_i r hr
       cases h
       obtain ⟨h1, h2⟩ := cOps_ok hr
       refine ⟨by simp [h1], fun t ht ht' => ?_⟩
       cases t with
       | zero =>
         simp only [List.getElem_cons_zero]
         refine ⟨cOp_shape hm, rfl, ?_, fun h hd => cOp_ok hm h hd⟩
         unfold cGuard at hg
         cases e : o.guard with
         | none => rw [e] at hg; simp at hg; subst hg; rfl
         | some p =>
           obtain ⟨j, want⟩ := p
           rw [e] at hg
           simp only at hg ⊢
           split at hg
           . rename_i oj hj
             split at hg
             . rename_i t ht
               simp at hg
               subst hg
               exact ⟨oj, t, hj, ht, rfl⟩
             . cases hg
           . cases hg
       | succ t => simpa using h2 t (by simpa using ht) (by simpa using ht')
     . cases h
   . cases h
def preOf : List Edge -> List Nat
 | [] => []
 | e :: l => match Region.binds .any e with | true => e.on :: preOf l | false => preOf l
theorem mem_preOf : ∀ {l : List Edge} {p : Nat}, p ∈ preOf l ↔ ∃ e ∈ l, Region.binds .any e = true ∧ e.on = p
 | [], p => by simp [preOf]
 | e :: l, p => by
   simp only [preOf]
   cases h : Region.binds .any e with
   | true =>
     simp only [List.mem_cons, mem_preOf (l := l)]
     constructor
     . rintro (rfl | ⟨e', h1, h2⟩)
       . exact ⟨e, .inl rfl, h, rfl⟩
       . exact ⟨e', .inr h1, h2⟩
     . rintro ⟨e', rfl | h1, h2, h3⟩
       . exact .inl h3.symm
       . exact .inr ⟨e', h1, h2, h3⟩
   | false =>
     simp only [mem_preOf (l := l), List.mem_cons]
     constructor
     . rintro ⟨e', h1, h2⟩; exact ⟨e', .inr h1, h2⟩
     . rintro ⟨e', rfl | h1, h2⟩
       . rw [h] at h2; cases h2.1
       . exact ⟨e', h1, h2⟩
def allLt (i : Nat) : List Nat -> Bool
 | [] => true
 | p :: l => match Nat.blt p i with | true => allLt i l | false => false
def cPre : List Oper -> Nat -> Option (List (List Nat))
 | [], _ => some []
 | o :: l, i => match allLt i (preOf o.after.toList) with
   | true => (match cPre l (i + 1) with | some r => some (preOf o.after.toList :: r) | none => none)
   | false => none
theorem allLt_iff {i : Nat} : ∀ {l : List Nat}, allLt i l = true -> ∀ p ∈ l, p < i
 | [], _, p, h => by cases h
 | q :: l, h, p, hp => by
   simp only [allLt] at h
   split at h
   . rename_i hq
     rw [Nat.blt_eq] at hq
     rcases List.mem_cons.1 hp with rfl | hp
     . exact hq
     . exact allLt_iff h p hp
   . cases h
theorem cPre_ok : ∀ {l : List Oper} {i : Nat} {pre : List (List Nat)}, cPre l i = some pre -> (∀ (j : Nat) (o : Oper), l[j]? = some o -> pre.getD j [] = preOf o.after.toList ∧ ∀ p ∈ preOf o.after.toList, p < i + j) ∧ ∀ j, l.length ≤ j -> pre.getD j [] = []
 | [], i, pre, h => by simp [cPre] at h; subst h; exact ⟨fun j o h => by simp at h, fun j _ => by simp⟩
 | o :: l, i, pre, h => by
   simp only [cPre] at h
   split at h
   . rename_i hlt
     split at h
     . rename_i r hr
       cases h
       obtain ⟨h1, h2⟩ := cPre_ok hr
       refine ⟨fun j o' hj => ?_, fun j hj => ?_⟩
       . cases j with
         | zero => simp at hj; subst hj; exact ⟨by simp, allLt_iff hlt⟩
         | succ j =>
           obtain ⟨q1, q2⟩ := h1 j o' (by simpa using hj)
           exact ⟨by simpa using q1, fun p hp => by have := q2 p hp; omega⟩
       . cases j with
         | zero => simp at hj
         | succ j => simpa using h2 j (by simpa using hj)
     . cases h
   . cases h
theorem cPre_drw {ops : Array Oper} {pre : List (List Nat)} (h : cPre ops.toList 0 = some pre) : DrwOk ops pre := by
 obtain ⟨h1, h2⟩ := cPre_ok h
 refine ⟨fun j o hj p => ?_, fun j p hp => ?_⟩
 . obtain ⟨q1, _⟩ := h1 j o (by simpa using hj)
   rw [q1, mem_preOf]
   simp
 . by_cases hj : j < ops.size
   . obtain ⟨q1, q2⟩ := h1 j ops[j] (by simp [hj])
     rw [q1] at hp
     have := q2 p hp
     omega
   . rw [h2 j (by simp; omega)] at hp; cases hp
def comp (P : Program) : Code -> Option MC
 | .skip => some .skip
 | .region _ ops drawn => match cOps P ops ops.toList 0 with
   | some ms => (match drawn with
     | false => some (.reg ms)
     | true => match cPre ops.toList 0 with | some pre => some (.drw ms pre) | none => none)
   | none => none
 | .seq a b => match comp P a, comp P b with | some a, some b => some (.seq a b) | _, _ => none
 | .cond x a b => match comp P a, comp P b with | some a, some b => some (.cond (cX x) a b) | _, _ => none
 | .block id a => match comp P a with | some a => some (.blk id a) | none => none
 | .loop a => match comp P a with | some a => some (.loop 0 a) | none => none
 | .exit id => some (.exit id)
 | .ret => some .ret
 | .rangeFunc f ps a b => match comp P a, comp P b with | some a, some b => some (.rng (cX f) ps.toList a b 0 0 .skip) | _, _ => none
 | _ => none
def stripM : MO -> MO
 | .arl op x y => .ar op x y
 | .cmpl op x y => .cmp op x y
 | .pcall f xs => .call f xs
 | m => m
def stripOps : List MOp -> List MOp
 | [] => []
 | m :: l => { m with m := stripM m.m } :: stripOps l
theorem stripOps_len : ∀ (l : List MOp), (stripOps l).length = l.length
 | [] => rfl
 | m :: l => by simp [stripOps, stripOps_len l]
theorem stripOps_get : ∀ (l : List MOp) (t : Nat) (h : t < l.length) (h' : t < (stripOps l).length), (stripOps l)[t] = { l[t] with m := stripM l[t].m }
 | [], t, h, _ => by simp at h
 | m :: l, 0, _, _ => rfl
 | m :: l, t + 1, h, h' => by
   simp only [stripOps, List.getElem_cons_succ]
   exact stripOps_get l t (by simpa using h) (by simpa [stripOps] using h')
theorem MOpOk.lit {C : Ctx} {ops : Array Oper} {o : Oper} {m : MOp} (h : MOpOk C ops o { m with m := stripM m.m }) : MOpOk C ops o m := by
 obtain ⟨d, mm, g, sp⟩ := m
 cases mm
 case arl op x y =>
  obtain ⟨t, ox, oy, ty, ho, rfl, rfl⟩ := h.sh.ar _ _ _ rfl
  exact ⟨⟨fun _ _ e => (by cases e), fun _ _ e => (by cases e), fun _ e => (by cases e), fun _ e => (by cases e), fun _ _ _ e => (by cases e), fun _ _ _ e => (by cases e)⟩, h.d, h.g, fun hr hd => ok_arl ho hr hd⟩
 case cmpl op x y =>
  obtain ⟨t, ox, oy, ty, ho, rfl, rfl⟩ := h.sh.cmp _ _ _ rfl
  exact ⟨⟨fun _ _ e => (by cases e), fun _ _ e => (by cases e), fun _ e => (by cases e), fun _ e => (by cases e), fun _ _ _ e => (by cases e), fun _ _ _ e => (by cases e)⟩, h.d, h.g, fun hr hd => ok_cmpl ho hr hd⟩
 case pcall f xs =>
  obtain ⟨fx, ax, ats, ho, rfl, rfl⟩ := h.sh.call _ _ rfl
  exact ⟨⟨fun _ _ e => (by cases e), fun _ _ e => (by cases e; exact ⟨fx, ax, ats, ho, rfl, rfl⟩), fun _ e => (by cases e), fun _ e => (by cases e), fun _ _ _ e => (by cases e), fun _ _ _ e => (by cases e)⟩, h.d, h.g, fun hr hd => by simp only [MO.rt] at hr; cases hr⟩
 all_goals exact h
theorem RegOk.lit {C : Ctx} {ops : Array Oper} {l : List MOp} (h : RegOk C ops (stripOps l)) : RegOk C ops l := by
 refine ⟨by rw [h.len, stripOps_len], fun t ht ht' => ?_⟩
 obtain ⟨o, h1, h2⟩ := h.ok t ht (by rw [stripOps_len]; exact ht')
 rw [stripOps_get l t ht'] at h2
 exact ⟨o, h1, h2.lit⟩
def strip : MC -> MC
 | .seq a b => .seq (strip a) (strip b)
 | .join _ a b => .seq (strip a) (strip b)
 | .cond x a b => .cond x (strip a) (strip b)
 | .blk id a => .blk id (strip a)
 | .loop _ a => .loop 0 (strip a)
 | .rng f ps a b _ _ _ => .rng f ps (strip a) (strip b) 0 0 .skip
 | .gh _ a => strip a
 | .skip => .skip
 | .reg l => .reg (stripOps l)
 | .drw l p => .drw (stripOps l) p
 | .exit i => .exit i
 | .ret => .ret
structure ItOk (P : Program) (n N : Nat) (it : MC) : Prop where
 ok : ∃ fn code, P.funcs[n]? = some fn ∧ fn.body = some code ∧ fn.ntmps = N ∧ comp P code = some (strip it) ∧ fn.results = #[]
 ent : Enters P n
def Its (P : Program) : MC -> Prop
 | .seq a b => Its P a ∧ Its P b
 | .join _ a b => Its P a ∧ Its P b
 | .cond _ a b => Its P a ∧ Its P b
 | .blk _ a => Its P a
 | .loop _ a => Its P a
 | .rng _ _ a b n N it => Its P a ∧ Its P b ∧ ItOk P n N it ∧ Its P it
 | .gh _ a => Its P a
 | _ => True
theorem comp_region {P : Program} {id : Nat} {ops : Array Oper} {drawn : Bool} {mc : MC} (h : comp P (.region id ops drawn) = some mc) : McOk P (.region id ops drawn) mc := by
 simp only [comp] at h
 split at h
 . rename_i ms hms
   have hr : ∀ C : Ctx, C.P = P -> RegOk C ops ms := fun C hP => by
    subst hP
    obtain ⟨h1, h2⟩ := cOps_ok hms
    exact ⟨by simpa using h1, fun t ht ht' => ⟨ops[t], by simp [ht], by have := h2 t (by simpa using ht) ht'; simpa using this⟩⟩
   split at h
   . cases h; exact .reg hr
   . split at h
     . rename_i pre hp; cases h; exact .drw hr (cPre_drw hp)
     . cases h
 . cases h
theorem comp_ok {P : Program} : ∀ {mc : MC} {code : Code}, comp P code = some (strip mc) -> Its P mc -> McOk P code mc := by
 intro mc
 induction mc with
 | gh g a ih => intro code h hi; exact .gh (ih h hi)
 | skip => intro code h _; cases code <;> simp only [comp, strip] at h <;> (try (repeat' (split at h)) <;> cases h) <;> exact .skip
 | reg l =>
   intro code h _
   cases code
   case region id ops drawn =>
    simp only [strip] at h
    have := comp_region h
    cases this with
    | reg hr => exact .reg fun C hC => (hr C hC).lit
   all_goals (simp only [comp, strip] at h; (repeat' (split at h)) <;> cases h)
 | drw l p =>
   intro code h _
   cases code
   case region id ops drawn =>
    simp only [strip] at h
    have := comp_region h
    cases this with
    | drw hr hd => exact .drw (fun C hC => (hr C hC).lit) hd
   all_goals (simp only [comp, strip] at h; (repeat' (split at h)) <;> cases h)
 | seq a b ih1 ih2 =>
   intro code h hi
   cases code
   case seq x y =>
    simp only [comp, strip] at h
    split at h
    . rename_i a' b' h1 h2; cases h; exact .seq (ih1 h1 hi.1) (ih2 h2 hi.2)
    . cases h
   all_goals (simp only [comp, strip] at h; (repeat' (split at h)) <;> cases h)
 | join n a b ih1 ih2 =>
   intro code h hi
   cases code
   case seq x y =>
    simp only [comp, strip] at h
    split at h
    . rename_i a' b' h1 h2; cases h; exact .join (ih1 h1 hi.1) (ih2 h2 hi.2)
    . cases h
   all_goals (simp only [comp, strip] at h; (repeat' (split at h)) <;> cases h)
 | cond x a b ih1 ih2 =>
   intro code h hi
   cases code
   case cond c y z =>
    simp only [comp, strip] at h
    split at h
    . rename_i a' b' h1 h2; cases h; exact .cond (ih1 h1 hi.1) (ih2 h2 hi.2)
    . cases h
   all_goals (simp only [comp, strip] at h; (repeat' (split at h)) <;> cases h)
 | blk id a ih =>
   intro code h hi
   cases code
   case block i y =>
    simp only [comp, strip] at h
    split at h
    . rename_i a' h1; cases h; exact .blk (ih h1 hi)
    . cases h
   all_goals (simp only [comp, strip] at h; (repeat' (split at h)) <;> cases h)
 | loop n a ih =>
   intro code h hi
   cases code
   case loop y =>
    simp only [comp, strip] at h
    split at h
    . rename_i a' h1; cases h; exact .loop (ih h1 hi)
    . cases h
   all_goals (simp only [comp, strip] at h; (repeat' (split at h)) <;> cases h)
 | exit i => intro code h _; cases code <;> simp only [comp, strip] at h <;> (try (repeat' (split at h)) <;> cases h) <;> exact .exit
 | ret => intro code h _; cases code <;> simp only [comp, strip] at h <;> (try (repeat' (split at h)) <;> cases h) <;> exact .ret
 | rng f ps a b n N it ih1 ih2 ih3 =>
   intro code h hi
   cases code
   case rangeFunc g qs x y =>
    simp only [comp, strip] at h
    split at h
    . rename_i a' b' h1 h2
      cases h
      obtain ⟨i1, i2, i3, i4⟩ := hi
      obtain ⟨fn, code, e1, e2, e3, e4, e5⟩ := i3.ok
      exact .rng (ih1 h1 i1) (ih2 h2 i2) e1 e2 e3 e5 i3.ent (ih3 e4 i4)
    . cases h
   all_goals (simp only [comp, strip] at h; (repeat' (split at h)) <;> cases h)
def cRV (P : Program) : ResultVar -> Option RV
 | .tmp t => some (.t t)
 | .cell a t => match rowN P t with | some n => some (.c a n) | none => none
def cRVs (P : Program) : List ResultVar -> Option (List RV)
 | [] => some []
 | r :: l => match cRV P r, cRVs P l with | some v, some vs => some (v :: vs) | _, _ => none
theorem cRVs_ok {P : Program} : ∀ {l : List ResultVar} {vs : List RV}, cRVs P l = some vs -> RVsOk P l vs
 | [], vs, h => by simp [cRVs] at h; simp [RVsOk, h]
 | r :: l, vs, h => by
   simp only [cRVs] at h
   split at h
   . rename_i v vs' h1 h2
     cases h
     refine ⟨v, vs', rfl, ⟨?_⟩, cRVs_ok h2⟩
     cases r with
     | tmp t => simp [cRV] at h1; subst h1; rfl
     | cell a t =>
       simp only [cRV] at h1
       split at h1
       . rename_i n hn; cases h1; exact ⟨rfl, rowN_ok hn⟩
       . cases h1
   . cases h
structure FnOk (P : Program) (f : FuncId) (N : Nat) (mc : MC) (rs : List RV) : Prop where
 ok : ∃ fn code, P.funcs[f]? = some fn ∧ fn.body = some code ∧ fn.ntmps = N ∧ comp P code = some (strip mc) ∧ cRVs P fn.results.toList = some rs
 its : Its P mc
 ent : Enters P f
def noPS : STab := fun _ _ _ => .fail
theorem noPS_ok (E : Value -> Ending) (P : Program) (G : Nat -> Option SV) : SOkE E P G noPS := fun _ _ _ _ _ _ _ _ _ h => by cases h
theorem fn_spec {P : Program} {G : Nat -> Option SV} {f : FuncId} {N : Nat} {mc : MC} {rs : List RV} (hmix : P.follows .mixedOrders = true) (hf : FnOk P f N mc rs) (L : LSpec) (hN : Nat.ble L.args.length N = true) (hout : Nat.beq L.out.length L.foot.length = true)
 {S : STab} (hS : SOk P G S) (LA : Nat -> LAnn) (JA : Nat -> JAnn)
 (h : fTs (idxd L.args 0) fun t => fOs (idxd (somes L.foot) 0) fun o => fNat L.foot.length fun nx => run ⟨P, G, N, none, nx, none, S, LA, JA, noPS⟩ mc ⟨t, o, nx⟩ (retK rs L)) : LSpec.ok P G f L := by
  rw [fTs_eq, fOs_eq, fNat_eq] at h
  obtain ⟨fn, code, h1, h2, rfl, h4, h5⟩ := hf.ok
  exact spec_ok hmix h1 h2 hf.ent (comp_ok h4 hf.its) (cRVs_ok h5) (by simpa using hN) (Nat.eq_of_beq_eq_true hout) hS LA JA (noPS_ok _ _ _) h
theorem enters_of {P : Program} {f : FuncId} {fn : Func} {c : Code} (hf : P.funcs[f]? = some fn) (hname : (fn.name == "runtime.NumGoroutine") = false) (hb : fn.body = some c) : Enters P f := by
 intro args w
 have h1 : fn.name ≠ "runtime.NumGoroutine" := by simpa using hname
 simp [callFunc, hf, h1, hb, mark]
theorem FnOk.of {P : Program} {f : FuncId} {fn : Func} {N : Nat} {mc : MC} {rs : List RV} (hf : P.funcs[f]? = some fn) (hname : (fn.name == "runtime.NumGoroutine") = false) (hN : fn.ntmps = N)
 (hc : (match fn.body with | some c => comp P c | none => none) = some (strip mc)) (hr : cRVs P fn.results.toList = some rs) (hi : Its P mc) : FnOk P f N mc rs := by
  cases hb : fn.body with
  | none => rw [hb] at hc; cases hc
  | some c =>
    rw [hb] at hc
    exact ⟨⟨fn, c, hf, hb, hN, hc, hr⟩, hi, enters_of hf hname hb⟩
theorem FnOk.it {P : Program} {f : FuncId} {N : Nat} {mc : MC} (h : FnOk P f N mc []) : ItOk P f N mc := by
 obtain ⟨fn, code, h1, h2, h3, h4, h5⟩ := h.ok
 refine ⟨⟨fn, code, h1, h2, h3, h4, ?_⟩, h.ent⟩
 cases hl : fn.results.toList with
 | nil => simpa using hl
 | cons x l =>
   rw [hl] at h5
   simp only [cRVs] at h5
   (repeat' (split at h5)) <;> cases h5
theorem i64_in {n : Int} (h1 : -9223372036854775808 ≤ n) (h2 : n < 9223372036854775808) : (ULift.up n).down = IntKind.i64.wrap n := by
 show n = IntKind.i64.wrap n
 exact (IntWalk.i64_in n ⟨h1, by omega⟩).symm
theorem exI {α : Sort _} {p q : α -> Prop} {x : α} (h : p x) (k : q x) : ∃ x, p x ∧ q x := ⟨x, h, k⟩
abbrev SFn := List SV -> (LSpec -> RT) -> RT
def FnS (P : Program) (G : Nat -> Option SV) (f : FuncId) (sf : SFn) : Prop := ∀ args k gt go R v os n, (sf args k).Runs gt go R v os n -> ∃ L R', LSpec.ok P G f L ∧ (k L).Runs gt go R' v os n
def tabS (l : List (FuncId × SFn)) : STab := fun f args k => match look f l with | some sf => sf args k | none => .fail
def Tab (P : Program) (G : Nat -> Option SV) : List (FuncId × SFn) -> Prop
 | [] => True
 | (f, sf) :: l => FnS P G f sf ∧ Tab P G l
theorem Tab.ok {P : Program} {G : Nat -> Option SV} : ∀ {l : List (FuncId × SFn)}, Tab P G l -> SOk P G (tabS l) := by
 intro l h f args k gt go R v os n hr
 unfold tabS at hr
 split at hr
 . rename_i sf hs
   have : ∀ (l : List (FuncId × SFn)), Tab P G l -> look f l = some sf -> FnS P G f sf := by
    intro l
    induction l with
    | nil => intro _ h; simp [look] at h
    | cons p l ih =>
      obtain ⟨g, sg⟩ := p
      intro h1 h2
      rw [look_cons] at h2
      by_cases e : g = f
      . subst e; rw [if_pos rfl] at h2; cases h2; exact h1.1
      . rw [if_neg e] at h2; exact ih h1.2 h2
   exact this l h hs args k gt go R v os n hr
 . cases hr
theorem aj {p q : Prop} (k : q) (h : p := by first | with_reducible rfl | exact ⟨by with_reducible rfl, by with_reducible rfl⟩ | exact (show noConf _ _ = true by kernel_rfl) | exact rfl | exact ⟨rfl, rfl⟩ | decide | omega) : Sd p ∧ q := ⟨⟨h⟩, k⟩
theorem w3 {p : Prop} (h : p := by first | exact ⟨trivial, trivial, trivial⟩ | (refine ⟨rfl, ?_⟩; simp; first | done | fail) | (simp [Rows.len]; first | done | fail)) : p := h
theorem nx {p q : Prop} (h : p -> False := by (with_reducible intro h); first | exact (bcon h (by with_reducible assumption)).elim | exact (bcon (by with_reducible assumption) h).elim | exact (bcon3 h (by with_reducible assumption)).elim | exact (bcon3 (by with_reducible assumption) h).elim | exact (bcon4 h (by with_reducible assumption)).elim | exact (bcon4 (by with_reducible assumption) h).elim | exact absurd (by with_reducible assumption) h | exact absurd h (by with_reducible assumption) | exact absurd h (by decide) | (revert h; simp; first | done | fail)) : p -> q := fun a => (h a).elim
theorem ny {p q : Prop} (h : p -> False := by (with_reducible intro h); first | exact absurd h (by decide) | (revert h; simp; first | done | fail)) : p -> q := fun a => (h a).elim
abbrev oo (d : Nat) (m : MO) : MOp := ⟨some d, m, none, false⟩
abbrev om (d s : Nat) : MOp := ⟨some d, .mv (.t s), none, false⟩
theorem ai {p q : Prop} (h : p) (k : q) : Sd p ∧ q := And.intro (Sd.mk h) k
theorem tv : True := trivial
theorem fk {P : Program} {f : FuncId} {fn : Func} {N : Nat} {mc : MC} {rs : List RV} (hf : P.funcs[f]? = some fn) (hi : Its P mc) (h1 : (fn.name == "runtime.NumGoroutine") = false := by kernel_rfl) (h2 : fn.ntmps = N := by kernel_rfl) (h3 : (match fn.body with | some c => comp P c | none => none) = some (strip mc) := by kernel_rfl) (h4 : cRVs P fn.results.toList = some rs := by kernel_rfl) : FnOk P f N mc rs := .of hf h1 h2 h3 h4 hi
abbrev o (d : Option Nat) (m : MO) : MOp := ⟨d, m, none, false⟩
abbrev os (d : Option Nat) (m : MO) : MOp := ⟨d, m, none, true⟩
abbrev og (t : Nat) (b : Bool) (d : Option Nat) (m : MO) : MOp := ⟨d, m, some (t, b), false⟩
abbrev ogs (t : Nat) (b : Bool) (d : Option Nat) (m : MO) : MOp := ⟨d, m, some (t, b), true⟩
abbrev ki (n : Int) : X := .k (.int .i64 n)
abbrev kt : X := .k .tt
abbrev kf : X := .k .ff
abbrev kz (n : Int) : SV := .int .i64 n
end Go.Sx
