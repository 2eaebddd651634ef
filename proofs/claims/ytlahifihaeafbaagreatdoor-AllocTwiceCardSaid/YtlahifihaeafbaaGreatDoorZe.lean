/- Part 5 of 11 of a proof of the law AllocTwice: what the last part leans on. -/
import Derived.Test.YtlahifihaeafbaaGreatDoorZd
import Derived.RangeFuncLeaves
import Derived.RangeFuncRecord
import Derived.RangeFuncFrom
set_option linter.all false
set_option maxRecDepth 100000
namespace Go.Sx
open Go
theorem zfo {F : Fence} {n : Nat} {P : Program} {fn : Func} {tmps : Array Value} {R : Ending -> World -> Prop} : ∀ (ds : List Deferred) (w : World), ds.Nodup -> (∀ d ∈ ds, ∃ D, d = { target := .collected D, args := #[] } /\ w.heap[D]? = some (.deferred (some []))) →
 (∀ w' : World, w'.heap.size = w.heap.size -> w'.os = w.os -> w'.tape = w.tape -> w'.output = w.output -> (∀ b, { target := .collected b, args := #[] } ∉ ds -> w'.heap[b]? = w.heap[b]?) →
  ∃ v, (results fn tmps).run P w' = .ok v w' /\ R (.returned v) w') -> LeavesInM F n P fn tmps R ds .returning w
  | [], w, _, _, h => h w rfl rfl rfl rfl (fun _ _ => rfl)
  | d :: ds, w, hnd, hd, h => by
    obtain ⟨D, rfl, hD⟩ := hd d (by simp)
    have hlt := (Array.getElem?_eq_some_iff.1 hD).1
    have hnd' := List.nodup_cons.1 hnd
    have hput : ∀ b, b ≠ D -> (w.putObj D (.deferred none)).heap[b]? = w.heap[b]? := fun b hb => World.putObj_heap_other hb
    refine ⟨by simp, .inl ⟨D, _, rfl, run_takeDeferred hD, zfo ds _ hnd'.2 (fun d' hd' => ?_) (fun w' h1 h2 h3 h4 h5 => ?_)⟩⟩
    . obtain ⟨D', rfl, hD'⟩ := hd d' (by simp [hd'])
      refine ⟨D', rfl, (hput D' (fun e => ?_)).trans hD'⟩
      subst e
      exact hnd'.1 hd'
    . refine h w' (h1.trans (by simp [World.putObj])) h2 h3 h4 (fun b hb => ?_)
      simp only [List.mem_cons, not_or] at hb
      exact (h5 b hb.2).trans (hput b (fun e => hb.1 (by rw [e])))
theorem zah.undf {C : Ctx} {gt go β own S a w} (H : zah C gt go β own S a w) {w' : World} (h1 : w'.heap.size = w.heap.size) (h2 : w'.os = w.os) (h3 : w'.tape = w.tape) (h4 : w'.output = w.output)
 {ms : List Deferred} (hdf : zlF C.w0.heap.size go own S ms w)
 (h5 : ∀ b, { target := .collected b, args := #[] } ∉ ms -> w'.heap[b]? = w.heap[b]?) : zah C gt go β own S { a with defers := C.dt } w' := by
  have mark : ∀ b, { target := .collected b, args := #[] } ∈ ms -> C.w0.heap.size <= b /\ ¬ S b /\ ∀ id, (go id).isSome -> ¬ own id b := fun b hb => by
   obtain ⟨D, e1, e2, e3, e4, e5⟩ := hdf.at_ _ hb
   injection e1 with e1
   injection e1 with e1
   subst e1
   exact ⟨e2, e4, e5⟩
  have x : Ext β w S β w' S := ⟨fun _ _ e => e, fun _ e => e, fun b hb => h5 b (fun e => (mark b e).2.1 hb)⟩
  refine ⟨fun t s e => zaH x _ _ (H.tm t s e), ⟨fun id o e => ?_, H.mem.sep, H.mem.st, fun b hb => by rw [h1]; exact H.mem.sz b hb⟩, ⟨h2.trans H.fr.os, h3.trans H.fr.tape, h4.trans H.fr.output, by rw [h1]; exact H.fr.size, fun k hk hx => ?_⟩,
   H.own0, H.s0, H.s1, H.n, ⟨⟨by rw [<- H.df.2, znp]; simp, fun d hd => by rw [<- H.df.2, znp] at hd; cases hd⟩, by rw [<- H.df.2, ztI]⟩, fun g s e => zaH ⟨fun _ _ e => e, fun _ e => e, x.heap⟩ _ _ (H.gl g s e)⟩
  . obtain ⟨B, hB, ho⟩ := H.mem.obj id o e
    exact ⟨B, hB, ho.ext x (fun b hb => h5 b (fun q => (mark b q).2.2 id (by simp [e]) hb))⟩
  . rw [h5 k (fun e => by have := (mark k e).1; omega)]
    exact H.fr.block k hk hx
def zfL (tmps : Array Value) : ResultVar -> Sem Value
 | .tmp t => pure (tmps.getD t undef)
 | .cell a t => do loadVar t (<- asAddr (tmps.getD a undef))
def ziZ (xs : List Value) : Value := match xs with | [x] => x | xs => .tuple xs.toArray
theorem zkr {P : Program} {fn : Func} {tmps : Array Value} {w : World} {xs : List Value} (h : (fn.results.toList.mapM (zfL tmps)).run P w = .ok xs w) :
 (results fn tmps).run P w = .ok (ziZ xs) w := by
  have hm : (fn.results.mapM (zfL tmps)).run P w = .ok xs.toArray w := by
   rw [Array.mapM_eq_mapM_toList]
   simp [h]
  have hres : results fn tmps = (do let vs <- fn.results.mapM (zfL tmps); pure (if h : vs.size = 1 then vs[0] else .tuple vs)) := rfl
  rw [hres]
  simp only [Sem.run_bind, hm, Result.andThen_ok, Sem.run_pure]
  match xs with
  | [] => simp [ziZ]
  | [x] => simp [ziZ]
  | x :: y :: r => simp [ziZ]
section
variable {C : Ctx} {gt : GT} {go : GO} {β : Nat -> Option zay} {own : Nat -> Nat -> Prop} {S : Nat -> Prop} {a : Act} {w : World}
theorem zah.drop (H : zah C gt go β own S a w) (id : Nat) : zah C gt (upd go id none) β own S a w := by
 have hs : ∀ i, (upd go id none i).isSome -> (go i).isSome := fun i hi => by
  by_cases e : i = id
  . subst e; simp at hi
  . rwa [zab _ _ e] at hi
 exact ⟨H.tm, H.mem.drop id, H.fr, fun i b h1 h2 => H.own0 i b (hs i h1) h2, H.s0, H.s1, H.n, let ⟨hdf, hms⟩ := H.df; ⟨⟨hdf.nd, fun d hd => let ⟨D, h1, h2, h3, h4, h5⟩ := hdf.at_ d hd; ⟨D, h1, h2, h3, h4, fun i hi => h5 i (hs i hi)⟩⟩, hms⟩, H.gl⟩
theorem zah.push (H : zah C gt go β own S a w) (ob : Obj) : zah C gt go β own S a (w.alloc ob) := by
 have hlt : ∀ b, b < w.heap.size -> (w.alloc ob).heap[b]? = w.heap[b]? := fun b hb => by
  show (w.heap.push ob)[b]? = _; rw [Array.getElem?_push, if_neg (by omega)]
 have x : Ext β w S β (w.alloc ob) S := ⟨fun _ _ e => e, fun _ e => e, fun b hb => hlt b (H.mem.sz b hb)⟩
 have hm : zaw β own S go (w.alloc ob) := by
  refine ⟨fun id o e => ?_, H.mem.sep, H.mem.st, fun b hb => ?_⟩
  . obtain ⟨B, h1, h2⟩ := H.mem.obj id o e
    exact ⟨B, h1, h2.ext x (fun b hb => hlt b (h2.lt b hb))⟩
  . have := H.mem.sz b hb; show b < (w.heap.push ob).size; simp; omega
 exact H.step x hm ⟨rfl, rfl, rfl, by show w.heap.size <= (w.heap.push ob).size; simp, fun k hk _ => hlt k hk⟩ (fun id b e1 e2 => .inl ⟨id, e1, e2⟩) (fun b e => .inl e) none undef none (fun d s e => by cases e) (fun _ => .inl rfl)
theorem zk1 (H : zah C gt go β own S a w) {C' : Ctx} {s' : St} {β' own' S' a' w'} (H' : zaA C' s' β' own' S' a' w')
 (e1 : C'.w0 = w) (e2 : C'.X0 = za9 go own) (e3 : C'.S0 = S) (e4 : ∀ i B, β i = some B -> C'.β0 i = some B) (e5 : ∀ i, C'.m0 <= i -> C'.β0 i = none) :
 ∃ β'', (∀ i B, β' i = some B -> β'' i = some B) /\ (∀ i, i < C'.m0 -> β'' i = C'.β0 i) /\ (∀ i, s'.nx <= i -> β'' i = none) /\ zah C gt (zax s'.o) β'' own' S' a w' := by
  have hw : ∀ i B, β' i = some B -> (if i < C'.m0 then C'.β0 i else β' i) = some B := fun i B e => by
   by_cases h : i < C'.m0
   . rw [if_pos h]; exact H'.b0 i B h e
   . rw [if_neg h]; exact e
  refine ⟨fun i => if i < C'.m0 then C'.β0 i else β' i, hw, fun i hi => if_pos hi, fun i hi => ?_, ?_⟩
  . have := H'.m0
    show (if i < C'.m0 then C'.β0 i else β' i) = none
    rw [if_neg (by omega)]
    exact H'.fresh i hi
  . have hm := H'.h.mem.widen hw
    have hS : ∀ b, S b -> S' b := fun b hb => H'.h.s0 b (by rw [e3]; exact hb)
    have hfr : Fr (za9 go own) w w' := by rw [<- e1, <- e2]; exact H'.h.fr
    have x : Ext β w S (fun i => if i < C'.m0 then C'.β0 i else β' i) w' S' := ⟨fun i B e => by
     have h4 := e4 i B e
     by_cases h : i < C'.m0
     . simp only [if_pos h]; exact h4
     . rw [e5 i (by omega)] at h4; exact absurd h4 (by simp), hS, fun b hb => hfr.block b (H.mem.sz b hb) (fun ⟨i, q1, q2⟩ => H.mem.st i b q1 q2 hb)⟩
    exact H.step x hm hfr (fun id b h1 h2 => by have := H'.h.own0 id b h1 h2; rw [e1, e2] at this; exact this) (fun b hb => by have := H'.h.s1 b hb; rw [e1, e2, e3] at this; exact this) none undef none
     (fun d s e => by cases e) (fun _ => .inl rfl)
end
def rdX (t : List (Nat × SV)) : X -> Option SV
 | .t n => zav n t
 | .k v => some v
 | .g _ => none
def zoz (t : List (Nat × SV)) : List X -> (List SV -> Prop) -> Prop
 | [], K => K []
 | x :: xs, K => match rdX t x with | none => False | some v => zoz t xs fun vs => K (v :: vs)
def zmu (N : Nat) (d : Option Nat) (v : SV) (t : List (Nat × SV)) (K : List (Nat × SV) -> Prop) : Prop :=
 match d with
 | none => K t
 | some d => match Nat.blt d N with | false => False | true => fSV v fun v => K ((d, v) :: t)
def zsW (E : Env) (y : YRn) (d : Option Nat) (xs : List X) (s : St) (K : Ex -> St -> Prop) : Prop :=
 match s with
 | ⟨t, o, nx⟩ => zoz t xs fun vs => y.run vs o nx fun b o nx => zmu E.N d (match b with | true => .tt | false => .ff) t fun t => K .nrm ⟨t, o, nx⟩
def zsK (E : Env) (d : Option Nat) (x : X) (s : St) (K : Ex -> St -> Prop) : Prop :=
 match s with
 | ⟨t, o, nx⟩ => match rdX t x with
   | some (.ptr rid idx sub) => match zax o rid with
     | some (.itr id) => match zax o id with
       | some (.map M es (some (rid', left, _))) => match Nat.beq rid rid' with
         | false => False
         | true => Sd (idx = 0 /\ sub = 0) /\ (∀ k v, (k, v) ∈ es -> k ∈ left -> zmu E.N d (.tup [.tt, zaS M.one (M.ek k), zaS M.vone (M.ev v)]) t fun t => K .nrm ⟨t, (id, some (.map M es (some (rid, zaB M k left, some k)))) :: o, nx⟩) ∧
           ((∀ p ∈ es, p.1 ∉ left) -> zmu E.N d (.tup [.ff]) t fun t => K .nrm ⟨t, o, nx⟩)
       | _ => False
     | _ => False
   | _ => False
def zsP (E : Env) (f : X) (xs : List X) (s : St) (K : Ex -> St -> Prop) : Prop :=
 match s with
 | ⟨t, o, nx⟩ => (zls E E.PS f xs nx).vc (zaM t) (zax o) [] fun _ v os k => match v with
   | none => False
   | some v => fSV v fun v => zb5 (nx + k) fun nx => K (.pan v) ⟨t, zeR o os, nx⟩
def zot (E : Env) (op : MOp) (s : St) (K : Ex -> St -> Prop) : Prop :=
 match op.m with
 | .nxt x => (match op.g with | none => zsK E op.d x s K | some _ => False)
 | .pnc x => (match op.g with | none => (match rdX s.t x with | some (.ifc t v) => K (.pan (.ifc t v)) s | _ => False) | some _ => False)
 | .pcall f xs => (match op.g with | none => ∃ p : Prop, (p -> zsP E f xs s K) /\ (¬ p -> zkm E { op with m := .call f xs } s (K .nrm)) | some _ => False)
 | .call f xs => (match E.Y with
   | none => zkm E op s (K .nrm)
   | some y => match rdX s.t f with
     | some (.fn (.yield l) [] _) => (match op.g with | none => Sd (l = y.l) /\ zsW E y op.d xs s K | some _ => False)
     | _ => zkm E op s (K .nrm))
 | _ => zkm E op s (K .nrm)
def Ex.then (f : St -> Prop) (K : Ex -> St -> Prop) : Ex -> St -> Prop
 | .nrm, s => f s
 | .exit i, s => K (.exit i) s
 | .ret, s => K .ret s
 | .pan v, s => K (.pan v) s
def zik (E : Env) : List MOp -> St -> (Ex -> St -> Prop) -> Prop
 | [], s, K => K .nrm s
 | o :: r, s, K => zot E o s (Ex.then (fun s => zik E r s K) K)
def post (C : Ctx) (K : Ex -> St -> Prop) : Exit -> Act -> World -> Prop
 | .normal, a, w => ∃ s β own S, K .nrm s /\ zaA C s β own S a w
 | .exit id, a, w => ∃ s β own S, K (.exit id) s /\ zaA C s β own S a w
 | .ret, a, w => ∃ s β own S, K .ret s /\ zaA C s β own S a w
 | .panic ch, a, w => ∃ s β own S v x, ch = [{ v := x, recovered := false }] /\ K (.pan v) s /\ zaA C s β own S a w /\ rel β w S v x
 | _, _, _ => False
def YOk (C : Ctx) (y : YRn) : Prop := ∀ vs t o nx K, y.run vs o nx K -> ∀ β own S a w (xs : List Value), zaA C ⟨t, o, nx⟩ β own S a w -> zam β w S vs xs →
 ∃ f tmps assign body, (Instr.yield y.l xs.toArray).run C.P w = .ok (.round y.l f tmps assign body) w ∧
  RoundIn (Wf C.rnd) 0 C.P y.l f tmps assign body w (fun e w' => ∃ b o' nx' β' own' S', e = .returned (.bool b) /\ K b o' nx' /\ zaA C ⟨t, o', nx'⟩ β' own' S' a w')
theorem zdK {C : Ctx} {s : St} {β own S a w} (H : zaA C s β own S a w) {x : Operand} {v : SV} (h : rdX s.t (cX x) = some v) : rel β w S v (a.eval x) := by
 cases x with
 | tmp t => exact H.h.tm t v h
 | const c => simp only [cX, rdX, Option.some.injEq] at h; subst h; exact zpD c
 | global g => simp [cX, rdX] at h
 | func f => simp only [cX, rdX, Option.some.injEq] at h; subst h; simp [rel, zam, Act.eval]
theorem zmA {C : Ctx} {s : St} {β own S a w} (H : zaA C s β own S a w) : ∀ {xs : List Operand} {K : List SV -> Prop}, zoz s.t (xs.map cX) K -> ∃ vs, K vs /\ zam β w S vs (xs.map a.eval)
 | [], K, h => ⟨[], h, by simp [zam]⟩
 | x :: xs, K, h => by
   simp only [List.map, zoz] at h
   split at h
   . exact h.elim
   . rename_i v hv
     obtain ⟨vs, h1, h2⟩ := zmA H h
     exact ⟨v :: vs, h1, by simp only [List.map, zam]; exact ⟨_, _, rfl, zdK H hv, h2⟩⟩
theorem zmw {C : Ctx} {t : List (Nat × SV)} {o : List (Nat × Option SO)} {nx : Nat} {β own S a w} (H : zaA C ⟨t, o, nx⟩ β own S a w) {d : Option Nat} {v : SV} {x : Value} {K : List (Nat × SV) -> Prop}
 (h : zmu C.N d v t K) (hv : rel β w S v x) : ∃ t', K t' /\ zaA C ⟨t', o, nx⟩ β own S (a.put d x) w := by
  cases d with
  | none => exact ⟨t, h, H⟩
  | some d =>
    simp only [zmu] at h
    split at h
    . exact h.elim
    . rename_i hb
      rw [zeZ] at h
      have hlt : d < C.N := by rw [Nat.blt_eq] at hb; exact hb
      refine ⟨_, h, ⟨?_, H.fresh, H.m0, H.b0⟩⟩
      simp only [zfW]
      have := H.h.pure (w' := w) rfl rfl rfl rfl (some d) x (some (d, v)) (fun d' s' e => by cases e; exact ⟨rfl, hlt, hv⟩) (fun e => by cases e)
      exact this
theorem zcK {i : Nat} {x : Option SO} {l : List (Nat × Option SO)} : zax ((i, x) :: l) = upd (zax l) i x := by
 funext j
 simp only [zax, zaI, upd]
 by_cases h : i = j
 . subst h; simp
 . rw [if_neg h, if_neg (fun e => h e.symm)]
theorem ziB {r : Option Nat} {P : Program} {o : Oper} {a : Act} {w w' : World} {next : Act -> World -> Prop} {Q : Exit -> Act -> World -> Prop} {x : Value}
 (hd : ∀ c, o.op ≠ .defer c) (hr : (execOp a.eval o).run P w = .ok (.value x) w') (h : next (a.put o.dst x) w') : o.wpIn (Wf r) 0 P a w next Q := zbU hd hr h
theorem zrK {C : Ctx} (hY : ∀ y, C.Y = some y -> YOk C y) {ops : Array Oper} {o : Oper} {m : MOp} (hm : zdi C ops o m) {s : St} {K : Ex -> St -> Prop} (h : zot C.toEnv m s K) {β own S a w} (H : zaA C s β own S a w)
 {next : Act -> World -> Prop} {Q : Exit -> Act -> World -> Prop} (hn : ∀ s' β' own' S' a' w', K .nrm s' -> zaA C s' β' own' S' a' w' -> next a' w')
 (hq : ∀ v x s' β' own' S' a' w', K (.pan v) s' -> zaA C s' β' own' S' a' w' -> rel β' w' S' v x -> Q (.panic [{ v := x, recovered := false }]) a' w') :
 if Region.wanted o (yielded ops a.tmps) then o.wpIn (Wf C.rnd) 0 C.P a w next Q else next (a.put o.dst undef) w := by
  obtain ⟨st, so, snx⟩ := s
  unfold zot at h
  split at h
  . rename_i x hx
    split at h
    . rename_i hg
      have hw := (zdE H.h hm).1 hg
      rw [if_pos hw]
      obtain ⟨ox, ho, rfl⟩ := hm.sh.nxt _ hx
      simp only [zsK] at h
      split at h
      . rename_i rid idx sub hp
        split at h
        . rename_i id hi
          split at h
          . rename_i M es rid' left cur hmap
            split at h
            . exact h.elim
            . rename_i hbq
              have hrr := Nat.eq_of_beq_eq_true hbq
              subst hrr
              obtain ⟨⟨rfl, rfl⟩, hk1, hk2⟩ := h
              have hpr := zdK H hp
              simp only [rel] at hpr
              obtain ⟨Br, r, hBr, hr, he⟩ := hpr
              obtain ⟨Bi', hBi', _, Bm, hBm⟩ := H.h.mem.obj _ _ hi
              obtain ⟨B, hB, b, ents, clock, hblk, hown, hb, hrel, ⟨hnd, hbp, hbl⟩, B', r', seen, q1, q2, q3, q4, q5, q6, q7⟩ := H.h.mem.obj _ _ hmap
              rw [hBr] at q1; cases q1
              rw [hr] at q2; cases q2
              have he' : a.eval ox = .pointer (some ⟨r, 0, none⟩) := by rw [he]; simp
              have hlen := zge hrel
              rcases zmY (P := C.P) w o.type r b clock seen ents q5 hb hbl with ⟨hall, hrun⟩ | ⟨e, hemem, hens, w1, g1, g2, g3, g4, hrun⟩
              . have hover : ∀ p ∈ es, p.1 ∉ left := fun p hp => by
                 obtain ⟨i, hi', rfl⟩ := List.mem_iff_getElem.1 hp
                 have hi2 : i < ents.toList.length := by omega
                 have := (q6 i ents.toList[i] es[i].1 es[i].2 (by simp) (by simp [hi'])).1 (hall _ (List.getElem_mem hi2))
                 exact this
                obtain ⟨t', hk, H'⟩ := zmw H (hk2 hover) (x := .tuple #[.bool false]) (by simp [rel, zam])
                rw [hm.d] at H'
                exact ziB (x := .tuple #[.bool false]) (w' := w) (by simp [ho]) (by simp [execOp, ho, he', hrun]) (hn _ _ _ _ _ _ hk H')
              . obtain ⟨i, hi1, hi2⟩ := List.mem_iff_getElem.1 hemem
                have hi3 : i < es.length := by omega
                have hke : es[i]? = some (es[i].1, es[i].2) := by simp [hi3]
                have hme : ents.toList[i]? = some e := by simp only [List.getElem?_eq_getElem hi1, hi2]
                have hkl : es[i].1 ∈ left := by
                 have := q6 i e _ _ hme hke
                 apply Classical.byContradiction
                 intro hn'
                 exact hens (this.2 hn')
                obtain ⟨m', hm', hkr, hvr⟩ := zce hrel i _ _ hke
                rw [hme] at hm'; cases hm'
                have hlt : r < w.heap.size := (Array.getElem?_eq_some_iff.1 q5).1
                have hset : ∀ j, j ≠ r -> w1.heap[j]? = w.heap[j]? := fun j hj => by
                 rw [g1, Array.getElem?_setIfInBounds, if_neg (fun e => hj e.symm)]
                have hset' : w1.heap[r]? = some (.mapIter (some b) clock (seen.push e.born) clock) := by
                 rw [g1]; simp [hlt]
                have hbinj : ∀ (i' : Nat) m', ents.toList[i']? = some m' -> m'.born = e.born -> i' = i := fun i' m' h1 h2 => by
                 have hnb : (ents.toList.map (·.born)).Nodup := hbp.imp (fun h => Nat.ne_of_lt h)
                 have e1 : (ents.toList.map (·.born))[i']? = some e.born := by rw [List.getElem?_map, h1]; simp [h2]
                 have e2 : (ents.toList.map (·.born))[i]? = some e.born := by rw [List.getElem?_map, hme]; rfl
                 exact (List.getElem?_inj (List.getElem?_eq_some_iff.1 e1).1 hnb).1 (e1.trans e2.symm)
                have H2 := H.h.set hmap (w' := w1) hB (by rw [g1]; simp) (fun j hj => hset j (fun e => hj (e ▸ q3))) g2 g3 g4 (o := .map M es (some (rid, zaB M es[i].1 left, some es[i].1))) (fun xx => by
                 refine ⟨b, ents, clock, hblk, ⟨hown.1, fun y hy => ?_⟩, (hset b (fun e => q4 e.symm)).trans hb, zbJ xx M _ _ hrel, ⟨hnd, hbp, hbl⟩, Br, r, seen.push e.born, hBr, hr, q3, q4, hset', fun i' m' k' v' h1 h2 => ?_, fun k' e' => ?_⟩
                 . by_cases e : y = r
                   . subst e; simp [hset']
                   . rw [hset y e]; exact hown.2 y hy
                 . rw [Array.mem_push, q6 i' m' k' v' h1 h2, zbW]
                   constructor
                   . rintro (h3 | h3) ⟨h4, h5⟩
                     . exact h3 h4
                     . have := hbinj i' m' h1 h3
                       subst this
                       rw [hke] at h2; cases h2
                       exact h5 rfl
                   . intro h3
                     by_cases h4 : k' = es[i].1
                     . right
                       subst h4
                       have e1 : (es.map (·.1))[i']? = some es[i].1 := by simp [h2]
                       have e2 : (es.map (·.1))[i]? = some es[i].1 := by simp [hi3]
                       have := (List.getElem?_inj (List.getElem?_eq_some_iff.1 e1).1 hnd).1 (e1.trans e2.symm)
                       subst this
                       rw [hme] at h1; cases h1; rfl
                     . exact .inl (fun h5 => h3 ⟨h5, h4⟩)
                 . cases e'; exact ⟨i, e, es[i].2, hme, hke, by simp⟩) none undef none (fun d s e => by cases e) (fun _ => .inl rfl)
                have H3 : zaA C ⟨st, (id, some (.map M es (some (rid, zaB M es[i].1 left, some es[i].1)))) :: so, snx⟩ β own S a w1 := ⟨by simp only [zcK]; exact H2, H.fresh, H.m0, H.b0⟩
                have xx : Ext β w S β w1 S := ⟨fun _ _ e => e, fun _ e => e, fun q hq => hset q (fun e => by subst e; exact H.h.mem.st id q (by simp [hmap]) q3 hq)⟩
                obtain ⟨t', hk, H'⟩ := zmw (d := m.d) (K := fun t => K .nrm ⟨t, (id, some (.map M es (some (rid, zaB M es[i].1 left, some es[i].1)))) :: so, snx⟩) H3
                 (hk1 _ _ (List.getElem_mem hi3) hkl) (x := .tuple #[.bool true, e.key, e.val]) (by
                  simp only [rel, zam]
                  exact ⟨_, rfl, _, _, rfl, rfl, _, _, rfl, zaH xx _ _ hkr, _, _, rfl, zaH xx _ _ hvr, rfl⟩)
                rw [hm.d] at H'
                exact ziB (by simp [ho]) (by simp [execOp, ho, he', hrun]) (hn _ _ _ _ _ _ hk H')
          . exact h.elim
        . exact h.elim
      . exact h.elim
    . exact h.elim
  . rename_i x hx
    split at h
    . rename_i hg
      have hw := (zdE H.h hm).1 hg
      rw [if_pos hw]
      obtain ⟨ox, ho, rfl⟩ := hm.sh.pnc _ hx
      split at h
      . rename_i t v hv
        have hr := zdK H hv
        have hr' := hr
        simp only [rel] at hr'
        obtain ⟨y, hy, _⟩ := hr'
        refine ⟨fun _ _ => trivial, ?_⟩
        rw [Oper.semAt_eq _ _ _ (by simp [ho])]
        have hrun : (execOp a.eval o).run C.P w = .halt (.panic (.iface t y)) w := by
         simp [execOp, ho, hy, Instr.panic, goPanic, Sem.run, Sem.run_bind, Result.andThen]
        rw [hrun]
        exact hq _ _ _ β own S a w h H (by rw [<- hy]; exact hr)
      . exact h.elim
    . exact h.elim
  . rename_i f xs hx
    split at h
    . rename_i hg
      have hw := (zdE H.h hm).1 hg
      obtain ⟨fx, ax, ats, ho, rfl, rfl⟩ := hm.sh.pcall _ _ hx
      obtain ⟨p, hp1, hp2⟩ := h
      by_cases hp : p
      . rw [if_pos hw]
        have h := hp1 hp
        simp only [zsP] at h
        obtain ⟨R, v, os, k, hr, hc⟩ := RT.runs_of_vc _ _ _ h
        obtain ⟨s, rfl, hcall⟩ := zkH panicked C.psok ho hr
        simp only [zeZ, zbf] at hc
        refine hcall β own S a w H.h (fun i h1 _ => H.fresh i h1) next Q (fun β' own' S' x w' h1 h2 h3 => ⟨fun y e => (by cases e), fun ch e => ?_, fun e => (by cases e)⟩)
        cases e
        have H' := h3 none x none (fun d s' e => by cases e) (fun _ => .inl rfl)
        simp only [zbe] at H'
        have hm0 : C.m0 <= snx := H.m0
        refine hq s x ⟨st, zeR so os, snx + k⟩ β' own' S' a w' hc ⟨by simp only [zfD]; exact H', fun i hi => ?_, ?_, fun i B hi e => ?_⟩ h2
        . have hi : snx + k <= i := hi
          rw [h1 i (by omega)]; exact H.fresh i (by show snx <= i; omega)
        . show C.m0 <= snx + k
          omega
        . rw [h1 i (by omega)] at e; exact H.b0 i B hi e
      . have hm' : zdi C ops o { m with m := .call (cX fx) (ax.toList.map cX) } := ⟨⟨fun f xs e => (by cases e; exact ⟨fx, ax, ats, ho, rfl, rfl⟩), fun _ _ e => (by cases e), fun _ e => (by cases e), fun _ e => (by cases e), fun _ _ _ e => (by cases e), fun _ _ _ e => (by cases e)⟩, hm.d, hm.g, fun hr hd => znt ho hr hd⟩
        exact zif hm' (hp2 hp) H hn
    . exact h.elim
  . rename_i f xs hx
    split at h
    . exact zif hm h H hn
    . rename_i y hy
      split at h
      . rename_i l fc hf
        split at h
        . rename_i hg
          have hw := (zdE H.h hm).1 hg
          rw [if_pos hw]
          obtain ⟨⟨rfl⟩, h⟩ := h
          obtain ⟨fx, ax, ats, ho, rfl, rfl⟩ := hm.sh.call _ _ hx
          have hfr := zdK H hf
          simp only [rel] at hfr
          obtain ⟨va, vc, hfe, hra, hrc⟩ := hfr
          simp only [zsW] at h
          obtain ⟨vs, hrun, hvs⟩ := zmA H h
          obtain ⟨f, tmps, assign, body, hyr, hround⟩ := hY y hy vs st so snx _ hrun β own S a w _ H hvs
          refine ⟨fun _ _ => trivial, ?_⟩
          have hva : va = #[] := by simp [zam] at hra; exact hra
          have hex : (execOp a.eval o).run C.P w = .ok (.round y.l f tmps assign body) w := by
           simp only [execOp, ho, resolve, hfe, Deferred.ofValue, invoke, Sem.run_bind, Sem.run_pure, Result.andThen_ok, hva]
           have e : (#[] ++ Array.map a.eval ax : Array Value) = (List.map a.eval ax.toList).toArray := by apply Array.toList_inj.1; simp
           rw [e]; exact hyr
          rw [Oper.semAt_eq _ _ _ (by simp [ho]), hex]
          refine ⟨fun e => by simp [Wf, Fence.wide] at e, ?_⟩
          refine hround.mono ?_
          rintro e w' ⟨b, o', nx', β', own', S', rfl, hk, H'⟩
          obtain ⟨t', hk, H''⟩ := zmw (x := .bool b) H' hk (by cases b <;> simp [rel])
          rw [hm.d] at H''
          exact hn _ _ _ _ _ _ hk H''
        . exact h.elim
      . exact zif hm h H hn
  . exact zif hm h H hn
structure zpZ (P : Program) (sT xT : TypeId) (s by_ : Nat) : Prop where
 ok : ∃ e i z k, P.underlying sT = some (.slice e) /\ P.info? e = some i /\ i.size = s /\ i.bytes = by_ /\ i.zero = some z /\ z.cells.size = s /\ 0 < s /\ 0 < by_ /\ by_ <= 2 ^ 20 /\ P.underlying xT = some (.int k)
section
open Builtin
theorem zjQ {P : Program} {w : World} {sT xT ty : TypeId} {s by_ : Nat} (ha : zpZ P sT xT s by_) {n : Nat} {k : IntKind} (h0 : 0 < n) (hb : n * by_ <= 2 ^ 46) :
 ∃ c T w', ∃ Z : Array Value, n <= c /\ (append_ #[sT, xT] ty #[.slice none 0 0, .int k n]).run P w = .ok (.slice (some ⟨w.heap.size, 0, none⟩) n c) w' ∧
  w'.heap = w.heap.push (.cells Z T) /\ w'.os = w.os /\ w'.tape = w.tape /\ w'.output = w.output /\ Z.size = c * s := by
  obtain ⟨e, i, z, kk, a1, a2, a3, a4, a5, a6, a7, a8, a9, a10⟩ := ha.ok
  have hs : ∀ w, (sizeOf e).run P w = .ok s w := fun w => by simp [sizeOf, typeInfo, a2, a3]
  have hti : ∀ w, (typeInfo e).run P w = .ok i w := fun w => by simp [typeInfo, a2]
  have hz : ∀ w, (zeroValue e).run P w = .ok z w := fun w => by simp [zeroValue, typeInfo, a2, a5]
  have hn : n <= 2 ^ 46 := Nat.le_trans (Nat.le_mul_of_pos_right n a8) hb
  have hw : IntKind.i64.wrap (n : Int) = n := zj0 (by omega) (by omega)
  have hai : (asInt (.int k (n : Int))).run P w = .ok (n : Int) w := by simp [asInt, asIntOf]
  have hgt : 0 < 0 + n := by omega
  have hcap : ¬ nextslicecap (0 + n) 0 * i.bytes > 2 ^ 48 := by
   have h4 := zfY hgt
   have h5 : nextslicecap (0 + n) 0 * by_ <= (2 * (0 + n) + 192) * by_ := Nat.mul_le_mul_right _ h4
   rw [a4]
   have h6 : (2 * (0 + n) + 192) * by_ = 2 * (n * by_) + 192 * by_ := by rw [Nat.zero_add, Nat.add_mul, Nat.mul_assoc]
   omega
  have hbig : ¬ ((n : Int) * (i.bytes : Int) > 2 ^ 48) := by
   rw [a4]
   have : ((n : Int) * (by_ : Int)) = ((n * by_ : Nat) : Int) := by rw [Int.natCast_mul]
   rw [this]; omega
  let q : Question := .appendCap (0 + n) 0 e
  let c := q.cut (w.tape w.drawn q)
  let w1 : World := { w with drawn := w.drawn + 1 }
  have hc : 0 + n <= c := Nat.le_add_right _ _
  have hch : (choose q).run P w = .ok c w1 := by simp [choose, Sem.run, q, Question.forced, c, w1]
  refine ⟨c, e, { w1 with heap := w.heap.push (.cells (#[] ++ zeroCells z.cells n ++ zeroCells z.cells (c - (0 + n))) e) }, #[] ++ zeroCells z.cells n ++ zeroCells z.cells (c - (0 + n)), by omega, ?_, rfl, rfl, rfl, rfl, by simp [zeroCells, a6]; rw [<- Nat.add_mul]; congr 1; omega⟩
  have hroom : ∀ m, (askRoom m).run P w1 = .ok () w1 := fun m => by unfold askRoom; split <;> simp [mark, Sem.run]
  have hold : (firstCells s 0 (.slice none 0 0)).run P w1 = .ok #[] w1 := zaN (.inl rfl)
  have hnle : ¬ 0 + n <= 0 := by omega
  have hneg : ¬ ((n : Int) < 0) := by omega
  have hns : ¬ n * s = 0 := by
   intro h
   rcases Nat.mul_eq_zero.1 h with h | h <;> omega
  have hmax : ¬ (((0 + n : Nat) : Int) > IntKind.i64.max) := by
   have : IntKind.i64.max = 9223372036854775807 := by decide
   rw [this]; omega
  have hrun : (append_ #[sT, xT] ty #[.slice none 0 0, .int k n]).run P w = ((newRow e (#[] ++ zeroCells z.cells n ++ zeroCells z.cells (c - (0 + n)))).run P w1).andThen fun a w => .ok (.slice (some a) (0 + n) c) w := by
   unfold append_
   simp only [List.getElem?_toArray, List.getElem?_cons_zero, List.getElem?_cons_succ, Sem.run_bind, run_underlying a1, run_underlying a10, Result.andThen_ok, hs, Sem.run_pure, hai, hw, hneg, hti, hbig, Int.toNat_natCast, Bool.not_true, Bool.false_eq_true, if_false, if_true, hnle, hmax, false_and, hcap, hns]
   rw [show Question.appendCap (0 + n) 0 e = q from rfl]
   simp only [hch, Result.andThen_ok, hroom, hold, hz]
  rw [hrun]
  simp [newRow, newObj, Sem.run, w1]
  exact ⟨rfl, rfl, rfl⟩
end
section
variable {C : Ctx} {gt : GT} {go : GO} {o : Oper} {fresh : Nat} {R : List Loc} {v : Option SV} {os : List (Nat × Option SO)} {k : Nat}
theorem ztK {t : TypeId} {x : Operand} (ho : o.op = .call { callee := .builtin .cap, args := #[x], argTypes := #[t] }) (hl : ∃ e, C.P.underlying t = some (.slice e))
 (h : (MO.rt C.toEnv fresh (.capN (cX x))).Runs gt go R v os k) (hd : zau C o.dst v) : zaD C o fresh gt go v os k := by
  simp only [MO.rt] at h
  replace h := zap h
  obtain ⟨sx, R1, h, hx⟩ := h
  obtain ⟨e, hl⟩ := hl
  split at h
  . cases h with
    | req hp h =>
      subst hp
      obtain ⟨rfl, rfl, rfl⟩ := zat h
      refine zaJ (by simp [ho]) hd fun {β own S a w} H => ?_
      have h1 := hx H
      simp only [rel] at h1
      have hz : (Builtin.cap_ #[t] o.type #[a.eval x]).run C.P w = .ok (goInt 0) w := by rw [h1]; simp [Builtin.cap_, run_underlying hl]
      exact ⟨_, by simp [execOp, ho, resolve, invoke, builtin, hz]; rfl, by simp [rel, goInt]⟩
  . cases h
theorem ztJ {sT xT : TypeId} {s by_ : Nat} {x y : Operand} (ho : o.op = .call { callee := .builtin .append, args := #[x, y], argTypes := #[sT, xT] }) (ha : zpZ C.P sT xT s by_)
 (h : (MO.rt C.toEnv fresh (.appz s by_ (cX x) (cX y))).Runs gt go R v os k) (hd : zau C o.dst v) : zaD C o fresh gt go v os k := by
  simp only [MO.rt] at h
  replace h := zap h
  obtain ⟨sx, R1, h, hx⟩ := h
  replace h := zap h
  obtain ⟨sy, R2, h, hy⟩ := h
  split at h
  . rename_i vv kk n
    cases h with
    | req hp h =>
      obtain ⟨rfl, h0, hb⟩ := hp
      cases h with
      | done =>
        refine ze3 (so := zai.so s (.inr [])) (by simp [ho]) hd fun {β own S a w} H => ?_
        have h1 := hx H
        have h2 := hy H
        simp only [rel] at h1 h2
        obtain ⟨m, rfl⟩ := Int.eq_ofNat_of_zero_le (Int.le_of_lt h0)
        obtain ⟨c, T, w', Z, p1, p2, p3, p4, p5, p6, p7⟩ := zjQ (P := C.P) (w := w) (ty := o.type) ha (n := m) (k := kk) (by omega) (by omega)
        refine ⟨_, w', _, ⟨some w.heap.size, s, c⟩, zek ho (by rw [h1, h2]; exact p2), p3, p4, p5, p6, fun ex => ⟨?_, ?_⟩⟩
        . exact zeM (b := w.heap.size) (arr := Z) (T := T) rfl rfl rfl (by rw [p3]; simp) p7 (by simp [zai.len]) (by simp [zbM, zaq])
        . simp only [rel, zac]
          exact ⟨_, rfl, 0, c, by simp, by simpa using p1, by simp, .inr (by simp)⟩
  . cases h
end
section
open Builtin
theorem zku {P : Program} {w : World} {dT sT ty e : TypeId} {i : TypeInfo} {s : Nat} (hu : P.underlying dT = some (.slice e)) (hi : P.info? e = some i) (hs : i.size = s) {dLen dCap m : Nat} {x : Value}
 (hl : (lenOf x).run P w = .ok m w) {cs : Array Value} (hc : (firstCells s (min m dLen) x).run P w = .ok cs w) : (copy_ #[dT, sT] ty #[.slice none dLen dCap, x]).run P w = .ok (goInt (min m dLen : Nat)) w := by
  have hz : (sizeOf e).run P w = .ok s w := by simp [sizeOf, typeInfo, hi, hs]
  have hc' : (firstCells s (Nat.min m dLen) x).run P w = .ok cs w := hc
  simp [copy_, run_underlying hu, hl, hz, hc']
theorem zhg {P : Program} {w w' : World} {dT sT ty e : TypeId} {i : TypeInfo} {s : Nat} (hu : P.underlying dT = some (.slice e)) (hi : P.info? e = some i) (hs : i.size = s) {a : Addr} {dLen dCap m : Nat} {x : Value}
 (hl : (lenOf x).run P w = .ok m w) {cs : Array Value} (hc : (firstCells s (min m dLen) x).run P w = .ok cs w) (hst : (storeCells a cs.toList).run P w = .ok () w') :
 (copy_ #[dT, sT] ty #[.slice (some a) dLen dCap, x]).run P w = .ok (goInt (min m dLen : Nat)) w' := by
  have hz : (sizeOf e).run P w = .ok s w := by simp [sizeOf, typeInfo, hi, hs]
  have hc' : (firstCells s (Nat.min m dLen) x).run P w = .ok cs w := hc
  simp [copy_, run_underlying hu, hl, hz, hc', hst]
end
section
variable {C : Ctx} {gt : GT} {go : GO} {o : Oper} {fresh : Nat} {R : List Loc} {v : Option SV} {os : List (Nat × Option SO)} {k : Nat}
def zyl (C : Ctx) (gt : GT) (go : GO) (y : Operand) (s : Nat) (M : List (List PV)) : Prop :=
 ∀ {β own S a w}, zah C gt go β own S a w -> ∃ V : List Value, V.length = M.length * s /\ zaq w S s M V /\ (∀ v ∈ V, v.oneCell' = true) ∧
  (Builtin.lenOf (a.eval y)).run C.P w = .ok M.length w /\ ∀ n, n <= M.length -> (Builtin.firstCells s n (a.eval y)).run C.P w = .ok (V.take (n * s)).toArray w
theorem zo5 {C : Ctx} {s : Nat} {M : List (List PV)} {w : World} {S : Nat -> Prop} {b off len cap : Nat} {arr : Array Value} {T : TypeId} {fz : Nat × Nat} (hl : M.length = len) (hw : w.heap[b]? = some (.cells arr T fz)) (hr : zaq w S s M (arr.toList.drop off)) (h0 : M ≠ []) :
 ∃ V : List Value, V.length = M.length * s /\ zaq w S s M V /\ (∀ v ∈ V, v.oneCell' = true) ∧
  (Builtin.lenOf (.slice (some ⟨b, off, none⟩) len cap)).run C.P w = .ok M.length w /\ ∀ n, n <= M.length -> (Builtin.firstCells s n (.slice (some ⟨b, off, none⟩) len cap)).run C.P w = .ok (V.take (n * s)).toArray w := by
  obtain ⟨o1, o2⟩ := zcN s _ _ hr
  rw [List.length_drop] at o2
  have ha : arr.toList.length = arr.size := Array.length_toList ..
  refine ⟨(arr.toList.drop off).take (M.length * s), by rw [List.length_take, List.length_drop]; omega, zbD s _ _ _ hr (by rw [List.take_take, Nat.min_self]), o1, by simp [Builtin.lenOf, hl], fun n hn => ?_⟩
  have hns : n * s <= M.length * s := Nat.mul_le_mul_right _ hn
  by_cases hz : n * s = 0
  . rw [hz]
    simp [Builtin.firstCells, hz, loadCells, loadCellsFrom]
  . have := zcf (P := C.P) (w := w) (s := s) (n := n) (cap := cap) hw (off := off) (by omega)
    rw [List.take_take, Nat.min_eq_left hns]
    have e : ∀ n' c', Builtin.firstCells s n (.slice (some ⟨b, off, none⟩) n' c') = Builtin.firstCells s n (.slice (some ⟨b, off, none⟩) n cap) := fun _ _ => rfl
    rw [e]; exact this
theorem zof {y : Operand} {s : Nat} {sy : SV} {f : List (List PV) -> RT} (hy : ∀ {β own S a w}, zah C gt go β own S a w -> rel β w S sy (a.eval y))
 (h : (zl4 s sy f).Runs gt go R v os k) : ∃ M R', (f M).Runs gt go R' v os k /\ zyl C gt go y s M := by
  have none_ : ∀ {w : World} {x : Value} {S}, (x = .slice none 0 0 \/ ∃ a c, x = .slice a 0 c) -> ∃ V : List Value, V.length = ([] : List (List PV)).length * s /\ zaq w S s [] V /\ (∀ v ∈ V, v.oneCell' = true) ∧
   (Builtin.lenOf x).run C.P w = .ok ([] : List (List PV)).length w /\ ∀ n, n <= ([] : List (List PV)).length -> (Builtin.firstCells s n x).run C.P w = .ok (V.take (n * s)).toArray w := fun {w x S} hx => by
    refine ⟨[], by simp, by simp [zaq], by simp, ?_, fun n hn => ?_⟩
    . rcases hx with rfl | ⟨a, c, rfl⟩ <;> simp [Builtin.lenOf]
    . obtain rfl : n = 0 := by simpa using hn
      rw [zaN (P := C.P) (by rcases hx with rfl | ⟨a, c, rfl⟩; exact .inl rfl; exact .inr ⟨⟨_, _, rfl⟩, rfl⟩)]
      simp
  unfold zl4 at h
  split at h
  . rename_i id b0 ln
    cases h with
    | rO h =>
      dsimp only at h
      split at h
      . rename_i s' L hgo
        replace h := ziJ h
        obtain ⟨e1, h⟩ := h
        subst e1
        cases h with
        | req hp h =>
          refine ⟨_, _, h, fun {β own S a w} H => ?_⟩
          have h1 := hy H
          simp only [rel] at h1
          obtain ⟨B, hB, h1⟩ := h1
          obtain ⟨B', h4, h5⟩ := H.mem.obj _ _ hgo
          rw [hB] at h4; cases h4
          have hlen : ((L.drop b0).take ln).length = ln := by simp; omega
          by_cases hL : ln = 0
          . have e : (L.drop b0).take ln = [] := by rw [hL]; simp
            rw [e]
            refine none_ ?_
            unfold zaV at h1
            split at h1
            . exact .inl h1.1
            . obtain ⟨off, cap, e1, _⟩ := h1
              rw [e1, hL]; exact .inr ⟨_, _, rfl⟩
          . rcases h5 with ⟨h5, rfl, _⟩ | ⟨b', arr, T, h5, h6, h7, h8, h9, h10, h11⟩
            . simp at hlen; omega
            . simp only [zaV, h5] at h1
              obtain ⟨off, cap, e1, hc1, hc2, hc3⟩ := h1
              have hoff : off = b0 * s := by
               rcases hc3 with h | h
               . omega
               . rw [h, h6]
              subst hoff
              rw [e1]
              exact zo5 hlen h8 (zdM s _ _ ln (zdL s _ _ b0 h11)) (fun q => by rw [q] at hlen; simp at hlen; omega)
      . cases h
  . rename_i s' L
    cases h with
    | req hp h =>
      subst hp
      refine ⟨_, _, h, fun {β own S a w} H => ?_⟩
      have h1 := hy H
      simp only [rel, zaR] at h1
      obtain ⟨a0, cap, e1, _, h2, _⟩ := h1
      by_cases hL : L = []
      . subst hL
        rw [e1]
        exact none_ (.inr ⟨_, _, rfl⟩)
      . obtain ⟨b, off, arr, T, fz, rfl, _, hw, hr⟩ := h2 hL
        rw [e1]
        exact zo5 rfl hw hr hL
  . cases h
theorem zwY {dT sT : TypeId} {s : Nat} {x y : Operand} (ho : o.op = .call { callee := .builtin .copy, args := #[x, y], argTypes := #[dT, sT] }) (ha : ∃ e i, C.P.underlying dT = some (.slice e) /\ C.P.info? e = some i /\ i.size = s)
 (h : (MO.rt C.toEnv fresh (.cpy s (cX x) (cX y))).Runs gt go R v os k) (hd : zau C o.dst v) : zaD C o fresh gt go v os k := by
  simp only [MO.rt] at h
  replace h := zap h
  obtain ⟨sx, R1, h, hx⟩ := h
  replace h := zap h
  obtain ⟨sy, R2, h, hy⟩ := h
  replace h := zof hy h
  obtain ⟨M, R3, h, hM⟩ := h
  obtain ⟨e, i, hu, hi, hs⟩ := ha
  split at h
  case h_2 => cases h
  rename_i id st ln
  cases h with
  | rO h =>
    dsimp only at h
    split at h
    case h_2 => cases h
    rename_i s' L hg
    replace h := ziJ h
    obtain ⟨e1, h⟩ := h
    subst e1
    cases h with
    | req hp h =>
      cases h with
      | done =>
        refine zkl (by simp [ho]) hd hg fun {β own S a w} H => ?_
        obtain ⟨V, hVl, hVr, hV1, hlen, hfc⟩ := hM H
        have hr := hx H
        simp only [rel] at hr
        obtain ⟨B, hB, hr⟩ := hr
        obtain ⟨B', h4, h5⟩ := H.mem.obj _ _ hg
        rw [hB] at h4; cases h4
        have hrun : ∀ {r w'}, (Builtin.copy_ #[dT, sT] o.type #[a.eval x, a.eval y]).run C.P w = .ok r w' -> (execOp a.eval o).run C.P w = .ok (.value r) w' := by
         intro r w' h
         simp [execOp, ho, resolve, invoke, builtin, h]
        have hmn : min M.length ln = min ln M.length := Nat.min_comm ..
        have hgi : goInt (min M.length ln : Nat) = .int .i64 ((min ln M.length : Nat) : Int) := by rw [hmn]; rfl
        have hf := hfc (min M.length ln) (Nat.min_le_left ..)
        by_cases hn0 : min ln M.length = 0
        . have same : L.take st ++ M.take ln ++ L.drop (st + min ln M.length) = L := by
           have : M.take ln = [] := by
            rw [List.take_eq_nil_iff]
            rcases Nat.min_eq_zero_iff.1 hn0 with h | h
            . exact .inl h
            . exact .inr (List.length_eq_zero_iff.1 h)
           rw [this, hn0]; simp
          rw [same]
          have hf0 : (Builtin.firstCells s (min M.length ln) (a.eval y)).run C.P w = .ok #[] w := by
           rw [hf, hmn, hn0]; simp
          have hq : ∃ a0 c, a.eval x = .slice a0 ln c := by
           unfold zaV at hr
           split at hr
           . rw [hr.1, hr.2.2]; exact ⟨_, _, rfl⟩
           . obtain ⟨off, cap, e1, _⟩ := hr
             exact ⟨_, _, e1⟩
          obtain ⟨a0, c0, hev⟩ := hq
          refine ⟨goInt (min M.length ln : Nat), w, B, hrun ?_, hB, rfl, fun _ _ => rfl, rfl, rfl, rfl, fun xx => ⟨h5, fun s e => by cases e; simp only [rel]; exact hgi⟩⟩
          rw [hev]
          cases a0 with
          | none => exact zku hu hi hs hlen hf0
          | some a0 => exact zhg hu hi hs hlen hf0 (by simp [storeCells])
        . unfold zaV at hr
          split at hr
          . omega
          . rename_i b hb
            obtain ⟨off, cap, e1, hlc, hcc, hoff⟩ := hr
            rcases h5 with ⟨q, _⟩ | ⟨b', arr, T, h6, hstr, hF, hw, hsize, hLc, hrows⟩
            . rw [hb] at q; cases q
            . rw [hb] at h6; cases h6
              have hoff : off = st * s := by
               rcases hoff with h | h
               . omega
               . rw [h, hstr]
              obtain ⟨cs, hcs⟩ : ∃ cs, cs = V.take (min M.length ln * s) := ⟨_, rfl⟩
              have hml : min M.length ln * s <= M.length * s := Nat.mul_le_mul_right _ (Nat.min_le_left ..)
              have hcsl : cs.length = min ln M.length * s := by
               rw [hcs, List.length_take, hVl, hmn] at *; omega
              have hbnd : st * s + min ln M.length * s <= arr.size := by
               rw [hsize, <- Nat.add_mul]
               exact Nat.mul_le_mul_right _ (by omega)
              have hst := run_storeCells_at (P := C.P) b off T cs 0 arr w hw (by rw [hoff, hcsl]; simpa using hbnd) (fun v hv => hV1 v (by rw [hcs] at hv; exact List.mem_of_mem_take hv))
              rw [<- hcs] at hf
              refine ⟨goInt (min M.length ln : Nat), w.setRow b (arr.toList.take off ++ cs ++ arr.toList.drop (off + cs.length)).toArray, B, hrun ?_, hB, zbX, fun c hc => zbL (fun e => hc (by rw [hF, e]; rfl)), rfl, rfl, rfl, fun xx => ⟨?_, fun s e => by cases e; simp only [rel]; exact hgi⟩⟩
              . rw [e1]
                exact zhg hu hi hs hlen hf (by simpa using hst)
              . refine .inr ⟨b, _, T, hb, hstr, hF, setRow_heap _ _ _ _ _ _ hw, ?_, ?_, ?_⟩
                . simp only [List.size_toArray, List.length_append, List.length_take, List.length_drop, hcsl]
                  simp only [Array.length_toList]
                  omega
                . simp only [List.length_append, List.length_take, List.length_drop]
                  omega
                . have hrows' := za6 (w := w) (S := S) (w' := _) (S' := S) xx.st xx.heap s L _ hrows
                  have hVr' := za6 (w := w) (S := S) (w' := _) (S' := S) xx.st xx.heap s M _ hVr
                  generalize w.setRow b (arr.toList.take off ++ cs ++ arr.toList.drop (off + cs.length)).toArray = W at hrows' hVr' ⊢
                  have hst2 : st * s <= arr.toList.length := by rw [Array.length_toList]; omega
                  have hMt : M.take ln = M.take (min ln M.length) := by
                   rw [List.take_eq_take_iff]; omega
                  rw [List.append_assoc, List.append_assoc, hoff, hMt]
                  have hLst : (L.take st).length = st := by rw [List.length_take]; omega
                  refine zbT (zcr hrows' hst2) (by rw [hLst, List.length_take, Nat.min_eq_left hst2]) ?_
                  refine zbT ?_ (by rw [hcsl, List.length_take]; congr 1; omega) ?_
                  . rw [hcs, hmn]
                    exact zcr hVr' (by rw [hVl]; rw [hmn] at hml; exact hml)
                  . have := zdn (n := st + min ln M.length) hrows'
                    rw [Nat.add_mul] at this
                    rw [hcsl]; exact this
end
end Go.Sx
namespace Go.Sx
open Go
open Classical
def mTs (ρ : Ren) : List (Nat × SV) -> (Ren -> RT) -> RT
 | [], f => f ρ
 | (t, p) :: l, f => .rT t fun o => match o with
   | none => .fail
   | some c => mSV ρ p c fun ρ => mTs ρ l f
def zfO : List (Nat × Option SO) -> List (Nat × SO)
 | [] => []
 | (i, some o) :: l => (i, o) :: zfO l
 | (_, none) :: l => zfO l
def zfi (m : Nat) : List (Nat × Option Nat) -> Bool
 | [] => true
 | (i, some j) :: l => match Nat.blt i m with | true => (match Nat.beq i j with | true => zfi m l | false => false) | false => zfi m l
 | (i, none) :: l => match Nat.blt i m with | true => false | false => zfi m l
def zjo (m nx : Nat) (ρ : Ren) : RT :=
 match zfH ρ ρ.bor, zgq nx ρ.m, zfi m ρ.m with
 | true, true, true => .done none [] 0
 | _, _, _ => .fail
def idL : Nat -> List (Nat × Option Nat)
 | 0 => []
 | m + 1 => (m, some m) :: idL m
theorem ziL : ∀ {m i : Nat} {q : Option Nat}, zav i (idL m) = some q -> q = some i
 | 0, i, q, h => by simp [idL, zav] at h
 | m + 1, i, q, h => by
   simp only [idL] at h
   rw [zaI] at h
   split at h
   . rename_i e; subst e; cases h; rfl
   . exact ziL h
theorem ztu (m : Nat) : (⟨idL m, []⟩ : Ren).inj := fun i i' j h h' => by
 have a := ziL h
 have b := ziL h'
 rw [a] at b
 exact Option.some.inj b
def zpT (m : Nat) (s' : St) : RT :=
 match Nat.ble m s'.nx with
 | true => mTs ⟨idL m, []⟩ s'.t fun ρ => zfX ρ (zfO s'.o) fun ρ => zjo m s'.nx ρ
 | false => .fail
def zj4 (m : Nat) (s s' : St) : Prop := (zpT m s').vc (zaM s.t) (zax s.o) [] fun _ _ _ _ => True
theorem zno {gt : GT} {go : GO} : ∀ (l : List (Nat × SV)) {ρ : Ren} {f : Ren -> RT} {R v os k}, (mTs ρ l f).Runs gt go R v os k -> ∃ ρ' R', (f ρ').Runs gt go R' v os k /\ ρ.le ρ' /\ (ρ.inj -> ρ'.inj) ∧
 ∀ t p, (t, p) ∈ l -> ∃ c, gt t = some c /\ ∀ ρ2, ρ'.le ρ2 -> ∀ {β own S w Sp}, Fit go ρ2 β own S w Sp -> ∀ sp x, rel β w S c x -> rel (bOf ρ2 β sp) w Sp p x
  | [], ρ, f, R, v, os, k, h => ⟨ρ, _, h, .refl _, id, fun _ _ h => by cases h⟩
  | (t, p) :: l, ρ, f, R, v, os, k, h => by
    simp only [mTs] at h
    cases h with
    | rT h =>
      dsimp only at h
      split at h
      . cases h
      . rename_i c hc
        obtain ⟨ρ1, R1, h, l1, i1, m1⟩ := zdJ _ h
        obtain ⟨ρ2, R2, h, l2, i2, m2⟩ := zno l h
        refine ⟨ρ2, R2, h, l1.trans l2, fun e => i2 (i1 e), fun t' p' hp => ?_⟩
        rcases List.mem_cons.1 hp with e | hp
        . cases e
          exact ⟨c, hc, fun ρ3 l3 => m1 ρ3 (l2.trans l3)⟩
        . exact m2 t' p' hp
theorem zb9 {m : Nat} : ∀ {l : List (Nat × Option Nat)}, zfi m l = true -> ∀ i q, i < m -> zav i l = some q -> q = some i
 | [], _, i, q, _, h => by simp [zav] at h
 | (k, some j) :: l, h, i, q, hi, e => by
   simp only [zfi] at h
   rw [zaI] at e
   by_cases hk : k = i
   . subst hk
     rw [if_pos rfl] at e
     have : Nat.blt k m = true := by rw [Nat.blt_eq]; exact hi
     rw [this] at h
     simp only at h
     split at h
     . rename_i hj
       rw [<- Option.some.inj e, Nat.eq_of_beq_eq_true hj]
     . cases h
   . rw [if_neg hk] at e
     have h' : zfi m l = true := by
      split at h
      . split at h
        . exact h
        . cases h
      . exact h
     exact zb9 h' i q hi e
 | (k, none) :: l, h, i, q, hi, e => by
   simp only [zfi] at h
   rw [zaI] at e
   split at h
   . cases h
   . rename_i hk
     by_cases hk' : k = i
     . subst hk'
       have : Nat.blt k m = true := by rw [Nat.blt_eq]; exact hi
       rw [this] at hk; cases hk
     . rw [if_neg hk'] at e
       exact zb9 h i q hi e
theorem zfU {gt : GT} {go : GO} {m nx : Nat} {ρ : Ren} {R v os k} (h : (zjo m nx ρ).Runs gt go R v os k) :
 zfH ρ ρ.bor = true /\ zgq nx ρ.m = true /\ zfi m ρ.m = true := by
  unfold zjo at h
  split at h
  . rename_i h1 h2 h3; exact ⟨h1, h2, h3⟩
  . cases h
theorem zdU : ∀ {l : List (Nat × Option SO)} {i : Nat} {o : SO}, zax l i = some o -> zav i (zfO l) = some o
 | [], i, o, h => by simp [zax, zav] at h
 | (k, some x) :: l, i, o, h => by
   simp only [zax, zaI] at h
   simp only [zfO]
   rw [zaI]
   by_cases hk : k = i
   . rw [if_pos hk] at h ⊢; exact h
   . rw [if_neg hk] at h ⊢; exact zdU h
 | (k, none) :: l, i, o, h => by
   simp only [zax, zaI] at h
   simp only [zfO]
   by_cases hk : k = i
   . rw [if_pos hk] at h; cases h
   . rw [if_neg hk] at h; exact zdU h
theorem zaw.sub {β own S w} {go go' : GO} (h : zaw β own S go w) (hs : ∀ i o, go' i = some o -> go i = some o) : zaw β own S go' w := by
 have hsome : ∀ i, (go' i).isSome -> (go i).isSome := fun i hi => by
  obtain ⟨o, ho⟩ := Option.isSome_iff_exists.1 hi
  simp [hs i o ho]
 exact ⟨fun i o e => h.obj i o (hs i o e), fun i j b hne hi hj => h.sep i j b hne (hsome i hi) (hsome j hj), fun i b hi => h.st i b (hsome i hi), h.sz⟩
def zky (l : List (Nat × SO)) : Nat -> Nat := fun i =>
 match zav i l with
 | some (.vec s _) => s
 | some (.arr s _) => s
 | _ => 0
theorem zid {C : Ctx} {gt : GT} {go : GO} {β own S a w} (H : zah C gt go β own S a w) {ρ : Ren} (hinj : ρ.inj) (l : List (Nat × SO)) (hl : ∀ p ∈ l, OIs go ρ p.1 p.2)
 (hb : zfH ρ ρ.bor = true) : zaw (bOf ρ β (zky l)) (zb8 ρ own) (fun b => S b \/ zgc go ρ own b) (fun i => zav i l) w ∧
  (∀ i b, (zav i l).isSome -> zb8 ρ own i b -> ∃ j, (go j).isSome /\ own j b) /\ (∀ b, zgc go ρ own b -> ∃ j, (go j).isSome /\ own j b) := by
  refine ⟨zk0 H.mem hinj l hl (fun i j e hj => zg3 hb j hj i e) (fun i o e e' r s ho hr => ?_), fun i b hi hb => ?_, fun b ⟨j, _, h1, h2⟩ => ⟨j, h1, h2⟩⟩
  . subst ho
    simp only [zky, e]
    cases r <;> rfl
  . obtain ⟨o, ho⟩ := Option.isSome_iff_exists.1 hi
    rcases hl _ (zch ho) with ⟨j, c, h1, h2, _⟩ | ⟨h1, _⟩
    . simp only [zb8, h1] at hb
      exact ⟨j, by simp [h2], hb⟩
    . simp [zb8, h1] at hb
theorem zj4.holds {C : Ctx} {s s' : St} (h : zj4 C.m0 s s') {β own S a w} (H : zaA C s β own S a w) : ∃ β' own' S', zaA C s' β' own' S' a w := by
 obtain ⟨R, v, os, k, h, _⟩ := RT.runs_of_vc _ _ _ h
 unfold zpT at h
 split at h
 case h_2 => cases h
 rename_i hm0
 have hm0 : C.m0 <= s'.nx := by simpa using hm0
 obtain ⟨ρ1, R1, h, l1, i1, m1⟩ := zno _ h
 obtain ⟨ρ2, R2, h, l2, i2, m2⟩ := zdv _ h
 obtain ⟨h1, h2, h3⟩ := zfU h
 have hinj : ρ2.inj := i2 (i1 (ztu _))
 obtain ⟨hmem, hown, hlent⟩ := zid H.h hinj _ m2 h1
 refine ⟨bOf ρ2 β (zky (zfO s'.o)), zb8 ρ2 own, fun b => S b \/ zgc (zax s.o) ρ2 own b, ⟨fun t p e => ?_, hmem.sub (fun i o e => zdU e), H.h.fr, fun id b hi hb => ?_, fun b hb => .inl (H.h.s0 b hb), fun b hb => ?_, H.h.n, ?_, fun g s e => zaH ⟨fun _ _ e => e, fun _ e => .inl e, fun _ _ => rfl⟩ _ _ (H.h.gl g s e)⟩,
  fun i hi => by simp [bOf, zdG h2 i hi], hm0, fun i B hi e => ?_⟩
 . obtain ⟨c, hc, hr⟩ := m1 t p (zch e)
   exact hr ρ2 l2 (zet H.h.mem) _ _ (H.h.tm t c hc)
 . obtain ⟨o, ho⟩ := Option.isSome_iff_exists.1 hi
   obtain ⟨j, q1, q2⟩ := hown id b (by rw [zdU ho]; rfl) hb
   exact H.h.own0 j b q1 q2
 . rcases hb with hb | hb
   . exact H.h.s1 b hb
   . obtain ⟨j, q1, q2⟩ := hlent b hb
     exact .inr (H.h.own0 j b q1 q2)
 . obtain ⟨hdf, hms⟩ := H.h.df
   refine ⟨⟨hdf.nd, fun d hd => ?_⟩, hms⟩
   obtain ⟨D, e1, e2, e3, e4, e5⟩ := hdf.at_ d hd
   refine ⟨D, e1, e2, e3, fun e => ?_, fun id hi hb => ?_⟩
   . rcases e with e | e
     . exact e4 e
     . obtain ⟨j, q1, q2⟩ := hlent D e
       exact e5 j q1 q2
   . obtain ⟨o, ho⟩ := Option.isSome_iff_exists.1 hi
     obtain ⟨j, q1, q2⟩ := hown id D (by rw [zdU ho]; rfl) hb
     exact e5 j q1 q2
 . simp only [bOf] at e
   split at e
   . rename_i j hj
     have := zb9 h3 i _ hi hj
     cases this
     exact H.b0 i B hi e
   . rename_i hj
     have := zb9 h3 i _ hi hj
     cases this
   . cases e
def Ex.blk (id : Nat) (K : Ex -> St -> Prop) : Ex -> St -> Prop
 | .nrm, s => K .nrm s
 | .exit i, s => match Nat.beq i id with | true => K .nrm s | false => K (.exit i) s
 | .ret, s => K .ret s
 | .pan v, s => K (.pan v) s
abbrev Rn := St -> (Ex -> St -> Prop) -> Prop
def zz1 (m : Nat) (A B : Rn) (s : St) (K : Ex -> St -> Prop) : zf6 -> Prop
 | .plain => A s (Ex.then (fun s' => B s' K) K)
 | .cut _ I inv => A s (Ex.then (fun s' => ∃ c, zj4 m s' (inv c) /\ Sd (I c)) K) /\ ∀ c, I c -> B (inv c) K
 | .cutr _ I inv => A s (Ex.then (fun s' => ∃ c, zj4 m s' (inv c) /\ Sd (I s c)) K) /\ ∀ c, I s c -> B (inv c) K
def zjb (A : Rn) (K : Ex -> St -> Prop) : Nat -> St -> Prop
 | 0, _ => False
 | k + 1, s => A s (Ex.then (zjb A K k) K)
def Loop (m : Nat) (A : Rn) (s : St) (K : Ex -> St -> Prop) : zcA -> Prop
 | .inv _ I inv μ => ∃ c0, zj4 m s (inv c0) /\ Sd (I c0 c0) /\ ∀ c, I c0 c -> A (inv c) (Ex.then (fun s' => ∃ c', zj4 m s' (inv c') /\ Sd (I c0 c' /\ μ c' < μ c)) K)
 | .rounds k => zjb A K k s
def zo4 (E : Env) (x : X) (s : St) (A B : Prop) : Prop :=
 match rdX s.t x with
 | some .tt => A
 | some .ff => B
 | some (.bool b) => (b = true -> A) /\ (b = false -> B)
 | some (.pr p) => (p -> A) /\ (¬ p -> B)
 | _ => False
def zgh (N : Nat) : List Nat -> List SV -> List (Nat × SV) -> (List (Nat × SV) -> Prop) -> Prop
 | [], [], t, K => K t
 | p :: ps, v :: vs, t, K => match Nat.blt p N with | true => fSV v fun v => zgh N ps vs ((p, v) :: t) K | false => False
 | _, _, _, _ => False
def zjM (o : List (Nat × Option SO)) (id l : Nat) (r : _root_.Go.Loop) (busy : Bool) (K : Prop) : Prop :=
 match zax o id with
 | some (.lrec l' r' e) => match e, busy with
   | .ready, false => Sd (l' = l /\ r' = r) /\ K
   | .busy, true => Sd (l' = l /\ r' = r) /\ K
   | _, _ => False
 | _ => False
def zmH (id l : Nat) (r : _root_.Go.Loop) (K : Bool -> List (Nat × Option SO) -> Nat -> Prop) (ex : Ex) (s : St) : Prop :=
 match s with
 | ⟨_, o, nx⟩ => zjM o id l r true (match ex with
   | .nrm => K true ((id, some (.lrec l r .ready)) :: o) nx
   | .ret => K false ((id, some (.lrec l r (.done .ret))) :: o) nx
   | .exit i => K false ((id, some (.lrec l r (.done (.exit i)))) :: o) nx
   | .pan _ => False)
def zxm (id l : Nat) (r : _root_.Go.Loop) (B : Rn) (K : Bool -> List (Nat × Option SO) -> Nat -> Prop) (s : St) : Prop :=
 match s with
 | ⟨t, o, nx⟩ => zjM o id l r false (B ⟨t, (id, some (.lrec l r .busy)) :: o, nx⟩ (zmH id l r K))
def zoA (E : Env) (ps : List Nat) (t0 : List (Nat × SV)) (id l : Nat) (r : _root_.Go.Loop) (A B : Env -> Rn) (vs : List SV) (o : List (Nat × Option SO)) (nx : Nat) (K : Bool -> List (Nat × Option SO) -> Nat -> Prop) : Prop :=
 zjM o id l r false (zgh E.N ps vs t0 fun t => zb5 nx fun nx =>
  A { E with rnd := some l, m0 := nx, Y := none } ⟨t, o, nx⟩ (Ex.then (zxm id l r (B { E with rnd := some l, m0 := nx, Y := none }) K) fun _ _ => False))
def zrR (id : Nat) (t0 : List (Nat × SV)) (K : Ex -> St -> Prop) (ex : Ex) (s : St) : Prop :=
 match s with
 | ⟨_, o, nx⟩ => match (match ex with | .nrm => true | .ret => true | _ => false) with
   | false => False
   | true => match zax o id with
     | some (.lrec _ _ e) => match e with
       | .ready => K .nrm ⟨t0, (id, none) :: o, nx⟩
       | .done (.ret) => K .ret ⟨t0, (id, none) :: o, nx⟩
       | .done (.exit i) => K (.exit i) ⟨t0, (id, none) :: o, nx⟩
       | _ => False
     | _ => False
def run (E : Env) : MC -> Rn
 | .skip, s, K => K .nrm s
 | .reg l, s, K => zik E l s K
 | .drw l pre, s, K => zmJ E l s [] fun es s' => Sd (zbH pre es = true) /\ K .nrm s'
 | .seq a b, s, K => run E a s (Ex.then (fun s => run E b s K) K)
 | .join n a b, s, K => zz1 E.m0 (run E a) (run E b) s K (E.J n)
 | .cond x a b, s, K => zo4 E x s (run E a s K) (run E b s K)
 | .blk id a, s, K => run E a s (Ex.blk id K)
 | .loop n a, s, K => Loop E.m0 (run E a) s K (E.L n)
 | .exit id, s, K => K (.exit id) s
 | .ret, s, K => K .ret s
 | .gh g a, s, K => zrr g s fun s => run E a s K
 | .rng f ps a b n N it, s, K => match s with
   | ⟨t, o, nx⟩ => match E.rnd with
     | some _ => False
     | none => match rdX t f with
       | some (.fn (.func n') fa fc) => match Nat.beq n' n, Nat.ble (fa.length + 1 + fc.length) N with
         | true, true => ∀ (l : Nat) (r : _root_.Go.Loop), zga (fa ++ .fn (.yield l) [] [] :: fc) fun args => zb5 (nx + 1) fun nx1 =>
           run { E with N := N, m0 := nx1, L := fun i => E.L (100 + i), J := fun i => E.J (100 + i), Y := some ⟨l, zoA E ps t nx l r (fun E => run E a) (fun E => run E b)⟩ } it ⟨zbm args 0, (nx, some (.lrec l r .ready)) :: o, nx1⟩ (zrR nx t K)
         | _, _ => False
       | _ => False
structure zh1 (C : Ctx) (ops : Array Oper) (ms : List MOp) : Prop where
 len : ops.size = ms.length
 ok : ∀ t (_ : t < ops.size) (h' : t < ms.length), ∃ o, ops[t]? = some o /\ zdi C ops o ms[t]
structure zr8 (ops : Array Oper) (pre : List (List Nat)) : Prop where
 ok : ∀ j o, ops[j]? = some o -> ∀ p, p ∈ pre.getD j [] ↔ ∃ e ∈ o.after, Region.binds .any e = true /\ e.on = p
 lt : ∀ j p, p ∈ pre.getD j [] -> p < j
inductive zbk (P : Program) : Code -> MC -> Prop
 | skip : zbk P .skip .skip
 | reg {id ops ms} (h : ∀ C : Ctx, C.P = P -> zh1 C ops ms) : zbk P (.region id ops false) (.reg ms)
 | drw {id ops ms pre} (h : ∀ C : Ctx, C.P = P -> zh1 C ops ms) (hd : zr8 ops pre) : zbk P (.region id ops true) (.drw ms pre)
 | seq {a b a' b'} (h1 : zbk P a a') (h2 : zbk P b b') : zbk P (.seq a b) (.seq a' b')
 | join {n a b a' b'} (h1 : zbk P a a') (h2 : zbk P b b') : zbk P (.seq a b) (.join n a' b')
 | cond {x a b a' b'} (h1 : zbk P a a') (h2 : zbk P b b') : zbk P (.cond x a b) (.cond (cX x) a' b')
 | blk {id a a'} (h : zbk P a a') : zbk P (.block id a) (.blk id a')
 | loop {n a a'} (h : zbk P a a') : zbk P (.loop a) (.loop n a')
 | exit {id} : zbk P (.exit id) (.exit id)
 | ret : zbk P .ret .ret
 | rng {f ps a b a' b' n N it fn code} (h1 : zbk P a a') (h2 : zbk P b b') (hf : P.funcs[n]? = some fn) (hb : fn.body = some code) (hN : fn.ntmps = N) (hr : fn.results = #[])
  (he : zcp P n) (h3 : zbk P code it) : zbk P (.rangeFunc f ps a b) (.rng (cX f) ps.toList a' b' n N it)
 | gh {g a a'} (h : zbk P a a') : zbk P a (.gh g a')
inductive zdZ (F : Fence) (n : Nat) (P : Program) (c : Code) (Q : Exit -> Act -> World -> Prop) : Act -> World -> Prop
 | mk {a w} (W : Act -> World -> Prop) (h : c.wpIn F n P (Exit.then W Q) a w) (hw : ∀ a' w', W a' w' -> zdZ F n P c Q a' w') : zdZ F n P c Q a w
theorem zdZ.wp {F : Fence} {n : Nat} {P : Program} {c : Code} {Q : Exit -> Act -> World -> Prop} {a : Act} {w : World} (h : zdZ F n P c Q a w) : (Code.loop c).wpIn F n P Q a w := by
 intro b k cs hro hb hr
 have key : ∃ e a' w', Q e a' w' /\ ArrivesIn (Machine.fenced P F) P (lone (b.atR a (.code c :: .inLoop c :: k)) cs w) b k cs e a' w' := by
  induction h with
  | mk W h hw ih =>
    obtain ⟨e, a₁, w₁, hq, harr⟩ := h b (.inLoop c :: k) cs hro hb hr
    cases e with
    | normal =>
      obtain ⟨e₂, a₂, w₂, hq₂, harr₂⟩ := ih a₁ w₁ hq
      exact ⟨e₂, a₂, w₂, hq₂, .of_steps (StepsIn.trans harr (.one (fenced_calm hb hr rfl) stepR_inLoop)) harr₂⟩
    | exit id => exact ⟨_, a₁, w₁, hq, .pass (x := .inLoop c) rfl (fun _ _ => .inl (by simp)) harr⟩
    | goto l => exact ⟨_, a₁, w₁, hq, .pass (x := .inLoop c) rfl (fun _ _ => .inl (by simp)) harr⟩
    | ret => exact ⟨_, a₁, w₁, hq, .pass (x := .inLoop c) rfl (fun _ _ => .inl (by simp)) harr⟩
    | panic ch => exact ⟨_, a₁, w₁, hq, .pass (x := .inLoop c) rfl (fun _ _ => .inl (by simp)) harr⟩
    | outgrown => exact ⟨_, a₁, w₁, hq, .pass (x := .inLoop c) rfl (fun _ _ => .inl (by simp)) harr⟩
 obtain ⟨e, a', w', hq, harr⟩ := key
 exact ⟨e, a', w', hq, .of_steps (.one (fenced_calm hb hr rfl) stepR_loop) harr⟩
theorem zdz {C : Ctx} {f : St -> Prop} {K : Ex -> St -> Prop} {W : Act -> World -> Prop} {Q : Exit -> Act -> World -> Prop} (hf : ∀ s β own S a w, f s -> zaA C s β own S a w -> W a w)
 (hQ : ∀ e a w, post C K e a w -> Q e a w) : ∀ e a w, post C (Ex.then f K) e a w -> Exit.then W Q e a w := by
  intro e a w hp
  cases e with
  | normal => obtain ⟨s, β, own, S, h1, h2⟩ := hp; exact hf s β own S a w h1 h2
  | exit i => exact hQ (.exit i) a w hp
  | ret => exact hQ .ret a w hp
  | goto l => exact hp.elim
  | panic c => exact hQ (.panic c) a w hp
  | outgrown => exact hp.elim
theorem zjP {C : Ctx} (hY : ∀ y, C.Y = some y -> YOk C y) {ops : Array Oper} : ∀ (l : List Nat) (ms : List MOp) {s : St} {K : Ex -> St -> Prop}, l.length = ms.length →
 (∀ t (h : t < l.length) (h' : t < ms.length), ∃ o, ops[l[t]]? = some o /\ zdi C ops o ms[t]) -> zik C.toEnv ms s K -> ∀ {β own S a w}, zaA C s β own S a w →
 wpOpsIn (Wf C.rnd) 0 C.P ops (post C K) l a w
  | [], ms, s, K, hl, _, h, β, own, S, a, w, H => by
    have : ms = [] := by simpa using hl.symm
    subst this
    exact ⟨s, β, own, S, h, H⟩
  | i :: l, ms, s, K, hl, hp, h, β, own, S, a, w, H => by
    cases ms with
    | nil => simp at hl
    | cons m ms =>
      obtain ⟨o, ho, hm⟩ := hp 0 (by simp) (by simp)
      simp at ho hm
      simp only [zik] at h
      simp only [wpOpsIn, ho]
      have key := zrK (Q := post C K) (next := wpOpsIn (Wf C.rnd) 0 C.P ops (post C K) l) hY hm h H (fun s' β' own' S' a' w' hk H' =>
       zjP hY l ms (by simpa using hl) (fun t ht ht' => hp (t + 1) (Nat.succ_lt_succ ht) (Nat.succ_lt_succ ht')) hk H')
       (fun v x s' β' own' S' a' w' hk H' hx => ⟨s', β', own', S', v, x, rfl, hk, H', hx⟩)
      split
      . rename_i hw; rw [if_pos hw] at key; exact key
      . rename_i hw; rw [if_neg hw] at key; exact ⟨fun _ _ => trivial, key⟩
theorem znl (D : Nat -> Bool) (hD : ∀ i, D i = false) : ∀ (es : List Ent) (i0 : Nat) (gt : GT), zbR D gt es i0 = gt
 | [], _, _ => rfl
 | e :: es, i0, gt => by simp only [zbR, hD]; exact znl D hD es _ _
theorem znk (D : Nat -> Bool) (hD : ∀ i, D i = false) : ∀ (es : List Ent) (i0 : Nat) (go : GO), zbQ D go es i0 = go
 | [], _, _ => rfl
 | e :: es, i0, go => by simp only [zbQ, hD]; exact znk D hD es _ _
theorem zeg {o : List (Nat × Option SO)} {id l : Nat} {r : _root_.Go.Loop} {busy : Bool} {K : Prop} (h : zjM o id l r busy K) : zax o id = some (.lrec l r (match busy with | true => .busy | false => .ready)) /\ K := by
 unfold zjM at h
 split at h
 . rename_i l' r' e hg
   split at h
   . obtain ⟨⟨h1, h2⟩, h3⟩ := h; subst h1; subst h2; exact ⟨hg, h3⟩
   . obtain ⟨⟨h1, h2⟩, h3⟩ := h; subst h1; subst h2; exact ⟨hg, h3⟩
   . exact h.elim
 . exact h.elim
def zeT (l : List (Nat × Value)) (tmps : Array Value) : Array Value := l.foldl (fun tm p => tm.setIfInBounds p.1 p.2) tmps
theorem zjU : ∀ (l : List (Nat × Value)) (tmps : Array Value), (zeT l tmps).size = tmps.size
 | [], _ => rfl
 | p :: l, tmps => by
   have := zjU l (tmps.setIfInBounds p.1 p.2)
   simp only [zeT, List.foldl] at this ⊢
   rw [this]; simp
theorem zje {N : Nat} : ∀ {ps : List Nat} {vs : List SV} {t : List (Nat × SV)} {K : List (Nat × SV) -> Prop}, zgh N ps vs t K -> ps.length = vs.length /\ ∃ t', K t' ∧
 ∀ {β w S xs} {tmps : Array Value}, zam β w S vs xs -> tmps.size = N -> (∀ i v, zav i t = some v -> rel β w S v (tmps.getD i undef)) -> ∀ i v, zav i t' = some v -> rel β w S v ((zeT (ps.zip xs) tmps).getD i undef)
  | [], [], t, K, h => ⟨rfl, t, h, fun _ _ ht => by simpa [zeT] using ht⟩
  | [], _ :: _, t, K, h => by simp [zgh] at h
  | _ :: _, [], t, K, h => by simp [zgh] at h
  | p :: ps, v :: vs, t, K, h => by
    simp only [zgh] at h
    split at h
    . rename_i hb
      rw [zeZ] at h
      have hlt : p < N := by rw [Nat.blt_eq] at hb; exact hb
      obtain ⟨h1, t', h2, h3⟩ := zje h
      refine ⟨by simp [h1], t', h2, fun {β w S xs tmps} hx hs ht => ?_⟩
      simp only [zam] at hx
      obtain ⟨y, ys, rfl, hy, hys⟩ := hx
      have := h3 (tmps := tmps.setIfInBounds p y) hys (by simpa using hs) (fun i u hu => by
       rw [zaI] at hu
       rw [Array.getD_eq_getD_getElem?, Array.getElem?_setIfInBounds]
       by_cases e : p = i
       . subst e
         rw [if_pos rfl] at hu ⊢
         cases hu
         rw [if_pos (by omega)]
         exact hy
       . rw [if_neg e] at hu ⊢
         have := ht i u hu
         rwa [Array.getD_eq_getD_getElem?] at this)
      simpa [zeT] using this
    . exact h.elim
theorem zgr {C : Ctx} {s : St} {β own S a w} (H : zaA C s β own S a w) {id l : Nat} {r : _root_.Go.Loop} {e : LSt} (hg : zax s.o id = some (.lrec l r e)) :
 ∃ B, β id = some B /\ B.blk = some l /\ own id = zci l /\ w.heap[l]? = some (.loop (zbP r e)) := by
  obtain ⟨B, h1, h2, h3, h4⟩ := H.h.mem.obj _ _ hg
  exact ⟨B, h1, h2, h3, h4⟩
theorem ziP {C : Ctx} {s : St} {β own S a w} (H : zaA C s β own S a w) {id l : Nat} {r : _root_.Go.Loop} {e : LSt} (hg : zax s.o id = some (.lrec l r e)) (e' : LSt) :
 zaA C ⟨s.t, (id, some (.lrec l r e')) :: s.o, s.nx⟩ β own S a (w.putObj l (.loop (zbP r e'))) := by
  obtain ⟨B, h1, h2, h3, h4⟩ := zgr H hg
  have hlt := (Array.getElem?_eq_some_iff.1 h4).1
  refine ⟨?_, H.fresh, H.m0, H.b0⟩
  simp only [zcK]
  have := H.h.set hg (w' := w.putObj l (.loop (zbP r e'))) (o := .lrec l r e') h1 (by simp) (fun b hb => World.putObj_heap_other (fun q => hb (by rw [h3, q]; rfl))) rfl rfl rfl (fun x => ⟨h2, h3, World.putObj_heap_same hlt⟩)
   none undef none (fun d s e => by cases e) (fun _ => .inl rfl)
  exact this
theorem zuc {P : Program} {C C1 : Ctx} {a' b' : MC} {assign body : Code} (hPC : C.P = P) (hPC1 : C1.P = P) (hG : C1.G = C.G) (hr1 : C1.rnd = none)
 (ihA : ∀ {C : Ctx}, C.P = P -> (∀ y, C.Y = some y -> YOk C y) -> ∀ {s : St} {K : Ex -> St -> Prop}, run C.toEnv a' s K -> ∀ {β own S a w}, zaA C s β own S a w -> assign.wpIn (Wf C.rnd) 0 C.P (post C K) a w)
 (ihB : ∀ {C : Ctx}, C.P = P -> (∀ y, C.Y = some y -> YOk C y) -> ∀ {s : St} {K : Ex -> St -> Prop}, run C.toEnv b' s K -> ∀ {β own S a w}, zaA C s β own S a w -> body.wpIn (Wf C.rnd) 0 C.P (post C K) a w)
 {t0 : List (Nat × SV)} {id : Nat} (hm0 : C1.m0 = id + 1) (hβ1 : ∀ i, id + 1 <= i -> C1.β0 i = none) {tmps : Array Value} (hsz : tmps.size = C.N)
 (ht0 : ∀ i v, zav i t0 = some v -> rel C1.β0 C1.w0 C1.S0 v (tmps.getD i undef)) (hS0 : ∀ b, C1.S0 b -> b < C1.w0.heap.size /\ ¬ C1.X0 b)
 {l D : Nat} {ps : Array Nat} {fn : FuncId} : 
 YOk C1 ⟨l, zoA C.toEnv ps.toList t0 id l { state := .ready, pending := none, fn, tmps, params := ps, assign, body, defers := D } (fun E => run E a') (fun E => run E b')⟩ := by
  subst hPC
  generalize hrec : ({ state := .ready, pending := none, fn, tmps, params := ps, assign, body, defers := D } : _root_.Go.Loop) = r
  intro vs t o nx K hy β2 own2 S2 a2 w2 xs H2 hxs
  simp only [zoA] at hy
  obtain ⟨hg, hy⟩ := zeg hy
  obtain ⟨hlen, t', hy, htmp⟩ := zje hy
  rw [zbf] at hy
  obtain ⟨B, q1, q2, q3, q4⟩ := zgr H2 hg
  have hr0 : zbP r .ready = r := by rw [<- hrec]; rfl
  simp only at q4
  rw [hr0] at q4
  have hxl := zaL _ _ hxs
  have hyr := run_yield (P := C1.P) (args := xs.toArray) q4 (by rw [<- hrec]; simp at hlen ⊢; omega)
  refine ⟨fn, zeT (ps.toList.zip xs) tmps, assign, body, ?_, ?_⟩
  . rw [hyr]
    have : (r.params.zip xs.toArray).foldl (fun tmps (x : Nat × Value) => match x with | (t, a) => tmps.setIfInBounds t a) r.tmps = zeT (ps.toList.zip xs) tmps := by
     rw [<- Array.foldl_toList, <- hrec]
     simp only [Array.toList_zip, List.toList_toArray, zeT]
    rw [<- this, <- hrec]
  . -- the round's own frame
    have m2 : C1.m0 <= nx := H2.m0
    let βp : Nat -> Option zay := fun i => if i < id + 1 then C1.β0 i else β2 i
    have hβp : ∀ i B, β2 i = some B -> βp i = some B := fun i B e => by
     simp only [βp]
     by_cases h : i < id + 1
     . rw [if_pos h]; exact H2.b0 i B (by omega) e
     . rw [if_neg h]; exact e
    have hβ0 : ∀ i B, C1.β0 i = some B -> βp i = some B := fun i B e => by
     simp only [βp]
     by_cases h : i < id + 1
     . rw [if_pos h]; exact e
     . rw [hβ1 i (by omega)] at e; cases e
    have hfresh : ∀ i, nx <= i -> βp i = none := fun i hi => by
     simp only [βp]; rw [if_neg (by omega)]; exact H2.fresh i hi
    let C2 : Ctx := { toEnv := { C.toEnv with rnd := some l, m0 := nx, Y := none }, sok := C.sok, psok := C.psok, w0 := w2, X0 := za9 (zax o) own2, S0 := S2, β0 := βp }
    have x0 : Ext C1.β0 C1.w0 C1.S0 βp w2 S2 := ⟨hβ0, H2.h.s0, fun b hb => H2.h.fr.block b (hS0 b hb).1 (hS0 b hb).2⟩
    have hA : zaA C2 ⟨t', o, nx⟩ βp own2 S2 { tmps := zeT (ps.toList.zip xs) tmps, defers := [] } w2 := by
     refine ⟨⟨?_, H2.h.mem.widen hβp, Fr.refl _ _, fun i b h1 h2 => .inl ⟨i, h1, h2⟩, fun _ e => e, fun _ e => .inl e, ?_, ⟨⟨by simp [mks], fun d hd => by simp [mks] at hd⟩, rfl⟩, ?_⟩, hfresh, Nat.le_refl _, fun i B _ e => e⟩
     . exact htmp (zbK ⟨hβp, fun _ e => e, fun _ _ => rfl⟩ _ _ hxs) hsz (fun i v e => zaH x0 _ _ (ht0 i v e))
     . show (zeT _ _).size = C.N
       rw [zjU]; exact hsz
     . intro g s e
       exact H2.h.gl g s (by rw [hG]; exact e)
    have hY2 : ∀ y, C2.Y = some y -> YOk C2 y := fun y e => by cases e
    have back : ∀ (e : LSt) s3 β3 own3 S3 a3 w3, zaA C2 s3 β3 own3 S3 a3 w3 -> zax s3.o id = some (.lrec l r .busy) →
     ∃ β4, zaA C1 ⟨t, (id, some (.lrec l r e)) :: s3.o, s3.nx⟩ β4 own3 S3 a2 (w3.putObj l (.loop (zbP r e))) := by
      intro e s3 β3 own3 S3 a3 w3 H3 hg3
      have H4 := ziP H3 hg3 e
      obtain ⟨β4, b1, b2, b3, H5⟩ := zk1 (H2.h.widen hβp) H4 rfl rfl rfl (fun i B e => e) hfresh
      refine ⟨β4, H5, b3, Nat.le_trans m2 H3.m0, fun i B hi e => ?_⟩
      rw [b2 i (Nat.lt_of_lt_of_le hi m2)] at e
      have hi' : i < id + 1 := by omega
      simp only [C2, βp, if_pos hi'] at e
      exact e
    rw [hr1, hPC1]
    refine roundIn_of_wpIn (F := Wf none) (n := 0) trivial ?_
    have wA := ihA (C := C2) rfl hY2 hy hA
    refine wpIn_mono wA (zdz (fun s2 β3 own3 S3 a3 w3 hf H3 => ?_) ?_)
    . simp only [zxm] at hf
      obtain ⟨hg3, hB⟩ := zeg hf
      obtain ⟨_, _, _, _, p4⟩ := zgr H3 hg3
      have hbr := run_beginRound (P := C.P) p4 (by rfl)
      refine ⟨_, hbr, ?_⟩
      have H4 := ziP H3 hg3 .busy
      have hbe : ({ zbP r .ready with state := .busy } : _root_.Go.Loop) = zbP r .busy := rfl
      rw [hbe]
      have wB := ihB (C := C2) rfl hY2 hB H4
      refine wpIn_mono wB ?_
      have fin : ∀ (jump : Option Code) (e : LSt) s5 β5 own5 S5 a5 w5, zaA C2 s5 β5 own5 S5 a5 w5 -> zax s5.o id = some (.lrec l r .busy) →
       ({ zbP r .busy with state := if jump.isNone then .ready else .done, pending := jump } : _root_.Go.Loop) = zbP r e -> K jump.isNone ((id, some (.lrec l r e)) :: s5.o) s5.nx →
       ∃ v w', (Instr.endRound l jump).run C.P w5 = .ok v w' /\ ∃ b o' nx' β' own' S', Ending.returned v = .returned (.bool b) /\ K b o' nx' /\ zaA C1 ⟨t, o', nx'⟩ β' own' S' a2 w' := by
        intro jump e s5 β5 own5 S5 a5 w5 H5 hg5 he hk
        obtain ⟨_, _, _, _, u4⟩ := zgr H5 hg5
        have hen := run_endRound (P := C.P) jump u4
        rw [he] at hen
        obtain ⟨β6, H6⟩ := back e s5 β5 own5 S5 a5 w5 H5 hg5
        exact ⟨_, _, hen, _, _, _, _, _, _, rfl, hk, H6⟩
      intro ex a5 w5 hp
      cases ex with
      | normal =>
        obtain ⟨s5, β5, own5, S5, hk, H5⟩ := hp
        simp only [zmH] at hk
        obtain ⟨hg5, hk⟩ := zeg hk
        exact fin none .ready s5 β5 own5 S5 a5 w5 H5 hg5 rfl hk
      | ret =>
        obtain ⟨s5, β5, own5, S5, hk, H5⟩ := hp
        simp only [zmH] at hk
        obtain ⟨hg5, hk⟩ := zeg hk
        exact fin (some .ret) (.done .ret) s5 β5 own5 S5 a5 w5 H5 hg5 rfl hk
      | exit i =>
        obtain ⟨s5, β5, own5, S5, hk, H5⟩ := hp
        simp only [zmH] at hk
        obtain ⟨hg5, hk⟩ := zeg hk
        exact fin (some (.exit i)) (.done (.exit i)) s5 β5 own5 S5 a5 w5 H5 hg5 rfl hk
      | panic ch =>
        obtain ⟨s5, β5, own5, S5, v, x, _, hk, _⟩ := hp
        simp only [zmH] at hk
        exact (zeg hk).2.elim
      | goto i => exact hp.elim
      | outgrown => exact hp.elim
    . intro e a w hp
      cases e <;> simp only [post] at hp
      all_goals first | (obtain ⟨_, _, _, _, h, _⟩ := hp; exact h.elim) | (obtain ⟨_, _, _, _, _, _, _, h, _⟩ := hp; exact h.elim) | exact hp.elim
theorem zhU {P : Program} (hmix : P.follows .mixedOrders = true) {code : Code} {mc : MC} (hmc : zbk P code mc) : ∀ {C : Ctx}, C.P = P -> (∀ y, C.Y = some y -> YOk C y) -> ∀ {s : St} {K : Ex -> St -> Prop}, run C.toEnv mc s K -> ∀ {β own S a w}, zaA C s β own S a w →
 code.wpIn (Wf C.rnd) 0 C.P (post C K) a w := by
  induction hmc with
  | skip => intro C hP hY s K h β own S a w H; exact wpIn_skip ⟨s, β, own, S, h, H⟩
  | exit => intro C hP hY s K h β own S a w H; exact wpIn_exit ⟨s, β, own, S, h, H⟩
  | ret => intro C hP hY s K h β own S a w H; exact wpIn_ret ⟨s, β, own, S, h, H⟩
  | reg hr =>
    intro C hP hY s K h β own S a w H
    have hr := hr C hP
    refine wpIn_region (zjP hY (List.range _) _ (by simpa using hr.len) (fun t h1 h2 => ?_) h H)
    obtain ⟨o, h3, h4⟩ := hr.ok t (by simpa using h1) h2
    exact ⟨o, by simpa using h3, h4⟩
  | drw hr hd =>
    rename_i id ops ms pre
    intro C hP hY s K h β own S a w H
    simp only [run] at h
    have hr := hr C hP
    obtain ⟨es, s', hrun, ⟨hnc⟩, hk⟩ := znC (List.range ops.size) ms (by simpa using hr.len) (fun t h1 h2 => by
     obtain ⟨o, h3, h4⟩ := hr.ok t (by simpa using h1) h2
     exact ⟨o, by simpa using h3, h4⟩) h
    simp only [List.nil_append] at hnc hk
    refine wpIn_region_any (by rw [hP]; exact hmix) ?_
    have f0 : ∀ i, (Array.replicate ops.size false).getD i false = false := fun i => by simp [Array.getD_eq_getD_getElem?, Array.getElem?_replicate]; split <;> rfl
    refine zqM hrun hnc hd.ok hd.lt (fun β' own' S' a' w' H' => ⟨s', β', own', S', hk, H'⟩) H.m0 H.b0 ops.size _ β own S a _ (by simp) (fun j p _ e => ?_) ?_ ?_ (fun id hid _ => H.fresh id hid) (fun _ _ => rfl)
    . have := f0 j; simp only at e; rw [this] at e; cases e
    . exact Nat.le_trans (List.length_filter_le _ _) (by simp)
    . rw [znl _ f0, znk _ f0]
      have := H.h.pure (w' := { w with drawn := w.drawn + 1 }) rfl rfl rfl rfl none undef none (fun d s e => by cases e) (fun _ => .inl rfl)
      simpa [zbe, Act.put] using this
  | seq _ _ ih1 ih2 =>
    intro C hP hY s K h β own S a w H
    simp only [run] at h
    exact wpIn_seq (wpIn_mono (ih1 hP hY h H) (zdz (fun s β own S a w hf H => ih2 hP hY hf H) (fun _ _ _ h => h)))
  | join _ _ ih1 ih2 =>
    intro C hP hY s K h β own S a w H
    simp only [run] at h
    rename_i n _ _ _ _ _ _
    cases hj : C.J n with
    | plain => rw [hj] at h; exact wpIn_seq (wpIn_mono (ih1 hP hY h H) (zdz (fun s β own S a w hf H => ih2 hP hY hf H) (fun _ _ _ h => h)))
    | cut γ I inv =>
    rw [hj] at h
    obtain ⟨h1, h2⟩ := h
    . refine wpIn_seq (wpIn_mono (ih1 hP hY h1 H) (zdz (fun s β own S a w hf H => ?_) (fun _ _ _ h => h)))
      obtain ⟨c, hw, ⟨hc⟩⟩ := hf
      obtain ⟨β', own', S', H'⟩ := hw.holds H
      exact ih2 hP hY (h2 c hc) H'
    | cutr γ I inv =>
    rw [hj] at h
    obtain ⟨h1, h2⟩ := h
    . refine wpIn_seq (wpIn_mono (ih1 hP hY h1 H) (zdz (fun s β own S a w hf H => ?_) (fun _ _ _ h => h)))
      obtain ⟨c, hw, ⟨hc⟩⟩ := hf
      obtain ⟨β', own', S', H'⟩ := hw.holds H
      exact ih2 hP hY (h2 c hc) H'
  | cond _ _ ih1 ih2 =>
    rename_i x ca cb ca' cb' _ _
    intro C hP hY s K h β own S a w H
    simp only [run, zo4] at h
    split at h
    . rename_i e
      have := zdK H e
      simp only [rel] at this
      exact wpIn_cond_true this (ih1 hP hY h H)
    . rename_i e
      have := zdK H e
      simp only [rel] at this
      exact wpIn_cond_false this (ih2 hP hY h H)
    . rename_i b e
      have := zdK H e
      simp only [rel] at this
      exact wpIn_cond_split this (fun hb => ih1 hP hY (h.1 hb) H) (fun hb => ih2 hP hY (h.2 hb) H)
    . rename_i p e
      have := zdK H e
      simp only [rel] at this
      obtain ⟨b, hb, hi⟩ := this
      exact wpIn_cond_split hb (fun e => ih1 hP hY (h.1 (hi.1 e)) H) (fun e => ih2 hP hY (h.2 (fun hp => by rw [hi.2 hp] at e; cases e)) H)
    . exact h.elim
  | gh _ ih =>
    intro C hP hY s K h β own S a w H
    simp only [run] at h
    obtain ⟨s', β', own', S', hk, H'⟩ := zyH h H
    exact ih hP hY hk H'
  | blk _ ih =>
    rename_i id ca ca' _
    intro C hP hY s K h β own S a w H
    simp only [run] at h
    refine wpIn_block (wpIn_mono (ih hP hY h H) fun e a w hp => ?_)
    cases e with
    | normal => exact hp
    | exit i =>
      obtain ⟨s, β, own, S, h1, h2⟩ := hp
      simp only [Ex.blk] at h1
      simp only [Exit.inBlock]
      by_cases hi : i = id
      . subst hi
        rw [if_pos rfl]
        simp at h1
        exact ⟨s, β, own, S, h1, h2⟩
      . rw [if_neg hi]
        have : Nat.beq i id = false := by cases e : Nat.beq i id with | false => rfl | true => exact absurd (Nat.eq_of_beq_eq_true e) hi
        rw [this] at h1
        exact ⟨s, β, own, S, h1, h2⟩
    | ret => exact hp
    | goto l => exact hp.elim
    | panic c => exact hp
    | outgrown => exact hp.elim
  | loop _ ih =>
    rename_i n ca ca' _
    intro C hP hY s K h
    simp only [run] at h
    have key : ∀ {β own S a w}, zaA C s β own S a w -> zdZ (Wf C.rnd) 0 C.P ca (post C K) a w := by
     cases hl : C.L n with
     | inv γ I inv μ =>
       rw [hl] at h
       obtain ⟨c0, hw0, ⟨hc0⟩, h1⟩ := h
       intro β own S a w H
       have go : ∀ (j : Nat) c, μ c = j -> I c0 c -> ∀ {β own S a w}, zaA C (inv c) β own S a w -> zdZ (Wf C.rnd) 0 C.P ca (post C K) a w := by
        intro j
        induction j using Nat.strongRecOn with
        | _ j ihj =>
          intro c hj hc β own S a w H
          refine .mk (fun a' w' => ∃ c', I c0 c' /\ μ c' < μ c /\ ∃ β own S, zaA C (inv c') β own S a' w') (wpIn_mono (ih hP hY (h1 c hc) H) (zdz (fun s β own S a w hf H => ?_) (fun _ _ _ h => h))) ?_
          . obtain ⟨c', h4, ⟨h2, h3⟩⟩ := hf
            obtain ⟨β', own', S', H'⟩ := h4.holds H
            exact ⟨c', h2, h3, β', own', S', H'⟩
          . rintro a' w' ⟨c', h2, h3, β', own', S', H'⟩
            exact ihj (μ c') (by omega) c' rfl h2 H'
       obtain ⟨β', own', S', H'⟩ := hw0.holds H
       exact go _ c0 rfl hc0 H'
     | rounds k =>
       rw [hl] at h
       have go : ∀ (k : Nat) (s : St), zjb (run C.toEnv ca') K k s -> ∀ {β own S a w}, zaA C s β own S a w -> zdZ (Wf C.rnd) 0 C.P ca (post C K) a w := by
        intro k
        induction k with
        | zero => intro s h; exact h.elim
        | succ k ihk =>
          intro s h β own S a w H
          exact .mk (fun a' w' => ∃ s' β own S, zjb (run C.toEnv ca') K k s' /\ zaA C s' β own S a' w') (wpIn_mono (ih hP hY h H) (zdz (fun s β own S a w hf H => ⟨s, β, own, S, hf, H⟩) (fun _ _ _ h => h)))
           (fun a' w' ⟨s', β', own', S', h1, h2⟩ => ihk s' h1 h2)
       intro β own S a w H; exact go k s h H
    intro β own S a w H
    exact (key H).wp
  | rng _ _ hf hb hN hr he _ ihA ihB ihI =>
    rename_i f ps ca cb ca' cb' n N it fn code _ _ _
    intro C hP hY s K h β own S act w H
    obtain ⟨st, so, nx⟩ := s
    subst hP
    simp only [run] at h
    split at h
    . exact h.elim
    rename_i hrnd
    split at h
    case h_2 => exact h.elim
    rename_i n' fa fc hfv
    split at h
    case h_2 => exact h.elim
    rename_i hbn hbl
    have hn := Nat.eq_of_beq_eq_true hbn
    subst hn
    have hfx := zdK H hfv
    simp only [rel] at hfx
    obtain ⟨va, vc, hfe, hra, hrc⟩ := hfx
    have hW : Wf C.rnd = Wf none := by rw [hrnd]
    rw [hW]
    refine wpIn_rangeFunc ?_
    intro fid hfid
    show ∃ l mark w₁ d w₁' f args w₂, (Instr.enterLoop fid act.tmps ps ca cb none).run C.P w = _ /\ _
    have hrunE := run_enterLoop_outer (P := C.P) (w := w) fid act.tmps ps ca cb
    generalize hrec : ({ state := .ready, pending := none, fn := fid, tmps := act.tmps, params := ps, assign := ca, body := cb, defers := w.heap.size } : _root_.Go.Loop) = r at hrunE
    have hr0 : zbP r .ready = r := by rw [<- hrec]; rfl
    have hsz1 : (w.alloc (.deferred (some []))).heap.size = w.heap.size + 1 := by simp
    generalize hW1 : (w.alloc (.deferred (some []))).alloc (.loop r) = W1 at hrunE
    have hsz2 : W1.heap.size = w.heap.size + 2 := by rw [<- hW1]; simp
    have hnx : β nx = none := H.fresh nx (Nat.le_refl _)
    have Ha := H.h.push (.deferred (some []))
    have hlast : W1.heap[(w.alloc (.deferred (some []))).heap.size]? = some (.loop r) := by rw [<- hW1]; exact World.alloc_heap_new _ _
    have Hb := Ha.new (id := nx) hnx (w' := W1) (ob := .loop r) (by rw [<- hW1]; rfl) (by rw [<- hW1]; rfl) (by rw [<- hW1]; rfl) (by rw [<- hW1]; rfl) (B := ⟨some (w.heap.size + 1), 0, 0⟩) (o := .lrec (w.heap.size + 1) r .ready)
     (fun x => ⟨rfl, by rw [hsz1], by rw [hr0, <- hsz1]; exact hlast⟩) none undef none (fun d s e => by cases e) (fun _ => .inl rfl)
    rw [hsz1] at Hb
    simp only [zbe] at Hb
    rw [<- zcK] at Hb
    have hD1 : W1.heap[w.heap.size]? = some (.deferred (some [])) := by
     rw [<- hW1]
     show ((w.alloc (.deferred (some []))).heap.push _)[w.heap.size]? = _
     rw [Array.getElem?_push, if_neg (by rw [hsz1]; omega)]
     exact World.alloc_heap_new w _
    have hold : ∀ b, b < w.heap.size -> W1.heap[b]? = w.heap[b]? := fun b hb => by
     rw [<- hW1]
     show ((w.heap.push _).push _)[b]? = _
     rw [Array.getElem?_push, if_neg (by simp; omega), Array.getElem?_push, if_neg (by omega)]
    generalize hβ1 : upd β nx (some ⟨some (w.heap.size + 1), 0, 0⟩) = β1 at Hb
    have hβ1a : ∀ i B, β i = some B -> β1 i = some B := fun i B e => by
     subst hβ1
     by_cases hi : i = nx
     . subst hi; rw [hnx] at e; cases e
     . rw [zab _ _ hi]; exact e
    have hβ1b : ∀ i, i ≠ nx -> β1 i = β i := fun i hi => by subst hβ1; exact zab _ _ hi
    have hβ1c : β1 nx = some ⟨some (w.heap.size + 1), 0, 0⟩ := by subst hβ1; exact zac _ _ _
    generalize hown1 : upd own nx (zci (w.heap.size + 1)) = own1 at Hb
    have ownlt : ∀ id b, (zax ((nx, some (.lrec (w.heap.size + 1) r .ready)) :: so) id).isSome -> own1 id b -> b < w.heap.size \/ b = w.heap.size + 1 := fun id b h1 h2 => by
     subst hown1
     rw [zcK] at h1
     by_cases hi : id = nx
     . subst hi; rw [zac] at h2; exact .inr h2
     . rw [zab _ _ hi] at h1 h2
       obtain ⟨o', ho'⟩ := Option.isSome_iff_exists.1 h1
       obtain ⟨B', _, h3⟩ := H.h.mem.obj id o' ho'
       exact .inl (h3.lt b h2)
    have h := h (w.heap.size + 1) r
    rw [zed, zbf] at h
    let o1 : List (Nat × Option SO) := (nx, some (.lrec (w.heap.size + 1) r .ready)) :: so
    let C1 : Ctx := { toEnv := { C.toEnv with N := N, m0 := nx + 1, L := fun i => C.L (100 + i), J := fun i => C.J (100 + i), Y := some ⟨w.heap.size + 1, zoA C.toEnv ps.toList st nx (w.heap.size + 1) r (fun E => run E ca') (fun E => run E cb')⟩ }, sok := C.sok, psok := C.psok, w0 := W1, X0 := za9 (zax o1) own1, S0 := S, β0 := β1 }
    have hXD : ¬ C1.X0 w.heap.size := fun ⟨i, h1, h2⟩ => by
     rcases ownlt i _ h1 h2 with h | h <;> omega
    have x1 : Ext β w S β1 W1 S := ⟨hβ1a, fun _ e => e, fun b hb => hold b (H.h.mem.sz b hb)⟩
    have hS0 : ∀ b, C1.S0 b -> b < C1.w0.heap.size /\ ¬ C1.X0 b := fun b hb => by
     have := H.h.mem.sz b hb
     refine ⟨by show b < W1.heap.size; omega, fun ⟨i, h1, h2⟩ => ?_⟩
     exact Hb.mem.st i b h1 h2 hb
    let vs : Array Value := va ++ #[.func (.yield (w.heap.size + 1)) #[] #[]] ++ vc
    have hargs : zam β1 W1 S (fa ++ .fn (.yield (w.heap.size + 1)) [] [] :: fc) vs.toList := by
     have : vs.toList = va.toList ++ (.func (.yield (w.heap.size + 1)) #[] #[]) :: vc.toList := by simp [vs]
     rw [this]
     refine zbC _ _ _ _ (zbK x1 _ _ hra) ?_
     simp only [zam]
     exact ⟨_, _, rfl, by simp [rel, zam], zbK x1 _ _ hrc⟩
    have hlen := zaL _ _ hargs
    have hvN : vs.size <= fn.ntmps := by
     have : (fa ++ SV.fn (.yield (w.heap.size + 1)) [] [] :: fc).length = fa.length + 1 + fc.length := by simp; omega
     have h2 : vs.toList.length = vs.size := by simp
     have h3 := Nat.le_of_ble_eq_true hbl
     omega
    have H1 : zaA C1 ⟨zbm (fa ++ .fn (.yield (w.heap.size + 1)) [] [] :: fc) 0, o1, nx + 1⟩ β1 own1 S { tmps := vs ++ Array.replicate (fn.ntmps - vs.size) undef, defers := [] } W1 := by
     refine ⟨⟨fun t s e => ?_, Hb.mem, Fr.refl _ _, fun id b h1 h2 => .inl ⟨id, h1, h2⟩, fun _ e => e, fun _ e => .inl e, ?_, ⟨⟨by simp [mks], fun d hd => by simp [mks] at hd⟩, rfl⟩, fun g s e => Hb.gl g s e⟩, fun i hi => ?_, Nat.le_refl _, fun i B _ e => e⟩
     . simp only [zaM, zcb, Nat.zero_le, if_true, Nat.sub_zero] at e
       rw [zbx] at e
       obtain ⟨y, h1, h2⟩ := zd6 (i := t) _ _ _ hargs e
       have ht : t < vs.size := by
        have := (List.getElem?_eq_some_iff.1 h1).1
        simpa using this
       have : (vs ++ Array.replicate (fn.ntmps - vs.size) undef).getD t undef = y := by
        rw [Array.getD_eq_getD_getElem?, Array.getElem?_append_left ht]
        simp at h1
        rw [h1]; rfl
       simp only [this]
       exact h2
     . show (vs ++ Array.replicate (fn.ntmps - vs.size) undef).size = N
       simp; omega
     . rw [hβ1b i (by show i ≠ nx; have : nx + 1 <= i := hi; omega)]
       exact H.fresh i (by show nx <= i; have : nx + 1 <= i := hi; omega)
    have hYok : ∀ y, C1.Y = some y -> YOk C1 y := fun y e => by
     simp only [C1, Option.some.injEq] at e
     subst e
     have := zuc (P := C.P) (C := C) (C1 := C1) (l := w.heap.size + 1) (D := w.heap.size) (ps := ps) (fn := fid) (t0 := st) (id := nx) (tmps := act.tmps) rfl rfl rfl hrnd ihA ihB rfl (fun i hi => by
      show β1 i = none
      rw [hβ1b i (by omega)]; exact H.fresh i (by show nx <= i; omega)) H.h.n (fun i v e => zaH x1 _ _ (H.h.tm i v e)) hS0
     rw [hrec] at this
     exact this
    have wI := ihI (C := C1) rfl hYok h H1
    have hr1 : C1.rnd = none := hrnd
    rw [hr1] at wI
    have fin : ∀ s1 β2 own2 S2 a2 w2, (zrR nx st K .nrm s1) -> zaA C1 s1 β2 own2 S2 a2 w2 →
     LeavesInM (Wf none) 0 C.P fn a2.tmps (rangePost (Wf none) 0 C.P (w.heap.size + 1) (post C K) { act with defers := [{ target := .collected w.heap.size, args := #[] }] ++ act.defers }) a2.defers .returning w2 := by
      intro s1 β2 own2 S2 a2 w2 hk H2
      obtain ⟨hdf2, hms2⟩ := H2.h.df
      rw [zgg hms2] at hdf2
      refine zfo a2.defers w2 hdf2.nd (fun d hd => ?_) (fun w3 g1 g2 g3 g4 g5 => ?_)
      . obtain ⟨D, e1, _, e3, _⟩ := hdf2.at_ d hd
        exact ⟨D, e1, e3⟩
      . have H3 : zaA C1 s1 β2 own2 S2 { a2 with defers := [] } w3 := ⟨H2.h.undf g1 g2 g3 g4 hdf2 g5, H2.fresh, H2.m0, H2.b0⟩
        refine ⟨.tuple #[], zkr (xs := []) (by rw [hr]; rfl), ?_⟩
        obtain ⟨s1t, s1o, s1nx⟩ := s1
        simp only [zrR] at hk
        split at hk
        case h_2 => exact hk.elim
        rename_i l' r' e hg
        obtain ⟨B, q1, q2, q3, q4⟩ := zgr H3 hg
        have hB := H3.b0 nx B (by show nx < nx + 1; omega) q1
        simp only [C1] at hB
        rw [hβ1c] at hB
        cases hB
        cases q2
        have key : ∀ (p : Option Code), (zbP r' e).pending = p -> (zbP r' e).state ≠ .busy -> ({ zbP r' e with state := .exhausted } : _root_.Go.Loop) = zbP r' (.over p) →
         (∃ w4, (Instr.endLoop (w.heap.size + 1)).run C.P w3 = .ok p w4 ∧
          ∃ β5, zaA C ⟨st, (nx, none) :: s1o, s1nx⟩ β5 own2 S2 { act with defers := [{ target := .collected w.heap.size, args := #[] }] ++ act.defers } w4) := by
          intro p hp hnb hov
          have hrun := run_endLoop (P := C.P) q4 hnb
          rw [hov, hp] at hrun
          refine ⟨_, hrun, ?_⟩
          have H4 := ziP H3 hg (.over p)
          obtain ⟨β5, b1, b2, b3, H5⟩ := zk1 Hb H4 rfl rfl rfl (fun i B e => e) (fun i hi => by
           have hi : nx + 1 <= i := hi
           show β1 i = none
           rw [hβ1b i (by omega)]; exact H.fresh i (by show nx <= i; omega))
          have H6 := H5.drop nx
          rw [zcK, zio, <- zcK] at H6
          have hm1 : nx + 1 <= s1nx := H3.m0
          have hm0 : C.m0 <= nx := H.m0
          obtain ⟨hdf6, hms6⟩ := H6.df
          obtain ⟨hdf0, hms0⟩ := H.h.df
          refine ⟨β5, ⟨⟨H6.tm, H6.mem, H6.fr, H6.own0, H6.s0, H6.s1, H6.n, ⟨(show zlF _ _ _ _ (_ :: mks act.defers) _ from ⟨?_, fun d hd => ?_⟩), hms6⟩, H6.gl⟩, b3, by show C.m0 <= s1nx; omega, fun i B hi e => ?_⟩⟩
          . simp only [List.nodup_cons]
            refine ⟨fun hmem => ?_, hdf0.nd⟩
            obtain ⟨D, e1, _, e3, _⟩ := hdf0.at_ _ hmem
            injection e1 with e1
            injection e1 with e1
            subst e1
            have := (Array.getElem?_eq_some_iff.1 e3).1
            omega
          . simp only [List.mem_cons] at hd
            rcases hd with rfl | hd
            . refine ⟨w.heap.size, rfl, H.h.fr.size, ?_, fun hs => ?_, fun i hi hb => ?_⟩
              . rw [H4.h.fr.block w.heap.size (by show _ < W1.heap.size; omega) hXD]
                exact hD1
              . rcases H4.h.s1 _ hs with h | h | h
                . have : w.heap.size < w.heap.size := H.h.mem.sz _ h
                  omega
                . exact hXD h
                . have : W1.heap.size <= w.heap.size := h
                  omega
              . have hi' : (zax ((nx, some (.lrec (w.heap.size + 1) r' (.over p))) :: s1o) i).isSome := by
                 rw [zcK] at hi ⊢
                 by_cases e : i = nx
                 . subst e; simp
                 . rwa [zab _ _ e] at hi ⊢
                rcases H4.h.own0 i _ hi' hb with h | h
                . exact hXD h
                . have : W1.heap.size <= w.heap.size := h
                  omega
            . exact hdf6.at_ d hd
          . rw [b2 i (by show i < nx + 1; omega)] at e
            simp only [C1] at e
            rw [hβ1b i (by omega)] at e
            exact H.b0 i B hi e
        cases e with
        | ready =>
          obtain ⟨w4, k1, β5, k2⟩ := key none rfl (by simp [zbP]) rfl
          exact ⟨none, w4, k1, _, β5, own2, S2, hk, k2⟩
        | done j =>
          cases j with
          | ret =>
            obtain ⟨w4, k1, β5, k2⟩ := key (some .ret) rfl (by simp [zbP]) rfl
            exact ⟨some .ret, w4, k1, wpIn_ret ⟨_, β5, own2, S2, hk, k2⟩⟩
          | exit i =>
            obtain ⟨w4, k1, β5, k2⟩ := key (some (.exit i)) rfl (by simp [zbP]) rfl
            exact ⟨some (.exit i), w4, k1, wpIn_exit ⟨_, β5, own2, S2, hk, k2⟩⟩
          | _ => exact hk.elim
        | _ => exact hk.elim
    refine ⟨w.heap.size + 1, [{ target := .collected w.heap.size, args := #[] }], W1, { target := .fn (.func n') vc, args := va ++ #[.func (.yield (w.heap.size + 1)) #[] #[]] }, W1, n', vs, W1, hrunE, ?_, fun _ _ => trivial, ?_,
     fun e => by simp [Wf, Fence.wide] at e, ?_⟩
    . simp only [resolve, hfe, Deferred.ofValue, rangeCall]
      simp [Act.eval]
    . simp only [invoke]
      exact he _ _
    . refine callsIn_of_wp_marks (F := Wf none) (n := 0) hf hb trivial (wpIn_mono wI ?_) rfl
      intro ex a' w' hp
      cases ex with
      | normal => obtain ⟨s1, β2, own2, S2, hk, H2⟩ := hp; exact fin s1 β2 own2 S2 a' w' hk H2
      | ret => obtain ⟨s1, β2, own2, S2, hk, H2⟩ := hp; exact fin s1 β2 own2 S2 a' w' hk H2
      | exit i => obtain ⟨s1, β2, own2, S2, hk, H2⟩ := hp; exact hk.elim
      | panic ch => obtain ⟨s1, β2, own2, S2, v, x, _, hk, _⟩ := hp; exact hk.elim
      | goto l => exact hp.elim
      | outgrown => exact hp.elim
end Go.Sx
namespace Go.Sx
open Go
open Classical
inductive RV where
 | t (n : Nat)
 | c (n : Nat) (sz : Option Nat)
def zov (cs : List SV) (sub : Nat) (n : Option Nat) (f : SV -> RT) : RT :=
 match n with
 | none => (match zaQ cs sub with | some c => f c | none => .fail)
 | some n => (match zf8 cs sub n with | some l => f (.agg l) | none => .fail)
def RV.rd (f : SV -> RT) : RV -> RT
 | .t n => .rT n fun o => match o with | some v => f v | none => .fail
 | .c n sz => .rT n fun o => match o with
   | some (.ptr id idx sub) => .rO id fun o => (match o with
     | some (.row cs) => (match idx with | 0 => zov cs sub sz f | _ => .fail)
     | _ => .fail)
   | _ => .fail
def RVs.rd : List RV -> (List SV -> RT) -> RT
 | [], f => f []
 | r :: rs, f => RV.rd (fun v => RVs.rd rs fun vs => f (v :: vs)) r
def zlx : List SV -> SV
 | [v] => v
 | vs => .tup vs
def ze2 : List (Option SO) -> Nat -> List (Nat × Option Nat)
 | [], _ => []
 | some _ :: l, i => (i, some i) :: ze2 l (i + 1)
 | none :: l, i => ze2 l (i + 1)
def zby : List (Option SO) -> Nat -> List (Nat × SO)
 | [], _ => []
 | some o :: l, i => (i, o) :: zby l (i + 1)
 | none :: l, i => zby l (i + 1)
def zeQ (rs : List RV) (L : zaa) : RT :=
 RVs.rd rs fun vs => mSV ⟨ze2 L.out 0, []⟩ L.res (zlx vs) fun ρ =>
  zfX ρ (zby L.out 0 ++ zbm L.new L.foot.length) fun ρ => zjo L.foot.length (L.foot.length + L.new.length) ρ
def zxl (rs : List RV) (L : zaa) : Ex -> St -> Prop
 | .nrm, s => (zeQ rs L).vc (zaM s.t) (zax s.o) [] fun _ _ _ _ => True
 | .ret, s => (zeQ rs L).vc (zaM s.t) (zax s.o) [] fun _ _ _ _ => True
 | .exit _, _ => False
 | .pan _, _ => False
def zdX : List SO -> List (Option SO)
 | [] => []
 | o :: l => some o :: zdX l
def entry (L : zaa) : St := ⟨zbm L.args 0, zbm (zdX L.foot) 0, L.foot.length⟩
structure zve (P : Program) (r : ResultVar) (v : RV) : Prop where
 ok : match r, v with
  | .tmp t, .t n => t = n
  | .cell a t, .c n sz => a = n /\ zhk P t sz
  | _, _ => False
def zfc (P : Program) : List ResultVar -> List RV -> Prop
 | [], l => l = []
 | r :: rs, l => ∃ v vs, l = v :: vs /\ zve P r v /\ zfc P rs vs
theorem zpz {gt go} {cs : List SV} {sub : Nat} {n : Option Nat} {f : SV -> RT} {R v os k} (h : (zov cs sub n f).Runs gt go R v os k) : ∃ s, zb1 cs sub n = zaC s /\ (f s).Runs gt go R v os k := by
 unfold zov at h
 split at h
 . split at h
   . rename_i c hc; exact ⟨c, by simp [zb1, hc], h⟩
   . cases h
 . split at h
   . rename_i c hc; exact ⟨_, by simp [zb1, hc], h⟩
   . cases h
theorem zxp {P : Program} {gt go} {r : ResultVar} {q : RV} (hq : zve P r q) {f : SV -> RT} {R v os k} (h : (RV.rd f q).Runs gt go R v os k) : ∃ s R', (f s).Runs gt go R' v os k ∧
 ∀ {C : Ctx} {β own S a w}, C.P = P -> zah C gt go β own S a w -> ∃ x, (zfL a.tmps r).run P w = .ok x w /\ rel β w S s x := by
  cases r with
  | tmp t =>
    cases q with
    | c n sz => exact hq.ok.elim
    | t n =>
      have : t = n := hq.ok
      subst this
      simp only [RV.rd] at h
      cases h with
      | rT h =>
        dsimp only at h
        split at h
        . rename_i s hs
          exact ⟨s, _, h, fun _ H => ⟨_, by simp [zfL], H.tm t s hs⟩⟩
        . cases h
  | cell b t =>
    cases q with
    | t n => exact hq.ok.elim
    | c n sz =>
      obtain ⟨e, hl⟩ : b = n /\ zhk P t sz := hq.ok
      subst e
      simp only [RV.rd] at h
      cases h with
      | rT h =>
        dsimp only at h
        split at h
        case h_2 => cases h
        rename_i id idx sub hs
        cases h with
        | rO h =>
          dsimp only at h
          split at h
          case h_2 => cases h
          rename_i cs hgo
          split at h
          case h_2 => cases h
          obtain ⟨s, hp, h⟩ := zpz h
          refine ⟨s, _, h, fun {C β own S a w} hC H => ?_⟩
          have hr := H.tm b _ hs
          simp only [rel] at hr
          obtain ⟨B, b', h1, h2, h3⟩ := hr
          obtain ⟨B', h4, b'', arr, T, h5, h6, _, h7, h8, h9⟩ := H.mem.obj _ _ hgo
          rw [h1] at h4; cases h4
          rw [h2] at h5; cases h5
          have hruns : (zb1 cs sub sz).Runs gt go [] (some s) [] 0 := by rw [hp]; exact .done
          obtain ⟨s', e1, _, _, y, h10, h11⟩ := zeE (P := P) (off := 0) (m := arr.toList.length) hl h8 (by rw [List.drop_zero, List.take_length]; exact h9) hruns
          cases e1
          refine ⟨y, ?_, h11⟩
          simp only [Nat.zero_mul, Nat.zero_add] at h3
          simp only [zfL, h3]
          simpa [Instr.loadAt, Instr.sureAddr, asAddr] using h10
theorem zkx {P : Program} {gt go} : ∀ {rs : List ResultVar} {qs : List RV} {f : List SV -> RT} {R v os k}, zfc P rs qs -> (RVs.rd qs f).Runs gt go R v os k -> ∃ ss R', (f ss).Runs gt go R' v os k ∧
 ∀ {C : Ctx} {β own S a w}, C.P = P -> zah C gt go β own S a w -> ∃ xs, (rs.mapM (zfL a.tmps)).run P w = .ok xs w /\ zam β w S ss xs
  | [], qs, f, R, v, os, k, hq, h => by
    simp only [zfc] at hq
    subst hq
    exact ⟨[], _, h, fun _ _ => ⟨[], by simp, by simp [zam]⟩⟩
  | r :: rs, qs, f, R, v, os, k, hq, h => by
    obtain ⟨q, qs', rfl, h1, h2⟩ := hq
    simp only [RVs.rd] at h
    obtain ⟨s, R1, h, hs⟩ := zxp h1 h
    obtain ⟨ss, R2, h, hss⟩ := zkx h2 h
    refine ⟨s :: ss, R2, h, fun {C β own S a w} hC H => ?_⟩
    obtain ⟨x, hx, hr⟩ := hs hC H
    obtain ⟨xs, hxs, hrs⟩ := hss hC H
    exact ⟨x :: xs, by simp [List.mapM_cons, hx, hxs], by simp only [zam]; exact ⟨x, xs, rfl, hr, hrs⟩⟩
theorem znB {β w S} {ss : List SV} {xs : List Value} (h : zam β w S ss xs) : rel β w S (zlx ss) (ziZ xs) := by
 match ss, xs, h with
 | [], xs, h => simp only [zam] at h; subst h; simp only [zlx, ziZ, rel]; exact ⟨_, rfl, by simp [zam]⟩
 | [s], xs, h =>
   simp only [zam] at h
   obtain ⟨x, r, rfl, hx, rfl⟩ := h
   exact hx
 | s :: s' :: ss, xs, h =>
   have h0 := h
   simp only [zam] at h
   obtain ⟨x, r, rfl, hx, x', r', rfl, hx', hr⟩ := h
   simp only [zlx, ziZ, rel]
   exact ⟨_, rfl, by simpa using h0⟩
theorem zca : ∀ (l : List (Option SO)) (i0 i : Nat) (q : Option Nat), zav i (ze2 l i0) = some q -> q = some i
 | [], _, _, _, h => by simp [ze2, zav] at h
 | some o :: l, i0, i, q, h => by
   simp only [ze2] at h
   rw [zaI] at h
   split at h
   . rename_i e; subst e; cases h; rfl
   . exact zca l _ i q h
 | none :: l, i0, i, q, h => zca l _ i q (by simpa [ze2] using h)
theorem zdu : ∀ (l : List (Option SO)) (i0 i : Nat), zav i (zby l i0) = if i0 <= i then (zaQ l (i - i0)).bind id else none
 | [], i0, i => by simp [zby, zav, zaQ]
 | x :: l, i0, i => by
   have hs : i0 + 1 <= i -> i - i0 = (i - (i0 + 1)) + 1 := by omega
   cases x with
   | none =>
     simp only [zby]
     rw [zdu l (i0 + 1) i]
     by_cases h : i0 = i
     . subst h; rw [if_neg (by omega)]; simp [zaQ]
     . by_cases h2 : i0 <= i
       . rw [if_pos h2, if_pos (by omega), hs (by omega)]; rfl
       . rw [if_neg h2, if_neg (by omega)]
   | some o =>
     simp only [zby]
     rw [zaI, zdu l (i0 + 1) i]
     by_cases h : i0 = i
     . subst h; simp [zaQ]
     . rw [if_neg h]
       by_cases h2 : i0 <= i
       . rw [if_pos h2, if_pos (by omega), hs (by omega)]; rfl
       . rw [if_neg h2, if_neg (by omega)]
theorem zgV : ∀ (l : List SO) (i0 i : Nat), zax (zbm (zdX l) i0) i = if i0 <= i then zaQ l (i - i0) else none := by
 intro l i0 i
 have key : ∀ (l : List SO) (j : Nat), zaQ (zdX l) j = (zaQ l j).map some := by
  intro l
  induction l with
  | nil => intro j; simp [zdX, zaQ]
  | cons o l ih => intro j; cases j <;> simp [zdX, zaQ, ih]
 simp only [zax, zcb, key]
 by_cases h : i0 <= i
 . simp only [if_pos h]; cases zaQ l (i - i0) <;> rfl
 . simp only [if_neg h]
theorem zue {P : Program} {G : Nat -> Option SV} {f : FuncId} {fn : Func} {code : Code} {mc : MC} {rs : List RV} {L : zaa} (hmix : P.follows .mixedOrders = true) (hf : P.funcs[f]? = some fn) (hb : fn.body = some code)
 (hent : zcp P f) (hmc : zbk P code mc) (hrs : zfc P fn.results.toList rs) (hN : L.args.length <= fn.ntmps) (hout : L.out.length = L.foot.length)
 {S : zct} (hS : SOk P G S) (LA : Nat -> zcA) (JA : Nat -> zf6) {PS : zct} (hPS : zf7 panicked P G PS) (h : run ⟨P, G, fn.ntmps, none, L.foot.length, none, S, LA, JA, PS⟩ mc (entry L) (zxl rs L)) : zaa.ok P G f L := by
  refine ⟨hent, hout, fun β own S0 w vs hβ hmem hargs hgl => ?_⟩
  have hlen := zaL _ _ hargs
  simp at hlen
  let C : Ctx := { P := P, G := G, N := fn.ntmps, rnd := none, m0 := L.foot.length, Y := none, S := S, L := LA, J := JA, PS := PS, sok := hS, psok := hPS, w0 := w, X0 := za9 L.go0 own, S0 := S0, β0 := β }
  have hgo : zax (zbm (zdX L.foot) 0) = L.go0 := funext fun i => by rw [zgV]; simp [zaa.go0]
  have H0 : zaA C (entry L) β own S0 { tmps := vs ++ Array.replicate (fn.ntmps - vs.size) undef, defers := [] } w := by
   refine ⟨⟨fun t s e => ?_, by simp only [entry]; rw [hgo]; exact hmem, Fr.refl _ _, fun id b h1 h2 => ?_, fun _ e => e, fun _ e => .inl e, ?_, ⟨⟨by simp [mks], fun d hd => by simp [mks] at hd⟩, rfl⟩, hgl⟩, hβ, Nat.le_refl _, fun i B _ e => e⟩
   . simp only [entry, zaM, zcb, Nat.zero_le, if_true, Nat.sub_zero] at e
     rw [zbx] at e
     obtain ⟨y, h1, h2⟩ := zd6 (i := t) _ _ _ hargs e
     have ht : t < vs.size := by
      have := (List.getElem?_eq_some_iff.1 h1).1
      simpa using this
     have : (vs ++ Array.replicate (fn.ntmps - vs.size) undef).getD t undef = y := by
      rw [Array.getD_eq_getD_getElem?, Array.getElem?_append_left ht]
      simp at h1
      rw [h1]; rfl
     simp only [this]
     exact h2
   . left
     simp only [entry] at h1
     rw [hgo] at h1
     exact ⟨id, h1, h2⟩
   . show (vs ++ Array.replicate (fn.ntmps - vs.size) undef).size = fn.ntmps
     simp; omega
  have hwp := zhU (C := C) hmix hmc rfl (fun y e => by cases e) h H0
  refine callsIn_wide.1 (callsIn_of_wp_marks (F := Fence.wide) (n := 0) hf hb trivial (wpIn_mono (F := Fence.wide) hwp ?_) rfl)
  have fin : ∀ s' β1 own1 S1 a' w', ((zeQ rs L).vc (zaM s'.t) (zax s'.o) [] fun _ _ _ _ => True) -> zaA C s' β1 own1 S1 a' w' →
   LeavesInM Fence.wide 0 P fn a'.tmps (fun e w' => ∃ v β' own' S', e = .returned v /\ zgI L.foot.length β w S0 β' w' S' /\ (∀ id, L.foot.length + L.new.length <= id -> β' id = none) ∧
    rel β' w' S' L.res v /\ zaw β' own' S' L.go1 w' /\ Fr (za9 L.go0 own) w w' /\ (∀ id b, (L.go1 id).isSome -> own' id b -> za9 L.go0 own b \/ w.heap.size <= b) ∧
    (∀ b, S' b -> S0 b \/ za9 L.go0 own b \/ w.heap.size <= b)) a'.defers .returning w' := by
    intro s' β1 own1 S1 a' w' hk H
    obtain ⟨hdf, hms⟩ := H.h.df
    rw [zgg hms] at hdf
    refine zfo a'.defers w' hdf.nd (fun d hd => ?_) (fun w2 h1 h2 h3 h4 h5 => ?_)
    . obtain ⟨D, e1, _, e3, _⟩ := hdf.at_ d hd
      exact ⟨D, e1, e3⟩
    . have H2 := H.h.undf h1 h2 h3 h4 hdf h5
      obtain ⟨R, v, os, k, hk, _⟩ := RT.runs_of_vc _ _ _ hk
      obtain ⟨ss, R1, hk, hres⟩ := zkx hrs hk
      obtain ⟨xs, hxs, hrel⟩ := hres (C := C) rfl H2
      obtain ⟨ρ1, R2, hk, l1, i1, m1⟩ := zdJ _ hk
      obtain ⟨ρ2, R3, hk, l2, i2, m2⟩ := zdv _ hk
      obtain ⟨e1, e2, e3⟩ := zfU hk
      have hinj : ρ2.inj := i2 (i1 (fun i i' j q q' => by
       have := zca _ _ _ _ q
       have := zca _ _ _ _ q'
       simp_all))
      obtain ⟨hm, ho, hl⟩ := zid H2 hinj _ m2 e1
      have hgo1 : ∀ i, zav i (zby L.out 0 ++ zbm L.new L.foot.length) = L.go1 i := fun i => by
       rw [zdd, zdu, zcb]
       simp only [Nat.zero_le, if_true, Nat.sub_zero, zaa.go1]
       by_cases c : i < L.foot.length
       . rw [if_pos c, if_neg (by omega)]
         cases zaQ L.out i with
         | none => rfl
         | some q => cases q <;> rfl
       . rw [if_neg c, if_pos (by omega)]
         have : zaQ L.out i = none := by rw [zbx]; simp; omega
         rw [this]; rfl
      have hgo1' : (fun i => zav i (zby L.out 0 ++ zbm L.new L.foot.length)) = L.go1 := funext hgo1
      rw [hgo1'] at hm
      refine ⟨_, zkr hxs, _, bOf ρ2 β1 (zky (zby L.out 0 ++ zbm L.new L.foot.length)), zb8 ρ2 own1, _, rfl, ⟨fun i B hi e => ?_, fun b hb => .inl (H2.s0 b hb), fun b hb => ?_⟩, fun i hi => by simp [bOf, zdG e2 i hi],
       m1 ρ2 l2 (zet H2.mem) _ _ (znB hrel), hm, H2.fr, fun id b hi hb => ?_, fun b hb => ?_⟩
      . simp only [bOf] at e
        split at e
        . rename_i j hj
          have := zb9 e3 i _ hi hj
          cases this
          exact H.b0 i B hi e
        . rename_i hj
          have := zb9 e3 i _ hi hj
          cases this
        . cases e
      . exact H2.fr.block b (hmem.sz b hb) (fun ⟨i, q1, q2⟩ => hmem.st i b q1 q2 hb)
      . obtain ⟨j, q1, q2⟩ := ho id b (by rw [hgo1]; exact hi) hb
        exact H2.own0 j b q1 q2
      . rcases hb with hb | hb
        . exact H2.s1 b hb
        . obtain ⟨j, q1, q2⟩ := hl b hb
          exact .inr (H2.own0 j b q1 q2)
  intro e a' w' hp
  cases e with
  | normal => obtain ⟨s', β1, own1, S1, hk, H⟩ := hp; exact fin s' β1 own1 S1 a' w' hk H
  | ret => obtain ⟨s', β1, own1, S1, hk, H⟩ := hp; exact fin s' β1 own1 S1 a' w' hk H
  | exit i => obtain ⟨s', β1, own1, S1, hk, H⟩ := hp; exact hk.elim
  | goto l => exact hp.elim
  | panic c => obtain ⟨s', β1, own1, S1, v, x, _, hk, _⟩ := hp; exact hk.elim
  | outgrown => exact hp.elim
end Go.Sx
