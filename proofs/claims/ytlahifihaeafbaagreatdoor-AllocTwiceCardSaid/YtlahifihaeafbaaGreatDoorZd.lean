/- Part 4 of 11 of a proof of the law AllocTwice: what the last part leans on. -/
import Derived.Test.YtlahifihaeafbaaGreatDoorZc
import Derived.IntWalk
import Derived.Laws.IdiomRangeMap
set_option linter.all false
set_option maxRecDepth 100000
namespace Go.Sx
open Go
theorem zbW {M : zaj} {key k : M.κ} : ∀ {l : List M.κ}, k ∈ zaB M key l ↔ k ∈ l /\ k ≠ key
 | [] => by simp [zaB]
 | j :: l => by
   simp only [zaB]
   cases M.deq j key with
   | isTrue h =>
     subst h
     simp only [zbW (l := l), List.mem_cons]
     constructor
     . rintro ⟨h1, h2⟩; exact ⟨.inr h1, h2⟩
     . rintro ⟨h1 | h1, h2⟩
       . exact absurd h1 h2
       . exact ⟨h1, h2⟩
   | isFalse h =>
     simp only [List.mem_cons, zbW (l := l)]
     constructor
     . rintro (h1 | ⟨h1, h2⟩)
       . subst h1; exact ⟨.inl rfl, h⟩
       . exact ⟨.inr h1, h2⟩
     . rintro ⟨h1 | h1, h2⟩
       . exact .inl h1
       . exact .inr ⟨h1, h2⟩
theorem zjc {M : zaj} {key : M.κ} : ∀ {es : List (M.κ × M.ν)} {j : Nat}, zao M key es = some j -> zaO M key es = es.eraseIdx j
 | [], j, h => by simp [zao] at h
 | (y, u) :: es, j, h => by
   simp only [zao] at h
   simp only [zaO]
   cases e : M.deq y key with
   | isTrue h' => rw [e] at h; simp at h; subst h; rfl
   | isFalse h' =>
     rw [e] at h
     simp at h
     obtain ⟨j', h, rfl⟩ := h
     simp [zjc h]
theorem zmj {β : Nat -> Option zay} {w w' : World} {F : Nat -> Prop} {b clock : Nat} {ents : List MapEntry} {M : zaj} {es : List (M.κ × M.ν)} {it : Option (Nat × List M.κ × Option M.κ)} {key : M.κ}
 (h : zmi β w F b clock ents M es it) (hnd : (es.map (·.1)).Nodup) (hw : ∀ j, j ≠ b -> w'.heap[j]? = w.heap[j]?) :
 (∀ j, zao M key es = some j -> zmi β w' F b clock (ents.eraseIdx j) M (zaO M key es) (zom M key it)) /\ (zao M key es = none -> zmi β w' F b clock ents M es (zom M key it)) := by
  cases it with
  | none => exact ⟨fun _ _ => trivial, fun _ => trivial⟩
  | some p =>
    obtain ⟨rid, left, cur⟩ := p
    obtain ⟨B', r, seen, q1, q2, q3, q4, q5, q6, q7⟩ := h
    refine ⟨fun j hj => ⟨B', r, seen, q1, q2, q3, q4, (hw r q4).trans q5, fun i m k v h1 h2 => ?_, fun k e => by cases e⟩, fun hn => ⟨B', r, seen, q1, q2, q3, q4, (hw r q4).trans q5, fun i m k v h1 h2 => ?_, fun k e => by cases e⟩⟩
    . rw [zjc hj] at h2
      rw [List.getElem?_eraseIdx] at h1 h2
      obtain ⟨v0, hv0⟩ := zcn hj
      have key_ne : ∀ i', i' ≠ j -> es[i']? = some (k, v) -> k ≠ key := fun i' hne h e => by
       subst e
       have e1 : (es.map (·.1))[i']? = some k := by simp [h]
       have e2 : (es.map (·.1))[j]? = some k := by simp [hv0]
       exact hne ((List.getElem?_inj (List.getElem?_eq_some_iff.1 e1).1 hnd).1 (e1.trans e2.symm))
      split at h1
      . rename_i hlt
        rw [if_pos hlt] at h2
        rw [q6 i m k v h1 h2, zbW]
        have := key_ne i (by omega) h2
        simp [this]
      . rename_i hlt
        rw [if_neg hlt] at h2
        rw [q6 (i + 1) m k v h1 h2, zbW]
        have := key_ne (i + 1) (by omega) h2
        simp [this]
    . rw [q6 i m k v h1 h2, zbW]
      have : k ≠ key := fun e => by
       subst e
       exact (zc8 M k es).1 hn (List.mem_map.2 ⟨(k, v), List.mem_of_getElem? h2, rfl⟩)
      simp [this]
section
variable {C : Ctx} {gt : GT} {go : GO} {o : Oper} {fresh : Nat} {R : List Loc} {v : Option SV} {os : List (Nat × Option SO)} {k : Nat}
theorem zw9 {t : TypeId} (ho : o.op = .makeMap t none) (h : (MO.rt C.toEnv fresh .mkm).Runs gt go R v os k) (hd : zau C o.dst v) : zaD C o fresh gt go v os k := by
 simp only [MO.rt] at h
 cases h with
 | ex M _ h =>
   cases h with
   | done =>
     refine ze3 (by simp [ho]) hd fun {β own S a w} H => ?_
     refine ⟨.map (some w.heap.size), w.alloc (.map #[] 0), .map #[] 0, ⟨some w.heap.size, 0, 0⟩, ?_, rfl, rfl, rfl, rfl, fun x => ⟨?_, ?_⟩⟩
     . simp [execOp, ho, Instr.makeMap]
     . refine ⟨w.heap.size, #[], 0, rfl, ⟨rfl, fun y hy => ?_⟩, (show (w.heap.push (Obj.map #[] 0))[w.heap.size]? = _ by simp), by simp [za1], by simp, trivial⟩
       cases hy
       show ((w.heap.push (Obj.map #[] 0))[w.heap.size]?).isSome = true
       simp
     . simp only [rel]; exact ⟨_, _, zac _ _ _, rfl, rfl⟩
theorem zhD {β own S a w} (H : zah C gt go β own S a w) {id : Nat} {M : zaj} {es : List (M.κ × M.ν)} {it : Option (Nat × List M.κ × Option M.κ)} (hg : go id = some (.map M es it)) {x : Value} (hx : rel β w S (.mp id) x) :
 ∃ B b ents clock, β id = some B /\ B.blk = some b /\ x = .map (some b) /\ (own id b /\ ∀ x, own id x -> (w.heap[x]?).isSome = true) /\ w.heap[b]? = some (.map ents clock) /\ za1 β w S M es ents.toList ∧
  ((es.map (·.1)).Nodup /\ (ents.toList.map (·.born)).Pairwise (· < ·) /\ (∀ m ∈ ents.toList, m.born < clock)) /\ zmi β w (own id) b clock ents.toList M es it := by
  simp only [rel] at hx
  obtain ⟨B, b, hB, hb, rfl⟩ := hx
  obtain ⟨B', h1, b', ents, clock, h2, h3, h4, h5⟩ := H.mem.obj _ _ hg
  rw [hB] at h1; cases h1
  rw [hb] at h2; cases h2
  exact ⟨B, b, ents, clock, hB, hb, rfl, h3, h4, h5⟩
theorem zcL {M : zaj} {one : Bool} {ks : List SK} {s : SV} {f : M.κ -> RT} (h : (zdj M one ks s f).Runs gt go R v os k) :
 M.one = one /\ M.ks = ks /\ ∃ key R', (f key).Runs gt go R' v os k /\ ∀ {P : Program} {K : TypeId}, zcj P K M.one M.ks -> ∀ {β own S w}, zaw β own S go w -> ∀ x, rel β w S s x -> x = zaZ M.one (M.ek key) := by
  unfold zdj at h
  cases h with
  | req hp h =>
    cases h with
    | ex key _ h =>
      obtain ⟨ρ', R', h, l, i, hm⟩ := zdJ _ h
      refine ⟨hp.1, hp.2, key.down, R', h, fun {P K} hK {β own S w} hmem x hx => ?_⟩
      have := hm ρ' (.refl _) (zet hmem) (fun _ => 0) x hx
      exact (zdf (M.ekk _) hK.len1 x).1 this
structure zln (P : Program) (T : TypeId) (one : Bool) (ks : List SK) (zo : Bool) (z : List PV) : Prop where
 ok : ∃ K E i zv, P.underlying T = some (.map K E) /\ zcj P K one ks /\ P.info? E = some i /\ i.zero = some zv /\ (∀ (β : Nat -> Option zay) (w : World) (S : Nat -> Prop), rel β w S (zaS zo z) zv) ∧
  ∀ s, z = [.sl s []] -> zv = .slice none 0 0
structure zja (P : Program) (T : TypeId) (one : Bool) (ks : List SK) : Prop where
 ok : ∃ K E, P.underlying T = some (.map K E) /\ zcj P K one ks
theorem zmW {P : Program} {T K E : TypeId} {i : TypeInfo} {zv : Value} (hT : P.underlying T = some (.map K E)) {M : zaj} (hK : zcj P K M.one M.ks) (hi : P.info? E = some i) (hz : i.zero = some zv) {β w S}
 {b : Nat} {ents : Array MapEntry} {clock : Nat} (hb : w.heap[b]? = some (.map ents clock)) {es : List (M.κ × M.ν)} (he : za1 β w S M es ents.toList) (hzr : rel β w S (zaS M.vone (M.ev M.d)) zv) (key : M.κ) (ok : Bool) :
 ∃ x, (Instr.lookup T (.map (some b)) (zaZ M.one (M.ek key)) ok).run P w = .ok (if ok then .tuple #[x, .bool (zas M key es).isSome] else x) w /\ rel β w S (zaS M.vone (M.ev (zaf M key es))) x := by
  have hf := zcH hK key he
  have hc := hK.check (ents.isEmpty) w (M.ekk key)
  rw [zaf, zef]
  cases hp : zao M key es with
  | none =>
    rw [hp] at hf
    refine ⟨zv, ?_, by simpa using hzr⟩
    cases ok <;> simp [Instr.lookup, run_underlying hT, zcE hb, hc, hf, zgo hi hz]
  | some j =>
    rw [hp] at hf
    obtain ⟨v0, hj⟩ := zcn hp
    obtain ⟨m, hm, _, hv⟩ := zce he j key v0 hj
    simp only [Option.bind_some, hj, Option.map_some, Option.isSome_some, Option.getD_some]
    simp only [Option.bind_some, hm, Option.map_some] at hf
    refine ⟨m.val, ?_, by simpa using hv⟩
    cases ok <;> simp [Instr.lookup, run_underlying hT, zcE hb, hc, hf]
theorem zjr {β own S a w} (H : zah C gt go β own S a w) {id : Nat} {M : zaj} {sub : M.ν -> Sub} {es : List (M.κ × M.ν)} {hh : Option (M.κ × Nat × Option Nat)} (hg : go id = some (.fam M sub es hh)) {x : Value} (hx : rel β w S (.mp id) x) :
 ∃ B b ents clock, β id = some B /\ B.blk = some b /\ x = .map (some b) /\ own id b /\ w.heap[b]? = some (.map ents clock) /\ za1 β w S (zex M) es ents.toList /\ (es.map (·.1)).Nodup /\ (ents.toList.map (·.born)).Pairwise (· < ·) ∧
  (∀ m ∈ ents.toList, m.born < clock) /\ ∃ G, zbv β w S M (zcg β w S M sub G (own id) b hh) es ents.toList := by
  simp only [rel] at hx
  obtain ⟨B, b, hB, hb, rfl⟩ := hx
  obtain ⟨B', h1, b', ents, clock, h2, h3, h4, h5, G, h6, _⟩ := H.mem.obj _ _ hg
  rw [hB] at h1; cases h1
  rw [hb] at h2; cases h2
  exact ⟨B, b, ents, clock, hB, hb, rfl, h3.1, h4, zla h6, h5.1, h5.2.1, h5.2.2, G, h6⟩
theorem zmp {id : Nat} {M : zaj} {sub : M.ν -> Sub} {es : List (M.κ × M.ν)} (hg : go id = some (.fam M sub es none)) {key : M.κ} {sv : SV} (hop : ∀ c, o.op ≠ .defer c) (hd : zau C o.dst (some sv))
 (hz : zao M key es = none -> ∃ s, sub (zaf M key es) = .vec s [])
 (hsv : sv = zsB fresh (sub (zaf M key es)))
 (h : ∀ {β own S a w}, zah C gt go β own S a w -> ∃ B b ents clock x, β id = some B /\ B.blk = some b /\ w.heap[b]? = some (.map ents clock) /\ (execOp a.eval o).run C.P w = .ok (.value x) w ∧
  ((zao M key es = none /\ x = .slice none 0 0) \/ (∃ j m, zao M key es = some j /\ ents.toList[j]? = some m /\ x = m.val))) :
 zaD C o fresh gt go (some sv) [(id, some (.fam M sub es (some (key, fresh, none)))), (fresh, some (sub (zaf M key es)).so)] 1 := by
  intro β own S a w H hβ next Q hn
  obtain ⟨B, b, ents, clock, x, hB, hb, he, hr, hx⟩ := h H
  have hf : β fresh = none := hβ fresh (Nat.le_refl _) (by omega)
  obtain ⟨B0, F0, hm, xx, hF, hv⟩ := H.mem.take hg hB hb he (key := key) hf (g := none) (fun i e => by cases e) hz
  have hid : (go id).isSome := by simp [hg]
  refine zbU hop hr (hn (upd β fresh (some B0)) (upd (upd own id (fun x => own id x /\ ¬ F0 x)) fresh F0) S x w (fun i hi => zab β _ (fun (e : i = fresh) => hi (by omega))) ?_)
  refine H.step xx hm ⟨rfl, rfl, rfl, Nat.le_refl _, fun _ _ _ => rfl⟩ (fun i c h1 h2 => .inl ?_) (fun c h => .inl h) o.dst x _ (zcd hd (fun s e => ?_)) (zbw hd gt)
  . by_cases e : i = fresh
    . subst e; rw [zac] at h2; exact ⟨id, hid, hF c h2⟩
    . rw [zab _ _ e] at h1 h2
      by_cases e2 : i = id
      . subst e2; rw [zac] at h2; exact ⟨i, hid, h2.1⟩
      . rw [zab _ _ e2] at h1 h2; exact ⟨i, h1, h2⟩
  . cases e
    rw [hsv]
    exact znm (zac _ _ _) (hv x hx)
theorem ztQ {t : TypeId} {x y : Operand} {ok one zo : Bool} {ks : List SK} {z : List PV} (ho : o.op = .lookup t x y ok) (hl : zln C.P t one ks zo z) {id : Nat} {sy : SV}
 (hx : ∀ {β own S a w}, zah C gt go β own S a w -> rel β w S (.mp id) (a.eval x)) (hy : ∀ {β own S a w}, zah C gt go β own S a w -> rel β w S sy (a.eval y))
 {M : zaj} {sub : M.ν -> Sub} {es : List (M.κ × M.ν)} {hh : Option (M.κ × Nat × Option Nat)} (hg : go id = some (.fam M sub es hh))
 (h : (match hh, ok with
  | none, false => zdj M one ks sy fun key => (match sub (zaf M key es) with
    | .vec s L => .req ((zas M key es).isSome = true \/ (L = [] /\ z = [PV.sl s []])) (.done (some (.slc fresh 0 L.length)) [(id, some (.fam M sub es (some (key, fresh, none)))), (fresh, some (.vec s L))] 1)
    | .map M' es' => .req ((zas M key es).isSome = true) (.done (some (.mp fresh)) [(id, some (.fam M sub es (some (key, fresh, none)))), (fresh, some (.map M' es' none))] 1))
  | _, _ => RT.fail).Runs gt go R v os k) (hd : zau C o.dst v) : zaD C o fresh gt go v os k := by
  split at h
  case h_2 => cases h
  replace h := zcL h
  obtain ⟨h1, h2, key, R3, h, hkey⟩ := h
  subst h1; subst h2
  obtain ⟨K, E, i, zv, hT, hK, hi, hz, hzr, hzs⟩ := hl.ok
  have run : (zao M key es = none -> zv = .slice none 0 0) -> ∀ {β own S a w}, zah C gt go β own S a w -> ∃ B b ents clock x, β id = some B /\ B.blk = some b /\ w.heap[b]? = some (.map ents clock) /\ (execOp a.eval o).run C.P w = .ok (.value x) w ∧
   ((zao M key es = none /\ x = .slice none 0 0) \/ (∃ j m, zao M key es = some j /\ ents.toList[j]? = some m /\ x = m.val)) := by
    intro hz0 β own S a w H
    obtain ⟨B, b, ents, clock, hB, hb, ex, _, he, hr, _⟩ := zjr H hg (hx H)
    have ey := hkey hK H.mem _ (hy H)
    obtain ⟨x0, q1, q2, q3⟩ := zmX hT hK hi hz he hr key
    refine ⟨B, b, ents, clock, x0, hB, hb, he, by simp [execOp, ho, ex, ey, q1], ?_⟩
    cases hp : zao M key es with
    | none => exact .inl ⟨rfl, by rw [q2 hp, hz0 hp]⟩
    | some j =>
      obtain ⟨m, hm, _⟩ := zce hr j key _ (zb4 hp)
      exact .inr ⟨j, m, rfl, hm, q3 j m hp hm⟩
  split at h
  . rename_i s L hs
    cases h with
    | req hp h =>
      cases h with
      | done =>
        have e0 : zao M key es = none -> L = [] /\ z = [.sl s []] := fun e => hp.resolve_left (fun q => by
         obtain ⟨j, hj⟩ := zcI.1 q
         rw [e] at hj; cases hj)
        have e1 : (.vec s L : SO) = (sub (zaf M key es)).so := by rw [hs]; rfl
        rw [e1]
        exact zmp hg (by simp [ho]) hd (fun e => ⟨s, by rw [hs, (e0 e).1]⟩) (by rw [hs]; rfl) (run (fun e => hzs s (e0 e).2))
  . rename_i M' es' hs
    cases h with
    | req hp h =>
      cases h with
      | done =>
        have e0 : zao M key es ≠ none := fun e => by
         obtain ⟨j, hj⟩ := zcI.1 hp
         rw [e] at hj; cases hj
        have e1 : (.map M' es' none : SO) = (sub (zaf M key es)).so := by rw [hs]; rfl
        rw [e1]
        exact zmp hg (by simp [ho]) hd (fun e => absurd e e0) (by rw [hs]; rfl) (run (fun e => absurd e e0))
theorem zw6 {t : TypeId} {x y : Operand} {ok one zo : Bool} {ks : List SK} {z : List PV} (ho : o.op = .lookup t x y ok) (hl : zln C.P t one ks zo z)
 (h : (MO.rt C.toEnv fresh (.lkp ok one ks zo z (cX x) (cX y))).Runs gt go R v os k) (hd : zau C o.dst v) : zaD C o fresh gt go v os k := by
  simp only [MO.rt] at h
  replace h := zap h
  obtain ⟨sx, R1, h, hx⟩ := h
  replace h := zap h
  obtain ⟨sy, R2, h, hy⟩ := h
  split at h
  case h_2 => cases h
  rename_i id
  cases h with
  | rO h =>
    dsimp only at h
    split at h
    case h_3 => cases h
    case h_2 M sub es hh hg => exact ztQ ho hl hx hy hg h hd
    rename_i M es it hg
    replace h := zcL h
    obtain ⟨h1, h2, key, R3, h, hkey⟩ := h
    subst h1; subst h2
    obtain ⟨K, E, i, zv, hT, hK, hi, hz, hzr, _⟩ := hl.ok
    cases h with
    | req hp h =>
      obtain ⟨hv1, hv2⟩ := hp
      have run : ∀ {β own S a w}, zah C gt go β own S a w -> ∃ x0, (execOp a.eval o).run C.P w = .ok (.value (if ok then .tuple #[x0, .bool (zas M key es).isSome] else x0)) w /\ rel β w S (zaS M.vone (M.ev (zaf M key es))) x0 := by
       intro β own S a w H
       obtain ⟨B, b, ents, clock, _, _, ex, _, hb, he, _⟩ := zhD H hg (hx H)
       have ey := hkey hK H.mem _ (hy H)
       obtain ⟨x0, hr, hv⟩ := zmW hT hK hi hz hb he (by rw [hv1, hv2]; exact hzr β w S) key ok
       exact ⟨x0, by simp [execOp, ho, ex, ey, hr], hv⟩
      cases ok with
      | false =>
        obtain ⟨rfl, rfl, rfl⟩ := zat h
        refine zaJ (by simp [ho]) hd fun {β own S a w} H => ?_
        obtain ⟨x0, hr, hv⟩ := run H
        exact ⟨x0, by simpa using hr, hv⟩
      | true =>
        obtain ⟨rfl, rfl, rfl⟩ := zat h
        refine zaJ (by simp [ho]) hd fun {β own S a w} H => ?_
        obtain ⟨x0, hr, hv⟩ := run H
        refine ⟨_, by simpa using hr, ?_⟩
        simp only [rel, zam]
        exact ⟨_, rfl, x0, [.bool (zas M key es).isSome], rfl, hv, _, [], rfl, rfl, rfl⟩
theorem zkl {id : Nat} {o0 so : SO} {vs : Option SV} (hop : ∀ c, o.op ≠ .defer c) (hd : zau C o.dst vs) (hg : go id = some o0)
 (h : ∀ {β own S a w}, zah C gt go β own S a w -> ∃ x w' B, (execOp a.eval o).run C.P w = .ok (.value x) w' /\ β id = some B /\ w'.heap.size = w.heap.size /\ (∀ b, ¬ own id b -> w'.heap[b]? = w.heap[b]?) ∧
  w'.os = w.os /\ w'.tape = w.tape /\ w'.output = w.output /\ (Ext β w S β w' S -> za3 β w' S B (own id) so /\ ∀ s, vs = some s -> rel β w' S s x)) :
 zaD C o fresh gt go vs [(id, some so)] 0 := by
  intro β own S a w H hβ next Q hn
  obtain ⟨x, w', B, hr, h1, h2, h3, h4, h5, h6, h7⟩ := h H
  have x0 : Ext β w S β w' S := ⟨fun _ _ e => e, fun _ e => e, fun b hb => h3 b (fun e => H.mem.st id b (by simp [hg]) e hb)⟩
  refine zbU hop hr (hn β own S x w' (fun i hi => rfl) ?_)
  exact H.set hg h1 h2 h3 h4 h5 h6 (fun e => (h7 e).1) o.dst x _ (zcd hd (fun s e => (h7 x0).2 s e)) (zbw hd gt)
theorem map_set {w : World} {b : Nat} {o0 : Obj} (ob : Obj) (hb : w.heap[b]? = some o0) : ({ w with heap := w.heap.setIfInBounds b ob } : World).heap[b]? = some ob ∧
 (∀ j, j ≠ b -> ({ w with heap := w.heap.setIfInBounds b ob } : World).heap[j]? = w.heap[j]?) /\ ({ w with heap := w.heap.setIfInBounds b ob } : World).heap.size = w.heap.size := by
  have hlt := (Array.getElem?_eq_some_iff.1 hb).1
  refine ⟨by simp [hlt], fun j hj => ?_, by simp⟩
  simp only [Array.getElem?_setIfInBounds]
  rw [if_neg (fun e => hj e.symm)]
theorem zfp {w w' : World} {b : Nat} {ob : Obj} {F : Nat -> Prop} (h2 : ∀ j, j ≠ b -> w'.heap[j]? = w.heap[j]?) (h1 : w'.heap[b]? = some ob) (hF : ∀ x, F x -> (w.heap[x]?).isSome = true) : ∀ x, F x -> (w'.heap[x]?).isSome = true := fun x hx => by
 by_cases e : x = b
 . subst e; simp [h1]
 . rw [h2 x e]; exact hF x hx
theorem zk3 {id : Nat} {M : zaj} {sub : M.ν -> Sub} {es : List (M.κ × M.ν)} {hh : Option (M.κ × Nat × Option Nat)} {key : M.κ} {z : Operand} {sz : SV} (hg : go id = some (.fam M sub es hh)) (hole : ze1 hh key)
 (hz : ∀ {β own S a w}, zah C gt go β own S a w -> rel β w S sz (a.eval z)) (h : (zdb id M sub es key sz).Runs gt go R v os k) (hop : ∀ c, o.op ≠ .defer c) (hd : o.dst = none)
 (hrun : ∀ {β own S a w}, zah C gt go β own S a w -> ∃ B b ents clock kv w' ents' clock', β id = some B /\ B.blk = some b /\ w.heap[b]? = some (.map ents clock) /\ rel β w S (zaS M.one (M.ek key)) kv /\ (execOp a.eval o).run C.P w = .ok .skip w' ∧
  ((zao M key es = none /\ ents'.toList = ents.toList ++ [{ key := kv, val := a.eval z, born := clock }] /\ clock' = clock + 1) ∨
    ∃ i, zao M key es = some i /\ ents'.toList = (ents.toList.modify i fun e => { e with key := kv, val := a.eval z }) /\ clock' = clock) ∧
  w'.heap[b]? = some (.map ents' clock') /\ (∀ y, y ≠ b -> w'.heap[y]? = w.heap[y]?) /\ w'.heap.size = w.heap.size /\ w'.os = w.os /\ w'.tape = w.tape /\ w'.output = w.output) : zaD C o fresh gt go v os k := by
  have fin : ∀ {j : Nat} {x : M.ν}, go j = some (sub x).so -> (∀ {β own S a w}, zah C gt go β own S a w -> ∃ Bj, β j = some Bj /\ Hnd Bj (sub x) (a.eval z)) →
   zaD C o fresh gt go none [(id, some (.fam M sub (zan M key x es) none)), (j, none)] 0 := by
    intro j x hj hv β own S a w H hβ next Q hn
    obtain ⟨B, b, ents, clock, kv, w', ents', clock', hB, hb, he, hkv, hr, hents, hw1, hw2, hw3, g1, g2, g3⟩ := hrun H
    obtain ⟨Bj, hBj, hval⟩ := hv H
    obtain ⟨hm, hob⟩ := H.mem.fput hg hB hb he hole hj hBj hkv hval hents hw1 hw2 hw3
    have hsi : (go id).isSome := by simp [hg]
    have hsj : (go j).isSome := by simp [hj]
    have xx : Ext β w S β w' S := ⟨fun _ _ e => e, fun _ e => e, fun y hy => hw2 y (fun e => by subst e; exact H.mem.st id y hsi hob hy)⟩
    refine zh0 hop hr (hn β (upd own id (fun y => own id y \/ own j y)) S undef w' (fun i hi => rfl) ?_)
    refine H.step xx hm ⟨g1, g2, g3, by rw [hw3]; exact Nat.le_refl _, fun y hy hx => hw2 y (fun e => hx ⟨id, hsi, by rw [e]; exact hob⟩)⟩ (fun i c h1 h2 => .inl ?_) (fun c h => .inl h) o.dst undef _ (fun d s e => by simp [zfz, hd] at e) (fun _ => .inl hd)
    by_cases ej : i = j
    . subst ej; rw [zac] at h1; cases h1
    . rw [zab _ _ ej] at h1
      by_cases ei : i = id
      . subst ei
        rw [zac] at h2
        rcases h2 with h2 | h2
        . exact ⟨i, hsi, h2⟩
        . exact ⟨j, hsj, h2⟩
      . rw [zab _ _ ei] at h1 h2; exact ⟨i, h1, h2⟩
  unfold zdb at h
  split at h
  . rename_i j b0 n
    cases h with
    | rO h =>
      dsimp only at h
      split at h
      case h_2 => cases h
      rename_i s L hj
      cases h with
      | ex x _ h =>
        obtain ⟨x⟩ := x
        cases h with
        | req hp h =>
          obtain ⟨hs, rfl, rfl⟩ := hp
          cases h with
          | done =>
            refine fin (by rw [hj, hs]; rfl) fun {β own S a w} H => ?_
            have := hz H
            simp only [rel] at this
            obtain ⟨Bj, h1, h2⟩ := this
            exact ⟨Bj, h1, by rw [hs]; exact h2⟩
  . rename_i j
    cases h with
    | rO h =>
      dsimp only at h
      split at h
      case h_2 => cases h
      rename_i M' es' it hj
      split at h
      case h_2 => cases h
      cases h with
      | ex x _ h =>
        obtain ⟨x⟩ := x
        cases h with
        | req hp h =>
          cases h with
          | done =>
            refine fin (by rw [hj, hp]; rfl) fun {β own S a w} H => ?_
            have := hz H
            simp only [rel] at this
            obtain ⟨Bj, b, h1, h2, h3⟩ := this
            exact ⟨Bj, h1, by rw [hp]; exact ⟨b, h2, h3⟩⟩
  . cases h
theorem znu {t : TypeId} {x y z : Operand} {id : Nat} {sy sz : SV} (ho : o.op = .mapUpdate t x y z \/ o.op = .insert t x y z) {M : zaj} (hl : zja C.P t M.one M.ks) (hd : o.dst = none)
 (hx : ∀ {β own S a w}, zah C gt go β own S a w -> rel β w S (.mp id) (a.eval x)) (hy : ∀ {β own S a w}, zah C gt go β own S a w -> rel β w S sy (a.eval y)) (hz : ∀ {β own S a w}, zah C gt go β own S a w -> rel β w S sz (a.eval z))
 {sub : M.ν -> Sub} {es : List (M.κ × M.ν)} {hh : Option (M.κ × Nat × Option Nat)} (hg : go id = some (.fam M sub es hh)) {key : M.κ}
 (hkey : ∀ {P : Program} {K : TypeId}, zcj P K M.one M.ks -> ∀ {β own S w}, zaw β own S go w -> ∀ x, rel β w S sy x -> x = zaZ M.one (M.ek key)) (hp : ze1 hh key)
 (h : (zdb id M sub es key sz).Runs gt go R v os k) : zaD C o fresh gt go v os k := by
  obtain ⟨K, E, hT, hK⟩ := hl.ok
  refine zk3 hg hp hz h (by rcases ho with ho | ho <;> simp [ho]) hd fun {β own S a w} H => ?_
  obtain ⟨B, b, ents, clock, hB, hb, ex, hown, he, hr, _⟩ := zjr H hg (hx H)
  have ey := hkey hK H.mem _ (hy H)
  have hkr : rel β w S (zaS M.one (M.ek key)) (a.eval y) := (zdf (M.ekk _) hK.len1 _).2 ey
  have hop : (execOp a.eval o) = (do Instr.mapUpdate t (a.eval x) (a.eval y) (a.eval z); pure .skip) := by rcases ho with ho | ho <;> simp [execOp, ho] <;> rfl
  obtain ⟨u1, u2⟩ := zm0 (w := w) hT hK he hr key (a.eval z)
  cases hp : zao M key es with
  | none =>
    obtain ⟨s1, s2, s3⟩ := map_set (.map (ents.push { key := a.eval y, val := a.eval z, born := clock }) (clock + 1)) he
    refine ⟨B, b, ents, clock, a.eval y, _, _, _, hB, hb, he, hkr, ?_, .inl ⟨rfl, by simp, rfl⟩, s1, s2, s3, rfl, rfl, rfl⟩
    rw [hop, ex, ey]
    simp [u1 hp]
  | some j =>
    obtain ⟨s1, s2, s3⟩ := map_set (.map (ents.modify j fun e => { e with key := a.eval y, val := a.eval z }) clock) he
    refine ⟨B, b, ents, clock, a.eval y, _, _, _, hB, hb, he, hkr, ?_, .inr ⟨j, rfl, by simp, rfl⟩, s1, s2, s3, rfl, rfl, rfl⟩
    rw [hop, ex, ey]
    simp [u2 j hp]
theorem ztU {t : TypeId} {x y z : Operand} {one : Bool} {ks : List SK} {id : Nat} {sy sz : SV} (ho : o.op = .mapUpdate t x y z \/ o.op = .insert t x y z) (hl : zja C.P t one ks) (hd : o.dst = none)
 (hx : ∀ {β own S a w}, zah C gt go β own S a w -> rel β w S (.mp id) (a.eval x)) (hy : ∀ {β own S a w}, zah C gt go β own S a w -> rel β w S sy (a.eval y)) (hz : ∀ {β own S a w}, zah C gt go β own S a w -> rel β w S sz (a.eval z))
 {M : zaj} {sub : M.ν -> Sub} {es : List (M.κ × M.ν)} {hh : Option (M.κ × Nat × Option Nat)} (hg : go id = some (.fam M sub es hh))
 (h : (zdj M one ks sy fun key => .req (ze1 hh key) (zdb id M sub es key sz)).Runs gt go R v os k) : zaD C o fresh gt go v os k := by
  replace h := zcL h
  obtain ⟨h1, h2, key, R4, h, hkey⟩ := h
  subst h1; subst h2
  cases h with
  | req hp h => exact znu ho hl hd hx hy hz hg hkey hp h
theorem zpa {id j : Nat} {M : zaj} {sub : M.ν -> Sub} {es : List (M.κ × M.ν)} {key : M.κ} {go' : GO} (hj : go' j = go j) (h : (zdb id M sub es key (.mp j)).Runs gt go R v os k) : (zdb id M sub es key (.mp j)).Runs gt go' R v os k := by
 unfold zdb at h ⊢
 dsimp only at h ⊢
 cases h with
 | rO h =>
   refine .rO ?_
   rw [hj]
   dsimp only at h ⊢
   split at h
   . rename_i M' es' it hg
     split at h
     . cases h with
       | ex x hp h =>
         obtain ⟨x⟩ := x
         cases h with
         | req hp h => cases h; exact .ex ⟨x⟩ trivial (.req hp .done)
     . cases h
   . cases h
theorem ztV {t : TypeId} {x y z : Operand} {one : Bool} {ks : List SK} {id : Nat} {sy sz : SV} (ho : o.op = .mapUpdate t x y z \/ o.op = .insert t x y z) (hl : zja C.P t one ks) (hd : o.dst = none)
 (hx : ∀ {β own S a w}, zah C gt go β own S a w -> rel β w S (.mp id) (a.eval x)) (hy : ∀ {β own S a w}, zah C gt go β own S a w -> rel β w S sy (a.eval y)) (hz : ∀ {β own S a w}, zah C gt go β own S a w -> rel β w S sz (a.eval z))
 {M : zaj} {es : List (M.κ × M.ν)} {it : Option (Nat × List M.κ × Option M.κ)} (hg : go id = some (.map M es it)) (hnew : zoq sz es it id = true)
 (h : (zdj M one ks sy fun key => .ex (fun (_ : M.ν -> Sub) => True) fun sub => zdb id M sub [] key sz).Runs gt go R v os k) : zaD C o fresh gt go v os k := by
  unfold zoq at hnew
  split at hnew
  case h_2 => cases hnew
  rename_i j
  split at hnew
  case h_2 => cases hnew
  split at hnew
  case h_2 => cases hnew
  split at hnew
  . cases hnew
  rename_i hne
  have hji : j ≠ id := fun e => by subst e; simp at hne
  replace h := zcL h
  obtain ⟨h1, h2, key, R4, h, hkey⟩ := h
  subst h1; subst h2
  cases h with
  | ex sub _ h =>
    have hg' : upd go id (some (.fam M sub [] none)) id = some (.fam M sub [] none) := zac _ _ _
    have fwd : ∀ {β own S w}, zaw β own S go w -> zaw β own S (upd go id (some (.fam M sub [] none))) w := fun {β own S w} hm => by
     refine ⟨fun i o e => ?_, fun i j b hij hi hj => ?_, fun i b hi => ?_, hm.sz⟩
     . by_cases ei : i = id
       . subst ei
         rw [zac] at e; cases e
         obtain ⟨B, hB, b, ents, clock, q1, q2, q3, q4, q5, _⟩ := hm.obj _ _ hg
         exact ⟨B, hB, b, ents, clock, q1, q2, q3, q5, fun _ => (⟨none, 0, 0⟩, fun _ => False), q4, fun k k' hk => by simp at hk⟩
       . rw [zab _ _ ei] at e; exact hm.obj _ _ e
     . refine hm.sep i j b hij ?_ ?_
       . by_cases e : i = id
         . subst e; simp [hg]
         . rwa [zab _ _ e] at hi
       . by_cases e : j = id
         . subst e; simp [hg]
         . rwa [zab _ _ e] at hj
     . refine hm.st i b ?_
       by_cases e : i = id
       . subst e; simp [hg]
       . rwa [zab _ _ e] at hi
    have some_ : ∀ i, (upd go id (some (.fam M sub [] none)) i).isSome -> (go i).isSome := fun i hi => by
     by_cases e : i = id
     . subst e; simp [hg]
     . rwa [zab _ _ e] at hi
    have some' : ∀ i, (go i).isSome -> (upd go id (some (.fam M sub [] none)) i).isSome := fun i hi => by
     by_cases e : i = id
     . subst e; simp
     . rwa [zab _ _ e]
    have bwd : ∀ {β own S w}, zaw β own S (upd go id (some (.fam M sub [] none))) w -> zaw β own S go w := fun {β own S w} hm => by
     refine ⟨fun i o e => ?_, fun i j b hij hi hj => hm.sep i j b hij (some' i hi) (some' j hj), fun i b hi => hm.st i b (some' i hi), hm.sz⟩
     by_cases ei : i = id
     . subst ei
       rw [hg] at e; cases e
       obtain ⟨B, hB, b, ents, clock, q1, q2, q3, q4, G, q5, _⟩ := hm.obj _ _ hg'
       exact ⟨B, hB, b, ents, clock, q1, q2, q3, q5, q4, trivial⟩
     . exact hm.obj i o (by rw [zab _ _ ei]; exact e)
    have Hf : ∀ {β own S a w}, zah C gt go β own S a w -> zah C gt (upd go id (some (.fam M sub [] none))) β own S a w := fun {β own S a w} H =>
     H.step (Ext.refl _ _ _) (fwd H.mem) (Fr.refl _ _) (fun i b e1 e2 => .inl ⟨i, some_ i e1, e2⟩) (fun b e => .inl e) none undef none (fun d s e => by cases e) (fun _ => .inl rfl)
    have Hb : ∀ {β own S a w}, zah C gt (upd go id (some (.fam M sub [] none))) β own S a w -> zah C gt go β own S a w := fun {β own S a w} H =>
     H.step (Ext.refl _ _ _) (bwd H.mem) (Fr.refl _ _) (fun i b e1 e2 => .inl ⟨i, some' i e1, e2⟩) (fun b e => .inl e) none undef none (fun d s e => by cases e) (fun _ => .inl rfl)
    have ok' : zaD C o fresh gt (upd go id (some (.fam M sub [] none))) v os k := znu ho hl hd (fun H => hx (Hb H)) (fun H => hy (Hb H)) (fun H => hz (Hb H)) hg' (fun {P K} hK {β own S w} hm => hkey hK (bwd hm)) (fun _ _ _ e => by cases e)
     (zpa (zab _ _ hji) h)
    have hgo : za0 (upd go id (some (.fam M sub [] none))) os = za0 go os := by
     unfold zdb at h
     dsimp only at h
     cases h with
     | rO h =>
       dsimp only at h
       split at h
       . split at h
         . cases h with
           | ex x hp h =>
             obtain ⟨x⟩ := x
             cases h with
             | req hp h =>
               cases h
               simp only [za0]
               congr 1
               funext i
               by_cases e : i = id
               . subst e; rw [zac, zac]
               . rw [zab _ _ e, zab _ _ e, zab _ _ e]
         . cases h
       . cases h
    intro β own S a w H hβ next Q hn
    exact ok' β own S a w (Hf H) hβ next Q (fun β' own' S' x w' e HH => hn β' own' S' x w' e (by rw [<- hgo]; exact HH))
theorem zpy {t : TypeId} {x y z : Operand} {one : Bool} {ks : List SK} (ho : o.op = .mapUpdate t x y z \/ o.op = .insert t x y z) (hl : zja C.P t one ks) (hd : o.dst = none)
 (h : (MO.rt C.toEnv fresh (.mup one ks (cX x) (cX y) (cX z))).Runs gt go R v os k) : zaD C o fresh gt go v os k := by
  simp only [MO.rt] at h
  replace h := zap h
  obtain ⟨sx, R1, h, hx⟩ := h
  replace h := zap h
  obtain ⟨sy, R2, h, hy⟩ := h
  replace h := zap h
  obtain ⟨sz, R3, h, hz⟩ := h
  split at h
  case h_2 => cases h
  rename_i id
  cases h with
  | rO h =>
    dsimp only at h
    split at h
    case h_3 => cases h
    case h_2 M sub es hh hg => exact ztU ho hl hd hx hy hz hg h
    rename_i M es it hg
    split at h
    . rename_i hnew
      exact ztV ho hl hd hx hy hz hg hnew h
    replace h := zcL h
    obtain ⟨h1, h2, key, R4, h, hkey⟩ := h
    subst h1; subst h2
    obtain ⟨K, E, hT, hK⟩ := hl.ok
    cases h with
    | ex val _ h =>
      obtain ⟨ρ', R5, h, _, _, hm⟩ := zdJ _ h
      split at h
      case h_2 => cases h
      rename_i hbor
      cases h with
      | done =>
        refine zhH (by rcases ho with ho | ho <;> simp [ho]) hd hg fun {β own S a w} H => ?_
        obtain ⟨B, b, ents, clock, hB, hblk, ex, hown, hb, he, ⟨hnd, hbp, hbl⟩, hit⟩ := zhD H hg (hx H)
        have ey := hkey hK H.mem _ (hy H)
        have hvr := hm ρ' (.refl _) (zet H.mem) (fun _ => 0) _ (hz H)
        have hS : (fun b => S b \/ zgc go ρ' own b) = S := by
         funext q; apply propext
         exact ⟨fun h => h.elim (fun e => e) (fun ⟨j, hj, _⟩ => by rw [hbor] at hj; cases hj), .inl⟩
        rw [hS] at hvr
        have hvr : rel β w S (zaS M.vone (M.ev val.down)) (a.eval z) := by
         have key : ∀ (l : List PV) (x : Value), rel (bOf ρ' β fun _ => 0) w S (zaS M.vone l) x -> rel β w S (zaS M.vone l) x := fun l x h => zfQ (fun _ e => e) h
         exact key _ _ hvr
        have hkr : rel β w S (zaS M.one (M.ek key)) (a.eval y) := (zdf (M.ekk _) hK.len1 _).2 ey
        have hf := zcH hK key he
        have hc := hK.check false w (M.ekk key)
        have hop : (execOp a.eval o) = (do Instr.mapUpdate t (a.eval x) (a.eval y) (a.eval z); pure .skip) := by rcases ho with ho | ho <;> simp [execOp, ho] <;> rfl
        cases hp : zao M key es with
        | none =>
          rw [hp] at hf
          obtain ⟨s1, s2, s3⟩ := map_set (.map (ents.push { key := a.eval y, val := a.eval z, born := clock }) (clock + 1)) hb
          refine ⟨_, B, ?_, hB, s3, fun j hj => s2 j (fun e => hj (e ▸ hown.1)), rfl, rfl, rfl, fun xx => ?_⟩
          . rw [<- ey] at hf hc
            rw [hop, ex]
            simp [Instr.mapUpdate, run_underlying hT, zcE hb, hc, hf, zeu _ hb]
          . refine ⟨b, _, _, hblk, ⟨hown.1, zfp s2 s1 hown.2⟩, s1, ?_, ⟨?_, ?_, ?_⟩, trivial⟩
            . rw [Array.toList_push]
              exact zhL (zaH xx _ _ hkr) (zaH xx _ _ hvr) (zbJ xx M _ _ he) hp
            . rw [zcJ, hp]
              refine List.nodup_append.2 ⟨hnd, by simp, ?_⟩
              intro a ha b hb e
              simp at hb
              subst hb; subst e
              exact (zc8 M _ es).1 hp ha
            . rw [Array.toList_push, List.map_append, List.pairwise_append]
              refine ⟨hbp, by simp, fun p hp q hq => ?_⟩
              obtain ⟨m, hm, rfl⟩ := List.mem_map.1 hp
              simp at hq
              subst hq
              exact hbl m hm
            . intro m hm
              rw [Array.toList_push] at hm
              rcases List.mem_append.1 hm with hm | hm
              . exact Nat.lt_succ_of_lt (hbl m hm)
              . simp at hm; subst hm; simp
        | some j =>
          rw [hp] at hf
          obtain ⟨k0, v0, hj, rfl⟩ : ∃ k0 v0, es[j]? = some (k0, v0) /\ k0 = key := let ⟨v0, h⟩ := zcn hp; ⟨_, v0, h, rfl⟩
          obtain ⟨m, hm, hmk, hmv⟩ := zce he j k0 v0 hj
          rw [zdf (M.ekk _) hK.len1] at hmk
          simp only [Option.bind_some, hm, Option.map_some] at hf
          have hstay : (Instr.keyThatStays m.key (zaZ M.one (M.ek k0))).run C.P w = .ok (zaZ M.one (M.ek k0)) w := by
           rw [hmk]
           simp [Instr.keyThatStays, zfN (M.ekk k0) hK.len1]
          obtain ⟨s1, s2, s3⟩ := map_set (.map (ents.modify j fun e => { e with key := zaZ M.one (M.ek k0), val := a.eval z }) clock) hb
          have hej : ents[j]? = some m := by simpa using hm
          refine ⟨_, B, ?_, hB, s3, fun i hi => s2 i (fun e => hi (e ▸ hown.1)), rfl, rfl, rfl, fun xx => ?_⟩
          . rw [hop, ex, ey]
            simp [Instr.mapUpdate, run_underlying hT, zcE hb, hc, hf, hej, hstay, zeu _ hb]
          . have hml : (ents.modify j fun e => { e with key := zaZ M.one (M.ek k0), val := a.eval z }).toList = ents.toList.modify j fun e => { e with key := zaZ M.one (M.ek k0), val := a.eval z } := by simp
            refine ⟨b, _, _, hblk, ⟨hown.1, zfp s2 s1 hown.2⟩, s1, ?_, ⟨?_, ?_, ?_⟩, trivial⟩
            . rw [hml]
              exact zg5 (zaH xx _ _ (by rw [<- ey]; exact hkr)) (zaH xx _ _ hvr) (zbJ xx M _ _ he) hp
            . rw [zcJ, hp]; exact hnd
            . rw [hml, zdQ]; exact hbp
            . intro m' hm'
              rw [hml] at hm'
              obtain ⟨m'', h1, h2⟩ := zdk hm'
              rw [<- h2]; exact hbl m'' h1
theorem ztR {t t2 : TypeId} {x y : Operand} {one : Bool} {ks : List SK} (ho : o.op = .call { callee := .builtin .delete, args := #[x, y], argTypes := #[t, t2] }) (hl : zja C.P t one ks)
 (h : (MO.rt C.toEnv fresh (.mdel one ks (cX x) (cX y))).Runs gt go R v os k) (hd : zau C o.dst v) : zaD C o fresh gt go v os k := by
  simp only [MO.rt] at h
  replace h := zap h
  obtain ⟨sx, R1, h, hx⟩ := h
  replace h := zap h
  obtain ⟨sy, R2, h, hy⟩ := h
  split at h
  case h_2 => cases h
  rename_i id
  cases h with
  | rO h =>
    dsimp only at h
    split at h
    case h_2 => cases h
    rename_i M es it hg
    replace h := zcL h
    obtain ⟨h1, h2, key, R4, h, hkey⟩ := h
    subst h1; subst h2
    obtain ⟨K, E, hT, hK⟩ := hl.ok
    cases h with
    | done =>
      refine zkl (by simp [ho]) hd hg fun {β own S a w} H => ?_
      obtain ⟨B, b, ents, clock, hB, hblk, ex, hown, hb, he, ⟨hnd, hbp, hbl⟩, hit⟩ := zhD H hg (hx H)
      have ey := hkey hK H.mem _ (hy H)
      have hf := zcH hK key he
      have hc := hK.check (ents.isEmpty) w (M.ekk key)
      have hrun : ∀ {r w'}, (Builtin.delete_ #[t, t2] o.type #[a.eval x, a.eval y]).run C.P w = .ok r w' -> (execOp a.eval o).run C.P w = .ok (.value r) w' := by
       intro r w' h
       simp [execOp, ho, resolve, invoke, builtin, h]
      cases hp : zao M key es with
      | none =>
        rw [hp] at hf
        obtain ⟨s1, s2, s3⟩ := map_set (.map ents clock) hb
        refine ⟨.tuple #[], _, B, hrun ?_, hB, s3, fun j hj => s2 j (fun e => hj (e ▸ hown.1)), rfl, rfl, rfl, fun xx => ⟨?_, fun s e => by cases e; simp [rel, zam]⟩⟩
        . rw [ex, ey]
          simp [Builtin.delete_, run_underlying hT, zcE hb, hc, hf, zeu _ hb]
        . refine ⟨b, _, _, hblk, ⟨hown.1, zfp s2 s1 hown.2⟩, s1, ?_, ⟨?_, hbp, hbl⟩, by rw [zfR M _ _ hp]; exact (zmj hit hnd s2).2 hp⟩
          . rw [zfR M _ _ hp]; exact zbJ xx M _ _ he
          . rw [zfR M _ _ hp]; exact hnd
      | some j =>
        rw [hp] at hf
        have hjl : j < ents.size := by
         obtain ⟨v0, h1⟩ := zcn hp
         have h1 := (List.getElem?_eq_some_iff.1 h1).1
         have h2 := ziT he
         simp at h2; omega
        have hel : ents.toList[j]? = some ents[j] := by simp [hjl]
        simp only [Option.bind_some, hel, Option.map_some] at hf
        obtain ⟨s1, s2, s3⟩ := map_set (.map (ents.eraseIdxIfInBounds j) clock) hb
        have hml : (ents.eraseIdxIfInBounds j).toList = ents.toList.eraseIdx j := by simp [Array.eraseIdxIfInBounds, hjl, Array.toList_eraseIdx]
        refine ⟨.tuple #[], _, B, hrun ?_, hB, s3, fun i hi => s2 i (fun e => hi (e ▸ hown.1)), rfl, rfl, rfl, fun xx => ⟨?_, fun s e => by cases e; simp [rel, zam]⟩⟩
        . rw [ex, ey]
          simp [Builtin.delete_, run_underlying hT, zcE hb, hc, hf, zeu _ hb]
        . refine ⟨b, _, _, hblk, ⟨hown.1, zfp s2 s1 hown.2⟩, s1, ?_, ⟨?_, ?_, ?_⟩, by rw [hml]; exact (zmj hit hnd s2).1 j hp⟩
          . rw [hml]; exact zmB (zbJ xx M _ _ he) hp
          . exact (zlL M key es).nodup hnd
          . rw [hml]; exact List.Pairwise.sublist ((List.eraseIdx_sublist _ _).map _) hbp
          . intro m hm
            rw [hml] at hm
            exact hbl m (List.mem_of_mem_eraseIdx hm)
end
end Go.Sx
namespace Go.Sx
open Go
section
variable {β : Nat -> Option zay} {w : World} {S : Nat -> Prop} {M : zaj} {V V' : M.κ -> M.ν -> MapEntry -> Prop}
theorem zmC {k : M.κ} {v : M.ν} {f : MapEntry -> MapEntry} : ∀ {es : List (M.κ × M.ν)} {l : List MapEntry} {i : Nat}, (es.map (·.1)).Nodup →
 (∀ k' v' m, k' ∈ es.map (·.1) -> k' ≠ k -> V k' v' m -> V' k' v' m) -> (∀ v0 m, l[i]? = some m -> es[i]? = some (k, v0) -> V k v0 m -> rel β w S (zaS M.one (M.ek k)) (f m).key /\ V' k v (f m)) -> zbv β w S M V es l -> zao M k es = some i →
 zbv β w S M V' (zan M k v es) (l.modify i f)
  | [], l, i, _, _, _, h, e => by simp [zao] at e
  | (j, u) :: es, l, i, hnd, h1, h2, h, e => by
    obtain ⟨m, r, rfl, q1, q2, q3⟩ := h
    simp only [List.map, List.nodup_cons] at hnd
    simp only [zao] at e
    simp only [zan]
    cases ej : M.deq j k with
    | isTrue h' =>
      rw [ej] at e
      simp at e
      subst e
      subst h'
      obtain ⟨r1, r2⟩ := h2 u m rfl rfl q2
      refine ⟨f m, r, by simp, r1, r2, zg6 (fun k' v' m' hk' => h1 k' v' m' (by simp only [List.map, List.mem_cons]; exact .inr hk') (fun e => hnd.1 (e ▸ hk'))) q3⟩
    | isFalse h' =>
      rw [ej] at e
      simp at e
      obtain ⟨i', e, rfl⟩ := e
      exact ⟨m, _, by simp, q1, h1 _ _ _ (by simp) h' q2, zmC hnd.2 (fun k' v' m' hk' => h1 k' v' m' (by simp only [List.map, List.mem_cons]; exact .inr hk')) (fun v0 m' e1 e2 => h2 v0 m' (by simpa using e1) (by simpa using e2)) q3 e⟩
theorem zk9 : ∀ {es : List (M.κ × M.ν)} {l : List MapEntry}, za1 β w S M es l -> za1 β w S (zex M) es l
 | [], l, h => h
 | (k, v) :: es, l, h => by
   obtain ⟨m, r, rfl, h1, h2, h3⟩ := h
   exact ⟨m, r, rfl, h1, by simp [zex, zaS, rel], zk9 h3⟩
theorem zkE {k : M.κ} {v : M.ν} : ∀ {es : List (M.κ × M.ν)}, zao M k es = none -> zan M k v es = es ++ [(k, v)]
 | [], _ => rfl
 | (j, u) :: es, h => by
   simp only [zao] at h
   simp only [zan]
   cases e : M.deq j k with
   | isTrue h' => rw [e] at h; simp at h
   | isFalse h' => rw [e] at h; simp at h; simp [zkE h]
theorem zm4 {k : M.κ} {v : M.ν} : ∀ {es : List (M.κ × M.ν)} {j : Nat}, zao M k es = some j -> (zan M k v es)[j]? = some (k, v)
 | [], j, h => by simp [zao] at h
 | (y, u) :: es, j, h => by
   simp only [zao] at h
   simp only [zan]
   cases e : M.deq y k with
   | isTrue h' => rw [e] at h; simp at h; subst h; simp [h']
   | isFalse h' =>
     rw [e] at h; simp at h
     obtain ⟨j', h, rfl⟩ := h
     simpa using zm4 h
theorem zeq {k : M.κ} {v : M.ν} {es : List (M.κ × M.ν)} (h : (es.map (·.1)).Nodup) : ((zan M k v es).map (·.1)).Nodup := by
 rw [zcJ]
 split
 . exact h
 . rename_i hp
   refine List.nodup_append.2 ⟨h, by simp, ?_⟩
   intro a ha b hb e
   simp at hb
   subst hb; subst e
   exact (zc8 M _ es).1 hp ha
theorem zho {l : List MapEntry} {m : MapEntry} {clock : Nat} (h1 : (l.map (·.born)).Pairwise (· < ·)) (h2 : ∀ m ∈ l, m.born < clock) (hm : m.born = clock) :
 ((l ++ [m]).map (·.born)).Pairwise (· < ·) /\ ∀ x ∈ l ++ [m], x.born < clock + 1 := by
  refine ⟨?_, fun x hx => ?_⟩
  . rw [List.map_append, List.pairwise_append]
    refine ⟨h1, by simp, fun p hp q hq => ?_⟩
    obtain ⟨x, hx, rfl⟩ := List.mem_map.1 hp
    simp at hq
    subst hq
    rw [hm]; exact h2 x hx
  . rcases List.mem_append.1 hx with hx | hx
    . exact Nat.lt_succ_of_lt (h2 x hx)
    . simp at hx; subst hx; omega
theorem ztF {f : MapEntry -> MapEntry} (hf : ∀ m, (f m).born = m.born) {l : List MapEntry} {i : Nat} {m : MapEntry} (h : m ∈ l.modify i f) : ∃ m' ∈ l, m'.born = m.born := by
 have : m.born ∈ (l.modify i f).map (·.born) := List.mem_map_of_mem h
 rw [zlS f hf] at this
 obtain ⟨m', h1, h2⟩ := List.mem_map.1 this
 exact ⟨m', h1, h2⟩
end
section
variable {β : Nat -> Option zay} {own : Nat -> Nat -> Prop} {S : Nat -> Prop} {go : GO} {w : World} {M : zaj} {sub : M.ν -> Sub} {es : List (M.κ × M.ν)}
theorem zaw.fent (h : zaw β own S go w) {id j g : Nat} {key : M.κ} (hg : go id = some (.fam M sub es (some (key, j, some g)))) {B : zay} {b : Nat} (hB : β id = some B) (hb : B.blk = some b) {ents : Array MapEntry} {clock : Nat} (he : w.heap[b]? = some (.map ents clock))
 {kv : Value} (hkv : rel β w S (zaS M.one (M.ek key)) kv) {Bj Bg : zay} (hBj : β j = some Bj) (hBg : β g = some Bg) {zv : Value} {w' : World} {ents' : Array MapEntry} {clock' : Nat}
 (hents : (zao M key es = none /\ ents'.toList = ents.toList ++ [{ key := kv, val := zv, born := clock }] /\ clock' = clock + 1 /\ Hnd Bj (sub (zaf M key es)) zv /\ Bg.str = clock) ∨
  ∃ i, zao M key es = some i /\ ents'.toList = (ents.toList.modify i fun e => { e with key := kv }) /\ clock' = clock)
 (hw1 : w'.heap[b]? = some (.map ents' clock')) (hw2 : ∀ y, y ≠ b -> w'.heap[y]? = w.heap[y]?) (hw3 : w'.heap.size = w.heap.size) :
 zaw β own S (upd go id (some (.fam M sub (zan M key (zaf M key es) es) (some (key, j, some g))))) w' /\ own id b := by
  obtain ⟨B', hB', b', ents0, clock0, h1, ⟨h2, h2'⟩, h3, ⟨h4, h4', h4''⟩, G, h5, h6⟩ := h.obj _ _ hg
  rw [hB] at hB'; cases hB'
  rw [hb] at h1; cases h1
  rw [he] at h3; cases h3
  have hsi : (go id).isSome := by simp [hg]
  have xx : Ext β w S β w' S := ⟨fun _ _ e => e, fun _ e => e, fun y hy => hw2 y (fun e => by subst e; exact h.st id y hsi h2 hy)⟩
  have there : ∀ y, y < w.heap.size -> (w'.heap[y]?).isSome = true := fun y hy => by
   rw [<- hw3] at hy
   simp [hy]
  have hother : ∀ k' v' m, k' ∈ es.map (·.1) -> k' ≠ key -> zcg β w S M sub G (own id) b (some (key, j, some g)) k' v' m -> zcg β w' S M sub G (own id) b (some (key, j, some g)) k' v' m := by
   intro k' v' m _ hk ⟨_, hv⟩
   refine ⟨fun a c e => ?_, fun e => ?_⟩
   . simp only [Option.some.injEq, Prod.mk.injEq] at e
     exact absurd e.1.symm hk
   . obtain ⟨r1, r2, r3⟩ := hv e
     exact ⟨r1, r2.ext (fun _ e => e) xx.heap (fun y hy => hw2 y (r3 y hy).2), r3⟩
  have h5' : zbv β w' S M (zcg β w S M sub G (own id) b (some (key, j, some g))) es ents.toList := ze4 xx M es (fun _ _ _ _ h => h) _ h5
  have hkv' := zaH xx _ _ hkv
  have hV : ∀ (m : MapEntry) (y : M.ν), Hnd Bj (sub y) m.val -> Bg.str = m.born -> zcg β w' S M sub G (own id) b (some (key, j, some g)) key y m := by
   intro m y q1 q2
   refine ⟨fun a c e => ?_, fun e => absurd rfl (e j (some g))⟩
   simp only [Option.some.injEq, Prod.mk.injEq, true_and] at e
   obtain ⟨rfl, rfl⟩ := e
   refine ⟨⟨Bj, hBj, q1⟩, fun i e => ?_⟩
   cases e
   exact ⟨Bg, hBg, q2⟩
  have hrel : zbv β w' S M (zcg β w' S M sub G (own id) b (some (key, j, some g))) (zan M key (zaf M key es) es) ents'.toList /\ (ents'.toList.map (·.born)).Pairwise (· < ·) /\ (∀ m ∈ ents'.toList, m.born < clock') := by
   rcases hents with ⟨hp, e1, e2, e3, e4⟩ | ⟨q, hp, e1, e2⟩
   . rw [e1, e2]
     exact ⟨zhN hkv' (hV _ _ e3 e4) hother h5' hp, zho h4' h4'' rfl⟩
   . rw [e1, e2]
     refine ⟨zmC h4 hother (fun v0 m r1 r2 hv => ⟨hkv', ?_⟩) h5' hp, ?_, ?_⟩
     . have := zb4 hp
       rw [r2] at this
       cases this
       obtain ⟨⟨Bq, s1, s2⟩, s3⟩ := hv.1 _ _ rfl
       rw [hBj] at s1; cases s1
       obtain ⟨Bq, s4, s5⟩ := s3 _ rfl
       rw [hBg] at s4; cases s4
       exact hV _ _ s2 s5
     . rw [zlS (fun e : MapEntry => { e with key := kv }) (fun _ => rfl)]; exact h4'
     . intro m' hm'
       obtain ⟨m'', r1, r2⟩ := ztF (f := fun e : MapEntry => { e with key := kv }) (fun _ => rfl) hm'
       rw [<- r2]; exact h4'' m'' r1
  obtain ⟨k1, k3, k4⟩ := hrel
  refine ⟨⟨fun i o e => ?_, fun i q c hiq hi hq hc hc' => ?_, fun i c hi hc => ?_, fun c hc => by rw [hw3]; exact h.sz c hc⟩, h2⟩
  . by_cases ei : i = id
    . subst ei
      simp only [zac, Option.some.injEq] at e
      subst e
      refine ⟨B, hB, b, ents', clock', hb, ⟨h2, fun y hy => there y (zde (h2' y hy))⟩, hw1, ⟨zeq h4, k3, k4⟩, G, k1, fun k k' hk hk' hkk h7 h8 => ?_⟩
      have inG : ∀ k, k ∈ (zan M key (zaf M key es) es).map (·.1) -> (∀ a c, some (key, j, some g) ≠ some (k, a, c)) -> k ∈ es.map (·.1) := fun k hk hne => by
       rw [zcJ] at hk
       split at hk
       . exact hk
       . rcases List.mem_append.1 hk with hk | hk
         . exact hk
         . simp at hk; subst hk; exact absurd rfl (hne j (some g))
      exact h6 k k' (inG k hk h7) (inG k' hk' h8) hkk h7 h8
    . rw [zab _ _ ei] at e
      obtain ⟨Bq, r1, r2⟩ := h.obj _ _ e
      exact ⟨Bq, r1, r2.ext xx (fun y hy => hw2 y (fun e' => h.sep i id b ei (by simp [e]) hsi (e' ▸ hy) h2))⟩
  . have some_ : ∀ i, (upd go id (some (.fam M sub (zan M key (zaf M key es) es) (some (key, j, some g)))) i).isSome -> (go i).isSome := fun i hi => by
     by_cases e : i = id
     . subst e; exact hsi
     . rwa [zab _ _ e] at hi
    exact h.sep i q c hiq (some_ i hi) (some_ q hq) hc hc'
  . by_cases e : i = id
    . subst e; exact h.st i c hsi hc
    . rw [zab _ _ e] at hi; exact h.st i c hi hc
end
section
variable {C : Ctx} {gt : GT} {go : GO} {β : Nat -> Option zay} {own : Nat -> Nat -> Prop} {S : Nat -> Prop} {a : Act} {w : World}
theorem zaw.widen (h : zaw β own S go w) {β' : Nat -> Option zay} (hβ : ∀ i B, β i = some B -> β' i = some B) : zaw β' own S go w := by
 have x : Ext β w S β' w S := ⟨hβ, fun _ e => e, fun _ _ => rfl⟩
 refine ⟨fun id o e => ?_, h.sep, h.st, h.sz⟩
 obtain ⟨B, h1, h2⟩ := h.obj id o e
 exact ⟨B, hβ _ _ h1, h2.ext x (fun _ _ => rfl)⟩
theorem zah.widen (H : zah C gt go β own S a w) {β' : Nat -> Option zay} (hβ : ∀ i B, β i = some B -> β' i = some B) : zah C gt go β' own S a w :=
 ⟨fun t s e => zaH ⟨hβ, fun _ e => e, fun _ _ => rfl⟩ _ _ (H.tm t s e), H.mem.widen hβ, H.fr, H.own0, H.s0, H.s1, H.n, H.df, H.gl⟩
end
section
variable {C : Ctx} {gt : GT} {go : GO} {o : Oper} {fresh : Nat} {R : List Loc} {v : Option SV} {os : List (Nat × Option SO)} {k : Nat}
theorem zrI {t : TypeId} {x y : Operand} {one zo : Bool} {ks : List SK} {z : List PV} (ho : o.op = .mapEntry t x y) (hl : zln C.P t one ks zo z) {id : Nat} {sy : SV}
 (hx : ∀ {β own S a w}, zah C gt go β own S a w -> rel β w S (.mp id) (a.eval x)) (hy : ∀ {β own S a w}, zah C gt go β own S a w -> rel β w S sy (a.eval y))
 {M : zaj} {sub : M.ν -> Sub} {es : List (M.κ × M.ν)} (hg : go id = some (.fam M sub es none))
 (h : (zdj M one ks sy fun key => (match sub (zaf M key es) with
       | .vec s L => .req ((zas M key es).isSome = true \/ (L = [] /\ z = [PV.sl s []]))
        (.done (some (.tup [.slc fresh 0 L.length, .gn (fresh + 1)])) [(id, some (.fam M sub (zan M key (zaf M key es) es) (some (key, fresh, some (fresh + 1))))), (fresh, some (.vec s L))] 2)
       | .map _ _ => RT.fail)).Runs gt go R v os k) (hd : zau C o.dst v) : zaD C o fresh gt go v os k := by
  replace h := zcL h
  obtain ⟨h1, h2, key, R3, h, hkey⟩ := h
  subst h1; subst h2
  obtain ⟨K, E, i, zv, hT, hK, hi, hz, hzr, hzs⟩ := hl.ok
  split at h
  case h_2 => cases h
  rename_i s L hs
  cases h with
  | req hp h =>
    cases h with
    | done =>
      have e0 : zao M key es = none -> L = [] /\ z = [PV.sl s []] := fun e => hp.resolve_left (fun q => by
       obtain ⟨j, hj⟩ := zcI.1 q
       rw [e] at hj; cases hj)
      intro β own S a w H hβ next Q hn
      obtain ⟨B, b, ents, clock, hB, hb, ex, hown, he, hr, hnd, hbp, hbl, _⟩ := zjr H hg (hx H)
      have ey := hkey hK H.mem _ (hy H)
      have hkr : rel β w S (zaS M.one (M.ek key)) (a.eval y) := (zdf (M.ekk _) hK.len1 _).2 ey
      have hf : β fresh = none := hβ fresh (Nat.le_refl _) (by omega)
      have hf1 : β (fresh + 1) = none := hβ (fresh + 1) (by omega) (by omega)
      have hid : (go id).isSome := by simp [hg]
      have hnf : id ≠ fresh := fun e => by subst e; rw [hf] at hB; cases hB
      obtain ⟨num, hnum⟩ : ∃ num : Nat, (zao M key es = none -> num = clock) /\ ∀ j m, zao M key es = some j -> ents.toList[j]? = some m -> num = m.born := by
       cases hp : zao M key es with
       | none => exact ⟨clock, fun _ => rfl, (fun j m e => by cases e)⟩
       | some j =>
         obtain ⟨m, hm, _⟩ := zce hr j key _ (zb4 hp)
         refine ⟨m.born, (fun e => by cases e), fun j' m' e1 e2 => ?_⟩
         cases e1; rw [hm] at e2; cases e2; rfl
      let β1 := upd β (fresh + 1) (some ⟨none, num, 0⟩)
      have hβ1 : ∀ i B, β i = some B -> β1 i = some B := fun i B e => by
       by_cases hi : i = fresh + 1
       . subst hi; rw [hf1] at e; cases e
       . exact (zab _ _ hi).trans e
      have H1 := H.widen hβ1
      obtain ⟨B0, F0, hm, xx, hF, hv⟩ := H1.mem.take hg (hβ1 _ _ hB) hb he (key := key) (fresh := fresh) (by show upd β (fresh + 1) _ fresh = none; rw [zab _ _ (by omega)]; exact hf) (g := some (fresh + 1))
       (fun i e => by cases e; exact ⟨_, zac _ _ _, fun j m e1 e2 => hnum.2 j m e1 e2⟩) (fun e => ⟨s, by rw [hs, (e0 e).1]⟩)
      obtain ⟨u1, u2⟩ := zjR (w := w) hT hK hi hz he hr key
      obtain ⟨x0, w', ents', clock', hrun, hents, s1, s2, s3, g1, g2, g3, hxv⟩ : ∃ x0 w' ents' clock', (execOp a.eval o).run C.P w = .ok (.value (.tuple #[x0, goInt num])) w' ∧
       ((zao M key es = none /\ ents'.toList = ents.toList ++ [{ key := a.eval y, val := zv, born := clock }] /\ clock' = clock + 1 /\ Hnd B0 (sub (zaf M key es)) zv /\ num = clock) ∨
         ∃ i, zao M key es = some i /\ ents'.toList = (ents.toList.modify i fun e => { e with key := a.eval y }) /\ clock' = clock) ∧
       w'.heap[b]? = some (.map ents' clock') /\ (∀ y, y ≠ b -> w'.heap[y]? = w.heap[y]?) /\ w'.heap.size = w.heap.size /\ w'.os = w.os /\ w'.tape = w.tape /\ w'.output = w.output /\ Hnd B0 (sub (zaf M key es)) x0 := by
        cases hp : zao M key es with
        | none =>
          obtain ⟨s1, s2, s3⟩ := map_set (.map (ents.push { key := a.eval y, val := zv, born := clock }) (clock + 1)) he
          have hzv : Hnd B0 (sub (zaf M key es)) zv := hv zv (.inl ⟨hp, hzs s (e0 hp).2⟩)
          refine ⟨zv, _, _, _, ?_, .inl ⟨rfl, by simp, rfl, hzv, hnum.1 hp⟩, s1, s2, s3, rfl, rfl, rfl, hzv⟩
          simp only [execOp, ho]
          rw [ex, ey, hnum.1 hp]
          simp [u1 hp]
        | some j =>
          obtain ⟨m, hm, _⟩ := zce hr j key _ (zb4 hp)
          obtain ⟨s1, s2, s3⟩ := map_set (.map (ents.modify j fun e => { e with key := a.eval y }) clock) he
          refine ⟨m.val, _, _, _, ?_, .inr ⟨j, rfl, by simp, rfl⟩, s1, s2, s3, rfl, rfl, rfl, hv _ (.inr ⟨j, m, hp, hm, rfl⟩)⟩
          simp only [execOp, ho]
          rw [ex, ey, hnum.2 j m hp hm]
          simp [u2 j m hp hm]
      have hne1 : fresh + 1 ≠ fresh := by omega
      have hgo1 : upd (upd go id (some (.fam M sub es (some (key, fresh, some (fresh + 1)))))) fresh (some (sub (zaf M key es)).so) id = some (.fam M sub es (some (key, fresh, some (fresh + 1)))) := by
       rw [zab _ _ hnf, zac]
      obtain ⟨hm2, hob⟩ := hm.fent hgo1 (xx.ids _ _ (hβ1 _ _ hB)) hb he (zaH xx _ _ (zaH ⟨hβ1, fun _ e => e, fun _ _ => rfl⟩ _ _ hkr)) (zac _ _ _) (xx.ids _ _ (zac _ _ _)) (zv := zv) hents s1 s2 s3
      have hgo2 : upd (upd (upd go id (some (.fam M sub es (some (key, fresh, some (fresh + 1)))))) fresh (some (sub (zaf M key es)).so)) id (some (.fam M sub (zan M key (zaf M key es) es) (some (key, fresh, some (fresh + 1))))) =
       upd (upd go id (some (.fam M sub (zan M key (zaf M key es) es) (some (key, fresh, some (fresh + 1)))))) fresh (some (.vec s L)) := by
        funext q
        by_cases e1 : q = id
        . subst e1; rw [zac, zab _ _ hnf, zac]
        . rw [zab _ _ e1]
          by_cases e2 : q = fresh
          . subst e2; rw [zac, zac, hs]; rfl
          . rw [zab _ _ e2, zab _ _ e1, zab _ _ e2, zab _ _ e1]
      rw [hgo2] at hm2
      have hob' : own id b := by
       rw [zab _ _ hnf, zac] at hob
       exact hob.1
      have x1 : Ext β w S (upd β1 fresh (some B0)) w' S := ⟨fun i B e => xx.ids _ _ (hβ1 _ _ e), fun _ e => e, fun y hy => s2 y (fun e => by subst e; exact H.mem.st id y hid hob' hy)⟩
      refine zbU (by simp [ho]) hrun (hn (upd β1 fresh (some B0)) (upd (upd own id (fun x => own id x /\ ¬ F0 x)) fresh F0) S _ w' (fun i hi => ?_) ?_)
      . rw [zab _ _ (fun (e : i = fresh) => hi (by omega))]
        exact zab _ _ (fun (e : i = fresh + 1) => hi (by omega))
      refine H.step x1 hm2 ⟨g1, g2, g3, by rw [s3]; exact Nat.le_refl _, fun y hy hx => s2 y (fun e => hx ⟨id, hid, by rw [e]; exact hob'⟩)⟩ (fun i c h1 h2 => .inl ?_) (fun c h => .inl h) o.dst _ _ (zcd hd (fun s' e => ?_)) (zbw hd gt)
      . by_cases e : i = fresh
        . subst e; rw [zac] at h2; exact ⟨id, hid, hF c h2⟩
        . rw [zab _ _ e] at h1 h2
          by_cases e2 : i = id
          . subst e2; rw [zac] at h2; exact ⟨i, hid, h2.1⟩
          . rw [zab _ _ e2] at h1 h2; exact ⟨i, h1, h2⟩
      . cases e
        have r1 := znm (β := upd β1 fresh (some B0)) (w := w') (S := S) (zac _ _ _) hxv
        rw [hs] at r1
        replace r1 : rel (upd β1 fresh (some B0)) w' S (.slc fresh 0 L.length) x0 := r1
        have hg1 : upd β1 fresh (some B0) (fresh + 1) = some ⟨none, num, 0⟩ := by rw [zab _ _ hne1]; exact zac _ _ _
        have r2 : rel (upd β1 fresh (some B0)) w' S (.gn (fresh + 1)) (goInt num) := ⟨_, hg1, rfl⟩
        simp only [rel, zam] at r1 r2 ⊢
        exact ⟨_, rfl, _, _, rfl, r1, _, _, rfl, r2, rfl⟩
end
end Go.Sx
namespace Go.Sx
open Go
section
variable {C : Ctx} {gt : GT} {go : GO} {o : Oper} {fresh : Nat} {R : List Loc} {v : Option SV} {os : List (Nat × Option SO)} {k : Nat}
theorem ztS {t : TypeId} {x y : Operand} {one zo : Bool} {ks : List SK} {z : List PV} (ho : o.op = .mapEntry t x y) (hl : zln C.P t one ks zo z)
 (h : (MO.rt C.toEnv fresh (.ment one ks zo z (cX x) (cX y))).Runs gt go R v os k) (hd : zau C o.dst v) : zaD C o fresh gt go v os k := by
  simp only [MO.rt] at h
  replace h := zap h
  obtain ⟨sx, R1, h, hx⟩ := h
  replace h := zap h
  obtain ⟨sy, R2, h, hy⟩ := h
  split at h
  case h_2 => cases h
  rename_i id
  cases h with
  | rO h =>
    dsimp only at h
    split at h
    case h_3 => cases h
    case h_2 M sub es hh hg =>
     split at h
     case h_2 => cases h
     exact zrI ho hl hx hy hg h hd
    rename_i M es it hg
    replace h := zcL h
    obtain ⟨h1, h2, key, R3, h, hkey⟩ := h
    subst h1; subst h2
    obtain ⟨K, E, i, zv, hT, hK, hi, hz, hzr, _⟩ := hl.ok
    cases h with
    | req hp h =>
      obtain ⟨hv1, hv2⟩ := hp
      cases h with
      | done =>
        intro β own S a w H hβ next Q hn
        obtain ⟨B, b, ents, clock, hB, hblk, ex, hown, he, hr, ⟨hnd, hbp, hbl⟩, _⟩ := zhD H hg (hx H)
        have ey := hkey hK H.mem _ (hy H)
        have hkr : rel β w S (zaS M.one (M.ek key)) (a.eval y) := (zdf (M.ekk _) hK.len1 _).2 ey
        have hf : β fresh = none := hβ fresh (Nat.le_refl _) (by omega)
        have hid : (go id).isSome := by simp [hg]
        have hzr' : rel β w S (zaS M.vone (M.ev M.d)) zv := by rw [hv1, hv2]; exact hzr β w S
        obtain ⟨u1, u2⟩ := zjR (w := w) hT hK hi hz he (zk9 hr) key
        obtain ⟨num, x0, w', ents', clock', hrun, hw1, hw2, hw3, g1, g2, g3, hx0, hobj⟩ : ∃ (num : Nat) (x0 : Value) (w' : World) (ents' : Array MapEntry) (clock' : Nat), (execOp a.eval o).run C.P w = .ok (.value (.tuple #[x0, goInt num])) w' ∧
         w'.heap[b]? = some (.map ents' clock') /\ (∀ y, y ≠ b -> w'.heap[y]? = w.heap[y]?) /\ w'.heap.size = w.heap.size /\ w'.os = w.os /\ w'.tape = w.tape /\ w'.output = w.output ∧
         rel β w S (zaS M.vone (M.ev (zaf M key es))) x0 ∧
         (Ext β w S β w' S -> za1 β w' S M (zan M key (zaf M key es) es) ents'.toList /\ ((zan M key (zaf M key es) es).map (·.1)).Nodup /\ (ents'.toList.map (·.born)).Pairwise (· < ·) /\ (∀ m ∈ ents'.toList, m.born < clock') ∧
          ∃ (i : Nat) (m : MapEntry) (v : M.ν), ents'.toList[i]? = some m /\ (zan M key (zaf M key es) es)[i]? = some (key, v) /\ num = m.born) := by
          cases hp : zao M key es with
          | none =>
            obtain ⟨s1, s2, s3⟩ := map_set (.map (ents.push { key := a.eval y, val := zv, born := clock }) (clock + 1)) he
            refine ⟨clock, zv, _, _, _, ?_, s1, s2, s3, rfl, rfl, rfl, by rw [zeW hp]; exact hzr', fun xx => ?_⟩
            . simp only [execOp, ho]
              rw [ex, ey]
              simp [u1 hp]
            . have hl := ziT hr
              rw [Array.toList_push]
              refine ⟨zhL (zaH xx _ _ hkr) (zaH xx _ _ (by rw [zeW hp]; exact hzr')) (zbJ xx M _ _ hr) hp, zeq hnd, (zho hbp hbl rfl).1, (zho hbp hbl rfl).2, es.length, { key := a.eval y, val := zv, born := clock }, zaf M key es, ?_, ?_, rfl⟩
              . rw [<- hl]; simp
              . rw [zkE hp]; simp
          | some j =>
            obtain ⟨m, hm, hmk, hmv⟩ := zce hr j key _ (zb4 hp)
            obtain ⟨s1, s2, s3⟩ := map_set (.map (ents.modify j fun e => { e with key := a.eval y }) clock) he
            refine ⟨m.born, m.val, _, _, _, ?_, s1, s2, s3, rfl, rfl, rfl, hmv, fun xx => ?_⟩
            . simp only [execOp, ho]
              rw [ex, ey]
              simp [u2 j m hp hm]
            . have hml : (ents.modify j fun e => { e with key := a.eval y }).toList = ents.toList.modify j fun e => { e with key := a.eval y, val := m.val } := by
               rw [Array.toList_modify]
               exact zdy (fun m' hm' => by rw [hm] at hm'; cases hm'; rfl)
              rw [hml]
              refine ⟨zg5 (zaH xx _ _ hkr) (zaH xx _ _ hmv) (zbJ xx M _ _ hr) hp, zeq hnd, by rw [zdQ]; exact hbp, fun m' hm' => ?_, j, { m with key := a.eval y, val := m.val }, _, ?_, zm4 hp, rfl⟩
              . obtain ⟨m'', r1, r2⟩ := zdk hm'
                rw [<- r2]; exact hbl m'' r1
              . rw [List.getElem?_modify_eq, hm]; rfl
        let β1 := upd β fresh (some ⟨none, num, 0⟩)
        have hβ1 : ∀ i B, β i = some B -> β1 i = some B := fun i B e => by
         by_cases hi : i = fresh
         . subst hi; rw [hf] at e; cases e
         . exact (zab _ _ hi).trans e
        have H1 := H.widen hβ1
        have x0' : Ext β w S β w' S := ⟨fun _ _ e => e, fun _ e => e, fun y hy => hw2 y (fun e => by subst e; exact H.mem.st id y hid hown.1 hy)⟩
        have x1 : Ext β w' S β1 w' S := ⟨hβ1, fun _ e => e, fun _ _ => rfl⟩
        have x2 := x0'.trans x1
        refine zbU (by simp [ho]) hrun (hn β1 own S _ w' (fun i hi => zab β _ (fun (e : i = fresh) => hi (by omega))) ?_)
        refine H1.set hg (hβ1 _ _ hB) hw3 (fun y hy => hw2 y (fun e => hy (e ▸ hown.1))) g1 g2 g3 (fun xx => ?_) o.dst _ _ (zcd hd (fun s' e => ?_)) (zbw hd gt)
        . obtain ⟨k1, k2, k3, k4, i, m, v, k5, k6, k7⟩ := hobj x0'
          exact ⟨b, ents', clock', hblk, ⟨hown.1, zfp hw2 hw1 hown.2⟩, hw1, zbJ x1 M _ _ k1, ⟨k2, k3, k4⟩, i, m, v, ⟨none, num, 0⟩, k5, k6, zac _ _ _, k7⟩
        . cases e
          have r1 := zaH x2 _ _ hx0
          have r2 : rel β1 w' S (.gn fresh) (goInt num) := ⟨_, zac _ _ _, rfl⟩
          rw [rel]
          exact ⟨_, rfl, by rw [zam]; exact ⟨_, _, rfl, r1, by rw [zam]; exact ⟨_, _, rfl, r2, by rw [zam]⟩⟩⟩
theorem ztT {t : TypeId} {x y z : Operand} (ho : o.op = .entryStore t x y z) (hd : o.dst = none)
 (h : (MO.rt C.toEnv fresh (.mest (cX x) (cX y) (cX z))).Runs gt go R v os k) : zaD C o fresh gt go v os k := by
  simp only [MO.rt] at h
  replace h := zap h
  obtain ⟨sx, R1, h, hx⟩ := h
  replace h := zap h
  obtain ⟨sy, R2, h, hy⟩ := h
  replace h := zap h
  obtain ⟨sz, R3, h, hz⟩ := h
  split at h
  case h_2 => cases h
  rename_i id g
  have hgn : ∀ {β own S a w}, zah C gt go β own S a w -> ∃ B, β g = some B /\ a.eval y = .int .i64 B.str := fun {β own S a w} H => by
   have := hy H
   simpa only [rel] using this
  cases h with
  | rO h =>
    dsimp only at h
    split at h
    case h_3 => cases h
    case h_2 M sub es hh hg =>
     split at h
     case h_2 => cases h
     rename_i key j g'
     simp only [eqN] at h
     split at h
     case h_2 => cases h
     rename_i hgg
     have hgg := Nat.eq_of_beq_eq_true hgg
     subst hgg
     cases h with
     | req hpos h =>
     refine zk3 hg (fun a c d e => by cases e; rfl) hz h (by simp [ho]) hd fun {β own S a w} H => ?_
     obtain ⟨B, b, ents, clock, hB, hb, ex, hown, he, hr, hnd, hbp, hbl, G, hF⟩ := zjr H hg (hx H)
     obtain ⟨Bg, hBg, ey⟩ := hgn H
     obtain ⟨q, hq⟩ := zcI.1 hpos
     obtain ⟨m, hm, hmk, hv, _⟩ := zfs hF q key _ (zb4 hq)
     obtain ⟨_, hv⟩ := hv _ _ rfl
     obtain ⟨Bg', r1, r2⟩ := hv _ rfl
     rw [hBg] at r1; cases r1
     have hrun := zf2 (P := C.P) (T := t) he hm hbp (a.eval z)
     obtain ⟨s1, s2, s3⟩ := map_set (.map (ents.modify q fun e => { e with val := a.eval z }) clock) he
     refine ⟨B, b, ents, clock, m.key, _, _, _, hB, hb, he, hmk, ?_, .inr ⟨q, hq, ?_, rfl⟩, s1, s2, s3, rfl, rfl, rfl⟩
     . simp only [execOp, ho]
       rw [ex, ey, r2]
       simp [hrun]
     . rw [Array.toList_modify]
       exact zdy (fun m' hm' => by rw [hm] at hm'; cases hm'; rfl)
    . rename_i M es key g' hg
      simp only [eqN] at h
      split at h
      case h_2 => cases h
      rename_i hgg
      have hgg := Nat.eq_of_beq_eq_true hgg
      subst hgg
      cases h with
      | ex val _ h =>
        obtain ⟨ρ', R5, h, _, _, hm0⟩ := zdJ _ h
        split at h
        case h_2 => cases h
        rename_i hbor
        cases h with
        | done =>
          refine zhH (by simp [ho]) hd hg fun {β own S a w} H => ?_
          have hxx := hx H
          simp only [rel] at hxx
          obtain ⟨B, b, hB, hblk, ex⟩ := hxx
          obtain ⟨B', h1, b', ents, clock, h2, hown, he, hr, ⟨hnd, hbp, hbl⟩, q, m, v0, Bg', k1, k2, k3, k4⟩ := H.mem.obj _ _ hg
          rw [hB] at h1; cases h1
          rw [hblk] at h2; cases h2
          obtain ⟨Bg, hBg, ey⟩ := hgn H
          rw [hBg] at k3; cases k3
          have hvr := hm0 ρ' (.refl _) (zet H.mem) (fun _ => 0) _ (hz H)
          have hS : (fun b => S b \/ zgc go ρ' own b) = S := by
           funext q; apply propext
           exact ⟨fun h => h.elim (fun e => e) (fun ⟨j, hj, _⟩ => by rw [hbor] at hj; cases hj), .inl⟩
          rw [hS] at hvr
          have hvr : rel β w S (zaS M.vone (M.ev val.down)) (a.eval z) := by
           have key : ∀ (l : List PV) (x : Value), rel (bOf ρ' β fun _ => 0) w S (zaS M.vone l) x -> rel β w S (zaS M.vone l) x := fun l x h => zfQ (fun _ e => e) h
           exact key _ _ hvr
          obtain ⟨m', k1', hmk, _⟩ := zce hr q key v0 k2
          rw [k1] at k1'; cases k1'
          have hp : zao M key es = some q := by
           cases hp : zao M key es with
           | none => exact absurd (List.mem_map.2 ⟨(key, v0), List.mem_of_getElem? k2, rfl⟩) ((zc8 M key es).1 hp)
           | some q' =>
             have := zb4 hp
             have a1 : (es.map (·.1))[q]? = some key := by simp [k2]
             have a2 : (es.map (·.1))[q']? = some key := by simp [this]
             rw [(List.getElem?_inj (List.getElem?_eq_some_iff.1 a2).1 hnd).1 (a2.trans a1.symm)]
          have hrun := zf2 (P := C.P) (T := t) he k1 hbp (a.eval z)
          obtain ⟨s1, s2, s3⟩ := map_set (.map (ents.modify q fun e => { e with val := a.eval z }) clock) he
          refine ⟨_, B, ?_, hB, s3, fun i hi => s2 i (fun e => hi (e ▸ hown.1)), rfl, rfl, rfl, fun xx => ?_⟩
          . simp only [execOp, ho]
            rw [ex, ey, k4]
            simp [hrun]
          . have hml : (ents.modify q fun e => { e with val := a.eval z }).toList = ents.toList.modify q fun e => { e with key := m.key, val := a.eval z } := by
             rw [Array.toList_modify]
             exact zdy (fun m' hm' => by rw [k1] at hm'; cases hm'; rfl)
            refine ⟨b, _, _, hblk, ⟨hown.1, zfp s2 s1 hown.2⟩, s1, ?_, ⟨zeq hnd, ?_, ?_⟩, trivial⟩
            . rw [hml]
              exact zg5 (zaH xx _ _ hmk) (zaH xx _ _ hvr) (zbJ xx M _ _ hr) hp
            . rw [hml, zdQ]; exact hbp
            . intro m' hm'
              rw [hml] at hm'
              obtain ⟨m'', h1, h2⟩ := zdk hm'
              rw [<- h2]; exact hbl m'' h1
theorem zt0 {t : TypeId} {s : Nat} {x hi mx : Operand} (ho : o.op = .slice t x none (some hi) (some mx)) (hi' : zlm C.P t s)
 (h : (MO.rt C.toEnv fresh (.sls3 s (cX x) (cX hi) (cX mx))).Runs gt go R v os k) (hd : zau C o.dst v) : zaD C o fresh gt go v os k := by
  simp only [MO.rt] at h
  replace h := zap h
  obtain ⟨sx, R1, h, hx⟩ := h
  replace h := zap h
  obtain ⟨sh, R2, h, hh⟩ := h
  replace h := zap h
  obtain ⟨sm, R3, h, hm⟩ := h
  obtain ⟨e, ie, hu, hie, hsz⟩ := hi'
  split at h
  case h_2 => cases h
  rename_i id b0 ln
  split at h
  case h_2 => cases h
  rename_i k1 h0
  split at h
  case h_2 => cases h
  rename_i k2 m0
  cases h with
  | rO h =>
    dsimp only at h
    split at h
    case h_2 => cases h
    rename_i s' L hg
    simp only [eqN] at h
    split at h
    case h_2 => cases h
    rename_i hs
    have hs := Nat.eq_of_beq_eq_true hs
    subst hs
    cases h with
    | req hp h =>
      obtain ⟨rfl, hp1, hp2⟩ := hp
      obtain ⟨rfl, rfl, rfl⟩ := zat h
      refine zaJ (by simp [ho]) hd fun {β own S a w} H => ?_
      have h1 := hx H
      have h2 := hh H
      have h3 := hm H
      simp only [rel] at h1 h2 h3
      obtain ⟨B, hB, h1⟩ := h1
      obtain ⟨B', q1, q2⟩ := H.mem.obj _ _ hg
      rw [hB] at q1; cases q1
      unfold zaV at h1
      split at h1
      . obtain ⟨_, _, rfl⟩ := h1; omega
      . rename_i b hb
        obtain ⟨off, cap, e1, hc1, hc2, hc3⟩ := h1
        have hoff : off = b0 * B.str := hc3.resolve_left (by omega)
        have hlow : (0 : Int) <= h0 := by omega
        have hcap : h0 <= (cap : Int) := by omega
        have hs' : (sizeOf e).run C.P w = .ok s w := by simp [sizeOf, typeInfo, hie, hsz]
        have hrun : (Instr.sliceAt t (a.eval x) none (some (a.eval hi)) (some (a.eval mx))).run C.P w = .ok (.slice (some ⟨b, off, none⟩) h0.toNat h0.toNat) w := by
         unfold Instr.sliceAt
         simp only [Sem.run_bind, run_underlying hu, Result.andThen_ok]
         unfold Instr.slice
         simp only [Sem.run_bind, run_underlying hu, Result.andThen_ok, e1, h2, h3]
         have hb : (Instr.sliceBounds true ln cap none (some (.int k1 h0)) (some (.int k2 h0))).run C.P w = .ok (0, h0.toNat, h0.toNat) w := by
          simp [Instr.sliceBounds, Instr.sliceBound, asIntOf, hlow, hcap]
          omega
         simp only [hb, hs', Result.andThen_ok, Sem.run_pure, Sem.run_bind]
         have : h0.toNat ≠ 0 := by omega
         simp [this, Addr.add]
        refine ⟨_, by simp only [execOp, ho, Option.map_none, Option.map_some]; simp [hrun]; rfl, ?_⟩
        simp only [rel]
        exact ⟨B, b, hB, hb, by rw [hoff], by omega⟩
end
end Go.Sx
namespace Go.Sx
open Go
def zrr (g : Gh) (s : St) (K : St -> Prop) : Prop :=
 match s with
 | ⟨t, o, nx⟩ => match g with
   | .toFam id => (match zax o id with
     | some (.map M es _) => (match es with
       | [] => ∃ sub : M.ν -> Sub, K ⟨t, (id, some (.fam M sub [] none)) :: o, nx⟩
       | _ :: _ => False)
     | _ => False)
   | .toMap id => (match zax o id with
     | some (.fam M sub es h) => (match h with
       | none => Sd (M.vone = true /\ ∀ v, ∃ s L, sub v = .vec s L /\ M.ev v = [.sl s L]) /\ K ⟨t, (id, some (.map M es none)) :: o, nx⟩
       | some _ => False)
     | _ => False)
   | .putb id => (match zax o id with
     | some (.fam M sub es h) => (match h with
       | some (k, j, _) => (match zax o j with
         | some oj => Sd (oj = (sub (zaf M k es)).so) /\ K ⟨t, (id, some (.fam M sub es none)) :: (j, none) :: o, nx⟩
         | none => False)
       | none => False)
     | _ => False)
   | .putc id => (match zax o id with
     | some (.fam M sub es h) => (match h with
       | some (k, j, _) => (match zax o j with
         | some oj => ∃ x : M.ν, Sd ((zas M k es).isSome = true /\ oj = (sub x).so /\ ∀ B v, Hnd B (sub (zaf M k es)) v -> Hnd B (sub x) v) /\ K ⟨t, (id, some (.fam M sub (zan M k x es) none)) :: (j, none) :: o, nx⟩
         | none => False)
       | none => False)
     | _ => False)
   | .opn id => (match zax o id with
     | some (.vex s p) => ∀ L, p L -> K ⟨t, (id, some (.vec s L)) :: o, nx⟩
     | _ => False)
   | .opt n => (match zaM t n with
     | some (.fex p) => ∀ x, p x -> K ⟨(n, x.sv) :: t, o, nx⟩
     | _ => False)
theorem zkF {M : zaj} {k : M.κ} : ∀ {es : List (M.κ × M.ν)} {j : Nat}, zao M k es = some j -> zan M k (zaf M k es) es = es
 | [], j, h => by simp [zao] at h
 | (y, u) :: es, j, h => by
   have e1 : zaf M k ((y, u) :: es) = match M.deq y k with | isTrue _ => u | isFalse _ => zaf M k es := by
    simp only [zaf, zas]
    cases M.deq y k <;> rfl
   rw [e1]
   simp only [zao] at h
   simp only [zan]
   cases e : M.deq y k with
   | isTrue h' => rfl
   | isFalse h' =>
     rw [e] at h; simp at h
     obtain ⟨j', h, rfl⟩ := h
     simp only
     rw [zkF h]
section
variable {C : Ctx} {gt : GT} {go : GO} {β : Nat -> Option zay} {own : Nat -> Nat -> Prop} {S : Nat -> Prop} {a : Act} {w : World}
theorem zah.turn (H : zah C gt go β own S a w) {go' : GO} {own' : Nat -> Nat -> Prop} {S' : Nat -> Prop} (hs : ∀ b, S b -> S' b) (hm : zaw β own' S' go' w)
 (h1 : ∀ i b, (go' i).isSome -> own' i b -> ∃ i, (go i).isSome /\ own i b) (h2 : ∀ b, S' b -> S b \/ ∃ i, (go i).isSome /\ own i b) : zah C gt go' β own' S' a w :=
  H.step ⟨fun _ _ e => e, hs, fun _ _ => rfl⟩ hm ⟨rfl, rfl, rfl, Nat.le_refl _, fun _ _ _ => rfl⟩ (fun i b e1 e2 => .inl (h1 i b e1 e2)) (fun b e => (h2 b e).elim .inl (fun q => .inr (.inl q))) none undef none (fun d s e => by cases e) (fun _ => .inl rfl)
theorem zaw.turn (h : zaw β own S go w) {id : Nat} {o0 o : SO} (hg : go id = some o0) (ho : ∀ B, β id = some B -> za3 β w S B (own id) o0 -> za3 β w S B (own id) o) : zaw β own S (upd go id (some o)) w := by
 have some_ : ∀ i, (upd go id (some o) i).isSome -> (go i).isSome := fun i hi => by
  by_cases e : i = id
  . subst e; simp [hg]
  . rwa [zab _ _ e] at hi
 refine ⟨fun i o' e => ?_, fun i j b hij hi hj => h.sep i j b hij (some_ i hi) (some_ j hj), fun i b hi => h.st i b (some_ i hi), h.sz⟩
 by_cases ei : i = id
 . subst ei
   rw [zac] at e; cases e
   obtain ⟨B, q1, q2⟩ := h.obj _ _ hg
   exact ⟨B, q1, ho B q1 q2⟩
 . rw [zab _ _ ei] at e
   exact h.obj _ _ e
theorem zcq {go : GO} {id i : Nat} {o0 o : SO} (hg : go id = some o0) (hi : (upd go id (some o) i).isSome) : (go i).isSome := by
 by_cases e : i = id
 . subst e; simp [hg]
 . rwa [zab _ _ e] at hi
theorem zix {go : GO} {id i : Nat} (hi : (upd go id none i).isSome) : (go i).isSome := by
 by_cases e : i = id
 . subst e; simp at hi
 . rwa [zab _ _ e] at hi
theorem zaw.frz (h : zaw β own S go w) {id : Nat} {M : zaj} {sub : M.ν -> Sub} {es : List (M.κ × M.ν)} (hg : go id = some (.fam M sub es none)) (hv : M.vone = true) (hs : ∀ v, ∃ s L, sub v = .vec s L /\ M.ev v = [.sl s L]) :
 ∃ own' S', zaw β own' S' (upd go id (some (.map M es none))) w /\ (∀ b, S b -> S' b) /\ (∀ i b, own' i b -> own i b) /\ (∀ b, S' b -> S b \/ own id b) := by
  obtain ⟨B, hB, b, ents, clock, h1, ⟨h2, h2'⟩, h3, h4, G, h5, h6⟩ := h.obj _ _ hg
  have hsi : (go id).isSome := by simp [hg]
  let S' : Nat -> Prop := fun x => S x \/ ∃ k, k ∈ es.map (·.1) /\ (G k).2 x
  have Gown : ∀ k, k ∈ es.map (·.1) -> ∀ y, (G k).2 y -> own id y /\ y ≠ b := fun k hk y hy => by
   obtain ⟨⟨k0, v0⟩, hm, rfl⟩ := List.mem_map.1 hk
   obtain ⟨p, hp⟩ := List.getElem?_of_mem hm
   obtain ⟨m, _, _, _, hv⟩ := zfs h5 p _ _ hp
   exact (hv (fun a c e => by cases e)).2.2 y hy
  have x : Ext β w S β w S' := ⟨fun _ _ e => e, fun _ e => .inl e, fun _ _ => rfl⟩
  refine ⟨upd own id (zci b), S', ⟨fun i o e => ?_, fun i j c hij hi hj hc hc' => ?_, fun i c hi hc hS => ?_, fun c hc => ?_⟩, fun b e => .inl e, fun i c hc => ?_, fun c hc => ?_⟩
  . by_cases ei : i = id
    . subst ei
      rw [zac] at e ⊢; cases e
      refine ⟨B, hB, b, ents, clock, h1, ⟨rfl, fun y hy => by cases hy; simp [h3]⟩, h3, ?_, h4, trivial⟩
      refine zlb (es0 := es) (fun k v m hm hV => ?_) (fun x hx => hx) (ze4 x M es (V' := zcg β w S M sub G (own i) b none) (fun _ _ _ _ h => h) _ h5)
      obtain ⟨_, hV⟩ := hV
      obtain ⟨q1, q2, q3⟩ := hV (fun _ _ e => by cases e)
      obtain ⟨s, L, e1, e2⟩ := hs v
      rw [e1] at q1 q2
      rw [hv, e2]
      simp only [zaS, PV.sv, rel, zaR]
      simp only [Hnd, zaV] at q1
      rcases q2 with ⟨r1, rfl, _⟩ | ⟨b1, arr, T, r1, r2, r3, r4, r5, r6, r7⟩
      . rw [r1] at q1
        exact ⟨none, 0, q1.1, Nat.le_refl _, fun e => absurd rfl e, fun _ => rfl⟩
      . rw [r1] at q1
        obtain ⟨off, cap, t0, t1, t2, t3⟩ := q1
        refine ⟨_, cap, t0, t1, fun hne => ?_, fun e => by cases e⟩
        have hpos := List.length_pos_iff.2 hne
        have hoff : off = 0 := by
         rcases t3 with t3 | t3
         . omega
         . simpa using t3
        subst hoff
        refine ⟨b1, 0, arr, T, _, rfl, .inr ⟨k, List.mem_map.2 ⟨(k, v), hm, rfl⟩, by rw [r3]; rfl⟩, r4, ?_⟩
        simpa using za6 (S' := S') (fun _ e => .inl e) (fun _ _ => rfl) s L _ r7
    . rw [zab _ _ ei] at e ⊢
      obtain ⟨B', q1, q2⟩ := h.obj _ _ e
      exact ⟨B', q1, q2.ext x (fun _ _ => rfl)⟩
  . have o1 : ∀ i c, upd own id (zci b) i c -> own i c := fun i c hc => by
     by_cases e : i = id
     . subst e; rw [zac] at hc; cases hc; exact h2
     . rwa [zab _ _ e] at hc
    exact h.sep i j c hij (zcq hg hi) (zcq hg hj) (o1 i c hc) (o1 j c hc')
  . by_cases e : i = id
    . subst e; rw [zac] at hc; cases hc
      rcases hS with hS | ⟨k, hk, hy⟩
      . exact h.st i b hsi h2 hS
      . exact (Gown k hk b hy).2 rfl
    . rw [zab _ _ e] at hc
      rcases hS with hS | ⟨k, hk, hy⟩
      . exact h.st i c (zcq hg hi) hc hS
      . exact h.sep i id c e (zcq hg hi) hsi hc (Gown k hk c hy).1
  . rcases hc with hc | ⟨k, hk, hy⟩
    . exact h.sz c hc
    . exact zde (h2' c (Gown k hk c hy).1)
  . by_cases e : i = id
    . subst e; rw [zac] at hc; cases hc; exact h2
    . rwa [zab _ _ e] at hc
  . rcases hc with hc | ⟨k, hk, hy⟩
    . exact .inl hc
    . exact .inr (Gown k hk c hy).1
theorem zah.back (H : zah C gt go β own S a w) {id j : Nat} {M : zaj} {sub : M.ν -> Sub} {es : List (M.κ × M.ν)} {key : M.κ} {g : Option Nat} (hg : go id = some (.fam M sub es (some (key, j, g)))) {x : M.ν} (hj : go j = some (sub x).so)
 (hx : ∀ B v, Hnd B (sub (zaf M key es)) v -> Hnd B (sub x) v) : ∃ own', zah C gt (upd (upd go j none) id (some (.fam M sub (if (zao M key es).isSome then zan M key x es else es) none))) β own' S a w := by
  obtain ⟨B, hB, b, ents, clock, h1, ⟨h2, h2'⟩, h3, h4, G, h5, h6⟩ := H.mem.obj _ _ hg
  have hjid : j ≠ id := fun e => by
   subst e; rw [hg] at hj
   have := Option.some.inj hj
   cases hs : sub x <;> rw [hs] at this <;> simp [Sub.so] at this
  have hsj : (go j).isSome := by simp [hj]
  have hsi : (go id).isSome := by simp [hg]
  cases hp : zao M key es with
  | none =>
    simp only [Option.isSome_none, Bool.false_eq_true, if_false]
    have hm := (H.mem.drop j).turn (id := id) (o0 := .fam M sub es (some (key, j, g))) (o := .fam M sub es none) (by rw [zab _ _ hjid.symm]; exact hg) (fun B' hB' _ => by
     rw [hB] at hB'; cases hB'
     have hne : ∀ k, k ∈ es.map (·.1) -> ∀ a c, some (key, j, g) ≠ some (k, a, c) := fun k hk a c e => by
      cases e
      exact (zc8 M _ es).1 hp hk
     refine ⟨b, ents, clock, h1, ⟨h2, h2'⟩, h3, h4, G, zg6 (fun k v m hk hv => ⟨(fun _ _ e => by cases e), fun _ => hv.2 (hne k hk)⟩) h5, fun k k' hk hk' hkk _ _ => h6 k k' hk hk' hkk (hne k hk) (hne k' hk')⟩)
    exact ⟨own, H.turn (fun _ e => e) hm (fun i c e1 e2 => ⟨i, zix (zcq (by rw [zab _ _ hjid.symm]; exact hg) e1), e2⟩) (fun b e => .inl e)⟩
  | some q =>
    simp only [Option.isSome_some, if_true]
    obtain ⟨m, hm, hmk, hv⟩ := zfs h5 q key _ (zb4 hp)
    obtain ⟨⟨Bj, q1, q2⟩, _⟩ := hv.1 _ _ rfl
    obtain ⟨hm', _⟩ := H.mem.fput hg hB h1 h3 (hole := fun a c d e => by cases e; rfl) hj q1 hmk (hx _ _ q2) (w' := w) (ents' := ents) (clock' := clock) (.inr ⟨q, hp, by
     have : (ents.toList.modify q fun e => { e with key := m.key, val := m.val }) = ents.toList.modify q fun e => e := zdy (fun m' hm' => by rw [hm] at hm'; cases hm'; rfl)
     rw [this]
     exact (List.modify_id q ents.toList).symm, rfl⟩) h3 (fun _ _ => rfl) rfl
    have hcomm : upd (upd go id (some (.fam M sub (zan M key x es) none))) j none = upd (upd go j none) id (some (.fam M sub (zan M key x es) none)) := by
     funext i
     by_cases e1 : i = j
     . subst e1; rw [zac, zab _ _ hjid, zac]
     . rw [zab _ _ e1]
       by_cases e2 : i = id
       . subst e2; rw [zac, zac]
       . rw [zab _ _ e2, zab _ _ e2, zab _ _ e1]
    rw [hcomm] at hm'
    refine ⟨_, H.turn (fun _ e => e) hm' (fun i c e1 e2 => ?_) (fun b e => .inl e)⟩
    by_cases ei : i = id
    . subst ei
      rw [zac] at e2
      rcases e2 with e2 | e2
      . exact ⟨i, hsi, e2⟩
      . exact ⟨j, hsj, e2⟩
    . rw [zab _ _ ei] at e1 e2
      exact ⟨i, zix e1, e2⟩
end
theorem zyH {C : Ctx} {g : Gh} {s : St} {K : St -> Prop} (h : zrr g s K) {β own S a w} (H : zaA C s β own S a w) : ∃ s' β' own' S', K s' /\ zaA C s' β' own' S' a w := by
 obtain ⟨t, o, nx⟩ := s
 have fin : ∀ {o' : List (Nat × Option SO)} {own' : Nat -> Nat -> Prop} {S' : Nat -> Prop}, zah C (zaM t) (zax o') β own' S' a w -> zaA C ⟨t, o', nx⟩ β own' S' a w := fun H' => ⟨H', H.fresh, H.m0, H.b0⟩
 have consO : ∀ (i : Nat) (x : Option SO) (l : List (Nat × Option SO)), zax ((i, x) :: l) = upd (zax l) i x := fun i x l => by
  funext j
  simp only [zax, zaI, upd]
  by_cases h : i = j
  . subst h; simp
  . rw [if_neg h, if_neg (fun e => h e.symm)]
 have H0 : zah C (zaM t) (zax o) β own S a w := H.h
 unfold zrr at h
 dsimp only at h
 split at h
 . rename_i id
   split at h
   case h_2 => exact h.elim
   rename_i M es it hg
   split at h
   case h_2 => exact h.elim
   obtain ⟨sub, hk⟩ := h
   refine ⟨_, β, own, S, hk, fin ?_⟩
   rw [consO]
   refine H0.turn (fun _ e => e) (H0.mem.turn hg (fun B hB ho => ?_)) (fun i c e1 e2 => ⟨i, zcq hg e1, e2⟩) (fun b e => .inl e)
   obtain ⟨b, ents, clock, h1, h2, h3, h4, h5, _⟩ := ho
   exact ⟨b, ents, clock, h1, h2, h3, h5, fun _ => (⟨none, 0, 0⟩, fun _ => False), h4, fun k k' hk => by simp at hk⟩
 . rename_i id
   split at h
   case h_2 => exact h.elim
   rename_i M sub es hh hg
   split at h
   case h_2 => exact h.elim
   obtain ⟨⟨hv, hs⟩, hk⟩ := h
   obtain ⟨own', S', hm, h1, h2, h3⟩ := H0.mem.frz hg hv hs
   refine ⟨_, β, own', S', hk, fin ?_⟩
   rw [consO]
   exact H0.turn h1 hm (fun i c e1 e2 => ⟨i, zcq hg e1, h2 i c e2⟩) (fun b e => (h3 b e).elim .inl (fun q => .inr ⟨id, by simp [hg], q⟩))
 . rename_i id
   split at h
   case h_2 => exact h.elim
   rename_i M sub es hh hg
   split at h
   case h_2 => exact h.elim
   rename_i key j g
   split at h
   case h_2 => exact h.elim
   rename_i oj hj
   obtain ⟨⟨he⟩, hk⟩ := h
   subst he
   obtain ⟨own', H'⟩ := H0.back hg hj (fun _ _ h => h)
   refine ⟨_, β, own', S, hk, fin ?_⟩
   rw [consO, consO]
   have : (if (zao M key es).isSome then zan M key (zaf M key es) es else es) = es := by
    cases hp : zao M key es with
    | none => rfl
    | some q => simp only [Option.isSome_some, if_true]; exact zkF hp
   rw [this] at H'
   exact H'
 . rename_i id
   split at h
   case h_2 => exact h.elim
   rename_i M sub es hh hg
   split at h
   case h_2 => exact h.elim
   rename_i key j g
   split at h
   case h_2 => exact h.elim
   rename_i oj hj
   obtain ⟨x, ⟨hp, he, hx⟩, hk⟩ := h
   subst he
   obtain ⟨own', H'⟩ := H0.back hg hj hx
   refine ⟨_, β, own', S, hk, fin ?_⟩
   rw [consO, consO]
   obtain ⟨q, hq⟩ := zcI.1 hp
   rw [hq] at H'
   exact H'
 . rename_i id
   split at h
   case h_2 => exact h.elim
   rename_i s p hg
   obtain ⟨B, hB, L, hL, ho⟩ := H0.mem.obj _ _ hg
   refine ⟨_, β, own, S, h L hL, fin ?_⟩
   rw [consO]
   refine H0.turn (fun _ e => e) (H0.mem.turn hg (fun B' hB' _ => ?_)) (fun i c e1 e2 => ⟨i, zcq hg e1, e2⟩) (fun b e => .inl e)
   rw [hB] at hB'; cases hB'
   exact ho
 . rename_i n
   split at h
   case h_2 => exact h.elim
   rename_i p hg
   have hr := H0.tm _ _ hg
   simp only [rel] at hr
   obtain ⟨x, hx, hp⟩ := hr
   refine ⟨_, β, own, S, h x hp, ⟨{ H0 with tm := fun t' s' e => ?_ }, H.fresh, H.m0, H.b0⟩⟩
   simp only [zaM, zaI] at e
   split at e
   . rename_i en
     subst en
     cases e
     exact znz (hx w S)
   . exact H0.tm _ _ e
end Go.Sx
namespace Go.Sx
open Go
section
variable {C : Ctx} {gt : GT} {go : GO} {o : Oper} {fresh : Nat} {R : List Loc} {v : Option SV} {os : List (Nat × Option SO)} {k : Nat}
theorem zrU {P : Program} {w : World} (k1 k2 : IntKind) (a b : Int) : (Builtin.min2 (.int k1 a) (.int k2 b)).run P w = .ok (.int k1 (min a b)) w := by
 have : (if b < a then b else a) = min a b := by rw [Int.min_def]; split <;> split <;> omega
 simp [Builtin.min2, this]
theorem zrT {P : Program} {w : World} (k1 k2 : IntKind) (a b : Int) : (Builtin.max2 (.int k1 a) (.int k2 b)).run P w = .ok (.int k1 (max a b)) w := by
 have : (if b > a then b else a) = max a b := by rw [Int.max_def]; split <;> split <;> omega
 simp [Builtin.max2, this]
theorem zkN {mx : Bool} {kd : IntKind} : ∀ {l : List SV} {a : Int}, (zjw mx kd a l).Runs gt go R v os k -> ∃ r, v = some (.int kd r) /\ os = [] /\ k = 0 /\ ∀ {P : Program} {β w S xs}, zam β w S l xs →
 (xs.foldlM (if mx then Builtin.max2 else Builtin.min2) (.int kd a)).run P w = .ok (.int kd r) w
  | [], a, h => by
    obtain ⟨rfl, rfl, rfl⟩ := zat h
    refine ⟨a, rfl, rfl, rfl, fun {P β w S xs} hx => ?_⟩
    simp only [zam] at hx
    subst hx
    simp
  | s :: l, a, h => by
    simp only [zjw] at h
    split at h
    . rename_i kb b
      obtain ⟨r, e1, e2, e3, hr⟩ := zkN h
      refine ⟨r, e1, e2, e3, fun {P β w S xs} hx => ?_⟩
      simp only [zam, rel] at hx
      obtain ⟨x, xs, rfl, rfl, hx⟩ := hx
      have := hr (P := P) hx
      rw [List.foldlM_cons]
      cases mx
      . simp only [Bool.false_eq_true, if_false] at this ⊢
        simp [zrU, this]
      . simp only [if_true] at this ⊢
        simp [zrT, this]
    . cases h
theorem zsM {mx : Bool} {x : Operand} {ys : List Operand} {ats : Array TypeId} (ho : o.op = .call { callee := .builtin (if mx then .max else .min), args := (x :: ys).toArray, argTypes := ats })
 (h : (MO.rt C.toEnv fresh (.mm mx (cX x) (ys.map cX))).Runs gt go R v os k) (hd : zau C o.dst v) : zaD C o fresh gt go v os k := by
  simp only [MO.rt] at h
  replace h := zap h
  obtain ⟨sx, R1, h, hx⟩ := h
  replace h := zgv h
  obtain ⟨sy, R2, h, hy⟩ := h
  split at h
  . rename_i kd a
    obtain ⟨r, rfl, rfl, rfl, hr⟩ := zkN h
    refine zaJ (by simp [ho]) hd fun {β own S a w} H => ?_
    have h1 := hx H
    simp only [rel] at h1
    have h2 := hr (P := C.P) (hy H)
    refine ⟨.int kd r, ?_, by simp [rel]⟩
    cases mx
    . simp only [Bool.false_eq_true, if_false] at ho h2
      simp [execOp, ho, resolve, invoke, builtin, Builtin.min_, h1, h2]
    . simp only [if_true] at ho h2
      simp [execOp, ho, resolve, invoke, builtin, Builtin.max_, h1, h2]
  . cases h
theorem zw4 {x y : Operand} {t : TypeId} (ho : o.op = .index t x y) (hu : C.P.underlying t = some .string) (h : (MO.rt C.toEnv fresh (.ixs (cX x) (cX y))).Runs gt go R v os k) (hd : zau C o.dst v) : zaD C o fresh gt go v os k := by
 simp only [MO.rt] at h
 replace h := zap h
 obtain ⟨sx, R1, h, hx⟩ := h
 replace h := zap h
 obtain ⟨sy, R2, h, hy⟩ := h
 split at h
 . rename_i s ki i
   cases h with
   | req hp h =>
     obtain ⟨rfl, rfl, rfl⟩ := zat h
     refine zaJ (by simp [ho]) hd fun {β own S a w} H => ?_
     have h1 := hx H
     have h2 := hy H
     simp only [rel] at h1 h2
     have hlt : i.toNat < s.size := by omega
     have hs : s[i.toNat]? = some s[i.toNat] := by simp [hlt]
     refine ⟨.int .u8 ((s[i.toNat]?).getD 0).toNat, ?_, by simp only [rel]⟩
     rw [hs]
     simp [execOp, ho, Instr.index, h1, h2, asIntOf, run_underlying hu, hp.1, hs]
 . cases h
theorem zpx {neg : Bool} {t ty : TypeId} {x y : Operand} (ho : o.op = .binOp (if neg then .neq else .eql) t x y ty)
 (h : (MO.rt C.toEnv fresh (.eqt neg (cX x) (cX y))).Runs gt go R v os k) (hd : zau C o.dst v) : zaD C o fresh gt go v os k := by
  simp only [MO.rt] at h
  replace h := zap h
  obtain ⟨sx, R1, h, hx⟩ := h
  replace h := zap h
  obtain ⟨sy, R2, h, hy⟩ := h
  split at h
  . rename_i s1 s2
    have hb : (s1.toList == s2.toList) = true ↔ s1 = s2 := by rw [<- beq_toListBytes]; exact zec s1 s2
    have key : ∀ {β own S a w}, zah C gt go β own S a w -> (execOp a.eval o).run C.P w = .ok (.value (.bool (if neg then !(s1.toList == s2.toList) else (s1.toList == s2.toList)))) w := by
     intro β own S a w H
     have h1 := hx H
     have h2 := hy H
     simp only [rel] at h1 h2
     refine zcO ho (by simp [h1]) (by simp [h1]) ?_
     rw [h1, h2]
     cases neg
     . simp [binOp, Op.stringOp]
     . simp [binOp, Op.stringOp]
    cases neg
    . obtain ⟨rfl, rfl, rfl⟩ := zat h
      exact zaJ (by simp [ho]) hd fun {β own S a w} H => ⟨_, key H, zgw hb⟩
    . obtain ⟨rfl, rfl, rfl⟩ := zat h
      refine zaJ (by simp [ho]) hd fun {β own S a w} H => ⟨_, key H, zgw ?_⟩
      rw [<- hb]
      simp
  . cases h
theorem zmK {P : Program} {w : World} {t e : TypeId} (hu : P.underlying t = some (.slice e)) (b : Option Addr) (n c d : Nat) : (Op.equalIn (d + 1) t (.slice b n c) (.slice none 0 0)).run P w = .ok b.isNone w := by
 cases b <;> simp [Op.equalIn, run_underlying hu]
theorem zoB {P : Program} {w : World} {t e : TypeId} (hu : P.underlying t = some (.slice e)) (b : Option Addr) (n c : Nat) : (Op.equal t (.slice b n c) (.slice none 0 0)).run P w = .ok b.isNone w :=
 zmK hu b n c 9999
theorem znv {neg : Bool} {t ty e : TypeId} {x : Operand} (ho : o.op = .binOp (if neg then .neq else .eql) t x (.const (.slice none 0 0)) ty) (hu : C.P.underlying t = some (.slice e))
 (h : (MO.rt C.toEnv fresh (.nils neg (cX x))).Runs gt go R v os k) (hd : zau C o.dst v) : zaD C o fresh gt go v os k := by
  simp only [MO.rt] at h
  replace h := zap h
  obtain ⟨sx, R1, h, hx⟩ := h
  have fin : ∀ {p : Bool} {v os k R}, (zaC (match neg with | false => (if p then SV.tt else SV.ff) | true => (if p then SV.ff else SV.tt))).Runs gt go R v os k -> zau C o.dst v →
   (∀ {β own S a w}, zah C gt go β own S a w -> ∃ b n c, a.eval x = .slice b n c /\ b.isNone = p) -> zaD C o fresh gt go v os k := by
    intro p v os k R h hd hv
    obtain ⟨rfl, rfl, rfl⟩ := zat h
    refine zaJ (by simp [ho]) hd fun {β own S a w} H => ?_
    obtain ⟨b, n, c, e1, e2⟩ := hv H
    refine ⟨.bool (if neg then !p else p), zcO ho (by simp [e1]) (by simp [e1]) ?_, by cases neg <;> cases p <;> simp [rel]⟩
    have hev : a.eval (.const (.slice none 0 0)) = .slice none 0 0 := rfl
    rw [e1, hev]
    have := zoB (w := w) hu b n c
    rw [e2] at this
    cases neg <;> simp [binOp, this]
  split at h
  . rename_i id st n
    cases h with
    | req hp h =>
      refine fin (p := false) (by cases neg <;> exact h) hd fun {β own S a w} H => ?_
      have hr := hx H
      simp only [rel] at hr
      obtain ⟨B, _, hr⟩ := hr
      unfold zaV at hr
      split at hr
      . exact absurd hr.2.2 hp
      . obtain ⟨off, cap, e1, _⟩ := hr
        exact ⟨_, _, _, e1, rfl⟩
  . rename_i s L
    cases h with
    | req hp h =>
      refine fin (p := false) (by cases neg <;> exact h) hd fun {β own S a w} H => ?_
      have hr := hx H
      simp only [rel, zaR] at hr
      obtain ⟨b, cap, e1, _, hr, _⟩ := hr
      obtain ⟨b', off, arr, T, fz, e2, _⟩ := hr hp
      exact ⟨_, _, _, e1, by rw [e2]; rfl⟩
  . rename_i aa nn cc
    refine fin (p := false) (by cases neg <;> exact h) hd fun {β own S a w} H => ?_
    have hr := hx H
    simp only [rel] at hr
    exact ⟨_, _, _, hr, rfl⟩
  . rename_i vv _
    cases h with
    | req hp h =>
      subst hp
      refine fin (p := true) (by cases neg <;> exact h) hd fun {β own S a w} H => ?_
      have hr := hx H
      simp only [rel] at hr
      exact ⟨none, 0, 0, hr, rfl⟩
  . cases h
structure ZOk (P : Program) (t : TypeId) (s by_ : Nat) (z : List PV) : Prop where
 ok : ∃ e i zv, P.underlying t = some (.slice e) /\ P.info? e = some i /\ i.size = s /\ i.bytes = by_ /\ i.zero = some zv /\ zv.cells.size = s /\ 0 < s /\ 0 < by_ /\ z.length = s /\ (∀ y ∈ zv.cells.toList, y.oneCell' = true) ∧
  ∀ (w : World) (S : Nat -> Prop), zaE w S z zv.cells.toList
theorem zg7 {w S} {ps : List PV} {vs ws : List Value} (h : zaE w S ps vs) (hl : ps.length <= vs.length) : zaE w S ps (vs ++ ws) := by
 induction ps generalizing vs with
 | nil => simp [zaE]
 | cons p ps ih =>
   simp only [zaE] at h ⊢
   obtain ⟨v, r, rfl, h1, h2⟩ := h
   exact ⟨v, r ++ ws, by simp, h1, ih h2 (by simpa using hl)⟩
theorem zhQ {w S} {s : Nat} {z : List PV} {c : List Value} (hz : z.length = s) (hc : c.length = s) (hr : zaE w S z c) : ∀ (n : Nat) (ws : List Value), zaq w S s (List.replicate n z) ((List.replicate n c).flatten ++ ws)
 | 0, _ => by simp [zaq]
 | n + 1, ws => by
   simp only [List.replicate_succ, zaq, List.flatten_cons, List.append_assoc]
   refine ⟨hz, zg7 hr (by omega), ?_⟩
   have : (c ++ ((List.replicate n c).flatten ++ ws)).drop s = (List.replicate n c).flatten ++ ws := by rw [<- hc]; simp
   rw [this]
   exact zhQ hz hc hr n ws
theorem znd {c : Array Value} {s : Nat} (hc : c.size = s) : ∀ n : Nat, ((Array.range (n * s)).map (fun i => c[i % c.size]!)).toList = (List.replicate n c.toList).flatten := by
 intro n
 induction n with
 | zero => simp
 | succ n ih =>
   rw [List.replicate_succ', List.flatten_append, <- ih]
   simp only [Array.toList_map, Array.toList_range, List.flatten_cons, List.flatten_nil, List.append_nil]
   have : List.range ((n + 1) * s) = List.range (n * s) ++ (List.range s).map (fun i => n * s + i) := by
    rw [Nat.add_mul, Nat.one_mul, List.range_add]
   rw [this, List.map_append, List.map_map]
   congr 1
   apply List.ext_getElem
   . simp [hc]
   . intro i h1 h2
     simp at h1
     have hm : (n * s + i) % s = i := by rw [Nat.add_comm, Nat.add_mul_mod_self_right]; exact Nat.mod_eq_of_lt h1
     have hi : i < c.size := by omega
     simp only [List.getElem_map, List.getElem_range, Function.comp, hc, hm]
     rw [getElem!_pos c i hi]; simp
theorem zj0 {n : Int} (h0 : 0 <= n) (h : n <= 2 ^ 46) : IntKind.i64.wrap n = n := IntWalk.i64_in n (by omega)
theorem zxa {t : TypeId} {x y : Operand} {s by_ : Nat} {z : List PV} (ho : o.op = .makeSlice t x y) (hz : ZOk C.P t s by_ z)
 (h : (MO.rt C.toEnv fresh (.mks s by_ z (cX x) (cX y))).Runs gt go R v os k) (hd : zau C o.dst v) : zaD C o fresh gt go v os k := by
  simp only [MO.rt] at h
  replace h := zap h
  obtain ⟨sx, R1, h, hx⟩ := h
  replace h := zap h
  obtain ⟨sy, R2, h, hy⟩ := h
  split at h
  . rename_i k1 n k2 c
    cases h with
    | req hp h =>
      obtain ⟨rfl, h0, hb⟩ := hp
      cases h with
      | done =>
        obtain ⟨e, i, zv, hu, hi, hsz, hby, hzv, hcs, hs0, hb0, hzl, hone, hrel⟩ := hz.ok
        refine ze3 (by simp [ho]) hd fun {β own S a w} H => ?_
        have h1 := hx H
        have h2 := hy H
        simp only [rel] at h1 h2
        obtain ⟨m, rfl⟩ := Int.eq_ofNat_of_zero_le h0
        have hmb : m * by_ <= 2 ^ 46 := by omega
        have hm : m <= 2 ^ 46 := Nat.le_trans (Nat.le_mul_of_pos_right m hb0) hmb
        have hw : IntKind.i64.wrap (m : Int) = m := zj0 (by omega) (by omega)
        have hbig : ¬ ((by_ : Int) * m > 2 ^ 48) := by
         have : (by_ : Int) * m = ((m * by_ : Nat) : Int) := by rw [Int.natCast_mul, Int.mul_comm]
         rw [this]; omega
        have hcells : (Array.map (fun i => (if m * s = 0 then #[] else zv.cells)[i % (if m * s = 0 then (#[] : Array Value) else zv.cells).size]!) (Array.range (m * s))).toList = (List.replicate m zv.cells.toList).flatten := by
         by_cases hm0 : m * s = 0
         . have : m = 0 := by
            rcases Nat.mul_eq_zero.1 hm0 with h | h
            . exact h
            . omega
           subst this
           simp
         . simp only [hm0, if_false]
           exact znd hcs m
        let arr : Array Value := Array.map (fun i => (if m * s = 0 then #[] else zv.cells)[i % (if m * s = 0 then (#[] : Array Value) else zv.cells).size]!) (Array.range (m * s))
        have hrun : (Instr.makeSlice t (.int k1 m) (.int k2 m)).run C.P w = .ok (.slice (some ⟨w.heap.size, 0, none⟩) m m) (w.alloc (.cells arr e)) := by
         have hti := run_typeInfo w hi
         have hbig' : ¬ ((2 : Int) ^ 48 < (by_ : Int) * m) := hbig
         have hz0 : (zeroValue e).run C.P w = .ok zv w := zgo hi hzv
         have hneg : ¬ ((m : Int) < 0) := by omega
         have hai : ∀ kk : IntKind, (asInt (.int kk (m : Int))).run C.P w = .ok (m : Int) w := fun kk => by simp [asInt, asIntOf]
         have hsf : (sizeOf e).run C.P w = .ok s w := by simp [sizeOf, hti, hsz]
         simp only [Instr.makeSlice, Sem.run_bind, run_underlying hu, Result.andThen_ok, hai, hti, hby, hw, run_askRoom, hsf, Int.toNat_natCast]
         have hc : ((((decide ((m : Int) < 0)) || decide ((by_ : Int) * m > 2 ^ 48)) || decide ((m : Int) < 0) || decide ((m : Int) > m)) = true) = False := by
          simp [hneg]; omega
         simp only [hc, if_false]
         by_cases hm0 : m * s = 0
         . have hm00 : m = 0 := by
            rcases Nat.mul_eq_zero.1 hm0 with h | h
            . exact h
            . omega
           subst hm00
           simp [newRow, arr, hsf]
         . simp [newRow, arr, hz0, hsf, hm0]
        refine ⟨.slice (some ⟨w.heap.size, 0, none⟩) m m, w.alloc (.cells arr e), .cells arr e, ⟨some w.heap.size, s, m⟩, ?_, rfl, rfl, rfl, rfl, fun xx => ⟨?_, ?_⟩⟩
        . simp [execOp, ho, h1, h2, hrun]
        . have hsz' : arr.size = m * s := by simp [arr]
          refine .inr ⟨w.heap.size, arr, e, rfl, rfl, rfl, (show (w.heap.push (Obj.cells arr e))[w.heap.size]? = _ by simp), hsz', by simp, ?_⟩
          have hl : arr.toList = (List.replicate m zv.cells.toList).flatten := hcells
          rw [hl]
          have := zhQ (w := w.alloc (.cells arr e)) (S := S) (s := s) hzl (by simpa using hcs) (hrel _ _) m []
          simpa using this
        . simp only [rel]
          refine ⟨_, zac _ _ _, ?_⟩
          simp only [zaV]
          exact ⟨0, m, by simp, by simp, by simp, .inr (by simp)⟩
  . cases h
theorem ziJ {a b : Nat} {r : RT} (h : (eqN a b r).Runs gt go R v os k) : a = b /\ r.Runs gt go R v os k := by
 unfold eqN at h
 split at h
 . exact ⟨Nat.eq_of_beq_eq_true ‹_›, h⟩
 . cases h
theorem zbT {w S} {s : Nat} : ∀ {L L' : List (List PV)} {vs ws : List Value}, zaq w S s L vs -> vs.length = L.length * s -> zaq w S s L' ws -> zaq w S s (L ++ L') (vs ++ ws)
 | [], L', vs, ws, _, hl, h => by
   have : vs = [] := by simpa using hl
   subst this
   simpa using h
 | e :: L, L', vs, ws, h1, hl, h => by
   simp only [List.cons_append, zaq] at h1 ⊢
   obtain ⟨q1, q2, q3⟩ := h1
   have hs : s <= vs.length := by rw [hl, List.length_cons, Nat.add_mul]; omega
   refine ⟨q1, zg7 q2 (by omega), ?_⟩
   rw [List.drop_append_of_le_length hs]
   exact zbT q3 (by rw [List.length_drop, hl, List.length_cons, Nat.add_mul]; omega) h
theorem zdn {w S} {s : Nat} : ∀ {n : Nat} {L : List (List PV)} {vs : List Value}, zaq w S s L vs -> zaq w S s (L.drop n) (vs.drop (n * s))
 | 0, L, vs, h => by simpa using h
 | n + 1, [], vs, _ => by simp [zaq]
 | n + 1, e :: L, vs, h => by
   simp only [zaq] at h
   have := zdn (n := n) h.2.2
   rw [List.drop_drop] at this
   rw [show (n + 1) * s = s + n * s by rw [Nat.add_mul]; omega]
   simpa using this
theorem zcr {w S} {s : Nat} : ∀ {n : Nat} {L : List (List PV)} {vs : List Value}, zaq w S s L vs -> n * s <= vs.length -> zaq w S s (L.take n) (vs.take (n * s))
 | 0, L, vs, _, _ => by simp [zaq]
 | n + 1, [], vs, _, _ => by simp [zaq]
 | n + 1, e :: L, vs, h, hl => by
   simp only [zaq] at h
   simp only [List.take_succ_cons, zaq]
   rw [Nat.add_mul, Nat.one_mul] at hl ⊢
   refine ⟨h.1, ?_, ?_⟩
   . have h3 := zg8 _ _ s h.2.1
     have h4 : e.take s = e := by rw [<- h.1]; simp
     rw [h4] at h3
     have : (vs.take (n * s + s)) = vs.take s ++ (vs.drop s).take (n * s) := by
      rw [Nat.add_comm, List.take_add]
     rw [this]
     exact zg7 h3 (by simp; omega)
   . have : (vs.take (n * s + s)).drop s = (vs.drop s).take (n * s) := by
      rw [List.drop_take]; congr 1; omega
     rw [this]
     exact zcr h.2.2 (by simp; omega)
theorem zwW {t : TypeId} {x : Operand} {s by_ : Nat} {z : List PV} (ho : o.op = .call { callee := .builtin .clear, args := #[x], argTypes := #[t] }) (hz : ZOk C.P t s by_ z)
 (h : (MO.rt C.toEnv fresh (.clr s z (cX x))).Runs gt go R v os k) (hd : zau C o.dst v) : zaD C o fresh gt go v os k := by
  simp only [MO.rt] at h
  replace h := zap h
  obtain ⟨sx, R1, h, hx⟩ := h
  split at h
  case h_2 => cases h
  rename_i id st len
  cases h with
  | rO h =>
    dsimp only at h
    split at h
    case h_2 => cases h
    rename_i s' L hg
    replace h := ziJ h
    obtain ⟨e1, h⟩ := h
    subst e1
    cases h with
    | req hp h =>
      cases h with
      | done =>
        obtain ⟨e, i, zv, hu, hi, hsz, hby, hzv, hcs, hs0, hb0, hzl, hone, hrel⟩ := hz.ok
        refine zkl (by simp [ho]) hd hg fun {β own S a w} H => ?_
        have hr := hx H
        simp only [rel] at hr
        obtain ⟨B, hB, hr⟩ := hr
        obtain ⟨B', h4, h5⟩ := H.mem.obj _ _ hg
        rw [hB] at h4; cases h4
        have hrun : ∀ {r w'}, (Builtin.clear_ #[t] o.type #[a.eval x]).run C.P w = .ok r w' -> (execOp a.eval o).run C.P w = .ok (.value r) w' := by
         intro r w' h
         simp [execOp, ho, resolve, invoke, builtin, h]
        have same : len = 0 -> L.take st ++ List.replicate len z ++ L.drop (st + len) = L := by
         intro e; subst e; simp
        by_cases hl0 : len = 0
        . rw [same hl0]
          have hnil : ∃ a0 c, a.eval x = .slice a0 0 c := by
           unfold zaV at hr
           split at hr
           . exact ⟨_, _, hr.1⟩
           . obtain ⟨off, cap, e1, _⟩ := hr
             rw [hl0] at e1
             exact ⟨_, _, e1⟩
          obtain ⟨a0, c0, hev⟩ := hnil
          refine ⟨.tuple #[], w, B, hrun ?_, hB, rfl, fun _ _ => rfl, rfl, rfl, rfl, fun xx => ⟨h5, fun s e => by cases e; simp [rel, zam]⟩⟩
          rw [hev]
          cases a0 <;> simp [Builtin.clear_, run_underlying hu]
        . unfold zaV at hr
          split at hr
          . omega
          . rename_i b hb
            obtain ⟨off, cap, e1, hlc, hcc, hoff⟩ := hr
            rcases h5 with ⟨q, _⟩ | ⟨b', arr, T, h6, hstr, hF, hw, hsize, hLc, hrows⟩
            . rw [hb] at q; cases q
            . rw [hb] at h6; cases h6
              have hoff : off = st * s := by
               rcases hoff with h | h
               . omega
               . rw [h, hstr]
              let cs : List Value := (List.replicate len zv.cells.toList).flatten
              have hcsl : cs.length = len * s := by
               simp only [cs, List.length_flatten, List.map_replicate, List.sum_replicate_nat]
               simp [hcs]
              have hfit : off + cs.length <= arr.size := by
               rw [hoff, hcsl, hsize, <- Nat.add_mul]
               exact Nat.mul_le_mul_right _ (by omega)
              have hst := run_storeCells_at (P := C.P) b off T cs 0 arr w hw (by simpa using hfit) (fun v hv => by
               simp only [cs, List.mem_flatten] at hv
               obtain ⟨l, hl, hv⟩ := hv
               have := List.eq_of_mem_replicate hl
               subst this
               exact hone v hv)
              have hzc : (Builtin.zeroCells zv.cells len).toList = cs := by
               have := znd hcs len
               simp only [cs, <- this]
               simp [Builtin.zeroCells, hcs]
              refine ⟨.tuple #[], w.setRow b (arr.toList.take off ++ cs ++ arr.toList.drop (off + cs.length)).toArray, B, hrun ?_, hB, zbX, fun c hc => zbL (fun e => hc (by rw [hF, e]; rfl)), rfl, rfl, rfl, fun xx => ⟨?_, fun s e => by cases e; simp [rel, zam]⟩⟩
              . rw [e1]
                have hlen : len ≠ 0 := hl0
                cases len with
                | zero => exact absurd rfl hlen
                | succ len =>
                  simp only [Nat.add_zero] at hst
                  simp [Builtin.clear_, run_underlying hu, zgo hi hzv, hzc, hst]
              . refine .inr ⟨b, _, T, hb, hstr, hF, setRow_heap _ _ _ _ _ _ hw, ?_, ?_, ?_⟩
                . simp only [List.size_toArray, List.length_append, List.length_take, List.length_drop, hcsl]
                  simp only [Array.length_toList]
                  rw [hcsl] at hfit
                  omega
                . simp only [List.length_append, List.length_take, List.length_replicate, List.length_drop]
                  omega
                . have hrows' := za6 (w := w) (S := S) (w' := _) (S' := S) xx.st xx.heap s L _ hrows
                  generalize w.setRow b (arr.toList.take off ++ cs ++ arr.toList.drop (off + cs.length)).toArray = W at hrows' ⊢
                  simp only []
                  have hst2 : st * s <= arr.toList.length := by
                   rw [hcsl, hoff] at hfit
                   simp; omega
                  rw [List.append_assoc, List.append_assoc, hoff]
                  refine zbT (zcr hrows' hst2) (by
                   rw [List.length_take, List.length_take, Nat.min_eq_left hst2, Nat.min_eq_left (by omega)]) ?_
                  refine zbT ?_ (by rw [hcsl]; simp) ?_
                  . have := zhQ (w := W) (S := S) (s := s) hzl (by simpa using hcs) (hrel _ _) len []
                    simpa [cs] using this
                  . have := zdn (n := st + len) hrows'
                    rw [Nat.add_mul] at this
                    rw [hcsl]; exact this
end
end Go.Sx
namespace Go.Sx
open Go
theorem zmY {P : Program} (w : World) (ty : TypeId) (r bm clock : Nat) (seen : Array Nat) (es : Array MapEntry) (hr : w.heap[r]? = some (.mapIter (some bm) clock seen clock)) (hb : w.heap[bm]? = some (.map es clock))
 (hold : ∀ x ∈ es.toList, x.born < clock) :
 ((∀ e ∈ es.toList, e.born ∈ seen) /\ (Instr.next (.pointer (some ⟨r, 0, none⟩)) false ty).run P w = .ok (.tuple #[.bool false]) w) ∨
 ∃ e ∈ es.toList, e.born ∉ seen /\ ∃ w1 : World, w1.heap = w.heap.setIfInBounds r (.mapIter (some bm) clock (seen.push e.born) clock) /\ w1.os = w.os /\ w1.tape = w.tape /\ w1.output = w.output ∧
  (Instr.next (.pointer (some ⟨r, 0, none⟩)) false ty).run P w = .ok (.tuple #[.bool true, e.key, e.val]) w1 := by
  simp only [Instr.next, getObj, Sem.run_bind, Sem.run, hr, hb, Result.andThen, next_test_false seen es clock clock hold (Nat.le_refl _), Bool.false_eq_true, if_false]
  have hmem : ∀ x ∈ (Array.filter (fun e => !seen.contains e.born) es).toList, x.born < clock /\ x ∈ es.toList /\ x.born ∉ seen := fun x hx => by
   simp at hx; exact ⟨hold x (by simp [hx.1]), by simp [hx.1], hx.2⟩
  have hall : ∀ x ∈ es.toList, x.born ∉ seen -> x ∈ (Array.filter (fun e => !seen.contains e.born) es).toList := fun x hx hn => by
   simp at hx ⊢; exact ⟨hx, hn⟩
  generalize Array.filter (fun e => !seen.contains e.born) es = L at hmem hall ⊢
  have e1 : L.filter (fun x => decide (x.born < clock)) = L := Array.filter_eq_self.2 (fun x hx => by simpa using (hmem x (by simpa using hx)).1)
  have e2 : L.filter (fun x => decide (x.born ≥ clock)) = #[] := by
   rw [Array.filter_eq_empty_iff]
   intro x hx
   have := (hmem x (by simpa using hx)).1
   simp
   omega
  simp only [e1, e2, Array.append_empty]
  by_cases h0 : L.size = 0
  . left
    have : L = #[] := Array.eq_empty_of_size_eq_zero h0
    subst this
    refine ⟨fun e he => ?_, ?_⟩
    . apply Classical.byContradiction
      intro hn
      have := hall e he hn
      simp at this
    . simp [choose, Sem.run, Question.forced]
  . right
    have hne : L.isEmpty = false := by simp [Array.isEmpty, h0]
    simp only [hne, Bool.false_eq_true, if_false, Array.empty_append, Array.size_map]
    have hch : ∃ (j : Nat) (w1 : World), j < L.size /\ w1.heap = w.heap /\ w1.os = w.os /\ w1.tape = w.tape /\ w1.output = w.output /\ (choose (Question.mapNext L.size)).run P w = .ok j w1 := by
     by_cases hf : L.size <= 1
     . exact ⟨0, w, by omega, rfl, rfl, rfl, rfl, by simp [choose, Sem.run, Question.forced, hf]⟩
     . exact ⟨_, { w with drawn := w.drawn + 1 }, Nat.mod_lt _ (by omega), rfl, rfl, rfl, rfl, by
        simp only [choose, Sem.run, Question.forced, decide_eq_true_eq, hf, if_false, Question.cut]
        rfl⟩
    obtain ⟨j, w1, hj, g1, g2, g3, g4, hrun⟩ := hch
    obtain ⟨_, m1, m2⟩ := hmem L[j] (by simp)
    refine ⟨L[j], m1, m2, { w1 with heap := w1.heap.setIfInBounds r (.mapIter (some bm) clock (seen.push L[j].born) clock) }, by rw [g1], g2, g3, g4, ?_⟩
    have hset : (setObj r (.mapIter (some bm) clock (seen.push L[j].born) clock)).run P w1 = .ok () { w1 with heap := w1.heap.setIfInBounds r (.mapIter (some bm) clock (seen.push L[j].born) clock) } := by
     simp [setObj, Sem.run, g1, hr]
    simp only [hrun, Array.getElem?_map, Array.getElem?_eq_getElem hj, Option.map_some, Sem.run_bind, hset, Result.andThen]
    rfl
section
variable {C : Ctx} {gt : GT} {go : GO} {o : Oper} {fresh : Nat} {R : List Loc} {v : Option SV} {os : List (Nat × Option SO)} {k : Nat}
theorem ztZ {t : TypeId} {x : Operand} (ho : o.op = .range t x) (ht : ∃ K E, C.P.underlying t = some (.map K E)) (h : (MO.rt C.toEnv fresh (.rngm (cX x))).Runs gt go R v os k) (hd : zau C o.dst v) :
 zaD C o fresh gt go v os k := by
  simp only [MO.rt] at h
  replace h := zap h
  obtain ⟨sx, R1, h, hx⟩ := h
  split at h
  case h_2 => cases h
  rename_i id
  cases h with
  | rO h =>
    dsimp only at h
    split at h
    case h_2 => cases h
    rename_i M es it hg
    cases h with
    | done =>
      intro β own S a w H hβ next Q hn
      obtain ⟨B, b, ents, clock, hB, hblk, ex, hown, hb, he, ⟨hnd, hbp, hbl⟩, hit⟩ := zhD H hg (hx H)
      obtain ⟨K, E, hT⟩ := ht
      have hf : β fresh = none := hβ fresh (Nat.le_refl _) (by omega)
      have hne : id ≠ fresh := fun e => by subst e; rw [hB] at hf; cases hf
      let w' := w.alloc (.mapIter (some b) clock #[] clock)
      have hlt : ∀ j, j < w.heap.size -> w'.heap[j]? = w.heap[j]? := fun j hj => by
       show (w.heap.push _)[j]? = _; rw [Array.getElem?_push, if_neg (by omega)]
      have hnew : w'.heap[w.heap.size]? = some (.mapIter (some b) clock #[] clock) := by
       show (w.heap.push _)[w.heap.size]? = _; simp
      let Br : zay := ⟨some w.heap.size, 0, 0⟩
      let β' := upd β fresh (some Br)
      let own' := upd (upd own id (fun x => own id x \/ x = w.heap.size)) fresh (fun _ => False)
      have x0 : Ext β w S β' w' S := ⟨fun i B' e => by
       by_cases hi : i = fresh
       . subst hi; rw [hf] at e; cases e
       . simp only [β']; rw [zab _ _ hi]; exact e, fun _ e => e, fun b hb => hlt b (H.mem.sz b hb)⟩
      have hgo : ∀ j, j ≠ id -> j ≠ fresh -> za0 go [(id, some (.map M es (some (fresh, es.map Prod.fst, none)))), (fresh, some (.itr id))] j = go j := fun j h1 h2 => by
       simp only [za0]; rw [zab _ _ h2, zab _ _ h1]
      have hgi : za0 go [(id, some (.map M es (some (fresh, es.map Prod.fst, none)))), (fresh, some (.itr id))] id = some (.map M es (some (fresh, es.map Prod.fst, none))) := by
       simp only [za0]; rw [zab _ _ hne, zac]
      have hgf : za0 go [(id, some (.map M es (some (fresh, es.map Prod.fst, none)))), (fresh, some (.itr id))] fresh = some (.itr id) := by
       simp only [za0]; rw [zac]
      have hoi : own' id = fun x => own id x \/ x = w.heap.size := by simp only [own']; rw [zab _ _ hne, zac]
      have hof : own' fresh = fun _ => False := zac _ _ _
      have hoo : ∀ j, j ≠ id -> j ≠ fresh -> own' j = own j := fun j h1 h2 => by simp only [own']; rw [zab _ _ h2, zab _ _ h1]
      have hltown : ∀ j, (go j).isSome -> ∀ b, own j b -> b < w.heap.size := fun j hj b hb => by
       obtain ⟨o', ho'⟩ := Option.isSome_iff_exists.1 hj
       obtain ⟨B', _, h2⟩ := H.mem.obj j o' ho'
       exact h2.lt b hb
      have hidsome : (go id).isSome := by simp [hg]
      have hm : zaw β' own' S (za0 go [(id, some (.map M es (some (fresh, es.map Prod.fst, none)))), (fresh, some (.itr id))]) w' := by
       refine ⟨fun j o' e => ?_, fun i j q hij hi hj => ?_, fun i q hi => ?_, fun q hq => ?_⟩
       . by_cases h1 : j = fresh
         . subst h1
           rw [hgf] at e; cases e
           exact ⟨Br, zac _ _ _, ⟨_, rfl, hof⟩, B, x0.ids _ _ hB⟩
         . by_cases h2 : j = id
           . subst h2
             rw [hgi] at e; cases e
             refine ⟨B, x0.ids _ _ hB, b, ents, clock, hblk, ⟨by rw [hoi]; exact .inl hown.1, fun y hy => ?_⟩, (hlt b (hltown _ hidsome b hown.1)).trans hb, zbJ x0 M _ _ he, ⟨hnd, hbp, hbl⟩, ?_⟩
             . rw [hoi] at hy
               rcases hy with hy | rfl
               . rw [hlt y (hltown _ hidsome y hy)]; exact hown.2 y hy
               . simp [hnew]
             . have hbs : b < w.heap.size := hltown _ hidsome b hown.1
               refine ⟨Br, w.heap.size, #[], zac _ _ _, rfl, by rw [hoi]; exact .inr rfl, by omega, hnew, fun i m k v h1 h2 => ?_, fun k e => by cases e⟩
               have hk : k ∈ es.map Prod.fst := List.mem_map.2 ⟨(k, v), List.mem_of_getElem? h2, rfl⟩
               exact ⟨fun h => by simp at h, fun h => absurd hk h⟩
           . rw [hgo j h2 h1] at e
             obtain ⟨B', q1, q2⟩ := H.mem.obj j o' e
             exact ⟨B', x0.ids _ _ q1, by rw [hoo j h2 h1]; exact q2.ext x0 (fun q hq => hlt q (q2.lt q hq))⟩
       . by_cases h1 : i = fresh
         . subst h1; rw [hof]; exact fun h => h.elim
         . by_cases h2 : j = fresh
           . subst h2; rw [hof]; exact fun _ h => h
           . have hi' : (go i).isSome := by
              by_cases h3 : i = id
              . subst h3; exact hidsome
              . rwa [hgo i h3 h1] at hi
             have hj' : (go j).isSome := by
              by_cases h3 : j = id
              . subst h3; exact hidsome
              . rwa [hgo j h3 h2] at hj
             have old := H.mem.sep i j q hij hi' hj'
             by_cases h3 : i = id
             . subst h3
               rw [hoi, hoo j (fun e => hij e.symm) h2]
               rintro (e | rfl) e'
               . exact old e e'
               . exact absurd (hltown j hj' _ e') (Nat.lt_irrefl _)
             . rw [hoo i h3 h1]
               by_cases h4 : j = id
               . subst h4
                 rw [hoi]
                 rintro e (e' | rfl)
                 . exact old e e'
                 . exact absurd (hltown i hi' _ e) (Nat.lt_irrefl _)
               . rw [hoo j h4 h2]; exact old
       . by_cases h1 : i = fresh
         . subst h1; rw [hof]; exact fun h => h.elim
         . by_cases h3 : i = id
           . subst h3
             rw [hoi]
             rintro (e | rfl) hs
             . exact H.mem.st i q hidsome e hs
             . exact absurd (H.mem.sz _ hs) (Nat.lt_irrefl _)
           . rw [hoo i h3 h1]
             exact H.mem.st i q (by rwa [hgo i h3 h1] at hi)
       . have := H.mem.sz q hq
         show q < (w.heap.push _).size
         simp; omega
      have hrun : (execOp a.eval o).run C.P w = .ok (.value (.pointer (some ⟨w.heap.size, 0, none⟩))) w' := by
       have := run_range_map (P := C.P) w t K E b ents clock hT hb
       simp [execOp, ho, ex, this, w']
      refine zbU (by simp [ho]) hrun (hn β' own' S _ w' (fun i hi => zab _ _ (fun e => hi (by omega))) ?_)
      refine H.step x0 hm ⟨rfl, rfl, rfl, by show w.heap.size <= (w.heap.push _).size; simp, fun k hk _ => hlt k hk⟩ (fun i q e1 e2 => ?_) (fun q e => .inl e) o.dst _ _ (zcd hd (fun s' e => ?_)) (zbw hd gt)
      . by_cases h1 : i = fresh
        . subst h1; rw [hof] at e2; exact e2.elim
        . by_cases h3 : i = id
          . subst h3
            rw [hoi] at e2
            rcases e2 with e2 | rfl
            . exact .inl ⟨i, hidsome, e2⟩
            . exact .inr (Nat.le_refl _)
          . rw [hgo i h3 h1] at e1
            rw [hoo i h3 h1] at e2
            exact .inl ⟨i, e1, e2⟩
      . cases e
        simp only [rel]
        exact ⟨Br, w.heap.size, zac _ _ _, rfl, by simp⟩
theorem zwZ {x : Operand} (ho : o.op = .entry x) (h : (MO.rt C.toEnv fresh (.ent (cX x))).Runs gt go R v os k) (hd : zau C o.dst v) : zaD C o fresh gt go v os k := by
 simp only [MO.rt] at h
 replace h := zap h
 obtain ⟨sx, R1, h, hx⟩ := h
 split at h
 case h_2 => cases h
 rename_i rid idx sub
 cases h with
 | rO h =>
   dsimp only at h
   split at h
   case h_2 => cases h
   rename_i id hi
   cases h with
   | rO h =>
     dsimp only at h
     split at h
     case h_2 => cases h
     rename_i M es it hg
     split at h
     case h_2 => cases h
     rename_i rid' left cur
     split at h
     case h_2 => cases h
     rename_i kk
     unfold eqN at h
     split at h
     case h_2 => cases h
     rename_i hbq
     have hrr := Nat.eq_of_beq_eq_true hbq
     subst hrr
     cases h with
     | req hp h =>
       obtain ⟨rfl, rfl⟩ := hp
       obtain ⟨rfl, rfl, rfl⟩ := zat h
       refine zaJ (by simp [ho]) hd fun {β own S a w} H => ?_
       have hpr := hx H
       simp only [rel] at hpr
       obtain ⟨Br, r, hBr, hr, he⟩ := hpr
       obtain ⟨B, hB, b, ents, clock, hblk, hown, hb, hrel, ⟨hnd, hbp, hbl⟩, B', r', seen, q1, q2, q3, q4, q5, q6, q7⟩ := H.mem.obj _ _ hg
       rw [hBr] at q1; cases q1
       rw [hr] at q2; cases q2
       obtain ⟨i, m, v, h1, h2, h3⟩ := q7 kk rfl
       have he' : a.eval x = .pointer (some ⟨r, 0, none⟩) := by rw [he]; simp
       obtain ⟨m', hm', hkr, hvr⟩ := zce hrel i kk v h2
       rw [h1] at hm'; cases hm'
       have hnb : (ents.toList.map (·.born)).Nodup := hbp.imp (fun h => Nat.ne_of_lt h)
       have hfind : ents.find? (fun e => e.born == m.born) = some m := by
        rw [<- Array.find?_toList]
        exact find_born m ents.toList hnb (List.mem_of_getElem? h1)
       have hag : zaf M kk es = v := by
        unfold zaf
        rw [zef]
        cases hp : zao M kk es with
        | none => exact absurd (List.mem_map.2 ⟨(kk, v), List.mem_of_getElem? h2, rfl⟩) ((zc8 M kk es).1 hp)
        | some j =>
          obtain ⟨v0, hj⟩ := zcn hp
          have e1 : (es.map (·.1))[i]? = some kk := by simp [h2]
          have e2 : (es.map (·.1))[j]? = some kk := by simp [hj]
          have := (List.getElem?_inj (List.getElem?_eq_some_iff.1 e1).1 hnd).1 (e1.trans e2.symm)
          subst this
          simp [h2]
       refine ⟨.tuple #[m.key, m.val], ?_, ?_⟩
       . have hrun : (Instr.entry (.pointer (some ⟨r, 0, none⟩))).run C.P w = .ok (.tuple #[m.key, m.val]) w := by
          simp only [Instr.entry, getObj, Sem.run_bind, Sem.run, q5, hb, Result.andThen, h3, hfind, bne_self_eq_false, Bool.false_eq_true, if_false]
          rfl
         simp [execOp, ho, he', hrun]
       . simp only [rel, zam]
         exact ⟨_, rfl, _, _, rfl, hkr, _, _, rfl, by rw [hag]; exact hvr, rfl⟩
end
end Go.Sx
