/- Part 4 of 11 of a proof of the law AllocMore: what the last part leans on. -/
import Derived.Test.YtlahifihaeafbaaGreatDoorZc
import Derived.IntWalk
set_option linter.all false
set_option maxRecDepth 100000
namespace Go.Sx
open Go
def keyM (M : MapTy) : MapTy := { M with vone := true, ev := fun _ => [] }
theorem posK_keyM {M : MapTy} {k : M.κ} : ∀ {es : List (M.κ × M.ν)}, posK (keyM M) k es = posK M k es
 | [] => rfl
 | (j, v) :: es => by
   simp only [posK, posK_keyM (es := es)]
   cases h : M.deq j k with
   | isTrue e => have h' : (keyM M).deq j k = .isTrue e := h; rw [h']
   | isFalse e => have h' : (keyM M).deq j k = .isFalse e := h; rw [h']
section
variable {β : Nat -> Option Base} {w : World} {S : Nat -> Prop} {M : MapTy} {V V' : M.κ -> M.ν -> MapEntry -> Prop}
theorem relF_keys : ∀ {es : List (M.κ × M.ν)} {l : List MapEntry}, relF β w S M V es l -> relE β w S (keyM M) es l
 | [], l, h => h
 | (k, v) :: es, l, h => by
   obtain ⟨m, r, rfl, h1, h2, h3⟩ := h
   exact ⟨m, r, rfl, h1, by simp [keyM, svOf, rel], relF_keys h3⟩
theorem relF_relE {es0 : List (M.κ × M.ν)} (hV : ∀ k v m, (k, v) ∈ es0 -> V k v m -> rel β w S (svOf M.vone (M.ev v)) m.val) : ∀ {es : List (M.κ × M.ν)} {l : List MapEntry}, (∀ x ∈ es, x ∈ es0) -> relF β w S M V es l -> relE β w S M es l
 | [], l, _, h => h
 | (k, v) :: es, l, hs, h => by
   obtain ⟨m, r, rfl, h1, h2, h3⟩ := h
   exact ⟨m, r, rfl, h1, hV _ _ _ (hs _ (by simp)) h2, relF_relE hV (fun x hx => hs x (by simp [hx])) h3⟩
theorem relF_at : ∀ {es : List (M.κ × M.ν)} {l : List MapEntry}, relF β w S M V es l -> ∀ (i : Nat) (k : M.κ) (v : M.ν), es[i]? = some (k, v) -> ∃ m : MapEntry, l[i]? = some m ∧ rel β w S (svOf M.one (M.ek k)) m.key ∧ V k v m
 | [], l, h, i, k, v, e => by simp at e
 | (k0, v0) :: es, l, h, i, k, v, e => by
   obtain ⟨m, r, rfl, h1, h2, h3⟩ := h
   cases i with
   | zero => simp at e; obtain ⟨rfl, rfl⟩ := e; exact ⟨m, rfl, h1, h2⟩
   | succ i => simpa using relF_at h3 i k v (by simpa using e)
theorem relF_imp : ∀ {es : List (M.κ × M.ν)} {l : List MapEntry}, (∀ k v m, k ∈ es.map (·.1) -> V k v m -> V' k v m) -> relF β w S M V es l -> relF β w S M V' es l
 | [], l, _, h => h
 | (k0, v0) :: es, l, hV, h => by
   obtain ⟨m, r, rfl, h1, h2, h3⟩ := h
   exact ⟨m, r, rfl, h1, hV _ _ _ (by simp) h2, relF_imp (fun k v m hk => hV k v m (by simp only [List.map, List.mem_cons]; exact .inr hk)) h3⟩
theorem relF_put {k : M.κ} {v : M.ν} {key val : Value} (hk : rel β w S (svOf M.one (M.ek k)) key) : ∀ {es : List (M.κ × M.ν)} {l : List MapEntry} {i : Nat}, (es.map (·.1)).Nodup →
 (∀ k' v' m, k' ∈ es.map (·.1) -> k' ≠ k -> V k' v' m -> V' k' v' m) -> (∀ v0 m, V k v0 m -> V' k v { m with key := key, val := val }) -> relF β w S M V es l -> posK M k es = some i →
 relF β w S M V' (aput M k v es) (l.modify i fun e => { e with key := key, val := val })
  | [], l, i, _, _, _, h, e => by simp [posK] at e
  | (j, u) :: es, l, i, hnd, h1, h2, h, e => by
    obtain ⟨m, r, rfl, q1, q2, q3⟩ := h
    simp only [List.map, List.nodup_cons] at hnd
    simp only [posK] at e
    simp only [aput]
    cases ej : M.deq j k with
    | isTrue h' =>
      rw [ej] at e
      simp at e
      subst e
      subst h'
      refine ⟨{ m with key := key, val := val }, r, by simp, hk, h2 _ _ q2, relF_imp (fun k' v' m' hk' => h1 k' v' m' (by simp only [List.map, List.mem_cons]; exact .inr hk') (fun e => hnd.1 (e ▸ hk'))) q3⟩
    | isFalse h' =>
      rw [ej] at e
      simp at e
      obtain ⟨i', e, rfl⟩ := e
      exact ⟨m, _, by simp, q1, h1 _ _ _ (by simp) h' q2, relF_put hk hnd.2 (fun k' v' m' hk' => h1 k' v' m' (by simp only [List.map, List.mem_cons]; exact .inr hk')) h2 q3 e⟩
theorem relF_push {k : M.κ} {v : M.ν} {m : MapEntry} (hk : rel β w S (svOf M.one (M.ek k)) m.key) (hm : V' k v m) : ∀ {es : List (M.κ × M.ν)} {l : List MapEntry}, (∀ k' v' m, k' ∈ es.map (·.1) -> k' ≠ k -> V k' v' m -> V' k' v' m) →
 relF β w S M V es l -> posK M k es = none -> relF β w S M V' (aput M k v es) (l ++ [m])
  | [], l, _, h, e => by
    simp only [relF] at h
    subst h
    exact ⟨m, [], rfl, hk, hm, rfl⟩
  | (j, u) :: es, l, h1, h, e => by
    obtain ⟨m', r, rfl, q1, q2, q3⟩ := h
    simp only [posK] at e
    simp only [aput]
    cases ej : M.deq j k with
    | isTrue h' => rw [ej] at e; simp at e
    | isFalse h' =>
      rw [ej] at e
      simp at e
      exact ⟨m', _, by simp, q1, h1 _ _ _ (by simp) h' q2, relF_push hk hm (fun k' v' m' hk' => h1 k' v' m' (by simp only [List.map, List.mem_cons]; exact .inr hk')) q3 e⟩
theorem born_mod (f : MapEntry -> MapEntry) (hf : ∀ m, (f m).born = m.born) (l : List MapEntry) (i : Nat) : (l.modify i f).map (·.born) = l.map (·.born) := by
 induction l generalizing i with
 | nil => cases i <;> simp
 | cons m l ih => cases i with
   | zero => simp [hf]
   | succ i => simp [ih]
end
theorem gm_get {P : Program} {w : World} {r : Nat} {es : Array MapEntry} {clock : Nat} (hb : w.heap[r]? = some (.map es clock)) : (getObj r).run P w = .ok (.map es clock) w := by
 simp [getObj, Sem.run, hb]
theorem gm_set {P : Program} {w : World} {r : Nat} {es : Array MapEntry} {clock : Nat} (o : Obj) (hb : w.heap[r]? = some (.map es clock)) : (setObj r o).run P w = .ok () { w with heap := w.heap.setIfInBounds r o } := by
 simp [setObj, Sem.run, hb]
theorem gm_zero {P : Program} {w : World} {E : TypeId} {i : TypeInfo} {z : Value} (hi : P.info? E = some i) (hz : i.zero = some z) : (zeroValue E).run P w = .ok z w := by
 simp [zeroValue, run_typeInfo w hi, hz]
theorem posK_lt {M : MapTy} {key : M.κ} : ∀ {es : List (M.κ × M.ν)} {j : Nat}, posK M key es = some j -> ∃ v0, es[j]? = some (key, v0)
 | [], j, h => by simp [posK] at h
 | (y, u) :: es, j, h => by
   simp only [posK] at h
   cases e : M.deq y key with
   | isTrue h' => rw [e] at h; simp at h; subst h; exact ⟨u, by simp [h']⟩
   | isFalse h' =>
     rw [e] at h
     simp at h
     obtain ⟨j', h, rfl⟩ := h
     simpa using posK_lt h
section runs
variable {P : Program} {T K E : TypeId} {i : TypeInfo} {zv : Value} {M : MapTy} {β : Nat -> Option Base} {w : World} {S : Nat -> Prop} {b : Nat} {ents : Array MapEntry} {clock : Nat} {es : List (M.κ × M.ν)}
theorem run_lookupK (hT : P.underlying T = some (.map K E)) (hK : KeyOk P K M.one M.ks) (hi : P.info? E = some i) (hz : i.zero = some zv) (hb : w.heap[b]? = some (.map ents clock)) (he : relE β w S (keyM M) es ents.toList) (key : M.κ) :
 ∃ x, (Instr.lookup T (.map (some b)) (keyV M.one (M.ek key)) false).run P w = .ok x w ∧ (posK M key es = none -> x = zv) ∧ ∀ j m, posK M key es = some j -> ents.toList[j]? = some m -> x = m.val := by
  have hf := run_findKeyF (M := keyM M) hK key he (w := w)
  rw [posK_keyM] at hf
  have hc := hK.check (ents.isEmpty) w (M.ekk key)
  cases hp : posK M key es with
  | none =>
    rw [hp] at hf
    exact ⟨zv, by
     have hf : (Instr.findKey K (keyV M.one (M.ek key)) ents.toList).run P w = .ok none w := hf
     simp [Instr.lookup, run_underlying hT, gm_get hb, hc, hf, gm_zero hi hz], (fun _ => rfl), (fun j m e => by cases e)⟩
  | some j =>
    rw [hp] at hf
    obtain ⟨v0, hj⟩ := posK_lt hp
    obtain ⟨m, hm, _, hv⟩ := relE_at he j key v0 hj
    simp only [Option.bind_some, hm, Option.map_some] at hf
    refine ⟨m.val, ?_, (fun e => by cases e), fun j' m' e1 e2 => ?_⟩
    . have hf : (Instr.findKey K (keyV M.one (M.ek key)) ents.toList).run P w = .ok (some (j, m.val)) w := hf
      simp [Instr.lookup, run_underlying hT, gm_get hb, hc, hf]
    . cases e1
      rw [hm] at e2
      cases e2; rfl
theorem run_updateK (hT : P.underlying T = some (.map K E)) (hK : KeyOk P K M.one M.ks) (hb : w.heap[b]? = some (.map ents clock)) (he : relE β w S (keyM M) es ents.toList) (key : M.κ) (x : Value) :
 (posK M key es = none -> (Instr.mapUpdate T (.map (some b)) (keyV M.one (M.ek key)) x).run P w = .ok () { w with heap := w.heap.setIfInBounds b (.map (ents.push { key := keyV M.one (M.ek key), val := x, born := clock }) (clock + 1)) }) ∧
 ∀ j, posK M key es = some j -> (Instr.mapUpdate T (.map (some b)) (keyV M.one (M.ek key)) x).run P w = .ok () { w with heap := w.heap.setIfInBounds b (.map (ents.modify j fun e => { e with key := keyV M.one (M.ek key), val := x }) clock) } := by
  have hf := run_findKeyF (M := keyM M) hK key he (w := w)
  rw [posK_keyM] at hf
  have hc := hK.check false w (M.ekk key)
  refine ⟨fun hp => ?_, fun j hp => ?_⟩
  . rw [hp] at hf
    have hf : (Instr.findKey K (keyV M.one (M.ek key)) ents.toList).run P w = .ok none w := hf
    simp [Instr.mapUpdate, run_underlying hT, gm_get hb, hc, hf, gm_set _ hb]
  . rw [hp] at hf
    obtain ⟨v0, hj⟩ := posK_lt hp
    obtain ⟨m, hm, hmk, _⟩ := relE_at he j key v0 hj
    have hmk : m.key = keyV M.one (M.ek key) := (rel_key (M.ekk _) hK.len1 _).1 hmk
    simp only [Option.bind_some, hm, Option.map_some] at hf
    have hf : (Instr.findKey K (keyV M.one (M.ek key)) ents.toList).run P w = .ok (some (j, m.val)) w := hf
    have hstay : (Instr.keyThatStays m.key (keyV M.one (M.ek key))).run P w = .ok (keyV M.one (M.ek key)) w := by
     rw [hmk]
     simp [Instr.keyThatStays, sameBits_key (M.ekk key) hK.len1]
    have hej : ents[j]? = some m := by simpa using hm
    simp [Instr.mapUpdate, run_underlying hT, gm_get hb, hc, hf, hej, hstay, gm_set _ hb]
theorem run_entryK (hT : P.underlying T = some (.map K E)) (hK : KeyOk P K M.one M.ks) (hi : P.info? E = some i) (hz : i.zero = some zv) (hb : w.heap[b]? = some (.map ents clock)) (he : relE β w S (keyM M) es ents.toList) (key : M.κ) :
 (posK M key es = none -> (Instr.mapEntry T (.map (some b)) (keyV M.one (M.ek key))).run P w = .ok (.tuple #[zv, goInt clock]) { w with heap := w.heap.setIfInBounds b (.map (ents.push { key := keyV M.one (M.ek key), val := zv, born := clock }) (clock + 1)) }) ∧
 ∀ j m, posK M key es = some j -> ents.toList[j]? = some m -> (Instr.mapEntry T (.map (some b)) (keyV M.one (M.ek key))).run P w = .ok (.tuple #[m.val, goInt m.born]) { w with heap := w.heap.setIfInBounds b (.map (ents.modify j fun e => { e with key := keyV M.one (M.ek key) }) clock) } := by
  have hf := run_findKeyF (M := keyM M) hK key he (w := w)
  rw [posK_keyM] at hf
  have hc := hK.check false w (M.ekk key)
  refine ⟨fun hp => ?_, fun j m hp hm' => ?_⟩
  . rw [hp] at hf
    have hf : (Instr.findKey K (keyV M.one (M.ek key)) ents.toList).run P w = .ok none w := hf
    simp [Instr.mapEntry, run_underlying hT, gm_get hb, hc, hf, gm_set _ hb, gm_zero hi hz]
  . rw [hp] at hf
    obtain ⟨v0, hj⟩ := posK_lt hp
    obtain ⟨m, hm, hmk, _⟩ := relE_at he j key v0 hj
    rw [hm] at hm'; cases hm'
    have hmk : m.key = keyV M.one (M.ek key) := (rel_key (M.ekk _) hK.len1 _).1 hmk
    simp only [Option.bind_some, hm, Option.map_some] at hf
    have hf : (Instr.findKey K (keyV M.one (M.ek key)) ents.toList).run P w = .ok (some (j, m.val)) w := hf
    have hstay : (Instr.keyThatStays m.key (keyV M.one (M.ek key))).run P w = .ok (keyV M.one (M.ek key)) w := by
     rw [hmk]
     simp [Instr.keyThatStays, sameBits_key (M.ekk key) hK.len1]
    have hej : ents[j]? = some m := by simpa using hm
    simp [Instr.mapEntry, run_underlying hT, gm_get hb, hc, hf, hej, hstay, gm_set _ hb]
theorem run_entryStoreK (hb : w.heap[b]? = some (.map ents clock)) {j : Nat} {m : MapEntry} (hm : ents.toList[j]? = some m) (hbp : (ents.toList.map (·.born)).Pairwise (· < ·)) (x : Value) :
 (Instr.entryStore T (.map (some b)) (.int .i64 m.born) x).run P w = .ok () { w with heap := w.heap.setIfInBounds b (.map (ents.modify j fun e => { e with val := x }) clock) } := by
  have hj : ents.findIdx? (fun e => (e.born : Int) == (m.born : Int)) = some j := by
   rw [Array.findIdx?_eq_some_iff_getElem]
   have hlt : j < ents.toList.length := (List.getElem?_eq_some_iff.1 hm).1
   have hmj : ents.toList[j] = m := (List.getElem?_eq_some_iff.1 hm).2
   simp only [Array.length_toList] at hlt
   have hmj' : ents[j] = m := by simpa using hmj
   refine ⟨hlt, by rw [hmj']; simp, fun q hq => ?_⟩
   have := List.pairwise_iff_getElem.1 hbp q j (by simp; omega) (by simpa using hlt) hq
   simp only [List.getElem_map, Array.getElem_toList, hmj'] at this
   simp
   omega
  simp [Instr.entryStore, gm_get hb, hj, asInt, asIntOf, gm_set _ hb]
end runs
end Go.Sx
namespace Go.Sx
open Go
open Classical in
noncomputable def updK {κ α : Type _} (G : κ -> α) (k : κ) (a : α) : κ -> α := fun k' => if k' = k then a else G k'
theorem updK_same {κ α : Type _} (G : κ -> α) (k : κ) (a : α) : updK G k a k = a := if_pos rfl
theorem updK_other {κ α : Type _} (G : κ -> α) {k k' : κ} (a : α) (h : k' ≠ k) : updK G k a k' = G k' := if_neg h
theorem subOk_obj {β w S B F} {y : Sub} : SubOk w S B F y ↔ ObjOk β w S B F y.so := by
 cases y with
 | vec s L => exact Iff.rfl
 | map M es =>
   constructor
   . rintro ⟨b, ents, clock, h1, h2, h3, h4, h5⟩
     exact ⟨b, ents, clock, h1, h2, h3, relE_any (fun _ e => e) h4, h5, trivial⟩
   . rintro ⟨b, ents, clock, h1, h2, h3, h4, h5, _⟩
     exact ⟨b, ents, clock, h1, h2, h3, relE_any (fun _ e => e) h4, h5⟩
def hndSV (id : Nat) : Sub -> SV
 | .vec _ L => .slc id 0 L.length
 | .map _ _ => .mp id
theorem hnd_rel {β w S B} {y : Sub} {v : Value} {id : Nat} (hB : β id = some B) (h : Hnd B y v) : rel β w S (hndSV id y) v := by
 cases y with
 | vec s L => exact ⟨B, hB, h⟩
 | map M es => obtain ⟨b, h1, h2⟩ := h; exact ⟨B, b, hB, h1, h2⟩
theorem aget_pos {M : MapTy} {key : M.κ} {es : List (M.κ × M.ν)} {j : Nat} (h : posK M key es = some j) : es[j]? = some (key, agetD M key es) := by
 obtain ⟨v0, hj⟩ := posK_lt h
 rw [agetD, posK_aget, h]
 simp [hj]
theorem aget_none {M : MapTy} {key : M.κ} {es : List (M.κ × M.ν)} (h : posK M key es = none) : agetD M key es = M.d := by
 rw [agetD, posK_aget, h]; rfl
theorem aget_some {M : MapTy} {key : M.κ} {es : List (M.κ × M.ν)} : (aget M key es).isSome = true ↔ ∃ j, posK M key es = some j := by
 rw [posK_aget]
 cases h : posK M key es with
 | none => simp
 | some j => obtain ⟨v0, hj⟩ := posK_lt h; simp [hj]
theorem pos_mem {M : MapTy} {key : M.κ} {es : List (M.κ × M.ν)} {j : Nat} (h : posK M key es = some j) : key ∈ es.map (·.1) := by
 obtain ⟨v0, hj⟩ := posK_lt h
 exact List.mem_map.2 ⟨(key, v0), List.mem_of_getElem? hj, rfl⟩
section
variable {β : Nat -> Option Base} {own : Nat -> Nat -> Prop} {S : Nat -> Prop} {go : GO} {w : World} {M : MapTy} {sub : M.ν -> Sub} {es : List (M.κ × M.ν)}
theorem MemOk.take (h : MemOk β own S go w) {id : Nat} (hg : go id = some (.fam M sub es none)) {B : Base} {b : Nat} (hB : β id = some B) (hb : B.blk = some b) {ents : Array MapEntry} {clock : Nat} (he : w.heap[b]? = some (.map ents clock))
 {key : M.κ} {fresh : Nat} (hf : β fresh = none) {g : Option Nat} (hgn : ∀ i, g = some i -> ∃ Bg, β i = some Bg ∧ ∀ j m, posK M key es = some j -> ents.toList[j]? = some m -> Bg.str = m.born)
 (hz : posK M key es = none -> ∃ s, sub (agetD M key es) = .vec s []) :
 ∃ B0 F0, MemOk (upd β fresh (some B0)) (upd (upd own id (fun x => own id x ∧ ¬ F0 x)) fresh F0) S (upd (upd go id (some (.fam M sub es (some (key, fresh, g))))) fresh (some (sub (agetD M key es)).so)) w ∧
  Ext β w S (upd β fresh (some B0)) w S ∧ (∀ x, F0 x -> own id x) ∧
  ∀ v, ((posK M key es = none ∧ v = .slice none 0 0) ∨ (∃ j m, posK M key es = some j ∧ ents.toList[j]? = some m ∧ v = m.val)) -> Hnd B0 (sub (agetD M key es)) v := by
  obtain ⟨B', hB', b', ents', clock', h1, ⟨h2, h2'⟩, h3, h4, G, h5, h6⟩ := h.obj _ _ hg
  rw [hB] at hB'; cases hB'
  rw [hb] at h1; cases h1
  rw [he] at h3; cases h3
  have hne : fresh ≠ id := fun e => by subst e; rw [hf] at hB; cases hB
  have hfg : go fresh = none := by
   cases e : go fresh with
   | none => rfl
   | some o => obtain ⟨B', q, _⟩ := h.obj _ _ e; rw [hf] at q; cases q
  obtain ⟨B0, F0, t1, t2, t3, t4⟩ : ∃ (B0 : Base) (F0 : Nat -> Prop), SubOk w S B0 F0 (sub (agetD M key es)) ∧ (∀ x, F0 x -> own id x ∧ x ≠ b) ∧ (∀ k, k ∈ es.map (·.1) -> k ≠ key -> ∀ x, (G k).2 x -> ¬ F0 x) ∧
   ∀ v, ((posK M key es = none ∧ v = .slice none 0 0) ∨ (∃ j m, posK M key es = some j ∧ ents.toList[j]? = some m ∧ v = m.val)) -> Hnd B0 (sub (agetD M key es)) v := by
    cases hp : posK M key es with
    | none =>
      obtain ⟨s, hs⟩ := hz hp
      rw [hs]
      refine ⟨⟨none, s, 0⟩, fun _ => False, .inl ⟨rfl, rfl, rfl, rfl, rfl⟩, fun x hx => hx.elim, fun _ _ _ _ _ hx => hx, fun v hv => ?_⟩
      rcases hv with ⟨_, rfl⟩ | ⟨j, m, e, _⟩
      . simp [Hnd, slcRel]
      . cases e
    | some j =>
      obtain ⟨m, hm, hk, hv⟩ := relF_at h5 j key _ (aget_pos hp)
      obtain ⟨_, hv⟩ := hv
      obtain ⟨q1, q2, q3⟩ := hv (fun _ _ e => by cases e)
      refine ⟨(G key).1, (G key).2, q2, q3, fun k hk hne x hx hx' => h6 k key hk (pos_mem hp) hne (fun _ _ e => by cases e) (fun _ _ e => by cases e) x hx hx', fun v hv => ?_⟩
      rcases hv with ⟨e, _⟩ | ⟨j', m', e, e', rfl⟩
      . cases e
      . cases e; rw [hm] at e'; cases e'; exact q1
  have x : Ext β w S (upd β fresh (some B0)) w S := ⟨fun i B' e => by
   by_cases hi : i = fresh
   . subst hi; rw [hf] at e; cases e
   . rw [upd_other _ _ hi]; exact e, fun _ e => e, fun _ _ => rfl⟩
  refine ⟨B0, F0, ⟨fun i o e => ?_, fun i j c hij hi hj hc => ?_, fun i c hi hc => ?_, h.sz⟩, x, fun y hy => (t2 y hy).1, t4⟩
  . by_cases hi : i = fresh
    . subst hi
      simp only [upd_same, Option.some.injEq] at e ⊢
      subst e
      exact ⟨B0, rfl, subOk_obj.1 t1⟩
    . rw [upd_other _ _ hi] at e ⊢
      rw [upd_other _ _ hi]
      by_cases hi2 : i = id
      . obtain ⟨ID, hID⟩ : ∃ ID, ID = i := ⟨i, rfl⟩
        subst hi2
        subst hID
        simp only [upd_same, Option.some.injEq] at e ⊢
        subst e
        refine ⟨B, hB, b, ents, clock, hb, ⟨⟨h2, fun q => (t2 _ q).2 rfl⟩, fun y hy => h2' y hy.1⟩, he, h4, G, ?_, fun k k' hk hk' hkk _ _ => h6 k k' hk hk' hkk (fun _ _ e => by cases e) (fun _ _ e => by cases e)⟩
        have key2 : ∀ (i : Nat) k v m, es[i]? = some (k, v) -> ents.toList[i]? = some m -> famV β w S M sub G (own ID) b none k v m →
         famV (upd β fresh (some B0)) w S M sub G (fun x => own ID x ∧ ¬ F0 x) b (some (key, fresh, g)) k v m := by
          intro i k v m e1 e2 ⟨_, hv⟩
          have hi : posK M key es = some i -> k = key := fun e => by have := aget_pos e; rw [e1] at this; cases this; rfl
          have hpk : k = key -> posK M key es = some i ∧ v = agetD M key es := fun e => by
           subst e
           cases hp : posK M k es with
           | none => exact absurd (List.mem_map.2 ⟨(k, v), List.mem_of_getElem? e1, rfl⟩) ((posK_mem M k es).1 hp)
           | some i' =>
             have := aget_pos hp
             have a1 : (es.map (·.1))[i]? = some k := by simp [e1]
             have a2 : (es.map (·.1))[i']? = some k := by simp [this]
             have : i' = i := (List.getElem?_inj (List.getElem?_eq_some_iff.1 a2).1 h4.1).1 (a2.trans a1.symm)
             subst this
             have := aget_pos hp
             rw [e1] at this
             cases this
             exact ⟨rfl, rfl⟩
          refine ⟨fun j g' e => ?_, fun e => ?_⟩
          . simp only [Option.some.injEq, Prod.mk.injEq] at e
            obtain ⟨rfl, rfl, rfl⟩ := e
            obtain ⟨hp, rfl⟩ := hpk rfl
            refine ⟨⟨B0, upd_same _ _ _, t4 _ (.inr ⟨i, m, hp, e2, rfl⟩)⟩, fun q hq => ?_⟩
            obtain ⟨Bg, r1, r2⟩ := hgn q hq
            exact ⟨Bg, x.ids _ _ r1, r2 i m hp e2⟩
          . obtain ⟨r1, r2, r3⟩ := hv (fun _ _ e => by cases e)
            have hkn : k ≠ key := fun e' => e fresh g (by rw [e'])
            exact ⟨r1, r2, fun y hy => ⟨⟨(r3 y hy).1, t3 k (List.mem_map.2 ⟨(k, v), List.mem_of_getElem? e1, rfl⟩) hkn y hy⟩, (r3 y hy).2⟩⟩
        have all : ∀ (es' : List (M.κ × M.ν)) (l : List MapEntry), (∀ (i : Nat) (k : M.κ) (v : M.ν) (m : MapEntry), es'[i]? = some (k, v) -> l[i]? = some m -> famV β w S M sub G (own ID) b none k v m →
         famV (upd β fresh (some B0)) w S M sub G (fun x => own ID x ∧ ¬ F0 x) b (some (key, fresh, g)) k v m) -> relF β w S M (famV β w S M sub G (own ID) b none) es' l →
         relF (upd β fresh (some B0)) w S M (famV (upd β fresh (some B0)) w S M sub G (fun x => own ID x ∧ ¬ F0 x) b (some (key, fresh, g))) es' l := by
          intro es'
          induction es' with
          | nil => intro l _ h; exact h
          | cons p es' ih =>
            obtain ⟨k, v⟩ := p
            rintro l hall ⟨m, r, rfl, q1, q2, q3⟩
            exact ⟨m, r, rfl, rel_ext x _ _ q1, hall 0 k v m rfl rfl q2, ih r (fun i k v m e1 e2 => hall (i + 1) k v m (by simpa using e1) (by simpa using e2)) q3⟩
        exact all es ents.toList key2 h5
      . rw [upd_other _ _ hi2] at e ⊢
        obtain ⟨B', q1, q2⟩ := h.obj _ _ e
        exact ⟨B', q1, q2.ext x (fun _ _ => rfl)⟩
  . -- apart
    have old : ∀ q, q ≠ fresh -> (upd (upd go id (some (.fam M sub es (some (key, fresh, g))))) fresh (some (sub (agetD M key es)).so) q).isSome -> ∀ z, upd (upd own id (fun x => own id x ∧ ¬ F0 x)) fresh F0 q z -> (go q).isSome ∧ own q z ∧ (q = id -> ¬ F0 z) := by
     intro q hq hs z hz
     rw [upd_other _ _ hq] at hs hz
     by_cases e : q = id
     . subst e; rw [upd_same] at hz; exact ⟨by simp [hg], hz.1, fun _ => hz.2⟩
     . rw [upd_other _ _ e] at hs hz; exact ⟨hs, hz, fun e' => absurd e' e⟩
    intro hc'
    by_cases e1 : i = fresh
    . subst e1
      rw [upd_same] at hc
      have e2 : j ≠ i := fun e => hij e.symm
      obtain ⟨r1, r2, r3⟩ := old j e2 hj c hc'
      by_cases e3 : j = id
      . exact r3 e3 hc
      . exact h.sep j id c e3 r1 (by simp [hg]) r2 (t2 c hc).1
    . by_cases e2 : j = fresh
      . subst e2
        rw [upd_same] at hc'
        obtain ⟨r1, r2, r3⟩ := old i e1 hi c hc
        by_cases e3 : i = id
        . exact r3 e3 hc'
        . exact h.sep i id c e3 r1 (by simp [hg]) r2 (t2 c hc').1
      . obtain ⟨r1, r2, _⟩ := old i e1 hi c hc
        obtain ⟨r4, r5, _⟩ := old j e2 hj c hc'
        exact h.sep i j c hij r1 r4 r2 r5
  . by_cases e1 : i = fresh
    . subst e1
      rw [upd_same] at hc
      exact h.st id c (by simp [hg]) (t2 c hc).1
    . rw [upd_other _ _ e1] at hi hc
      by_cases e2 : i = id
      . subst e2; rw [upd_same] at hc; exact h.st i c (by simp [hg]) hc.1
      . rw [upd_other _ _ e2] at hi hc; exact h.st i c hi hc
theorem modify_congr {f f' : MapEntry -> MapEntry} : ∀ {l : List MapEntry} {i : Nat}, (∀ m, l[i]? = some m -> f m = f' m) -> l.modify i f = l.modify i f'
 | [], i, _ => by cases i <;> rfl
 | m :: l, 0, h => by simp [h m rfl]
 | m :: l, i + 1, h => by
   have := modify_congr (f := f) (f' := f') (l := l) (i := i) (fun m' hm => h m' (by simpa using hm))
   simp [this]
theorem MemOk.fput (h : MemOk β own S go w) {id : Nat} {hh : Option (M.κ × Nat × Option Nat)} (hg : go id = some (.fam M sub es hh)) {B : Base} {b : Nat} (hB : β id = some B) (hb : B.blk = some b) {ents : Array MapEntry} {clock : Nat} (he : w.heap[b]? = some (.map ents clock))
 {key : M.κ} (hole : holeAt hh key) {j : Nat} {x : M.ν} (hj : go j = some (sub x).so) {Bj : Base} (hBj : β j = some Bj) {kv val : Value} (hkv : rel β w S (svOf M.one (M.ek key)) kv) (hval : Hnd Bj (sub x) val) {w' : World} {ents' : Array MapEntry} {clock' : Nat}
 (hents : (posK M key es = none ∧ ents'.toList = ents.toList ++ [{ key := kv, val := val, born := clock }] ∧ clock' = clock + 1) ∨ ∃ i, posK M key es = some i ∧ ents'.toList = (ents.toList.modify i fun e => { e with key := kv, val := val }) ∧ clock' = clock)
 (hw1 : w'.heap[b]? = some (.map ents' clock')) (hw2 : ∀ y, y ≠ b -> w'.heap[y]? = w.heap[y]?) (hw3 : w'.heap.size = w.heap.size) :
 MemOk β (upd own id (fun y => own id y ∨ own j y)) S (upd (upd go id (some (.fam M sub (aput M key x es) none))) j none) w' ∧ own id b := by
  obtain ⟨B', hB', b', ents0, clock0, h1, ⟨h2, h2'⟩, h3, ⟨h4, h4', h4''⟩, G, h5, h6⟩ := h.obj _ _ hg
  rw [hB] at hB'; cases hB'
  rw [hb] at h1; cases h1
  rw [he] at h3; cases h3
  have hjid : j ≠ id := fun e => by
   subst e; rw [hg] at hj
   have := Option.some.inj hj
   cases hs : sub x <;> rw [hs] at this <;> simp [Sub.so] at this
  have hsj : (go j).isSome := by simp [hj]
  have hsi : (go id).isSome := by simp [hg]
  have nb : ∀ i, i ≠ id -> (go i).isSome -> ¬ own i b := fun i hi hs hc => h.sep i id b hi hs hsi hc h2
  have xx : Ext β w S β w' S := ⟨fun _ _ e => e, fun _ e => e, fun y hy => hw2 y (fun e => by subst e; exact h.st id y hsi h2 hy)⟩
  have there : ∀ y, y < w.heap.size -> (w'.heap[y]?).isSome = true := fun y hy => by
   rw [<- hw3] at hy
   simp [hy]
  refine ⟨⟨fun i o e => ?_, fun i q c hiq hi hq hc hc' => ?_, fun i c hi hc => ?_, fun c hc => by rw [hw3]; exact h.sz c hc⟩, h2⟩
  . by_cases ej : i = j
    . subst ej; rw [upd_same] at e; cases e
    rw [upd_other _ _ ej] at e
    by_cases ei : i = id
    . subst ei
      simp only [upd_same, Option.some.injEq] at e ⊢
      subst e
      obtain ⟨Bq, r1, r2⟩ := h.obj _ _ hj
      rw [hBj] at r1; cases r1
      have hsub : SubOk w' S Bj (own j) (sub x) := ((subOk_obj (β := β)).2 r2).ext (fun _ e => e) xx.heap (fun y hy => hw2 y (fun e => nb j hjid hsj (e ▸ hy)))
      obtain ⟨G', G1, G2⟩ : ∃ G' : M.κ -> Base × (Nat -> Prop), G' key = (Bj, own j) ∧ ∀ k, k ≠ key -> G' k = G k := ⟨updK G key (Bj, own j), updK_same _ _ _, fun k hk => updK_other _ _ hk⟩
      have hV1 : ∀ m : MapEntry, m.val = val -> famV β w' S M sub G' (fun y => own i y ∨ own j y) b none key x m := fun m hm => by
       refine ⟨(fun _ _ e => by cases e), fun _ => ?_⟩
       rw [G1, hm]
       exact ⟨hval, hsub, fun y hy => ⟨.inr hy, fun e => nb j hjid hsj (e ▸ hy)⟩⟩
      have hV2 : ∀ k' v' m, k' ∈ es.map (·.1) -> k' ≠ key -> famV β w S M sub G (own i) b hh k' v' m -> famV β w' S M sub G' (fun y => own i y ∨ own j y) b none k' v' m := by
       intro k' v' m _ hk ⟨_, hv⟩
       refine ⟨(fun _ _ e => by cases e), fun _ => ?_⟩
       obtain ⟨r1, r2, r3⟩ := hv (fun a c e => hk (hole _ _ _ e))
       rw [G2 k' hk]
       exact ⟨r1, r2.ext (fun _ e => e) xx.heap (fun y hy => hw2 y (r3 y hy).2), fun y hy => ⟨.inl (r3 y hy).1, (r3 y hy).2⟩⟩
      have hrel : relF β w' S M (famV β w' S M sub G' (fun y => own i y ∨ own j y) b none) (aput M key x es) ents'.toList ∧ ((aput M key x es).map (·.1)).Nodup ∧ (ents'.toList.map (·.born)).Pairwise (· < ·) ∧ (∀ m ∈ ents'.toList, m.born < clock') := by
       have h5' : relF β w' S M (famV β w S M sub G (own i) b hh) es ents.toList := relF_mono xx M es (fun _ _ _ _ h => h) _ h5
       have hkv' := rel_ext xx _ _ hkv
       rcases hents with ⟨hp, e1, e2⟩ | ⟨q, hp, e1, e2⟩
       . rw [e1, e2]
         refine ⟨relF_push hkv' (hV1 _ rfl) hV2 h5' hp, ?_, ?_, ?_⟩
         . rw [aput_keys, hp]
           refine List.nodup_append.2 ⟨h4, by simp, ?_⟩
           intro a ha b hb e
           simp at hb
           subst hb; subst e
           exact (posK_mem M _ es).1 hp ha
         . rw [List.map_append, List.pairwise_append]
           refine ⟨h4', by simp, fun p hp q hq => ?_⟩
           obtain ⟨m, hm, rfl⟩ := List.mem_map.1 hp
           simp at hq
           subst hq
           exact h4'' m hm
         . intro m hm
           rcases List.mem_append.1 hm with hm | hm
           . exact Nat.lt_succ_of_lt (h4'' m hm)
           . simp at hm; subst hm; simp
       . rw [e1, e2]
         refine ⟨relF_put hkv' h4 hV2 (fun _ m _ => hV1 _ rfl) h5' hp, ?_, ?_, ?_⟩
         . rw [aput_keys, hp]; exact h4
         . rw [born_modify]; exact h4'
         . intro m' hm'
           obtain ⟨m'', r1, r2⟩ := mem_modify_born hm'
           rw [<- r2]; exact h4'' m'' r1
      obtain ⟨k1, k2, k3, k4⟩ := hrel
      refine ⟨B, hB, b, ents', clock', hb, ⟨.inl h2, fun y hy => ?_⟩, hw1, ⟨k2, k3, k4⟩, G', k1, fun k k' hk hk' hkk _ _ y hy hy' => ?_⟩
      . rcases hy with hy | hy
        . exact there y (lt_of_there (h2' y hy))
        . exact there y (r2.lt y hy)
      . have inG : ∀ k, k ∈ (aput M key x es).map (·.1) -> k ≠ key -> k ∈ es.map (·.1) := fun k hk hne => by
         rw [aput_keys] at hk
         split at hk
         . exact hk
         . rcases List.mem_append.1 hk with hk | hk
           . exact hk
           . simp at hk; exact absurd hk hne
        have Gown : ∀ k, k ∈ es.map (·.1) -> k ≠ key -> ∀ y, (G k).2 y -> own i y := fun k hk hne y hy => by
         obtain ⟨⟨k0, v0⟩, hm, rfl⟩ := List.mem_map.1 hk
         obtain ⟨p, hp⟩ := List.getElem?_of_mem hm
         obtain ⟨m, _, _, _, hv⟩ := relF_at h5 p _ _ hp
         exact ((hv (fun a c e => hne (hole _ _ _ e))).2.2 y hy).1
        by_cases e1 : k = key
        . subst e1
          have e2 : k' ≠ k := fun e => hkk e.symm
          rw [G1] at hy; rw [G2 k' e2] at hy'
          exact h.sep j i y hjid hsj hsi hy (Gown k' (inG k' hk' e2) e2 y hy')
        . rw [G2 k e1] at hy
          by_cases e2 : k' = key
          . subst e2
            rw [G1] at hy'
            exact h.sep j i y hjid hsj hsi hy' (Gown k (inG k hk e1) e1 y hy)
          . rw [G2 k' e2] at hy'
            exact h6 k k' (inG k hk e1) (inG k' hk' e2) hkk (fun a c e => e1 (hole _ _ _ e)) (fun a c e => e2 (hole _ _ _ e)) y hy hy'
    . rw [upd_other _ _ ei] at e
      rw [upd_other _ _ ei]
      obtain ⟨Bq, r1, r2⟩ := h.obj _ _ e
      exact ⟨Bq, r1, r2.ext xx (fun y hy => hw2 y (fun e' => nb i ei (by simp [e]) (e' ▸ hy)))⟩
  . have nj : i ≠ j ∧ q ≠ j := ⟨(fun e => by subst e; rw [upd_same] at hi; cases hi), (fun e => by subst e; rw [upd_same] at hq; cases hq)⟩
    rw [upd_other _ _ nj.1] at hi
    rw [upd_other _ _ nj.2] at hq
    have hi' : (go i).isSome := by
     by_cases e : i = id
     . subst e; exact hsi
     . rwa [upd_other _ _ e] at hi
    have hq' : (go q).isSome := by
     by_cases e : q = id
     . subst e; exact hsi
     . rwa [upd_other _ _ e] at hq
    by_cases e1 : i = id
    . subst e1
      rw [upd_same] at hc
      rw [upd_other _ _ (fun e => hiq e.symm)] at hc'
      rcases hc with hc | hc
      . exact h.sep i q c hiq hi' hq' hc hc'
      . exact h.sep j q c (fun e => nj.2 e.symm) hsj hq' hc hc'
    . rw [upd_other _ _ e1] at hc
      by_cases e2 : q = id
      . subst e2
        rw [upd_same] at hc'
        rcases hc' with hc' | hc'
        . exact h.sep i q c hiq hi' hq' hc hc'
        . exact h.sep i j c nj.1 hi' hsj hc hc'
      . rw [upd_other _ _ e2] at hc'
        exact h.sep i q c hiq hi' hq' hc hc'
  . by_cases ej : i = j
    . subst ej; rw [upd_same] at hi; cases hi
    rw [upd_other _ _ ej] at hi
    by_cases e : i = id
    . subst e
      rw [upd_same] at hc
      rcases hc with hc | hc
      . exact h.st i c hsi hc
      . exact h.st j c hsj hc
    . rw [upd_other _ _ e] at hi hc
      exact h.st i c hi hc
end
end Go.Sx
namespace Go.Sx
open Go
theorem mem_aerase {M : MapTy} {key k : M.κ} : ∀ {l : List M.κ}, k ∈ aerase M key l ↔ k ∈ l ∧ k ≠ key
 | [] => by simp [aerase]
 | j :: l => by
   simp only [aerase]
   cases M.deq j key with
   | isTrue h =>
     subst h
     simp only [mem_aerase (l := l), List.mem_cons]
     constructor
     . rintro ⟨h1, h2⟩; exact ⟨.inr h1, h2⟩
     . rintro ⟨h1 | h1, h2⟩
       . exact absurd h1 h2
       . exact ⟨h1, h2⟩
   | isFalse h =>
     simp only [List.mem_cons, mem_aerase (l := l)]
     constructor
     . rintro (h1 | ⟨h1, h2⟩)
       . subst h1; exact ⟨.inl rfl, h⟩
       . exact ⟨.inr h1, h2⟩
     . rintro ⟨h1 | h1, h2⟩
       . exact .inl h1
       . exact .inr ⟨h1, h2⟩
theorem adel_erase {M : MapTy} {key : M.κ} : ∀ {es : List (M.κ × M.ν)} {j : Nat}, posK M key es = some j -> adel M key es = es.eraseIdx j
 | [], j, h => by simp [posK] at h
 | (y, u) :: es, j, h => by
   simp only [posK] at h
   simp only [adel]
   cases e : M.deq y key with
   | isTrue h' => rw [e] at h; simp at h; subst h; rfl
   | isFalse h' =>
     rw [e] at h
     simp at h
     obtain ⟨j', h, rfl⟩ := h
     simp [adel_erase h]
theorem itOk_del {β : Nat -> Option Base} {w w' : World} {F : Nat -> Prop} {b clock : Nat} {ents : List MapEntry} {M : MapTy} {es : List (M.κ × M.ν)} {it : Option (Nat × List M.κ × Option M.κ)} {key : M.κ}
 (h : itOk β w F b clock ents M es it) (hnd : (es.map (·.1)).Nodup) (hw : ∀ j, j ≠ b -> w'.heap[j]? = w.heap[j]?) :
 (∀ j, posK M key es = some j -> itOk β w' F b clock (ents.eraseIdx j) M (adel M key es) (itDel M key it)) ∧ (posK M key es = none -> itOk β w' F b clock ents M es (itDel M key it)) := by
  cases it with
  | none => exact ⟨fun _ _ => trivial, fun _ => trivial⟩
  | some p =>
    obtain ⟨rid, left, cur⟩ := p
    obtain ⟨B', r, seen, q1, q2, q3, q4, q5, q6, q7⟩ := h
    refine ⟨fun j hj => ⟨B', r, seen, q1, q2, q3, q4, (hw r q4).trans q5, fun i m k v h1 h2 => ?_, fun k e => by cases e⟩, fun hn => ⟨B', r, seen, q1, q2, q3, q4, (hw r q4).trans q5, fun i m k v h1 h2 => ?_, fun k e => by cases e⟩⟩
    . rw [adel_erase hj] at h2
      rw [List.getElem?_eraseIdx] at h1 h2
      obtain ⟨v0, hv0⟩ := posK_lt hj
      have key_ne : ∀ i', i' ≠ j -> es[i']? = some (k, v) -> k ≠ key := fun i' hne h e => by
       subst e
       have e1 : (es.map (·.1))[i']? = some k := by simp [h]
       have e2 : (es.map (·.1))[j]? = some k := by simp [hv0]
       exact hne ((List.getElem?_inj (List.getElem?_eq_some_iff.1 e1).1 hnd).1 (e1.trans e2.symm))
      split at h1
      . rename_i hlt
        rw [if_pos hlt] at h2
        rw [q6 i m k v h1 h2, mem_aerase]
        have := key_ne i (by omega) h2
        simp [this]
      . rename_i hlt
        rw [if_neg hlt] at h2
        rw [q6 (i + 1) m k v h1 h2, mem_aerase]
        have := key_ne (i + 1) (by omega) h2
        simp [this]
    . rw [q6 i m k v h1 h2, mem_aerase]
      have : k ≠ key := fun e => by
       subst e
       exact (posK_mem M k es).1 hn (List.mem_map.2 ⟨(k, v), List.mem_of_getElem? h2, rfl⟩)
      simp [this]
section
variable {C : Ctx} {gt : GT} {go : GO} {o : Oper} {fresh : Nat} {R : List Loc} {v : Option SV} {os : List (Nat × Option SO)} {k : Nat}
theorem ok_mkm {t : TypeId} (ho : o.op = .makeMap t none) (h : (MO.rt C.toEnv fresh .mkm).Runs gt go R v os k) (hd : DstOk C o.dst v) : OpOk C o fresh gt go v os k := by
 simp only [MO.rt] at h
 cases h with
 | ex M _ h =>
   cases h with
   | done =>
     refine ok_new (by simp [ho]) hd fun {β own S a w} H => ?_
     refine ⟨.map (some w.heap.size), w.alloc (.map #[] 0), .map #[] 0, ⟨some w.heap.size, 0, 0⟩, ?_, rfl, rfl, rfl, rfl, fun x => ⟨?_, ?_⟩⟩
     . simp [execOp, ho, Instr.makeMap]
     . refine ⟨w.heap.size, #[], 0, rfl, ⟨rfl, fun y hy => ?_⟩, (show (w.heap.push (Obj.map #[] 0))[w.heap.size]? = _ by simp), by simp [relE], by simp, trivial⟩
       cases hy
       show ((w.heap.push (Obj.map #[] 0))[w.heap.size]?).isSome = true
       simp
     . simp only [rel]; exact ⟨_, _, upd_same _ _ _, rfl, rfl⟩
theorem map_at {β own S a w} (H : Holds C gt go β own S a w) {id : Nat} {M : MapTy} {es : List (M.κ × M.ν)} {it : Option (Nat × List M.κ × Option M.κ)} (hg : go id = some (.map M es it)) {x : Value} (hx : rel β w S (.mp id) x) :
 ∃ B b ents clock, β id = some B ∧ B.blk = some b ∧ x = .map (some b) ∧ (own id b ∧ ∀ x, own id x -> (w.heap[x]?).isSome = true) ∧ w.heap[b]? = some (.map ents clock) ∧ relE β w S M es ents.toList ∧
  ((es.map (·.1)).Nodup ∧ (ents.toList.map (·.born)).Pairwise (· < ·) ∧ (∀ m ∈ ents.toList, m.born < clock)) ∧ itOk β w (own id) b clock ents.toList M es it := by
  simp only [rel] at hx
  obtain ⟨B, b, hB, hb, rfl⟩ := hx
  obtain ⟨B', h1, b', ents, clock, h2, h3, h4, h5⟩ := H.mem.obj _ _ hg
  rw [hB] at h1; cases h1
  rw [hb] at h2; cases h2
  exact ⟨B, b, ents, clock, hB, hb, rfl, h3, h4, h5⟩
theorem keyRT_inv {M : MapTy} {one : Bool} {ks : List SK} {s : SV} {f : M.κ -> RT} (h : (keyRT M one ks s f).Runs gt go R v os k) :
 M.one = one ∧ M.ks = ks ∧ ∃ key R', (f key).Runs gt go R' v os k ∧ ∀ {P : Program} {K : TypeId}, KeyOk P K M.one M.ks -> ∀ {β own S w}, MemOk β own S go w -> ∀ x, rel β w S s x -> x = keyV M.one (M.ek key) := by
  unfold keyRT at h
  cases h with
  | req hp h =>
    cases h with
    | ex key _ h =>
      obtain ⟨ρ', R', h, l, i, hm⟩ := mSV_inv _ h
      refine ⟨hp.1, hp.2, key.down, R', h, fun {P K} hK {β own S w} hmem x hx => ?_⟩
      have := hm ρ' (.refl _) (fit_of hmem) (fun _ => 0) x hx
      exact (rel_key (M.ekk _) hK.len1 x).1 this
structure LkpOk (P : Program) (T : TypeId) (one : Bool) (ks : List SK) (zo : Bool) (z : List PV) : Prop where
 ok : ∃ K E i zv, P.underlying T = some (.map K E) ∧ KeyOk P K one ks ∧ P.info? E = some i ∧ i.zero = some zv ∧ (∀ (β : Nat -> Option Base) (w : World) (S : Nat -> Prop), rel β w S (svOf zo z) zv) ∧
  ∀ s, z = [.sl s []] -> zv = .slice none 0 0
structure MapOk (P : Program) (T : TypeId) (one : Bool) (ks : List SK) : Prop where
 ok : ∃ K E, P.underlying T = some (.map K E) ∧ KeyOk P K one ks
theorem run_lookupF {P : Program} {T K E : TypeId} {i : TypeInfo} {zv : Value} (hT : P.underlying T = some (.map K E)) {M : MapTy} (hK : KeyOk P K M.one M.ks) (hi : P.info? E = some i) (hz : i.zero = some zv) {β w S}
 {b : Nat} {ents : Array MapEntry} {clock : Nat} (hb : w.heap[b]? = some (.map ents clock)) {es : List (M.κ × M.ν)} (he : relE β w S M es ents.toList) (hzr : rel β w S (svOf M.vone (M.ev M.d)) zv) (key : M.κ) (ok : Bool) :
 ∃ x, (Instr.lookup T (.map (some b)) (keyV M.one (M.ek key)) ok).run P w = .ok (if ok then .tuple #[x, .bool (aget M key es).isSome] else x) w ∧ rel β w S (svOf M.vone (M.ev (agetD M key es))) x := by
  have hf := run_findKeyF hK key he
  have hc := hK.check (ents.isEmpty) w (M.ekk key)
  rw [agetD, posK_aget]
  cases hp : posK M key es with
  | none =>
    rw [hp] at hf
    refine ⟨zv, ?_, by simpa using hzr⟩
    cases ok <;> simp [Instr.lookup, run_underlying hT, gm_get hb, hc, hf, gm_zero hi hz]
  | some j =>
    rw [hp] at hf
    obtain ⟨v0, hj⟩ := posK_lt hp
    obtain ⟨m, hm, _, hv⟩ := relE_at he j key v0 hj
    simp only [Option.bind_some, hj, Option.map_some, Option.isSome_some, Option.getD_some]
    simp only [Option.bind_some, hm, Option.map_some] at hf
    refine ⟨m.val, ?_, by simpa using hv⟩
    cases ok <;> simp [Instr.lookup, run_underlying hT, gm_get hb, hc, hf]
theorem fam_at {β own S a w} (H : Holds C gt go β own S a w) {id : Nat} {M : MapTy} {sub : M.ν -> Sub} {es : List (M.κ × M.ν)} {hh : Option (M.κ × Nat × Option Nat)} (hg : go id = some (.fam M sub es hh)) {x : Value} (hx : rel β w S (.mp id) x) :
 ∃ B b ents clock, β id = some B ∧ B.blk = some b ∧ x = .map (some b) ∧ own id b ∧ w.heap[b]? = some (.map ents clock) ∧ relE β w S (keyM M) es ents.toList ∧ (es.map (·.1)).Nodup ∧ (ents.toList.map (·.born)).Pairwise (· < ·) ∧
  (∀ m ∈ ents.toList, m.born < clock) ∧ ∃ G, relF β w S M (famV β w S M sub G (own id) b hh) es ents.toList := by
  simp only [rel] at hx
  obtain ⟨B, b, hB, hb, rfl⟩ := hx
  obtain ⟨B', h1, b', ents, clock, h2, h3, h4, h5, G, h6, _⟩ := H.mem.obj _ _ hg
  rw [hB] at h1; cases h1
  rw [hb] at h2; cases h2
  exact ⟨B, b, ents, clock, hB, hb, rfl, h3.1, h4, relF_keys h6, h5.1, h5.2.1, h5.2.2, G, h6⟩
theorem ok_takeF {id : Nat} {M : MapTy} {sub : M.ν -> Sub} {es : List (M.κ × M.ν)} (hg : go id = some (.fam M sub es none)) {key : M.κ} {sv : SV} (hop : ∀ c, o.op ≠ .defer c) (hd : DstOk C o.dst (some sv))
 (hz : posK M key es = none -> ∃ s, sub (agetD M key es) = .vec s [])
 (hsv : sv = hndSV fresh (sub (agetD M key es)))
 (h : ∀ {β own S a w}, Holds C gt go β own S a w -> ∃ B b ents clock x, β id = some B ∧ B.blk = some b ∧ w.heap[b]? = some (.map ents clock) ∧ (execOp a.eval o).run C.P w = .ok (.value x) w ∧
  ((posK M key es = none ∧ x = .slice none 0 0) ∨ (∃ j m, posK M key es = some j ∧ ents.toList[j]? = some m ∧ x = m.val))) :
 OpOk C o fresh gt go (some sv) [(id, some (.fam M sub es (some (key, fresh, none)))), (fresh, some (sub (agetD M key es)).so)] 1 := by
  intro β own S a w H hβ next Q hn
  obtain ⟨B, b, ents, clock, x, hB, hb, he, hr, hx⟩ := h H
  have hf : β fresh = none := hβ fresh (Nat.le_refl _) (by omega)
  obtain ⟨B0, F0, hm, xx, hF, hv⟩ := H.mem.take hg hB hb he (key := key) hf (g := none) (fun i e => by cases e) hz
  have hid : (go id).isSome := by simp [hg]
  refine wpIn_run hop hr (hn (upd β fresh (some B0)) (upd (upd own id (fun x => own id x ∧ ¬ F0 x)) fresh F0) S x w (fun i hi => upd_other β _ (fun (e : i = fresh) => hi (by omega))) ?_)
  refine H.step xx hm ⟨rfl, rfl, rfl, Nat.le_refl _, fun _ _ _ => rfl⟩ (fun i c h1 h2 => .inl ?_) (fun c h => .inl h) o.dst x _ (dstw_ok hd (fun s e => ?_)) (dstw_none hd gt)
  . by_cases e : i = fresh
    . subst e; rw [upd_same] at h2; exact ⟨id, hid, hF c h2⟩
    . rw [upd_other _ _ e] at h1 h2
      by_cases e2 : i = id
      . subst e2; rw [upd_same] at h2; exact ⟨i, hid, h2.1⟩
      . rw [upd_other _ _ e2] at h1 h2; exact ⟨i, h1, h2⟩
  . cases e
    rw [hsv]
    exact hnd_rel (upd_same _ _ _) (hv x hx)
theorem ok_lkpF {t : TypeId} {x y : Operand} {ok one zo : Bool} {ks : List SK} {z : List PV} (ho : o.op = .lookup t x y ok) (hl : LkpOk C.P t one ks zo z) {id : Nat} {sy : SV}
 (hx : ∀ {β own S a w}, Holds C gt go β own S a w -> rel β w S (.mp id) (a.eval x)) (hy : ∀ {β own S a w}, Holds C gt go β own S a w -> rel β w S sy (a.eval y))
 {M : MapTy} {sub : M.ν -> Sub} {es : List (M.κ × M.ν)} {hh : Option (M.κ × Nat × Option Nat)} (hg : go id = some (.fam M sub es hh))
 (h : (match hh, ok with
  | none, false => keyRT M one ks sy fun key => (match sub (agetD M key es) with
    | .vec s L => .req ((aget M key es).isSome = true ∨ (L = [] ∧ z = [PV.sl s []])) (.done (some (.slc fresh 0 L.length)) [(id, some (.fam M sub es (some (key, fresh, none)))), (fresh, some (.vec s L))] 1)
    | .map M' es' => .req ((aget M key es).isSome = true) (.done (some (.mp fresh)) [(id, some (.fam M sub es (some (key, fresh, none)))), (fresh, some (.map M' es' none))] 1))
  | _, _ => RT.fail).Runs gt go R v os k) (hd : DstOk C o.dst v) : OpOk C o fresh gt go v os k := by
  split at h
  case h_2 => cases h
  replace h := keyRT_inv h
  obtain ⟨h1, h2, key, R3, h, hkey⟩ := h
  subst h1; subst h2
  obtain ⟨K, E, i, zv, hT, hK, hi, hz, hzr, hzs⟩ := hl.ok
  have run : (posK M key es = none -> zv = .slice none 0 0) -> ∀ {β own S a w}, Holds C gt go β own S a w -> ∃ B b ents clock x, β id = some B ∧ B.blk = some b ∧ w.heap[b]? = some (.map ents clock) ∧ (execOp a.eval o).run C.P w = .ok (.value x) w ∧
   ((posK M key es = none ∧ x = .slice none 0 0) ∨ (∃ j m, posK M key es = some j ∧ ents.toList[j]? = some m ∧ x = m.val)) := by
    intro hz0 β own S a w H
    obtain ⟨B, b, ents, clock, hB, hb, ex, _, he, hr, _⟩ := fam_at H hg (hx H)
    have ey := hkey hK H.mem _ (hy H)
    obtain ⟨x0, q1, q2, q3⟩ := run_lookupK hT hK hi hz he hr key
    refine ⟨B, b, ents, clock, x0, hB, hb, he, by simp [execOp, ho, ex, ey, q1], ?_⟩
    cases hp : posK M key es with
    | none => exact .inl ⟨rfl, by rw [q2 hp, hz0 hp]⟩
    | some j =>
      obtain ⟨m, hm, _⟩ := relE_at hr j key _ (aget_pos hp)
      exact .inr ⟨j, m, rfl, hm, q3 j m hp hm⟩
  split at h
  . rename_i s L hs
    cases h with
    | req hp h =>
      cases h with
      | done =>
        have e0 : posK M key es = none -> L = [] ∧ z = [.sl s []] := fun e => hp.resolve_left (fun q => by
         obtain ⟨j, hj⟩ := aget_some.1 q
         rw [e] at hj; cases hj)
        have e1 : (.vec s L : SO) = (sub (agetD M key es)).so := by rw [hs]; rfl
        rw [e1]
        exact ok_takeF hg (by simp [ho]) hd (fun e => ⟨s, by rw [hs, (e0 e).1]⟩) (by rw [hs]; rfl) (run (fun e => hzs s (e0 e).2))
  . rename_i M' es' hs
    cases h with
    | req hp h =>
      cases h with
      | done =>
        have e0 : posK M key es ≠ none := fun e => by
         obtain ⟨j, hj⟩ := aget_some.1 hp
         rw [e] at hj; cases hj
        have e1 : (.map M' es' none : SO) = (sub (agetD M key es)).so := by rw [hs]; rfl
        rw [e1]
        exact ok_takeF hg (by simp [ho]) hd (fun e => absurd e e0) (by rw [hs]; rfl) (run (fun e => absurd e e0))
theorem ok_lkp {t : TypeId} {x y : Operand} {ok one zo : Bool} {ks : List SK} {z : List PV} (ho : o.op = .lookup t x y ok) (hl : LkpOk C.P t one ks zo z)
 (h : (MO.rt C.toEnv fresh (.lkp ok one ks zo z (cX x) (cX y))).Runs gt go R v os k) (hd : DstOk C o.dst v) : OpOk C o fresh gt go v os k := by
  simp only [MO.rt] at h
  replace h := rd_inv h
  obtain ⟨sx, R1, h, hx⟩ := h
  replace h := rd_inv h
  obtain ⟨sy, R2, h, hy⟩ := h
  split at h
  case h_2 => cases h
  rename_i id
  cases h with
  | rO h =>
    dsimp only at h
    split at h
    case h_3 => cases h
    case h_2 M sub es hh hg => exact ok_lkpF ho hl hx hy hg h hd
    rename_i M es it hg
    replace h := keyRT_inv h
    obtain ⟨h1, h2, key, R3, h, hkey⟩ := h
    subst h1; subst h2
    obtain ⟨K, E, i, zv, hT, hK, hi, hz, hzr, _⟩ := hl.ok
    cases h with
    | req hp h =>
      obtain ⟨hv1, hv2⟩ := hp
      have run : ∀ {β own S a w}, Holds C gt go β own S a w -> ∃ x0, (execOp a.eval o).run C.P w = .ok (.value (if ok then .tuple #[x0, .bool (aget M key es).isSome] else x0)) w ∧ rel β w S (svOf M.vone (M.ev (agetD M key es))) x0 := by
       intro β own S a w H
       obtain ⟨B, b, ents, clock, _, _, ex, _, hb, he, _⟩ := map_at H hg (hx H)
       have ey := hkey hK H.mem _ (hy H)
       obtain ⟨x0, hr, hv⟩ := run_lookupF hT hK hi hz hb he (by rw [hv1, hv2]; exact hzr β w S) key ok
       exact ⟨x0, by simp [execOp, ho, ex, ey, hr], hv⟩
      cases ok with
      | false =>
        obtain ⟨rfl, rfl, rfl⟩ := ret1_inv h
        refine ok_val (by simp [ho]) hd fun {β own S a w} H => ?_
        obtain ⟨x0, hr, hv⟩ := run H
        exact ⟨x0, by simpa using hr, hv⟩
      | true =>
        obtain ⟨rfl, rfl, rfl⟩ := ret1_inv h
        refine ok_val (by simp [ho]) hd fun {β own S a w} H => ?_
        obtain ⟨x0, hr, hv⟩ := run H
        refine ⟨_, by simpa using hr, ?_⟩
        simp only [rel, relL]
        exact ⟨_, rfl, x0, [.bool (aget M key es).isSome], rfl, hv, _, [], rfl, rfl, rfl⟩
theorem ok_setv {id : Nat} {o0 so : SO} {vs : Option SV} (hop : ∀ c, o.op ≠ .defer c) (hd : DstOk C o.dst vs) (hg : go id = some o0)
 (h : ∀ {β own S a w}, Holds C gt go β own S a w -> ∃ x w' B, (execOp a.eval o).run C.P w = .ok (.value x) w' ∧ β id = some B ∧ w'.heap.size = w.heap.size ∧ (∀ b, ¬ own id b -> w'.heap[b]? = w.heap[b]?) ∧
  w'.os = w.os ∧ w'.tape = w.tape ∧ w'.output = w.output ∧ (Ext β w S β w' S -> ObjOk β w' S B (own id) so ∧ ∀ s, vs = some s -> rel β w' S s x)) :
 OpOk C o fresh gt go vs [(id, some so)] 0 := by
  intro β own S a w H hβ next Q hn
  obtain ⟨x, w', B, hr, h1, h2, h3, h4, h5, h6, h7⟩ := h H
  have x0 : Ext β w S β w' S := ⟨fun _ _ e => e, fun _ e => e, fun b hb => h3 b (fun e => H.mem.st id b (by simp [hg]) e hb)⟩
  refine wpIn_run hop hr (hn β own S x w' (fun i hi => rfl) ?_)
  exact H.set hg h1 h2 h3 h4 h5 h6 (fun e => (h7 e).1) o.dst x _ (dstw_ok hd (fun s e => (h7 x0).2 s e)) (dstw_none hd gt)
theorem map_set {w : World} {b : Nat} {o0 : Obj} (ob : Obj) (hb : w.heap[b]? = some o0) : ({ w with heap := w.heap.setIfInBounds b ob } : World).heap[b]? = some ob ∧
 (∀ j, j ≠ b -> ({ w with heap := w.heap.setIfInBounds b ob } : World).heap[j]? = w.heap[j]?) ∧ ({ w with heap := w.heap.setIfInBounds b ob } : World).heap.size = w.heap.size := by
  have hlt := (Array.getElem?_eq_some_iff.1 hb).1
  refine ⟨by simp [hlt], fun j hj => ?_, by simp⟩
  simp only [Array.getElem?_setIfInBounds]
  rw [if_neg (fun e => hj e.symm)]
theorem map_own {w w' : World} {b : Nat} {ob : Obj} {F : Nat -> Prop} (h2 : ∀ j, j ≠ b -> w'.heap[j]? = w.heap[j]?) (h1 : w'.heap[b]? = some ob) (hF : ∀ x, F x -> (w.heap[x]?).isSome = true) : ∀ x, F x -> (w'.heap[x]?).isSome = true := fun x hx => by
 by_cases e : x = b
 . subst e; simp [h1]
 . rw [h2 x e]; exact hF x hx
theorem ok_famPut {id : Nat} {M : MapTy} {sub : M.ν -> Sub} {es : List (M.κ × M.ν)} {hh : Option (M.κ × Nat × Option Nat)} {key : M.κ} {z : Operand} {sz : SV} (hg : go id = some (.fam M sub es hh)) (hole : holeAt hh key)
 (hz : ∀ {β own S a w}, Holds C gt go β own S a w -> rel β w S sz (a.eval z)) (h : (famPut id M sub es key sz).Runs gt go R v os k) (hop : ∀ c, o.op ≠ .defer c) (hd : o.dst = none)
 (hrun : ∀ {β own S a w}, Holds C gt go β own S a w -> ∃ B b ents clock kv w' ents' clock', β id = some B ∧ B.blk = some b ∧ w.heap[b]? = some (.map ents clock) ∧ rel β w S (svOf M.one (M.ek key)) kv ∧ (execOp a.eval o).run C.P w = .ok .skip w' ∧
  ((posK M key es = none ∧ ents'.toList = ents.toList ++ [{ key := kv, val := a.eval z, born := clock }] ∧ clock' = clock + 1) ∨
    ∃ i, posK M key es = some i ∧ ents'.toList = (ents.toList.modify i fun e => { e with key := kv, val := a.eval z }) ∧ clock' = clock) ∧
  w'.heap[b]? = some (.map ents' clock') ∧ (∀ y, y ≠ b -> w'.heap[y]? = w.heap[y]?) ∧ w'.heap.size = w.heap.size ∧ w'.os = w.os ∧ w'.tape = w.tape ∧ w'.output = w.output) : OpOk C o fresh gt go v os k := by
  have fin : ∀ {j : Nat} {x : M.ν}, go j = some (sub x).so -> (∀ {β own S a w}, Holds C gt go β own S a w -> ∃ Bj, β j = some Bj ∧ Hnd Bj (sub x) (a.eval z)) →
   OpOk C o fresh gt go none [(id, some (.fam M sub (aput M key x es) none)), (j, none)] 0 := by
    intro j x hj hv β own S a w H hβ next Q hn
    obtain ⟨B, b, ents, clock, kv, w', ents', clock', hB, hb, he, hkv, hr, hents, hw1, hw2, hw3, g1, g2, g3⟩ := hrun H
    obtain ⟨Bj, hBj, hval⟩ := hv H
    obtain ⟨hm, hob⟩ := H.mem.fput hg hB hb he hole hj hBj hkv hval hents hw1 hw2 hw3
    have hsi : (go id).isSome := by simp [hg]
    have hsj : (go j).isSome := by simp [hj]
    have xx : Ext β w S β w' S := ⟨fun _ _ e => e, fun _ e => e, fun y hy => hw2 y (fun e => by subst e; exact H.mem.st id y hsi hob hy)⟩
    refine wpIn_runSkip hop hr (hn β (upd own id (fun y => own id y ∨ own j y)) S undef w' (fun i hi => rfl) ?_)
    refine H.step xx hm ⟨g1, g2, g3, by rw [hw3]; exact Nat.le_refl _, fun y hy hx => hw2 y (fun e => hx ⟨id, hsi, by rw [e]; exact hob⟩)⟩ (fun i c h1 h2 => .inl ?_) (fun c h => .inl h) o.dst undef _ (fun d s e => by simp [dstw, hd] at e) (fun _ => .inl hd)
    by_cases ej : i = j
    . subst ej; rw [upd_same] at h1; cases h1
    . rw [upd_other _ _ ej] at h1
      by_cases ei : i = id
      . subst ei
        rw [upd_same] at h2
        rcases h2 with h2 | h2
        . exact ⟨i, hsi, h2⟩
        . exact ⟨j, hsj, h2⟩
      . rw [upd_other _ _ ei] at h1 h2; exact ⟨i, h1, h2⟩
  unfold famPut at h
  split at h
  . rename_i j b0 n
    cases h with
    | rO h =>
      dsimp only at h
      split at h
      case h_2 => cases h
      rename_i s L hj
      cases h with
      | ex x _ h =>
        obtain ⟨x⟩ := x
        cases h with
        | req hp h =>
          obtain ⟨hs, rfl, rfl⟩ := hp
          cases h with
          | done =>
            refine fin (by rw [hj, hs]; rfl) fun {β own S a w} H => ?_
            have := hz H
            simp only [rel] at this
            obtain ⟨Bj, h1, h2⟩ := this
            exact ⟨Bj, h1, by rw [hs]; exact h2⟩
  . rename_i j
    cases h with
    | rO h =>
      dsimp only at h
      split at h
      case h_2 => cases h
      rename_i M' es' it hj
      split at h
      case h_2 => cases h
      cases h with
      | ex x _ h =>
        obtain ⟨x⟩ := x
        cases h with
        | req hp h =>
          cases h with
          | done =>
            refine fin (by rw [hj, hp]; rfl) fun {β own S a w} H => ?_
            have := hz H
            simp only [rel] at this
            obtain ⟨Bj, b, h1, h2, h3⟩ := this
            exact ⟨Bj, h1, by rw [hp]; exact ⟨b, h2, h3⟩⟩
  . cases h
theorem ok_mupK {t : TypeId} {x y z : Operand} {id : Nat} {sy sz : SV} (ho : o.op = .mapUpdate t x y z ∨ o.op = .insert t x y z) {M : MapTy} (hl : MapOk C.P t M.one M.ks) (hd : o.dst = none)
 (hx : ∀ {β own S a w}, Holds C gt go β own S a w -> rel β w S (.mp id) (a.eval x)) (hy : ∀ {β own S a w}, Holds C gt go β own S a w -> rel β w S sy (a.eval y)) (hz : ∀ {β own S a w}, Holds C gt go β own S a w -> rel β w S sz (a.eval z))
 {sub : M.ν -> Sub} {es : List (M.κ × M.ν)} {hh : Option (M.κ × Nat × Option Nat)} (hg : go id = some (.fam M sub es hh)) {key : M.κ}
 (hkey : ∀ {P : Program} {K : TypeId}, KeyOk P K M.one M.ks -> ∀ {β own S w}, MemOk β own S go w -> ∀ x, rel β w S sy x -> x = keyV M.one (M.ek key)) (hp : holeAt hh key)
 (h : (famPut id M sub es key sz).Runs gt go R v os k) : OpOk C o fresh gt go v os k := by
  obtain ⟨K, E, hT, hK⟩ := hl.ok
  refine ok_famPut hg hp hz h (by rcases ho with ho | ho <;> simp [ho]) hd fun {β own S a w} H => ?_
  obtain ⟨B, b, ents, clock, hB, hb, ex, hown, he, hr, _⟩ := fam_at H hg (hx H)
  have ey := hkey hK H.mem _ (hy H)
  have hkr : rel β w S (svOf M.one (M.ek key)) (a.eval y) := (rel_key (M.ekk _) hK.len1 _).2 ey
  have hop : (execOp a.eval o) = (do Instr.mapUpdate t (a.eval x) (a.eval y) (a.eval z); pure .skip) := by rcases ho with ho | ho <;> simp [execOp, ho] <;> rfl
  obtain ⟨u1, u2⟩ := run_updateK (w := w) hT hK he hr key (a.eval z)
  cases hp : posK M key es with
  | none =>
    obtain ⟨s1, s2, s3⟩ := map_set (.map (ents.push { key := a.eval y, val := a.eval z, born := clock }) (clock + 1)) he
    refine ⟨B, b, ents, clock, a.eval y, _, _, _, hB, hb, he, hkr, ?_, .inl ⟨rfl, by simp, rfl⟩, s1, s2, s3, rfl, rfl, rfl⟩
    rw [hop, ex, ey]
    simp [u1 hp]
  | some j =>
    obtain ⟨s1, s2, s3⟩ := map_set (.map (ents.modify j fun e => { e with key := a.eval y, val := a.eval z }) clock) he
    refine ⟨B, b, ents, clock, a.eval y, _, _, _, hB, hb, he, hkr, ?_, .inr ⟨j, rfl, by simp, rfl⟩, s1, s2, s3, rfl, rfl, rfl⟩
    rw [hop, ex, ey]
    simp [u2 j hp]
theorem ok_mupF {t : TypeId} {x y z : Operand} {one : Bool} {ks : List SK} {id : Nat} {sy sz : SV} (ho : o.op = .mapUpdate t x y z ∨ o.op = .insert t x y z) (hl : MapOk C.P t one ks) (hd : o.dst = none)
 (hx : ∀ {β own S a w}, Holds C gt go β own S a w -> rel β w S (.mp id) (a.eval x)) (hy : ∀ {β own S a w}, Holds C gt go β own S a w -> rel β w S sy (a.eval y)) (hz : ∀ {β own S a w}, Holds C gt go β own S a w -> rel β w S sz (a.eval z))
 {M : MapTy} {sub : M.ν -> Sub} {es : List (M.κ × M.ν)} {hh : Option (M.κ × Nat × Option Nat)} (hg : go id = some (.fam M sub es hh))
 (h : (keyRT M one ks sy fun key => .req (holeAt hh key) (famPut id M sub es key sz)).Runs gt go R v os k) : OpOk C o fresh gt go v os k := by
  replace h := keyRT_inv h
  obtain ⟨h1, h2, key, R4, h, hkey⟩ := h
  subst h1; subst h2
  cases h with
  | req hp h => exact ok_mupK ho hl hd hx hy hz hg hkey hp h
theorem famPut_go {id j : Nat} {M : MapTy} {sub : M.ν -> Sub} {es : List (M.κ × M.ν)} {key : M.κ} {go' : GO} (hj : go' j = go j) (h : (famPut id M sub es key (.mp j)).Runs gt go R v os k) : (famPut id M sub es key (.mp j)).Runs gt go' R v os k := by
 unfold famPut at h ⊢
 dsimp only at h ⊢
 cases h with
 | rO h =>
   refine .rO ?_
   rw [hj]
   dsimp only at h ⊢
   split at h
   . rename_i M' es' it hg
     split at h
     . cases h with
       | ex x hp h =>
         obtain ⟨x⟩ := x
         cases h with
         | req hp h => cases h; exact .ex ⟨x⟩ trivial (.req hp .done)
     . cases h
   . cases h
theorem ok_mupN {t : TypeId} {x y z : Operand} {one : Bool} {ks : List SK} {id : Nat} {sy sz : SV} (ho : o.op = .mapUpdate t x y z ∨ o.op = .insert t x y z) (hl : MapOk C.P t one ks) (hd : o.dst = none)
 (hx : ∀ {β own S a w}, Holds C gt go β own S a w -> rel β w S (.mp id) (a.eval x)) (hy : ∀ {β own S a w}, Holds C gt go β own S a w -> rel β w S sy (a.eval y)) (hz : ∀ {β own S a w}, Holds C gt go β own S a w -> rel β w S sz (a.eval z))
 {M : MapTy} {es : List (M.κ × M.ν)} {it : Option (Nat × List M.κ × Option M.κ)} (hg : go id = some (.map M es it)) (hnew : mpNew sz es it id = true)
 (h : (keyRT M one ks sy fun key => .ex (fun (_ : M.ν -> Sub) => True) fun sub => famPut id M sub [] key sz).Runs gt go R v os k) : OpOk C o fresh gt go v os k := by
  unfold mpNew at hnew
  split at hnew
  case h_2 => cases hnew
  rename_i j
  split at hnew
  case h_2 => cases hnew
  split at hnew
  case h_2 => cases hnew
  split at hnew
  . cases hnew
  rename_i hne
  have hji : j ≠ id := fun e => by subst e; simp at hne
  replace h := keyRT_inv h
  obtain ⟨h1, h2, key, R4, h, hkey⟩ := h
  subst h1; subst h2
  cases h with
  | ex sub _ h =>
    have hg' : upd go id (some (.fam M sub [] none)) id = some (.fam M sub [] none) := upd_same _ _ _
    have fwd : ∀ {β own S w}, MemOk β own S go w -> MemOk β own S (upd go id (some (.fam M sub [] none))) w := fun {β own S w} hm => by
     refine ⟨fun i o e => ?_, fun i j b hij hi hj => ?_, fun i b hi => ?_, hm.sz⟩
     . by_cases ei : i = id
       . subst ei
         rw [upd_same] at e; cases e
         obtain ⟨B, hB, b, ents, clock, q1, q2, q3, q4, q5, _⟩ := hm.obj _ _ hg
         exact ⟨B, hB, b, ents, clock, q1, q2, q3, q5, fun _ => (⟨none, 0, 0⟩, fun _ => False), q4, fun k k' hk => by simp at hk⟩
       . rw [upd_other _ _ ei] at e; exact hm.obj _ _ e
     . refine hm.sep i j b hij ?_ ?_
       . by_cases e : i = id
         . subst e; simp [hg]
         . rwa [upd_other _ _ e] at hi
       . by_cases e : j = id
         . subst e; simp [hg]
         . rwa [upd_other _ _ e] at hj
     . refine hm.st i b ?_
       by_cases e : i = id
       . subst e; simp [hg]
       . rwa [upd_other _ _ e] at hi
    have some_ : ∀ i, (upd go id (some (.fam M sub [] none)) i).isSome -> (go i).isSome := fun i hi => by
     by_cases e : i = id
     . subst e; simp [hg]
     . rwa [upd_other _ _ e] at hi
    have some' : ∀ i, (go i).isSome -> (upd go id (some (.fam M sub [] none)) i).isSome := fun i hi => by
     by_cases e : i = id
     . subst e; simp
     . rwa [upd_other _ _ e]
    have bwd : ∀ {β own S w}, MemOk β own S (upd go id (some (.fam M sub [] none))) w -> MemOk β own S go w := fun {β own S w} hm => by
     refine ⟨fun i o e => ?_, fun i j b hij hi hj => hm.sep i j b hij (some' i hi) (some' j hj), fun i b hi => hm.st i b (some' i hi), hm.sz⟩
     by_cases ei : i = id
     . subst ei
       rw [hg] at e; cases e
       obtain ⟨B, hB, b, ents, clock, q1, q2, q3, q4, G, q5, _⟩ := hm.obj _ _ hg'
       exact ⟨B, hB, b, ents, clock, q1, q2, q3, q5, q4, trivial⟩
     . exact hm.obj i o (by rw [upd_other _ _ ei]; exact e)
    have Hf : ∀ {β own S a w}, Holds C gt go β own S a w -> Holds C gt (upd go id (some (.fam M sub [] none))) β own S a w := fun {β own S a w} H =>
     H.step (Ext.refl _ _ _) (fwd H.mem) (Fr.refl _ _) (fun i b e1 e2 => .inl ⟨i, some_ i e1, e2⟩) (fun b e => .inl e) none undef none (fun d s e => by cases e) (fun _ => .inl rfl)
    have Hb : ∀ {β own S a w}, Holds C gt (upd go id (some (.fam M sub [] none))) β own S a w -> Holds C gt go β own S a w := fun {β own S a w} H =>
     H.step (Ext.refl _ _ _) (bwd H.mem) (Fr.refl _ _) (fun i b e1 e2 => .inl ⟨i, some' i e1, e2⟩) (fun b e => .inl e) none undef none (fun d s e => by cases e) (fun _ => .inl rfl)
    have ok' : OpOk C o fresh gt (upd go id (some (.fam M sub [] none))) v os k := ok_mupK ho hl hd (fun H => hx (Hb H)) (fun H => hy (Hb H)) (fun H => hz (Hb H)) hg' (fun {P K} hK {β own S w} hm => hkey hK (bwd hm)) (fun _ _ _ e => by cases e)
     (famPut_go (upd_other _ _ hji) h)
    have hgo : goPut (upd go id (some (.fam M sub [] none))) os = goPut go os := by
     unfold famPut at h
     dsimp only at h
     cases h with
     | rO h =>
       dsimp only at h
       split at h
       . split at h
         . cases h with
           | ex x hp h =>
             obtain ⟨x⟩ := x
             cases h with
             | req hp h =>
               cases h
               simp only [goPut]
               congr 1
               funext i
               by_cases e : i = id
               . subst e; rw [upd_same, upd_same]
               . rw [upd_other _ _ e, upd_other _ _ e, upd_other _ _ e]
         . cases h
       . cases h
    intro β own S a w H hβ next Q hn
    exact ok' β own S a w (Hf H) hβ next Q (fun β' own' S' x w' e HH => hn β' own' S' x w' e (by rw [<- hgo]; exact HH))
theorem ok_mup {t : TypeId} {x y z : Operand} {one : Bool} {ks : List SK} (ho : o.op = .mapUpdate t x y z ∨ o.op = .insert t x y z) (hl : MapOk C.P t one ks) (hd : o.dst = none)
 (h : (MO.rt C.toEnv fresh (.mup one ks (cX x) (cX y) (cX z))).Runs gt go R v os k) : OpOk C o fresh gt go v os k := by
  simp only [MO.rt] at h
  replace h := rd_inv h
  obtain ⟨sx, R1, h, hx⟩ := h
  replace h := rd_inv h
  obtain ⟨sy, R2, h, hy⟩ := h
  replace h := rd_inv h
  obtain ⟨sz, R3, h, hz⟩ := h
  split at h
  case h_2 => cases h
  rename_i id
  cases h with
  | rO h =>
    dsimp only at h
    split at h
    case h_3 => cases h
    case h_2 M sub es hh hg => exact ok_mupF ho hl hd hx hy hz hg h
    rename_i M es it hg
    split at h
    . rename_i hnew
      exact ok_mupN ho hl hd hx hy hz hg hnew h
    replace h := keyRT_inv h
    obtain ⟨h1, h2, key, R4, h, hkey⟩ := h
    subst h1; subst h2
    obtain ⟨K, E, hT, hK⟩ := hl.ok
    cases h with
    | ex val _ h =>
      obtain ⟨ρ', R5, h, _, _, hm⟩ := mSV_inv _ h
      split at h
      case h_2 => cases h
      rename_i hbor
      cases h with
      | done =>
        refine ok_set (by rcases ho with ho | ho <;> simp [ho]) hd hg fun {β own S a w} H => ?_
        obtain ⟨B, b, ents, clock, hB, hblk, ex, hown, hb, he, ⟨hnd, hbp, hbl⟩, hit⟩ := map_at H hg (hx H)
        have ey := hkey hK H.mem _ (hy H)
        have hvr := hm ρ' (.refl _) (fit_of H.mem) (fun _ => 0) _ (hz H)
        have hS : (fun b => S b ∨ lent go ρ' own b) = S := by
         funext q; apply propext
         exact ⟨fun h => h.elim (fun e => e) (fun ⟨j, hj, _⟩ => by rw [hbor] at hj; cases hj), .inl⟩
        rw [hS] at hvr
        have hvr : rel β w S (svOf M.vone (M.ev val.down)) (a.eval z) := by
         have key : ∀ (l : List PV) (x : Value), rel (bOf ρ' β fun _ => 0) w S (svOf M.vone l) x -> rel β w S (svOf M.vone l) x := fun l x h => svOf_rel (fun _ e => e) h
         exact key _ _ hvr
        have hkr : rel β w S (svOf M.one (M.ek key)) (a.eval y) := (rel_key (M.ekk _) hK.len1 _).2 ey
        have hf := run_findKeyF hK key he
        have hc := hK.check false w (M.ekk key)
        have hop : (execOp a.eval o) = (do Instr.mapUpdate t (a.eval x) (a.eval y) (a.eval z); pure .skip) := by rcases ho with ho | ho <;> simp [execOp, ho] <;> rfl
        cases hp : posK M key es with
        | none =>
          rw [hp] at hf
          obtain ⟨s1, s2, s3⟩ := map_set (.map (ents.push { key := a.eval y, val := a.eval z, born := clock }) (clock + 1)) hb
          refine ⟨_, B, ?_, hB, s3, fun j hj => s2 j (fun e => hj (e ▸ hown.1)), rfl, rfl, rfl, fun xx => ?_⟩
          . rw [<- ey] at hf hc
            rw [hop, ex]
            simp [Instr.mapUpdate, run_underlying hT, gm_get hb, hc, hf, gm_set _ hb]
          . refine ⟨b, _, _, hblk, ⟨hown.1, map_own s2 s1 hown.2⟩, s1, ?_, ⟨?_, ?_, ?_⟩, trivial⟩
            . rw [Array.toList_push]
              exact relE_push (rel_ext xx _ _ hkr) (rel_ext xx _ _ hvr) (relE_ext xx M _ _ he) hp
            . rw [aput_keys, hp]
              refine List.nodup_append.2 ⟨hnd, by simp, ?_⟩
              intro a ha b hb e
              simp at hb
              subst hb; subst e
              exact (posK_mem M _ es).1 hp ha
            . rw [Array.toList_push, List.map_append, List.pairwise_append]
              refine ⟨hbp, by simp, fun p hp q hq => ?_⟩
              obtain ⟨m, hm, rfl⟩ := List.mem_map.1 hp
              simp at hq
              subst hq
              exact hbl m hm
            . intro m hm
              rw [Array.toList_push] at hm
              rcases List.mem_append.1 hm with hm | hm
              . exact Nat.lt_succ_of_lt (hbl m hm)
              . simp at hm; subst hm; simp
        | some j =>
          rw [hp] at hf
          obtain ⟨k0, v0, hj, rfl⟩ : ∃ k0 v0, es[j]? = some (k0, v0) ∧ k0 = key := let ⟨v0, h⟩ := posK_lt hp; ⟨_, v0, h, rfl⟩
          obtain ⟨m, hm, hmk, hmv⟩ := relE_at he j k0 v0 hj
          rw [rel_key (M.ekk _) hK.len1] at hmk
          simp only [Option.bind_some, hm, Option.map_some] at hf
          have hstay : (Instr.keyThatStays m.key (keyV M.one (M.ek k0))).run C.P w = .ok (keyV M.one (M.ek k0)) w := by
           rw [hmk]
           simp [Instr.keyThatStays, sameBits_key (M.ekk k0) hK.len1]
          obtain ⟨s1, s2, s3⟩ := map_set (.map (ents.modify j fun e => { e with key := keyV M.one (M.ek k0), val := a.eval z }) clock) hb
          have hej : ents[j]? = some m := by simpa using hm
          refine ⟨_, B, ?_, hB, s3, fun i hi => s2 i (fun e => hi (e ▸ hown.1)), rfl, rfl, rfl, fun xx => ?_⟩
          . rw [hop, ex, ey]
            simp [Instr.mapUpdate, run_underlying hT, gm_get hb, hc, hf, hej, hstay, gm_set _ hb]
          . have hml : (ents.modify j fun e => { e with key := keyV M.one (M.ek k0), val := a.eval z }).toList = ents.toList.modify j fun e => { e with key := keyV M.one (M.ek k0), val := a.eval z } := by simp
            refine ⟨b, _, _, hblk, ⟨hown.1, map_own s2 s1 hown.2⟩, s1, ?_, ⟨?_, ?_, ?_⟩, trivial⟩
            . rw [hml]
              exact relE_put (rel_ext xx _ _ (by rw [<- ey]; exact hkr)) (rel_ext xx _ _ hvr) (relE_ext xx M _ _ he) hp
            . rw [aput_keys, hp]; exact hnd
            . rw [hml, born_modify]; exact hbp
            . intro m' hm'
              rw [hml] at hm'
              obtain ⟨m'', h1, h2⟩ := mem_modify_born hm'
              rw [<- h2]; exact hbl m'' h1
theorem ok_mdel {t t2 : TypeId} {x y : Operand} {one : Bool} {ks : List SK} (ho : o.op = .call { callee := .builtin .delete, args := #[x, y], argTypes := #[t, t2] }) (hl : MapOk C.P t one ks)
 (h : (MO.rt C.toEnv fresh (.mdel one ks (cX x) (cX y))).Runs gt go R v os k) (hd : DstOk C o.dst v) : OpOk C o fresh gt go v os k := by
  simp only [MO.rt] at h
  replace h := rd_inv h
  obtain ⟨sx, R1, h, hx⟩ := h
  replace h := rd_inv h
  obtain ⟨sy, R2, h, hy⟩ := h
  split at h
  case h_2 => cases h
  rename_i id
  cases h with
  | rO h =>
    dsimp only at h
    split at h
    case h_2 => cases h
    rename_i M es it hg
    replace h := keyRT_inv h
    obtain ⟨h1, h2, key, R4, h, hkey⟩ := h
    subst h1; subst h2
    obtain ⟨K, E, hT, hK⟩ := hl.ok
    cases h with
    | done =>
      refine ok_setv (by simp [ho]) hd hg fun {β own S a w} H => ?_
      obtain ⟨B, b, ents, clock, hB, hblk, ex, hown, hb, he, ⟨hnd, hbp, hbl⟩, hit⟩ := map_at H hg (hx H)
      have ey := hkey hK H.mem _ (hy H)
      have hf := run_findKeyF hK key he
      have hc := hK.check (ents.isEmpty) w (M.ekk key)
      have hrun : ∀ {r w'}, (Builtin.delete_ #[t, t2] o.type #[a.eval x, a.eval y]).run C.P w = .ok r w' -> (execOp a.eval o).run C.P w = .ok (.value r) w' := by
       intro r w' h
       simp [execOp, ho, resolve, invoke, builtin, h]
      cases hp : posK M key es with
      | none =>
        rw [hp] at hf
        obtain ⟨s1, s2, s3⟩ := map_set (.map ents clock) hb
        refine ⟨.tuple #[], _, B, hrun ?_, hB, s3, fun j hj => s2 j (fun e => hj (e ▸ hown.1)), rfl, rfl, rfl, fun xx => ⟨?_, fun s e => by cases e; simp [rel, relL]⟩⟩
        . rw [ex, ey]
          simp [Builtin.delete_, run_underlying hT, gm_get hb, hc, hf, gm_set _ hb]
        . refine ⟨b, _, _, hblk, ⟨hown.1, map_own s2 s1 hown.2⟩, s1, ?_, ⟨?_, hbp, hbl⟩, by rw [adel_none M _ _ hp]; exact (itOk_del hit hnd s2).2 hp⟩
          . rw [adel_none M _ _ hp]; exact relE_ext xx M _ _ he
          . rw [adel_none M _ _ hp]; exact hnd
      | some j =>
        rw [hp] at hf
        have hjl : j < ents.size := by
         obtain ⟨v0, h1⟩ := posK_lt hp
         have h1 := (List.getElem?_eq_some_iff.1 h1).1
         have h2 := relE_len he
         simp at h2; omega
        have hel : ents.toList[j]? = some ents[j] := by simp [hjl]
        simp only [Option.bind_some, hel, Option.map_some] at hf
        obtain ⟨s1, s2, s3⟩ := map_set (.map (ents.eraseIdxIfInBounds j) clock) hb
        have hml : (ents.eraseIdxIfInBounds j).toList = ents.toList.eraseIdx j := by simp [Array.eraseIdxIfInBounds, hjl, Array.toList_eraseIdx]
        refine ⟨.tuple #[], _, B, hrun ?_, hB, s3, fun i hi => s2 i (fun e => hi (e ▸ hown.1)), rfl, rfl, rfl, fun xx => ⟨?_, fun s e => by cases e; simp [rel, relL]⟩⟩
        . rw [ex, ey]
          simp [Builtin.delete_, run_underlying hT, gm_get hb, hc, hf, gm_set _ hb]
        . refine ⟨b, _, _, hblk, ⟨hown.1, map_own s2 s1 hown.2⟩, s1, ?_, ⟨?_, ?_, ?_⟩, by rw [hml]; exact (itOk_del hit hnd s2).1 j hp⟩
          . rw [hml]; exact relE_del (relE_ext xx M _ _ he) hp
          . exact (adel_sub M key es).nodup hnd
          . rw [hml]; exact List.Pairwise.sublist ((List.eraseIdx_sublist _ _).map _) hbp
          . intro m hm
            rw [hml] at hm
            exact hbl m (List.mem_of_mem_eraseIdx hm)
end
end Go.Sx
namespace Go.Sx
open Go
section
variable {β : Nat -> Option Base} {w : World} {S : Nat -> Prop} {M : MapTy} {V V' : M.κ -> M.ν -> MapEntry -> Prop}
theorem relF_mod {k : M.κ} {v : M.ν} {f : MapEntry -> MapEntry} : ∀ {es : List (M.κ × M.ν)} {l : List MapEntry} {i : Nat}, (es.map (·.1)).Nodup →
 (∀ k' v' m, k' ∈ es.map (·.1) -> k' ≠ k -> V k' v' m -> V' k' v' m) -> (∀ v0 m, l[i]? = some m -> es[i]? = some (k, v0) -> V k v0 m -> rel β w S (svOf M.one (M.ek k)) (f m).key ∧ V' k v (f m)) -> relF β w S M V es l -> posK M k es = some i →
 relF β w S M V' (aput M k v es) (l.modify i f)
  | [], l, i, _, _, _, h, e => by simp [posK] at e
  | (j, u) :: es, l, i, hnd, h1, h2, h, e => by
    obtain ⟨m, r, rfl, q1, q2, q3⟩ := h
    simp only [List.map, List.nodup_cons] at hnd
    simp only [posK] at e
    simp only [aput]
    cases ej : M.deq j k with
    | isTrue h' =>
      rw [ej] at e
      simp at e
      subst e
      subst h'
      obtain ⟨r1, r2⟩ := h2 u m rfl rfl q2
      refine ⟨f m, r, by simp, r1, r2, relF_imp (fun k' v' m' hk' => h1 k' v' m' (by simp only [List.map, List.mem_cons]; exact .inr hk') (fun e => hnd.1 (e ▸ hk'))) q3⟩
    | isFalse h' =>
      rw [ej] at e
      simp at e
      obtain ⟨i', e, rfl⟩ := e
      exact ⟨m, _, by simp, q1, h1 _ _ _ (by simp) h' q2, relF_mod hnd.2 (fun k' v' m' hk' => h1 k' v' m' (by simp only [List.map, List.mem_cons]; exact .inr hk')) (fun v0 m' e1 e2 => h2 v0 m' (by simpa using e1) (by simpa using e2)) q3 e⟩
theorem relE_keys : ∀ {es : List (M.κ × M.ν)} {l : List MapEntry}, relE β w S M es l -> relE β w S (keyM M) es l
 | [], l, h => h
 | (k, v) :: es, l, h => by
   obtain ⟨m, r, rfl, h1, h2, h3⟩ := h
   exact ⟨m, r, rfl, h1, by simp [keyM, svOf, rel], relE_keys h3⟩
theorem aput_none {k : M.κ} {v : M.ν} : ∀ {es : List (M.κ × M.ν)}, posK M k es = none -> aput M k v es = es ++ [(k, v)]
 | [], _ => rfl
 | (j, u) :: es, h => by
   simp only [posK] at h
   simp only [aput]
   cases e : M.deq j k with
   | isTrue h' => rw [e] at h; simp at h
   | isFalse h' => rw [e] at h; simp at h; simp [aput_none h]
theorem aput_at {k : M.κ} {v : M.ν} : ∀ {es : List (M.κ × M.ν)} {j : Nat}, posK M k es = some j -> (aput M k v es)[j]? = some (k, v)
 | [], j, h => by simp [posK] at h
 | (y, u) :: es, j, h => by
   simp only [posK] at h
   simp only [aput]
   cases e : M.deq y k with
   | isTrue h' => rw [e] at h; simp at h; subst h; simp [h']
   | isFalse h' =>
     rw [e] at h; simp at h
     obtain ⟨j', h, rfl⟩ := h
     simpa using aput_at h
theorem aput_nodup {k : M.κ} {v : M.ν} {es : List (M.κ × M.ν)} (h : (es.map (·.1)).Nodup) : ((aput M k v es).map (·.1)).Nodup := by
 rw [aput_keys]
 split
 . exact h
 . rename_i hp
   refine List.nodup_append.2 ⟨h, by simp, ?_⟩
   intro a ha b hb e
   simp at hb
   subst hb; subst e
   exact (posK_mem M _ es).1 hp ha
theorem born_push {l : List MapEntry} {m : MapEntry} {clock : Nat} (h1 : (l.map (·.born)).Pairwise (· < ·)) (h2 : ∀ m ∈ l, m.born < clock) (hm : m.born = clock) :
 ((l ++ [m]).map (·.born)).Pairwise (· < ·) ∧ ∀ x ∈ l ++ [m], x.born < clock + 1 := by
  refine ⟨?_, fun x hx => ?_⟩
  . rw [List.map_append, List.pairwise_append]
    refine ⟨h1, by simp, fun p hp q hq => ?_⟩
    obtain ⟨x, hx, rfl⟩ := List.mem_map.1 hp
    simp at hq
    subst hq
    rw [hm]; exact h2 x hx
  . rcases List.mem_append.1 hx with hx | hx
    . exact Nat.lt_succ_of_lt (h2 x hx)
    . simp at hx; subst hx; omega
theorem mem_mod {f : MapEntry -> MapEntry} (hf : ∀ m, (f m).born = m.born) {l : List MapEntry} {i : Nat} {m : MapEntry} (h : m ∈ l.modify i f) : ∃ m' ∈ l, m'.born = m.born := by
 have : m.born ∈ (l.modify i f).map (·.born) := List.mem_map_of_mem h
 rw [born_mod f hf] at this
 obtain ⟨m', h1, h2⟩ := List.mem_map.1 this
 exact ⟨m', h1, h2⟩
end
section
variable {β : Nat -> Option Base} {own : Nat -> Nat -> Prop} {S : Nat -> Prop} {go : GO} {w : World} {M : MapTy} {sub : M.ν -> Sub} {es : List (M.κ × M.ν)}
theorem MemOk.fent (h : MemOk β own S go w) {id j g : Nat} {key : M.κ} (hg : go id = some (.fam M sub es (some (key, j, some g)))) {B : Base} {b : Nat} (hB : β id = some B) (hb : B.blk = some b) {ents : Array MapEntry} {clock : Nat} (he : w.heap[b]? = some (.map ents clock))
 {kv : Value} (hkv : rel β w S (svOf M.one (M.ek key)) kv) {Bj Bg : Base} (hBj : β j = some Bj) (hBg : β g = some Bg) {zv : Value} {w' : World} {ents' : Array MapEntry} {clock' : Nat}
 (hents : (posK M key es = none ∧ ents'.toList = ents.toList ++ [{ key := kv, val := zv, born := clock }] ∧ clock' = clock + 1 ∧ Hnd Bj (sub (agetD M key es)) zv ∧ Bg.str = clock) ∨
  ∃ i, posK M key es = some i ∧ ents'.toList = (ents.toList.modify i fun e => { e with key := kv }) ∧ clock' = clock)
 (hw1 : w'.heap[b]? = some (.map ents' clock')) (hw2 : ∀ y, y ≠ b -> w'.heap[y]? = w.heap[y]?) (hw3 : w'.heap.size = w.heap.size) :
 MemOk β own S (upd go id (some (.fam M sub (aput M key (agetD M key es) es) (some (key, j, some g))))) w' ∧ own id b := by
  obtain ⟨B', hB', b', ents0, clock0, h1, ⟨h2, h2'⟩, h3, ⟨h4, h4', h4''⟩, G, h5, h6⟩ := h.obj _ _ hg
  rw [hB] at hB'; cases hB'
  rw [hb] at h1; cases h1
  rw [he] at h3; cases h3
  have hsi : (go id).isSome := by simp [hg]
  have xx : Ext β w S β w' S := ⟨fun _ _ e => e, fun _ e => e, fun y hy => hw2 y (fun e => by subst e; exact h.st id y hsi h2 hy)⟩
  have there : ∀ y, y < w.heap.size -> (w'.heap[y]?).isSome = true := fun y hy => by
   rw [<- hw3] at hy
   simp [hy]
  have hother : ∀ k' v' m, k' ∈ es.map (·.1) -> k' ≠ key -> famV β w S M sub G (own id) b (some (key, j, some g)) k' v' m -> famV β w' S M sub G (own id) b (some (key, j, some g)) k' v' m := by
   intro k' v' m _ hk ⟨_, hv⟩
   refine ⟨fun a c e => ?_, fun e => ?_⟩
   . simp only [Option.some.injEq, Prod.mk.injEq] at e
     exact absurd e.1.symm hk
   . obtain ⟨r1, r2, r3⟩ := hv e
     exact ⟨r1, r2.ext (fun _ e => e) xx.heap (fun y hy => hw2 y (r3 y hy).2), r3⟩
  have h5' : relF β w' S M (famV β w S M sub G (own id) b (some (key, j, some g))) es ents.toList := relF_mono xx M es (fun _ _ _ _ h => h) _ h5
  have hkv' := rel_ext xx _ _ hkv
  have hV : ∀ (m : MapEntry) (y : M.ν), Hnd Bj (sub y) m.val -> Bg.str = m.born -> famV β w' S M sub G (own id) b (some (key, j, some g)) key y m := by
   intro m y q1 q2
   refine ⟨fun a c e => ?_, fun e => absurd rfl (e j (some g))⟩
   simp only [Option.some.injEq, Prod.mk.injEq, true_and] at e
   obtain ⟨rfl, rfl⟩ := e
   refine ⟨⟨Bj, hBj, q1⟩, fun i e => ?_⟩
   cases e
   exact ⟨Bg, hBg, q2⟩
  have hrel : relF β w' S M (famV β w' S M sub G (own id) b (some (key, j, some g))) (aput M key (agetD M key es) es) ents'.toList ∧ (ents'.toList.map (·.born)).Pairwise (· < ·) ∧ (∀ m ∈ ents'.toList, m.born < clock') := by
   rcases hents with ⟨hp, e1, e2, e3, e4⟩ | ⟨q, hp, e1, e2⟩
   . rw [e1, e2]
     exact ⟨relF_push hkv' (hV _ _ e3 e4) hother h5' hp, born_push h4' h4'' rfl⟩
   . rw [e1, e2]
     refine ⟨relF_mod h4 hother (fun v0 m r1 r2 hv => ⟨hkv', ?_⟩) h5' hp, ?_, ?_⟩
     . have := aget_pos hp
       rw [r2] at this
       cases this
       obtain ⟨⟨Bq, s1, s2⟩, s3⟩ := hv.1 _ _ rfl
       rw [hBj] at s1; cases s1
       obtain ⟨Bq, s4, s5⟩ := s3 _ rfl
       rw [hBg] at s4; cases s4
       exact hV _ _ s2 s5
     . rw [born_mod (fun e : MapEntry => { e with key := kv }) (fun _ => rfl)]; exact h4'
     . intro m' hm'
       obtain ⟨m'', r1, r2⟩ := mem_mod (f := fun e : MapEntry => { e with key := kv }) (fun _ => rfl) hm'
       rw [<- r2]; exact h4'' m'' r1
  obtain ⟨k1, k3, k4⟩ := hrel
  refine ⟨⟨fun i o e => ?_, fun i q c hiq hi hq hc hc' => ?_, fun i c hi hc => ?_, fun c hc => by rw [hw3]; exact h.sz c hc⟩, h2⟩
  . by_cases ei : i = id
    . subst ei
      simp only [upd_same, Option.some.injEq] at e
      subst e
      refine ⟨B, hB, b, ents', clock', hb, ⟨h2, fun y hy => there y (lt_of_there (h2' y hy))⟩, hw1, ⟨aput_nodup h4, k3, k4⟩, G, k1, fun k k' hk hk' hkk h7 h8 => ?_⟩
      have inG : ∀ k, k ∈ (aput M key (agetD M key es) es).map (·.1) -> (∀ a c, some (key, j, some g) ≠ some (k, a, c)) -> k ∈ es.map (·.1) := fun k hk hne => by
       rw [aput_keys] at hk
       split at hk
       . exact hk
       . rcases List.mem_append.1 hk with hk | hk
         . exact hk
         . simp at hk; subst hk; exact absurd rfl (hne j (some g))
      exact h6 k k' (inG k hk h7) (inG k' hk' h8) hkk h7 h8
    . rw [upd_other _ _ ei] at e
      obtain ⟨Bq, r1, r2⟩ := h.obj _ _ e
      exact ⟨Bq, r1, r2.ext xx (fun y hy => hw2 y (fun e' => h.sep i id b ei (by simp [e]) hsi (e' ▸ hy) h2))⟩
  . have some_ : ∀ i, (upd go id (some (.fam M sub (aput M key (agetD M key es) es) (some (key, j, some g)))) i).isSome -> (go i).isSome := fun i hi => by
     by_cases e : i = id
     . subst e; exact hsi
     . rwa [upd_other _ _ e] at hi
    exact h.sep i q c hiq (some_ i hi) (some_ q hq) hc hc'
  . by_cases e : i = id
    . subst e; exact h.st i c hsi hc
    . rw [upd_other _ _ e] at hi; exact h.st i c hi hc
end
section
variable {C : Ctx} {gt : GT} {go : GO} {β : Nat -> Option Base} {own : Nat -> Nat -> Prop} {S : Nat -> Prop} {a : Act} {w : World}
theorem MemOk.widen (h : MemOk β own S go w) {β' : Nat -> Option Base} (hβ : ∀ i B, β i = some B -> β' i = some B) : MemOk β' own S go w := by
 have x : Ext β w S β' w S := ⟨hβ, fun _ e => e, fun _ _ => rfl⟩
 refine ⟨fun id o e => ?_, h.sep, h.st, h.sz⟩
 obtain ⟨B, h1, h2⟩ := h.obj id o e
 exact ⟨B, hβ _ _ h1, h2.ext x (fun _ _ => rfl)⟩
theorem Holds.widen (H : Holds C gt go β own S a w) {β' : Nat -> Option Base} (hβ : ∀ i B, β i = some B -> β' i = some B) : Holds C gt go β' own S a w :=
 ⟨fun t s e => rel_ext ⟨hβ, fun _ e => e, fun _ _ => rfl⟩ _ _ (H.tm t s e), H.mem.widen hβ, H.fr, H.own0, H.s0, H.s1, H.n, H.df, H.gl⟩
end
section
variable {C : Ctx} {gt : GT} {go : GO} {o : Oper} {fresh : Nat} {R : List Loc} {v : Option SV} {os : List (Nat × Option SO)} {k : Nat}
theorem ok_mentF {t : TypeId} {x y : Operand} {one zo : Bool} {ks : List SK} {z : List PV} (ho : o.op = .mapEntry t x y) (hl : LkpOk C.P t one ks zo z) {id : Nat} {sy : SV}
 (hx : ∀ {β own S a w}, Holds C gt go β own S a w -> rel β w S (.mp id) (a.eval x)) (hy : ∀ {β own S a w}, Holds C gt go β own S a w -> rel β w S sy (a.eval y))
 {M : MapTy} {sub : M.ν -> Sub} {es : List (M.κ × M.ν)} (hg : go id = some (.fam M sub es none))
 (h : (keyRT M one ks sy fun key => (match sub (agetD M key es) with
       | .vec s L => .req ((aget M key es).isSome = true ∨ (L = [] ∧ z = [PV.sl s []]))
        (.done (some (.tup [.slc fresh 0 L.length, .gn (fresh + 1)])) [(id, some (.fam M sub (aput M key (agetD M key es) es) (some (key, fresh, some (fresh + 1))))), (fresh, some (.vec s L))] 2)
       | .map _ _ => RT.fail)).Runs gt go R v os k) (hd : DstOk C o.dst v) : OpOk C o fresh gt go v os k := by
  replace h := keyRT_inv h
  obtain ⟨h1, h2, key, R3, h, hkey⟩ := h
  subst h1; subst h2
  obtain ⟨K, E, i, zv, hT, hK, hi, hz, hzr, hzs⟩ := hl.ok
  split at h
  case h_2 => cases h
  rename_i s L hs
  cases h with
  | req hp h =>
    cases h with
    | done =>
      have e0 : posK M key es = none -> L = [] ∧ z = [PV.sl s []] := fun e => hp.resolve_left (fun q => by
       obtain ⟨j, hj⟩ := aget_some.1 q
       rw [e] at hj; cases hj)
      intro β own S a w H hβ next Q hn
      obtain ⟨B, b, ents, clock, hB, hb, ex, hown, he, hr, hnd, hbp, hbl, _⟩ := fam_at H hg (hx H)
      have ey := hkey hK H.mem _ (hy H)
      have hkr : rel β w S (svOf M.one (M.ek key)) (a.eval y) := (rel_key (M.ekk _) hK.len1 _).2 ey
      have hf : β fresh = none := hβ fresh (Nat.le_refl _) (by omega)
      have hf1 : β (fresh + 1) = none := hβ (fresh + 1) (by omega) (by omega)
      have hid : (go id).isSome := by simp [hg]
      have hnf : id ≠ fresh := fun e => by subst e; rw [hf] at hB; cases hB
      obtain ⟨num, hnum⟩ : ∃ num : Nat, (posK M key es = none -> num = clock) ∧ ∀ j m, posK M key es = some j -> ents.toList[j]? = some m -> num = m.born := by
       cases hp : posK M key es with
       | none => exact ⟨clock, fun _ => rfl, (fun j m e => by cases e)⟩
       | some j =>
         obtain ⟨m, hm, _⟩ := relE_at hr j key _ (aget_pos hp)
         refine ⟨m.born, (fun e => by cases e), fun j' m' e1 e2 => ?_⟩
         cases e1; rw [hm] at e2; cases e2; rfl
      let β1 := upd β (fresh + 1) (some ⟨none, num, 0⟩)
      have hβ1 : ∀ i B, β i = some B -> β1 i = some B := fun i B e => by
       by_cases hi : i = fresh + 1
       . subst hi; rw [hf1] at e; cases e
       . exact (upd_other _ _ hi).trans e
      have H1 := H.widen hβ1
      obtain ⟨B0, F0, hm, xx, hF, hv⟩ := H1.mem.take hg (hβ1 _ _ hB) hb he (key := key) (fresh := fresh) (by show upd β (fresh + 1) _ fresh = none; rw [upd_other _ _ (by omega)]; exact hf) (g := some (fresh + 1))
       (fun i e => by cases e; exact ⟨_, upd_same _ _ _, fun j m e1 e2 => hnum.2 j m e1 e2⟩) (fun e => ⟨s, by rw [hs, (e0 e).1]⟩)
      obtain ⟨u1, u2⟩ := run_entryK (w := w) hT hK hi hz he hr key
      obtain ⟨x0, w', ents', clock', hrun, hents, s1, s2, s3, g1, g2, g3, hxv⟩ : ∃ x0 w' ents' clock', (execOp a.eval o).run C.P w = .ok (.value (.tuple #[x0, goInt num])) w' ∧
       ((posK M key es = none ∧ ents'.toList = ents.toList ++ [{ key := a.eval y, val := zv, born := clock }] ∧ clock' = clock + 1 ∧ Hnd B0 (sub (agetD M key es)) zv ∧ num = clock) ∨
         ∃ i, posK M key es = some i ∧ ents'.toList = (ents.toList.modify i fun e => { e with key := a.eval y }) ∧ clock' = clock) ∧
       w'.heap[b]? = some (.map ents' clock') ∧ (∀ y, y ≠ b -> w'.heap[y]? = w.heap[y]?) ∧ w'.heap.size = w.heap.size ∧ w'.os = w.os ∧ w'.tape = w.tape ∧ w'.output = w.output ∧ Hnd B0 (sub (agetD M key es)) x0 := by
        cases hp : posK M key es with
        | none =>
          obtain ⟨s1, s2, s3⟩ := map_set (.map (ents.push { key := a.eval y, val := zv, born := clock }) (clock + 1)) he
          have hzv : Hnd B0 (sub (agetD M key es)) zv := hv zv (.inl ⟨hp, hzs s (e0 hp).2⟩)
          refine ⟨zv, _, _, _, ?_, .inl ⟨rfl, by simp, rfl, hzv, hnum.1 hp⟩, s1, s2, s3, rfl, rfl, rfl, hzv⟩
          simp only [execOp, ho]
          rw [ex, ey, hnum.1 hp]
          simp [u1 hp]
        | some j =>
          obtain ⟨m, hm, _⟩ := relE_at hr j key _ (aget_pos hp)
          obtain ⟨s1, s2, s3⟩ := map_set (.map (ents.modify j fun e => { e with key := a.eval y }) clock) he
          refine ⟨m.val, _, _, _, ?_, .inr ⟨j, rfl, by simp, rfl⟩, s1, s2, s3, rfl, rfl, rfl, hv _ (.inr ⟨j, m, hp, hm, rfl⟩)⟩
          simp only [execOp, ho]
          rw [ex, ey, hnum.2 j m hp hm]
          simp [u2 j m hp hm]
      have hne1 : fresh + 1 ≠ fresh := by omega
      have hgo1 : upd (upd go id (some (.fam M sub es (some (key, fresh, some (fresh + 1)))))) fresh (some (sub (agetD M key es)).so) id = some (.fam M sub es (some (key, fresh, some (fresh + 1)))) := by
       rw [upd_other _ _ hnf, upd_same]
      obtain ⟨hm2, hob⟩ := hm.fent hgo1 (xx.ids _ _ (hβ1 _ _ hB)) hb he (rel_ext xx _ _ (rel_ext ⟨hβ1, fun _ e => e, fun _ _ => rfl⟩ _ _ hkr)) (upd_same _ _ _) (xx.ids _ _ (upd_same _ _ _)) (zv := zv) hents s1 s2 s3
      have hgo2 : upd (upd (upd go id (some (.fam M sub es (some (key, fresh, some (fresh + 1)))))) fresh (some (sub (agetD M key es)).so)) id (some (.fam M sub (aput M key (agetD M key es) es) (some (key, fresh, some (fresh + 1))))) =
       upd (upd go id (some (.fam M sub (aput M key (agetD M key es) es) (some (key, fresh, some (fresh + 1)))))) fresh (some (.vec s L)) := by
        funext q
        by_cases e1 : q = id
        . subst e1; rw [upd_same, upd_other _ _ hnf, upd_same]
        . rw [upd_other _ _ e1]
          by_cases e2 : q = fresh
          . subst e2; rw [upd_same, upd_same, hs]; rfl
          . rw [upd_other _ _ e2, upd_other _ _ e1, upd_other _ _ e2, upd_other _ _ e1]
      rw [hgo2] at hm2
      have hob' : own id b := by
       rw [upd_other _ _ hnf, upd_same] at hob
       exact hob.1
      have x1 : Ext β w S (upd β1 fresh (some B0)) w' S := ⟨fun i B e => xx.ids _ _ (hβ1 _ _ e), fun _ e => e, fun y hy => s2 y (fun e => by subst e; exact H.mem.st id y hid hob' hy)⟩
      refine wpIn_run (by simp [ho]) hrun (hn (upd β1 fresh (some B0)) (upd (upd own id (fun x => own id x ∧ ¬ F0 x)) fresh F0) S _ w' (fun i hi => ?_) ?_)
      . rw [upd_other _ _ (fun (e : i = fresh) => hi (by omega))]
        exact upd_other _ _ (fun (e : i = fresh + 1) => hi (by omega))
      refine H.step x1 hm2 ⟨g1, g2, g3, by rw [s3]; exact Nat.le_refl _, fun y hy hx => s2 y (fun e => hx ⟨id, hid, by rw [e]; exact hob'⟩)⟩ (fun i c h1 h2 => .inl ?_) (fun c h => .inl h) o.dst _ _ (dstw_ok hd (fun s' e => ?_)) (dstw_none hd gt)
      . by_cases e : i = fresh
        . subst e; rw [upd_same] at h2; exact ⟨id, hid, hF c h2⟩
        . rw [upd_other _ _ e] at h1 h2
          by_cases e2 : i = id
          . subst e2; rw [upd_same] at h2; exact ⟨i, hid, h2.1⟩
          . rw [upd_other _ _ e2] at h1 h2; exact ⟨i, h1, h2⟩
      . cases e
        have r1 := hnd_rel (β := upd β1 fresh (some B0)) (w := w') (S := S) (upd_same _ _ _) hxv
        rw [hs] at r1
        replace r1 : rel (upd β1 fresh (some B0)) w' S (.slc fresh 0 L.length) x0 := r1
        have hg1 : upd β1 fresh (some B0) (fresh + 1) = some ⟨none, num, 0⟩ := by rw [upd_other _ _ hne1]; exact upd_same _ _ _
        have r2 : rel (upd β1 fresh (some B0)) w' S (.gn (fresh + 1)) (goInt num) := ⟨_, hg1, rfl⟩
        simp only [rel, relL] at r1 r2 ⊢
        exact ⟨_, rfl, _, _, rfl, r1, _, _, rfl, r2, rfl⟩
end
end Go.Sx
namespace Go.Sx
open Go
section
variable {C : Ctx} {gt : GT} {go : GO} {o : Oper} {fresh : Nat} {R : List Loc} {v : Option SV} {os : List (Nat × Option SO)} {k : Nat}
theorem ok_ment {t : TypeId} {x y : Operand} {one zo : Bool} {ks : List SK} {z : List PV} (ho : o.op = .mapEntry t x y) (hl : LkpOk C.P t one ks zo z)
 (h : (MO.rt C.toEnv fresh (.ment one ks zo z (cX x) (cX y))).Runs gt go R v os k) (hd : DstOk C o.dst v) : OpOk C o fresh gt go v os k := by
  simp only [MO.rt] at h
  replace h := rd_inv h
  obtain ⟨sx, R1, h, hx⟩ := h
  replace h := rd_inv h
  obtain ⟨sy, R2, h, hy⟩ := h
  split at h
  case h_2 => cases h
  rename_i id
  cases h with
  | rO h =>
    dsimp only at h
    split at h
    case h_3 => cases h
    case h_2 M sub es hh hg =>
     split at h
     case h_2 => cases h
     exact ok_mentF ho hl hx hy hg h hd
    rename_i M es it hg
    replace h := keyRT_inv h
    obtain ⟨h1, h2, key, R3, h, hkey⟩ := h
    subst h1; subst h2
    obtain ⟨K, E, i, zv, hT, hK, hi, hz, hzr, _⟩ := hl.ok
    cases h with
    | req hp h =>
      obtain ⟨hv1, hv2⟩ := hp
      cases h with
      | done =>
        intro β own S a w H hβ next Q hn
        obtain ⟨B, b, ents, clock, hB, hblk, ex, hown, he, hr, ⟨hnd, hbp, hbl⟩, _⟩ := map_at H hg (hx H)
        have ey := hkey hK H.mem _ (hy H)
        have hkr : rel β w S (svOf M.one (M.ek key)) (a.eval y) := (rel_key (M.ekk _) hK.len1 _).2 ey
        have hf : β fresh = none := hβ fresh (Nat.le_refl _) (by omega)
        have hid : (go id).isSome := by simp [hg]
        have hzr' : rel β w S (svOf M.vone (M.ev M.d)) zv := by rw [hv1, hv2]; exact hzr β w S
        obtain ⟨u1, u2⟩ := run_entryK (w := w) hT hK hi hz he (relE_keys hr) key
        obtain ⟨num, x0, w', ents', clock', hrun, hw1, hw2, hw3, g1, g2, g3, hx0, hobj⟩ : ∃ (num : Nat) (x0 : Value) (w' : World) (ents' : Array MapEntry) (clock' : Nat), (execOp a.eval o).run C.P w = .ok (.value (.tuple #[x0, goInt num])) w' ∧
         w'.heap[b]? = some (.map ents' clock') ∧ (∀ y, y ≠ b -> w'.heap[y]? = w.heap[y]?) ∧ w'.heap.size = w.heap.size ∧ w'.os = w.os ∧ w'.tape = w.tape ∧ w'.output = w.output ∧
         rel β w S (svOf M.vone (M.ev (agetD M key es))) x0 ∧
         (Ext β w S β w' S -> relE β w' S M (aput M key (agetD M key es) es) ents'.toList ∧ ((aput M key (agetD M key es) es).map (·.1)).Nodup ∧ (ents'.toList.map (·.born)).Pairwise (· < ·) ∧ (∀ m ∈ ents'.toList, m.born < clock') ∧
          ∃ (i : Nat) (m : MapEntry) (v : M.ν), ents'.toList[i]? = some m ∧ (aput M key (agetD M key es) es)[i]? = some (key, v) ∧ num = m.born) := by
          cases hp : posK M key es with
          | none =>
            obtain ⟨s1, s2, s3⟩ := map_set (.map (ents.push { key := a.eval y, val := zv, born := clock }) (clock + 1)) he
            refine ⟨clock, zv, _, _, _, ?_, s1, s2, s3, rfl, rfl, rfl, by rw [aget_none hp]; exact hzr', fun xx => ?_⟩
            . simp only [execOp, ho]
              rw [ex, ey]
              simp [u1 hp]
            . have hl := relE_len hr
              rw [Array.toList_push]
              refine ⟨relE_push (rel_ext xx _ _ hkr) (rel_ext xx _ _ (by rw [aget_none hp]; exact hzr')) (relE_ext xx M _ _ hr) hp, aput_nodup hnd, (born_push hbp hbl rfl).1, (born_push hbp hbl rfl).2, es.length, { key := a.eval y, val := zv, born := clock }, agetD M key es, ?_, ?_, rfl⟩
              . rw [<- hl]; simp
              . rw [aput_none hp]; simp
          | some j =>
            obtain ⟨m, hm, hmk, hmv⟩ := relE_at hr j key _ (aget_pos hp)
            obtain ⟨s1, s2, s3⟩ := map_set (.map (ents.modify j fun e => { e with key := a.eval y }) clock) he
            refine ⟨m.born, m.val, _, _, _, ?_, s1, s2, s3, rfl, rfl, rfl, hmv, fun xx => ?_⟩
            . simp only [execOp, ho]
              rw [ex, ey]
              simp [u2 j m hp hm]
            . have hml : (ents.modify j fun e => { e with key := a.eval y }).toList = ents.toList.modify j fun e => { e with key := a.eval y, val := m.val } := by
               rw [Array.toList_modify]
               exact modify_congr (fun m' hm' => by rw [hm] at hm'; cases hm'; rfl)
              rw [hml]
              refine ⟨relE_put (rel_ext xx _ _ hkr) (rel_ext xx _ _ hmv) (relE_ext xx M _ _ hr) hp, aput_nodup hnd, by rw [born_modify]; exact hbp, fun m' hm' => ?_, j, { m with key := a.eval y, val := m.val }, _, ?_, aput_at hp, rfl⟩
              . obtain ⟨m'', r1, r2⟩ := mem_modify_born hm'
                rw [<- r2]; exact hbl m'' r1
              . rw [List.getElem?_modify_eq, hm]; rfl
        let β1 := upd β fresh (some ⟨none, num, 0⟩)
        have hβ1 : ∀ i B, β i = some B -> β1 i = some B := fun i B e => by
         by_cases hi : i = fresh
         . subst hi; rw [hf] at e; cases e
         . exact (upd_other _ _ hi).trans e
        have H1 := H.widen hβ1
        have x0' : Ext β w S β w' S := ⟨fun _ _ e => e, fun _ e => e, fun y hy => hw2 y (fun e => by subst e; exact H.mem.st id y hid hown.1 hy)⟩
        have x1 : Ext β w' S β1 w' S := ⟨hβ1, fun _ e => e, fun _ _ => rfl⟩
        have x2 := x0'.trans x1
        refine wpIn_run (by simp [ho]) hrun (hn β1 own S _ w' (fun i hi => upd_other β _ (fun (e : i = fresh) => hi (by omega))) ?_)
        refine H1.set hg (hβ1 _ _ hB) hw3 (fun y hy => hw2 y (fun e => hy (e ▸ hown.1))) g1 g2 g3 (fun xx => ?_) o.dst _ _ (dstw_ok hd (fun s' e => ?_)) (dstw_none hd gt)
        . obtain ⟨k1, k2, k3, k4, i, m, v, k5, k6, k7⟩ := hobj x0'
          exact ⟨b, ents', clock', hblk, ⟨hown.1, map_own hw2 hw1 hown.2⟩, hw1, relE_ext x1 M _ _ k1, ⟨k2, k3, k4⟩, i, m, v, ⟨none, num, 0⟩, k5, k6, upd_same _ _ _, k7⟩
        . cases e
          have r1 := rel_ext x2 _ _ hx0
          have r2 : rel β1 w' S (.gn fresh) (goInt num) := ⟨_, upd_same _ _ _, rfl⟩
          rw [rel]
          exact ⟨_, rfl, by rw [relL]; exact ⟨_, _, rfl, r1, by rw [relL]; exact ⟨_, _, rfl, r2, by rw [relL]⟩⟩⟩
theorem ok_mest {t : TypeId} {x y z : Operand} (ho : o.op = .entryStore t x y z) (hd : o.dst = none)
 (h : (MO.rt C.toEnv fresh (.mest (cX x) (cX y) (cX z))).Runs gt go R v os k) : OpOk C o fresh gt go v os k := by
  simp only [MO.rt] at h
  replace h := rd_inv h
  obtain ⟨sx, R1, h, hx⟩ := h
  replace h := rd_inv h
  obtain ⟨sy, R2, h, hy⟩ := h
  replace h := rd_inv h
  obtain ⟨sz, R3, h, hz⟩ := h
  split at h
  case h_2 => cases h
  rename_i id g
  have hgn : ∀ {β own S a w}, Holds C gt go β own S a w -> ∃ B, β g = some B ∧ a.eval y = .int .i64 B.str := fun {β own S a w} H => by
   have := hy H
   simpa only [rel] using this
  cases h with
  | rO h =>
    dsimp only at h
    split at h
    case h_3 => cases h
    case h_2 M sub es hh hg =>
     split at h
     case h_2 => cases h
     rename_i key j g'
     simp only [eqN] at h
     split at h
     case h_2 => cases h
     rename_i hgg
     have hgg := Nat.eq_of_beq_eq_true hgg
     subst hgg
     cases h with
     | req hpos h =>
     refine ok_famPut hg (fun a c d e => by cases e; rfl) hz h (by simp [ho]) hd fun {β own S a w} H => ?_
     obtain ⟨B, b, ents, clock, hB, hb, ex, hown, he, hr, hnd, hbp, hbl, G, hF⟩ := fam_at H hg (hx H)
     obtain ⟨Bg, hBg, ey⟩ := hgn H
     obtain ⟨q, hq⟩ := aget_some.1 hpos
     obtain ⟨m, hm, hmk, hv, _⟩ := relF_at hF q key _ (aget_pos hq)
     obtain ⟨_, hv⟩ := hv _ _ rfl
     obtain ⟨Bg', r1, r2⟩ := hv _ rfl
     rw [hBg] at r1; cases r1
     have hrun := run_entryStoreK (P := C.P) (T := t) he hm hbp (a.eval z)
     obtain ⟨s1, s2, s3⟩ := map_set (.map (ents.modify q fun e => { e with val := a.eval z }) clock) he
     refine ⟨B, b, ents, clock, m.key, _, _, _, hB, hb, he, hmk, ?_, .inr ⟨q, hq, ?_, rfl⟩, s1, s2, s3, rfl, rfl, rfl⟩
     . simp only [execOp, ho]
       rw [ex, ey, r2]
       simp [hrun]
     . rw [Array.toList_modify]
       exact modify_congr (fun m' hm' => by rw [hm] at hm'; cases hm'; rfl)
    . rename_i M es key g' hg
      simp only [eqN] at h
      split at h
      case h_2 => cases h
      rename_i hgg
      have hgg := Nat.eq_of_beq_eq_true hgg
      subst hgg
      cases h with
      | ex val _ h =>
        obtain ⟨ρ', R5, h, _, _, hm0⟩ := mSV_inv _ h
        split at h
        case h_2 => cases h
        rename_i hbor
        cases h with
        | done =>
          refine ok_set (by simp [ho]) hd hg fun {β own S a w} H => ?_
          have hxx := hx H
          simp only [rel] at hxx
          obtain ⟨B, b, hB, hblk, ex⟩ := hxx
          obtain ⟨B', h1, b', ents, clock, h2, hown, he, hr, ⟨hnd, hbp, hbl⟩, q, m, v0, Bg', k1, k2, k3, k4⟩ := H.mem.obj _ _ hg
          rw [hB] at h1; cases h1
          rw [hblk] at h2; cases h2
          obtain ⟨Bg, hBg, ey⟩ := hgn H
          rw [hBg] at k3; cases k3
          have hvr := hm0 ρ' (.refl _) (fit_of H.mem) (fun _ => 0) _ (hz H)
          have hS : (fun b => S b ∨ lent go ρ' own b) = S := by
           funext q; apply propext
           exact ⟨fun h => h.elim (fun e => e) (fun ⟨j, hj, _⟩ => by rw [hbor] at hj; cases hj), .inl⟩
          rw [hS] at hvr
          have hvr : rel β w S (svOf M.vone (M.ev val.down)) (a.eval z) := by
           have key : ∀ (l : List PV) (x : Value), rel (bOf ρ' β fun _ => 0) w S (svOf M.vone l) x -> rel β w S (svOf M.vone l) x := fun l x h => svOf_rel (fun _ e => e) h
           exact key _ _ hvr
          obtain ⟨m', k1', hmk, _⟩ := relE_at hr q key v0 k2
          rw [k1] at k1'; cases k1'
          have hp : posK M key es = some q := by
           cases hp : posK M key es with
           | none => exact absurd (List.mem_map.2 ⟨(key, v0), List.mem_of_getElem? k2, rfl⟩) ((posK_mem M key es).1 hp)
           | some q' =>
             have := aget_pos hp
             have a1 : (es.map (·.1))[q]? = some key := by simp [k2]
             have a2 : (es.map (·.1))[q']? = some key := by simp [this]
             rw [(List.getElem?_inj (List.getElem?_eq_some_iff.1 a2).1 hnd).1 (a2.trans a1.symm)]
          have hrun := run_entryStoreK (P := C.P) (T := t) he k1 hbp (a.eval z)
          obtain ⟨s1, s2, s3⟩ := map_set (.map (ents.modify q fun e => { e with val := a.eval z }) clock) he
          refine ⟨_, B, ?_, hB, s3, fun i hi => s2 i (fun e => hi (e ▸ hown.1)), rfl, rfl, rfl, fun xx => ?_⟩
          . simp only [execOp, ho]
            rw [ex, ey, k4]
            simp [hrun]
          . have hml : (ents.modify q fun e => { e with val := a.eval z }).toList = ents.toList.modify q fun e => { e with key := m.key, val := a.eval z } := by
             rw [Array.toList_modify]
             exact modify_congr (fun m' hm' => by rw [k1] at hm'; cases hm'; rfl)
            refine ⟨b, _, _, hblk, ⟨hown.1, map_own s2 s1 hown.2⟩, s1, ?_, ⟨aput_nodup hnd, ?_, ?_⟩, trivial⟩
            . rw [hml]
              exact relE_put (rel_ext xx _ _ hmk) (rel_ext xx _ _ hvr) (relE_ext xx M _ _ hr) hp
            . rw [hml, born_modify]; exact hbp
            . intro m' hm'
              rw [hml] at hm'
              obtain ⟨m'', h1, h2⟩ := mem_modify_born hm'
              rw [<- h2]; exact hbl m'' h1
theorem ok_sls3 {t : TypeId} {s : Nat} {x hi mx : Operand} (ho : o.op = .slice t x none (some hi) (some mx)) (hi' : IxaOk C.P t s)
 (h : (MO.rt C.toEnv fresh (.sls3 s (cX x) (cX hi) (cX mx))).Runs gt go R v os k) (hd : DstOk C o.dst v) : OpOk C o fresh gt go v os k := by
  simp only [MO.rt] at h
  replace h := rd_inv h
  obtain ⟨sx, R1, h, hx⟩ := h
  replace h := rd_inv h
  obtain ⟨sh, R2, h, hh⟩ := h
  replace h := rd_inv h
  obtain ⟨sm, R3, h, hm⟩ := h
  obtain ⟨e, ie, hu, hie, hsz⟩ := hi'
  split at h
  case h_2 => cases h
  rename_i id b0 ln
  split at h
  case h_2 => cases h
  rename_i k1 h0
  split at h
  case h_2 => cases h
  rename_i k2 m0
  cases h with
  | rO h =>
    dsimp only at h
    split at h
    case h_2 => cases h
    rename_i s' L hg
    simp only [eqN] at h
    split at h
    case h_2 => cases h
    rename_i hs
    have hs := Nat.eq_of_beq_eq_true hs
    subst hs
    cases h with
    | req hp h =>
      obtain ⟨rfl, hp1, hp2⟩ := hp
      obtain ⟨rfl, rfl, rfl⟩ := ret1_inv h
      refine ok_val (by simp [ho]) hd fun {β own S a w} H => ?_
      have h1 := hx H
      have h2 := hh H
      have h3 := hm H
      simp only [rel] at h1 h2 h3
      obtain ⟨B, hB, h1⟩ := h1
      obtain ⟨B', q1, q2⟩ := H.mem.obj _ _ hg
      rw [hB] at q1; cases q1
      unfold slcRel at h1
      split at h1
      . obtain ⟨_, _, rfl⟩ := h1; omega
      . rename_i b hb
        obtain ⟨off, cap, e1, hc1, hc2, hc3⟩ := h1
        have hoff : off = b0 * B.str := hc3.resolve_left (by omega)
        have hlow : (0 : Int) ≤ h0 := by omega
        have hcap : h0 ≤ (cap : Int) := by omega
        have hs' : (sizeOf e).run C.P w = .ok s w := by simp [sizeOf, typeInfo, hie, hsz]
        have hrun : (Instr.sliceAt t (a.eval x) none (some (a.eval hi)) (some (a.eval mx))).run C.P w = .ok (.slice (some ⟨b, off, none⟩) h0.toNat h0.toNat) w := by
         unfold Instr.sliceAt
         simp only [Sem.run_bind, run_underlying hu, Result.andThen_ok]
         unfold Instr.slice
         simp only [Sem.run_bind, run_underlying hu, Result.andThen_ok, e1, h2, h3]
         have hb : (Instr.sliceBounds true ln cap none (some (.int k1 h0)) (some (.int k2 h0))).run C.P w = .ok (0, h0.toNat, h0.toNat) w := by
          simp [Instr.sliceBounds, Instr.sliceBound, asIntOf, hlow, hcap]
          omega
         simp only [hb, hs', Result.andThen_ok, Sem.run_pure, Sem.run_bind]
         have : h0.toNat ≠ 0 := by omega
         simp [this, Addr.add]
        refine ⟨_, by simp only [execOp, ho, Option.map_none, Option.map_some]; simp [hrun]; rfl, ?_⟩
        simp only [rel]
        exact ⟨B, b, hB, hb, by rw [hoff], by omega⟩
end
end Go.Sx
namespace Go.Sx
open Go
def ghVc (g : Gh) (s : St) (K : St -> Prop) : Prop :=
 match s with
 | ⟨t, o, nx⟩ => match g with
   | .toFam id => (match goOf o id with
     | some (.map M es _) => (match es with
       | [] => ∃ sub : M.ν -> Sub, K ⟨t, (id, some (.fam M sub [] none)) :: o, nx⟩
       | _ :: _ => False)
     | _ => False)
   | .toMap id => (match goOf o id with
     | some (.fam M sub es h) => (match h with
       | none => Sd (M.vone = true ∧ ∀ v, ∃ s L, sub v = .vec s L ∧ M.ev v = [.sl s L]) ∧ K ⟨t, (id, some (.map M es none)) :: o, nx⟩
       | some _ => False)
     | _ => False)
   | .putb id => (match goOf o id with
     | some (.fam M sub es h) => (match h with
       | some (k, j, _) => (match goOf o j with
         | some oj => Sd (oj = (sub (agetD M k es)).so) ∧ K ⟨t, (id, some (.fam M sub es none)) :: (j, none) :: o, nx⟩
         | none => False)
       | none => False)
     | _ => False)
   | .putc id => (match goOf o id with
     | some (.fam M sub es h) => (match h with
       | some (k, j, _) => (match goOf o j with
         | some oj => ∃ x : M.ν, Sd ((aget M k es).isSome = true ∧ oj = (sub x).so ∧ ∀ B v, Hnd B (sub (agetD M k es)) v -> Hnd B (sub x) v) ∧ K ⟨t, (id, some (.fam M sub (aput M k x es) none)) :: (j, none) :: o, nx⟩
         | none => False)
       | none => False)
     | _ => False)
   | .opn id => (match goOf o id with
     | some (.vex s p) => ∀ L, p L -> K ⟨t, (id, some (.vec s L)) :: o, nx⟩
     | _ => False)
   | .opt n => (match gtOf t n with
     | some (.fex p) => ∀ x, p x -> K ⟨(n, x.sv) :: t, o, nx⟩
     | _ => False)
theorem aput_same {M : MapTy} {k : M.κ} : ∀ {es : List (M.κ × M.ν)} {j : Nat}, posK M k es = some j -> aput M k (agetD M k es) es = es
 | [], j, h => by simp [posK] at h
 | (y, u) :: es, j, h => by
   have e1 : agetD M k ((y, u) :: es) = match M.deq y k with | isTrue _ => u | isFalse _ => agetD M k es := by
    simp only [agetD, aget]
    cases M.deq y k <;> rfl
   rw [e1]
   simp only [posK] at h
   simp only [aput]
   cases e : M.deq y k with
   | isTrue h' => rfl
   | isFalse h' =>
     rw [e] at h; simp at h
     obtain ⟨j', h, rfl⟩ := h
     simp only
     rw [aput_same h]
section
variable {C : Ctx} {gt : GT} {go : GO} {β : Nat -> Option Base} {own : Nat -> Nat -> Prop} {S : Nat -> Prop} {a : Act} {w : World}
theorem Holds.turn (H : Holds C gt go β own S a w) {go' : GO} {own' : Nat -> Nat -> Prop} {S' : Nat -> Prop} (hs : ∀ b, S b -> S' b) (hm : MemOk β own' S' go' w)
 (h1 : ∀ i b, (go' i).isSome -> own' i b -> ∃ i, (go i).isSome ∧ own i b) (h2 : ∀ b, S' b -> S b ∨ ∃ i, (go i).isSome ∧ own i b) : Holds C gt go' β own' S' a w :=
  H.step ⟨fun _ _ e => e, hs, fun _ _ => rfl⟩ hm ⟨rfl, rfl, rfl, Nat.le_refl _, fun _ _ _ => rfl⟩ (fun i b e1 e2 => .inl (h1 i b e1 e2)) (fun b e => (h2 b e).elim .inl (fun q => .inr (.inl q))) none undef none (fun d s e => by cases e) (fun _ => .inl rfl)
theorem MemOk.turn (h : MemOk β own S go w) {id : Nat} {o0 o : SO} (hg : go id = some o0) (ho : ∀ B, β id = some B -> ObjOk β w S B (own id) o0 -> ObjOk β w S B (own id) o) : MemOk β own S (upd go id (some o)) w := by
 have some_ : ∀ i, (upd go id (some o) i).isSome -> (go i).isSome := fun i hi => by
  by_cases e : i = id
  . subst e; simp [hg]
  . rwa [upd_other _ _ e] at hi
 refine ⟨fun i o' e => ?_, fun i j b hij hi hj => h.sep i j b hij (some_ i hi) (some_ j hj), fun i b hi => h.st i b (some_ i hi), h.sz⟩
 by_cases ei : i = id
 . subst ei
   rw [upd_same] at e; cases e
   obtain ⟨B, q1, q2⟩ := h.obj _ _ hg
   exact ⟨B, q1, ho B q1 q2⟩
 . rw [upd_other _ _ ei] at e
   exact h.obj _ _ e
theorem isSome_upd {go : GO} {id i : Nat} {o0 o : SO} (hg : go id = some o0) (hi : (upd go id (some o) i).isSome) : (go i).isSome := by
 by_cases e : i = id
 . subst e; simp [hg]
 . rwa [upd_other _ _ e] at hi
theorem isSome_drop {go : GO} {id i : Nat} (hi : (upd go id none i).isSome) : (go i).isSome := by
 by_cases e : i = id
 . subst e; simp at hi
 . rwa [upd_other _ _ e] at hi
theorem MemOk.frz (h : MemOk β own S go w) {id : Nat} {M : MapTy} {sub : M.ν -> Sub} {es : List (M.κ × M.ν)} (hg : go id = some (.fam M sub es none)) (hv : M.vone = true) (hs : ∀ v, ∃ s L, sub v = .vec s L ∧ M.ev v = [.sl s L]) :
 ∃ own' S', MemOk β own' S' (upd go id (some (.map M es none))) w ∧ (∀ b, S b -> S' b) ∧ (∀ i b, own' i b -> own i b) ∧ (∀ b, S' b -> S b ∨ own id b) := by
  obtain ⟨B, hB, b, ents, clock, h1, ⟨h2, h2'⟩, h3, h4, G, h5, h6⟩ := h.obj _ _ hg
  have hsi : (go id).isSome := by simp [hg]
  let S' : Nat -> Prop := fun x => S x ∨ ∃ k, k ∈ es.map (·.1) ∧ (G k).2 x
  have Gown : ∀ k, k ∈ es.map (·.1) -> ∀ y, (G k).2 y -> own id y ∧ y ≠ b := fun k hk y hy => by
   obtain ⟨⟨k0, v0⟩, hm, rfl⟩ := List.mem_map.1 hk
   obtain ⟨p, hp⟩ := List.getElem?_of_mem hm
   obtain ⟨m, _, _, _, hv⟩ := relF_at h5 p _ _ hp
   exact (hv (fun a c e => by cases e)).2.2 y hy
  have x : Ext β w S β w S' := ⟨fun _ _ e => e, fun _ e => .inl e, fun _ _ => rfl⟩
  refine ⟨upd own id (one1 b), S', ⟨fun i o e => ?_, fun i j c hij hi hj hc hc' => ?_, fun i c hi hc hS => ?_, fun c hc => ?_⟩, fun b e => .inl e, fun i c hc => ?_, fun c hc => ?_⟩
  . by_cases ei : i = id
    . subst ei
      rw [upd_same] at e ⊢; cases e
      refine ⟨B, hB, b, ents, clock, h1, ⟨rfl, fun y hy => by cases hy; simp [h3]⟩, h3, ?_, h4, trivial⟩
      refine relF_relE (es0 := es) (fun k v m hm hV => ?_) (fun x hx => hx) (relF_mono x M es (V' := famV β w S M sub G (own i) b none) (fun _ _ _ _ h => h) _ h5)
      obtain ⟨_, hV⟩ := hV
      obtain ⟨q1, q2, q3⟩ := hV (fun _ _ e => by cases e)
      obtain ⟨s, L, e1, e2⟩ := hs v
      rw [e1] at q1 q2
      rw [hv, e2]
      simp only [svOf, PV.sv, rel, relP]
      simp only [Hnd, slcRel] at q1
      rcases q2 with ⟨r1, rfl, _⟩ | ⟨b1, arr, T, r1, r2, r3, r4, r5, r6, r7⟩
      . rw [r1] at q1
        exact ⟨none, 0, q1.1, Nat.le_refl _, fun e => absurd rfl e, fun _ => rfl⟩
      . rw [r1] at q1
        obtain ⟨off, cap, t0, t1, t2, t3⟩ := q1
        refine ⟨_, cap, t0, t1, fun hne => ?_, fun e => by cases e⟩
        have hpos := List.length_pos_iff.2 hne
        have hoff : off = 0 := by
         rcases t3 with t3 | t3
         . omega
         . simpa using t3
        subst hoff
        refine ⟨b1, 0, arr, T, _, rfl, .inr ⟨k, List.mem_map.2 ⟨(k, v), hm, rfl⟩, by rw [r3]; rfl⟩, r4, ?_⟩
        simpa using relPR_ext (S' := S') (fun _ e => .inl e) (fun _ _ => rfl) s L _ r7
    . rw [upd_other _ _ ei] at e ⊢
      obtain ⟨B', q1, q2⟩ := h.obj _ _ e
      exact ⟨B', q1, q2.ext x (fun _ _ => rfl)⟩
  . have o1 : ∀ i c, upd own id (one1 b) i c -> own i c := fun i c hc => by
     by_cases e : i = id
     . subst e; rw [upd_same] at hc; cases hc; exact h2
     . rwa [upd_other _ _ e] at hc
    exact h.sep i j c hij (isSome_upd hg hi) (isSome_upd hg hj) (o1 i c hc) (o1 j c hc')
  . by_cases e : i = id
    . subst e; rw [upd_same] at hc; cases hc
      rcases hS with hS | ⟨k, hk, hy⟩
      . exact h.st i b hsi h2 hS
      . exact (Gown k hk b hy).2 rfl
    . rw [upd_other _ _ e] at hc
      rcases hS with hS | ⟨k, hk, hy⟩
      . exact h.st i c (isSome_upd hg hi) hc hS
      . exact h.sep i id c e (isSome_upd hg hi) hsi hc (Gown k hk c hy).1
  . rcases hc with hc | ⟨k, hk, hy⟩
    . exact h.sz c hc
    . exact lt_of_there (h2' c (Gown k hk c hy).1)
  . by_cases e : i = id
    . subst e; rw [upd_same] at hc; cases hc; exact h2
    . rwa [upd_other _ _ e] at hc
  . rcases hc with hc | ⟨k, hk, hy⟩
    . exact .inl hc
    . exact .inr (Gown k hk c hy).1
theorem Holds.back (H : Holds C gt go β own S a w) {id j : Nat} {M : MapTy} {sub : M.ν -> Sub} {es : List (M.κ × M.ν)} {key : M.κ} {g : Option Nat} (hg : go id = some (.fam M sub es (some (key, j, g)))) {x : M.ν} (hj : go j = some (sub x).so)
 (hx : ∀ B v, Hnd B (sub (agetD M key es)) v -> Hnd B (sub x) v) : ∃ own', Holds C gt (upd (upd go j none) id (some (.fam M sub (if (posK M key es).isSome then aput M key x es else es) none))) β own' S a w := by
  obtain ⟨B, hB, b, ents, clock, h1, ⟨h2, h2'⟩, h3, h4, G, h5, h6⟩ := H.mem.obj _ _ hg
  have hjid : j ≠ id := fun e => by
   subst e; rw [hg] at hj
   have := Option.some.inj hj
   cases hs : sub x <;> rw [hs] at this <;> simp [Sub.so] at this
  have hsj : (go j).isSome := by simp [hj]
  have hsi : (go id).isSome := by simp [hg]
  cases hp : posK M key es with
  | none =>
    simp only [Option.isSome_none, Bool.false_eq_true, if_false]
    have hm := (H.mem.drop j).turn (id := id) (o0 := .fam M sub es (some (key, j, g))) (o := .fam M sub es none) (by rw [upd_other _ _ hjid.symm]; exact hg) (fun B' hB' _ => by
     rw [hB] at hB'; cases hB'
     have hne : ∀ k, k ∈ es.map (·.1) -> ∀ a c, some (key, j, g) ≠ some (k, a, c) := fun k hk a c e => by
      cases e
      exact (posK_mem M _ es).1 hp hk
     refine ⟨b, ents, clock, h1, ⟨h2, h2'⟩, h3, h4, G, relF_imp (fun k v m hk hv => ⟨(fun _ _ e => by cases e), fun _ => hv.2 (hne k hk)⟩) h5, fun k k' hk hk' hkk _ _ => h6 k k' hk hk' hkk (hne k hk) (hne k' hk')⟩)
    exact ⟨own, H.turn (fun _ e => e) hm (fun i c e1 e2 => ⟨i, isSome_drop (isSome_upd (by rw [upd_other _ _ hjid.symm]; exact hg) e1), e2⟩) (fun b e => .inl e)⟩
  | some q =>
    simp only [Option.isSome_some, if_true]
    obtain ⟨m, hm, hmk, hv⟩ := relF_at h5 q key _ (aget_pos hp)
    obtain ⟨⟨Bj, q1, q2⟩, _⟩ := hv.1 _ _ rfl
    obtain ⟨hm', _⟩ := H.mem.fput hg hB h1 h3 (hole := fun a c d e => by cases e; rfl) hj q1 hmk (hx _ _ q2) (w' := w) (ents' := ents) (clock' := clock) (.inr ⟨q, hp, by
     have : (ents.toList.modify q fun e => { e with key := m.key, val := m.val }) = ents.toList.modify q fun e => e := modify_congr (fun m' hm' => by rw [hm] at hm'; cases hm'; rfl)
     rw [this]
     exact (List.modify_id q ents.toList).symm, rfl⟩) h3 (fun _ _ => rfl) rfl
    have hcomm : upd (upd go id (some (.fam M sub (aput M key x es) none))) j none = upd (upd go j none) id (some (.fam M sub (aput M key x es) none)) := by
     funext i
     by_cases e1 : i = j
     . subst e1; rw [upd_same, upd_other _ _ hjid, upd_same]
     . rw [upd_other _ _ e1]
       by_cases e2 : i = id
       . subst e2; rw [upd_same, upd_same]
       . rw [upd_other _ _ e2, upd_other _ _ e2, upd_other _ _ e1]
    rw [hcomm] at hm'
    refine ⟨_, H.turn (fun _ e => e) hm' (fun i c e1 e2 => ?_) (fun b e => .inl e)⟩
    by_cases ei : i = id
    . subst ei
      rw [upd_same] at e2
      rcases e2 with e2 | e2
      . exact ⟨i, hsi, e2⟩
      . exact ⟨j, hsj, e2⟩
    . rw [upd_other _ _ ei] at e1 e2
      exact ⟨i, isSome_drop e1, e2⟩
end
theorem gh_ok {C : Ctx} {g : Gh} {s : St} {K : St -> Prop} (h : ghVc g s K) {β own S a w} (H : HoldsS C s β own S a w) : ∃ s' β' own' S', K s' ∧ HoldsS C s' β' own' S' a w := by
 obtain ⟨t, o, nx⟩ := s
 have fin : ∀ {o' : List (Nat × Option SO)} {own' : Nat -> Nat -> Prop} {S' : Nat -> Prop}, Holds C (gtOf t) (goOf o') β own' S' a w -> HoldsS C ⟨t, o', nx⟩ β own' S' a w := fun H' => ⟨H', H.fresh, H.m0, H.b0⟩
 have consO : ∀ (i : Nat) (x : Option SO) (l : List (Nat × Option SO)), goOf ((i, x) :: l) = upd (goOf l) i x := fun i x l => by
  funext j
  simp only [goOf, look_cons, upd]
  by_cases h : i = j
  . subst h; simp
  . rw [if_neg h, if_neg (fun e => h e.symm)]
 have H0 : Holds C (gtOf t) (goOf o) β own S a w := H.h
 unfold ghVc at h
 dsimp only at h
 split at h
 . rename_i id
   split at h
   case h_2 => exact h.elim
   rename_i M es it hg
   split at h
   case h_2 => exact h.elim
   obtain ⟨sub, hk⟩ := h
   refine ⟨_, β, own, S, hk, fin ?_⟩
   rw [consO]
   refine H0.turn (fun _ e => e) (H0.mem.turn hg (fun B hB ho => ?_)) (fun i c e1 e2 => ⟨i, isSome_upd hg e1, e2⟩) (fun b e => .inl e)
   obtain ⟨b, ents, clock, h1, h2, h3, h4, h5, _⟩ := ho
   exact ⟨b, ents, clock, h1, h2, h3, h5, fun _ => (⟨none, 0, 0⟩, fun _ => False), h4, fun k k' hk => by simp at hk⟩
 . rename_i id
   split at h
   case h_2 => exact h.elim
   rename_i M sub es hh hg
   split at h
   case h_2 => exact h.elim
   obtain ⟨⟨hv, hs⟩, hk⟩ := h
   obtain ⟨own', S', hm, h1, h2, h3⟩ := H0.mem.frz hg hv hs
   refine ⟨_, β, own', S', hk, fin ?_⟩
   rw [consO]
   exact H0.turn h1 hm (fun i c e1 e2 => ⟨i, isSome_upd hg e1, h2 i c e2⟩) (fun b e => (h3 b e).elim .inl (fun q => .inr ⟨id, by simp [hg], q⟩))
 . rename_i id
   split at h
   case h_2 => exact h.elim
   rename_i M sub es hh hg
   split at h
   case h_2 => exact h.elim
   rename_i key j g
   split at h
   case h_2 => exact h.elim
   rename_i oj hj
   obtain ⟨⟨he⟩, hk⟩ := h
   subst he
   obtain ⟨own', H'⟩ := H0.back hg hj (fun _ _ h => h)
   refine ⟨_, β, own', S, hk, fin ?_⟩
   rw [consO, consO]
   have : (if (posK M key es).isSome then aput M key (agetD M key es) es else es) = es := by
    cases hp : posK M key es with
    | none => rfl
    | some q => simp only [Option.isSome_some, if_true]; exact aput_same hp
   rw [this] at H'
   exact H'
 . rename_i id
   split at h
   case h_2 => exact h.elim
   rename_i M sub es hh hg
   split at h
   case h_2 => exact h.elim
   rename_i key j g
   split at h
   case h_2 => exact h.elim
   rename_i oj hj
   obtain ⟨x, ⟨hp, he, hx⟩, hk⟩ := h
   subst he
   obtain ⟨own', H'⟩ := H0.back hg hj hx
   refine ⟨_, β, own', S, hk, fin ?_⟩
   rw [consO, consO]
   obtain ⟨q, hq⟩ := aget_some.1 hp
   rw [hq] at H'
   exact H'
 . rename_i id
   split at h
   case h_2 => exact h.elim
   rename_i s p hg
   obtain ⟨B, hB, L, hL, ho⟩ := H0.mem.obj _ _ hg
   refine ⟨_, β, own, S, h L hL, fin ?_⟩
   rw [consO]
   refine H0.turn (fun _ e => e) (H0.mem.turn hg (fun B' hB' _ => ?_)) (fun i c e1 e2 => ⟨i, isSome_upd hg e1, e2⟩) (fun b e => .inl e)
   rw [hB] at hB'; cases hB'
   exact ho
 . rename_i n
   split at h
   case h_2 => exact h.elim
   rename_i p hg
   have hr := H0.tm _ _ hg
   simp only [rel] at hr
   obtain ⟨x, hx, hp⟩ := hr
   refine ⟨_, β, own, S, h x hp, ⟨{ H0 with tm := fun t' s' e => ?_ }, H.fresh, H.m0, H.b0⟩⟩
   simp only [gtOf, look_cons] at e
   split at e
   . rename_i en
     subst en
     cases e
     exact relP_sv (hx w S)
   . exact H0.tm _ _ e
end Go.Sx
namespace Go.Sx
open Go
section
variable {C : Ctx} {gt : GT} {go : GO} {o : Oper} {fresh : Nat} {R : List Loc} {v : Option SV} {os : List (Nat × Option SO)} {k : Nat}
theorem run_min2 {P : Program} {w : World} (k1 k2 : IntKind) (a b : Int) : (Builtin.min2 (.int k1 a) (.int k2 b)).run P w = .ok (.int k1 (min a b)) w := by
 have : (if b < a then b else a) = min a b := by rw [Int.min_def]; split <;> split <;> omega
 simp [Builtin.min2, this]
theorem run_max2 {P : Program} {w : World} (k1 k2 : IntKind) (a b : Int) : (Builtin.max2 (.int k1 a) (.int k2 b)).run P w = .ok (.int k1 (max a b)) w := by
 have : (if b > a then b else a) = max a b := by rw [Int.max_def]; split <;> split <;> omega
 simp [Builtin.max2, this]
theorem foldMM_ok {mx : Bool} {kd : IntKind} : ∀ {l : List SV} {a : Int}, (foldMM mx kd a l).Runs gt go R v os k -> ∃ r, v = some (.int kd r) ∧ os = [] ∧ k = 0 ∧ ∀ {P : Program} {β w S xs}, relL β w S l xs →
 (xs.foldlM (if mx then Builtin.max2 else Builtin.min2) (.int kd a)).run P w = .ok (.int kd r) w
  | [], a, h => by
    obtain ⟨rfl, rfl, rfl⟩ := ret1_inv h
    refine ⟨a, rfl, rfl, rfl, fun {P β w S xs} hx => ?_⟩
    simp only [relL] at hx
    subst hx
    simp
  | s :: l, a, h => by
    simp only [foldMM] at h
    split at h
    . rename_i kb b
      obtain ⟨r, e1, e2, e3, hr⟩ := foldMM_ok h
      refine ⟨r, e1, e2, e3, fun {P β w S xs} hx => ?_⟩
      simp only [relL, rel] at hx
      obtain ⟨x, xs, rfl, rfl, hx⟩ := hx
      have := hr (P := P) hx
      rw [List.foldlM_cons]
      cases mx
      . simp only [Bool.false_eq_true, if_false] at this ⊢
        simp [run_min2, this]
      . simp only [if_true] at this ⊢
        simp [run_max2, this]
    . cases h
theorem ok_mm {mx : Bool} {x : Operand} {ys : List Operand} {ats : Array TypeId} (ho : o.op = .call { callee := .builtin (if mx then .max else .min), args := (x :: ys).toArray, argTypes := ats })
 (h : (MO.rt C.toEnv fresh (.mm mx (cX x) (ys.map cX))).Runs gt go R v os k) (hd : DstOk C o.dst v) : OpOk C o fresh gt go v os k := by
  simp only [MO.rt] at h
  replace h := rd_inv h
  obtain ⟨sx, R1, h, hx⟩ := h
  replace h := rds_inv h
  obtain ⟨sy, R2, h, hy⟩ := h
  split at h
  . rename_i kd a
    obtain ⟨r, rfl, rfl, rfl, hr⟩ := foldMM_ok h
    refine ok_val (by simp [ho]) hd fun {β own S a w} H => ?_
    have h1 := hx H
    simp only [rel] at h1
    have h2 := hr (P := C.P) (hy H)
    refine ⟨.int kd r, ?_, by simp [rel]⟩
    cases mx
    . simp only [Bool.false_eq_true, if_false] at ho h2
      simp [execOp, ho, resolve, invoke, builtin, Builtin.min_, h1, h2]
    . simp only [if_true] at ho h2
      simp [execOp, ho, resolve, invoke, builtin, Builtin.max_, h1, h2]
  . cases h
theorem ok_ixs {x y : Operand} {t : TypeId} (ho : o.op = .index t x y) (hu : C.P.underlying t = some .string) (h : (MO.rt C.toEnv fresh (.ixs (cX x) (cX y))).Runs gt go R v os k) (hd : DstOk C o.dst v) : OpOk C o fresh gt go v os k := by
 simp only [MO.rt] at h
 replace h := rd_inv h
 obtain ⟨sx, R1, h, hx⟩ := h
 replace h := rd_inv h
 obtain ⟨sy, R2, h, hy⟩ := h
 split at h
 . rename_i s ki i
   cases h with
   | req hp h =>
     obtain ⟨rfl, rfl, rfl⟩ := ret1_inv h
     refine ok_val (by simp [ho]) hd fun {β own S a w} H => ?_
     have h1 := hx H
     have h2 := hy H
     simp only [rel] at h1 h2
     have hlt : i.toNat < s.size := by omega
     have hs : s[i.toNat]? = some s[i.toNat] := by simp [hlt]
     refine ⟨.int .u8 ((s[i.toNat]?).getD 0).toNat, ?_, by simp only [rel]⟩
     rw [hs]
     simp [execOp, ho, Instr.index, h1, h2, asIntOf, run_underlying hu, hp.1, hs]
 . cases h
theorem ok_eqt {neg : Bool} {t ty : TypeId} {x y : Operand} (ho : o.op = .binOp (if neg then .neq else .eql) t x y ty)
 (h : (MO.rt C.toEnv fresh (.eqt neg (cX x) (cX y))).Runs gt go R v os k) (hd : DstOk C o.dst v) : OpOk C o fresh gt go v os k := by
  simp only [MO.rt] at h
  replace h := rd_inv h
  obtain ⟨sx, R1, h, hx⟩ := h
  replace h := rd_inv h
  obtain ⟨sy, R2, h, hy⟩ := h
  split at h
  . rename_i s1 s2
    have hb : (s1.toList == s2.toList) = true ↔ s1 = s2 := by rw [<- beq_toListBytes]; exact bytes_beq s1 s2
    have key : ∀ {β own S a w}, Holds C gt go β own S a w -> (execOp a.eval o).run C.P w = .ok (.value (.bool (if neg then !(s1.toList == s2.toList) else (s1.toList == s2.toList)))) w := by
     intro β own S a w H
     have h1 := hx H
     have h2 := hy H
     simp only [rel] at h1 h2
     refine run_binOp ho (by simp [h1]) (by simp [h1]) ?_
     rw [h1, h2]
     cases neg
     . simp [binOp, Op.stringOp]
     . simp [binOp, Op.stringOp]
    cases neg
    . obtain ⟨rfl, rfl, rfl⟩ := ret1_inv h
      exact ok_val (by simp [ho]) hd fun {β own S a w} H => ⟨_, key H, rel_pr hb⟩
    . obtain ⟨rfl, rfl, rfl⟩ := ret1_inv h
      refine ok_val (by simp [ho]) hd fun {β own S a w} H => ⟨_, key H, rel_pr ?_⟩
      rw [<- hb]
      simp
  . cases h
theorem run_eqIn_nil {P : Program} {w : World} {t e : TypeId} (hu : P.underlying t = some (.slice e)) (b : Option Addr) (n c d : Nat) : (Op.equalIn (d + 1) t (.slice b n c) (.slice none 0 0)).run P w = .ok b.isNone w := by
 cases b <;> simp [Op.equalIn, run_underlying hu]
theorem run_eq_nil {P : Program} {w : World} {t e : TypeId} (hu : P.underlying t = some (.slice e)) (b : Option Addr) (n c : Nat) : (Op.equal t (.slice b n c) (.slice none 0 0)).run P w = .ok b.isNone w :=
 run_eqIn_nil hu b n c 9999
theorem ok_nils {neg : Bool} {t ty e : TypeId} {x : Operand} (ho : o.op = .binOp (if neg then .neq else .eql) t x (.const (.slice none 0 0)) ty) (hu : C.P.underlying t = some (.slice e))
 (h : (MO.rt C.toEnv fresh (.nils neg (cX x))).Runs gt go R v os k) (hd : DstOk C o.dst v) : OpOk C o fresh gt go v os k := by
  simp only [MO.rt] at h
  replace h := rd_inv h
  obtain ⟨sx, R1, h, hx⟩ := h
  have fin : ∀ {p : Bool} {v os k R}, (ret1 (match neg with | false => (if p then SV.tt else SV.ff) | true => (if p then SV.ff else SV.tt))).Runs gt go R v os k -> DstOk C o.dst v →
   (∀ {β own S a w}, Holds C gt go β own S a w -> ∃ b n c, a.eval x = .slice b n c ∧ b.isNone = p) -> OpOk C o fresh gt go v os k := by
    intro p v os k R h hd hv
    obtain ⟨rfl, rfl, rfl⟩ := ret1_inv h
    refine ok_val (by simp [ho]) hd fun {β own S a w} H => ?_
    obtain ⟨b, n, c, e1, e2⟩ := hv H
    refine ⟨.bool (if neg then !p else p), run_binOp ho (by simp [e1]) (by simp [e1]) ?_, by cases neg <;> cases p <;> simp [rel]⟩
    have hev : a.eval (.const (.slice none 0 0)) = .slice none 0 0 := rfl
    rw [e1, hev]
    have := run_eq_nil (w := w) hu b n c
    rw [e2] at this
    cases neg <;> simp [binOp, this]
  split at h
  . rename_i id st n
    cases h with
    | req hp h =>
      refine fin (p := false) (by cases neg <;> exact h) hd fun {β own S a w} H => ?_
      have hr := hx H
      simp only [rel] at hr
      obtain ⟨B, _, hr⟩ := hr
      unfold slcRel at hr
      split at hr
      . exact absurd hr.2.2 hp
      . obtain ⟨off, cap, e1, _⟩ := hr
        exact ⟨_, _, _, e1, rfl⟩
  . rename_i s L
    cases h with
    | req hp h =>
      refine fin (p := false) (by cases neg <;> exact h) hd fun {β own S a w} H => ?_
      have hr := hx H
      simp only [rel, relP] at hr
      obtain ⟨b, cap, e1, _, hr, _⟩ := hr
      obtain ⟨b', off, arr, T, fz, e2, _⟩ := hr hp
      exact ⟨_, _, _, e1, by rw [e2]; rfl⟩
  . rename_i aa nn cc
    refine fin (p := false) (by cases neg <;> exact h) hd fun {β own S a w} H => ?_
    have hr := hx H
    simp only [rel] at hr
    exact ⟨_, _, _, hr, rfl⟩
  . rename_i vv _
    cases h with
    | req hp h =>
      subst hp
      refine fin (p := true) (by cases neg <;> exact h) hd fun {β own S a w} H => ?_
      have hr := hx H
      simp only [rel] at hr
      exact ⟨none, 0, 0, hr, rfl⟩
  . cases h
structure ZOk (P : Program) (t : TypeId) (s by_ : Nat) (z : List PV) : Prop where
 ok : ∃ e i zv, P.underlying t = some (.slice e) ∧ P.info? e = some i ∧ i.size = s ∧ i.bytes = by_ ∧ i.zero = some zv ∧ zv.cells.size = s ∧ 0 < s ∧ 0 < by_ ∧ z.length = s ∧ (∀ y ∈ zv.cells.toList, y.oneCell' = true) ∧
  ∀ (w : World) (S : Nat -> Prop), relPL w S z zv.cells.toList
theorem relPL_more {w S} {ps : List PV} {vs ws : List Value} (h : relPL w S ps vs) (hl : ps.length ≤ vs.length) : relPL w S ps (vs ++ ws) := by
 induction ps generalizing vs with
 | nil => simp [relPL]
 | cons p ps ih =>
   simp only [relPL] at h ⊢
   obtain ⟨v, r, rfl, h1, h2⟩ := h
   exact ⟨v, r ++ ws, by simp, h1, ih h2 (by simpa using hl)⟩
theorem relPR_rep {w S} {s : Nat} {z : List PV} {c : List Value} (hz : z.length = s) (hc : c.length = s) (hr : relPL w S z c) : ∀ (n : Nat) (ws : List Value), relPR w S s (List.replicate n z) ((List.replicate n c).flatten ++ ws)
 | 0, _ => by simp [relPR]
 | n + 1, ws => by
   simp only [List.replicate_succ, relPR, List.flatten_cons, List.append_assoc]
   refine ⟨hz, relPL_more hr (by omega), ?_⟩
   have : (c ++ ((List.replicate n c).flatten ++ ws)).drop s = (List.replicate n c).flatten ++ ws := by rw [<- hc]; simp
   rw [this]
   exact relPR_rep hz hc hr n ws
theorem cyc_rep {c : Array Value} {s : Nat} (hc : c.size = s) : ∀ n : Nat, ((Array.range (n * s)).map (fun i => c[i % c.size]!)).toList = (List.replicate n c.toList).flatten := by
 intro n
 induction n with
 | zero => simp
 | succ n ih =>
   rw [List.replicate_succ', List.flatten_append, <- ih]
   simp only [Array.toList_map, Array.toList_range, List.flatten_cons, List.flatten_nil, List.append_nil]
   have : List.range ((n + 1) * s) = List.range (n * s) ++ (List.range s).map (fun i => n * s + i) := by
    rw [Nat.add_mul, Nat.one_mul, List.range_add]
   rw [this, List.map_append, List.map_map]
   congr 1
   apply List.ext_getElem
   . simp [hc]
   . intro i h1 h2
     simp at h1
     have hm : (n * s + i) % s = i := by rw [Nat.add_comm, Nat.add_mul_mod_self_right]; exact Nat.mod_eq_of_lt h1
     have hi : i < c.size := by omega
     simp only [List.getElem_map, List.getElem_range, Function.comp, hc, hm]
     rw [getElem!_pos c i hi]; simp
theorem wrap_small {n : Int} (h0 : 0 ≤ n) (h : n ≤ 2 ^ 46) : IntKind.i64.wrap n = n := IntWalk.i64_in n (by omega)
theorem ok_mks {t : TypeId} {x y : Operand} {s by_ : Nat} {z : List PV} (ho : o.op = .makeSlice t x y) (hz : ZOk C.P t s by_ z)
 (h : (MO.rt C.toEnv fresh (.mks s by_ z (cX x) (cX y))).Runs gt go R v os k) (hd : DstOk C o.dst v) : OpOk C o fresh gt go v os k := by
  simp only [MO.rt] at h
  replace h := rd_inv h
  obtain ⟨sx, R1, h, hx⟩ := h
  replace h := rd_inv h
  obtain ⟨sy, R2, h, hy⟩ := h
  split at h
  . rename_i k1 n k2 c
    cases h with
    | req hp h =>
      obtain ⟨rfl, h0, hb⟩ := hp
      cases h with
      | done =>
        obtain ⟨e, i, zv, hu, hi, hsz, hby, hzv, hcs, hs0, hb0, hzl, hone, hrel⟩ := hz.ok
        refine ok_new (by simp [ho]) hd fun {β own S a w} H => ?_
        have h1 := hx H
        have h2 := hy H
        simp only [rel] at h1 h2
        obtain ⟨m, rfl⟩ := Int.eq_ofNat_of_zero_le h0
        have hmb : m * by_ ≤ 2 ^ 46 := by omega
        have hm : m ≤ 2 ^ 46 := Nat.le_trans (Nat.le_mul_of_pos_right m hb0) hmb
        have hw : IntKind.i64.wrap (m : Int) = m := wrap_small (by omega) (by omega)
        have hbig : ¬ ((by_ : Int) * m > 2 ^ 48) := by
         have : (by_ : Int) * m = ((m * by_ : Nat) : Int) := by rw [Int.natCast_mul, Int.mul_comm]
         rw [this]; omega
        have hcells : (Array.map (fun i => (if m * s = 0 then #[] else zv.cells)[i % (if m * s = 0 then (#[] : Array Value) else zv.cells).size]!) (Array.range (m * s))).toList = (List.replicate m zv.cells.toList).flatten := by
         by_cases hm0 : m * s = 0
         . have : m = 0 := by
            rcases Nat.mul_eq_zero.1 hm0 with h | h
            . exact h
            . omega
           subst this
           simp
         . simp only [hm0, if_false]
           exact cyc_rep hcs m
        let arr : Array Value := Array.map (fun i => (if m * s = 0 then #[] else zv.cells)[i % (if m * s = 0 then (#[] : Array Value) else zv.cells).size]!) (Array.range (m * s))
        have hrun : (Instr.makeSlice t (.int k1 m) (.int k2 m)).run C.P w = .ok (.slice (some ⟨w.heap.size, 0, none⟩) m m) (w.alloc (.cells arr e)) := by
         have hti := run_typeInfo w hi
         have hbig' : ¬ ((2 : Int) ^ 48 < (by_ : Int) * m) := hbig
         have hz0 : (zeroValue e).run C.P w = .ok zv w := gm_zero hi hzv
         have hneg : ¬ ((m : Int) < 0) := by omega
         have hai : ∀ kk : IntKind, (asInt (.int kk (m : Int))).run C.P w = .ok (m : Int) w := fun kk => by simp [asInt, asIntOf]
         have hsf : (sizeOf e).run C.P w = .ok s w := by simp [sizeOf, hti, hsz]
         simp only [Instr.makeSlice, Sem.run_bind, run_underlying hu, Result.andThen_ok, hai, hti, hby, hw, run_askRoom, hsf, Int.toNat_natCast]
         have hc : ((((decide ((m : Int) < 0)) || decide ((by_ : Int) * m > 2 ^ 48)) || decide ((m : Int) < 0) || decide ((m : Int) > m)) = true) = False := by
          simp [hneg]; omega
         simp only [hc, if_false]
         by_cases hm0 : m * s = 0
         . have hm00 : m = 0 := by
            rcases Nat.mul_eq_zero.1 hm0 with h | h
            . exact h
            . omega
           subst hm00
           simp [newRow, arr, hsf]
         . simp [newRow, arr, hz0, hsf, hm0]
        refine ⟨.slice (some ⟨w.heap.size, 0, none⟩) m m, w.alloc (.cells arr e), .cells arr e, ⟨some w.heap.size, s, m⟩, ?_, rfl, rfl, rfl, rfl, fun xx => ⟨?_, ?_⟩⟩
        . simp [execOp, ho, h1, h2, hrun]
        . have hsz' : arr.size = m * s := by simp [arr]
          refine .inr ⟨w.heap.size, arr, e, rfl, rfl, rfl, (show (w.heap.push (Obj.cells arr e))[w.heap.size]? = _ by simp), hsz', by simp, ?_⟩
          have hl : arr.toList = (List.replicate m zv.cells.toList).flatten := hcells
          rw [hl]
          have := relPR_rep (w := w.alloc (.cells arr e)) (S := S) (s := s) hzl (by simpa using hcs) (hrel _ _) m []
          simpa using this
        . simp only [rel]
          refine ⟨_, upd_same _ _ _, ?_⟩
          simp only [slcRel]
          exact ⟨0, m, by simp, by simp, by simp, .inr (by simp)⟩
  . cases h
theorem eqN_inv' {a b : Nat} {r : RT} (h : (eqN a b r).Runs gt go R v os k) : a = b ∧ r.Runs gt go R v os k := by
 unfold eqN at h
 split at h
 . exact ⟨Nat.eq_of_beq_eq_true ‹_›, h⟩
 . cases h
theorem relPR_app_rows {w S} {s : Nat} : ∀ {L L' : List (List PV)} {vs ws : List Value}, relPR w S s L vs -> vs.length = L.length * s -> relPR w S s L' ws -> relPR w S s (L ++ L') (vs ++ ws)
 | [], L', vs, ws, _, hl, h => by
   have : vs = [] := by simpa using hl
   subst this
   simpa using h
 | e :: L, L', vs, ws, h1, hl, h => by
   simp only [List.cons_append, relPR] at h1 ⊢
   obtain ⟨q1, q2, q3⟩ := h1
   have hs : s ≤ vs.length := by rw [hl, List.length_cons, Nat.add_mul]; omega
   refine ⟨q1, relPL_more q2 (by omega), ?_⟩
   rw [List.drop_append_of_le_length hs]
   exact relPR_app_rows q3 (by rw [List.length_drop, hl, List.length_cons, Nat.add_mul]; omega) h
theorem relPR_drop_rows {w S} {s : Nat} : ∀ {n : Nat} {L : List (List PV)} {vs : List Value}, relPR w S s L vs -> relPR w S s (L.drop n) (vs.drop (n * s))
 | 0, L, vs, h => by simpa using h
 | n + 1, [], vs, _ => by simp [relPR]
 | n + 1, e :: L, vs, h => by
   simp only [relPR] at h
   have := relPR_drop_rows (n := n) h.2.2
   rw [List.drop_drop] at this
   rw [show (n + 1) * s = s + n * s by rw [Nat.add_mul]; omega]
   simpa using this
theorem relPR_take_rows {w S} {s : Nat} : ∀ {n : Nat} {L : List (List PV)} {vs : List Value}, relPR w S s L vs -> n * s ≤ vs.length -> relPR w S s (L.take n) (vs.take (n * s))
 | 0, L, vs, _, _ => by simp [relPR]
 | n + 1, [], vs, _, _ => by simp [relPR]
 | n + 1, e :: L, vs, h, hl => by
   simp only [relPR] at h
   simp only [List.take_succ_cons, relPR]
   rw [Nat.add_mul, Nat.one_mul] at hl ⊢
   refine ⟨h.1, ?_, ?_⟩
   . have h3 := relPL_take _ _ s h.2.1
     have h4 : e.take s = e := by rw [<- h.1]; simp
     rw [h4] at h3
     have : (vs.take (n * s + s)) = vs.take s ++ (vs.drop s).take (n * s) := by
      rw [Nat.add_comm, List.take_add]
     rw [this]
     exact relPL_more h3 (by simp; omega)
   . have : (vs.take (n * s + s)).drop s = (vs.drop s).take (n * s) := by
      rw [List.drop_take]; congr 1; omega
     rw [this]
     exact relPR_take_rows h.2.2 (by simp; omega)
theorem ok_clr {t : TypeId} {x : Operand} {s by_ : Nat} {z : List PV} (ho : o.op = .call { callee := .builtin .clear, args := #[x], argTypes := #[t] }) (hz : ZOk C.P t s by_ z)
 (h : (MO.rt C.toEnv fresh (.clr s z (cX x))).Runs gt go R v os k) (hd : DstOk C o.dst v) : OpOk C o fresh gt go v os k := by
  simp only [MO.rt] at h
  replace h := rd_inv h
  obtain ⟨sx, R1, h, hx⟩ := h
  split at h
  case h_2 => cases h
  rename_i id st len
  cases h with
  | rO h =>
    dsimp only at h
    split at h
    case h_2 => cases h
    rename_i s' L hg
    replace h := eqN_inv' h
    obtain ⟨e1, h⟩ := h
    subst e1
    cases h with
    | req hp h =>
      cases h with
      | done =>
        obtain ⟨e, i, zv, hu, hi, hsz, hby, hzv, hcs, hs0, hb0, hzl, hone, hrel⟩ := hz.ok
        refine ok_setv (by simp [ho]) hd hg fun {β own S a w} H => ?_
        have hr := hx H
        simp only [rel] at hr
        obtain ⟨B, hB, hr⟩ := hr
        obtain ⟨B', h4, h5⟩ := H.mem.obj _ _ hg
        rw [hB] at h4; cases h4
        have hrun : ∀ {r w'}, (Builtin.clear_ #[t] o.type #[a.eval x]).run C.P w = .ok r w' -> (execOp a.eval o).run C.P w = .ok (.value r) w' := by
         intro r w' h
         simp [execOp, ho, resolve, invoke, builtin, h]
        have same : len = 0 -> L.take st ++ List.replicate len z ++ L.drop (st + len) = L := by
         intro e; subst e; simp
        by_cases hl0 : len = 0
        . rw [same hl0]
          have hnil : ∃ a0 c, a.eval x = .slice a0 0 c := by
           unfold slcRel at hr
           split at hr
           . exact ⟨_, _, hr.1⟩
           . obtain ⟨off, cap, e1, _⟩ := hr
             rw [hl0] at e1
             exact ⟨_, _, e1⟩
          obtain ⟨a0, c0, hev⟩ := hnil
          refine ⟨.tuple #[], w, B, hrun ?_, hB, rfl, fun _ _ => rfl, rfl, rfl, rfl, fun xx => ⟨h5, fun s e => by cases e; simp [rel, relL]⟩⟩
          rw [hev]
          cases a0 <;> simp [Builtin.clear_, run_underlying hu]
        . unfold slcRel at hr
          split at hr
          . omega
          . rename_i b hb
            obtain ⟨off, cap, e1, hlc, hcc, hoff⟩ := hr
            rcases h5 with ⟨q, _⟩ | ⟨b', arr, T, h6, hstr, hF, hw, hsize, hLc, hrows⟩
            . rw [hb] at q; cases q
            . rw [hb] at h6; cases h6
              have hoff : off = st * s := by
               rcases hoff with h | h
               . omega
               . rw [h, hstr]
              let cs : List Value := (List.replicate len zv.cells.toList).flatten
              have hcsl : cs.length = len * s := by
               simp only [cs, List.length_flatten, List.map_replicate, List.sum_replicate_nat]
               simp [hcs]
              have hfit : off + cs.length ≤ arr.size := by
               rw [hoff, hcsl, hsize, <- Nat.add_mul]
               exact Nat.mul_le_mul_right _ (by omega)
              have hst := run_storeCells_at (P := C.P) b off T cs 0 arr w hw (by simpa using hfit) (fun v hv => by
               simp only [cs, List.mem_flatten] at hv
               obtain ⟨l, hl, hv⟩ := hv
               have := List.eq_of_mem_replicate hl
               subst this
               exact hone v hv)
              have hzc : (Builtin.zeroCells zv.cells len).toList = cs := by
               have := cyc_rep hcs len
               simp only [cs, <- this]
               simp [Builtin.zeroCells, hcs]
              refine ⟨.tuple #[], w.setRow b (arr.toList.take off ++ cs ++ arr.toList.drop (off + cs.length)).toArray, B, hrun ?_, hB, setRow_size, fun c hc => setRow_other (fun e => hc (by rw [hF, e]; rfl)), rfl, rfl, rfl, fun xx => ⟨?_, fun s e => by cases e; simp [rel, relL]⟩⟩
              . rw [e1]
                have hlen : len ≠ 0 := hl0
                cases len with
                | zero => exact absurd rfl hlen
                | succ len =>
                  simp only [Nat.add_zero] at hst
                  simp [Builtin.clear_, run_underlying hu, gm_zero hi hzv, hzc, hst]
              . refine .inr ⟨b, _, T, hb, hstr, hF, setRow_heap _ _ _ _ _ _ hw, ?_, ?_, ?_⟩
                . simp only [List.size_toArray, List.length_append, List.length_take, List.length_drop, hcsl]
                  simp only [Array.length_toList]
                  rw [hcsl] at hfit
                  omega
                . simp only [List.length_append, List.length_take, List.length_replicate, List.length_drop]
                  omega
                . have hrows' := relPR_ext (w := w) (S := S) (w' := _) (S' := S) xx.st xx.heap s L _ hrows
                  generalize w.setRow b (arr.toList.take off ++ cs ++ arr.toList.drop (off + cs.length)).toArray = W at hrows' ⊢
                  simp only []
                  have hst2 : st * s ≤ arr.toList.length := by
                   rw [hcsl, hoff] at hfit
                   simp; omega
                  rw [List.append_assoc, List.append_assoc, hoff]
                  refine relPR_app_rows (relPR_take_rows hrows' hst2) (by
                   rw [List.length_take, List.length_take, Nat.min_eq_left hst2, Nat.min_eq_left (by omega)]) ?_
                  refine relPR_app_rows ?_ (by rw [hcsl]; simp) ?_
                  . have := relPR_rep (w := W) (S := S) (s := s) hzl (by simpa using hcs) (hrel _ _) len []
                    simpa [cs] using this
                  . have := relPR_drop_rows (n := st + len) hrows'
                    rw [Nat.add_mul] at this
                    rw [hcsl]; exact this
end
end Go.Sx
