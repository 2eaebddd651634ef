/- Part 6 of 11 of a proof of the law AllocMore: what the last part leans on. -/
import Derived.Test.YtlahifihaeafbaaGreatDoorZe
import Derived.Test.YtlahifihaeafbaaGreatDoorProg
set_option linter.all false
set_option maxRecDepth 100000
namespace Go.Sx
open Go
open Classical
def panRT (v : SV) (L : LSpec) : RT :=
 mSV ⟨identR L.out 0, []⟩ L.res v fun ρ => mObjs ρ (outObjs L.out 0 ++ idxd L.new L.foot.length) fun ρ => endRT L.foot.length (L.foot.length + L.new.length) ρ
def panK (L : LSpec) : Ex -> St -> Prop
 | .pan v, s => (panRT v L).vc (gtOf s.t) (goOf s.o) [] fun _ _ _ _ => True
 | _, _ => False
theorem leavesMp {F : Fence} {n : Nat} {P : Program} {fn : Func} {tmps : Array Value} {R : Ending -> World -> Prop} {ch : List PanicEntry} : ∀ (ds : List Deferred) (w : World), ds.Nodup -> (∀ d ∈ ds, ∃ D, d = { target := .collected D, args := #[] } ∧ w.heap[D]? = some (.deferred (some []))) →
 (∀ w' : World, w'.heap.size = w.heap.size -> w'.os = w.os -> w'.tape = w.tape -> w'.output = w.output -> (∀ b, { target := .collected b, args := #[] } ∉ ds -> w'.heap[b]? = w.heap[b]?) →
  R (.panicked ch) w') -> LeavesInM F n P fn tmps R ds (.panicking ch) w
  | [], w, _, _, h => h w rfl rfl rfl rfl (fun _ _ => rfl)
  | d :: ds, w, hnd, hd, h => by
    obtain ⟨D, rfl, hD⟩ := hd d (by simp)
    have hnd' := List.nodup_cons.1 hnd
    have hput : ∀ b, b ≠ D -> (w.putObj D (.deferred none)).heap[b]? = w.heap[b]? := fun b hb => World.putObj_heap_other hb
    refine ⟨by simp, .inl ⟨D, _, rfl, run_takeDeferred hD, leavesMp ds _ hnd'.2 (fun d' hd' => ?_) (fun w' h1 h2 h3 h4 h5 => ?_)⟩⟩
    . obtain ⟨D', rfl, hD'⟩ := hd d' (by simp [hd'])
      refine ⟨D', rfl, (hput D' (fun e => ?_)).trans hD'⟩
      subst e
      exact hnd'.1 hd'
    . refine h w' (h1.trans (by simp [World.putObj])) h2 h3 h4 (fun b hb => ?_)
      simp only [List.mem_cons, not_or] at hb
      exact (h5 b hb.2).trans (hput b (fun e => hb.1 (by rw [e])))
theorem spec_pan {P : Program} {G : Nat -> Option SV} {f : FuncId} {fn : Func} {code : Code} {mc : MC} {L : LSpec} (hmix : P.follows .mixedOrders = true) (hf : P.funcs[f]? = some fn) (hb : fn.body = some code)
 (hent : Enters P f) (hmc : McOk P code mc) (hN : L.args.length ≤ fn.ntmps) (hout : L.out.length = L.foot.length)
 {S : STab} (hS : SOk P G S) (LA : Nat -> LAnn) (JA : Nat -> JAnn) {PS : STab} (hPS : SOkE panicked P G PS) (h : run ⟨P, G, fn.ntmps, none, L.foot.length, none, S, LA, JA, PS⟩ mc (entry L) (panK L)) : LSpec.okE panicked P G f L := by
  refine ⟨hent, hout, fun β own S0 w vs hβ hmem hargs hgl => ?_⟩
  have hlen := relL_length _ _ hargs
  simp at hlen
  let C : Ctx := { P := P, G := G, N := fn.ntmps, rnd := none, m0 := L.foot.length, Y := none, S := S, L := LA, J := JA, PS := PS, sok := hS, psok := hPS, w0 := w, X0 := owned L.go0 own, S0 := S0, β0 := β }
  have hgo : goOf (idxd (somes L.foot) 0) = L.go0 := funext fun i => by rw [goOf_somes]; simp [LSpec.go0]
  have H0 : HoldsS C (entry L) β own S0 { tmps := vs ++ Array.replicate (fn.ntmps - vs.size) undef, defers := [] } w := by
   refine ⟨⟨fun t s e => ?_, by simp only [entry]; rw [hgo]; exact hmem, Fr.refl _ _, fun id b h1 h2 => ?_, fun _ e => e, fun _ e => .inl e, ?_, ⟨⟨by simp [mks], fun d hd => by simp [mks] at hd⟩, rfl⟩, hgl⟩, hβ, Nat.le_refl _, fun i B _ e => e⟩
   . simp only [entry, gtOf, look_idxd, Nat.zero_le, if_true, Nat.sub_zero] at e
     rw [getN_eq] at e
     obtain ⟨y, h1, h2⟩ := relL_get (i := t) _ _ _ hargs e
     have ht : t < vs.size := by
      have := (List.getElem?_eq_some_iff.1 h1).1
      simpa using this
     have : (vs ++ Array.replicate (fn.ntmps - vs.size) undef).getD t undef = y := by
      rw [Array.getD_eq_getD_getElem?, Array.getElem?_append_left ht]
      simp at h1
      rw [h1]; rfl
     simp only [this]
     exact h2
   . left
     simp only [entry] at h1
     rw [hgo] at h1
     exact ⟨id, h1, h2⟩
   . show (vs ++ Array.replicate (fn.ntmps - vs.size) undef).size = fn.ntmps
     simp; omega
  have hwp := run_ok (C := C) hmix hmc rfl (fun y e => by cases e) h H0
  refine callsIn_wide.1 (callsIn_of_wp_marks (F := Fence.wide) (n := 0) hf hb trivial (wpIn_mono (F := Fence.wide) hwp ?_) rfl)
  have fin : ∀ s' β1 own1 S1 a' w' v x, ((panRT v L).vc (gtOf s'.t) (goOf s'.o) [] fun _ _ _ _ => True) -> HoldsS C s' β1 own1 S1 a' w' -> rel β1 w' S1 v x →
   LeavesInM Fence.wide 0 P fn a'.tmps (fun e w' => ∃ v β' own' S', e = panicked v ∧ Keeps L.foot.length β w S0 β' w' S' ∧ (∀ id, L.foot.length + L.new.length ≤ id -> β' id = none) ∧
    rel β' w' S' L.res v ∧ MemOk β' own' S' L.go1 w' ∧ Fr (owned L.go0 own) w w' ∧ (∀ id b, (L.go1 id).isSome -> own' id b -> owned L.go0 own b ∨ w.heap.size ≤ b) ∧
    (∀ b, S' b -> S0 b ∨ owned L.go0 own b ∨ w.heap.size ≤ b)) a'.defers (.panicking [{ v := x, recovered := false }]) w' := by
    intro s' β1 own1 S1 a' w' v x hk H hx
    obtain ⟨hdf, hms⟩ := H.h.df
    rw [all_mk hms] at hdf
    refine leavesMp a'.defers w' hdf.nd (fun d hd => ?_) (fun w2 h1 h2 h3 h4 h5 => ?_)
    . obtain ⟨D, e1, _, e3, _⟩ := hdf.at_ d hd
      exact ⟨D, e1, e3⟩
    . have H2 := H.h.undf h1 h2 h3 h4 hdf h5
      have hx2 : rel β1 w2 S1 v x := rel_ext ⟨fun _ _ e => e, fun _ e => e, fun b hb => h5 b (fun e => by
       obtain ⟨D, e1, _, _, e4, _⟩ := hdf.at_ _ e
       injection e1 with e1
       injection e1 with e1
       subst e1
       exact e4 hb)⟩ _ _ hx
      obtain ⟨R, v', os, k, hk, _⟩ := RT.runs_of_vc _ _ _ hk
      obtain ⟨ρ1, R2, hk, l1, i1, m1⟩ := mSV_inv _ hk
      obtain ⟨ρ2, R3, hk, l2, i2, m2⟩ := mObjs_inv _ hk
      obtain ⟨e1, e2, e3⟩ := endRT_inv hk
      have hinj : ρ2.inj := i2 (i1 (fun i i' j q q' => by
       have := look_identR _ _ _ _ q
       have := look_identR _ _ _ _ q'
       simp_all))
      obtain ⟨hm, ho, hl⟩ := matched H2 hinj _ m2 e1
      have hgo1 : ∀ i, look i (outObjs L.out 0 ++ idxd L.new L.foot.length) = L.go1 i := fun i => by
       rw [look_append, look_outObjs, look_idxd]
       simp only [Nat.zero_le, if_true, Nat.sub_zero, LSpec.go1]
       by_cases c : i < L.foot.length
       . rw [if_pos c, if_neg (by omega)]
         cases getN L.out i with
         | none => rfl
         | some q => cases q <;> rfl
       . rw [if_neg c, if_pos (by omega)]
         have : getN L.out i = none := by rw [getN_eq]; simp; omega
         rw [this]; rfl
      have hgo1' : (fun i => look i (outObjs L.out 0 ++ idxd L.new L.foot.length)) = L.go1 := funext hgo1
      rw [hgo1'] at hm
      refine ⟨_, bOf ρ2 β1 (spOf (outObjs L.out 0 ++ idxd L.new L.foot.length)), ownOf ρ2 own1, _, rfl, ⟨fun i B hi e => ?_, fun b hb => .inl (H2.s0 b hb), fun b hb => ?_⟩, fun i hi => by simp [bOf, keysLt_iff e2 i hi],
       m1 ρ2 l2 (fit_of H2.mem) _ _ hx2, hm, H2.fr, fun id b hi hb => ?_, fun b hb => ?_⟩
      . simp only [bOf] at e
        split at e
        . rename_i j hj
          have := idLow_iff e3 i _ hi hj
          cases this
          exact H.b0 i B hi e
        . rename_i hj
          have := idLow_iff e3 i _ hi hj
          cases this
        . cases e
      . exact H2.fr.block b (hmem.sz b hb) (fun ⟨i, q1, q2⟩ => hmem.st i b q1 q2 hb)
      . obtain ⟨j, q1, q2⟩ := ho id b (by rw [hgo1]; exact hi) hb
        exact H2.own0 j b q1 q2
      . rcases hb with hb | hb
        . exact H2.s1 b hb
        . obtain ⟨j, q1, q2⟩ := hl b hb
          exact .inr (H2.own0 j b q1 q2)
  intro e a' w' hp
  cases e with
  | normal => obtain ⟨s', β1, own1, S1, hk, H⟩ := hp; exact hk.elim
  | ret => obtain ⟨s', β1, own1, S1, hk, H⟩ := hp; exact hk.elim
  | exit i => obtain ⟨s', β1, own1, S1, hk, H⟩ := hp; exact hk.elim
  | goto l => exact hp.elim
  | panic c => obtain ⟨s', β1, own1, S1, v, x, rfl, hk, H, hx⟩ := hp; exact fin s' β1 own1 S1 a' w' v x hk H hx
  | outgrown => exact hp.elim
theorem fn_pan {P : Program} {G : Nat -> Option SV} {f : FuncId} {N : Nat} {mc : MC} {rs : List RV} (hmix : P.follows .mixedOrders = true) (hf : FnOk P f N mc rs) (L : LSpec) (hN : Nat.ble L.args.length N = true) (hout : Nat.beq L.out.length L.foot.length = true)
 {S : STab} (hS : SOk P G S) (LA : Nat -> LAnn) (JA : Nat -> JAnn)
 (h : fTs (idxd L.args 0) fun t => fOs (idxd (somes L.foot) 0) fun o => fNat L.foot.length fun nx => run ⟨P, G, N, none, nx, none, S, LA, JA, noPS⟩ mc ⟨t, o, nx⟩ (panK L)) : LSpec.okE panicked P G f L := by
  rw [fTs_eq, fOs_eq, fNat_eq] at h
  obtain ⟨fn, code, h1, h2, rfl, h4, h5⟩ := hf.ok
  exact spec_pan hmix h1 h2 hf.ent (comp_ok h4 hf.its) (by simpa using hN) (Nat.eq_of_beq_eq_true hout) hS LA JA (noPS_ok _ _ _) h
end Go.Sx
namespace Go.Proofs.YtlahifihaeafbaaGreatDoor
open Go Go.Sx
theorem mix : Tryz.prog.follows .mixedOrders = true := by kernel_rfl
def noL : Nat -> LAnn := fun _ => .rounds 0
def noJ : Nat -> JAnn := fun _ => .plain
structure HI where
 op : Int
 sub : Int
 frm : Int
 ty : Int
 d : Int
 a : Int
 b : Int
 c : Int
 k : Int
 i : Int
 ch : Int
 v0 : Int
 v1 : Int
 v2 : Int
 v3 : Int
 deriving DecidableEq, Inhabited
structure HR where
 vec : Bool
 n : Int
 deriving DecidableEq, Inhabited
structure FM where
 name : ByteArray
 fields : Int
 rule : Int
abbrev ku (n : Int) : SV := .int .u32 n
def HI.cells : HI -> List SV
 | ⟨op, sub, frm, ty, d, a, b, c, k, i, ch, v0, v1, v2, v3⟩ => [kz op, kz sub, kz frm, kz ty, kz d, kz a, kz b, kz c, kz k, ku i, ku ch, ku v0, ku v1, ku v2, ku v3]
def HI.pv : HI -> List PV
 | ⟨op, sub, frm, ty, d, a, b, c, k, i, ch, v0, v1, v2, v3⟩ => [.int .i64 op, .int .i64 sub, .int .i64 frm, .int .i64 ty, .int .i64 d, .int .i64 a, .int .i64 b, .int .i64 c, .int .i64 k, .int .u32 i, .int .u32 ch, .int .u32 v0, .int .u32 v1, .int .u32 v2, .int .u32 v3]
def HR.cells : HR -> List SV
 | ⟨b, n⟩ => [.bool b, kz n]
def HR.pv : HR -> List PV
 | ⟨b, n⟩ => [.bool b, .int .i64 n]
def FM.cells : FM -> List SV
 | ⟨n, f, r⟩ => [.str n, kz f, kz r]
def ipv (n : Int) : List PV := [.int .i64 n]
section
variable {gt : GT} {go : GO} {R : List Sx.Loc} {v : Option SV} {os : List (Nat × Option SO)} {k : Nat}
def asI : SV -> (Int -> RT) -> RT
 | .int .i64 n, f => f n
 | _, _ => .fail
theorem asI_inv {s : SV} {f : Int -> RT} (h : (asI s f).Runs gt go R v os k) : ∃ x R', (f x).Runs gt go R' v os k := by
 unfold asI at h
 split at h
 . exact ⟨_, _, h⟩
 . cases h
def asU : SV -> (Int -> RT) -> RT
 | .int .u32 n, f => f n
 | _, _ => .fail
open Classical in
noncomputable def asB : SV -> (Bool -> RT) -> RT
 | .tt, f => f true
 | .ff, f => f false
 | .bool b, f => f b
 | .pr p, f => f (decide p)
 | _, _ => .fail
theorem asB_inv {s : SV} {f : Bool -> RT} (h : (asB s f).Runs gt go R v os k) : ∃ x R', (f x).Runs gt go R' v os k := by
 unfold asB at h
 split at h
 . exact ⟨_, _, h⟩
 . exact ⟨_, _, h⟩
 . exact ⟨_, _, h⟩
 . exact ⟨_, _, h⟩
 . cases h
def asHI : SV -> (HI -> RT) -> RT
 | .agg [.int .i64 op, .int .i64 sub, .int .i64 frm, .int .i64 ty, .int .i64 d, .int .i64 a, .int .i64 b, .int .i64 c, .int .i64 k, .int .u32 i, .int .u32 ch, .int .u32 v0, .int .u32 v1, .int .u32 v2, .int .u32 v3], f => f ⟨op, sub, frm, ty, d, a, b, c, k, i, ch, v0, v1, v2, v3⟩
 | _, _ => .fail
theorem asHI_inv {s : SV} {f : HI -> RT} (h : (asHI s f).Runs gt go R v os k) : ∃ x R', (f x).Runs gt go R' v os k := by
 unfold asHI at h
 split at h
 . exact ⟨_, _, h⟩
 . cases h
noncomputable def asHR : SV -> (HR -> RT) -> RT
 | .agg [b, .int .i64 n], f => asB b fun b => f ⟨b, n⟩
 | _, _ => .fail
theorem asHR_inv {s : SV} {f : HR -> RT} (h : (asHR s f).Runs gt go R v os k) : ∃ x R', (f x).Runs gt go R' v os k := by
 unfold asHR at h
 split at h
 . obtain ⟨x, R', h⟩ := asB_inv h; exact ⟨_, _, h⟩
 . cases h
def asFM : SV -> (FM -> RT) -> RT
 | .agg [.str n, .int .i64 f, .int .i64 r], g => g ⟨n, f, r⟩
 | _, _ => .fail
theorem asFM_inv {s : SV} {f : FM -> RT} (h : (asFM s f).Runs gt go R v os k) : ∃ x R', (f x).Runs gt go R' v os k := by
 unfold asFM at h
 split at h
 . exact ⟨_, _, h⟩
 . cases h
def asRow (id : Nat) (f : SV -> RT) : RT := .rO id fun o => match o with | some (.row cs) => f (.agg cs) | _ => .fail
theorem asRow_inv {id : Nat} {f : SV -> RT} (h : (asRow id f).Runs gt go R v os k) : ∃ x R', (f x).Runs gt go R' v os k := by
 unfold asRow at h
 cases h with
 | rO h =>
   dsimp only at h
   split at h
   . exact ⟨_, _, h⟩
   . cases h
def asSl : SV -> (List (List PV) -> RT) -> RT
 | .rd (.sl _ L), f => f L
 | .slc id st len, f => .rO id fun o => match o with
   | some (.vec _ L) => f ((L.drop st).take len)
   | some (.arr _ L) => (match pvss L with | some L => f ((L.drop st).take len) | none => .fail)
   | _ => .fail
 | .val _, f => f []
 | _, _ => .fail
theorem asSl_inv {s : SV} {f : List (List PV) -> RT} (h : (asSl s f).Runs gt go R v os k) : ∃ x R', (f x).Runs gt go R' v os k := by
 unfold asSl at h
 split at h
 . exact ⟨_, _, h⟩
 . cases h with
   | rO h =>
     dsimp only at h
     split at h
     . exact ⟨_, _, h⟩
     . split at h
       . exact ⟨_, _, h⟩
       . cases h
     . cases h
 . exact ⟨_, _, h⟩
 . cases h
def asL {α : Type} (pv : α -> List PV) (L : List (List PV)) (f : List α -> RT) : RT := .ex (fun (xs : ULift.{1} (List α)) => L = xs.down.map pv) fun xs => match xs with | ⟨xs⟩ => f xs
theorem asL_inv {α : Type} {pv : α -> List PV} {L : List (List PV)} {f : List α -> RT} (h : (asL pv L f).Runs gt go R v os k) : ∃ x R', (f x).Runs gt go R' v os k := by
 unfold asL at h
 cases h with
 | ex xs _ h => exact ⟨_, _, h⟩
theorem req_inv {p : Prop} {r : RT} (h : (RT.req p r).Runs gt go R v os k) : p ∧ ∃ R', r.Runs gt go R' v os k := by
 cases h with
 | req hp h => exact ⟨hp, _, h⟩
end
theorem asL_mk {α : Type} {pv : α -> List PV} {xs : List α} {q : ULift.{1} (List α) -> Prop} (h : q ⟨xs⟩) : ∃ x : ULift.{1} (List α), xs.map pv = x.down.map pv ∧ q x := ⟨⟨xs⟩, rfl, h⟩
def bsv : Bool -> SV
 | true => .tt
 | false => .ff
end Go.Proofs.YtlahifihaeafbaaGreatDoor
namespace Go.Proofs.YtlahifihaeafbaaGreatDoor
open Go Go.Sx
@[irreducible] def nth {α : Type} [Inhabited α] (L : List α) (i : Int) : α := L.getD i.toNat default
theorem nth_get {α : Type} [Inhabited α] (L : List α) (i : Int) (h : 0 ≤ i ∧ i < L.length) : L[i.toNat]? = some (nth L i) := by
 have h1 : i.toNat < L.length := by omega
 unfold nth
 simp [List.getElem?_eq_getElem h1]
theorem nth_mem {α : Type} [Inhabited α] (L : List α) (i : Int) (h : 0 ≤ i ∧ i < L.length) : nth L i ∈ L := List.mem_of_getElem? (nth_get L i h)
theorem pv_get {α : Type} [Inhabited α] (pv : α -> List PV) (L : List α) (n : Int) (h : 0 ≤ n ∧ n < L.length) : (L.map pv)[n.toNat]? = some (pv (nth L n)) := by
 rw [List.getElem?_map, nth_get L n h]; rfl
theorem pv_get0 {α : Type} [Inhabited α] (pv : α -> List PV) (L : List α) (n : Int) (h : 0 ≤ n ∧ n < L.length) : (L.map pv)[0 + n.toNat]? = some (pv (nth L n)) := by
 rw [Nat.zero_add]; exact pv_get pv L n h
theorem take_step {α : Type} [Inhabited α] (L : List α) (i : Int) (h : 0 ≤ i ∧ i < L.length) : L.take (i + 1).toNat = L.take i.toNat ++ [nth L i] := by
 have h2 : (i + 1).toNat = i.toNat + 1 := by omega
 rw [h2, List.take_add_one, nth_get L i h]; rfl
theorem take_end {α : Type} (L : List α) (i : Int) (h : ¬ i < L.length) : L.take i.toNat = L := List.take_of_length_le (by omega)
theorem all_step {α : Type} [Inhabited α] (p : α -> Bool) (L : List α) (i : Int) (h : 0 ≤ i ∧ i < L.length) : (L.take (i + 1).toNat).all p = ((L.take i.toNat).all p && p (nth L i)) := by
 rw [take_step L i h]; simp [List.all_append]
theorem all_get {α : Type} [Inhabited α] {p : α -> Bool} {L : List α} {i : Int} (h : L.all p = true) (h1 : 0 ≤ i ∧ i < L.length) : p (nth L i) = true := by
 rw [List.all_eq_true] at h
 exact h _ (nth_mem L i h1)
theorem drop_step {α : Type} [Inhabited α] (L : List α) (i : Int) (h : 0 ≤ i ∧ i < L.length) : L.drop i.toNat = nth L i :: L.drop (i + 1).toNat := by
 have h1 : i.toNat < L.length := by omega
 have h2 : (i + 1).toNat = i.toNat + 1 := by omega
 have h3 := nth_get L i h
 rw [List.getElem?_eq_getElem h1] at h3
 rw [h2, List.drop_eq_getElem_cons h1, Option.some.inj h3]
abbrev MHB : MapTy := ⟨HR, Bool, inferInstance, false, [.bool, .int .i64], HR.pv, fun ⟨_, _⟩ => rfl, fun ⟨a, b⟩ ⟨c, d⟩ h => by simp only [HR.pv, List.cons.injEq, PV.bool.injEq, PV.int.injEq] at h; simp [h.1, h.2.1.2], true, fun b => [.bool b], false⟩
theorem nf {b : Bool} (h : (!b) = false) : b = true := by cases b <;> simp_all
theorem nt {b : Bool} (h : (!b) = true) : b = false := by cases b <;> simp_all
theorem HR.eta (r : HR) : HR.mk r.vec r.n = r := rfl
theorem exW {γ : Type} {p q : γ -> Prop} {c : γ} (h : p c) (k : q c) : ∃ c, p c ∧ q c := ⟨c, h, k⟩
end Go.Proofs.YtlahifihaeafbaaGreatDoor
namespace Go.Proofs.YtlahifihaeafbaaGreatDoor
open Go Go.Sx
theorem all4 {A B C D : Type} {p : A × B × C × D -> Prop} (h : ∀ a b c d, p (a, b, c, d)) : ∀ c, p c := fun ⟨a, b, c, d⟩ => h a b c d
theorem bcon {b : Bool} (h : b = true) (h' : b = false) : False := by rw [h] at h'; cases h'
theorem bcon3 {b : Bool} (h : b = true) (h' : (!b) = true) : False := by rw [h] at h'; cases h'
theorem bcon4 {b : Bool} (h : b = false) (h' : (!b) = false) : False := by rw [h] at h'; cases h'
structure AL where
 L : List HI
 fr : List Int
abbrev hiS (l : List HI) : SV := .rd (.sl 15 (l.map HI.pv))
abbrev inS (l : List Int) : SV := .rd (.sl 1 (l.map ipv))
def AL.cells : AL -> List SV
 | ⟨l, f⟩ => [hiS l, inS f]
section
variable {gt : GT} {go : GO} {R : List Sx.Loc} {v : Option SV} {os : List (Nat × Option SO)} {k : Nat}
def asAL : SV -> (AL -> RT) -> RT
 | .agg [a, b], f => asSl a fun L => asL HI.pv L fun l => asSl b fun F => asL ipv F fun fr => f ⟨l, fr⟩
 | _, _ => .fail
theorem asAL_inv {s : SV} {f : AL -> RT} (h : (asAL s f).Runs gt go R v os k) : ∃ x R', (f x).Runs gt go R' v os k := by
 unfold asAL at h
 split at h
 . obtain ⟨_, _, h⟩ := asSl_inv h
   obtain ⟨_, _, h⟩ := asL_inv h
   obtain ⟨_, _, h⟩ := asSl_inv h
   obtain ⟨_, _, h⟩ := asL_inv h
   exact ⟨_, _, h⟩
 . cases h
def asII (id : Nat) (f : Int -> Int -> RT) : RT := asRow id fun r => match r with | .agg [.int .i64 a, .int .i64 b] => f a b | _ => .fail
theorem asII_inv {id : Nat} {f : Int -> Int -> RT} (h : (asII id f).Runs gt go R v os k) : ∃ a b R', (f a b).Runs gt go R' v os k := by
 unfold asII at h
 obtain ⟨r, _, h⟩ := asRow_inv h
 split at h
 . exact ⟨_, _, _, h⟩
 . cases h
theorem split_inv {p : Prop} {r1 r2 : RT} (h : (RT.split p r1 r2).Runs gt go R v os k) : (p ∧ r1.Runs gt go R v os k) ∨ (¬ p ∧ r2.Runs gt go R v os k) := by
 cases h with
 | left hp h => exact .inl ⟨hp, h⟩
 | right hp h => exact .inr ⟨hp, h⟩
end
structure PL where
 kind : Int
 n : Int
 deriving DecidableEq, Inhabited
structure CT where
 r : HR
 part : Int
 deriving DecidableEq, Inhabited
def PL.cells : PL -> List SV
 | ⟨k, n⟩ => [kz k, kz n]
def PL.pv : PL -> List PV
 | ⟨k, n⟩ => [.int .i64 k, .int .i64 n]
def CT.cells : CT -> List SV
 | ⟨⟨b, n⟩, p⟩ => [.bool b, kz n, kz p]
def CT.pv : CT -> List PV
 | ⟨⟨b, n⟩, p⟩ => [.bool b, .int .i64 n, .int .i64 p]
theorem PL.eta (r : PL) : PL.mk r.kind r.n = r := rfl
theorem CT.eta (r : CT) : CT.mk r.r r.part = r := rfl
abbrev MPC : MapTy := ⟨PL, CT, inferInstance, false, [.int .i64, .int .i64], PL.pv, fun ⟨_, _⟩ => rfl, fun ⟨a, b⟩ ⟨c, d⟩ h => by simp only [PL.pv, List.cons.injEq, PV.int.injEq] at h; simp [h.1.2, h.2.1.2], false, CT.pv, ⟨⟨false, 0⟩, 0⟩⟩
abbrev HM := List (PL × CT)
structure VL where
 L : List HI
 fr : List Int
 code : List HI
abbrev VL.row (v : VL) : SO := .row [hiS v.L, inS v.fr, hiS v.code, .mp 1]
section
variable {gt : GT} {go : GO} {R : List Sx.Loc} {v : Option SV} {os : List (Nat × Option SO)} {k : Nat}
def asMap (M : MapTy) (id : Nat) (f : List (M.κ × M.ν) -> RT) : RT :=
 .rO id fun o => .ex (fun (es : ULift.{1} (List (M.κ × M.ν))) => o = some (.map M es.down none)) fun es => match es with | ⟨es⟩ => f es
theorem asMap_inv {M : MapTy} {id : Nat} {f : List (M.κ × M.ν) -> RT} (h : (asMap M id f).Runs gt go R v os k) : ∃ es R', (f es).Runs gt go R' v os k := by
 unfold asMap at h
 cases h with
 | rO h => cases h with | ex x _ h => exact ⟨_, _, h⟩
def asVal (p : Nat) (f : VL -> HM -> RT) : RT := asRow p fun r => match r with
 | .agg [.rd (.sl _ L), .rd (.sl _ F), .rd (.sl _ C), .mp q] => asL HI.pv L fun L => asL ipv F fun F => asL HI.pv C fun C => asMap MPC q fun es => f ⟨L, F, C⟩ es
 | _ => .fail
theorem asVal_inv {p : Nat} {f : VL -> HM -> RT} (h : (asVal p f).Runs gt go R v os k) : ∃ x es R', (f x es).Runs gt go R' v os k := by
 unfold asVal at h
 obtain ⟨r, _, h⟩ := asRow_inv h
 split at h
 . obtain ⟨_, _, h⟩ := asL_inv h
   obtain ⟨_, _, h⟩ := asL_inv h
   obtain ⟨_, _, h⟩ := asL_inv h
   obtain ⟨_, _, h⟩ := asMap_inv h
   exact ⟨_, _, _, h⟩
 . cases h
def asPL : SV -> (PL -> RT) -> RT
 | .agg [.int .i64 a, .int .i64 b], f => f ⟨a, b⟩
 | _, _ => .fail
theorem asPL_inv {s : SV} {f : PL -> RT} (h : (asPL s f).Runs gt go R v os k) : ∃ x R', (f x).Runs gt go R' v os k := by
 unfold asPL at h
 split at h
 . exact ⟨_, _, h⟩
 . cases h
end
end Go.Proofs.YtlahifihaeafbaaGreatDoor
namespace Go.Proofs.YtlahifihaeafbaaGreatDoor
open Go Go.Sx
abbrev MIB : MapTy := ⟨Int, Bool, inferInstance, true, [.int .i64], ipv, fun _ => rfl, fun a b h => by simpa [ipv] using h, true, fun b => [.bool b], false⟩
abbrev MII : MapTy := ⟨Int, Int, inferInstance, true, [.int .i64], ipv, fun _ => rfl, fun a b h => by simpa [ipv] using h, true, fun b => [.int .i64 b], 0⟩
abbrev BM := List (Int × Bool)
abbrev IM := List (Int × Int)
end Go.Proofs.YtlahifihaeafbaaGreatDoor
namespace Go.Proofs.YtlahifihaeafbaaGreatDoor
open Go Go.Sx
def c81 : MC := .seq (.reg [oo 2 (.box (.t 0)),oo 4 (.mv kf)]) (.seq (.reg [oo 5 (.fld 1 (.t 2)),oo 6 (.ld none (.t 5)),om 7 1,oo 8 (.ar .and (.t 6) (.t 7)),oo 9 (.cmp .neq (.t 8) (ki 0)),om 4 9]) (.ret))
theorem k81 : FnOk Tryz.prog 81 10 c81 [.t 4] := fk Tryz.func81 ⟨tv,⟨tv,tv⟩⟩
def c135 : MC := .seq (.reg [oo 2 (.box (.t 0)),oo 3 (.box (.t 1)),oo 4 (.mv (.k (.val .nilFunc)))]) (.seq (.reg [oo 5 (.mkf (.func 166) [] [(.t 2),(.t 3)]),om 4 5]) (.ret))
theorem k135 : FnOk Tryz.prog 135 6 c135 [.t 4] := fk Tryz.func135 ⟨tv,⟨tv,tv⟩⟩
def c166 : MC := .seq (.drw [oo 6 (.ld none (.t 1)),oo 7 (.nchk (.t 6)),oo 8 (.fld 1 (.t 7)),oo 9 (.ld none (.t 2)),oo 10 (.nchk (.t 9)),oo 11 (.fld 1 (.t 10)),oo 12 (.bld [(kz 0),(.val (.pointer none)),(.val (.pointer none))] [(0,1,(ki 1)),(1,1,(.t 8)),(2,1,(.t 11))]),oo 13 (.ld none (.t 1)),oo 14 (.nchk (.t 13)),oo 15 (.fld 2 (.t 14)),oo 16 (.ld none (.t 2)),oo 17 (.nchk (.t 16)),oo 18 (.fld 2 (.t 17)),oo 19 (.bld [(kz 0),(.val (.pointer none)),(.val (.pointer none))] [(0,1,(ki 2)),(1,1,(.t 15)),(2,1,(.t 18))]),oo 20 (.ld none (.t 1)),oo 21 (.nchk (.t 20)),oo 22 (.fld 3 (.t 21)),oo 23 (.ld none (.t 2)),oo 24 (.nchk (.t 23)),oo 25 (.fld 3 (.t 24)),oo 26 (.bld [(kz 0),(.val (.pointer none)),(.val (.pointer none))] [(0,1,(ki 4)),(1,1,(.t 22)),(2,1,(.t 25))]),oo 27 (.ld none (.t 1)),oo 28 (.nchk (.t 27)),oo 29 (.fld 4 (.t 28)),oo 30 (.ld none (.t 2)),oo 31 (.nchk (.t 30)),oo 32 (.fld 4 (.t 31)),oo 33 (.bld [(kz 0),(.val (.pointer none)),(.val (.pointer none))] [(0,1,(ki 8)),(1,1,(.t 29)),(2,1,(.t 32))]),oo 34 (.ld none (.t 1)),oo 35 (.nchk (.t 34)),oo 36 (.fld 5 (.t 35)),oo 37 (.ld none (.t 2)),oo 38 (.nchk (.t 37)),oo 39 (.fld 5 (.t 38)),oo 40 (.bld [(kz 0),(.val (.pointer none)),(.val (.pointer none))] [(0,1,(ki 16)),(1,1,(.t 36)),(2,1,(.t 39))]),oo 41 (.ld none (.t 1)),oo 42 (.nchk (.t 41)),oo 43 (.fld 6 (.t 42)),oo 44 (.ld none (.t 2)),oo 45 (.nchk (.t 44)),oo 46 (.fld 6 (.t 45)),oo 47 (.bld [(kz 0),(.val (.pointer none)),(.val (.pointer none))] [(0,1,(ki 32)),(1,1,(.t 43)),(2,1,(.t 46))]),oo 48 (.ld none (.t 1)),oo 49 (.nchk (.t 48)),oo 50 (.fld 7 (.t 49)),oo 51 (.ld none (.t 2)),oo 52 (.nchk (.t 51)),oo 53 (.fld 7 (.t 52)),oo 54 (.bld [(kz 0),(.val (.pointer none)),(.val (.pointer none))] [(0,1,(ki 64)),(1,1,(.t 50)),(2,1,(.t 53))]),oo 55 (.ld none (.t 1)),oo 56 (.nchk (.t 55)),oo 57 (.fld 8 (.t 56)),oo 58 (.ld none (.t 2)),oo 59 (.nchk (.t 58)),oo 60 (.fld 8 (.t 59)),oo 61 (.bld [(kz 0),(.val (.pointer none)),(.val (.pointer none))] [(0,1,(ki 128)),(1,1,(.t 57)),(2,1,(.t 60))]),oo 62 (.bsl 3 8 [(kz 0),(.val (.pointer none)),(.val (.pointer none))] [(0,(.t 12)),(1,(.t 19)),(2,(.t 26)),(3,(.t 33)),(4,(.t 40)),(5,(.t 47)),(6,(.t 54)),(7,(.t 61))]),oo 63 (.lenS (.t 62)),oo 64 (.mv (ki 0))] [[],[0],[1],[],[3],[4],[2,5],[],[7],[8],[],[10],[11],[9,12],[],[14],[15],[],[17],[18],[16,19],[],[21],[22],[],[24],[25],[23,26],[],[28],[29],[],[31],[32],[30,33],[],[35],[36],[],[38],[39],[37,40],[],[42],[43],[],[45],[46],[44,47],[],[49],[50],[],[52],[53],[51,54],[6,13,20,27,34,41,48,55],[56],[]]) (.blk 0 (.loop 0 (.seq (.reg [oo 65 (.cmpl .lss (.t 64) (.t 63))]) (.seq (.cond (.t 65) (.skip) (.exit 0)) (.seq (.blk 1 (.seq (.reg [oo 66 (.ixa 3 (.t 62) (.t 64)),oo 67 (.ld (some 3) (.t 66)),oo 5 (.alloc [(kz 0),(.val (.pointer none)),(.val (.pointer none))]),o none (.st (some 3) (.t 5) (.t 67))]) (.seq (.reg [om 68 0,oo 69 (.ld (some 3) (.t 5)),oo 70 (.call (.t 68) [(.t 69)]),oo 71 (.not (.t 70))]) (.cond (.t 71) (.ret) (.skip))))) (.reg [oo 72 (.arl .add (.t 64) (ki 1)),om 64 72]))))))
theorem k166 : FnOk Tryz.prog 166 73 c166 [] := fk Tryz.func166 ⟨tv,⟨tv,⟨⟨tv,tv⟩,⟨⟨tv,⟨tv,⟨tv,tv⟩⟩⟩,tv⟩⟩⟩⟩
def c106 : MC := .seq (.reg [oo 2 (.box (.t 0)),oo 3 (.box (.t 1)),oo 4 (.alloc [(kz 0),(kz 0),(kz 0),(kz 0),(kz 0),(kz 0),(kz 0),(kz 0),(kz 0),(.int .u32 0),(.int .u32 0),(.int .u32 0),(.int .u32 0),(.int .u32 0),(.int .u32 0)])]) (.seq (.reg [oo 7 (.fld 0 (.t 3)),oo 8 (.ld none (.t 7)),oo 9 (.bld [(kz 0),(kz 0),(kz 0),(kz 0),(kz 0),(kz 0),(kz 0),(kz 0),(kz 0),(.int .u32 0),(.int .u32 0),(.int .u32 0),(.int .u32 0),(.int .u32 0),(.int .u32 0)] [(0,1,(.t 8))]),oo 5 (.alloc [(kz 0),(kz 0),(kz 0),(kz 0),(kz 0),(kz 0),(kz 0),(kz 0),(kz 0),(.int .u32 0),(.int .u32 0),(.int .u32 0),(.int .u32 0),(.int .u32 0),(.int .u32 0)]),o none (.st (some 15) (.t 5) (.t 9))]) (.seq (.seq (.reg [oo 10 (.call (.k (.fn (.func 135) [] [])) [(.t 3),(.t 5)])]) (.blk 0 (.rng (.t 10) [11] (.reg [oo 6 (.alloc [(kz 0),(.val (.pointer none)),(.val (.pointer none))]),o none (.st (some 3) (.t 6) (.t 11))]) (.blk 1 (.seq (.reg [oo 12 (.ld (some 3) (.t 2)),oo 13 (.fld 0 (.t 6)),oo 14 (.ld none (.t 13)),oo 15 (.call (.k (.fn (.func 81) [] [])) [(.t 12),(.t 14)])]) (.cond (.t 15) (.drw [oo 16 (.fld 2 (.t 6)),oo 17 (.ld none (.t 16)),oo 18 (.fld 1 (.t 6)),oo 19 (.ld none (.t 18)),oo 20 (.nchk (.t 19)),oo 21 (.ld none (.t 20)),oo 22 (.nchk (.t 17)),o none (.st (some 1) (.t 22) (.t 21))] [[],[0],[],[2],[3],[4],[1,0,1,2,3,4,5],[6,5,0,1,2,3,4,5]]) (.skip)))) 166 73 c166))) (.seq (.seq (.reg [oo 23 (.ld (some 3) (.t 2)),oo 24 (.call (.k (.fn (.func 81) [] [])) [(.t 23),(ki 256)])]) (.cond (.t 24) (.reg [oo 25 (.fld 9 (.t 3)),oo 26 (.ld none (.t 25)),oo 27 (.fld 9 (.t 5)),o none (.st (some 1) (.t 27) (.t 26))]) (.skip))) (.seq (.seq (.reg [oo 28 (.ld (some 3) (.t 2)),oo 29 (.call (.k (.fn (.func 81) [] [])) [(.t 28),(ki 512)])]) (.cond (.t 29) (.reg [oo 30 (.fld 10 (.t 3)),oo 31 (.ld none (.t 30)),oo 32 (.fld 10 (.t 5)),o none (.st (some 1) (.t 32) (.t 31))]) (.skip))) (.seq (.seq (.reg [oo 33 (.ld (some 3) (.t 2)),oo 34 (.call (.k (.fn (.func 81) [] [])) [(.t 33),(ki 1024)])]) (.cond (.t 34) (.reg [oo 35 (.fld 11 (.t 3)),oo 36 (.ld (some 4) (.t 35)),oo 37 (.fld 11 (.t 5)),o none (.st (some 4) (.t 37) (.t 36))]) (.skip))) (.seq (.reg [oo 38 (.ld (some 15) (.t 5)),o none (.st (some 15) (.t 4) (.t 38))]) (.ret)))))))
theorem k106 : FnOk Tryz.prog 106 39 c106 [.c 4 (some 15)] := .of Tryz.func106 (by kernel_rfl) (by kernel_rfl) (by kernel_rfl) (by kernel_rfl) ⟨trivial, ⟨trivial, ⟨⟨trivial, ⟨trivial, ⟨trivial, ⟨trivial, trivial⟩⟩, k166.it, k166.its⟩⟩, ⟨⟨trivial, ⟨trivial, trivial⟩⟩, ⟨⟨trivial, ⟨trivial, trivial⟩⟩, ⟨⟨trivial, ⟨trivial, trivial⟩⟩, ⟨trivial, trivial⟩⟩⟩⟩⟩⟩⟩
def c80 : MC := .seq (.reg [oo 2 (.alloc [(.str ⟨#[]⟩),(kz 0),(kz 0)]),oo 3 (.mv kf)]) (.seq (.seq (.reg [om 4 0,oo 5 (.cmp .lss (.t 4) (ki 1)),os (some 6) (.mv (.t 5)),og 6 false (some 7) (.mv (.t 0)),og 6 false (some 8) (.cmp .geq (.t 7) (ki 46)),oo 9 (.pick (.t 6) kt (.t 8))]) (.cond (.t 9) (.seq (.reg [oo 10 (.bld [(.str ⟨#[]⟩),(kz 0),(kz 0)] []),o none (.st (some 3) (.t 2) (.t 10)),oo 3 (.mv kf)]) (.ret)) (.skip))) (.seq (.reg [om 11 0,oo 12 (.ixr 46 3 (.g 0) (.t 11)),oo 13 (.ld (some 3) (.t 12)),o none (.st (some 3) (.t 2) (.t 13)),oo 3 (.mv kt)]) (.ret)))
theorem k80 : FnOk Tryz.prog 80 14 c80 [.c 2 (some 3),.t 3] := fk Tryz.func80 ⟨tv,⟨⟨tv,⟨⟨tv,tv⟩,tv⟩⟩,⟨tv,tv⟩⟩⟩
def c144 : MC := .seq (.reg [oo 6 (.mv kf)]) (.seq (.reg [om 7 1,om 8 0,oo 9 (.cmp .leq (.t 7) (.t 8)),os (some 10) (.mv (.t 9)),og 10 true (some 11) (.mv (.t 0)),og 10 true (some 12) (.mv (.t 2)),og 10 true (some 13) (.cmp .leq (.t 11) (.t 12)),oo 14 (.pick (.t 10) (.t 13) kf),om 6 14]) (.ret))
theorem k144 : FnOk Tryz.prog 144 15 c144 [.t 6] := fk Tryz.func144 ⟨tv,⟨tv,tv⟩⟩
def c146 : MC := .seq (.reg [oo 2 (.mv kf)]) (.seq (.reg [om 3 0,oo 4 (.cmp .eql (.t 3) (ki 8)),os (some 5) (.mv (.t 4)),og 5 false (some 6) (.mv (.t 0)),og 5 false (some 7) (.cmp .eql (.t 6) (ki 16)),oo 8 (.pick (.t 5) kt (.t 7)),os (some 9) (.mv (.t 8)),og 9 false (some 10) (.mv (.t 0)),og 9 false (some 11) (.cmp .eql (.t 10) (ki 32)),oo 12 (.pick (.t 9) kt (.t 11)),om 2 12]) (.ret))
theorem k146 : FnOk Tryz.prog 146 13 c146 [.t 2] := fk Tryz.func146 ⟨tv,⟨tv,tv⟩⟩
def hasF (fl fd : Int) : Bool := decide (bitsI .and .i64 fl fd ≠ 0)
def formRows : List FM := [⟨⟨#[]⟩, 0, 0⟩, ⟨⟨#[115, 101, 116]⟩, 264, 0⟩, ⟨⟨#[109, 111, 118]⟩, 24, 0⟩, ⟨⟨#[98, 105, 110]⟩, 57, 1⟩, ⟨⟨#[98, 105, 110, 105]⟩, 281, 1⟩, ⟨⟨#[117, 110]⟩, 31, 2⟩, ⟨⟨#[109, 117, 120]⟩, 120, 0⟩, ⟨⟨#[118, 115, 101, 116]⟩, 3080, 0⟩, ⟨⟨#[118, 109, 111, 118]⟩, 6168, 0⟩, ⟨⟨#[118, 98, 105, 110]⟩, 14393, 3⟩, ⟨⟨#[118, 117, 110]⟩, 6169, 4⟩, ⟨⟨#[118, 99, 109, 112]⟩, 12345, 5⟩, ⟨⟨#[118, 110, 122]⟩, 4120, 0⟩, ⟨⟨#[118, 102, 105, 108, 108]⟩, 2072, 0⟩, ⟨⟨#[118, 115, 112, 108, 97, 116]⟩, 2072, 0⟩, ⟨⟨#[118, 119, 111, 114, 100]⟩, 4248, 6⟩, ⟨⟨#[118, 112, 117, 116]⟩, 6328, 6⟩, ⟨⟨#[118, 109, 97, 115, 107]⟩, 4120, 0⟩, ⟨⟨#[118, 109, 117, 120]⟩, 26744, 0⟩, ⟨⟨#[103, 101, 116]⟩, 140, 7⟩, ⟨⟨#[112, 117, 116]⟩, 148, 7⟩, ⟨⟨#[112, 117, 116, 105]⟩, 388, 7⟩, ⟨⟨#[118, 103, 101, 116]⟩, 2184, 8⟩, ⟨⟨#[118, 112, 117, 116, 115]⟩, 4240, 8⟩, ⟨⟨#[108, 111, 97, 100]⟩, 284, 9⟩, ⟨⟨#[115, 116, 111, 114, 101]⟩, 308, 9⟩, ⟨⟨#[118, 108, 111, 97, 100]⟩, 2328, 0⟩, ⟨⟨#[118, 115, 116, 111, 114, 101]⟩, 8496, 0⟩, ⟨⟨#[115, 104, 108, 111, 97, 100]⟩, 284, 9⟩, ⟨⟨#[115, 104, 115, 116, 111, 114, 101]⟩, 308, 9⟩, ⟨⟨#[118, 115, 104, 108, 111, 97, 100]⟩, 2328, 0⟩, ⟨⟨#[118, 115, 104, 115, 116, 111, 114, 101]⟩, 8496, 0⟩, ⟨⟨#[111, 114, 105, 103, 105, 110]⟩, 284, 10⟩, ⟨⟨#[115, 101, 116, 111, 114, 105, 103, 105, 110]⟩, 432, 11⟩, ⟨⟨#[99, 97, 115]⟩, 377, 12⟩, ⟨⟨#[97, 114, 103]⟩, 144, 13⟩, ⟨⟨#[99, 97, 108, 108]⟩, 9, 14⟩, ⟨⟨#[110, 111, 116, 101]⟩, 400, 15⟩, ⟨⟨#[109, 97, 114, 107]⟩, 384, 16⟩, ⟨⟨#[101, 120, 105, 116]⟩, 912, 17⟩, ⟨⟨#[101, 110, 100]⟩, 896, 17⟩, ⟨⟨#[101, 110, 100, 114]⟩, 144, 17⟩, ⟨⟨#[115, 112, 105, 108, 108]⟩, 144, 18⟩, ⟨⟨#[102, 105, 108, 108]⟩, 136, 18⟩, ⟨⟨#[118, 115, 112, 105, 108, 108]⟩, 4240, 19⟩, ⟨⟨#[118, 117, 110, 115, 112, 105, 108, 108]⟩, 2184, 19⟩]
def GG : Nat -> Option SV
 | 0 => some (.ra 3 (formRows.map fun f => match f with | ⟨n, a, b⟩ => [.str n, .int .i64 a, .int .i64 b]))
 | _ => none
def withinF (n a b : Int) : Bool := decide (a ≤ n ∧ n ≤ b)
def wordF (ty : Int) : Bool := decide (ty = 8 ∨ ty = 16 ∨ ty = 32)
def formF (op : Int) : FM × Bool := if op < 1 ∨ 46 ≤ op then (⟨⟨#[]⟩, 0, 0⟩, false) else (formRows.getD op.toNat ⟨⟨#[]⟩, 0, 0⟩, true)
def L81 (f : FM) (fd : Int) : LSpec := ⟨[.agg f.cells, kz fd], [], [], [], .bool (hasF f.fields fd)⟩
theorem s81 (f : FM) (fd : Int) : LSpec.ok Tryz.prog GG 81 (L81 f fd) := by
 refine fn_spec mix k81 _ rfl rfl (Tab.ok (l := []) trivial) noL noJ ?_
 repeat' ((conv => whnf); first
  | exact trivial
  | with_reducible first | refine ai (by with_reducible rfl) ?_ | refine ai ⟨by with_reducible rfl, by with_reducible rfl⟩ ?_ | refine ai (show noConf _ _ = true by kernel_rfl) ?_ | refine ai rfl ?_ | refine ai ⟨rfl, rfl⟩ ?_ | refine ai (by decide) ?_ | refine ai (by omega) ?_ | refine And.intro ?_ ?_ | refine asL_mk ?_
  | with_reducible intro _)
 all_goals exact ⟨by simp [hasF]⟩
noncomputable def S81 : SFn
 | [a0, a1], k => asFM a0 fun f => asI a1 fun fd => k (L81 f fd)
 | _, _ => .fail
theorem t81 : FnS Tryz.prog GG 81 S81 := by
 intro args k gt go R v os n h
 unfold S81 at h
 split at h
 . obtain ⟨f, _, h⟩ := asFM_inv h
   obtain ⟨fd, _, h⟩ := asI_inv h
   exact ⟨_, _, s81 f fd, h⟩
 . cases h
def L81c : FM -> Int -> LSpec
 | ⟨n, fl, ru⟩, fd => ⟨[.agg (FM.cells ⟨n, fl, ru⟩), kz fd], [], [], [], bsv (hasF fl fd)⟩
theorem s81c (f : FM) (fd : Int) : LSpec.ok Tryz.prog GG 81 (L81c f fd) := by
 obtain ⟨n, fl, ru⟩ := f
 show LSpec.ok _ _ _ ⟨[.agg (FM.cells ⟨n, fl, ru⟩), kz fd], [], [], [], bsv (hasF fl fd)⟩
 cases h : hasF fl fd
 all_goals
  simp [hasF] at h
  refine fn_spec mix k81 _ rfl rfl (Tab.ok (l := []) trivial) noL noJ ?_
  repeat' ((conv => whnf); first
   | exact trivial
   | with_reducible refine And.intro (Sd.mk (by with_reducible rfl)) ?_
   | with_reducible refine And.intro (Sd.mk ⟨by with_reducible rfl, by with_reducible rfl⟩) ?_
   | with_reducible refine And.intro (Sd.mk (show noConf _ _ = true by kernel_rfl)) ?_
   | with_reducible refine And.intro (Sd.mk rfl) ?_
   | with_reducible refine And.intro (Sd.mk ⟨rfl, rfl⟩) ?_
   | with_reducible refine And.intro (Sd.mk (by decide)) ?_
   | with_reducible refine And.intro (Sd.mk (by omega)) ?_
   | with_reducible refine And.intro ?_ ?_
   | with_reducible refine asL_mk ?_
   | with_reducible intro _)
  all_goals exact ⟨by simp [h]⟩
def S81c : SFn
 | [a0, a1], k => asFM a0 fun f => asI a1 fun fd => k (L81c f fd)
 | _, _ => .fail
theorem t81c : FnS Tryz.prog GG 81 S81c := by
 intro args k gt go R v os n h
 unfold S81c at h
 split at h
 . obtain ⟨f, _, h⟩ := asFM_inv h
   obtain ⟨fd, _, h⟩ := asI_inv h
   exact ⟨_, _, s81c f fd, h⟩
 . cases h
def L144 (n : Int) (a : Int) (b : Int) : LSpec := ⟨[kz n, kz a, kz b], [], [], [], .bool (withinF n a b)⟩
theorem s144 (n : Int) (a : Int) (b : Int) : LSpec.ok Tryz.prog GG 144 (L144 n a b) := by
 refine fn_spec mix k144 _ rfl rfl (Tab.ok (l := []) trivial) noL noJ ?_
 repeat' ((conv => whnf); first
  | exact trivial
  | with_reducible first | refine ai (by with_reducible rfl) ?_ | refine ai ⟨by with_reducible rfl, by with_reducible rfl⟩ ?_ | refine ai (show noConf _ _ = true by kernel_rfl) ?_ | refine ai rfl ?_ | refine ai ⟨rfl, rfl⟩ ?_ | refine ai (by decide) ?_ | refine ai (by omega) ?_ | refine And.intro ?_ ?_ | refine asL_mk ?_
  | with_reducible intro _)
 all_goals exact ⟨by unfold withinF; grind⟩
noncomputable def S144 : SFn
 | [a0, a1, a2], k => asI a0 fun n => asI a1 fun a => asI a2 fun b => k (L144 n a b)
 | _, _ => .fail
theorem t144 : FnS Tryz.prog GG 144 S144 := by
 intro args k gt go R v os n h
 unfold S144 at h
 split at h
 . obtain ⟨n, _, h⟩ := asI_inv h
   obtain ⟨a, _, h⟩ := asI_inv h
   obtain ⟨b, _, h⟩ := asI_inv h
   exact ⟨_, _, s144 n a b, h⟩
 . cases h
def L146 (ty : Int) : LSpec := ⟨[kz ty], [], [], [], .bool (wordF ty)⟩
theorem s146 (ty : Int) : LSpec.ok Tryz.prog GG 146 (L146 ty) := by
 refine fn_spec mix k146 _ rfl rfl (Tab.ok (l := []) trivial) noL noJ ?_
 repeat' ((conv => whnf); first
  | exact trivial
  | with_reducible first | refine ai (by with_reducible rfl) ?_ | refine ai ⟨by with_reducible rfl, by with_reducible rfl⟩ ?_ | refine ai (show noConf _ _ = true by kernel_rfl) ?_ | refine ai rfl ?_ | refine ai ⟨rfl, rfl⟩ ?_ | refine ai (by decide) ?_ | refine ai (by omega) ?_ | refine And.intro ?_ ?_ | refine asL_mk ?_
  | with_reducible intro _)
 all_goals exact ⟨by unfold wordF; grind⟩
noncomputable def S146 : SFn
 | [a0], k => asI a0 fun ty => k (L146 ty)
 | _, _ => .fail
theorem t146 : FnS Tryz.prog GG 146 S146 := by
 intro args k gt go R v os n h
 unfold S146 at h
 split at h
 . obtain ⟨ty, _, h⟩ := asI_inv h
   exact ⟨_, _, s146 ty, h⟩
 . cases h
theorem forms_get (op : Int) (h1 : ¬ op < 1) (h2 : ¬ 46 ≤ op) : ((formRows.map fun f => match f with | ⟨n, a, b⟩ => [PV.str n, .int .i64 a, .int .i64 b]))[op.toNat]? = some (match (formRows.getD op.toNat ⟨⟨#[]⟩, 0, 0⟩) with | ⟨n, a, b⟩ => [PV.str n, .int .i64 a, .int .i64 b]) := by
 have : op.toNat < 46 := by omega
 have hl : formRows.length = 46 := rfl
 rw [List.getElem?_map, List.getElem?_eq_getElem (by omega)]
 simp [List.getD_eq_getElem?_getD, List.getElem?_eq_getElem (show op.toNat < formRows.length by omega)]
def L80 (op : Int) : LSpec := ⟨[kz op], [], [], [], .tup [.agg (formF op).1.cells, .bool (formF op).2]⟩
theorem s80 (op : Int) : LSpec.ok Tryz.prog GG 80 (L80 op) := by
 refine fn_spec mix k80 _ rfl rfl (Tab.ok (l := []) trivial) noL noJ ?_
 repeat' ((conv => whnf); first
  | exact trivial
  | with_reducible first | refine ai (by with_reducible rfl) ?_ | refine ai ⟨by with_reducible rfl, by with_reducible rfl⟩ ?_ | refine ai (show noConf _ _ = true by kernel_rfl) ?_ | refine ai rfl ?_ | refine ai ⟨rfl, rfl⟩ ?_ | refine ai (by decide) ?_ | refine ai (by omega) ?_ | refine And.intro ?_ ?_ | refine asL_mk ?_ | refine exI (x := ULift.up _) ⟨rfl, by omega, by omega, forms_get _ (by assumption) (by assumption)⟩ ?_
  | with_reducible intro _)
 all_goals (refine Sd.mk ?_; unfold formF; split <;> first | rfl | (exfalso; omega))
noncomputable def S80 : SFn
 | [a0], k => asI a0 fun op => k (L80 op)
 | _, _ => .fail
theorem t80 : FnS Tryz.prog GG 80 S80 := by
 intro args k gt go R v os n h
 unfold S80 at h
 split at h
 . obtain ⟨op, _, h⟩ := asI_inv h
   exact ⟨_, _, s80 op, h⟩
 . cases h
def L135 (x y : HI) : LSpec := ⟨[.ptr 0 0 0, .ptr 1 0 0], [.row x.cells, .row y.cells], [some (.row x.cells), some (.row y.cells)], [.row [.ptr 0 0 0], .row [.ptr 1 0 0]], .fn (.func 166) [] [.ptr 2 0 0, .ptr 3 0 0]⟩
theorem s135 (x y : HI) : LSpec.ok Tryz.prog GG 135 (L135 x y) := by
 refine fn_spec mix k135 _ rfl rfl (Tab.ok (l := []) trivial) noL noJ ?_
 repeat' ((conv => whnf); first
  | exact trivial
  | with_reducible first | refine ai (by with_reducible rfl) ?_ | refine ai ⟨by with_reducible rfl, by with_reducible rfl⟩ ?_ | refine ai (show noConf _ _ = true by kernel_rfl) ?_ | refine ai rfl ?_ | refine ai ⟨rfl, rfl⟩ ?_ | refine ai (by decide) ?_ | refine ai (by omega) ?_ | refine And.intro ?_ ?_ | refine asL_mk ?_
  | with_reducible intro _)
def S135 : SFn
 | [.ptr a 0 0, .ptr b 0 0], k => asRow a fun ca => asHI ca fun x => asRow b fun cb => asHI cb fun y => k (L135 x y)
 | _, _ => .fail
theorem t135 : FnS Tryz.prog GG 135 S135 := by
 intro args k gt go R v os n h
 unfold S135 at h
 split at h
 . obtain ⟨ca, _, h⟩ := asRow_inv h
   obtain ⟨x, _, h⟩ := asHI_inv h
   obtain ⟨cb, _, h⟩ := asRow_inv h
   obtain ⟨y, _, h⟩ := asHI_inv h
   exact ⟨_, _, s135 _ _, h⟩
 . cases h
def bareF (f : FM) (x : HI) : HI :=
 { op := x.op
   sub := if hasF f.fields 1 then x.sub else 0
   frm := if hasF f.fields 2 then x.frm else 0
   ty := if hasF f.fields 4 then x.ty else 0
   d := if hasF f.fields 8 then x.d else 0
   a := if hasF f.fields 16 then x.a else 0
   b := if hasF f.fields 32 then x.b else 0
   c := if hasF f.fields 64 then x.c else 0
   k := if hasF f.fields 128 then x.k else 0
   i := if hasF f.fields 256 then x.i else 0
   ch := if hasF f.fields 512 then x.ch else 0
   v0 := if hasF f.fields 1024 then x.v0 else 0
   v1 := if hasF f.fields 1024 then x.v1 else 0
   v2 := if hasF f.fields 1024 then x.v2 else 0
   v3 := if hasF f.fields 1024 then x.v3 else 0 }
def L106 (f : FM) (x : HI) : LSpec := ⟨[.agg f.cells, .agg x.cells], [], [], [], .agg (bareF f x).cells⟩
end Go.Proofs.YtlahifihaeafbaaGreatDoor
namespace Go.Proofs.YtlahifihaeafbaaGreatDoor
open Go Go.Sx
def c31 : MC := .seq (.reg [oo 2 (.mv (.k (.val (.slice none 0 0))))]) (.seq (.seq (.reg [om 3 0,oo 4 (.nils false (.t 3))]) (.cond (.t 4) (.seq (.reg [oo 2 (.mv (.k (.val (.slice none 0 0))))]) (.ret)) (.skip))) (.seq (.reg [oo 5 (.bsl 15 0 [(kz 0),(kz 0),(kz 0),(kz 0),(kz 0),(kz 0),(kz 0),(kz 0),(kz 0),(.int .u32 0),(.int .u32 0),(.int .u32 0),(.int .u32 0),(.int .u32 0),(.int .u32 0)] []),om 6 0,oo 7 (.app 15 96 (.t 5) (.t 6)),om 2 7]) (.ret)))
theorem k31 : FnOk Tryz.prog 31 8 c31 [.t 2] := fk Tryz.func31 ⟨tv,⟨⟨tv,⟨⟨tv,tv⟩,tv⟩⟩,⟨tv,tv⟩⟩⟩
def c141 : MC := .seq (.reg [oo 2 (.mv kf)]) (.seq (.reg [om 3 0,om 4 0,oo 5 (.cmp .neq (.t 3) (.t 4)),om 2 5]) (.ret))
theorem k141 : FnOk Tryz.prog 141 6 c141 [.t 2] := fk Tryz.func141 ⟨tv,⟨tv,tv⟩⟩
def c172 : MC := .seq (.reg [oo 2 (.mv kf)]) (.seq (.reg [om 3 0,om 4 0,oo 5 (.cmp .neq (.t 3) (.t 4)),om 2 5]) (.ret))
theorem k172 : FnOk Tryz.prog 172 6 c172 [.t 2] := fk Tryz.func172 ⟨tv,⟨tv,tv⟩⟩
def c171 : MC := .seq (.reg [oo 4 (.mv kf)]) (.seq (.reg [om 5 0,oo 6 (.call (.k (.fn (.func 141) [] [])) [(.t 5)]),os (some 7) (.mv (.t 6)),og 7 true (some 8) (.mv (.t 1)),og 7 true (some 9) (.call (.k (.fn (.func 141) [] [])) [(.t 8)]),og 7 true (some 10) (.not (.t 9)),oo 11 (.pick (.t 7) (.t 10) kf),os (some 12) (.mv (.t 11)),og 12 false (some 13) (.mv (.t 0)),og 12 false (some 14) (.mv (.t 1)),og 12 false (some 15) (.cmp .lss (.t 13) (.t 14)),oo 16 (.pick (.t 12) kt (.t 15)),om 4 16]) (.ret))
theorem k171 : FnOk Tryz.prog 171 17 c171 [.t 4] := fk Tryz.func171 ⟨tv,⟨tv,tv⟩⟩
def c142 : MC := .seq (.reg [oo 4 (.mv (ki 0)),oo 5 (.mv kf)]) (.seq (.reg [om 10 0,oo 11 (.lenS (.t 10)),om 6 11]) (.seq (.reg [om 12 6,oo 7 (.mv (ki 0)),om 8 12]) (.seq (.blk 0 (.loop 0 (.seq (.seq (.reg [om 13 7,om 14 8,oo 15 (.cmp .lss (.t 13) (.t 14))]) (.cond (.t 15) (.skip) (.exit 0))) (.blk 1 (.seq (.reg [om 16 7,om 17 8,oo 18 (.ar .add (.t 16) (.t 17)),oo 19 (.cv .u64 (.t 18)),oo 20 (.ar .shr (.t 19) (.k (.int .u64 1))),oo 21 (.cv .i64 (.t 20)),om 9 21]) (.seq (.reg [om 22 0,om 23 9,oo 24 (.ixa 1 (.t 22) (.t 23)),oo 25 (.ld none (.t 24)),om 26 1,oo 27 (.call (.k (.fn (.func 171) [] [])) [(.t 25),(.t 26)])]) (.cond (.t 27) (.reg [om 28 9,oo 29 (.ar .add (.t 28) (ki 1)),om 7 29]) (.reg [om 30 9,om 8 30])))))))) (.seq (.reg [om 31 7,om 32 7,om 33 6,oo 34 (.cmp .lss (.t 32) (.t 33)),os (some 35) (.mv (.t 34)),og 35 true (some 36) (.mv (.t 0)),og 35 true (some 37) (.mv (.t 7)),og 35 true (some 38) (.ixa 1 (.t 36) (.t 37)),og 35 true (some 39) (.ld none (.t 38)),og 35 true (some 40) (.mv (.t 1)),og 35 true (some 41) (.cmp .eql (.t 39) (.t 40)),ogs 35 true (some 42) (.mv (.t 41)),og 42 false (some 43) (.mv (.t 0)),og 42 false (some 44) (.mv (.t 7)),og 42 false (some 45) (.ixa 1 (.t 43) (.t 44)),og 42 false (some 46) (.ld none (.t 45)),og 42 false (some 47) (.call (.k (.fn (.func 172) [] [])) [(.t 46)]),ogs 42 false (some 48) (.mv (.t 47)),og 48 true (some 49) (.mv (.t 1)),og 48 true (some 50) (.call (.k (.fn (.func 172) [] [])) [(.t 49)]),og 42 false (some 51) (.pick (.t 48) (.t 50) kf),og 35 true (some 52) (.pick (.t 42) kt (.t 51)),oo 53 (.pick (.t 35) (.t 52) kf),om 4 31,om 5 53]) (.ret)))))
theorem k142 : FnOk Tryz.prog 142 54 c142 [.t 4,.t 5] := fk Tryz.func142 ⟨tv,⟨tv,⟨tv,⟨⟨⟨tv,⟨tv,tv⟩⟩,⟨tv,⟨tv,⟨tv,tv⟩⟩⟩⟩,⟨tv,tv⟩⟩⟩⟩⟩
def c98 : MC := .seq (.reg [oo 4 (.mv (ki 0))]) (.seq (.reg [om 8 0,om 9 1,oo 10 (.call (.k (.fn (.func 142) [] [])) [(.t 8),(.t 9)]),om 7 10,oo 11 (.ext 0 (.t 7)),oo 12 (.ext 1 (.t 7)),om 5 11,om 6 12]) (.seq (.seq (.reg [om 13 5,om 14 0,oo 15 (.lenS (.t 14)),oo 16 (.cmp .eql (.t 13) (.t 15))]) (.cond (.t 16) (.seq (.reg [oo 4 (.mv (ki (-1)))]) (.ret)) (.skip))) (.seq (.reg [om 17 0,om 18 5,oo 19 (.ixa 1 (.t 17) (.t 18)),oo 20 (.ld none (.t 19)),om 4 20]) (.ret))))
theorem k98 : FnOk Tryz.prog 98 21 c98 [.t 4] := fk Tryz.func98 ⟨tv,⟨tv,⟨⟨tv,⟨⟨tv,tv⟩,tv⟩⟩,⟨tv,tv⟩⟩⟩⟩
theorem cl_ne {α : Type} {f : α -> List PV} {L : List α} (h : L ≠ []) : List.map f L ≠ [] := by simpa using h
noncomputable def L31 (l : List HI) : LSpec := ⟨[.rd (.sl 15 (l.map HI.pv))], [], [], [.vec 15 (l.map HI.pv)], .slc 0 0 l.length⟩
theorem s31 (l : List HI) (hp : l ≠ [] ∧ l.length ≤ 1000000) : LSpec.ok Tryz.prog GG 31 (L31 l) := by
 refine fn_spec mix k31 _ rfl rfl (Tab.ok (l := []) trivial) noL noJ ?_
 repeat' ((conv => whnf); first
  | exact trivial
  | with_reducible first | refine aj ?_ | refine ai rfl ?_ | refine ai ⟨rfl, rfl⟩ ?_
  | ((with_reducible refine ai ?_ ?_); focus exact w3)
  | with_reducible first | refine And.intro (Sd.mk (p := _ ≠ _) (cl_ne hp.1)) ?_ | refine And.intro ?_ ?_ | refine asL_mk ?_ | refine exI (i64_in (by omega) (by omega)) ?_
  | refine exI (x := ULift.up _) (Eq.refl _) ?_
  | refine exI (x := ULift.up _) ⟨rfl, by omega, Eq.refl _⟩ ?_
  | exact ny
  | ((with_reducible intro h); try dsimp only at h))
 all_goals (refine Sd.mk ?_)
 all_goals first
  | (simp [Rows.len]; omega)
  | (simp [Rows.len]; done)
noncomputable def S31 : SFn
 | [a0], k => asSl a0 fun L_l => asL HI.pv L_l fun l => .req (l ≠ [] ∧ l.length ≤ 1000000) (k (L31 l))
 | _, _ => .fail
def srt (L : List Int) : Prop := L.Pairwise (· < ·)
def ltN (L : List Int) (x : Int) : Int := ((L.filter (fun y => decide (y < x))).length : Nat)
def fndF (L : List Int) (x : Int) : Bool := if ltN L x < L.length then decide (nth L (ltN L x) = x) else false
theorem srt_lt {L : List Int} (h : srt L) {i j : Int} (hi : 0 ≤ i) (hij : i < j) (hj : j < L.length) : nth L i < nth L j := by
 have e1 := nth_get L i ⟨hi, by omega⟩
 have e2 := nth_get L j ⟨by omega, hj⟩
 rw [List.getElem?_eq_getElem (by omega)] at e1 e2
 have := List.pairwise_iff_getElem.1 h i.toNat j.toNat (by omega) (by omega) (by omega)
 rw [Option.some.inj e1, Option.some.inj e2] at this
 exact this
theorem ltN_at {L : List Int} {x lo : Int} (h0 : 0 ≤ lo) (h1 : lo ≤ L.length) (ha : ∀ m, 0 ≤ m -> m < lo -> nth L m < x) (hb : ∀ m, lo ≤ m -> m < L.length -> x ≤ nth L m) : ltN L x = lo := by
 unfold ltN
 have e : L.filter (fun y => decide (y < x)) = L.take lo.toNat := by
  conv => lhs; rw [<- List.take_append_drop lo.toNat L]
  rw [List.filter_append]
  have e1 : (L.take lo.toNat).filter (fun y => decide (y < x)) = L.take lo.toNat := by
   rw [List.filter_eq_self]
   intro y hy
   obtain ⟨i, hi, rfl⟩ := List.mem_iff_getElem.1 hy
   rw [List.length_take] at hi
   have e1 := nth_get L i ⟨by omega, by omega⟩
   rw [List.getElem?_eq_getElem (by omega)] at e1
   rw [List.getElem_take]
   have := ha i (by omega) (by omega)
   rw [<- Option.some.inj e1] at this
   simpa using this
  have e2 : (L.drop lo.toNat).filter (fun y => decide (y < x)) = [] := by
   rw [List.filter_eq_nil_iff]
   intro y hy
   obtain ⟨i, hi, rfl⟩ := List.mem_iff_getElem.1 hy
   rw [List.length_drop] at hi
   have e1 := nth_get L ((lo.toNat + i : Nat) : Int) ⟨by omega, by omega⟩
   rw [List.getElem?_eq_getElem (by omega)] at e1
   rw [List.getElem_drop]
   have := hb ((lo.toNat + i : Nat) : Int) (by omega) (by omega)
   rw [<- Option.some.inj e1] at this
   simp only [Int.toNat_natCast] at this
   simpa using this
  rw [e1, e2, List.append_nil]
 rw [e, List.length_take]; omega
def inv142 (L : List Int) (x : Int) : Int × Int -> St
 | (lo, hi) => ⟨[(8, kz hi), (7, kz lo), (6, kz L.length), (1, kz x), (0, .rd (.sl 1 (L.map ipv)))], [], 0⟩
def I142 (L : List Int) (x : Int) (c : Int × Int) : Prop := 0 ≤ c.1 ∧ c.1 ≤ c.2 ∧ c.2 ≤ L.length ∧ L.length ≤ 1000000 ∧ (∀ m, 0 ≤ m -> m < c.1 -> nth L m < x) ∧ (∀ m, c.2 ≤ m -> m < L.length -> x ≤ nth L m)
theorem bs_0 {L : List Int} {x : Int} (h : L.length ≤ 1000000) : I142 L x (0, L.length) := ⟨by dsimp only; omega, by dsimp only; omega, by dsimp only; omega, h, fun m h1 h2 => by dsimp only at *; omega, fun m h1 h2 => by dsimp only at *; omega⟩
theorem bs_lo {L : List Int} {x lo hi : Int} (hs : srt L) (hI : I142 L x (lo, hi)) (h : lo < hi) (e : decide (nth L ((lo + hi) / 2) < x) = true) : I142 L x ((lo + hi) / 2 + 1, hi) ∧ (hi - ((lo + hi) / 2 + 1)).toNat < (hi - lo).toNat := by
 obtain ⟨h1, h2, h3, h4, h5, h6⟩ := hI
 have e := of_decide_eq_true e
 dsimp only at *
 refine ⟨⟨by dsimp only; omega, by dsimp only; omega, h3, h4, fun m g1 g2 => ?_, h6⟩, by omega⟩
 dsimp only at g2
 by_cases g3 : m = (lo + hi) / 2
 . rw [g3]; exact e
 . exact Int.lt_trans (srt_lt hs g1 (by omega) (by omega)) e
theorem bs_hi {L : List Int} {x lo hi : Int} (hs : srt L) (hI : I142 L x (lo, hi)) (h : lo < hi) (e : decide (nth L ((lo + hi) / 2) < x) = false) : I142 L x (lo, (lo + hi) / 2) ∧ ((lo + hi) / 2 - lo).toNat < (hi - lo).toNat := by
 obtain ⟨h1, h2, h3, h4, h5, h6⟩ := hI
 have e := of_decide_eq_false e
 dsimp only at *
 refine ⟨⟨h1, by dsimp only; omega, by dsimp only; omega, h4, h5, fun m g1 g2 => ?_⟩, by omega⟩
 dsimp only at g1
 by_cases g3 : m = (lo + hi) / 2
 . rw [g3]; omega
 . have := srt_lt hs (i := (lo + hi) / 2) (j := m) (by omega) (by omega) g2
   omega
theorem bs_end {L : List Int} {x lo hi : Int} (hI : I142 L x (lo, hi)) (h : ¬ lo < hi) : ltN L x = lo := by
 obtain ⟨h1, h2, h3, h4, h5, h6⟩ := hI
 dsimp only at *
 exact ltN_at h1 (by omega) h5 (fun m g1 g2 => h6 m (by omega) g2)
theorem bs_t {L : List Int} {x lo hi : Int} (hI : I142 L x (lo, hi)) (h : ¬ lo < hi) (g : lo < L.length) (e : nth L lo = x) : fndF L x = true := by
 unfold fndF; rw [bs_end hI h, if_pos g, e]; simp
theorem bs_f {L : List Int} {x lo hi : Int} (hI : I142 L x (lo, hi)) (h : ¬ lo < hi) (e : ¬ nth L lo = x) : fndF L x = false := by
 unfold fndF; rw [bs_end hI h]; split
 . simpa using e
 . rfl
theorem bs_n {L : List Int} {x lo hi : Int} (hI : I142 L x (lo, hi)) (h : ¬ lo < hi) (g : ¬ lo < L.length) : fndF L x = false := by
 unfold fndF; rw [bs_end hI h, if_neg g]
theorem ltN_bd {L : List Int} {x : Int} : 0 ≤ ltN L x ∧ ltN L x ≤ L.length := by
 have := List.length_filter_le (fun y => decide (y < x)) L
 unfold ltN; omega
def aftF (L : List Int) (x : Int) : Int := if ltN L x = L.length then -1 else nth L (ltN L x)
theorem all142 {L : List Int} {x : Int} {Q : Int × Int -> Prop} (h : ∀ lo hi, I142 L x (lo, hi) -> Q (lo, hi)) : ∀ c, I142 L x c -> Q c := fun ⟨lo, hi⟩ hI => h _ _ hI
theorem u64_in {n : Int} (h1 : 0 ≤ n) (h2 : n < 9223372036854775808) : (ULift.up n).down = IntKind.u64.wrap n := by
 show n = n % 18446744073709551616
 omega
theorem half_in {n : Int} (h1 : 0 ≤ n) (h2 : n < 9223372036854775808) : (ULift.up (n / 2)).down = IntKind.i64.wrap (n.fdiv (2 ^ (min (1 : Int).toNat IntKind.u64.bits))) := by
 have h : n.fdiv (2 ^ (min (1 : Int).toNat IntKind.u64.bits)) = n / 2 := Int.fdiv_eq_ediv_of_nonneg _ (by decide)
 rw [h]
 exact i64_in (by omega) (by omega)
noncomputable def L141 (x : Int) : LSpec := ⟨[kz x], [], [], [], .ff⟩
theorem s141 (x : Int) : LSpec.ok Tryz.prog GG 141 (L141 x) := by
 refine fn_spec mix k141 _ rfl rfl (Tab.ok (l := []) trivial) noL noJ ?_
 repeat' ((conv => whnf); first
  | exact trivial
  | with_reducible first | refine aj ?_ | refine ai rfl ?_ | refine ai ⟨rfl, rfl⟩ ?_
  | ((with_reducible refine ai ?_ ?_); focus exact w3)
  | with_reducible first | refine And.intro ?_ ?_ | refine asL_mk ?_ | refine exI (i64_in (by omega) (by omega)) ?_
  | refine exI (x := ULift.up _) (Eq.refl _) ?_
  | refine exI (x := ULift.up _) ⟨rfl, by omega, Eq.refl _⟩ ?_
  | exact ny
  | ((with_reducible intro h); try dsimp only at h))
 all_goals (refine Sd.mk ?_; simp_all)
noncomputable def S141 : SFn
 | [a0], k => asI a0 fun x => k (L141 x)
 | _, _ => .fail
theorem t141 : FnS Tryz.prog GG 141 S141 := by
 intro args k gt go R v os n h
 unfold S141 at h
 split at h
 . obtain ⟨x, _, h⟩ := asI_inv h
   exact ⟨_, _, s141 x, h⟩
 . cases h
noncomputable def L172 (x : Int) : LSpec := ⟨[kz x], [], [], [], .ff⟩
theorem s172 (x : Int) : LSpec.ok Tryz.prog GG 172 (L172 x) := by
 refine fn_spec mix k172 _ rfl rfl (Tab.ok (l := []) trivial) noL noJ ?_
 repeat' ((conv => whnf); first
  | exact trivial
  | with_reducible first | refine aj ?_ | refine ai rfl ?_ | refine ai ⟨rfl, rfl⟩ ?_
  | ((with_reducible refine ai ?_ ?_); focus exact w3)
  | with_reducible first | refine And.intro ?_ ?_ | refine asL_mk ?_ | refine exI (i64_in (by omega) (by omega)) ?_
  | refine exI (x := ULift.up _) (Eq.refl _) ?_
  | refine exI (x := ULift.up _) ⟨rfl, by omega, Eq.refl _⟩ ?_
  | exact ny
  | ((with_reducible intro h); try dsimp only at h))
 all_goals (refine Sd.mk ?_; simp_all)
noncomputable def S172 : SFn
 | [a0], k => asI a0 fun x => k (L172 x)
 | _, _ => .fail
theorem t172 : FnS Tryz.prog GG 172 S172 := by
 intro args k gt go R v os n h
 unfold S172 at h
 split at h
 . obtain ⟨x, _, h⟩ := asI_inv h
   exact ⟨_, _, s172 x, h⟩
 . cases h
noncomputable def L171 (x : Int) (y : Int) : LSpec := ⟨[kz x, kz y], [], [], [], .bool (decide (x < y))⟩
theorem s171 (x : Int) (y : Int) : LSpec.ok Tryz.prog GG 171 (L171 x y) := by
 refine fn_spec mix k171 _ rfl rfl (Tab.ok (l := [(141, S141)]) ⟨t141, trivial⟩) noL noJ ?_
 repeat' ((conv => whnf); first
  | exact trivial
  | with_reducible first | refine aj ?_ | refine ai rfl ?_ | refine ai ⟨rfl, rfl⟩ ?_
  | ((with_reducible refine ai ?_ ?_); focus exact w3)
  | with_reducible first | refine And.intro ?_ ?_ | refine asL_mk ?_ | refine exI (i64_in (by omega) (by omega)) ?_
  | refine exI (x := ULift.up _) (Eq.refl _) ?_
  | refine exI (x := ULift.up _) ⟨rfl, by omega, Eq.refl _⟩ ?_
  | exact ny
  | ((with_reducible intro h); try dsimp only at h))
 all_goals (refine Sd.mk ?_; simp_all)
noncomputable def S171 : SFn
 | [a0, a1], k => asI a0 fun x => asI a1 fun y => k (L171 x y)
 | _, _ => .fail
theorem t171 : FnS Tryz.prog GG 171 S171 := by
 intro args k gt go R v os n h
 unfold S171 at h
 split at h
 . obtain ⟨x, _, h⟩ := asI_inv h
   obtain ⟨y, _, h⟩ := asI_inv h
   exact ⟨_, _, s171 x y, h⟩
 . cases h
noncomputable def L142 (L : List Int) (x : Int) : LSpec := ⟨[.rd (.sl 1 (L.map ipv)), kz x], [], [], [], .tup [kz (ltN L x), .bool (fndF L x)]⟩
set_option maxHeartbeats 4000000 in
theorem s142 (L : List Int) (x : Int) (hp : srt L ∧ L.length ≤ 1000000) : LSpec.ok Tryz.prog GG 142 (L142 L x) := by
 refine fn_spec mix k142 _ rfl rfl (Tab.ok (l := [(171, S171), (172, S172)]) ⟨t171, t172, trivial⟩) (fun _ => .inv (Int × Int) (fun _ => I142 L x) (inv142 L x) (fun c => (c.2 - c.1).toNat)) noJ ?_
 repeat' ((conv => whnf); first
  | exact trivial
  | with_reducible first | refine aj ?_ | refine ai rfl ?_ | refine ai ⟨rfl, rfl⟩ ?_
  | ((with_reducible refine ai ?_ ?_); focus exact w3)
  | with_reducible first | refine all142 ?_ | apply exW (γ := Int × Int) (c := (_, _)) | refine exI (i64_in (by simp only [I142, List.length_map] at *; omega) (by simp only [I142, List.length_map] at *; omega)) ?_
  | refine exI (u64_in (by simp only [I142, List.length_map] at *; omega) (by simp only [I142, List.length_map] at *; omega)) ?_
  | refine exI (half_in (by simp only [I142, List.length_map] at *; omega) (by simp only [I142, List.length_map] at *; omega)) ?_
  | refine exI (x := ULift.up _) ⟨rfl, (by simp only [I142, List.length_map] at *; omega), pv_get _ _ _ (by simp only [I142, List.length_map] at *; omega)⟩ ?_
  | with_reducible first | refine And.intro ?_ ?_ | refine asL_mk ?_ | refine exI (i64_in (by omega) (by omega)) ?_
  | refine exI (x := ULift.up _) (Eq.refl _) ?_
  | refine exI (x := ULift.up _) ⟨rfl, by omega, Eq.refl _⟩ ?_
  | exact nx
  | ((with_reducible intro h); try dsimp only at h))
 all_goals (refine Sd.mk ?_; (try simp only [List.length_map] at *))
 all_goals first
  | exact bs_0 hp.2
  | exact bs_lo hp.1 (by assumption) (by assumption) (by assumption)
  | exact bs_hi hp.1 (by assumption) (by assumption) (by assumption)
  | exact bs_end (by assumption) (by assumption)
  | exact bs_t (by assumption) (by assumption) (by assumption) (by assumption)
  | exact bs_f (by assumption) (by assumption) (by assumption)
  | exact bs_n (by assumption) (by assumption) (by assumption)
noncomputable def S142 : SFn
 | [a0, a1], k => asSl a0 fun L_L => asL ipv L_L fun L => asI a1 fun x => .req (srt L ∧ L.length ≤ 1000000) (k (L142 L x))
 | _, _ => .fail
theorem t142 : FnS Tryz.prog GG 142 S142 := by
 intro args k gt go R v os n h
 unfold S142 at h
 split at h
 . obtain ⟨L_L, _, h⟩ := asSl_inv h
   obtain ⟨L, _, h⟩ := asL_inv h
   obtain ⟨x, _, h⟩ := asI_inv h
   obtain ⟨hp, _, h⟩ := req_inv h
   exact ⟨_, _, s142 L x hp, h⟩
 . cases h
noncomputable def L98 (L : List Int) (x : Int) : LSpec := ⟨[.rd (.sl 1 (L.map ipv)), kz x], [], [], [], kz (aftF L x)⟩
theorem s98 (L : List Int) (x : Int) (hp : srt L ∧ L.length ≤ 1000000) : LSpec.ok Tryz.prog GG 98 (L98 L x) := by
 refine fn_spec mix k98 _ rfl rfl (Tab.ok (l := [(142, S142)]) ⟨t142, trivial⟩) noL noJ ?_
 repeat' ((conv => whnf); first
  | exact trivial
  | with_reducible first | refine aj ?_ | refine ai rfl ?_ | refine ai ⟨rfl, rfl⟩ ?_
  | ((with_reducible refine ai ?_ ?_); focus exact w3)
  | with_reducible refine And.intro (Sd.mk (p := _ ∧ _ ≤ 1000000) hp) ?_
  | refine exI (x := ULift.up _) ⟨rfl, (by have := @ltN_bd L x; (try simp only [List.length_map] at *); omega), pv_get _ _ _ (by have := @ltN_bd L x; (try simp only [List.length_map] at *); omega)⟩ ?_
  | with_reducible first | refine And.intro ?_ ?_ | refine asL_mk ?_ | refine exI (i64_in (by omega) (by omega)) ?_
  | refine exI (x := ULift.up _) (Eq.refl _) ?_
  | refine exI (x := ULift.up _) ⟨rfl, by omega, Eq.refl _⟩ ?_
  | exact ny
  | ((with_reducible intro h); try dsimp only at h))
 all_goals (refine Sd.mk ?_; (try simp only [List.length_map] at *))
 all_goals first
  | (unfold aftF; rw [if_pos (by assumption)])
  | (unfold aftF; rw [if_neg (by assumption)])
noncomputable def S98 : SFn
 | [a0, a1], k => asSl a0 fun L_L => asL ipv L_L fun L => asI a1 fun x => .req (srt L ∧ L.length ≤ 1000000) (k (L98 L x))
 | _, _ => .fail
theorem t98 : FnS Tryz.prog GG 98 S98 := by
 intro args k gt go R v os n h
 unfold S98 at h
 split at h
 . obtain ⟨L_L, _, h⟩ := asSl_inv h
   obtain ⟨L, _, h⟩ := asL_inv h
   obtain ⟨x, _, h⟩ := asI_inv h
   obtain ⟨hp, _, h⟩ := req_inv h
   exact ⟨_, _, s98 L x hp, h⟩
 . cases h
end Go.Proofs.YtlahifihaeafbaaGreatDoor
namespace Go.Proofs.YtlahifihaeafbaaGreatDoor
open Go Go.Sx
def c96 : MC := .seq (.reg [oo 4 (.mv (ki 0))]) (.seq (.reg [om 7 0,oo 8 (.call (.k (.fn (.func 141) [] [])) [(.t 7)]),om 5 8]) (.seq (.reg [om 9 1,oo 10 (.call (.k (.fn (.func 141) [] [])) [(.t 9)]),om 6 10]) (.seq (.seq (.reg [om 11 5]) (.cond (.t 11) (.seq (.seq (.reg [om 12 6]) (.cond (.t 12) (.seq (.reg [oo 4 (.mv (ki 0))]) (.ret)) (.skip))) (.seq (.reg [oo 4 (.mv (ki (-1)))]) (.ret))) (.skip))) (.seq (.seq (.reg [om 13 6]) (.cond (.t 13) (.seq (.reg [oo 4 (.mv (ki 1))]) (.ret)) (.skip))) (.seq (.seq (.reg [om 14 0,om 15 1,oo 16 (.cmp .lss (.t 14) (.t 15))]) (.cond (.t 16) (.seq (.reg [oo 4 (.mv (ki (-1)))]) (.ret)) (.skip))) (.seq (.seq (.reg [om 17 0,om 18 1,oo 19 (.cmp .gtr (.t 17) (.t 18))]) (.cond (.t 19) (.seq (.reg [oo 4 (.mv (ki 1))]) (.ret)) (.skip))) (.seq (.reg [oo 4 (.mv (ki 0))]) (.ret))))))))
theorem k96 : FnOk Tryz.prog 96 20 c96 [.t 4] := fk Tryz.func96 ⟨tv,⟨tv,⟨tv,⟨⟨tv,⟨⟨⟨tv,⟨⟨tv,tv⟩,tv⟩⟩,⟨tv,tv⟩⟩,tv⟩⟩,⟨⟨tv,⟨⟨tv,tv⟩,tv⟩⟩,⟨⟨tv,⟨⟨tv,tv⟩,tv⟩⟩,⟨⟨tv,⟨⟨tv,tv⟩,tv⟩⟩,⟨tv,tv⟩⟩⟩⟩⟩⟩⟩⟩
def c52 : MC := .seq (.reg [oo 2 (.box (.t 0)),oo 3 (.box (.t 1)),oo 4 (.mv (ki 0))]) (.seq (.seq (.reg [oo 5 (.fld 0 (.t 2)),oo 6 (.ld none (.t 5)),oo 7 (.fld 0 (.t 3)),oo 8 (.ld none (.t 7)),oo 9 (.eqb true (.t 6) (.t 8))]) (.cond (.t 9) (.seq (.seq (.reg [oo 10 (.fld 0 (.t 3)),oo 11 (.ld none (.t 10))]) (.cond (.t 11) (.seq (.reg [oo 4 (.mv (ki (-1)))]) (.ret)) (.skip))) (.seq (.reg [oo 4 (.mv (ki 1))]) (.ret))) (.skip))) (.seq (.reg [oo 12 (.fld 1 (.t 2)),oo 13 (.ld none (.t 12)),oo 14 (.fld 1 (.t 3)),oo 15 (.ld none (.t 14)),oo 16 (.call (.k (.fn (.func 96) [] [])) [(.t 13),(.t 15)]),om 4 16]) (.ret)))
theorem k52 : FnOk Tryz.prog 52 17 c52 [.t 4] := fk Tryz.func52 ⟨tv,⟨⟨tv,⟨⟨⟨tv,⟨⟨tv,tv⟩,tv⟩⟩,⟨tv,tv⟩⟩,tv⟩⟩,⟨tv,tv⟩⟩⟩
def cmpI (x y : Int) : Int := if x < y then -1 else if y < x then 1 else 0
def cmpR (a b : HR) : Int := if a.vec ≠ b.vec then (if b.vec = true then -1 else 1) else cmpI a.n b.n
noncomputable def L96 (x : Int) (y : Int) : LSpec := ⟨[kz x, kz y], [], [], [], kz (cmpI x y)⟩
theorem s96 (x : Int) (y : Int) : LSpec.ok Tryz.prog GG 96 (L96 x y) := by
 refine fn_spec mix k96 _ rfl rfl (Tab.ok (l := [(141, S141)]) ⟨t141, trivial⟩) noL noJ ?_
 repeat' ((conv => whnf); first
  | exact trivial
  | with_reducible first | refine aj ?_ | refine ai rfl ?_ | refine ai ⟨rfl, rfl⟩ ?_
  | ((with_reducible refine ai ?_ ?_); focus exact w3)
  | with_reducible first | refine And.intro ?_ ?_ | refine asL_mk ?_ | refine exI (i64_in (by omega) (by omega)) ?_
  | refine exI (x := ULift.up _) (Eq.refl _) ?_
  | refine exI (x := ULift.up _) ⟨rfl, by omega, Eq.refl _⟩ ?_
  | exact ny
  | ((with_reducible intro h); try dsimp only at h))
 all_goals (refine Sd.mk ?_; unfold cmpI; (repeat' split)) <;> first | rfl | omega | simp_all
noncomputable def S96 : SFn
 | [a0, a1], k => asI a0 fun x => asI a1 fun y => k (L96 x y)
 | _, _ => .fail
theorem t96 : FnS Tryz.prog GG 96 S96 := by
 intro args k gt go R v os n h
 unfold S96 at h
 split at h
 . obtain ⟨x, _, h⟩ := asI_inv h
   obtain ⟨y, _, h⟩ := asI_inv h
   exact ⟨_, _, s96 x y, h⟩
 . cases h
noncomputable def L52 (a : HR) (b : HR) : LSpec := ⟨[.agg a.cells, .agg b.cells], [], [], [], kz (cmpR a b)⟩
theorem s52 (a : HR) (b : HR) : LSpec.ok Tryz.prog GG 52 (L52 a b) := by
 refine fn_spec mix k52 _ rfl rfl (Tab.ok (l := [(96, S96)]) ⟨t96, trivial⟩) noL noJ ?_
 repeat' ((conv => whnf); first
  | exact trivial
  | with_reducible first | refine aj ?_ | refine ai rfl ?_ | refine ai ⟨rfl, rfl⟩ ?_
  | ((with_reducible refine ai ?_ ?_); focus exact w3)
  | with_reducible first | refine And.intro ?_ ?_ | refine asL_mk ?_ | refine exI (i64_in (by omega) (by omega)) ?_
  | refine exI (x := ULift.up _) (Eq.refl _) ?_
  | refine exI (x := ULift.up _) ⟨rfl, by omega, Eq.refl _⟩ ?_
  | exact nx
  | ((with_reducible intro h); try dsimp only at h))
 all_goals (refine Sd.mk ?_; unfold cmpR; simp_all)
noncomputable def S52 : SFn
 | [a0, a1], k => asHR a0 fun a => asHR a1 fun b => k (L52 a b)
 | _, _ => .fail
theorem t52 : FnS Tryz.prog GG 52 S52 := by
 intro args k gt go R v os n h
 unfold S52 at h
 split at h
 . obtain ⟨a, _, h⟩ := asHR_inv h
   obtain ⟨b, _, h⟩ := asHR_inv h
   exact ⟨_, _, s52 a b, h⟩
 . cases h
end Go.Proofs.YtlahifihaeafbaaGreatDoor
namespace Go.Proofs.YtlahifihaeafbaaGreatDoor
open Go Go.Sx
def c225 : MC := .seq (.reg [om 10 1,oo 11 (.ar .add (.t 10) (ki 1)),om 8 11]) (.blk 0 (.loop 0 (.seq (.seq (.reg [om 12 8,om 13 2,oo 14 (.cmp .lss (.t 12) (.t 13))]) (.cond (.t 14) (.skip) (.exit 0))) (.seq (.blk 1 (.seq (.reg [om 17 8,om 9 17]) (.blk 2 (.loop 1 (.seq (.seq (.drw [om 18 9,om 19 1,oo 20 (.cmp .gtr (.t 18) (.t 19)),os (some 21) (.mv (.t 20)),og 21 true (some 22) (.mv (.t 3)),og 21 true (some 23) (.mv (.t 0)),og 21 true (some 24) (.mv (.t 9)),og 21 true (some 25) (.ixa 1 (.t 23) (.t 24)),og 21 true (some 26) (.ld none (.t 25)),og 21 true (some 27) (.mv (.t 0)),og 21 true (some 28) (.mv (.t 9)),og 21 true (some 29) (.ar .sub (.t 28) (ki 1)),og 21 true (some 30) (.ixa 1 (.t 27) (.t 29)),og 21 true (some 31) (.ld none (.t 30)),og 21 true (some 32) (.call (.t 22) [(.t 26),(.t 31)]),og 21 true (some 33) (.cmp .lss (.t 32) (ki 0)),oo 34 (.pick (.t 21) (.t 33) kf)] [[],[],[0,1],[2],[3],[3],[3],[5,6,3],[7,3],[3],[3],[10,3],[9,11,3],[12,3],[4,8,13,3,3],[14,3],[3,15]]) (.cond (.t 34) (.skip) (.exit 2))) (.seq (.blk 3 (.drw [om 37 0,om 38 9,om 39 0,om 40 9,oo 41 (.ar .sub (.t 40) (ki 1)),om 42 0,om 43 9,oo 44 (.ar .sub (.t 43) (ki 1)),oo 45 (.ixa 1 (.t 42) (.t 44)),oo 46 (.ld none (.t 45)),om 47 0,om 48 9,oo 49 (.ixa 1 (.t 47) (.t 48)),oo 50 (.ld none (.t 49)),oo 51 (.ixa 1 (.t 37) (.t 38)),o none (.st (some 1) (.t 51) (.t 46)),oo 52 (.ixa 1 (.t 39) (.t 41)),o none (.st (some 1) (.t 52) (.t 50))] [[],[],[],[],[3],[],[],[6],[5,7],[8],[],[],[10,11],[12],[0,1,0,1,5,6,7,8,9,13],[14,9,0,1,5,6,7,8,9,13],[2,4,0,1,2,3,4,5,6,7,8,9,10,11,12,13,14,15],[16,13,15,0,1,2,3,4,5,6,7,8,9,10,11,12,13,14,15]])) (.reg [om 35 9,oo 36 (.ar .sub (.t 35) (ki 1)),om 9 36]))))))) (.reg [om 15 8,oo 16 (.ar .add (.t 15) (ki 1)),om 8 16])))))
theorem k225 : FnOk Tryz.prog 225 53 c225 [] := fk Tryz.func225 ⟨tv,⟨⟨tv,⟨tv,tv⟩⟩,⟨⟨tv,⟨⟨tv,⟨tv,tv⟩⟩,⟨tv,tv⟩⟩⟩,tv⟩⟩⟩
def insI : List Int -> Int -> List Int
 | [], x => [x]
 | y :: r, x => if cmpI x y < 0 then y :: insI r x else x :: y :: r
def sortI (L : List Int) : List Int := (L.foldl insI []).reverse
def swpI (M : List Int) (j : Int) : List Int := (M.set (0 + j.toNat) (nth M (j - 1))).set (0 + (j - 1).toNat) (nth M j)
abbrev O225 := Int × List Int
abbrev C225 := Int × Int × List Int
def inv225o (L : List Int) : O225 -> St
 | (i, M) => ⟨[(8, kz i), (3, .fn (.func 96) [] []), (2, kz L.length), (1, kz 0), (0, .slc 0 0 L.length)], [(0, some (.vec 1 (M.map ipv)))], 1⟩
def inv225i (L : List Int) : C225 -> St
 | (i, j, M) => ⟨[(9, kz j), (8, kz i), (3, .fn (.func 96) [] []), (2, kz L.length), (1, kz 0), (0, .slc 0 0 L.length)], [(0, some (.vec 1 (M.map ipv)))], 1⟩
def I225o (L : List Int) : O225 -> Prop
 | (i, M) => 1 ≤ i ∧ (i ≤ L.length ∨ i = 1) ∧ L.length ≤ 1000000 ∧ M.length = L.length ∧ M = (((L.take i.toNat).foldl insI []).reverse ++ L.drop i.toNat)
def G225 (L : List Int) (i j : Int) (M : List Int) : Prop := ∃ A B : List Int, A.length = j.toNat ∧ M = A.reverse ++ nth L i :: (B.reverse ++ L.drop (i + 1).toNat) ∧ (L.take (i + 1).toNat).foldl insI [] = B ++ insI A (nth L i)
def I225i (L : List Int) (c0 : C225) : C225 -> Prop
 | (i, j, M) => i = c0.1 ∧ 0 ≤ j ∧ j ≤ i ∧ i < L.length ∧ L.length ≤ 1000000 ∧ M.length = L.length ∧ G225 L i j M
def LA225 (L : List Int) : Nat -> LAnn
 | 0 => .inv O225 (fun _ => I225o L) (inv225o L) (fun c => (L.length - c.1).toNat)
 | _ => .inv C225 (I225i L) (inv225i L) (fun c => c.2.1.toNat)
theorem allo225 {L : List Int} {Q : O225 -> Prop} (h : ∀ i M, I225o L (i, M) -> Q (i, M)) : ∀ c, I225o L c -> Q c := fun ⟨i, M⟩ hI => h _ _ hI
theorem alli225 {L : List Int} {i x} {Q : C225 -> Prop} (h : ∀ j M, I225i L (i, x) (i, j, M) -> Q (i, j, M)) : ∀ c, I225i L (i, x) c -> Q c := fun ⟨i', j, M⟩ hI => by
 have h1 := hI.1
 dsimp only at h1
 subst h1
 exact h _ _ hI
theorem exSI {L : List Int} {c0 : C225} {i j : Int} {M : List Int} (_ : I225i L c0 (i, j, M)) {p q : C225 -> Prop} (h : p (i, j - 1, swpI M j)) (k : q (i, j - 1, swpI M j)) : ∃ c, p c ∧ q c := ⟨_, h, k⟩
theorem pg2I {M : List Int} {y : Int} {a k : Int} (h : 0 ≤ k ∧ k < M.length) : (List.set (List.map ipv M) (0 + a.toNat) (ipv y))[0 + k.toNat]? = some (ipv (nth (M.set (0 + a.toNat) y) k)) := by
 rw [<- List.map_set, pv_get0 _ _ _ (by rw [List.length_set]; exact h)]
theorem nth_atI {P R : List Int} {x : Int} {j : Int} (h0 : 0 ≤ j) (h : P.length = j.toNat) : nth (P ++ x :: R) j = x := by
 have e := nth_get (P ++ x :: R) j ⟨h0, by rw [List.length_append, List.length_cons]; omega⟩
 rw [<- h, List.getElem?_append_right (Nat.le_refl _), Nat.sub_self] at e
 exact (Option.some.inj e).symm
theorem insI_len (A : List Int) (x : Int) : (insI A x).length = A.length + 1 := by
 induction A with
 | nil => rfl
 | cons y r ih =>
   unfold insI; split
   . rw [List.length_cons, ih, List.length_cons]
   . rfl
theorem fold_lenI (l : List Int) : ∀ A : List Int, (l.foldl insI A).length = A.length + l.length := by
 induction l with
 | nil => intro A; rfl
 | cons x r ih => intro A; rw [List.foldl_cons, ih, insI_len, List.length_cons]; omega
theorem si_0 {L : List Int} (hp : L.length ≤ 1000000) : I225o L (0 + 1, L) := by
 refine ⟨by omega, .inr rfl, hp, rfl, ?_⟩
 cases L with
 | nil => rfl
 | cons a t => rfl
theorem si_i {L : List Int} {i : Int} {M : List Int} (hI : I225o L (i, M)) (h : i < L.length) : I225i L (i, i, M) (i, i, M) := by
 obtain ⟨h1, h2, h3, h4, h5⟩ := hI
 refine ⟨rfl, by omega, by omega, h, h3, h4, (L.take i.toNat).foldl insI [], [], ?_, ?_, ?_⟩
 . rw [fold_lenI, List.length_take, List.length_nil]; omega
 . rw [h5, drop_step L i ⟨by omega, h⟩]; rfl
 . rw [take_step L i ⟨by omega, h⟩, List.foldl_append]; rfl
theorem si_swp {M : List Int} {j : Int} : List.map ipv (swpI M j) = ((List.map ipv M).set (0 + j.toNat) [PV.int IntKind.i64 (nth M (j - 1))]).set (0 + (j - 1).toNat) [PV.int IntKind.i64 (nth M j)] := by
 unfold swpI; rw [List.map_set, List.map_set]; rfl
theorem swp_atI {P R : List Int} {x y : Int} {j : Int} (h0 : 0 < j) (h : P.length = (j - 1).toNat) : swpI (P ++ y :: x :: R) j = P ++ x :: y :: R := by
 have e1 : nth (P ++ y :: x :: R) (j - 1) = y := nth_atI (by omega) h
 have e2 : nth (P ++ y :: x :: R) j = x := by
  have : P ++ y :: x :: R = (P ++ [y]) ++ x :: R := by rw [List.append_assoc]; rfl
  rw [this]
  exact nth_atI (by omega) (by rw [List.length_append, List.length_singleton]; omega)
 unfold swpI
 rw [e1, e2, List.set_append, if_neg (by omega)]
 have e3 : 0 + j.toNat - P.length = 1 := by omega
 rw [e3]
 show (P ++ y :: y :: R).set _ x = _
 rw [List.set_append, if_neg (by omega)]
 have e4 : 0 + (j - 1).toNat - P.length = 0 := by omega
 rw [e4]; rfl
theorem si_go {L : List Int} {c0 : C225} {i j : Int} {M : List Int} (hI : I225i L c0 (i, j, M)) (h : 0 < j) (e : cmpI (nth M j) (nth M (j - 1)) < 0) : I225i L c0 (i, j - 1, swpI M j) ∧ (j - 1).toNat < j.toNat := by
 obtain ⟨h1, h2, h3, h4, h5, h6, A, B, h7, h8, h9⟩ := hI
 refine ⟨⟨h1, by omega, by omega, h4, h5, by unfold swpI; rw [List.length_set, List.length_set]; exact h6, ?_⟩, by omega⟩
 cases A with
 | nil => rw [List.length_nil] at h7; omega
 | cons y A =>
   rw [List.length_cons] at h7
   rw [List.reverse_cons, List.append_assoc] at h8
   have hl : A.reverse.length = (j - 1).toNat := by rw [List.length_reverse]; omega
   have e1 : nth M (j - 1) = y := by rw [h8]; exact nth_atI (by omega) hl
   have e2 : nth M j = nth L i := by
    rw [h8, <- List.append_assoc]
    exact nth_atI (by omega) (by rw [List.length_append, List.length_singleton]; omega)
   refine ⟨A, B ++ [y], by omega, ?_, ?_⟩
   . rw [h8]
     have := swp_atI (P := A.reverse) (R := B.reverse ++ L.drop (i + 1).toNat) (x := nth L i) (y := y) h hl
     rw [List.reverse_append]
     exact this
   . rw [e1, e2] at e
     rw [h9, insI, if_pos e, List.append_assoc]; rfl
theorem si_out {L : List Int} {c0 : C225} {i j : Int} {M : List Int} (hi : 1 ≤ i) (hI : I225i L c0 (i, j, M)) (e : ¬ 0 < j ∨ ¬ cmpI (nth M j) (nth M (j - 1)) < 0) : I225o L (i + 1, M) ∧ ((L.length : Int) - (i + 1)).toNat < ((L.length : Int) - i).toNat := by
 obtain ⟨h1, h2, h3, h4, h5, h6, A, B, h7, h8, h9⟩ := hI
 refine ⟨⟨by omega, .inl (by omega), h5, h6, ?_⟩, by omega⟩
 have h10 : insI A (nth L i) = nth L i :: A := by
  cases A with
  | nil => rfl
  | cons y A =>
    rw [List.length_cons] at h7
    rw [List.reverse_cons, List.append_assoc] at h8
    have hl : A.reverse.length = (j - 1).toNat := by rw [List.length_reverse]; omega
    have e1 : nth M (j - 1) = y := by rw [h8]; exact nth_atI (by omega) hl
    have e2 : nth M j = nth L i := by
     rw [h8, <- List.append_assoc]
     exact nth_atI (by omega) (by rw [List.length_append, List.length_singleton]; omega)
    rw [e1, e2] at e
    rw [insI, if_neg]
    rcases e with e | e
    . omega
    . exact e
 rw [h9, h10, h8, List.reverse_append, List.reverse_cons, List.append_assoc, List.append_assoc]; rfl
theorem i_posI {L : List Int} {i : Int} {M : List Int} (hI : I225o L (i, M)) : 1 ≤ i := hI.1
theorem si_end {L : List Int} {i : Int} {M : List Int} (hI : I225o L (i, M)) (h : ¬ i < L.length) : List.map ipv (sortI L) = List.map ipv M := by
 obtain ⟨h1, h2, h3, h4, h5⟩ := hI
 rw [h5, List.take_of_length_le (by omega), List.drop_eq_nil_of_le (by omega), List.append_nil]; rfl
noncomputable def L225 (L : List Int) : LSpec := ⟨[.slc 0 0 L.length, kz 0, kz L.length, .fn (.func 96) [] []], [.vec 1 (L.map ipv)], [some (.vec 1 ((sortI L).map ipv))], [], .tup []⟩
set_option maxHeartbeats 4000000 in
theorem s225 (L : List Int) (hp : L.length ≤ 1000000) : LSpec.ok Tryz.prog GG 225 (L225 L) := by
 refine fn_spec mix k225 _ rfl rfl (Tab.ok (l := [(96, S96)]) ⟨t96, trivial⟩) (LA225 L) noJ ?_
 repeat' ((conv => whnf); first
  | exact trivial
  | with_reducible first | refine aj ?_ | refine ai rfl ?_ | refine ai ⟨rfl, rfl⟩ ?_
  | ((with_reducible refine ai ?_ ?_); focus exact w3)
  | with_reducible first | refine allo225 ?_ | refine alli225 ?_ | refine exSI (by with_reducible assumption) ?_ ?_ | apply exW (γ := C225) (c := (_, _, _)) | apply exW (γ := O225) (c := (_, _)) | refine exI (i64_in (by simp only [I225o, I225i, List.length_map] at *; omega) (by simp only [I225o, I225i, List.length_map] at *; omega)) ?_
  | refine exI (x := ULift.up _) (pv_get0 _ _ _ (by simp only [I225o, I225i, List.length_map] at *; omega)) ?_
  | refine exI (x := ULift.up _) ⟨rfl, (by simp only [I225o, I225i, List.length_map] at *; omega), pv_get _ _ _ (by simp only [I225o, I225i, List.length_map] at *; omega)⟩ ?_
  | refine exI (x := ULift.up _) (pg2I (by simp only [I225o, I225i, List.length_map] at *; omega)) ?_
  | with_reducible first | refine And.intro (Sd.mk (p := (_ : Int) ≤ _ ∧ _) (by simp only [I225o, I225i, List.length_map] at *; omega)) ?_ | refine And.intro ?_ ?_ | refine asL_mk ?_ | refine exI (i64_in (by omega) (by omega)) ?_
  | refine exI (x := ULift.up _) (Eq.refl _) ?_
  | refine exI (x := ULift.up _) ⟨rfl, by omega, Eq.refl _⟩ ?_
  | exact nx
  | ((with_reducible intro h); try dsimp only at h))
 all_goals (refine Sd.mk ?_)
 all_goals (try simp only [true_and] at *)
 all_goals first
  | exact si_0 hp
  | exact si_i (by assumption) (by assumption)
  | exact si_swp
  | exact si_go (by assumption) (by assumption) (by assumption)
  | exact si_out (i_posI (by assumption)) (by assumption) (.inl (by assumption))
  | exact si_out (i_posI (by assumption)) (by assumption) (.inr (by assumption))
  | exact si_end (by assumption) (by assumption)
noncomputable def S225 : SFn
 | [.slc p 0 _, .int .i64 0, .int .i64 _, .fn (.func 96) [] []], k => .rO p fun o => match o with
   | some (.vec 1 LL) => asL ipv LL fun L => .req (L.length ≤ 1000000) (k (L225 L))
   | _ => .fail
 | _, _ => .fail
theorem t225 : FnS Tryz.prog GG 225 S225 := by
 intro args k gt go R v os n h
 unfold S225 at h
 split at h
 . cases h with
   | rO h =>
     dsimp only at h
     split at h
     . obtain ⟨L, _, h⟩ := asL_inv h
       obtain ⟨hp, _, h⟩ := req_inv h
       exact ⟨_, _, s225 L hp, h⟩
     . cases h
 . cases h
end Go.Proofs.YtlahifihaeafbaaGreatDoor
namespace Go.Proofs.YtlahifihaeafbaaGreatDoor
open Go Go.Sx
def c181 : MC := .seq (.reg [om 10 1,oo 11 (.ar .add (.t 10) (ki 1)),om 8 11]) (.blk 0 (.loop 0 (.seq (.seq (.reg [om 12 8,om 13 2,oo 14 (.cmp .lss (.t 12) (.t 13))]) (.cond (.t 14) (.skip) (.exit 0))) (.seq (.blk 1 (.seq (.reg [om 17 8,om 9 17]) (.blk 2 (.loop 1 (.seq (.seq (.drw [om 18 9,om 19 1,oo 20 (.cmp .gtr (.t 18) (.t 19)),os (some 21) (.mv (.t 20)),og 21 true (some 22) (.mv (.t 3)),og 21 true (some 23) (.mv (.t 0)),og 21 true (some 24) (.mv (.t 9)),og 21 true (some 25) (.ixa 2 (.t 23) (.t 24)),og 21 true (some 26) (.ld (some 2) (.t 25)),og 21 true (some 27) (.mv (.t 0)),og 21 true (some 28) (.mv (.t 9)),og 21 true (some 29) (.ar .sub (.t 28) (ki 1)),og 21 true (some 30) (.ixa 2 (.t 27) (.t 29)),og 21 true (some 31) (.ld (some 2) (.t 30)),og 21 true (some 32) (.call (.t 22) [(.t 26),(.t 31)]),og 21 true (some 33) (.cmp .lss (.t 32) (ki 0)),oo 34 (.pick (.t 21) (.t 33) kf)] [[],[],[0,1],[2],[3],[3],[3],[5,6,3],[7,3],[3],[3],[10,3],[9,11,3],[12,3],[4,8,13,3,3],[14,3],[3,15]]) (.cond (.t 34) (.skip) (.exit 2))) (.seq (.blk 3 (.drw [om 37 0,om 38 9,om 39 0,om 40 9,oo 41 (.ar .sub (.t 40) (ki 1)),om 42 0,om 43 9,oo 44 (.ar .sub (.t 43) (ki 1)),oo 45 (.ixa 2 (.t 42) (.t 44)),oo 46 (.ld (some 2) (.t 45)),om 47 0,om 48 9,oo 49 (.ixa 2 (.t 47) (.t 48)),oo 50 (.ld (some 2) (.t 49)),oo 51 (.ixa 2 (.t 37) (.t 38)),o none (.st (some 2) (.t 51) (.t 46)),oo 52 (.ixa 2 (.t 39) (.t 41)),o none (.st (some 2) (.t 52) (.t 50))] [[],[],[],[],[3],[],[],[6],[5,7],[8],[],[],[10,11],[12],[0,1,0,1,5,6,7,8,9,13],[14,9,0,1,5,6,7,8,9,13],[2,4,0,1,2,3,4,5,6,7,8,9,10,11,12,13,14,15],[16,13,15,0,1,2,3,4,5,6,7,8,9,10,11,12,13,14,15]])) (.reg [om 35 9,oo 36 (.ar .sub (.t 35) (ki 1)),om 9 36]))))))) (.reg [om 15 8,oo 16 (.ar .add (.t 15) (ki 1)),om 8 16])))))
theorem k181 : FnOk Tryz.prog 181 53 c181 [] := fk Tryz.func181 ⟨tv,⟨⟨tv,⟨tv,tv⟩⟩,⟨⟨tv,⟨⟨tv,⟨tv,tv⟩⟩,⟨tv,tv⟩⟩⟩,tv⟩⟩⟩
def insR : List HR -> HR -> List HR
 | [], x => [x]
 | y :: r, x => if cmpR x y < 0 then y :: insR r x else x :: y :: r
def sortR (L : List HR) : List HR := (L.foldl insR []).reverse
def swp (M : List HR) (j : Int) : List HR := (M.set (0 + j.toNat) (nth M (j - 1))).set (0 + (j - 1).toNat) (nth M j)
abbrev O181 := Int × List HR
abbrev C181 := Int × Int × List HR
def inv181o (L : List HR) : O181 -> St
 | (i, M) => ⟨[(8, kz i), (3, .fn (.func 52) [] []), (2, kz L.length), (1, kz 0), (0, .slc 0 0 L.length)], [(0, some (.vec 2 (M.map HR.pv)))], 1⟩
def inv181i (L : List HR) : C181 -> St
 | (i, j, M) => ⟨[(9, kz j), (8, kz i), (3, .fn (.func 52) [] []), (2, kz L.length), (1, kz 0), (0, .slc 0 0 L.length)], [(0, some (.vec 2 (M.map HR.pv)))], 1⟩
def I181o (L : List HR) : O181 -> Prop
 | (i, M) => 1 ≤ i ∧ (i ≤ L.length ∨ i = 1) ∧ L.length ≤ 1000000 ∧ M.length = L.length ∧ M = (((L.take i.toNat).foldl insR []).reverse ++ L.drop i.toNat)
def G181 (L : List HR) (i j : Int) (M : List HR) : Prop := ∃ A B : List HR, A.length = j.toNat ∧ M = A.reverse ++ nth L i :: (B.reverse ++ L.drop (i + 1).toNat) ∧ (L.take (i + 1).toNat).foldl insR [] = B ++ insR A (nth L i)
def I181i (L : List HR) (c0 : C181) : C181 -> Prop
 | (i, j, M) => i = c0.1 ∧ 0 ≤ j ∧ j ≤ i ∧ i < L.length ∧ L.length ≤ 1000000 ∧ M.length = L.length ∧ G181 L i j M
def LA181 (L : List HR) : Nat -> LAnn
 | 0 => .inv O181 (fun _ => I181o L) (inv181o L) (fun c => (L.length - c.1).toNat)
 | _ => .inv C181 (I181i L) (inv181i L) (fun c => c.2.1.toNat)
theorem allo181 {L : List HR} {Q : O181 -> Prop} (h : ∀ i M, I181o L (i, M) -> Q (i, M)) : ∀ c, I181o L c -> Q c := fun ⟨i, M⟩ hI => h _ _ hI
theorem alli181 {L : List HR} {i x} {Q : C181 -> Prop} (h : ∀ j M, I181i L (i, x) (i, j, M) -> Q (i, j, M)) : ∀ c, I181i L (i, x) c -> Q c := fun ⟨i', j, M⟩ hI => by
 have h1 := hI.1
 dsimp only at h1
 subst h1
 exact h _ _ hI
theorem exS {L : List HR} {c0 : C181} {i j : Int} {M : List HR} (_ : I181i L c0 (i, j, M)) {p q : C181 -> Prop} (h : p (i, j - 1, swp M j)) (k : q (i, j - 1, swp M j)) : ∃ c, p c ∧ q c := ⟨_, h, k⟩
theorem pg2 {M : List HR} {y : HR} {a k : Int} (h : 0 ≤ k ∧ k < M.length) : (List.set (List.map HR.pv M) (0 + a.toNat) (HR.pv y))[0 + k.toNat]? = some (HR.pv (nth (M.set (0 + a.toNat) y) k)) := by
 rw [<- List.map_set, pv_get0 _ _ _ (by rw [List.length_set]; exact h)]
theorem nth_at {P R : List HR} {x : HR} {j : Int} (h0 : 0 ≤ j) (h : P.length = j.toNat) : nth (P ++ x :: R) j = x := by
 have e := nth_get (P ++ x :: R) j ⟨h0, by rw [List.length_append, List.length_cons]; omega⟩
 rw [<- h, List.getElem?_append_right (Nat.le_refl _), Nat.sub_self] at e
 exact (Option.some.inj e).symm
theorem insR_len (A : List HR) (x : HR) : (insR A x).length = A.length + 1 := by
 induction A with
 | nil => rfl
 | cons y r ih =>
   unfold insR; split
   . rw [List.length_cons, ih, List.length_cons]
   . rfl
theorem fold_len (l : List HR) : ∀ A : List HR, (l.foldl insR A).length = A.length + l.length := by
 induction l with
 | nil => intro A; rfl
 | cons x r ih => intro A; rw [List.foldl_cons, ih, insR_len, List.length_cons]; omega
theorem so_0 {L : List HR} (hp : L.length ≤ 1000000) : I181o L (0 + 1, L) := by
 refine ⟨by omega, .inr rfl, hp, rfl, ?_⟩
 cases L with
 | nil => rfl
 | cons a t => rfl
theorem so_i {L : List HR} {i : Int} {M : List HR} (hI : I181o L (i, M)) (h : i < L.length) : I181i L (i, i, M) (i, i, M) := by
 obtain ⟨h1, h2, h3, h4, h5⟩ := hI
 refine ⟨rfl, by omega, by omega, h, h3, h4, (L.take i.toNat).foldl insR [], [], ?_, ?_, ?_⟩
 . rw [fold_len, List.length_take, List.length_nil]; omega
 . rw [h5, drop_step L i ⟨by omega, h⟩]; rfl
 . rw [take_step L i ⟨by omega, h⟩, List.foldl_append]; rfl
theorem so_swp {M : List HR} {j : Int} : List.map HR.pv (swp M j) = ((List.map HR.pv M).set (0 + j.toNat) [PV.bool (nth M (j - 1)).vec, PV.int IntKind.i64 (nth M (j - 1)).n]).set (0 + (j - 1).toNat) [PV.bool (nth M j).vec, PV.int IntKind.i64 (nth M j).n] := by
 unfold swp; rw [List.map_set, List.map_set]; rfl
theorem swp_at {P R : List HR} {x y : HR} {j : Int} (h0 : 0 < j) (h : P.length = (j - 1).toNat) : swp (P ++ y :: x :: R) j = P ++ x :: y :: R := by
 have e1 : nth (P ++ y :: x :: R) (j - 1) = y := nth_at (by omega) h
 have e2 : nth (P ++ y :: x :: R) j = x := by
  have : P ++ y :: x :: R = (P ++ [y]) ++ x :: R := by rw [List.append_assoc]; rfl
  rw [this]
  exact nth_at (by omega) (by rw [List.length_append, List.length_singleton]; omega)
 unfold swp
 rw [e1, e2, List.set_append, if_neg (by omega)]
 have e3 : 0 + j.toNat - P.length = 1 := by omega
 rw [e3]
 show (P ++ y :: y :: R).set _ x = _
 rw [List.set_append, if_neg (by omega)]
 have e4 : 0 + (j - 1).toNat - P.length = 0 := by omega
 rw [e4]; rfl
theorem so_go {L : List HR} {c0 : C181} {i j : Int} {M : List HR} (hI : I181i L c0 (i, j, M)) (h : 0 < j) (e : cmpR (nth M j) (nth M (j - 1)) < 0) : I181i L c0 (i, j - 1, swp M j) ∧ (j - 1).toNat < j.toNat := by
 obtain ⟨h1, h2, h3, h4, h5, h6, A, B, h7, h8, h9⟩ := hI
 refine ⟨⟨h1, by omega, by omega, h4, h5, by unfold swp; rw [List.length_set, List.length_set]; exact h6, ?_⟩, by omega⟩
 cases A with
 | nil => rw [List.length_nil] at h7; omega
 | cons y A =>
   rw [List.length_cons] at h7
   rw [List.reverse_cons, List.append_assoc] at h8
   have hl : A.reverse.length = (j - 1).toNat := by rw [List.length_reverse]; omega
   have e1 : nth M (j - 1) = y := by rw [h8]; exact nth_at (by omega) hl
   have e2 : nth M j = nth L i := by
    rw [h8, <- List.append_assoc]
    exact nth_at (by omega) (by rw [List.length_append, List.length_singleton]; omega)
   refine ⟨A, B ++ [y], by omega, ?_, ?_⟩
   . rw [h8]
     have := swp_at (P := A.reverse) (R := B.reverse ++ L.drop (i + 1).toNat) (x := nth L i) (y := y) h hl
     rw [List.reverse_append]
     exact this
   . rw [e1, e2] at e
     rw [h9, insR, if_pos e, List.append_assoc]; rfl
theorem so_out {L : List HR} {c0 : C181} {i j : Int} {M : List HR} (hi : 1 ≤ i) (hI : I181i L c0 (i, j, M)) (e : ¬ 0 < j ∨ ¬ cmpR (nth M j) (nth M (j - 1)) < 0) : I181o L (i + 1, M) ∧ ((L.length : Int) - (i + 1)).toNat < ((L.length : Int) - i).toNat := by
 obtain ⟨h1, h2, h3, h4, h5, h6, A, B, h7, h8, h9⟩ := hI
 refine ⟨⟨by omega, .inl (by omega), h5, h6, ?_⟩, by omega⟩
 have h10 : insR A (nth L i) = nth L i :: A := by
  cases A with
  | nil => rfl
  | cons y A =>
    rw [List.length_cons] at h7
    rw [List.reverse_cons, List.append_assoc] at h8
    have hl : A.reverse.length = (j - 1).toNat := by rw [List.length_reverse]; omega
    have e1 : nth M (j - 1) = y := by rw [h8]; exact nth_at (by omega) hl
    have e2 : nth M j = nth L i := by
     rw [h8, <- List.append_assoc]
     exact nth_at (by omega) (by rw [List.length_append, List.length_singleton]; omega)
    rw [e1, e2] at e
    rw [insR, if_neg]
    rcases e with e | e
    . omega
    . exact e
 rw [h9, h10, h8, List.reverse_append, List.reverse_cons, List.append_assoc, List.append_assoc]; rfl
theorem i_pos {L : List HR} {i : Int} {M : List HR} (hI : I181o L (i, M)) : 1 ≤ i := hI.1
theorem so_end {L : List HR} {i : Int} {M : List HR} (hI : I181o L (i, M)) (h : ¬ i < L.length) : List.map HR.pv (sortR L) = List.map HR.pv M := by
 obtain ⟨h1, h2, h3, h4, h5⟩ := hI
 rw [h5, List.take_of_length_le (by omega), List.drop_eq_nil_of_le (by omega), List.append_nil]; rfl
noncomputable def L181 (L : List HR) : LSpec := ⟨[.slc 0 0 L.length, kz 0, kz L.length, .fn (.func 52) [] []], [.vec 2 (L.map HR.pv)], [some (.vec 2 ((sortR L).map HR.pv))], [], .tup []⟩
set_option maxHeartbeats 4000000 in
theorem s181 (L : List HR) (hp : L.length ≤ 1000000) : LSpec.ok Tryz.prog GG 181 (L181 L) := by
 refine fn_spec mix k181 _ rfl rfl (Tab.ok (l := [(52, S52)]) ⟨t52, trivial⟩) (LA181 L) noJ ?_
 repeat' ((conv => whnf); first
  | exact trivial
  | with_reducible first | refine aj ?_ | refine ai rfl ?_ | refine ai ⟨rfl, rfl⟩ ?_
  | ((with_reducible refine ai ?_ ?_); focus exact w3)
  | with_reducible first | refine allo181 ?_ | refine alli181 ?_ | refine exS (by with_reducible assumption) ?_ ?_ | apply exW (γ := C181) (c := (_, _, _)) | apply exW (γ := O181) (c := (_, _)) | refine exI (i64_in (by simp only [I181o, I181i, List.length_map] at *; omega) (by simp only [I181o, I181i, List.length_map] at *; omega)) ?_
  | refine exI (x := ULift.up _) (pv_get0 _ _ _ (by simp only [I181o, I181i, List.length_map] at *; omega)) ?_
  | refine exI (x := ULift.up _) ⟨rfl, (by simp only [I181o, I181i, List.length_map] at *; omega), pv_get _ _ _ (by simp only [I181o, I181i, List.length_map] at *; omega)⟩ ?_
  | refine exI (x := ULift.up _) (pg2 (by simp only [I181o, I181i, List.length_map] at *; omega)) ?_
  | with_reducible first | refine And.intro (Sd.mk (p := (_ : Int) ≤ _ ∧ _) (by simp only [I181o, I181i, List.length_map] at *; omega)) ?_ | refine And.intro ?_ ?_ | refine asL_mk ?_ | refine exI (i64_in (by omega) (by omega)) ?_
  | refine exI (x := ULift.up _) (Eq.refl _) ?_
  | refine exI (x := ULift.up _) ⟨rfl, by omega, Eq.refl _⟩ ?_
  | exact nx
  | ((with_reducible intro h); try dsimp only at h))
 all_goals (refine Sd.mk ?_)
 all_goals (try simp only [HR.eta, true_and] at *)
 all_goals first
  | exact so_0 hp
  | exact so_i (by assumption) (by assumption)
  | exact so_swp
  | exact so_go (by assumption) (by assumption) (by assumption)
  | exact so_out (i_pos (by assumption)) (by assumption) (.inl (by assumption))
  | exact so_out (i_pos (by assumption)) (by assumption) (.inr (by assumption))
  | exact so_end (by assumption) (by assumption)
noncomputable def S181 : SFn
 | [.slc p 0 _, .int .i64 0, .int .i64 _, .fn (.func 52) [] []], k => .rO p fun o => match o with
   | some (.vec 2 LL) => asL HR.pv LL fun L => .req (L.length ≤ 1000000) (k (L181 L))
   | _ => .fail
 | _, _ => .fail
theorem t181 : FnS Tryz.prog GG 181 S181 := by
 intro args k gt go R v os n h
 unfold S181 at h
 split at h
 . cases h with
   | rO h =>
     dsimp only at h
     split at h
     . obtain ⟨L, _, h⟩ := asL_inv h
       obtain ⟨hp, _, h⟩ := req_inv h
       exact ⟨_, _, s181 L hp, h⟩
     . cases h
 . cases h
end Go.Proofs.YtlahifihaeafbaaGreatDoor
namespace Go.Proofs.YtlahifihaeafbaaGreatDoor
open Go Go.Sx
def c190 : MC := .seq (.reg [oo 2 (.mv (ki 0))]) (.seq (.seq (.reg [om 3 0,oo 4 (.cmp .geq (.t 3) (.k (.int .u64 4294967296)))]) (.cond (.t 4) (.seq (.reg [om 5 0,oo 6 (.ar .shr (.t 5) (.k (.int .u64 32))),om 0 6]) (.reg [oo 2 (.mv (ki 32))])) (.skip))) (.seq (.seq (.reg [om 7 0,oo 8 (.cmp .geq (.t 7) (.k (.int .u64 65536)))]) (.cond (.t 8) (.seq (.reg [om 9 0,oo 10 (.ar .shr (.t 9) (.k (.int .u64 16))),om 0 10]) (.reg [om 11 2,oo 12 (.ar .add (.t 11) (ki 16)),om 2 12])) (.skip))) (.seq (.seq (.reg [om 13 0,oo 14 (.cmp .geq (.t 13) (.k (.int .u64 256)))]) (.cond (.t 14) (.seq (.reg [om 15 0,oo 16 (.ar .shr (.t 15) (.k (.int .u64 8))),om 0 16]) (.reg [om 17 2,oo 18 (.ar .add (.t 17) (ki 8)),om 2 18])) (.skip))) (.seq (.reg [om 19 2,om 20 0,oo 21 (.cv .u8 (.t 20)),oo 22 (.ixs (.k (.str ⟨#[0,1,2,2,3,3,3,3,4,4,4,4,4,4,4,4,5,5,5,5,5,5,5,5,5,5,5,5,5,5,5,5,6,6,6,6,6,6,6,6,6,6,6,6,6,6,6,6,6,6,6,6,6,6,6,6,6,6,6,6,6,6,6,6,7,7,7,7,7,7,7,7,7,7,7,7,7,7,7,7,7,7,7,7,7,7,7,7,7,7,7,7,7,7,7,7,7,7,7,7,7,7,7,7,7,7,7,7,7,7,7,7,7,7,7,7,7,7,7,7,7,7,7,7,7,7,7,7,8,8,8,8,8,8,8,8,8,8,8,8,8,8,8,8,8,8,8,8,8,8,8,8,8,8,8,8,8,8,8,8,8,8,8,8,8,8,8,8,8,8,8,8,8,8,8,8,8,8,8,8,8,8,8,8,8,8,8,8,8,8,8,8,8,8,8,8,8,8,8,8,8,8,8,8,8,8,8,8,8,8,8,8,8,8,8,8,8,8,8,8,8,8,8,8,8,8,8,8,8,8,8,8,8,8,8,8,8,8,8,8,8,8,8,8,8,8,8,8,8,8,8,8,8,8,8,8]⟩)) (.t 21)),oo 23 (.cv .i64 (.t 22)),oo 24 (.ar .add (.t 19) (.t 23)),om 2 24]) (.ret)))))
theorem k190 : FnOk Tryz.prog 190 25 c190 [.t 2] := fk Tryz.func190 ⟨tv,⟨⟨tv,⟨⟨tv,tv⟩,tv⟩⟩,⟨⟨tv,⟨⟨tv,tv⟩,tv⟩⟩,⟨⟨tv,⟨⟨tv,tv⟩,tv⟩⟩,⟨tv,tv⟩⟩⟩⟩⟩
def c170 : MC := .seq (.reg [oo 2 (.mv (ki 0))]) (.seq (.cond kf (.seq (.reg [om 3 0,oo 4 (.cv .u32 (.t 3)),oo 5 (.call (.k (.fn (.func 189) [] [])) [(.t 4)]),om 2 5]) (.ret)) (.skip)) (.seq (.reg [om 6 0,oo 7 (.call (.k (.fn (.func 190) [] [])) [(.t 6)]),om 2 7]) (.ret)))
theorem k170 : FnOk Tryz.prog 170 8 c170 [.t 2] := fk Tryz.func170 ⟨tv,⟨⟨⟨tv,tv⟩,tv⟩,⟨tv,tv⟩⟩⟩
def lenT (n : Int) : Int := if n = 0 then 0 else if n < 2 then 1 else if n < 4 then 2 else if n < 8 then 3 else 4
noncomputable def L190 (n : Int) : LSpec := ⟨[.int .u64 n], [], [], [], kz (lenT n)⟩
theorem s190 (n : Int) (hp : 0 ≤ n ∧ n ≤ 12) : LSpec.ok Tryz.prog GG 190 (L190 n) := by
 refine fn_spec mix k190 _ rfl rfl (Tab.ok (l := []) trivial) noL noJ ?_
 repeat' ((conv => whnf); first
  | exact trivial
  | with_reducible first | refine aj ?_ | refine ai rfl ?_ | refine ai ⟨rfl, rfl⟩ ?_
  | ((with_reducible refine ai ?_ ?_); focus exact w3)
  | with_reducible first | refine And.intro ?_ ?_ | refine asL_mk ?_ | refine exI (i64_in (by omega) (by omega)) ?_
  | refine exI (x := ULift.up _) (Eq.refl _) ?_
  | refine exI (x := ULift.up _) ⟨rfl, by omega, Eq.refl _⟩ ?_
  | exact nx
  | ((with_reducible intro h); try dsimp only at h))
 all_goals (refine Sd.mk ?_)
 all_goals (have hn : n = 0 ∨ n = 1 ∨ n = 2 ∨ n = 3 ∨ n = 4 ∨ n = 5 ∨ n = 6 ∨ n = 7 ∨ n = 8 ∨ n = 9 ∨ n = 10 ∨ n = 11 ∨ n = 12 := by omega)
 all_goals (clear hp)
 all_goals (rcases hn with hn | hn | hn | hn | hn | hn | hn | hn | hn | hn | hn | hn | hn)
 all_goals (rw [hn])
 all_goals first
  | decide
  | rfl
  | kernel_rfl
noncomputable def S190 : SFn
 | [.int .u64 n], k => .req (0 ≤ n ∧ n ≤ 12) (k (L190 n))
 | _, _ => .fail
theorem t190 : FnS Tryz.prog GG 190 S190 := by
 intro args k gt go R v os n h
 unfold S190 at h
 split at h
 . obtain ⟨hp, _, h⟩ := req_inv h
   exact ⟨_, _, s190 _ hp, h⟩
 . cases h
noncomputable def L170 (n : Int) : LSpec := ⟨[.int .u64 n], [], [], [], kz (lenT n)⟩
theorem s170 (n : Int) (hp : 0 ≤ n ∧ n ≤ 12) : LSpec.ok Tryz.prog GG 170 (L170 n) := by
 refine fn_spec mix k170 _ rfl rfl (Tab.ok (l := [(190, S190)]) ⟨t190, trivial⟩) noL noJ ?_
 repeat' ((conv => whnf); first
  | exact trivial
  | with_reducible first | refine aj ?_ | refine ai rfl ?_ | refine ai ⟨rfl, rfl⟩ ?_
  | ((with_reducible refine ai ?_ ?_); focus exact w3)
  | with_reducible first | refine And.intro (Sd.mk (p := _ ∧ _ ≤ 12) hp) ?_ | refine And.intro ?_ ?_ | refine asL_mk ?_ | refine exI (i64_in (by omega) (by omega)) ?_
  | refine exI (x := ULift.up _) (Eq.refl _) ?_
  | refine exI (x := ULift.up _) ⟨rfl, by omega, Eq.refl _⟩ ?_
  | exact nx
  | ((with_reducible intro h); try dsimp only at h))
 all_goals (refine Sd.mk ?_)
 all_goals first | rfl | trace_state
noncomputable def S170 : SFn
 | [.int .u64 n], k => .req (0 ≤ n ∧ n ≤ 12) (k (L170 n))
 | _, _ => .fail
theorem t170 : FnS Tryz.prog GG 170 S170 := by
 intro args k gt go R v os n h
 unfold S170 at h
 split at h
 . obtain ⟨hp, _, h⟩ := req_inv h
   exact ⟨_, _, s170 _ hp, h⟩
 . cases h
end Go.Proofs.YtlahifihaeafbaaGreatDoor
namespace Go.Proofs.YtlahifihaeafbaaGreatDoor
open Go Go.Sx
def c222 : MC := .seq (.reg [oo 10 (.mv kt)]) (.seq (.reg [oo 11 (.mv kt)]) (.blk 0 (.loop 0 (.blk 1 (.seq (.reg [om 21 2,om 22 1,oo 23 (.ar .sub (.t 21) (.t 22)),om 12 23]) (.seq (.seq (.reg [om 24 12,oo 25 (.cmp .leq (.t 24) (ki 12))]) (.cond (.t 25) (.seq (.reg [om 26 0,om 27 1,om 28 2,om 29 4,oo 30 (.call (.k (.fn (.func 225) [] [])) [(.t 26),(.t 27),(.t 28),(.t 29)])]) (.ret)) (.skip))) (.seq (.seq (.reg [om 31 3,oo 32 (.cmp .eql (.t 31) (ki 0))]) (.cond (.t 32) (.seq (.reg [om 33 0,om 34 1,om 35 2,om 36 4,oo 37 (.call (.k (.fn (.func 226) [] [])) [(.t 33),(.t 34),(.t 35),(.t 36)])]) (.ret)) (.skip))) (.seq (.seq (.reg [om 38 10,oo 39 (.not (.t 38))]) (.cond (.t 39) (.seq (.reg [om 40 0,om 41 1,om 42 2,om 43 4,oo 44 (.call (.k (.fn (.func 227) [] [])) [(.t 40),(.t 41),(.t 42),(.t 43)])]) (.reg [om 45 3,oo 46 (.ar .sub (.t 45) (ki 1)),om 3 46])) (.skip))) (.seq (.reg [om 48 0,om 49 1,om 50 2,om 51 4,oo 52 (.call (.k (.fn (.func 228) [] [])) [(.t 48),(.t 49),(.t 50),(.t 51)]),om 47 52,oo 53 (.ext 0 (.t 47)),oo 54 (.ext 1 (.t 47)),om 13 53,om 14 54]) (.seq (.seq (.reg [om 55 14,oo 56 (.cmp .eql (.t 55) (ki 2))]) (.cond (.t 56) (.seq (.reg [om 57 0,om 58 1,om 59 2,om 60 4,oo 61 (.call (.k (.fn (.func 229) [] [])) [(.t 57),(.t 58),(.t 59),(.t 60)])]) (.seq (.reg [om 62 2,oo 63 (.ar .sub (.t 62) (ki 1)),om 64 13,om 65 1,oo 66 (.ar .sub (.t 64) (.t 65)),oo 67 (.ar .sub (.t 63) (.t 66)),om 13 67]) (.reg [oo 14 (.mv (ki 1))]))) (.skip))) (.seq (.seq (.reg [om 68 10,os (some 69) (.mv (.t 68)),og 69 true (some 70) (.mv (.t 11)),oo 71 (.pick (.t 69) (.t 70) kf),os (some 72) (.mv (.t 71)),og 72 true (some 73) (.mv (.t 14)),og 72 true (some 74) (.cmp .eql (.t 73) (ki 1)),oo 75 (.pick (.t 72) (.t 74) kf)]) (.cond (.t 75) (.seq (.reg [om 76 0,om 77 1,om 78 2,om 79 4,oo 80 (.call (.k (.fn (.func 230) [] [])) [(.t 76),(.t 77),(.t 78),(.t 79)])]) (.cond (.t 80) (.ret) (.skip))) (.skip))) (.seq (.seq (.drw [om 81 1,oo 82 (.cmp .gtr (.t 81) (ki 0)),os (some 83) (.mv (.t 82)),og 83 true (some 84) (.mv (.t 4)),og 83 true (some 85) (.mv (.t 0)),og 83 true (some 86) (.mv (.t 1)),og 83 true (some 87) (.ar .sub (.t 86) (ki 1)),og 83 true (some 88) (.ixa 1 (.t 85) (.t 87)),og 83 true (some 89) (.ld none (.t 88)),og 83 true (some 90) (.mv (.t 0)),og 83 true (some 91) (.mv (.t 13)),og 83 true (some 92) (.ixa 1 (.t 90) (.t 91)),og 83 true (some 93) (.ld none (.t 92)),og 83 true (some 94) (.call (.t 84) [(.t 89),(.t 93)]),og 83 true (some 95) (.cmp .lss (.t 94) (ki 0)),og 83 true (some 96) (.not (.t 95)),oo 97 (.pick (.t 83) (.t 96) kf)] [[],[0],[1],[2],[2],[2],[5,2],[4,6,2],[7,2],[2],[2],[9,10,2],[11,2],[3,8,12,2,2],[13,2],[14,2],[2,15]]) (.cond (.t 97) (.seq (.reg [om 98 0,om 99 1,om 100 2,om 101 13,om 102 4,oo 103 (.call (.k (.fn (.func 231) [] [])) [(.t 98),(.t 99),(.t 100),(.t 101),(.t 102)]),om 15 103]) (.seq (.reg [om 104 15,om 1 104]) (.exit 1))) (.skip))) (.seq (.reg [om 106 0,om 107 1,om 108 2,om 109 13,om 110 4,oo 111 (.call (.k (.fn (.func 232) [] [])) [(.t 106),(.t 107),(.t 108),(.t 109),(.t 110)]),om 105 111,oo 112 (.ext 0 (.t 105)),oo 113 (.ext 1 (.t 105)),om 16 112,om 17 113])
 (.seq (.reg [om 114 17,om 11 114]) (.seq (.reg [om 115 16,om 116 1,oo 117 (.ar .sub (.t 115) (.t 116)),om 118 2,om 119 16,oo 120 (.ar .sub (.t 118) (.t 119)),om 18 117,om 19 120]) (.seq (.reg [om 121 12,oo 122 (.ar .quo (.t 121) (ki 8)),om 20 122]) (.seq (.reg [om 123 18,om 124 19,oo 125 (.cmp .lss (.t 123) (.t 124))]) (.cond (.t 125) (.seq (.reg [om 126 18,om 127 20,oo 128 (.cmp .geq (.t 126) (.t 127)),om 10 128]) (.seq (.reg [om 129 0,om 130 1,om 131 16,om 132 3,om 133 4,oo 134 (.call (.k (.fn (.func 222) [] [])) [(.t 129),(.t 130),(.t 131),(.t 132),(.t 133)])]) (.reg [om 135 16,oo 136 (.ar .add (.t 135) (ki 1)),om 1 136]))) (.seq (.reg [om 137 19,om 138 20,oo 139 (.cmp .geq (.t 137) (.t 138)),om 10 139]) (.seq (.reg [om 140 0,om 141 16,oo 142 (.ar .add (.t 141) (ki 1)),om 143 2,om 144 3,om 145 4,oo 146 (.call (.k (.fn (.func 222) [] [])) [(.t 140),(.t 142),(.t 143),(.t 144),(.t 145)])]) (.reg [om 147 16,om 2 147])))))))))))))))))))))
theorem k222 : FnOk Tryz.prog 222 148 c222 [] := fk Tryz.func222 ⟨tv,⟨tv,⟨tv,⟨⟨tv,⟨⟨tv,tv⟩,tv⟩⟩,⟨⟨tv,⟨⟨tv,tv⟩,tv⟩⟩,⟨⟨tv,⟨⟨tv,tv⟩,tv⟩⟩,⟨tv,⟨⟨tv,⟨⟨tv,⟨tv,tv⟩⟩,tv⟩⟩,⟨⟨tv,⟨⟨tv,⟨tv,tv⟩⟩,tv⟩⟩,⟨⟨tv,⟨⟨tv,⟨tv,tv⟩⟩,tv⟩⟩,⟨tv,⟨tv,⟨tv,⟨tv,⟨tv,⟨⟨tv,⟨tv,tv⟩⟩,⟨tv,⟨tv,tv⟩⟩⟩⟩⟩⟩⟩⟩⟩⟩⟩⟩⟩⟩⟩⟩⟩⟩
def c201 : MC := .seq (.reg [om 5 0,oo 6 (.lenS (.t 5)),om 4 6]) (.reg [om 7 0,om 8 4,om 9 4,oo 10 (.cv .u64 (.t 9)),oo 11 (.call (.k (.fn (.func 170) [] [])) [(.t 10)]),om 12 1,oo 13 (.call (.k (.fn (.func 222) [] [])) [(.t 7),(ki 0),(.t 8),(.t 11),(.t 12)])])
theorem k201 : FnOk Tryz.prog 201 14 c201 [] := fk Tryz.func201 ⟨tv,tv⟩
attribute [local irreducible] sortI
noncomputable def L222 (L : List Int) (m : Int) : LSpec := ⟨[.slc 0 0 L.length, kz 0, kz L.length, kz m, .fn (.func 96) [] []], [.vec 1 (L.map ipv)], [some (.vec 1 ((sortI L).map ipv))], [], .tup []⟩
set_option maxHeartbeats 4000000 in
theorem s222 (L : List Int) (m : Int) (hp : L.length ≤ 12) : LSpec.ok Tryz.prog GG 222 (L222 L m) := by
 refine fn_spec mix k222 _ rfl rfl (Tab.ok (l := [(225, S225)]) ⟨t225, trivial⟩) (fun _ => .rounds 1) noJ ?_
 repeat' ((conv => whnf); first
  | exact trivial
  | with_reducible first | refine aj ?_ | refine ai rfl ?_ | refine ai ⟨rfl, rfl⟩ ?_
  | ((with_reducible refine ai ?_ ?_); focus exact w3)
  | ((with_reducible intro h); exfalso; omega)
  | with_reducible first | refine And.intro (Sd.mk (p := _ ≤ 1000000) (by omega)) ?_ | refine And.intro (Sd.mk (p := _ ≤ 12) hp) ?_ | refine And.intro (Sd.mk (p := 0 ≤ _ ∧ _ ≤ 12) (by omega)) ?_
  | refine exI (u64_in (by omega) (by omega)) ?_
  | with_reducible first | refine And.intro ?_ ?_ | refine asL_mk ?_ | refine exI (i64_in (by omega) (by omega)) ?_
  | refine exI (x := ULift.up _) (Eq.refl _) ?_
  | refine exI (x := ULift.up _) ⟨rfl, by omega, Eq.refl _⟩ ?_
  | exact nx
  | ((with_reducible intro h); try dsimp only at h))
 all_goals (refine Sd.mk ?_)
noncomputable def S222 : SFn
 | [.slc p 0 _, .int .i64 0, .int .i64 _, .int .i64 m, .fn (.func 96) [] []], k => .rO p fun o => match o with
   | some (.vec 1 LL) => asL ipv LL fun L => .req (L.length ≤ 12) (k (L222 L m))
   | _ => .fail
 | _, _ => .fail
theorem t222 : FnS Tryz.prog GG 222 S222 := by
 intro args k gt go R v os n h
 unfold S222 at h
 split at h
 . cases h with
   | rO h =>
     dsimp only at h
     split at h
     . obtain ⟨L, _, h⟩ := asL_inv h
       obtain ⟨hp, _, h⟩ := req_inv h
       exact ⟨_, _, s222 L _ hp, h⟩
     . cases h
 . cases h
noncomputable def L201 (L : List Int) : LSpec := ⟨[.slc 0 0 L.length, .fn (.func 96) [] []], [.vec 1 (L.map ipv)], [some (.vec 1 ((sortI L).map ipv))], [], .tup []⟩
set_option maxHeartbeats 4000000 in
theorem s201 (L : List Int) (hp : L.length ≤ 12) : LSpec.ok Tryz.prog GG 201 (L201 L) := by
 refine fn_spec mix k201 _ rfl rfl (Tab.ok (l := [(222, S222), (170, S170)]) ⟨t222, t170, trivial⟩) noL noJ ?_
 repeat' ((conv => whnf); first
  | exact trivial
  | with_reducible first | refine aj ?_ | refine ai rfl ?_ | refine ai ⟨rfl, rfl⟩ ?_
  | ((with_reducible refine ai ?_ ?_); focus exact w3)
  | ((with_reducible intro h); exfalso; omega)
  | with_reducible first | refine And.intro (Sd.mk (p := _ ≤ 1000000) (by omega)) ?_ | refine And.intro (Sd.mk (p := _ ≤ 12) hp) ?_ | refine And.intro (Sd.mk (p := 0 ≤ _ ∧ _ ≤ 12) (by omega)) ?_
  | refine exI (u64_in (by omega) (by omega)) ?_
  | with_reducible first | refine And.intro ?_ ?_ | refine asL_mk ?_ | refine exI (i64_in (by omega) (by omega)) ?_
  | refine exI (x := ULift.up _) (Eq.refl _) ?_
  | refine exI (x := ULift.up _) ⟨rfl, by omega, Eq.refl _⟩ ?_
  | exact nx
  | ((with_reducible intro h); try dsimp only at h))
 all_goals (refine Sd.mk ?_)
noncomputable def S201 : SFn
 | [.slc p 0 _, .fn (.func 96) [] []], k => .rO p fun o => match o with
   | some (.vec 1 LL) => asL ipv LL fun L => .req (L.length ≤ 12) (k (L201 L))
   | _ => .fail
 | _, _ => .fail
theorem t201 : FnS Tryz.prog GG 201 S201 := by
 intro args k gt go R v os n h
 unfold S201 at h
 split at h
 . cases h with
   | rO h =>
     dsimp only at h
     split at h
     . obtain ⟨L, _, h⟩ := asL_inv h
       obtain ⟨hp, _, h⟩ := req_inv h
       exact ⟨_, _, s201 L hp, h⟩
     . cases h
 . cases h
end Go.Proofs.YtlahifihaeafbaaGreatDoor
namespace Go.Proofs.YtlahifihaeafbaaGreatDoor
open Go Go.Sx
theorem cmpI_tri (a b : Int) : cmpI a b < 0 ∨ cmpI b a < 0 ∨ a = b := by
 unfold cmpI; (repeat' split) <;> omega
theorem cmpI_irr (a : Int) : ¬ cmpI a a < 0 := by
 unfold cmpI; (repeat' split) <;> omega
theorem cmpI_trans {a b c : Int} (h : cmpI a b < 0) (g : cmpI b c < 0) : cmpI a c < 0 := by
 revert h g
 unfold cmpI; (repeat' split) <;> omega
abbrev geI (a b : Int) : Prop := ¬ cmpI a b < 0
theorem geI_trans {a b c : Int} (h : geI a b) (g : geI b c) : geI a c := by
 intro k
 rcases cmpI_tri a b with e | e | e
 . exact h e
 . exact g (cmpI_trans e k)
 . subst e; exact g k
theorem insI_perm (A : List Int) (x : Int) : (insI A x).Perm (x :: A) := by
 induction A with
 | nil => exact .refl _
 | cons y r ih =>
   unfold insI; split
   . exact (ih.cons y).trans (.swap x y r)
   . exact .refl _
theorem insI_pw (A : List Int) (x : Int) (h : A.Pairwise geI) : (insI A x).Pairwise geI := by
 induction A with
 | nil => exact List.pairwise_singleton _ _
 | cons y r ih =>
   rw [List.pairwise_cons] at h
   unfold insI; split
   . next hc =>
     rw [List.pairwise_cons]
     refine ⟨fun z hz => ?_, ih h.2⟩
     rcases List.mem_cons.1 ((insI_perm r x).mem_iff.1 hz) with e | e
     . subst e; exact fun k => cmpI_irr _ (cmpI_trans hc k)
     . exact h.1 z e
   . next hc =>
     rw [List.pairwise_cons]
     refine ⟨fun z hz => ?_, List.pairwise_cons.2 h⟩
     rcases List.mem_cons.1 hz with e | e
     . subst e; exact hc
     . exact geI_trans hc (h.1 z e)
theorem fold_permI (L : List Int) : ∀ A, (L.foldl insI A).Perm (L ++ A) := by
 induction L with
 | nil => intro A; exact .refl _
 | cons x r ih => intro A; exact (ih (insI A x)).trans (((insI_perm A x).append_left r).trans List.perm_middle)
theorem fold_pwI (L : List Int) : ∀ A, A.Pairwise geI -> (L.foldl insI A).Pairwise geI := by
 induction L with
 | nil => intro A h; exact h
 | cons x r ih => intro A h; exact ih _ (insI_pw A x h)
theorem sortI_perm (L : List Int) : (sortI L).Perm L := by
 unfold sortI
 exact (List.reverse_perm _).trans (by simpa using fold_permI L [])
theorem sortI_eq {L M : List Int} (h : L.Perm M) : sortI L = sortI M := by
 unfold sortI
 congr 1
 refine List.Perm.eq_of_pairwise (le := geI) ?_ (fold_pwI L [] List.Pairwise.nil) (fold_pwI M [] List.Pairwise.nil) ?_
 . intro a b _ _ h1 h2
   rcases cmpI_tri a b with e | e | e
   . exact absurd e h1
   . exact absurd e h2
   . exact e
 . exact (fold_permI L []).trans (((h.append_right [])).trans (fold_permI M []).symm)
end Go.Proofs.YtlahifihaeafbaaGreatDoor
namespace Go.Proofs.YtlahifihaeafbaaGreatDoor
open Go Go.Sx
def c202 : MC := .seq (.reg [oo 4 (.ld none (.t 1)),oo 5 (.rngm (.t 4))]) (.blk 0 (.loop 0 (.seq (.reg [oo 6 (.nxt (.t 5)),oo 7 (.ext 0 (.t 6))]) (.seq (.cond (.t 7) (.skip) (.exit 0)) (.blk 1 (.seq (.reg [oo 8 (.ent (.t 5)),oo 9 (.ext 0 (.t 8)),om 3 9]) (.seq (.reg [om 10 0,om 11 3,oo 12 (.call (.t 10) [(.t 11)]),oo 13 (.not (.t 12))]) (.cond (.t 13) (.ret) (.skip)))))))))
theorem k202 : FnOk Tryz.prog 202 14 c202 [] := fk Tryz.func202 ⟨tv,⟨tv,⟨⟨tv,tv⟩,⟨tv,⟨tv,⟨tv,tv⟩⟩⟩⟩⟩⟩
def c221 : MC := .seq (.reg [oo 2 (.box (.t 0)),oo 4 (.mv (.k (.val (.slice none 0 0))))]) (.seq (.seq (.reg [om 6 1]) (.blk 0 (.rng (.t 6) [7] (.reg [om 5 7]) (.blk 1 (.reg [oo 8 (.ld none (.t 2)),om 9 5,oo 10 (.bsl 1 1 [(kz 0)] [(0,(.t 9))]),oo 11 (.app 1 8 (.t 8) (.t 10)),o none (.st (some 1) (.t 2) (.t 11))])) 202 14 c202))) (.seq (.reg [oo 12 (.ld none (.t 2)),om 4 12]) (.ret)))
theorem k221 : FnOk Tryz.prog 221 13 c221 [.t 4] := .of Tryz.func221 (by kernel_rfl) (by kernel_rfl) (by kernel_rfl) (by kernel_rfl) ⟨trivial, ⟨⟨trivial, ⟨trivial, trivial, k202.it, k202.its⟩⟩, ⟨trivial, trivial⟩⟩⟩
def c200 : MC := .seq (.reg [oo 2 (.mv (.k (.val (.slice none 0 0))))]) (.seq (.reg [om 3 0,oo 4 (.call (.k (.fn (.func 221) [] [])) [(.k (.val (.slice none 0 0))),(.t 3)]),om 2 4]) (.ret))
theorem k200 : FnOk Tryz.prog 200 5 c200 [.t 2] := fk Tryz.func200 ⟨tv,⟨tv,tv⟩⟩
def c176 : MC := .seq (.reg [oo 4 (.mv (.k (.val (.slice none 0 0))))]) (.seq (.reg [om 6 0,oo 7 (.call (.k (.fn (.func 200) [] [])) [(.t 6)]),om 5 7]) (.gh (.opn 2) (.seq (.reg [om 8 5,om 9 1,oo 10 (.call (.k (.fn (.func 201) [] [])) [(.t 8),(.t 9)])]) (.seq (.reg [om 11 5,om 4 11]) (.ret)))))
theorem k176 : FnOk Tryz.prog 176 12 c176 [.t 4] := fk Tryz.func176 ⟨tv,⟨tv,⟨tv,⟨tv,tv⟩⟩⟩⟩
def c177 : MC := .seq (.reg [oo 1 (.box (.t 0)),oo 2 (.mv (.k (.val .nilFunc)))]) (.seq (.reg [oo 3 (.mkf (.func 202) [] [(.t 1)]),om 2 3]) (.ret))
theorem k177 : FnOk Tryz.prog 177 4 c177 [.t 2] := fk Tryz.func177 ⟨tv,⟨tv,tv⟩⟩
def c155 : MC := .seq (.reg [oo 4 (.mv (.k (.val (.slice none 0 0))))]) (.seq (.reg [om 5 0,oo 6 (.call (.k (.fn (.func 177) [] [])) [(.t 5)]),om 7 1,oo 8 (.call (.k (.fn (.func 176) [] [])) [(.t 6),(.t 7)]),om 4 8]) (.ret))
theorem k155 : FnOk Tryz.prog 155 9 c155 [.t 4] := fk Tryz.func155 ⟨tv,⟨tv,tv⟩⟩
abbrev K1I (es : BM) : List Int := es.map Prod.fst
def prmI (K : List Int) (L : List (List PV)) : Prop := ∃ M : List Int, M.Perm K ∧ L = M.map ipv
abbrev C221 := Nat × Go.Loop × List Int × Option Int × List Int
def inv221 (es : BM) : C221 -> St
 | (lp, r, left, cur, acc) => ⟨[(5, .ptr 4 0 0), (0, .fn (.yield lp) [] [])],
    [(0, some (.row [.mp 1])), (1, some (.map MIB es (some (4, left, cur)))), (2, some (.row [.slc 5 0 acc.length])), (3, some (.lrec lp r .ready)), (4, some (.itr 1)), (5, some (.vec 1 (acc.map ipv)))], 6⟩
def I221 (es : BM) : C221 -> C221 -> Prop
 | (lp0, r0, _), (lp, r, left, _, acc) => lp = lp0 ∧ r = r0 ∧ (acc ++ left).Perm (K1I es) ∧ (K1I es).Nodup ∧ es.length ≤ 1000000
def LA221 (es : BM) : Nat -> LAnn := fun _ => .inv C221 (I221 es) (inv221 es) (fun c => c.2.2.1.length)
theorem all221 {es : BM} {lp r x} {Q : C221 -> Prop} (h : ∀ left cur acc, I221 es (lp, r, x) (lp, r, left, cur, acc) -> Q (lp, r, left, cur, acc)) : ∀ c, I221 es (lp, r, x) c -> Q c := fun ⟨lp', r', left, cur, acc⟩ hI => by
 obtain ⟨h1, h2, h3⟩ := hI
 subst h1; subst h2
 exact h _ _ _ ⟨rfl, rfl, h3⟩
theorem exS221 {es : BM} {lp r x left cur acc} (_ : I221 es (lp, r, x) (lp, r, left, cur, acc)) {k : Int} (_ : k ∈ left) {p q : C221 -> Prop} (h : p (lp, r, aerase MIB k left, some k, acc ++ [k])) (h2 : q (lp, r, aerase MIB k left, some k, acc ++ [k])) : ∃ c, p c ∧ q c := ⟨_, h, h2⟩
theorem er_permI {k : Int} : ∀ {l : List Int}, k ∈ l -> l.Nodup -> l.Perm (k :: aerase MIB k l) ∧ (aerase MIB k l).length < l.length
 | [], h, _ => by cases h
 | j :: l, h, hn => by
   rw [List.nodup_cons] at hn
   have he : ∀ (l : List Int), k ∉ l -> aerase MIB k l = l := by
    intro l
    induction l with
    | nil => intro _; simp [aerase]
    | cons a l ih =>
      intro hk
      simp only [List.mem_cons, not_or] at hk
      simp only [aerase]
      split
      . next e _ => exact absurd e.symm hk.1
      . rw [ih hk.2]
   simp only [aerase]
   split
   . next e _ =>
     subst e
     rw [he l hn.1]
     exact ⟨.refl _, by simp⟩
   . next e _ =>
     have hk : k ∈ l := by
      rcases List.mem_cons.1 h with h | h
      . exact absurd h.symm e
      . exact h
     obtain ⟨h1, h2⟩ := er_permI hk hn.2
     exact ⟨(h1.cons j).trans (.swap _ _ _), by simpa using h2⟩
attribute [local irreducible] sortI Go.Sx.aerase
theorem kf_0 {es : BM} {lp r} (h : (K1I es).Nodup) (h2 : es.length ≤ 1000000) : I221 es (lp, r, K1I es, none, []) (lp, r, K1I es, none, []) := ⟨rfl, rfl, .refl _, h, h2⟩
theorem kf_go {es : BM} {lp r x left cur acc} {k : Int} (h : I221 es (lp, r, x) (lp, r, left, cur, acc)) (hk : k ∈ left) : I221 es (lp, r, x) (lp, r, aerase MIB k left, some k, acc ++ [k]) ∧ (aerase MIB k left).length < left.length := by
 obtain ⟨_, _, h3, h4, h5⟩ := h
 have hn : left.Nodup := (List.nodup_append.1 (h3.nodup_iff.2 h4)).2.1
 obtain ⟨e1, e2⟩ := er_permI hk hn
 refine ⟨⟨rfl, rfl, ?_, h4, h5⟩, e2⟩
 rw [List.append_assoc]
 exact (e1.symm.append_left acc).trans h3
theorem kf_end {es : BM} {lp r x left cur acc} (h : I221 es (lp, r, x) (lp, r, left, cur, acc)) (hk : ∀ p, p ∈ es -> p.1 ∉ left) : acc.Perm (K1I es) := by
 obtain ⟨_, _, h3, h4, h5⟩ := h
 have : left = [] := by
  cases left with
  | nil => rfl
  | cons a l =>
    have ha : a ∈ K1I es := h3.subset (by simp)
    obtain ⟨p, hp, e⟩ := List.mem_map.1 ha
    exact absurd (by rw [<- e] at *; simp) (hk p hp)
 subst this
 simpa using h3
theorem kf_len {es : BM} {lp r x left cur acc} (h : I221 es (lp, r, x) (lp, r, left, cur, acc)) (hk : ∀ p, p ∈ es -> p.1 ∉ left) : es.length = acc.length := by
 have := (kf_end h hk).length_eq
 simpa using this.symm
theorem kf_b {es : BM} {lp r x left cur acc} {X : List (List SV)} (h : I221 es (lp, r, x) (lp, r, left, cur, acc)) (hX : X.length = 1) : (Rows.len (Sum.inr (List.map ipv acc)) + Rows.len (Sum.inl X)) * 8 ≤ 2 ^ 46 := by
 obtain ⟨_, _, h3, h4, h5⟩ := h
 have := h3.length_eq
 simp only [Rows.len, List.length_map, List.length_append, hX] at *; omega
theorem kf_d {acc : List Int} {k : Int} : 1 = 1 ∧ List.map ipv (acc ++ [k]) = List.map ipv acc ++ [[PV.int IntKind.i64 k]] := ⟨rfl, by rw [List.map_append]; rfl⟩
theorem kf_e {es : BM} {lp r x left cur acc} (h : I221 es (lp, r, x) (lp, r, left, cur, acc)) (hk : ∀ p, p ∈ es -> p.1 ∉ left) : 1 = 1 ∧ prmI (K1I es) (List.map ipv acc) := ⟨rfl, acc, kf_end h hk, rfl⟩
theorem kf_f {es : BM} {lp r x left cur acc} (h : I221 es (lp, r, x) (lp, r, left, cur, acc)) (hk : ∀ p, p ∈ es -> p.1 ∉ left) : 0 = 0 ∧ es.length = acc.length := ⟨rfl, kf_len h hk⟩
noncomputable def L221 (es : BM) : LSpec := ⟨[.val (.slice none 0 0), .fn (.func 202) [] [.ptr 0 0 0]], [.row [.mp 1], .map MIB es none], [some (.row [.mp 1]), some (.map MIB es none)], [.vex 1 (prmI (K1I es))], .slc 2 0 es.length⟩
set_option maxHeartbeats 2000000 in
theorem s221 (es : BM) (hn : (K1I es).Nodup) (hl : es.length ≤ 1000000) : LSpec.ok Tryz.prog GG 221 (L221 es) := by
 refine fn_spec mix k221 _ rfl rfl (Tab.ok (l := []) trivial) (LA221 es) noJ ?_
 repeat' ((conv => whnf); first
  | exact trivial
  | with_reducible first | refine aj ?_ | refine ai rfl ?_ | refine ai ⟨rfl, rfl⟩ ?_
  | ((with_reducible refine ai ?_ ?_); focus exact w3)
  | with_reducible first | refine all221 ?_ | refine exS221 (by with_reducible assumption) (by with_reducible assumption) ?_ ?_ | apply exW (γ := C221) (c := (_, _, K1I es, none, [])) | refine ai ⟨rfl, rfl, rfl⟩ ?_ | refine And.intro ?_ ?_ | refine asL_mk ?_ | refine exI (i64_in (by omega) (by omega)) ?_
  | refine exI (x := ULift.up _) (Eq.refl _) ?_
  | refine exI (x := ULift.up _) ⟨rfl, by omega, Eq.refl _⟩ ?_
  | exact nx
  | ((with_reducible intro h); try dsimp only at h))
 all_goals (refine Sd.mk ?_)
 all_goals first
  | exact kf_0 hn hl
  | exact kf_go (by assumption) (by assumption)
  | exact kf_a (by assumption)
  | exact kf_b (by assumption) rfl
  | exact kf_c rfl
  | exact kf_d
  | exact kf_e (by assumption) (by assumption)
  | exact kf_f (by assumption) (by assumption)
noncomputable def S221 : SFn
 | [.val _, .fn (.func 202) [] [.ptr p _ _]], k => asRow p fun rp => match rp with
   | .agg [.mp m] => asMap MIB m fun es => .req ((K1I es).Nodup ∧ es.length ≤ 1000000) (k (L221 es))
   | _ => .fail
 | _, _ => .fail
theorem t221 : FnS Tryz.prog GG 221 S221 := by
 intro args k gt go R v os n h
 unfold S221 at h
 split at h
 . obtain ⟨_, _, h⟩ := asRow_inv h
   split at h
   . obtain ⟨es, _, h⟩ := asMap_inv h
     obtain ⟨hp, _, h⟩ := req_inv h
     exact ⟨_, _, s221 es hp.1 hp.2, h⟩
   . cases h
 . cases h
noncomputable def L200 (es : BM) : LSpec := ⟨[.fn (.func 202) [] [.ptr 0 0 0]], [.row [.mp 1], .map MIB es none], [some (.row [.mp 1]), some (.map MIB es none)], [.vex 1 (prmI (K1I es))], .slc 2 0 es.length⟩
theorem s200 (es : BM) (hn : (K1I es).Nodup) (hl : es.length ≤ 1000000) : LSpec.ok Tryz.prog GG 200 (L200 es) := by
 refine fn_spec mix k200 _ rfl rfl (Tab.ok (l := [(221, S221)]) ⟨t221, trivial⟩) noL noJ ?_
 repeat' ((conv => whnf); first
  | exact trivial
  | with_reducible first | refine aj ?_ | refine ai rfl ?_ | refine ai ⟨rfl, rfl⟩ ?_
  | ((with_reducible refine ai ?_ ?_); focus exact w3)
  | with_reducible first | refine And.intro (Sd.mk (p := List.Nodup _ ∧ _) ⟨hn, by omega⟩) ?_ | refine And.intro ?_ ?_ | refine asL_mk ?_ | refine exI (i64_in (by omega) (by omega)) ?_
  | refine exI (x := ULift.up _) (Eq.refl _) ?_
  | refine exI (x := ULift.up _) ⟨rfl, by omega, Eq.refl _⟩ ?_
  | exact ny
  | ((with_reducible intro h); try dsimp only at h))
 all_goals (refine Sd.mk ?_)
 all_goals first
  | exact ⟨rfl, fun _ h => h⟩
noncomputable def S200 : SFn
 | [.fn (.func 202) [] [.ptr p _ _]], k => asRow p fun rp => match rp with
   | .agg [.mp m] => asMap MIB m fun es => .req ((K1I es).Nodup ∧ es.length ≤ 1000000) (k (L200 es))
   | _ => .fail
 | _, _ => .fail
theorem t200 : FnS Tryz.prog GG 200 S200 := by
 intro args k gt go R v os n h
 unfold S200 at h
 split at h
 . obtain ⟨_, _, h⟩ := asRow_inv h
   split at h
   . obtain ⟨es, _, h⟩ := asMap_inv h
     obtain ⟨hp, _, h⟩ := req_inv h
     exact ⟨_, _, s200 es hp.1 hp.2, h⟩
   . cases h
 . cases h
theorem all176 {K : List Int} {Q : List (List PV) -> Prop} (h : ∀ M : List Int, M.Perm K -> Q (M.map ipv)) : ∀ L, prmI K L -> Q L := fun L ⟨M, h1, h2⟩ => by subst h2; exact h M h1
theorem sj_sm {es : BM} {M : List Int} (h : M.Perm (K1I es)) : sortI (K1I es) = sortI M := (sortI_eq h).symm
theorem sj_l {es : BM} {M : List Int} (h : M.Perm (K1I es)) : M.length = es.length := by simpa using h.length_eq
theorem sj_12 {es : BM} {M : List Int} (h : M.Perm (K1I es)) (h2 : es.length ≤ 12) : M.length ≤ 12 := by rw [sj_l h]; exact h2
theorem sj_ll {es : BM} {M : List Int} (h : M.Perm (K1I es)) : 0 = 0 ∧ M.length = es.length := ⟨rfl, sj_l h⟩
theorem sj_vv {es : BM} {M : List Int} (h : M.Perm (K1I es)) : 1 = 1 ∧ List.map ipv (sortI (K1I es)) = List.map ipv (sortI M) := by rw [sj_sm h]; exact ⟨rfl, rfl⟩
noncomputable def L176 (es : BM) : LSpec := ⟨[.fn (.func 202) [] [.ptr 0 0 0], .fn (.func 96) [] []], [.row [.mp 1], .map MIB es none], [some (.row [.mp 1]), some (.map MIB es none)], [.vec 1 ((sortI (K1I es)).map ipv)], .slc 2 0 es.length⟩
theorem s176 (es : BM) (hn : (K1I es).Nodup) (hl : es.length ≤ 12) : LSpec.ok Tryz.prog GG 176 (L176 es) := by
 refine fn_spec mix k176 _ rfl rfl (Tab.ok (l := [(200, S200), (201, S201)]) ⟨t200, t201, trivial⟩) noL noJ ?_
 repeat' ((conv => whnf); first
  | exact trivial
  | with_reducible first | refine aj ?_ | refine ai rfl ?_ | refine ai ⟨rfl, rfl⟩ ?_
  | ((with_reducible refine ai ?_ ?_); focus exact w3)
  | with_reducible first | refine And.intro (Sd.mk (p := List.Nodup _ ∧ _) ⟨hn, by omega⟩) ?_ | refine all176 ?_ | refine And.intro (Sd.mk (p := _ ≤ 12) (sj_12 (by assumption) hl)) ?_ | refine ai (sj_ll (by assumption)) ?_ | refine And.intro ?_ ?_ | refine asL_mk ?_ | refine exI (i64_in (by omega) (by omega)) ?_
  | refine exI (x := ULift.up _) (Eq.refl _) ?_
  | refine exI (x := ULift.up _) ⟨rfl, by omega, Eq.refl _⟩ ?_
  | exact ny
  | ((with_reducible intro h); try dsimp only at h))
 all_goals (refine Sd.mk ?_)
 all_goals first
  | exact sj_vv (by assumption)
noncomputable def S176 : SFn
 | [.fn (.func 202) [] [.ptr p _ _], .fn (.func 96) [] []], k => asRow p fun rp => match rp with
   | .agg [.mp m] => asMap MIB m fun es => .req ((K1I es).Nodup ∧ es.length ≤ 12) (k (L176 es))
   | _ => .fail
 | _, _ => .fail
theorem t176 : FnS Tryz.prog GG 176 S176 := by
 intro args k gt go R v os n h
 unfold S176 at h
 split at h
 . obtain ⟨_, _, h⟩ := asRow_inv h
   split at h
   . obtain ⟨es, _, h⟩ := asMap_inv h
     obtain ⟨hp, _, h⟩ := req_inv h
     exact ⟨_, _, s176 es hp.1 hp.2, h⟩
   . cases h
 . cases h
noncomputable def L177 (es : BM) : LSpec := ⟨[.mp 0], [.map MIB es none], [some (.map MIB es none)], [.row [.mp 0]], .fn (.func 202) [] [.ptr 1 0 0]⟩
theorem s177 (es : BM) : LSpec.ok Tryz.prog GG 177 (L177 es) := by
 refine fn_spec mix k177 _ rfl rfl (Tab.ok (l := []) trivial) noL noJ ?_
 repeat' ((conv => whnf); first
  | exact trivial
  | with_reducible first | refine aj ?_ | refine ai rfl ?_ | refine ai ⟨rfl, rfl⟩ ?_
  | ((with_reducible refine ai ?_ ?_); focus exact w3)
  | refine exI (x := MIB) trivial ?_
  | with_reducible first | refine And.intro ?_ ?_ | refine asL_mk ?_ | refine exI (i64_in (by omega) (by omega)) ?_
  | refine exI (x := ULift.up _) (Eq.refl _) ?_
  | refine exI (x := ULift.up _) ⟨rfl, by omega, Eq.refl _⟩ ?_
  | exact ny
  | ((with_reducible intro h); try dsimp only at h))
 all_goals (refine Sd.mk ?_)
noncomputable def S177 : SFn
 | [.mp p], k => asMap MIB p fun es => k (L177 es)
 | _, _ => .fail
theorem t177 : FnS Tryz.prog GG 177 S177 := by
 intro args k gt go R v os n h
 unfold S177 at h
 split at h
 . obtain ⟨es, _, h⟩ := asMap_inv h
   exact ⟨_, _, s177 es, h⟩
 . cases h
noncomputable def L155 (es : BM) : LSpec := ⟨[.mp 0, .fn (.func 96) [] []], [.map MIB es none], [some (.map MIB es none)], [.vec 1 ((sortI (K1I es)).map ipv)], .slc 1 0 es.length⟩
theorem s155 (es : BM) (hn : (K1I es).Nodup) (hl : es.length ≤ 12) : LSpec.ok Tryz.prog GG 155 (L155 es) := by
 refine fn_spec mix k155 _ rfl rfl (Tab.ok (l := [(177, S177), (176, S176)]) ⟨t177, t176, trivial⟩) noL noJ ?_
 repeat' ((conv => whnf); first
  | exact trivial
  | with_reducible first | refine aj ?_ | refine ai rfl ?_ | refine ai ⟨rfl, rfl⟩ ?_
  | ((with_reducible refine ai ?_ ?_); focus exact w3)
  | with_reducible first | refine And.intro (Sd.mk (p := List.Nodup _ ∧ _) ⟨hn, by omega⟩) ?_ | refine And.intro ?_ ?_ | refine asL_mk ?_ | refine exI (i64_in (by omega) (by omega)) ?_
  | refine exI (x := ULift.up _) (Eq.refl _) ?_
  | refine exI (x := ULift.up _) ⟨rfl, by omega, Eq.refl _⟩ ?_
  | exact ny
  | ((with_reducible intro h); try dsimp only at h))
 all_goals (refine Sd.mk ?_)
noncomputable def S155 : SFn
 | [.mp p, .fn (.func 96) [] []], k => asMap MIB p fun es => .req ((K1I es).Nodup ∧ es.length ≤ 12) (k (L155 es))
 | _, _ => .fail
theorem t155 : FnS Tryz.prog GG 155 S155 := by
 intro args k gt go R v os n h
 unfold S155 at h
 split at h
 . obtain ⟨es, _, h⟩ := asMap_inv h
   obtain ⟨hp, _, h⟩ := req_inv h
   exact ⟨_, _, s155 es hp.1 hp.2, h⟩
 . cases h
end Go.Proofs.YtlahifihaeafbaaGreatDoor
namespace Go.Proofs.YtlahifihaeafbaaGreatDoor
open Go Go.Sx
def c169 : MC := .seq (.reg [oo 10 (.mv kt)]) (.seq (.reg [oo 11 (.mv kt)]) (.blk 0 (.loop 0 (.blk 1 (.seq (.reg [om 21 2,om 22 1,oo 23 (.ar .sub (.t 21) (.t 22)),om 12 23]) (.seq (.seq (.reg [om 24 12,oo 25 (.cmp .leq (.t 24) (ki 12))]) (.cond (.t 25) (.seq (.reg [om 26 0,om 27 1,om 28 2,om 29 4,oo 30 (.call (.k (.fn (.func 181) [] [])) [(.t 26),(.t 27),(.t 28),(.t 29)])]) (.ret)) (.skip))) (.seq (.seq (.reg [om 31 3,oo 32 (.cmp .eql (.t 31) (ki 0))]) (.cond (.t 32) (.seq (.reg [om 33 0,om 34 1,om 35 2,om 36 4,oo 37 (.call (.k (.fn (.func 182) [] [])) [(.t 33),(.t 34),(.t 35),(.t 36)])]) (.ret)) (.skip))) (.seq (.seq (.reg [om 38 10,oo 39 (.not (.t 38))]) (.cond (.t 39) (.seq (.reg [om 40 0,om 41 1,om 42 2,om 43 4,oo 44 (.call (.k (.fn (.func 183) [] [])) [(.t 40),(.t 41),(.t 42),(.t 43)])]) (.reg [om 45 3,oo 46 (.ar .sub (.t 45) (ki 1)),om 3 46])) (.skip))) (.seq (.reg [om 48 0,om 49 1,om 50 2,om 51 4,oo 52 (.call (.k (.fn (.func 184) [] [])) [(.t 48),(.t 49),(.t 50),(.t 51)]),om 47 52,oo 53 (.ext 0 (.t 47)),oo 54 (.ext 1 (.t 47)),om 13 53,om 14 54]) (.seq (.seq (.reg [om 55 14,oo 56 (.cmp .eql (.t 55) (ki 2))]) (.cond (.t 56) (.seq (.reg [om 57 0,om 58 1,om 59 2,om 60 4,oo 61 (.call (.k (.fn (.func 185) [] [])) [(.t 57),(.t 58),(.t 59),(.t 60)])]) (.seq (.reg [om 62 2,oo 63 (.ar .sub (.t 62) (ki 1)),om 64 13,om 65 1,oo 66 (.ar .sub (.t 64) (.t 65)),oo 67 (.ar .sub (.t 63) (.t 66)),om 13 67]) (.reg [oo 14 (.mv (ki 1))]))) (.skip))) (.seq (.seq (.reg [om 68 10,os (some 69) (.mv (.t 68)),og 69 true (some 70) (.mv (.t 11)),oo 71 (.pick (.t 69) (.t 70) kf),os (some 72) (.mv (.t 71)),og 72 true (some 73) (.mv (.t 14)),og 72 true (some 74) (.cmp .eql (.t 73) (ki 1)),oo 75 (.pick (.t 72) (.t 74) kf)]) (.cond (.t 75) (.seq (.reg [om 76 0,om 77 1,om 78 2,om 79 4,oo 80 (.call (.k (.fn (.func 186) [] [])) [(.t 76),(.t 77),(.t 78),(.t 79)])]) (.cond (.t 80) (.ret) (.skip))) (.skip))) (.seq (.seq (.drw [om 81 1,oo 82 (.cmp .gtr (.t 81) (ki 0)),os (some 83) (.mv (.t 82)),og 83 true (some 84) (.mv (.t 4)),og 83 true (some 85) (.mv (.t 0)),og 83 true (some 86) (.mv (.t 1)),og 83 true (some 87) (.ar .sub (.t 86) (ki 1)),og 83 true (some 88) (.ixa 2 (.t 85) (.t 87)),og 83 true (some 89) (.ld (some 2) (.t 88)),og 83 true (some 90) (.mv (.t 0)),og 83 true (some 91) (.mv (.t 13)),og 83 true (some 92) (.ixa 2 (.t 90) (.t 91)),og 83 true (some 93) (.ld (some 2) (.t 92)),og 83 true (some 94) (.call (.t 84) [(.t 89),(.t 93)]),og 83 true (some 95) (.cmp .lss (.t 94) (ki 0)),og 83 true (some 96) (.not (.t 95)),oo 97 (.pick (.t 83) (.t 96) kf)] [[],[0],[1],[2],[2],[2],[5,2],[4,6,2],[7,2],[2],[2],[9,10,2],[11,2],[3,8,12,2,2],[13,2],[14,2],[2,15]]) (.cond (.t 97) (.seq (.reg [om 98 0,om 99 1,om 100 2,om 101 13,om 102 4,oo 103 (.call (.k (.fn (.func 187) [] [])) [(.t 98),(.t 99),(.t 100),(.t 101),(.t 102)]),om 15 103]) (.seq (.reg [om 104 15,om 1 104]) (.exit 1))) (.skip))) (.seq (.reg [om 106 0,om 107 1,om 108 2,om 109 13,om 110 4,oo 111 (.call (.k (.fn (.func 188) [] [])) [(.t 106),(.t 107),(.t 108),(.t 109),(.t 110)]),om 105 111,oo 112 (.ext 0 (.t 105)),oo 113 (.ext 1 (.t 105)),om 16 112,om 17 113])
 (.seq (.reg [om 114 17,om 11 114]) (.seq (.reg [om 115 16,om 116 1,oo 117 (.ar .sub (.t 115) (.t 116)),om 118 2,om 119 16,oo 120 (.ar .sub (.t 118) (.t 119)),om 18 117,om 19 120]) (.seq (.reg [om 121 12,oo 122 (.ar .quo (.t 121) (ki 8)),om 20 122]) (.seq (.reg [om 123 18,om 124 19,oo 125 (.cmp .lss (.t 123) (.t 124))]) (.cond (.t 125) (.seq (.reg [om 126 18,om 127 20,oo 128 (.cmp .geq (.t 126) (.t 127)),om 10 128]) (.seq (.reg [om 129 0,om 130 1,om 131 16,om 132 3,om 133 4,oo 134 (.call (.k (.fn (.func 169) [] [])) [(.t 129),(.t 130),(.t 131),(.t 132),(.t 133)])]) (.reg [om 135 16,oo 136 (.ar .add (.t 135) (ki 1)),om 1 136]))) (.seq (.reg [om 137 19,om 138 20,oo 139 (.cmp .geq (.t 137) (.t 138)),om 10 139]) (.seq (.reg [om 140 0,om 141 16,oo 142 (.ar .add (.t 141) (ki 1)),om 143 2,om 144 3,om 145 4,oo 146 (.call (.k (.fn (.func 169) [] [])) [(.t 140),(.t 142),(.t 143),(.t 144),(.t 145)])]) (.reg [om 147 16,om 2 147])))))))))))))))))))))
theorem k169 : FnOk Tryz.prog 169 148 c169 [] := fk Tryz.func169 ⟨tv,⟨tv,⟨tv,⟨⟨tv,⟨⟨tv,tv⟩,tv⟩⟩,⟨⟨tv,⟨⟨tv,tv⟩,tv⟩⟩,⟨⟨tv,⟨⟨tv,tv⟩,tv⟩⟩,⟨tv,⟨⟨tv,⟨⟨tv,⟨tv,tv⟩⟩,tv⟩⟩,⟨⟨tv,⟨⟨tv,⟨tv,tv⟩⟩,tv⟩⟩,⟨⟨tv,⟨⟨tv,⟨tv,tv⟩⟩,tv⟩⟩,⟨tv,⟨tv,⟨tv,⟨tv,⟨tv,⟨⟨tv,⟨tv,tv⟩⟩,⟨tv,⟨tv,tv⟩⟩⟩⟩⟩⟩⟩⟩⟩⟩⟩⟩⟩⟩⟩⟩⟩⟩
def c139 : MC := .seq (.reg [om 5 0,oo 6 (.lenS (.t 5)),om 4 6]) (.reg [om 7 0,om 8 4,om 9 4,oo 10 (.cv .u64 (.t 9)),oo 11 (.call (.k (.fn (.func 170) [] [])) [(.t 10)]),om 12 1,oo 13 (.call (.k (.fn (.func 169) [] [])) [(.t 7),(ki 0),(.t 8),(.t 11),(.t 12)])])
theorem k139 : FnOk Tryz.prog 139 14 c139 [] := fk Tryz.func139 ⟨tv,tv⟩
attribute [local irreducible] sortR
noncomputable def L169 (L : List HR) (m : Int) : LSpec := ⟨[.slc 0 0 L.length, kz 0, kz L.length, kz m, .fn (.func 52) [] []], [.vec 2 (L.map HR.pv)], [some (.vec 2 ((sortR L).map HR.pv))], [], .tup []⟩
set_option maxHeartbeats 4000000 in
theorem s169 (L : List HR) (m : Int) (hp : L.length ≤ 12) : LSpec.ok Tryz.prog GG 169 (L169 L m) := by
 refine fn_spec mix k169 _ rfl rfl (Tab.ok (l := [(181, S181)]) ⟨t181, trivial⟩) (fun _ => .rounds 1) noJ ?_
 repeat' ((conv => whnf); first
  | exact trivial
  | with_reducible first | refine aj ?_ | refine ai rfl ?_ | refine ai ⟨rfl, rfl⟩ ?_
  | ((with_reducible refine ai ?_ ?_); focus exact w3)
  | ((with_reducible intro h); exfalso; omega)
  | with_reducible first | refine And.intro (Sd.mk (p := _ ≤ 1000000) (by omega)) ?_ | refine And.intro (Sd.mk (p := _ ≤ 12) hp) ?_ | refine And.intro (Sd.mk (p := 0 ≤ _ ∧ _ ≤ 12) (by omega)) ?_
  | refine exI (u64_in (by omega) (by omega)) ?_
  | with_reducible first | refine And.intro ?_ ?_ | refine asL_mk ?_ | refine exI (i64_in (by omega) (by omega)) ?_
  | refine exI (x := ULift.up _) (Eq.refl _) ?_
  | refine exI (x := ULift.up _) ⟨rfl, by omega, Eq.refl _⟩ ?_
  | exact nx
  | ((with_reducible intro h); try dsimp only at h))
 all_goals (refine Sd.mk ?_)
noncomputable def S169 : SFn
 | [.slc p 0 _, .int .i64 0, .int .i64 _, .int .i64 m, .fn (.func 52) [] []], k => .rO p fun o => match o with
   | some (.vec 2 LL) => asL HR.pv LL fun L => .req (L.length ≤ 12) (k (L169 L m))
   | _ => .fail
 | _, _ => .fail
theorem t169 : FnS Tryz.prog GG 169 S169 := by
 intro args k gt go R v os n h
 unfold S169 at h
 split at h
 . cases h with
   | rO h =>
     dsimp only at h
     split at h
     . obtain ⟨L, _, h⟩ := asL_inv h
       obtain ⟨hp, _, h⟩ := req_inv h
       exact ⟨_, _, s169 L _ hp, h⟩
     . cases h
 . cases h
noncomputable def L139 (L : List HR) : LSpec := ⟨[.slc 0 0 L.length, .fn (.func 52) [] []], [.vec 2 (L.map HR.pv)], [some (.vec 2 ((sortR L).map HR.pv))], [], .tup []⟩
set_option maxHeartbeats 4000000 in
theorem s139 (L : List HR) (hp : L.length ≤ 12) : LSpec.ok Tryz.prog GG 139 (L139 L) := by
 refine fn_spec mix k139 _ rfl rfl (Tab.ok (l := [(169, S169), (170, S170)]) ⟨t169, t170, trivial⟩) noL noJ ?_
 repeat' ((conv => whnf); first
  | exact trivial
  | with_reducible first | refine aj ?_ | refine ai rfl ?_ | refine ai ⟨rfl, rfl⟩ ?_
  | ((with_reducible refine ai ?_ ?_); focus exact w3)
  | ((with_reducible intro h); exfalso; omega)
  | with_reducible first | refine And.intro (Sd.mk (p := _ ≤ 1000000) (by omega)) ?_ | refine And.intro (Sd.mk (p := _ ≤ 12) hp) ?_ | refine And.intro (Sd.mk (p := 0 ≤ _ ∧ _ ≤ 12) (by omega)) ?_
  | refine exI (u64_in (by omega) (by omega)) ?_
  | with_reducible first | refine And.intro ?_ ?_ | refine asL_mk ?_ | refine exI (i64_in (by omega) (by omega)) ?_
  | refine exI (x := ULift.up _) (Eq.refl _) ?_
  | refine exI (x := ULift.up _) ⟨rfl, by omega, Eq.refl _⟩ ?_
  | exact nx
  | ((with_reducible intro h); try dsimp only at h))
 all_goals (refine Sd.mk ?_)
noncomputable def S139 : SFn
 | [.slc p 0 _, .fn (.func 52) [] []], k => .rO p fun o => match o with
   | some (.vec 2 LL) => asL HR.pv LL fun L => .req (L.length ≤ 12) (k (L139 L))
   | _ => .fail
 | _, _ => .fail
theorem t139 : FnS Tryz.prog GG 139 S139 := by
 intro args k gt go R v os n h
 unfold S139 at h
 split at h
 . cases h with
   | rO h =>
     dsimp only at h
     split at h
     . obtain ⟨L, _, h⟩ := asL_inv h
       obtain ⟨hp, _, h⟩ := req_inv h
       exact ⟨_, _, s139 L hp, h⟩
     . cases h
 . cases h
end Go.Proofs.YtlahifihaeafbaaGreatDoor
namespace Go.Proofs.YtlahifihaeafbaaGreatDoor
open Go Go.Sx
def c55 : MC := .seq (.reg [oo 3 (.box (.t 0)),oo 4 (.box (.t 1)),oo 6 (.mv (ki 0))]) (.seq (.drw [oo 9 (.fld 0 (.t 3)),oo 10 (.ld none (.t 9)),oo 11 (.ld (some 2) (.t 4)),oo 12 (.lkp false false [.bool,.int .i64] true [.sl 1 []] (.t 10) (.t 11)),om 13 2,oo 14 (.call (.k (.fn (.func 98) [] [])) [(.t 12),(.t 13)]),oo 15 (.fld 1 (.t 3)),oo 16 (.ld none (.t 15)),oo 17 (.ld (some 2) (.t 4)),oo 18 (.lkp false false [.bool,.int .i64] true [.sl 1 []] (.t 16) (.t 17)),om 19 2,oo 20 (.call (.k (.fn (.func 98) [] [])) [(.t 18),(.t 19)]),om 7 14,om 8 20] [[],[0],[],[1,2],[],[3,4],[],[6],[],[7,8],[],[9,10,5],[5,11,0,1,2,3,4,5],[11,12,0,1,2,3,4,5,6,7,8,9,10,11,12]]) (.seq (.seq (.reg [om 21 7,oo 22 (.cmp .lss (.t 21) (ki 0)),os (some 23) (.mv (.t 22)),og 23 false (some 24) (.mv (.t 8)),og 23 false (some 25) (.cmp .geq (.t 24) (ki 0)),ogs 23 false (some 26) (.mv (.t 25)),og 26 true (some 27) (.mv (.t 8)),og 26 true (some 28) (.mv (.t 7)),og 26 true (some 29) (.cmp .lss (.t 27) (.t 28)),og 23 false (some 30) (.pick (.t 26) (.t 29) kf),oo 31 (.pick (.t 23) kt (.t 30))]) (.cond (.t 31) (.seq (.reg [oo 6 (.mv (ki (-1)))]) (.ret)) (.skip))) (.seq (.reg [om 32 7,om 6 32]) (.ret))))
theorem k55 : FnOk Tryz.prog 55 33 c55 [.t 6] := fk Tryz.func55 ⟨tv,⟨tv,⟨⟨tv,⟨⟨tv,tv⟩,tv⟩⟩,⟨tv,tv⟩⟩⟩⟩
def c54 : MC := .seq (.reg [oo 3 (.box (.t 0)),oo 4 (.mv kf)]) (.seq (.reg [oo 5 (.ld (some 2) (.t 1)),oo 6 (.ld (some 2) (.t 3)),oo 7 (.ld none (.t 2)),oo 8 (.call (.k (.fn (.func 55) [] [])) [(.t 5),(.t 6),(.t 7)]),oo 9 (.cmp .lss (.t 8) (ki 0)),om 4 9]) (.ret))
theorem k54 : FnOk Tryz.prog 54 10 c54 [.t 4] := fk Tryz.func54 ⟨tv,⟨tv,tv⟩⟩
attribute [local irreducible] Go.Sx.agetD Go.Sx.aget aftF
abbrev MTS : MapTy := ⟨HR, List Int, inferInstance, false, [.bool, .int .i64], HR.pv, fun ⟨_, _⟩ => rfl, fun ⟨a, b⟩ ⟨c, d⟩ h => by simp only [HR.pv, List.cons.injEq, PV.bool.injEq, PV.int.injEq] at h; simp [h.1, h.2.1.2], true, fun l => [.sl 1 (l.map ipv)], []⟩
abbrev TM := List (HR × List Int)
def okT (r : HR) (es : TM) : Prop := srt (agetD MTS r es) ∧ List.length (agetD MTS r es) ≤ 1000000
abbrev aft (es : TM) (r : HR) (i : Int) : Int := aftF (agetD MTS r es) i
def nextF (us ds : TM) (r : HR) (i : Int) : Int := if aft us r i < 0 then -1 else if 0 ≤ aft ds r i ∧ aft ds r i < aft us r i then -1 else aft us r i
theorem nx_0 {us ds : TM} {r : HR} {i : Int} (h : aft us r i < 0) : nextF us ds r i = -1 := by unfold nextF; rw [if_pos h]
theorem nx_1 {us ds : TM} {r : HR} {i : Int} (h : ¬ aft us r i < 0) (h2 : 0 ≤ aft ds r i) (h3 : aft ds r i < aft us r i) : nextF us ds r i = -1 := by unfold nextF; rw [if_neg h, if_pos ⟨h2, h3⟩]
theorem nx_2 {us ds : TM} {r : HR} {i : Int} (h : ¬ aft us r i < 0) (h2 : ¬ (0 ≤ aft ds r i ∧ aft ds r i < aft us r i)) : nextF us ds r i = aft us r i := by unfold nextF; rw [if_neg h, if_neg h2]
noncomputable def L55 (us : TM) (ds : TM) (r : HR) (i : Int) : LSpec := ⟨[.agg [.mp 0, .mp 1], .agg r.cells, kz i], [.map MTS us none, .map MTS ds none], [some (.map MTS us none), some (.map MTS ds none)], [], kz (nextF us ds r i)⟩
set_option maxHeartbeats 2000000 in
theorem s55 (us : TM) (ds : TM) (r : HR) (i : Int) (hp : okT r us ∧ okT r ds) : LSpec.ok Tryz.prog GG 55 (L55 us ds r i) := by
 refine fn_spec mix k55 _ rfl rfl (Tab.ok (l := [(98, S98)]) ⟨t98, trivial⟩) noL noJ ?_
 repeat' ((conv => whnf); first
  | exact trivial
  | with_reducible first | refine aj ?_ | refine ai rfl ?_ | refine ai ⟨rfl, rfl⟩ ?_
  | ((with_reducible refine ai ?_ ?_); focus exact w3)
  | refine And.intro (Sd.mk (p := MapTy.one MTS = _ ∧ _) ⟨rfl, rfl⟩) ?_
  | refine And.intro (Sd.mk (p := MapTy.vone MTS = _ ∧ _) ⟨rfl, rfl⟩) ?_
  | refine exI (x := MTS) trivial ?_
  | apply exI (x := ULift.up (HR.mk _ _)) trivial
  | with_reducible first | refine And.intro (Sd.mk (p := srt _ ∧ _ ≤ 1000000) hp.1) ?_ | refine And.intro (Sd.mk (p := srt _ ∧ _ ≤ 1000000) hp.2) ?_ | refine And.intro ?_ ?_ | refine asL_mk ?_ | refine exI (i64_in (by omega) (by omega)) ?_
  | refine exI (x := ULift.up _) (Eq.refl _) ?_
  | refine exI (x := ULift.up _) ⟨rfl, by omega, Eq.refl _⟩ ?_
  | exact nx
  | ((with_reducible intro h); try dsimp only at h))
 all_goals (refine Sd.mk ?_)
 all_goals (try simp only [HR.eta] at *)
 all_goals first
  | exact hp.1
  | exact hp.2
  | exact nx_0 (by assumption)
  | exact nx_1 (by assumption) (by assumption) (by assumption)
  | exact nx_2 (by assumption) (fun ⟨_, h⟩ => absurd h (by assumption))
  | exact nx_2 (by assumption) (fun ⟨h, _⟩ => absurd h (by assumption))
noncomputable def S55 : SFn
 | [.agg [.mp p, .mp q], a1, .int .i64 i], k => asMap MTS p fun us => asMap MTS q fun ds => asHR a1 fun r => .req (okT r us ∧ okT r ds) (k (L55 us ds r i))
 | _, _ => .fail
theorem t55 : FnS Tryz.prog GG 55 S55 := by
 intro args k gt go R v os n h
 unfold S55 at h
 split at h
 . obtain ⟨us, _, h⟩ := asMap_inv h
   obtain ⟨ds, _, h⟩ := asMap_inv h
   obtain ⟨r, _, h⟩ := asHR_inv h
   obtain ⟨hp, _, h⟩ := req_inv h
   exact ⟨_, _, s55 us ds r _ hp, h⟩
 . cases h
noncomputable def L54 (us : TM) (ds : TM) (r : HR) (i : Int) : LSpec := ⟨[.agg r.cells, .ptr 0 0 0, .ptr 1 0 0], [.row [.mp 2, .mp 3], .row [kz i], .map MTS us none, .map MTS ds none], [some (.row [.mp 2, .mp 3]), some (.row [kz i]), some (.map MTS us none), some (.map MTS ds none)], [], .bool (decide (nextF us ds r i < 0))⟩
set_option maxHeartbeats 2000000 in
theorem s54 (us : TM) (ds : TM) (r : HR) (i : Int) (hp : okT r us ∧ okT r ds) : LSpec.ok Tryz.prog GG 54 (L54 us ds r i) := by
 refine fn_spec mix k54 _ rfl rfl (Tab.ok (l := [(55, S55)]) ⟨t55, trivial⟩) noL noJ ?_
 repeat' ((conv => whnf); first
  | exact trivial
  | with_reducible first | refine aj ?_ | refine ai rfl ?_ | refine ai ⟨rfl, rfl⟩ ?_
  | ((with_reducible refine ai ?_ ?_); focus exact w3)
  | refine And.intro (Sd.mk (p := MapTy.one MTS = _ ∧ _) ⟨rfl, rfl⟩) ?_
  | refine And.intro (Sd.mk (p := MapTy.vone MTS = _ ∧ _) ⟨rfl, rfl⟩) ?_
  | refine exI (x := MTS) trivial ?_
  | apply exI (x := ULift.up (HR.mk _ _)) trivial
  | with_reducible first | refine And.intro (Sd.mk (p := srt _ ∧ _ ≤ 1000000) hp.1) ?_ | refine And.intro (Sd.mk (p := srt _ ∧ _ ≤ 1000000) hp.2) ?_ | refine And.intro (Sd.mk (p := okT _ _ ∧ okT _ _) hp) ?_ | refine And.intro ?_ ?_ | refine asL_mk ?_ | refine exI (i64_in (by omega) (by omega)) ?_
  | refine exI (x := ULift.up _) (Eq.refl _) ?_
  | refine exI (x := ULift.up _) ⟨rfl, by omega, Eq.refl _⟩ ?_
  | exact nx
  | ((with_reducible intro h); try dsimp only at h))
 all_goals (refine Sd.mk ?_)
 all_goals (try simp only [HR.eta] at *)
 all_goals first
  | exact hp
noncomputable def S54 : SFn
 | [a0, .ptr p _ _, .ptr q _ _], k => asHR a0 fun r => asRow p fun rp => asRow q fun rq => match rp, rq with
   | .agg [.mp u, .mp d], .agg [.int .i64 i] => asMap MTS u fun us => asMap MTS d fun ds => .req (okT r us ∧ okT r ds) (k (L54 us ds r i))
   | _, _ => .fail
 | _, _ => .fail
theorem t54 : FnS Tryz.prog GG 54 S54 := by
 intro args k gt go R v os n h
 unfold S54 at h
 split at h
 . obtain ⟨r, _, h⟩ := asHR_inv h
   obtain ⟨_, _, h⟩ := asRow_inv h
   obtain ⟨_, _, h⟩ := asRow_inv h
   split at h
   . obtain ⟨us, _, h⟩ := asMap_inv h
     obtain ⟨ds, _, h⟩ := asMap_inv h
     obtain ⟨hp, _, h⟩ := req_inv h
     exact ⟨_, _, s54 us ds r _ hp, h⟩
   . cases h
 . cases h
end Go.Proofs.YtlahifihaeafbaaGreatDoor
namespace Go.Proofs.YtlahifihaeafbaaGreatDoor
open Go Go.Sx
set_option maxHeartbeats 8000000 in
theorem s106_0 (nm : ByteArray) (ru : Int) (fl : Int) (x : HI) (h : fl ∈ [0, 9, 24, 31, 57, 120, 136, 140, 144, 148, 264, 281, 284, 308, 377, 384, 388, 400, 432, 896, 912, 2072, 2184, 2328, 3080, 4120, 4240, 4248, 6168, 6169, 6328, 8496, 12345, 14393, 26744]) : LSpec.ok Tryz.prog GG 106 (L106 ⟨nm, fl, ru⟩ x) := by
 simp only [List.mem_cons, List.not_mem_nil, or_false] at h
 rcases h with rfl | rfl | rfl | rfl | rfl | rfl | rfl | rfl | rfl | rfl | rfl | rfl | rfl | rfl | rfl | rfl | rfl | rfl | rfl | rfl | rfl | rfl | rfl | rfl | rfl | rfl | rfl | rfl | rfl | rfl | rfl | rfl | rfl | rfl | rfl
 all_goals
  refine fn_spec mix k106 _ rfl rfl (Tab.ok (l := [(81, S81c), (135, S135)]) ⟨t81c, t135, trivial⟩) (fun _ => .rounds 9) noJ ?_
  repeat' ((conv => whnf); first
   | exact trivial
   | with_reducible refine And.intro (Sd.mk (by with_reducible rfl)) ?_
   | with_reducible refine And.intro (Sd.mk ⟨by with_reducible rfl, by with_reducible rfl⟩) ?_
   | with_reducible refine And.intro (Sd.mk (show noConf _ _ = true by kernel_rfl)) ?_
   | with_reducible refine And.intro (Sd.mk rfl) ?_
   | with_reducible refine And.intro (Sd.mk ⟨rfl, rfl⟩) ?_
   | with_reducible refine And.intro (Sd.mk (by decide)) ?_
   | with_reducible refine And.intro (Sd.mk (by omega)) ?_
   | with_reducible refine And.intro ?_ ?_
   | with_reducible refine asL_mk ?_
   | with_reducible intro _)
  all_goals exact ⟨by kernel_rfl⟩
theorem forms_fields (op : Int) : (formF op).1.fields ∈ [0, 9, 24, 31, 57, 120, 136, 140, 144, 148, 264, 281, 284, 308, 377, 384, 388, 400, 432, 896, 912, 2072, 2184, 2328, 3080, 4120, 4240, 4248, 6168, 6169, 6328, 8496, 12345, 14393, 26744] := by
 unfold formF
 split
 . decide
 . have : op.toNat < 46 := by omega
   have h : ∀ n < 46, (formRows.getD n ⟨⟨#[]⟩, 0, 0⟩).fields ∈ [0, 9, 24, 31, 57, 120, 136, 140, 144, 148, 264, 281, 284, 308, 377, 384, 388, 400, 432, 896, 912, 2072, 2184, 2328, 3080, 4120, 4240, 4248, 6168, 6169, 6328, 8496, 12345, 14393, 26744] := by decide
   exact h _ this
theorem s106 (op : Int) (x : HI) : LSpec.ok Tryz.prog GG 106 (L106 (formF op).1 x) := s106_0 _ _ _ x (forms_fields op)
noncomputable def S106 : SFn
 | [a0, a1], k => asFM a0 fun f => asHI a1 fun x => .req (∃ op, f = (formF op).1) (k (L106 f x))
 | _, _ => .fail
theorem t106 : FnS Tryz.prog GG 106 S106 := by
 intro args k gt go R v os n h
 unfold S106 at h
 split at h
 . obtain ⟨f, _, h⟩ := asFM_inv h
   obtain ⟨x, _, h⟩ := asHI_inv h
   obtain ⟨⟨op, rfl⟩, _, h⟩ := req_inv h
   exact ⟨_, _, s106 op x, h⟩
 . cases h
end Go.Proofs.YtlahifihaeafbaaGreatDoor
namespace Go.Proofs.YtlahifihaeafbaaGreatDoor
open Go Go.Sx
def c219 : MC := .seq (.reg [oo 2 (.mv (ki 0))]) (.seq (.seq (.reg [om 3 0]) (.blk 0 (.seq (.seq (.reg [oo 5 (.cmp .eql (.t 3) (ki 1)),om 4 5]) (.cond (.t 4) (.skip) (.reg [oo 6 (.cmp .eql (.t 3) (ki 8)),om 4 6]))) (.cond (.t 4) (.seq (.reg [oo 2 (.mv (ki 1))]) (.ret)) (.seq (.reg [oo 8 (.cmp .eql (.t 3) (ki 16)),om 7 8]) (.cond (.t 7) (.seq (.reg [oo 2 (.mv (ki 2))]) (.ret)) (.seq (.reg [oo 10 (.cmp .eql (.t 3) (ki 32)),om 9 10]) (.cond (.t 9) (.seq (.reg [oo 2 (.mv (ki 4))]) (.ret)) (.seq (.reg [oo 12 (.cmp .eql (.t 3) (ki 128)),om 11 12]) (.cond (.t 11) (.seq (.reg [oo 2 (.mv (ki 16))]) (.ret)) (.skip))))))))))) (.seq (.reg [oo 2 (.mv (ki 0))]) (.ret)))
theorem k219 : FnOk Tryz.prog 219 13 c219 [.t 2] := fk Tryz.func219 ⟨tv,⟨⟨tv,⟨⟨tv,⟨tv,tv⟩⟩,⟨⟨tv,tv⟩,⟨tv,⟨⟨tv,tv⟩,⟨tv,⟨⟨tv,tv⟩,⟨tv,⟨⟨tv,tv⟩,tv⟩⟩⟩⟩⟩⟩⟩⟩⟩,⟨tv,tv⟩⟩⟩
def c197 : MC := .seq (.reg [oo 2 (.mv kf)]) (.seq (.reg [om 3 0,oo 4 (.cmp .neq (.t 3) (ki 1)),os (some 5) (.mv (.t 4)),og 5 true (some 6) (.mv (.t 0)),og 5 true (some 7) (.call (.k (.fn (.func 219) [] [])) [(.t 6)]),og 5 true (some 8) (.cmp .gtr (.t 7) (ki 0)),oo 9 (.pick (.t 5) (.t 8) kf),om 2 9]) (.ret))
theorem k197 : FnOk Tryz.prog 197 10 c197 [.t 2] := fk Tryz.func197 ⟨tv,⟨tv,tv⟩⟩
def c194 : MC := .seq (.reg [oo 4 (.mv kf)]) (.seq (.reg [om 6 1,oo 7 (.call (.k (.fn (.func 219) [] [])) [(.t 6)]),om 5 7]) (.seq (.reg [om 8 1,oo 9 (.call (.k (.fn (.func 197) [] [])) [(.t 8)]),os (some 10) (.mv (.t 9)),og 10 true (some 11) (.mv (.t 0)),og 10 true (some 12) (.cmp .geq (.t 11) (ki 0)),oo 13 (.pick (.t 10) (.t 12) kf),os (some 14) (.mv (.t 13)),og 14 true (some 15) (.mv (.t 0)),og 14 true (some 16) (.mv (.t 5)),og 14 true (some 17) (.ar .rem (.t 15) (.t 16)),og 14 true (some 18) (.cmp .eql (.t 17) (ki 0)),oo 19 (.pick (.t 14) (.t 18) kf),os (some 20) (.mv (.t 19)),og 20 true (some 21) (.mv (.t 0)),og 20 true (some 22) (.mv (.t 5)),og 20 true (some 23) (.ar .sub (ki 672) (.t 22)),og 20 true (some 24) (.cmp .leq (.t 21) (.t 23)),oo 25 (.pick (.t 20) (.t 24) kf),om 4 25]) (.ret)))
theorem k194 : FnOk Tryz.prog 194 26 c194 [.t 4] := fk Tryz.func194 ⟨tv,⟨tv,⟨tv,tv⟩⟩⟩
def c193 : MC := .seq (.reg [oo 4 (.mv (ki 0))]) (.seq (.seq (.reg [om 5 0,oo 6 (.not (.t 5)),os (some 7) (.mv (.t 6)),og 7 false (some 8) (.mv (.t 1)),og 7 false (some 9) (.call (.k (.fn (.func 219) [] [])) [(.t 8)]),og 7 false (some 10) (.cmp .eql (.t 9) (ki 0)),oo 11 (.pick (.t 7) kt (.t 10))]) (.cond (.t 11) (.seq (.reg [oo 4 (.mv (ki 0))]) (.ret)) (.skip))) (.seq (.reg [om 12 1,om 4 12]) (.ret)))
theorem k193 : FnOk Tryz.prog 193 13 c193 [.t 4] := fk Tryz.func193 ⟨tv,⟨⟨tv,⟨⟨tv,tv⟩,tv⟩⟩,⟨tv,tv⟩⟩⟩
def bytesF (ty : Int) : Int := if ty = 1 ∨ ty = 8 then 1 else if ty = 16 then 2 else if ty = 32 then 4 else if ty = 128 then 16 else 0
def storF (ty : Int) : Bool := decide (ty ≠ 1 ∧ 0 < bytesF ty)
def fieldF (off ty : Int) : Bool := decide (storF ty = true ∧ 0 ≤ off ∧ off.tmod (bytesF ty) = 0 ∧ off ≤ 672 - bytesF ty)
def onlyF (is : Bool) (ty : Int) : Int := if is = true ∧ bytesF ty ≠ 0 then ty else 0
theorem bytes_range (ty : Int) : 0 ≤ bytesF ty ∧ bytesF ty ≤ 16 := by
 unfold bytesF; repeat' split
 all_goals omega
def L219 (ty : Int) : LSpec := ⟨[kz ty], [], [], [], kz (bytesF ty)⟩
theorem s219 (ty : Int) : LSpec.ok Tryz.prog GG 219 (L219 ty) := by
 refine fn_spec mix k219 _ rfl rfl (Tab.ok (l := []) trivial) noL noJ ?_
 repeat' ((conv => whnf); first
  | exact trivial
  | with_reducible first | refine ai (by with_reducible rfl) ?_ | refine ai ⟨by with_reducible rfl, by with_reducible rfl⟩ ?_ | refine ai (show noConf _ _ = true by kernel_rfl) ?_ | refine ai rfl ?_ | refine ai ⟨rfl, rfl⟩ ?_ | refine ai (by decide) ?_ | refine ai (by omega) ?_ | refine And.intro ?_ ?_ | refine asL_mk ?_ | refine exI (i64_in (by omega) (by omega)) ?_
  | (with_reducible intro h; exact absurd h (by decide))
  | with_reducible intro _)
 all_goals (refine Sd.mk ?_; unfold bytesF; grind)
noncomputable def S219 : SFn
 | [a0], k => asI a0 fun ty => k (L219 ty)
 | _, _ => .fail
theorem t219 : FnS Tryz.prog GG 219 S219 := by
 intro args k gt go R v os n h
 unfold S219 at h
 split at h
 . obtain ⟨ty, _, h⟩ := asI_inv h
   exact ⟨_, _, s219 ty, h⟩
 . cases h
def L197 (ty : Int) : LSpec := ⟨[kz ty], [], [], [], .bool (storF ty)⟩
theorem s197 (ty : Int) : LSpec.ok Tryz.prog GG 197 (L197 ty) := by
 refine fn_spec mix k197 _ rfl rfl (Tab.ok (l := [(219, S219)]) ⟨t219, trivial⟩) noL noJ ?_
 repeat' ((conv => whnf); first
  | exact trivial
  | with_reducible first | refine ai (by with_reducible rfl) ?_ | refine ai ⟨by with_reducible rfl, by with_reducible rfl⟩ ?_ | refine ai (show noConf _ _ = true by kernel_rfl) ?_ | refine ai rfl ?_ | refine ai ⟨rfl, rfl⟩ ?_ | refine ai (by decide) ?_ | refine ai (by omega) ?_ | refine And.intro ?_ ?_ | refine asL_mk ?_ | refine exI (i64_in (by omega) (by omega)) ?_
  | (with_reducible intro h; exact absurd h (by decide))
  | with_reducible intro _)
 all_goals (refine Sd.mk ?_; unfold storF; grind)
noncomputable def S197 : SFn
 | [a0], k => asI a0 fun ty => k (L197 ty)
 | _, _ => .fail
theorem t197 : FnS Tryz.prog GG 197 S197 := by
 intro args k gt go R v os n h
 unfold S197 at h
 split at h
 . obtain ⟨ty, _, h⟩ := asI_inv h
   exact ⟨_, _, s197 ty, h⟩
 . cases h
def L194 (off : Int) (ty : Int) : LSpec := ⟨[kz off, kz ty], [], [], [], .bool (fieldF off ty)⟩
theorem s194 (off : Int) (ty : Int) : LSpec.ok Tryz.prog GG 194 (L194 off ty) := by
 refine fn_spec mix k194 _ rfl rfl (Tab.ok (l := [(219, S219), (197, S197)]) ⟨t219, t197, trivial⟩) noL noJ ?_
 repeat' ((conv => whnf); first
  | exact trivial
  | with_reducible first | refine ai (by with_reducible rfl) ?_ | refine ai ⟨by with_reducible rfl, by with_reducible rfl⟩ ?_ | refine ai (show noConf _ _ = true by kernel_rfl) ?_ | refine ai rfl ?_ | refine ai ⟨rfl, rfl⟩ ?_ | refine ai (by decide) ?_ | refine ai (by omega) ?_ | refine And.intro ?_ ?_ | refine asL_mk ?_ | refine exI (i64_in (by omega) (by omega)) ?_
  | (with_reducible intro h; exact absurd h (by decide))
  | with_reducible first | refine ai (by simp only [storF] at *; grind) ?_ | refine exI (i64_in (by have := bytes_range ty; omega) (by have := bytes_range ty; omega)) ?_
  | with_reducible intro _)
 all_goals (refine Sd.mk ?_; simp only [fieldF, storF] at *; grind)
noncomputable def S194 : SFn
 | [a0, a1], k => asI a0 fun off => asI a1 fun ty => k (L194 off ty)
 | _, _ => .fail
theorem t194 : FnS Tryz.prog GG 194 S194 := by
 intro args k gt go R v os n h
 unfold S194 at h
 split at h
 . obtain ⟨off, _, h⟩ := asI_inv h
   obtain ⟨ty, _, h⟩ := asI_inv h
   exact ⟨_, _, s194 off ty, h⟩
 . cases h
def L193 (is : Bool) (ty : Int) : LSpec := ⟨[.bool is, kz ty], [], [], [], kz (onlyF is ty)⟩
theorem s193 (is : Bool) (ty : Int) : LSpec.ok Tryz.prog GG 193 (L193 is ty) := by
 refine fn_spec mix k193 _ rfl rfl (Tab.ok (l := [(219, S219)]) ⟨t219, trivial⟩) noL noJ ?_
 repeat' ((conv => whnf); first
  | exact trivial
  | with_reducible first | refine ai (by with_reducible rfl) ?_ | refine ai ⟨by with_reducible rfl, by with_reducible rfl⟩ ?_ | refine ai (show noConf _ _ = true by kernel_rfl) ?_ | refine ai rfl ?_ | refine ai ⟨rfl, rfl⟩ ?_ | refine ai (by decide) ?_ | refine ai (by omega) ?_ | refine And.intro ?_ ?_ | refine asL_mk ?_ | refine exI (i64_in (by omega) (by omega)) ?_
  | (with_reducible intro h; exact absurd h (by decide))
  | with_reducible intro _)
 all_goals (refine Sd.mk ?_; unfold onlyF; grind)
noncomputable def S193 : SFn
 | [a0, a1], k => asB a0 fun is => asI a1 fun ty => k (L193 is ty)
 | _, _ => .fail
theorem t193 : FnS Tryz.prog GG 193 S193 := by
 intro args k gt go R v os n h
 unfold S193 at h
 split at h
 . obtain ⟨is, _, h⟩ := asB_inv h
   obtain ⟨ty, _, h⟩ := asI_inv h
   exact ⟨_, _, s193 is ty, h⟩
 . cases h
end Go.Proofs.YtlahifihaeafbaaGreatDoor
