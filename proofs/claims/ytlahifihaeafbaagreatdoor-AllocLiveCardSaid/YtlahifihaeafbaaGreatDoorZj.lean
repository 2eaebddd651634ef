/- Part 10 of 11 of a proof of the law AllocLive: what the last part leans on. -/
import Derived.Test.YtlahifihaeafbaaGreatDoorZi
import Derived.Test.YtlahifihaeafbaaGreatDoorY
import Derived.ProofKit
import Derived.LaidMore
import Derived.OpenShut
import Derived.Test.YtlahifihaeafbaaGreatDoorRows
set_option linter.all false
set_option maxRecDepth 100000
namespace Go.Sx
open Go
open Classical
def mk1 (D : Nat) : Deferred := { target := .collected D, args := #[] }
theorem zhw {F : Fence} {n : Nat} {P : Program} {fn : Func} {tmps : Array Value} {R : Ending -> World -> Prop} {d : Deferred} {u : FrameMode} (hu : u ≠ .run) : ∀ (ds : List Deferred) (w : World), nmk ds = [d] -> (mks ds).Nodup →
 (∀ m ∈ mks ds, ∃ D, m = mk1 D /\ w.heap[D]? = some (.deferred (some []))) →
 (∀ (rest : List Deferred) (w' : World), w'.heap.size = w.heap.size -> w'.os = w.os -> w'.tape = w.tape -> w'.output = w.output -> (∀ b, mk1 b ∉ mks ds -> w'.heap[b]? = w.heap[b]?) →
  nmk rest = [] -> (∀ m ∈ rest, m ∈ mks ds) -> rest.Nodup -> (∀ m ∈ rest, ∃ D, m = mk1 D /\ w'.heap[D]? = some (.deferred (some []))) -> LeavesInM F n P fn tmps R (d :: rest) u w') -> LeavesInM F n P fn tmps R ds u w
  | [], w, h, _, _, _ => by simp [nmk] at h
  | x :: ds, w, h, hnd, hm, hc => by
    by_cases hx : zjE x = true
    . have e1 : nmk (x :: ds) = nmk ds := by simp [nmk, hx]
      have e2 : mks (x :: ds) = x :: mks ds := by simp [mks, hx]
      rw [e1] at h
      rw [e2] at hnd hm hc
      obtain ⟨D, rfl, hD⟩ := hm x (by simp)
      have hnd' := List.nodup_cons.1 hnd
      have hput : ∀ b, b ≠ D -> (w.putObj D (.deferred none)).heap[b]? = w.heap[b]? := fun b hb => World.putObj_heap_other hb
      refine ⟨hu, .inl ⟨D, _, rfl, run_takeDeferred hD, zhw hu ds _ h hnd'.2 (fun m hmm => ?_) (fun rest w' h1 h2 h3 h4 h5 h6 h7 h8 h9 => ?_)⟩⟩
      . obtain ⟨D', rfl, hD'⟩ := hm m (by simp [hmm])
        refine ⟨D', rfl, (hput D' (fun e => ?_)).trans hD'⟩
        subst e
        exact hnd'.1 hmm
      . refine hc rest w' (h1.trans (by simp [World.putObj])) h2 h3 h4 (fun b hb => ?_) h6 (fun m hmm => by simp [h7 m hmm]) h8 h9
        simp only [List.mem_cons, not_or] at hb
        exact (h5 b hb.2).trans (hput b (fun e => hb.1 (by rw [e])))
    . have e1 : nmk (x :: ds) = x :: nmk ds := by simp [nmk, hx]
      have e2 : mks (x :: ds) = mks ds := by simp [mks, hx]
      rw [e1] at h
      rw [e2] at hnd hm hc
      injection h with h1 h2
      subst h1
      have e3 : mks ds = ds := zgP h2
      rw [e3] at hnd hm hc
      exact hc ds w rfl rfl rfl rfl (fun _ _ => rfl) h2 (fun _ h => h) hnd hm
theorem zah.off {C : Ctx} {gt go β own S a w} (H : zah C gt go β own S a w) {w' : World} {a' : Act} (ht : a'.tmps = a.tmps) (h1 : w'.heap.size = w.heap.size) (h2 : w'.os = w.os) (h3 : w'.tape = w.tape) (h4 : w'.output = w.output)
 (h5 : ∀ b, w'.heap[b]? = w.heap[b]? \/ (C.w0.heap.size <= b /\ ¬ S b /\ ∀ id, (go id).isSome -> ¬ own id b)) (hdf : zmI C.w0.heap.size go own S (mks a'.defers) w' /\ nmk a'.defers = C.dt) : zah C gt go β own S a' w' := by
  have x : Ext β w S β w' S := ⟨fun _ _ e => e, fun _ e => e, fun b hb => by
   rcases h5 b with h | h
   . exact h
   . exact absurd hb h.2.1⟩
  refine ⟨fun t s e => by rw [ht]; exact zaH x _ _ (H.tm t s e), ⟨fun id o e => ?_, H.mem.sep, H.mem.st, fun b hb => by rw [h1]; exact H.mem.sz b hb⟩, ⟨h2.trans H.fr.os, h3.trans H.fr.tape, h4.trans H.fr.output, by rw [h1]; exact H.fr.size, fun k hk hx => ?_⟩,
   H.own0, H.s0, H.s1, by rw [ht]; exact H.n, hdf, fun g s e => zaH ⟨fun _ _ e => e, fun _ e => e, x.heap⟩ _ _ (H.gl g s e)⟩
  . obtain ⟨B, hB, ho⟩ := H.mem.obj id o e
    exact ⟨B, hB, ho.ext x (fun b hb => by
     rcases h5 b with h | h
     . exact h
     . exact absurd hb (h.2.2 id (by simp [e])))⟩
  . rcases h5 k with h | h
    . rw [h]; exact H.fr.block k hk hx
    . have := h.1; omega
theorem zkL {P : Program} {fn : Func} {rs : List RV} {L : zaa} (hrs : zfy P fn.results.toList rs) (hout : L.out.length = L.foot.length) {C : Ctx} (hP : C.P = P) (hm0 : C.m0 = L.foot.length) {own : Nat -> Nat -> Prop} (hX : C.X0 = zbg L.go0 own) (hmem : zaw C.β0 own C.S0 L.go0 C.w0)
 {s' : St} {β1 own1 S1 a' w'} (hk : (ze4 rs L).vc (zaO s'.t) (zax s'.o) [] fun _ _ _ _ => True) (H : zaA C s' β1 own1 S1 a' w') :
 ∃ v, (results fn a'.tmps).run P w' = .ok v w' /\ ∃ β' own' S', zi6 L.foot.length C.β0 C.w0 C.S0 β' w' S' /\ (∀ id, L.foot.length + L.new.length <= id -> β' id = none) ∧
  rel β' w' S' L.res v /\ zaw β' own' S' L.go1 w' /\ Fr (zbg L.go0 own) C.w0 w' /\ (∀ id b, (L.go1 id).isSome -> own' id b -> zbg L.go0 own b \/ C.w0.heap.size <= b) ∧
  (∀ b, S' b -> C.S0 b \/ zbg L.go0 own b \/ C.w0.heap.size <= b) := by
  have H2 := H.h
  obtain ⟨R, v, os, k, hk, _⟩ := RT.runs_of_vc _ _ _ hk
  obtain ⟨ss, R1, hk, hres⟩ := zkX hrs hk
  obtain ⟨xs, hxs, hrel⟩ := hres (C := C) hP H2
  obtain ⟨ρ1, R2, hk, l1, i1, m1⟩ := zdV _ hk
  obtain ⟨ρ2, R3, hk, l2, i2, m2⟩ := zdF _ hk
  obtain ⟨e1, e2, e3⟩ := zgv hk
  have hinj : ρ2.inj := i2 (i1 (fun i i' j q q' => by
   have := zci _ _ _ _ q
   have := zci _ _ _ _ q'
   simp_all))
  obtain ⟨hm, ho, hl⟩ := zi5 H2 hinj _ m2 e1
  have hgo1 : ∀ i, zao i (zbB L.out 0 ++ zbs L.new L.foot.length) = L.go1 i := fun i => by
   rw [zdn, zdQ, zcj]
   simp only [Nat.zero_le, if_true, Nat.sub_zero, zaa.go1]
   by_cases c : i < L.foot.length
   . rw [if_pos c, if_neg (by omega)]
     cases zaV L.out i with
     | none => rfl
     | some q => cases q <;> rfl
   . rw [if_neg c, if_pos (by omega)]
     have : zaV L.out i = none := by rw [zbC]; simp; omega
     rw [this]; rfl
  have hgo1' : (fun i => zao i (zbB L.out 0 ++ zbs L.new L.foot.length)) = L.go1 := funext hgo1
  rw [hgo1'] at hm
  have hfr := H2.fr
  rw [hX] at hfr
  refine ⟨_, zkU hxs, bOf ρ2 β1 (zlh (zbB L.out 0 ++ zbs L.new L.foot.length)), zcc ρ2 own1, _, ⟨fun i B hi e => ?_, fun b hb => .inl (H2.s0 b hb), fun b hb => ?_⟩, fun i hi => by simp [bOf, zdW e2 i hi],
   m1 ρ2 l2 (zeT H2.mem) _ _ (zog hrel), hm, hfr, fun id b hi hb => ?_, fun b hb => ?_⟩
  . simp only [bOf] at e
    split at e
    . rename_i j hj
      have := zck e3 i _ hi hj
      cases this
      exact H.b0 i B (by rw [hm0]; exact hi) e
    . rename_i hj
      have := zck e3 i _ hi hj
      cases this
    . cases e
  . exact hfr.block b (hmem.sz b hb) (fun ⟨i, q1, q2⟩ => hmem.st i b q1 q2 hb)
  . obtain ⟨j, q1, q2⟩ := ho id b (by rw [hgo1]; exact hi) hb
    have := H2.own0 j b q1 q2
    rw [hX] at this; exact this
  . have s1 := H2.s1
    have o0 := H2.own0
    rw [hX] at s1 o0
    rcases hb with hb | hb
    . exact s1 b hb
    . obtain ⟨j, q1, q2⟩ := hl b hb
      exact .inr (o0 j b q1 q2)
theorem zi9 {b D : Nat} (h : mk1 b = { target := .collected D, args := #[] }) : b = D := by
 unfold mk1 at h
 injection h with h _
 injection h
theorem znV {d : Deferred} (h : zjE d = false) : mks [d] = [] /\ nmk [d] = [d] := by simp [mks, nmk, h]
theorem znw {ds : List Deferred} {d : Deferred} (h : nmk ds = [d]) : zjE d = false := by
 have : d ∈ nmk ds := by rw [h]; simp
 have := (List.mem_filter.1 this).2
 simpa using this
theorem zvR {C : Ctx} {gt go β own S a w} (H : zah C gt go β own S a w) {P : Program} {fn : Func} {R : Ending -> World -> Prop} {d : Deferred} {fv : Fn} {cap : Array Value} {g : FuncId} {args : Array Value} (hdt : C.dt = [d]) (htgt : d.target = .fn fv cap)
 (hinv : ∀ w1, (invoke d.target d.args).run P w1 = .ok (.enter g args) w1) (hidle : ∀ w1, CallsDIn Fence.wide 0 P g args .returning w1 fun e u' w' => e = .returned (.tuple #[]) /\ u' = .returning /\ w' = w1)
 (hR : ∀ w3, zah C gt go β own S { a with defers := [d] } w3 -> ∃ v, (results fn a.tmps).run P w3 = .ok v w3 /\ R (.returned v) w3) : LeavesInM Fence.wide 0 P fn a.tmps R a.defers .returning w := by
  have hn : nmk a.defers = [d] := H.df.2.trans hdt
  refine zhw (by simp) a.defers w hn H.df.1.nd (fun m hm => ?_) (fun rest w1 g1 g2 g3 g4 g5 g6 g7 g8 g9 => ?_)
  . obtain ⟨D, e1, _, e3, _⟩ := H.df.1.at_ m hm
    exact ⟨D, e1, e3⟩
  . refine ⟨by simp, .inr ⟨fun e => by simp [Fence.wide] at e, fv, cap, g, args, htgt, hinv w1, fun _ _ => trivial, (hidle w1).mono ?_⟩⟩
    rintro e u' w' ⟨rfl, rfl, rfl⟩
    show LeavesInM Fence.wide 0 P fn a.tmps R rest .returning _
    refine zfI rest _ g8 (fun m hm => g9 m hm) (fun w3 h1 h2 h3 h4 h5 => hR w3 ?_)
    refine H.off rfl (h1.trans g1) (h2.trans g2) (h3.trans g3) (h4.trans g4) (fun b => ?_) ?_
    . by_cases hb : mk1 b ∈ mks a.defers
      . right
        obtain ⟨D, e1, e2, _, e4, e5⟩ := H.df.1.at_ _ hb
        have := zi9 e1
        subst this
        exact ⟨e2, e4, e5⟩
      . left
        rw [h5 b (fun hr => hb (g7 _ hr)), g5 b hb]
    . have := znV (znw hn)
      exact ⟨⟨by rw [this.1]; simp, fun m hm => by rw [this.1] at hm; cases hm⟩, by rw [this.2, hdt]⟩
theorem zy0 {C : Ctx} {gt go β own S a w} (H : zah C gt go β own S a w) {i : Nat} {c : SV} {B : zaz} {b : Nat} (h : go i = some (.row [c])) (hB : β i = some B) (hb : B.blk = some b) :
 ∃ v T, w.heap[b]? = some (.cells #[v] T (0, 0)) /\ own i = zcv b /\ B.str = 1 /\ B.cap = 1 := by
  obtain ⟨B', h1, b', arr, T, h2, h3, h4, h5, h6, h7⟩ := H.mem.obj i _ h
  rw [hB] at h1; cases h1
  rw [hb] at h2; cases h2
  simp only [zal] at h7
  obtain ⟨x, xs, e, _, rfl⟩ := h7
  have : arr = #[x] := by apply Array.toList_inj.1; simpa using e
  subst this
  exact ⟨x, T, h6, h5, h3, h4⟩
theorem zlP {w : World} {b : Nat} {x y : Value} {T : TypeId} (h : w.heap[b]? = some (.cells #[x] T (0, 0))) :
 (w.setCell ⟨b, 0, none⟩ y).heap[b]? = some (.cells #[y] T (0, 0)) /\ (∀ j, j ≠ b -> (w.setCell ⟨b, 0, none⟩ y).heap[j]? = w.heap[j]?) /\ (w.setCell ⟨b, 0, none⟩ y).heap.size = w.heap.size := by
  refine ⟨?_, fun j hj => ?_, by simp [World.setCell]⟩
  . simp [World.setCell, Array.getElem?_modify, h]
  . simp only [World.setCell, Array.getElem?_modify]
    rw [if_neg (fun e => hj e.symm)]
theorem zjb {w : World} {b : Nat} {x : Value} {T : TypeId} (h : w.heap[b]? = some (.cells #[x] T (0, 0))) : w.cell? ⟨b, 0, none⟩ = some x /\ w.frozen? ⟨b, 0, none⟩ = false := by
 simp [World.cell?, World.frozen?, h]
theorem zvB {C : Ctx} {gt go β own S a w} (H : zah C gt go β own S a w) {P : Program} {fn : Func} {R : Ending -> World -> Prop} {d : Deferred} {fv : Fn} {cap : Array Value} {g : FuncId} {args : Array Value} (hdt : C.dt = [d]) (htgt : d.target = .fn fv cap)
 (hinv : ∀ w1, (invoke d.target d.args).run P w1 = .ok (.enter g args) w1) {i8 i9 : Nat} {B8 B9 : zaz} {b8 b9 : Nat} {c8 c9 : SV} (ne : i8 ≠ i9) (h8 : go i8 = some (.row [c8])) (h9 : go i9 = some (.row [c9])) (hB8 : β i8 = some B8) (hb8 : B8.blk = some b8)
 (hB9 : β i9 = some B9) (hb9 : B9.blk = some b9) (k y : Int) (x : Value)
 (hpan : ∀ w1 v8 v9, w1.cell? ⟨b8, 0, none⟩ = some v8 -> w1.frozen? ⟨b8, 0, none⟩ = false -> w1.cell? ⟨b9, 0, none⟩ = some v9 -> w1.frozen? ⟨b9, 0, none⟩ = false -> b8 < w1.heap.size -> b9 < w1.heap.size -> ¬ b8 = b9 →
  CallsDIn Fence.wide 0 P g args (.panicking [{ v := x, recovered := false }]) w1 fun e u' w' => e = .returned (.tuple #[]) /\ u' = .panicking [{ v := x, recovered := true }] ∧
   ∃ T, w' = ((w1.alloc (.cells #[.int .i64 k] T)).setCell ⟨b8, 0, none⟩ (.int .i64 k)).setCell ⟨b9, 0, none⟩ (.int .i64 y))
 (hR : ∀ w3, zah C gt (upd (upd go i8 (some (.row [.int .i64 k]))) i9 (some (.row [.int .i64 y]))) β own S { a with defers := [d] } w3 -> ∃ v, (results fn a.tmps).run P w3 = .ok v w3 /\ R (.returned v) w3) :
 LeavesInM Fence.wide 0 P fn a.tmps R a.defers (.panicking [{ v := x, recovered := false }]) w := by
  have hn : nmk a.defers = [d] := H.df.2.trans hdt
  have hone := znV (znw hn)
  refine zhw (by simp) a.defers w hn H.df.1.nd (fun m hm => ?_) (fun rest w1 g1 g2 g3 g4 g5 g6 g7 g8 g9 => ?_)
  . obtain ⟨D, e1, _, e3, _⟩ := H.df.1.at_ m hm
    exact ⟨D, e1, e3⟩
  . have offd : ∀ b, w1.heap[b]? = w.heap[b]? \/ (C.w0.heap.size <= b /\ ¬ S b /\ ∀ id, (go id).isSome -> ¬ own id b) := fun b => by
     by_cases hb : mk1 b ∈ mks a.defers
     . right
       obtain ⟨D, e1, e2, _, e4, e5⟩ := H.df.1.at_ _ hb
       have := zi9 e1
       subst this
       exact ⟨e2, e4, e5⟩
     . exact .inl (g5 b hb)
    have hrest : mks (d :: rest) = rest /\ nmk (d :: rest) = [d] := by
     have h1 := zgP g6
     have h2 := znw hn
     constructor
     . simp only [mks, List.filter_cons, h2]; exact h1
     . simp only [nmk, List.filter_cons, h2]
       show d :: nmk rest = [d]
       rw [g6]
    have H1 : zah C gt go β own S { a with defers := d :: rest } w1 := by
     refine H.off rfl g1 g2 g3 g4 offd ⟨⟨by rw [hrest.1]; exact g8, fun m hm => ?_⟩, by rw [hrest.2, hdt]⟩
     rw [hrest.1] at hm
     obtain ⟨D, e1, e2, _, e4, e5⟩ := H.df.1.at_ m (g7 m hm)
     obtain ⟨D', e1', e3'⟩ := g9 m hm
     have := zi9 (e1'.symm.trans e1)
     subst this
     exact ⟨D', e1, e2, e3', e4, e5⟩
    obtain ⟨v8, T8, q8, o8, st8, cp8⟩ := zy0 H1 h8 hB8 hb8
    obtain ⟨v9, T9, q9, o9, st9, cp9⟩ := zy0 H1 h9 hB9 hb9
    have hne : ¬ b8 = b9 := fun e => H1.mem.sep i8 i9 b8 ne (by simp [h8]) (by simp [h9]) (by rw [o8]; rfl) (by rw [o9, e]; rfl)
    have l8 := (Array.getElem?_eq_some_iff.1 q8).1
    have l9 := (Array.getElem?_eq_some_iff.1 q9).1
    refine ⟨by simp, .inr ⟨fun e => by simp [Fence.wide] at e, fv, cap, g, args, htgt, hinv w1, fun _ _ => trivial, (hpan w1 v8 v9 (zjb q8).1 (zjb q8).2 (zjb q9).1 (zjb q9).2 l8 l9 hne).mono ?_⟩⟩
    rintro e u' w' ⟨rfl, rfl, T, hw'⟩
    show LeavesInM Fence.wide 0 P fn a.tmps R rest (settle _) w'
    have hset : settle (.panicking [{ v := x, recovered := true }]) = .returning := by simp [settle]
    rw [hset]
    have H2 := H1.push (.cells #[.int .i64 k] T)
    generalize hW2 : w1.alloc (.cells #[.int .i64 k] T) = W2 at *
    have old : ∀ j, j < w1.heap.size -> W2.heap[j]? = w1.heap[j]? := fun j hj => by
     rw [<- hW2]; show (w1.heap.push _)[j]? = _; rw [Array.getElem?_push, if_neg (by omega)]
    have p8 := zlP (y := .int .i64 k) ((old b8 l8).trans q8)
    have H3 := H2.set h8 (w' := W2.setCell ⟨b8, 0, none⟩ (.int .i64 k)) hB8 p8.2.2 (fun j hj => p8.2.1 j (fun e => hj (by rw [o8, e]; rfl))) rfl rfl rfl (o := .row [.int .i64 k])
     (fun _ => ⟨b8, #[.int .i64 k], T8, hb8, by simp [st8], cp8, o8, p8.1, by simp [zal, rel]⟩) none undef none (fun d s e => by cases e) (fun _ => .inl rfl)
    simp only [zbe] at H3
    generalize hW3 : W2.setCell ⟨b8, 0, none⟩ (.int .i64 k) = W3 at *
    have h9' : upd go i8 (some (SO.row [.int .i64 k])) i9 = some (.row [c9]) := by rw [zab _ _ (Ne.symm ne)]; exact h9
    have p9 := zlP (y := .int .i64 y) ((p8.2.1 b9 (fun e => hne e.symm)).trans ((old b9 l9).trans q9))
    have H4 := H3.set h9' (w' := W3.setCell ⟨b9, 0, none⟩ (.int .i64 y)) hB9 p9.2.2 (fun j hj => p9.2.1 j (fun e => hj (by rw [o9, e]; rfl))) rfl rfl rfl (o := .row [.int .i64 y])
     (fun _ => ⟨b9, #[.int .i64 y], T9, hb9, by simp [st9], cp9, o9, p9.1, by simp [zal, rel]⟩) none undef none (fun d s e => by cases e) (fun _ => .inl rfl)
    simp only [zbe] at H4
    rw [<- hw'] at H4
    have hdf := H4.df
    refine zfI rest w' g8 (fun m hm => ?_) (fun w3 h1 h2 h3 h4 h5 => hR w3 ?_)
    . obtain ⟨D, e1, _, e3, _⟩ := hdf.1.at_ m (by show m ∈ mks (d :: rest); rw [hrest.1]; exact hm)
      exact ⟨D, e1, e3⟩
    . refine H4.off rfl h1 h2 h3 h4 (fun b => ?_) ⟨⟨by rw [hone.1]; simp, fun m hm => by rw [hone.1] at hm; cases hm⟩, by rw [hone.2, hdt]⟩
      by_cases hb : mk1 b ∈ rest
      . right
        obtain ⟨D, e1, e2, _, e4, e5⟩ := hdf.1.at_ _ (show mk1 b ∈ mks (d :: rest) by rw [hrest.1]; exact hb)
        have := zi9 e1
        subst this
        exact ⟨e2, e4, e5⟩
      . exact .inl (h5 b hb)
end Go.Sx
namespace Go.Sx
open Go
open Classical
def zAq (rs : List RV) (L : zaa) (T : TypeId) (y : Int) (i8 i9 : Nat) : Ex -> St -> Prop
 | .nrm, s => (ze4 rs L).vc (zaO s.t) (zax s.o) [] fun _ _ _ _ => True
 | .ret, s => (ze4 rs L).vc (zaO s.t) (zax s.o) [] fun _ _ _ _ => True
 | .exit _, _ => False
 | .pan v, s => match v with
   | .ifc T' (.agg [.int .i64 k]) => match zax s.o i8, zax s.o i9 with
     | some (.row [_]), some (.row [_]) => Sd (T' = T) /\ (ze4 rs L).vc (zaO s.t) (zax ((i9, some (.row [.int .i64 y])) :: (i8, some (.row [.int .i64 k])) :: s.o)) [] fun _ _ _ _ => True
     | _, _ => False
   | _ => False
def zs5 (P : Program) (G : Nat -> Option SV) (N : Nat) (S PS : zcB) (LA : Nat -> zbO) (JA : Nat -> zfk) (mB : MC) (rs : List RV) (L : zaa) (T : TypeId) (y : Int) (t8 t9 t19 : Nat) : Ex -> St -> Prop
 | .ret, s => (ze4 rs L).vc (zaO s.t) (zax s.o) [] fun _ _ _ _ => True
 | .nrm, s => match zao t8 s.t, zao t9 s.t, zao t19 s.t with
   | some (.ptr i8 0 0), some (.ptr i9 0 0), none => match Nat.beq i8 i9, Nat.blt i8 s.nx, Nat.blt i9 s.nx with
     | false, true, true => run ⟨P, G, N, none, s.nx, none, S, LA, JA, PS⟩ mB s (zAq rs L T y i8 i9)
     | _, _, _ => False
   | _, _, _ => False
 | _, _ => False
theorem zqj {P : Program} {fn : Func} {R : Ending -> World -> Prop} {C : Ctx} (hdt : C.dt = []) {gt go β own S a w} (H : zah C gt go β own S a w)
 (hR : ∀ w3, zah C gt go β own S { a with defers := [] } w3 -> ∃ v, (results fn a.tmps).run P w3 = .ok v w3 /\ R (.returned v) w3) : LeavesInM Fence.wide 0 P fn a.tmps R a.defers .returning w := by
  obtain ⟨hdf, hms⟩ := H.df
  rw [zgP (hms.trans hdt)] at hdf
  refine zfI a.defers w hdf.nd (fun d hd => ?_) (fun w2 h1 h2 h3 h4 h5 => ?_)
  . obtain ⟨D, e1, _, e3, _⟩ := hdf.at_ d hd
    exact ⟨D, e1, e3⟩
  . have H2 := H.undf h1 h2 h3 h4 hdf h5
    rw [hdt] at H2
    exact hR w2 H2
theorem zq0 {P : Program} {G : Nat -> Option SV} {f : FuncId} {fn : Func} {A1 A2 B : Code} {rid : Nat} {o1 o2 : Oper} {mA1 mA2 mB : MC} {rs : List RV} {L : zaa} (hmix : P.follows .mixedOrders = true) (hf : P.funcs[f]? = some fn)
 (hb : fn.body = some (.seq A1 (.seq A2 (.seq (.region rid #[o1, o2] false) B)))) (hent : zdz P f) (h1 : zbp P A1 mA1) (h2 : zbp P A2 mA2) (hB : zbp P B mB) (hrs : zfy P fn.results.toList rs) (hN : L.args.length <= fn.ntmps) (hout : L.out.length = L.foot.length)
 {t8 t9 t19 : Nat} {g : FuncId} (ho1 : o1.op = .makeFunc (.func g) #[] #[.tmp t8, .tmp t9]) (hd1 : o1.dst = some t19) (hg1 : o1.guard = none) (ho2 : o2.op = .defer { callee := .value (.tmp t19), args := #[], argTypes := #[] }) (hd2 : o2.dst = none) (hg2 : o2.guard = none) (h19 : t19 < fn.ntmps)
 (hentg : zdz P g) (T : TypeId) (y : Int)
 (hidle : ∀ (b8 b9 : Nat) w1, CallsDIn Fence.wide 0 P g #[.pointer (some ⟨b8, 0, none⟩), .pointer (some ⟨b9, 0, none⟩)] .returning w1 fun e u' w' => e = .returned (.tuple #[]) /\ u' = .returning /\ w' = w1)
 (hpan : ∀ (b8 b9 : Nat) (k : Int) w1 v8 v9, w1.cell? ⟨b8, 0, none⟩ = some v8 -> w1.frozen? ⟨b8, 0, none⟩ = false -> w1.cell? ⟨b9, 0, none⟩ = some v9 -> w1.frozen? ⟨b9, 0, none⟩ = false -> b8 < w1.heap.size -> b9 < w1.heap.size -> ¬ b8 = b9 →
  CallsDIn Fence.wide 0 P g #[.pointer (some ⟨b8, 0, none⟩), .pointer (some ⟨b9, 0, none⟩)] (.panicking [{ v := .iface T (.agg #[.int .i64 k]), recovered := false }]) w1 fun e u' w' => e = .returned (.tuple #[]) /\ u' = .panicking [{ v := .iface T (.agg #[.int .i64 k]), recovered := true }] ∧
   ∃ T', w' = ((w1.alloc (.cells #[.int .i64 k] T')).setCell ⟨b8, 0, none⟩ (.int .i64 k)).setCell ⟨b9, 0, none⟩ (.int .i64 y))
 {S : zcB} (hS : SOk P G S) (LA : Nat -> zbO) (JA : Nat -> zfk) {PS : zcB} (hPS : zgC panicked P G PS)
 (h : run ⟨P, G, fn.ntmps, none, L.foot.length, none, S, LA, JA, PS⟩ (.seq mA1 mA2) (entry L) (zs5 P G fn.ntmps S PS LA JA mB rs L T y t8 t9 t19)) : zaa.ok P G f L := by
  refine ⟨hent, hout, fun β own S0 w vs hβ hmem hargs hgl => ?_⟩
  have hlen := zaM _ _ hargs
  simp at hlen
  let C : Ctx := { P := P, G := G, N := fn.ntmps, rnd := none, m0 := L.foot.length, Y := none, S := S, L := LA, J := JA, PS := PS, sok := hS, psok := hPS, w0 := w, X0 := zbg L.go0 own, S0 := S0, β0 := β }
  have hgo : zax (zbs (zd7 L.foot) 0) = L.go0 := funext fun i => by rw [zg8]; simp [zaa.go0]
  have H0 : zaA C (entry L) β own S0 { tmps := vs ++ Array.replicate (fn.ntmps - vs.size) undef, defers := [] } w := by
   refine ⟨⟨fun t s e => ?_, by simp only [entry]; rw [hgo]; exact hmem, Fr.refl _ _, fun id b h1 h2 => ?_, fun _ e => e, fun _ e => .inl e, ?_, ⟨⟨by simp [mks], fun d hd => by simp [mks] at hd⟩, rfl⟩, hgl⟩, hβ, Nat.le_refl _, fun i B _ e => e⟩
   . simp only [entry, zaO, zcj, Nat.zero_le, if_true, Nat.sub_zero] at e
     rw [zbC] at e
     obtain ⟨y, h1, h2⟩ := zea (i := t) _ _ _ hargs e
     have ht : t < vs.size := by
      have := (List.getElem?_eq_some_iff.1 h1).1
      simpa using this
     have : (vs ++ Array.replicate (fn.ntmps - vs.size) undef).getD t undef = y := by
      rw [Array.getD_eq_getD_getElem?, Array.getElem?_append_left ht]
      simp at h1
      rw [h1]; rfl
     simp only [this]
     exact h2
   . left
     simp only [entry] at h1
     rw [hgo] at h1
     exact ⟨id, h1, h2⟩
   . show (vs ++ Array.replicate (fn.ntmps - vs.size) undef).size = fn.ntmps
     simp; omega
  simp only [run] at h
  refine callsIn_wide.1 (callsIn_of_wp_marks (F := Fence.wide) (n := 0) hf hb trivial (wpIn_seq (F := Fence.wide) (wpIn_mono (F := Fence.wide) (zh0 (C := C) hmix h1 rfl (fun y e => by cases e) h H0) ?_)) rfl)
  have early : ∀ s' β1 own1 S1 a' w', ((ze4 rs L).vc (zaO s'.t) (zax s'.o) [] fun _ _ _ _ => True) -> zaA C s' β1 own1 S1 a' w' -> bodyPostM Fence.wide 0 P fn (fun e w' => ∃ v β' own' S', e = .returned v /\ zi6 L.foot.length β w S0 β' w' S' /\ (∀ id, L.foot.length + L.new.length <= id -> β' id = none) ∧
   rel β' w' S' L.res v /\ zaw β' own' S' L.go1 w' /\ Fr (zbg L.go0 own) w w' /\ (∀ id b, (L.go1 id).isSome -> own' id b -> zbg L.go0 own b \/ w.heap.size <= b) /\ (∀ b, S' b -> S0 b \/ zbg L.go0 own b \/ w.heap.size <= b)) .ret a' w' := by
    intro s' β1 own1 S1 a' w' hk H
    refine zqj (C := C) rfl H.h (fun w3 H3 => ?_)
    obtain ⟨v, e, β', own', S', q⟩ := zkL (C := C) (own := own) hrs hout rfl rfl rfl hmem hk (a' := { a' with defers := [] }) (w' := w3) ⟨H3, H.fresh, H.m0, H.b0⟩
    exact ⟨v, e, v, β', own', S', rfl, q⟩
  intro e a1 w1 hp
  cases e with
  | exit i => obtain ⟨s1, β1, own1, S1, hk, H1⟩ := hp; exact hk.elim
  | goto l => exact hp.elim
  | panic c => obtain ⟨s1, β1, own1, S1, v, x, _, hk, _⟩ := hp; exact hk.elim
  | outgrown => exact hp.elim
  | ret => obtain ⟨s1, β1, own1, S1, hk, H1⟩ := hp; exact early _ _ _ _ _ _ hk H1
  | normal =>
  obtain ⟨s1, β1, own1, S1, hk, H1⟩ := hp
  refine wpIn_seq (F := Fence.wide) (wpIn_mono (F := Fence.wide) (zh0 (C := C) hmix h2 rfl (fun y e => by cases e) hk H1) ?_)
  intro e a2 w2 hp
  cases e with
  | exit i => obtain ⟨s2, β2, own2, S2, hk, H2⟩ := hp; exact hk.elim
  | goto l => exact hp.elim
  | panic c => obtain ⟨s2, β2, own2, S2, v, x, _, hk, _⟩ := hp; exact hk.elim
  | outgrown => exact hp.elim
  | ret => obtain ⟨s2, β2, own2, S2, hk, H2⟩ := hp; exact early _ _ _ _ _ _ hk H2
  | normal =>
  obtain ⟨s2, β2, own2, S2, hk, H2⟩ := hp
  simp only [zs5] at hk
  split at hk
  case h_2 => exact hk.elim
  rename_i i8 i9 e8 e9 e19
  split at hk
  case h_2 => exact hk.elim
  rename_i q1 q2 q3
  have ne : i8 ≠ i9 := fun e => by rw [e] at q1; simp at q1
  have lt8 : i8 < s2.nx := by rw [Nat.blt_eq] at q2; exact q2
  have lt9 : i9 < s2.nx := by rw [Nat.blt_eq] at q3; exact q3
  have r8 := H2.h.tm t8 _ e8
  have r9 := H2.h.tm t9 _ e9
  simp only [rel] at r8 r9
  obtain ⟨B8, b8, hB8, hb8, v8⟩ := r8
  obtain ⟨B9, b9, hB9, hb9, v9⟩ := r9
  simp only [Nat.zero_mul, Nat.zero_add] at v8 v9
  let d : Deferred := { target := .fn (.func g) #[.pointer (some ⟨b8, 0, none⟩), .pointer (some ⟨b9, 0, none⟩)], args := #[] ++ #[] }
  have hinv : ∀ w1, (invoke d.target d.args).run P w1 = .ok (.enter g #[.pointer (some ⟨b8, 0, none⟩), .pointer (some ⟨b9, 0, none⟩)]) w1 := fun w1 => by
   simp only [invoke, d]
   have := hentg #[.pointer (some ⟨b8, 0, none⟩), .pointer (some ⟨b9, 0, none⟩)] w1
   simpa using this
  refine wpIn_seq (F := Fence.wide) (wpIn_region (F := Fence.wide) ?_)
  have hr1 : (execOp a2.eval o1).run P w2 = .ok (.value (.func (.func g) #[] #[.pointer (some ⟨b8, 0, none⟩), .pointer (some ⟨b9, 0, none⟩)])) w2 := by
   simp only [execOp, ho1]
   simp [Instr.makeFunc, Act.eval, v8, v9]
  have hr2 : (execOp (a2.put o1.dst (.func (.func g) #[] #[.pointer (some ⟨b8, 0, none⟩), .pointer (some ⟨b9, 0, none⟩)])).eval o2).run P w2 = .ok (.defer d) w2 := by
   have hsz : t19 < a2.tmps.size := by rw [H2.h.n]; exact h19
   have hv : (a2.put (some t19) (.func (.func g) #[] #[.pointer (some ⟨b8, 0, none⟩), .pointer (some ⟨b9, 0, none⟩)])).eval (.tmp t19) = .func (.func g) #[] #[.pointer (some ⟨b8, 0, none⟩), .pointer (some ⟨b9, 0, none⟩)] := by
    show (a2.put (some t19) _).tmps.getD t19 undef = _
    rw [zhN hsz, if_pos rfl]
   simp only [execOp, ho2, hd1]
   simp [resolve, Deferred.ofValue, hv, d]
  have hw1 : ∀ t, Region.wanted o1 t = true := fun t => by unfold Region.wanted; rw [hg1]
  have hw2 : ∀ t, Region.wanted o2 t = true := fun t => by unfold Region.wanted; rw [hg2]
  show wpOpsIn Fence.wide 0 P #[o1, o2] _ [0, 1] a2 w2
  simp only [wpOpsIn, show #[o1, o2][0]? = some o1 from rfl, show #[o1, o2][1]? = some o2 from rfl, hw1, hw2, if_true]
  refine ⟨fun _ _ => trivial, ?_⟩
  show Oper.uponIn Fence.wide 0 P o1 a2 _ _ ((execOp a2.eval o1).run P w2)
  rw [hr1]
  refine ⟨fun _ _ => trivial, ?_⟩
  show Oper.uponIn Fence.wide 0 P o2 _ _ _ ((execOp (a2.put o1.dst _).eval o2).run P w2)
  rw [hr2]
  show B.wpIn Fence.wide 0 P _ ({ a2.put o1.dst (.func (.func g) #[] #[.pointer (some ⟨b8, 0, none⟩), .pointer (some ⟨b9, 0, none⟩)]) with defers := d :: (a2.put o1.dst (.func (.func g) #[] #[.pointer (some ⟨b8, 0, none⟩), .pointer (some ⟨b9, 0, none⟩)])).defers }.put o2.dst undef) w2
  rw [hd1, hd2]
  let C' : Ctx := { C with m0 := s2.nx, dt := [d], β0 := β2 }
  have hdm : zjE d = false := rfl
  have hnm : nmk a2.defers = [] := H2.h.df.2
  have HB : zaA C' s2 β2 own2 S2 { a2.put (some t19) (.func (.func g) #[] #[.pointer (some ⟨b8, 0, none⟩), .pointer (some ⟨b9, 0, none⟩)]) with defers := d :: (a2.put (some t19) (.func (.func g) #[] #[.pointer (some ⟨b8, 0, none⟩), .pointer (some ⟨b9, 0, none⟩)])).defers } w2 := by
   have hsz : t19 < a2.tmps.size := by rw [H2.h.n]; exact h19
   have e1 : mks (d :: a2.defers) = mks a2.defers := by simp [mks, hdm]
   have e2 : nmk (d :: a2.defers) = [d] := by
    have : nmk (d :: a2.defers) = d :: nmk a2.defers := by simp [nmk, hdm]
    rw [this, hnm]
   refine ⟨⟨fun t s e => ?_, H2.h.mem, H2.h.fr, H2.h.own0, H2.h.s0, H2.h.s1, by rw [<- H2.h.n]; exact zmK _ _ _, ⟨?_, ?_⟩, H2.h.gl⟩, H2.fresh, Nat.le_refl _, fun i B _ e => e⟩
   . show rel β2 w2 S2 s ((a2.put (some t19) _).tmps.getD t undef)
     rw [zhN hsz, if_neg (fun e' => by subst e'; simp only [zaO] at e; rw [e19] at e; cases e)]
     exact H2.h.tm t s e
   . show zmI _ _ _ _ (mks (d :: a2.defers)) _
     rw [e1]; exact H2.h.df.1
   . exact e2
  refine wpIn_mono (F := Fence.wide) (zh0 (C := C') hmix hB rfl (fun y e => by cases e) hk HB) ?_
  have back : ∀ {s3 : St} {β3 own3 S3 a5 w5}, zaA C' s3 β3 own3 S3 a5 w5 -> ∀ {s6 : St} {w6}, s6.nx = s3.nx -> zah C' (zaO s6.t) (zax s6.o) β3 own3 S3 { a5 with defers := [d] } w6 -> zaA C s6 β3 own3 S3 { a5 with defers := [] } w6 := by
   intro s3 β3 own3 S3 a5 w5 H3 s6 w6 hnx H6
   have hm2 : C.m0 <= s2.nx := H2.m0
   have hm3 : s2.nx <= s3.nx := H3.m0
   exact ⟨⟨H6.tm, H6.mem, H6.fr, H6.own0, H6.s0, H6.s1, H6.n, ⟨⟨by simp [mks], fun m hm => by simp [mks] at hm⟩, rfl⟩, H6.gl⟩, by rw [hnx]; exact H3.fresh, by rw [hnx]; omega, fun i B hi e => H2.b0 i B hi (H3.b0 i B (Nat.lt_of_lt_of_le hi hm2) e)⟩
  have late : ∀ {s3 : St} {β3 own3 S3 a5 w5}, zaA C' s3 β3 own3 S3 a5 w5 -> ((ze4 rs L).vc (zaO s3.t) (zax s3.o) [] fun _ _ _ _ => True) -> LeavesInM Fence.wide 0 P fn a5.tmps (fun e w' => ∃ v β' own' S', e = .returned v /\ zi6 L.foot.length β w S0 β' w' S' /\ (∀ id, L.foot.length + L.new.length <= id -> β' id = none) ∧
   rel β' w' S' L.res v /\ zaw β' own' S' L.go1 w' /\ Fr (zbg L.go0 own) w w' /\ (∀ id b, (L.go1 id).isSome -> own' id b -> zbg L.go0 own b \/ w.heap.size <= b) /\ (∀ b, S' b -> S0 b \/ zbg L.go0 own b \/ w.heap.size <= b)) a5.defers .returning w5 := by
    intro s3 β3 own3 S3 a5 w5 H3 hk3
    refine zvR (C := C') H3.h rfl rfl hinv (hidle b8 b9) (fun w6 H6 => ?_)
    obtain ⟨v, e, β', own', S', q⟩ := zkL (C := C) (own := own) hrs hout rfl rfl rfl hmem hk3 (back H3 (s6 := s3) rfl H6)
    exact ⟨v, e, v, β', own', S', rfl, q⟩
  intro e a5 w5 hp
  cases e with
  | exit i => obtain ⟨s3, β3, own3, S3, hk3, H3⟩ := hp; exact hk3.elim
  | goto l => exact hp.elim
  | outgrown => exact hp.elim
  | ret => obtain ⟨s3, β3, own3, S3, hk3, H3⟩ := hp; exact late H3 hk3
  | normal => obtain ⟨s3, β3, own3, S3, hk3, H3⟩ := hp; exact late H3 hk3
  | panic c =>
    obtain ⟨s3, β3, own3, S3, v, x, rfl, hk3, H3, hx⟩ := hp
    simp only [zAq] at hk3
    split at hk3
    case h_2 => exact hk3.elim
    rename_i T' k
    split at hk3
    case h_2 => exact hk3.elim
    rename_i c8 c9 g8 g9
    obtain ⟨⟨rfl⟩, hk3⟩ := hk3
    simp only [rel, zal] at hx
    obtain ⟨yy, rfl, xs, rfl, x1, xs1, e1, rfl, e2⟩ := hx
    have hxs : xs = #[.int .i64 k] := by apply Array.toList_inj.1; rw [e1, e2]
    subst hxs
    obtain ⟨B8', hB8', _⟩ := H3.h.mem.obj i8 _ g8
    obtain ⟨B9', hB9', _⟩ := H3.h.mem.obj i9 _ g9
    have c1 := H3.b0 i8 B8' lt8 hB8'
    have c2 := H3.b0 i9 B9' lt9 hB9'
    simp only [C'] at c1 c2
    rw [hB8] at c1; cases c1
    rw [hB9] at c2; cases c2
    refine zvB (C := C') H3.h rfl rfl hinv ne g8 g9 hB8' hb8 hB9' hb9 k y _ (hpan b8 b9 k) (fun w6 H6 => ?_)
    have H6' := back H3 (s6 := ⟨s3.t, (i9, some (.row [.int .i64 y])) :: (i8, some (.row [.int .i64 k])) :: s3.o, s3.nx⟩) rfl (by simp only [zc0]; exact H6)
    obtain ⟨v, e, β', own', S', q⟩ := zkL (C := C) (own := own) hrs hout rfl rfl rfl hmem hk3 H6'
    exact ⟨v, e, v, β', own', S', rfl, q⟩
theorem zyg {P : Program} {G : Nat -> Option SV} {f : FuncId} {fn : Func} {A1 A2 B : Code} {rid : Nat} {o1 o2 : Oper} {mA1 mA2 mB : MC} {rs : List RV} {L : zaa} (hmix : P.follows .mixedOrders = true) (hf : P.funcs[f]? = some fn)
 {N : Nat} (hNn : fn.ntmps = N) (hb : fn.body = some (.seq A1 (.seq A2 (.seq (.region rid #[o1, o2] false) B)))) (hent : zdz P f) (h1 : zbp P A1 mA1) (h2 : zbp P A2 mA2) (hB : zbp P B mB) (hrs : zfy P fn.results.toList rs) (hN : L.args.length <= N) (hout : L.out.length = L.foot.length)
 {t8 t9 t19 : Nat} {g : FuncId} (ho1 : o1.op = .makeFunc (.func g) #[] #[.tmp t8, .tmp t9]) (hd1 : o1.dst = some t19) (hg1 : o1.guard = none) (ho2 : o2.op = .defer { callee := .value (.tmp t19), args := #[], argTypes := #[] }) (hd2 : o2.dst = none) (hg2 : o2.guard = none) (h19 : t19 < N)
 (hentg : zdz P g) (T : TypeId) (y : Int)
 (hidle : ∀ (b8 b9 : Nat) w1, CallsDIn Fence.wide 0 P g #[.pointer (some ⟨b8, 0, none⟩), .pointer (some ⟨b9, 0, none⟩)] .returning w1 fun e u' w' => e = .returned (.tuple #[]) /\ u' = .returning /\ w' = w1)
 (hpan : ∀ (b8 b9 : Nat) (k : Int) w1 v8 v9, w1.cell? ⟨b8, 0, none⟩ = some v8 -> w1.frozen? ⟨b8, 0, none⟩ = false -> w1.cell? ⟨b9, 0, none⟩ = some v9 -> w1.frozen? ⟨b9, 0, none⟩ = false -> b8 < w1.heap.size -> b9 < w1.heap.size -> ¬ b8 = b9 →
  CallsDIn Fence.wide 0 P g #[.pointer (some ⟨b8, 0, none⟩), .pointer (some ⟨b9, 0, none⟩)] (.panicking [{ v := .iface T (.agg #[.int .i64 k]), recovered := false }]) w1 fun e u' w' => e = .returned (.tuple #[]) /\ u' = .panicking [{ v := .iface T (.agg #[.int .i64 k]), recovered := true }] ∧
   ∃ T', w' = ((w1.alloc (.cells #[.int .i64 k] T')).setCell ⟨b8, 0, none⟩ (.int .i64 k)).setCell ⟨b9, 0, none⟩ (.int .i64 y))
 {S : zcB} (hS : SOk P G S) (LA : Nat -> zbO) (JA : Nat -> zfk) {PS : zcB} (hPS : zgC panicked P G PS)
 (h : fTs (zbs L.args 0) fun t => fOs (zbs (zd7 L.foot) 0) fun o => zb8 L.foot.length fun nx => run ⟨P, G, N, none, nx, none, S, LA, JA, PS⟩ (.seq mA1 mA2) ⟨t, o, nx⟩ (zs5 P G N S PS LA JA mB rs L T y t8 t9 t19)) : zaa.ok P G f L := by
  subst hNn
  rw [zkE, zfY, zbi] at h
  exact zq0 hmix hf hb hent h1 h2 hB hrs hN hout ho1 hd1 hg1 ho2 hd2 hg2 h19 hentg T y hidle hpan hS LA JA hPS h
end Go.Sx
namespace Go.Proofs.YtlahifihaeafbaaGreatDoor
open Go Go.Sx
section
def zBC : MC := .reg [oo 5 (.box (.t 1)),oo 8 (.alloc [(kz 0)]),oo 9 (.alloc [(kz 0)])]
def zDH : MC := .seq (.reg [om 12 0,om 13 2,om 14 3,oo 15 (fc 62 [(.t 12),(.t 13),(.t 14)]),om 10 15]) (.seq (.reg [om 16 10,oo 17 (cc .neq 16 0)]) (.cond (.t 17) (.seq (.reg [om 18 10,o none (.st (some 1) (.t 8) (ki 0)),o none (.st (some 1) (.t 9) (.t 18))]) (.ret)) (.skip)))
def zCd : MC := .seq (.reg [oo 20 (ls 2 5),om 21 0,oo 22 (.mkm),oo 23 (.bld [(.val (.slice none 0 0)),(.val (.slice none 0 0)),(.val (.slice none 0 0)),(.val (.map none))] [(0,2,(.t 20)),(2,1,(.t 21)),(3,1,(.t 22))]),oo 24 (.box (.t 23)),om 11 24]) (.seq (.reg [om 25 11,om 26 2,om 27 3,oo 28 (.pcall (.k (.fn (.func 64) [] [])) [(.t 25),(.t 26),(.t 27)])]) (.seq (.seq (.reg [om 29 11,oo 30 (fc 65 [(.t 29)]),oo 31 (.not (.t 30))]) (.cond (.t 31) (.reg [oo 32 (fl 0 5),oo 33 (ln 32),oo 34 (.lenS (.t 33)),oo 35 (.bld [(kz 0)] [(0,1,(.t 34))]),oo 36 (.mki 109 (.t 35)),o none (.pnc (.t 36))]) (.skip))) (.seq (.reg [o none (.st (some 1) (.t 8) (ki 0)),o none (.st (some 1) (.t 9) (ki 0))]) (.ret))))
attribute [local irreducible] Go.Sx.zak Go.Sx.zay zb4 zcF zeB zaT zbZ
def zb5 (l : List HI) (a : AL) (w v : Int) : Int × Int :=
 if zbZ l w v ≠ 0 then (0, zbZ l w v)
 else match zb4 l w v a.L a.fr [] 0 with
  | .inl k => (k, 191)
  | .inr _ => if zcF ⟨a.L, a.fr, l⟩ = true then (0, 0) else ((a.L.length : Int), 191)
theorem zxf {l a w v} (h : ¬ zbZ l w v = 0) : zb5 l a w v = (0, zbZ l w v) := by unfold zb5; rw [if_pos h]
theorem zyt {l a w v k} (h : ¬ ¬ zbZ l w v = 0) (h2 : zb4 l w v a.L a.fr [] 0 = .inl k) : zb5 l a w v = (k, 191) := by unfold zb5; rw [if_neg h, h2]
theorem zzd {l a w v es} (h : ¬ ¬ zbZ l w v = 0) (h2 : zb4 l w v a.L a.fr [] 0 = .inr es) (h3 : zcF ⟨a.L, a.fr, l⟩ = true) : zb5 l a w v = (0, 0) := by
 unfold zb5; rw [if_neg h, h2]; exact if_pos h3
theorem zAJ {l a w v es} (h : ¬ ¬ zbZ l w v = 0) (h2 : zb4 l w v a.L a.fr [] 0 = .inr es) (h3 : zcF ⟨a.L, a.fr, l⟩ = false) : zb5 l a w v = ((a.L.length : Int), 191) := by
 unfold zb5; rw [if_neg h, h2]; exact if_neg (by rw [h3]; decide)
theorem a1 {p : Int × Int} {a b : Int} (h : p = (a, b)) : p.1 = a := by rw [h]
theorem a2 {p : Int × Int} {a b : Int} (h : p = (a, b)) : p.2 = b := by rw [h]
theorem zxR {T : Int ⊕ HM} (h : ¬ ∃ k, T = .inl k) : ∃ es, T = .inr es := by
 cases T with
 | inl k => exact absurd ⟨k, rfl⟩ h
 | inr es => exact ⟨es, rfl⟩
theorem zH0 : zgC panicked Tryz.prog GG (zoK [(64, zsx)]) := by
 intro f args k gt go R v os n h
 simp only [zoK, Sx.zao] at h
 cases e : Nat.beq 64 f with
 | true =>
   rw [e] at h
   have := Nat.eq_of_beq_eq_true e
   subst this
   exact zHD _ _ _ _ _ _ _ _ h
 | false => rw [e] at h; cases h
def L24 (l : List HI) (a : AL) (w v : Int) : zaa := ⟨[hiS l, .agg a.cells, kz w, kz v], [], [], [], .tup [kz (zb5 l a w v).1, kz (zb5 l a w v).2]⟩
set_option maxHeartbeats 8000000 in
theorem s24 (l : List HI) (a : AL) (w v : Int) (hL : a.L.length <= 1000000) (hF : a.fr.length <= 1000000) : zaa.ok Tryz.prog GG 24 (L24 l a w v) := by
 refine zyg (rs := [.c 8 none, .c 9 none]) (N := 37) mix Tryz.func24 (by kernel_rfl) rfl (zh3 Tryz.func24 (by kernel_rfl) rfl) (zg2 (mc := zBC) (by kernel_rfl) trivial) (zg2 (mc := zDH) (by kernel_rfl) ⟨trivial, ⟨trivial, ⟨⟨trivial, trivial⟩, trivial⟩⟩⟩)
  (zg2 (mc := zCd) (by kernel_rfl) ⟨trivial, ⟨trivial, ⟨⟨trivial, ⟨trivial, trivial⟩⟩, ⟨trivial, trivial⟩⟩⟩⟩) (zkP (by kernel_rfl)) (Nat.le_of_ble_eq_true rfl) rfl rfl rfl rfl rfl rfl rfl (by decide) (zh3 Tryz.func63 (by kernel_rfl) rfl) 109 191 zqe zrl
  (Tab.ok (l := [(62, S62), (64, S64), (65, S65)]) ⟨t62, t64, t65, trivial⟩) noL noJ zH0 ?_
 repeat' ((conv => whnf); first
  | exact trivial
  | with_reducible first | refine aj ?_ | refine ai rfl ?_ | refine ai ⟨rfl, rfl⟩ ?_
  | ((with_reducible refine ai ?_ ?_); focus exact w3)
  | ((with_reducible intro h); first | refine Exists.elim (p := fun k1 : Int => _ = Sum.inl k1) h (fun k1 hk1 => ?_) | refine Exists.elim (zxR h) (fun k1 hk1 => ?_))
  | refine Exists.intro (∃ k1 : Int, zb4 l w v a.L a.fr [] 0 = .inl k1) ?_
  | refine exI (x := MPC) trivial ?_
  | refine exI (x := ULift.up _) (by with_reducible assumption) ?_
  | with_reducible first | refine And.intro (Sd.mk (p := ndk _ /\ _) ⟨by simp [ndk], by assumption⟩) ?_ | refine And.intro (Sd.mk (p := _ <= 1000000) ‹_›) ?_ | refine And.intro ?_ ?_ | refine zae ?_ | refine exI (i64_in (by omega) (by omega)) ?_
  | refine exI (x := ULift.up _) (Eq.refl _) ?_
  | refine exI (x := ULift.up _) ⟨rfl, by omega, Eq.refl _⟩ ?_
  | exact nx
  | ((with_reducible intro h); try dsimp only at h))
 all_goals (refine Sd.mk ?_); all_goals (try simp only [List.length_map])
 all_goals first
  | exact a1 (zxf ‹_›)
  | exact a2 (zxf ‹_›)
  | exact a1 (zyt ‹_› ‹_›)
  | exact a2 (zyt ‹_› ‹_›)
  | exact a1 (zzd ‹_› ‹_› (nf ‹_›))
  | exact a2 (zzd ‹_› ‹_› (nf ‹_›))
  | exact a1 (zAJ ‹_› ‹_› (nt ‹_›))
  | exact a2 (zAJ ‹_› ‹_› (nt ‹_›))
end
section
def c21 : MC := .seq (.reg [oo 2 (.mv (ki 0)),oo 3 (.mv (ki 0)),oo 4 (.mv (ki 0))]) (.seq (.seq (.reg [om 7 0,oo 8 (fc 18 [(.t 7)]),oo 9 (cc .neq 8 0)]) (.cond (.t 9) (.seq (.reg [oo 2 (.mv (ki 0)),oo 3 (.mv (ki 0)),oo 4 (.mv (ki 190))]) (.ret)) (.skip))) (.seq (.reg [om 11 0,oo 12 (fc 60 [(.t 11)]),om 10 12,oo 13 (ex_ 0 10),oo 14 (ex_ 1 10),oo 5 (.alloc [(kz 0),(kz 0)]),oo 6 (.alloc [(kz 0),(kz 0)]),o none (.st (some 2) (.t 5) (.t 13)),o none (.st (some 2) (.t 6) (.t 14))]) (.seq (.drw [oo 15 (.ixr 2 1 (.t 5) (ki 0)),oo 16 (ln 15),oo 17 (.ixr 2 1 (.t 5) (ki 1)),oo 18 (ln 17),om 2 16,om 3 18,oo 4 (.mv (ki 0))] [[],[0],[],[2],[1,0,1],[3,4,0,1,2,3,4],[5,0,1,2,3,4,5]]) (.ret))))
theorem k21 : zan Tryz.prog 21 19 c21 [.t 2,.t 3,.t 4] := fk Tryz.func21 ⟨tv,⟨⟨tv,⟨⟨tv,tv⟩,tv⟩⟩,⟨tv,⟨tv,tv⟩⟩⟩⟩
attribute [local irreducible] zaT zcb
def zhV (l : List HI) : Int × Int × Int := if zaT l ≠ 0 then (0, 0, 190) else ((zcb l).n0, (zcb l).n1, 0)
theorem zse {l : List HI} (h : ¬ ¬ zaT l = 0) : l.length <= 4000 := by
 have h := Classical.not_not.1 h
 unfold zaT at h
 split at h
 . next h1 => simp only [zfA, Bool.and_eq_true, decide_eq_true_eq] at h1; exact h1.1.2
 . cases h
noncomputable def L21 (l : List HI) : zaa := ⟨[.rd (.sl 15 (l.map HI.pv))], [], [], [], .tup [kz (zhV l).1, kz (zhV l).2.1, kz (zhV l).2.2]⟩
set_option maxHeartbeats 4000000 in
theorem s21 (l : List HI) : zaa.ok Tryz.prog GG 21 (L21 l) := by
 refine zac mix k21 _ rfl rfl (Tab.ok (l := [(18, S18), (60, S60)]) ⟨t18, t60, trivial⟩) noL noJ ?_
 repeat' ((conv => whnf); first
  | exact trivial
  | with_reducible first | refine aj ?_ | refine ai rfl ?_ | refine ai ⟨rfl, rfl⟩ ?_
  | ((with_reducible refine ai ?_ ?_); focus exact w3)
  | with_reducible first | refine And.intro (Sd.mk (p := _ <= 4000) (zse (by with_reducible assumption))) ?_ | refine And.intro ?_ ?_ | refine zae ?_ | refine exI (i64_in (by omega) (by omega)) ?_
  | refine exI (x := ULift.up _) (Eq.refl _) ?_
  | refine exI (x := ULift.up _) ⟨rfl, by omega, Eq.refl _⟩ ?_
  | exact ny
  | ((with_reducible intro h); try dsimp only at h))
 all_goals (refine Sd.mk ?_; simp only [zhV]; simp_all)
end
section
def c47 : MC := .seq (.reg [oo 0 (.mv (.k (.val (.slice none 0 0))))]) (.seq (.reg [oo 1 (.bld zI [(0,1,(ki 1)),(9,1,(.k (.int .u32 1)))]),oo 2 (.bld zI [(0,1,(ki 1)),(4,1,(ki 1)),(9,1,(.k (.int .u32 2)))]),oo 3 (.bld zI [(0,1,(ki 3)),(1,1,(ki 1)),(4,1,(ki 2)),(6,1,(ki 1))]),oo 4 (.bld zI [(0,1,(ki 20)),(5,1,(ki 2)),(3,1,(ki 32)),(8,1,(ki 4))]),oo 5 (.bld zI [(0,1,(ki 40)),(8,1,(ki 1))]),oo 6 (.bsl 15 5 zI [(0,(.t 1)),(1,(.t 2)),(2,(.t 3)),(3,(.t 4)),(4,(.t 5))]),om 0 6]) (.ret))
theorem k47 : zan Tryz.prog 47 7 c47 [.t 0] := fk Tryz.func47 ⟨tv,⟨tv,tv⟩⟩
def c48 : MC := .seq (.reg [oo 2 (.mv (.k (.val (.slice none 0 0))))]) (.seq (.reg [oo 3 (.mv (.k (.val (.slice none 0 0))))]) (.seq (.seq (.reg [om 5 0,oo 6 (.mv (ki 0))]) (.blk 0 (.loop 0 (.seq (.reg [oo 7 (.cmpl .lss (.t 6) (.t 5))]) (.seq (.cond (.t 7) (.skip) (.exit 0)) (.seq (.blk 1 (.seq (.reg [om 8 6,om 4 8]) (.reg [om 9 3,om 10 4,oo 11 (.bsl 1 1 [(kz 0)] [(0,(.t 10))]),oo 12 (.app 1 8 (.t 9) (.t 11)),om 3 12]))) (.reg [oo 13 (.arl .add (.t 6) (ki 1)),om 6 13]))))))) (.seq (.reg [om 14 3,om 2 14]) (.ret))))
theorem k48 : zan Tryz.prog 48 15 c48 [.t 2] := fk Tryz.func48 ⟨tv,⟨tv,⟨⟨tv,⟨tv,⟨⟨tv,tv⟩,⟨⟨tv,tv⟩,tv⟩⟩⟩⟩,⟨tv,tv⟩⟩⟩⟩
def c49 : MC := .seq (.reg [oo 4 (.mv kf)]) (.seq (.seq (.reg [om 6 0,oo 7 (.lenS (.t 6)),om 8 1,oo 9 (.lenS (.t 8)),oo 10 (ct .neq 7 9)]) (.cond (.t 10) (.seq (.reg [oo 4 (.mv kf)]) (.ret)) (.skip))) (.seq (.seq (.reg [om 11 0,oo 12 (.lenS (.t 11)),oo 13 (.mv (ki 0))]) (.blk 0 (.loop 0 (.seq (.reg [oo 14 (ct .lss 13 12)]) (.seq (.cond (.t 14) (.skip) (.exit 0)) (.seq (.blk 1 (.seq (.reg [om 15 13,om 5 15]) (.seq (.drw [om 16 0,om 17 5,oo 18 (ia 1 16 17),oo 19 (ln 18),om 20 1,om 21 5,oo 22 (ia 1 20 21),oo 23 (ln 22),oo 24 (ct .neq 19 23)] [[],[],[0,1],[2],[],[],[4,5],[6],[3,7]]) (.cond (.t 24) (.seq (.reg [oo 4 (.mv kf)]) (.ret)) (.skip))))) (.reg [oo 25 (ac .add 13 1),om 13 25]))))))) (.seq (.reg [oo 4 (.mv kt)]) (.ret))))
theorem k49 : zan Tryz.prog 49 26 c49 [.t 4] := fk Tryz.func49 ⟨tv,⟨⟨tv,⟨⟨tv,tv⟩,tv⟩⟩,⟨⟨tv,⟨tv,⟨⟨tv,tv⟩,⟨⟨tv,⟨tv,⟨⟨tv,tv⟩,tv⟩⟩⟩,tv⟩⟩⟩⟩,⟨tv,tv⟩⟩⟩⟩
def c20 : MC := .seq (.reg [oo 4 (.mv kf)]) (.seq (.seq (.reg [om 6 0,oo 7 (.lenS (.t 6)),om 8 1,oo 9 (.lenS (.t 8)),oo 10 (ct .neq 7 9)]) (.cond (.t 10) (.seq (.reg [oo 4 (.mv kf)]) (.ret)) (.skip))) (.seq (.seq (.reg [om 11 0,oo 12 (.lenS (.t 11)),oo 13 (.mv (ki 0))]) (.blk 0 (.loop 0 (.seq (.reg [oo 14 (ct .lss 13 12)]) (.seq (.cond (.t 14) (.skip) (.exit 0)) (.seq (.blk 1 (.seq (.reg [om 15 13,om 5 15]) (.seq (.drw [om 16 0,om 17 5,oo 18 (ia 2 16 17),oo 19 (ls 2 18),om 20 1,om 21 5,oo 22 (ia 2 20 21),oo 23 (ls 2 22),oo 24 (.eqs [.bool,.int .i64] true (.t 19) (.t 23))] [[],[],[0,1],[2],[],[],[4,5],[6],[3,7]]) (.cond (.t 24) (.seq (.reg [oo 4 (.mv kf)]) (.ret)) (.skip))))) (.reg [oo 25 (ac .add 13 1),om 13 25]))))))) (.seq (.reg [oo 4 (.mv kt)]) (.ret))))
theorem k20 : zan Tryz.prog 20 26 c20 [.t 4] := fk Tryz.func20 ⟨tv,⟨⟨tv,⟨⟨tv,tv⟩,tv⟩⟩,⟨⟨tv,⟨tv,⟨⟨tv,tv⟩,⟨⟨tv,⟨tv,⟨⟨tv,tv⟩,tv⟩⟩⟩,tv⟩⟩⟩⟩,⟨tv,tv⟩⟩⟩⟩
def zaE : List HI := [⟨1, 0, 0, 0, 0, 0, 0, 0, 0, 1, 0, 0, 0, 0, 0⟩, ⟨1, 0, 0, 0, 1, 0, 0, 0, 0, 2, 0, 0, 0, 0, 0⟩, ⟨3, 1, 0, 0, 2, 0, 1, 0, 0, 0, 0, 0, 0, 0, 0⟩, ⟨20, 0, 0, 32, 0, 2, 0, 0, 4, 0, 0, 0, 0, 0, 0⟩, ⟨40, 0, 0, 0, 0, 0, 0, 0, 1, 0, 0, 0, 0, 0, 0⟩]
noncomputable def L47  : zaa := ⟨[], [], [], [.vec 15 (zaE.map HI.pv)], .slc 0 0 5⟩
theorem s47  : zaa.ok Tryz.prog GG 47 (L47 ) := by
 refine zac mix k47 _ rfl rfl (Tab.ok (l := []) trivial) noL noJ ?_
 repeat' ((conv => whnf); first
  | exact trivial
  | with_reducible first | refine aj ?_ | refine ai rfl ?_ | refine ai ⟨rfl, rfl⟩ ?_
  | ((with_reducible refine ai ?_ ?_); focus exact w3)
  | with_reducible first | refine And.intro ?_ ?_ | refine zae ?_ | refine exI (i64_in (by omega) (by omega)) ?_
  | refine exI (x := ULift.up _) (Eq.refl _) ?_
  | refine exI (x := ULift.up _) ⟨rfl, by omega, Eq.refl _⟩ ?_
  | exact ny
  | ((with_reducible intro h); try dsimp only at h))
noncomputable def L48  : zaa := ⟨[kz 5], [], [], [.vec 1 ([0, 1, 2, 3, 4].map ipv)], .slc 0 0 5⟩
theorem s48  : zaa.ok Tryz.prog GG 48 (L48 ) := by
 refine zac mix k48 _ rfl rfl (Tab.ok (l := []) trivial) (fun _ => .rounds 8) noJ ?_
 repeat' ((conv => whnf); first
  | exact trivial
  | with_reducible first | refine aj ?_ | refine ai rfl ?_ | refine ai ⟨rfl, rfl⟩ ?_
  | ((with_reducible refine ai ?_ ?_); focus exact w3)
  | with_reducible first | refine And.intro ?_ ?_ | refine zae ?_ | refine exI (i64_in (by omega) (by omega)) ?_
  | refine exI (x := ULift.up _) (Eq.refl _) ?_
  | refine exI (x := ULift.up _) ⟨rfl, by omega, Eq.refl _⟩ ?_
  | exact ny
  | ((with_reducible intro h); try dsimp only at h))
def zBR (L M : List Int) (i : Int) : St := ⟨[(13, kz i), (12, kz L.length), (1, .rd (.sl 1 (M.map ipv))), (0, .rd (.sl 1 (L.map ipv)))], [], 0⟩
def I49 (L M : List Int) (i : Int) : Prop := 0 <= i /\ i <= L.length /\ L.length = M.length /\ L.length <= 1000000 /\ (L.drop i.toNat = M.drop i.toNat ↔ L = M)
theorem zr7 {L M : List Int} (h : ¬ (L.length : Int) = M.length) : decide (L = M) = false := by
 rw [decide_eq_false_iff_not]; rintro rfl; exact h rfl
theorem zry {L M : List Int} {i : Int} (hI : I49 L M i) (h : ¬ i < L.length) : decide (L = M) = true := by
 obtain ⟨h1, h2, h3, h4, h5⟩ := hI
 rw [decide_eq_true_eq, <- h5, List.drop_eq_nil_of_le (by omega), List.drop_eq_nil_of_le (by omega)]
theorem zu2 {L M : List Int} {i : Int} (hI : I49 L M i) (h : i < L.length) (e : ¬ nth L i = nth M i) : decide (L = M) = false := by
 obtain ⟨h1, h2, h3, h4, h5⟩ := hI
 rw [decide_eq_false_iff_not, <- h5, zaF L i ⟨h1, h⟩, zaF M i ⟨h1, by omega⟩]
 intro e'; injection e' with e1 _; exact e e1
theorem zuB {L M : List Int} {i : Int} (hI : I49 L M i) (h : i < L.length) (e : nth L i = nth M i) : I49 L M (i + 1) /\ ((L.length : Int) - (i + 1)).toNat < ((L.length : Int) - i).toNat := by
 obtain ⟨h1, h2, h3, h4, h5⟩ := hI
 rw [zaF L i ⟨h1, h⟩, zaF M i ⟨h1, by omega⟩, e] at h5
 refine ⟨⟨by omega, by omega, h3, h4, ?_⟩, by omega⟩
 rw [<- h5]; simp
noncomputable def L49 (L : List Int) (M : List Int) : zaa := ⟨[.rd (.sl 1 (L.map ipv)), .rd (.sl 1 (M.map ipv))], [], [], [], .bool (decide (L = M))⟩
set_option maxHeartbeats 4000000 in
theorem s49 (L : List Int) (M : List Int) (hp : L.length <= 1000000) : zaa.ok Tryz.prog GG 49 (L49 L M) := by
 refine zac mix k49 _ rfl rfl (Tab.ok (l := []) trivial) (fun _ => .inv Int (fun _ => I49 L M) (zBR L M) (fun i => ((L.length : Int) - i).toNat)) noJ ?_
 repeat' ((conv => whnf); first
  | exact trivial
  | with_reducible first | refine aj ?_ | refine ai rfl ?_ | refine ai ⟨rfl, rfl⟩ ?_
  | ((with_reducible refine ai ?_ ?_); focus exact w3)
  | with_reducible first | apply exW (c := _) | refine exI (i64_in (by simp only [I49, List.length_map] at *; omega) (by simp only [I49, List.length_map] at *; omega)) ?_
  | refine exI (x := ULift.up _) ⟨rfl, (by simp only [I49, List.length_map] at *; omega), zbc _ _ _ (by simp only [I49, List.length_map] at *; omega)⟩ ?_
  | with_reducible first | refine And.intro ?_ ?_ | refine zae ?_ | refine exI (i64_in (by omega) (by omega)) ?_
  | refine exI (x := ULift.up _) (Eq.refl _) ?_
  | refine exI (x := ULift.up _) ⟨rfl, by omega, Eq.refl _⟩ ?_
  | exact ny
  | ((with_reducible intro h); try dsimp only at h))
 all_goals (refine Sd.mk ?_); all_goals (try simp only [HR.eta, List.length_map] at *)
 all_goals first
  | exact zr7 ‹_›
  | exact ⟨by omega, by omega, by omega, hp, by simp⟩
  | exact zry ‹_› ‹_›
  | exact zu2 ‹_› ‹_› ‹_›
  | exact zuB ‹_› ‹_› (Classical.not_not.1 ‹_›)
def zCP (L M : List HR) (i : Int) : St := ⟨[(13, kz i), (12, kz L.length), (1, .rd (.sl 2 (M.map HR.pv))), (0, .rd (.sl 2 (L.map HR.pv)))], [], 0⟩
def I20 (L M : List HR) (i : Int) : Prop := 0 <= i /\ i <= L.length /\ L.length = M.length /\ L.length <= 1000000 /\ (L.drop i.toNat = M.drop i.toNat ↔ L = M)
theorem zta {L M : List HR} (h : ¬ (L.length : Int) = M.length) : decide (L = M) = false := by
 rw [decide_eq_false_iff_not]; rintro rfl; exact h rfl
theorem zsw {L M : List HR} {i : Int} (hI : I20 L M i) (h : ¬ i < L.length) : decide (L = M) = true := by
 obtain ⟨h1, h2, h3, h4, h5⟩ := hI
 rw [decide_eq_true_eq, <- h5, List.drop_eq_nil_of_le (by omega), List.drop_eq_nil_of_le (by omega)]
theorem zvL {L M : List HR} {i : Int} (hI : I20 L M i) (h : i < L.length) (e : ¬ nth L i = nth M i) : decide (L = M) = false := by
 obtain ⟨h1, h2, h3, h4, h5⟩ := hI
 rw [decide_eq_false_iff_not, <- h5, zaF L i ⟨h1, h⟩, zaF M i ⟨h1, by omega⟩]
 intro e'; injection e' with e1 _; exact e e1
theorem zvr {L M : List HR} {i : Int} (hI : I20 L M i) (h : i < L.length) (e : nth L i = nth M i) : I20 L M (i + 1) /\ ((L.length : Int) - (i + 1)).toNat < ((L.length : Int) - i).toNat := by
 obtain ⟨h1, h2, h3, h4, h5⟩ := hI
 rw [zaF L i ⟨h1, h⟩, zaF M i ⟨h1, by omega⟩, e] at h5
 refine ⟨⟨by omega, by omega, h3, h4, ?_⟩, by omega⟩
 rw [<- h5]; simp
noncomputable def L20 (L : List HR) (M : List HR) : zaa := ⟨[.rd (.sl 2 (L.map HR.pv)), .rd (.sl 2 (M.map HR.pv))], [], [], [], .bool (decide (L = M))⟩
set_option maxHeartbeats 4000000 in
theorem s20 (L : List HR) (M : List HR) (hp : L.length <= 1000000) : zaa.ok Tryz.prog GG 20 (L20 L M) := by
 refine zac mix k20 _ rfl rfl (Tab.ok (l := []) trivial) (fun _ => .inv Int (fun _ => I20 L M) (zCP L M) (fun i => ((L.length : Int) - i).toNat)) noJ ?_
 repeat' ((conv => whnf); first
  | exact trivial
  | with_reducible first | refine aj ?_ | refine ai rfl ?_ | refine ai ⟨rfl, rfl⟩ ?_
  | ((with_reducible refine ai ?_ ?_); focus exact w3)
  | with_reducible first | apply exW (c := _) | refine exI (i64_in (by simp only [I20, List.length_map] at *; omega) (by simp only [I20, List.length_map] at *; omega)) ?_
  | refine exI (x := ULift.up _) ⟨rfl, (by simp only [I20, List.length_map] at *; omega), zbc _ _ _ (by simp only [I20, List.length_map] at *; omega)⟩ ?_
  | with_reducible first | refine And.intro ?_ ?_ | refine zae ?_ | refine exI (i64_in (by omega) (by omega)) ?_
  | refine exI (x := ULift.up _) (Eq.refl _) ?_
  | refine exI (x := ULift.up _) ⟨rfl, by omega, Eq.refl _⟩ ?_
  | exact ny
  | ((with_reducible intro h); try dsimp only at h))
 all_goals (refine Sd.mk ?_); all_goals (try simp only [HR.eta, List.length_map] at *)
 all_goals first
  | exact zta ‹_›
  | exact ⟨by omega, by omega, by omega, hp, by simp⟩
  | exact zsw ‹_› ‹_›
  | exact zvL ‹_› ‹_› (fun e => ‹¬ eqR _ _› ((ziQ _ _).2 e))
  | exact zvr ‹_› ‹_› ((ziQ _ _).1 (Classical.not_not.1 ‹_›))
end
section
def c14 : MC := .seq (.reg [oo 0 (.mv kf)]) (.seq (.reg [oo 16 (fc 47 []),om 1 16]) (.seq (.reg [om 18 1,oo 19 (fc 21 [(.t 18)]),om 17 19,oo 20 (ex_ 0 17),oo 21 (ex_ 1 17),oo 22 (ex_ 2 17),om 2 20,om 3 21,om 4 22]) (.seq (.reg [om 24 1,oo 25 (fc 16 [(.t 24),(ki 2)]),om 23 25,oo 26 (ex_ 0 23),oo 27 (ex_ 1 23),om 5 26,om 6 27]) (.seq (.reg [om 29 1,oo 30 (fc 16 [(.t 29),(ki 3)]),om 28 30,oo 31 (ex_ 0 28),oo 32 (ex_ 1 28),om 7 31,om 8 32]) (.seq (.seq (.reg [om 33 4,oo 34 (.cmpl .neq (.t 33) (ki 0)),sm 35 34,mf 35 36 6,gf 35 37 (.cmpl .neq (.t 36) (ki 0)),oo 38 (pt 35 37),sm 39 38,mf 39 40 8,gf 39 41 (.cmpl .neq (.t 40) (ki 0)),oo 42 (pt 39 41),sm 43 42,mf 43 44 2,gf 43 45 (.cmpl .neq (.t 44) (ki 2)),oo 46 (pt 43 45),sm 47 46,mf 47 48 3,gf 47 49 (.cmpl .neq (.t 48) (ki 0)),oo 50 (pt 47 49),sm 51 50,mf 51 52 5,gf 51 53 (.bld [.ff,(kz 0)] []),gf 51 54 (.bld [.ff,(kz 0)] [(1,1,(ki 1))]),gf 51 55 (.bsl 2 2 [.ff,(kz 0)] [(0,(.t 53)),(1,(.t 54))]),gf 51 56 (fc 20 [(.t 52),(.t 55)]),gf 51 57 (.not (.t 56)),oo 58 (pt 51 57),sm 59 58,mf 59 60 7,gf 59 61 (.bld [.ff,(kz 0)] [(1,1,(ki 2))]),gf 59 62 (.bsl 2 1 [.ff,(kz 0)] [(0,(.t 61))]),gf 59 63 (fc 20 [(.t 60),(.t 62)]),gf 59 64 (.not (.t 63)),oo 65 (pt 59 64)]) (.cond (.t 65) (.seq (.reg [oo 0 (.mv kf)]) (.ret)) (.skip))) (.seq (.reg [om 67 1,om 68 1,oo 69 (fc 48 [(ki 5)]),oo 70 (.bld [(.val (.slice none 0 0)),(.val (.slice none 0 0))] [(0,1,(.t 68)),(1,1,(.t 69))]),oo 71 (fc 24 [(.t 67),(.t 70),(ki 3),(ki 2)]),om 66 71,oo 72 (ex_ 0 66),oo 73 (ex_ 1 66),om 4 73]) (.seq (.reg [om 74 1,oo 75 (fc 31 [(.t 74)]),om 76 1,oo 77 (fc 31 [(.t 76)]),om 9 75,om 10 77]) (.seq (.reg [om 78 9,om 79 9,om 80 10,oo 81 (.ixa 15 (.t 78) (ki 2)),oo 82 (fl 4 81),o none (.st (some 1) (.t 82) (ki 0)),oo 83 (.ixa 15 (.t 79) (ki 3)),oo 84 (fl 5 83),o none (.st (some 1) (.t 84) (ki 0)),oo 85 (.ixa 15 (.t 80) (ki 2)),oo 86 (fl 5 85),o none (.st (some 1) (.t 86) (ki 1))]) (.seq (.reg [om 88 1,om 89 9,oo 90 (fc 48 [(ki 5)]),oo 91 (.bld [(.val (.slice none 0 0)),(.val (.slice none 0 0))] [(0,1,(.t 89)),(1,1,(.t 90))]),oo 92 (fc 24 [(.t 88),(.t 91),(ki 3),(ki 2)]),om 87 92,oo 93 (ex_ 0 87),oo 94 (ex_ 1 87),om 6 94]) (.seq (.reg [om 96 1,om 97 10,oo 98 (fc 48 [(ki 5)]),oo 99 (.bld [(.val (.slice none 0 0)),(.val (.slice none 0 0))] [(0,1,(.t 97)),(1,1,(.t 98))]),oo 100 (fc 24 [(.t 96),(.t 99),(ki 3),(ki 2)]),om 95 100,oo 101 (ex_ 0 95),oo 102 (ex_ 1 95),om 11 101,om 8 102]) (.seq (.seq (.drw [om 103 4,oo 104 (.cmpl .neq (.t 103) (ki 0)),sm 105 104,mf 105 106 6,gf 105 107 (.cmpl .neq (.t 106) (ki 0)),oo 108 (pt 105 107),sm 109 108,mf 109 110 8,gf 109 111 (.cmpl .neq (.t 110) (ki 191)),oo 112 (pt 109 111),sm 113 112,mf 113 114 11,gf 113 115 (.cmpl .neq (.t 114) (ki 2)),oo 116 (pt 113 115),sm 117 116,mf 117 118 1,gf 117 119 (.sls3 15 (.t 118) (ki 1) (ki 1)),mf 117 120 1,gf 117 121 (.sls 15 (.t 120) (some (ki 2)) none),gf 117 122 (.app 15 96 (.t 119) (.t 121)),gf 117 123 (fc 18 [(.t 122)]),gf 117 124 (.cmpl .neq (.t 123) (ki 190)),oo 125 (pt 117 124)] [[],[0],[1],[2],[3,2],[2,4],[5,2],[6],[7,6],[6,8],[9,6],[10],[11,10],[10,12],[13,10],[14],[15,14],[14],[17,14],[16,18,14,14],[19,19,14],[20,14],[14,21]])
 (.cond (.t 125) (.seq (.reg [oo 0 (.mv kf)]) (.ret)) (.skip))) (.seq (.reg [om 127 1,oo 128 (fc 28 [(.t 127),(ki 2),(ki 2)]),om 126 128,oo 129 (ex_ 0 126),oo 130 (ex_ 1 126),om 4 130]) (.seq (.reg [oo 132 (.bld zI [(0,1,(ki 42))]),oo 133 (.bld zI [(0,1,(ki 43))]),om 134 1,oo 135 (.ixa 15 (.t 134) (ki 4)),oo 136 (ls 15 135),oo 137 (.bsl 15 3 zI [(0,(.t 132)),(1,(.t 133)),(2,(.t 136))]),oo 138 (.bsl 1 3 [(kz 0)] [(0,(ki (-1))),(1,(ki (-1))),(2,(ki 0))]),oo 139 (.bld [(.val (.slice none 0 0)),(.val (.slice none 0 0))] [(0,1,(.t 137)),(1,1,(.t 138))]),oo 140 (fc 26 [(.t 139)]),om 131 140,oo 141 (ex_ 0 131),oo 142 (ex_ 1 131),oo 143 (ex_ 2 131),om 12 141,om 13 142,om 14 143]) (.seq (.reg [om 145 1,oo 146 (fc 28 [(.t 145),(ki 3),(ki 2)]),om 144 146,oo 147 (ex_ 0 144),oo 148 (ex_ 1 144),oo 15 (.alloc [(.val (.slice none 0 0)),(.val (.slice none 0 0))]),o none (.st (some 2) (.t 15) (.t 147)),om 6 148]) (.seq (.drw [om 149 4,oo 150 (.cmpl .eql (.t 149) (ki 1)),sm 151 150,mt 151 152 12,gt_ 151 153 (.cmpl .eql (.t 152) (ki 0)),oo 154 (pf 151 153),sm 155 154,mt 155 156 13,gt_ 155 157 (.cmpl .eql (.t 156) (ki 1)),oo 158 (pf 155 157),sm 159 158,mt 159 160 14,gt_ 159 161 (.cmpl .eql (.t 160) (ki 1)),oo 162 (pf 159 161),sm 163 162,mt 163 164 6,gt_ 163 165 (.cmpl .eql (.t 164) (ki 0)),oo 166 (pf 163 165),sm 167 166,gt_ 167 168 (fl 1 15),gt_ 167 169 (ln 168),gt_ 167 170 (fc 48 [(ki 5)]),gt_ 167 171 (fc 49 [(.t 169),(.t 170)]),oo 172 (pf 167 171),om 0 172] [[],[0],[1],[2],[3,2],[2,4],[5,2],[6],[7,6],[6,8],[9,6],[10],[11,10],[10,12],[13,10],[14],[15,14],[14,16],[17,14],[18],[19,18],[18,18],[20,21,21,18],[18,22],[23,22,0,1,2,3,4,5,6,7,8,9,10,11,12,13,14,15,16,17,18,19,20,21,22,23]]) (.ret))))))))))))))))
theorem k14 : zan Tryz.prog 14 173 c14 [.t 0] := fk Tryz.func14 ⟨tv,⟨tv,⟨tv,⟨tv,⟨tv,⟨⟨tv,⟨⟨tv,tv⟩,tv⟩⟩,⟨tv,⟨tv,⟨tv,⟨tv,⟨tv,⟨⟨tv,⟨⟨tv,tv⟩,tv⟩⟩,⟨tv,⟨tv,⟨tv,⟨tv,tv⟩⟩⟩⟩⟩⟩⟩⟩⟩⟩⟩⟩⟩⟩⟩⟩
def r0 : HR := ⟨false, 0⟩
def r1 : HR := ⟨false, 1⟩
def r2 : HR := ⟨false, 2⟩
def zdY : List Int := [0, 1, 2, 3, 4]
def zi0 : HI := ⟨1, 0, 0, 0, 0, 0, 0, 0, 0, 1, 0, 0, 0, 0, 0⟩
def zi1 : HI := ⟨1, 0, 0, 0, 1, 0, 0, 0, 0, 2, 0, 0, 0, 0, 0⟩
def zi2 : HI := ⟨3, 1, 0, 0, 2, 0, 1, 0, 0, 0, 0, 0, 0, 0, 0⟩
def zi3 : HI := ⟨20, 0, 0, 32, 0, 2, 0, 0, 4, 0, 0, 0, 0, 0, 0⟩
def zi4 : HI := ⟨40, 0, 0, 0, 0, 0, 0, 0, 1, 0, 0, 0, 0, 0, 0⟩
def zyr : List HI := [zi0, zi1, { zi2 with d := 0 }, { zi3 with a := 0 }, zi4]
def zA6 : List HI := [zi0, zi1, { zi2 with a := 1 }, zi3, zi4]
def zrY : List HI := [zi0, zi2, zi3, zi4]
def zsn : List HI := [{ zgR with op := 42 }, { zgR with op := 43 }, zi4]
theorem zvx : zhV zaE = (2, 0, 0) := by kernel_rfl
theorem zy7 : zcG zaE 2 = 0 := by kernel_rfl
theorem zxr : zcG zaE 3 = 0 := by kernel_rfl
theorem zEN : zby zaE 2 = [r0, r1, r0] := by kernel_rfl
theorem zJt : (zaQ zaE 2).length = 2 := by kernel_rfl
theorem zHB : zby zaE 3 = [r2, r0, r0] := by kernel_rfl
theorem zGj : (zaQ zaE 3).length = 1 := by kernel_rfl
theorem zJz : zb5 zaE ⟨zaE, zdY⟩ 3 2 = (0, 0) := by kernel_rfl
theorem zGX : zb5 zaE ⟨zyr, zdY⟩ 3 2 = (0, 0) := by kernel_rfl
theorem zG1 : zb5 zaE ⟨zA6, zdY⟩ 3 2 = (2, 191) := by kernel_rfl
theorem z_c : zaT zrY = 190 := by kernel_rfl
theorem z_n : zjq zsn [-1, -1, 0] (0, 0, 0) = (0, 1, 1) := by kernel_rfl
theorem zAE : zdX zaE 2 2 = 1 := by kernel_rfl
theorem zF2 : zdX zaE 3 2 = 0 := by kernel_rfl
theorem zB0 : zfw zaE 2 2 = [] := by kernel_rfl
theorem zDz : zgs zaE 2 2 = [] := by kernel_rfl
theorem z_f : zgs zaE 3 2 = zdY := by kernel_rfl
theorem zI7 : (zfw zaE 3 2).length = 5 := by kernel_rfl
theorem z_k : ¬ ¬ zaT zaE = 0 := by rw [show zaT zaE = 0 by kernel_rfl]; simp
instance (b : BK) : Decidable (zgY b) := by unfold zgY; infer_instance
def okB (s : AS) (i : Int) : Bool := decide (0 <= i) && decide (i < s.code.length) && decide (s.code.length <= 4000) && decide (∀ r ∈ zaf (nth s.code i), (zay MII r.n (s.bank r).at_).isSome = true) &&
 decide ((zag (nth s.code i)).2 = true -> zgY (zfX (zhd s i (nth s.code i)) (nth s.code i))) && decide (s.L.length <= 1000000) && decide (s.fr.length <= 1000000)
theorem zik {s : AS} {i : Int} (h : okB s i = true) (hu : s.us = (zav zaE).1) (hd : s.ds = (zav zaE).2) : zfc s i := by
 simp only [okB, Bool.and_eq_true, decide_eq_true_eq] at h
 obtain ⟨⟨⟨⟨⟨⟨h1, h2⟩, h3⟩, h4⟩, h5⟩, h6⟩, h7⟩ := h
 exact ⟨h1, h2, h3, by rw [hu, hd]; exact ztL z_k, h4, h5, h6, h7⟩
theorem zBh : zr9 zaE 2 2 := fun h => by rw [zAE] at h; cases h
theorem zCu : zr9 zaE 3 2 := fun _ i h1 h2 => by
 have h2 : i < 5 := h2
 have : i = 0 \/ i = 1 \/ i = 2 \/ i = 3 \/ i = 4 := by omega
 rcases this with rfl | rfl | rfl | rfl | rfl
 . exact zik (by kernel_rfl) (by kernel_rfl) (by kernel_rfl)
 . exact zik (by kernel_rfl) (by kernel_rfl) (by kernel_rfl)
 . exact zik (by kernel_rfl) (by kernel_rfl) (by kernel_rfl)
 . exact zik (by kernel_rfl) (by kernel_rfl) (by kernel_rfl)
 . exact zik (by kernel_rfl) (by kernel_rfl) (by kernel_rfl)
abbrev ok_ (f : FuncId) (L : zaa) : Prop := zaa.ok Tryz.prog GG f L
def Z47 : zaa := ⟨[], [], [], [.vec 15 (zaE.map HI.pv)], .slc 0 0 5⟩
theorem zDI : ok_ 47 Z47 := s47
def Z21 : zaa := ⟨[hiS zaE], [], [], [], .tup [kz 2, kz 0, kz 0]⟩
theorem zCV : ok_ 21 Z21 := by have h := s21 zaE; unfold L21 at h; rw [zvx] at h; exact h
def zq5 : zaa := ⟨[hiS zaE, kz 2], [], [], [.vec 2 ([r0, r1, r0].map HR.pv)], .tup [.slc 0 0 2, kz 0]⟩
theorem zyL : ok_ 16 zq5 := by have h := ztb zaE 2; unfold zpC at h; rw [zy7, zJt, zEN] at h; exact h
def zsh : zaa := ⟨[hiS zaE, kz 3], [], [], [.vec 2 ([r2, r0, r0].map HR.pv)], .tup [.slc 0 0 1, kz 0]⟩
theorem zwW : ok_ 16 zsh := by have h := ztb zaE 3; unfold zpC at h; rw [zxr, zGj, zHB] at h; exact h
theorem zru {f : FuncId} {b : Bool} (a : List SV) (hb : b = true) (h : ok_ f ⟨a, [], [], [], .bool b⟩) : ok_ f ⟨a, [], [], [], .tt⟩ := by
 subst hb
 obtain ⟨h1, h2, h3⟩ := h
 refine ⟨h1, h2, fun β own S w vs q1 q2 q3 q4 => (h3 β own S w vs q1 q2 q3 q4).mono ?_⟩
 rintro e w' ⟨v, β', own', S', p1, p2, p3, p4, p5⟩
 exact ⟨v, β', own', S', p1, p2, p3, by simpa only [rel] using p4, p5⟩
def zzb : zaa := ⟨[.rd (.sl 2 ([r0, r1].map HR.pv)), .rd (.sl 2 ([r0, r1].map HR.pv))], [], [], [], .tt⟩
theorem zy2 : ok_ 20 zzb := zru (b := decide ([r0, r1] = [r0, r1])) _ (by decide) (s20 [r0, r1] [r0, r1] (by decide))
def zxM : zaa := ⟨[.rd (.sl 2 ([r2].map HR.pv)), .rd (.sl 2 ([r2].map HR.pv))], [], [], [], .tt⟩
theorem zAs : ok_ 20 zxM := zru (b := decide ([r2] = [r2])) _ (by decide) (s20 [r2] [r2] (by decide))
def Z49 : zaa := ⟨[.rd (.sl 1 (zdY.map ipv)), .rd (.sl 1 (zdY.map ipv))], [], [], [], .tt⟩
theorem zBf : ok_ 49 Z49 := zru (b := decide (zdY = zdY)) _ (by decide) (s49 zdY zdY (by decide))
def Z48 : zaa := ⟨[kz 5], [], [], [.vec 1 (zdY.map ipv)], .slc 0 0 5⟩
theorem zBl : ok_ 48 Z48 := s48
def Z24 (a : List HI) (e : Int × Int) : zaa := ⟨[hiS zaE, .agg [hiS a, inS zdY], kz 3, kz 2], [], [], [], .tup [kz e.1, kz e.2]⟩
theorem zpr {a : List HI} {e : Int × Int} (ha : a.length <= 1000000) (h : zb5 zaE ⟨a, zdY⟩ 3 2 = e) : ok_ 24 (Z24 a e) := by
 have h2 := s24 zaE ⟨a, zdY⟩ 3 2 ha (show zdY.length <= 1000000 by decide)
 unfold L24 at h2
 rw [h] at h2
 exact h2
def Z31 : zaa := ⟨[hiS zaE], [], [], [.vec 15 (zaE.map HI.pv)], .slc 0 0 5⟩
theorem zDq : ok_ 31 Z31 := s31 zaE (by decide)
def Z18 : zaa := ⟨[hiS zrY], [], [], [], kz 190⟩
theorem zC9 : ok_ 18 Z18 := by have h := s18 zrY; unfold L18 at h; rw [z_c] at h; exact h
def Z26 : zaa := ⟨[.agg [hiS zsn, inS [-1, -1, 0]]], [], [], [], .tup [kz 0, kz 1, kz 1]⟩
theorem zDN : ok_ 26 Z26 := by have h := s26 ⟨zsn, [-1, -1, 0]⟩ (by decide); unfold L26 at h; rw [z_n] at h; exact h
def zsf : zaa := ⟨[hiS zaE, kz 2, kz 2], [], [], [.vec 15 [], .vec 1 []], .tup [.agg [.slc 0 0 0, .slc 1 0 0], kz 1]⟩
theorem zAm : ok_ 28 zsf := by have h := s28 zaE 2 2 zBh; unfold L28 at h; rw [zAE, zB0, zDz] at h; exact h
def zsD : zaa := ⟨[hiS zaE, kz 3, kz 2], [], [], [.vec 15 ((zfw zaE 3 2).map HI.pv), .vec 1 (zdY.map ipv)], .tup [.agg [.slc 0 0 5, .slc 1 0 5], kz 0]⟩
theorem zyH : ok_ 28 zsD := by have h := s28 zaE 3 2 zCu; unfold L28 at h; rw [zF2, zI7, z_f] at h; exact h
theorem zhZ {f : FuncId} {L : zaa} (h : ok_ f L) : FnS Tryz.prog GG f (fun _ k => k L) := fun _ _ _ _ _ _ _ _ hr => ⟨L, _, h, hr⟩
noncomputable def zsg : SFn
 | [_, .int _ (.ofNat 2)], k => k zq5
 | [_, .int _ (.ofNat 3)], k => k zsh
 | _, _ => .fail
theorem zJL : FnS Tryz.prog GG 16 zsg := by
 intro args k gt go R v os n h
 unfold zsg at h
 split at h
 . exact ⟨_, _, zyL, h⟩
 . exact ⟨_, _, zwW, h⟩
 . cases h
noncomputable def zr1 : SFn
 | [_, .slc _ _ 2], k => k zzb
 | [_, .slc _ _ 1], k => k zxM
 | _, _ => .fail
theorem zD4 : FnS Tryz.prog GG 20 zr1 := by
 intro args k gt go R v os n h
 unfold zr1 at h
 split at h
 . exact ⟨_, _, zy2, h⟩
 . exact ⟨_, _, zAs, h⟩
 . cases h
noncomputable def zsX : SFn
 | [_, .int _ (.ofNat 2), _], k => k zsf
 | [_, .int _ (.ofNat 3), _], k => k zsD
 | _, _ => .fail
theorem zII : FnS Tryz.prog GG 28 zsX := by
 intro args k gt go R v os n h
 unfold zsX at h
 split at h
 . exact ⟨_, _, zAm, h⟩
 . exact ⟨_, _, zyH, h⟩
 . cases h
noncomputable def ztn : SFn
 | [_, .agg [.slc 0 _ _, _], _, _], k => k (Z24 zaE (0, 0))
 | [_, .agg [.slc 6 _ _, _], _, _], k => k (Z24 zyr (0, 0))
 | [_, .agg [.slc 7 _ _, _], _, _], k => k (Z24 zA6 (2, 191))
 | _, _ => .fail
theorem zIp : FnS Tryz.prog GG 24 ztn := by
 intro args k gt go R v os n h
 unfold ztn at h
 split at h
 . exact ⟨_, _, zpr (by decide) zJz, h⟩
 . exact ⟨_, _, zpr (by decide) zGX, h⟩
 . exact ⟨_, _, zpr (by decide) zG1, h⟩
 . cases h
noncomputable def zKk : List (FuncId × SFn) := [(47, fun _ k => k Z47), (21, fun _ k => k Z21), (16, zsg), (20, zr1), (48, fun _ k => k Z48), (24, ztn), (31, fun _ k => k Z31), (18, fun _ k => k Z18), (28, zsX), (26, fun _ k => k Z26), (49, fun _ k => k Z49)]
theorem zDM (l : List HR) : ∀ e ∈ l.map HR.pv, ∀ p ∈ e, PV.flat p := fun e he p hp => by
 obtain ⟨a, _, rfl⟩ := List.mem_map.1 he
 simp only [HR.pv, List.mem_cons, List.not_mem_nil, or_false] at hp
 rcases hp with rfl | rfl <;> simp [PV.flat]
theorem zoY (l : List HI) : ∀ e ∈ l.map HI.pv, ∀ p ∈ e, PV.flat p := fun e he p hp => by
 obtain ⟨a, _, rfl⟩ := List.mem_map.1 he
 simp only [HI.pv, List.mem_cons, List.not_mem_nil, or_false] at hp
 rcases hp with rfl | rfl | rfl | rfl | rfl | rfl | rfl | rfl | rfl | rfl | rfl | rfl | rfl | rfl | rfl <;> simp [PV.flat]
theorem ztp (l : List Int) : ∀ e ∈ l.map ipv, ∀ p ∈ e, PV.flat p := fun e he p hp => by
 obtain ⟨a, _, rfl⟩ := List.mem_map.1 he
 simp only [ipv, List.mem_cons, List.not_mem_nil, or_false] at hp
 subst hp; simp [PV.flat]
noncomputable def L14 : zaa := ⟨[], [], [], [], .tt⟩
set_option maxHeartbeats 8000000 in
theorem s14 : zaa.ok Tryz.prog GG 14 L14 := by
 refine zac mix k14 _ rfl rfl (Tab.ok (l := zKk) ⟨zhZ zDI, zhZ zCV, zJL, zD4, zhZ zBl, zIp, zhZ zDq, zhZ zC9, zII, zhZ zDN, zhZ zBf, trivial⟩) noL noJ ?_
 repeat' ((conv => whnf); first
  | exact trivial
  | with_reducible first | refine aj ?_ | refine ai rfl ?_ | refine ai ⟨rfl, rfl⟩ ?_
  | ((with_reducible refine ai ?_ ?_); focus exact w3)
  | refine And.intro (Sd.mk (by decide)) ?_
  | refine And.intro (Sd.mk (p := _ = _ /\ _) ⟨by rfl, by decide⟩) ?_
  | with_reducible first | refine And.intro ?_ ?_ | refine zae ?_ | refine exI (i64_in (by omega) (by omega)) ?_
  | refine exI (x := ULift.up _) (Eq.refl _) ?_
  | refine exI (x := ULift.up _) ⟨rfl, by omega, Eq.refl _⟩ ?_
  | exact ny
  | ((with_reducible intro h); try dsimp only at h))
 all_goals (refine Sd.mk ?_)
 all_goals (simp only [zaa.flat, Z21, zq5, zsh, Z24, Z31, zsf, zsD, Z26, SV.flat, zdw, zkl, zf7, SO.flat, and_true, true_and])
 all_goals first
  | done
  | exact zDM _
  | exact zoY _
  | exact ⟨zoY _, ztp _⟩
  | exact ⟨zoY [], ztp []⟩
end
section
theorem zuC {i x : Int} {es : TM} {r q : HR} (hw : wfT (i + 1) es) : x ∈ ag q (zb3 i es r) ↔ x ∈ ag q es \/ (q = r /\ x = i) := by
 unfold zb3
 split
 . rw [znJ]
   by_cases h : q = r
   . subst h; simp
   . rw [if_neg h]; simp [h]
 . next c =>
   refine ⟨.inl, fun k => k.elim id fun ⟨h1, h2⟩ => ?_⟩
   subst h1; subst h2
   have hne : ag q es ≠ [] := fun e => c (.inl e)
   have he : zdx (ag q es) = x := Classical.not_not.1 fun e => c (.inr e)
   rw [<- he]; exact zij hne
theorem znz {i x : Int} {q : HR} (hi : 0 <= i) : ∀ (us : List HR) {es : TM}, wfT (i + 1) es -> (x ∈ ag q (us.foldl (zb3 i) es) ↔ x ∈ ag q es \/ (q ∈ us /\ x = i))
 | [], es, _ => by simp
 | r :: us, es, hw => by
   rw [List.foldl_cons, znz hi us (zmt hw hi), zuC hw, List.mem_cons]
   constructor
   . rintro ((h | ⟨h, h2⟩) | ⟨h, h2⟩)
     . exact .inl h
     . exact .inr ⟨.inl h, h2⟩
     . exact .inr ⟨.inr h, h2⟩
   . rintro (h | ⟨h | h, h2⟩)
     . exact .inl (.inl h)
     . exact .inl (.inr ⟨h, h2⟩)
     . exact .inr ⟨h, h2⟩
abbrev Dfs (x : HI) (r : HR) : Prop := (zag x).2 = true /\ (zag x).1 = r
theorem zu1 {i x : Int} {es : TM} {y : HI} {q : HR} : x ∈ ag q (zeb i es y) ↔ x ∈ ag q es \/ (Dfs y q /\ x = i) := by
 unfold zeb
 by_cases h : (zag y).2 = true
 . rw [if_pos h, znJ]
   by_cases h2 : q = (zag y).1
   . rw [if_pos h2]; subst h2; simp [Dfs, h]
   . rw [if_neg h2]
     have : ¬ Dfs y q := fun k => h2 k.2.symm
     simp [this]
 . rw [if_neg h]
   have : ¬ Dfs y q := fun k => h k.1
   simp [this]
theorem zhO {α : Type} [Inhabited α] {x : α} {l : List α} {k : Int} (h : 1 <= k) (h2 : k < (x :: l).length) : nth (x :: l) k = nth l (k - 1) := by
 have e1 := zbN (x :: l) k ⟨by omega, h2⟩
 have e2 := zbN l (k - 1) ⟨by omega, by simp only [List.length_cons] at h2; omega⟩
 have e3 : k.toNat = (k - 1).toNat + 1 := by omega
 rw [e3, List.getElem?_cons_succ, e2] at e1
 exact (Option.some.inj e1).symm
theorem zg9 {α : Type} [Inhabited α] {x : α} {l : List α} : nth (x :: l) 0 = x := by
 have e := zbN (x :: l) 0 ⟨Int.le_refl _, by simp only [List.length_cons]; omega⟩
 exact (Option.some.inj e).symm
theorem zio : ∀ (l : List HI) {i : Int} {us ds : TM}, 0 <= i -> wfT i us -> wfT i ds -> ∀ (q : HR) (x : Int),
 (x ∈ ag q (zbM l i us ds).1 ↔ x ∈ ag q us \/ (i <= x /\ x < i + l.length /\ q ∈ zaf (nth l (x - i)))) ∧
 (x ∈ ag q (zbM l i us ds).2 ↔ x ∈ ag q ds \/ (i <= x /\ x < i + l.length /\ Dfs (nth l (x - i)) q))
  | [], i, us, ds, _, _, _, q, x => by
    refine ⟨⟨.inl, fun h => h.elim id fun k => ?_⟩, ⟨.inl, fun h => h.elim id fun k => ?_⟩⟩
    . have := k.2.1; have := k.1; simp only [List.length_nil] at *; omega
    . have := k.2.1; have := k.1; simp only [List.length_nil] at *; omega
  | y :: l, i, us, ds, hi, h1, h2, q, x => by
    have w1 := zkT hi (zaf y) (ze2 h1 (by omega : i <= i + 1))
    have w2 := zmV (x := y) h2 hi
    obtain ⟨g1, g2⟩ := zio l (i := i + 1) (us := (zaf y).foldl (zb3 i) us) (ds := zeb i ds y) (by omega) w1 w2 q x
    have el : ((y :: l).length : Int) = l.length + 1 := by simp only [List.length_cons]; omega
    have step : ∀ P : HI -> Prop, ((P y /\ x = i) \/ (i + 1 <= x /\ x < i + 1 + l.length /\ P (nth l (x - (i + 1))))) ↔ (i <= x /\ x < i + (y :: l).length /\ P (nth (y :: l) (x - i))) := fun P => by
     constructor
     . rintro (⟨k1, k2⟩ | ⟨k1, k2, k3⟩)
       . subst k2
         refine ⟨Int.le_refl _, by omega, ?_⟩
         rw [Int.sub_self, zg9]; exact k1
       . refine ⟨by omega, by omega, ?_⟩
         rw [zhO (by omega) (by omega), show x - i - 1 = x - (i + 1) by omega]; exact k3
     . rintro ⟨k1, k2, k3⟩
       by_cases c : x = i
       . subst c
         rw [Int.sub_self, zg9] at k3
         exact .inl ⟨k3, rfl⟩
       . rw [zhO (by omega) (by omega), show x - i - 1 = x - (i + 1) by omega] at k3
         exact .inr ⟨by omega, by omega, k3⟩
    simp only [zbM]
    rw [g1, g2, znz hi _ (ze2 h1 (by omega)), zu1, or_assoc, or_assoc, step (fun z => q ∈ zaf z), step (fun z => Dfs z q)]
    exact ⟨.rfl, .rfl⟩
theorem zkv {l : List HI} {q : HR} {x : Int} : x ∈ ag q (zav l).1 ↔ 0 <= x /\ x < l.length /\ q ∈ zaf (nth l x) := by
 have := (zio l (i := 0) (us := []) (ds := []) (Int.le_refl _) zcy zcy q x).1
 unfold zav
 rw [this, Int.sub_zero, Int.zero_add]
 have e : ag q [] = [] := rfl
 rw [e]; simp
theorem zmY {l : List HI} {q : HR} {x : Int} : x ∈ ag q (zav l).2 ↔ 0 <= x /\ x < l.length /\ Dfs (nth l x) q := by
 have := (zio l (i := 0) (us := []) (ds := []) (Int.le_refl _) zcy zcy q x).2
 unfold zav
 rw [this, Int.sub_zero, Int.zero_add]
 have e : ag q [] = [] := rfl
 rw [e]; simp
theorem zwr {l : List HI} {q : HR} : srt (ag q (zav l).1) /\ srt (ag q (zav l).2) := by
 have h := zhM l (i := 0) (us := []) (ds := []) (Int.le_refl _) zcy zcy List.Pairwise.nil List.Pairwise.nil
 exact ⟨(h.1 q).1, (h.2.1 q).1⟩
theorem znB : ∀ {L : List Int} {x : Int}, srt L -> (∀ y ∈ L, 0 <= y) -> (zdi L x = -1 /\ ∀ y ∈ L, y < x) \/ (zdi L x ∈ L /\ x <= zdi L x /\ ∀ y ∈ L, x <= y -> zdi L x <= y) := by
 intro L x hs h0
 have hp : ∀ {L : List Int}, srt L -> L = L.filter (fun y => decide (y < x)) ++ L.filter (fun y => !decide (y < x)) := by
  intro L
  induction L with
  | nil => intro _; rfl
  | cons a t ih =>
    intro hs
    rw [srt, List.pairwise_cons] at hs
    by_cases c : a < x
    . rw [List.filter_cons_of_pos (by simpa using c), List.filter_cons_of_neg (by simpa using c), List.cons_append, <- ih hs.2]
    . have e1 : t.filter (fun y => decide (y < x)) = [] := by
       rw [List.filter_eq_nil_iff]
       intro y hy
       have := hs.1 y hy
       simp; omega
      have e2 : t.filter (fun y => !decide (y < x)) = t := by
       rw [List.filter_eq_self]
       intro y hy
       have := hs.1 y hy
       simp; omega
      rw [List.filter_cons_of_neg (by simpa using c), List.filter_cons_of_pos (by simpa using c), e1, e2, List.nil_append]
 have e := hp hs
 cases hb : L.filter (fun y => !decide (y < x)) with
 | nil =>
   left
   have hall : ∀ y ∈ L, y < x := fun y hy => by
    have := List.filter_eq_nil_iff.1 hb y hy
    simpa using this
   refine ⟨?_, hall⟩
   have : ltN L x = L.length := by
    unfold ltN
    rw [List.filter_eq_self.2 (fun y hy => by simpa using hall y hy)]
   unfold zdi; rw [if_pos this]
 | cons z t =>
   right
   rw [hb] at e
   have hlt : ltN L x = ((L.filter (fun y => decide (y < x))).length : Nat) := rfl
   have hlen : L.length = (L.filter (fun y => decide (y < x))).length + (t.length + 1) := by
    have := congrArg List.length e
    rw [List.length_append, List.length_cons] at this
    exact this
   have hn : nth L (ltN L x) = z := by
    have g := zbN L (ltN L x) ⟨by omega, by omega⟩
    rw [hlt, Int.toNat_natCast] at g
    have gen : ∀ F : List Int, L = F ++ z :: t -> L[F.length]? = some z := fun F hF => by
     rw [hF, List.getElem?_append_right (Nat.le_refl _), Nat.sub_self]; rfl
    have g2 := gen _ e
    rw [hlt]
    exact Option.some.inj (g.symm.trans g2)
   have ha : zdi L x = z := by unfold zdi; rw [if_neg (by omega), hn]
   have hz : z ∈ L.filter (fun y => !decide (y < x)) := by rw [hb]; exact List.mem_cons_self ..
   rw [List.mem_filter] at hz
   refine ⟨by rw [ha]; exact hz.1, by rw [ha]; simpa using hz.2, fun y hy hxy => ?_⟩
   rw [ha]
   have hy2 : y ∈ z :: t := by rw [<- hb, List.mem_filter]; exact ⟨hy, by simpa using hxy⟩
   have hs2 : (z :: t).Pairwise (· < ·) := by
    rw [e] at hs
    exact (List.pairwise_append.1 hs).2.1
   rcases List.mem_cons.1 hy2 with c | c
   . omega
   . have := (List.pairwise_cons.1 hs2).1 y c; omega
def Lv (l : List HI) (i : Int) (r : HR) : Prop := ∃ u, i <= u /\ u < l.length /\ r ∈ zaf (nth l u) /\ ∀ d, i <= d -> d < u -> ¬ Dfs (nth l d) r
theorem zmT {l : List HI} {i : Int} {r : HR} (hi : 0 <= i) : 0 <= zbq (zav l).1 (zav l).2 r i ↔ Lv l i r := by
 have su := zwr (l := l) (q := r)
 have au := znB (x := i) su.1 (fun y hy => (zkv.1 hy).1)
 have ad := znB (x := i) su.2 (fun y hy => (zmY.1 hy).1)
 unfold zbq
 show 0 <= (if zdi (ag r (zav l).1) i < 0 then -1 else if 0 <= zdi (ag r (zav l).2) i /\ zdi (ag r (zav l).2) i < zdi (ag r (zav l).1) i then -1 else zdi (ag r (zav l).1) i) ↔ _
 generalize zdi (ag r (zav l).1) i = u at *
 generalize zdi (ag r (zav l).2) i = d at *
 constructor
 . intro h
   split at h
   . omega
   . next c1 =>
     split at h
     . omega
     . next c2 =>
       rcases au with ⟨e, _⟩ | ⟨m1, m2, m3⟩
       . omega
       . obtain ⟨k1, k2, k3⟩ := zkv.1 m1
         refine ⟨u, m2, k2, k3, fun d' g1 g2 g3 => ?_⟩
         have hm : d' ∈ ag r (zav l).2 := zmY.2 ⟨by omega, by omega, g3⟩
         rcases ad with ⟨e, n1⟩ | ⟨n1, n2, n3⟩
         . have := n1 d' hm; omega
         . have := n3 d' hm g1
           exact c2 ⟨by omega, by omega⟩
 . rintro ⟨u0, g1, g2, g3, g4⟩
   have hm : u0 ∈ ag r (zav l).1 := zkv.2 ⟨by omega, g2, g3⟩
   rcases au with ⟨e, n1⟩ | ⟨m1, m2, m3⟩
   . have := n1 u0 hm; omega
   . have hle := m3 u0 hm g1
     rw [if_neg (by omega)]
     split
     . next c =>
       rcases ad with ⟨e, _⟩ | ⟨n1, n2, n3⟩
       . omega
       . exact absurd (zmY.1 n1).2.2 (g4 d n2 (by omega))
     . omega
theorem zBz {M : zaj} {j k : M.κ} {u : M.ν} {es : List (M.κ × M.ν)} (h : ¬ j = k) : zay M k ((j, u) :: es) = zay M k es := by
 simp only [zay]
 cases M.deq j k with
 | isTrue e => exact absurd e h
 | isFalse _ => rfl
theorem zfO {l : List HI} {i : Int} {r : HR} (hc : zaT l = 0) (h0 : 0 <= i) (h1 : i <= l.length) : r ∈ zaQ l i ↔ Lv l i r := by
 have he : zcG l i = 0 := zmO (by rw [hc]; simp) (by omega) (by omega)
 unfold zaQ
 rw [if_pos he, zcr, List.mem_filter, <- zmT h0]
 have e : (!ddF (zav l).1 (zav l).2 i r) = true ↔ 0 <= zbq (zav l).1 (zav l).2 r i := by
  unfold ddF
  rw [Bool.not_eq_true', decide_eq_false_iff_not]; omega
 rw [e]
 refine ⟨fun h => h.2, fun h => ⟨?_, h⟩⟩
 obtain ⟨u, g1, g2, g3, _⟩ := (zmT h0).1 h
 have hm : u ∈ ag r (zav l).1 := zkv.2 ⟨by omega, g2, g3⟩
 have hk : (zay MTS r (zav l).1).isSome = true := by
  cases c : zay MTS r (zav l).1 with
  | some _ => rfl
  | none =>
    have : ag r (zav l).1 = [] := by show zak MTS r _ = _; unfold zak; rw [c]; rfl
    rw [this] at hm; cases hm
 have key : ∀ {es : TM}, (zay MTS r es).isSome = true -> r ∈ K1 es := by
  intro es
  induction es with
  | nil => intro h; simp [zay] at h
  | cons p es ih =>
    obtain ⟨k, v⟩ := p
    intro h
    simp only [K1, List.map_cons, List.mem_cons]
    by_cases e : k = r
    . exact .inl e.symm
    . rw [zBz (M := MTS) e] at h; exact .inr (ih h)
 unfold zgN
 exact (zhc _).mem_iff.2 (key hk)
theorem zrm {es : RB} {r k : HR} (h : inA (zam MHB r true es) k = true) : k = r \/ inA es k = true := by
 induction es with
 | nil =>
   simp only [inA, zak, zam, zay] at *
   by_cases e : k = r
   . exact .inl e
   . exfalso; revert h; split <;> simp_all
 | cons p es ih =>
   simp only [inA, zak, zam, zay] at *
   by_cases e : k = r
   . exact .inl e
   . refine .inr ?_
     revert h
     (repeat' split) <;> first | (exfalso; apply e; subst_vars; rfl) | (simp_all [zay]; done) | (simp_all [zay]; exfalso; apply e; subst_vars; rfl)
theorem znY : ∀ (l : List HI) (es : RB), chk es l = true -> ∀ u : Int, 0 <= u -> u < l.length -> ∀ r ∈ zaf (nth l u), inA es r = true \/ ∃ d, 0 <= d /\ d < u /\ Dfs (nth l d) r
 | [], es, _, u, h0, h1, r, _ => by simp only [List.length_nil] at h1; omega
 | x :: l, es, h, u, h0, h1, r, hr => by
   rw [chk, Bool.and_eq_true] at h
   obtain ⟨g1, g2⟩ := h
   simp only [okA, Bool.and_eq_true, List.all_eq_true] at g1
   by_cases c : u = 0
   . subst c
     rw [zg9] at hr
     exact .inl (g1.1.2 r hr)
   . have hl : u - 1 < l.length := by simp only [List.length_cons] at h1; omega
     rw [zhO (by omega) h1] at hr
     rcases znY l (zjQ es x) g2 (u - 1) (by omega) hl r hr with k | ⟨d, k1, k2, k3⟩
     . unfold zjQ at k
       split at k
       . next e =>
         rcases zrm k with e2 | e2
         . exact .inr ⟨0, Int.le_refl _, by omega, by rw [zg9]; exact ⟨e, e2.symm⟩⟩
         . exact .inl e2
       . exact .inl k
     . refine .inr ⟨d + 1, by omega, by omega, ?_⟩
       rw [zhO (by omega) (by simp only [List.length_cons]; omega), Int.add_sub_cancel]; exact k3
theorem zxF {l : List HI} {r : HR} (hc : zaT l = 0) : ¬ Lv l 0 r := by
 rintro ⟨u, g1, g2, g3, g4⟩
 have hk : chk [] l = true := by
  unfold zaT zfA at hc
  split at hc
  . next c => simp only [Bool.and_eq_true] at c; exact c.2
  . cases hc
 rcases znY l [] hk u g1 g2 r g3 with k | ⟨d, k1, k2, k3⟩
 . cases k
 . exact g4 d k1 k2 k3
theorem zw2 {l : List HI} {i : Int} {r : HR} (h : i < l.length) (hr : r ∈ zaf (nth l i)) : Lv l i r := ⟨i, Int.le_refl _, h, hr, fun d _ _ => by omega⟩
theorem zAO {l : List HI} {i : Int} {r : HR} (hr : r ∉ zaf (nth l i)) (hd : Dfs (nth l i) r) : ¬ Lv l i r := by
 rintro ⟨u, g1, g2, g3, g4⟩
 by_cases c : u = i
 . subst c; exact hr g3
 . exact g4 i (Int.le_refl _) (by omega) hd
theorem zy4 {l : List HI} {i : Int} {r : HR} (hr : r ∉ zaf (nth l i)) (hd : ¬ Dfs (nth l i) r) : Lv l i r ↔ Lv l (i + 1) r := by
 constructor
 . rintro ⟨u, g1, g2, g3, g4⟩
   have : u ≠ i := fun e => by subst e; exact hr g3
   exact ⟨u, by omega, g2, g3, fun d k1 k2 => g4 d (by omega) k2⟩
 . rintro ⟨u, g1, g2, g3, g4⟩
   refine ⟨u, by omega, g2, g3, fun d k1 k2 => ?_⟩
   by_cases c : d = i
   . subst c; exact hd
   . exact g4 d (by omega) k2
end
section
def c84 : MC := .seq (.reg [oo 4 (.mv (.k (.val (.slice none 0 0))))]) (.seq (.seq (.reg [om 5 1,oo 6 (cc .lss 5 0)]) (.cond (.t 6) (.reg [oo 7 (.mki 9 (.k (.str ⟨#[99,97,110,110,111,116,32,98,101,32,110,101,103,97,116,105,118,101]⟩))),o none (.pnc (.t 7))]) (.skip))) (.seq (.seq (.reg [om 8 1,om 9 0,oo 10 (.capN (.t 9)),om 11 0,oo 12 (.lenS (.t 11)),oo 13 (at_ .sub 10 12),oo 14 (at_ .sub 8 13),om 1 14]) (.seq (.reg [om 15 1,oo 16 (cc .gtr 15 0)]) (.cond (.t 16) (.reg [om 17 0,om 18 0,oo 19 (.capN (.t 18)),oo 20 (.sls 2 (.t 17) none (some (.t 19))),om 21 1,oo 22 (.appz 2 16 (.t 20) (.t 21)),om 23 0,oo 24 (.lenS (.t 23)),oo 25 (.sls 2 (.t 22) none (some (.t 24))),om 0 25]) (.skip)))) (.seq (.reg [om 26 0,om 4 26]) (.ret))))
theorem k84 : zan Tryz.prog 84 27 c84 [.t 4] := fk Tryz.func84 ⟨tv,⟨⟨tv,⟨tv,tv⟩⟩,⟨⟨tv,⟨tv,⟨tv,tv⟩⟩⟩,⟨tv,tv⟩⟩⟩⟩
def c83 : MC := .seq (.reg [oo 3 (.box (.t 1)),oo 4 (.mv (ki 0))]) (.seq (.seq (.reg [om 6 0,oo 7 (.lenS (.t 6)),oo 8 (.mv (ki 0))]) (.blk 0 (.loop 0 (.seq (.reg [oo 9 (ct .lss 8 7)]) (.seq (.cond (.t 9) (.skip) (.exit 0)) (.seq (.blk 1 (.seq (.reg [om 10 8,om 5 10]) (.seq (.drw [oo 11 (ls 2 3),om 12 0,om 13 5,oo 14 (ia 2 12 13),oo 15 (ls 2 14),oo 16 (.eqs [.bool,.int .i64] false (.t 11) (.t 15))] [[],[],[],[1,2],[3],[0,4]]) (.cond (.t 16) (.seq (.reg [om 17 5,om 4 17]) (.ret)) (.skip))))) (.reg [oo 18 (ac .add 8 1),om 8 18]))))))) (.seq (.reg [oo 4 (.mv (ki (-1)))]) (.ret)))
theorem k83 : zan Tryz.prog 83 19 c83 [.t 4] := fk Tryz.func83 ⟨tv,⟨⟨tv,⟨tv,⟨⟨tv,tv⟩,⟨⟨tv,⟨tv,⟨⟨tv,tv⟩,tv⟩⟩⟩,tv⟩⟩⟩⟩,⟨tv,tv⟩⟩⟩
def c35 : MC := .seq (.reg [oo 3 (.box (.t 1)),oo 4 (.mv kf)]) (.seq (.reg [om 5 0,oo 6 (ls 2 3),oo 7 (fc 83 [(.t 5),(.t 6)]),oo 8 (cc .geq 7 0),om 4 8]) (.ret))
theorem k35 : zan Tryz.prog 35 9 c35 [.t 4] := fk Tryz.func35 ⟨tv,⟨tv,tv⟩⟩
def c36 : MC := .seq (.reg [oo 2 (.mv (.k (.val (.slice none 0 0))))]) (.seq (.reg [oo 3 (.mv (ki 0))]) (.seq (.seq (.reg [om 9 0,oo 10 (.lenS (.t 9)),oo 11 (.mv (ki 0))]) (.blk 0 (.loop 0 (.seq (.reg [oo 12 (ct .lss 11 10)]) (.seq (.cond (.t 12) (.skip) (.exit 0)) (.seq (.blk 1 (.seq (.reg [oo 13 (ia 1 9 11),oo 14 (ln 13),om 5 14]) (.seq (.reg [om 15 3,om 16 5,oo 17 (.lenS (.t 16)),oo 18 (at_ .add 15 17),om 3 18]) (.seq (.reg [om 19 3,oo 20 (cc .lss 19 0)]) (.cond (.t 20) (.reg [oo 21 (.mki 9 (.k (.str ⟨#[108,101,110,32,111,117,116,32,111,102,32,114,97,110,103,101]⟩))),o none (.pnc (.t 21))]) (.skip)))))) (.reg [oo 22 (ac .add 11 1),om 11 22]))))))) (.seq (.reg [om 23 3,oo 24 (fc 84 [(.k (.val (.slice none 0 0))),(.t 23)]),om 6 24]) (.seq (.seq (.reg [om 25 0,oo 26 (.lenS (.t 25)),oo 27 (.mv (ki 0))]) (.blk 2 (.loop 1 (.seq (.reg [oo 28 (ct .lss 27 26)]) (.seq (.cond (.t 28) (.skip) (.exit 2)) (.seq (.blk 3 (.seq (.reg [oo 29 (ia 1 25 27),oo 30 (ln 29),om 8 30]) (.reg [om 31 6,om 32 8,oo 33 (.app 2 16 (.t 31) (.t 32)),om 6 33]))) (.reg [oo 34 (ac .add 27 1),om 27 34]))))))) (.seq (.reg [om 35 6,om 2 35]) (.ret))))))
theorem k36 : zan Tryz.prog 36 36 c36 [.t 2] := fk Tryz.func36 ⟨tv,⟨tv,⟨⟨tv,⟨tv,⟨⟨tv,tv⟩,⟨⟨tv,⟨tv,⟨tv,⟨tv,tv⟩⟩⟩⟩,tv⟩⟩⟩⟩,⟨tv,⟨⟨tv,⟨tv,⟨⟨tv,tv⟩,⟨⟨tv,tv⟩,tv⟩⟩⟩⟩,⟨tv,tv⟩⟩⟩⟩⟩⟩
noncomputable def L84 (n : Int) : zaa := ⟨[.val (.slice none 0 0), kz n], [], [], [.vec 2 []], .slc 0 0 0⟩
set_option maxHeartbeats 2000000 in
theorem s84 (n : Int) (hp : 0 <= n /\ n <= 1000000) : zaa.ok Tryz.prog GG 84 (L84 n) := by
 refine zac mix k84 _ rfl rfl (Tab.ok (l := []) trivial) noL noJ ?_
 repeat' ((conv => whnf); first
  | exact trivial
  | with_reducible first | refine aj ?_ | refine ai rfl ?_ | refine ai ⟨rfl, rfl⟩ ?_
  | ((with_reducible refine ai ?_ ?_); focus exact w3)
  | ((with_reducible intro h); exfalso; omega)
  | with_reducible first | refine And.intro ?_ ?_ | refine zae ?_ | refine exI (i64_in (by omega) (by omega)) ?_
  | refine exI (x := ULift.up _) (Eq.refl _) ?_
  | refine exI (x := ULift.up _) ⟨rfl, by omega, Eq.refl _⟩ ?_
  | exact nx
  | ((with_reducible intro h); try dsimp only at h))
 all_goals (refine Sd.mk ?_)
 all_goals first
  | rfl
  | exact ⟨rfl, by omega, by omega⟩
  | exact ⟨rfl, rfl⟩
noncomputable def S84 : SFn
 | [.val _, .int .i64 n], k => .req (0 <= n /\ n <= 1000000) (k (L84 n))
 | _, _ => .fail
theorem t84 : FnS Tryz.prog GG 84 S84 := by
 intro args k gt go R v os n h
 unfold S84 at h
 split at h
 . obtain ⟨hp, _, h⟩ := zar h
   exact ⟨_, _, s84 _ hp, h⟩
 . cases h
theorem zke {r x : HR} : ((r.vec = true ↔ x.vec = true) /\ r.n = x.n /\ True) ↔ r = x := by
 obtain ⟨v, n⟩ := r
 obtain ⟨w, m⟩ := x
 cases v <;> cases w <;> simp
def zf9 : List HR -> HR -> Int -> Int
 | [], _, _ => -1
 | x :: l, r, k => if r = x then k else zf9 l r (k + 1)
def zBc (L : List HR) (r : HR) (k : Int) : St := ⟨[(8, kz k), (7, kz L.length), (3, .ptr 0 0 0), (0, .rd (.sl 2 (L.map HR.pv)))], [(0, some (.row r.cells))], 1⟩
def I83 (L : List HR) (r : HR) (j : Int) : Prop := 0 <= j /\ j <= L.length /\ L.length <= 1000000 /\ zf9 (L.drop j.toNat) r j = zf9 L r 0
theorem zJS {L r} (h : L.length <= 1000000) : I83 L r 0 := ⟨by omega, by omega, h, rfl⟩
theorem zxQ {L r j} (hI : I83 L r j) (h : j < L.length) (e : r = nth L j) : zf9 L r 0 = j := by
 obtain ⟨h1, h2, h3, h4⟩ := hI
 rw [zaF L j ⟨h1, h⟩, zf9, if_pos e] at h4
 exact h4.symm
theorem zBd {L r j} (hI : I83 L r j) (h : j < L.length) (e : ¬ r = nth L j) : I83 L r (j + 1) /\ ((L.length : Int) - (j + 1)).toNat < ((L.length : Int) - j).toNat := by
 obtain ⟨h1, h2, h3, h4⟩ := hI
 rw [zaF L j ⟨h1, h⟩, zf9, if_neg e] at h4
 exact ⟨⟨by omega, by omega, h3, h4⟩, by omega⟩
theorem zwg {L r j} (hI : I83 L r j) (h : ¬ j < L.length) : zf9 L r 0 = -1 := by
 obtain ⟨h1, h2, h3, h4⟩ := hI
 rw [List.drop_eq_nil_of_le (by omega)] at h4
 exact h4.symm
theorem zsI {L : List HR} {r : HR} : ∀ {k : Int}, 0 <= k -> (0 <= zf9 L r k ↔ r ∈ L) := by
 induction L with
 | nil => intro k _; simp [zf9]
 | cons x l ih =>
   intro k hk
   rw [zf9]
   by_cases h : r = x
   . rw [if_pos h]; simp [h, hk]
   . rw [if_neg h, ih (by omega), List.mem_cons]
     exact ⟨.inr, fun q => q.resolve_left h⟩
noncomputable def L83 (L : List HR) (r : HR) : zaa := ⟨[.rd (.sl 2 (L.map HR.pv)), .agg r.cells], [], [], [], kz (zf9 L r 0)⟩
set_option maxHeartbeats 2000000 in
theorem s83 (L : List HR) (r : HR) (hl : L.length <= 1000000) : zaa.ok Tryz.prog GG 83 (L83 L r) := by
 refine zac mix k83 _ rfl rfl (Tab.ok (l := []) trivial) (fun _ => .inv Int (fun _ => I83 L r) (zBc L r) (fun j => ((L.length : Int) - j).toNat)) noJ ?_
 repeat' ((conv => whnf); first
  | exact trivial
  | with_reducible first | refine aj ?_ | refine ai rfl ?_ | refine ai ⟨rfl, rfl⟩ ?_
  | ((with_reducible refine ai ?_ ?_); focus exact w3)
  | with_reducible first | apply exW (γ := Int) (c := _) | refine exI (i64_in (by simp only [I83, List.length_map] at *; omega) (by simp only [I83, List.length_map] at *; omega)) ?_
  | refine exI (x := ULift.up _) ⟨rfl, (by simp only [I83, List.length_map] at *; omega), zbc _ _ _ (by simp only [I83, List.length_map] at *; omega)⟩ ?_
  | with_reducible first | refine And.intro ?_ ?_ | refine zae ?_ | refine exI (i64_in (by omega) (by omega)) ?_
  | refine exI (x := ULift.up _) (Eq.refl _) ?_
  | refine exI (x := ULift.up _) ⟨rfl, by omega, Eq.refl _⟩ ?_
  | exact nx
  | ((with_reducible intro h); try dsimp only at h))
 all_goals (refine Sd.mk ?_)
 all_goals (try simp only [HR.eta, List.length_map] at *)
 all_goals first
  | exact zJS hl
  | exact zxQ ‹_› ‹_› (zke.1 ‹_›)
  | exact zBd ‹_› ‹_› (fun e => absurd (zke.2 e) ‹_›)
  | exact zwg ‹_› ‹_›
noncomputable def S83 : SFn
 | [a0, a1], k => zcu a0 fun L_L => asL HR.pv L_L fun L => zf0 a1 fun r => .req (L.length <= 1000000) (k (L83 L r))
 | _, _ => .fail
theorem t83 : FnS Tryz.prog GG 83 S83 := by
 intro args k gt go R v os n h
 unfold S83 at h
 split at h
 . obtain ⟨L_L, _, h⟩ := zbn h
   obtain ⟨L, _, h⟩ := zaN h
   obtain ⟨r, _, h⟩ := zdd h
   obtain ⟨hp, _, h⟩ := zar h
   exact ⟨_, _, s83 L r hp, h⟩
 . cases h
noncomputable def L35 (L : List HR) (r : HR) : zaa := ⟨[.rd (.sl 2 (L.map HR.pv)), .agg r.cells], [], [], [], .bool (decide (r ∈ L))⟩
theorem s35 (L : List HR) (r : HR) (hl : L.length <= 1000000) : zaa.ok Tryz.prog GG 35 (L35 L r) := by
 refine zac mix k35 _ rfl rfl (Tab.ok (l := [(83, S83)]) ⟨t83, trivial⟩) noL noJ ?_
 repeat' ((conv => whnf); first
  | exact trivial
  | with_reducible first | refine aj ?_ | refine ai rfl ?_ | refine ai ⟨rfl, rfl⟩ ?_
  | ((with_reducible refine ai ?_ ?_); focus exact w3)
  | with_reducible first | refine And.intro (Sd.mk (p := _ <= 1000000) hl) ?_ | refine And.intro ?_ ?_ | refine zae ?_ | refine exI (i64_in (by omega) (by omega)) ?_
  | refine exI (x := ULift.up _) (Eq.refl _) ?_
  | refine exI (x := ULift.up _) ⟨rfl, by omega, Eq.refl _⟩ ?_
  | exact nx
  | ((with_reducible intro h); try dsimp only at h))
 all_goals (refine Sd.mk ?_)
 all_goals first
  | (simp only [decide_eq_true_eq]; exact (zsI (Int.le_refl _)).symm)
noncomputable def S35 : SFn
 | [a0, a1], k => zcu a0 fun L_L => asL HR.pv L_L fun L => zf0 a1 fun r => .req (L.length <= 1000000) (k (L35 L r))
 | _, _ => .fail
theorem t35 : FnS Tryz.prog GG 35 S35 := by
 intro args k gt go R v os n h
 unfold S35 at h
 split at h
 . obtain ⟨L_L, _, h⟩ := zbn h
   obtain ⟨L, _, h⟩ := zaN h
   obtain ⟨r, _, h⟩ := zdd h
   obtain ⟨hp, _, h⟩ := zar h
   exact ⟨_, _, s35 L r hp, h⟩
 . cases h
def zpI (A B : List HR) (n m : Nat) : List HR := A.take n ++ B.take m
noncomputable def L36 (A : List HR) (B : List HR) (n : Nat) (m : Nat) : zaa := ⟨[.slc 0 0 2], [.arr 1 [[.slc 1 0 n], [.slc 2 0 m]], .vec 2 (A.map HR.pv), .vec 2 (B.map HR.pv)], [some (.arr 1 [[.slc 1 0 n], [.slc 2 0 m]]), some (.vec 2 (A.map HR.pv)), some (.vec 2 (B.map HR.pv))], [.vec 2 ((zpI A B n m).map HR.pv)], .slc 3 0 (n + m)⟩
set_option maxHeartbeats 4000000 in
theorem s36 (A : List HR) (B : List HR) (n : Nat) (m : Nat) (hp : n <= A.length /\ A.length <= 100000 /\ m <= B.length /\ B.length <= 100000) : zaa.ok Tryz.prog GG 36 (L36 A B n m) := by
 refine zac mix k36 _ rfl rfl (Tab.ok (l := [(84, S84)]) ⟨t84, trivial⟩) (fun _ => .rounds 3) noJ ?_
 repeat' ((conv => whnf); first
  | exact trivial
  | with_reducible first | refine aj ?_ | refine ai rfl ?_ | refine ai ⟨rfl, rfl⟩ ?_
  | ((with_reducible refine ai ?_ ?_); focus exact w3)
  | ((with_reducible intro h); exfalso; omega)
  | with_reducible first | refine And.intro (Sd.mk (p := 0 <= _ /\ _ <= 1000000) (by omega)) ?_ | refine And.intro ?_ ?_ | refine zae ?_ | refine exI (i64_in (by omega) (by omega)) ?_
  | refine exI (x := ULift.up _) (Eq.refl _) ?_
  | refine exI (x := ULift.up _) ⟨rfl, by omega, Eq.refl _⟩ ?_
  | exact nx
  | ((with_reducible intro h); try dsimp only at h))
 all_goals (refine Sd.mk ?_)
 all_goals first
  | (simp only [List.length_map]; omega)
  | (simp only [zai.len, List.length_append, List.length_take, List.length_drop, List.length_map, List.length_nil]; omega)
  | (refine ⟨rfl, ?_⟩; simp only [zai.len, List.length_append, List.length_take, List.length_drop, List.length_map, List.length_nil]; omega)
  | (refine ⟨rfl, ?_⟩; simp [zpI, List.map_take])
noncomputable def S36 : SFn
 | [.slc p _ _], k => .rO p fun o => match o with
   | some (.arr 1 [[.slc i 0 n], [.slc j 0 m]]) => .rO i fun oi => match oi with
     | some (.vec 2 LA) => asL HR.pv LA fun A => .rO j fun oj => match oj with
       | some (.vec 2 LB) => asL HR.pv LB fun B => .req (n <= A.length /\ A.length <= 100000 /\ m <= B.length /\ B.length <= 100000) (k (L36 A B n m))
       | _ => .fail
     | _ => .fail
   | _ => .fail
 | _, _ => .fail
theorem t36 : FnS Tryz.prog GG 36 S36 := by
 intro args k' gt go R v os q h
 unfold S36 at h
 split at h
 . cases h with
   | rO h =>
     dsimp only at h
     split at h
     . cases h with
       | rO h =>
         dsimp only at h
         split at h
         . obtain ⟨A, _, h⟩ := zaN h
           cases h with
           | rO h =>
             dsimp only at h
             split at h
             . obtain ⟨B, _, h⟩ := zaN h
               obtain ⟨hp, _, h⟩ := zar h
               exact ⟨_, _, s36 _ _ _ _ hp, h⟩
             . cases h
         . cases h
     . cases h
 . cases h
end
section
def c10 : MC := .seq (.reg [oo 2 (.mv kf)]) (.seq (.seq (.reg [oo 19 (fc 14 []),oo 20 (.not (.t 19))]) (.cond (.t 20) (.seq (.reg [oo 2 (.mv kf)]) (.ret)) (.skip))) (.seq (.seq (.reg [om 21 0,oo 22 (.lenS (.t 21)),oo 23 (cc .gtr 22 150),sm 24 23,mf 24 25 0,gf 24 26 (fc 18 [(.t 25)]),gf 24 27 (cc .neq 26 0),oo 28 (pt 24 27)]) (.cond (.t 28) (.seq (.reg [oo 2 (.mv kt)]) (.ret)) (.skip))) (.seq (.reg [om 30 0,oo 31 (fc 16 [(.t 30),(ki 0)]),om 29 31,oo 32 (ex_ 0 29),oo 33 (ex_ 1 29),om 3 32,om 4 33]) (.seq (.seq (.reg [om 34 4,oo 35 (cc .neq 34 0),sm 36 35,mf 36 37 3,gf 36 38 (.lenS (.t 37)),gf 36 39 (cc .neq 38 0),oo 40 (pt 36 39)]) (.cond (.t 40) (.seq (.reg [oo 2 (.mv kf)]) (.ret)) (.skip))) (.seq (.seq (.reg [om 41 0,oo 42 (.lenS (.t 41)),oo 43 (.mv (ki 0))]) (.blk 0 (.loop 0 (.seq (.reg [oo 44 (ct .lss 43 42)]) (.seq (.cond (.t 44) (.skip) (.exit 0)) (.seq (.blk 1 (.seq (.reg [om 45 43,oo 46 (ia 15 41 43),oo 47 (ls 15 46),oo 6 (.alloc zI),om 5 45,o none (.st (some 15) (.t 6) (.t 47))]) (.seq (.reg [om 49 0,om 50 5,oo 51 (fc 16 [(.t 49),(.t 50)]),om 48 51,oo 52 (ex_ 0 48),oo 53 (ex_ 1 48),om 7 52,om 8 53]) (.seq (.reg [om 55 0,om 56 5,oo 57 (ac .add 56 1),oo 58 (fc 16 [(.t 55),(.t 57)]),om 54 58,oo 59 (ex_ 0 54),oo 60 (ex_ 1 54),om 9 59,om 10 60]) (.seq (.seq (.reg [om 61 8,oo 62 (cc .neq 61 0),sm 63 62,mf 63 64 10,gf 63 65 (cc .neq 64 0),oo 66 (pt 63 65)]) (.cond (.t 66) (.seq (.reg [oo 2 (.mv kf)]) (.ret)) (.skip))) (.seq (.reg [oo 68 (ls 15 6),oo 69 (fc 33 [(.t 68)]),om 67 69,oo 70 (ex_ 0 67),oo 71 (ex_ 1 67),oo 11 (.alloc [.ff,(kz 0)]),o none (.st (some 2) (.t 11) (.t 70)),om 12 71]) (.seq (.reg [oo 72 (ls 15 6),oo 73 (fc 34 [(.t 72)]),om 13 73]) (.seq (.seq (.reg [om 74 13,oo 75 (.lenS (.t 74)),oo 76 (.mv (ki 0))]) (.blk 2 (.loop 1 (.seq (.reg [oo 77 (ct .lss 76 75)]) (.seq (.cond (.t 77) (.skip) (.exit 2)) (.seq (.blk 3 (.seq (.reg [oo 78 (ia 2 74 76),oo 79 (ls 2 78),oo 15 (.alloc [.ff,(kz 0)]),o none (.st (some 2) (.t 15) (.t 79))]) (.seq (.reg [om 80 7,oo 81 (ls 2 15),oo 82 (fc 35 [(.t 80),(.t 81)]),oo 83 (.not (.t 82))]) (.cond (.t 83) (.seq (.reg [oo 2 (.mv kf)]) (.ret)) (.skip))))) (.reg [oo 84 (ac .add 76 1),om 76 84]))))))) (.seq (.reg [om 85 7,om 86 9,oo 87 (.bsl 1 2 [(.val (.slice none 0 0))] [(0,(.t 85)),(1,(.t 86))]),oo 88 (fc 36 [(.t 87)]),oo 89 (.lenS (.t 88)),oo 90 (.mv (ki 0))]) (.blk 4 (.loop 2 (.seq (.reg [oo 91 (ct .lss 90 89)]) (.seq (.cond (.t 91) (.skip) (.exit 4)) (.seq (.blk 5 (.seq (.reg [oo 92 (ia 2 88 90),oo 93 (ls 2 92),oo 17 (.alloc [.ff,(kz 0)]),o none (.st (some 2) (.t 17) (.t 93))]) (.seq (.reg [om 94 12,sm 95 94,gt_ 95 96 (ls 2 11),gt_ 95 97 (ls 2 17),gt_ 95 98 (.eqs [.bool,.int .i64] false (.t 96) (.t 97)),oo 99 (pf 95 98),om 18 99]) (.seq (.seq (.reg [om 100 13,oo 101 (ls 2 17),oo 102 (fc 35 [(.t 100),(.t 101)])]) (.cond (.t 102) (.exit 5) (.skip))) (.seq (.drw [om 103 18,sm 104 103,mt 104 105 7,gt_ 104 106 (ls 2 17),gt_ 104 107 (fc 35 [(.t 105),(.t 106)]),oo 108 (pf 104 107),sm 109 108,mf 109 110 18,gf 109 111 (.not (.t 110)),ogs 109 false (some 112) (.mv (.t 111)),mt 112 113 7,gt_ 112 114 (ls 2 17),gt_ 112 115 (fc 35 [(.t 113),(.t 114)]),mt 112 116 9,gt_ 112 117 (ls 2 17),gt_ 112 118 (fc 35 [(.t 116),(.t 117)]),gt_ 112 119 (.eqb true (.t 115) (.t 118)),gf 109 120 (pf 112 119),oo 121 (pt 109 120)] [[],[0],[1],[1],[2,3,1,1],[1,4],[5,4],[6],[7,6],[8,6,6],[9],[9],[10,11,9,9],[9],[9],[13,14,12,9],[12,15,9],[9,16,6],[6,17]])
 (.cond (.t 121) (.seq (.reg [oo 2 (.mv kf)]) (.ret)) (.skip))))))) (.reg [oo 122 (ac .add 90 1),om 90 122]))))))))))))))) (.reg [oo 123 (ac .add 43 1),om 43 123]))))))) (.seq (.reg [oo 2 (.mv kt)]) (.ret)))))))
theorem k10 : zan Tryz.prog 10 124 c10 [.t 2] := fk Tryz.func10 ⟨tv,⟨⟨tv,⟨⟨tv,tv⟩,tv⟩⟩,⟨⟨tv,⟨⟨tv,tv⟩,tv⟩⟩,⟨tv,⟨⟨tv,⟨⟨tv,tv⟩,tv⟩⟩,⟨⟨tv,⟨tv,⟨⟨tv,tv⟩,⟨⟨tv,⟨tv,⟨tv,⟨⟨tv,⟨⟨tv,tv⟩,tv⟩⟩,⟨tv,⟨tv,⟨⟨tv,⟨tv,⟨⟨tv,tv⟩,⟨⟨tv,⟨tv,⟨⟨tv,tv⟩,tv⟩⟩⟩,tv⟩⟩⟩⟩,⟨tv,⟨tv,⟨⟨tv,tv⟩,⟨⟨tv,⟨tv,⟨⟨tv,⟨tv,tv⟩⟩,⟨tv,⟨⟨tv,tv⟩,tv⟩⟩⟩⟩⟩,tv⟩⟩⟩⟩⟩⟩⟩⟩⟩⟩⟩,tv⟩⟩⟩⟩,⟨tv,tv⟩⟩⟩⟩⟩⟩⟩
attribute [local irreducible] zaT zaQ zby zcG zaf zag
abbrev U10 (l : List HI) (i : Int) : List HR := zaf (nth l i)
abbrev N10 (l : List HI) (i : Int) : Nat := (zaQ l i).length + (zaQ l (i + 1)).length
def za1 (l : List HI) (i : Int) : List HR := zpI (zby l i) (zby l (i + 1)) (zaQ l i).length (zaQ l (i + 1)).length
theorem zqZ (l : List HI) (i : Int) : ∃ Z, zby l i = zaQ l i ++ Z := by
 unfold zby zaQ
 split
 . exact ⟨_, rfl⟩
 . exact ⟨[], rfl⟩
theorem ziX (l : List HI) (i : Int) : (zby l i).take (zaQ l i).length = zaQ l i := by
 obtain ⟨Z, e⟩ := zqZ l i
 rw [e, List.take_left']; rfl
theorem zmi (l : List HI) (i : Int) : (zaQ l i).length <= (zby l i).length := by
 obtain ⟨Z, e⟩ := zqZ l i
 rw [e, List.length_append]; omega
theorem zw3 (l : List HI) (i : Int) : za1 l i = zaQ l i ++ zaQ l (i + 1) := by unfold za1 zpI; rw [ziX, ziX]
def zee (l : List HI) : Prop := zaT l = 0 /\ l.length <= 150
theorem zph {l : List HI} {i : Int} (h : zee l) : (zby l i).length <= 100000 := by
 have hc : ¬ ¬ zaT l = 0 := fun k => k h.1
 unfold zby
 split
 . have h1 := zgD l 0 [] []
   have h2 := h.2
   have h3 : (zgN l).length <= 450 := by
    rw [zjB]
    unfold zav
    simp only [List.length_nil] at h1; omega
   unfold zgI
   rw [List.length_append, List.length_replicate]
   have : (zcr (zav l).1 (zav l).2 i (zgN l)).length <= (zgN l).length := List.length_filter_le _ _
   omega
 . simp
theorem zpO {l : List HI} {i : Int} (h : zee l) : (zaQ l i).length <= 100000 := Nat.le_trans (zmi l i) (zph h)
theorem zpA {l : List HI} {i : Int} (h : zee l) (h0 : 0 <= i) (h1 : i <= l.length) : zcG l i = 0 := zmO (fun k => k h.1) (by omega) (by omega)
theorem zAQ {l : List HI} (h : zee l) : (zaQ l 0).length = 0 := by
 cases e : zaQ l 0 with
 | nil => rfl
 | cons r t =>
   have hm : r ∈ zaQ l 0 := by rw [e]; exact List.mem_cons_self ..
   exact absurd ((zfO h.1 (Int.le_refl _) (by omega)).1 hm) (zxF h.1)
def zCr (l : List HI) (i : Int) : St := ⟨[(43, kz i), (42, kz l.length), (41, hiS l), (0, hiS l)], [], 0⟩
def zzQ (l : List HI) (i : Int) : List (Nat × Option SO) := [(0, some (.vec 2 ((zby l i).map HR.pv))), (1, some (.vec 2 ((zby l (i + 1)).map HR.pv))), (2, some (.row (zag (nth l i)).1.cells)), (3, some (.vec 2 ((U10 l i).map HR.pv)))]
def zyx (l : List HI) : Int × Int -> St
 | (i, k) => ⟨[(76, kz k), (75, kz (U10 l i).length), (74, .slc 3 0 (U10 l i).length), (43, kz i), (42, kz l.length), (41, hiS l), (13, .slc 3 0 (U10 l i).length), (12, .bool (zag (nth l i)).2), (11, .ptr 2 0 0), (9, .slc 1 0 (zaQ l (i + 1)).length), (7, .slc 0 0 (zaQ l i).length), (0, hiS l)], zzQ l i, 4⟩
def zzS (l : List HI) : Unit × Int × Int -> St
 | (_, i, k) => ⟨[(90, kz k), (89, kz (N10 l i : Nat)), (88, .slc 4 0 (N10 l i)), (43, kz i), (42, kz l.length), (41, hiS l), (13, .slc 3 0 (U10 l i).length), (12, .bool (zag (nth l i)).2), (11, .ptr 2 0 0), (9, .slc 1 0 (zaQ l (i + 1)).length), (7, .slc 0 0 (zaQ l i).length), (0, hiS l)], zzQ l i ++ [(4, some (.vec 2 ((za1 l i).map HR.pv)))], 5⟩
def I10 (l : List HI) (i : Int) : Prop := zee l /\ 0 <= i /\ i <= l.length
def zdZ (l : List HI) (c0 : Int × Int) : Int × Int -> Prop
 | (i, k) => i = c0.1 /\ zee l /\ 0 <= i /\ i < l.length /\ 0 <= k /\ k <= (U10 l i).length /\ (U10 l i).length <= 3
def zdo (l : List HI) (c0 : Unit × Int × Int) : Unit × Int × Int -> Prop
 | (_, i, k) => i = c0.2.1 /\ zee l /\ 0 <= i /\ i < l.length /\ 0 <= k /\ k <= (N10 l i : Nat) /\ (za1 l i).length = N10 l i /\ N10 l i <= 200000 /\ (U10 l i).length <= 3
def zJT (l : List HI) : Nat -> zbO
 | 0 => .inv Int (fun _ => I10 l) (zCr l) (fun i => ((l.length : Int) - i).toNat)
 | 1 => .inv (Int × Int) (zdZ l) (zyx l) (fun c => (((U10 l c.1).length : Int) - c.2).toNat)
 | _ => .inv (Unit × Int × Int) (zdo l) (zzS l) (fun c => (((N10 l c.2.1 : Nat) : Int) - c.2.2).toNat)
theorem zyh {l : List HI} {i k0 : Int} {Q : Int × Int -> Prop} (h : ∀ k, zdZ l (i, k0) (i, k) -> Q (i, k)) : ∀ c, zdZ l (i, k0) c -> Q c := fun ⟨i', k⟩ hI => by
 have h1 := hI.1
 dsimp only at h1
 subst h1
 exact h _ hI
theorem zw5 {l : List HI} {i k0 : Int} {Q : Unit × Int × Int -> Prop} (h : ∀ k, zdo l ((), i, k0) ((), i, k) -> Q ((), i, k)) : ∀ c, zdo l ((), i, k0) c -> Q c := fun ⟨_, i', k⟩ hI => by
 have h1 := hI.1
 dsimp only at h1
 subst h1
 exact h _ hI
theorem zFh {l : List HI} (h : zee l) : I10 l 0 := ⟨h, Int.le_refl _, by omega⟩
theorem zGW {l : List HI} {i : Int} (h : I10 l i) (hi : i < l.length) : zdZ l (i, 0) (i, 0) := ⟨rfl, h.1, h.2.1, hi, Int.le_refl _, by omega, zbA _⟩
theorem zBZ {l : List HI} {c0 : Int × Int} {i k : Int} (h : zdZ l c0 (i, k)) (hk : k < (U10 l i).length) : zdZ l c0 (i, k + 1) /\ (((U10 l i).length : Int) - (k + 1)).toNat < (((U10 l i).length : Int) - k).toNat := by
 obtain ⟨h1, h2, h3, h4, h5, h6, h7⟩ := h
 exact ⟨⟨h1, h2, h3, h4, by omega, by omega, h7⟩, by omega⟩
theorem zvZ {l : List HI} {i : Int} : (za1 l i).length = N10 l i := by rw [zw3, List.length_append]
theorem zF4 {l : List HI} {c0 : Int × Int} {i k : Int} (h : zdZ l c0 (i, k)) : zdo l ((), i, 0) ((), i, 0) := by
 obtain ⟨h1, h2, h3, h4, h5, h6, h7⟩ := h
 have a1 := zpO (i := i) h2
 have a2 := zpO (i := i + 1) h2
 exact ⟨rfl, h2, h3, h4, Int.le_refl _, by omega, zvZ, by unfold N10; omega, h7⟩
theorem zDi {l : List HI} {c0 : Unit × Int × Int} {i k : Int} (h : zdo l c0 ((), i, k)) (hk : k < (N10 l i : Nat)) : zdo l c0 ((), i, k + 1) /\ (((N10 l i : Nat) : Int) - (k + 1)).toNat < (((N10 l i : Nat) : Int) - k).toNat := by
 obtain ⟨h1, h2, h3, h4, h5, h6, h7, h8, h9⟩ := h
 exact ⟨⟨h1, h2, h3, h4, by omega, by omega, h7, h8, h9⟩, by omega⟩
theorem zGY {l : List HI} {c0 : Unit × Int × Int} {i k : Int} (h : zdo l c0 ((), i, k)) : I10 l (i + 1) /\ ((l.length : Int) - (i + 1)).toNat < ((l.length : Int) - i).toNat := by
 obtain ⟨h1, h2, h3, h4, h5, h6, h7, h8, h9⟩ := h
 exact ⟨⟨h2, by omega, by omega⟩, by omega⟩
theorem zsQ {l : List HI} (h1 : ¬ 150 < ((l.map HI.pv).length : Int)) (h2 : ¬ ¬ zaT l = 0) : zee l := by
 rw [List.length_map] at h1
 exact ⟨Classical.not_not.1 h2, by omega⟩
theorem zzD {l : List HI} {i : Int} {q : ULift.{1} (List HR) -> Prop} (h : q ⟨zaQ l i⟩) : ∃ x : ULift.{1} (List HR), List.take (zaQ l i).length (List.drop 0 (List.map HR.pv (zby l i))) = x.down.map HR.pv /\ q x := ⟨⟨zaQ l i⟩, by
 rw [List.drop_zero, <- List.map_take, ziX], h⟩
theorem zxY {L : List HR} {q : ULift.{1} (List HR) -> Prop} (h : q ⟨L⟩) : ∃ x : ULift.{1} (List HR), List.take L.length (List.drop 0 (List.map HR.pv L)) = x.down.map HR.pv /\ q x := ⟨⟨L⟩, by
 rw [List.drop_zero, <- List.map_take, List.take_length], h⟩
theorem zBP {l : List HI} {i : Int} : PV.sl 2 (List.map HR.pv (zaQ l i)) = PV.sl 2 (List.take (zaQ l i).length (List.drop 0 (List.map HR.pv (zby l i)))) /\ 0 + (zaQ l i).length <= (List.map HR.pv (zby l i)).length := by
 have := zmi l i
 refine ⟨by rw [List.drop_zero, <- List.map_take, ziX], by rw [List.length_map]; omega⟩
theorem zDF {L : List HR} : PV.sl 2 (List.map HR.pv L) = PV.sl 2 (List.take L.length (List.drop 0 (List.map HR.pv L))) /\ 0 + L.length <= (List.map HR.pv L).length := by
 refine ⟨by rw [List.drop_zero, <- List.map_take, List.take_length], by rw [List.length_map]; omega⟩
theorem zJV {l : List HI} (h1 : ¬ 150 < ((l.map HI.pv).length : Int)) (h2 : ¬ ¬ zaT l = 0) : zcG l 0 = 0 := zpA (zsQ h1 h2) (Int.le_refl _) (by omega)
theorem zGG {l : List HI} {i : Int} (h : I10 l i) : zcG l i = 0 := zpA h.1 h.2.1 h.2.2
theorem zIb {l : List HI} {i : Int} (h : I10 l i) (hi : i < l.length) : zcG l (i + 1) = 0 := zpA h.1 (by have := h.2.1; omega) (by omega)
theorem zKl {l : List HI} (h1 : ¬ 150 < ((l.map HI.pv).length : Int)) (h2 : ¬ ¬ zaT l = 0) : ((zaQ l 0).length : Int) = 0 := by rw [zAQ (zsQ h1 h2)]; rfl
theorem zwN {L : List HR} {k : Int} (h0 : 0 <= k) (h : k < L.length) : nth L k ∈ L := by
 have e := zbN L k ⟨h0, h⟩
 exact List.mem_of_getElem? e
theorem zH4 {l : List HI} {c0 i k} (h : zdZ l c0 (i, k)) {j : Int} : (zaQ l j).length <= 1000000 := Nat.le_trans (zpO h.2.1) (by decide)
theorem zDU {l : List HI} {c0 i k} (h : zdo l c0 ((), i, k)) : (U10 l i).length <= 1000000 := by have := h.2.2.2.2.2.2.2.2; omega
theorem cu {l : List HI} {c0 i k} (h : zdZ l c0 (i, k)) (hk : k < (U10 l i).length) : ¬ (!decide ((⟨(nth (U10 l i) k).vec, (nth (U10 l i) k).n⟩ : HR) ∈ zaQ l i)) = true := by
 obtain ⟨h1, h2, h3, h4, h5, h6, h7⟩ := h
 have hm : nth (U10 l i) k ∈ zaQ l i := (zfO h2.1 h3 (by omega)).2 (zw2 h4 (zwN h5 hk))
 have e : (⟨(nth (U10 l i) k).vec, (nth (U10 l i) k).n⟩ : HR) = nth (U10 l i) k := rfl
 rw [e, decide_eq_true hm]; decide
theorem p36 {l : List HI} {c0 i k} (h : zdZ l c0 (i, k)) : (zaQ l i).length <= (zby l i).length /\ (zby l i).length <= 100000 /\ (zaQ l (i + 1)).length <= (zby l (i + 1)).length /\ (zby l (i + 1)).length <= 100000 := ⟨zmi _ _, zph h.2.1, zmi _ _, zph h.2.1⟩
theorem cd1 {l : List HI} {c0 i k} (h : zdo l c0 ((), i, k)) (hh : (zag (nth l i)).2 = true) (hu : decide ((⟨(nth (za1 l i) k).vec, (nth (za1 l i) k).n⟩ : HR) ∈ U10 l i) = false) (he : ((zag (nth l i)).1.vec = true ↔ (nth (za1 l i) k).vec = true) /\ (zag (nth l i)).1.n = (nth (za1 l i) k).n /\ True) :
 ¬ decide ((⟨(nth (za1 l i) k).vec, (nth (za1 l i) k).n⟩ : HR) ∈ zaQ l i) = true := by
  obtain ⟨h1, h2, h3, h4, h5⟩ := h
  have e : (⟨(nth (za1 l i) k).vec, (nth (za1 l i) k).n⟩ : HR) = nth (za1 l i) k := rfl
  rw [e] at hu ⊢
  have hd := zke.1 he
  intro g
  exact zAO (of_decide_eq_false hu) ⟨hh, hd⟩ ((zfO h2.1 h3 (by omega)).1 (of_decide_eq_true g))
theorem cd0 {l : List HI} {c0 i k} (h : zdo l c0 ((), i, k)) (hu : decide ((⟨(nth (za1 l i) k).vec, (nth (za1 l i) k).n⟩ : HR) ∈ U10 l i) = false) (he : ¬ Dfs (nth l i) (nth (za1 l i) k)) :
 (decide ((⟨(nth (za1 l i) k).vec, (nth (za1 l i) k).n⟩ : HR) ∈ zaQ l i) = true ↔ decide ((⟨(nth (za1 l i) k).vec, (nth (za1 l i) k).n⟩ : HR) ∈ zaQ l (i + 1)) = true) := by
  obtain ⟨h1, h2, h3, h4, h5⟩ := h
  have e : (⟨(nth (za1 l i) k).vec, (nth (za1 l i) k).n⟩ : HR) = nth (za1 l i) k := rfl
  rw [e] at hu ⊢
  rw [decide_eq_true_eq, decide_eq_true_eq, zfO h2.1 h3 (by omega), zfO h2.1 (by omega) (by omega)]
  exact zy4 (of_decide_eq_false hu) he
theorem cd2 {l : List HI} {c0 i k} (h : zdo l c0 ((), i, k)) (hu : decide ((⟨(nth (za1 l i) k).vec, (nth (za1 l i) k).n⟩ : HR) ∈ U10 l i) = false) (he : ¬ (((zag (nth l i)).1.vec = true ↔ (nth (za1 l i) k).vec = true) /\ (zag (nth l i)).1.n = (nth (za1 l i) k).n /\ True)) :
 (decide ((⟨(nth (za1 l i) k).vec, (nth (za1 l i) k).n⟩ : HR) ∈ zaQ l i) = true ↔ decide ((⟨(nth (za1 l i) k).vec, (nth (za1 l i) k).n⟩ : HR) ∈ zaQ l (i + 1)) = true) :=
  cd0 h hu (fun g => he (zke.2 g.2))
theorem cd3 {l : List HI} {c0 i k} (h : zdo l c0 ((), i, k)) (hh : (zag (nth l i)).2 = false) (hu : decide ((⟨(nth (za1 l i) k).vec, (nth (za1 l i) k).n⟩ : HR) ∈ U10 l i) = false) :
 (decide ((⟨(nth (za1 l i) k).vec, (nth (za1 l i) k).n⟩ : HR) ∈ zaQ l i) = true ↔ decide ((⟨(nth (za1 l i) k).vec, (nth (za1 l i) k).n⟩ : HR) ∈ zaQ l (i + 1)) = true) :=
  cd0 h hu (fun g => by have := g.1; rw [hh] at this; cases this)
noncomputable def L10 (l : List HI) : zaa := ⟨[hiS l], [], [], [], .tt⟩
set_option maxHeartbeats 8000000 in
theorem s10 (l : List HI) : zaa.ok Tryz.prog GG 10 (L10 l) := by
 refine zac mix k10 _ rfl rfl (Tab.ok (l := [(14, fun _ q => q L14), (18, S18), (16, ztm), (33, S33), (34, S34), (35, S35), (36, S36)]) ⟨zhZ s14, t18, zFw, t33, t34, t35, t36, trivial⟩) (zJT l) noJ ?_
 repeat' ((conv => whnf); first
  | exact trivial
  | with_reducible first | refine aj ?_ | refine ai rfl ?_ | refine ai ⟨rfl, rfl⟩ ?_
  | ((with_reducible refine ai ?_ ?_); focus exact w3)
  | ((with_reducible intro h); first | exact absurd (zJV (by with_reducible assumption) (by with_reducible assumption)) h | exact absurd (zGG (by with_reducible assumption)) h | exact absurd (zIb (by with_reducible assumption) (by with_reducible assumption)) h | exact absurd (zKl (by with_reducible assumption) (by with_reducible assumption)) h | exact absurd h (cu (by with_reducible assumption) (by with_reducible assumption)) | exact absurd h (cd1 (by with_reducible assumption) (by with_reducible assumption) (by with_reducible assumption) (by with_reducible assumption)) | exact absurd (cd2 (by with_reducible assumption) (by with_reducible assumption) (by with_reducible assumption)) h | exact absurd (cd3 (by with_reducible assumption) (by with_reducible assumption) (by with_reducible assumption)) h)
  | with_reducible first | refine ai (p36 (by with_reducible assumption)) ?_ | refine ai (zH4 (by with_reducible assumption)) ?_ | refine ai (ll6c (by with_reducible assumption)) ?_ | refine ai (zDU (by with_reducible assumption)) ?_ | refine zyh ?_ | refine zw5 ?_
  | refine zzD ?_
  | refine zxY ?_
  | with_reducible first | apply exW (γ := Int) (c := _) | apply exW (γ := Int × Int) (c := (_, _)) | apply exW (γ := Unit × Int × Int) (c := ((), _, _)) | refine exI (i64_in (by simp only [I10, zdZ, zdo, zee, List.length_map] at *; omega) (by simp only [I10, zdZ, zdo, zee, List.length_map] at *; omega)) ?_
  | refine exI (x := ULift.up _) (za8 _ _ _ (by simp only [I10, zdZ, zdo, zee, List.length_map] at *; omega)) ?_
  | refine exI (x := ULift.up _) ⟨rfl, (by simp only [I10, zdZ, zdo, zee, List.length_map] at *; omega), zbc _ _ _ (by simp only [I10, zdZ, zdo, zee, List.length_map] at *; omega)⟩ ?_
  | with_reducible first | refine And.intro (Sd.mk (p := (_ : Int) <= _ /\ _) (by simp only [I10, zdZ, zdo, zee, List.length_map] at *; omega)) ?_ | refine And.intro ?_ ?_ | refine zae ?_ | refine exI (i64_in (by omega) (by omega)) ?_
  | refine exI (x := ULift.up _) (Eq.refl _) ?_
  | refine exI (x := ULift.up _) ⟨rfl, by omega, Eq.refl _⟩ ?_
  | exact nx
  | ((with_reducible intro h); try dsimp only at h))
 all_goals first
  | exact Sd.mk (zFh (zsQ ‹_› ‹_›))
  | exact Sd.mk (zGW ‹_› ‹_›)
  | exact Sd.mk (zBZ ‹_› ‹_›)
  | exact Sd.mk (zF4 ‹_›)
  | exact Sd.mk (zDi ‹_› ‹_›)
  | exact Sd.mk (zGY ‹_›)
  | exact Sd.mk zBP
  | exact Sd.mk zDF
end
end Go.Proofs.YtlahifihaeafbaaGreatDoor
namespace Go.Proofs.YtlahifihaeafbaaGreatDoor
open Go Go.Sx Go.ChangeShapes
section
variable {H : Type} {enc : TypeId × Value -> H} {P : Program} {W : World} {sp : Nat -> Bool} {held : Bool}
abbrev zfN (W : World) : Nat -> Prop := fun b => b < W.heap.size
theorem zje {b o n : Nat} : (Addr.add ⟨b, o, none⟩ n) = ⟨b, o + n, none⟩ := by
 unfold Addr.add; split
 . next h => subst h; rfl
 . rfl
theorem zrp {b o : Nat} {v : Value} (h : W.cell? ⟨b, o, none⟩ = some v) : ∃ arr T fz, W.heap[b]? = some (.cells arr T fz) /\ arr[o]? = some v := by
 unfold World.cell? at h
 split at h
 . next c T fz e => exact ⟨c, T, fz, e, by simpa using h⟩
 . cases h
theorem zqv {b o s : Nat} {cs : List Value} {arr : Array Value} {T : TypeId} {fz : Nat × Nat} (hh : W.heap[b]? = some (.cells arr T fz)) (h : W.cells? 0 ⟨b, o, none⟩ s = some cs) : ∃ r, arr.toList.drop o = cs ++ r := by
 obtain ⟨_, hl, he⟩ := World.cells?_some h
 refine ⟨(arr.toList.drop o).drop s, ?_⟩
 have e : cs = (arr.toList.drop o).take s := by
  apply List.ext_getElem?
  intro i
  by_cases hi : i < s
  . have := he i hi
    rw [zje] at this
    rw [List.getElem?_take_of_lt hi, List.getElem?_drop, <- this]
    unfold World.cell?
    rw [hh]
    simp
  . rw [List.getElem?_eq_none (by omega), List.getElem?_eq_none (by rw [List.length_take]; omega)]
 rw [e]; exact (List.take_append_drop s _).symm
theorem zjH {S : Nat -> Prop} {s : Nat} : ∀ {L : List (List PV)} {vs : List Value}, (∀ i e, L[i]? = some e -> e.length = s /\ zaG W S e (vs.drop (i * s))) -> zat W S s L vs
 | [], _, _ => by simp [zat]
 | e :: L, vs, h => by
   simp only [zat]
   have h0 := h 0 e rfl
   rw [Nat.zero_mul, List.drop_zero] at h0
   refine ⟨h0.1, h0.2, zjH fun i e' he => ?_⟩
   have h1 := h (i + 1) e' (by simpa using he)
   rw [List.drop_drop]
   rw [show s + i * s = (i + 1) * s by rw [Nat.add_mul, Nat.one_mul, Nat.add_comm]]
   exact h1
theorem zqd {α : Type} [Inhabited α] {pv : α -> List PV} {t e : TypeId} {s fuel : Nat} {cs : List Value} {x : DataW H × List MemPlace} (ht : P.underlying t = some (.slice e)) (hc : P.cellsOf e = s) (hs : 0 < s) (hp : ∀ a, (pv a).length = s)
 (hd : ∀ n cs y, DataW.trod enc P W 0 sp held n e cs = some y -> ∃ a, ∀ r, zaG W (zfN W) (pv a) (cs ++ r))
 (h : DataW.trod enc P W 0 sp held fuel t cs = some x) : ∃ L : List α, ∃ v, cs = [v] /\ zaY W (zfN W) (.sl s (L.map pv)) v := by
  rcases DataW.trod_slice ht h with ⟨h0, _⟩ | ⟨a, len, cap, elems, rest, n, _, rfl, rfl, hb, hl, hm, hlen, hel, _, _⟩
  . subst h0
    refine ⟨[], _, rfl, ?_⟩
    simp only [zaY, List.map_nil]
    exact ⟨none, 0, rfl, Nat.le_refl _, fun q => absurd rfl q, fun _ => rfl⟩
  rw [hc] at hel
  have each : ∀ i, i < len -> ∃ cs' y, W.cells? 0 (a.add (i * s)) s = some cs' /\ DataW.trod enc P W 0 sp held n e cs' = some y := by
   intro i hi
   have := hel i hi
   rw [List.getElem?_eq_getElem (by omega)] at this
   obtain ⟨cs', h1, h2⟩ := Option.bind_eq_some_iff.1 this
   exact ⟨cs', _, h1, h2⟩
  by_cases h0 : len = 0
  . subst h0
    refine ⟨[], _, rfl, ?_⟩
    simp only [zaY, List.map_nil]
    exact ⟨some a, cap, rfl, Nat.zero_le _, fun q => absurd rfl q, fun e => by cases e⟩
  obtain ⟨b, off, spot⟩ := a
  obtain ⟨cs0, y0, e0, _⟩ := each 0 (by omega)
  have hc0 := (World.cells?_some e0).2.2 0 hs
  rw [Nat.zero_mul] at hc0
  have hlen0 : 0 < cs0.length := by rw [(World.cells?_some e0).2.1]; exact hs
  rw [List.getElem?_eq_getElem hlen0] at hc0
  have hspot : spot = none := by simpa [Addr.add] using World.cell?_spot hc0
  subst hspot
  rw [zje, zje] at hc0
  obtain ⟨arr, T, fz, hh, _⟩ := zrp hc0
  have each2 : ∀ i, ∃ p : α, i < len -> zaG W (zfN W) (pv p) (arr.toList.drop (off + i * s)) := by
   intro i
   by_cases hi : i < len
   . obtain ⟨cs', y, h1, h2⟩ := each i hi
     obtain ⟨p, hp⟩ := hd _ _ _ h2
     rw [zje] at h1
     obtain ⟨r, hr⟩ := zqv hh h1
     exact ⟨p, fun _ => by rw [hr]; exact hp r⟩
   . exact ⟨default, fun q => absurd q hi⟩
  have hf := Classical.axiomOfChoice each2
  obtain ⟨f, hf⟩ := hf
  refine ⟨(List.range len).map f, _, rfl, ?_⟩
  simp only [zaY, List.length_map, List.length_range]
  refine ⟨_, cap, rfl, hl, fun _ => ⟨b, off, arr, T, fz, rfl, ?_, hh, ?_⟩, fun e => by cases e⟩
  . exact (Array.getElem?_eq_some_iff.1 hh).1
  . refine zjH fun i e he => ?_
    rw [List.getElem?_map, List.getElem?_map] at he
    by_cases hi : i < len
    . rw [List.getElem?_range hi] at he
      simp only [Option.map_some, Option.some.injEq] at he
      subst he
      refine ⟨hp _, ?_⟩
      rw [List.drop_drop]
      exact hf i hi
    . rw [List.getElem?_eq_none (by simp; omega)] at he
      cases he
end
theorem c15 {cs : List Value} (h : cs.length = 15) : ∃ a0 a1 a2 a3 a4 a5 a6 a7 a8 a9 a10 a11 a12 a13 a14, cs = [a0, a1, a2, a3, a4, a5, a6, a7, a8, a9, a10, a11, a12, a13, a14] := by
 match cs, h with
 | [a0, a1, a2, a3, a4, a5, a6, a7, a8, a9, a10, a11, a12, a13, a14], _ => exact ⟨_, _, _, _, _, _, _, _, _, _, _, _, _, _, _, rfl⟩
theorem zdb {H : Type} {enc : TypeId × Value -> H} {W : World} {sp : Nat -> Bool} {held : Bool} {n : Nat} {t : TypeId} {k : IntKind} (ht : Tryz.prog.underlying t = some (.int k)) {v : Value} {o : Option (DataW H × List MemPlace)} (ho : o.isSome = true) (h : DataW.trod enc Tryz.prog W 0 sp held n t [v] = o) : ∃ m, v = .int k m := by
 obtain ⟨y, rfl⟩ := Option.isSome_iff_exists.1 ho
 obtain ⟨m, e, _, _⟩ := DataW.trod_int ht h
 cases e
 exact ⟨m, rfl⟩
theorem zwJ : Tryz.prog.cellsOf 63 = 15 := by kernel_rfl
theorem zFc : Tryz.prog.cellsOf 61 = 4 := by kernel_rfl
theorem zwn : Tryz.prog.cellsOf 59 = 1 := by kernel_rfl
theorem co3 : Tryz.prog.cellsOf 3 = 1 := by kernel_rfl
theorem zwP {H : Type} {enc : TypeId × Value -> H} {W : World} {sp : Nat -> Bool} {held : Bool} (n : Nat) (cs : List Value) (y : DataW H × List MemPlace) (h : DataW.trod enc Tryz.prog W 0 sp held n 63 cs = some y) : ∃ a, ∀ r, zaG W (zfN W) (HI.pv a) (cs ++ r) := by
 obtain ⟨xs, m, rfl, _, hl, hx, hf⟩ := DataW.trod_struct Tryz.underlying63 h
 rw [zwJ] at hl
 obtain ⟨a0, a1, a2, a3, a4, a5, a6, a7, a8, a9, a10, a11, a12, a13, a14, rfl⟩ := c15 hl
 have hx : xs.length = 12 := hx
 have is : ∀ i, i < 12 -> (xs[i]?).isSome = true := fun i hi => by rw [List.getElem?_eq_getElem (by omega)]; rfl
 have f0 := hf 0 { name := "Op", type := 3, offset := 0, embedded := false, tag := "", pkgPath := "", byteOffset := 0 } rfl
 have f1 := hf 1 { name := "Sub", type := 3, offset := 1, embedded := false, tag := "", pkgPath := "", byteOffset := 8 } rfl
 have f2 := hf 2 { name := "From", type := 3, offset := 2, embedded := false, tag := "", pkgPath := "", byteOffset := 16 } rfl
 have f3 := hf 3 { name := "Ty", type := 3, offset := 3, embedded := false, tag := "", pkgPath := "", byteOffset := 24 } rfl
 have f4 := hf 4 { name := "D", type := 3, offset := 4, embedded := false, tag := "", pkgPath := "", byteOffset := 32 } rfl
 have f5 := hf 5 { name := "A", type := 3, offset := 5, embedded := false, tag := "", pkgPath := "", byteOffset := 40 } rfl
 have f6 := hf 6 { name := "B", type := 3, offset := 6, embedded := false, tag := "", pkgPath := "", byteOffset := 48 } rfl
 have f7 := hf 7 { name := "C", type := 3, offset := 7, embedded := false, tag := "", pkgPath := "", byteOffset := 56 } rfl
 have f8 := hf 8 { name := "K", type := 3, offset := 8, embedded := false, tag := "", pkgPath := "", byteOffset := 64 } rfl
 have f9 := hf 9 { name := "I", type := 59, offset := 9, embedded := false, tag := "", pkgPath := "", byteOffset := 72 } rfl
 have f10 := hf 10 { name := "Chain", type := 59, offset := 10, embedded := false, tag := "", pkgPath := "", byteOffset := 76 } rfl
 have f11 := hf 11 { name := "V", type := 61, offset := 11, embedded := false, tag := "", pkgPath := "", byteOffset := 80 } rfl
 simp only [co3, zwn, zFc, List.drop_zero, List.drop_succ_cons, List.take_succ_cons, List.take_zero] at f0 f1 f2 f3 f4 f5 f6 f7 f8 f9 f10 f11
 obtain ⟨m0, rfl⟩ := zdb Tryz.underlying3 (is 0 (by decide)) f0
 obtain ⟨m1, rfl⟩ := zdb Tryz.underlying3 (is 1 (by decide)) f1
 obtain ⟨m2, rfl⟩ := zdb Tryz.underlying3 (is 2 (by decide)) f2
 obtain ⟨m3, rfl⟩ := zdb Tryz.underlying3 (is 3 (by decide)) f3
 obtain ⟨m4, rfl⟩ := zdb Tryz.underlying3 (is 4 (by decide)) f4
 obtain ⟨m5, rfl⟩ := zdb Tryz.underlying3 (is 5 (by decide)) f5
 obtain ⟨m6, rfl⟩ := zdb Tryz.underlying3 (is 6 (by decide)) f6
 obtain ⟨m7, rfl⟩ := zdb Tryz.underlying3 (is 7 (by decide)) f7
 obtain ⟨m8, rfl⟩ := zdb Tryz.underlying3 (is 8 (by decide)) f8
 obtain ⟨m9, rfl⟩ := zdb Tryz.underlying59 (is 9 (by decide)) f9
 obtain ⟨m10, rfl⟩ := zdb Tryz.underlying59 (is 10 (by decide)) f10
 obtain ⟨z, hz⟩ := Option.isSome_iff_exists.1 (is 11 (by decide))
 rw [hz] at f11
 obtain ⟨ys, q, _, _, _, hy, hg⟩ := DataW.trod_array Tryz.underlying61 f11
 have is2 : ∀ i, i < 4 -> (ys[i]?).isSome = true := fun i hi => by rw [List.getElem?_eq_getElem (by omega)]; rfl
 have g0 := hg 0 (by decide)
 have g1 := hg 1 (by decide)
 have g2 := hg 2 (by decide)
 have g3 := hg 3 (by decide)
 simp only [zwn, Nat.zero_mul, Nat.mul_one, List.drop_zero, List.drop_succ_cons, List.take_succ_cons, List.take_zero] at g0 g1 g2 g3
 obtain ⟨m11, rfl⟩ := zdb Tryz.underlying59 (is2 0 (by decide)) g0
 obtain ⟨m12, rfl⟩ := zdb Tryz.underlying59 (is2 1 (by decide)) g1
 obtain ⟨m13, rfl⟩ := zdb Tryz.underlying59 (is2 2 (by decide)) g2
 obtain ⟨m14, rfl⟩ := zdb Tryz.underlying59 (is2 3 (by decide)) g3
 exact ⟨⟨m0, m1, m2, m3, m4, m5, m6, m7, m8, m9, m10, m11, m12, m13, m14⟩, fun r => by
  simp only [HI.pv, zaG, zaY, List.cons_append]
  exact ⟨_, _, rfl, rfl, ⟨_, _, rfl, rfl, ⟨_, _, rfl, rfl, ⟨_, _, rfl, rfl, ⟨_, _, rfl, rfl, ⟨_, _, rfl, rfl, ⟨_, _, rfl, rfl, ⟨_, _, rfl, rfl, ⟨_, _, rfl, rfl, ⟨_, _, rfl, rfl, ⟨_, _, rfl, rfl, ⟨_, _, rfl, rfl, ⟨_, _, rfl, rfl, ⟨_, _, rfl, rfl, ⟨_, _, rfl, rfl, trivial⟩⟩⟩⟩⟩⟩⟩⟩⟩⟩⟩⟩⟩⟩⟩⟩
instance : Inhabited HI := ⟨⟨0, 0, 0, 0, 0, 0, 0, 0, 0, 0, 0, 0, 0, 0, 0⟩⟩
section
variable {H : Type} {enc : TypeId × Value -> H} {W : World} {sp : Nat -> Bool} {held : Bool} {fuel : Nat} {cs : List Value} {x : DataW H × List MemPlace}
theorem zrM (h : DataW.trod enc Tryz.prog W 0 sp held fuel 22 cs = some x) : ∃ l : List HI, ∃ v, cs = [v] /\ rel (fun _ => none) W (zfN W) (hiS l) v := by
 obtain ⟨l, v, e, hr⟩ := zqd (pv := HI.pv) Tryz.underlying22 zwJ (by decide) (fun a => rfl) zwP h
 exact ⟨l, v, e, by simpa only [rel] using hr⟩
end
end Go.Proofs.YtlahifihaeafbaaGreatDoor
namespace Go.Proofs.YtlahifihaeafbaaGreatDoor
open Go Go.Sx Go.ChangeShapes
def fmD : FM -> DataW Unit
 | ⟨n, a, b⟩ => .agg [.lit (.string n.data.toList), .lit (.int .i64 a), .lit (.int .i64 b)]
def fmP : FM -> List PV
 | ⟨n, a, b⟩ => [.str n, .int .i64 a, .int .i64 b]
theorem zvP {f g : FM} (h : fmD f = fmD g) : f = g := by
 obtain ⟨⟨⟨n⟩⟩, a, b⟩ := f
 obtain ⟨⟨⟨m⟩⟩, c, d⟩ := g
 simp only [fmD, DataW.agg.injEq, List.cons.injEq, DataW.lit.injEq, Lit.string.injEq, Lit.int.injEq, true_and, and_true] at h
 obtain ⟨h1, h2, h3⟩ := h
 subst h1; subst h2; subst h3; rfl
theorem zDn : (Rows.laid_candling_host_forms : DataW Unit) = .agg (zc8.map fmD) := by rfl
theorem zqy : Tryz.prog.globalNamed "candling/host.forms" = some 0 := by kernel_rfl
theorem zz4 : (Tryz.prog.globals[0]?).map (·.type) = some 189 := by kernel_rfl
theorem co9 : Tryz.prog.cellsOf 9 = 1 := by kernel_rfl
theorem ztM : Tryz.prog.cellsOf 130 = 3 := by kernel_rfl
theorem zDe : Tryz.prog.cellsOf 189 = 138 := by kernel_rfl
theorem zxT {W : World} (n : Nat) (cs : List Value) (y : DataW Unit × List MemPlace) (h : DataW.trod (fun _ => ()) Tryz.prog W 0 (fun _ => true) false n 130 cs = some y) : ∃ f : FM, y.1 = fmD f /\ ∀ r, zaG W (zfN W) (fmP f) (cs ++ r) := by
 obtain ⟨xs, m, rfl, hy, hl, hx, hf⟩ := DataW.trod_struct Tryz.underlying130 h
 rw [ztM] at hl
 match cs, hl with
 | [a0, a1, a2], _ =>
   have hx : xs.length = 3 := hx
   match xs, hx with
   | [x0, x1, x2], _ =>
     have f0 := hf 0 { name := "name", type := 9, offset := 0, embedded := false, tag := "", pkgPath := "candling/host", byteOffset := 0 } rfl
     have f1 := hf 1 { name := "fields", type := 3, offset := 1, embedded := false, tag := "", pkgPath := "candling/host", byteOffset := 16 } rfl
     have f2 := hf 2 { name := "rule", type := 3, offset := 2, embedded := false, tag := "", pkgPath := "candling/host", byteOffset := 24 } rfl
     simp only [co3, co9, List.drop_zero, List.drop_succ_cons, List.take_succ_cons, List.take_zero] at f0 f1 f2
     obtain ⟨s, e0, g0, _⟩ := DataW.trod_string Tryz.underlying9 f0
     obtain ⟨k1, e1, g1, _⟩ := DataW.trod_int Tryz.underlying3 f1
     obtain ⟨k2, e2, g2, _⟩ := DataW.trod_int Tryz.underlying3 f2
     cases e0; cases e1; cases e2
     subst g0; subst g1; subst g2
     refine ⟨⟨s, k1, k2⟩, by rw [hy]; rfl, fun r => ?_⟩
     simp only [fmP, zaG, zaY, List.cons_append]
     exact ⟨_, _, rfl, rfl, _, _, rfl, rfl, _, _, rfl, rfl, trivial⟩
theorem zoG {W : World} (h : laidMetH Tryz.prog [("candling/host.forms", Rows.laid_candling_host_forms)] W) (g : Nat) (s : SV) (hs : GG g = some s) : rel (fun _ => none) W (zfN W) s (.pointer (some ⟨g, 0, none⟩)) := by
 match g, hs with
 | 0, hs =>
   cases hs
   rw [MakeChecks.laidMetH_plain _ _ _ (by kernel_rfl)] at h
   obtain ⟨ps, ⟨g0, t0, cs0, f0, p0, q0, hg0, ht0, hv0, hd0, _, _⟩, _, _⟩ := h
   obtain rfl := Option.some.inj (zqy.symm.trans hg0)
   obtain rfl := Option.some.inj (zz4.symm.trans ht0)
   rw [zDn] at hd0
   obtain ⟨xs, m, rfl, hx, hl, hn, hel⟩ := DataW.trod_array Tryz.underlying189 hd0
   rw [zDe] at hl
   simp only [Prod.mk.injEq, DataW.agg.injEq] at hx
   have hx := hx.1
   have hh : ∃ T fz, W.heap[0]? = some (.cells cs0 T fz) := by
    simp only [World.var?, zqy, Option.bind_some] at hv0
    split at hv0
    . next cs T fz e => cases hv0; exact ⟨T, fz, e⟩
    . cases hv0
   obtain ⟨T, fz, hh⟩ := hh
   simp only [rel]
   refine ⟨0, 0, cs0, T, fz, rfl, (Array.getElem?_eq_some_iff.1 hh).1, hh, ?_⟩
   rw [List.drop_zero]
   refine zjH fun i e he => ?_
   have hi : i < 46 := by
    have := (List.getElem?_eq_some_iff.1 he).1
    rw [List.length_map] at this
    exact this
   have h1 := hel i hi
   rw [ztM, List.getElem?_eq_getElem (by omega)] at h1
   obtain ⟨f, e1, e2⟩ := zxT _ _ _ h1
   have h3 : (xs.map (·.1))[i]? = some (fmD f) := by rw [List.getElem?_map, List.getElem?_eq_getElem (by omega), Option.map_some, e1]
   rw [<- hx, List.getElem?_map] at h3
   rw [List.getElem?_map] at he
   cases hq : zc8[i]? with
   | none => rw [hq] at he; cases he
   | some f' =>
     rw [hq] at he h3
     have : f' = f := zvP (by simpa using h3)
     subst this
     have he : fmP f' = e := Option.some.inj he
     subst he
     refine ⟨rfl, ?_⟩
     have := e2 ((cs0.toList.drop (i * 3)).drop 3)
     rw [List.take_append_drop] at this
     exact this
end Go.Proofs.YtlahifihaeafbaaGreatDoor
