/- Part 5 of 11 of a proof of the law AllocLive: what the last part leans on. -/
import Derived.Test.YtlahifihaeafbaaGreatDoorZd
import Derived.Test.YtlahifihaeafbaaGreatDoorProg
set_option linter.all false
set_option maxRecDepth 100000
namespace Go.Sx
open Go
open Classical
def mTs (ρ : Ren) : List (Nat × SV) -> (Ren -> RT) -> RT
 | [], f => f ρ
 | (t, p) :: l, f => .rT t fun o => match o with
   | none => .fail
   | some c => mSV ρ p c fun ρ => mTs ρ l f
def zf8 : List (Nat × Option SO) -> List (Nat × SO)
 | [] => []
 | (i, some o) :: l => (i, o) :: zf8 l
 | (_, none) :: l => zf8 l
def zfB (m : Nat) : List (Nat × Option Nat) -> Bool
 | [] => true
 | (i, some j) :: l => match Nat.blt i m with | true => (match Nat.beq i j with | true => zfB m l | false => false) | false => zfB m l
 | (i, none) :: l => match Nat.blt i m with | true => false | false => zfB m l
def zkH (m nx : Nat) (ρ : Ren) : RT :=
 match zgc ρ ρ.bor, zgO nx ρ.m, zfB m ρ.m with
 | true, true, true => .done none [] 0
 | _, _, _ => .fail
def idL : Nat -> List (Nat × Option Nat)
 | 0 => []
 | m + 1 => (m, some m) :: idL m
theorem zjO : ∀ {m i : Nat} {q : Option Nat}, zao i (idL m) = some q -> q = some i
 | 0, i, q, h => by simp [idL, zao] at h
 | m + 1, i, q, h => by
   simp only [idL] at h
   rw [zaJ] at h
   split at h
   . rename_i e; subst e; cases h; rfl
   . exact zjO h
theorem zvh (m : Nat) : (⟨idL m, []⟩ : Ren).inj := fun i i' j h h' => by
 have a := zjO h
 have b := zjO h'
 rw [a] at b
 exact Option.some.inj b
def zqL (m : Nat) (s' : St) : RT :=
 match Nat.ble m s'.nx with
 | true => mTs ⟨idL m, []⟩ s'.t fun ρ => zgh ρ (zf8 s'.o) fun ρ => zkH m s'.nx ρ
 | false => .fail
def zli (m : Nat) (s s' : St) : Prop := (zqL m s').vc (zaO s.t) (zax s.o) [] fun _ _ _ _ => True
theorem znZ {gt : GT} {go : GO} : ∀ (l : List (Nat × SV)) {ρ : Ren} {f : Ren -> RT} {R v os k}, (mTs ρ l f).Runs gt go R v os k -> ∃ ρ' R', (f ρ').Runs gt go R' v os k /\ ρ.le ρ' /\ (ρ.inj -> ρ'.inj) ∧
 ∀ t p, (t, p) ∈ l -> ∃ c, gt t = some c /\ ∀ ρ2, ρ'.le ρ2 -> ∀ {β own S w Sp}, Fit go ρ2 β own S w Sp -> ∀ sp x, rel β w S c x -> rel (bOf ρ2 β sp) w Sp p x
  | [], ρ, f, R, v, os, k, h => ⟨ρ, _, h, .refl _, id, fun _ _ h => by cases h⟩
  | (t, p) :: l, ρ, f, R, v, os, k, h => by
    simp only [mTs] at h
    cases h with
    | rT h =>
      dsimp only at h
      split at h
      . cases h
      . rename_i c hc
        obtain ⟨ρ1, R1, h, l1, i1, m1⟩ := zdV _ h
        obtain ⟨ρ2, R2, h, l2, i2, m2⟩ := znZ l h
        refine ⟨ρ2, R2, h, l1.trans l2, fun e => i2 (i1 e), fun t' p' hp => ?_⟩
        rcases List.mem_cons.1 hp with e | hp
        . cases e
          exact ⟨c, hc, fun ρ3 l3 => m1 ρ3 (l2.trans l3)⟩
        . exact m2 t' p' hp
theorem zck {m : Nat} : ∀ {l : List (Nat × Option Nat)}, zfB m l = true -> ∀ i q, i < m -> zao i l = some q -> q = some i
 | [], _, i, q, _, h => by simp [zao] at h
 | (k, some j) :: l, h, i, q, hi, e => by
   simp only [zfB] at h
   rw [zaJ] at e
   by_cases hk : k = i
   . subst hk
     rw [if_pos rfl] at e
     have : Nat.blt k m = true := by rw [Nat.blt_eq]; exact hi
     rw [this] at h
     simp only at h
     split at h
     . rename_i hj
       rw [<- Option.some.inj e, Nat.eq_of_beq_eq_true hj]
     . cases h
   . rw [if_neg hk] at e
     have h' : zfB m l = true := by
      split at h
      . split at h
        . exact h
        . cases h
      . exact h
     exact zck h' i q hi e
 | (k, none) :: l, h, i, q, hi, e => by
   simp only [zfB] at h
   rw [zaJ] at e
   split at h
   . cases h
   . rename_i hk
     by_cases hk' : k = i
     . subst hk'
       have : Nat.blt k m = true := by rw [Nat.blt_eq]; exact hi
       rw [this] at hk; cases hk
     . rw [if_neg hk'] at e
       exact zck h i q hi e
theorem zgv {gt : GT} {go : GO} {m nx : Nat} {ρ : Ren} {R v os k} (h : (zkH m nx ρ).Runs gt go R v os k) :
 zgc ρ ρ.bor = true /\ zgO nx ρ.m = true /\ zfB m ρ.m = true := by
  unfold zkH at h
  split at h
  . rename_i h1 h2 h3; exact ⟨h1, h2, h3⟩
  . cases h
theorem zd2 : ∀ {l : List (Nat × Option SO)} {i : Nat} {o : SO}, zax l i = some o -> zao i (zf8 l) = some o
 | [], i, o, h => by simp [zax, zao] at h
 | (k, some x) :: l, i, o, h => by
   simp only [zax, zaJ] at h
   simp only [zf8]
   rw [zaJ]
   by_cases hk : k = i
   . rw [if_pos hk] at h ⊢; exact h
   . rw [if_neg hk] at h ⊢; exact zd2 h
 | (k, none) :: l, i, o, h => by
   simp only [zax, zaJ] at h
   simp only [zf8]
   by_cases hk : k = i
   . rw [if_pos hk] at h; cases h
   . rw [if_neg hk] at h; exact zd2 h
theorem zaw.sub {β own S w} {go go' : GO} (h : zaw β own S go w) (hs : ∀ i o, go' i = some o -> go i = some o) : zaw β own S go' w := by
 have hsome : ∀ i, (go' i).isSome -> (go i).isSome := fun i hi => by
  obtain ⟨o, ho⟩ := Option.isSome_iff_exists.1 hi
  simp [hs i o ho]
 exact ⟨fun i o e => h.obj i o (hs i o e), fun i j b hne hi hj => h.sep i j b hne (hsome i hi) (hsome j hj), fun i b hi => h.st i b (hsome i hi), h.sz⟩
def zlh (l : List (Nat × SO)) : Nat -> Nat := fun i =>
 match zao i l with
 | some (.vec s _) => s
 | some (.arr s _) => s
 | _ => 0
theorem zi5 {C : Ctx} {gt : GT} {go : GO} {β own S a w} (H : zah C gt go β own S a w) {ρ : Ren} (hinj : ρ.inj) (l : List (Nat × SO)) (hl : ∀ p ∈ l, OIs go ρ p.1 p.2)
 (hb : zgc ρ ρ.bor = true) : zaw (bOf ρ β (zlh l)) (zcc ρ own) (fun b => S b \/ zgL go ρ own b) (fun i => zao i l) w ∧
  (∀ i b, (zao i l).isSome -> zcc ρ own i b -> ∃ j, (go j).isSome /\ own j b) /\ (∀ b, zgL go ρ own b -> ∃ j, (go j).isSome /\ own j b) := by
  refine ⟨zl4 H.mem hinj l hl (fun i j e hj => zhm hb j hj i e) (fun i o e e' r s ho hr => ?_), fun i b hi hb => ?_, fun b ⟨j, _, h1, h2⟩ => ⟨j, h1, h2⟩⟩
  . subst ho
    simp only [zlh, e]
    cases r <;> rfl
  . obtain ⟨o, ho⟩ := Option.isSome_iff_exists.1 hi
    rcases hl _ (zcn ho) with ⟨j, c, h1, h2, _⟩ | ⟨h1, _⟩
    . simp only [zcc, h1] at hb
      exact ⟨j, by simp [h2], hb⟩
    . simp [zcc, h1] at hb
theorem zli.holds {C : Ctx} {s s' : St} (h : zli C.m0 s s') {β own S a w} (H : zaA C s β own S a w) : ∃ β' own' S', zaA C s' β' own' S' a w := by
 obtain ⟨R, v, os, k, h, _⟩ := RT.runs_of_vc _ _ _ h
 unfold zqL at h
 split at h
 case h_2 => cases h
 rename_i hm0
 have hm0 : C.m0 <= s'.nx := by simpa using hm0
 obtain ⟨ρ1, R1, h, l1, i1, m1⟩ := znZ _ h
 obtain ⟨ρ2, R2, h, l2, i2, m2⟩ := zdF _ h
 obtain ⟨h1, h2, h3⟩ := zgv h
 have hinj : ρ2.inj := i2 (i1 (zvh _))
 obtain ⟨hmem, hown, hlent⟩ := zi5 H.h hinj _ m2 h1
 refine ⟨bOf ρ2 β (zlh (zf8 s'.o)), zcc ρ2 own, fun b => S b \/ zgL (zax s.o) ρ2 own b, ⟨fun t p e => ?_, hmem.sub (fun i o e => zd2 e), H.h.fr, fun id b hi hb => ?_, fun b hb => .inl (H.h.s0 b hb), fun b hb => ?_, H.h.n, ?_, fun g s e => zaH ⟨fun _ _ e => e, fun _ e => .inl e, fun _ _ => rfl⟩ _ _ (H.h.gl g s e)⟩,
  fun i hi => by simp [bOf, zdW h2 i hi], hm0, fun i B hi e => ?_⟩
 . obtain ⟨c, hc, hr⟩ := m1 t p (zcn e)
   exact hr ρ2 l2 (zeT H.h.mem) _ _ (H.h.tm t c hc)
 . obtain ⟨o, ho⟩ := Option.isSome_iff_exists.1 hi
   obtain ⟨j, q1, q2⟩ := hown id b (by rw [zd2 ho]; rfl) hb
   exact H.h.own0 j b q1 q2
 . rcases hb with hb | hb
   . exact H.h.s1 b hb
   . obtain ⟨j, q1, q2⟩ := hlent b hb
     exact .inr (H.h.own0 j b q1 q2)
 . obtain ⟨hdf, hms⟩ := H.h.df
   refine ⟨⟨hdf.nd, fun d hd => ?_⟩, hms⟩
   obtain ⟨D, e1, e2, e3, e4, e5⟩ := hdf.at_ d hd
   refine ⟨D, e1, e2, e3, fun e => ?_, fun id hi hb => ?_⟩
   . rcases e with e | e
     . exact e4 e
     . obtain ⟨j, q1, q2⟩ := hlent D e
       exact e5 j q1 q2
   . obtain ⟨o, ho⟩ := Option.isSome_iff_exists.1 hi
     obtain ⟨j, q1, q2⟩ := hown id D (by rw [zd2 ho]; rfl) hb
     exact e5 j q1 q2
 . simp only [bOf] at e
   split at e
   . rename_i j hj
     have := zck h3 i _ hi hj
     cases this
     exact H.b0 i B hi e
   . rename_i hj
     have := zck h3 i _ hi hj
     cases this
   . cases e
def Ex.blk (id : Nat) (K : Ex -> St -> Prop) : Ex -> St -> Prop
 | .nrm, s => K .nrm s
 | .exit i, s => match Nat.beq i id with | true => K .nrm s | false => K (.exit i) s
 | .ret, s => K .ret s
 | .pan v, s => K (.pan v) s
abbrev Rn := St -> (Ex -> St -> Prop) -> Prop
def zGa (m : Nat) (A B : Rn) (s : St) (K : Ex -> St -> Prop) : zfk -> Prop
 | .plain => A s (Ex.then (fun s' => B s' K) K)
 | .cut _ I inv => A s (Ex.then (fun s' => ∃ c, zli m s' (inv c) /\ Sd (I c)) K) /\ ∀ c, I c -> B (inv c) K
 | .cutr _ I inv => A s (Ex.then (fun s' => ∃ c, zli m s' (inv c) /\ Sd (I s c)) K) /\ ∀ c, I s c -> B (inv c) K
def zkr (A : Rn) (K : Ex -> St -> Prop) : Nat -> St -> Prop
 | 0, _ => False
 | k + 1, s => A s (Ex.then (zkr A K k) K)
def Loop (m : Nat) (A : Rn) (s : St) (K : Ex -> St -> Prop) : zbO -> Prop
 | .inv _ I inv μ => ∃ c0, zli m s (inv c0) /\ Sd (I c0 c0) /\ ∀ c, I c0 c -> A (inv c) (Ex.then (fun s' => ∃ c', zli m s' (inv c') /\ Sd (I c0 c' /\ μ c' < μ c)) K)
 | .rounds k => zkr A K k s
def zqY (E : Env) (x : X) (s : St) (A B : Prop) : Prop :=
 match rdX s.t x with
 | some .tt => A
 | some .ff => B
 | some (.bool b) => (b = true -> A) /\ (b = false -> B)
 | some (.pr p) => (p -> A) /\ (¬ p -> B)
 | _ => False
def zg5 (N : Nat) : List Nat -> List SV -> List (Nat × SV) -> (List (Nat × SV) -> Prop) -> Prop
 | [], [], t, K => K t
 | p :: ps, v :: vs, t, K => match Nat.blt p N with | true => fSV v fun v => zg5 N ps vs ((p, v) :: t) K | false => False
 | _, _, _, _ => False
def zj8 (o : List (Nat × Option SO)) (id l : Nat) (r : _root_.Go.Loop) (busy : Bool) (K : Prop) : Prop :=
 match zax o id with
 | some (.lrec l' r' e) => match e, busy with
   | .ready, false => Sd (l' = l /\ r' = r) /\ K
   | .busy, true => Sd (l' = l /\ r' = r) /\ K
   | _, _ => False
 | _ => False
def zmB (id l : Nat) (r : _root_.Go.Loop) (K : Bool -> List (Nat × Option SO) -> Nat -> Prop) (ex : Ex) (s : St) : Prop :=
 match s with
 | ⟨_, o, nx⟩ => zj8 o id l r true (match ex with
   | .nrm => K true ((id, some (.lrec l r .ready)) :: o) nx
   | .ret => K false ((id, some (.lrec l r (.done .ret))) :: o) nx
   | .exit i => K false ((id, some (.lrec l r (.done (.exit i)))) :: o) nx
   | .pan _ => False)
def zxS (id l : Nat) (r : _root_.Go.Loop) (B : Rn) (K : Bool -> List (Nat × Option SO) -> Nat -> Prop) (s : St) : Prop :=
 match s with
 | ⟨t, o, nx⟩ => zj8 o id l r false (B ⟨t, (id, some (.lrec l r .busy)) :: o, nx⟩ (zmB id l r K))
def zpw (E : Env) (ps : List Nat) (t0 : List (Nat × SV)) (id l : Nat) (r : _root_.Go.Loop) (A B : Env -> Rn) (vs : List SV) (o : List (Nat × Option SO)) (nx : Nat) (K : Bool -> List (Nat × Option SO) -> Nat -> Prop) : Prop :=
 zj8 o id l r false (zg5 E.N ps vs t0 fun t => zb8 nx fun nx =>
  A { E with rnd := some l, m0 := nx, Y := none } ⟨t, o, nx⟩ (Ex.then (zxS id l r (B { E with rnd := some l, m0 := nx, Y := none }) K) fun _ _ => False))
def zrj (id : Nat) (t0 : List (Nat × SV)) (K : Ex -> St -> Prop) (ex : Ex) (s : St) : Prop :=
 match s with
 | ⟨_, o, nx⟩ => match (match ex with | .nrm => true | .ret => true | _ => false) with
   | false => False
   | true => match zax o id with
     | some (.lrec _ _ e) => match e with
       | .ready => K .nrm ⟨t0, (id, none) :: o, nx⟩
       | .done (.ret) => K .ret ⟨t0, (id, none) :: o, nx⟩
       | .done (.exit i) => K (.exit i) ⟨t0, (id, none) :: o, nx⟩
       | _ => False
     | _ => False
def run (E : Env) : MC -> Rn
 | .skip, s, K => K .nrm s
 | .reg l, s, K => ziY E l s K
 | .drw l pre, s, K => zmF E l s [] fun es s' => Sd (zbH pre es = true) /\ K .nrm s'
 | .seq a b, s, K => run E a s (Ex.then (fun s => run E b s K) K)
 | .join n a b, s, K => zGa E.m0 (run E a) (run E b) s K (E.J n)
 | .cond x a b, s, K => zqY E x s (run E a s K) (run E b s K)
 | .blk id a, s, K => run E a s (Ex.blk id K)
 | .loop n a, s, K => Loop E.m0 (run E a) s K (E.L n)
 | .exit id, s, K => K (.exit id) s
 | .ret, s, K => K .ret s
 | .gh g a, s, K => zro g s fun s => run E a s K
 | .rng f ps a b n N it, s, K => match s with
   | ⟨t, o, nx⟩ => match E.rnd with
     | some _ => False
     | none => match rdX t f with
       | some (.fn (.func n') fa fc) => match Nat.beq n' n, Nat.ble (fa.length + 1 + fc.length) N with
         | true, true => ∀ (l : Nat) (r : _root_.Go.Loop), zgy (fa ++ .fn (.yield l) [] [] :: fc) fun args => zb8 (nx + 1) fun nx1 =>
           run { E with N := N, m0 := nx1, L := fun i => E.L (100 + i), J := fun i => E.J (100 + i), Y := some ⟨l, zpw E ps t nx l r (fun E => run E a) (fun E => run E b)⟩ } it ⟨zbs args 0, (nx, some (.lrec l r .ready)) :: o, nx1⟩ (zrj nx t K)
         | _, _ => False
       | _ => False
structure ziN (C : Ctx) (ops : Array Oper) (ms : List MOp) : Prop where
 len : ops.size = ms.length
 ok : ∀ t (_ : t < ops.size) (h' : t < ms.length), ∃ o, ops[t]? = some o /\ zds C ops o ms[t]
structure ztu (ops : Array Oper) (pre : List (List Nat)) : Prop where
 ok : ∀ j o, ops[j]? = some o -> ∀ p, p ∈ pre.getD j [] ↔ ∃ e ∈ o.after, Region.binds .any e = true /\ e.on = p
 lt : ∀ j p, p ∈ pre.getD j [] -> p < j
inductive zbp (P : Program) : Code -> MC -> Prop
 | skip : zbp P .skip .skip
 | reg {id ops ms} (h : ∀ C : Ctx, C.P = P -> ziN C ops ms) : zbp P (.region id ops false) (.reg ms)
 | drw {id ops ms pre} (h : ∀ C : Ctx, C.P = P -> ziN C ops ms) (hd : ztu ops pre) : zbp P (.region id ops true) (.drw ms pre)
 | seq {a b a' b'} (h1 : zbp P a a') (h2 : zbp P b b') : zbp P (.seq a b) (.seq a' b')
 | join {n a b a' b'} (h1 : zbp P a a') (h2 : zbp P b b') : zbp P (.seq a b) (.join n a' b')
 | cond {x a b a' b'} (h1 : zbp P a a') (h2 : zbp P b b') : zbp P (.cond x a b) (.cond (cX x) a' b')
 | blk {id a a'} (h : zbp P a a') : zbp P (.block id a) (.blk id a')
 | loop {n a a'} (h : zbp P a a') : zbp P (.loop a) (.loop n a')
 | exit {id} : zbp P (.exit id) (.exit id)
 | ret : zbp P .ret .ret
 | rng {f ps a b a' b' n N it fn code} (h1 : zbp P a a') (h2 : zbp P b b') (hf : P.funcs[n]? = some fn) (hb : fn.body = some code) (hN : fn.ntmps = N) (hr : fn.results = #[])
  (he : zdz P n) (h3 : zbp P code it) : zbp P (.rangeFunc f ps a b) (.rng (cX f) ps.toList a' b' n N it)
 | gh {g a a'} (h : zbp P a a') : zbp P a (.gh g a')
inductive zej (F : Fence) (n : Nat) (P : Program) (c : Code) (Q : Exit -> Act -> World -> Prop) : Act -> World -> Prop
 | mk {a w} (W : Act -> World -> Prop) (h : c.wpIn F n P (Exit.then W Q) a w) (hw : ∀ a' w', W a' w' -> zej F n P c Q a' w') : zej F n P c Q a w
theorem zej.wp {F : Fence} {n : Nat} {P : Program} {c : Code} {Q : Exit -> Act -> World -> Prop} {a : Act} {w : World} (h : zej F n P c Q a w) : (Code.loop c).wpIn F n P Q a w := by
 intro b k cs hro hb hr
 have key : ∃ e a' w', Q e a' w' /\ ArrivesIn (Machine.fenced P F) P (lone (b.atR a (.code c :: .inLoop c :: k)) cs w) b k cs e a' w' := by
  induction h with
  | mk W h hw ih =>
    obtain ⟨e, a₁, w₁, hq, harr⟩ := h b (.inLoop c :: k) cs hro hb hr
    cases e with
    | normal =>
      obtain ⟨e₂, a₂, w₂, hq₂, harr₂⟩ := ih a₁ w₁ hq
      exact ⟨e₂, a₂, w₂, hq₂, .of_steps (StepsIn.trans harr (.one (fenced_calm hb hr rfl) stepR_inLoop)) harr₂⟩
    | exit id => exact ⟨_, a₁, w₁, hq, .pass (x := .inLoop c) rfl (fun _ _ => .inl (by simp)) harr⟩
    | goto l => exact ⟨_, a₁, w₁, hq, .pass (x := .inLoop c) rfl (fun _ _ => .inl (by simp)) harr⟩
    | ret => exact ⟨_, a₁, w₁, hq, .pass (x := .inLoop c) rfl (fun _ _ => .inl (by simp)) harr⟩
    | panic ch => exact ⟨_, a₁, w₁, hq, .pass (x := .inLoop c) rfl (fun _ _ => .inl (by simp)) harr⟩
    | outgrown => exact ⟨_, a₁, w₁, hq, .pass (x := .inLoop c) rfl (fun _ _ => .inl (by simp)) harr⟩
 obtain ⟨e, a', w', hq, harr⟩ := key
 exact ⟨e, a', w', hq, .of_steps (.one (fenced_calm hb hr rfl) stepR_loop) harr⟩
theorem zdP {C : Ctx} {f : St -> Prop} {K : Ex -> St -> Prop} {W : Act -> World -> Prop} {Q : Exit -> Act -> World -> Prop} (hf : ∀ s β own S a w, f s -> zaA C s β own S a w -> W a w)
 (hQ : ∀ e a w, post C K e a w -> Q e a w) : ∀ e a w, post C (Ex.then f K) e a w -> Exit.then W Q e a w := by
  intro e a w hp
  cases e with
  | normal => obtain ⟨s, β, own, S, h1, h2⟩ := hp; exact hf s β own S a w h1 h2
  | exit i => exact hQ (.exit i) a w hp
  | ret => exact hQ .ret a w hp
  | goto l => exact hp.elim
  | panic c => exact hQ (.panic c) a w hp
  | outgrown => exact hp.elim
theorem zks {C : Ctx} (hY : ∀ y, C.Y = some y -> YOk C y) {ops : Array Oper} : ∀ (l : List Nat) (ms : List MOp) {s : St} {K : Ex -> St -> Prop}, l.length = ms.length →
 (∀ t (h : t < l.length) (h' : t < ms.length), ∃ o, ops[l[t]]? = some o /\ zds C ops o ms[t]) -> ziY C.toEnv ms s K -> ∀ {β own S a w}, zaA C s β own S a w →
 wpOpsIn (Wf C.rnd) 0 C.P ops (post C K) l a w
  | [], ms, s, K, hl, _, h, β, own, S, a, w, H => by
    have : ms = [] := by simpa using hl.symm
    subst this
    exact ⟨s, β, own, S, h, H⟩
  | i :: l, ms, s, K, hl, hp, h, β, own, S, a, w, H => by
    cases ms with
    | nil => simp at hl
    | cons m ms =>
      obtain ⟨o, ho, hm⟩ := hp 0 (by simp) (by simp)
      simp at ho hm
      simp only [ziY] at h
      simp only [wpOpsIn, ho]
      have key := zrk (Q := post C K) (next := wpOpsIn (Wf C.rnd) 0 C.P ops (post C K) l) hY hm h H (fun s' β' own' S' a' w' hk H' =>
       zks hY l ms (by simpa using hl) (fun t ht ht' => hp (t + 1) (Nat.succ_lt_succ ht) (Nat.succ_lt_succ ht')) hk H')
       (fun v x s' β' own' S' a' w' hk H' hx => ⟨s', β', own', S', v, x, rfl, hk, H', hx⟩)
      split
      . rename_i hw; rw [if_pos hw] at key; exact key
      . rename_i hw; rw [if_neg hw] at key; exact ⟨fun _ _ => trivial, key⟩
theorem zoa (D : Nat -> Bool) (hD : ∀ i, D i = false) : ∀ (es : List Ent) (i0 : Nat) (gt : GT), zbV D gt es i0 = gt
 | [], _, _ => rfl
 | e :: es, i0, gt => by simp only [zbV, hD]; exact zoa D hD es _ _
theorem zoh (D : Nat -> Bool) (hD : ∀ i, D i = false) : ∀ (es : List Ent) (i0 : Nat) (go : GO), zbU D go es i0 = go
 | [], _, _ => rfl
 | e :: es, i0, go => by simp only [zbU, hD]; exact zoh D hD es _ _
theorem zes {o : List (Nat × Option SO)} {id l : Nat} {r : _root_.Go.Loop} {busy : Bool} {K : Prop} (h : zj8 o id l r busy K) : zax o id = some (.lrec l r (match busy with | true => .busy | false => .ready)) /\ K := by
 unfold zj8 at h
 split at h
 . rename_i l' r' e hg
   split at h
   . obtain ⟨⟨h1, h2⟩, h3⟩ := h; subst h1; subst h2; exact ⟨hg, h3⟩
   . obtain ⟨⟨h1, h2⟩, h3⟩ := h; subst h1; subst h2; exact ⟨hg, h3⟩
   . exact h.elim
 . exact h.elim
def ze5 (l : List (Nat × Value)) (tmps : Array Value) : Array Value := l.foldl (fun tm p => tm.setIfInBounds p.1 p.2) tmps
theorem zkI : ∀ (l : List (Nat × Value)) (tmps : Array Value), (ze5 l tmps).size = tmps.size
 | [], _ => rfl
 | p :: l, tmps => by
   have := zkI l (tmps.setIfInBounds p.1 p.2)
   simp only [ze5, List.foldl] at this ⊢
   rw [this]; simp
theorem zj2 {N : Nat} : ∀ {ps : List Nat} {vs : List SV} {t : List (Nat × SV)} {K : List (Nat × SV) -> Prop}, zg5 N ps vs t K -> ps.length = vs.length /\ ∃ t', K t' ∧
 ∀ {β w S xs} {tmps : Array Value}, zal β w S vs xs -> tmps.size = N -> (∀ i v, zao i t = some v -> rel β w S v (tmps.getD i undef)) -> ∀ i v, zao i t' = some v -> rel β w S v ((ze5 (ps.zip xs) tmps).getD i undef)
  | [], [], t, K, h => ⟨rfl, t, h, fun _ _ ht => by simpa [ze5] using ht⟩
  | [], _ :: _, t, K, h => by simp [zg5] at h
  | _ :: _, [], t, K, h => by simp [zg5] at h
  | p :: ps, v :: vs, t, K, h => by
    simp only [zg5] at h
    split at h
    . rename_i hb
      rw [zff] at h
      have hlt : p < N := by rw [Nat.blt_eq] at hb; exact hb
      obtain ⟨h1, t', h2, h3⟩ := zj2 h
      refine ⟨by simp [h1], t', h2, fun {β w S xs tmps} hx hs ht => ?_⟩
      simp only [zal] at hx
      obtain ⟨y, ys, rfl, hy, hys⟩ := hx
      have := h3 (tmps := tmps.setIfInBounds p y) hys (by simpa using hs) (fun i u hu => by
       rw [zaJ] at hu
       rw [Array.getD_eq_getD_getElem?, Array.getElem?_setIfInBounds]
       by_cases e : p = i
       . subst e
         rw [if_pos rfl] at hu ⊢
         cases hu
         rw [if_pos (by omega)]
         exact hy
       . rw [if_neg e] at hu ⊢
         have := ht i u hu
         rwa [Array.getD_eq_getD_getElem?] at this)
      simpa [ze5] using this
    . exact h.elim
theorem zgQ {C : Ctx} {s : St} {β own S a w} (H : zaA C s β own S a w) {id l : Nat} {r : _root_.Go.Loop} {e : LSt} (hg : zax s.o id = some (.lrec l r e)) :
 ∃ B, β id = some B /\ B.blk = some l /\ own id = zcv l /\ w.heap[l]? = some (.loop (zbS r e)) := by
  obtain ⟨B, h1, h2, h3, h4⟩ := H.h.mem.obj _ _ hg
  exact ⟨B, h1, h2, h3, h4⟩
theorem zjK {C : Ctx} {s : St} {β own S a w} (H : zaA C s β own S a w) {id l : Nat} {r : _root_.Go.Loop} {e : LSt} (hg : zax s.o id = some (.lrec l r e)) (e' : LSt) :
 zaA C ⟨s.t, (id, some (.lrec l r e')) :: s.o, s.nx⟩ β own S a (w.putObj l (.loop (zbS r e'))) := by
  obtain ⟨B, h1, h2, h3, h4⟩ := zgQ H hg
  have hlt := (Array.getElem?_eq_some_iff.1 h4).1
  refine ⟨?_, H.fresh, H.m0, H.b0⟩
  simp only [zc0]
  have := H.h.set hg (w' := w.putObj l (.loop (zbS r e'))) (o := .lrec l r e') h1 (by simp) (fun b hb => World.putObj_heap_other (fun q => hb (by rw [h3, q]; rfl))) rfl rfl rfl (fun x => ⟨h2, h3, World.putObj_heap_same hlt⟩)
   none undef none (fun d s e => by cases e) (fun _ => .inl rfl)
  exact this
theorem zuQ {P : Program} {C C1 : Ctx} {a' b' : MC} {assign body : Code} (hPC : C.P = P) (hPC1 : C1.P = P) (hG : C1.G = C.G) (hr1 : C1.rnd = none)
 (ihA : ∀ {C : Ctx}, C.P = P -> (∀ y, C.Y = some y -> YOk C y) -> ∀ {s : St} {K : Ex -> St -> Prop}, run C.toEnv a' s K -> ∀ {β own S a w}, zaA C s β own S a w -> assign.wpIn (Wf C.rnd) 0 C.P (post C K) a w)
 (ihB : ∀ {C : Ctx}, C.P = P -> (∀ y, C.Y = some y -> YOk C y) -> ∀ {s : St} {K : Ex -> St -> Prop}, run C.toEnv b' s K -> ∀ {β own S a w}, zaA C s β own S a w -> body.wpIn (Wf C.rnd) 0 C.P (post C K) a w)
 {t0 : List (Nat × SV)} {id : Nat} (hm0 : C1.m0 = id + 1) (hβ1 : ∀ i, id + 1 <= i -> C1.β0 i = none) {tmps : Array Value} (hsz : tmps.size = C.N)
 (ht0 : ∀ i v, zao i t0 = some v -> rel C1.β0 C1.w0 C1.S0 v (tmps.getD i undef)) (hS0 : ∀ b, C1.S0 b -> b < C1.w0.heap.size /\ ¬ C1.X0 b)
 {l D : Nat} {ps : Array Nat} {fn : FuncId} : 
 YOk C1 ⟨l, zpw C.toEnv ps.toList t0 id l { state := .ready, pending := none, fn, tmps, params := ps, assign, body, defers := D } (fun E => run E a') (fun E => run E b')⟩ := by
  subst hPC
  generalize hrec : ({ state := .ready, pending := none, fn, tmps, params := ps, assign, body, defers := D } : _root_.Go.Loop) = r
  intro vs t o nx K hy β2 own2 S2 a2 w2 xs H2 hxs
  simp only [zpw] at hy
  obtain ⟨hg, hy⟩ := zes hy
  obtain ⟨hlen, t', hy, htmp⟩ := zj2 hy
  rw [zbi] at hy
  obtain ⟨B, q1, q2, q3, q4⟩ := zgQ H2 hg
  have hr0 : zbS r .ready = r := by rw [<- hrec]; rfl
  simp only at q4
  rw [hr0] at q4
  have hxl := zaM _ _ hxs
  have hyr := run_yield (P := C1.P) (args := xs.toArray) q4 (by rw [<- hrec]; simp at hlen ⊢; omega)
  refine ⟨fn, ze5 (ps.toList.zip xs) tmps, assign, body, ?_, ?_⟩
  . rw [hyr]
    have : (r.params.zip xs.toArray).foldl (fun tmps (x : Nat × Value) => match x with | (t, a) => tmps.setIfInBounds t a) r.tmps = ze5 (ps.toList.zip xs) tmps := by
     rw [<- Array.foldl_toList, <- hrec]
     simp only [Array.toList_zip, List.toList_toArray, ze5]
    rw [<- this, <- hrec]
  . -- the round's own frame
    have m2 : C1.m0 <= nx := H2.m0
    let βp : Nat -> Option zaz := fun i => if i < id + 1 then C1.β0 i else β2 i
    have hβp : ∀ i B, β2 i = some B -> βp i = some B := fun i B e => by
     simp only [βp]
     by_cases h : i < id + 1
     . rw [if_pos h]; exact H2.b0 i B (by omega) e
     . rw [if_neg h]; exact e
    have hβ0 : ∀ i B, C1.β0 i = some B -> βp i = some B := fun i B e => by
     simp only [βp]
     by_cases h : i < id + 1
     . rw [if_pos h]; exact e
     . rw [hβ1 i (by omega)] at e; cases e
    have hfresh : ∀ i, nx <= i -> βp i = none := fun i hi => by
     simp only [βp]; rw [if_neg (by omega)]; exact H2.fresh i hi
    let C2 : Ctx := { toEnv := { C.toEnv with rnd := some l, m0 := nx, Y := none }, sok := C.sok, psok := C.psok, w0 := w2, X0 := zbg (zax o) own2, S0 := S2, β0 := βp }
    have x0 : Ext C1.β0 C1.w0 C1.S0 βp w2 S2 := ⟨hβ0, H2.h.s0, fun b hb => H2.h.fr.block b (hS0 b hb).1 (hS0 b hb).2⟩
    have hA : zaA C2 ⟨t', o, nx⟩ βp own2 S2 { tmps := ze5 (ps.toList.zip xs) tmps, defers := [] } w2 := by
     refine ⟨⟨?_, H2.h.mem.widen hβp, Fr.refl _ _, fun i b h1 h2 => .inl ⟨i, h1, h2⟩, fun _ e => e, fun _ e => .inl e, ?_, ⟨⟨by simp [mks], fun d hd => by simp [mks] at hd⟩, rfl⟩, ?_⟩, hfresh, Nat.le_refl _, fun i B _ e => e⟩
     . exact htmp (zbK ⟨hβp, fun _ e => e, fun _ _ => rfl⟩ _ _ hxs) hsz (fun i v e => zaH x0 _ _ (ht0 i v e))
     . show (ze5 _ _).size = C.N
       rw [zkI]; exact hsz
     . intro g s e
       exact H2.h.gl g s (by rw [hG]; exact e)
    have hY2 : ∀ y, C2.Y = some y -> YOk C2 y := fun y e => by cases e
    have back : ∀ (e : LSt) s3 β3 own3 S3 a3 w3, zaA C2 s3 β3 own3 S3 a3 w3 -> zax s3.o id = some (.lrec l r .busy) →
     ∃ β4, zaA C1 ⟨t, (id, some (.lrec l r e)) :: s3.o, s3.nx⟩ β4 own3 S3 a2 (w3.putObj l (.loop (zbS r e))) := by
      intro e s3 β3 own3 S3 a3 w3 H3 hg3
      have H4 := zjK H3 hg3 e
      obtain ⟨β4, b1, b2, b3, H5⟩ := zlO (H2.h.widen hβp) H4 rfl rfl rfl (fun i B e => e) hfresh
      refine ⟨β4, H5, b3, Nat.le_trans m2 H3.m0, fun i B hi e => ?_⟩
      rw [b2 i (Nat.lt_of_lt_of_le hi m2)] at e
      have hi' : i < id + 1 := by omega
      simp only [C2, βp, if_pos hi'] at e
      exact e
    rw [hr1, hPC1]
    refine roundIn_of_wpIn (F := Wf none) (n := 0) trivial ?_
    have wA := ihA (C := C2) rfl hY2 hy hA
    refine wpIn_mono wA (zdP (fun s2 β3 own3 S3 a3 w3 hf H3 => ?_) ?_)
    . simp only [zxS] at hf
      obtain ⟨hg3, hB⟩ := zes hf
      obtain ⟨_, _, _, _, p4⟩ := zgQ H3 hg3
      have hbr := run_beginRound (P := C.P) p4 (by rfl)
      refine ⟨_, hbr, ?_⟩
      have H4 := zjK H3 hg3 .busy
      have hbe : ({ zbS r .ready with state := .busy } : _root_.Go.Loop) = zbS r .busy := rfl
      rw [hbe]
      have wB := ihB (C := C2) rfl hY2 hB H4
      refine wpIn_mono wB ?_
      have fin : ∀ (jump : Option Code) (e : LSt) s5 β5 own5 S5 a5 w5, zaA C2 s5 β5 own5 S5 a5 w5 -> zax s5.o id = some (.lrec l r .busy) →
       ({ zbS r .busy with state := if jump.isNone then .ready else .done, pending := jump } : _root_.Go.Loop) = zbS r e -> K jump.isNone ((id, some (.lrec l r e)) :: s5.o) s5.nx →
       ∃ v w', (Instr.endRound l jump).run C.P w5 = .ok v w' /\ ∃ b o' nx' β' own' S', Ending.returned v = .returned (.bool b) /\ K b o' nx' /\ zaA C1 ⟨t, o', nx'⟩ β' own' S' a2 w' := by
        intro jump e s5 β5 own5 S5 a5 w5 H5 hg5 he hk
        obtain ⟨_, _, _, _, u4⟩ := zgQ H5 hg5
        have hen := run_endRound (P := C.P) jump u4
        rw [he] at hen
        obtain ⟨β6, H6⟩ := back e s5 β5 own5 S5 a5 w5 H5 hg5
        exact ⟨_, _, hen, _, _, _, _, _, _, rfl, hk, H6⟩
      intro ex a5 w5 hp
      cases ex with
      | normal =>
        obtain ⟨s5, β5, own5, S5, hk, H5⟩ := hp
        simp only [zmB] at hk
        obtain ⟨hg5, hk⟩ := zes hk
        exact fin none .ready s5 β5 own5 S5 a5 w5 H5 hg5 rfl hk
      | ret =>
        obtain ⟨s5, β5, own5, S5, hk, H5⟩ := hp
        simp only [zmB] at hk
        obtain ⟨hg5, hk⟩ := zes hk
        exact fin (some .ret) (.done .ret) s5 β5 own5 S5 a5 w5 H5 hg5 rfl hk
      | exit i =>
        obtain ⟨s5, β5, own5, S5, hk, H5⟩ := hp
        simp only [zmB] at hk
        obtain ⟨hg5, hk⟩ := zes hk
        exact fin (some (.exit i)) (.done (.exit i)) s5 β5 own5 S5 a5 w5 H5 hg5 rfl hk
      | panic ch =>
        obtain ⟨s5, β5, own5, S5, v, x, _, hk, _⟩ := hp
        simp only [zmB] at hk
        exact (zes hk).2.elim
      | goto i => exact hp.elim
      | outgrown => exact hp.elim
    . intro e a w hp
      cases e <;> simp only [post] at hp
      all_goals first | (obtain ⟨_, _, _, _, h, _⟩ := hp; exact h.elim) | (obtain ⟨_, _, _, _, _, _, _, h, _⟩ := hp; exact h.elim) | exact hp.elim
theorem zh0 {P : Program} (hmix : P.follows .mixedOrders = true) {code : Code} {mc : MC} (hmc : zbp P code mc) : ∀ {C : Ctx}, C.P = P -> (∀ y, C.Y = some y -> YOk C y) -> ∀ {s : St} {K : Ex -> St -> Prop}, run C.toEnv mc s K -> ∀ {β own S a w}, zaA C s β own S a w →
 code.wpIn (Wf C.rnd) 0 C.P (post C K) a w := by
  induction hmc with
  | skip => intro C hP hY s K h β own S a w H; exact wpIn_skip ⟨s, β, own, S, h, H⟩
  | exit => intro C hP hY s K h β own S a w H; exact wpIn_exit ⟨s, β, own, S, h, H⟩
  | ret => intro C hP hY s K h β own S a w H; exact wpIn_ret ⟨s, β, own, S, h, H⟩
  | reg hr =>
    intro C hP hY s K h β own S a w H
    have hr := hr C hP
    refine wpIn_region (zks hY (List.range _) _ (by simpa using hr.len) (fun t h1 h2 => ?_) h H)
    obtain ⟨o, h3, h4⟩ := hr.ok t (by simpa using h1) h2
    exact ⟨o, by simpa using h3, h4⟩
  | drw hr hd =>
    rename_i id ops ms pre
    intro C hP hY s K h β own S a w H
    simp only [run] at h
    have hr := hr C hP
    obtain ⟨es, s', hrun, ⟨hnc⟩, hk⟩ := zot (List.range ops.size) ms (by simpa using hr.len) (fun t h1 h2 => by
     obtain ⟨o, h3, h4⟩ := hr.ok t (by simpa using h1) h2
     exact ⟨o, by simpa using h3, h4⟩) h
    simp only [List.nil_append] at hnc hk
    refine wpIn_region_any (by rw [hP]; exact hmix) ?_
    have f0 : ∀ i, (Array.replicate ops.size false).getD i false = false := fun i => by simp [Array.getD_eq_getD_getElem?, Array.getElem?_replicate]; split <;> rfl
    refine zs2 hrun hnc hd.ok hd.lt (fun β' own' S' a' w' H' => ⟨s', β', own', S', hk, H'⟩) H.m0 H.b0 ops.size _ β own S a _ (by simp) (fun j p _ e => ?_) ?_ ?_ (fun id hid _ => H.fresh id hid) (fun _ _ => rfl)
    . have := f0 j; simp only at e; rw [this] at e; cases e
    . exact Nat.le_trans (List.length_filter_le _ _) (by simp)
    . rw [zoa _ f0, zoh _ f0]
      have := H.h.pure (w' := { w with drawn := w.drawn + 1 }) rfl rfl rfl rfl none undef none (fun d s e => by cases e) (fun _ => .inl rfl)
      simpa [zbe, Act.put] using this
  | seq _ _ ih1 ih2 =>
    intro C hP hY s K h β own S a w H
    simp only [run] at h
    exact wpIn_seq (wpIn_mono (ih1 hP hY h H) (zdP (fun s β own S a w hf H => ih2 hP hY hf H) (fun _ _ _ h => h)))
  | join _ _ ih1 ih2 =>
    intro C hP hY s K h β own S a w H
    simp only [run] at h
    rename_i n _ _ _ _ _ _
    cases hj : C.J n with
    | plain => rw [hj] at h; exact wpIn_seq (wpIn_mono (ih1 hP hY h H) (zdP (fun s β own S a w hf H => ih2 hP hY hf H) (fun _ _ _ h => h)))
    | cut γ I inv =>
    rw [hj] at h
    obtain ⟨h1, h2⟩ := h
    . refine wpIn_seq (wpIn_mono (ih1 hP hY h1 H) (zdP (fun s β own S a w hf H => ?_) (fun _ _ _ h => h)))
      obtain ⟨c, hw, ⟨hc⟩⟩ := hf
      obtain ⟨β', own', S', H'⟩ := hw.holds H
      exact ih2 hP hY (h2 c hc) H'
    | cutr γ I inv =>
    rw [hj] at h
    obtain ⟨h1, h2⟩ := h
    . refine wpIn_seq (wpIn_mono (ih1 hP hY h1 H) (zdP (fun s β own S a w hf H => ?_) (fun _ _ _ h => h)))
      obtain ⟨c, hw, ⟨hc⟩⟩ := hf
      obtain ⟨β', own', S', H'⟩ := hw.holds H
      exact ih2 hP hY (h2 c hc) H'
  | cond _ _ ih1 ih2 =>
    rename_i x ca cb ca' cb' _ _
    intro C hP hY s K h β own S a w H
    simp only [run, zqY] at h
    split at h
    . rename_i e
      have := zdT H e
      simp only [rel] at this
      exact wpIn_cond_true this (ih1 hP hY h H)
    . rename_i e
      have := zdT H e
      simp only [rel] at this
      exact wpIn_cond_false this (ih2 hP hY h H)
    . rename_i b e
      have := zdT H e
      simp only [rel] at this
      exact wpIn_cond_split this (fun hb => ih1 hP hY (h.1 hb) H) (fun hb => ih2 hP hY (h.2 hb) H)
    . rename_i p e
      have := zdT H e
      simp only [rel] at this
      obtain ⟨b, hb, hi⟩ := this
      exact wpIn_cond_split hb (fun e => ih1 hP hY (h.1 (hi.1 e)) H) (fun e => ih2 hP hY (h.2 (fun hp => by rw [hi.2 hp] at e; cases e)) H)
    . exact h.elim
  | gh _ ih =>
    intro C hP hY s K h β own S a w H
    simp only [run] at h
    obtain ⟨s', β', own', S', hk, H'⟩ := zCE h H
    exact ih hP hY hk H'
  | blk _ ih =>
    rename_i id ca ca' _
    intro C hP hY s K h β own S a w H
    simp only [run] at h
    refine wpIn_block (wpIn_mono (ih hP hY h H) fun e a w hp => ?_)
    cases e with
    | normal => exact hp
    | exit i =>
      obtain ⟨s, β, own, S, h1, h2⟩ := hp
      simp only [Ex.blk] at h1
      simp only [Exit.inBlock]
      by_cases hi : i = id
      . subst hi
        rw [if_pos rfl]
        simp at h1
        exact ⟨s, β, own, S, h1, h2⟩
      . rw [if_neg hi]
        have : Nat.beq i id = false := by cases e : Nat.beq i id with | false => rfl | true => exact absurd (Nat.eq_of_beq_eq_true e) hi
        rw [this] at h1
        exact ⟨s, β, own, S, h1, h2⟩
    | ret => exact hp
    | goto l => exact hp.elim
    | panic c => exact hp
    | outgrown => exact hp.elim
  | loop _ ih =>
    rename_i n ca ca' _
    intro C hP hY s K h
    simp only [run] at h
    have key : ∀ {β own S a w}, zaA C s β own S a w -> zej (Wf C.rnd) 0 C.P ca (post C K) a w := by
     cases hl : C.L n with
     | inv γ I inv μ =>
       rw [hl] at h
       obtain ⟨c0, hw0, ⟨hc0⟩, h1⟩ := h
       intro β own S a w H
       have go : ∀ (j : Nat) c, μ c = j -> I c0 c -> ∀ {β own S a w}, zaA C (inv c) β own S a w -> zej (Wf C.rnd) 0 C.P ca (post C K) a w := by
        intro j
        induction j using Nat.strongRecOn with
        | _ j ihj =>
          intro c hj hc β own S a w H
          refine .mk (fun a' w' => ∃ c', I c0 c' /\ μ c' < μ c /\ ∃ β own S, zaA C (inv c') β own S a' w') (wpIn_mono (ih hP hY (h1 c hc) H) (zdP (fun s β own S a w hf H => ?_) (fun _ _ _ h => h))) ?_
          . obtain ⟨c', h4, ⟨h2, h3⟩⟩ := hf
            obtain ⟨β', own', S', H'⟩ := h4.holds H
            exact ⟨c', h2, h3, β', own', S', H'⟩
          . rintro a' w' ⟨c', h2, h3, β', own', S', H'⟩
            exact ihj (μ c') (by omega) c' rfl h2 H'
       obtain ⟨β', own', S', H'⟩ := hw0.holds H
       exact go _ c0 rfl hc0 H'
     | rounds k =>
       rw [hl] at h
       have go : ∀ (k : Nat) (s : St), zkr (run C.toEnv ca') K k s -> ∀ {β own S a w}, zaA C s β own S a w -> zej (Wf C.rnd) 0 C.P ca (post C K) a w := by
        intro k
        induction k with
        | zero => intro s h; exact h.elim
        | succ k ihk =>
          intro s h β own S a w H
          exact .mk (fun a' w' => ∃ s' β own S, zkr (run C.toEnv ca') K k s' /\ zaA C s' β own S a' w') (wpIn_mono (ih hP hY h H) (zdP (fun s β own S a w hf H => ⟨s, β, own, S, hf, H⟩) (fun _ _ _ h => h)))
           (fun a' w' ⟨s', β', own', S', h1, h2⟩ => ihk s' h1 h2)
       intro β own S a w H; exact go k s h H
    intro β own S a w H
    exact (key H).wp
  | rng _ _ hf hb hN hr he _ ihA ihB ihI =>
    rename_i f ps ca cb ca' cb' n N it fn code _ _ _
    intro C hP hY s K h β own S act w H
    obtain ⟨st, so, nx⟩ := s
    subst hP
    simp only [run] at h
    split at h
    . exact h.elim
    rename_i hrnd
    split at h
    case h_2 => exact h.elim
    rename_i n' fa fc hfv
    split at h
    case h_2 => exact h.elim
    rename_i hbn hbl
    have hn := Nat.eq_of_beq_eq_true hbn
    subst hn
    have hfx := zdT H hfv
    simp only [rel] at hfx
    obtain ⟨va, vc, hfe, hra, hrc⟩ := hfx
    have hW : Wf C.rnd = Wf none := by rw [hrnd]
    rw [hW]
    refine wpIn_rangeFunc ?_
    intro fid hfid
    show ∃ l mark w₁ d w₁' f args w₂, (Instr.enterLoop fid act.tmps ps ca cb none).run C.P w = _ /\ _
    have hrunE := run_enterLoop_outer (P := C.P) (w := w) fid act.tmps ps ca cb
    generalize hrec : ({ state := .ready, pending := none, fn := fid, tmps := act.tmps, params := ps, assign := ca, body := cb, defers := w.heap.size } : _root_.Go.Loop) = r at hrunE
    have hr0 : zbS r .ready = r := by rw [<- hrec]; rfl
    have hsz1 : (w.alloc (.deferred (some []))).heap.size = w.heap.size + 1 := by simp
    generalize hW1 : (w.alloc (.deferred (some []))).alloc (.loop r) = W1 at hrunE
    have hsz2 : W1.heap.size = w.heap.size + 2 := by rw [<- hW1]; simp
    have hnx : β nx = none := H.fresh nx (Nat.le_refl _)
    have Ha := H.h.push (.deferred (some []))
    have hlast : W1.heap[(w.alloc (.deferred (some []))).heap.size]? = some (.loop r) := by rw [<- hW1]; exact World.alloc_heap_new _ _
    have Hb := Ha.new (id := nx) hnx (w' := W1) (ob := .loop r) (by rw [<- hW1]; rfl) (by rw [<- hW1]; rfl) (by rw [<- hW1]; rfl) (by rw [<- hW1]; rfl) (B := ⟨some (w.heap.size + 1), 0, 0⟩) (o := .lrec (w.heap.size + 1) r .ready)
     (fun x => ⟨rfl, by rw [hsz1], by rw [hr0, <- hsz1]; exact hlast⟩) none undef none (fun d s e => by cases e) (fun _ => .inl rfl)
    rw [hsz1] at Hb
    simp only [zbe] at Hb
    rw [<- zc0] at Hb
    have hD1 : W1.heap[w.heap.size]? = some (.deferred (some [])) := by
     rw [<- hW1]
     show ((w.alloc (.deferred (some []))).heap.push _)[w.heap.size]? = _
     rw [Array.getElem?_push, if_neg (by rw [hsz1]; omega)]
     exact World.alloc_heap_new w _
    have hold : ∀ b, b < w.heap.size -> W1.heap[b]? = w.heap[b]? := fun b hb => by
     rw [<- hW1]
     show ((w.heap.push _).push _)[b]? = _
     rw [Array.getElem?_push, if_neg (by simp; omega), Array.getElem?_push, if_neg (by omega)]
    generalize hβ1 : upd β nx (some ⟨some (w.heap.size + 1), 0, 0⟩) = β1 at Hb
    have hβ1a : ∀ i B, β i = some B -> β1 i = some B := fun i B e => by
     subst hβ1
     by_cases hi : i = nx
     . subst hi; rw [hnx] at e; cases e
     . rw [zab _ _ hi]; exact e
    have hβ1b : ∀ i, i ≠ nx -> β1 i = β i := fun i hi => by subst hβ1; exact zab _ _ hi
    have hβ1c : β1 nx = some ⟨some (w.heap.size + 1), 0, 0⟩ := by subst hβ1; exact zad _ _ _
    generalize hown1 : upd own nx (zcv (w.heap.size + 1)) = own1 at Hb
    have ownlt : ∀ id b, (zax ((nx, some (.lrec (w.heap.size + 1) r .ready)) :: so) id).isSome -> own1 id b -> b < w.heap.size \/ b = w.heap.size + 1 := fun id b h1 h2 => by
     subst hown1
     rw [zc0] at h1
     by_cases hi : id = nx
     . subst hi; rw [zad] at h2; exact .inr h2
     . rw [zab _ _ hi] at h1 h2
       obtain ⟨o', ho'⟩ := Option.isSome_iff_exists.1 h1
       obtain ⟨B', _, h3⟩ := H.h.mem.obj id o' ho'
       exact .inl (h3.lt b h2)
    have h := h (w.heap.size + 1) r
    rw [zer, zbi] at h
    let o1 : List (Nat × Option SO) := (nx, some (.lrec (w.heap.size + 1) r .ready)) :: so
    let C1 : Ctx := { toEnv := { C.toEnv with N := N, m0 := nx + 1, L := fun i => C.L (100 + i), J := fun i => C.J (100 + i), Y := some ⟨w.heap.size + 1, zpw C.toEnv ps.toList st nx (w.heap.size + 1) r (fun E => run E ca') (fun E => run E cb')⟩ }, sok := C.sok, psok := C.psok, w0 := W1, X0 := zbg (zax o1) own1, S0 := S, β0 := β1 }
    have hXD : ¬ C1.X0 w.heap.size := fun ⟨i, h1, h2⟩ => by
     rcases ownlt i _ h1 h2 with h | h <;> omega
    have x1 : Ext β w S β1 W1 S := ⟨hβ1a, fun _ e => e, fun b hb => hold b (H.h.mem.sz b hb)⟩
    have hS0 : ∀ b, C1.S0 b -> b < C1.w0.heap.size /\ ¬ C1.X0 b := fun b hb => by
     have := H.h.mem.sz b hb
     refine ⟨by show b < W1.heap.size; omega, fun ⟨i, h1, h2⟩ => ?_⟩
     exact Hb.mem.st i b h1 h2 hb
    let vs : Array Value := va ++ #[.func (.yield (w.heap.size + 1)) #[] #[]] ++ vc
    have hargs : zal β1 W1 S (fa ++ .fn (.yield (w.heap.size + 1)) [] [] :: fc) vs.toList := by
     have : vs.toList = va.toList ++ (.func (.yield (w.heap.size + 1)) #[] #[]) :: vc.toList := by simp [vs]
     rw [this]
     refine zbG _ _ _ _ (zbK x1 _ _ hra) ?_
     simp only [zal]
     exact ⟨_, _, rfl, by simp [rel, zal], zbK x1 _ _ hrc⟩
    have hlen := zaM _ _ hargs
    have hvN : vs.size <= fn.ntmps := by
     have : (fa ++ SV.fn (.yield (w.heap.size + 1)) [] [] :: fc).length = fa.length + 1 + fc.length := by simp; omega
     have h2 : vs.toList.length = vs.size := by simp
     have h3 := Nat.le_of_ble_eq_true hbl
     omega
    have H1 : zaA C1 ⟨zbs (fa ++ .fn (.yield (w.heap.size + 1)) [] [] :: fc) 0, o1, nx + 1⟩ β1 own1 S { tmps := vs ++ Array.replicate (fn.ntmps - vs.size) undef, defers := [] } W1 := by
     refine ⟨⟨fun t s e => ?_, Hb.mem, Fr.refl _ _, fun id b h1 h2 => .inl ⟨id, h1, h2⟩, fun _ e => e, fun _ e => .inl e, ?_, ⟨⟨by simp [mks], fun d hd => by simp [mks] at hd⟩, rfl⟩, fun g s e => Hb.gl g s e⟩, fun i hi => ?_, Nat.le_refl _, fun i B _ e => e⟩
     . simp only [zaO, zcj, Nat.zero_le, if_true, Nat.sub_zero] at e
       rw [zbC] at e
       obtain ⟨y, h1, h2⟩ := zea (i := t) _ _ _ hargs e
       have ht : t < vs.size := by
        have := (List.getElem?_eq_some_iff.1 h1).1
        simpa using this
       have : (vs ++ Array.replicate (fn.ntmps - vs.size) undef).getD t undef = y := by
        rw [Array.getD_eq_getD_getElem?, Array.getElem?_append_left ht]
        simp at h1
        rw [h1]; rfl
       simp only [this]
       exact h2
     . show (vs ++ Array.replicate (fn.ntmps - vs.size) undef).size = N
       simp; omega
     . rw [hβ1b i (by show i ≠ nx; have : nx + 1 <= i := hi; omega)]
       exact H.fresh i (by show nx <= i; have : nx + 1 <= i := hi; omega)
    have hYok : ∀ y, C1.Y = some y -> YOk C1 y := fun y e => by
     simp only [C1, Option.some.injEq] at e
     subst e
     have := zuQ (P := C.P) (C := C) (C1 := C1) (l := w.heap.size + 1) (D := w.heap.size) (ps := ps) (fn := fid) (t0 := st) (id := nx) (tmps := act.tmps) rfl rfl rfl hrnd ihA ihB rfl (fun i hi => by
      show β1 i = none
      rw [hβ1b i (by omega)]; exact H.fresh i (by show nx <= i; omega)) H.h.n (fun i v e => zaH x1 _ _ (H.h.tm i v e)) hS0
     rw [hrec] at this
     exact this
    have wI := ihI (C := C1) rfl hYok h H1
    have hr1 : C1.rnd = none := hrnd
    rw [hr1] at wI
    have fin : ∀ s1 β2 own2 S2 a2 w2, (zrj nx st K .nrm s1) -> zaA C1 s1 β2 own2 S2 a2 w2 →
     LeavesInM (Wf none) 0 C.P fn a2.tmps (rangePost (Wf none) 0 C.P (w.heap.size + 1) (post C K) { act with defers := [{ target := .collected w.heap.size, args := #[] }] ++ act.defers }) a2.defers .returning w2 := by
      intro s1 β2 own2 S2 a2 w2 hk H2
      obtain ⟨hdf2, hms2⟩ := H2.h.df
      rw [zgP hms2] at hdf2
      refine zfI a2.defers w2 hdf2.nd (fun d hd => ?_) (fun w3 g1 g2 g3 g4 g5 => ?_)
      . obtain ⟨D, e1, _, e3, _⟩ := hdf2.at_ d hd
        exact ⟨D, e1, e3⟩
      . have H3 : zaA C1 s1 β2 own2 S2 { a2 with defers := [] } w3 := ⟨H2.h.undf g1 g2 g3 g4 hdf2 g5, H2.fresh, H2.m0, H2.b0⟩
        refine ⟨.tuple #[], zkU (xs := []) (by rw [hr]; rfl), ?_⟩
        obtain ⟨s1t, s1o, s1nx⟩ := s1
        simp only [zrj] at hk
        split at hk
        case h_2 => exact hk.elim
        rename_i l' r' e hg
        obtain ⟨B, q1, q2, q3, q4⟩ := zgQ H3 hg
        have hB := H3.b0 nx B (by show nx < nx + 1; omega) q1
        simp only [C1] at hB
        rw [hβ1c] at hB
        cases hB
        cases q2
        have key : ∀ (p : Option Code), (zbS r' e).pending = p -> (zbS r' e).state ≠ .busy -> ({ zbS r' e with state := .exhausted } : _root_.Go.Loop) = zbS r' (.over p) →
         (∃ w4, (Instr.endLoop (w.heap.size + 1)).run C.P w3 = .ok p w4 ∧
          ∃ β5, zaA C ⟨st, (nx, none) :: s1o, s1nx⟩ β5 own2 S2 { act with defers := [{ target := .collected w.heap.size, args := #[] }] ++ act.defers } w4) := by
          intro p hp hnb hov
          have hrun := run_endLoop (P := C.P) q4 hnb
          rw [hov, hp] at hrun
          refine ⟨_, hrun, ?_⟩
          have H4 := zjK H3 hg (.over p)
          obtain ⟨β5, b1, b2, b3, H5⟩ := zlO Hb H4 rfl rfl rfl (fun i B e => e) (fun i hi => by
           have hi : nx + 1 <= i := hi
           show β1 i = none
           rw [hβ1b i (by omega)]; exact H.fresh i (by show nx <= i; omega))
          have H6 := H5.drop nx
          rw [zc0, ziM, <- zc0] at H6
          have hm1 : nx + 1 <= s1nx := H3.m0
          have hm0 : C.m0 <= nx := H.m0
          obtain ⟨hdf6, hms6⟩ := H6.df
          obtain ⟨hdf0, hms0⟩ := H.h.df
          refine ⟨β5, ⟨⟨H6.tm, H6.mem, H6.fr, H6.own0, H6.s0, H6.s1, H6.n, ⟨(show zmI _ _ _ _ (_ :: mks act.defers) _ from ⟨?_, fun d hd => ?_⟩), hms6⟩, H6.gl⟩, b3, by show C.m0 <= s1nx; omega, fun i B hi e => ?_⟩⟩
          . simp only [List.nodup_cons]
            refine ⟨fun hmem => ?_, hdf0.nd⟩
            obtain ⟨D, e1, _, e3, _⟩ := hdf0.at_ _ hmem
            injection e1 with e1
            injection e1 with e1
            subst e1
            have := (Array.getElem?_eq_some_iff.1 e3).1
            omega
          . simp only [List.mem_cons] at hd
            rcases hd with rfl | hd
            . refine ⟨w.heap.size, rfl, H.h.fr.size, ?_, fun hs => ?_, fun i hi hb => ?_⟩
              . rw [H4.h.fr.block w.heap.size (by show _ < W1.heap.size; omega) hXD]
                exact hD1
              . rcases H4.h.s1 _ hs with h | h | h
                . have : w.heap.size < w.heap.size := H.h.mem.sz _ h
                  omega
                . exact hXD h
                . have : W1.heap.size <= w.heap.size := h
                  omega
              . have hi' : (zax ((nx, some (.lrec (w.heap.size + 1) r' (.over p))) :: s1o) i).isSome := by
                 rw [zc0] at hi ⊢
                 by_cases e : i = nx
                 . subst e; simp
                 . rwa [zab _ _ e] at hi ⊢
                rcases H4.h.own0 i _ hi' hb with h | h
                . exact hXD h
                . have : W1.heap.size <= w.heap.size := h
                  omega
            . exact hdf6.at_ d hd
          . rw [b2 i (by show i < nx + 1; omega)] at e
            simp only [C1] at e
            rw [hβ1b i (by omega)] at e
            exact H.b0 i B hi e
        cases e with
        | ready =>
          obtain ⟨w4, k1, β5, k2⟩ := key none rfl (by simp [zbS]) rfl
          exact ⟨none, w4, k1, _, β5, own2, S2, hk, k2⟩
        | done j =>
          cases j with
          | ret =>
            obtain ⟨w4, k1, β5, k2⟩ := key (some .ret) rfl (by simp [zbS]) rfl
            exact ⟨some .ret, w4, k1, wpIn_ret ⟨_, β5, own2, S2, hk, k2⟩⟩
          | exit i =>
            obtain ⟨w4, k1, β5, k2⟩ := key (some (.exit i)) rfl (by simp [zbS]) rfl
            exact ⟨some (.exit i), w4, k1, wpIn_exit ⟨_, β5, own2, S2, hk, k2⟩⟩
          | _ => exact hk.elim
        | _ => exact hk.elim
    refine ⟨w.heap.size + 1, [{ target := .collected w.heap.size, args := #[] }], W1, { target := .fn (.func n') vc, args := va ++ #[.func (.yield (w.heap.size + 1)) #[] #[]] }, W1, n', vs, W1, hrunE, ?_, fun _ _ => trivial, ?_,
     fun e => by simp [Wf, Fence.wide] at e, ?_⟩
    . simp only [resolve, hfe, Deferred.ofValue, rangeCall]
      simp [Act.eval]
    . simp only [invoke]
      exact he _ _
    . refine callsIn_of_wp_marks (F := Wf none) (n := 0) hf hb trivial (wpIn_mono wI ?_) rfl
      intro ex a' w' hp
      cases ex with
      | normal => obtain ⟨s1, β2, own2, S2, hk, H2⟩ := hp; exact fin s1 β2 own2 S2 a' w' hk H2
      | ret => obtain ⟨s1, β2, own2, S2, hk, H2⟩ := hp; exact fin s1 β2 own2 S2 a' w' hk H2
      | exit i => obtain ⟨s1, β2, own2, S2, hk, H2⟩ := hp; exact hk.elim
      | panic ch => obtain ⟨s1, β2, own2, S2, v, x, _, hk, _⟩ := hp; exact hk.elim
      | goto l => exact hp.elim
      | outgrown => exact hp.elim
end Go.Sx
namespace Go.Sx
open Go
open Classical
inductive RV where
 | t (n : Nat)
 | c (n : Nat) (sz : Option Nat)
def zpT (cs : List SV) (sub : Nat) (n : Option Nat) (f : SV -> RT) : RT :=
 match n with
 | none => (match zaV cs sub with | some c => f c | none => .fail)
 | some n => (match zgM cs sub n with | some l => f (.agg l) | none => .fail)
def RV.rd (f : SV -> RT) : RV -> RT
 | .t n => .rT n fun o => match o with | some v => f v | none => .fail
 | .c n sz => .rT n fun o => match o with
   | some (.ptr id idx sub) => .rO id fun o => (match o with
     | some (.row cs) => (match idx with | 0 => zpT cs sub sz f | _ => .fail)
     | _ => .fail)
   | _ => .fail
def RVs.rd : List RV -> (List SV -> RT) -> RT
 | [], f => f []
 | r :: rs, f => RV.rd (fun v => RVs.rd rs fun vs => f (v :: vs)) r
def zmd : List SV -> SV
 | [v] => v
 | vs => .tup vs
def zfe : List (Option SO) -> Nat -> List (Nat × Option Nat)
 | [], _ => []
 | some _ :: l, i => (i, some i) :: zfe l (i + 1)
 | none :: l, i => zfe l (i + 1)
def zbB : List (Option SO) -> Nat -> List (Nat × SO)
 | [], _ => []
 | some o :: l, i => (i, o) :: zbB l (i + 1)
 | none :: l, i => zbB l (i + 1)
def ze4 (rs : List RV) (L : zaa) : RT :=
 RVs.rd rs fun vs => mSV ⟨zfe L.out 0, []⟩ L.res (zmd vs) fun ρ =>
  zgh ρ (zbB L.out 0 ++ zbs L.new L.foot.length) fun ρ => zkH L.foot.length (L.foot.length + L.new.length) ρ
def zzf (rs : List RV) (L : zaa) : Ex -> St -> Prop
 | .nrm, s => (ze4 rs L).vc (zaO s.t) (zax s.o) [] fun _ _ _ _ => True
 | .ret, s => (ze4 rs L).vc (zaO s.t) (zax s.o) [] fun _ _ _ _ => True
 | .exit _, _ => False
 | .pan _, _ => False
def zd7 : List SO -> List (Option SO)
 | [] => []
 | o :: l => some o :: zd7 l
def entry (L : zaa) : St := ⟨zbs L.args 0, zbs (zd7 L.foot) 0, L.foot.length⟩
structure zxs (P : Program) (r : ResultVar) (v : RV) : Prop where
 ok : match r, v with
  | .tmp t, .t n => t = n
  | .cell a t, .c n sz => a = n /\ zin P t sz
  | _, _ => False
def zfy (P : Program) : List ResultVar -> List RV -> Prop
 | [], l => l = []
 | r :: rs, l => ∃ v vs, l = v :: vs /\ zxs P r v /\ zfy P rs vs
theorem zqt {gt go} {cs : List SV} {sub : Nat} {n : Option Nat} {f : SV -> RT} {R v os k} (h : (zpT cs sub n f).Runs gt go R v os k) : ∃ s, zb6 cs sub n = zaC s /\ (f s).Runs gt go R v os k := by
 unfold zpT at h
 split at h
 . split at h
   . rename_i c hc; exact ⟨c, by simp [zb6, hc], h⟩
   . cases h
 . split at h
   . rename_i c hc; exact ⟨_, by simp [zb6, hc], h⟩
   . cases h
theorem zyz {P : Program} {gt go} {r : ResultVar} {q : RV} (hq : zxs P r q) {f : SV -> RT} {R v os k} (h : (RV.rd f q).Runs gt go R v os k) : ∃ s R', (f s).Runs gt go R' v os k ∧
 ∀ {C : Ctx} {β own S a w}, C.P = P -> zah C gt go β own S a w -> ∃ x, (zf1 a.tmps r).run P w = .ok x w /\ rel β w S s x := by
  cases r with
  | tmp t =>
    cases q with
    | c n sz => exact hq.ok.elim
    | t n =>
      have : t = n := hq.ok
      subst this
      simp only [RV.rd] at h
      cases h with
      | rT h =>
        dsimp only at h
        split at h
        . rename_i s hs
          exact ⟨s, _, h, fun _ H => ⟨_, by simp [zf1], H.tm t s hs⟩⟩
        . cases h
  | cell b t =>
    cases q with
    | t n => exact hq.ok.elim
    | c n sz =>
      obtain ⟨e, hl⟩ : b = n /\ zin P t sz := hq.ok
      subst e
      simp only [RV.rd] at h
      cases h with
      | rT h =>
        dsimp only at h
        split at h
        case h_2 => cases h
        rename_i id idx sub hs
        cases h with
        | rO h =>
          dsimp only at h
          split at h
          case h_2 => cases h
          rename_i cs hgo
          split at h
          case h_2 => cases h
          obtain ⟨s, hp, h⟩ := zqt h
          refine ⟨s, _, h, fun {C β own S a w} hC H => ?_⟩
          have hr := H.tm b _ hs
          simp only [rel] at hr
          obtain ⟨B, b', h1, h2, h3⟩ := hr
          obtain ⟨B', h4, b'', arr, T, h5, h6, _, h7, h8, h9⟩ := H.mem.obj _ _ hgo
          rw [h1] at h4; cases h4
          rw [h2] at h5; cases h5
          have hruns : (zb6 cs sub sz).Runs gt go [] (some s) [] 0 := by rw [hp]; exact .done
          obtain ⟨s', e1, _, _, y, h10, h11⟩ := zeE (P := P) (off := 0) (m := arr.toList.length) hl h8 (by rw [List.drop_zero, List.take_length]; exact h9) hruns
          cases e1
          refine ⟨y, ?_, h11⟩
          simp only [Nat.zero_mul, Nat.zero_add] at h3
          simp only [zf1, h3]
          simpa [Instr.loadAt, Instr.sureAddr, asAddr] using h10
theorem zkX {P : Program} {gt go} : ∀ {rs : List ResultVar} {qs : List RV} {f : List SV -> RT} {R v os k}, zfy P rs qs -> (RVs.rd qs f).Runs gt go R v os k -> ∃ ss R', (f ss).Runs gt go R' v os k ∧
 ∀ {C : Ctx} {β own S a w}, C.P = P -> zah C gt go β own S a w -> ∃ xs, (rs.mapM (zf1 a.tmps)).run P w = .ok xs w /\ zal β w S ss xs
  | [], qs, f, R, v, os, k, hq, h => by
    simp only [zfy] at hq
    subst hq
    exact ⟨[], _, h, fun _ _ => ⟨[], by simp, by simp [zal]⟩⟩
  | r :: rs, qs, f, R, v, os, k, hq, h => by
    obtain ⟨q, qs', rfl, h1, h2⟩ := hq
    simp only [RVs.rd] at h
    obtain ⟨s, R1, h, hs⟩ := zyz h1 h
    obtain ⟨ss, R2, h, hss⟩ := zkX h2 h
    refine ⟨s :: ss, R2, h, fun {C β own S a w} hC H => ?_⟩
    obtain ⟨x, hx, hr⟩ := hs hC H
    obtain ⟨xs, hxs, hrs⟩ := hss hC H
    exact ⟨x :: xs, by simp [List.mapM_cons, hx, hxs], by simp only [zal]; exact ⟨x, xs, rfl, hr, hrs⟩⟩
theorem zog {β w S} {ss : List SV} {xs : List Value} (h : zal β w S ss xs) : rel β w S (zmd ss) (zjR xs) := by
 match ss, xs, h with
 | [], xs, h => simp only [zal] at h; subst h; simp only [zmd, zjR, rel]; exact ⟨_, rfl, by simp [zal]⟩
 | [s], xs, h =>
   simp only [zal] at h
   obtain ⟨x, r, rfl, hx, rfl⟩ := h
   exact hx
 | s :: s' :: ss, xs, h =>
   have h0 := h
   simp only [zal] at h
   obtain ⟨x, r, rfl, hx, x', r', rfl, hx', hr⟩ := h
   simp only [zmd, zjR, rel]
   exact ⟨_, rfl, by simpa using h0⟩
theorem zci : ∀ (l : List (Option SO)) (i0 i : Nat) (q : Option Nat), zao i (zfe l i0) = some q -> q = some i
 | [], _, _, _, h => by simp [zfe, zao] at h
 | some o :: l, i0, i, q, h => by
   simp only [zfe] at h
   rw [zaJ] at h
   split at h
   . rename_i e; subst e; cases h; rfl
   . exact zci l _ i q h
 | none :: l, i0, i, q, h => zci l _ i q (by simpa [zfe] using h)
theorem zdQ : ∀ (l : List (Option SO)) (i0 i : Nat), zao i (zbB l i0) = if i0 <= i then (zaV l (i - i0)).bind id else none
 | [], i0, i => by simp [zbB, zao, zaV]
 | x :: l, i0, i => by
   have hs : i0 + 1 <= i -> i - i0 = (i - (i0 + 1)) + 1 := by omega
   cases x with
   | none =>
     simp only [zbB]
     rw [zdQ l (i0 + 1) i]
     by_cases h : i0 = i
     . subst h; rw [if_neg (by omega)]; simp [zaV]
     . by_cases h2 : i0 <= i
       . rw [if_pos h2, if_pos (by omega), hs (by omega)]; rfl
       . rw [if_neg h2, if_neg (by omega)]
   | some o =>
     simp only [zbB]
     rw [zaJ, zdQ l (i0 + 1) i]
     by_cases h : i0 = i
     . subst h; simp [zaV]
     . rw [if_neg h]
       by_cases h2 : i0 <= i
       . rw [if_pos h2, if_pos (by omega), hs (by omega)]; rfl
       . rw [if_neg h2, if_neg (by omega)]
theorem zg8 : ∀ (l : List SO) (i0 i : Nat), zax (zbs (zd7 l) i0) i = if i0 <= i then zaV l (i - i0) else none := by
 intro l i0 i
 have key : ∀ (l : List SO) (j : Nat), zaV (zd7 l) j = (zaV l j).map some := by
  intro l
  induction l with
  | nil => intro j; simp [zd7, zaV]
  | cons o l ih => intro j; cases j <;> simp [zd7, zaV, ih]
 simp only [zax, zcj, key]
 by_cases h : i0 <= i
 . simp only [if_pos h]; cases zaV l (i - i0) <;> rfl
 . simp only [if_neg h]
theorem zve {P : Program} {G : Nat -> Option SV} {f : FuncId} {fn : Func} {code : Code} {mc : MC} {rs : List RV} {L : zaa} (hmix : P.follows .mixedOrders = true) (hf : P.funcs[f]? = some fn) (hb : fn.body = some code)
 (hent : zdz P f) (hmc : zbp P code mc) (hrs : zfy P fn.results.toList rs) (hN : L.args.length <= fn.ntmps) (hout : L.out.length = L.foot.length)
 {S : zcB} (hS : SOk P G S) (LA : Nat -> zbO) (JA : Nat -> zfk) {PS : zcB} (hPS : zgC panicked P G PS) (h : run ⟨P, G, fn.ntmps, none, L.foot.length, none, S, LA, JA, PS⟩ mc (entry L) (zzf rs L)) : zaa.ok P G f L := by
  refine ⟨hent, hout, fun β own S0 w vs hβ hmem hargs hgl => ?_⟩
  have hlen := zaM _ _ hargs
  simp at hlen
  let C : Ctx := { P := P, G := G, N := fn.ntmps, rnd := none, m0 := L.foot.length, Y := none, S := S, L := LA, J := JA, PS := PS, sok := hS, psok := hPS, w0 := w, X0 := zbg L.go0 own, S0 := S0, β0 := β }
  have hgo : zax (zbs (zd7 L.foot) 0) = L.go0 := funext fun i => by rw [zg8]; simp [zaa.go0]
  have H0 : zaA C (entry L) β own S0 { tmps := vs ++ Array.replicate (fn.ntmps - vs.size) undef, defers := [] } w := by
   refine ⟨⟨fun t s e => ?_, by simp only [entry]; rw [hgo]; exact hmem, Fr.refl _ _, fun id b h1 h2 => ?_, fun _ e => e, fun _ e => .inl e, ?_, ⟨⟨by simp [mks], fun d hd => by simp [mks] at hd⟩, rfl⟩, hgl⟩, hβ, Nat.le_refl _, fun i B _ e => e⟩
   . simp only [entry, zaO, zcj, Nat.zero_le, if_true, Nat.sub_zero] at e
     rw [zbC] at e
     obtain ⟨y, h1, h2⟩ := zea (i := t) _ _ _ hargs e
     have ht : t < vs.size := by
      have := (List.getElem?_eq_some_iff.1 h1).1
      simpa using this
     have : (vs ++ Array.replicate (fn.ntmps - vs.size) undef).getD t undef = y := by
      rw [Array.getD_eq_getD_getElem?, Array.getElem?_append_left ht]
      simp at h1
      rw [h1]; rfl
     simp only [this]
     exact h2
   . left
     simp only [entry] at h1
     rw [hgo] at h1
     exact ⟨id, h1, h2⟩
   . show (vs ++ Array.replicate (fn.ntmps - vs.size) undef).size = fn.ntmps
     simp; omega
  have hwp := zh0 (C := C) hmix hmc rfl (fun y e => by cases e) h H0
  refine callsIn_wide.1 (callsIn_of_wp_marks (F := Fence.wide) (n := 0) hf hb trivial (wpIn_mono (F := Fence.wide) hwp ?_) rfl)
  have fin : ∀ s' β1 own1 S1 a' w', ((ze4 rs L).vc (zaO s'.t) (zax s'.o) [] fun _ _ _ _ => True) -> zaA C s' β1 own1 S1 a' w' →
   LeavesInM Fence.wide 0 P fn a'.tmps (fun e w' => ∃ v β' own' S', e = .returned v /\ zi6 L.foot.length β w S0 β' w' S' /\ (∀ id, L.foot.length + L.new.length <= id -> β' id = none) ∧
    rel β' w' S' L.res v /\ zaw β' own' S' L.go1 w' /\ Fr (zbg L.go0 own) w w' /\ (∀ id b, (L.go1 id).isSome -> own' id b -> zbg L.go0 own b \/ w.heap.size <= b) ∧
    (∀ b, S' b -> S0 b \/ zbg L.go0 own b \/ w.heap.size <= b)) a'.defers .returning w' := by
    intro s' β1 own1 S1 a' w' hk H
    obtain ⟨hdf, hms⟩ := H.h.df
    rw [zgP hms] at hdf
    refine zfI a'.defers w' hdf.nd (fun d hd => ?_) (fun w2 h1 h2 h3 h4 h5 => ?_)
    . obtain ⟨D, e1, _, e3, _⟩ := hdf.at_ d hd
      exact ⟨D, e1, e3⟩
    . have H2 := H.h.undf h1 h2 h3 h4 hdf h5
      obtain ⟨R, v, os, k, hk, _⟩ := RT.runs_of_vc _ _ _ hk
      obtain ⟨ss, R1, hk, hres⟩ := zkX hrs hk
      obtain ⟨xs, hxs, hrel⟩ := hres (C := C) rfl H2
      obtain ⟨ρ1, R2, hk, l1, i1, m1⟩ := zdV _ hk
      obtain ⟨ρ2, R3, hk, l2, i2, m2⟩ := zdF _ hk
      obtain ⟨e1, e2, e3⟩ := zgv hk
      have hinj : ρ2.inj := i2 (i1 (fun i i' j q q' => by
       have := zci _ _ _ _ q
       have := zci _ _ _ _ q'
       simp_all))
      obtain ⟨hm, ho, hl⟩ := zi5 H2 hinj _ m2 e1
      have hgo1 : ∀ i, zao i (zbB L.out 0 ++ zbs L.new L.foot.length) = L.go1 i := fun i => by
       rw [zdn, zdQ, zcj]
       simp only [Nat.zero_le, if_true, Nat.sub_zero, zaa.go1]
       by_cases c : i < L.foot.length
       . rw [if_pos c, if_neg (by omega)]
         cases zaV L.out i with
         | none => rfl
         | some q => cases q <;> rfl
       . rw [if_neg c, if_pos (by omega)]
         have : zaV L.out i = none := by rw [zbC]; simp; omega
         rw [this]; rfl
      have hgo1' : (fun i => zao i (zbB L.out 0 ++ zbs L.new L.foot.length)) = L.go1 := funext hgo1
      rw [hgo1'] at hm
      refine ⟨_, zkU hxs, _, bOf ρ2 β1 (zlh (zbB L.out 0 ++ zbs L.new L.foot.length)), zcc ρ2 own1, _, rfl, ⟨fun i B hi e => ?_, fun b hb => .inl (H2.s0 b hb), fun b hb => ?_⟩, fun i hi => by simp [bOf, zdW e2 i hi],
       m1 ρ2 l2 (zeT H2.mem) _ _ (zog hrel), hm, H2.fr, fun id b hi hb => ?_, fun b hb => ?_⟩
      . simp only [bOf] at e
        split at e
        . rename_i j hj
          have := zck e3 i _ hi hj
          cases this
          exact H.b0 i B hi e
        . rename_i hj
          have := zck e3 i _ hi hj
          cases this
        . cases e
      . exact H2.fr.block b (hmem.sz b hb) (fun ⟨i, q1, q2⟩ => hmem.st i b q1 q2 hb)
      . obtain ⟨j, q1, q2⟩ := ho id b (by rw [hgo1]; exact hi) hb
        exact H2.own0 j b q1 q2
      . rcases hb with hb | hb
        . exact H2.s1 b hb
        . obtain ⟨j, q1, q2⟩ := hl b hb
          exact .inr (H2.own0 j b q1 q2)
  intro e a' w' hp
  cases e with
  | normal => obtain ⟨s', β1, own1, S1, hk, H⟩ := hp; exact fin s' β1 own1 S1 a' w' hk H
  | ret => obtain ⟨s', β1, own1, S1, hk, H⟩ := hp; exact fin s' β1 own1 S1 a' w' hk H
  | exit i => obtain ⟨s', β1, own1, S1, hk, H⟩ := hp; exact hk.elim
  | goto l => exact hp.elim
  | panic c => obtain ⟨s', β1, own1, S1, v, x, _, hk, _⟩ := hp; exact hk.elim
  | outgrown => exact hp.elim
end Go.Sx
namespace Go.Sx
open Go
def zk2 (P : Program) (t : TypeId) : Option (Option Nat) :=
 match P.underlying t with
 | none => none
 | some d => match d.isRow with
   | false => some none
   | true => match P.info? t with | some i => some (some i.size) | none => none
theorem ziO {P : Program} {t : TypeId} {n : Option Nat} (h : zk2 P t = some n) : zin P t n := by
 unfold zk2 at h
 split at h
 . cases h
 . rename_i d hd
   split at h
   . rename_i hr; cases h; exact ⟨d, hd, hr⟩
   . rename_i hr
     split at h
     . rename_i i hi; cases h; exact ⟨d, hd, hr, by rw [hi]; rfl⟩
     . cases h
def zrA (P : Program) (t : TypeId) (f : Nat) : Option Nat :=
 match P.underlying t with
 | some (.struct fs) => match fs[f]? with
   | some fd => match P.info? fd.type with
     | some i => match i.size with | 0 => none | _ + 1 => some fd.offset
     | none => none
   | none => none
 | _ => none
theorem zvE {P : Program} {t : TypeId} {f off : Nat} (h : zrA P t f = some off) : zpf P t f off := by
 unfold zrA at h
 split at h
 . rename_i fs hu
   split at h
   . rename_i fd hf
     split at h
     . rename_i i hi
       split at h
       . cases h
       . rename_i n hn
         cases h
         exact ⟨fs, fd, i, hu, hf, rfl, hi, by omega⟩
     . cases h
   . cases h
 . cases h
def zeL (P : Program) (t : TypeId) : Option Nat := match P.info? t with | some i => some i.size | none => none
theorem zed {P : Program} {t : TypeId} {n : Nat} (h : zeL P t = some n) : ∃ i, P.info? t = some i /\ i.size = n := by
 unfold zeL at h
 split at h
 . rename_i i hi; cases h; exact ⟨i, hi, rfl⟩
 . cases h
def ze7 (P : Program) (t : TypeId) : Option Value := match P.info? t with | some i => i.zero | none => none
theorem zht {P : Program} {t : TypeId} {z : Value} (h : ze7 P t = some z) : ∃ i, P.info? t = some i /\ i.zero = some z := by
 unfold ze7 at h
 split at h
 . rename_i i hi; exact ⟨i, hi, h⟩
 . cases h
def znl (pl : Nat -> Option (Nat × Nat)) : List (Nat × Operand) -> Option (List (Nat × Nat × X))
 | [] => some []
 | (i, x) :: r => match pl i with
   | some (off, n) => match znl pl r with | some l => some ((off, n, cX x) :: l) | none => none
   | none => none
theorem zoC {pl : Nat -> Option (Nat × Nat)} : ∀ {l : List (Nat × Operand)} {ps : List (Nat × Nat × X)}, znl pl l = some ps -> zhF pl l ps
 | [], ps, h => by simp [znl] at h; simp [zhF, h]
 | (i, x) :: r, ps, h => by
   simp only [znl] at h
   split at h
   . rename_i off n hp
     split at h
     . rename_i l hl
       cases h
       exact ⟨off, n, l, rfl, hp, zoC hl⟩
     . cases h
   . cases h
def zcS : Value -> Option PV
 | .int k n => some (.int k n)
 | .bool b => some (.bool b)
 | .string s => some (.str s)
 | .map r => (match r with | none => some (.val (.map none)) | some _ => none)
 | _ => none
def zcT : List Value -> Option (List PV)
 | [] => some []
 | v :: l => match zcS v with | some p => (match zcT l with | some r => some (p :: r) | none => none) | none => none
def zgU (P : Program) (t : TypeId) : Option (Bool × List PV) :=
 match P.underlying t, ze7 P t with
 | some (.slice e), some (.slice none 0 0) => (match zeL P e with | some s => some (true, [.sl s []]) | none => none)
 | _, some (.agg cs) => (match zcT cs.toList with | some l => some (false, l) | none => none)
 | _, some v => (match zcS v with | some p => some (true, [p]) | none => none)
 | _, none => none
theorem zlV {v : Value} {p : PV} (h : zcS v = some p) (β w S) : rel β w S p.sv v := by
 cases v
 case map r =>
  cases r with
  | none => simp [zcS] at h; subst h; simp [PV.sv, rel]
  | some _ => simp [zcS] at h
 all_goals (simp [zcS] at h <;> subst h <;> simp [PV.sv, rel])
theorem zlJ {v : Value} {s : Nat} {L : List (List PV)} : zcS v ≠ some (.sl s L) := by
 cases v
 case map r => cases r <;> simp [zcS]
 all_goals simp [zcS]
theorem zj3 : ∀ {l : List Value} {ps : List PV}, zcT l = some ps -> ∀ (β w S), zal β w S (ps.map PV.sv) l
 | [], ps, h, β, w, S => by simp [zcT] at h; subst h; simp [zal]
 | v :: l, ps, h, β, w, S => by
   simp only [zcT] at h
   split at h
   . rename_i p hp
     split at h
     . rename_i r hr
       cases h
       simp only [List.map, zal]
       exact ⟨v, l, rfl, zlV hp β w S, zj3 hr β w S⟩
     . cases h
   . cases h
theorem zlY {P : Program} {t : TypeId} {zo : Bool} {z : List PV} (h : zgU P t = some (zo, z)) : ∃ i zv, P.info? t = some i /\ i.zero = some zv /\ ∀ (β : Nat -> Option zaz) (w : World) (S : Nat -> Prop), rel β w S (zaX zo z) zv := by
 unfold zgU at h
 cases hz : ze7 P t with
 | none => rw [hz] at h; split at h <;> first | (cases h; done) | simp_all
 | some v =>
   obtain ⟨i, hi, hz'⟩ := zht hz
   rw [hz] at h
   refine ⟨i, v, hi, hz', ?_⟩
   split at h
   . rename_i e _ hv
     cases hv
     split at h
     . cases h
       intro β w S
       simp only [zaX, PV.sv, rel, zaY]
       exact ⟨none, 0, rfl, Nat.le_refl _, fun h => absurd rfl h, fun _ => rfl⟩
     . cases h
   . rename_i cs heq
     cases heq
     split at h
     . rename_i l hl
       cases h
       intro β w S
       simp only [zaX, rel]
       exact ⟨_, rfl, zj3 hl β w S⟩
     . cases h
   . rename_i v' _ heq _
     cases heq
     split at h
     . rename_i p hp
       cases h
       exact fun β w S => zlV hp β w S
     . cases h
   . rename_i hv; cases hv
theorem zlA {P : Program} {t : TypeId} {zo : Bool} {s : Nat} (h : zgU P t = some (zo, [.sl s []])) : ∃ i, P.info? t = some i /\ i.zero = some (.slice none 0 0) := by
 unfold zgU at h
 cases hz : ze7 P t with
 | none => rw [hz] at h; split at h <;> first | (cases h; done) | simp_all
 | some v =>
   obtain ⟨i, hi, hz'⟩ := zht hz
   rw [hz] at h
   split at h
   . rename_i e _ hv
     cases hv
     exact ⟨i, hi, hz'⟩
   . rename_i cs heq
     cases heq
     split at h
     . rename_i l hl
       simp only [Option.some.injEq, Prod.mk.injEq] at h
       obtain ⟨_, rfl⟩ := h
       exfalso
       match cs.toList, hl with
       | [], hl => simp [zcT] at hl
       | v :: l, hl =>
         simp only [zcT] at hl
         split at hl
         . rename_i p hp
           split at hl
           . simp only [Option.some.injEq, List.cons.injEq] at hl
             rw [hl.1] at hp
             exact zlJ hp
           . cases hl
         . cases hl
     . cases h
   . rename_i v' _ heq _
     cases heq
     split at h
     . rename_i p hp
       simp only [Option.some.injEq, Prod.mk.injEq, List.cons.injEq] at h
       rw [h.2.1] at hp
       exact absurd hp zlJ
     . cases h
   . rename_i hv; cases hv
def zhl : List Value -> Bool
 | [] => true
 | v :: l => match v with
   | .int _ _ => zhl l
   | .bool _ => zhl l
   | .string _ => zhl l
   | .slice none 0 0 => zhl l
   | _ => false
def zqn (P : Program) (e : TypeId) : Option (List PV) :=
 match P.underlying e, ze7 P e with
 | some (.slice f), some (.slice none 0 0) => (match zeL P f with | some s => some [.sl s []] | none => none)
 | _, some v => zcT v.cells.toList
 | _, none => none
def zT (P : Program) (t : TypeId) : Option (Nat × Nat × List PV) :=
 match P.underlying t with
 | some (.slice e) => match P.info? e, zqn P e with
   | some i, some z => (match i.zero with
     | some zv => (match Nat.beq zv.cells.size i.size, Nat.beq z.length i.size, Nat.blt 0 i.size, Nat.blt 0 i.bytes, zhl zv.cells.toList with
       | true, true, true, true, true => some (i.size, i.bytes, z)
       | _, _, _, _, _ => none)
     | none => none)
   | _, _ => none
 | _ => none
theorem zm4 : ∀ {l : List Value}, zhl l = true -> ∀ y ∈ l, y.oneCell' = true
 | [], _, y, h => by cases h
 | v :: l, h, y, hy => by
   simp only [zhl] at h
   have hy2 := List.mem_cons.1 hy
   rcases hy2 with e | hy2
   . subst e
     split at h <;> first | (cases h; done) | simp [Value.oneCell']
   . split at h <;> first | (cases h; done) | exact zm4 h y hy2
theorem zsJ {v : Value} {p : PV} (h : zcS v = some p) (w S) : zaY w S p v := by
 cases v
 case map r =>
  cases r with
  | none => simp [zcS] at h; subst h; simp [zaY, Value.oneCell']
  | some _ => simp [zcS] at h
 all_goals (simp [zcS] at h <;> subst h <;> simp [zaY])
theorem zlx : ∀ {l : List Value} {ps : List PV}, zcT l = some ps -> ∀ (w S), zaG w S ps l
 | [], ps, h, w, S => by simp [zcT] at h; subst h; simp [zaG]
 | v :: l, ps, h, w, S => by
   simp only [zcT] at h
   split at h
   . rename_i p hp
     split at h
     . rename_i r hr
       cases h
       simp only [zaG]
       exact ⟨v, l, rfl, zsJ hp w S, zlx hr w S⟩
     . cases h
   . cases h
theorem ztW {P : Program} {t : TypeId} {s b : Nat} {z : List PV} (h : zT P t = some (s, b, z)) : ZOk P t s b z := by
 unfold zT at h
 split at h
 . rename_i e hu
   split at h
   . rename_i i z' hi hz
     split at h
     . rename_i zv hzv
       split at h
       . rename_i h1 h2 h3 h4 h5
         cases h
         refine ⟨e, i, zv, hu, hi, rfl, rfl, hzv, Nat.eq_of_beq_eq_true h1, by rwa [Nat.blt_eq] at h3, by rwa [Nat.blt_eq] at h4, Nat.eq_of_beq_eq_true h2, zm4 h5, fun w S => ?_⟩
         have hzt : ze7 P e = some zv := by simp [ze7, hi, hzv]
         unfold zqn at hz
         rw [hzt] at hz
         split at hz
         . rename_i f _ hv
           cases hv
           split at hz
           . cases hz
             simp only [Value.cells, zaG, zaY]
             exact ⟨_, [], rfl, ⟨none, 0, rfl, Nat.le_refl _, fun h => absurd rfl h, fun _ => rfl⟩, trivial⟩
           . cases hz
         . rename_i v' heq _
           cases heq
           exact zlx hz w S
         . rename_i heq; cases heq
       . cases h
     . cases h
   . cases h
 . cases h
def zmA : Operand -> Bool
 | .const (.slice none 0 0) => true
 | _ => false
theorem zqH {x : Operand} (h : zmA x = true) : x = .const (.slice none 0 0) := by
 unfold zmA at h
 split at h
 . rfl
 . cases h
def zCw : BinOp -> Bool
 | .eql => true | .neq => true | .lss => true | .leq => true | .gtr => true | .geq => true
 | _ => false
def ze3 (P : Program) (t : TypeId) : Option (TypeId × TypeId × Bool × List SK) :=
 match P.underlying t with
 | some (.map K E) => match za7 P 20 K with | some ks => some (K, E, !zbb P K, ks) | none => none
 | _ => none
theorem zeD {P : Program} {t K E : TypeId} {one : Bool} {ks : List SK} (h : ze3 P t = some (K, E, one, ks)) : P.underlying t = some (.map K E) /\ zcq P K one ks := by
 unfold ze3 at h
 split at h
 . rename_i K' E' hu
   split at h
   . rename_i ks' hk
     cases h
     exact ⟨hu, ⟨20, by omega, hk⟩, rfl⟩
   . cases h
 . cases h
def znq (P : Program) (op : BinOp) (t : TypeId) (x y : Operand) : Option MO :=
 match P.underlying t with
 | some (.int _) => (match zCw op with | true => some (.cmp op (cX x) (cX y)) | false => some (.ar op (cX x) (cX y)))
 | some .bool => (match op with | .eql => some (.eqb false (cX x) (cX y)) | .neq => some (.eqb true (cX x) (cX y)) | _ => none)
 | some .string => (match op with | .eql => some (.eqt false (cX x) (cX y)) | .neq => some (.eqt true (cX x) (cX y)) | _ => none)
 | some (.slice _) => (match zmA y with
   | true => (match op with | .eql => some (.nils false (cX x)) | .neq => some (.nils true (cX x)) | _ => none)
   | false => none)
 | _ => (match za7 P 20 t, zbb P t, P.eqGuardType P.depth t with
   | some ks, true, false => (match op with | .eql => some (.eqs ks false (cX x) (cX y)) | .neq => some (.eqs ks true (cX x) (cX y)) | _ => none)
   | _, _, _ => none)
def zyw : TypeDesc -> Bool
 | .int _ => false
 | _ => true
def zs6 (P : Program) (sT xT : TypeId) : Option (Nat × Nat) :=
 match P.underlying sT, P.underlying xT with
 | some (.slice e), some d => match P.info? e with
   | some i => match i.zero with
     | some z => match zyw d, Nat.beq z.cells.size i.size, Nat.blt 0 i.size, Nat.blt 0 i.bytes, Nat.ble i.bytes (2 ^ 20) with
       | true, true, true, true, true => some (i.size, i.bytes)
       | _, _, _, _, _ => none
     | none => none
   | none => none
 | _, _ => none
theorem zuW {P : Program} {sT xT : TypeId} {s b : Nat} (h : zs6 P sT xT = some (s, b)) : zhD P sT xT s b := by
 unfold zs6 at h
 split at h
 . rename_i e d hu hx
   split at h
   . rename_i i hi
     split at h
     . rename_i z hz
       split at h
       . rename_i h1 h2 h3 h4 h5
         cases h
         exact ⟨e, i, z, d, hu, hi, rfl, rfl, hz, Nat.eq_of_beq_eq_true h2, by rwa [Nat.blt_eq] at h3, by rwa [Nat.blt_eq] at h4, by simpa using h5, hx, fun k e => by subst e; cases h1⟩
       . cases h
     . cases h
   . cases h
 . cases h
def zo1 (P : Program) (sT xT : TypeId) : Option (Nat × Nat) :=
 match P.underlying sT, P.underlying xT with
 | some (.slice e), some (.int _) => match P.info? e with
   | some i => match i.zero with
     | some z => match Nat.beq z.cells.size i.size, Nat.blt 0 i.size, Nat.blt 0 i.bytes, Nat.ble i.bytes (2 ^ 20) with
       | true, true, true, true => some (i.size, i.bytes)
       | _, _, _, _ => none
     | none => none
   | none => none
 | _, _ => none
theorem zsA {P : Program} {sT xT : TypeId} {s b : Nat} (h : zo1 P sT xT = some (s, b)) : zq9 P sT xT s b := by
 unfold zo1 at h
 split at h
 . rename_i e k hu hx
   split at h
   . rename_i i hi
     split at h
     . rename_i z hz
       split at h
       . rename_i h2 h3 h4 h5
         cases h
         exact ⟨e, i, z, k, hu, hi, rfl, rfl, hz, Nat.eq_of_beq_eq_true h2, by rwa [Nat.blt_eq] at h3, by rwa [Nat.blt_eq] at h4, by simpa using h5, hx⟩
       . cases h
     . cases h
   . cases h
 . cases h
def zjX (P : Program) (c : Call) : Option MO :=
 match c.callee with
 | .value f => some (.call (cX f) (c.args.toList.map cX))
 | .invoke _ _ => none
 | .builtin b => match b, c.args.toList, c.argTypes.toList with
   | .len, [x], [t] => (match P.underlying t with
     | some (.slice _) => some (.lenS (cX x))
     | some .string => some (.lenT (cX x))
     | some (.map _ _) => some (.lenM (cX x))
     | _ => none)
   | .cap, [x], [t] => (match P.underlying t with
     | some (.slice _) => some (.capN (cX x))
     | _ => none)
   | .append, [x, y], [sT, xT] => (match zs6 P sT xT with
     | some (s, b) => some (.app s b (cX x) (cX y))
     | none => (match zo1 P sT xT with | some (s, b) => some (.appz s b (cX x) (cX y)) | none => none))
   | .min, x :: ys, _ => some (.mm false (cX x) (ys.map cX))
   | .max, x :: ys, _ => some (.mm true (cX x) (ys.map cX))
   | .clear, [x], [t] => (match zT P t with | some (s, _, z) => some (.clr s z (cX x)) | none => none)
   | .delete, [x, y], [t, _] => (match ze3 P t with | some (_, _, one, ks) => some (.mdel one ks (cX x) (cX y)) | none => none)
   | _, _, _ => none
def cOp (P : Program) (o : Oper) : Option MO :=
 match o.op with
 | .move x => some (.mv (cX x))
 | .assign x => some (.mv (cX x))
 | .pick c a b => some (.pick (cX c) (cX a) (cX b))
 | .box _ x => some (.box (cX x))
 | .alloc t => (match ze7 P t with | some z => some (.alloc (z.cells.toList.map cV1)) | none => none)
 | .load t x => (match zk2 P t with | some n => some (.ld n (cX x)) | none => none)
 | .store t x y => (match zeL P t, o.dst with | some n, none => some (.st (some n) (cX x) (cX y)) | _, _ => none)
 | .nilCheck x => some (.nchk (cX x))
 | .fieldAddr t x f => (match zrA P t f with | some off => some (.fld off (cX x)) | none => none)
 | .field t x f => (match P.underlying t with
   | some (.struct fs) => (match fs[f]? with
     | some fd => (match zk2 P fd.type with | some n => some (.fldv fd.offset n (cX x)) | none => none)
     | none => none)
   | _ => none)
 | .indexAddr t x y => (match P.underlying t with
   | some (.slice e) => (match zeL P e with | some s => some (.ixa s (cX x) (cX y)) | none => none)
   | some (.array len e) => (match zeL P e with | some s => some (.ixr len s (cX x) (cX y)) | none => none)
   | _ => none)
 | .index t x y => (match P.underlying t with
   | some (.array len e) => (match zeL P e, zk2 P e with | some s, some n => some (.ixv len s n (cX x) (cX y)) | _, _ => none)
   | some .string => some (.ixs (cX x) (cX y))
   | _ => none)
 | .binOp op t x y _ => znq P op t x y
 | .unOp op _ x => (match op with | .not => some (.not (cX x)) | op => some (.un op (cX x)))
 | .convert s t x => (match P.underlying s, P.underlying t with | some _, some (.int k) => some (.cv k (cX x)) | _, _ => none)
 | .build t parts => (match zjd P t with
   | some (pl, z) => (match znl pl parts.toList with | some ps => some (.bld (z.cells.toList.map cV1) ps) | none => none)
   | none => none)
 | .buildSlice t len parts => (match P.underlying t with
   | some (.slice e) => (match zeL P e, ze7 P e with
     | some s, some z => (match Nat.blt 0 s, Nat.ble (len * s) (2 ^ 24), Nat.beq z.cells.size s with
       | true, true, true => some (.bsl s len (z.cells.toList.map cV1) (parts.toList.map fun p => (p.1, cX p.2)))
       | _, _, _ => none)
     | _, _ => none)
   | _ => none)
 | .slice t x lo hi none => (match P.underlying t with
   | some (.slice e) => (match zeL P e with | some s => some (.sls s (cX x) (oX lo) (oX hi)) | none => none)
   | _ => none)
 | .extract x i => some (.ext i (cX x))
 | .makeFunc f a c => some (.mkf f (a.toList.map cX) (c.toList.map cX))
 | .makeInterface t x => (match P.underlying t with
   | some (.interface _) => none
   | some _ => some (.mki t (cX x))
   | none => none)
 | .makeMap _ none => some .mkm
 | .lookup t x y ok => (match ze3 P t with
   | some (_, E, one, ks) => (match zgU P E with | some (zo, z) => some (.lkp ok one ks zo z (cX x) (cX y)) | none => none)
   | none => none)
 | .mapUpdate t x y z => (match ze3 P t, o.dst with | some (_, _, one, ks), none => some (.mup one ks (cX x) (cX y) (cX z)) | _, _ => none)
 | .insert t x y z => (match ze3 P t, o.dst with | some (_, _, one, ks), none => some (.mup one ks (cX x) (cX y) (cX z)) | _, _ => none)
 | .call c => zjX P c
 | .makeSlice t x y => (match zT P t with | some (s, b, z) => some (.mks s b z (cX x) (cX y)) | none => none)
 | .range t x => (match P.underlying t with | some (.map _ _) => some (.rngm (cX x)) | _ => none)
 | .next x isS => (match isS with | false => some (.nxt (cX x)) | true => none)
 | .panic x => some (.pnc (cX x))
 | .entry x => some (.ent (cX x))
 | .slice t x none (some hi) (some mx) => (match P.underlying t with
   | some (.slice e) => (match zeL P e with | some s => some (.sls3 s (cX x) (cX hi) (cX mx)) | none => none)
   | _ => none)
 | .mapEntry t x y => (match ze3 P t with
   | some (_, E, one, ks) => (match zgU P E with | some (zo, z) => some (.ment one ks zo z (cX x) (cX y)) | none => none)
   | none => none)
 | .entryStore _ x y z => (match o.dst with | none => some (.mest (cX x) (cX y) (cX z)) | some _ => none)
 | _ => none
theorem zpm {P : Program} {o : Oper} {op : BinOp} {t ty : TypeId} {x y : Operand} {m : MO} (ho : o.op = .binOp op t x y ty) (h : znq P op t x y = some m) : zmc o m := by
 unfold znq at h
 refine ⟨fun f xs e => ?_, fun f xs e => ?_, fun z e => ?_, fun z e => ?_, fun op' a b e => ?_, fun op' a b e => ?_⟩ <;> subst e <;> (repeat' (split at h)) <;> first | (cases h; done) | (cases h; exact ⟨_, _, _, _, ho, rfl, rfl⟩)
theorem znR {P : Program} {o : Oper} {c : Call} {m : MO} (ho : o.op = .call c) (h : zjX P c = some m) : zmc o m := by
 obtain ⟨callee, args, ats⟩ := c
 unfold zjX at h
 refine ⟨fun f xs e => ?_, fun f xs e => ?_, fun z e => ?_, fun z e => ?_, fun op' a b e => ?_, fun op' a b e => ?_⟩ <;> subst e
 . split at h
   . rename_i fx hf
     simp only at hf
     subst hf
     cases h
     exact ⟨fx, args, ats, ho, rfl, rfl⟩
   . cases h
   . (repeat' (split at h)) <;> cases h
 all_goals ((repeat' (split at h)) <;> cases h)
theorem zqf {P : Program} {o : Oper} {m : MO} (h : cOp P o = some m) : zmc o m := by
 unfold cOp at h
 split at h
 case h_13 op t x y ty ho => exact zpm ho h
 case h_26 c ho => exact znR ho h
 case h_29 x isS ho =>
  split at h
  . cases h
    exact ⟨fun _ _ e => (by cases e), fun _ _ e => (by cases e), fun _ e => (by cases e; exact ⟨x, ho, rfl⟩), fun _ e => (by cases e), fun _ _ _ e => (by cases e), fun _ _ _ e => (by cases e)⟩
  . cases h
 case h_30 x ho =>
  cases h
  exact ⟨fun _ _ e => (by cases e), fun _ _ e => (by cases e), fun _ e => (by cases e), fun _ e => (by cases e; exact ⟨x, ho, rfl⟩), fun _ _ _ e => (by cases e), fun _ _ _ e => (by cases e)⟩
 all_goals
  refine ⟨fun f xs e => ?_, fun f xs e => ?_, fun z e => ?_, fun z e => ?_, fun _ _ _ e => ?_, fun _ _ _ e => ?_⟩ <;> subst e <;> (repeat' (split at h)) <;> cases h
section
variable {C : Ctx} {gt : GT} {go : GO} {o : Oper} {fresh : Nat} {R : List Loc} {v : Option SV} {os : List (Nat × Option SO)} {k : Nat}
theorem zvX {op : BinOp} {t ty : TypeId} {x y : Operand} {m : MO} (ho : o.op = .binOp op t x y ty) (hm : znq C.P op t x y = some m) (h : (m.rt C.toEnv fresh).Runs gt go R v os k) (hd : zau C o.dst v) : zaD C o fresh gt go v os k := by
 unfold znq at hm
 split at hm
 . split at hm
   . cases hm; exact zzF ho h hd
   . cases hm; exact zCL ho h hd
 . rename_i hu
   split at hm
   . cases hm; exact zpW (neg := false) (by simpa using ho) hu h hd
   . cases hm; exact zpW (neg := true) (by simpa using ho) hu h hd
   . cases hm
 . split at hm
   . cases hm; exact zp4 (neg := false) (by simpa using ho) h hd
   . cases hm; exact zp4 (neg := true) (by simpa using ho) h hd
   . cases hm
 . rename_i e hu
   split at hm
   . rename_i hn
     have hn := zqH hn
     subst hn
     split at hm
     . cases hm; exact znT (neg := false) (by simpa using ho) hu h hd
     . cases hm; exact znT (neg := true) (by simpa using ho) hu h hd
     . cases hm
   . cases hm
 . split at hm
   . rename_i ks h1 h2 h3
     split at hm
     . cases hm; exact zqJ (neg := false) (by simpa using ho) ⟨⟨20, by omega, h1⟩, h2, h3⟩ h hd
     . cases hm; exact zqJ (neg := true) (by simpa using ho) ⟨⟨20, by omega, h1⟩, h2, h3⟩ h hd
     . cases hm
   . cases hm
theorem ztf {c : Call} {m : MO} (ho : o.op = .call c) (hm : zjX C.P c = some m) (h : (m.rt C.toEnv fresh).Runs gt go R v os k) (hd : zau C o.dst v) : zaD C o fresh gt go v os k := by
 obtain ⟨callee, args, ats⟩ := c
 unfold zjX at hm
 split at hm
 . rename_i f hf
   simp only at hf hm
   subst hf
   cases hm
   exact zor ho h hd
 . cases hm
 . rename_i b hb
   simp only at hb hm
   subst hb
   split at hm
   . rename_i x t h1 h2
     have h1 : args = #[x] := by rw [<- h1]
     have h2 : ats = #[t] := by rw [<- h2]
     subst h1; subst h2
     split at hm
     . rename_i e hu; cases hm; exact zu7 ho ⟨e, hu⟩ h hd
     . rename_i hu; cases hm; exact zuU ho hu h hd
     . rename_i a b hu; cases hm; exact zuR ho ⟨a, b, hu⟩ h hd
     . cases hm
   . rename_i x t h1 h2
     have h1 : args = #[x] := by rw [<- h1]
     have h2 : ats = #[t] := by rw [<- h2]
     subst h1; subst h2
     split at hm
     . rename_i e hu; cases hm; exact zvt ho ⟨e, hu⟩ h hd
     . cases hm
   . rename_i x y sT xT h1 h2
     have h1 : args = #[x, y] := by rw [<- h1]
     have h2 : ats = #[sT, xT] := by rw [<- h2]
     subst h1; subst h2
     split at hm
     . rename_i s b hs; cases hm; exact zA2 ho (zuW hs) h hd
     . split at hm
       . rename_i s b hs; cases hm; exact zvY ho (zsA hs) h hd
       . cases hm
   . rename_i x ys h1
     have h1 : args = (x :: ys).toArray := by rw [<- h1]
     subst h1
     cases hm; exact ztQ (mx := false) (by simpa using ho) h hd
   . rename_i x ys h1
     have h1 : args = (x :: ys).toArray := by rw [<- h1]
     subst h1
     cases hm; exact ztQ (mx := true) (by simpa using ho) h hd
   . rename_i x t h1 h2
     have h1 : args = #[x] := by rw [<- h1]
     have h2 : ats = #[t] := by rw [<- h2]
     subst h1; subst h2
     split at hm
     . rename_i hs; cases hm; exact zzx ho (ztW hs) h hd
     . cases hm
   . rename_i x y sT xT h1 h2
     have h1 : args = #[x, y] := by rw [<- h1]
     have h2 : ats = #[sT, xT] := by rw [<- h2]
     subst h1; subst h2
     split at hm
     . rename_i hs; cases hm; exact zvC ho ⟨_, _, zeD hs⟩ h hd
     . cases hm
   . cases hm
theorem zwY {m : MO} (hm : cOp C.P o = some m) (h : (m.rt C.toEnv fresh).Runs gt go R v os k) (hd : zau C o.dst v) : zaD C o fresh gt go v os k := by
 unfold cOp at hm
 split at hm
 case h_1 x ho => cases hm; exact zui (.inl ho) h hd
 case h_2 x ho => cases hm; exact zui (.inr ho) h hd
 case h_3 c a b ho => cases hm; exact zvO ho h hd
 case h_4 t x ho => cases hm; exact zzE ho h hd
 case h_5 t ho =>
  split at hm
  . rename_i z hz
    obtain ⟨i, hi, hz⟩ := zht hz
    cases hm; exact zsu ho hi hz h hd
  . cases hm
 case h_6 t x ho =>
  split at hm
  . rename_i n hn; cases hm; exact zDp ho (ziO hn) h hd
  . cases hm
 case h_7 t x y ho =>
  split at hm
  . rename_i n hn hdst
    obtain ⟨i, hi, hs⟩ := zed hn
    cases hm; exact zCb ho (by simp [zAc, hi, hs]) hdst h
  . cases hm
 case h_8 x ho => cases hm; exact zuT ho h hd
 case h_9 t x f ho =>
  split at hm
  . rename_i off hf; cases hm; exact zyV ho (zvE hf) h hd
  . cases hm
 case h_10 t x f ho =>
  split at hm
  . rename_i fs hu
    split at hm
    . rename_i fd hf
      split at hm
      . rename_i n hn; cases hm; exact zuw ho ⟨fs, fd, hu, hf, rfl, ziO hn⟩ h hd
      . cases hm
    . cases hm
  . cases hm
 case h_11 t x y ho =>
  split at hm
  . rename_i e hu
    split at hm
    . rename_i s hs
      obtain ⟨i, hi, hs⟩ := zed hs
      cases hm; exact zzX ho ⟨e, i, hu, hi, hs⟩ h hd
    . cases hm
  . rename_i len e hu
    split at hm
    . rename_i s hs
      obtain ⟨i, hi, hs⟩ := zed hs
      cases hm; exact zAK ho ⟨e, i, hu, hi, hs⟩ h hd
    . cases hm
  . cases hm
 case h_12 t x y ho =>
  split at hm
  . rename_i len e hu
    split at hm
    . rename_i s n hs hn
      obtain ⟨i, hi, hs⟩ := zed hs
      cases hm; exact zxN ho ⟨e, i, hu, hi, hs, ziO hn⟩ h hd
    . cases hm
  . rename_i hu; cases hm; exact zxd ho hu h hd
  . cases hm
 case h_13 op t x y ty ho => exact zvX ho hm h hd
 case h_14 op t x ho =>
  split at hm
  . cases hm; exact zyv ho h hd
  . cases hm; exact zBX ho h hd
 case h_15 s t x ho =>
  split at hm
  . rename_i d kd h1 h2; cases hm; exact zBS ho ⟨d, h1⟩ h2 h hd
  . cases hm
 case h_16 t parts ho =>
  split at hm
  . rename_i pl z hb
    split at hm
    . rename_i ps hp; cases hm; exact zA4 ho hb (zoC hp) h hd
    . cases hm
  . cases hm
 case h_17 t len parts ho =>
  split at hm
  . rename_i e hu
    split at hm
    . rename_i s z hs hz
      split at hm
      . rename_i h1 h2 h3
        obtain ⟨i, hi, hs⟩ := zed hs
        obtain ⟨i', hi', hz⟩ := zht hz
        rw [hi] at hi'; cases hi'
        cases hm
        exact zz9 ho ⟨e, i, hu, hi, hs, by rwa [Nat.blt_eq] at h1, by simpa using h2, hz, Nat.eq_of_beq_eq_true h3⟩ h hd
      . cases hm
    . cases hm
  . cases hm
 case h_18 t x lo hi ho =>
  split at hm
  . rename_i e hu
    split at hm
    . rename_i s hs
      obtain ⟨i, hi', hs⟩ := zed hs
      cases hm; exact zw0 ho ⟨e, i, hu, hi', hs⟩ h hd
    . cases hm
  . cases hm
 case h_19 x i ho => cases hm; exact zxc ho h hd
 case h_20 f a c ho => cases hm; exact zzo ho h hd
 case h_21 t x ho =>
  split at hm
  . cases hm
  . rename_i d hn hu
    cases hm; exact zwk ho ⟨d, hu, hn⟩ h hd
  . cases hm
 case h_22 t ho => cases hm; exact zyF ho h hd
 case h_23 t x y ok ho =>
  split at hm
  . rename_i K E one ks hk
    split at hm
    . rename_i zo z hz
      obtain ⟨hT, hK⟩ := zeD hk
      obtain ⟨i, zv, h1, h2, h3⟩ := zlY hz
      cases hm; exact zzI ho ⟨_, _, i, zv, hT, hK, h1, h2, h3, fun s e => by subst e; obtain ⟨i', q1, q2⟩ := zlA hz; rw [h1] at q1; cases q1; rw [h2] at q2; exact Option.some.inj q2⟩ h hd
    . cases hm
  . cases hm
 case h_24 t x y z ho =>
  split at hm
  . rename_i K E one ks hk hdst
    cases hm; exact zqF (.inl ho) ⟨_, _, zeD hk⟩ hdst h
  . cases hm
 case h_25 t x y z ho =>
  split at hm
  . rename_i K E one ks hk hdst
    cases hm; exact zqF (.inr ho) ⟨_, _, zeD hk⟩ hdst h
  . cases hm
 case h_26 c ho => exact ztf ho hm h hd
 case h_27 t x y ho =>
  split at hm
  . rename_i s b z hs; cases hm; exact zwO ho (ztW hs) h hd
  . cases hm
 case h_28 t x ho =>
  split at hm
  . rename_i a b hu; cases hm; exact zvy ho ⟨a, b, hu⟩ h hd
  . cases hm
 case h_29 x isS ho =>
  split at hm
  . cases hm; simp only [MO.rt] at h; cases h
  . cases hm
 case h_30 x ho => cases hm; simp only [MO.rt] at h; cases h
 case h_31 x ho => cases hm; exact zwE ho h hd
 case h_32 t x hi mx ho =>
  split at hm
  . rename_i e hu
    split at hm
    . rename_i s hs
      obtain ⟨i, hi', hs⟩ := zed hs
      cases hm; exact zv0 ho ⟨e, i, hu, hi', hs⟩ h hd
    . cases hm
  . cases hm
 case h_33 t x y ho =>
  split at hm
  . rename_i K E one ks hk
    split at hm
    . rename_i zo z hz
      obtain ⟨hT, hK⟩ := zeD hk
      obtain ⟨i, zv, h1, h2, h3⟩ := zlY hz
      cases hm; exact zv4 ho ⟨_, _, i, zv, hT, hK, h1, h2, h3, fun s e => by subst e; obtain ⟨i', q1, q2⟩ := zlA hz; rw [h1] at q1; cases q1; rw [h2] at q2; exact Option.some.inj q2⟩ h hd
    . cases hm
  . cases hm
 case h_34 t x y z ho =>
  split at hm
  . rename_i hdst
    cases hm; exact zuJ ho hdst h
  . cases hm
 case h_35 => cases hm
end
def zlm (i : Nat) : List Oper -> Bool
 | [] => false
 | o :: l => match o.guard with
   | some (j, _) => (match Nat.beq j i with | true => true | false => zlm i l)
   | none => zlm i l
def zp0 (all : Array Oper) (o : Oper) : Option (Option (Nat × Bool)) :=
 match o.guard with
 | none => some none
 | some (j, want) => match all[j]? with
   | some oj => match oj.dst with | some t => some (some (t, want)) | none => none
   | none => none
def znt (P : Program) (all : Array Oper) : List Oper -> Nat -> Option (List MOp)
 | [], _ => some []
 | o :: l, i => match cOp P o, zp0 all o with
   | some m, some g => (match znt P all l (i + 1) with
     | some r => some (⟨o.dst, m, g, zlm i all.toList⟩ :: r)
     | none => none)
   | _, _ => none
theorem zn2 {C : Ctx} {all : Array Oper} : ∀ {l : List Oper} {i : Nat} {ms : List MOp}, znt C.P all l i = some ms -> l.length = ms.length /\ ∀ t (h : t < l.length) (h' : t < ms.length), zds C all l[t] ms[t]
 | [], i, ms, h => by simp [znt] at h; subst h; exact ⟨rfl, fun t h => by simp at h⟩
 | o :: l, i, ms, h => by
   simp only [znt] at h
   split at h
   . rename_i m g hm hg
     split at h
     . rename_i r hr
       cases h
       obtain ⟨h1, h2⟩ := zn2 hr
       refine ⟨by simp [h1], fun t ht ht' => ?_⟩
       cases t with
       | zero =>
         simp only [List.getElem_cons_zero]
         refine ⟨zqf hm, rfl, ?_, fun h hd => zwY hm h hd⟩
         unfold zp0 at hg
         cases e : o.guard with
         | none => rw [e] at hg; simp at hg; subst hg; rfl
         | some p =>
           obtain ⟨j, want⟩ := p
           rw [e] at hg
           simp only at hg ⊢
           split at hg
           . rename_i oj hj
             split at hg
             . rename_i t ht
               simp at hg
               subst hg
               exact ⟨oj, t, hj, ht, rfl⟩
             . cases hg
           . cases hg
       | succ t => simpa using h2 t (by simpa using ht) (by simpa using ht')
     . cases h
   . cases h
def zfE : List Edge -> List Nat
 | [] => []
 | e :: l => match Region.binds .any e with | true => e.on :: zfE l | false => zfE l
theorem zig : ∀ {l : List Edge} {p : Nat}, p ∈ zfE l ↔ ∃ e ∈ l, Region.binds .any e = true /\ e.on = p
 | [], p => by simp [zfE]
 | e :: l, p => by
   simp only [zfE]
   cases h : Region.binds .any e with
   | true =>
     simp only [List.mem_cons, zig (l := l)]
     constructor
     . rintro (rfl | ⟨e', h1, h2⟩)
       . exact ⟨e, .inl rfl, h, rfl⟩
       . exact ⟨e', .inr h1, h2⟩
     . rintro ⟨e', rfl | h1, h2, h3⟩
       . exact .inl h3.symm
       . exact .inr ⟨e', h1, h2, h3⟩
   | false =>
     simp only [zig (l := l), List.mem_cons]
     constructor
     . rintro ⟨e', h1, h2⟩; exact ⟨e', .inr h1, h2⟩
     . rintro ⟨e', rfl | h1, h2⟩
       . rw [h] at h2; cases h2.1
       . exact ⟨e', h1, h2⟩
def zmh (i : Nat) : List Nat -> Bool
 | [] => true
 | p :: l => match Nat.blt p i with | true => zmh i l | false => false
def zlc : List Oper -> Nat -> Option (List (List Nat))
 | [], _ => some []
 | o :: l, i => match zmh i (zfE o.after.toList) with
   | true => (match zlc l (i + 1) with | some r => some (zfE o.after.toList :: r) | none => none)
   | false => none
theorem zlG {i : Nat} : ∀ {l : List Nat}, zmh i l = true -> ∀ p ∈ l, p < i
 | [], _, p, h => by cases h
 | q :: l, h, p, hp => by
   simp only [zmh] at h
   split at h
   . rename_i hq
     rw [Nat.blt_eq] at hq
     rcases List.mem_cons.1 hp with rfl | hp
     . exact hq
     . exact zlG h p hp
   . cases h
theorem zop : ∀ {l : List Oper} {i : Nat} {pre : List (List Nat)}, zlc l i = some pre -> (∀ (j : Nat) (o : Oper), l[j]? = some o -> pre.getD j [] = zfE o.after.toList /\ ∀ p ∈ zfE o.after.toList, p < i + j) /\ ∀ j, l.length <= j -> pre.getD j [] = []
 | [], i, pre, h => by simp [zlc] at h; subst h; exact ⟨fun j o h => by simp at h, fun j _ => by simp⟩
 | o :: l, i, pre, h => by
   simp only [zlc] at h
   split at h
   . rename_i hlt
     split at h
     . rename_i r hr
       cases h
       obtain ⟨h1, h2⟩ := zop hr
       refine ⟨fun j o' hj => ?_, fun j hj => ?_⟩
       . cases j with
         | zero => simp at hj; subst hj; exact ⟨by simp, zlG hlt⟩
         | succ j =>
           obtain ⟨q1, q2⟩ := h1 j o' (by simpa using hj)
           exact ⟨by simpa using q1, fun p hp => by have := q2 p hp; omega⟩
       . cases j with
         | zero => simp at hj
         | succ j => simpa using h2 j (by simpa using hj)
     . cases h
   . cases h
theorem zrt {ops : Array Oper} {pre : List (List Nat)} (h : zlc ops.toList 0 = some pre) : ztu ops pre := by
 obtain ⟨h1, h2⟩ := zop h
 refine ⟨fun j o hj p => ?_, fun j p hp => ?_⟩
 . obtain ⟨q1, _⟩ := h1 j o (by simpa using hj)
   rw [q1, zig]
   simp
 . by_cases hj : j < ops.size
   . obtain ⟨q1, q2⟩ := h1 j ops[j] (by simp [hj])
     rw [q1] at hp
     have := q2 p hp
     omega
   . rw [h2 j (by simp; omega)] at hp; cases hp
def comp (P : Program) : Code -> Option MC
 | .skip => some .skip
 | .region _ ops drawn => match znt P ops ops.toList 0 with
   | some ms => (match drawn with
     | false => some (.reg ms)
     | true => match zlc ops.toList 0 with | some pre => some (.drw ms pre) | none => none)
   | none => none
 | .seq a b => match comp P a, comp P b with | some a, some b => some (.seq a b) | _, _ => none
 | .cond x a b => match comp P a, comp P b with | some a, some b => some (.cond (cX x) a b) | _, _ => none
 | .block id a => match comp P a with | some a => some (.blk id a) | none => none
 | .loop a => match comp P a with | some a => some (.loop 0 a) | none => none
 | .exit id => some (.exit id)
 | .ret => some .ret
 | .rangeFunc f ps a b => match comp P a, comp P b with | some a, some b => some (.rng (cX f) ps.toList a b 0 0 .skip) | _, _ => none
 | _ => none
def zm0 : MO -> MO
 | .arl op x y => .ar op x y
 | .cmpl op x y => .cmp op x y
 | .pcall f xs => .call f xs
 | m => m
def zcE : List MOp -> List MOp
 | [] => []
 | m :: l => { m with m := zm0 m.m } :: zcE l
theorem zfR : ∀ (l : List MOp), (zcE l).length = l.length
 | [] => rfl
 | m :: l => by simp [zcE, zfR l]
theorem zib : ∀ (l : List MOp) (t : Nat) (h : t < l.length) (h' : t < (zcE l).length), (zcE l)[t] = { l[t] with m := zm0 l[t].m }
 | [], t, h, _ => by simp at h
 | m :: l, 0, _, _ => rfl
 | m :: l, t + 1, h, h' => by
   simp only [zcE, List.getElem_cons_succ]
   exact zib l t (by simpa using h) (by simpa [zcE] using h')
theorem zds.lit {C : Ctx} {ops : Array Oper} {o : Oper} {m : MOp} (h : zds C ops o { m with m := zm0 m.m }) : zds C ops o m := by
 obtain ⟨d, mm, g, sp⟩ := m
 cases mm
 case arl op x y =>
  obtain ⟨t, ox, oy, ty, ho, rfl, rfl⟩ := h.sh.ar _ _ _ rfl
  exact ⟨⟨fun _ _ e => (by cases e), fun _ _ e => (by cases e), fun _ e => (by cases e), fun _ e => (by cases e), fun _ _ _ e => (by cases e), fun _ _ _ e => (by cases e)⟩, h.d, h.g, fun hr hd => zxA ho hr hd⟩
 case cmpl op x y =>
  obtain ⟨t, ox, oy, ty, ho, rfl, rfl⟩ := h.sh.cmp _ _ _ rfl
  exact ⟨⟨fun _ _ e => (by cases e), fun _ _ e => (by cases e), fun _ e => (by cases e), fun _ e => (by cases e), fun _ _ _ e => (by cases e), fun _ _ _ e => (by cases e)⟩, h.d, h.g, fun hr hd => zvA ho hr hd⟩
 case pcall f xs =>
  obtain ⟨fx, ax, ats, ho, rfl, rfl⟩ := h.sh.call _ _ rfl
  exact ⟨⟨fun _ _ e => (by cases e), fun _ _ e => (by cases e; exact ⟨fx, ax, ats, ho, rfl, rfl⟩), fun _ e => (by cases e), fun _ e => (by cases e), fun _ _ _ e => (by cases e), fun _ _ _ e => (by cases e)⟩, h.d, h.g, fun hr hd => by simp only [MO.rt] at hr; cases hr⟩
 all_goals exact h
theorem ziN.lit {C : Ctx} {ops : Array Oper} {l : List MOp} (h : ziN C ops (zcE l)) : ziN C ops l := by
 refine ⟨by rw [h.len, zfR], fun t ht ht' => ?_⟩
 obtain ⟨o, h1, h2⟩ := h.ok t ht (by rw [zfR]; exact ht')
 rw [zib l t ht'] at h2
 exact ⟨o, h1, h2.lit⟩
def za6 : MC -> MC
 | .seq a b => .seq (za6 a) (za6 b)
 | .join _ a b => .seq (za6 a) (za6 b)
 | .cond x a b => .cond x (za6 a) (za6 b)
 | .blk id a => .blk id (za6 a)
 | .loop _ a => .loop 0 (za6 a)
 | .rng f ps a b _ _ _ => .rng f ps (za6 a) (za6 b) 0 0 .skip
 | .gh _ a => za6 a
 | .skip => .skip
 | .reg l => .reg (zcE l)
 | .drw l p => .drw (zcE l) p
 | .exit i => .exit i
 | .ret => .ret
structure zyd (P : Program) (n N : Nat) (it : MC) : Prop where
 ok : ∃ fn code, P.funcs[n]? = some fn /\ fn.body = some code /\ fn.ntmps = N /\ comp P code = some (za6 it) /\ fn.results = #[]
 ent : zdz P n
def Its (P : Program) : MC -> Prop
 | .seq a b => Its P a /\ Its P b
 | .join _ a b => Its P a /\ Its P b
 | .cond _ a b => Its P a /\ Its P b
 | .blk _ a => Its P a
 | .loop _ a => Its P a
 | .rng _ _ a b n N it => Its P a /\ Its P b /\ zyd P n N it /\ Its P it
 | .gh _ a => Its P a
 | _ => True
theorem zjp {P : Program} {id : Nat} {ops : Array Oper} {drawn : Bool} {mc : MC} (h : comp P (.region id ops drawn) = some mc) : zbp P (.region id ops drawn) mc := by
 simp only [comp] at h
 split at h
 . rename_i ms hms
   have hr : ∀ C : Ctx, C.P = P -> ziN C ops ms := fun C hP => by
    subst hP
    obtain ⟨h1, h2⟩ := zn2 hms
    exact ⟨by simpa using h1, fun t ht ht' => ⟨ops[t], by simp [ht], by have := h2 t (by simpa using ht) ht'; simpa using this⟩⟩
   split at h
   . cases h; exact .reg hr
   . split at h
     . rename_i pre hp; cases h; exact .drw hr (zrt hp)
     . cases h
 . cases h
theorem zg2 {P : Program} : ∀ {mc : MC} {code : Code}, comp P code = some (za6 mc) -> Its P mc -> zbp P code mc := by
 intro mc
 induction mc with
 | gh g a ih => intro code h hi; exact .gh (ih h hi)
 | skip => intro code h _; cases code <;> simp only [comp, za6] at h <;> (try (repeat' (split at h)) <;> cases h) <;> exact .skip
 | reg l =>
   intro code h _
   cases code
   case region id ops drawn =>
    simp only [za6] at h
    have := zjp h
    cases this with
    | reg hr => exact .reg fun C hC => (hr C hC).lit
   all_goals (simp only [comp, za6] at h; (repeat' (split at h)) <;> cases h)
 | drw l p =>
   intro code h _
   cases code
   case region id ops drawn =>
    simp only [za6] at h
    have := zjp h
    cases this with
    | drw hr hd => exact .drw (fun C hC => (hr C hC).lit) hd
   all_goals (simp only [comp, za6] at h; (repeat' (split at h)) <;> cases h)
 | seq a b ih1 ih2 =>
   intro code h hi
   cases code
   case seq x y =>
    simp only [comp, za6] at h
    split at h
    . rename_i a' b' h1 h2; cases h; exact .seq (ih1 h1 hi.1) (ih2 h2 hi.2)
    . cases h
   all_goals (simp only [comp, za6] at h; (repeat' (split at h)) <;> cases h)
 | join n a b ih1 ih2 =>
   intro code h hi
   cases code
   case seq x y =>
    simp only [comp, za6] at h
    split at h
    . rename_i a' b' h1 h2; cases h; exact .join (ih1 h1 hi.1) (ih2 h2 hi.2)
    . cases h
   all_goals (simp only [comp, za6] at h; (repeat' (split at h)) <;> cases h)
 | cond x a b ih1 ih2 =>
   intro code h hi
   cases code
   case cond c y z =>
    simp only [comp, za6] at h
    split at h
    . rename_i a' b' h1 h2; cases h; exact .cond (ih1 h1 hi.1) (ih2 h2 hi.2)
    . cases h
   all_goals (simp only [comp, za6] at h; (repeat' (split at h)) <;> cases h)
 | blk id a ih =>
   intro code h hi
   cases code
   case block i y =>
    simp only [comp, za6] at h
    split at h
    . rename_i a' h1; cases h; exact .blk (ih h1 hi)
    . cases h
   all_goals (simp only [comp, za6] at h; (repeat' (split at h)) <;> cases h)
 | loop n a ih =>
   intro code h hi
   cases code
   case loop y =>
    simp only [comp, za6] at h
    split at h
    . rename_i a' h1; cases h; exact .loop (ih h1 hi)
    . cases h
   all_goals (simp only [comp, za6] at h; (repeat' (split at h)) <;> cases h)
 | exit i => intro code h _; cases code <;> simp only [comp, za6] at h <;> (try (repeat' (split at h)) <;> cases h) <;> exact .exit
 | ret => intro code h _; cases code <;> simp only [comp, za6] at h <;> (try (repeat' (split at h)) <;> cases h) <;> exact .ret
 | rng f ps a b n N it ih1 ih2 ih3 =>
   intro code h hi
   cases code
   case rangeFunc g qs x y =>
    simp only [comp, za6] at h
    split at h
    . rename_i a' b' h1 h2
      cases h
      obtain ⟨i1, i2, i3, i4⟩ := hi
      obtain ⟨fn, code, e1, e2, e3, e4, e5⟩ := i3.ok
      exact .rng (ih1 h1 i1) (ih2 h2 i2) e1 e2 e3 e5 i3.ent (ih3 e4 i4)
    . cases h
   all_goals (simp only [comp, za6] at h; (repeat' (split at h)) <;> cases h)
def cRV (P : Program) : ResultVar -> Option RV
 | .tmp t => some (.t t)
 | .cell a t => match zk2 P t with | some n => some (.c a n) | none => none
def ziG (P : Program) : List ResultVar -> Option (List RV)
 | [] => some []
 | r :: l => match cRV P r, ziG P l with | some v, some vs => some (v :: vs) | _, _ => none
theorem zkP {P : Program} : ∀ {l : List ResultVar} {vs : List RV}, ziG P l = some vs -> zfy P l vs
 | [], vs, h => by simp [ziG] at h; simp [zfy, h]
 | r :: l, vs, h => by
   simp only [ziG] at h
   split at h
   . rename_i v vs' h1 h2
     cases h
     refine ⟨v, vs', rfl, ⟨?_⟩, zkP h2⟩
     cases r with
     | tmp t => simp [cRV] at h1; subst h1; rfl
     | cell a t =>
       simp only [cRV] at h1
       split at h1
       . rename_i n hn; cases h1; exact ⟨rfl, ziO hn⟩
       . cases h1
   . cases h
structure zan (P : Program) (f : FuncId) (N : Nat) (mc : MC) (rs : List RV) : Prop where
 ok : ∃ fn code, P.funcs[f]? = some fn /\ fn.body = some code /\ fn.ntmps = N /\ comp P code = some (za6 mc) /\ ziG P fn.results.toList = some rs
 its : Its P mc
 ent : zdz P f
def zrQ : zcB := fun _ _ _ => .fail
theorem zoB (E : Value -> Ending) (P : Program) (G : Nat -> Option SV) : zgC E P G zrQ := fun _ _ _ _ _ _ _ _ _ h => by cases h
theorem zac {P : Program} {G : Nat -> Option SV} {f : FuncId} {N : Nat} {mc : MC} {rs : List RV} (hmix : P.follows .mixedOrders = true) (hf : zan P f N mc rs) (L : zaa) (hN : Nat.ble L.args.length N = true) (hout : Nat.beq L.out.length L.foot.length = true)
 {S : zcB} (hS : SOk P G S) (LA : Nat -> zbO) (JA : Nat -> zfk)
 (h : fTs (zbs L.args 0) fun t => fOs (zbs (zd7 L.foot) 0) fun o => zb8 L.foot.length fun nx => run ⟨P, G, N, none, nx, none, S, LA, JA, zrQ⟩ mc ⟨t, o, nx⟩ (zzf rs L)) : zaa.ok P G f L := by
  rw [zkE, zfY, zbi] at h
  obtain ⟨fn, code, h1, h2, rfl, h4, h5⟩ := hf.ok
  exact zve hmix h1 h2 hf.ent (zg2 h4 hf.its) (zkP h5) (by simpa using hN) (Nat.eq_of_beq_eq_true hout) hS LA JA (zoB _ _ _) h
theorem zh3 {P : Program} {f : FuncId} {fn : Func} {c : Code} (hf : P.funcs[f]? = some fn) (hname : (fn.name == "runtime.NumGoroutine") = false) (hb : fn.body = some c) : zdz P f := by
 intro args w
 have h1 : fn.name ≠ "runtime.NumGoroutine" := by simpa using hname
 simp [callFunc, hf, h1, hb, mark]
theorem zan.of {P : Program} {f : FuncId} {fn : Func} {N : Nat} {mc : MC} {rs : List RV} (hf : P.funcs[f]? = some fn) (hname : (fn.name == "runtime.NumGoroutine") = false) (hN : fn.ntmps = N)
 (hc : (match fn.body with | some c => comp P c | none => none) = some (za6 mc)) (hr : ziG P fn.results.toList = some rs) (hi : Its P mc) : zan P f N mc rs := by
  cases hb : fn.body with
  | none => rw [hb] at hc; cases hc
  | some c =>
    rw [hb] at hc
    exact ⟨⟨fn, c, hf, hb, hN, hc, hr⟩, hi, zh3 hf hname hb⟩
theorem zan.it {P : Program} {f : FuncId} {N : Nat} {mc : MC} (h : zan P f N mc []) : zyd P f N mc := by
 obtain ⟨fn, code, h1, h2, h3, h4, h5⟩ := h.ok
 refine ⟨⟨fn, code, h1, h2, h3, h4, ?_⟩, h.ent⟩
 cases hl : fn.results.toList with
 | nil => simpa using hl
 | cons x l =>
   rw [hl] at h5
   simp only [ziG] at h5
   (repeat' (split at h5)) <;> cases h5
theorem i64_in {n : Int} (h1 : -9223372036854775808 <= n) (h2 : n < 9223372036854775808) : (ULift.up n).down = IntKind.i64.wrap n := by
 show n = IntKind.i64.wrap n
 exact (IntWalk.i64_in n ⟨h1, by omega⟩).symm
theorem exI {α : Sort _} {p q : α -> Prop} {x : α} (h : p x) (k : q x) : ∃ x, p x /\ q x := ⟨x, h, k⟩
abbrev SFn := List SV -> (zaa -> RT) -> RT
def FnS (P : Program) (G : Nat -> Option SV) (f : FuncId) (sf : SFn) : Prop := ∀ args k gt go R v os n, (sf args k).Runs gt go R v os n -> ∃ L R', zaa.ok P G f L /\ (k L).Runs gt go R' v os n
def zoK (l : List (FuncId × SFn)) : zcB := fun f args k => match zao f l with | some sf => sf args k | none => .fail
def Tab (P : Program) (G : Nat -> Option SV) : List (FuncId × SFn) -> Prop
 | [] => True
 | (f, sf) :: l => FnS P G f sf /\ Tab P G l
theorem Tab.ok {P : Program} {G : Nat -> Option SV} : ∀ {l : List (FuncId × SFn)}, Tab P G l -> SOk P G (zoK l) := by
 intro l h f args k gt go R v os n hr
 unfold zoK at hr
 split at hr
 . rename_i sf hs
   have : ∀ (l : List (FuncId × SFn)), Tab P G l -> zao f l = some sf -> FnS P G f sf := by
    intro l
    induction l with
    | nil => intro _ h; simp [zao] at h
    | cons p l ih =>
      obtain ⟨g, sg⟩ := p
      intro h1 h2
      rw [zaJ] at h2
      by_cases e : g = f
      . subst e; rw [if_pos rfl] at h2; cases h2; exact h1.1
      . rw [if_neg e] at h2; exact ih h1.2 h2
   exact this l h hs args k gt go R v os n hr
 . cases hr
theorem aj {p q : Prop} (k : q) (h : p := by first | with_reducible rfl | exact ⟨by with_reducible rfl, by with_reducible rfl⟩ | exact (show zbH _ _ = true by kernel_rfl) | exact rfl | exact ⟨rfl, rfl⟩ | decide | omega) : Sd p /\ q := ⟨⟨h⟩, k⟩
theorem w3 {p : Prop} (h : p := by first | exact ⟨trivial, trivial, trivial⟩ | (refine ⟨rfl, ?_⟩; simp; first | done | fail) | (simp [zai.len]; first | done | fail)) : p := h
theorem nx {p q : Prop} (h : p -> False := by (with_reducible intro h); first | exact (zxp h (by with_reducible assumption)).elim | exact (zxp (by with_reducible assumption) h).elim | exact (zt8 h (by with_reducible assumption)).elim | exact (zt8 (by with_reducible assumption) h).elim | exact (zt3 h (by with_reducible assumption)).elim | exact (zt3 (by with_reducible assumption) h).elim | exact absurd (by with_reducible assumption) h | exact absurd h (by with_reducible assumption) | exact absurd h (by decide) | (revert h; simp; first | done | fail)) : p -> q := fun a => (h a).elim
theorem ny {p q : Prop} (h : p -> False := by (with_reducible intro h); first | exact absurd h (by decide) | (revert h; simp; first | done | fail)) : p -> q := fun a => (h a).elim
abbrev mt (g d s : Nat) : MOp := ⟨some d, .mv (.t s), some (g, true), false⟩
abbrev mf (g d s : Nat) : MOp := ⟨some d, .mv (.t s), some (g, false), false⟩
abbrev gt_ (g d : Nat) (m : MO) : MOp := ⟨some d, m, some (g, true), false⟩
abbrev gf (g d : Nat) (m : MO) : MOp := ⟨some d, m, some (g, false), false⟩
abbrev sm (d s : Nat) : MOp := ⟨some d, .mv (.t s), none, true⟩
abbrev fc (n : Nat) (l : List X) : MO := .call (.k (.fn (.func n) [] [])) l
abbrev zI : List SV := [.int .i64 0, .int .i64 0, .int .i64 0, .int .i64 0, .int .i64 0, .int .i64 0, .int .i64 0, .int .i64 0, .int .i64 0, .int .u32 0, .int .u32 0, .int .u32 0, .int .u32 0, .int .u32 0, .int .u32 0]
abbrev ia (s a b : Nat) : MO := .ixa s (.t a) (.t b)
abbrev ls (n a : Nat) : MO := .ld (some n) (.t a)
abbrev ln (a : Nat) : MO := .ld none (.t a)
abbrev pf (a b : Nat) : MO := .pick (.t a) (.t b) (.k .ff)
abbrev pt (a b : Nat) : MO := .pick (.t a) (.k .tt) (.t b)
abbrev fl (n a : Nat) : MO := .fld n (.t a)
abbrev ex_ (n a : Nat) : MO := .ext n (.t a)
abbrev cc (op : BinOp) (a : Nat) (k : Int) : MO := .cmp op (.t a) (.k (.int .i64 k))
abbrev ct (op : BinOp) (a b : Nat) : MO := .cmp op (.t a) (.t b)
abbrev ac (op : BinOp) (a : Nat) (k : Int) : MO := .ar op (.t a) (.k (.int .i64 k))
abbrev at_ (op : BinOp) (a b : Nat) : MO := .ar op (.t a) (.t b)
abbrev oo (d : Nat) (m : MO) : MOp := ⟨some d, m, none, false⟩
abbrev om (d s : Nat) : MOp := ⟨some d, .mv (.t s), none, false⟩
theorem ai {p q : Prop} (h : p) (k : q) : Sd p /\ q := And.intro (Sd.mk h) k
theorem tv : True := trivial
theorem fk {P : Program} {f : FuncId} {fn : Func} {N : Nat} {mc : MC} {rs : List RV} (hf : P.funcs[f]? = some fn) (hi : Its P mc) (h1 : (fn.name == "runtime.NumGoroutine") = false := by kernel_rfl) (h2 : fn.ntmps = N := by kernel_rfl) (h3 : (match fn.body with | some c => comp P c | none => none) = some (za6 mc) := by kernel_rfl) (h4 : ziG P fn.results.toList = some rs := by kernel_rfl) : zan P f N mc rs := .of hf h1 h2 h3 h4 hi
abbrev o (d : Option Nat) (m : MO) : MOp := ⟨d, m, none, false⟩
abbrev os (d : Option Nat) (m : MO) : MOp := ⟨d, m, none, true⟩
abbrev og (t : Nat) (b : Bool) (d : Option Nat) (m : MO) : MOp := ⟨d, m, some (t, b), false⟩
abbrev ogs (t : Nat) (b : Bool) (d : Option Nat) (m : MO) : MOp := ⟨d, m, some (t, b), true⟩
abbrev ki (n : Int) : X := .k (.int .i64 n)
abbrev kt : X := .k .tt
abbrev kf : X := .k .ff
abbrev kz (n : Int) : SV := .int .i64 n
end Go.Sx
namespace Go.Sx
open Go
open Classical
def ztD (v : SV) (L : zaa) : RT :=
 mSV ⟨zfe L.out 0, []⟩ L.res v fun ρ => zgh ρ (zbB L.out 0 ++ zbs L.new L.foot.length) fun ρ => zkH L.foot.length (L.foot.length + L.new.length) ρ
def zwT (L : zaa) : Ex -> St -> Prop
 | .pan v, s => (ztD v L).vc (zaO s.t) (zax s.o) [] fun _ _ _ _ => True
 | _, _ => False
theorem zmz {F : Fence} {n : Nat} {P : Program} {fn : Func} {tmps : Array Value} {R : Ending -> World -> Prop} {ch : List PanicEntry} : ∀ (ds : List Deferred) (w : World), ds.Nodup -> (∀ d ∈ ds, ∃ D, d = { target := .collected D, args := #[] } /\ w.heap[D]? = some (.deferred (some []))) →
 (∀ w' : World, w'.heap.size = w.heap.size -> w'.os = w.os -> w'.tape = w.tape -> w'.output = w.output -> (∀ b, { target := .collected b, args := #[] } ∉ ds -> w'.heap[b]? = w.heap[b]?) →
  R (.panicked ch) w') -> LeavesInM F n P fn tmps R ds (.panicking ch) w
  | [], w, _, _, h => h w rfl rfl rfl rfl (fun _ _ => rfl)
  | d :: ds, w, hnd, hd, h => by
    obtain ⟨D, rfl, hD⟩ := hd d (by simp)
    have hnd' := List.nodup_cons.1 hnd
    have hput : ∀ b, b ≠ D -> (w.putObj D (.deferred none)).heap[b]? = w.heap[b]? := fun b hb => World.putObj_heap_other hb
    refine ⟨by simp, .inl ⟨D, _, rfl, run_takeDeferred hD, zmz ds _ hnd'.2 (fun d' hd' => ?_) (fun w' h1 h2 h3 h4 h5 => ?_)⟩⟩
    . obtain ⟨D', rfl, hD'⟩ := hd d' (by simp [hd'])
      refine ⟨D', rfl, (hput D' (fun e => ?_)).trans hD'⟩
      subst e
      exact hnd'.1 hd'
    . refine h w' (h1.trans (by simp [World.putObj])) h2 h3 h4 (fun b hb => ?_)
      simp only [List.mem_cons, not_or] at hb
      exact (h5 b hb.2).trans (hput b (fun e => hb.1 (by rw [e])))
theorem zrO {P : Program} {G : Nat -> Option SV} {f : FuncId} {fn : Func} {code : Code} {mc : MC} {L : zaa} (hmix : P.follows .mixedOrders = true) (hf : P.funcs[f]? = some fn) (hb : fn.body = some code)
 (hent : zdz P f) (hmc : zbp P code mc) (hN : L.args.length <= fn.ntmps) (hout : L.out.length = L.foot.length)
 {S : zcB} (hS : SOk P G S) (LA : Nat -> zbO) (JA : Nat -> zfk) {PS : zcB} (hPS : zgC panicked P G PS) (h : run ⟨P, G, fn.ntmps, none, L.foot.length, none, S, LA, JA, PS⟩ mc (entry L) (zwT L)) : zaa.okE panicked P G f L := by
  refine ⟨hent, hout, fun β own S0 w vs hβ hmem hargs hgl => ?_⟩
  have hlen := zaM _ _ hargs
  simp at hlen
  let C : Ctx := { P := P, G := G, N := fn.ntmps, rnd := none, m0 := L.foot.length, Y := none, S := S, L := LA, J := JA, PS := PS, sok := hS, psok := hPS, w0 := w, X0 := zbg L.go0 own, S0 := S0, β0 := β }
  have hgo : zax (zbs (zd7 L.foot) 0) = L.go0 := funext fun i => by rw [zg8]; simp [zaa.go0]
  have H0 : zaA C (entry L) β own S0 { tmps := vs ++ Array.replicate (fn.ntmps - vs.size) undef, defers := [] } w := by
   refine ⟨⟨fun t s e => ?_, by simp only [entry]; rw [hgo]; exact hmem, Fr.refl _ _, fun id b h1 h2 => ?_, fun _ e => e, fun _ e => .inl e, ?_, ⟨⟨by simp [mks], fun d hd => by simp [mks] at hd⟩, rfl⟩, hgl⟩, hβ, Nat.le_refl _, fun i B _ e => e⟩
   . simp only [entry, zaO, zcj, Nat.zero_le, if_true, Nat.sub_zero] at e
     rw [zbC] at e
     obtain ⟨y, h1, h2⟩ := zea (i := t) _ _ _ hargs e
     have ht : t < vs.size := by
      have := (List.getElem?_eq_some_iff.1 h1).1
      simpa using this
     have : (vs ++ Array.replicate (fn.ntmps - vs.size) undef).getD t undef = y := by
      rw [Array.getD_eq_getD_getElem?, Array.getElem?_append_left ht]
      simp at h1
      rw [h1]; rfl
     simp only [this]
     exact h2
   . left
     simp only [entry] at h1
     rw [hgo] at h1
     exact ⟨id, h1, h2⟩
   . show (vs ++ Array.replicate (fn.ntmps - vs.size) undef).size = fn.ntmps
     simp; omega
  have hwp := zh0 (C := C) hmix hmc rfl (fun y e => by cases e) h H0
  refine callsIn_wide.1 (callsIn_of_wp_marks (F := Fence.wide) (n := 0) hf hb trivial (wpIn_mono (F := Fence.wide) hwp ?_) rfl)
  have fin : ∀ s' β1 own1 S1 a' w' v x, ((ztD v L).vc (zaO s'.t) (zax s'.o) [] fun _ _ _ _ => True) -> zaA C s' β1 own1 S1 a' w' -> rel β1 w' S1 v x →
   LeavesInM Fence.wide 0 P fn a'.tmps (fun e w' => ∃ v β' own' S', e = panicked v /\ zi6 L.foot.length β w S0 β' w' S' /\ (∀ id, L.foot.length + L.new.length <= id -> β' id = none) ∧
    rel β' w' S' L.res v /\ zaw β' own' S' L.go1 w' /\ Fr (zbg L.go0 own) w w' /\ (∀ id b, (L.go1 id).isSome -> own' id b -> zbg L.go0 own b \/ w.heap.size <= b) ∧
    (∀ b, S' b -> S0 b \/ zbg L.go0 own b \/ w.heap.size <= b)) a'.defers (.panicking [{ v := x, recovered := false }]) w' := by
    intro s' β1 own1 S1 a' w' v x hk H hx
    obtain ⟨hdf, hms⟩ := H.h.df
    rw [zgP hms] at hdf
    refine zmz a'.defers w' hdf.nd (fun d hd => ?_) (fun w2 h1 h2 h3 h4 h5 => ?_)
    . obtain ⟨D, e1, _, e3, _⟩ := hdf.at_ d hd
      exact ⟨D, e1, e3⟩
    . have H2 := H.h.undf h1 h2 h3 h4 hdf h5
      have hx2 : rel β1 w2 S1 v x := zaH ⟨fun _ _ e => e, fun _ e => e, fun b hb => h5 b (fun e => by
       obtain ⟨D, e1, _, _, e4, _⟩ := hdf.at_ _ e
       injection e1 with e1
       injection e1 with e1
       subst e1
       exact e4 hb)⟩ _ _ hx
      obtain ⟨R, v', os, k, hk, _⟩ := RT.runs_of_vc _ _ _ hk
      obtain ⟨ρ1, R2, hk, l1, i1, m1⟩ := zdV _ hk
      obtain ⟨ρ2, R3, hk, l2, i2, m2⟩ := zdF _ hk
      obtain ⟨e1, e2, e3⟩ := zgv hk
      have hinj : ρ2.inj := i2 (i1 (fun i i' j q q' => by
       have := zci _ _ _ _ q
       have := zci _ _ _ _ q'
       simp_all))
      obtain ⟨hm, ho, hl⟩ := zi5 H2 hinj _ m2 e1
      have hgo1 : ∀ i, zao i (zbB L.out 0 ++ zbs L.new L.foot.length) = L.go1 i := fun i => by
       rw [zdn, zdQ, zcj]
       simp only [Nat.zero_le, if_true, Nat.sub_zero, zaa.go1]
       by_cases c : i < L.foot.length
       . rw [if_pos c, if_neg (by omega)]
         cases zaV L.out i with
         | none => rfl
         | some q => cases q <;> rfl
       . rw [if_neg c, if_pos (by omega)]
         have : zaV L.out i = none := by rw [zbC]; simp; omega
         rw [this]; rfl
      have hgo1' : (fun i => zao i (zbB L.out 0 ++ zbs L.new L.foot.length)) = L.go1 := funext hgo1
      rw [hgo1'] at hm
      refine ⟨_, bOf ρ2 β1 (zlh (zbB L.out 0 ++ zbs L.new L.foot.length)), zcc ρ2 own1, _, rfl, ⟨fun i B hi e => ?_, fun b hb => .inl (H2.s0 b hb), fun b hb => ?_⟩, fun i hi => by simp [bOf, zdW e2 i hi],
       m1 ρ2 l2 (zeT H2.mem) _ _ hx2, hm, H2.fr, fun id b hi hb => ?_, fun b hb => ?_⟩
      . simp only [bOf] at e
        split at e
        . rename_i j hj
          have := zck e3 i _ hi hj
          cases this
          exact H.b0 i B hi e
        . rename_i hj
          have := zck e3 i _ hi hj
          cases this
        . cases e
      . exact H2.fr.block b (hmem.sz b hb) (fun ⟨i, q1, q2⟩ => hmem.st i b q1 q2 hb)
      . obtain ⟨j, q1, q2⟩ := ho id b (by rw [hgo1]; exact hi) hb
        exact H2.own0 j b q1 q2
      . rcases hb with hb | hb
        . exact H2.s1 b hb
        . obtain ⟨j, q1, q2⟩ := hl b hb
          exact .inr (H2.own0 j b q1 q2)
  intro e a' w' hp
  cases e with
  | normal => obtain ⟨s', β1, own1, S1, hk, H⟩ := hp; exact hk.elim
  | ret => obtain ⟨s', β1, own1, S1, hk, H⟩ := hp; exact hk.elim
  | exit i => obtain ⟨s', β1, own1, S1, hk, H⟩ := hp; exact hk.elim
  | goto l => exact hp.elim
  | panic c => obtain ⟨s', β1, own1, S1, v, x, rfl, hk, H, hx⟩ := hp; exact fin s' β1 own1 S1 a' w' v x hk H hx
  | outgrown => exact hp.elim
theorem zv7 {P : Program} {G : Nat -> Option SV} {f : FuncId} {N : Nat} {mc : MC} {rs : List RV} (hmix : P.follows .mixedOrders = true) (hf : zan P f N mc rs) (L : zaa) (hN : Nat.ble L.args.length N = true) (hout : Nat.beq L.out.length L.foot.length = true)
 {S : zcB} (hS : SOk P G S) (LA : Nat -> zbO) (JA : Nat -> zfk)
 (h : fTs (zbs L.args 0) fun t => fOs (zbs (zd7 L.foot) 0) fun o => zb8 L.foot.length fun nx => run ⟨P, G, N, none, nx, none, S, LA, JA, zrQ⟩ mc ⟨t, o, nx⟩ (zwT L)) : zaa.okE panicked P G f L := by
  rw [zkE, zfY, zbi] at h
  obtain ⟨fn, code, h1, h2, rfl, h4, h5⟩ := hf.ok
  exact zrO hmix h1 h2 hf.ent (zg2 h4 hf.its) (by simpa using hN) (Nat.eq_of_beq_eq_true hout) hS LA JA (zoB _ _ _) h
end Go.Sx
namespace Go.Proofs.YtlahifihaeafbaaGreatDoor
open Go Go.Sx
section
theorem mix : Tryz.prog.follows .mixedOrders = true := by kernel_rfl
def noL : Nat -> zbO := fun _ => .rounds 0
def noJ : Nat -> zfk := fun _ => .plain
structure HI where
 op : Int
 sub : Int
 frm : Int
 ty : Int
 d : Int
 a : Int
 b : Int
 c : Int
 k : Int
 i : Int
 ch : Int
 v0 : Int
 v1 : Int
 v2 : Int
 v3 : Int
 deriving DecidableEq, Inhabited
structure HR where
 vec : Bool
 n : Int
 deriving DecidableEq, Inhabited
structure FM where
 name : ByteArray
 fields : Int
 rule : Int
abbrev ku (n : Int) : SV := .int .u32 n
def HI.cells : HI -> List SV
 | ⟨op, sub, frm, ty, d, a, b, c, k, i, ch, v0, v1, v2, v3⟩ => [kz op, kz sub, kz frm, kz ty, kz d, kz a, kz b, kz c, kz k, ku i, ku ch, ku v0, ku v1, ku v2, ku v3]
def HI.pv : HI -> List PV
 | ⟨op, sub, frm, ty, d, a, b, c, k, i, ch, v0, v1, v2, v3⟩ => [.int .i64 op, .int .i64 sub, .int .i64 frm, .int .i64 ty, .int .i64 d, .int .i64 a, .int .i64 b, .int .i64 c, .int .i64 k, .int .u32 i, .int .u32 ch, .int .u32 v0, .int .u32 v1, .int .u32 v2, .int .u32 v3]
def HR.cells : HR -> List SV
 | ⟨b, n⟩ => [.bool b, kz n]
def HR.pv : HR -> List PV
 | ⟨b, n⟩ => [.bool b, .int .i64 n]
def FM.cells : FM -> List SV
 | ⟨n, f, r⟩ => [.str n, kz f, kz r]
def ipv (n : Int) : List PV := [.int .i64 n]
section
variable {gt : GT} {go : GO} {R : List Sx.Loc} {v : Option SV} {os : List (Nat × Option SO)} {k : Nat}
def asI : SV -> (Int -> RT) -> RT
 | .int .i64 n, f => f n
 | _, _ => .fail
theorem zaU {s : SV} {f : Int -> RT} (h : (asI s f).Runs gt go R v os k) : ∃ x R', (f x).Runs gt go R' v os k := by
 unfold asI at h
 split at h
 . exact ⟨_, _, h⟩
 . cases h
def asU : SV -> (Int -> RT) -> RT
 | .int .u32 n, f => f n
 | _, _ => .fail
open Classical in
noncomputable def asB : SV -> (Bool -> RT) -> RT
 | .tt, f => f true
 | .ff, f => f false
 | .bool b, f => f b
 | .pr p, f => f (decide p)
 | _, _ => .fail
theorem ziJ {s : SV} {f : Bool -> RT} (h : (asB s f).Runs gt go R v os k) : ∃ x R', (f x).Runs gt go R' v os k := by
 unfold asB at h
 split at h
 . exact ⟨_, _, h⟩
 . exact ⟨_, _, h⟩
 . exact ⟨_, _, h⟩
 . exact ⟨_, _, h⟩
 . cases h
def zdp : SV -> (HI -> RT) -> RT
 | .agg [.int .i64 op, .int .i64 sub, .int .i64 frm, .int .i64 ty, .int .i64 d, .int .i64 a, .int .i64 b, .int .i64 c, .int .i64 k, .int .u32 i, .int .u32 ch, .int .u32 v0, .int .u32 v1, .int .u32 v2, .int .u32 v3], f => f ⟨op, sub, frm, ty, d, a, b, c, k, i, ch, v0, v1, v2, v3⟩
 | _, _ => .fail
theorem zbt {s : SV} {f : HI -> RT} (h : (zdp s f).Runs gt go R v os k) : ∃ x R', (f x).Runs gt go R' v os k := by
 unfold zdp at h
 split at h
 . exact ⟨_, _, h⟩
 . cases h
noncomputable def zf0 : SV -> (HR -> RT) -> RT
 | .agg [b, .int .i64 n], f => asB b fun b => f ⟨b, n⟩
 | _, _ => .fail
theorem zdd {s : SV} {f : HR -> RT} (h : (zf0 s f).Runs gt go R v os k) : ∃ x R', (f x).Runs gt go R' v os k := by
 unfold zf0 at h
 split at h
 . obtain ⟨x, R', h⟩ := ziJ h; exact ⟨_, _, h⟩
 . cases h
def zjv : SV -> (FM -> RT) -> RT
 | .agg [.str n, .int .i64 f, .int .i64 r], g => g ⟨n, f, r⟩
 | _, _ => .fail
theorem zfS {s : SV} {f : FM -> RT} (h : (zjv s f).Runs gt go R v os k) : ∃ x R', (f x).Runs gt go R' v os k := by
 unfold zjv at h
 split at h
 . exact ⟨_, _, h⟩
 . cases h
def zbk (id : Nat) (f : SV -> RT) : RT := .rO id fun o => match o with | some (.row cs) => f (.agg cs) | _ => .fail
theorem zaR {id : Nat} {f : SV -> RT} (h : (zbk id f).Runs gt go R v os k) : ∃ x R', (f x).Runs gt go R' v os k := by
 unfold zbk at h
 cases h with
 | rO h =>
   dsimp only at h
   split at h
   . exact ⟨_, _, h⟩
   . cases h
def zcu : SV -> (List (List PV) -> RT) -> RT
 | .rd (.sl _ L), f => f L
 | .slc id st len, f => .rO id fun o => match o with
   | some (.vec _ L) => f ((L.drop st).take len)
   | some (.arr _ L) => (match zfr L with | some L => f ((L.drop st).take len) | none => .fail)
   | _ => .fail
 | .val _, f => f []
 | _, _ => .fail
theorem zbn {s : SV} {f : List (List PV) -> RT} (h : (zcu s f).Runs gt go R v os k) : ∃ x R', (f x).Runs gt go R' v os k := by
 unfold zcu at h
 split at h
 . exact ⟨_, _, h⟩
 . cases h with
   | rO h =>
     dsimp only at h
     split at h
     . exact ⟨_, _, h⟩
     . split at h
       . exact ⟨_, _, h⟩
       . cases h
     . cases h
 . exact ⟨_, _, h⟩
 . cases h
def asL {α : Type} (pv : α -> List PV) (L : List (List PV)) (f : List α -> RT) : RT := .ex (fun (xs : ULift.{1} (List α)) => L = xs.down.map pv) fun xs => match xs with | ⟨xs⟩ => f xs
theorem zaN {α : Type} {pv : α -> List PV} {L : List (List PV)} {f : List α -> RT} (h : (asL pv L f).Runs gt go R v os k) : ∃ x R', (f x).Runs gt go R' v os k := by
 unfold asL at h
 cases h with
 | ex xs _ h => exact ⟨_, _, h⟩
theorem zar {p : Prop} {r : RT} (h : (RT.req p r).Runs gt go R v os k) : p /\ ∃ R', r.Runs gt go R' v os k := by
 cases h with
 | req hp h => exact ⟨hp, _, h⟩
end
theorem zae {α : Type} {pv : α -> List PV} {xs : List α} {q : ULift.{1} (List α) -> Prop} (h : q ⟨xs⟩) : ∃ x : ULift.{1} (List α), xs.map pv = x.down.map pv /\ q x := ⟨⟨xs⟩, rfl, h⟩
def bsv : Bool -> SV
 | true => .tt
 | false => .ff
end
section
@[irreducible] def nth {α : Type} [Inhabited α] (L : List α) (i : Int) : α := L.getD i.toNat default
theorem zbN {α : Type} [Inhabited α] (L : List α) (i : Int) (h : 0 <= i /\ i < L.length) : L[i.toNat]? = some (nth L i) := by
 have h1 : i.toNat < L.length := by omega
 unfold nth
 simp [List.getElem?_eq_getElem h1]
theorem zld {α : Type} [Inhabited α] (L : List α) (i : Int) (h : 0 <= i /\ i < L.length) : nth L i ∈ L := List.mem_of_getElem? (zbN L i h)
theorem zbc {α : Type} [Inhabited α] (pv : α -> List PV) (L : List α) (n : Int) (h : 0 <= n /\ n < L.length) : (L.map pv)[n.toNat]? = some (pv (nth L n)) := by
 rw [List.getElem?_map, zbN L n h]; rfl
theorem za8 {α : Type} [Inhabited α] (pv : α -> List PV) (L : List α) (n : Int) (h : 0 <= n /\ n < L.length) : (L.map pv)[0 + n.toNat]? = some (pv (nth L n)) := by
 rw [Nat.zero_add]; exact zbc pv L n h
theorem zdL {α : Type} [Inhabited α] (L : List α) (i : Int) (h : 0 <= i /\ i < L.length) : L.take (i + 1).toNat = L.take i.toNat ++ [nth L i] := by
 have h2 : (i + 1).toNat = i.toNat + 1 := by omega
 rw [h2, List.take_add_one, zbN L i h]; rfl
theorem zs9 {α : Type} (L : List α) (i : Int) (h : ¬ i < L.length) : L.take i.toNat = L := List.take_of_length_le (by omega)
theorem zsk {α : Type} [Inhabited α] (p : α -> Bool) (L : List α) (i : Int) (h : 0 <= i /\ i < L.length) : (L.take (i + 1).toNat).all p = ((L.take i.toNat).all p && p (nth L i)) := by
 rw [zdL L i h]; simp [List.all_append]
theorem zou {α : Type} [Inhabited α] {p : α -> Bool} {L : List α} {i : Int} (h : L.all p = true) (h1 : 0 <= i /\ i < L.length) : p (nth L i) = true := by
 rw [List.all_eq_true] at h
 exact h _ (zld L i h1)
theorem zaF {α : Type} [Inhabited α] (L : List α) (i : Int) (h : 0 <= i /\ i < L.length) : L.drop i.toNat = nth L i :: L.drop (i + 1).toNat := by
 have h1 : i.toNat < L.length := by omega
 have h2 : (i + 1).toNat = i.toNat + 1 := by omega
 have h3 := zbN L i h
 rw [List.getElem?_eq_getElem h1] at h3
 rw [h2, List.drop_eq_getElem_cons h1, Option.some.inj h3]
abbrev MHB : zaj := ⟨HR, Bool, inferInstance, false, [.bool, .int .i64], HR.pv, fun ⟨_, _⟩ => rfl, fun ⟨a, b⟩ ⟨c, d⟩ h => by simp only [HR.pv, List.cons.injEq, PV.bool.injEq, PV.int.injEq] at h; simp [h.1, h.2.1.2], true, fun b => [.bool b], false⟩
theorem nf {b : Bool} (h : (!b) = false) : b = true := by cases b <;> simp_all
theorem nt {b : Bool} (h : (!b) = true) : b = false := by cases b <;> simp_all
theorem HR.eta (r : HR) : HR.mk r.vec r.n = r := rfl
theorem exW {γ : Type} {p q : γ -> Prop} {c : γ} (h : p c) (k : q c) : ∃ c, p c /\ q c := ⟨c, h, k⟩
end
section
theorem zIi {A B C D : Type} {p : A × B × C × D -> Prop} (h : ∀ a b c d, p (a, b, c, d)) : ∀ c, p c := fun ⟨a, b, c, d⟩ => h a b c d
theorem zxp {b : Bool} (h : b = true) (h' : b = false) : False := by rw [h] at h'; cases h'
theorem zt8 {b : Bool} (h : b = true) (h' : (!b) = true) : False := by rw [h] at h'; cases h'
theorem zt3 {b : Bool} (h : b = false) (h' : (!b) = false) : False := by rw [h] at h'; cases h'
structure AL where
 L : List HI
 fr : List Int
abbrev hiS (l : List HI) : SV := .rd (.sl 15 (l.map HI.pv))
abbrev inS (l : List Int) : SV := .rd (.sl 1 (l.map ipv))
def AL.cells : AL -> List SV
 | ⟨l, f⟩ => [hiS l, inS f]
section
variable {gt : GT} {go : GO} {R : List Sx.Loc} {v : Option SV} {os : List (Nat × Option SO)} {k : Nat}
def zKu : SV -> (AL -> RT) -> RT
 | .agg [a, b], f => zcu a fun L => asL HI.pv L fun l => zcu b fun F => asL ipv F fun fr => f ⟨l, fr⟩
 | _, _ => .fail
def zoH (id : Nat) (f : Int -> Int -> RT) : RT := zbk id fun r => match r with | .agg [.int .i64 a, .int .i64 b] => f a b | _ => .fail
theorem zns {id : Nat} {f : Int -> Int -> RT} (h : (zoH id f).Runs gt go R v os k) : ∃ a b R', (f a b).Runs gt go R' v os k := by
 unfold zoH at h
 obtain ⟨r, _, h⟩ := zaR h
 split at h
 . exact ⟨_, _, _, h⟩
 . cases h
theorem zqG {p : Prop} {r1 r2 : RT} (h : (RT.split p r1 r2).Runs gt go R v os k) : (p /\ r1.Runs gt go R v os k) \/ (¬ p /\ r2.Runs gt go R v os k) := by
 cases h with
 | left hp h => exact .inl ⟨hp, h⟩
 | right hp h => exact .inr ⟨hp, h⟩
end
structure PL where
 kind : Int
 n : Int
 deriving DecidableEq, Inhabited
structure CT where
 r : HR
 part : Int
 deriving DecidableEq, Inhabited
def PL.cells : PL -> List SV
 | ⟨k, n⟩ => [kz k, kz n]
def PL.pv : PL -> List PV
 | ⟨k, n⟩ => [.int .i64 k, .int .i64 n]
def CT.cells : CT -> List SV
 | ⟨⟨b, n⟩, p⟩ => [.bool b, kz n, kz p]
def CT.pv : CT -> List PV
 | ⟨⟨b, n⟩, p⟩ => [.bool b, .int .i64 n, .int .i64 p]
theorem PL.eta (r : PL) : PL.mk r.kind r.n = r := rfl
theorem CT.eta (r : CT) : CT.mk r.r r.part = r := rfl
abbrev MPC : zaj := ⟨PL, CT, inferInstance, false, [.int .i64, .int .i64], PL.pv, fun ⟨_, _⟩ => rfl, fun ⟨a, b⟩ ⟨c, d⟩ h => by simp only [PL.pv, List.cons.injEq, PV.int.injEq] at h; simp [h.1.2, h.2.1.2], false, CT.pv, ⟨⟨false, 0⟩, 0⟩⟩
abbrev HM := List (PL × CT)
structure VL where
 L : List HI
 fr : List Int
 code : List HI
abbrev VL.row (v : VL) : SO := .row [hiS v.L, inS v.fr, hiS v.code, .mp 1]
section
variable {gt : GT} {go : GO} {R : List Sx.Loc} {v : Option SV} {os : List (Nat × Option SO)} {k : Nat}
def zbl (M : zaj) (id : Nat) (f : List (M.κ × M.ν) -> RT) : RT :=
 .rO id fun o => .ex (fun (es : ULift.{1} (List (M.κ × M.ν))) => o = some (.map M es.down none)) fun es => match es with | ⟨es⟩ => f es
theorem zaS {M : zaj} {id : Nat} {f : List (M.κ × M.ν) -> RT} (h : (zbl M id f).Runs gt go R v os k) : ∃ es R', (f es).Runs gt go R' v os k := by
 unfold zbl at h
 cases h with
 | rO h => cases h with | ex x _ h => exact ⟨_, _, h⟩
def zgr (p : Nat) (f : VL -> HM -> RT) : RT := zbk p fun r => match r with
 | .agg [.rd (.sl _ L), .rd (.sl _ F), .rd (.sl _ C), .mp q] => asL HI.pv L fun L => asL ipv F fun F => asL HI.pv C fun C => zbl MPC q fun es => f ⟨L, F, C⟩ es
 | _ => .fail
theorem zeo {p : Nat} {f : VL -> HM -> RT} (h : (zgr p f).Runs gt go R v os k) : ∃ x es R', (f x es).Runs gt go R' v os k := by
 unfold zgr at h
 obtain ⟨r, _, h⟩ := zaR h
 split at h
 . obtain ⟨_, _, h⟩ := zaN h
   obtain ⟨_, _, h⟩ := zaN h
   obtain ⟨_, _, h⟩ := zaN h
   obtain ⟨_, _, h⟩ := zaS h
   exact ⟨_, _, _, h⟩
 . cases h
def zpd : SV -> (PL -> RT) -> RT
 | .agg [.int .i64 a, .int .i64 b], f => f ⟨a, b⟩
 | _, _ => .fail
theorem znu {s : SV} {f : PL -> RT} (h : (zpd s f).Runs gt go R v os k) : ∃ x R', (f x).Runs gt go R' v os k := by
 unfold zpd at h
 split at h
 . exact ⟨_, _, h⟩
 . cases h
end
end
section
abbrev MIB : zaj := ⟨Int, Bool, inferInstance, true, [.int .i64], ipv, fun _ => rfl, fun a b h => by simpa [ipv] using h, true, fun b => [.bool b], false⟩
abbrev MII : zaj := ⟨Int, Int, inferInstance, true, [.int .i64], ipv, fun _ => rfl, fun a b h => by simpa [ipv] using h, true, fun b => [.int .i64 b], 0⟩
abbrev BM := List (Int × Bool)
abbrev IM := List (Int × Int)
end
section
def c81 : MC := .seq (.reg [oo 2 (.box (.t 0)),oo 4 (.mv kf)]) (.seq (.reg [oo 5 (fl 1 2),oo 6 (ln 5),om 7 1,oo 8 (at_ .and 6 7),oo 9 (cc .neq 8 0),om 4 9]) (.ret))
theorem k81 : zan Tryz.prog 81 10 c81 [.t 4] := fk Tryz.func81 ⟨tv,⟨tv,tv⟩⟩
def zIE : MC := .seq (.reg [oo 2 (.box (.t 0)),oo 3 (.box (.t 1)),oo 4 (.mv (.k (.val .nilFunc)))]) (.seq (.reg [oo 5 (.mkf (.func 166) [] [(.t 2),(.t 3)]),om 4 5]) (.ret))
theorem zFv : zan Tryz.prog 135 6 zIE [.t 4] := fk Tryz.func135 ⟨tv,⟨tv,tv⟩⟩
def zx5 : MC := .seq (.drw [oo 6 (ln 1),oo 7 (.nchk (.t 6)),oo 8 (fl 1 7),oo 9 (ln 2),oo 10 (.nchk (.t 9)),oo 11 (fl 1 10),oo 12 (.bld [(kz 0),(.val (.pointer none)),(.val (.pointer none))] [(0,1,(ki 1)),(1,1,(.t 8)),(2,1,(.t 11))]),oo 13 (ln 1),oo 14 (.nchk (.t 13)),oo 15 (fl 2 14),oo 16 (ln 2),oo 17 (.nchk (.t 16)),oo 18 (fl 2 17),oo 19 (.bld [(kz 0),(.val (.pointer none)),(.val (.pointer none))] [(0,1,(ki 2)),(1,1,(.t 15)),(2,1,(.t 18))]),oo 20 (ln 1),oo 21 (.nchk (.t 20)),oo 22 (fl 3 21),oo 23 (ln 2),oo 24 (.nchk (.t 23)),oo 25 (fl 3 24),oo 26 (.bld [(kz 0),(.val (.pointer none)),(.val (.pointer none))] [(0,1,(ki 4)),(1,1,(.t 22)),(2,1,(.t 25))]),oo 27 (ln 1),oo 28 (.nchk (.t 27)),oo 29 (fl 4 28),oo 30 (ln 2),oo 31 (.nchk (.t 30)),oo 32 (fl 4 31),oo 33 (.bld [(kz 0),(.val (.pointer none)),(.val (.pointer none))] [(0,1,(ki 8)),(1,1,(.t 29)),(2,1,(.t 32))]),oo 34 (ln 1),oo 35 (.nchk (.t 34)),oo 36 (fl 5 35),oo 37 (ln 2),oo 38 (.nchk (.t 37)),oo 39 (fl 5 38),oo 40 (.bld [(kz 0),(.val (.pointer none)),(.val (.pointer none))] [(0,1,(ki 16)),(1,1,(.t 36)),(2,1,(.t 39))]),oo 41 (ln 1),oo 42 (.nchk (.t 41)),oo 43 (fl 6 42),oo 44 (ln 2),oo 45 (.nchk (.t 44)),oo 46 (fl 6 45),oo 47 (.bld [(kz 0),(.val (.pointer none)),(.val (.pointer none))] [(0,1,(ki 32)),(1,1,(.t 43)),(2,1,(.t 46))]),oo 48 (ln 1),oo 49 (.nchk (.t 48)),oo 50 (fl 7 49),oo 51 (ln 2),oo 52 (.nchk (.t 51)),oo 53 (fl 7 52),oo 54 (.bld [(kz 0),(.val (.pointer none)),(.val (.pointer none))] [(0,1,(ki 64)),(1,1,(.t 50)),(2,1,(.t 53))]),oo 55 (ln 1),oo 56 (.nchk (.t 55)),oo 57 (fl 8 56),oo 58 (ln 2),oo 59 (.nchk (.t 58)),oo 60 (fl 8 59),oo 61 (.bld [(kz 0),(.val (.pointer none)),(.val (.pointer none))] [(0,1,(ki 128)),(1,1,(.t 57)),(2,1,(.t 60))]),oo 62 (.bsl 3 8 [(kz 0),(.val (.pointer none)),(.val (.pointer none))] [(0,(.t 12)),(1,(.t 19)),(2,(.t 26)),(3,(.t 33)),(4,(.t 40)),(5,(.t 47)),(6,(.t 54)),(7,(.t 61))]),oo 63 (.lenS (.t 62)),oo 64 (.mv (ki 0))] [[],[0],[1],[],[3],[4],[2,5],[],[7],[8],[],[10],[11],[9,12],[],[14],[15],[],[17],[18],[16,19],[],[21],[22],[],[24],[25],[23,26],[],[28],[29],[],[31],[32],[30,33],[],[35],[36],[],[38],[39],[37,40],[],[42],[43],[],[45],[46],[44,47],[],[49],[50],[],[52],[53],[51,54],[6,13,20,27,34,41,48,55],[56],[]]) (.blk 0 (.loop 0 (.seq (.reg [oo 65 (.cmpl .lss (.t 64) (.t 63))]) (.seq (.cond (.t 65) (.skip) (.exit 0)) (.seq (.blk 1 (.seq (.reg [oo 66 (ia 3 62 64),oo 67 (ls 3 66),oo 5 (.alloc [(kz 0),(.val (.pointer none)),(.val (.pointer none))]),o none (.st (some 3) (.t 5) (.t 67))]) (.seq (.reg [om 68 0,oo 69 (ls 3 5),oo 70 (.call (.t 68) [(.t 69)]),oo 71 (.not (.t 70))]) (.cond (.t 71) (.ret) (.skip))))) (.reg [oo 72 (.arl .add (.t 64) (ki 1)),om 64 72]))))))
theorem zyX : zan Tryz.prog 166 73 zx5 [] := fk Tryz.func166 ⟨tv,⟨tv,⟨⟨tv,tv⟩,⟨⟨tv,⟨tv,⟨tv,tv⟩⟩⟩,tv⟩⟩⟩⟩
def zFn : MC := .seq (.reg [oo 2 (.box (.t 0)),oo 3 (.box (.t 1)),oo 4 (.alloc zI)]) (.seq (.reg [oo 7 (fl 0 3),oo 8 (ln 7),oo 9 (.bld zI [(0,1,(.t 8))]),oo 5 (.alloc zI),o none (.st (some 15) (.t 5) (.t 9))]) (.seq (.seq (.reg [oo 10 (fc 135 [(.t 3),(.t 5)])]) (.blk 0 (.rng (.t 10) [11] (.reg [oo 6 (.alloc [(kz 0),(.val (.pointer none)),(.val (.pointer none))]),o none (.st (some 3) (.t 6) (.t 11))]) (.blk 1 (.seq (.reg [oo 12 (ls 3 2),oo 13 (fl 0 6),oo 14 (ln 13),oo 15 (fc 81 [(.t 12),(.t 14)])]) (.cond (.t 15) (.drw [oo 16 (fl 2 6),oo 17 (ln 16),oo 18 (fl 1 6),oo 19 (ln 18),oo 20 (.nchk (.t 19)),oo 21 (ln 20),oo 22 (.nchk (.t 17)),o none (.st (some 1) (.t 22) (.t 21))] [[],[0],[],[2],[3],[4],[1,0,1,2,3,4,5],[6,5,0,1,2,3,4,5]]) (.skip)))) 166 73 zx5))) (.seq (.seq (.reg [oo 23 (ls 3 2),oo 24 (fc 81 [(.t 23),(ki 256)])]) (.cond (.t 24) (.reg [oo 25 (fl 9 3),oo 26 (ln 25),oo 27 (fl 9 5),o none (.st (some 1) (.t 27) (.t 26))]) (.skip))) (.seq (.seq (.reg [oo 28 (ls 3 2),oo 29 (fc 81 [(.t 28),(ki 512)])]) (.cond (.t 29) (.reg [oo 30 (fl 10 3),oo 31 (ln 30),oo 32 (fl 10 5),o none (.st (some 1) (.t 32) (.t 31))]) (.skip))) (.seq (.seq (.reg [oo 33 (ls 3 2),oo 34 (fc 81 [(.t 33),(ki 1024)])]) (.cond (.t 34) (.reg [oo 35 (fl 11 3),oo 36 (ls 4 35),oo 37 (fl 11 5),o none (.st (some 4) (.t 37) (.t 36))]) (.skip))) (.seq (.reg [oo 38 (ls 15 5),o none (.st (some 15) (.t 4) (.t 38))]) (.ret)))))))
theorem zEj : zan Tryz.prog 106 39 zFn [.c 4 (some 15)] := .of Tryz.func106 (by kernel_rfl) (by kernel_rfl) (by kernel_rfl) (by kernel_rfl) ⟨trivial, ⟨trivial, ⟨⟨trivial, ⟨trivial, ⟨trivial, ⟨trivial, trivial⟩⟩, zyX.it, zyX.its⟩⟩, ⟨⟨trivial, ⟨trivial, trivial⟩⟩, ⟨⟨trivial, ⟨trivial, trivial⟩⟩, ⟨⟨trivial, ⟨trivial, trivial⟩⟩, ⟨trivial, trivial⟩⟩⟩⟩⟩⟩⟩
def c80 : MC := .seq (.reg [oo 2 (.alloc [(.str ⟨#[]⟩),(kz 0),(kz 0)]),oo 3 (.mv kf)]) (.seq (.seq (.reg [om 4 0,oo 5 (cc .lss 4 1),sm 6 5,mf 6 7 0,gf 6 8 (cc .geq 7 46),oo 9 (pt 6 8)]) (.cond (.t 9) (.seq (.reg [oo 10 (.bld [(.str ⟨#[]⟩),(kz 0),(kz 0)] []),o none (.st (some 3) (.t 2) (.t 10)),oo 3 (.mv kf)]) (.ret)) (.skip))) (.seq (.reg [om 11 0,oo 12 (.ixr 46 3 (.g 0) (.t 11)),oo 13 (ls 3 12),o none (.st (some 3) (.t 2) (.t 13)),oo 3 (.mv kt)]) (.ret)))
theorem k80 : zan Tryz.prog 80 14 c80 [.c 2 (some 3),.t 3] := fk Tryz.func80 ⟨tv,⟨⟨tv,⟨⟨tv,tv⟩,tv⟩⟩,⟨tv,tv⟩⟩⟩
def zFG : MC := .seq (.reg [oo 6 (.mv kf)]) (.seq (.reg [om 7 1,om 8 0,oo 9 (ct .leq 7 8),sm 10 9,mt 10 11 0,mt 10 12 2,gt_ 10 13 (ct .leq 11 12),oo 14 (pf 10 13),om 6 14]) (.ret))
theorem zGi : zan Tryz.prog 144 15 zFG [.t 6] := fk Tryz.func144 ⟨tv,⟨tv,tv⟩⟩
def zHJ : MC := .seq (.reg [oo 2 (.mv kf)]) (.seq (.reg [om 3 0,oo 4 (cc .eql 3 8),sm 5 4,mf 5 6 0,gf 5 7 (cc .eql 6 16),oo 8 (pt 5 7),sm 9 8,mf 9 10 0,gf 9 11 (cc .eql 10 32),oo 12 (pt 9 11),om 2 12]) (.ret))
theorem zFx : zan Tryz.prog 146 13 zHJ [.t 2] := fk Tryz.func146 ⟨tv,⟨tv,tv⟩⟩
def zcH (fl fd : Int) : Bool := decide (zbf .and .i64 fl fd ≠ 0)
def zc8 : List FM := [⟨⟨#[]⟩, 0, 0⟩, ⟨⟨#[115, 101, 116]⟩, 264, 0⟩, ⟨⟨#[109, 111, 118]⟩, 24, 0⟩, ⟨⟨#[98, 105, 110]⟩, 57, 1⟩, ⟨⟨#[98, 105, 110, 105]⟩, 281, 1⟩, ⟨⟨#[117, 110]⟩, 31, 2⟩, ⟨⟨#[109, 117, 120]⟩, 120, 0⟩, ⟨⟨#[118, 115, 101, 116]⟩, 3080, 0⟩, ⟨⟨#[118, 109, 111, 118]⟩, 6168, 0⟩, ⟨⟨#[118, 98, 105, 110]⟩, 14393, 3⟩, ⟨⟨#[118, 117, 110]⟩, 6169, 4⟩, ⟨⟨#[118, 99, 109, 112]⟩, 12345, 5⟩, ⟨⟨#[118, 110, 122]⟩, 4120, 0⟩, ⟨⟨#[118, 102, 105, 108, 108]⟩, 2072, 0⟩, ⟨⟨#[118, 115, 112, 108, 97, 116]⟩, 2072, 0⟩, ⟨⟨#[118, 119, 111, 114, 100]⟩, 4248, 6⟩, ⟨⟨#[118, 112, 117, 116]⟩, 6328, 6⟩, ⟨⟨#[118, 109, 97, 115, 107]⟩, 4120, 0⟩, ⟨⟨#[118, 109, 117, 120]⟩, 26744, 0⟩, ⟨⟨#[103, 101, 116]⟩, 140, 7⟩, ⟨⟨#[112, 117, 116]⟩, 148, 7⟩, ⟨⟨#[112, 117, 116, 105]⟩, 388, 7⟩, ⟨⟨#[118, 103, 101, 116]⟩, 2184, 8⟩, ⟨⟨#[118, 112, 117, 116, 115]⟩, 4240, 8⟩, ⟨⟨#[108, 111, 97, 100]⟩, 284, 9⟩, ⟨⟨#[115, 116, 111, 114, 101]⟩, 308, 9⟩, ⟨⟨#[118, 108, 111, 97, 100]⟩, 2328, 0⟩, ⟨⟨#[118, 115, 116, 111, 114, 101]⟩, 8496, 0⟩, ⟨⟨#[115, 104, 108, 111, 97, 100]⟩, 284, 9⟩, ⟨⟨#[115, 104, 115, 116, 111, 114, 101]⟩, 308, 9⟩, ⟨⟨#[118, 115, 104, 108, 111, 97, 100]⟩, 2328, 0⟩, ⟨⟨#[118, 115, 104, 115, 116, 111, 114, 101]⟩, 8496, 0⟩, ⟨⟨#[111, 114, 105, 103, 105, 110]⟩, 284, 10⟩, ⟨⟨#[115, 101, 116, 111, 114, 105, 103, 105, 110]⟩, 432, 11⟩, ⟨⟨#[99, 97, 115]⟩, 377, 12⟩, ⟨⟨#[97, 114, 103]⟩, 144, 13⟩, ⟨⟨#[99, 97, 108, 108]⟩, 9, 14⟩, ⟨⟨#[110, 111, 116, 101]⟩, 400, 15⟩, ⟨⟨#[109, 97, 114, 107]⟩, 384, 16⟩, ⟨⟨#[101, 120, 105, 116]⟩, 912, 17⟩, ⟨⟨#[101, 110, 100]⟩, 896, 17⟩, ⟨⟨#[101, 110, 100, 114]⟩, 144, 17⟩, ⟨⟨#[115, 112, 105, 108, 108]⟩, 144, 18⟩, ⟨⟨#[102, 105, 108, 108]⟩, 136, 18⟩, ⟨⟨#[118, 115, 112, 105, 108, 108]⟩, 4240, 19⟩, ⟨⟨#[118, 117, 110, 115, 112, 105, 108, 108]⟩, 2184, 19⟩]
def GG : Nat -> Option SV
 | 0 => some (.ra 3 (zc8.map fun f => match f with | ⟨n, a, b⟩ => [.str n, .int .i64 a, .int .i64 b]))
 | _ => none
def zbx (n a b : Int) : Bool := decide (a <= n /\ n <= b)
def zkc (ty : Int) : Bool := decide (ty = 8 \/ ty = 16 \/ ty = 32)
def zbd (op : Int) : FM × Bool := if op < 1 \/ 46 <= op then (⟨⟨#[]⟩, 0, 0⟩, false) else (zc8.getD op.toNat ⟨⟨#[]⟩, 0, 0⟩, true)
def L81 (f : FM) (fd : Int) : zaa := ⟨[.agg f.cells, kz fd], [], [], [], .bool (zcH f.fields fd)⟩
theorem s81 (f : FM) (fd : Int) : zaa.ok Tryz.prog GG 81 (L81 f fd) := by
 refine zac mix k81 _ rfl rfl (Tab.ok (l := []) trivial) noL noJ ?_
 repeat' ((conv => whnf); first
  | exact trivial
  | with_reducible first | refine ai (by with_reducible rfl) ?_ | refine ai ⟨by with_reducible rfl, by with_reducible rfl⟩ ?_ | refine ai (show zbH _ _ = true by kernel_rfl) ?_ | refine ai rfl ?_ | refine ai ⟨rfl, rfl⟩ ?_ | refine ai (by decide) ?_ | refine ai (by omega) ?_ | refine And.intro ?_ ?_ | refine zae ?_
  | with_reducible intro _)
 all_goals exact ⟨by simp [zcH]⟩
noncomputable def S81 : SFn
 | [a0, a1], k => zjv a0 fun f => asI a1 fun fd => k (L81 f fd)
 | _, _ => .fail
theorem t81 : FnS Tryz.prog GG 81 S81 := by
 intro args k gt go R v os n h
 unfold S81 at h
 split at h
 . obtain ⟨f, _, h⟩ := zfS h
   obtain ⟨fd, _, h⟩ := zaU h
   exact ⟨_, _, s81 f fd, h⟩
 . cases h
def zAW : FM -> Int -> zaa
 | ⟨n, fl, ru⟩, fd => ⟨[.agg (FM.cells ⟨n, fl, ru⟩), kz fd], [], [], [], bsv (zcH fl fd)⟩
theorem zIV (f : FM) (fd : Int) : zaa.ok Tryz.prog GG 81 (zAW f fd) := by
 obtain ⟨n, fl, ru⟩ := f
 show zaa.ok _ _ _ ⟨[.agg (FM.cells ⟨n, fl, ru⟩), kz fd], [], [], [], bsv (zcH fl fd)⟩
 cases h : zcH fl fd
 all_goals
  simp [zcH] at h
  refine zac mix k81 _ rfl rfl (Tab.ok (l := []) trivial) noL noJ ?_
  repeat' ((conv => whnf); first
   | exact trivial
   | with_reducible refine And.intro (Sd.mk (by with_reducible rfl)) ?_
   | with_reducible refine And.intro (Sd.mk ⟨by with_reducible rfl, by with_reducible rfl⟩) ?_
   | with_reducible refine And.intro (Sd.mk (show zbH _ _ = true by kernel_rfl)) ?_
   | with_reducible refine And.intro (Sd.mk rfl) ?_
   | with_reducible refine And.intro (Sd.mk ⟨rfl, rfl⟩) ?_
   | with_reducible refine And.intro (Sd.mk (by decide)) ?_
   | with_reducible refine And.intro (Sd.mk (by omega)) ?_
   | with_reducible refine And.intro ?_ ?_
   | with_reducible refine zae ?_
   | with_reducible intro _)
  all_goals exact ⟨by simp [h]⟩
def zsM : SFn
 | [a0, a1], k => zjv a0 fun f => asI a1 fun fd => k (zAW f fd)
 | _, _ => .fail
theorem zGu : FnS Tryz.prog GG 81 zsM := by
 intro args k gt go R v os n h
 unfold zsM at h
 split at h
 . obtain ⟨f, _, h⟩ := zfS h
   obtain ⟨fd, _, h⟩ := zaU h
   exact ⟨_, _, zIV f fd, h⟩
 . cases h
def zzq (n : Int) (a : Int) (b : Int) : zaa := ⟨[kz n, kz a, kz b], [], [], [], .bool (zbx n a b)⟩
theorem zJP (n : Int) (a : Int) (b : Int) : zaa.ok Tryz.prog GG 144 (zzq n a b) := by
 refine zac mix zGi _ rfl rfl (Tab.ok (l := []) trivial) noL noJ ?_
 repeat' ((conv => whnf); first
  | exact trivial
  | with_reducible first | refine ai (by with_reducible rfl) ?_ | refine ai ⟨by with_reducible rfl, by with_reducible rfl⟩ ?_ | refine ai (show zbH _ _ = true by kernel_rfl) ?_ | refine ai rfl ?_ | refine ai ⟨rfl, rfl⟩ ?_ | refine ai (by decide) ?_ | refine ai (by omega) ?_ | refine And.intro ?_ ?_ | refine zae ?_
  | with_reducible intro _)
 all_goals exact ⟨by unfold zbx; grind⟩
noncomputable def zpl : SFn
 | [a0, a1, a2], k => asI a0 fun n => asI a1 fun a => asI a2 fun b => k (zzq n a b)
 | _, _ => .fail
theorem zx7 : FnS Tryz.prog GG 144 zpl := by
 intro args k gt go R v os n h
 unfold zpl at h
 split at h
 . obtain ⟨n, _, h⟩ := zaU h
   obtain ⟨a, _, h⟩ := zaU h
   obtain ⟨b, _, h⟩ := zaU h
   exact ⟨_, _, zJP n a b, h⟩
 . cases h
def zx2 (ty : Int) : zaa := ⟨[kz ty], [], [], [], .bool (zkc ty)⟩
theorem zE7 (ty : Int) : zaa.ok Tryz.prog GG 146 (zx2 ty) := by
 refine zac mix zFx _ rfl rfl (Tab.ok (l := []) trivial) noL noJ ?_
 repeat' ((conv => whnf); first
  | exact trivial
  | with_reducible first | refine ai (by with_reducible rfl) ?_ | refine ai ⟨by with_reducible rfl, by with_reducible rfl⟩ ?_ | refine ai (show zbH _ _ = true by kernel_rfl) ?_ | refine ai rfl ?_ | refine ai ⟨rfl, rfl⟩ ?_ | refine ai (by decide) ?_ | refine ai (by omega) ?_ | refine And.intro ?_ ?_ | refine zae ?_
  | with_reducible intro _)
 all_goals exact ⟨by unfold zkc; grind⟩
noncomputable def zs1 : SFn
 | [a0], k => asI a0 fun ty => k (zx2 ty)
 | _, _ => .fail
theorem zIe : FnS Tryz.prog GG 146 zs1 := by
 intro args k gt go R v os n h
 unfold zs1 at h
 split at h
 . obtain ⟨ty, _, h⟩ := zaU h
   exact ⟨_, _, zE7 ty, h⟩
 . cases h
theorem zqA (op : Int) (h1 : ¬ op < 1) (h2 : ¬ 46 <= op) : ((zc8.map fun f => match f with | ⟨n, a, b⟩ => [PV.str n, .int .i64 a, .int .i64 b]))[op.toNat]? = some (match (zc8.getD op.toNat ⟨⟨#[]⟩, 0, 0⟩) with | ⟨n, a, b⟩ => [PV.str n, .int .i64 a, .int .i64 b]) := by
 have : op.toNat < 46 := by omega
 have hl : zc8.length = 46 := rfl
 rw [List.getElem?_map, List.getElem?_eq_getElem (by omega)]
 simp [List.getD_eq_getElem?_getD, List.getElem?_eq_getElem (show op.toNat < zc8.length by omega)]
def L80 (op : Int) : zaa := ⟨[kz op], [], [], [], .tup [.agg (zbd op).1.cells, .bool (zbd op).2]⟩
theorem s80 (op : Int) : zaa.ok Tryz.prog GG 80 (L80 op) := by
 refine zac mix k80 _ rfl rfl (Tab.ok (l := []) trivial) noL noJ ?_
 repeat' ((conv => whnf); first
  | exact trivial
  | with_reducible first | refine ai (by with_reducible rfl) ?_ | refine ai ⟨by with_reducible rfl, by with_reducible rfl⟩ ?_ | refine ai (show zbH _ _ = true by kernel_rfl) ?_ | refine ai rfl ?_ | refine ai ⟨rfl, rfl⟩ ?_ | refine ai (by decide) ?_ | refine ai (by omega) ?_ | refine And.intro ?_ ?_ | refine zae ?_ | refine exI (x := ULift.up _) ⟨rfl, by omega, by omega, zqA _ ‹_› ‹_›⟩ ?_
  | with_reducible intro _)
 all_goals (refine Sd.mk ?_; unfold zbd; split <;> first | rfl | (exfalso; omega))
noncomputable def S80 : SFn
 | [a0], k => asI a0 fun op => k (L80 op)
 | _, _ => .fail
theorem t80 : FnS Tryz.prog GG 80 S80 := by
 intro args k gt go R v os n h
 unfold S80 at h
 split at h
 . obtain ⟨op, _, h⟩ := zaU h
   exact ⟨_, _, s80 op, h⟩
 . cases h
def zxI (x y : HI) : zaa := ⟨[.ptr 0 0 0, .ptr 1 0 0], [.row x.cells, .row y.cells], [some (.row x.cells), some (.row y.cells)], [.row [.ptr 0 0 0], .row [.ptr 1 0 0]], .fn (.func 166) [] [.ptr 2 0 0, .ptr 3 0 0]⟩
theorem zJB (x y : HI) : zaa.ok Tryz.prog GG 135 (zxI x y) := by
 refine zac mix zFv _ rfl rfl (Tab.ok (l := []) trivial) noL noJ ?_
 repeat' ((conv => whnf); first
  | exact trivial
  | with_reducible first | refine ai (by with_reducible rfl) ?_ | refine ai ⟨by with_reducible rfl, by with_reducible rfl⟩ ?_ | refine ai (show zbH _ _ = true by kernel_rfl) ?_ | refine ai rfl ?_ | refine ai ⟨rfl, rfl⟩ ?_ | refine ai (by decide) ?_ | refine ai (by omega) ?_ | refine And.intro ?_ ?_ | refine zae ?_
  | with_reducible intro _)
def zs8 : SFn
 | [.ptr a 0 0, .ptr b 0 0], k => zbk a fun ca => zdp ca fun x => zbk b fun cb => zdp cb fun y => k (zxI x y)
 | _, _ => .fail
theorem zKo : FnS Tryz.prog GG 135 zs8 := by
 intro args k gt go R v os n h
 unfold zs8 at h
 split at h
 . obtain ⟨ca, _, h⟩ := zaR h
   obtain ⟨x, _, h⟩ := zbt h
   obtain ⟨cb, _, h⟩ := zaR h
   obtain ⟨y, _, h⟩ := zbt h
   exact ⟨_, _, zJB _ _, h⟩
 . cases h
def zcs (f : FM) (x : HI) : HI :=
 { op := x.op
   sub := if zcH f.fields 1 then x.sub else 0
   frm := if zcH f.fields 2 then x.frm else 0
   ty := if zcH f.fields 4 then x.ty else 0
   d := if zcH f.fields 8 then x.d else 0
   a := if zcH f.fields 16 then x.a else 0
   b := if zcH f.fields 32 then x.b else 0
   c := if zcH f.fields 64 then x.c else 0
   k := if zcH f.fields 128 then x.k else 0
   i := if zcH f.fields 256 then x.i else 0
   ch := if zcH f.fields 512 then x.ch else 0
   v0 := if zcH f.fields 1024 then x.v0 else 0
   v1 := if zcH f.fields 1024 then x.v1 else 0
   v2 := if zcH f.fields 1024 then x.v2 else 0
   v3 := if zcH f.fields 1024 then x.v3 else 0 }
def zr6 (f : FM) (x : HI) : zaa := ⟨[.agg f.cells, .agg x.cells], [], [], [], .agg (zcs f x).cells⟩
end
end Go.Proofs.YtlahifihaeafbaaGreatDoor
