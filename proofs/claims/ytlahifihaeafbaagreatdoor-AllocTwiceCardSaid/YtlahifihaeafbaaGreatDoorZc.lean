/- Part 3 of 11 of a proof of the law AllocTwice: what the last part leans on. -/
import Derived.Test.YtlahifihaeafbaaGreatDoorZb
import Derived.OrdersIn
import Derived.ChangeKeysEq
import Derived.Laws.StructEq
set_option linter.all false
set_option maxRecDepth 100000
namespace Go.Sx
open Go
open Classical
theorem zcb {α : Type _} : ∀ (l : List α) (i0 i : Nat), zav i (zbm l i0) = if i0 <= i then zaQ l (i - i0) else none
 | [], i0, i => by simp [zbm, zav, zaQ]
 | a :: l, i0, i => by
   simp only [zbm]
   rw [zaI, zcb l (i0 + 1) i]
   by_cases h : i0 = i
   . subst h; simp [zaQ]
   . rw [if_neg h]
     by_cases h2 : i0 <= i
     . have h3 : i0 + 1 <= i := by omega
       have h4 : i - i0 = (i - (i0 + 1)) + 1 := by omega
       rw [if_pos h2, if_pos h3, h4]; rfl
     . have h3 : ¬ i0 + 1 <= i := by omega
       rw [if_neg h2, if_neg h3]
theorem zhq {ρ : Ren} : ∀ {m : Nat}, zgP ρ m = true -> ∀ i, i < m -> ∃ j, zav i ρ.m = some (some j)
 | 0, _, i, h => by omega
 | m + 1, h, i, hi => by
   simp only [zgP] at h
   split at h
   . rename_i j hj
     by_cases e : i = m
     . subst e; exact ⟨j, hj⟩
     . exact zhq h i (by omega)
   . cases h
theorem zg3 {ρ : Ren} : ∀ {l : List Nat}, zfH ρ l = true -> ∀ j ∈ l, ∀ i, zav i ρ.m ≠ some (some j)
 | [], _, j, h, _ => by cases h
 | k :: l, h, j, hj, i => by
   simp only [zfH] at h
   split at h
   . rename_i hall
     rcases List.mem_cons.1 hj with rfl | hj
     . intro e
       have := List.all_eq_true.1 hall _ (zch e)
       simp at this
     . exact zg3 h j hj i
   . cases h
theorem zdG {m : Nat} : ∀ {l : List (Nat × Option Nat)}, zgq m l = true -> ∀ i, m <= i -> zav i l = none
 | [], _, i, _ => rfl
 | (k, x) :: l, h, i, hi => by
   simp only [zgq] at h
   split at h
   . rename_i e
     have e := Nat.blt_eq ▸ e
     rw [zaI, if_neg (by omega)]
     exact zdG h i hi
   . cases h
theorem zjx (go : GO) : ∀ (l : List (Nat × Option SO)) (id : Nat), (l.map (·.1)).Nodup -> za0 go l id = (match zav id l with | some o => o | none => go id)
 | [], id, _ => by simp [za0, zav]
 | (i, o) :: l, id, hn => by
   simp only [List.map_cons, List.nodup_cons] at hn
   simp only [za0]
   rw [zjx (upd go i o) l id hn.2, zaI]
   by_cases h : i = id
   . subst h
     rw [if_pos rfl]
     cases e : zav i l with
     | none => simp
     | some o' => exact absurd (List.mem_map_of_mem (zch e)) hn.1
   . rw [if_neg h]
     cases e : zav id l with
     | none => simp [zab _ _ (Ne.symm h)]
     | some o' => rfl
theorem zeC (σ : Nat -> Nat) : ∀ (l : List (Option SO)) (i : Nat), (zc7 σ l i).map (·.1) = (List.range' i l.length).map σ
 | [], i => by simp [zc7]
 | none :: l, i => by simp [zc7, zeC σ l (i + 1), List.range'_succ]
 | some o :: l, i => by simp [zc7, zeC σ l (i + 1), List.range'_succ]
theorem zg2 (σ : Nat -> Nat) : ∀ (l : List SO) (i : Nat), (zeB σ l i).map (·.1) = (List.range' i l.length).map σ
 | [], i => by simp [zeB]
 | o :: l, i => by simp [zeB, zg2 σ l (i + 1), List.range'_succ]
theorem zjF (σ : Nat -> Nat) : ∀ (l : List (Option SO)) (i0 i : Nat), (∀ a b, i0 <= a -> a < i0 + l.length -> i0 <= b -> b < i0 + l.length -> σ a = σ b -> a = b) -> i0 <= i -> i < i0 + l.length →
 zav (σ i) (zc7 σ l i0) = (zaQ l (i - i0)).map (fun o => o.map (SO.ren σ))
  | [], i0, i, _, h1, h2 => by simp at h2; omega
  | x :: l, i0, i, hinj, h1, h2 => by
    have hcons : zc7 σ (x :: l) i0 = (σ i0, x.map (SO.ren σ)) :: zc7 σ l (i0 + 1) := by cases x <;> rfl
    rw [hcons, zaI]
    simp at h2
    by_cases e : i = i0
    . subst e; simp [zaQ]
    . rw [if_neg (fun q => e (hinj i0 i (Nat.le_refl _) (by simp) h1 (by simp; omega) q).symm)]
      rw [zjF σ l (i0 + 1) i (fun a b q1 q2 q3 q4 => hinj a b (by omega) (by simp; omega) (by omega) (by simp; omega)) (by omega) (by omega)]
      have : i - i0 = (i - (i0 + 1)) + 1 := by omega
      rw [this]; rfl
theorem zjE (σ : Nat -> Nat) : ∀ (l : List SO) (i0 i : Nat), (∀ a b, i0 <= a -> a < i0 + l.length -> i0 <= b -> b < i0 + l.length -> σ a = σ b -> a = b) -> i0 <= i -> i < i0 + l.length →
 zav (σ i) (zeB σ l i0) = (zaQ l (i - i0)).map (fun o => some (o.ren σ))
  | [], i0, i, _, h1, h2 => by simp at h2; omega
  | x :: l, i0, i, hinj, h1, h2 => by
    simp only [zeB]
    rw [zaI]
    simp at h2
    by_cases e : i = i0
    . subst e; simp [zaQ]
    . rw [if_neg (fun q => e (hinj i0 i (Nat.le_refl _) (by simp) h1 (by simp; omega) q).symm)]
      rw [zjE σ l (i0 + 1) i (fun a b q1 q2 q3 q4 => hinj a b (by omega) (by simp; omega) (by omega) (by simp; omega)) (by omega) (by omega)]
      have : i - i0 = (i - (i0 + 1)) + 1 := by omega
      rw [this]; rfl
theorem zhB {α : Type _} : ∀ {l : List (Nat × α)} {i : Nat}, i ∉ l.map (·.1) -> zav i l = none
 | [], _, _ => rfl
 | (k, x) :: l, i, h => by
   simp at h
   rw [zaI, if_neg (fun e => h.1 e.symm)]
   exact zhB (by simpa using h.2)
theorem zdd {α : Type _} : ∀ (l l' : List (Nat × α)) (i : Nat), zav i (l ++ l') = (match zav i l with | some x => some x | none => zav i l')
 | [], l', i => by simp [zav]
 | (k, x) :: l, l', i => by
   simp only [List.cons_append]
   rw [zaI, zaI, zdd l l' i]
   split <;> rfl
theorem zju : ∀ {l : List SO} {i : Nat} {o : SO}, zhx l -> zaQ l i = some o -> o.flat
 | [], i, o, _, h => by simp [zaQ] at h
 | x :: l, 0, o, hf, h => by simp [zaQ] at h; subst h; exact hf.1
 | x :: l, i + 1, o, hf, h => zju hf.2 (by simpa [zaQ] using h)
theorem zfC : ∀ {l : List (Option SO)} {i : Nat} {o : SO}, zeI l -> zaQ l i = some (some o) -> o.flat
 | [], i, o, _, h => by simp [zaQ] at h
 | some x :: l, 0, o, hf, h => by simp [zaQ] at h; subst h; exact hf.1
 | none :: l, 0, o, hf, h => by simp [zaQ] at h
 | some x :: l, i + 1, o, hf, h => zfC hf.2 (by simpa [zaQ] using h)
 | none :: l, i + 1, o, hf, h => zfC (l := l) hf (by simpa [zaQ] using h)
theorem zke {α : Type _} {l : List α} {i : Nat} {x : α} (h : zaQ l i = some x) : i < l.length := by
 rw [zbx] at h; exact (List.getElem?_eq_some_iff.1 h).1
theorem zod {r : Option Nat} {n : Nat} {P : Program} {f : FuncId} {args : Array Value} {w : World} {R : Ending -> World -> Prop} (h : Calls P f args w R) : CallsIn (Wf r) n P f args w R := by
 have := (callsIn_wide (n := n)).2 h
 cases r with
 | none => exact this
 | some l => exact CallsIn.inRound l this
section
variable {C : Ctx} {gt : GT} {go : GO} {o : Oper} {fresh : Nat} {R : List Loc} {v : Option SV} {os : List (Nat × Option SO)} {k : Nat}
theorem zoc {E : Value -> Ending} {S : zct} (hsok : zf7 E C.P C.G S) {f : FuncId} {args : List SV} (h : (zh6 S f args fresh).Runs gt go R v os k) :
 ∃ (L : zaa) (ρ : Ren), zaa.okE E C.P C.G f L /\ ρ.inj /\ (∀ i, i < L.foot.length -> ∃ j, zav i ρ.m = some (some j)) /\ (∀ j ∈ ρ.bor, ∀ i, zav i ρ.m ≠ some (some j)) /\ (∀ i, L.foot.length <= i -> zav i ρ.m = none) ∧
  (∀ {β own S w}, zaw β own S go w -> ∀ sp xs, zam β w S args xs -> zam (bOf ρ β sp) w (fun b => S b \/ zgc go ρ own b) L.args xs) /\ (∀ p ∈ zbm L.foot 0, OIs go ρ p.1 p.2) ∧
  (ρ.bor = [] \/ L.flat) /\ v = some (L.res.ren (ρ.toF L.foot.length fresh)) /\ os = zc7 (ρ.toF L.foot.length fresh) L.out 0 ++ zeB (ρ.toF L.foot.length fresh) L.new L.foot.length /\ k = L.new.length := by
  unfold zh6 at h
  obtain ⟨L, R0, hL, h⟩ := hsok _ _ _ _ _ _ _ _ _ h
  . obtain ⟨ρ1, R1, h1, l1, i1, m1⟩ := zdw _ h
    obtain ⟨ρ2, R2, h2, l2, i2, m2⟩ := zdv _ h1
    have hinj0 : Ren.inj ⟨[], []⟩ := fun a b c h => by simp [zav] at h
    split at h2
    . rename_i hb hn hk
      refine ⟨L, ρ2, hL, i2 (i1 hinj0), zhq hb, zg3 hn, zdG hk, fun hm sp xs hx => m1 ρ2 l2 (zet hm) sp xs hx, m2, ?_⟩
      dsimp only at h2
      split at h2
      . rename_i e
        cases h2
        exact ⟨.inl e, rfl, rfl, rfl⟩
      . cases h2 with
        | req hp h2 => cases h2; exact ⟨.inr hp, rfl, rfl, rfl⟩
    . cases h2
set_option maxHeartbeats 4000000 in
theorem zkH (E : Value -> Ending) {ST : zct} (hsok : zf7 E C.P C.G ST) {fx : Operand} {xs : Array Operand} {ats : Array TypeId} (ho : o.op = .call { callee := .value fx, args := xs, argTypes := ats })
 (h : (zls C.toEnv ST (cX fx) (xs.toList.map cX) fresh).Runs gt go R v os k) : ∃ s, v = some s /\ ∀ β own S a w, zah C gt go β own S a w -> (∀ i, fresh <= i -> i < fresh + k -> β i = none) →
 ∀ (next : Act -> World -> Prop) (Q : Exit -> Act -> World -> Prop),
  (∀ β' own' S' x w', (∀ i, ¬ (fresh <= i /\ i < fresh + k) -> β' i = β i) -> rel β' w' S' s x →
   (∀ (dst : Option Nat) (y : Value) (wr : Option (Nat × SV)), (∀ d s', wr = some (d, s') -> dst = some d /\ d < C.N /\ rel β' w' S' s' y) -> (wr = none -> dst = none \/ ∃ d, dst = some d /\ gt d = none) →
    zah C (zbe gt wr) (za0 go os) β' own' S' (a.put dst y) w') →
   (∀ y, E x = .returned y -> next (a.put o.dst y) w') /\ (∀ ch, E x = .panicked ch -> Q (.panic ch) a w') /\ E x ≠ .outgrown) →
  o.wpIn (Wf C.rnd) 0 C.P a w next Q := by
  unfold zls at h
  replace h := zap h
  obtain ⟨sf, R1, h, hf⟩ := h
  replace h := zgv h
  obtain ⟨sx, R2, h, hx⟩ := h
  split at h
  case h_2 => cases h
  rename_i n fa fc
  obtain ⟨L, ρ, hL, hinj, hbd, hnb, hkl, hargs, hobjs, hbor, rfl, rfl, rfl⟩ := zoc hsok h
  generalize hm : L.foot.length = m at *
  generalize hσ : ρ.toF m fresh = σ at *
  obtain ⟨hent, hout, hcall⟩ := hL
  have σ1 : ∀ i j, i < m -> zav i ρ.m = some (some j) -> σ i = j := fun i j hi e => by
   subst hσ
   simp only [Ren.toF]
   have : Nat.blt i m = true := by rw [Nat.blt_eq]; exact hi
   rw [this]
   simp only [e]
  have σ2 : ∀ i, m <= i -> σ i = fresh + (i - m) := fun i hi => by
   subst hσ
   simp only [Ren.toF]
   have : Nat.blt i m = false := by
    cases e : Nat.blt i m with
    | false => rfl
    | true => rw [Nat.blt_eq] at e; omega
   rw [this]
  refine ⟨_, rfl, ?_⟩
  intro β own S a w H hβ next Q hnx
  have hfv := hf H
  simp only [rel] at hfv
  obtain ⟨va, vc, hfe, hra, hrc⟩ := hfv
  have hrun : (execOp a.eval o).run C.P w = .ok (.enter n (va ++ xs.map a.eval ++ vc)) w := by
   simp only [execOp, ho, resolve, hfe, Deferred.ofValue, invoke, Sem.run_bind, Sem.run_pure, Result.andThen_ok]
   exact hent _ w
  have hrall : zam β w S (fa ++ sx ++ fc) (va ++ xs.map a.eval ++ vc).toList := by
   simp only [Array.toList_append]
   exact zbC _ _ _ _ (zbC _ _ _ _ hra (by simpa using hx H)) hrc
  let sp : Nat -> Nat := fun _ => 0
  let Sp : Nat -> Prop := fun b => S b \/ zgc go ρ own b
  have hlf : ∀ i, zav i (zbm L.foot 0) = L.go0 i := fun i => by rw [zcb]; simp [zaa.go0]
  have hmem : zaw (bOf ρ β sp) (zb8 ρ own) Sp (fun i => zav i (zbm L.foot 0)) w := by
   refine zk0 H.mem hinj _ hobjs (fun i j e hj => hnb j hj i e) (fun i o e e' => ?_)
   rw [hlf] at e
   obtain ⟨j, hj⟩ := hbd i (by have := zke e; omega)
   rw [hj] at e'; cases e'
  have hgo0 : (fun i => zav i (zbm L.foot 0)) = L.go0 := funext hlf
  rw [hgo0] at hmem
  have hβc : ∀ i, m <= i -> bOf ρ β sp i = none := fun i hi => by simp [bOf, hkl i hi]
  have hgl : ∀ g s, C.G g = some s -> rel (fun _ => none) w Sp s (.pointer (some ⟨g, 0, none⟩)) := fun g s e =>
   zaH ⟨fun _ _ e => e, fun _ e => .inl e, fun _ _ => rfl⟩ _ _ (H.gl g s e)
  have hcalls := hcall (bOf ρ β sp) (zb8 ρ own) Sp w (va ++ xs.map a.eval ++ vc) (fun i hi => hβc i (by omega)) hmem (hargs H.mem sp _ hrall) hgl
  have hfoot : ∀ i, (L.go0 i).isSome -> i < m /\ ∃ j c, zav i ρ.m = some (some j) /\ go j = some c /\ zb8 ρ own i = own j := fun i hi => by
   obtain ⟨c, hc⟩ := Option.isSome_iff_exists.1 hi
   have him : i < m := by have := zke hc; omega
   obtain ⟨j, hj⟩ := hbd i him
   rw [<- hlf] at hc
   rcases hobjs _ (zch hc) with ⟨j', c', h1, h2, _⟩ | ⟨h1, _⟩
   . rw [hj] at h1; cases h1
     exact ⟨him, j, c', hj, h2, by simp [zb8, hj]⟩
   . rw [hj] at h1; cases h1
  have hgoj : ∀ i j, i < m -> zav i ρ.m = some (some j) -> (go j).isSome := fun i j hi e => by
   have hs : (L.go0 i).isSome := by
    have : i < L.foot.length := by omega
    simp [zaa.go0, zbx, this]
   obtain ⟨_, j', c, h1, h2, _⟩ := hfoot i hs
   rw [e] at h1; cases h1
   simp [h2]
  have hownf : ∀ b, za9 L.go0 (zb8 ρ own) b -> za9 go own b := fun b ⟨i, h1, h2⟩ => by
   obtain ⟨_, j, c, _, h4, h5⟩ := hfoot i h1
   exact ⟨j, by simp [h4], by rw [<- h5]; exact h2⟩
  have hownlt : ∀ j b, (go j).isSome -> own j b -> b < w.heap.size := fun j b hs hb => by
   obtain ⟨c, hc⟩ := Option.isSome_iff_exists.1 hs
   obtain ⟨B, _, hO⟩ := H.mem.obj j c hc
   exact hO.lt b hb
  have hjf : ∀ j, (go j).isSome -> ¬ (fresh <= j /\ j < fresh + L.new.length) := fun j hs hr => by
   obtain ⟨c, hc⟩ := Option.isSome_iff_exists.1 hs
   obtain ⟨B, hB, _⟩ := H.mem.obj j c hc
   rw [hβ j hr.1 hr.2] at hB; cases hB
  refine ⟨fun _ _ => trivial, ?_⟩
  rw [Oper.semAt_eq _ _ _ (by simp [ho]), hrun]
  refine ⟨fun e => by simp [Wf, Fence.wide] at e, ?_⟩
  refine (zod hcalls).mono ?_
  rintro e w' ⟨x, βc', ownc', Sc', he, hext, hβc', hres, hmem', hfr, hown', hS'⟩
  rw [hm] at hβc'
  generalize hK : L.new.length = K at *
  have σinj : ∀ i i', i < m + K -> i' < m + K -> σ i = σ i' -> i = i' := by
   intro i i' hi hi' e
   by_cases c1 : i < m
   . obtain ⟨j, hj⟩ := hbd i c1
     rw [σ1 i j c1 hj] at e
     by_cases c2 : i' < m
     . obtain ⟨j', hj'⟩ := hbd i' c2
       rw [σ1 i' j' c2 hj'] at e
       subst e
       exact hinj i i' _ hj hj'
     . rw [σ2 i' (by omega)] at e
       exact absurd ⟨by omega, by omega⟩ (hjf j (hgoj i j c1 hj))
   . rw [σ2 i (by omega)] at e
     by_cases c2 : i' < m
     . obtain ⟨j', hj'⟩ := hbd i' c2
       rw [σ1 i' j' c2 hj'] at e
       exact absurd ⟨by omega, by omega⟩ (hjf j' (hgoj i' j' c2 hj'))
     . rw [σ2 i' (by omega)] at e
       omega
  have hnodup : ((zc7 σ L.out 0 ++ zeB σ L.new m).map (·.1)).Nodup := by
   rw [List.map_append, zeC, zg2, hout, hm, <- List.map_append, hK]
   have : List.range' 0 m ++ List.range' m K = List.range' 0 (m + K) := by
    have := List.range'_append_1 (s := 0) (m := m) (n := K)
    simpa using this
   rw [this]
   refine List.nodup_iff_pairwise_ne.2 ?_
   rw [List.pairwise_map]
   refine List.Pairwise.imp_of_mem (fun {a b} ha hb hab e => hab (σinj a b ?_ ?_ e)) (List.nodup_iff_pairwise_ne.1 List.nodup_range')
   . simpa using ha
   . simpa using hb
  let go' : GO := za0 go (zc7 σ L.out 0 ++ zeB σ L.new m)
  have hgo' : ∀ id, go' id = (match zav id (zc7 σ L.out 0 ++ zeB σ L.new m) with | some o => o | none => go id) := fun id => zjx go _ id hnodup
  have inj0 : ∀ a b, 0 <= a -> a < 0 + L.out.length -> 0 <= b -> b < 0 + L.out.length -> σ a = σ b -> a = b := fun a b _ h1 _ h2 e => σinj a b (by omega) (by omega) e
  have injm : ∀ a b, m <= a -> a < m + L.new.length -> m <= b -> b < m + L.new.length -> σ a = σ b -> a = b := fun a b _ h1 _ h2 e => σinj a b (by omega) (by omega) e
  have notout : ∀ i, m <= i -> i < m + K -> zav (σ i) (zc7 σ L.out 0) = none := fun i h1 h2 => zhB (by
   rw [zeC, hout, hm]
   intro hc
   obtain ⟨a, ha, e⟩ := List.mem_map.1 hc
   simp at ha
   have := σinj a i (by omega) h2 e
   omega)
  have g1 : ∀ i, i < m -> go' (σ i) = (match zaQ L.out i with | some (some o) => some (o.ren σ) | _ => none) := fun i hi => by
   rw [hgo', zdd, zjF σ L.out 0 i inj0 (Nat.zero_le _) (by omega)]
   simp only [Nat.sub_zero]
   have hlt : i < L.out.length := by omega
   have : zaQ L.out i = some (L.out[i]'hlt) := by rw [zbx, List.getElem?_eq_getElem hlt]
   rw [this]
   cases L.out[i]'hlt <;> rfl
  have g2 : ∀ i, m <= i -> i < m + K -> go' (σ i) = (zaQ L.new (i - m)).map (SO.ren σ) := fun i h1 h2 => by
   rw [hgo', zdd, notout i h1 h2]
   simp only
   rw [zjE σ L.new m i injm h1 (by omega)]
   have hlt : i - m < L.new.length := by omega
   have : zaQ L.new (i - m) = some (L.new[i - m]) := by rw [zbx, List.getElem?_eq_getElem hlt]
   rw [this]
   rfl
  have g3 : ∀ id, (∀ i, i < m + K -> σ i ≠ id) -> go' id = go id := fun id h => by
   rw [hgo', zhB (by
    rw [List.map_append, zeC, zg2, hout, hm, hK]
    intro hc
    rcases List.mem_append.1 hc with hc | hc
    . obtain ⟨a, ha, e⟩ := List.mem_map.1 hc
      simp at ha
      exact h a (by omega) e
    . obtain ⟨a, ha, e⟩ := List.mem_map.1 hc
      simp at ha
      exact h a (by omega) e)]
  have g12 : ∀ i, i < m + K -> go' (σ i) = (L.go1 i).map (SO.ren σ) := fun i hi => by
   simp only [zaa.go1, hm]
   by_cases c : i < m
   . rw [g1 i c, if_pos c]
     cases zaQ L.out i with
     | none => rfl
     | some q => cases q <;> rfl
   . rw [g2 i (by omega) hi, if_neg c]
  let β' : Nat -> Option zay := fun id => if fresh <= id /\ id < fresh + K then βc' (m + (id - fresh)) else β id
  let own' : Nat -> Nat -> Prop := fun id b => (∃ i, i < m + K /\ σ i = id /\ ownc' i b) \/ ((∀ i, i < m + K -> σ i ≠ id) /\ own id b)
  let S' : Nat -> Prop := fun b => Sc' b /\ ¬ zgc go ρ own b
  have ownσ : ∀ i, i < m + K -> own' (σ i) = ownc' i := fun i hi => by
   funext b
   apply propext
   constructor
   . rintro (⟨i', h1, h2, h3⟩ | ⟨h1, _⟩)
     . rw [σinj i' i h1 hi h2] at h3; exact h3
     . exact absurd rfl (h1 i hi)
   . exact fun h => .inl ⟨i, hi, rfl, h⟩
  have owno : ∀ id, (∀ i, i < m + K -> σ i ≠ id) -> own' id = own id := fun id h => by
   funext b
   apply propext
   constructor
   . rintro (⟨i', h1, h2, h3⟩ | ⟨_, h2⟩)
     . exact absurd h2 (h i' h1)
     . exact h2
   . exact fun e => .inr ⟨h, e⟩
  have βσ : ∀ i B, βc' i = some B -> β' (σ i) = some B := fun i B e => by
   by_cases c : i < m
   . obtain ⟨j, hj⟩ := hbd i c
     rw [σ1 i j c hj]
     have hj2 := hgoj i j c hj
     simp only [β']
     rw [if_neg (hjf j hj2)]
     obtain ⟨cc, hc⟩ := Option.isSome_iff_exists.1 hj2
     obtain ⟨B0, hB0, _⟩ := H.mem.obj j cc hc
     have h2 := hext.ids i B (by omega) e
     rw [zcY hj, hB0] at h2
     rw [hB0, h2]
   . by_cases c2 : i < m + K
     . rw [σ2 i (by omega)]
       simp only [β']
       rw [if_pos ⟨by omega, by omega⟩]
       have : m + (fresh + (i - m) - fresh) = i := by omega
       rw [this]; exact e
     . rw [hβc' i (by omega)] at e; cases e
  have Sx : Ext β w S β' w' S' := by
   refine ⟨fun i B e => ?_, fun b hb => ⟨hext.st b (.inl hb), fun ⟨j, _, hs, hj⟩ => H.mem.st j b hs hj hb⟩, fun b hb => hext.heap b (.inl hb)⟩
   simp only [β']
   rw [if_neg (fun hr => by rw [hβ i hr.1 hr.2] at e; cases e)]
   exact e
  have relS : ∀ s x, (ρ.bor = [] \/ s.flat) -> rel βc' w' Sc' s x -> rel β' w' S' (s.ren σ) x := fun s x hs hx => by
   refine zkq βσ s x ?_
   rcases hs with hs | hs
   . have : S' = Sc' := by
      funext b
      apply propext
      exact ⟨fun h => h.1, fun h => ⟨h, fun ⟨j, hj, _⟩ => by rw [hs] at hj; cases hj⟩⟩
     rw [this]; exact hx
   . exact zfK hs hx
  have objS : ∀ B F p, (ρ.bor = [] \/ p.flat) -> za3 βc' w' Sc' B F p -> za3 β' w' S' B F (p.ren σ) := fun B F p hs hx => by
   refine za3.ren βσ ?_
   rcases hs with hs | hs
   . have : S' = Sc' := by
      funext b
      apply propext
      exact ⟨fun h => h.1, fun h => ⟨h, fun ⟨j, hj, _⟩ => by rw [hs] at hj; cases hj⟩⟩
     rw [this]; exact hx
   . exact hx.flat hs
  have go1flat : ∀ i p, L.go1 i = some p -> ρ.bor = [] \/ p.flat := fun i p e => by
   rcases hbor with h | ⟨_, h2, h3⟩
   . exact .inl h
   . right
     simp only [zaa.go1] at e
     split at e
     . split at e
       . rename_i q hq
         cases e
         exact zfC h3 hq
       . cases e
     . exact zju h2 e
  have go1lt : ∀ i, (L.go1 i).isSome -> i < m + K := fun i hi => by
   obtain ⟨p, hp⟩ := Option.isSome_iff_exists.1 hi
   simp only [zaa.go1, hm] at hp
   split at hp
   . omega
   . have := zke hp; omega
  have other : ∀ id, (∀ i, i < m + K -> σ i ≠ id) -> (go id).isSome -> ∀ b, own id b -> ¬ za9 L.go0 (zb8 ρ own) b := fun id hid hs b hb ⟨i, h1, h2⟩ => by
   obtain ⟨him, j, c, h3, h4, h5⟩ := hfoot i h1
   rw [h5] at h2
   refine H.mem.sep id j b (fun e => ?_) hs (by simp [h4]) hb h2
   subst e
   exact hid i (by omega) (σ1 i _ him h3)
  have othereq : ∀ id, (∀ i, i < m + K -> σ i ≠ id) -> (go id).isSome -> ∀ b, own id b -> w'.heap[b]? = w.heap[b]? := fun id hid hs b hb =>
   hfr.block b (hownlt id b hs hb) (other id hid hs b hb)
  have go'some : ∀ id, (go' id).isSome -> (∃ i, i < m + K /\ σ i = id /\ (L.go1 i).isSome) \/ ((∀ i, i < m + K -> σ i ≠ id) /\ (go id).isSome) := fun id hid => by
   by_cases c : ∃ i, i < m + K /\ σ i = id
   . obtain ⟨i, h1, rfl⟩ := c
     rw [g12 i h1] at hid
     exact .inl ⟨i, h1, rfl, by simpa using hid⟩
   . have c' : ∀ i, i < m + K -> σ i ≠ id := fun i hi e => c ⟨i, hi, e⟩
     rw [g3 id c'] at hid
     exact .inr ⟨c', hid⟩
  have hM : zaw β' own' S' go' w' := by
   refine ⟨fun id p e => ?_, fun id id' b hne h1 h2 => ?_, fun id b h1 => ?_, fun b hb => hmem'.sz b hb.1⟩
   . rcases go'some id (by simp [e]) with ⟨i, h1, rfl, h2⟩ | ⟨h1, h2⟩
     . rw [g12 i h1] at e
       cases hq : L.go1 i with
       | none => rw [hq] at h2; simp at h2
       | some q =>
         rw [hq] at e
         simp at e
         subst e
         obtain ⟨B, hB, hO⟩ := hmem'.obj i q hq
         exact ⟨B, βσ i B hB, by rw [ownσ i h1]; exact objS B _ q (go1flat i q hq) hO⟩
     . rw [g3 id h1] at e
       obtain ⟨B, hB, hO⟩ := H.mem.obj id p e
       exact ⟨B, Sx.ids _ _ hB, by rw [owno id h1]; exact hO.ext Sx (fun b hb => othereq id h1 h2 b hb)⟩
   . rcases go'some id h1 with ⟨i, c1, rfl, c2⟩ | ⟨c1, c2⟩
     . rw [ownσ i c1]
       rcases go'some id' h2 with ⟨i', d1, rfl, d2⟩ | ⟨d1, d2⟩
       . rw [ownσ i' d1]
         exact hmem'.sep i i' b (fun e => hne (by rw [e])) c2 d2
       . rw [owno id' d1]
         intro e1 e2
         rcases hown' i b c2 e1 with h | h
         . exact other id' d1 d2 b e2 h
         . have := hownlt id' b d2 e2; omega
     . rw [owno id c1]
       rcases go'some id' h2 with ⟨i', d1, rfl, d2⟩ | ⟨d1, d2⟩
       . rw [ownσ i' d1]
         intro e1 e2
         rcases hown' i' b d2 e2 with h | h
         . exact other id c1 c2 b e1 h
         . have := hownlt id b c2 e1; omega
       . rw [owno id' d1]
         exact H.mem.sep id id' b hne c2 d2
   . rcases go'some id h1 with ⟨i, c1, rfl, c2⟩ | ⟨c1, c2⟩
     . rw [ownσ i c1]
       exact fun e h => hmem'.st i b c2 e h.1
     . rw [owno id c1]
       intro e h
       rcases hS' b h.1 with (q | q) | q | q
       . exact H.mem.st id b c2 e q
       . exact h.2 q
       . exact other id c1 c2 b e q
       . have := hownlt id b c2 e; omega
  have hfin := hnx β' own' S' x w' (fun i hi => by simp only [β']; rw [if_neg hi]) (relS L.res x (hbor.imp id (fun h => h.1)) hres) (fun dst y wr h1 h2 => by
   refine H.step Sx hM ⟨hfr.os, hfr.tape, hfr.output, hfr.size, fun k hk hx => hfr.block k hk (fun e => hx (hownf k e))⟩ (fun id b h1 h2 => ?_) (fun b hb => ?_) dst y wr h1 h2
   . rcases go'some id h1 with ⟨i, c1, rfl, c2⟩ | ⟨c1, c2⟩
     . rw [ownσ i c1] at h2
       rcases hown' i b c2 h2 with h | h
       . exact .inl (hownf b h)
       . exact .inr h
     . rw [owno id c1] at h2
       exact .inl ⟨id, c2, h2⟩
   . rcases hS' b hb.1 with (q | ⟨j, _, hs, hj⟩) | q | q
     . exact .inl q
     . exact .inr (.inl ⟨j, hs, hj⟩)
     . exact .inr (.inl (hownf b q))
     . exact .inr (.inr q))
  obtain ⟨f1, f2, f3⟩ := hfin
  cases e with
  | returned y => exact f1 y he.symm
  | panicked ch => exact f2 ch he.symm
  | outgrown => exact absurd he.symm f3
theorem znt {fx : Operand} {xs : Array Operand} {ats : Array TypeId} (ho : o.op = .call { callee := .value fx, args := xs, argTypes := ats })
 (h : (MO.rt C.toEnv fresh (.call (cX fx) (xs.toList.map cX))).Runs gt go R v os k) (hd : zau C o.dst v) : zaD C o fresh gt go v os k := by
  have h : (zls C.toEnv C.S (cX fx) (xs.toList.map cX) fresh).Runs gt go R v os k := h
  obtain ⟨s, rfl, hc⟩ := zkH .returned C.sok ho h
  intro β own S a w H hβ next Q hnx
  refine hc β own S a w H hβ next Q (fun β' own' S' x w' h1 h2 h3 => ⟨fun y e => ?_, fun ch e => (by cases e), fun e => (by cases e)⟩)
  cases e
  exact hnx β' own' S' x w' h1 (h3 o.dst x _ (zcd hd (fun s' e => by cases e; exact h2)) (zbw hd gt))
end
end Go.Sx
namespace Go.Sx
open Go
theorem zbf (n : Nat) (K : Nat -> Prop) : zb5 n K = K n := by cases n <;> rfl
mutual
theorem zeZ : ∀ (s : SV) (K : SV -> Prop), fSV s K = K s
 | .ptr i a b, K => by simp [fSV, zbf]
 | .slc i a n, K => by simp [fSV, zbf]
 | .slx i a n, K => by simp [fSV, zbf]
 | .gn i, K => by simp [fSV, zbf]
 | .fex p, K => rfl
 | .mp i, K => by simp [fSV, zbf]
 | .fn f a c, K => by simp [fSV, zed a, zed c]
 | .ifc t x, K => by simp [fSV, zeZ x]
 | .agg cs, K => by simp [fSV, zed cs]
 | .tup cs, K => by simp [fSV, zed cs]
 | .any, K => rfl
 | .int k n, K => rfl
 | .bool b, K => rfl
 | .pr p, K => rfl
 | .tt, K => rfl
 | .ff, K => rfl
 | .str s, K => rfl
 | .val v, K => rfl
 | .rd p, K => rfl
 | .rp cs sub, K => by simp [fSV, zbf]
 | .ra s L, K => rfl
theorem zed : ∀ (l : List SV) (K : List SV -> Prop), zga l K = K l
 | [], K => rfl
 | s :: l, K => by simp [zga, zeZ s, zed l]
end
theorem zma : ∀ (l : List (List SV)) (K : List (List SV) -> Prop), zlt l K = K l
 | [], K => rfl
 | s :: l, K => by simp [zlt, zed s, zma l]
theorem zvZ (o : SO) (K : SO -> Prop) : fSO o K = K o := by
 cases o with
 | map M es it => cases it with
   | none => rfl
   | some p => obtain ⟨r, l, c⟩ := p; cases c <;> simp [fSO, zbf]
 | lrec l r e => cases e <;> rfl
 | fam M sub es h => cases h with
   | none => rfl
   | some p => obtain ⟨r, l, c⟩ := p; cases c <;> simp [fSO, zbf]
 | _ => simp [fSO, zed, zma, zbf]
theorem zfA : ∀ (l : List (Nat × Option SO)) (K : List (Nat × Option SO) -> Prop), fOs l K = K l
 | [], K => rfl
 | (i, none) :: l, K => by simp [fOs, zbf, zfA l]
 | (i, some o) :: l, K => by simp [fOs, zbf, zvZ, zfA l]
theorem zni {α : Type _} (l : List α) (K : List α -> Prop) : zrl l K = K l := by cases l <;> rfl
theorem zjq : ∀ (l : List (Nat × SV)) (K : List (Nat × SV) -> Prop), fTs l K = K l
 | [], K => rfl
 | (i, v) :: l, K => by simp [fTs, zbf, zeZ, zjq l]
theorem zfW (d : Nat) (v : SV) (l : List (Nat × SV)) : zaM ((d, v) :: l) = upd (zaM l) d (some v) := by
 funext i
 simp only [zaM, zaI, upd]
 by_cases h : d = i
 . subst h; simp
 . rw [if_neg h, if_neg (fun e => h e.symm)]
theorem zfD : ∀ (os l : List (Nat × Option SO)), zax (zeR l os) = za0 (zax l) os
 | [], l => rfl
 | (i, o) :: os, l => by
   simp only [zeR, za0]
   rw [zfD os]
   congr 1
   funext j
   simp only [zax, zaI, upd]
   by_cases h : i = j
   . subst h; simp
   . rw [if_neg h, if_neg (fun e => h e.symm)]
structure zaA (C : Ctx) (s : St) (β : Nat -> Option zay) (own : Nat -> Nat -> Prop) (S : Nat -> Prop) (a : Act) (w : World) : Prop where
 h : zah C (zaM s.t) (zax s.o) β own S a w
 fresh : ∀ i, s.nx <= i -> β i = none
 m0 : C.m0 <= s.nx
 b0 : ∀ i B, i < C.m0 -> β i = some B -> C.β0 i = some B
theorem zkS {C : Ctx} {gt go β own S a w} (h : zah C gt go β own S a w) {d : Nat} {v : SV} (hv : rel β w S v (a.tmps.getD d undef)) : zah C (upd gt d (some v)) go β own S a w := by
 refine ⟨fun t s e => ?_, h.mem, h.fr, h.own0, h.s0, h.s1, h.n, h.df, h.gl⟩
 by_cases ht : t = d
 . subst ht; simp at e; subst e; exact hv
 . rw [zab _ _ ht] at e; exact h.tm t s e
structure zlo (o : Oper) (m : MO) : Prop where
 call : ∀ f xs, m = .call f xs -> ∃ fx ax ats, o.op = .call { callee := .value fx, args := ax, argTypes := ats } /\ f = cX fx /\ xs = ax.toList.map cX
 pcall : ∀ f xs, m = .pcall f xs -> ∃ fx ax ats, o.op = .call { callee := .value fx, args := ax, argTypes := ats } /\ f = cX fx /\ xs = ax.toList.map cX
 nxt : ∀ x, m = .nxt x -> ∃ ox, o.op = .next ox false /\ x = cX ox
 pnc : ∀ x, m = .pnc x -> ∃ ox, o.op = .panic ox /\ x = cX ox
 ar : ∀ op x y, m = .ar op x y -> ∃ t ox oy ty, o.op = .binOp op t ox oy ty /\ x = cX ox /\ y = cX oy
 cmp : ∀ op x y, m = .cmp op x y -> ∃ t ox oy ty, o.op = .binOp op t ox oy ty /\ x = cX ox /\ y = cX oy
structure zdi (C : Ctx) (ops : Array Oper) (o : Oper) (m : MOp) : Prop where
 sh : zlo o m.m
 d : m.d = o.dst
 g : match o.guard with
  | none => m.g = none
  | some (j, want) => ∃ oj t, ops[j]? = some oj /\ oj.dst = some t /\ m.g = some (t, want)
 ok : ∀ {fresh gt go R v os k}, (m.m.rt C.toEnv fresh).Runs gt go R v os k -> zau C o.dst v -> zaD C o fresh gt go v os k
theorem zdE {C : Ctx} {gt go β own S a w} (H : zah C gt go β own S a w) {ops : Array Oper} {o : Oper} {m : MOp} (h : zdi C ops o m) :
 (m.g = none -> Region.wanted o (yielded ops a.tmps) = true) /\ ∀ t want, m.g = some (t, want) -> ∀ b, (gt t = some (if b then .tt else .ff)) -> Region.wanted o (yielded ops a.tmps) = (b == want) := by
  have hg := h.g
  unfold Region.wanted
  cases e : o.guard with
  | none => rw [e] at hg; simp only at hg; rw [hg]; simp
  | some p =>
    obtain ⟨j, want⟩ := p
    rw [e] at hg
    obtain ⟨oj, t, h1, h2, h3⟩ := hg
    refine ⟨fun h => (by rw [h3] at h; cases h), fun t' want' h b hb => ?_⟩
    rw [h3] at h
    cases h
    have hr := H.tm t _ hb
    have hv : a.tmps.getD t undef = .bool b := by cases b <;> simpa [rel] using hr
    have hlt : a.tmps[t]? = some (.bool b) := by
     rw [Array.getD_eq_getD_getElem?] at hv
     cases hx : a.tmps[t]? with
     | none => rw [hx] at hv; simp [undef] at hv
     | some x => rw [hx] at hv; simp at hv; rw [hv]
    simp only [yielded, h1, Option.bind_some, h2, hlt]
    cases b <;> cases want <;> rfl
theorem zhZ {C : Ctx} {gt go β own S a w} (H : zah C gt go β own S a w) {ops : Array Oper} {o : Oper} {m : MOp} (h : zdi C ops o m) {t : Nat} {want : Bool} {xs : Array Value} (hg' : m.g = some (t, want))
 (hb : gt t = some (.val (.tuple xs))) : Region.wanted o (yielded ops a.tmps) = false := by
  have hg := h.g
  unfold Region.wanted
  cases e : o.guard with
  | none => rw [e] at hg; simp only at hg; rw [hg] at hg'; cases hg'
  | some p =>
    obtain ⟨j, want'⟩ := p
    rw [e] at hg
    obtain ⟨oj, t', h1, h2, h3⟩ := hg
    rw [h3] at hg'
    cases hg'
    have hr := H.tm t _ hb
    simp only [rel] at hr
    simp only [yielded, h1, Option.bind_some, h2]
    rw [Array.getD_eq_getD_getElem?] at hr
    cases hx : a.tmps[t]? with
    | none => rfl
    | some x => rw [hx] at hr; simp at hr; subst hr; rfl
theorem zrb {gt : GT} {d : Option Nat} {v : Option SV} : zbe gt (zfz d v) = match d, v with | some d, some v => upd gt d (some v) | _, _ => gt := by
 cases d <;> cases v <;> rfl
theorem zif {C : Ctx} {ops : Array Oper} {o : Oper} {m : MOp} (hm : zdi C ops o m) {s : St} {K : St -> Prop} (h : zkm C.toEnv m s K) {β own S a w} (H : zaA C s β own S a w)
 {next : Act -> World -> Prop} {Q : Exit -> Act -> World -> Prop} (hn : ∀ s' β' own' S' a' w', K s' -> zaA C s' β' own' S' a' w' -> next a' w') :
 if Region.wanted o (yielded ops a.tmps) then o.wpIn (Wf C.rnd) 0 C.P a w next Q else next (a.put o.dst undef) w := by
  obtain ⟨st, so, snx⟩ := s
  have fresh0 : ∀ i, snx <= i -> β i = none := H.fresh
  have m00 : C.m0 <= snx := H.m0
  obtain ⟨w1, w2⟩ := zdE H.h hm
  have exec : ((m.m.rt C.toEnv snx).vc (zaM st) (zax so) [] fun _ v os k => zht C.N m ⟨st, so, snx⟩ v os k K) -> o.wpIn (Wf C.rnd) 0 C.P a w next Q := by
   intro h
   obtain ⟨R, v, os, k, hr, hc⟩ := RT.runs_of_vc _ _ _ h
   simp only [zht, zfA, zbf, zni, zeZ, hm.d] at hc
   have hd : zau C o.dst v := by
    intro t e
    rw [e] at hc
    cases v with
    | none => exact hc.elim
    | some v =>
      simp only at hc
      refine ⟨?_, rfl⟩
      cases hb : Nat.blt t C.N with
      | true => rw [Nat.blt_eq] at hb; exact hb
      | false => rw [hb] at hc; exact hc.elim
   refine hm.ok hr hd β own S a w H.h (fun i h1 h2 => fresh0 i h1) next Q fun β' own' S' x w' hβ' H' => ?_
   have b0' : ∀ i B, i < C.m0 -> β' i = some B -> C.β0 i = some B := fun i B hi e => H.b0 i B hi (by rw [<- hβ' i (by omega)]; exact e)
   have m0' : C.m0 <= snx + k := Nat.le_trans H.m0 (Nat.le_add_right _ _)
   have fr' : ∀ i, snx + k <= i -> β' i = none := fun i hi => by rw [hβ' i (by omega)]; exact fresh0 i (by omega)
   rw [zrb] at H'
   cases hdst : o.dst with
   | none =>
     rw [hdst] at hc H'
     simp only at hc H'
     exact hn _ β' own' S' _ _ hc ⟨by simp only [zfD]; exact H', fr', m0', b0'⟩
   | some t =>
     obtain ⟨hlt, hv⟩ := hd t hdst
     rw [hdst] at hc H'
     cases v with
     | none => simp at hv
     | some v =>
       simp only at hc H'
       have hb : Nat.blt t C.N = true := by rw [Nat.blt_eq]; exact hlt
       rw [hb] at hc
       simp only at hc
       have fin : ∀ v', (∀ x, rel β' w' S' v x -> rel β' w' S' v' x) -> K ⟨(t, v') ::st, zeR so os, snx + k⟩ -> next (a.put (some t) x) w' := by
        intro v' hv' hk
        refine hn _ β' own' S' _ _ hk ⟨?_, fr', m0', b0'⟩
        simp only [zfD, zfW]
        have h1 := H'.tm t v (by simp)
        have := zkS H' (hv' _ h1)
        rw [zio] at this
        exact this
       cases hsp : m.sp with
       | false => rw [hsp] at hc; exact fin v (fun _ h => h) hc
       | true =>
         rw [hsp] at hc
         simp only at hc
         split at hc
         . rename_i b
           cases b with
           | true => exact fin .tt (fun x hx => by simpa [rel] using hx) (hc.1 rfl)
           | false => exact fin .ff (fun x hx => by simpa [rel] using hx) (hc.2 rfl)
         . rename_i p
           by_cases hp : p
           . exact fin .tt (fun x hx => by simp only [rel] at hx ⊢; obtain ⟨b, e, hb⟩ := hx; rw [e, hb.2 hp]) (hc.1 hp)
           . exact fin .ff (fun x hx => by
              simp only [rel] at hx ⊢; obtain ⟨b, e, hb⟩ := hx
              cases b with
              | true => exact absurd (hb.1 rfl) hp
              | false => exact e) (hc.2 hp)
         . exact fin v (fun _ h => h) hc
  have skip : zhW C.N m ⟨st, so, snx⟩ K -> next (a.put o.dst undef) w := by
   intro h
   simp only [zhW, hm.d] at h
   cases hdst : o.dst with
   | none => rw [hdst] at h; exact hn _ β own S _ _ h H
   | some t =>
     rw [hdst] at h
     simp only at h
     split at h
     . rename_i hb
       have hlt : t < C.N := by rw [Nat.blt_eq] at hb; exact hb
       refine hn _ β own S _ _ h ⟨?_, H.fresh, H.m0, H.b0⟩
       simp only [zfW]
       have := H.h.pure (w' := w) rfl rfl rfl rfl (some t) undef (some (t, .val undef)) (fun d s' e => by cases e; exact ⟨rfl, hlt, by simp [rel]⟩) (fun e => by cases e)
       exact this
     . exact h.elim
  simp only [zkm] at h
  split at h
  . rename_i hg
    rw [w1 hg]
    exact exec h
  . rename_i t want hg
    split at h
    . rename_i ht
      have hw := w2 t want hg true (by simpa [zaM] using ht)
      split at h
      . rw [hw]; exact exec h
      . rw [hw]; exact skip h
    . rename_i ht
      have hw := w2 t want hg false (by simpa [zaM] using ht)
      split at h
      . rw [hw]; exact exec h
      . rw [hw]; exact skip h
    . rename_i v ht
      split at h
      . rename_i xs
        rw [zhZ H.h hm hg (by simpa [zaM] using ht)]
        exact skip h
      . exact h.elim
    . exact h.elim
end Go.Sx
namespace Go.Sx
open Go
structure Ent : Type 1 where
 rd : List Loc
 t : Option (Nat × SV)
 os : List (Nat × Option SO)
 nx : Nat
 k : Nat
def zfj : List (Nat × Option SO) -> List Loc
 | [] => []
 | (i, _) :: l => .o i :: zfj l
def Ent.wr (e : Ent) : List Loc := match e.t with | some (d, _) => .t d :: zfj e.os | none => zfj e.os
def zoo : Loc -> Loc -> Bool
 | .t a, .t b => Nat.beq a b
 | .o a, .o b => Nat.beq a b
 | _, _ => false
def zjD (l : Loc) : List Loc -> Bool
 | [] => false
 | m :: r => match zoo l m with | true => true | false => zjD l r
def zee : List Loc -> List Loc -> Bool
 | [], _ => false
 | l :: r, m => match zjD l m with | true => true | false => zee r m
def Ent.apart (e f : Ent) : Bool := !(zee e.wr f.wr || zee e.wr f.rd || zee f.wr e.rd)
def zgj (acc : List Nat) : List (List Nat) -> List Nat
 | [] => acc
 | p :: r => zgj (acc ++ [p.foldl (fun m q => m ||| 2 ^ q ||| (acc.getD q 0)) 0]) r
def zq1 (pre : List (List Nat)) : List Nat := zgj [] pre
def zgM (m : Nat) (e : Ent) : List Ent -> Nat -> Bool
 | [], _ => true
 | f :: r, i => match (m.testBit i || f.apart e) with | true => zgM m e r (i + 1) | false => false
def zgL (pre : List Nat) (done : List Ent) : List Ent -> Nat -> Bool
 | [], _ => true
 | e :: r, i => match zgM (pre.getD i 0) e done 0 with | true => zgL pre (done ++ [e]) r (i + 1) | false => false
def zbH (pre : List (List Nat)) (es : List Ent) : Bool := zgL (zq1 pre) [] es 0
def zgk (N : Nat) (op : MOp) (nx : Nat) (R : List Loc) (v : Option SV) (os : List (Nat × Option SO)) (k : Nat) (K : Ent -> Prop) : Prop :=
 fOs os fun os => zb5 k fun k =>
  match op.d, v with
  | none, _ => K ⟨R, none, os, nx, k⟩
  | some _, none => False
  | some d, some v => match Nat.blt d N with
    | false => False
    | true => fSV v fun v => match op.sp with
      | false => K ⟨R, some (d, v), os, nx, k⟩
      | true => match v with
        | .bool b => (b = true -> K ⟨R, some (d, .tt), os, nx, k⟩) /\ (b = false -> K ⟨R, some (d, .ff), os, nx, k⟩)
        | .pr p => (p -> K ⟨R, some (d, .tt), os, nx, k⟩) /\ (¬ p -> K ⟨R, some (d, .ff), os, nx, k⟩)
        | v => K ⟨R, some (d, v), os, nx, k⟩
def zjV (N : Nat) (op : MOp) (nx : Nat) (R : List Loc) (K : Ent -> Prop) : Prop :=
 match op.d with
 | none => K ⟨R, none, [], nx, 0⟩
 | some d => match Nat.blt d N with | true => K ⟨R, some (d, .val undef), [], nx, 0⟩ | false => False
def zos (E : Env) (op : MOp) (s : St) (K : Ent -> Prop) : Prop :=
 match s with
 | ⟨t, o, nx⟩ => match op.g with
   | none => (op.m.rt E nx).vc (zaM t) (zax o) [] fun R v os k => zgk E.N op nx R v os k K
   | some (g, want) => match zav g t with
     | some .tt => (match want with | true => (op.m.rt E nx).vc (zaM t) (zax o) [.t g] fun R v os k => zgk E.N op nx R v os k K | false => zjV E.N op nx [.t g] K)
     | some .ff => (match want with | false => (op.m.rt E nx).vc (zaM t) (zax o) [.t g] fun R v os k => zgk E.N op nx R v os k K | true => zjV E.N op nx [.t g] K)
     | some (.val v) => (match v with | .tuple _ => zjV E.N op nx [.t g] K | _ => False)
     | _ => False
def St.put (s : St) (e : Ent) : St :=
 match e.t with
 | some p => ⟨p :: s.t, zeR s.o e.os, s.nx + e.k⟩
 | none => ⟨s.t, zeR s.o e.os, s.nx + e.k⟩
def zox (s : St) (e : Ent) (K : St -> Prop) : Prop :=
 match s, e with
 | ⟨t, o, nx⟩, ⟨_, w, os, _, k⟩ => zrl (zeR o os) fun o => zb5 (nx + k) fun nx => match w with
   | some p => K ⟨p :: t, o, nx⟩
   | none => K ⟨t, o, nx⟩
def zmJ (E : Env) : List MOp -> St -> List Ent -> (List Ent -> St -> Prop) -> Prop
 | [], s, L, K => K L s
 | o :: r, s, L, K => zos E o s fun e => zox s e fun s => zmJ E r s (L ++ [e]) K
theorem zrM (s : St) (e : Ent) (K : St -> Prop) : zox s e K = K (s.put e) := by
 obtain ⟨t, o, nx⟩ := s
 obtain ⟨R, w, os, nx', k⟩ := e
 simp only [zox, zni, zbf, St.put]
 cases w <;> rfl
structure zgD (C : Ctx) (ops : Array Oper) (o : Oper) (gt0 : GT) (go0 : GO) (e : Ent) : Prop where
 ok : ∀ {gt go β own S a w}, zah C gt go β own S a w -> (∀ n, .t n ∈ e.rd -> gt n = gt0 n) -> (∀ i, .o i ∈ e.rd -> go i = go0 i) -> (∀ i, e.nx <= i -> i < e.nx + e.k -> β i = none) →
  ∀ {next : Act -> World -> Prop} {Q : Exit -> Act -> World -> Prop}, (∀ β' own' S' a' w', (∀ i, ¬ (e.nx <= i /\ i < e.nx + e.k) -> β' i = β i) -> zah C (zbe gt e.t) (za0 go e.os) β' own' S' a' w' -> next a' w') →
  if Region.wanted o (yielded ops a.tmps) then o.wpIn (Wf C.rnd) 0 C.P a w next Q else next (a.put o.dst undef) w
theorem zmf {gt : GT} {d : Nat} {v v' : SV} {C : Ctx} {go β own S a w} (H : zah C (zbe gt (some (d, v))) go β own S a w) (hv : ∀ x, rel β w S v x -> rel β w S v' x) : zah C (zbe gt (some (d, v'))) go β own S a w := by
 simp only [zbe] at *
 have h1 := H.tm d v (by simp)
 have := zkS H (hv _ h1)
 rw [zio] at this
 exact this
theorem zrJ {C : Ctx} {ops : Array Oper} {o : Oper} {m : MOp} (hm : zdi C ops o m) {s : St} {K : Ent -> Prop} (h : zos C.toEnv m s K) :
 ∃ e, K e /\ e.nx = s.nx /\ zgD C ops o (zaM s.t) (zax s.o) e := by
  have exec : ∀ (R0 : List Loc), (∀ {gt go β own S a w}, zah C gt go β own S a w -> (∀ n, .t n ∈ R0 -> gt n = zaM s.t n) -> Region.wanted o (yielded ops a.tmps) = true) →
   ((m.m.rt C.toEnv s.nx).vc (zaM s.t) (zax s.o) R0 fun R v os k => zgk C.N m s.nx R v os k K) -> ∃ e, K e /\ e.nx = s.nx /\ zgD C ops o (zaM s.t) (zax s.o) e := by
    intro R0 hw h
    obtain ⟨R, v, os, k, hr, hc⟩ := RT.runs_of_vc _ _ _ h
    simp only [zgk, zfA, zbf, zeZ, hm.d] at hc
    have hd : zau C o.dst v := by
     intro t e
     rw [e] at hc
     cases v with
     | none => exact hc.elim
     | some v =>
       simp only at hc
       refine ⟨?_, rfl⟩
       cases hb : Nat.blt t C.N with
       | true => rw [Nat.blt_eq] at hb; exact hb
       | false => rw [hb] at hc; exact hc.elim
    have base : zgD C ops o (zaM s.t) (zax s.o) ⟨R.reverse ++ R0, zfz o.dst v, os, s.nx, k⟩ := by
     constructor
     intro gt go β own S a w H ht hgo hβ next Q hn
     rw [hw H (fun n hn => ht n (by simp [hn]))]
     have hr' := hr.local (gt' := gt) (go' := go) (fun n hn => ht n (by simp [hn])) (fun i hi => hgo i (by simp [hi]))
     exact hm.ok hr' hd β own S a w H hβ next Q fun β' own' S' x w' hβ' H' => hn β' own' S' _ _ hβ' H'
    cases hdst : o.dst with
    | none => rw [hdst] at hc base; exact ⟨_, hc, rfl, base⟩
    | some t =>
      obtain ⟨hlt, hv⟩ := hd t hdst
      rw [hdst] at hc base
      cases v with
      | none => simp at hv
      | some v =>
        simp only at hc
        have hb : Nat.blt t C.N = true := by rw [Nat.blt_eq]; exact hlt
        rw [hb] at hc
        simp only at hc
        have refine' : ∀ v', (∀ {β w S} x, rel β w S v x -> rel β w S v' x) -> zgD C ops o (zaM s.t) (zax s.o) ⟨R.reverse ++ R0, some (t, v'), os, s.nx, k⟩ := by
         intro v' hv'
         constructor
         intro gt go β own S a w H ht hgo hβ next Q hn
         exact base.ok H ht hgo hβ fun β' own' S' a' w' hβ' H' => hn β' own' S' a' w' hβ' (zmf H' (fun x => hv' x))
        cases hsp : m.sp with
        | false => rw [hsp] at hc; exact ⟨_, hc, rfl, base⟩
        | true =>
          rw [hsp] at hc
          simp only at hc
          split at hc
          . rename_i b
            cases b with
            | true => exact ⟨_, hc.1 rfl, rfl, refine' .tt (fun x hx => by simpa [rel] using hx)⟩
            | false => exact ⟨_, hc.2 rfl, rfl, refine' .ff (fun x hx => by simpa [rel] using hx)⟩
          . rename_i p
            by_cases hp : p
            . exact ⟨_, hc.1 hp, rfl, refine' .tt (fun x hx => by simp only [rel] at hx ⊢; obtain ⟨b, e, hb⟩ := hx; rw [e, hb.2 hp])⟩
            . exact ⟨_, hc.2 hp, rfl, refine' .ff (fun x hx => by
               simp only [rel] at hx ⊢; obtain ⟨b, e, hb⟩ := hx
               cases b with
               | true => exact absurd (hb.1 rfl) hp
               | false => exact e)⟩
          . exact ⟨_, hc, rfl, base⟩
  have skip : ∀ (R0 : List Loc), (∀ {gt go β own S a w}, zah C gt go β own S a w -> (∀ n, .t n ∈ R0 -> gt n = zaM s.t n) -> Region.wanted o (yielded ops a.tmps) = false) →
   zjV C.N m s.nx R0 K -> ∃ e, K e /\ e.nx = s.nx /\ zgD C ops o (zaM s.t) (zax s.o) e := by
    intro R0 hw h
    simp only [zjV, hm.d] at h
    cases hdst : o.dst with
    | none =>
      rw [hdst] at h
      refine ⟨_, h, rfl, ⟨?_⟩⟩
      intro gt go β own S a w H ht hgo hβ next Q hn
      rw [hw H ht, hdst]
      exact hn β own S _ _ (fun _ _ => rfl) H
    | some t =>
      rw [hdst] at h
      simp only at h
      split at h
      . rename_i hb
        have hlt : t < C.N := by rw [Nat.blt_eq] at hb; exact hb
        refine ⟨_, h, rfl, ⟨?_⟩⟩
        intro gt go β own S a w H ht hgo hβ next Q hn
        rw [hw H ht, hdst]
        exact hn β own S _ _ (fun _ _ => rfl) (H.pure (w' := w) rfl rfl rfl rfl (some t) undef (some (t, .val undef)) (fun d s' e => by cases e; exact ⟨rfl, hlt, by simp [rel]⟩) (fun e => by cases e))
      . exact h.elim
  simp only [zos] at h
  split at h
  . rename_i hg
    exact exec [] (fun H _ => (zdE H hm).1 hg) h
  . rename_i t want hg
    have wn : ∀ b, zav t s.t = some (if b then .tt else .ff) -> ∀ {gt go β own S a w}, zah C gt go β own S a w -> (∀ n, .t n ∈ [Loc.t t] -> gt n = zaM s.t n) -> Region.wanted o (yielded ops a.tmps) = (b == want) := by
     intro b hb gt go β own S a w H ht
     exact (zdE H hm).2 t want hg b (by rw [ht t (by simp)]; simpa [zaM] using hb)
    split at h
    . rename_i ht
      split at h
      . exact exec _ (fun H h => wn true ht H h) h
      . exact skip _ (fun H h => wn true ht H h) h
    . rename_i ht
      split at h
      . exact exec _ (fun H h => wn false ht H h) h
      . exact skip _ (fun H h => wn false ht H h) h
    . rename_i v ht
      split at h
      . rename_i xs
        exact skip _ (fun H h => zhZ H hm hg (by rw [h t (by simp)]; simpa [zaM] using ht)) h
      . exact h.elim
    . exact h.elim
def zbR (D : Nat -> Bool) (gt : GT) : List Ent -> Nat -> GT
 | [], _ => gt
 | e :: r, i => zbR D (if D i then zbe gt e.t else gt) r (i + 1)
def zbQ (D : Nat -> Bool) (go : GO) : List Ent -> Nat -> GO
 | [], _ => go
 | e :: r, i => zbQ D (if D i then za0 go e.os else go) r (i + 1)
theorem ziw {gt : GT} {t : Option (Nat × SV)} {n : Nat} (h : ∀ d v, t = some (d, v) -> d ≠ n) : zbe gt t n = gt n := by
 cases t with
 | none => rfl
 | some p => obtain ⟨d, v⟩ := p; exact zab _ _ (fun e => h d v rfl e.symm)
theorem zgb : ∀ {os : List (Nat × Option SO)} {go : GO} {n : Nat}, .o n ∉ zfj os -> za0 go os n = go n
 | [], _, _, _ => rfl
 | (i, o) :: os, go, n, h => by
   simp [zfj] at h
   simp only [za0]
   rw [zgb h.2, zab _ _ h.1]
theorem ziv : ∀ {os : List (Nat × Option SO)} {go go' : GO} {n : Nat}, go n = go' n -> za0 go os n = za0 go' os n
 | [], _, _, _, h => h
 | (i, o) :: os, go, go', n, h => by
   simp only [za0]
   refine ziv ?_
   by_cases e : n = i
   . subst e; simp
   . rw [zab _ _ e, zab _ _ e, h]
theorem zgW : ∀ {os : List (Nat × Option SO)} {go go' : GO} {n : Nat}, .o n ∈ zfj os -> za0 go os n = za0 go' os n
 | [], _, _, _, h => by simp [zfj] at h
 | (i, o) :: os, go, go', n, h => by
   simp only [za0]
   by_cases e : n = i
   . subst e; exact ziv (by simp)
   . simp [zfj, e] at h
     exact zgW h
theorem zjy {gt gt' : GT} {t : Option (Nat × SV)} {n : Nat} (h : ∃ v, t = some (n, v)) : zbe gt t n = zbe gt' t n := by
 obtain ⟨v, rfl⟩ := h
 simp [zbe]
def wrT (e : Ent) (n : Nat) : Prop := ∃ v, e.t = some (n, v)
def wrO (e : Ent) (n : Nat) : Prop := .o n ∈ zfj e.os
theorem zfh (n : Nat) : ∀ (es : List Ent) (i0 : Nat) (D D' : Nat -> Bool) (gt gt' : GT), gt n = gt' n -> (∀ j (h : j < es.length), wrT es[j] n -> D (i0 + j) = D' (i0 + j)) -> zbR D gt es i0 n = zbR D' gt' es i0 n
 | [], _, _, _, _, _, h, _ => h
 | e :: es, i0, D, D', gt, gt', h, hD => by
   simp only [zbR]
   refine zfh n es (i0 + 1) D D' _ _ ?_ (fun j hj hw => by
    have := hD (j + 1) (by simpa using hj) (by simpa using hw)
    rwa [show i0 + (j + 1) = i0 + 1 + j by omega] at this)
   by_cases hw : wrT e n
   . have := hD 0 (by simp) hw
     simp at this
     rw [this]
     by_cases hd : D' i0
     . simp only [hd, if_true]; exact zjy hw
     . simp only [hd]; exact h
   . have hno : ∀ gt : GT, zbe gt e.t n = gt n := fun gt => ziw (fun d v q e' => hw ⟨v, by rw [q, e']⟩)
     have h1 : ∀ (b : Bool) (gt : GT), (if b then zbe gt e.t else gt) n = gt n := fun b gt => by cases b <;> simp [hno]
     rw [h1, h1]; exact h
theorem zfg (n : Nat) : ∀ (es : List Ent) (i0 : Nat) (D D' : Nat -> Bool) (go go' : GO), go n = go' n -> (∀ j (h : j < es.length), wrO es[j] n -> D (i0 + j) = D' (i0 + j)) -> zbQ D go es i0 n = zbQ D' go' es i0 n
 | [], _, _, _, _, _, h, _ => h
 | e :: es, i0, D, D', go, go', h, hD => by
   simp only [zbQ]
   refine zfg n es (i0 + 1) D D' _ _ ?_ (fun j hj hw => by
    have := hD (j + 1) (by simpa using hj) (by simpa using hw)
    rwa [show i0 + (j + 1) = i0 + 1 + j by omega] at this)
   by_cases hw : wrO e n
   . have := hD 0 (by simp) hw
     simp at this
     rw [this]
     by_cases hd : D' i0
     . simp only [hd, if_true]; exact zgW hw
     . simp only [hd]; exact h
   . have h1 : ∀ (b : Bool) (go : GO), (if b then za0 go e.os else go) n = go n := fun b go => by cases b <;> simp [zgb hw]
     rw [h1, h1]; exact h
theorem zkR (n : Nat) : ∀ (es : List Ent) (i0 : Nat) (D : Nat -> Bool) (gt gt' : GT) (i : Nat) (h : i < es.length), D (i0 + i) = true -> wrT es[i] n →
 (∀ j (h : j < es.length), i < j -> wrT es[j] n -> D (i0 + j) = false) -> zbR D gt es i0 n = zbe gt' es[i].t n
  | [], _, _, _, _, i, h, _, _, _ => by simp at h
  | e :: es, i0, D, gt, gt', i, h, hD, hw, hl => by
    cases i with
    | zero =>
      simp only [zbR]
      simp at hD hw
      rw [hD]
      have : zbR D (if true = true then zbe gt e.t else gt) es (i0 + 1) n = zbR (fun _ => false) (zbe gt e.t) es (i0 + 1) n := by
       refine zfh n es (i0 + 1) _ _ _ _ (by simp) (fun j hj hw => ?_)
       have := hl (j + 1) (by simpa using hj) (by omega) (by simpa using hw)
       rwa [show i0 + (j + 1) = i0 + 1 + j by omega] at this
      rw [this]
      have none_ : ∀ (es : List Ent) (i0 : Nat) (gt : GT), zbR (fun _ => false) gt es i0 = gt := by
       intro es
       induction es with
       | nil => intro i0 gt; rfl
       | cons e es ih => intro i0 gt; simp only [zbR]; exact ih _ _
      rw [none_]
      exact zjy hw
    | succ i =>
      simp only [zbR]
      have := zkR n es (i0 + 1) D (if D i0 then zbe gt e.t else gt) gt' i (by simpa using h) (by rw [show i0 + 1 + i = i0 + (i + 1) by omega]; exact hD) (by simpa using hw)
       (fun j hj hij hw => by
        have := hl (j + 1) (by simpa using hj) (by omega) (by simpa using hw)
        rwa [show i0 + (j + 1) = i0 + 1 + j by omega] at this)
      simpa using this
theorem zkP (n : Nat) : ∀ (es : List Ent) (i0 : Nat) (D : Nat -> Bool) (go go' : GO) (i : Nat) (h : i < es.length), D (i0 + i) = true -> wrO es[i] n →
 (∀ j (h : j < es.length), i < j -> wrO es[j] n -> D (i0 + j) = false) -> zbQ D go es i0 n = za0 go' es[i].os n
  | [], _, _, _, _, i, h, _, _, _ => by simp at h
  | e :: es, i0, D, go, go', i, h, hD, hw, hl => by
    cases i with
    | zero =>
      simp only [zbQ]
      simp at hD hw
      rw [hD]
      have : zbQ D (if true = true then za0 go e.os else go) es (i0 + 1) n = zbQ (fun _ => false) (za0 go e.os) es (i0 + 1) n := by
       refine zfg n es (i0 + 1) _ _ _ _ (by simp) (fun j hj hw => ?_)
       have := hl (j + 1) (by simpa using hj) (by omega) (by simpa using hw)
       rwa [show i0 + (j + 1) = i0 + 1 + j by omega] at this
      rw [this]
      have none_ : ∀ (es : List Ent) (i0 : Nat) (go : GO), zbQ (fun _ => false) go es i0 = go := by
       intro es
       induction es with
       | nil => intro i0 go; rfl
       | cons e es ih => intro i0 go; simp only [zbQ]; exact ih _ _
      rw [none_]
      exact zgW hw
    | succ i =>
      simp only [zbQ]
      have := zkP n es (i0 + 1) D (if D i0 then za0 go e.os else go) go' i (by simpa using h) (by rw [show i0 + 1 + i = i0 + (i + 1) by omega]; exact hD) (by simpa using hw)
       (fun j hj hij hw => by
        have := hl (j + 1) (by simpa using hj) (by omega) (by simpa using hw)
        rwa [show i0 + (j + 1) = i0 + 1 + j by omega] at this)
      simpa using this
def zhj (pre : List (List Nat)) (D : Nat -> Bool) : Prop := ∀ j p, p ∈ pre.getD j [] -> D j = true -> D p = true
theorem zhz (acc : List Nat) (i : Nat) : ∀ (p : List Nat) (m : Nat), (p.foldl (fun m q => m ||| 2 ^ q ||| (acc.getD q 0)) m).testBit i = true -> m.testBit i = true \/ ∃ q ∈ p, q = i \/ (acc.getD q 0).testBit i = true
 | [], m, h => .inl h
 | q :: p, m, h => by
   rw [List.foldl_cons] at h
   rcases zhz acc i p _ h with h | ⟨q', hq, h⟩
   . rw [Nat.testBit_or, Nat.testBit_or] at h
     simp only [Bool.or_eq_true] at h
     rcases h with (h | h) | h
     . exact .inl h
     . right
       refine ⟨q, by simp, .inl ?_⟩
       rw [Nat.testBit_two_pow] at h
       simpa using h
     . exact .inr ⟨q, by simp, .inr h⟩
   . exact .inr ⟨q', by simp [hq], h⟩
theorem zjj (pre0 : List (List Nat)) : ∀ (pre : List (List Nat)) (acc : List Nat), (∀ t, pre.getD t [] = pre0.getD (acc.length + t) []) →
 (∀ D, zhj pre0 D -> ∀ j, j < acc.length -> D j = true -> ∀ i, (acc.getD j 0).testBit i = true -> D i = true) →
 ∀ D, zhj pre0 D -> ∀ j, D j = true -> ∀ i, ((zgj acc pre).getD j 0).testBit i = true -> D i = true
  | [], acc, _, h, D, hD, j, hj, i, hi => by
    simp only [zgj] at hi
    by_cases hlt : j < acc.length
    . exact h D hD j hlt hj i hi
    . rw [List.getD_eq_getElem?_getD, List.getElem?_eq_none (by omega)] at hi
      simp at hi
  | p :: r, acc, hp, h, D, hD, j, hj, i, hi => by
    simp only [zgj] at hi
    refine zjj pre0 r _ (fun t => ?_) (fun D hD j hlt hj i hi => ?_) D hD j hj i hi
    . have := hp (t + 1)
      simp only [List.getD_cons_succ] at this
      rw [this]
      congr 1
      simp; omega
    . by_cases hlt2 : j < acc.length
      . rw [List.getD_eq_getElem?_getD, List.getElem?_append_left hlt2, <- List.getD_eq_getElem?_getD] at hi
        exact h D hD j hlt2 hj i hi
      . simp at hlt
        have hj' : j = acc.length := by omega
        subst hj'
        rw [List.getD_eq_getElem?_getD, List.getElem?_append_right (by omega)] at hi
        simp at hi
        have h0 := hp 0
        simp at h0
        rcases zhz acc i p 0 (by simpa using hi) with h1 | ⟨q, hq, h1⟩
        . simp at h1
        . have hDq : D q = true := hD acc.length q (by simp only [List.getD_eq_getElem?_getD]; rw [<- h0]; exact hq) hj
          rcases h1 with rfl | h1
          . exact hDq
          . by_cases hlt3 : q < acc.length
            . exact h D hD q hlt3 hDq i (by simpa using h1)
            . rw [List.getD_eq_getElem?_getD, List.getElem?_eq_none (by omega)] at h1
              simp at h1
theorem znb {pre : List (List Nat)} {D : Nat -> Bool} (hD : zhj pre D) {j : Nat} (hj : D j = true) {i : Nat} (hi : ((zq1 pre).getD j 0).testBit i = true) : D i = true :=
 zjj pre pre [] (fun t => by simp) (fun _ _ j h => by simp at h) D hD j hj i hi
theorem zkX {a b : Loc} : zoo a b = true ↔ a = b := by
 cases a <;> cases b <;> simp [zoo]
theorem zhA {l : Loc} : ∀ {r : List Loc}, zjD l r = true ↔ l ∈ r
 | [] => by simp [zjD]
 | m :: r => by
   simp only [zjD, List.mem_cons]
   split
   . rename_i h; simp [zkX.1 h]
   . rename_i h
     rw [zhA]
     constructor
     . exact .inr
     . rintro (e | e)
       . rw [e, zkX.2 rfl] at h; cases h
       . exact e
theorem ziy : ∀ {l m : List Loc}, zee l m = true ↔ ∃ x, x ∈ l /\ x ∈ m
 | [], m => by simp [zee]
 | x :: l, m => by
   simp only [zee]
   split
   . rename_i h; exact ⟨fun _ => ⟨x, by simp, zhA.1 h⟩, fun _ => rfl⟩
   . rename_i h
     rw [ziy]
     constructor
     . rintro ⟨y, h1, h2⟩; exact ⟨y, by simp [h1], h2⟩
     . rintro ⟨y, h1, h2⟩
       rcases List.mem_cons.1 h1 with rfl | h1
       . rw [zhA.2 h2] at h; cases h
       . exact ⟨y, h1, h2⟩
theorem zkD {e f : Ent} : e.apart f = true ↔ (∀ x, x ∈ e.wr -> x ∉ f.wr) /\ (∀ x, x ∈ e.wr -> x ∉ f.rd) /\ (∀ x, x ∈ f.wr -> x ∉ e.rd) := by
 simp only [Ent.apart, Bool.not_eq_true', Bool.or_eq_false_iff]
 have key : ∀ l m : List Loc, zee l m = false ↔ ∀ x, x ∈ l -> x ∉ m := fun l m => by
  rw [<- Bool.not_eq_true, ziy]
  simp
 rw [key, key, key]
 exact ⟨fun ⟨⟨a, b⟩, c⟩ => ⟨a, b, c⟩, fun ⟨a, b, c⟩ => ⟨⟨a, b⟩, c⟩⟩
theorem zis {m : Nat} {e : Ent} : ∀ {l : List Ent} {i0 : Nat}, zgM m e l i0 = true -> ∀ i (h : i < l.length), m.testBit (i0 + i) = true \/ l[i].apart e = true
 | [], _, _, i, h => by simp at h
 | f :: l, i0, h, i, hi => by
   simp only [zgM] at h
   split at h
   . rename_i hb
     cases i with
     | zero => simpa using hb
     | succ i =>
       have := zis h i (by simpa using hi)
       simpa [show i0 + 1 + i = i0 + (i + 1) by omega] using this
   . cases h
theorem zir {pre : List Nat} : ∀ {es done : List Ent} {i0 : Nat}, i0 = done.length -> zgL pre done es i0 = true →
 ∀ i j (hi : i < (done ++ es).length) (hj : j < (done ++ es).length), i < j -> done.length <= j -> (pre.getD j 0).testBit i = true \/ (done ++ es)[i].apart (done ++ es)[j] = true
  | [], done, i0, _, _, i, j, hi, hj, hij, hd => by simp at hj; omega
  | e :: es, done, i0, h0, h, i, j, hi, hj, hij, hd => by
    simp only [zgL] at h
    split at h
    . rename_i hb
      by_cases hjd : j = done.length
      . subst hjd
        have := zis hb i hij
        rw [h0] at this
        simp only [Nat.zero_add] at this
        rw [List.getElem_append_left hij, List.getElem_append_right (by omega)]
        simpa using this
      . have := zir (es := es) (done := done ++ [e]) (i0 := i0 + 1) (by simp [h0]) h i j (by simpa using hi) (by simpa using hj) hij (by simp; omega)
        simpa using this
    . cases h
theorem zk2 {pre : List (List Nat)} {es : List Ent} (h : zbH pre es = true) {i j : Nat} (hi : i < es.length) (hj : j < es.length) (hij : i < j) :
 ((zq1 pre).getD j 0).testBit i = true \/ es[i].apart es[j] = true := by
  have := zir (done := []) rfl h i j (by simpa using hi) (by simpa using hj) hij (by simp)
  simpa using this
inductive ziF (C : Ctx) (ops : Array Oper) : List Nat -> List MOp -> St -> List Ent -> St -> Prop
 | nil {s} : ziF C ops [] [] s [] s
 | cons {i l m ms s o e es s'} (ho : ops[i]? = some o) (hm : zdi C ops o m) (hnx : e.nx = s.nx) (he : zgD C ops o (zaM s.t) (zax s.o) e) (h : ziF C ops l ms (s.put e) es s') : ziF C ops (i :: l) (m :: ms) s (e :: es) s'
theorem znC {C : Ctx} {ops : Array Oper} : ∀ (l : List Nat) (ms : List MOp) {s : St} {L0 : List Ent} {K : List Ent -> St -> Prop}, l.length = ms.length →
 (∀ t (h : t < l.length) (h' : t < ms.length), ∃ o, ops[l[t]]? = some o /\ zdi C ops o ms[t]) -> zmJ C.toEnv ms s L0 K -> ∃ es s', ziF C ops l ms s es s' /\ K (L0 ++ es) s'
  | [], ms, s, L0, K, hl, _, h => by
    have : ms = [] := by simpa using hl.symm
    subst this
    simp only [zmJ] at h
    exact ⟨[], s, .nil, by simpa using h⟩
  | i :: l, ms, s, L0, K, hl, hp, h => by
    cases ms with
    | nil => simp at hl
    | cons m ms =>
      obtain ⟨o, ho, hm⟩ := hp 0 (by simp) (by simp)
      simp at ho hm
      simp only [zmJ] at h
      obtain ⟨e, h1, h2, h3⟩ := zrJ hm h
      rw [zrM] at h1
      obtain ⟨es, s', h4, h5⟩ := znC l ms (by simpa using hl) (fun t ht ht' => hp (t + 1) (Nat.succ_lt_succ ht) (Nat.succ_lt_succ ht')) h1
      exact ⟨e :: es, s', .cons ho hm h2 h3 h4, by simpa using h5⟩
theorem zph {s : St} {e : Ent} : zaM (s.put e).t = zbe (zaM s.t) e.t := by
 unfold St.put
 cases h : e.t with
 | none => rfl
 | some p => obtain ⟨d, v⟩ := p; exact zfW d v s.t
theorem zpg {s : St} {e : Ent} : zax (s.put e).o = za0 (zax s.o) e.os := by
 unfold St.put
 cases h : e.t <;> exact zfD _ _
theorem zmn {s : St} {e : Ent} : (s.put e).nx = s.nx + e.k := by unfold St.put; split <;> rfl
theorem ziF.facts {C : Ctx} {ops : Array Oper} {l ms s es s'} (h : ziF C ops l ms s es s') :
 es.length = l.length /\ (∀ D : Nat -> Bool, ∀ i0, (∀ t, t < es.length -> D (i0 + t) = true) -> zbR D (zaM s.t) es i0 = zaM s'.t /\ zbQ D (zax s.o) es i0 = zax s'.o) /\ s.nx <= s'.nx ∧
 (∀ i (hi : i < es.length) (hl : i < l.length), s.nx <= es[i].nx /\ es[i].nx + es[i].k <= s'.nx /\ (∀ j (hj : j < es.length), i < j -> es[i].nx + es[i].k <= es[j].nx) ∧
  ∃ o, ops[l[i]]? = some o /\ ∀ D : Nat -> Bool, ∀ i0, (∀ t, t < es.length -> D (i0 + t) = decide (t < i)) -> zgD C ops o (zbR D (zaM s.t) es i0) (zbQ D (zax s.o) es i0) es[i]) := by
  induction h with
  | nil => exact ⟨rfl, fun D i0 _ => ⟨rfl, rfl⟩, Nat.le_refl _, fun i hi => by simp at hi⟩
  | @cons i l m ms s o e es s' ho hm hnx he h ih =>
    obtain ⟨h1, h2, h2', h3⟩ := ih
    rw [zmn] at h2'
    refine ⟨by simp [h1], fun D i0 hD => ?_, by omega, fun t ht htl => ?_⟩
    . have h0 := hD 0 (by simp)
      simp at h0
      simp only [zbR, zbQ, h0, if_true]
      have := h2 D (i0 + 1) (fun t ht => by
       have := hD (t + 1) (by simpa using ht)
       rwa [show i0 + (t + 1) = i0 + 1 + t by omega] at this)
      rw [zph, zpg] at this
      exact this
    . cases t with
      | zero =>
        refine ⟨by simp [hnx], by simp [hnx]; omega, fun j hj hj0 => ?_, o, by simpa using ho, fun D i0 hD => ?_⟩
        . cases j with
          | zero => omega
          | succ j =>
            simp at hj ⊢
            have := (h3 j hj (by omega)).1
            rw [zmn] at this
            omega
        . have hno : ∀ (es : List Ent) (i0 : Nat) (gt : GT), (∀ t, t < es.length -> D (i0 + t) = false) -> zbR D gt es i0 = gt := by
           intro es
           induction es with
           | nil => intro i0 gt _; rfl
           | cons e es ih =>
             intro i0 gt h
             simp only [zbR]
             have h0 := h 0 (by simp)
             simp at h0
             rw [h0]
             exact ih _ _ (fun t ht => by
              have := h (t + 1) (by simpa using ht)
              rwa [show i0 + (t + 1) = i0 + 1 + t by omega] at this)
          have hno' : ∀ (es : List Ent) (i0 : Nat) (go : GO), (∀ t, t < es.length -> D (i0 + t) = false) -> zbQ D go es i0 = go := by
           intro es
           induction es with
           | nil => intro i0 go _; rfl
           | cons e es ih =>
             intro i0 go h
             simp only [zbQ]
             have h0 := h 0 (by simp)
             simp at h0
             rw [h0]
             exact ih _ _ (fun t ht => by
              have := h (t + 1) (by simpa using ht)
              rwa [show i0 + (t + 1) = i0 + 1 + t by omega] at this)
          rw [hno _ _ _ (fun t ht => by simpa using hD t ht), hno' _ _ _ (fun t ht => by simpa using hD t ht)]
          simpa using he
      | succ t =>
        simp at ht htl
        obtain ⟨q1, q2, q3, o', q4, q5⟩ := h3 t ht htl
        rw [zmn] at q1
        refine ⟨by simp; omega, by simpa using q2, fun j hj htj => ?_, o', by simpa using q4, fun D i0 hD => ?_⟩
        . cases j with
          | zero => omega
          | succ j => simp at hj ⊢; exact q3 j hj (by omega)
        . have h0 := hD 0 (by simp)
          simp at h0
          simp only [zbR, zbQ, h0, if_true]
          rw [<- zph, <- zpg]
          exact q5 D (i0 + 1) (fun t' ht' => by
           have := hD (t' + 1) (by simpa using ht')
           rw [show i0 + (t' + 1) = i0 + 1 + t' by omega] at this
           rw [this]; simp)
theorem zqM {C : Ctx} {ops : Array Oper} {Q : Exit -> Act -> World -> Prop} {pre : List (List Nat)} {ms : List MOp} {s : St} {es : List Ent} {s' : St} (hr : ziF C ops (List.range ops.size) ms s es s')
 (hn : zbH pre es = true) (hpre : ∀ j o, ops[j]? = some o -> ∀ p, p ∈ pre.getD j [] ↔ ∃ e ∈ o.after, Region.binds .any e = true /\ e.on = p) (hlt : ∀ j p, p ∈ pre.getD j [] -> p < j)
 (hq : ∀ β own S a w, zaA C s' β own S a w -> Q .normal a w) {β00 : Nat -> Option zay} (hm0 : C.m0 <= s.nx) (hb0 : ∀ i B, i < C.m0 -> β00 i = some B -> C.β0 i = some B) :
 ∀ (fuel : Nat) (listed : Array Bool) (β : Nat -> Option zay) (own : Nat -> Nat -> Prop) (S : Nat -> Prop) (a : Act) (w : World), listed.size = ops.size -> zhj pre (fun i => listed.getD i false) →
  ((List.range ops.size).filter (fun i => !listed.getD i true)).length <= fuel →
  zah C (zbR (fun i => listed.getD i false) (zaM s.t) es 0) (zbQ (fun i => listed.getD i false) (zax s.o) es 0) β own S a w →
  (∀ id, s.nx <= id -> (∀ i (h : i < es.length), listed.getD i false = true -> ¬ (es[i].nx <= id /\ id < es[i].nx + es[i].k)) -> β id = none) -> (∀ id, id < s.nx -> β id = β00 id) →
  wpAnyIn (Wf C.rnd) 0 C.P .any ops Q fuel listed a w := by
  obtain ⟨hlen, hall, hnx, hfacts⟩ := hr.facts
  simp at hlen
  have done : ∀ (listed : Array Bool), listed.size = ops.size -> Region.ready .any ops listed = [] -> ∀ i, i < ops.size -> listed.getD i false = true := by
   intro listed hsz hrd i
   induction i using Nat.strongRecOn with
   | _ i ih =>
     intro hi
     cases e : listed.getD i false with
     | true => rfl
     | false =>
       exfalso
       have hmem : i ∈ Region.ready .any ops listed := by
        unfold Region.ready
        rw [List.mem_filter]
        refine ⟨by simpa using hi, ?_⟩
        have ho : ops[i]? = some ops[i] := by simp [hi]
        have hg : listed.getD i true = false := by
         simp only [Array.getD_eq_getD_getElem?] at e ⊢
         have : i < listed.size := by omega
         simp [this] at e ⊢; exact e
        rw [hg, ho]
        simp only [Option.map_some, Option.getD_some, Bool.not_false, Bool.true_and]
        rw [Array.all_eq_true_iff_forall_mem]
        intro ed hed
        by_cases hb : Region.binds .any ed = true
        . have hp := (hpre i _ ho ed.on).2 ⟨ed, hed, hb, rfl⟩
          rw [ih _ (hlt i _ hp) (by have := hlt i _ hp; omega)]
          simp
        . simp [hb]
       rw [hrd] at hmem; cases hmem
  have fin : ∀ (listed : Array Bool) β own S a w, (∀ i, i < ops.size -> listed.getD i false = true) -> zah C (zbR (fun i => listed.getD i false) (zaM s.t) es 0) (zbQ (fun i => listed.getD i false) (zax s.o) es 0) β own S a w →
   (∀ id, s.nx <= id -> (∀ i (h : i < es.length), listed.getD i false = true -> ¬ (es[i].nx <= id /\ id < es[i].nx + es[i].k)) -> β id = none) -> (∀ id, id < s.nx -> β id = β00 id) -> Q .normal a w := by
    intro listed β own S a w hd H hβ hβ0
    obtain ⟨e1, e2⟩ := hall (fun i => listed.getD i false) 0 (fun t ht => by simpa using hd t (by omega))
    rw [e1, e2] at H
    refine hq β own S a w ⟨H, fun id hid => hβ id (by omega) (fun i hi _ hr => ?_), by omega, fun i B hi e => hb0 i B hi (by rw [<- hβ0 i (by omega)]; exact e)⟩
    have := (hfacts i hi (by simp; omega)).2.1
    omega
  intro fuel
  induction fuel with
  | zero =>
    intro listed β own S a w hsz hcl hf H hβ hβ0
    have hd : ∀ i, i < ops.size -> listed.getD i false = true := fun i hi => by
     have he : (List.range ops.size).filter (fun i => !listed.getD i true) = [] := List.length_eq_zero_iff.1 (by omega)
     rw [List.filter_eq_nil_iff] at he
     have := he i (by simpa using hi)
     have hi' : i < listed.size := by omega
     simp only [Array.getD_eq_getD_getElem?] at this ⊢
     simp [hi'] at this ⊢
     exact this
    refine ⟨?_, fin listed β own S a w hd H hβ hβ0⟩
    unfold Region.ready
    rw [List.filter_eq_nil_iff]
    intro i hi
    have := hd i (by simpa using hi)
    have hi' : i < listed.size := by simp at hi; omega
    simp only [Array.getD_eq_getD_getElem?] at this ⊢
    simp [hi'] at this ⊢
    rw [this]; simp
  | succ fuel ih =>
    intro listed β own S a w hsz hcl hf H hβ hβ0
    refine ⟨fun hrd => fin listed β own S a w (done listed hsz hrd) H hβ hβ0, fun i hi => ?_⟩
    unfold Region.ready at hi
    rw [List.mem_filter] at hi
    obtain ⟨hi1, hi2⟩ := hi
    simp at hi1
    have hil : i < es.length := by omega
    obtain ⟨o, ho⟩ : ∃ o, ops[i]? = some o := ⟨ops[i], by simp [hi1]⟩
    rw [ho] at hi2
    simp only [Option.map_some, Option.getD_some, Bool.and_eq_true, Bool.not_eq_true'] at hi2
    obtain ⟨hi3, hi4⟩ := hi2
    have hDi : listed.getD i false = false := by
     have : i < listed.size := by omega
     simp only [Array.getD_eq_getD_getElem?] at hi3 ⊢
     simp [this] at hi3 ⊢; exact hi3
    have hpi : ∀ p, p ∈ pre.getD i [] -> listed.getD p false = true := fun p hp => by
     obtain ⟨ed, hed, hb, rfl⟩ := (hpre i o ho p).1 hp
     have := (Array.all_eq_true_iff_forall_mem.1 hi4) ed hed
     rw [hb] at this
     simpa using this
    let D : Nat -> Bool := fun i => listed.getD i false
    let D' : Nat -> Bool := fun j => (listed.setIfInBounds i true).getD j false
    have hD' : ∀ j, D' j = (if j = i then true else D j) := fun j => by
     simp only [D', D, Array.getD_eq_getD_getElem?, Array.getElem?_setIfInBounds]
     by_cases e : i = j
     . subst e; simp [show i < listed.size by omega]
     . rw [if_neg e, if_neg (fun q => e q.symm)]
    have hcl' : zhj pre D' := fun j p hp hj => by
     rw [hD'] at hj ⊢
     by_cases e : j = i
     . subst e
       split
       . rfl
       . exact hpi p hp
     . rw [if_neg e] at hj
       split
       . rfl
       . exact hcl j p hp hj
    have clash1 : ∀ j (hj : j < es.length), j < i -> es[j].apart es[i] = false -> D j = true := fun j hj hji hc => by
     rcases zk2 hn hj hil hji with h | h
     . have := znb hcl' (j := i) (by rw [hD']; simp) h
       rw [hD', if_neg (by omega)] at this
       exact this
     . rw [hc] at h; cases h
    have clash2 : ∀ j (hj : j < es.length), i < j -> es[i].apart es[j] = false -> D j = false := fun j hj hji hc => by
     rcases zk2 hn hil hj hji with h | h
     . cases e : D j with
       | false => rfl
       | true =>
         have := znb hcl e h
         rw [hDi] at this; cases this
     . rw [hc] at h; cases h
    obtain ⟨q1, q2, q3, o', q4, q5⟩ := hfacts i hil (by simpa using hi1)
    have q4' : o' = o := by simp at q4; rw [q4] at ho; simpa using ho
    subst q4'
    have hEnt := q5 (fun t => decide (t < i)) 0 (fun t ht => by simp)
    have wrT_loc : ∀ j (hj : j < es.length) n, wrT es[j] n -> Loc.t n ∈ es[j].wr := fun j hj n ⟨v, hv⟩ => by simp [Ent.wr, hv]
    have wrO_loc : ∀ j (hj : j < es.length) n, wrO es[j] n -> Loc.o n ∈ es[j].wr := fun j hj n h => by
     unfold Ent.wr
     cases es[j].t with
     | none => exact h
     | some p => exact List.mem_cons_of_mem _ h
    have nap : ∀ {e f : Ent} {x : Loc}, x ∈ e.wr -> (x ∈ f.wr \/ x ∈ f.rd) -> e.apart f = false := fun {e f x} h1 h2 => by
     cases h : e.apart f with
     | false => rfl
     | true =>
       obtain ⟨a1, a2, _⟩ := zkD.1 h
       rcases h2 with h2 | h2
       . exact absurd h2 (a1 x h1)
       . exact absurd h2 (a2 x h1)
    have nap' : ∀ {e f : Ent} {x : Loc}, x ∈ f.wr -> (x ∈ e.wr \/ x ∈ e.rd) -> e.apart f = false := fun {e f x} h1 h2 => by
     cases h : e.apart f with
     | false => rfl
     | true =>
       obtain ⟨a1, _, a3⟩ := zkD.1 h
       rcases h2 with h2 | h2
       . exact absurd h1 (a1 x h2)
       . exact absurd h2 (a3 x h1)
    have key : ∀ j (hj : j < es.length) (x : Loc), x ∈ es[j].wr -> x ∈ es[i].rd -> j ≠ i -> D j = decide (j < i) := fun j hj x h1 h2 hne => by
     by_cases c : j < i
     . rw [clash1 j hj c (nap h1 (.inr h2))]; simp [c]
     . rw [clash2 j hj (by omega) (nap' h1 (.inr h2))]; simp [c]
    have agt : ∀ n, Loc.t n ∈ es[i].rd -> zbR D (zaM s.t) es 0 n = zbR (fun t => decide (t < i)) (zaM s.t) es 0 n := fun n hn' =>
     zfh n es 0 _ _ _ _ rfl (fun j hj hw => by
      simp only [Nat.zero_add]
      by_cases e : j = i
      . subst e; rw [show D j = false from hDi]; simp
      . exact key j hj _ (wrT_loc j hj n hw) hn' e)
    have ago : ∀ n, Loc.o n ∈ es[i].rd -> zbQ D (zax s.o) es 0 n = zbQ (fun t => decide (t < i)) (zax s.o) es 0 n := fun n hn' =>
     zfg n es 0 _ _ _ _ rfl (fun j hj hw => by
      simp only [Nat.zero_add]
      by_cases e : j = i
      . subst e; rw [show D j = false from hDi]; simp
      . exact key j hj _ (wrO_loc j hj n hw) hn' e)
    have hDi' : D' i = true := by rw [hD']; simp
    have hDj' : ∀ j, j ≠ i -> D' j = D j := fun j h => by rw [hD']; exact if_neg h
    have nextt : zbR D' (zaM s.t) es 0 = zbe (zbR D (zaM s.t) es 0) es[i].t := by
     funext n
     by_cases hw : wrT es[i] n
     . rw [zkR n es 0 D' (zaM s.t) (zbR D (zaM s.t) es 0) i hil (by rw [Nat.zero_add]; exact hDi') hw (fun j hj hij hw' => by
        refine (congrArg D' (Nat.zero_add j)).trans ((hDj' j (by omega)).trans ?_)
        exact clash2 j hj hij (nap (wrT_loc i hil n hw) (.inl (wrT_loc j hj n hw'))))]
     . rw [ziw (fun d v q e' => hw ⟨v, by rw [q, e']⟩)]
       refine zfh n es 0 _ _ _ _ rfl (fun j hj hw' => ?_)
       refine (congrArg D' (Nat.zero_add j)).trans (Eq.trans ?_ (congrArg D (Nat.zero_add j)).symm)
       exact hDj' j (fun e => by subst e; exact hw hw')
    have nexto : zbQ D' (zax s.o) es 0 = za0 (zbQ D (zax s.o) es 0) es[i].os := by
     funext n
     by_cases hw : wrO es[i] n
     . rw [zkP n es 0 D' (zax s.o) (zbQ D (zax s.o) es 0) i hil (by rw [Nat.zero_add]; exact hDi') hw (fun j hj hij hw' => by
        refine (congrArg D' (Nat.zero_add j)).trans ((hDj' j (by omega)).trans ?_)
        exact clash2 j hj hij (nap (wrO_loc i hil n hw) (.inl (wrO_loc j hj n hw'))))]
     . rw [zgb hw]
       refine zfg n es 0 _ _ _ _ rfl (fun j hj hw' => ?_)
       refine (congrArg D' (Nat.zero_add j)).trans (Eq.trans ?_ (congrArg D (Nat.zero_add j)).symm)
       exact hDj' j (fun e => by subst e; exact hw hw')
    have hfresh : ∀ id, es[i].nx <= id -> id < es[i].nx + es[i].k -> β id = none := fun id h1 h2 => hβ id (by omega) (fun j hj hDj hr => by
     by_cases e : j = i
     . subst e; rw [hDi] at hDj; cases hDj
     . by_cases c : j < i
       . have := (hfacts j hj (by simp; omega)).2.2.1 i hil c
         omega
       . have := q3 j hj (by omega)
         omega)
    have step := hEnt.ok (gt := zbR D (zaM s.t) es 0) (go := zbQ D (zax s.o) es 0) H agt ago hfresh (next := wpAnyIn (Wf C.rnd) 0 C.P .any ops Q fuel (listed.setIfInBounds i true)) (Q := Q)
     (fun β' own' S' a' w' hβ' H' => by
      refine ih _ β' own' S' a' w' (by simpa using hsz) hcl' ?_ (by rw [<- nextt, <- nexto] at H'; exact H') (fun id hid hr => ?_) (fun id hid => by rw [hβ' id (by omega)]; exact hβ0 id hid)
      . -- one less is open
        have : (List.range ops.size).filter (fun j => !(listed.setIfInBounds i true).getD j true) = ((List.range ops.size).filter (fun i => !listed.getD i true)).filter (fun j => decide (j ≠ i)) := by
         rw [List.filter_filter]
         apply List.filter_congr
         intro j hj
         simp at hj
         have hjl : j < listed.size := by omega
         simp only [Array.getD_eq_getD_getElem?, Array.getElem?_setIfInBounds]
         by_cases e : i = j
         . subst e; simp [hjl]
         . simp [e, hjl, Ne.symm e, fun q : j = i => e q.symm]
        rw [this]
        have hmem : i ∈ (List.range ops.size).filter (fun i => !listed.getD i true) := by
         rw [List.mem_filter]; exact ⟨by simpa using hi1, by simp [hi3]⟩
        have := (List.length_filter_lt_length_iff_exists (p := fun j => decide (j ≠ i))).2 ⟨i, hmem, by simp⟩
        omega
      . have hr2 : ∀ j (hj : j < es.length), D j = true -> ¬ (es[j].nx <= id /\ id < es[j].nx + es[j].k) := fun j hj hDj => hr j hj (by
         show D' j = true
         rw [hD']; split <;> simp_all)
        have hri : ¬ (es[i].nx <= id /\ id < es[i].nx + es[i].k) := hr i hil (by show D' i = true; rw [hD']; simp)
        rw [hβ' id hri]
        exact hβ id hid hr2)
    unfold wpOpIn
    rw [ho]
    simp only
    split
    . rename_i hw; rw [if_pos hw] at step; exact step
    . rename_i hw; rw [if_neg hw] at step; exact ⟨fun _ _ => trivial, step⟩
end Go.Sx
namespace Go.Sx
open Go
theorem zec (a b : ByteArray) : (a == b) = true ↔ a = b := by
 rw [beq_toListBytes, beq_iff_eq, ByteArray.toList_eq, ByteArray.toList_eq]
 obtain ⟨⟨x⟩⟩ := a
 obtain ⟨⟨y⟩⟩ := b
 simp
def kV : SK -> Value -> Prop
 | .int k, v => ∃ n, v = .int k n
 | .bool, v => ∃ b, v = .bool b
 | .str, v => ∃ s, v = .string s
def kVs : List SK -> List Value -> Prop
 | [], vs => vs = []
 | k :: ks, vs => ∃ v r, vs = v :: r /\ kV k v /\ kVs ks r
theorem zdt : ∀ {k1 k2 : List SK} {vs : List Value}, kVs (k1 ++ k2) vs -> kVs k1 (vs.take k1.length) /\ kVs k2 (vs.drop k1.length)
 | [], k2, vs, h => by simpa [kVs] using h
 | k :: k1, k2, vs, h => by
   obtain ⟨v, r, rfl, h1, h2⟩ := h
   obtain ⟨h3, h4⟩ := zdt h2
   exact ⟨⟨v, _, by simp, h1, h3⟩, by simpa using h4⟩
def zbb (P : Program) (t : TypeId) : Bool :=
 match P.underlying t with
 | some (.struct _) => true
 | some (.array _ _) => true
 | _ => false
def zbV (P : Program) (t : TypeId) (xs : List Value) (a : Value) : Prop :=
 match zbb P t with
 | true => a = .agg xs.toArray
 | false => xs = [a]
def zfF (P : Program) (rec : TypeId -> Option (List SK)) : List Field -> Nat -> Option (List SK)
 | [], _ => some []
 | f :: fs, off => if f.name ≠ "_" /\ f.offset = off then
  match rec f.type with
  | some ks => if P.cellsOf f.type = ks.length /\ (P.info? f.type).isSome = true then
   match zfF P rec fs (off + ks.length) with | some r => some (ks ++ r) | none => none
    else none
  | none => none
   else none
def zhS (ks : List SK) : Nat -> List SK
 | 0 => []
 | n + 1 => ks ++ zhS ks n
def za5 (P : Program) : Nat -> TypeId -> Option (List SK)
 | 0, _ => none
 | d + 1, t => match P.underlying t with
   | some .bool => some [.bool]
   | some (.int k) => some [.int k]
   | some .string => some [.str]
   | some (.struct fs) => if P.stoodInHeld t = true then none else zfF P (za5 P d) fs.toList 0
   | some (.array n e) => match za5 P d e with
     | some ks => if P.cellsOf e = ks.length /\ (P.info? e).isSome = true then some (zhS ks n) else none
     | none => none
   | _ => none
def EqT (P : Program) (d : Nat) (t : TypeId) (ks : List SK) : Prop :=
 ∀ (w : World) (xs ys : List Value), kVs ks xs -> kVs ks ys -> ∀ a b, zbV P t xs a -> zbV P t ys b -> ∃ r : Bool, (Op.equalIn d t a b).run P w = .ok r w /\ (r = true ↔ xs = ys)
theorem zel {P : Program} {w : World} {t : TypeId} {d : Nat} {ks : List SK} (hk : za5 P d t = some ks) (hc : P.cellsOf t = ks.length) (hi : (P.info? t).isSome = true) {xs : Array Value} {off : Nat}
 (hx : kVs ks ((xs.toList.drop off).take ks.length)) : ∃ a, (part t xs off).run P w = .ok a w /\ zbV P t ((xs.toList.drop off).take ks.length) a := by
  obtain ⟨i, hi⟩ := Option.isSome_iff_exists.1 hi
  cases d with
  | zero => simp [za5] at hk
  | succ d =>
    unfold za5 at hk
    cases hu : P.underlying t with
    | none => rw [hu] at hk; cases hk
    | some u =>
      rw [hu] at hk
      have scalar : ∀ {k : SK}, ks = [k] -> zbb P t = false -> (∀ v, xs[off]? = some v -> (part t xs off).run P w = .ok v w) -> ∃ a, (part t xs off).run P w = .ok a w /\ zbV P t ((xs.toList.drop off).take ks.length) a := by
       intro k e hr hp
       subst e
       obtain ⟨v, r, e1, _, e2⟩ := hx
       simp [kVs] at e2
       subst e2
       refine ⟨v, hp v ?_, by simp only [zbV, hr]; exact e1⟩
       have := congrArg (fun l => l[0]?) e1
       simpa using this
      have rowc : zbb P t = true -> (part t xs off).run P w = .ok (.agg (xs.extract off (off + P.cellsOf t))) w -> ∃ a, (part t xs off).run P w = .ok a w /\ zbV P t ((xs.toList.drop off).take ks.length) a := by
       intro hr hp
       refine ⟨_, hp, ?_⟩
       simp only [zbV, hr]
       congr 1
       apply Array.ext'
       rw [hc]
       simp [Array.toList_extract, List.extract_eq_take_drop]
      cases u <;> simp only [reduceCtorEq, Option.some.injEq] at hk
      case bool => exact scalar hk.symm (by simp [zbb, hu]) (fun v hv => by simp [part, isAgg, run_underlying hu, hv])
      case int => exact scalar hk.symm (by simp [zbb, hu]) (fun v hv => by simp [part, isAgg, run_underlying hu, hv])
      case string => exact scalar hk.symm (by simp [zbb, hu]) (fun v hv => by simp [part, isAgg, run_underlying hu, hv])
      case struct => exact rowc (by simp [zbb, hu]) (by simp [part, isAgg, run_underlying hu, run_sizeOf w hi])
      case array => exact rowc (by simp [zbb, hu]) (by simp [part, isAgg, run_underlying hu, run_sizeOf w hi])
theorem zjC {α : Type _} (n : Nat) {xs ys : List α} : xs = ys ↔ xs.take n = ys.take n /\ xs.drop n = ys.drop n :=
 ⟨fun h => by rw [h]; simp, fun ⟨h1, h2⟩ => by rw [<- List.take_append_drop n xs, <- List.take_append_drop n ys, h1, h2]⟩
theorem zhh {P : Program} {d dk : Nat} (IH : ∀ t ks, za5 P dk t = some ks -> EqT P d t ks) (xs ys : Array Value) : ∀ (fs : List Field) (off : Nat) (ks : List SK), zfF P (za5 P dk) fs off = some ks →
 kVs ks (xs.toList.drop off) -> kVs ks (ys.toList.drop off) -> ∀ w, ∃ r : Bool, (Op.eqFields d xs ys fs).run P w = .ok r w /\ (r = true ↔ xs.toList.drop off = ys.toList.drop off)
  | [], off, ks, hk, h1, h2, w => by
    simp [zfF] at hk
    subst hk
    simp only [kVs] at h1 h2
    exact ⟨true, by simp [Op.eqFields], by rw [h1, h2]; simp⟩
  | f :: fs, off, ks, hk, h1, h2, w => by
    simp only [zfF] at hk
    split at hk
    . rename_i hn
      obtain ⟨hn, hoff⟩ := hn
      split at hk
      . rename_i k1 hk1
        split at hk
        . rename_i hc
          split at hk
          . rename_i k2 hk2
            simp only [Option.some.injEq] at hk
            subst hk
            obtain ⟨a1, a2⟩ := zdt h1
            obtain ⟨b1, b2⟩ := zdt h2
            obtain ⟨a, pa, fa⟩ := zel (w := w) hk1 hc.1 hc.2 a1
            obtain ⟨b, pb, fb⟩ := zel (w := w) hk1 hc.1 hc.2 b1
            obtain ⟨r, hr, hi⟩ := IH _ _ hk1 w _ _ a1 b1 a b fa fb
            rw [List.drop_drop] at a2 b2
            obtain ⟨r', hr', hi'⟩ := zhh IH xs ys fs (off + k1.length) k2 hk2 a2 b2 w
            subst hoff
            simp only [Op.eqFields, hn, ne_eq, not_false_eq_true, if_true, Sem.run_bind, pa, pb, hr, Result.andThen_ok]
            rw [zjC k1.length, List.drop_drop, List.drop_drop]
            cases r
            . refine ⟨false, by simp, by simp; intro e; exact absurd (hi.2 e) (by simp)⟩
            . refine ⟨r', by simpa using hr', ?_⟩
              rw [hi']
              simp [hi.1 rfl]
          . cases hk
        . cases hk
      . cases hk
    . cases hk
theorem zhT {P : Program} {d dk : Nat} {e : TypeId} {ke : List SK} (hke : za5 P dk e = some ke) (IH : EqT P d e ke) (hc : P.cellsOf e = ke.length) (hi : (P.info? e).isSome = true) (xs ys : Array Value) : ∀ (n i : Nat),
 kVs (zhS ke n) (xs.toList.drop (i * ke.length)) -> kVs (zhS ke n) (ys.toList.drop (i * ke.length)) -> ∀ w, ∃ r : Bool, (Op.eqItems d e (P.cellsOf e) xs ys (List.range' i n)).run P w = .ok r w ∧
  (r = true ↔ xs.toList.drop (i * ke.length) = ys.toList.drop (i * ke.length))
  | 0, i, h1, h2, w => by
    simp only [zhS, kVs] at h1 h2
    exact ⟨true, by simp [Op.eqItems], by rw [h1, h2]; simp⟩
  | n + 1, i, h1, h2, w => by
    simp only [zhS] at h1 h2
    obtain ⟨a1, a2⟩ := zdt h1
    obtain ⟨b1, b2⟩ := zdt h2
    obtain ⟨a, pa, fa⟩ := zel (w := w) hke hc hi a1
    obtain ⟨b, pb, fb⟩ := zel (w := w) hke hc hi b1
    obtain ⟨r, hr, hi0⟩ := IH w _ _ a1 b1 a b fa fb
    have ei : i * ke.length + ke.length = (i + 1) * ke.length := by rw [Nat.add_mul]; simp
    rw [List.drop_drop, ei] at a2 b2
    obtain ⟨r', hr', hi'⟩ := zhT hke IH hc hi xs ys n (i + 1) a2 b2 w
    rw [List.range'_succ]
    rw [<- hc] at pa pb
    simp only [Op.eqItems, Sem.run_bind, pa, pb, hr, Result.andThen_ok]
    rw [zjC ke.length, List.drop_drop, List.drop_drop, ei]
    cases r
    . refine ⟨false, by simp, by simp; intro e; exact absurd (hi0.2 e) (by simp)⟩
    . refine ⟨r', by simpa using hr', ?_⟩
      rw [hi']
      simp [hi0.1 rfl]
theorem zl7 {P : Program} : ∀ (dk d : Nat) (t : TypeId) (ks : List SK), za5 P dk t = some ks -> EqT P (d + dk) t ks
 | 0, d, t, ks, h => by simp [za5] at h
 | dk + 1, d, t, ks, hk => by
   intro w xs ys hx hy a b fa fb
   have IH : ∀ t ks, za5 P dk t = some ks -> EqT P (d + dk) t ks := fun t ks h => zl7 dk d t ks h
   unfold za5 at hk
   cases hu : P.underlying t with
   | none => rw [hu] at hk; cases hk
   | some u =>
     rw [hu] at hk
     cases u <;> simp only [reduceCtorEq, Option.some.injEq] at hk
     case bool =>
      subst hk
      simp only [zbV, zbb, hu] at fa fb
      subst fa; subst fb
      obtain ⟨v, r, e1, ⟨b1, rfl⟩, e2⟩ := hx
      obtain ⟨v', r', e1', ⟨b2, rfl⟩, e2'⟩ := hy
      simp only [kVs] at e2 e2'
      subst e2; subst e2'
      cases e1; cases e1'
      exact ⟨b1 == b2, by simp [Op.equalIn, run_underlying hu], by simp [zec]⟩
     case int =>
      subst hk
      simp only [zbV, zbb, hu] at fa fb
      subst fa; subst fb
      obtain ⟨v, r, e1, ⟨b1, rfl⟩, e2⟩ := hx
      obtain ⟨v', r', e1', ⟨b2, rfl⟩, e2'⟩ := hy
      simp only [kVs] at e2 e2'
      subst e2; subst e2'
      cases e1; cases e1'
      exact ⟨b1 == b2, by simp [Op.equalIn, run_underlying hu], by simp [zec]⟩
     case string =>
      subst hk
      simp only [zbV, zbb, hu] at fa fb
      subst fa; subst fb
      obtain ⟨v, r, e1, ⟨b1, rfl⟩, e2⟩ := hx
      obtain ⟨v', r', e1', ⟨b2, rfl⟩, e2'⟩ := hy
      simp only [kVs] at e2 e2'
      subst e2; subst e2'
      cases e1; cases e1'
      exact ⟨b1 == b2, by simp [Op.equalIn, run_underlying hu], by simp [zec]⟩
     case struct fs =>
      split at hk
      . cases hk
      . rename_i hp
        simp only [zbV, zbb, hu] at fa fb
        subst fa; subst fb
        have hfs : P.fieldsOf t = fs := by simp [Program.fieldsOf, hu]
        obtain ⟨r, hr, hi⟩ := zhh IH xs.toArray ys.toArray fs.toList 0 ks hk (by simpa using hx) (by simpa using hy) w
        refine ⟨r, ?_, by simpa using hi⟩
        rw [<- Nat.add_assoc, run_equalIn_struct w (d + dk) t _ _ (by rw [hfs]; exact hu) (by simpa using hp), hfs]
        exact hr
     case array n e =>
      split at hk
      . rename_i ke hke
        split at hk
        . rename_i hc
          simp only [Option.some.injEq] at hk
          subst hk
          simp only [zbV, zbb, hu] at fa fb
          subst fa; subst fb
          obtain ⟨i, hi⟩ := Option.isSome_iff_exists.1 hc.2
          obtain ⟨r, hr, hir⟩ := zhT hke (IH _ _ hke) hc.1 hc.2 xs.toArray ys.toArray n 0 (by simpa using hx) (by simpa using hy) w
          refine ⟨r, ?_, by simpa using hir⟩
          rw [<- Nat.add_assoc, run_equalIn_array w (d + dk) _ _ hu hi, List.range_eq_range']
          exact hr
        . cases hk
      . cases hk
theorem zoC {P : Program} {w : World} {t : TypeId} {dk : Nat} {ks : List SK} (h : za5 P dk t = some ks) (hdk : dk <= 10000) (hr : zbb P t = true) {xs ys : List Value} (hx : kVs ks xs) (hy : kVs ks ys) :
 ∃ r : Bool, (Op.equal t (.agg xs.toArray) (.agg ys.toArray)).run P w = .ok r w /\ (r = true ↔ xs = ys) := by
  have := zl7 dk (10000 - dk) t ks h w xs ys hx hy (.agg xs.toArray) (.agg ys.toArray) (by simp [zbV, hr]) (by simp [zbV, hr])
  rwa [show 10000 - dk + dk = 10000 by omega] at this
theorem zjp {β w S} : ∀ {ks : List SK} {a b : List SV} {p : Prop}, zgm ks a b = some p -> ∀ {xs ys : List Value}, zam β w S a xs -> zam β w S b ys -> kVs ks xs /\ kVs ks ys /\ (xs = ys ↔ p)
 | [], a, b, p, h, xs, ys, hx, hy => by
   simp only [zgm] at h
   split at h
   . cases h
     simp only [zam] at hx hy
     subst hx; subst hy
     simp [kVs]
   . cases h
 | k :: ks, a, b, p, h, xs, ys, hx, hy => by
   simp only [zgm] at h
   split at h
   . rename_i sa as sb bs
     simp only [zam] at hx hy
     obtain ⟨x, xr, rfl, hx1, hx2⟩ := hx
     obtain ⟨y, yr, rfl, hy1, hy2⟩ := hy
     split at h
     . cases h
     . rename_i r hr
       obtain ⟨i1, i2, i3⟩ := zjp hr hx2 hy2
       split at h
       . split at h
         . split at h
           . cases h
           . rename_i e1
             split at h
             . cases h
             . rename_i e2
               cases h
               have e1 := zdH e1
               have e2 := zdH e2
               subst e1; subst e2
               simp only [rel] at hx1 hy1
               subst hx1; subst hy1
               exact ⟨⟨_, _, rfl, ⟨_, rfl⟩, i1⟩, ⟨_, _, rfl, ⟨_, rfl⟩, i2⟩, by simp [i3]⟩
         . cases h
       . split at h
         . rename_i q1 q2 hq1 hq2
           cases h
           obtain ⟨b1, rfl, j1⟩ := zeL hq1 hx1
           obtain ⟨b2, rfl, j2⟩ := zeL hq2 hy1
           refine ⟨⟨_, _, rfl, ⟨_, rfl⟩, i1⟩, ⟨_, _, rfl, ⟨_, rfl⟩, i2⟩, ?_⟩
           simp only [List.cons.injEq, Value.bool.injEq, i3, <- j1, <- j2]
           cases b1 <;> cases b2 <;> simp
         . cases h
       . split at h
         . cases h
           simp only [rel] at hx1 hy1
           subst hx1; subst hy1
           exact ⟨⟨_, _, rfl, ⟨_, rfl⟩, i1⟩, ⟨_, _, rfl, ⟨_, rfl⟩, i2⟩, by simp [i3]⟩
         . cases h
   . cases h
structure zym (P : Program) (t : TypeId) (ks : List SK) : Prop where
 k : ∃ d, d <= 10000 /\ za5 P d t = some ks
 r : zbb P t = true
 g : P.eqGuardType P.depth t = false
section
variable {C : Ctx} {gt : GT} {go : GO} {o : Oper} {fresh : Nat} {R : List Loc} {v : Option SV} {os : List (Nat × Option SO)} {k : Nat}
theorem zpw {neg : Bool} {t ty : TypeId} {x y : Operand} {ks : List SK} (ho : o.op = .binOp (if neg then .neq else .eql) t x y ty) (hk : zym C.P t ks)
 (h : (MO.rt C.toEnv fresh (.eqs ks neg (cX x) (cX y))).Runs gt go R v os k) (hd : zau C o.dst v) : zaD C o fresh gt go v os k := by
  simp only [MO.rt] at h
  replace h := zap h
  obtain ⟨sx, R1, h, hx⟩ := h
  replace h := zap h
  obtain ⟨sy, R2, h, hy⟩ := h
  split at h
  . rename_i xs ys
    split at h
    . rename_i p hp
      obtain ⟨d, hd1, hd2⟩ := hk.k
      have key : ∀ {β own S a w}, zah C gt go β own S a w -> ∃ r : Bool, (execOp a.eval o).run C.P w = .ok (.value (.bool (if neg then !r else r))) w /\ (r = true ↔ p) := by
       intro β own S a w H
       have h1 := hx H
       have h2 := hy H
       simp only [rel] at h1 h2
       obtain ⟨va, ea, ra⟩ := h1
       obtain ⟨vb, eb, rb⟩ := h2
       obtain ⟨k1, k2, hi⟩ := zjp hp ra rb
       obtain ⟨r, hr, hir⟩ := zoC (w := w) hd2 hd1 hk.r k1 k2
       refine ⟨r, ?_, hir.trans hi⟩
       have hg := run_eqGuard_agg (P := C.P) w (if neg then .neq else .eql) t x y va vb hk.g
       have hr : (Op.equalIn 10000 t (.agg va) (.agg vb)).run C.P w = .ok r w := by simpa [Op.equal, Op.maxDepth] using hr
       cases neg
       . simp only [Bool.false_eq_true, if_false] at ho hg ⊢
         simp [execOp, ho, ea, eb, hg, run_eql_struct, hr]
       . simp only [if_true] at ho hg ⊢
         simp [execOp, ho, ea, eb, hg, run_neq_struct, hr]
      cases neg
      . obtain ⟨rfl, rfl, rfl⟩ := zat h
        refine zaJ (by simp [ho]) hd fun {β own S a w} H => ?_
        obtain ⟨r, hr, hi⟩ := key H
        exact ⟨_, hr, zgw hi⟩
      . obtain ⟨rfl, rfl, rfl⟩ := zat h
        refine zaJ (by simp [ho]) hd fun {β own S a w} H => ?_
        obtain ⟨r, hr, hi⟩ := key H
        exact ⟨_, hr, zgw (by rw [<- hi]; cases r <;> simp)⟩
    . cases h
  . cases h
end
end Go.Sx
namespace Go.Sx
open Go
def PV.va : PV -> Value
 | .int k n => .int k n
 | .bool b => .bool b
 | .str s => .string s
 | _ => undef
def zaZ (one : Bool) (l : List PV) : Value :=
 match one with
 | true => (match l with | p :: _ => p.va | [] => undef)
 | false => .agg (l.map PV.va).toArray
theorem znn {β w S} {p : PV} {k : SK} (h : p.kind = some k) : (∀ v, rel β w S p.sv v ↔ v = p.va) /\ kV k p.va := by
 cases p <;> simp [PV.kind] at h <;> subst h <;> refine ⟨fun v => ?_, ?_⟩ <;> simp [PV.sv, rel, PV.va, kV]
theorem zfE {β w S} : ∀ {l : List PV} {ks : List SK}, l.map PV.kind = ks.map some -> (∀ vs, zam β w S (l.map PV.sv) vs ↔ vs = l.map PV.va) /\ kVs ks (l.map PV.va)
 | [], ks, h => by
   cases ks with
   | nil => simp [zam, kVs]
   | cons k ks => simp at h
 | p :: l, ks, h => by
   cases ks with
   | nil => simp at h
   | cons k ks =>
     simp only [List.map, List.cons.injEq] at h
     obtain ⟨h1, h2⟩ := zfE (β := β) (w := w) (S := S) h.2
     obtain ⟨h3, h4⟩ := znn (β := β) (w := w) (S := S) h.1
     refine ⟨fun vs => ?_, ⟨_, _, rfl, h4, h2⟩⟩
     simp only [List.map, zam]
     constructor
     . rintro ⟨x, r, rfl, e1, e2⟩
       rw [(h3 x).1 e1, (h1 r).1 e2]
     . rintro rfl
       exact ⟨_, _, rfl, (h3 _).2 rfl, (h1 _).2 rfl⟩
theorem zdf {β w S} {one : Bool} {l : List PV} {ks : List SK} (h : l.map PV.kind = ks.map some) (h1 : one = true -> ks.length = 1) (v : Value) : rel β w S (zaS one l) v ↔ v = zaZ one l := by
 cases one with
 | false =>
   obtain ⟨e, _⟩ := zfE (β := β) (w := w) (S := S) h
   simp only [zaS, zaZ, rel]
   constructor
   . rintro ⟨xs, rfl, hx⟩
     rw [<- (e _).1 hx]
   . rintro rfl
     exact ⟨_, rfl, by rw [e]⟩
 | true =>
   have hl : l.length = 1 := by
    have := congrArg List.length h
    simp at this
    rw [this, h1 rfl]
   match l, hl with
   | [p], _ =>
     cases ks with
     | nil => simp at h
     | cons k ks =>
       simp only [List.map, List.cons.injEq] at h
       simp only [zaS, zaZ]
       exact (znn h.1).1 v
theorem zpP : ∀ {l l' : List PV} {ks : List SK}, l.map PV.kind = ks.map some -> l'.map PV.kind = ks.map some -> l.map PV.va = l'.map PV.va -> l = l'
 | [], [], _, _, _, _ => rfl
 | [], p :: l', ks, _, _, h => by simp at h
 | p :: l, [], ks, _, _, h => by simp at h
 | p :: l, q :: l', [], h1, _, _ => by simp at h1
 | p :: l, q :: l', k :: ks, h1, h2, h => by
   simp only [List.map, List.cons.injEq] at h1 h2 h
   rw [zpP h1.2 h2.2 h.2]
   congr 1
   obtain ⟨h1, _⟩ := h1
   obtain ⟨h2, _⟩ := h2
   obtain ⟨h, _⟩ := h
   cases p <;> simp [PV.kind] at h1 <;> cases q <;> simp [PV.kind] at h2 <;> simp_all [PV.va]
structure zcj (P : Program) (K : TypeId) (one : Bool) (ks : List SK) : Prop where
 k : ∃ d, d <= 10000 /\ za5 P d K = some ks
 one : one = !zbb P K
theorem zkV {P : Program} {d : Nat} {t : TypeId} {ks : List SK} (h : za5 P d t = some ks) (hr : zbb P t = false) : ks.length = 1 /\ ∃ u, P.underlying t = some u /\ (u = .bool \/ (∃ k, u = .int k) \/ u = .string) := by
 cases d with
 | zero => simp [za5] at h
 | succ d =>
   unfold za5 at h
   cases hu : P.underlying t with
   | none => rw [hu] at h; cases h
   | some u =>
     rw [hu] at h
     cases u <;> simp only [reduceCtorEq, Option.some.injEq] at h
     case bool => subst h; exact ⟨rfl, _, rfl, .inl rfl⟩
     case int k => subst h; exact ⟨rfl, _, rfl, .inr (.inl ⟨k, rfl⟩)⟩
     case string => subst h; exact ⟨rfl, _, rfl, .inr (.inr rfl)⟩
     case struct => simp [zbb, hu] at hr
     case array => simp [zbb, hu] at hr
section key
variable {P : Program} {K : TypeId} {one : Bool} {ks : List SK} (hK : zcj P K one ks)
include hK
theorem zcj.len1 : one = true -> ks.length = 1 := fun h => by
 obtain ⟨d, _, hd⟩ := hK.k
 have := hK.one
 rw [h] at this
 exact (zkV hd (by cases e : zbb P K with | true => rw [e] at this; cases this | false => rfl)).1
theorem zcj.form {l : List PV} (h : l.map PV.kind = ks.map some) : zbV P K (l.map PV.va) (zaZ one l) := by
 have h1 := hK.len1
 have ho := hK.one
 cases hr : zbb P K with
 | true => rw [hr] at ho; simp at ho; subst ho; simp [zbV, hr, zaZ]
 | false =>
   rw [hr] at ho; simp at ho; subst ho
   have hl : l.length = 1 := by
    have := congrArg List.length h
    simp at this
    rw [this, h1 rfl]
   match l, hl with
   | [p], _ => simp [zbV, hr, zaZ]
theorem zcj.equal (w : World) {l l' : List PV} (h : l.map PV.kind = ks.map some) (h' : l'.map PV.kind = ks.map some) :
 ∃ r : Bool, (Op.equal K (zaZ one l) (zaZ one l')).run P w = .ok r w /\ (r = true ↔ l = l') := by
  obtain ⟨d, hd, hk⟩ := hK.k
  obtain ⟨_, k1⟩ := zfE (β := fun _ => none) (w := w) (S := fun _ => False) h
  obtain ⟨_, k2⟩ := zfE (β := fun _ => none) (w := w) (S := fun _ => False) h'
  obtain ⟨r, hr, hi⟩ := zl7 d (10000 - d) K ks hk w _ _ k1 k2 _ _ (hK.form h) (hK.form h')
  rw [show 10000 - d + d = 10000 by omega] at hr
  exact ⟨r, hr, hi.trans ⟨fun e => zpP h h' e, fun e => by rw [e]⟩⟩
end key
theorem zhf {P : Program} (em : Bool) : ∀ (dk d : Nat) (t : TypeId) (ks : List SK), za5 P dk t = some ks -> ∀ (w : World) (xs : List Value), kVs ks xs -> ∀ a, zbV P t xs a -> (Instr.checkKey em (d + dk) t a).run P w = .ok () w
 | 0, d, t, ks, h => by simp [za5] at h
 | dk + 1, d, t, ks, hk => by
   intro w xs hx a fa
   have IH : ∀ t ks, za5 P dk t = some ks -> ∀ (w : World) (xs : List Value), kVs ks xs -> ∀ a, zbV P t xs a -> (Instr.checkKey em (d + dk) t a).run P w = .ok () w := fun t ks h => zhf em dk d t ks h
   unfold za5 at hk
   cases hu : P.underlying t with
   | none => rw [hu] at hk; cases hk
   | some u =>
     rw [hu] at hk
     rw [<- Nat.add_assoc, Instr.checkKey]
     simp only [Sem.run_bind, run_underlying hu, Result.andThen_ok]
     cases u <;> simp only [reduceCtorEq, Option.some.injEq] at hk
     case bool => simp
     case int => simp
     case string => simp
     case struct fs =>
      split at hk
      . cases hk
      . simp only [zbV, zbb, hu] at fa
        subst fa
        simp only []
        rw [<- Array.forIn_toList]
        have key : ∀ (fs : List Field) (off : Nat) (ks : List SK), zfF P (za5 P dk) fs off = some ks -> kVs ks (xs.drop off) →
         (forIn fs PUnit.unit (fun f _ => do if f.name ≠ "_" then do Instr.checkKey em (d + dk) f.type (<- part f.type xs.toArray f.offset); pure (ForInStep.yield PUnit.unit) else pure (ForInStep.yield PUnit.unit)) : Sem PUnit).run P w = .ok PUnit.unit w := by
          intro fs
          induction fs with
          | nil => intro off ks _ _; simp
          | cons f fs ih =>
            intro off ks hk hx
            simp only [zfF] at hk
            split at hk
            . rename_i hn
              obtain ⟨hn, hoff⟩ := hn
              split at hk
              . rename_i k1 hk1
                split at hk
                . rename_i hc
                  split at hk
                  . rename_i k2 hk2
                    simp only [Option.some.injEq] at hk
                    subst hk
                    obtain ⟨a1, a2⟩ := zdt hx
                    obtain ⟨a, pa, fa⟩ := zel (w := w) (xs := xs.toArray) hk1 hc.1 hc.2 (by simpa using a1)
                    rw [List.drop_drop] at a2
                    have := IH _ _ hk1 w _ (by simpa using a1) a (by simpa using fa)
                    subst hoff
                    simp only [List.forIn_cons, hn, ne_eq, not_false_eq_true, if_true, Sem.run_bind, pa, this, Result.andThen_ok, Sem.run_pure]
                    exact ih _ _ hk2 a2
                  . cases hk
                . cases hk
              . cases hk
            . cases hk
        have := key fs.toList 0 ks hk (by simpa using hx)
        simpa using this
     case array n e =>
      split at hk
      . rename_i ke hke
        split at hk
        . rename_i hc
          simp only [Option.some.injEq] at hk
          subst hk
          simp only [zbV, zbb, hu] at fa
          subst fa
          obtain ⟨i, hi⟩ := Option.isSome_iff_exists.1 hc.2
          simp only [Std.Legacy.Range.forIn_eq_forIn_range', Std.Legacy.Range.size, Nat.sub_zero, Nat.add_one_sub_one, Nat.div_one]
          have key : ∀ (n i : Nat), kVs (zhS ke n) (xs.drop (i * ke.length)) →
           (forIn (List.range' i n) PUnit.unit (fun j _ => do Instr.checkKey em (d + dk) e (<- part e xs.toArray (j * (<- sizeOf e))); pure (ForInStep.yield PUnit.unit)) : Sem PUnit).run P w = .ok PUnit.unit w := by
            intro n
            induction n with
            | zero => intro i _; simp
            | succ n ih =>
              intro i hx
              simp only [zhS] at hx
              obtain ⟨a1, a2⟩ := zdt hx
              obtain ⟨a, pa, fa⟩ := zel (w := w) (xs := xs.toArray) hke hc.1 hc.2 (by simpa using a1)
              have := IH _ _ hke w _ (by simpa using a1) a (by simpa using fa)
              have ei : i * ke.length + ke.length = (i + 1) * ke.length := by rw [Nat.add_mul]; simp
              rw [List.drop_drop, ei] at a2
              rw [List.range'_succ]
              rw [<- hc.1] at pa
              simp only [List.forIn_cons, Sem.run_bind, run_sizeOf w hi, pa, this, Result.andThen_ok, Sem.run_pure]
              exact ih _ a2
          have := key n 0 (by simpa using hx)
          simpa using this
        . cases hk
      . cases hk
theorem zcj.check {P : Program} {K : TypeId} {one : Bool} {ks : List SK} (hK : zcj P K one ks) (em : Bool) (w : World) {l : List PV} (h : l.map PV.kind = ks.map some) : (Instr.checkKey em 10000 K (zaZ one l)).run P w = .ok () w := by
 obtain ⟨d, hd, hk⟩ := hK.k
 obtain ⟨_, k1⟩ := zfE (β := fun _ => none) (w := w) (S := fun _ => False) h
 have := zhf em d (10000 - d) K ks hk w _ k1 _ (hK.form h)
 rwa [show 10000 - d + d = 10000 by omega] at this
theorem ziA {p : PV} {k : SK} (h : p.kind = some k) (n : Nat) : Instr.sameBits n p.va p.va = true := by
 cases p <;> simp [PV.kind] at h <;> cases n <;> simp [PV.va, Instr.sameBits, zec]
theorem zfN {one : Bool} {l : List PV} {ks : List SK} (h : l.map PV.kind = ks.map some) (h1 : one = true -> ks.length = 1) : Instr.sameBits 10000 (zaZ one l) (zaZ one l) = true := by
 have each : ∀ p ∈ l, ∃ k, p.kind = some k := fun p hp => by
  have : p.kind ∈ l.map PV.kind := List.mem_map_of_mem hp
  rw [h] at this
  obtain ⟨k, _, e⟩ := List.mem_map.1 this
  exact ⟨k, e.symm⟩
 cases one with
 | true =>
   cases l with
   | nil => have := congrArg List.length h; simp [h1 rfl] at this
   | cons p l => obtain ⟨k, hk⟩ := each p (by simp); exact ziA hk _
 | false =>
   simp only [zaZ, Instr.sameBits, beq_self_eq_true, Bool.true_and]
   rw [List.all_eq_true]
   intro x hx
   simp only [List.zip_eq_zipWith] at hx
   have : ∀ (l : List PV), (∀ p ∈ l, ∃ k, p.kind = some k) -> ∀ x ∈ List.zipWith Prod.mk (l.map PV.va) (l.map PV.va), Instr.sameBits 9999 x.1 x.2 = true := by
    intro l
    induction l with
    | nil => intro _ x hx; simp at hx
    | cons p l ih =>
      intro each x hx
      simp only [List.map, List.zipWith_cons_cons, List.mem_cons] at hx
      rcases hx with rfl | hx
      . obtain ⟨k, hk⟩ := each p (by simp)
        exact ziA hk _
      . exact ih (fun q hq => each q (by simp [hq])) x hx
   exact this l each x (by simpa using hx)
section ents
variable (M : zaj)
def zao (k : M.κ) : List (M.κ × M.ν) -> Option Nat
 | [] => none
 | (j, _) :: r => match M.deq j k with | isTrue _ => some 0 | isFalse _ => (zao k r).map (· + 1)
theorem zef (k : M.κ) : ∀ (es : List (M.κ × M.ν)), zas M k es = (zao M k es).bind fun i => (es[i]?).map (·.2)
 | [] => rfl
 | (j, v) :: r => by
   simp only [zas, zao]
   cases M.deq j k with
   | isTrue h => simp
   | isFalse h => simp only [zef k r]; cases zao M k r <;> simp
theorem zc8 (k : M.κ) : ∀ (es : List (M.κ × M.ν)), (zao M k es = none ↔ k ∉ es.map (·.1))
 | [] => by simp [zao]
 | (j, v) :: r => by
   simp only [zao]
   cases M.deq j k with
   | isTrue h => simp [h]
   | isFalse h => simp [zc8 k r, Ne.symm h]
theorem zcJ (k : M.κ) (v : M.ν) : ∀ (es : List (M.κ × M.ν)), (zan M k v es).map (·.1) = match zao M k es with | some _ => es.map (·.1) | none => es.map (·.1) ++ [k]
 | [] => rfl
 | (j, u) :: r => by
   simp only [zan, zao]
   cases M.deq j k with
   | isTrue h => simp
   | isFalse h => simp only [List.map, zcJ k v r]; cases zao M k r <;> simp
theorem zfR (k : M.κ) : ∀ (es : List (M.κ × M.ν)), zao M k es = none -> zaO M k es = es
 | [], _ => rfl
 | (j, u) :: r, h => by
   simp only [zao] at h
   simp only [zaO]
   cases e : M.deq j k with
   | isTrue h' => rw [e] at h; simp at h
   | isFalse h' => rw [e] at h; simp at h; simp only [zfR k r h]
theorem zlL (k : M.κ) : ∀ (es : List (M.κ × M.ν)), ((zaO M k es).map (·.1)).Sublist (es.map (·.1))
 | [] => .slnil
 | (j, u) :: r => by
   simp only [zaO]
   cases M.deq j k with
   | isTrue h => exact .cons _ (List.Sublist.refl _)
   | isFalse h => exact .cons_cons _ (zlL k r)
variable {M} {β : Nat -> Option zay} {w : World} {S : Nat -> Prop}
theorem zce : ∀ {es : List (M.κ × M.ν)} {l : List MapEntry}, za1 β w S M es l -> ∀ (i : Nat) (k : M.κ) (v : M.ν), es[i]? = some (k, v) -> ∃ m : MapEntry, l[i]? = some m /\ rel β w S (zaS M.one (M.ek k)) m.key /\ rel β w S (zaS M.vone (M.ev v)) m.val
 | [], l, h, i, k, v, e => by simp at e
 | (k0, v0) :: es, l, h, i, k, v, e => by
   obtain ⟨m, r, rfl, h1, h2, h3⟩ := h
   cases i with
   | zero => simp at e; obtain ⟨rfl, rfl⟩ := e; exact ⟨m, rfl, h1, h2⟩
   | succ i => simpa using zce h3 i k v (by simpa using e)
theorem ziT : ∀ {es : List (M.κ × M.ν)} {l : List MapEntry}, za1 β w S M es l -> l.length = es.length
 | [], l, h => by simp [za1] at h; simp [h]
 | (k0, v0) :: es, l, h => by obtain ⟨m, r, rfl, h1, h2, h3⟩ := h; simp [ziT h3]
theorem zg5 {k : M.κ} {v : M.ν} {key val : Value} (hk : rel β w S (zaS M.one (M.ek k)) key) (hv : rel β w S (zaS M.vone (M.ev v)) val) : ∀ {es : List (M.κ × M.ν)} {l : List MapEntry} {i : Nat}, za1 β w S M es l -> zao M k es = some i →
 za1 β w S M (zan M k v es) (l.modify i fun e => { e with key := key, val := val })
  | [], l, i, h, e => by simp [zao] at e
  | (j, u) :: es, l, i, h, e => by
    obtain ⟨m, r, rfl, h1, h2, h3⟩ := h
    simp only [zao] at e
    simp only [zan]
    cases ej : M.deq j k with
    | isTrue h' =>
      rw [ej] at e
      simp at e
      subst e
      subst h'
      exact ⟨{ m with key := key, val := val }, r, by simp, hk, hv, h3⟩
    | isFalse h' =>
      rw [ej] at e
      simp at e
      obtain ⟨i', e, rfl⟩ := e
      exact ⟨m, _, by simp, h1, h2, zg5 hk hv h3 e⟩
theorem zhL {k : M.κ} {v : M.ν} {m : MapEntry} (hk : rel β w S (zaS M.one (M.ek k)) m.key) (hv : rel β w S (zaS M.vone (M.ev v)) m.val) : ∀ {es : List (M.κ × M.ν)} {l : List MapEntry}, za1 β w S M es l -> zao M k es = none →
 za1 β w S M (zan M k v es) (l ++ [m])
  | [], l, h, e => by
    simp only [za1] at h
    subst h
    exact ⟨m, [], rfl, hk, hv, rfl⟩
  | (j, u) :: es, l, h, e => by
    obtain ⟨m', r, rfl, h1, h2, h3⟩ := h
    simp only [zao] at e
    simp only [zan]
    cases ej : M.deq j k with
    | isTrue h' => rw [ej] at e; simp at e
    | isFalse h' =>
      rw [ej] at e
      simp at e
      exact ⟨m', _, by simp, h1, h2, zhL hk hv h3 e⟩
theorem zmB {k : M.κ} : ∀ {es : List (M.κ × M.ν)} {l : List MapEntry} {i : Nat}, za1 β w S M es l -> zao M k es = some i -> za1 β w S M (zaO M k es) (l.eraseIdx i)
 | [], l, i, h, e => by simp [zao] at e
 | (j, u) :: es, l, i, h, e => by
   obtain ⟨m, r, rfl, h1, h2, h3⟩ := h
   simp only [zao] at e
   simp only [zaO]
   cases ej : M.deq j k with
   | isTrue h' =>
     rw [ej] at e
     simp at e
     subst e
     simpa using h3
   | isFalse h' =>
     rw [ej] at e
     simp at e
     obtain ⟨i', e, rfl⟩ := e
     exact ⟨m, _, by simp, h1, h2, zmB h3 e⟩
theorem zdQ (l : List MapEntry) (i : Nat) (k v : Value) : (l.modify i fun e => { e with key := k, val := v }).map (·.born) = l.map (·.born) := by
 induction l generalizing i with
 | nil => cases i <;> simp
 | cons m l ih => cases i with
   | zero => simp
   | succ i => simp [ih]
theorem zdk {l : List MapEntry} {i : Nat} {k v : Value} {m : MapEntry} (h : m ∈ l.modify i fun e => { e with key := k, val := v }) : ∃ m' ∈ l, m'.born = m.born := by
 have : m.born ∈ (l.modify i fun e => { e with key := k, val := v }).map (·.born) := List.mem_map_of_mem h
 rw [zdQ] at this
 obtain ⟨m', h1, h2⟩ := List.mem_map.1 this
 exact ⟨m', h1, h2⟩
end ents
theorem zf3 {P : Program} {K : TypeId} {M : zaj} (hK : zcj P K M.one M.ks) {β w S} (k : M.κ) : ∀ {es : List (M.κ × M.ν)} {l : List MapEntry} (i0 : Nat), za1 β w S M es l →
 (Instr.findAsking K (zaZ M.one (M.ek k)) l i0).run P w = .ok ((zao M k es).bind fun i => (l[i]?).map fun m => (i0 + i, m.val)) w
  | [], l, i0, h => by
    simp only [za1] at h
    subst h
    simp [Instr.findAsking, zao]
  | (j, u) :: es, l, i0, h => by
    obtain ⟨m, r, rfl, h1, h2, h3⟩ := h
    rw [zdf (M.ekk j) hK.len1] at h1
    obtain ⟨b, hb, hi⟩ := hK.equal w (M.ekk k) (M.ekk j)
    simp only [Instr.findAsking, Sem.run_bind, h1, hb, Result.andThen_ok, zao]
    cases e : M.deq j k with
    | isTrue h' =>
      subst h'
      rw [hi.2 rfl]
      simp
    | isFalse h' =>
      have : b = false := by
       cases b with
       | false => rfl
       | true => exact absurd (M.inj _ _ (hi.1 rfl)).symm h'
      rw [this]
      have ih := zf3 hK k (i0 + 1) h3
      simp only [Bool.false_eq_true, if_false]
      rw [ih]
      cases zao M k es with
      | none => rfl
      | some i => simp [Nat.add_assoc, Nat.add_comm 1 i]
theorem zmc {P : Program} {K : TypeId} {M : zaj} (hK : zcj P K M.one M.ks) {β w S} (k : M.κ) {u : TypeDesc} (hu : P.underlying K = some u) (hr : zbb P K = false) : ∀ {es : List (M.κ × M.ν)} {l : List MapEntry} (i0 : Nat), za1 β w S M es l →
 Instr.findNow u (zaZ M.one (M.ek k)) l i0 = some ((zao M k es).bind fun i => (l[i]?).map fun m => (i0 + i, m.val))
  | [], l, i0, h => by
    simp only [za1] at h
    subst h
    simp [Instr.findNow, zao]
  | (j, x) :: es, l, i0, h => by
    obtain ⟨m, r, rfl, h1, h2, h3⟩ := h
    rw [zdf (M.ekk j) hK.len1] at h1
    have ih := zmc hK k hu hr (i0 + 1) h3
    have same : ∃ b : Bool, Instr.sameNow u (zaZ M.one (M.ek k)) (zaZ M.one (M.ek j)) = some b /\ (b = true ↔ M.ek k = M.ek j) := by
     obtain ⟨d, hd, hk⟩ := hK.k
     obtain ⟨hlen, u', hu', hcase⟩ := zkV hk hr
     rw [hu] at hu'; cases hu'
     have ho : M.one = true := by rw [hK.one, hr]; rfl
     obtain ⟨q, hq⟩ := List.length_eq_one_iff.1 hlen
     have e1 := M.ekk k
     have e2 := M.ekk j
     rw [hq] at e1 e2 hk
     have one : ∀ {l : List PV}, l.map PV.kind = [q].map some -> ∃ p, l = [p] /\ p.kind = some q := by
      intro l e
      have hl : l.length = 1 := by have := congrArg List.length e; simpa using this
      obtain ⟨p, rfl⟩ := List.length_eq_one_iff.1 hl
      exact ⟨p, rfl, by simpa using e⟩
     obtain ⟨p1, f1, e1⟩ := one e1
     obtain ⟨p2, f2, e2⟩ := one e2
     rw [f1, f2, ho]
     have hq' : (u = .bool -> q = .bool) /\ (∀ k, u = .int k -> q = .int k) /\ (u = .string -> q = .str) := by
      cases d with
      | zero => simp [za5] at hk
      | succ d =>
        unfold za5 at hk
        rw [hu] at hk
        refine ⟨fun e => ?_, fun k e => ?_, fun e => ?_⟩ <;> subst e <;> simp at hk <;> exact hk.symm
     obtain ⟨q1, q2, q3⟩ := hq'
     simp only [zaZ]
     rcases hcase with rfl | ⟨kk, rfl⟩ | rfl
     . have := q1 rfl; subst this
       cases p1 <;> simp [PV.kind] at e1
       cases p2 <;> simp [PV.kind] at e2
       rename_i b1 b2
       exact ⟨b1 == b2, by simp [PV.va, Instr.sameNow], by simp⟩
     . have := q2 kk rfl; subst this
       cases p1 <;> simp [PV.kind] at e1
       cases p2 <;> simp [PV.kind] at e2
       rename_i k1 n1 k2 n2
       subst e1; subst e2
       exact ⟨n1 == n2, by simp [PV.va, Instr.sameNow], by simp⟩
     . have := q3 rfl; subst this
       cases p1 <;> simp [PV.kind] at e1
       cases p2 <;> simp [PV.kind] at e2
       rename_i b1 b2
       exact ⟨b1 == b2, by simp [PV.va, Instr.sameNow], by simp [zec]⟩
    obtain ⟨b, hb, hi⟩ := same
    simp only [Instr.findNow, h1, hb, zao]
    cases e : M.deq j k with
    | isTrue h' =>
      subst h'
      rw [hi.2 rfl]
      simp
    | isFalse h' =>
      have : b = false := by
       cases b with
       | false => rfl
       | true => exact absurd (M.inj _ _ (hi.1 rfl)).symm h'
      rw [this]
      simp only
      rw [ih]
      cases zao M k es with
      | none => rfl
      | some i => simp [Nat.add_assoc, Nat.add_comm 1 i]
theorem zcH {P : Program} {K : TypeId} {M : zaj} (hK : zcj P K M.one M.ks) {β w S} (k : M.κ) {es : List (M.κ × M.ν)} {l : List MapEntry} (h : za1 β w S M es l) :
 (Instr.findKey K (zaZ M.one (M.ek k)) l).run P w = .ok ((zao M k es).bind fun i => (l[i]?).map fun m => (i, m.val)) w := by
  obtain ⟨d, hd, hk⟩ := hK.k
  have hu : ∃ u, P.underlying K = some u := by
   cases d with
   | zero => simp [za5] at hk
   | succ d =>
     unfold za5 at hk
     cases hu : P.underlying K with
     | none => rw [hu] at hk; cases hk
     | some u => exact ⟨u, rfl⟩
  obtain ⟨u, hu⟩ := hu
  unfold Instr.findKey
  simp only [Sem.run_bind, run_underlying hu, Result.andThen_ok]
  cases hr : zbb P K with
  | false =>
    have := zmc hK k hu hr 0 h
    simp only [Nat.zero_add] at this
    rw [this]
    rfl
  | true =>
    cases l with
    | nil =>
      cases es with
      | nil => simp [Instr.findNow, zao]
      | cons x es => obtain ⟨m, r, e, _⟩ := h; cases e
    | cons m l =>
      have hn : Instr.findNow u (zaZ M.one (M.ek k)) (m :: l) 0 = none := by
       have : ∀ a b, Instr.sameNow u a b = none := by
        intro a b
        unfold zbb at hr
        rw [hu] at hr
        cases u <;> simp at hr <;> simp [Instr.sameNow]
       simp [Instr.findNow, this]
      rw [hn]
      have := zf3 hK k 0 h
      simpa using this
end Go.Sx
namespace Go.Sx
open Go
def zex (M : zaj) : zaj := { M with vone := true, ev := fun _ => [] }
theorem zf0 {M : zaj} {k : M.κ} : ∀ {es : List (M.κ × M.ν)}, zao (zex M) k es = zao M k es
 | [] => rfl
 | (j, v) :: es => by
   simp only [zao, zf0 (es := es)]
   cases h : M.deq j k with
   | isTrue e => have h' : (zex M).deq j k = .isTrue e := h; rw [h']
   | isFalse e => have h' : (zex M).deq j k = .isFalse e := h; rw [h']
section
variable {β : Nat -> Option zay} {w : World} {S : Nat -> Prop} {M : zaj} {V V' : M.κ -> M.ν -> MapEntry -> Prop}
theorem zla : ∀ {es : List (M.κ × M.ν)} {l : List MapEntry}, zbv β w S M V es l -> za1 β w S (zex M) es l
 | [], l, h => h
 | (k, v) :: es, l, h => by
   obtain ⟨m, r, rfl, h1, h2, h3⟩ := h
   exact ⟨m, r, rfl, h1, by simp [zex, zaS, rel], zla h3⟩
theorem zlb {es0 : List (M.κ × M.ν)} (hV : ∀ k v m, (k, v) ∈ es0 -> V k v m -> rel β w S (zaS M.vone (M.ev v)) m.val) : ∀ {es : List (M.κ × M.ν)} {l : List MapEntry}, (∀ x ∈ es, x ∈ es0) -> zbv β w S M V es l -> za1 β w S M es l
 | [], l, _, h => h
 | (k, v) :: es, l, hs, h => by
   obtain ⟨m, r, rfl, h1, h2, h3⟩ := h
   exact ⟨m, r, rfl, h1, hV _ _ _ (hs _ (by simp)) h2, zlb hV (fun x hx => hs x (by simp [hx])) h3⟩
theorem zfs : ∀ {es : List (M.κ × M.ν)} {l : List MapEntry}, zbv β w S M V es l -> ∀ (i : Nat) (k : M.κ) (v : M.ν), es[i]? = some (k, v) -> ∃ m : MapEntry, l[i]? = some m /\ rel β w S (zaS M.one (M.ek k)) m.key /\ V k v m
 | [], l, h, i, k, v, e => by simp at e
 | (k0, v0) :: es, l, h, i, k, v, e => by
   obtain ⟨m, r, rfl, h1, h2, h3⟩ := h
   cases i with
   | zero => simp at e; obtain ⟨rfl, rfl⟩ := e; exact ⟨m, rfl, h1, h2⟩
   | succ i => simpa using zfs h3 i k v (by simpa using e)
theorem zg6 : ∀ {es : List (M.κ × M.ν)} {l : List MapEntry}, (∀ k v m, k ∈ es.map (·.1) -> V k v m -> V' k v m) -> zbv β w S M V es l -> zbv β w S M V' es l
 | [], l, _, h => h
 | (k0, v0) :: es, l, hV, h => by
   obtain ⟨m, r, rfl, h1, h2, h3⟩ := h
   exact ⟨m, r, rfl, h1, hV _ _ _ (by simp) h2, zg6 (fun k v m hk => hV k v m (by simp only [List.map, List.mem_cons]; exact .inr hk)) h3⟩
theorem zmD {k : M.κ} {v : M.ν} {key val : Value} (hk : rel β w S (zaS M.one (M.ek k)) key) : ∀ {es : List (M.κ × M.ν)} {l : List MapEntry} {i : Nat}, (es.map (·.1)).Nodup →
 (∀ k' v' m, k' ∈ es.map (·.1) -> k' ≠ k -> V k' v' m -> V' k' v' m) -> (∀ v0 m, V k v0 m -> V' k v { m with key := key, val := val }) -> zbv β w S M V es l -> zao M k es = some i →
 zbv β w S M V' (zan M k v es) (l.modify i fun e => { e with key := key, val := val })
  | [], l, i, _, _, _, h, e => by simp [zao] at e
  | (j, u) :: es, l, i, hnd, h1, h2, h, e => by
    obtain ⟨m, r, rfl, q1, q2, q3⟩ := h
    simp only [List.map, List.nodup_cons] at hnd
    simp only [zao] at e
    simp only [zan]
    cases ej : M.deq j k with
    | isTrue h' =>
      rw [ej] at e
      simp at e
      subst e
      subst h'
      refine ⟨{ m with key := key, val := val }, r, by simp, hk, h2 _ _ q2, zg6 (fun k' v' m' hk' => h1 k' v' m' (by simp only [List.map, List.mem_cons]; exact .inr hk') (fun e => hnd.1 (e ▸ hk'))) q3⟩
    | isFalse h' =>
      rw [ej] at e
      simp at e
      obtain ⟨i', e, rfl⟩ := e
      exact ⟨m, _, by simp, q1, h1 _ _ _ (by simp) h' q2, zmD hk hnd.2 (fun k' v' m' hk' => h1 k' v' m' (by simp only [List.map, List.mem_cons]; exact .inr hk')) h2 q3 e⟩
theorem zhN {k : M.κ} {v : M.ν} {m : MapEntry} (hk : rel β w S (zaS M.one (M.ek k)) m.key) (hm : V' k v m) : ∀ {es : List (M.κ × M.ν)} {l : List MapEntry}, (∀ k' v' m, k' ∈ es.map (·.1) -> k' ≠ k -> V k' v' m -> V' k' v' m) →
 zbv β w S M V es l -> zao M k es = none -> zbv β w S M V' (zan M k v es) (l ++ [m])
  | [], l, _, h, e => by
    simp only [zbv] at h
    subst h
    exact ⟨m, [], rfl, hk, hm, rfl⟩
  | (j, u) :: es, l, h1, h, e => by
    obtain ⟨m', r, rfl, q1, q2, q3⟩ := h
    simp only [zao] at e
    simp only [zan]
    cases ej : M.deq j k with
    | isTrue h' => rw [ej] at e; simp at e
    | isFalse h' =>
      rw [ej] at e
      simp at e
      exact ⟨m', _, by simp, q1, h1 _ _ _ (by simp) h' q2, zhN hk hm (fun k' v' m' hk' => h1 k' v' m' (by simp only [List.map, List.mem_cons]; exact .inr hk')) q3 e⟩
theorem zlS (f : MapEntry -> MapEntry) (hf : ∀ m, (f m).born = m.born) (l : List MapEntry) (i : Nat) : (l.modify i f).map (·.born) = l.map (·.born) := by
 induction l generalizing i with
 | nil => cases i <;> simp
 | cons m l ih => cases i with
   | zero => simp [hf]
   | succ i => simp [ih]
end
theorem zcE {P : Program} {w : World} {r : Nat} {es : Array MapEntry} {clock : Nat} (hb : w.heap[r]? = some (.map es clock)) : (getObj r).run P w = .ok (.map es clock) w := by
 simp [getObj, Sem.run, hb]
theorem zeu {P : Program} {w : World} {r : Nat} {es : Array MapEntry} {clock : Nat} (o : Obj) (hb : w.heap[r]? = some (.map es clock)) : (setObj r o).run P w = .ok () { w with heap := w.heap.setIfInBounds r o } := by
 simp [setObj, Sem.run, hb]
theorem zgo {P : Program} {w : World} {E : TypeId} {i : TypeInfo} {z : Value} (hi : P.info? E = some i) (hz : i.zero = some z) : (zeroValue E).run P w = .ok z w := by
 simp [zeroValue, run_typeInfo w hi, hz]
theorem zcn {M : zaj} {key : M.κ} : ∀ {es : List (M.κ × M.ν)} {j : Nat}, zao M key es = some j -> ∃ v0, es[j]? = some (key, v0)
 | [], j, h => by simp [zao] at h
 | (y, u) :: es, j, h => by
   simp only [zao] at h
   cases e : M.deq y key with
   | isTrue h' => rw [e] at h; simp at h; subst h; exact ⟨u, by simp [h']⟩
   | isFalse h' =>
     rw [e] at h
     simp at h
     obtain ⟨j', h, rfl⟩ := h
     simpa using zcn h
section runs
variable {P : Program} {T K E : TypeId} {i : TypeInfo} {zv : Value} {M : zaj} {β : Nat -> Option zay} {w : World} {S : Nat -> Prop} {b : Nat} {ents : Array MapEntry} {clock : Nat} {es : List (M.κ × M.ν)}
theorem zmX (hT : P.underlying T = some (.map K E)) (hK : zcj P K M.one M.ks) (hi : P.info? E = some i) (hz : i.zero = some zv) (hb : w.heap[b]? = some (.map ents clock)) (he : za1 β w S (zex M) es ents.toList) (key : M.κ) :
 ∃ x, (Instr.lookup T (.map (some b)) (zaZ M.one (M.ek key)) false).run P w = .ok x w /\ (zao M key es = none -> x = zv) /\ ∀ j m, zao M key es = some j -> ents.toList[j]? = some m -> x = m.val := by
  have hf := zcH (M := zex M) hK key he (w := w)
  rw [zf0] at hf
  have hc := hK.check (ents.isEmpty) w (M.ekk key)
  cases hp : zao M key es with
  | none =>
    rw [hp] at hf
    exact ⟨zv, by
     have hf : (Instr.findKey K (zaZ M.one (M.ek key)) ents.toList).run P w = .ok none w := hf
     simp [Instr.lookup, run_underlying hT, zcE hb, hc, hf, zgo hi hz], (fun _ => rfl), (fun j m e => by cases e)⟩
  | some j =>
    rw [hp] at hf
    obtain ⟨v0, hj⟩ := zcn hp
    obtain ⟨m, hm, _, hv⟩ := zce he j key v0 hj
    simp only [Option.bind_some, hm, Option.map_some] at hf
    refine ⟨m.val, ?_, (fun e => by cases e), fun j' m' e1 e2 => ?_⟩
    . have hf : (Instr.findKey K (zaZ M.one (M.ek key)) ents.toList).run P w = .ok (some (j, m.val)) w := hf
      simp [Instr.lookup, run_underlying hT, zcE hb, hc, hf]
    . cases e1
      rw [hm] at e2
      cases e2; rfl
theorem zm0 (hT : P.underlying T = some (.map K E)) (hK : zcj P K M.one M.ks) (hb : w.heap[b]? = some (.map ents clock)) (he : za1 β w S (zex M) es ents.toList) (key : M.κ) (x : Value) :
 (zao M key es = none -> (Instr.mapUpdate T (.map (some b)) (zaZ M.one (M.ek key)) x).run P w = .ok () { w with heap := w.heap.setIfInBounds b (.map (ents.push { key := zaZ M.one (M.ek key), val := x, born := clock }) (clock + 1)) }) ∧
 ∀ j, zao M key es = some j -> (Instr.mapUpdate T (.map (some b)) (zaZ M.one (M.ek key)) x).run P w = .ok () { w with heap := w.heap.setIfInBounds b (.map (ents.modify j fun e => { e with key := zaZ M.one (M.ek key), val := x }) clock) } := by
  have hf := zcH (M := zex M) hK key he (w := w)
  rw [zf0] at hf
  have hc := hK.check false w (M.ekk key)
  refine ⟨fun hp => ?_, fun j hp => ?_⟩
  . rw [hp] at hf
    have hf : (Instr.findKey K (zaZ M.one (M.ek key)) ents.toList).run P w = .ok none w := hf
    simp [Instr.mapUpdate, run_underlying hT, zcE hb, hc, hf, zeu _ hb]
  . rw [hp] at hf
    obtain ⟨v0, hj⟩ := zcn hp
    obtain ⟨m, hm, hmk, _⟩ := zce he j key v0 hj
    have hmk : m.key = zaZ M.one (M.ek key) := (zdf (M.ekk _) hK.len1 _).1 hmk
    simp only [Option.bind_some, hm, Option.map_some] at hf
    have hf : (Instr.findKey K (zaZ M.one (M.ek key)) ents.toList).run P w = .ok (some (j, m.val)) w := hf
    have hstay : (Instr.keyThatStays m.key (zaZ M.one (M.ek key))).run P w = .ok (zaZ M.one (M.ek key)) w := by
     rw [hmk]
     simp [Instr.keyThatStays, zfN (M.ekk key) hK.len1]
    have hej : ents[j]? = some m := by simpa using hm
    simp [Instr.mapUpdate, run_underlying hT, zcE hb, hc, hf, hej, hstay, zeu _ hb]
theorem zjR (hT : P.underlying T = some (.map K E)) (hK : zcj P K M.one M.ks) (hi : P.info? E = some i) (hz : i.zero = some zv) (hb : w.heap[b]? = some (.map ents clock)) (he : za1 β w S (zex M) es ents.toList) (key : M.κ) :
 (zao M key es = none -> (Instr.mapEntry T (.map (some b)) (zaZ M.one (M.ek key))).run P w = .ok (.tuple #[zv, goInt clock]) { w with heap := w.heap.setIfInBounds b (.map (ents.push { key := zaZ M.one (M.ek key), val := zv, born := clock }) (clock + 1)) }) ∧
 ∀ j m, zao M key es = some j -> ents.toList[j]? = some m -> (Instr.mapEntry T (.map (some b)) (zaZ M.one (M.ek key))).run P w = .ok (.tuple #[m.val, goInt m.born]) { w with heap := w.heap.setIfInBounds b (.map (ents.modify j fun e => { e with key := zaZ M.one (M.ek key) }) clock) } := by
  have hf := zcH (M := zex M) hK key he (w := w)
  rw [zf0] at hf
  have hc := hK.check false w (M.ekk key)
  refine ⟨fun hp => ?_, fun j m hp hm' => ?_⟩
  . rw [hp] at hf
    have hf : (Instr.findKey K (zaZ M.one (M.ek key)) ents.toList).run P w = .ok none w := hf
    simp [Instr.mapEntry, run_underlying hT, zcE hb, hc, hf, zeu _ hb, zgo hi hz]
  . rw [hp] at hf
    obtain ⟨v0, hj⟩ := zcn hp
    obtain ⟨m, hm, hmk, _⟩ := zce he j key v0 hj
    rw [hm] at hm'; cases hm'
    have hmk : m.key = zaZ M.one (M.ek key) := (zdf (M.ekk _) hK.len1 _).1 hmk
    simp only [Option.bind_some, hm, Option.map_some] at hf
    have hf : (Instr.findKey K (zaZ M.one (M.ek key)) ents.toList).run P w = .ok (some (j, m.val)) w := hf
    have hstay : (Instr.keyThatStays m.key (zaZ M.one (M.ek key))).run P w = .ok (zaZ M.one (M.ek key)) w := by
     rw [hmk]
     simp [Instr.keyThatStays, zfN (M.ekk key) hK.len1]
    have hej : ents[j]? = some m := by simpa using hm
    simp [Instr.mapEntry, run_underlying hT, zcE hb, hc, hf, hej, hstay, zeu _ hb]
theorem zf2 (hb : w.heap[b]? = some (.map ents clock)) {j : Nat} {m : MapEntry} (hm : ents.toList[j]? = some m) (hbp : (ents.toList.map (·.born)).Pairwise (· < ·)) (x : Value) :
 (Instr.entryStore T (.map (some b)) (.int .i64 m.born) x).run P w = .ok () { w with heap := w.heap.setIfInBounds b (.map (ents.modify j fun e => { e with val := x }) clock) } := by
  have hj : ents.findIdx? (fun e => (e.born : Int) == (m.born : Int)) = some j := by
   rw [Array.findIdx?_eq_some_iff_getElem]
   have hlt : j < ents.toList.length := (List.getElem?_eq_some_iff.1 hm).1
   have hmj : ents.toList[j] = m := (List.getElem?_eq_some_iff.1 hm).2
   simp only [Array.length_toList] at hlt
   have hmj' : ents[j] = m := by simpa using hmj
   refine ⟨hlt, by rw [hmj']; simp, fun q hq => ?_⟩
   have := List.pairwise_iff_getElem.1 hbp q j (by simp; omega) (by simpa using hlt) hq
   simp only [List.getElem_map, Array.getElem_toList, hmj'] at this
   simp
   omega
  simp [Instr.entryStore, zcE hb, hj, asInt, asIntOf, zeu _ hb]
end runs
end Go.Sx
namespace Go.Sx
open Go
open Classical in
noncomputable def zr4 {κ α : Type _} (G : κ -> α) (k : κ) (a : α) : κ -> α := fun k' => if k' = k then a else G k'
theorem zpN {κ α : Type _} (G : κ -> α) (k : κ) (a : α) : zr4 G k a k = a := if_pos rfl
theorem zoJ {κ α : Type _} (G : κ -> α) {k k' : κ} (a : α) (h : k' ≠ k) : zr4 G k a k' = G k' := if_neg h
theorem zli {β w S B F} {y : Sub} : zeN w S B F y ↔ za3 β w S B F y.so := by
 cases y with
 | vec s L => exact Iff.rfl
 | map M es =>
   constructor
   . rintro ⟨b, ents, clock, h1, h2, h3, h4, h5⟩
     exact ⟨b, ents, clock, h1, h2, h3, zd5 (fun _ e => e) h4, h5, trivial⟩
   . rintro ⟨b, ents, clock, h1, h2, h3, h4, h5, _⟩
     exact ⟨b, ents, clock, h1, h2, h3, zd5 (fun _ e => e) h4, h5⟩
def zsB (id : Nat) : Sub -> SV
 | .vec _ L => .slc id 0 L.length
 | .map _ _ => .mp id
theorem znm {β w S B} {y : Sub} {v : Value} {id : Nat} (hB : β id = some B) (h : Hnd B y v) : rel β w S (zsB id y) v := by
 cases y with
 | vec s L => exact ⟨B, hB, h⟩
 | map M es => obtain ⟨b, h1, h2⟩ := h; exact ⟨B, b, hB, h1, h2⟩
theorem zb4 {M : zaj} {key : M.κ} {es : List (M.κ × M.ν)} {j : Nat} (h : zao M key es = some j) : es[j]? = some (key, zaf M key es) := by
 obtain ⟨v0, hj⟩ := zcn h
 rw [zaf, zef, h]
 simp [hj]
theorem zeW {M : zaj} {key : M.κ} {es : List (M.κ × M.ν)} (h : zao M key es = none) : zaf M key es = M.d := by
 rw [zaf, zef, h]; rfl
theorem zcI {M : zaj} {key : M.κ} {es : List (M.κ × M.ν)} : (zas M key es).isSome = true ↔ ∃ j, zao M key es = some j := by
 rw [zef]
 cases h : zao M key es with
 | none => simp
 | some j => obtain ⟨v0, hj⟩ := zcn h; simp [hj]
theorem zt6 {M : zaj} {key : M.κ} {es : List (M.κ × M.ν)} {j : Nat} (h : zao M key es = some j) : key ∈ es.map (·.1) := by
 obtain ⟨v0, hj⟩ := zcn h
 exact List.mem_map.2 ⟨(key, v0), List.mem_of_getElem? hj, rfl⟩
section
variable {β : Nat -> Option zay} {own : Nat -> Nat -> Prop} {S : Nat -> Prop} {go : GO} {w : World} {M : zaj} {sub : M.ν -> Sub} {es : List (M.κ × M.ν)}
theorem zaw.take (h : zaw β own S go w) {id : Nat} (hg : go id = some (.fam M sub es none)) {B : zay} {b : Nat} (hB : β id = some B) (hb : B.blk = some b) {ents : Array MapEntry} {clock : Nat} (he : w.heap[b]? = some (.map ents clock))
 {key : M.κ} {fresh : Nat} (hf : β fresh = none) {g : Option Nat} (hgn : ∀ i, g = some i -> ∃ Bg, β i = some Bg /\ ∀ j m, zao M key es = some j -> ents.toList[j]? = some m -> Bg.str = m.born)
 (hz : zao M key es = none -> ∃ s, sub (zaf M key es) = .vec s []) :
 ∃ B0 F0, zaw (upd β fresh (some B0)) (upd (upd own id (fun x => own id x /\ ¬ F0 x)) fresh F0) S (upd (upd go id (some (.fam M sub es (some (key, fresh, g))))) fresh (some (sub (zaf M key es)).so)) w ∧
  Ext β w S (upd β fresh (some B0)) w S /\ (∀ x, F0 x -> own id x) ∧
  ∀ v, ((zao M key es = none /\ v = .slice none 0 0) \/ (∃ j m, zao M key es = some j /\ ents.toList[j]? = some m /\ v = m.val)) -> Hnd B0 (sub (zaf M key es)) v := by
  obtain ⟨B', hB', b', ents', clock', h1, ⟨h2, h2'⟩, h3, h4, G, h5, h6⟩ := h.obj _ _ hg
  rw [hB] at hB'; cases hB'
  rw [hb] at h1; cases h1
  rw [he] at h3; cases h3
  have hne : fresh ≠ id := fun e => by subst e; rw [hf] at hB; cases hB
  have hfg : go fresh = none := by
   cases e : go fresh with
   | none => rfl
   | some o => obtain ⟨B', q, _⟩ := h.obj _ _ e; rw [hf] at q; cases q
  obtain ⟨B0, F0, t1, t2, t3, t4⟩ : ∃ (B0 : zay) (F0 : Nat -> Prop), zeN w S B0 F0 (sub (zaf M key es)) /\ (∀ x, F0 x -> own id x /\ x ≠ b) /\ (∀ k, k ∈ es.map (·.1) -> k ≠ key -> ∀ x, (G k).2 x -> ¬ F0 x) ∧
   ∀ v, ((zao M key es = none /\ v = .slice none 0 0) \/ (∃ j m, zao M key es = some j /\ ents.toList[j]? = some m /\ v = m.val)) -> Hnd B0 (sub (zaf M key es)) v := by
    cases hp : zao M key es with
    | none =>
      obtain ⟨s, hs⟩ := hz hp
      rw [hs]
      refine ⟨⟨none, s, 0⟩, fun _ => False, .inl ⟨rfl, rfl, rfl, rfl, rfl⟩, fun x hx => hx.elim, fun _ _ _ _ _ hx => hx, fun v hv => ?_⟩
      rcases hv with ⟨_, rfl⟩ | ⟨j, m, e, _⟩
      . simp [Hnd, zaV]
      . cases e
    | some j =>
      obtain ⟨m, hm, hk, hv⟩ := zfs h5 j key _ (zb4 hp)
      obtain ⟨_, hv⟩ := hv
      obtain ⟨q1, q2, q3⟩ := hv (fun _ _ e => by cases e)
      refine ⟨(G key).1, (G key).2, q2, q3, fun k hk hne x hx hx' => h6 k key hk (zt6 hp) hne (fun _ _ e => by cases e) (fun _ _ e => by cases e) x hx hx', fun v hv => ?_⟩
      rcases hv with ⟨e, _⟩ | ⟨j', m', e, e', rfl⟩
      . cases e
      . cases e; rw [hm] at e'; cases e'; exact q1
  have x : Ext β w S (upd β fresh (some B0)) w S := ⟨fun i B' e => by
   by_cases hi : i = fresh
   . subst hi; rw [hf] at e; cases e
   . rw [zab _ _ hi]; exact e, fun _ e => e, fun _ _ => rfl⟩
  refine ⟨B0, F0, ⟨fun i o e => ?_, fun i j c hij hi hj hc => ?_, fun i c hi hc => ?_, h.sz⟩, x, fun y hy => (t2 y hy).1, t4⟩
  . by_cases hi : i = fresh
    . subst hi
      simp only [zac, Option.some.injEq] at e ⊢
      subst e
      exact ⟨B0, rfl, zli.1 t1⟩
    . rw [zab _ _ hi] at e ⊢
      rw [zab _ _ hi]
      by_cases hi2 : i = id
      . obtain ⟨ID, hID⟩ : ∃ ID, ID = i := ⟨i, rfl⟩
        subst hi2
        subst hID
        simp only [zac, Option.some.injEq] at e ⊢
        subst e
        refine ⟨B, hB, b, ents, clock, hb, ⟨⟨h2, fun q => (t2 _ q).2 rfl⟩, fun y hy => h2' y hy.1⟩, he, h4, G, ?_, fun k k' hk hk' hkk _ _ => h6 k k' hk hk' hkk (fun _ _ e => by cases e) (fun _ _ e => by cases e)⟩
        have key2 : ∀ (i : Nat) k v m, es[i]? = some (k, v) -> ents.toList[i]? = some m -> zcg β w S M sub G (own ID) b none k v m →
         zcg (upd β fresh (some B0)) w S M sub G (fun x => own ID x /\ ¬ F0 x) b (some (key, fresh, g)) k v m := by
          intro i k v m e1 e2 ⟨_, hv⟩
          have hi : zao M key es = some i -> k = key := fun e => by have := zb4 e; rw [e1] at this; cases this; rfl
          have hpk : k = key -> zao M key es = some i /\ v = zaf M key es := fun e => by
           subst e
           cases hp : zao M k es with
           | none => exact absurd (List.mem_map.2 ⟨(k, v), List.mem_of_getElem? e1, rfl⟩) ((zc8 M k es).1 hp)
           | some i' =>
             have := zb4 hp
             have a1 : (es.map (·.1))[i]? = some k := by simp [e1]
             have a2 : (es.map (·.1))[i']? = some k := by simp [this]
             have : i' = i := (List.getElem?_inj (List.getElem?_eq_some_iff.1 a2).1 h4.1).1 (a2.trans a1.symm)
             subst this
             have := zb4 hp
             rw [e1] at this
             cases this
             exact ⟨rfl, rfl⟩
          refine ⟨fun j g' e => ?_, fun e => ?_⟩
          . simp only [Option.some.injEq, Prod.mk.injEq] at e
            obtain ⟨rfl, rfl, rfl⟩ := e
            obtain ⟨hp, rfl⟩ := hpk rfl
            refine ⟨⟨B0, zac _ _ _, t4 _ (.inr ⟨i, m, hp, e2, rfl⟩)⟩, fun q hq => ?_⟩
            obtain ⟨Bg, r1, r2⟩ := hgn q hq
            exact ⟨Bg, x.ids _ _ r1, r2 i m hp e2⟩
          . obtain ⟨r1, r2, r3⟩ := hv (fun _ _ e => by cases e)
            have hkn : k ≠ key := fun e' => e fresh g (by rw [e'])
            exact ⟨r1, r2, fun y hy => ⟨⟨(r3 y hy).1, t3 k (List.mem_map.2 ⟨(k, v), List.mem_of_getElem? e1, rfl⟩) hkn y hy⟩, (r3 y hy).2⟩⟩
        have all : ∀ (es' : List (M.κ × M.ν)) (l : List MapEntry), (∀ (i : Nat) (k : M.κ) (v : M.ν) (m : MapEntry), es'[i]? = some (k, v) -> l[i]? = some m -> zcg β w S M sub G (own ID) b none k v m →
         zcg (upd β fresh (some B0)) w S M sub G (fun x => own ID x /\ ¬ F0 x) b (some (key, fresh, g)) k v m) -> zbv β w S M (zcg β w S M sub G (own ID) b none) es' l →
         zbv (upd β fresh (some B0)) w S M (zcg (upd β fresh (some B0)) w S M sub G (fun x => own ID x /\ ¬ F0 x) b (some (key, fresh, g))) es' l := by
          intro es'
          induction es' with
          | nil => intro l _ h; exact h
          | cons p es' ih =>
            obtain ⟨k, v⟩ := p
            rintro l hall ⟨m, r, rfl, q1, q2, q3⟩
            exact ⟨m, r, rfl, zaH x _ _ q1, hall 0 k v m rfl rfl q2, ih r (fun i k v m e1 e2 => hall (i + 1) k v m (by simpa using e1) (by simpa using e2)) q3⟩
        exact all es ents.toList key2 h5
      . rw [zab _ _ hi2] at e ⊢
        obtain ⟨B', q1, q2⟩ := h.obj _ _ e
        exact ⟨B', q1, q2.ext x (fun _ _ => rfl)⟩
  . -- apart
    have old : ∀ q, q ≠ fresh -> (upd (upd go id (some (.fam M sub es (some (key, fresh, g))))) fresh (some (sub (zaf M key es)).so) q).isSome -> ∀ z, upd (upd own id (fun x => own id x /\ ¬ F0 x)) fresh F0 q z -> (go q).isSome /\ own q z /\ (q = id -> ¬ F0 z) := by
     intro q hq hs z hz
     rw [zab _ _ hq] at hs hz
     by_cases e : q = id
     . subst e; rw [zac] at hz; exact ⟨by simp [hg], hz.1, fun _ => hz.2⟩
     . rw [zab _ _ e] at hs hz; exact ⟨hs, hz, fun e' => absurd e' e⟩
    intro hc'
    by_cases e1 : i = fresh
    . subst e1
      rw [zac] at hc
      have e2 : j ≠ i := fun e => hij e.symm
      obtain ⟨r1, r2, r3⟩ := old j e2 hj c hc'
      by_cases e3 : j = id
      . exact r3 e3 hc
      . exact h.sep j id c e3 r1 (by simp [hg]) r2 (t2 c hc).1
    . by_cases e2 : j = fresh
      . subst e2
        rw [zac] at hc'
        obtain ⟨r1, r2, r3⟩ := old i e1 hi c hc
        by_cases e3 : i = id
        . exact r3 e3 hc'
        . exact h.sep i id c e3 r1 (by simp [hg]) r2 (t2 c hc').1
      . obtain ⟨r1, r2, _⟩ := old i e1 hi c hc
        obtain ⟨r4, r5, _⟩ := old j e2 hj c hc'
        exact h.sep i j c hij r1 r4 r2 r5
  . by_cases e1 : i = fresh
    . subst e1
      rw [zac] at hc
      exact h.st id c (by simp [hg]) (t2 c hc).1
    . rw [zab _ _ e1] at hi hc
      by_cases e2 : i = id
      . subst e2; rw [zac] at hc; exact h.st i c (by simp [hg]) hc.1
      . rw [zab _ _ e2] at hi hc; exact h.st i c hi hc
theorem zdy {f f' : MapEntry -> MapEntry} : ∀ {l : List MapEntry} {i : Nat}, (∀ m, l[i]? = some m -> f m = f' m) -> l.modify i f = l.modify i f'
 | [], i, _ => by cases i <;> rfl
 | m :: l, 0, h => by simp [h m rfl]
 | m :: l, i + 1, h => by
   have := zdy (f := f) (f' := f') (l := l) (i := i) (fun m' hm => h m' (by simpa using hm))
   simp [this]
theorem zaw.fput (h : zaw β own S go w) {id : Nat} {hh : Option (M.κ × Nat × Option Nat)} (hg : go id = some (.fam M sub es hh)) {B : zay} {b : Nat} (hB : β id = some B) (hb : B.blk = some b) {ents : Array MapEntry} {clock : Nat} (he : w.heap[b]? = some (.map ents clock))
 {key : M.κ} (hole : ze1 hh key) {j : Nat} {x : M.ν} (hj : go j = some (sub x).so) {Bj : zay} (hBj : β j = some Bj) {kv val : Value} (hkv : rel β w S (zaS M.one (M.ek key)) kv) (hval : Hnd Bj (sub x) val) {w' : World} {ents' : Array MapEntry} {clock' : Nat}
 (hents : (zao M key es = none /\ ents'.toList = ents.toList ++ [{ key := kv, val := val, born := clock }] /\ clock' = clock + 1) \/ ∃ i, zao M key es = some i /\ ents'.toList = (ents.toList.modify i fun e => { e with key := kv, val := val }) /\ clock' = clock)
 (hw1 : w'.heap[b]? = some (.map ents' clock')) (hw2 : ∀ y, y ≠ b -> w'.heap[y]? = w.heap[y]?) (hw3 : w'.heap.size = w.heap.size) :
 zaw β (upd own id (fun y => own id y \/ own j y)) S (upd (upd go id (some (.fam M sub (zan M key x es) none))) j none) w' /\ own id b := by
  obtain ⟨B', hB', b', ents0, clock0, h1, ⟨h2, h2'⟩, h3, ⟨h4, h4', h4''⟩, G, h5, h6⟩ := h.obj _ _ hg
  rw [hB] at hB'; cases hB'
  rw [hb] at h1; cases h1
  rw [he] at h3; cases h3
  have hjid : j ≠ id := fun e => by
   subst e; rw [hg] at hj
   have := Option.some.inj hj
   cases hs : sub x <;> rw [hs] at this <;> simp [Sub.so] at this
  have hsj : (go j).isSome := by simp [hj]
  have hsi : (go id).isSome := by simp [hg]
  have nb : ∀ i, i ≠ id -> (go i).isSome -> ¬ own i b := fun i hi hs hc => h.sep i id b hi hs hsi hc h2
  have xx : Ext β w S β w' S := ⟨fun _ _ e => e, fun _ e => e, fun y hy => hw2 y (fun e => by subst e; exact h.st id y hsi h2 hy)⟩
  have there : ∀ y, y < w.heap.size -> (w'.heap[y]?).isSome = true := fun y hy => by
   rw [<- hw3] at hy
   simp [hy]
  refine ⟨⟨fun i o e => ?_, fun i q c hiq hi hq hc hc' => ?_, fun i c hi hc => ?_, fun c hc => by rw [hw3]; exact h.sz c hc⟩, h2⟩
  . by_cases ej : i = j
    . subst ej; rw [zac] at e; cases e
    rw [zab _ _ ej] at e
    by_cases ei : i = id
    . subst ei
      simp only [zac, Option.some.injEq] at e ⊢
      subst e
      obtain ⟨Bq, r1, r2⟩ := h.obj _ _ hj
      rw [hBj] at r1; cases r1
      have hsub : zeN w' S Bj (own j) (sub x) := ((zli (β := β)).2 r2).ext (fun _ e => e) xx.heap (fun y hy => hw2 y (fun e => nb j hjid hsj (e ▸ hy)))
      obtain ⟨G', G1, G2⟩ : ∃ G' : M.κ -> zay × (Nat -> Prop), G' key = (Bj, own j) /\ ∀ k, k ≠ key -> G' k = G k := ⟨zr4 G key (Bj, own j), zpN _ _ _, fun k hk => zoJ _ _ hk⟩
      have hV1 : ∀ m : MapEntry, m.val = val -> zcg β w' S M sub G' (fun y => own i y \/ own j y) b none key x m := fun m hm => by
       refine ⟨(fun _ _ e => by cases e), fun _ => ?_⟩
       rw [G1, hm]
       exact ⟨hval, hsub, fun y hy => ⟨.inr hy, fun e => nb j hjid hsj (e ▸ hy)⟩⟩
      have hV2 : ∀ k' v' m, k' ∈ es.map (·.1) -> k' ≠ key -> zcg β w S M sub G (own i) b hh k' v' m -> zcg β w' S M sub G' (fun y => own i y \/ own j y) b none k' v' m := by
       intro k' v' m _ hk ⟨_, hv⟩
       refine ⟨(fun _ _ e => by cases e), fun _ => ?_⟩
       obtain ⟨r1, r2, r3⟩ := hv (fun a c e => hk (hole _ _ _ e))
       rw [G2 k' hk]
       exact ⟨r1, r2.ext (fun _ e => e) xx.heap (fun y hy => hw2 y (r3 y hy).2), fun y hy => ⟨.inl (r3 y hy).1, (r3 y hy).2⟩⟩
      have hrel : zbv β w' S M (zcg β w' S M sub G' (fun y => own i y \/ own j y) b none) (zan M key x es) ents'.toList /\ ((zan M key x es).map (·.1)).Nodup /\ (ents'.toList.map (·.born)).Pairwise (· < ·) /\ (∀ m ∈ ents'.toList, m.born < clock') := by
       have h5' : zbv β w' S M (zcg β w S M sub G (own i) b hh) es ents.toList := ze4 xx M es (fun _ _ _ _ h => h) _ h5
       have hkv' := zaH xx _ _ hkv
       rcases hents with ⟨hp, e1, e2⟩ | ⟨q, hp, e1, e2⟩
       . rw [e1, e2]
         refine ⟨zhN hkv' (hV1 _ rfl) hV2 h5' hp, ?_, ?_, ?_⟩
         . rw [zcJ, hp]
           refine List.nodup_append.2 ⟨h4, by simp, ?_⟩
           intro a ha b hb e
           simp at hb
           subst hb; subst e
           exact (zc8 M _ es).1 hp ha
         . rw [List.map_append, List.pairwise_append]
           refine ⟨h4', by simp, fun p hp q hq => ?_⟩
           obtain ⟨m, hm, rfl⟩ := List.mem_map.1 hp
           simp at hq
           subst hq
           exact h4'' m hm
         . intro m hm
           rcases List.mem_append.1 hm with hm | hm
           . exact Nat.lt_succ_of_lt (h4'' m hm)
           . simp at hm; subst hm; simp
       . rw [e1, e2]
         refine ⟨zmD hkv' h4 hV2 (fun _ m _ => hV1 _ rfl) h5' hp, ?_, ?_, ?_⟩
         . rw [zcJ, hp]; exact h4
         . rw [zdQ]; exact h4'
         . intro m' hm'
           obtain ⟨m'', r1, r2⟩ := zdk hm'
           rw [<- r2]; exact h4'' m'' r1
      obtain ⟨k1, k2, k3, k4⟩ := hrel
      refine ⟨B, hB, b, ents', clock', hb, ⟨.inl h2, fun y hy => ?_⟩, hw1, ⟨k2, k3, k4⟩, G', k1, fun k k' hk hk' hkk _ _ y hy hy' => ?_⟩
      . rcases hy with hy | hy
        . exact there y (zde (h2' y hy))
        . exact there y (r2.lt y hy)
      . have inG : ∀ k, k ∈ (zan M key x es).map (·.1) -> k ≠ key -> k ∈ es.map (·.1) := fun k hk hne => by
         rw [zcJ] at hk
         split at hk
         . exact hk
         . rcases List.mem_append.1 hk with hk | hk
           . exact hk
           . simp at hk; exact absurd hk hne
        have Gown : ∀ k, k ∈ es.map (·.1) -> k ≠ key -> ∀ y, (G k).2 y -> own i y := fun k hk hne y hy => by
         obtain ⟨⟨k0, v0⟩, hm, rfl⟩ := List.mem_map.1 hk
         obtain ⟨p, hp⟩ := List.getElem?_of_mem hm
         obtain ⟨m, _, _, _, hv⟩ := zfs h5 p _ _ hp
         exact ((hv (fun a c e => hne (hole _ _ _ e))).2.2 y hy).1
        by_cases e1 : k = key
        . subst e1
          have e2 : k' ≠ k := fun e => hkk e.symm
          rw [G1] at hy; rw [G2 k' e2] at hy'
          exact h.sep j i y hjid hsj hsi hy (Gown k' (inG k' hk' e2) e2 y hy')
        . rw [G2 k e1] at hy
          by_cases e2 : k' = key
          . subst e2
            rw [G1] at hy'
            exact h.sep j i y hjid hsj hsi hy' (Gown k (inG k hk e1) e1 y hy)
          . rw [G2 k' e2] at hy'
            exact h6 k k' (inG k hk e1) (inG k' hk' e2) hkk (fun a c e => e1 (hole _ _ _ e)) (fun a c e => e2 (hole _ _ _ e)) y hy hy'
    . rw [zab _ _ ei] at e
      rw [zab _ _ ei]
      obtain ⟨Bq, r1, r2⟩ := h.obj _ _ e
      exact ⟨Bq, r1, r2.ext xx (fun y hy => hw2 y (fun e' => nb i ei (by simp [e]) (e' ▸ hy)))⟩
  . have nj : i ≠ j /\ q ≠ j := ⟨(fun e => by subst e; rw [zac] at hi; cases hi), (fun e => by subst e; rw [zac] at hq; cases hq)⟩
    rw [zab _ _ nj.1] at hi
    rw [zab _ _ nj.2] at hq
    have hi' : (go i).isSome := by
     by_cases e : i = id
     . subst e; exact hsi
     . rwa [zab _ _ e] at hi
    have hq' : (go q).isSome := by
     by_cases e : q = id
     . subst e; exact hsi
     . rwa [zab _ _ e] at hq
    by_cases e1 : i = id
    . subst e1
      rw [zac] at hc
      rw [zab _ _ (fun e => hiq e.symm)] at hc'
      rcases hc with hc | hc
      . exact h.sep i q c hiq hi' hq' hc hc'
      . exact h.sep j q c (fun e => nj.2 e.symm) hsj hq' hc hc'
    . rw [zab _ _ e1] at hc
      by_cases e2 : q = id
      . subst e2
        rw [zac] at hc'
        rcases hc' with hc' | hc'
        . exact h.sep i q c hiq hi' hq' hc hc'
        . exact h.sep i j c nj.1 hi' hsj hc hc'
      . rw [zab _ _ e2] at hc'
        exact h.sep i q c hiq hi' hq' hc hc'
  . by_cases ej : i = j
    . subst ej; rw [zac] at hi; cases hi
    rw [zab _ _ ej] at hi
    by_cases e : i = id
    . subst e
      rw [zac] at hc
      rcases hc with hc | hc
      . exact h.st i c hsi hc
      . exact h.st j c hsj hc
    . rw [zab _ _ e] at hi hc
      exact h.st i c hi hc
end
end Go.Sx
