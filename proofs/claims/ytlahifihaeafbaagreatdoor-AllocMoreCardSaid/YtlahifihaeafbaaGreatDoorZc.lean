/- Part 3 of 11 of a proof of the law AllocMore: what the last part leans on. -/
import Derived.Test.YtlahifihaeafbaaGreatDoorZb
import Derived.RangeFuncCalls
import Derived.OrdersIn
import Derived.ChangeKeysEq
import Derived.Laws.StructEq
set_option linter.all false
set_option maxRecDepth 100000
namespace Go.Sx
open Go
theorem pvsv_rel {β β' : Nat -> Option Base} {w S Sp} (hs : ∀ b, S b -> Sp b) {p : PV} {x : Value} (h : rel β w S p.sv x) : rel β' w Sp p.sv x := by
 cases p <;> simp only [PV.sv, rel] at h ⊢ <;> try exact h
 case sl => exact relP_ext hs (fun _ _ => rfl) _ _ h
 case pt =>
  obtain ⟨b, off, arr, T, fz, h1, h2, h3, h4⟩ := h
  exact ⟨b, off, arr, T, fz, h1, hs b h2, h3, relPL_ext hs (fun _ _ => rfl) _ _ h4⟩
theorem pvsvs_rel {β β' : Nat -> Option Base} {w S Sp} (hs : ∀ b, S b -> Sp b) : ∀ {l : List PV} {xs : List Value}, relL β w S (l.map PV.sv) xs -> relL β' w Sp (l.map PV.sv) xs
 | [], xs, h => by simpa [relL] using h
 | p :: l, xs, h => by
   simp only [List.map, relL] at h ⊢
   obtain ⟨x, r, e, h1, h2⟩ := h
   exact ⟨x, r, e, pvsv_rel hs h1, pvsvs_rel hs h2⟩
theorem svOf_rel {β β' : Nat -> Option Base} {w S Sp} (hs : ∀ b, S b -> Sp b) {one : Bool} {l : List PV} {x : Value} (h : rel β w S (svOf one l) x) : rel β' w Sp (svOf one l) x := by
 unfold svOf at h ⊢
 cases one with
 | true =>
   cases l with
   | nil => simp [rel]
   | cons p l => exact pvsv_rel hs h
 | false =>
   simp only [rel] at h ⊢
   obtain ⟨xs, e, h⟩ := h
   exact ⟨xs, e, pvsvs_rel hs h⟩
theorem relE_any {β β' : Nat -> Option Base} {w S Sp} (hs : ∀ b, S b -> Sp b) {M : MapTy} : ∀ {es : List (M.κ × M.ν)} {l : List MapEntry}, relE β w S M es l -> relE β' w Sp M es l
 | [], l, h => by simpa [relE] using h
 | (k, v) :: es, l, h => by
   simp only [relE] at h ⊢
   obtain ⟨m, r, e, h1, h2, h3⟩ := h
   exact ⟨m, r, e, svOf_rel hs h1, svOf_rel hs h2, relE_any hs h3⟩
theorem relF_anyV {β β' : Nat -> Option Base} {w S Sp} (hs : ∀ b, S b -> Sp b) {M : MapTy} {V V' : M.κ -> M.ν -> MapEntry -> Prop} (hV : ∀ k v m, V k v m -> V' k v m) : ∀ {es : List (M.κ × M.ν)} {l : List MapEntry}, relF β w S M V es l -> relF β' w Sp M V' es l
 | [], l, h => by simpa [relF] using h
 | (k, v) :: es, l, h => by
   simp only [relF] at h ⊢
   obtain ⟨m, r, h1, h2, h3, h4⟩ := h
   exact ⟨m, r, h1, svOf_rel hs h2, hV _ _ _ h3, relF_anyV hs hV h4⟩
theorem relF_any {β β' : Nat -> Option Base} {w S Sp} (hs : ∀ b, S b -> Sp b) {M : MapTy} {sub : M.ν -> Sub} {G : M.κ -> Base × (Nat -> Prop)} {F : Nat -> Prop} {b : Nat} {es : List (M.κ × M.ν)} {l : List MapEntry}
 (h : relF β w S M (famV β w S M sub G F b none) es l) : relF β' w Sp M (famV β' w Sp M sub G F b none) es l :=
  relF_anyV hs (fun k v m hv => by
   obtain ⟨_, h2⟩ := hv
   refine ⟨fun j g e => ?_, fun e => ?_⟩
   . cases e
   . obtain ⟨q1, q2, q3⟩ := h2 e
     exact ⟨q1, q2.ext hs (fun _ _ => rfl) (fun _ _ => rfl), q3⟩) h
section
variable {gt : GT} {go : GO} {R : List Loc} {v : Option SV} {os : List (Nat × Option SO)} {k : Nat}
theorem mSVss_inv (s : Nat) : ∀ (ps : List (List SV)) {ρ : Ren} {cs : List (List SV)} {f : Ren -> RT} {R v os k}, (mSVss ρ ps cs f).Runs gt go R v os k -> ∃ ρ' R', (f ρ').Runs gt go R' v os k ∧ ρ.le ρ' ∧ (ρ.inj -> ρ'.inj) ∧ ps.length = cs.length ∧
 ∀ ρ2, ρ'.le ρ2 -> ∀ {β own S w Sp}, Fit go ρ2 β own S w Sp -> ∀ sp xs, relR β w S s cs xs -> relR (bOf ρ2 β sp) w Sp s ps xs
  | [], ρ, cs, f, R, v, os, k, h => by
    simp only [mSVss] at h
    split at h
    . exact ⟨_, _, h, .refl _, id, rfl, fun _ _ _ _ _ _ _ _ _ xs hx => by simp [relR]⟩
    . cases h
  | p :: ps, ρ, cs, f, R, v, os, k, h => by
    simp only [mSVss] at h
    split at h
    . cases h
    . rename_i c cs
      obtain ⟨ρ1, R1, h1, l1, i1, m1⟩ := mSVs_inv p h
      obtain ⟨ρ2, R2, h2, l2, i2, e2, m2⟩ := mSVss_inv s ps h1
      refine ⟨ρ2, R2, h2, l1.trans l2, fun e => i2 (i1 e), by simp [e2], fun ρ3 l3 β own S w Sp F sp xs hx => ?_⟩
      simp only [relR] at hx ⊢
      obtain ⟨q1, q2, q3⟩ := hx
      have q4 := m1 ρ3 (l2.trans l3) F sp _ q2
      exact ⟨by have := relL_length _ _ q2; have := relL_length _ _ q4; omega, q4, m2 ρ3 l3 F sp _ q3⟩
def OOk (go : GO) (ρ ρ' : Ren) (p c : SO) : Prop :=
 ρ.le ρ' ∧ (ρ.inj -> ρ'.inj) ∧ ∀ ρ2, ρ'.le ρ2 -> ∀ {β own S w Sp}, Fit go ρ2 β own S w Sp -> ∀ sp B F, ObjOk β w S B F c -> ObjOk (bOf ρ2 β sp) w Sp B F p
theorem mSO_inv {p c : SO} {ρ : Ren} {f : Ren -> RT} (h : (mSO ρ p c f).Runs gt go R v os k) : ∃ ρ' R', (f ρ').Runs gt go R' v os k ∧ OOk go ρ ρ' p c := by
 cases p with
 | row ps =>
   simp only [mSO] at h
   split at h
   . split at h
     . rename_i hf
       cases h with
       | req hp h =>
         subst hp
         refine ⟨_, _, h, .refl _, id, fun ρ2 l2 β own S w Sp Ft sp B F ho => ?_⟩
         obtain ⟨b, arr, T, q1, q2, q3, q4, q5, q6⟩ := ho
         exact ⟨b, arr, T, q1, q2, q3, q4, q5, flatK_rel hf q6⟩
     obtain ⟨ρ1, R1, h1, l1, i1, m1⟩ := mSVs_inv ps h
     refine ⟨ρ1, R1, h1, l1, i1, fun ρ2 l2 β own S w Sp Ft sp B F ho => ?_⟩
     obtain ⟨b, arr, T, q1, q2, q3, q4, q5, q6⟩ := ho
     have q7 := m1 ρ2 l2 Ft sp _ q6
     exact ⟨b, arr, T, q1, by rw [q2, <- relL_length _ _ q6, relL_length _ _ q7], q3, q4, q5, q7⟩
   . cases h
 | vec s L =>
   simp only [mSO] at h
   split at h
   . cases h with
     | req hp h =>
       obtain ⟨rfl, rfl⟩ := hp
       refine ⟨_, _, h, .refl _, id, fun ρ2 l2 β own S w Sp Ft sp B F ho => ?_⟩
       rcases ho with ho | ⟨b, arr, T, q1, q2, q3, q4, q5, q6, q7⟩
       . exact .inl ho
       . exact .inr ⟨b, arr, T, q1, q2, q3, q4, q5, q6, relPR_ext Ft.sub (fun _ _ => rfl) _ _ _ q7⟩
   . split at h
     . rename_i s' M L' hM
       cases h with
       | req hp h =>
         obtain ⟨rfl, rfl⟩ := hp
         refine ⟨_, _, h, .refl _, id, fun ρ2 l2 β own S w Sp Ft sp B F ho => ?_⟩
         rcases ho with ⟨q1, rfl, q3, q4, q5⟩ | ⟨b, arr, T, q1, q2, q3, q4, q5, q6, q7⟩
         . simp only [pvss, Option.some.injEq] at hM
           subst hM
           exact .inl ⟨q1, rfl, q3, q4, q5⟩
         . obtain ⟨q8, q9⟩ := pvss_rel s hM q7
           exact .inr ⟨b, arr, T, q1, q2, q3, q4, q5, by omega, relPR_ext Ft.sub (fun _ _ => rfl) _ _ _ q8⟩
     . cases h
   . cases h
 | arr s L =>
   simp only [mSO] at h
   split at h
   . cases h with
     | req hp h =>
       subst hp
       obtain ⟨ρ1, R1, h1, l1, i1, e1, m1⟩ := mSVss_inv s L h
       refine ⟨ρ1, R1, h1, l1, i1, fun ρ2 l2 β own S w Sp Ft sp B F ho => ?_⟩
       rcases ho with ⟨q1, rfl, q3, q4, q5⟩ | ⟨b, arr, T, q1, q2, q3, q4, q5, q6, q7⟩
       . exact .inl ⟨q1, List.length_eq_zero_iff.1 e1, q3, q4, q5⟩
       . exact .inr ⟨b, arr, T, q1, q2, q3, q4, q5, by omega, m1 ρ2 l2 Ft sp _ q7⟩
   . cases h
 | map M es it =>
   simp only [mSO] at h
   split at h
   . rename_i M' es' it'
     cases it with
     | none =>
       cases h with
       | req hp h =>
         refine ⟨_, _, h, .refl _, id, fun ρ2 l2 β own S w Sp Ft sp B F ho => ?_⟩
         rw [hp]
         obtain ⟨b, ents, clock, q1, q2, q3, q4, q5, _⟩ := ho
         exact ⟨b, ents, clock, q1, q2, q3, relE_any Ft.sub q4, q5, trivial⟩
     | some p =>
       obtain ⟨rid, left, cur⟩ := p
       cases it' with
       | none => cases h
       | some p' =>
         obtain ⟨rid', left', cur'⟩ := p'
         dsimp only at h
         obtain ⟨ρ1, R1, h, l1, i1, hl⟩ := bind_inv h
         cases h with
         | req hp h =>
           refine ⟨_, _, h, l1, i1, fun ρ2 l2 β own S w Sp Ft sp B F ho => ?_⟩
           rw [SO.map.injEq] at hp
           obtain ⟨rfl, he, hi⟩ := hp
           have he := eq_of_heq he
           subst he
           have hi := eq_of_heq hi
           simp only [Option.some.injEq, Prod.mk.injEq, true_and] at hi
           obtain ⟨rfl, rfl⟩ := hi
           obtain ⟨b, ents, clock, q1, q2, q3, q4, q5, B', r, seen, e1, e2⟩ := ho
           exact ⟨b, ents, clock, q1, q2, q3, relE_any Ft.sub q4, q5, B', r, seen, by rw [bOf_some (l2.m _ _ hl)]; exact e1, e2⟩
   . cases h
 | itr i =>
   simp only [mSO] at h
   split at h
   . obtain ⟨ρ1, R1, h, l1, i1, hl⟩ := bind_inv h
     refine ⟨_, _, h, l1, i1, fun ρ2 l2 β own S w Sp Ft sp B F ho => ?_⟩
     obtain ⟨q1, Bi, q2⟩ := ho
     exact ⟨q1, Bi, by rw [bOf_some (l2.m _ _ hl)]; exact q2⟩
   . cases h
 | lrec l r e =>
   simp only [mSO] at h
   split at h
   . cases h with
     | req hp h =>
       obtain ⟨rfl, rfl, rfl⟩ := hp
       exact ⟨_, _, h, .refl _, id, fun ρ2 l2 β own S w Sp Ft sp B F ho => ho⟩
   . cases h
 | vex s q =>
   simp only [mSO] at h
   split at h
   . cases h with
     | req hp h =>
       obtain ⟨rfl, hq⟩ := hp
       refine ⟨_, _, h, .refl _, id, fun ρ2 l2 β own S w Sp Ft sp B F ho => ⟨_, hq, ?_⟩⟩
       rcases ho with ho | ⟨b, arr, T, q1, q2, q3, q4, q5, q6, q7⟩
       . exact .inl ho
       . exact .inr ⟨b, arr, T, q1, q2, q3, q4, q5, q6, relPR_ext Ft.sub (fun _ _ => rfl) _ _ _ q7⟩
   . split at h
     . rename_i s' M L' hM
       cases h with
       | req hp h =>
         obtain ⟨rfl, hq⟩ := hp
         refine ⟨_, _, h, .refl _, id, fun ρ2 l2 β own S w Sp Ft sp B F ho => ⟨_, hq, ?_⟩⟩
         rcases ho with ⟨q1, rfl, q3, q4, q5⟩ | ⟨b, arr, T, q1, q2, q3, q4, q5, q6, q7⟩
         . simp only [pvss, Option.some.injEq] at hM
           subst hM
           exact .inl ⟨q1, rfl, q3, q4, q5⟩
         . obtain ⟨q8, q9⟩ := pvss_rel s hM q7
           exact .inr ⟨b, arr, T, q1, q2, q3, q4, q5, by omega, relPR_ext Ft.sub (fun _ _ => rfl) _ _ _ q8⟩
     . cases h
   . cases h with
     | req hp h =>
       obtain ⟨rfl, hq⟩ := hp
       refine ⟨_, _, h, .refl _, id, fun ρ2 l2 β own S w Sp Ft sp B F ho => ?_⟩
       obtain ⟨L, hL, ho⟩ := ho
       exact ⟨L, hq L hL, ho.ext Ft.sub (fun _ _ => rfl) (fun _ _ => rfl)⟩
   . cases h
 | mapE M es k g => simp only [mSO] at h; cases h
 | fam M sub es hh =>
   simp only [mSO] at h
   split at h
   . split at h
     . rename_i M' sub' es'
       cases h with
       | req hp h =>
         refine ⟨_, _, h, .refl _, id, fun ρ2 l2 β own S w Sp Ft sp B F ho => ?_⟩
         rw [hp]
         obtain ⟨b, ents, clock, q1, q2, q3, q4, G, q5, q6⟩ := ho
         exact ⟨b, ents, clock, q1, q2, q3, q4, G, relF_any Ft.sub q5, q6⟩
     . cases h
   . cases h
def OIs (go : GO) (ρ : Ren) (i : Nat) (o : SO) : Prop :=
 (∃ j c, look i ρ.m = some (some j) ∧ go j = some c ∧ ∀ ρ2, ρ.le ρ2 -> ∀ {β own S w Sp}, Fit go ρ2 β own S w Sp -> ∀ sp B F, ObjOk β w S B F c -> ObjOk (bOf ρ2 β sp) w Sp B F o) ∨
 (look i ρ.m = some none ∧ ∃ r s, o = Rows.so s r ∧ r.len = 0)
theorem OIs.mono {go ρ ρ' i o} (h : OIs go ρ i o) (l : ρ.le ρ') : OIs go ρ' i o := by
 rcases h with ⟨j, c, h1, h2, h3⟩ | ⟨h1, h2⟩
 . exact .inl ⟨j, c, l.m _ _ h1, h2, fun ρ2 l2 => h3 ρ2 (l.trans l2)⟩
 . exact .inr ⟨l.m _ _ h1, h2⟩
theorem mObjs_inv : ∀ (l : List (Nat × SO)) {ρ : Ren} {f : Ren -> RT} {R v os k}, (mObjs ρ l f).Runs gt go R v os k -> ∃ ρ' R', (f ρ').Runs gt go R' v os k ∧ ρ.le ρ' ∧ (ρ.inj -> ρ'.inj) ∧ ∀ p ∈ l, OIs go ρ' p.1 p.2
 | [], ρ, f, R, v, os, k, h => ⟨ρ, _, h, .refl _, id, fun p hp => by cases hp⟩
 | (i, o) :: l, ρ, f, R, v, os, k, h => by
   simp only [mObjs] at h
   split at h
   . cases h
   . rename_i hl
     have key : ∀ {r : RT}, (nilSO o r).Runs gt go R v os k -> r.Runs gt go R v os k ∧ ∃ q s, o = Rows.so s q ∧ q.len = 0 := by
      intro r h
      cases o with
      | vec s L => simp only [nilSO] at h; cases h with | req hp h => exact ⟨h, .inr L, s, rfl, by simp [Rows.len, hp]⟩
      | arr s L =>
        simp only [nilSO] at h
        split at h
        . exact ⟨h, .inl [], s, rfl, rfl⟩
        . cases h
      | _ => simp only [nilSO] at h; cases h
     obtain ⟨h, hq⟩ := key h
     obtain ⟨ρ1, R1, h1, l1, i1, m1⟩ := mObjs_inv l h
     refine ⟨ρ1, R1, h1, l1, i1, fun p hp => ?_⟩
     rcases List.mem_cons.1 hp with rfl | hp
     . exact .inr ⟨l1.m _ _ hl, hq⟩
     . exact m1 p hp
   . rename_i j hl
     cases h with
     | rO h =>
       dsimp only at h
       split at h
       . rename_i c hgo
         obtain ⟨ρ1, R1, h1, l1, i1, m1⟩ := mSO_inv h
         obtain ⟨ρ2, R2, h2, l2, i2, m2⟩ := mObjs_inv l h1
         refine ⟨ρ2, R2, h2, l1.trans l2, fun e => i2 (i1 e), fun p hp => ?_⟩
         rcases List.mem_cons.1 hp with rfl | hp
         . exact .inl ⟨j, c, (l1.trans l2).m _ _ hl, hgo, fun ρ3 l3 => m1 ρ3 (l2.trans l3)⟩
         . exact m2 p hp
       . cases h
end
def lent (go : GO) (ρ : Ren) (own : Nat -> Nat -> Prop) : Nat -> Prop := fun b => ∃ j, j ∈ ρ.bor ∧ (go j).isSome ∧ own j b
theorem fit_of {go ρ β own S w} (h : MemOk β own S go w) : Fit go ρ β own S w (fun b => S b ∨ lent go ρ own b) :=
 ⟨h, fun _ e => .inl e, fun j hj hs _ hb => .inr ⟨j, hj, hs, hb⟩⟩
theorem match_mem {go : GO} {ρ : Ren} {β own S w} (h : MemOk β own S go w) (hinj : ρ.inj) (l : List (Nat × SO)) (hl : ∀ p ∈ l, OIs go ρ p.1 p.2)
 (hb : ∀ i j, look i ρ.m = some (some j) -> j ∉ ρ.bor) {sp : Nat -> Nat} (hsp : ∀ i o, look i l = some o -> look i ρ.m = some none -> ∀ r s, o = Rows.so s r -> r.len = 0 -> sp i = s) :
 MemOk (bOf ρ β sp) (ownOf ρ own) (fun b => S b ∨ lent go ρ own b) (fun i => look i l) w := by
  have hown : ∀ i j, look i ρ.m = some (some j) -> ownOf ρ own i = own j := fun i j e => by simp [ownOf, e]
  have hown0 : ∀ i, look i ρ.m = some none -> ownOf ρ own i = fun _ => False := fun i e => by simp [ownOf, e]
  refine ⟨fun i o e => ?_, fun i i' b hne hi hi' => ?_, fun i b hi => ?_, fun b hb => ?_⟩
  . rcases hl _ (look_mem e) with ⟨j, c, h1, h2, h3⟩ | ⟨h1, r, s, h2, h3⟩
    . obtain ⟨B, hB, ho⟩ := h.obj j c h2
      refine ⟨B, by rw [bOf_some h1]; exact hB, ?_⟩
      rw [hown i j h1]
      exact h3 ρ (.refl _) (fit_of h) sp B _ ho
    . refine ⟨_, bOf_nil h1, ?_⟩
      simp only at h1 h2
      subst h2
      rw [hown0 i h1, hsp i _ e h1 r s rfl h3]
      exact rows_nil h3
  . obtain ⟨o, ho⟩ := Option.isSome_iff_exists.1 hi
    obtain ⟨o', ho'⟩ := Option.isSome_iff_exists.1 hi'
    rcases hl _ (look_mem ho) with ⟨j, c, h1, h2, _⟩ | ⟨h1, _⟩
    . rcases hl _ (look_mem ho') with ⟨j', c', h1', h2', _⟩ | ⟨h1', _⟩
      . rw [hown i j h1, hown i' j' h1']
        exact h.sep j j' b (fun e => by subst e; exact hne (hinj i i' j h1 h1')) (by simp [h2]) (by simp [h2'])
      . rw [hown0 i' h1']; exact fun _ e => e
    . rw [hown0 i h1]; exact fun e => e.elim
  . obtain ⟨o, ho⟩ := Option.isSome_iff_exists.1 hi
    rcases hl _ (look_mem ho) with ⟨j, c, h1, h2, _⟩ | ⟨h1, _⟩
    . rw [hown i j h1]
      rintro e (e' | ⟨j', hj', hs', e'⟩)
      . exact h.st j b (by simp [h2]) e e'
      . exact h.sep j j' b (fun q => by subst q; exact hb i j h1 hj') (by simp [h2]) hs' e e'
    . rw [hown0 i h1]; exact fun e => e.elim
  . rcases hb with e | ⟨j, _, hs, e⟩
    . exact h.sz b e
    . obtain ⟨c, hc⟩ := Option.isSome_iff_exists.1 hs
      obtain ⟨B, _, ho⟩ := h.obj j c hc
      exact ho.lt b e
mutual
theorem rel_ren {β β' : Nat -> Option Base} {w S} {σ : Nat -> Nat} (hσ : ∀ i B, β i = some B -> β' (σ i) = some B) : ∀ (s : SV) (x : Value), rel β w S s x -> rel β' w S (s.ren σ) x
 | .any, _, _ => by simp [SV.ren, rel]
 | .int _ _, _, h => by simpa [SV.ren, rel] using h
 | .bool _, _, h => by simpa [SV.ren, rel] using h
 | .pr _, _, h => by simpa [SV.ren, rel] using h
 | .tt, _, h => by simpa [SV.ren, rel] using h
 | .ff, _, h => by simpa [SV.ren, rel] using h
 | .str _, _, h => by simpa [SV.ren, rel] using h
 | .val _, _, h => by simpa [SV.ren, rel] using h
 | .rd _, _, h => by simpa [SV.ren, rel] using h
 | .rp _ _, _, h => by simpa [SV.ren, rel] using h
 | .ra _ _, _, h => by simpa [SV.ren, rel] using h
 | .ptr i a b, x, h => by
   simp only [SV.ren, rel] at h ⊢
   obtain ⟨B, b, h1, h2⟩ := h
   exact ⟨B, b, hσ _ _ h1, h2⟩
 | .slc i a b, x, h => by
   simp only [SV.ren, rel] at h ⊢
   obtain ⟨B, h1, h2⟩ := h
   exact ⟨B, hσ _ _ h1, h2⟩
 | .slx i a b, x, h => by
   simp only [SV.ren, rel] at h ⊢
   obtain ⟨B, b, h1, h2⟩ := h
   exact ⟨B, b, hσ _ _ h1, h2⟩
 | .fex p, x, h => by simpa [SV.ren, rel] using h
 | .gn i, x, h => by
   simp only [SV.ren, rel] at h ⊢
   obtain ⟨B, h1, h2⟩ := h
   exact ⟨B, hσ _ _ h1, h2⟩
 | .mp i, x, h => by
   simp only [SV.ren, rel] at h ⊢
   obtain ⟨B, b, h1, h2⟩ := h
   exact ⟨B, b, hσ _ _ h1, h2⟩
 | .fn f a c, x, h => by
   simp only [SV.ren, rel] at h ⊢
   obtain ⟨xs, ys, e, h1, h2⟩ := h
   exact ⟨xs, ys, e, relL_ren hσ a _ h1, relL_ren hσ c _ h2⟩
 | .ifc t s, x, h => by
   simp only [SV.ren, rel] at h ⊢
   obtain ⟨y, e, h1⟩ := h
   exact ⟨y, e, rel_ren hσ s y h1⟩
 | .agg cs, x, h => by
   simp only [SV.ren, rel] at h ⊢
   obtain ⟨xs, e, h1⟩ := h
   exact ⟨xs, e, relL_ren hσ cs _ h1⟩
 | .tup cs, x, h => by
   simp only [SV.ren, rel] at h ⊢
   obtain ⟨xs, e, h1⟩ := h
   exact ⟨xs, e, relL_ren hσ cs _ h1⟩
theorem relL_ren {β β' : Nat -> Option Base} {w S} {σ : Nat -> Nat} (hσ : ∀ i B, β i = some B -> β' (σ i) = some B) : ∀ (l : List SV) (xs : List Value), relL β w S l xs -> relL β' w S (rens σ l) xs
 | [], _, h => by simpa [rens, relL] using h
 | s :: l, xs, h => by
   simp only [rens, relL] at h ⊢
   obtain ⟨x, r, e, h1, h2⟩ := h
   exact ⟨x, r, e, rel_ren hσ s x h1, relL_ren hσ l r h2⟩
end
theorem rens_length (σ : Nat -> Nat) : ∀ (l : List SV), (rens σ l).length = l.length
 | [] => rfl
 | _ :: l => by simp [rens, rens_length σ l]
theorem renss_length (σ : Nat -> Nat) : ∀ (l : List (List SV)), (renss σ l).length = l.length
 | [] => rfl
 | _ :: l => by simp [renss, renss_length σ l]
theorem relR_ren {β β' : Nat -> Option Base} {w S} {σ : Nat -> Nat} (hσ : ∀ i B, β i = some B -> β' (σ i) = some B) (s : Nat) : ∀ (l : List (List SV)) (xs : List Value), relR β w S s l xs -> relR β' w S s (renss σ l) xs
 | [], _, _ => by simp [renss, relR]
 | e :: l, xs, h => by
   simp only [renss, relR] at h ⊢
   exact ⟨by rw [rens_length]; exact h.1, relL_ren hσ _ _ h.2.1, relR_ren hσ s l _ h.2.2⟩
theorem ObjOk.ren {β β' : Nat -> Option Base} {w S} {σ : Nat -> Nat} (hσ : ∀ i B, β i = some B -> β' (σ i) = some B) {B F o} (h : ObjOk β w S B F o) : ObjOk β' w S B F (o.ren σ) := by
 cases o with
 | row cs =>
   obtain ⟨b, arr, T, q1, q2, q3, q4, q5, q6⟩ := h
   exact ⟨b, arr, T, q1, by rw [rens_length]; exact q2, q3, q4, q5, relL_ren hσ _ _ q6⟩
 | vec s L => exact h
 | arr s L =>
   rcases h with ⟨q1, rfl, q3⟩ | ⟨b, arr, T, q1, q2, q3, q4, q5, q6, q7⟩
   . exact .inl ⟨q1, rfl, q3⟩
   . exact .inr ⟨b, arr, T, q1, q2, q3, q4, q5, by rw [renss_length]; exact q6, relR_ren hσ s L _ q7⟩
 | map M es it =>
   obtain ⟨b, ents, clock, q1, q2, q3, q4, q5, q6⟩ := h
   refine ⟨b, ents, clock, q1, q2, q3, relE_any (fun _ e => e) q4, q5, ?_⟩
   cases it with
   | none => trivial
   | some p =>
     obtain ⟨rid, left, cur⟩ := p
     obtain ⟨B', r, seen, e1, e2⟩ := q6
     exact ⟨B', r, seen, hσ _ _ e1, e2⟩
 | itr i => obtain ⟨q1, Bi, q2⟩ := h; exact ⟨q1, Bi, hσ _ _ q2⟩
 | lrec l r e => exact h
 | vex s p => exact h
 | mapE M es k g =>
   obtain ⟨b, ents, clock, q1, q2, q3, q4, q5, i, m, v, Bg, q6, q7, q8, q9⟩ := h
   exact ⟨b, ents, clock, q1, q2, q3, relE_any (fun _ e => e) q4, q5, i, m, v, Bg, q6, q7, hσ _ _ q8, q9⟩
 | fam M sub es hh =>
   obtain ⟨b, ents, clock, q1, q2, q3, q4, G, q5, q6⟩ := h
   have hr : ∀ k, (∀ j g, (match hh with | none => none | some (k, j, g) => some (k, σ j, match g with | none => none | some g => some (σ g))) ≠ some (k, j, g)) -> ∀ j g, hh ≠ some (k, j, g) := by
    intro k h j g e
    subst e
    exact h _ _ rfl
   refine ⟨b, ents, clock, q1, q2, q3, q4, G, relF_anyV (fun _ e => e) (fun k v m hv => ⟨fun j g e => ?_, fun e => hv.2 (hr k e)⟩) q5, fun k k' h1 h2 h3 h4 h5 => q6 k k' h1 h2 h3 (hr k h4) (hr k' h5)⟩
   cases hh with
   | none => cases e
   | some p =>
     obtain ⟨k0, j0, g0⟩ := p
     simp only [Option.some.injEq, Prod.mk.injEq] at e
     obtain ⟨rfl, rfl, rfl⟩ := e
     obtain ⟨⟨B1, r1, r2⟩, r3⟩ := hv.1 _ _ rfl
     refine ⟨⟨B1, hσ _ _ r1, r2⟩, fun i e => ?_⟩
     cases g0 with
     | none => cases e
     | some g0 =>
       cases e
       obtain ⟨B2, r4, r5⟩ := r3 _ rfl
       exact ⟨B2, hσ _ _ r4, r5⟩
theorem relP_flat {w S S'} {p : PV} (hf : p.flat) {x : Value} (h : relP w S p x) : relP w S' p x := by
 cases p <;> simp only [PV.flat] at hf <;> simpa only [relP] using h
theorem relPL_flat {w S S'} : ∀ {ps : List PV} (_ : ∀ p ∈ ps, p.flat) {xs : List Value}, relPL w S ps xs -> relPL w S' ps xs
 | [], _, _, _ => by simp [relPL]
 | p :: ps, hf, xs, h => by
   simp only [relPL] at h ⊢
   obtain ⟨x, r, e, h1, h2⟩ := h
   exact ⟨x, r, e, relP_flat (hf p (by simp)) h1, relPL_flat (fun q hq => hf q (by simp [hq])) h2⟩
theorem relPR_flat {w S S'} (s : Nat) : ∀ {L : List (List PV)} (_ : ∀ e ∈ L, ∀ p ∈ e, p.flat) {xs : List Value}, relPR w S s L xs -> relPR w S' s L xs
 | [], _, _, _ => by simp [relPR]
 | e :: L, hf, xs, h => by
   simp only [relPR] at h ⊢
   exact ⟨h.1, relPL_flat (hf e (by simp)) h.2.1, relPR_flat s (fun q hq => hf q (by simp [hq])) h.2.2⟩
mutual
theorem rel_flat {β : Nat -> Option Base} {w S S'} : ∀ {s : SV} (_ : s.flat) {x : Value}, rel β w S s x -> rel β w S' s x
 | .any, _, _, _ => by simp [rel]
 | .int _ _, _, _, h => by simpa [rel] using h
 | .bool _, _, _, h => by simpa [rel] using h
 | .pr _, _, _, h => by simpa [rel] using h
 | .tt, _, _, h => by simpa [rel] using h
 | .ff, _, _, h => by simpa [rel] using h
 | .str _, _, _, h => by simpa [rel] using h
 | .val _, _, _, h => by simpa [rel] using h
 | .rd p, hf, _, h => by simp only [rel, SV.flat] at *; exact relP_flat hf h
 | .rp _ _, hf, _, _ => by simp [SV.flat] at hf
 | .ra _ _, hf, _, _ => by simp [SV.flat] at hf
 | .ptr _ _ _, _, _, h => by simpa [rel] using h
 | .slc _ _ _, _, _, h => by simpa [rel] using h
 | .slx _ _ _, _, _, h => by simpa [rel] using h
 | .gn _, _, _, h => by simpa [rel] using h
 | .fex _, _, _, h => by simpa [rel] using h
 | .mp _, _, _, h => by simpa [rel] using h
 | .fn f a c, hf, x, h => by
   simp only [rel, SV.flat] at *
   obtain ⟨xs, ys, e, h1, h2⟩ := h
   exact ⟨xs, ys, e, relL_flat hf.1 h1, relL_flat hf.2 h2⟩
 | .ifc t s, hf, x, h => by
   simp only [rel, SV.flat] at *
   obtain ⟨y, e, h1⟩ := h
   exact ⟨y, e, rel_flat hf h1⟩
 | .agg cs, hf, x, h => by
   simp only [rel, SV.flat] at *
   obtain ⟨xs, e, h1⟩ := h
   exact ⟨xs, e, relL_flat hf h1⟩
 | .tup cs, hf, x, h => by
   simp only [rel, SV.flat] at *
   obtain ⟨xs, e, h1⟩ := h
   exact ⟨xs, e, relL_flat hf h1⟩
theorem relL_flat {β : Nat -> Option Base} {w S S'} : ∀ {l : List SV} (_ : flats l) {xs : List Value}, relL β w S l xs -> relL β w S' l xs
 | [], _, _, h => by simpa [relL] using h
 | s :: l, hf, xs, h => by
   simp only [relL, flats] at *
   obtain ⟨x, r, e, h1, h2⟩ := h
   exact ⟨x, r, e, rel_flat hf.1 h1, relL_flat hf.2 h2⟩
end
theorem relR_flat {β : Nat -> Option Base} {w S S'} (s : Nat) : ∀ {L : List (List SV)} (_ : flatss L) {xs : List Value}, relR β w S s L xs -> relR β w S' s L xs
 | [], _, _, _ => by simp [relR]
 | e :: L, hf, xs, h => by
   simp only [relR, flatss] at *
   exact ⟨h.1, relL_flat hf.1 h.2.1, relR_flat s hf.2 h.2.2⟩
theorem svOf_flat {one : Bool} {l : List PV} (h : ∀ p ∈ l, p.flat) : (svOf one l).flat := by
 unfold svOf
 have key : ∀ p : PV, p.flat -> p.sv.flat := fun p hp => by cases p <;> simp_all [PV.sv, SV.flat, PV.flat]
 cases one with
 | true =>
   cases l with
   | nil => simp [SV.flat]
   | cons p l => exact key p (h p (by simp))
 | false =>
   simp only [SV.flat]
   induction l with
   | nil => simp [flats]
   | cons p l ih => simp only [List.map, flats]; exact ⟨key p (h p (by simp)), ih fun q hq => h q (by simp [hq])⟩
theorem kind_flat {M : MapTy} {k : M.κ} : ∀ p ∈ M.ek k, p.flat := by
 intro p hp
 have h := M.ekk k
 have : p.kind ∈ (M.ek k).map PV.kind := List.mem_map_of_mem hp
 rw [h] at this
 obtain ⟨q, _, e⟩ := List.mem_map.1 this
 cases p <;> simp_all [PV.kind, PV.flat]
theorem relE_flat {β : Nat -> Option Base} {w S S'} {M : MapTy} : ∀ {es : List (M.κ × M.ν)} (_ : ∀ x ∈ es, ∀ p ∈ M.ev x.2, PV.flat p) {l : List MapEntry}, relE β w S M es l -> relE β w S' M es l
 | [], _, l, h => by simpa [relE] using h
 | (k, v) :: es, hf, l, h => by
   simp only [relE] at h ⊢
   obtain ⟨m, r, e, h1, h2, h3⟩ := h
   exact ⟨m, r, e, rel_flat (svOf_flat kind_flat) h1, rel_flat (svOf_flat (hf (k, v) (by simp))) h2, relE_flat (fun x hx => hf x (by simp [hx])) h3⟩
theorem ObjOk.flat {β : Nat -> Option Base} {w S S'} {B F o} (hf : o.flat) (h : ObjOk β w S B F o) : ObjOk β w S' B F o := by
 cases o with
 | row cs =>
   obtain ⟨b, arr, T, q1, q2, q3, q4, q5, q6⟩ := h
   exact ⟨b, arr, T, q1, q2, q3, q4, q5, relL_flat hf q6⟩
 | vec s L =>
   rcases h with h | ⟨b, arr, T, q1, q2, q3, q4, q5, q6, q7⟩
   . exact .inl h
   . exact .inr ⟨b, arr, T, q1, q2, q3, q4, q5, q6, relPR_flat s hf q7⟩
 | arr s L =>
   rcases h with h | ⟨b, arr, T, q1, q2, q3, q4, q5, q6, q7⟩
   . exact .inl h
   . exact .inr ⟨b, arr, T, q1, q2, q3, q4, q5, q6, relR_flat s hf q7⟩
 | map M es it =>
   obtain ⟨b, ents, clock, q1, q2, q3, q4, q5, q6⟩ := h
   refine ⟨b, ents, clock, q1, q2, q3, relE_flat hf q4, q5, ?_⟩
   cases it with
   | none => trivial
   | some p => exact q6
 | itr i => exact h
 | lrec l r e => exact h
 | vex s p =>
   obtain ⟨L, hL, h⟩ := h
   refine ⟨L, hL, ?_⟩
   rcases h with h | ⟨b, arr, T, q1, q2, q3, q4, q5, q6, q7⟩
   . exact .inl h
   . exact .inr ⟨b, arr, T, q1, q2, q3, q4, q5, q6, relPR_flat s (hf L hL) q7⟩
 | mapE M es k g => exact hf.elim
 | fam M sub es hh => exact hf.elim
end Go.Sx
namespace Go.Sx
open Go
open Classical
theorem look_idxd {α : Type _} : ∀ (l : List α) (i0 i : Nat), look i (idxd l i0) = if i0 ≤ i then getN l (i - i0) else none
 | [], i0, i => by simp [idxd, look, getN]
 | a :: l, i0, i => by
   simp only [idxd]
   rw [look_cons, look_idxd l (i0 + 1) i]
   by_cases h : i0 = i
   . subst h; simp [getN]
   . rw [if_neg h]
     by_cases h2 : i0 ≤ i
     . have h3 : i0 + 1 ≤ i := by omega
       have h4 : i - i0 = (i - (i0 + 1)) + 1 := by omega
       rw [if_pos h2, if_pos h3, h4]; rfl
     . have h3 : ¬ i0 + 1 ≤ i := by omega
       rw [if_neg h2, if_neg h3]
theorem boundAll_iff {ρ : Ren} : ∀ {m : Nat}, boundAll ρ m = true -> ∀ i, i < m -> ∃ j, look i ρ.m = some (some j)
 | 0, _, i, h => by omega
 | m + 1, h, i, hi => by
   simp only [boundAll] at h
   split at h
   . rename_i j hj
     by_cases e : i = m
     . subst e; exact ⟨j, hj⟩
     . exact boundAll_iff h i (by omega)
   . cases h
theorem notBor_iff {ρ : Ren} : ∀ {l : List Nat}, notBor ρ l = true -> ∀ j ∈ l, ∀ i, look i ρ.m ≠ some (some j)
 | [], _, j, h, _ => by cases h
 | k :: l, h, j, hj, i => by
   simp only [notBor] at h
   split at h
   . rename_i hall
     rcases List.mem_cons.1 hj with rfl | hj
     . intro e
       have := List.all_eq_true.1 hall _ (look_mem e)
       simp at this
     . exact notBor_iff h j hj i
   . cases h
theorem keysLt_iff {m : Nat} : ∀ {l : List (Nat × Option Nat)}, keysLt m l = true -> ∀ i, m ≤ i -> look i l = none
 | [], _, i, _ => rfl
 | (k, x) :: l, h, i, hi => by
   simp only [keysLt] at h
   split at h
   . rename_i e
     have e := Nat.blt_eq ▸ e
     rw [look_cons, if_neg (by omega)]
     exact keysLt_iff h i hi
   . cases h
theorem goPut_list (go : GO) : ∀ (l : List (Nat × Option SO)) (id : Nat), (l.map (·.1)).Nodup -> goPut go l id = (match look id l with | some o => o | none => go id)
 | [], id, _ => by simp [goPut, look]
 | (i, o) :: l, id, hn => by
   simp only [List.map_cons, List.nodup_cons] at hn
   simp only [goPut]
   rw [goPut_list (upd go i o) l id hn.2, look_cons]
   by_cases h : i = id
   . subst h
     rw [if_pos rfl]
     cases e : look i l with
     | none => simp
     | some o' => exact absurd (List.mem_map_of_mem (look_mem e)) hn.1
   . rw [if_neg h]
     cases e : look id l with
     | none => simp [upd_other _ _ (Ne.symm h)]
     | some o' => rfl
theorem outWr_keys (σ : Nat -> Nat) : ∀ (l : List (Option SO)) (i : Nat), (outWr σ l i).map (·.1) = (List.range' i l.length).map σ
 | [], i => by simp [outWr]
 | none :: l, i => by simp [outWr, outWr_keys σ l (i + 1), List.range'_succ]
 | some o :: l, i => by simp [outWr, outWr_keys σ l (i + 1), List.range'_succ]
theorem newWr_keys (σ : Nat -> Nat) : ∀ (l : List SO) (i : Nat), (newWr σ l i).map (·.1) = (List.range' i l.length).map σ
 | [], i => by simp [newWr]
 | o :: l, i => by simp [newWr, newWr_keys σ l (i + 1), List.range'_succ]
theorem look_outWr (σ : Nat -> Nat) : ∀ (l : List (Option SO)) (i0 i : Nat), (∀ a b, i0 ≤ a -> a < i0 + l.length -> i0 ≤ b -> b < i0 + l.length -> σ a = σ b -> a = b) -> i0 ≤ i -> i < i0 + l.length →
 look (σ i) (outWr σ l i0) = (getN l (i - i0)).map (fun o => o.map (SO.ren σ))
  | [], i0, i, _, h1, h2 => by simp at h2; omega
  | x :: l, i0, i, hinj, h1, h2 => by
    have hcons : outWr σ (x :: l) i0 = (σ i0, x.map (SO.ren σ)) :: outWr σ l (i0 + 1) := by cases x <;> rfl
    rw [hcons, look_cons]
    simp at h2
    by_cases e : i = i0
    . subst e; simp [getN]
    . rw [if_neg (fun q => e (hinj i0 i (Nat.le_refl _) (by simp) h1 (by simp; omega) q).symm)]
      rw [look_outWr σ l (i0 + 1) i (fun a b q1 q2 q3 q4 => hinj a b (by omega) (by simp; omega) (by omega) (by simp; omega)) (by omega) (by omega)]
      have : i - i0 = (i - (i0 + 1)) + 1 := by omega
      rw [this]; rfl
theorem look_newWr (σ : Nat -> Nat) : ∀ (l : List SO) (i0 i : Nat), (∀ a b, i0 ≤ a -> a < i0 + l.length -> i0 ≤ b -> b < i0 + l.length -> σ a = σ b -> a = b) -> i0 ≤ i -> i < i0 + l.length →
 look (σ i) (newWr σ l i0) = (getN l (i - i0)).map (fun o => some (o.ren σ))
  | [], i0, i, _, h1, h2 => by simp at h2; omega
  | x :: l, i0, i, hinj, h1, h2 => by
    simp only [newWr]
    rw [look_cons]
    simp at h2
    by_cases e : i = i0
    . subst e; simp [getN]
    . rw [if_neg (fun q => e (hinj i0 i (Nat.le_refl _) (by simp) h1 (by simp; omega) q).symm)]
      rw [look_newWr σ l (i0 + 1) i (fun a b q1 q2 q3 q4 => hinj a b (by omega) (by simp; omega) (by omega) (by simp; omega)) (by omega) (by omega)]
      have : i - i0 = (i - (i0 + 1)) + 1 := by omega
      rw [this]; rfl
theorem look_none {α : Type _} : ∀ {l : List (Nat × α)} {i : Nat}, i ∉ l.map (·.1) -> look i l = none
 | [], _, _ => rfl
 | (k, x) :: l, i, h => by
   simp at h
   rw [look_cons, if_neg (fun e => h.1 e.symm)]
   exact look_none (by simpa using h.2)
theorem look_append {α : Type _} : ∀ (l l' : List (Nat × α)) (i : Nat), look i (l ++ l') = (match look i l with | some x => some x | none => look i l')
 | [], l', i => by simp [look]
 | (k, x) :: l, l', i => by
   simp only [List.cons_append]
   rw [look_cons, look_cons, look_append l l' i]
   split <;> rfl
theorem flatOs_get : ∀ {l : List SO} {i : Nat} {o : SO}, flatOs l -> getN l i = some o -> o.flat
 | [], i, o, _, h => by simp [getN] at h
 | x :: l, 0, o, hf, h => by simp [getN] at h; subst h; exact hf.1
 | x :: l, i + 1, o, hf, h => flatOs_get hf.2 (by simpa [getN] using h)
theorem flatOuts_get : ∀ {l : List (Option SO)} {i : Nat} {o : SO}, flatOuts l -> getN l i = some (some o) -> o.flat
 | [], i, o, _, h => by simp [getN] at h
 | some x :: l, 0, o, hf, h => by simp [getN] at h; subst h; exact hf.1
 | none :: l, 0, o, hf, h => by simp [getN] at h
 | some x :: l, i + 1, o, hf, h => flatOuts_get hf.2 (by simpa [getN] using h)
 | none :: l, i + 1, o, hf, h => flatOuts_get (l := l) hf (by simpa [getN] using h)
theorem getN_lt {α : Type _} {l : List α} {i : Nat} {x : α} (h : getN l i = some x) : i < l.length := by
 rw [getN_eq] at h; exact (List.getElem?_eq_some_iff.1 h).1
theorem callsIn_Wf {r : Option Nat} {n : Nat} {P : Program} {f : FuncId} {args : Array Value} {w : World} {R : Ending -> World -> Prop} (h : Calls P f args w R) : CallsIn (Wf r) n P f args w R := by
 have := (callsIn_wide (n := n)).2 h
 cases r with
 | none => exact this
 | some l => exact CallsIn.inRound l this
section
variable {C : Ctx} {gt : GT} {go : GO} {o : Oper} {fresh : Nat} {R : List Loc} {v : Option SV} {os : List (Nat × Option SO)} {k : Nat}
theorem callRT_inv {E : Value -> Ending} {S : STab} (hsok : SOkE E C.P C.G S) {f : FuncId} {args : List SV} (h : (callRTS S f args fresh).Runs gt go R v os k) :
 ∃ (L : LSpec) (ρ : Ren), LSpec.okE E C.P C.G f L ∧ ρ.inj ∧ (∀ i, i < L.foot.length -> ∃ j, look i ρ.m = some (some j)) ∧ (∀ j ∈ ρ.bor, ∀ i, look i ρ.m ≠ some (some j)) ∧ (∀ i, L.foot.length ≤ i -> look i ρ.m = none) ∧
  (∀ {β own S w}, MemOk β own S go w -> ∀ sp xs, relL β w S args xs -> relL (bOf ρ β sp) w (fun b => S b ∨ lent go ρ own b) L.args xs) ∧ (∀ p ∈ idxd L.foot 0, OIs go ρ p.1 p.2) ∧
  (ρ.bor = [] ∨ L.flat) ∧ v = some (L.res.ren (ρ.toF L.foot.length fresh)) ∧ os = outWr (ρ.toF L.foot.length fresh) L.out 0 ++ newWr (ρ.toF L.foot.length fresh) L.new L.foot.length ∧ k = L.new.length := by
  unfold callRTS at h
  obtain ⟨L, R0, hL, h⟩ := hsok _ _ _ _ _ _ _ _ _ h
  . obtain ⟨ρ1, R1, h1, l1, i1, m1⟩ := mSVs_inv _ h
    obtain ⟨ρ2, R2, h2, l2, i2, m2⟩ := mObjs_inv _ h1
    have hinj0 : Ren.inj ⟨[], []⟩ := fun a b c h => by simp [look] at h
    split at h2
    . rename_i hb hn hk
      refine ⟨L, ρ2, hL, i2 (i1 hinj0), boundAll_iff hb, notBor_iff hn, keysLt_iff hk, fun hm sp xs hx => m1 ρ2 l2 (fit_of hm) sp xs hx, m2, ?_⟩
      dsimp only at h2
      split at h2
      . rename_i e
        cases h2
        exact ⟨.inl e, rfl, rfl, rfl⟩
      . cases h2 with
        | req hp h2 => cases h2; exact ⟨.inr hp, rfl, rfl, rfl⟩
    . cases h2
set_option maxHeartbeats 4000000 in
theorem call_core (E : Value -> Ending) {ST : STab} (hsok : SOkE E C.P C.G ST) {fx : Operand} {xs : Array Operand} {ats : Array TypeId} (ho : o.op = .call { callee := .value fx, args := xs, argTypes := ats })
 (h : (callX C.toEnv ST (cX fx) (xs.toList.map cX) fresh).Runs gt go R v os k) : ∃ s, v = some s ∧ ∀ β own S a w, Holds C gt go β own S a w -> (∀ i, fresh ≤ i -> i < fresh + k -> β i = none) →
 ∀ (next : Act -> World -> Prop) (Q : Exit -> Act -> World -> Prop),
  (∀ β' own' S' x w', (∀ i, ¬ (fresh ≤ i ∧ i < fresh + k) -> β' i = β i) -> rel β' w' S' s x →
   (∀ (dst : Option Nat) (y : Value) (wr : Option (Nat × SV)), (∀ d s', wr = some (d, s') -> dst = some d ∧ d < C.N ∧ rel β' w' S' s' y) -> (wr = none -> dst = none ∨ ∃ d, dst = some d ∧ gt d = none) →
    Holds C (gtPut gt wr) (goPut go os) β' own' S' (a.put dst y) w') →
   (∀ y, E x = .returned y -> next (a.put o.dst y) w') ∧ (∀ ch, E x = .panicked ch -> Q (.panic ch) a w') ∧ E x ≠ .outgrown) →
  o.wpIn (Wf C.rnd) 0 C.P a w next Q := by
  unfold callX at h
  replace h := rd_inv h
  obtain ⟨sf, R1, h, hf⟩ := h
  replace h := rds_inv h
  obtain ⟨sx, R2, h, hx⟩ := h
  split at h
  case h_2 => cases h
  rename_i n fa fc
  obtain ⟨L, ρ, hL, hinj, hbd, hnb, hkl, hargs, hobjs, hbor, rfl, rfl, rfl⟩ := callRT_inv hsok h
  generalize hm : L.foot.length = m at *
  generalize hσ : ρ.toF m fresh = σ at *
  obtain ⟨hent, hout, hcall⟩ := hL
  have σ1 : ∀ i j, i < m -> look i ρ.m = some (some j) -> σ i = j := fun i j hi e => by
   subst hσ
   simp only [Ren.toF]
   have : Nat.blt i m = true := by rw [Nat.blt_eq]; exact hi
   rw [this]
   simp only [e]
  have σ2 : ∀ i, m ≤ i -> σ i = fresh + (i - m) := fun i hi => by
   subst hσ
   simp only [Ren.toF]
   have : Nat.blt i m = false := by
    cases e : Nat.blt i m with
    | false => rfl
    | true => rw [Nat.blt_eq] at e; omega
   rw [this]
  refine ⟨_, rfl, ?_⟩
  intro β own S a w H hβ next Q hnx
  have hfv := hf H
  simp only [rel] at hfv
  obtain ⟨va, vc, hfe, hra, hrc⟩ := hfv
  have hrun : (execOp a.eval o).run C.P w = .ok (.enter n (va ++ xs.map a.eval ++ vc)) w := by
   simp only [execOp, ho, resolve, hfe, Deferred.ofValue, invoke, Sem.run_bind, Sem.run_pure, Result.andThen_ok]
   exact hent _ w
  have hrall : relL β w S (fa ++ sx ++ fc) (va ++ xs.map a.eval ++ vc).toList := by
   simp only [Array.toList_append]
   exact relL_append _ _ _ _ (relL_append _ _ _ _ hra (by simpa using hx H)) hrc
  let sp : Nat -> Nat := fun _ => 0
  let Sp : Nat -> Prop := fun b => S b ∨ lent go ρ own b
  have hlf : ∀ i, look i (idxd L.foot 0) = L.go0 i := fun i => by rw [look_idxd]; simp [LSpec.go0]
  have hmem : MemOk (bOf ρ β sp) (ownOf ρ own) Sp (fun i => look i (idxd L.foot 0)) w := by
   refine match_mem H.mem hinj _ hobjs (fun i j e hj => hnb j hj i e) (fun i o e e' => ?_)
   rw [hlf] at e
   obtain ⟨j, hj⟩ := hbd i (by have := getN_lt e; omega)
   rw [hj] at e'; cases e'
  have hgo0 : (fun i => look i (idxd L.foot 0)) = L.go0 := funext hlf
  rw [hgo0] at hmem
  have hβc : ∀ i, m ≤ i -> bOf ρ β sp i = none := fun i hi => by simp [bOf, hkl i hi]
  have hgl : ∀ g s, C.G g = some s -> rel (fun _ => none) w Sp s (.pointer (some ⟨g, 0, none⟩)) := fun g s e =>
   rel_ext ⟨fun _ _ e => e, fun _ e => .inl e, fun _ _ => rfl⟩ _ _ (H.gl g s e)
  have hcalls := hcall (bOf ρ β sp) (ownOf ρ own) Sp w (va ++ xs.map a.eval ++ vc) (fun i hi => hβc i (by omega)) hmem (hargs H.mem sp _ hrall) hgl
  have hfoot : ∀ i, (L.go0 i).isSome -> i < m ∧ ∃ j c, look i ρ.m = some (some j) ∧ go j = some c ∧ ownOf ρ own i = own j := fun i hi => by
   obtain ⟨c, hc⟩ := Option.isSome_iff_exists.1 hi
   have him : i < m := by have := getN_lt hc; omega
   obtain ⟨j, hj⟩ := hbd i him
   rw [<- hlf] at hc
   rcases hobjs _ (look_mem hc) with ⟨j', c', h1, h2, _⟩ | ⟨h1, _⟩
   . rw [hj] at h1; cases h1
     exact ⟨him, j, c', hj, h2, by simp [ownOf, hj]⟩
   . rw [hj] at h1; cases h1
  have hgoj : ∀ i j, i < m -> look i ρ.m = some (some j) -> (go j).isSome := fun i j hi e => by
   have hs : (L.go0 i).isSome := by
    have : i < L.foot.length := by omega
    simp [LSpec.go0, getN_eq, this]
   obtain ⟨_, j', c, h1, h2, _⟩ := hfoot i hs
   rw [e] at h1; cases h1
   simp [h2]
  have hownf : ∀ b, owned L.go0 (ownOf ρ own) b -> owned go own b := fun b ⟨i, h1, h2⟩ => by
   obtain ⟨_, j, c, _, h4, h5⟩ := hfoot i h1
   exact ⟨j, by simp [h4], by rw [<- h5]; exact h2⟩
  have hownlt : ∀ j b, (go j).isSome -> own j b -> b < w.heap.size := fun j b hs hb => by
   obtain ⟨c, hc⟩ := Option.isSome_iff_exists.1 hs
   obtain ⟨B, _, hO⟩ := H.mem.obj j c hc
   exact hO.lt b hb
  have hjf : ∀ j, (go j).isSome -> ¬ (fresh ≤ j ∧ j < fresh + L.new.length) := fun j hs hr => by
   obtain ⟨c, hc⟩ := Option.isSome_iff_exists.1 hs
   obtain ⟨B, hB, _⟩ := H.mem.obj j c hc
   rw [hβ j hr.1 hr.2] at hB; cases hB
  refine ⟨fun _ _ => trivial, ?_⟩
  rw [Oper.semAt_eq _ _ _ (by simp [ho]), hrun]
  refine ⟨fun e => by simp [Wf, Fence.wide] at e, ?_⟩
  refine (callsIn_Wf hcalls).mono ?_
  rintro e w' ⟨x, βc', ownc', Sc', he, hext, hβc', hres, hmem', hfr, hown', hS'⟩
  rw [hm] at hβc'
  generalize hK : L.new.length = K at *
  have σinj : ∀ i i', i < m + K -> i' < m + K -> σ i = σ i' -> i = i' := by
   intro i i' hi hi' e
   by_cases c1 : i < m
   . obtain ⟨j, hj⟩ := hbd i c1
     rw [σ1 i j c1 hj] at e
     by_cases c2 : i' < m
     . obtain ⟨j', hj'⟩ := hbd i' c2
       rw [σ1 i' j' c2 hj'] at e
       subst e
       exact hinj i i' _ hj hj'
     . rw [σ2 i' (by omega)] at e
       exact absurd ⟨by omega, by omega⟩ (hjf j (hgoj i j c1 hj))
   . rw [σ2 i (by omega)] at e
     by_cases c2 : i' < m
     . obtain ⟨j', hj'⟩ := hbd i' c2
       rw [σ1 i' j' c2 hj'] at e
       exact absurd ⟨by omega, by omega⟩ (hjf j' (hgoj i' j' c2 hj'))
     . rw [σ2 i' (by omega)] at e
       omega
  have hnodup : ((outWr σ L.out 0 ++ newWr σ L.new m).map (·.1)).Nodup := by
   rw [List.map_append, outWr_keys, newWr_keys, hout, hm, <- List.map_append, hK]
   have : List.range' 0 m ++ List.range' m K = List.range' 0 (m + K) := by
    have := List.range'_append_1 (s := 0) (m := m) (n := K)
    simpa using this
   rw [this]
   refine List.nodup_iff_pairwise_ne.2 ?_
   rw [List.pairwise_map]
   refine List.Pairwise.imp_of_mem (fun {a b} ha hb hab e => hab (σinj a b ?_ ?_ e)) (List.nodup_iff_pairwise_ne.1 List.nodup_range')
   . simpa using ha
   . simpa using hb
  let go' : GO := goPut go (outWr σ L.out 0 ++ newWr σ L.new m)
  have hgo' : ∀ id, go' id = (match look id (outWr σ L.out 0 ++ newWr σ L.new m) with | some o => o | none => go id) := fun id => goPut_list go _ id hnodup
  have inj0 : ∀ a b, 0 ≤ a -> a < 0 + L.out.length -> 0 ≤ b -> b < 0 + L.out.length -> σ a = σ b -> a = b := fun a b _ h1 _ h2 e => σinj a b (by omega) (by omega) e
  have injm : ∀ a b, m ≤ a -> a < m + L.new.length -> m ≤ b -> b < m + L.new.length -> σ a = σ b -> a = b := fun a b _ h1 _ h2 e => σinj a b (by omega) (by omega) e
  have notout : ∀ i, m ≤ i -> i < m + K -> look (σ i) (outWr σ L.out 0) = none := fun i h1 h2 => look_none (by
   rw [outWr_keys, hout, hm]
   intro hc
   obtain ⟨a, ha, e⟩ := List.mem_map.1 hc
   simp at ha
   have := σinj a i (by omega) h2 e
   omega)
  have g1 : ∀ i, i < m -> go' (σ i) = (match getN L.out i with | some (some o) => some (o.ren σ) | _ => none) := fun i hi => by
   rw [hgo', look_append, look_outWr σ L.out 0 i inj0 (Nat.zero_le _) (by omega)]
   simp only [Nat.sub_zero]
   have hlt : i < L.out.length := by omega
   have : getN L.out i = some (L.out[i]'hlt) := by rw [getN_eq, List.getElem?_eq_getElem hlt]
   rw [this]
   cases L.out[i]'hlt <;> rfl
  have g2 : ∀ i, m ≤ i -> i < m + K -> go' (σ i) = (getN L.new (i - m)).map (SO.ren σ) := fun i h1 h2 => by
   rw [hgo', look_append, notout i h1 h2]
   simp only
   rw [look_newWr σ L.new m i injm h1 (by omega)]
   have hlt : i - m < L.new.length := by omega
   have : getN L.new (i - m) = some (L.new[i - m]) := by rw [getN_eq, List.getElem?_eq_getElem hlt]
   rw [this]
   rfl
  have g3 : ∀ id, (∀ i, i < m + K -> σ i ≠ id) -> go' id = go id := fun id h => by
   rw [hgo', look_none (by
    rw [List.map_append, outWr_keys, newWr_keys, hout, hm, hK]
    intro hc
    rcases List.mem_append.1 hc with hc | hc
    . obtain ⟨a, ha, e⟩ := List.mem_map.1 hc
      simp at ha
      exact h a (by omega) e
    . obtain ⟨a, ha, e⟩ := List.mem_map.1 hc
      simp at ha
      exact h a (by omega) e)]
  have g12 : ∀ i, i < m + K -> go' (σ i) = (L.go1 i).map (SO.ren σ) := fun i hi => by
   simp only [LSpec.go1, hm]
   by_cases c : i < m
   . rw [g1 i c, if_pos c]
     cases getN L.out i with
     | none => rfl
     | some q => cases q <;> rfl
   . rw [g2 i (by omega) hi, if_neg c]
  let β' : Nat -> Option Base := fun id => if fresh ≤ id ∧ id < fresh + K then βc' (m + (id - fresh)) else β id
  let own' : Nat -> Nat -> Prop := fun id b => (∃ i, i < m + K ∧ σ i = id ∧ ownc' i b) ∨ ((∀ i, i < m + K -> σ i ≠ id) ∧ own id b)
  let S' : Nat -> Prop := fun b => Sc' b ∧ ¬ lent go ρ own b
  have ownσ : ∀ i, i < m + K -> own' (σ i) = ownc' i := fun i hi => by
   funext b
   apply propext
   constructor
   . rintro (⟨i', h1, h2, h3⟩ | ⟨h1, _⟩)
     . rw [σinj i' i h1 hi h2] at h3; exact h3
     . exact absurd rfl (h1 i hi)
   . exact fun h => .inl ⟨i, hi, rfl, h⟩
  have owno : ∀ id, (∀ i, i < m + K -> σ i ≠ id) -> own' id = own id := fun id h => by
   funext b
   apply propext
   constructor
   . rintro (⟨i', h1, h2, h3⟩ | ⟨_, h2⟩)
     . exact absurd h2 (h i' h1)
     . exact h2
   . exact fun e => .inr ⟨h, e⟩
  have βσ : ∀ i B, βc' i = some B -> β' (σ i) = some B := fun i B e => by
   by_cases c : i < m
   . obtain ⟨j, hj⟩ := hbd i c
     rw [σ1 i j c hj]
     have hj2 := hgoj i j c hj
     simp only [β']
     rw [if_neg (hjf j hj2)]
     obtain ⟨cc, hc⟩ := Option.isSome_iff_exists.1 hj2
     obtain ⟨B0, hB0, _⟩ := H.mem.obj j cc hc
     have h2 := hext.ids i B (by omega) e
     rw [bOf_some hj, hB0] at h2
     rw [hB0, h2]
   . by_cases c2 : i < m + K
     . rw [σ2 i (by omega)]
       simp only [β']
       rw [if_pos ⟨by omega, by omega⟩]
       have : m + (fresh + (i - m) - fresh) = i := by omega
       rw [this]; exact e
     . rw [hβc' i (by omega)] at e; cases e
  have Sx : Ext β w S β' w' S' := by
   refine ⟨fun i B e => ?_, fun b hb => ⟨hext.st b (.inl hb), fun ⟨j, _, hs, hj⟩ => H.mem.st j b hs hj hb⟩, fun b hb => hext.heap b (.inl hb)⟩
   simp only [β']
   rw [if_neg (fun hr => by rw [hβ i hr.1 hr.2] at e; cases e)]
   exact e
  have relS : ∀ s x, (ρ.bor = [] ∨ s.flat) -> rel βc' w' Sc' s x -> rel β' w' S' (s.ren σ) x := fun s x hs hx => by
   refine rel_ren βσ s x ?_
   rcases hs with hs | hs
   . have : S' = Sc' := by
      funext b
      apply propext
      exact ⟨fun h => h.1, fun h => ⟨h, fun ⟨j, hj, _⟩ => by rw [hs] at hj; cases hj⟩⟩
     rw [this]; exact hx
   . exact rel_flat hs hx
  have objS : ∀ B F p, (ρ.bor = [] ∨ p.flat) -> ObjOk βc' w' Sc' B F p -> ObjOk β' w' S' B F (p.ren σ) := fun B F p hs hx => by
   refine ObjOk.ren βσ ?_
   rcases hs with hs | hs
   . have : S' = Sc' := by
      funext b
      apply propext
      exact ⟨fun h => h.1, fun h => ⟨h, fun ⟨j, hj, _⟩ => by rw [hs] at hj; cases hj⟩⟩
     rw [this]; exact hx
   . exact hx.flat hs
  have go1flat : ∀ i p, L.go1 i = some p -> ρ.bor = [] ∨ p.flat := fun i p e => by
   rcases hbor with h | ⟨_, h2, h3⟩
   . exact .inl h
   . right
     simp only [LSpec.go1] at e
     split at e
     . split at e
       . rename_i q hq
         cases e
         exact flatOuts_get h3 hq
       . cases e
     . exact flatOs_get h2 e
  have go1lt : ∀ i, (L.go1 i).isSome -> i < m + K := fun i hi => by
   obtain ⟨p, hp⟩ := Option.isSome_iff_exists.1 hi
   simp only [LSpec.go1, hm] at hp
   split at hp
   . omega
   . have := getN_lt hp; omega
  have other : ∀ id, (∀ i, i < m + K -> σ i ≠ id) -> (go id).isSome -> ∀ b, own id b -> ¬ owned L.go0 (ownOf ρ own) b := fun id hid hs b hb ⟨i, h1, h2⟩ => by
   obtain ⟨him, j, c, h3, h4, h5⟩ := hfoot i h1
   rw [h5] at h2
   refine H.mem.sep id j b (fun e => ?_) hs (by simp [h4]) hb h2
   subst e
   exact hid i (by omega) (σ1 i _ him h3)
  have othereq : ∀ id, (∀ i, i < m + K -> σ i ≠ id) -> (go id).isSome -> ∀ b, own id b -> w'.heap[b]? = w.heap[b]? := fun id hid hs b hb =>
   hfr.block b (hownlt id b hs hb) (other id hid hs b hb)
  have go'some : ∀ id, (go' id).isSome -> (∃ i, i < m + K ∧ σ i = id ∧ (L.go1 i).isSome) ∨ ((∀ i, i < m + K -> σ i ≠ id) ∧ (go id).isSome) := fun id hid => by
   by_cases c : ∃ i, i < m + K ∧ σ i = id
   . obtain ⟨i, h1, rfl⟩ := c
     rw [g12 i h1] at hid
     exact .inl ⟨i, h1, rfl, by simpa using hid⟩
   . have c' : ∀ i, i < m + K -> σ i ≠ id := fun i hi e => c ⟨i, hi, e⟩
     rw [g3 id c'] at hid
     exact .inr ⟨c', hid⟩
  have hM : MemOk β' own' S' go' w' := by
   refine ⟨fun id p e => ?_, fun id id' b hne h1 h2 => ?_, fun id b h1 => ?_, fun b hb => hmem'.sz b hb.1⟩
   . rcases go'some id (by simp [e]) with ⟨i, h1, rfl, h2⟩ | ⟨h1, h2⟩
     . rw [g12 i h1] at e
       cases hq : L.go1 i with
       | none => rw [hq] at h2; simp at h2
       | some q =>
         rw [hq] at e
         simp at e
         subst e
         obtain ⟨B, hB, hO⟩ := hmem'.obj i q hq
         exact ⟨B, βσ i B hB, by rw [ownσ i h1]; exact objS B _ q (go1flat i q hq) hO⟩
     . rw [g3 id h1] at e
       obtain ⟨B, hB, hO⟩ := H.mem.obj id p e
       exact ⟨B, Sx.ids _ _ hB, by rw [owno id h1]; exact hO.ext Sx (fun b hb => othereq id h1 h2 b hb)⟩
   . rcases go'some id h1 with ⟨i, c1, rfl, c2⟩ | ⟨c1, c2⟩
     . rw [ownσ i c1]
       rcases go'some id' h2 with ⟨i', d1, rfl, d2⟩ | ⟨d1, d2⟩
       . rw [ownσ i' d1]
         exact hmem'.sep i i' b (fun e => hne (by rw [e])) c2 d2
       . rw [owno id' d1]
         intro e1 e2
         rcases hown' i b c2 e1 with h | h
         . exact other id' d1 d2 b e2 h
         . have := hownlt id' b d2 e2; omega
     . rw [owno id c1]
       rcases go'some id' h2 with ⟨i', d1, rfl, d2⟩ | ⟨d1, d2⟩
       . rw [ownσ i' d1]
         intro e1 e2
         rcases hown' i' b d2 e2 with h | h
         . exact other id c1 c2 b e1 h
         . have := hownlt id b c2 e1; omega
       . rw [owno id' d1]
         exact H.mem.sep id id' b hne c2 d2
   . rcases go'some id h1 with ⟨i, c1, rfl, c2⟩ | ⟨c1, c2⟩
     . rw [ownσ i c1]
       exact fun e h => hmem'.st i b c2 e h.1
     . rw [owno id c1]
       intro e h
       rcases hS' b h.1 with (q | q) | q | q
       . exact H.mem.st id b c2 e q
       . exact h.2 q
       . exact other id c1 c2 b e q
       . have := hownlt id b c2 e; omega
  have hfin := hnx β' own' S' x w' (fun i hi => by simp only [β']; rw [if_neg hi]) (relS L.res x (hbor.imp id (fun h => h.1)) hres) (fun dst y wr h1 h2 => by
   refine H.step Sx hM ⟨hfr.os, hfr.tape, hfr.output, hfr.size, fun k hk hx => hfr.block k hk (fun e => hx (hownf k e))⟩ (fun id b h1 h2 => ?_) (fun b hb => ?_) dst y wr h1 h2
   . rcases go'some id h1 with ⟨i, c1, rfl, c2⟩ | ⟨c1, c2⟩
     . rw [ownσ i c1] at h2
       rcases hown' i b c2 h2 with h | h
       . exact .inl (hownf b h)
       . exact .inr h
     . rw [owno id c1] at h2
       exact .inl ⟨id, c2, h2⟩
   . rcases hS' b hb.1 with (q | ⟨j, _, hs, hj⟩) | q | q
     . exact .inl q
     . exact .inr (.inl ⟨j, hs, hj⟩)
     . exact .inr (.inl (hownf b q))
     . exact .inr (.inr q))
  obtain ⟨f1, f2, f3⟩ := hfin
  cases e with
  | returned y => exact f1 y he.symm
  | panicked ch => exact f2 ch he.symm
  | outgrown => exact absurd he.symm f3
theorem ok_call {fx : Operand} {xs : Array Operand} {ats : Array TypeId} (ho : o.op = .call { callee := .value fx, args := xs, argTypes := ats })
 (h : (MO.rt C.toEnv fresh (.call (cX fx) (xs.toList.map cX))).Runs gt go R v os k) (hd : DstOk C o.dst v) : OpOk C o fresh gt go v os k := by
  have h : (callX C.toEnv C.S (cX fx) (xs.toList.map cX) fresh).Runs gt go R v os k := h
  obtain ⟨s, rfl, hc⟩ := call_core .returned C.sok ho h
  intro β own S a w H hβ next Q hnx
  refine hc β own S a w H hβ next Q (fun β' own' S' x w' h1 h2 h3 => ⟨fun y e => ?_, fun ch e => (by cases e), fun e => (by cases e)⟩)
  cases e
  exact hnx β' own' S' x w' h1 (h3 o.dst x _ (dstw_ok hd (fun s' e => by cases e; exact h2)) (dstw_none hd gt))
end
end Go.Sx
namespace Go.Sx
open Go
theorem fNat_eq (n : Nat) (K : Nat -> Prop) : fNat n K = K n := by cases n <;> rfl
mutual
theorem fSV_eq : ∀ (s : SV) (K : SV -> Prop), fSV s K = K s
 | .ptr i a b, K => by simp [fSV, fNat_eq]
 | .slc i a n, K => by simp [fSV, fNat_eq]
 | .slx i a n, K => by simp [fSV, fNat_eq]
 | .gn i, K => by simp [fSV, fNat_eq]
 | .fex p, K => rfl
 | .mp i, K => by simp [fSV, fNat_eq]
 | .fn f a c, K => by simp [fSV, fSVs_eq a, fSVs_eq c]
 | .ifc t x, K => by simp [fSV, fSV_eq x]
 | .agg cs, K => by simp [fSV, fSVs_eq cs]
 | .tup cs, K => by simp [fSV, fSVs_eq cs]
 | .any, K => rfl
 | .int k n, K => rfl
 | .bool b, K => rfl
 | .pr p, K => rfl
 | .tt, K => rfl
 | .ff, K => rfl
 | .str s, K => rfl
 | .val v, K => rfl
 | .rd p, K => rfl
 | .rp cs sub, K => by simp [fSV, fNat_eq]
 | .ra s L, K => rfl
theorem fSVs_eq : ∀ (l : List SV) (K : List SV -> Prop), fSVs l K = K l
 | [], K => rfl
 | s :: l, K => by simp [fSVs, fSV_eq s, fSVs_eq l]
end
theorem fSVss_eq : ∀ (l : List (List SV)) (K : List (List SV) -> Prop), fSVss l K = K l
 | [], K => rfl
 | s :: l, K => by simp [fSVss, fSVs_eq s, fSVss_eq l]
theorem fSO_eq (o : SO) (K : SO -> Prop) : fSO o K = K o := by
 cases o with
 | map M es it => cases it with
   | none => rfl
   | some p => obtain ⟨r, l, c⟩ := p; cases c <;> simp [fSO, fNat_eq]
 | lrec l r e => cases e <;> rfl
 | fam M sub es h => cases h with
   | none => rfl
   | some p => obtain ⟨r, l, c⟩ := p; cases c <;> simp [fSO, fNat_eq]
 | _ => simp [fSO, fSVs_eq, fSVss_eq, fNat_eq]
theorem fOs_eq : ∀ (l : List (Nat × Option SO)) (K : List (Nat × Option SO) -> Prop), fOs l K = K l
 | [], K => rfl
 | (i, none) :: l, K => by simp [fOs, fNat_eq, fOs_eq l]
 | (i, some o) :: l, K => by simp [fOs, fNat_eq, fSO_eq, fOs_eq l]
theorem fLst_eq {α : Type _} (l : List α) (K : List α -> Prop) : fLst l K = K l := by cases l <;> rfl
theorem fTs_eq : ∀ (l : List (Nat × SV)) (K : List (Nat × SV) -> Prop), fTs l K = K l
 | [], K => rfl
 | (i, v) :: l, K => by simp [fTs, fNat_eq, fSV_eq, fTs_eq l]
theorem gtOf_cons (d : Nat) (v : SV) (l : List (Nat × SV)) : gtOf ((d, v) :: l) = upd (gtOf l) d (some v) := by
 funext i
 simp only [gtOf, look_cons, upd]
 by_cases h : d = i
 . subst h; simp
 . rw [if_neg h, if_neg (fun e => h e.symm)]
theorem goOf_rev : ∀ (os l : List (Nat × Option SO)), goOf (revOn l os) = goPut (goOf l) os
 | [], l => rfl
 | (i, o) :: os, l => by
   simp only [revOn, goPut]
   rw [goOf_rev os]
   congr 1
   funext j
   simp only [goOf, look_cons, upd]
   by_cases h : i = j
   . subst h; simp
   . rw [if_neg h, if_neg (fun e => h e.symm)]
structure HoldsS (C : Ctx) (s : St) (β : Nat -> Option Base) (own : Nat -> Nat -> Prop) (S : Nat -> Prop) (a : Act) (w : World) : Prop where
 h : Holds C (gtOf s.t) (goOf s.o) β own S a w
 fresh : ∀ i, s.nx ≤ i -> β i = none
 m0 : C.m0 ≤ s.nx
 b0 : ∀ i B, i < C.m0 -> β i = some B -> C.β0 i = some B
theorem holds_upd {C : Ctx} {gt go β own S a w} (h : Holds C gt go β own S a w) {d : Nat} {v : SV} (hv : rel β w S v (a.tmps.getD d undef)) : Holds C (upd gt d (some v)) go β own S a w := by
 refine ⟨fun t s e => ?_, h.mem, h.fr, h.own0, h.s0, h.s1, h.n, h.df, h.gl⟩
 by_cases ht : t = d
 . subst ht; simp at e; subst e; exact hv
 . rw [upd_other _ _ ht] at e; exact h.tm t s e
structure Shape (o : Oper) (m : MO) : Prop where
 call : ∀ f xs, m = .call f xs -> ∃ fx ax ats, o.op = .call { callee := .value fx, args := ax, argTypes := ats } ∧ f = cX fx ∧ xs = ax.toList.map cX
 pcall : ∀ f xs, m = .pcall f xs -> ∃ fx ax ats, o.op = .call { callee := .value fx, args := ax, argTypes := ats } ∧ f = cX fx ∧ xs = ax.toList.map cX
 nxt : ∀ x, m = .nxt x -> ∃ ox, o.op = .next ox false ∧ x = cX ox
 pnc : ∀ x, m = .pnc x -> ∃ ox, o.op = .panic ox ∧ x = cX ox
 ar : ∀ op x y, m = .ar op x y -> ∃ t ox oy ty, o.op = .binOp op t ox oy ty ∧ x = cX ox ∧ y = cX oy
 cmp : ∀ op x y, m = .cmp op x y -> ∃ t ox oy ty, o.op = .binOp op t ox oy ty ∧ x = cX ox ∧ y = cX oy
structure MOpOk (C : Ctx) (ops : Array Oper) (o : Oper) (m : MOp) : Prop where
 sh : Shape o m.m
 d : m.d = o.dst
 g : match o.guard with
  | none => m.g = none
  | some (j, want) => ∃ oj t, ops[j]? = some oj ∧ oj.dst = some t ∧ m.g = some (t, want)
 ok : ∀ {fresh gt go R v os k}, (m.m.rt C.toEnv fresh).Runs gt go R v os k -> DstOk C o.dst v -> OpOk C o fresh gt go v os k
theorem wanted_of {C : Ctx} {gt go β own S a w} (H : Holds C gt go β own S a w) {ops : Array Oper} {o : Oper} {m : MOp} (h : MOpOk C ops o m) :
 (m.g = none -> Region.wanted o (yielded ops a.tmps) = true) ∧ ∀ t want, m.g = some (t, want) -> ∀ b, (gt t = some (if b then .tt else .ff)) -> Region.wanted o (yielded ops a.tmps) = (b == want) := by
  have hg := h.g
  unfold Region.wanted
  cases e : o.guard with
  | none => rw [e] at hg; simp only at hg; rw [hg]; simp
  | some p =>
    obtain ⟨j, want⟩ := p
    rw [e] at hg
    obtain ⟨oj, t, h1, h2, h3⟩ := hg
    refine ⟨fun h => (by rw [h3] at h; cases h), fun t' want' h b hb => ?_⟩
    rw [h3] at h
    cases h
    have hr := H.tm t _ hb
    have hv : a.tmps.getD t undef = .bool b := by cases b <;> simpa [rel] using hr
    have hlt : a.tmps[t]? = some (.bool b) := by
     rw [Array.getD_eq_getD_getElem?] at hv
     cases hx : a.tmps[t]? with
     | none => rw [hx] at hv; simp [undef] at hv
     | some x => rw [hx] at hv; simp at hv; rw [hv]
    simp only [yielded, h1, Option.bind_some, h2, hlt]
    cases b <;> cases want <;> rfl
theorem wanted_undef {C : Ctx} {gt go β own S a w} (H : Holds C gt go β own S a w) {ops : Array Oper} {o : Oper} {m : MOp} (h : MOpOk C ops o m) {t : Nat} {want : Bool} {xs : Array Value} (hg' : m.g = some (t, want))
 (hb : gt t = some (.val (.tuple xs))) : Region.wanted o (yielded ops a.tmps) = false := by
  have hg := h.g
  unfold Region.wanted
  cases e : o.guard with
  | none => rw [e] at hg; simp only at hg; rw [hg] at hg'; cases hg'
  | some p =>
    obtain ⟨j, want'⟩ := p
    rw [e] at hg
    obtain ⟨oj, t', h1, h2, h3⟩ := hg
    rw [h3] at hg'
    cases hg'
    have hr := H.tm t _ hb
    simp only [rel] at hr
    simp only [yielded, h1, Option.bind_some, h2]
    rw [Array.getD_eq_getD_getElem?] at hr
    cases hx : a.tmps[t]? with
    | none => rfl
    | some x => rw [hx] at hr; simp at hr; subst hr; rfl
theorem dstw_put {gt : GT} {d : Option Nat} {v : Option SV} : gtPut gt (dstw d v) = match d, v with | some d, some v => upd gt d (some v) | _, _ => gt := by
 cases d <;> cases v <;> rfl
theorem opVc_ok {C : Ctx} {ops : Array Oper} {o : Oper} {m : MOp} (hm : MOpOk C ops o m) {s : St} {K : St -> Prop} (h : opVc C.toEnv m s K) {β own S a w} (H : HoldsS C s β own S a w)
 {next : Act -> World -> Prop} {Q : Exit -> Act -> World -> Prop} (hn : ∀ s' β' own' S' a' w', K s' -> HoldsS C s' β' own' S' a' w' -> next a' w') :
 if Region.wanted o (yielded ops a.tmps) then o.wpIn (Wf C.rnd) 0 C.P a w next Q else next (a.put o.dst undef) w := by
  obtain ⟨st, so, snx⟩ := s
  have fresh0 : ∀ i, snx ≤ i -> β i = none := H.fresh
  have m00 : C.m0 ≤ snx := H.m0
  obtain ⟨w1, w2⟩ := wanted_of H.h hm
  have exec : ((m.m.rt C.toEnv snx).vc (gtOf st) (goOf so) [] fun _ v os k => commit C.N m ⟨st, so, snx⟩ v os k K) -> o.wpIn (Wf C.rnd) 0 C.P a w next Q := by
   intro h
   obtain ⟨R, v, os, k, hr, hc⟩ := RT.runs_of_vc _ _ _ h
   simp only [commit, fOs_eq, fNat_eq, fLst_eq, fSV_eq, hm.d] at hc
   have hd : DstOk C o.dst v := by
    intro t e
    rw [e] at hc
    cases v with
    | none => exact hc.elim
    | some v =>
      simp only at hc
      refine ⟨?_, rfl⟩
      cases hb : Nat.blt t C.N with
      | true => rw [Nat.blt_eq] at hb; exact hb
      | false => rw [hb] at hc; exact hc.elim
   refine hm.ok hr hd β own S a w H.h (fun i h1 h2 => fresh0 i h1) next Q fun β' own' S' x w' hβ' H' => ?_
   have b0' : ∀ i B, i < C.m0 -> β' i = some B -> C.β0 i = some B := fun i B hi e => H.b0 i B hi (by rw [<- hβ' i (by omega)]; exact e)
   have m0' : C.m0 ≤ snx + k := Nat.le_trans H.m0 (Nat.le_add_right _ _)
   have fr' : ∀ i, snx + k ≤ i -> β' i = none := fun i hi => by rw [hβ' i (by omega)]; exact fresh0 i (by omega)
   rw [dstw_put] at H'
   cases hdst : o.dst with
   | none =>
     rw [hdst] at hc H'
     simp only at hc H'
     exact hn _ β' own' S' _ _ hc ⟨by simp only [goOf_rev]; exact H', fr', m0', b0'⟩
   | some t =>
     obtain ⟨hlt, hv⟩ := hd t hdst
     rw [hdst] at hc H'
     cases v with
     | none => simp at hv
     | some v =>
       simp only at hc H'
       have hb : Nat.blt t C.N = true := by rw [Nat.blt_eq]; exact hlt
       rw [hb] at hc
       simp only at hc
       have fin : ∀ v', (∀ x, rel β' w' S' v x -> rel β' w' S' v' x) -> K ⟨(t, v') ::st, revOn so os, snx + k⟩ -> next (a.put (some t) x) w' := by
        intro v' hv' hk
        refine hn _ β' own' S' _ _ hk ⟨?_, fr', m0', b0'⟩
        simp only [goOf_rev, gtOf_cons]
        have h1 := H'.tm t v (by simp)
        have := holds_upd H' (hv' _ h1)
        rw [upd_upd] at this
        exact this
       cases hsp : m.sp with
       | false => rw [hsp] at hc; exact fin v (fun _ h => h) hc
       | true =>
         rw [hsp] at hc
         simp only at hc
         split at hc
         . rename_i b
           cases b with
           | true => exact fin .tt (fun x hx => by simpa [rel] using hx) (hc.1 rfl)
           | false => exact fin .ff (fun x hx => by simpa [rel] using hx) (hc.2 rfl)
         . rename_i p
           by_cases hp : p
           . exact fin .tt (fun x hx => by simp only [rel] at hx ⊢; obtain ⟨b, e, hb⟩ := hx; rw [e, hb.2 hp]) (hc.1 hp)
           . exact fin .ff (fun x hx => by
              simp only [rel] at hx ⊢; obtain ⟨b, e, hb⟩ := hx
              cases b with
              | true => exact absurd (hb.1 rfl) hp
              | false => exact e) (hc.2 hp)
         . exact fin v (fun _ h => h) hc
  have skip : skipOp C.N m ⟨st, so, snx⟩ K -> next (a.put o.dst undef) w := by
   intro h
   simp only [skipOp, hm.d] at h
   cases hdst : o.dst with
   | none => rw [hdst] at h; exact hn _ β own S _ _ h H
   | some t =>
     rw [hdst] at h
     simp only at h
     split at h
     . rename_i hb
       have hlt : t < C.N := by rw [Nat.blt_eq] at hb; exact hb
       refine hn _ β own S _ _ h ⟨?_, H.fresh, H.m0, H.b0⟩
       simp only [gtOf_cons]
       have := H.h.pure (w' := w) rfl rfl rfl rfl (some t) undef (some (t, .val undef)) (fun d s' e => by cases e; exact ⟨rfl, hlt, by simp [rel]⟩) (fun e => by cases e)
       exact this
     . exact h.elim
  simp only [opVc] at h
  split at h
  . rename_i hg
    rw [w1 hg]
    exact exec h
  . rename_i t want hg
    split at h
    . rename_i ht
      have hw := w2 t want hg true (by simpa [gtOf] using ht)
      split at h
      . rw [hw]; exact exec h
      . rw [hw]; exact skip h
    . rename_i ht
      have hw := w2 t want hg false (by simpa [gtOf] using ht)
      split at h
      . rw [hw]; exact exec h
      . rw [hw]; exact skip h
    . rename_i v ht
      split at h
      . rename_i xs
        rw [wanted_undef H.h hm hg (by simpa [gtOf] using ht)]
        exact skip h
      . exact h.elim
    . exact h.elim
end Go.Sx
namespace Go.Sx
open Go
structure Ent : Type 1 where
 rd : List Loc
 t : Option (Nat × SV)
 os : List (Nat × Option SO)
 nx : Nat
 k : Nat
def oLocs : List (Nat × Option SO) -> List Loc
 | [] => []
 | (i, _) :: l => .o i :: oLocs l
def Ent.wr (e : Ent) : List Loc := match e.t with | some (d, _) => .t d :: oLocs e.os | none => oLocs e.os
def locEq : Loc -> Loc -> Bool
 | .t a, .t b => Nat.beq a b
 | .o a, .o b => Nat.beq a b
 | _, _ => false
def locIn (l : Loc) : List Loc -> Bool
 | [] => false
 | m :: r => match locEq l m with | true => true | false => locIn l r
def locMeet : List Loc -> List Loc -> Bool
 | [], _ => false
 | l :: r, m => match locIn l m with | true => true | false => locMeet r m
def Ent.apart (e f : Ent) : Bool := !(locMeet e.wr f.wr || locMeet e.wr f.rd || locMeet f.wr e.rd)
def closAux (acc : List Nat) : List (List Nat) -> List Nat
 | [] => acc
 | p :: r => closAux (acc ++ [p.foldl (fun m q => m ||| 2 ^ q ||| (acc.getD q 0)) 0]) r
def clos (pre : List (List Nat)) : List Nat := closAux [] pre
def apartRow (m : Nat) (e : Ent) : List Ent -> Nat -> Bool
 | [], _ => true
 | f :: r, i => match (m.testBit i || f.apart e) with | true => apartRow m e r (i + 1) | false => false
def apartAll (pre : List Nat) (done : List Ent) : List Ent -> Nat -> Bool
 | [], _ => true
 | e :: r, i => match apartRow (pre.getD i 0) e done 0 with | true => apartAll pre (done ++ [e]) r (i + 1) | false => false
def noConf (pre : List (List Nat)) (es : List Ent) : Bool := apartAll (clos pre) [] es 0
def commitD (N : Nat) (op : MOp) (nx : Nat) (R : List Loc) (v : Option SV) (os : List (Nat × Option SO)) (k : Nat) (K : Ent -> Prop) : Prop :=
 fOs os fun os => fNat k fun k =>
  match op.d, v with
  | none, _ => K ⟨R, none, os, nx, k⟩
  | some _, none => False
  | some d, some v => match Nat.blt d N with
    | false => False
    | true => fSV v fun v => match op.sp with
      | false => K ⟨R, some (d, v), os, nx, k⟩
      | true => match v with
        | .bool b => (b = true -> K ⟨R, some (d, .tt), os, nx, k⟩) ∧ (b = false -> K ⟨R, some (d, .ff), os, nx, k⟩)
        | .pr p => (p -> K ⟨R, some (d, .tt), os, nx, k⟩) ∧ (¬ p -> K ⟨R, some (d, .ff), os, nx, k⟩)
        | v => K ⟨R, some (d, v), os, nx, k⟩
def skipD (N : Nat) (op : MOp) (nx : Nat) (R : List Loc) (K : Ent -> Prop) : Prop :=
 match op.d with
 | none => K ⟨R, none, [], nx, 0⟩
 | some d => match Nat.blt d N with | true => K ⟨R, some (d, .val undef), [], nx, 0⟩ | false => False
def opVcD (E : Env) (op : MOp) (s : St) (K : Ent -> Prop) : Prop :=
 match s with
 | ⟨t, o, nx⟩ => match op.g with
   | none => (op.m.rt E nx).vc (gtOf t) (goOf o) [] fun R v os k => commitD E.N op nx R v os k K
   | some (g, want) => match look g t with
     | some .tt => (match want with | true => (op.m.rt E nx).vc (gtOf t) (goOf o) [.t g] fun R v os k => commitD E.N op nx R v os k K | false => skipD E.N op nx [.t g] K)
     | some .ff => (match want with | false => (op.m.rt E nx).vc (gtOf t) (goOf o) [.t g] fun R v os k => commitD E.N op nx R v os k K | true => skipD E.N op nx [.t g] K)
     | some (.val v) => (match v with | .tuple _ => skipD E.N op nx [.t g] K | _ => False)
     | _ => False
def St.put (s : St) (e : Ent) : St :=
 match e.t with
 | some p => ⟨p :: s.t, revOn s.o e.os, s.nx + e.k⟩
 | none => ⟨s.t, revOn s.o e.os, s.nx + e.k⟩
def putVc (s : St) (e : Ent) (K : St -> Prop) : Prop :=
 match s, e with
 | ⟨t, o, nx⟩, ⟨_, w, os, _, k⟩ => fLst (revOn o os) fun o => fNat (nx + k) fun nx => match w with
   | some p => K ⟨p :: t, o, nx⟩
   | none => K ⟨t, o, nx⟩
def runD (E : Env) : List MOp -> St -> List Ent -> (List Ent -> St -> Prop) -> Prop
 | [], s, L, K => K L s
 | o :: r, s, L, K => opVcD E o s fun e => putVc s e fun s => runD E r s (L ++ [e]) K
theorem putVc_eq (s : St) (e : Ent) (K : St -> Prop) : putVc s e K = K (s.put e) := by
 obtain ⟨t, o, nx⟩ := s
 obtain ⟨R, w, os, nx', k⟩ := e
 simp only [putVc, fLst_eq, fNat_eq, St.put]
 cases w <;> rfl
structure EntOk (C : Ctx) (ops : Array Oper) (o : Oper) (gt0 : GT) (go0 : GO) (e : Ent) : Prop where
 ok : ∀ {gt go β own S a w}, Holds C gt go β own S a w -> (∀ n, .t n ∈ e.rd -> gt n = gt0 n) -> (∀ i, .o i ∈ e.rd -> go i = go0 i) -> (∀ i, e.nx ≤ i -> i < e.nx + e.k -> β i = none) →
  ∀ {next : Act -> World -> Prop} {Q : Exit -> Act -> World -> Prop}, (∀ β' own' S' a' w', (∀ i, ¬ (e.nx ≤ i ∧ i < e.nx + e.k) -> β' i = β i) -> Holds C (gtPut gt e.t) (goPut go e.os) β' own' S' a' w' -> next a' w') →
  if Region.wanted o (yielded ops a.tmps) then o.wpIn (Wf C.rnd) 0 C.P a w next Q else next (a.put o.dst undef) w
theorem gtPut_refine {gt : GT} {d : Nat} {v v' : SV} {C : Ctx} {go β own S a w} (H : Holds C (gtPut gt (some (d, v))) go β own S a w) (hv : ∀ x, rel β w S v x -> rel β w S v' x) : Holds C (gtPut gt (some (d, v'))) go β own S a w := by
 simp only [gtPut] at *
 have h1 := H.tm d v (by simp)
 have := holds_upd H (hv _ h1)
 rw [upd_upd] at this
 exact this
theorem opVcD_ok {C : Ctx} {ops : Array Oper} {o : Oper} {m : MOp} (hm : MOpOk C ops o m) {s : St} {K : Ent -> Prop} (h : opVcD C.toEnv m s K) :
 ∃ e, K e ∧ e.nx = s.nx ∧ EntOk C ops o (gtOf s.t) (goOf s.o) e := by
  have exec : ∀ (R0 : List Loc), (∀ {gt go β own S a w}, Holds C gt go β own S a w -> (∀ n, .t n ∈ R0 -> gt n = gtOf s.t n) -> Region.wanted o (yielded ops a.tmps) = true) →
   ((m.m.rt C.toEnv s.nx).vc (gtOf s.t) (goOf s.o) R0 fun R v os k => commitD C.N m s.nx R v os k K) -> ∃ e, K e ∧ e.nx = s.nx ∧ EntOk C ops o (gtOf s.t) (goOf s.o) e := by
    intro R0 hw h
    obtain ⟨R, v, os, k, hr, hc⟩ := RT.runs_of_vc _ _ _ h
    simp only [commitD, fOs_eq, fNat_eq, fSV_eq, hm.d] at hc
    have hd : DstOk C o.dst v := by
     intro t e
     rw [e] at hc
     cases v with
     | none => exact hc.elim
     | some v =>
       simp only at hc
       refine ⟨?_, rfl⟩
       cases hb : Nat.blt t C.N with
       | true => rw [Nat.blt_eq] at hb; exact hb
       | false => rw [hb] at hc; exact hc.elim
    have base : EntOk C ops o (gtOf s.t) (goOf s.o) ⟨R.reverse ++ R0, dstw o.dst v, os, s.nx, k⟩ := by
     constructor
     intro gt go β own S a w H ht hgo hβ next Q hn
     rw [hw H (fun n hn => ht n (by simp [hn]))]
     have hr' := hr.local (gt' := gt) (go' := go) (fun n hn => ht n (by simp [hn])) (fun i hi => hgo i (by simp [hi]))
     exact hm.ok hr' hd β own S a w H hβ next Q fun β' own' S' x w' hβ' H' => hn β' own' S' _ _ hβ' H'
    cases hdst : o.dst with
    | none => rw [hdst] at hc base; exact ⟨_, hc, rfl, base⟩
    | some t =>
      obtain ⟨hlt, hv⟩ := hd t hdst
      rw [hdst] at hc base
      cases v with
      | none => simp at hv
      | some v =>
        simp only at hc
        have hb : Nat.blt t C.N = true := by rw [Nat.blt_eq]; exact hlt
        rw [hb] at hc
        simp only at hc
        have refine' : ∀ v', (∀ {β w S} x, rel β w S v x -> rel β w S v' x) -> EntOk C ops o (gtOf s.t) (goOf s.o) ⟨R.reverse ++ R0, some (t, v'), os, s.nx, k⟩ := by
         intro v' hv'
         constructor
         intro gt go β own S a w H ht hgo hβ next Q hn
         exact base.ok H ht hgo hβ fun β' own' S' a' w' hβ' H' => hn β' own' S' a' w' hβ' (gtPut_refine H' (fun x => hv' x))
        cases hsp : m.sp with
        | false => rw [hsp] at hc; exact ⟨_, hc, rfl, base⟩
        | true =>
          rw [hsp] at hc
          simp only at hc
          split at hc
          . rename_i b
            cases b with
            | true => exact ⟨_, hc.1 rfl, rfl, refine' .tt (fun x hx => by simpa [rel] using hx)⟩
            | false => exact ⟨_, hc.2 rfl, rfl, refine' .ff (fun x hx => by simpa [rel] using hx)⟩
          . rename_i p
            by_cases hp : p
            . exact ⟨_, hc.1 hp, rfl, refine' .tt (fun x hx => by simp only [rel] at hx ⊢; obtain ⟨b, e, hb⟩ := hx; rw [e, hb.2 hp])⟩
            . exact ⟨_, hc.2 hp, rfl, refine' .ff (fun x hx => by
               simp only [rel] at hx ⊢; obtain ⟨b, e, hb⟩ := hx
               cases b with
               | true => exact absurd (hb.1 rfl) hp
               | false => exact e)⟩
          . exact ⟨_, hc, rfl, base⟩
  have skip : ∀ (R0 : List Loc), (∀ {gt go β own S a w}, Holds C gt go β own S a w -> (∀ n, .t n ∈ R0 -> gt n = gtOf s.t n) -> Region.wanted o (yielded ops a.tmps) = false) →
   skipD C.N m s.nx R0 K -> ∃ e, K e ∧ e.nx = s.nx ∧ EntOk C ops o (gtOf s.t) (goOf s.o) e := by
    intro R0 hw h
    simp only [skipD, hm.d] at h
    cases hdst : o.dst with
    | none =>
      rw [hdst] at h
      refine ⟨_, h, rfl, ⟨?_⟩⟩
      intro gt go β own S a w H ht hgo hβ next Q hn
      rw [hw H ht, hdst]
      exact hn β own S _ _ (fun _ _ => rfl) H
    | some t =>
      rw [hdst] at h
      simp only at h
      split at h
      . rename_i hb
        have hlt : t < C.N := by rw [Nat.blt_eq] at hb; exact hb
        refine ⟨_, h, rfl, ⟨?_⟩⟩
        intro gt go β own S a w H ht hgo hβ next Q hn
        rw [hw H ht, hdst]
        exact hn β own S _ _ (fun _ _ => rfl) (H.pure (w' := w) rfl rfl rfl rfl (some t) undef (some (t, .val undef)) (fun d s' e => by cases e; exact ⟨rfl, hlt, by simp [rel]⟩) (fun e => by cases e))
      . exact h.elim
  simp only [opVcD] at h
  split at h
  . rename_i hg
    exact exec [] (fun H _ => (wanted_of H hm).1 hg) h
  . rename_i t want hg
    have wn : ∀ b, look t s.t = some (if b then .tt else .ff) -> ∀ {gt go β own S a w}, Holds C gt go β own S a w -> (∀ n, .t n ∈ [Loc.t t] -> gt n = gtOf s.t n) -> Region.wanted o (yielded ops a.tmps) = (b == want) := by
     intro b hb gt go β own S a w H ht
     exact (wanted_of H hm).2 t want hg b (by rw [ht t (by simp)]; simpa [gtOf] using hb)
    split at h
    . rename_i ht
      split at h
      . exact exec _ (fun H h => wn true ht H h) h
      . exact skip _ (fun H h => wn true ht H h) h
    . rename_i ht
      split at h
      . exact exec _ (fun H h => wn false ht H h) h
      . exact skip _ (fun H h => wn false ht H h) h
    . rename_i v ht
      split at h
      . rename_i xs
        exact skip _ (fun H h => wanted_undef H hm hg (by rw [h t (by simp)]; simpa [gtOf] using ht)) h
      . exact h.elim
    . exact h.elim
def gtAt (D : Nat -> Bool) (gt : GT) : List Ent -> Nat -> GT
 | [], _ => gt
 | e :: r, i => gtAt D (if D i then gtPut gt e.t else gt) r (i + 1)
def goAt (D : Nat -> Bool) (go : GO) : List Ent -> Nat -> GO
 | [], _ => go
 | e :: r, i => goAt D (if D i then goPut go e.os else go) r (i + 1)
theorem gtPut_other {gt : GT} {t : Option (Nat × SV)} {n : Nat} (h : ∀ d v, t = some (d, v) -> d ≠ n) : gtPut gt t n = gt n := by
 cases t with
 | none => rfl
 | some p => obtain ⟨d, v⟩ := p; exact upd_other _ _ (fun e => h d v rfl e.symm)
theorem goPut_other : ∀ {os : List (Nat × Option SO)} {go : GO} {n : Nat}, .o n ∉ oLocs os -> goPut go os n = go n
 | [], _, _, _ => rfl
 | (i, o) :: os, go, n, h => by
   simp [oLocs] at h
   simp only [goPut]
   rw [goPut_other h.2, upd_other _ _ h.1]
theorem goPut_congr : ∀ {os : List (Nat × Option SO)} {go go' : GO} {n : Nat}, go n = go' n -> goPut go os n = goPut go' os n
 | [], _, _, _, h => h
 | (i, o) :: os, go, go', n, h => by
   simp only [goPut]
   refine goPut_congr ?_
   by_cases e : n = i
   . subst e; simp
   . rw [upd_other _ _ e, upd_other _ _ e, h]
theorem goPut_same : ∀ {os : List (Nat × Option SO)} {go go' : GO} {n : Nat}, .o n ∈ oLocs os -> goPut go os n = goPut go' os n
 | [], _, _, _, h => by simp [oLocs] at h
 | (i, o) :: os, go, go', n, h => by
   simp only [goPut]
   by_cases e : n = i
   . subst e; exact goPut_congr (by simp)
   . simp [oLocs, e] at h
     exact goPut_same h
theorem gtPut_same {gt gt' : GT} {t : Option (Nat × SV)} {n : Nat} (h : ∃ v, t = some (n, v)) : gtPut gt t n = gtPut gt' t n := by
 obtain ⟨v, rfl⟩ := h
 simp [gtPut]
def wrT (e : Ent) (n : Nat) : Prop := ∃ v, e.t = some (n, v)
def wrO (e : Ent) (n : Nat) : Prop := .o n ∈ oLocs e.os
theorem gtAt_congr (n : Nat) : ∀ (es : List Ent) (i0 : Nat) (D D' : Nat -> Bool) (gt gt' : GT), gt n = gt' n -> (∀ j (h : j < es.length), wrT es[j] n -> D (i0 + j) = D' (i0 + j)) -> gtAt D gt es i0 n = gtAt D' gt' es i0 n
 | [], _, _, _, _, _, h, _ => h
 | e :: es, i0, D, D', gt, gt', h, hD => by
   simp only [gtAt]
   refine gtAt_congr n es (i0 + 1) D D' _ _ ?_ (fun j hj hw => by
    have := hD (j + 1) (by simpa using hj) (by simpa using hw)
    rwa [show i0 + (j + 1) = i0 + 1 + j by omega] at this)
   by_cases hw : wrT e n
   . have := hD 0 (by simp) hw
     simp at this
     rw [this]
     by_cases hd : D' i0
     . simp only [hd, if_true]; exact gtPut_same hw
     . simp only [hd]; exact h
   . have hno : ∀ gt : GT, gtPut gt e.t n = gt n := fun gt => gtPut_other (fun d v q e' => hw ⟨v, by rw [q, e']⟩)
     have h1 : ∀ (b : Bool) (gt : GT), (if b then gtPut gt e.t else gt) n = gt n := fun b gt => by cases b <;> simp [hno]
     rw [h1, h1]; exact h
theorem goAt_congr (n : Nat) : ∀ (es : List Ent) (i0 : Nat) (D D' : Nat -> Bool) (go go' : GO), go n = go' n -> (∀ j (h : j < es.length), wrO es[j] n -> D (i0 + j) = D' (i0 + j)) -> goAt D go es i0 n = goAt D' go' es i0 n
 | [], _, _, _, _, _, h, _ => h
 | e :: es, i0, D, D', go, go', h, hD => by
   simp only [goAt]
   refine goAt_congr n es (i0 + 1) D D' _ _ ?_ (fun j hj hw => by
    have := hD (j + 1) (by simpa using hj) (by simpa using hw)
    rwa [show i0 + (j + 1) = i0 + 1 + j by omega] at this)
   by_cases hw : wrO e n
   . have := hD 0 (by simp) hw
     simp at this
     rw [this]
     by_cases hd : D' i0
     . simp only [hd, if_true]; exact goPut_same hw
     . simp only [hd]; exact h
   . have h1 : ∀ (b : Bool) (go : GO), (if b then goPut go e.os else go) n = go n := fun b go => by cases b <;> simp [goPut_other hw]
     rw [h1, h1]; exact h
theorem gtAt_last (n : Nat) : ∀ (es : List Ent) (i0 : Nat) (D : Nat -> Bool) (gt gt' : GT) (i : Nat) (h : i < es.length), D (i0 + i) = true -> wrT es[i] n →
 (∀ j (h : j < es.length), i < j -> wrT es[j] n -> D (i0 + j) = false) -> gtAt D gt es i0 n = gtPut gt' es[i].t n
  | [], _, _, _, _, i, h, _, _, _ => by simp at h
  | e :: es, i0, D, gt, gt', i, h, hD, hw, hl => by
    cases i with
    | zero =>
      simp only [gtAt]
      simp at hD hw
      rw [hD]
      have : gtAt D (if true = true then gtPut gt e.t else gt) es (i0 + 1) n = gtAt (fun _ => false) (gtPut gt e.t) es (i0 + 1) n := by
       refine gtAt_congr n es (i0 + 1) _ _ _ _ (by simp) (fun j hj hw => ?_)
       have := hl (j + 1) (by simpa using hj) (by omega) (by simpa using hw)
       rwa [show i0 + (j + 1) = i0 + 1 + j by omega] at this
      rw [this]
      have none_ : ∀ (es : List Ent) (i0 : Nat) (gt : GT), gtAt (fun _ => false) gt es i0 = gt := by
       intro es
       induction es with
       | nil => intro i0 gt; rfl
       | cons e es ih => intro i0 gt; simp only [gtAt]; exact ih _ _
      rw [none_]
      exact gtPut_same hw
    | succ i =>
      simp only [gtAt]
      have := gtAt_last n es (i0 + 1) D (if D i0 then gtPut gt e.t else gt) gt' i (by simpa using h) (by rw [show i0 + 1 + i = i0 + (i + 1) by omega]; exact hD) (by simpa using hw)
       (fun j hj hij hw => by
        have := hl (j + 1) (by simpa using hj) (by omega) (by simpa using hw)
        rwa [show i0 + (j + 1) = i0 + 1 + j by omega] at this)
      simpa using this
theorem goAt_last (n : Nat) : ∀ (es : List Ent) (i0 : Nat) (D : Nat -> Bool) (go go' : GO) (i : Nat) (h : i < es.length), D (i0 + i) = true -> wrO es[i] n →
 (∀ j (h : j < es.length), i < j -> wrO es[j] n -> D (i0 + j) = false) -> goAt D go es i0 n = goPut go' es[i].os n
  | [], _, _, _, _, i, h, _, _, _ => by simp at h
  | e :: es, i0, D, go, go', i, h, hD, hw, hl => by
    cases i with
    | zero =>
      simp only [goAt]
      simp at hD hw
      rw [hD]
      have : goAt D (if true = true then goPut go e.os else go) es (i0 + 1) n = goAt (fun _ => false) (goPut go e.os) es (i0 + 1) n := by
       refine goAt_congr n es (i0 + 1) _ _ _ _ (by simp) (fun j hj hw => ?_)
       have := hl (j + 1) (by simpa using hj) (by omega) (by simpa using hw)
       rwa [show i0 + (j + 1) = i0 + 1 + j by omega] at this
      rw [this]
      have none_ : ∀ (es : List Ent) (i0 : Nat) (go : GO), goAt (fun _ => false) go es i0 = go := by
       intro es
       induction es with
       | nil => intro i0 go; rfl
       | cons e es ih => intro i0 go; simp only [goAt]; exact ih _ _
      rw [none_]
      exact goPut_same hw
    | succ i =>
      simp only [goAt]
      have := goAt_last n es (i0 + 1) D (if D i0 then goPut go e.os else go) go' i (by simpa using h) (by rw [show i0 + 1 + i = i0 + (i + 1) by omega]; exact hD) (by simpa using hw)
       (fun j hj hij hw => by
        have := hl (j + 1) (by simpa using hj) (by omega) (by simpa using hw)
        rwa [show i0 + (j + 1) = i0 + 1 + j by omega] at this)
      simpa using this
def Closed (pre : List (List Nat)) (D : Nat -> Bool) : Prop := ∀ j p, p ∈ pre.getD j [] -> D j = true -> D p = true
theorem foldl_or_bit (acc : List Nat) (i : Nat) : ∀ (p : List Nat) (m : Nat), (p.foldl (fun m q => m ||| 2 ^ q ||| (acc.getD q 0)) m).testBit i = true -> m.testBit i = true ∨ ∃ q ∈ p, q = i ∨ (acc.getD q 0).testBit i = true
 | [], m, h => .inl h
 | q :: p, m, h => by
   rw [List.foldl_cons] at h
   rcases foldl_or_bit acc i p _ h with h | ⟨q', hq, h⟩
   . rw [Nat.testBit_or, Nat.testBit_or] at h
     simp only [Bool.or_eq_true] at h
     rcases h with (h | h) | h
     . exact .inl h
     . right
       refine ⟨q, by simp, .inl ?_⟩
       rw [Nat.testBit_two_pow] at h
       simpa using h
     . exact .inr ⟨q, by simp, .inr h⟩
   . exact .inr ⟨q', by simp [hq], h⟩
theorem closAux_ok (pre0 : List (List Nat)) : ∀ (pre : List (List Nat)) (acc : List Nat), (∀ t, pre.getD t [] = pre0.getD (acc.length + t) []) →
 (∀ D, Closed pre0 D -> ∀ j, j < acc.length -> D j = true -> ∀ i, (acc.getD j 0).testBit i = true -> D i = true) →
 ∀ D, Closed pre0 D -> ∀ j, D j = true -> ∀ i, ((closAux acc pre).getD j 0).testBit i = true -> D i = true
  | [], acc, _, h, D, hD, j, hj, i, hi => by
    simp only [closAux] at hi
    by_cases hlt : j < acc.length
    . exact h D hD j hlt hj i hi
    . rw [List.getD_eq_getElem?_getD, List.getElem?_eq_none (by omega)] at hi
      simp at hi
  | p :: r, acc, hp, h, D, hD, j, hj, i, hi => by
    simp only [closAux] at hi
    refine closAux_ok pre0 r _ (fun t => ?_) (fun D hD j hlt hj i hi => ?_) D hD j hj i hi
    . have := hp (t + 1)
      simp only [List.getD_cons_succ] at this
      rw [this]
      congr 1
      simp; omega
    . by_cases hlt2 : j < acc.length
      . rw [List.getD_eq_getElem?_getD, List.getElem?_append_left hlt2, <- List.getD_eq_getElem?_getD] at hi
        exact h D hD j hlt2 hj i hi
      . simp at hlt
        have hj' : j = acc.length := by omega
        subst hj'
        rw [List.getD_eq_getElem?_getD, List.getElem?_append_right (by omega)] at hi
        simp at hi
        have h0 := hp 0
        simp at h0
        rcases foldl_or_bit acc i p 0 (by simpa using hi) with h1 | ⟨q, hq, h1⟩
        . simp at h1
        . have hDq : D q = true := hD acc.length q (by simp only [List.getD_eq_getElem?_getD]; rw [<- h0]; exact hq) hj
          rcases h1 with rfl | h1
          . exact hDq
          . by_cases hlt3 : q < acc.length
            . exact h D hD q hlt3 hDq i (by simpa using h1)
            . rw [List.getD_eq_getElem?_getD, List.getElem?_eq_none (by omega)] at h1
              simp at h1
theorem clos_ok {pre : List (List Nat)} {D : Nat -> Bool} (hD : Closed pre D) {j : Nat} (hj : D j = true) {i : Nat} (hi : ((clos pre).getD j 0).testBit i = true) : D i = true :=
 closAux_ok pre pre [] (fun t => by simp) (fun _ _ j h => by simp at h) D hD j hj i hi
theorem locEq_iff {a b : Loc} : locEq a b = true ↔ a = b := by
 cases a <;> cases b <;> simp [locEq]
theorem locIn_iff {l : Loc} : ∀ {r : List Loc}, locIn l r = true ↔ l ∈ r
 | [] => by simp [locIn]
 | m :: r => by
   simp only [locIn, List.mem_cons]
   split
   . rename_i h; simp [locEq_iff.1 h]
   . rename_i h
     rw [locIn_iff]
     constructor
     . exact .inr
     . rintro (e | e)
       . rw [e, locEq_iff.2 rfl] at h; cases h
       . exact e
theorem locMeet_iff : ∀ {l m : List Loc}, locMeet l m = true ↔ ∃ x, x ∈ l ∧ x ∈ m
 | [], m => by simp [locMeet]
 | x :: l, m => by
   simp only [locMeet]
   split
   . rename_i h; exact ⟨fun _ => ⟨x, by simp, locIn_iff.1 h⟩, fun _ => rfl⟩
   . rename_i h
     rw [locMeet_iff]
     constructor
     . rintro ⟨y, h1, h2⟩; exact ⟨y, by simp [h1], h2⟩
     . rintro ⟨y, h1, h2⟩
       rcases List.mem_cons.1 h1 with rfl | h1
       . rw [locIn_iff.2 h2] at h; cases h
       . exact ⟨y, h1, h2⟩
theorem apart_iff {e f : Ent} : e.apart f = true ↔ (∀ x, x ∈ e.wr -> x ∉ f.wr) ∧ (∀ x, x ∈ e.wr -> x ∉ f.rd) ∧ (∀ x, x ∈ f.wr -> x ∉ e.rd) := by
 simp only [Ent.apart, Bool.not_eq_true', Bool.or_eq_false_iff]
 have key : ∀ l m : List Loc, locMeet l m = false ↔ ∀ x, x ∈ l -> x ∉ m := fun l m => by
  rw [<- Bool.not_eq_true, locMeet_iff]
  simp
 rw [key, key, key]
 exact ⟨fun ⟨⟨a, b⟩, c⟩ => ⟨a, b, c⟩, fun ⟨a, b, c⟩ => ⟨⟨a, b⟩, c⟩⟩
theorem apartRow_ok {m : Nat} {e : Ent} : ∀ {l : List Ent} {i0 : Nat}, apartRow m e l i0 = true -> ∀ i (h : i < l.length), m.testBit (i0 + i) = true ∨ l[i].apart e = true
 | [], _, _, i, h => by simp at h
 | f :: l, i0, h, i, hi => by
   simp only [apartRow] at h
   split at h
   . rename_i hb
     cases i with
     | zero => simpa using hb
     | succ i =>
       have := apartRow_ok h i (by simpa using hi)
       simpa [show i0 + 1 + i = i0 + (i + 1) by omega] using this
   . cases h
theorem apartAll_ok {pre : List Nat} : ∀ {es done : List Ent} {i0 : Nat}, i0 = done.length -> apartAll pre done es i0 = true →
 ∀ i j (hi : i < (done ++ es).length) (hj : j < (done ++ es).length), i < j -> done.length ≤ j -> (pre.getD j 0).testBit i = true ∨ (done ++ es)[i].apart (done ++ es)[j] = true
  | [], done, i0, _, _, i, j, hi, hj, hij, hd => by simp at hj; omega
  | e :: es, done, i0, h0, h, i, j, hi, hj, hij, hd => by
    simp only [apartAll] at h
    split at h
    . rename_i hb
      by_cases hjd : j = done.length
      . subst hjd
        have := apartRow_ok hb i hij
        rw [h0] at this
        simp only [Nat.zero_add] at this
        rw [List.getElem_append_left hij, List.getElem_append_right (by omega)]
        simpa using this
      . have := apartAll_ok (es := es) (done := done ++ [e]) (i0 := i0 + 1) (by simp [h0]) h i j (by simpa using hi) (by simpa using hj) hij (by simp; omega)
        simpa using this
    . cases h
theorem noConf_ok {pre : List (List Nat)} {es : List Ent} (h : noConf pre es = true) {i j : Nat} (hi : i < es.length) (hj : j < es.length) (hij : i < j) :
 ((clos pre).getD j 0).testBit i = true ∨ es[i].apart es[j] = true := by
  have := apartAll_ok (done := []) rfl h i j (by simpa using hi) (by simpa using hj) hij (by simp)
  simpa using this
inductive RunE (C : Ctx) (ops : Array Oper) : List Nat -> List MOp -> St -> List Ent -> St -> Prop
 | nil {s} : RunE C ops [] [] s [] s
 | cons {i l m ms s o e es s'} (ho : ops[i]? = some o) (hm : MOpOk C ops o m) (hnx : e.nx = s.nx) (he : EntOk C ops o (gtOf s.t) (goOf s.o) e) (h : RunE C ops l ms (s.put e) es s') : RunE C ops (i :: l) (m :: ms) s (e :: es) s'
theorem runD_ok {C : Ctx} {ops : Array Oper} : ∀ (l : List Nat) (ms : List MOp) {s : St} {L0 : List Ent} {K : List Ent -> St -> Prop}, l.length = ms.length →
 (∀ t (h : t < l.length) (h' : t < ms.length), ∃ o, ops[l[t]]? = some o ∧ MOpOk C ops o ms[t]) -> runD C.toEnv ms s L0 K -> ∃ es s', RunE C ops l ms s es s' ∧ K (L0 ++ es) s'
  | [], ms, s, L0, K, hl, _, h => by
    have : ms = [] := by simpa using hl.symm
    subst this
    simp only [runD] at h
    exact ⟨[], s, .nil, by simpa using h⟩
  | i :: l, ms, s, L0, K, hl, hp, h => by
    cases ms with
    | nil => simp at hl
    | cons m ms =>
      obtain ⟨o, ho, hm⟩ := hp 0 (by simp) (by simp)
      simp at ho hm
      simp only [runD] at h
      obtain ⟨e, h1, h2, h3⟩ := opVcD_ok hm h
      rw [putVc_eq] at h1
      obtain ⟨es, s', h4, h5⟩ := runD_ok l ms (by simpa using hl) (fun t ht ht' => hp (t + 1) (Nat.succ_lt_succ ht) (Nat.succ_lt_succ ht')) h1
      exact ⟨e :: es, s', .cons ho hm h2 h3 h4, by simpa using h5⟩
theorem gt_put {s : St} {e : Ent} : gtOf (s.put e).t = gtPut (gtOf s.t) e.t := by
 unfold St.put
 cases h : e.t with
 | none => rfl
 | some p => obtain ⟨d, v⟩ := p; exact gtOf_cons d v s.t
theorem go_put {s : St} {e : Ent} : goOf (s.put e).o = goPut (goOf s.o) e.os := by
 unfold St.put
 cases h : e.t <;> exact goOf_rev _ _
theorem nx_put {s : St} {e : Ent} : (s.put e).nx = s.nx + e.k := by unfold St.put; split <;> rfl
theorem RunE.facts {C : Ctx} {ops : Array Oper} {l ms s es s'} (h : RunE C ops l ms s es s') :
 es.length = l.length ∧ (∀ D : Nat -> Bool, ∀ i0, (∀ t, t < es.length -> D (i0 + t) = true) -> gtAt D (gtOf s.t) es i0 = gtOf s'.t ∧ goAt D (goOf s.o) es i0 = goOf s'.o) ∧ s.nx ≤ s'.nx ∧
 (∀ i (hi : i < es.length) (hl : i < l.length), s.nx ≤ es[i].nx ∧ es[i].nx + es[i].k ≤ s'.nx ∧ (∀ j (hj : j < es.length), i < j -> es[i].nx + es[i].k ≤ es[j].nx) ∧
  ∃ o, ops[l[i]]? = some o ∧ ∀ D : Nat -> Bool, ∀ i0, (∀ t, t < es.length -> D (i0 + t) = decide (t < i)) -> EntOk C ops o (gtAt D (gtOf s.t) es i0) (goAt D (goOf s.o) es i0) es[i]) := by
  induction h with
  | nil => exact ⟨rfl, fun D i0 _ => ⟨rfl, rfl⟩, Nat.le_refl _, fun i hi => by simp at hi⟩
  | @cons i l m ms s o e es s' ho hm hnx he h ih =>
    obtain ⟨h1, h2, h2', h3⟩ := ih
    rw [nx_put] at h2'
    refine ⟨by simp [h1], fun D i0 hD => ?_, by omega, fun t ht htl => ?_⟩
    . have h0 := hD 0 (by simp)
      simp at h0
      simp only [gtAt, goAt, h0, if_true]
      have := h2 D (i0 + 1) (fun t ht => by
       have := hD (t + 1) (by simpa using ht)
       rwa [show i0 + (t + 1) = i0 + 1 + t by omega] at this)
      rw [gt_put, go_put] at this
      exact this
    . cases t with
      | zero =>
        refine ⟨by simp [hnx], by simp [hnx]; omega, fun j hj hj0 => ?_, o, by simpa using ho, fun D i0 hD => ?_⟩
        . cases j with
          | zero => omega
          | succ j =>
            simp at hj ⊢
            have := (h3 j hj (by omega)).1
            rw [nx_put] at this
            omega
        . have hno : ∀ (es : List Ent) (i0 : Nat) (gt : GT), (∀ t, t < es.length -> D (i0 + t) = false) -> gtAt D gt es i0 = gt := by
           intro es
           induction es with
           | nil => intro i0 gt _; rfl
           | cons e es ih =>
             intro i0 gt h
             simp only [gtAt]
             have h0 := h 0 (by simp)
             simp at h0
             rw [h0]
             exact ih _ _ (fun t ht => by
              have := h (t + 1) (by simpa using ht)
              rwa [show i0 + (t + 1) = i0 + 1 + t by omega] at this)
          have hno' : ∀ (es : List Ent) (i0 : Nat) (go : GO), (∀ t, t < es.length -> D (i0 + t) = false) -> goAt D go es i0 = go := by
           intro es
           induction es with
           | nil => intro i0 go _; rfl
           | cons e es ih =>
             intro i0 go h
             simp only [goAt]
             have h0 := h 0 (by simp)
             simp at h0
             rw [h0]
             exact ih _ _ (fun t ht => by
              have := h (t + 1) (by simpa using ht)
              rwa [show i0 + (t + 1) = i0 + 1 + t by omega] at this)
          rw [hno _ _ _ (fun t ht => by simpa using hD t ht), hno' _ _ _ (fun t ht => by simpa using hD t ht)]
          simpa using he
      | succ t =>
        simp at ht htl
        obtain ⟨q1, q2, q3, o', q4, q5⟩ := h3 t ht htl
        rw [nx_put] at q1
        refine ⟨by simp; omega, by simpa using q2, fun j hj htj => ?_, o', by simpa using q4, fun D i0 hD => ?_⟩
        . cases j with
          | zero => omega
          | succ j => simp at hj ⊢; exact q3 j hj (by omega)
        . have h0 := hD 0 (by simp)
          simp at h0
          simp only [gtAt, goAt, h0, if_true]
          rw [<- gt_put, <- go_put]
          exact q5 D (i0 + 1) (fun t' ht' => by
           have := hD (t' + 1) (by simpa using ht')
           rw [show i0 + (t' + 1) = i0 + 1 + t' by omega] at this
           rw [this]; simp)
theorem anyOrder {C : Ctx} {ops : Array Oper} {Q : Exit -> Act -> World -> Prop} {pre : List (List Nat)} {ms : List MOp} {s : St} {es : List Ent} {s' : St} (hr : RunE C ops (List.range ops.size) ms s es s')
 (hn : noConf pre es = true) (hpre : ∀ j o, ops[j]? = some o -> ∀ p, p ∈ pre.getD j [] ↔ ∃ e ∈ o.after, Region.binds .any e = true ∧ e.on = p) (hlt : ∀ j p, p ∈ pre.getD j [] -> p < j)
 (hq : ∀ β own S a w, HoldsS C s' β own S a w -> Q .normal a w) {β00 : Nat -> Option Base} (hm0 : C.m0 ≤ s.nx) (hb0 : ∀ i B, i < C.m0 -> β00 i = some B -> C.β0 i = some B) :
 ∀ (fuel : Nat) (listed : Array Bool) (β : Nat -> Option Base) (own : Nat -> Nat -> Prop) (S : Nat -> Prop) (a : Act) (w : World), listed.size = ops.size -> Closed pre (fun i => listed.getD i false) →
  ((List.range ops.size).filter (fun i => !listed.getD i true)).length ≤ fuel →
  Holds C (gtAt (fun i => listed.getD i false) (gtOf s.t) es 0) (goAt (fun i => listed.getD i false) (goOf s.o) es 0) β own S a w →
  (∀ id, s.nx ≤ id -> (∀ i (h : i < es.length), listed.getD i false = true -> ¬ (es[i].nx ≤ id ∧ id < es[i].nx + es[i].k)) -> β id = none) -> (∀ id, id < s.nx -> β id = β00 id) →
  wpAnyIn (Wf C.rnd) 0 C.P .any ops Q fuel listed a w := by
  obtain ⟨hlen, hall, hnx, hfacts⟩ := hr.facts
  simp at hlen
  have done : ∀ (listed : Array Bool), listed.size = ops.size -> Region.ready .any ops listed = [] -> ∀ i, i < ops.size -> listed.getD i false = true := by
   intro listed hsz hrd i
   induction i using Nat.strongRecOn with
   | _ i ih =>
     intro hi
     cases e : listed.getD i false with
     | true => rfl
     | false =>
       exfalso
       have hmem : i ∈ Region.ready .any ops listed := by
        unfold Region.ready
        rw [List.mem_filter]
        refine ⟨by simpa using hi, ?_⟩
        have ho : ops[i]? = some ops[i] := by simp [hi]
        have hg : listed.getD i true = false := by
         simp only [Array.getD_eq_getD_getElem?] at e ⊢
         have : i < listed.size := by omega
         simp [this] at e ⊢; exact e
        rw [hg, ho]
        simp only [Option.map_some, Option.getD_some, Bool.not_false, Bool.true_and]
        rw [Array.all_eq_true_iff_forall_mem]
        intro ed hed
        by_cases hb : Region.binds .any ed = true
        . have hp := (hpre i _ ho ed.on).2 ⟨ed, hed, hb, rfl⟩
          rw [ih _ (hlt i _ hp) (by have := hlt i _ hp; omega)]
          simp
        . simp [hb]
       rw [hrd] at hmem; cases hmem
  have fin : ∀ (listed : Array Bool) β own S a w, (∀ i, i < ops.size -> listed.getD i false = true) -> Holds C (gtAt (fun i => listed.getD i false) (gtOf s.t) es 0) (goAt (fun i => listed.getD i false) (goOf s.o) es 0) β own S a w →
   (∀ id, s.nx ≤ id -> (∀ i (h : i < es.length), listed.getD i false = true -> ¬ (es[i].nx ≤ id ∧ id < es[i].nx + es[i].k)) -> β id = none) -> (∀ id, id < s.nx -> β id = β00 id) -> Q .normal a w := by
    intro listed β own S a w hd H hβ hβ0
    obtain ⟨e1, e2⟩ := hall (fun i => listed.getD i false) 0 (fun t ht => by simpa using hd t (by omega))
    rw [e1, e2] at H
    refine hq β own S a w ⟨H, fun id hid => hβ id (by omega) (fun i hi _ hr => ?_), by omega, fun i B hi e => hb0 i B hi (by rw [<- hβ0 i (by omega)]; exact e)⟩
    have := (hfacts i hi (by simp; omega)).2.1
    omega
  intro fuel
  induction fuel with
  | zero =>
    intro listed β own S a w hsz hcl hf H hβ hβ0
    have hd : ∀ i, i < ops.size -> listed.getD i false = true := fun i hi => by
     have he : (List.range ops.size).filter (fun i => !listed.getD i true) = [] := List.length_eq_zero_iff.1 (by omega)
     rw [List.filter_eq_nil_iff] at he
     have := he i (by simpa using hi)
     have hi' : i < listed.size := by omega
     simp only [Array.getD_eq_getD_getElem?] at this ⊢
     simp [hi'] at this ⊢
     exact this
    refine ⟨?_, fin listed β own S a w hd H hβ hβ0⟩
    unfold Region.ready
    rw [List.filter_eq_nil_iff]
    intro i hi
    have := hd i (by simpa using hi)
    have hi' : i < listed.size := by simp at hi; omega
    simp only [Array.getD_eq_getD_getElem?] at this ⊢
    simp [hi'] at this ⊢
    rw [this]; simp
  | succ fuel ih =>
    intro listed β own S a w hsz hcl hf H hβ hβ0
    refine ⟨fun hrd => fin listed β own S a w (done listed hsz hrd) H hβ hβ0, fun i hi => ?_⟩
    unfold Region.ready at hi
    rw [List.mem_filter] at hi
    obtain ⟨hi1, hi2⟩ := hi
    simp at hi1
    have hil : i < es.length := by omega
    obtain ⟨o, ho⟩ : ∃ o, ops[i]? = some o := ⟨ops[i], by simp [hi1]⟩
    rw [ho] at hi2
    simp only [Option.map_some, Option.getD_some, Bool.and_eq_true, Bool.not_eq_true'] at hi2
    obtain ⟨hi3, hi4⟩ := hi2
    have hDi : listed.getD i false = false := by
     have : i < listed.size := by omega
     simp only [Array.getD_eq_getD_getElem?] at hi3 ⊢
     simp [this] at hi3 ⊢; exact hi3
    have hpi : ∀ p, p ∈ pre.getD i [] -> listed.getD p false = true := fun p hp => by
     obtain ⟨ed, hed, hb, rfl⟩ := (hpre i o ho p).1 hp
     have := (Array.all_eq_true_iff_forall_mem.1 hi4) ed hed
     rw [hb] at this
     simpa using this
    let D : Nat -> Bool := fun i => listed.getD i false
    let D' : Nat -> Bool := fun j => (listed.setIfInBounds i true).getD j false
    have hD' : ∀ j, D' j = (if j = i then true else D j) := fun j => by
     simp only [D', D, Array.getD_eq_getD_getElem?, Array.getElem?_setIfInBounds]
     by_cases e : i = j
     . subst e; simp [show i < listed.size by omega]
     . rw [if_neg e, if_neg (fun q => e q.symm)]
    have hcl' : Closed pre D' := fun j p hp hj => by
     rw [hD'] at hj ⊢
     by_cases e : j = i
     . subst e
       split
       . rfl
       . exact hpi p hp
     . rw [if_neg e] at hj
       split
       . rfl
       . exact hcl j p hp hj
    have clash1 : ∀ j (hj : j < es.length), j < i -> es[j].apart es[i] = false -> D j = true := fun j hj hji hc => by
     rcases noConf_ok hn hj hil hji with h | h
     . have := clos_ok hcl' (j := i) (by rw [hD']; simp) h
       rw [hD', if_neg (by omega)] at this
       exact this
     . rw [hc] at h; cases h
    have clash2 : ∀ j (hj : j < es.length), i < j -> es[i].apart es[j] = false -> D j = false := fun j hj hji hc => by
     rcases noConf_ok hn hil hj hji with h | h
     . cases e : D j with
       | false => rfl
       | true =>
         have := clos_ok hcl e h
         rw [hDi] at this; cases this
     . rw [hc] at h; cases h
    obtain ⟨q1, q2, q3, o', q4, q5⟩ := hfacts i hil (by simpa using hi1)
    have q4' : o' = o := by simp at q4; rw [q4] at ho; simpa using ho
    subst q4'
    have hEnt := q5 (fun t => decide (t < i)) 0 (fun t ht => by simp)
    have wrT_loc : ∀ j (hj : j < es.length) n, wrT es[j] n -> Loc.t n ∈ es[j].wr := fun j hj n ⟨v, hv⟩ => by simp [Ent.wr, hv]
    have wrO_loc : ∀ j (hj : j < es.length) n, wrO es[j] n -> Loc.o n ∈ es[j].wr := fun j hj n h => by
     unfold Ent.wr
     cases es[j].t with
     | none => exact h
     | some p => exact List.mem_cons_of_mem _ h
    have nap : ∀ {e f : Ent} {x : Loc}, x ∈ e.wr -> (x ∈ f.wr ∨ x ∈ f.rd) -> e.apart f = false := fun {e f x} h1 h2 => by
     cases h : e.apart f with
     | false => rfl
     | true =>
       obtain ⟨a1, a2, _⟩ := apart_iff.1 h
       rcases h2 with h2 | h2
       . exact absurd h2 (a1 x h1)
       . exact absurd h2 (a2 x h1)
    have nap' : ∀ {e f : Ent} {x : Loc}, x ∈ f.wr -> (x ∈ e.wr ∨ x ∈ e.rd) -> e.apart f = false := fun {e f x} h1 h2 => by
     cases h : e.apart f with
     | false => rfl
     | true =>
       obtain ⟨a1, _, a3⟩ := apart_iff.1 h
       rcases h2 with h2 | h2
       . exact absurd h1 (a1 x h2)
       . exact absurd h2 (a3 x h1)
    have key : ∀ j (hj : j < es.length) (x : Loc), x ∈ es[j].wr -> x ∈ es[i].rd -> j ≠ i -> D j = decide (j < i) := fun j hj x h1 h2 hne => by
     by_cases c : j < i
     . rw [clash1 j hj c (nap h1 (.inr h2))]; simp [c]
     . rw [clash2 j hj (by omega) (nap' h1 (.inr h2))]; simp [c]
    have agt : ∀ n, Loc.t n ∈ es[i].rd -> gtAt D (gtOf s.t) es 0 n = gtAt (fun t => decide (t < i)) (gtOf s.t) es 0 n := fun n hn' =>
     gtAt_congr n es 0 _ _ _ _ rfl (fun j hj hw => by
      simp only [Nat.zero_add]
      by_cases e : j = i
      . subst e; rw [show D j = false from hDi]; simp
      . exact key j hj _ (wrT_loc j hj n hw) hn' e)
    have ago : ∀ n, Loc.o n ∈ es[i].rd -> goAt D (goOf s.o) es 0 n = goAt (fun t => decide (t < i)) (goOf s.o) es 0 n := fun n hn' =>
     goAt_congr n es 0 _ _ _ _ rfl (fun j hj hw => by
      simp only [Nat.zero_add]
      by_cases e : j = i
      . subst e; rw [show D j = false from hDi]; simp
      . exact key j hj _ (wrO_loc j hj n hw) hn' e)
    have hDi' : D' i = true := by rw [hD']; simp
    have hDj' : ∀ j, j ≠ i -> D' j = D j := fun j h => by rw [hD']; exact if_neg h
    have nextt : gtAt D' (gtOf s.t) es 0 = gtPut (gtAt D (gtOf s.t) es 0) es[i].t := by
     funext n
     by_cases hw : wrT es[i] n
     . rw [gtAt_last n es 0 D' (gtOf s.t) (gtAt D (gtOf s.t) es 0) i hil (by rw [Nat.zero_add]; exact hDi') hw (fun j hj hij hw' => by
        refine (congrArg D' (Nat.zero_add j)).trans ((hDj' j (by omega)).trans ?_)
        exact clash2 j hj hij (nap (wrT_loc i hil n hw) (.inl (wrT_loc j hj n hw'))))]
     . rw [gtPut_other (fun d v q e' => hw ⟨v, by rw [q, e']⟩)]
       refine gtAt_congr n es 0 _ _ _ _ rfl (fun j hj hw' => ?_)
       refine (congrArg D' (Nat.zero_add j)).trans (Eq.trans ?_ (congrArg D (Nat.zero_add j)).symm)
       exact hDj' j (fun e => by subst e; exact hw hw')
    have nexto : goAt D' (goOf s.o) es 0 = goPut (goAt D (goOf s.o) es 0) es[i].os := by
     funext n
     by_cases hw : wrO es[i] n
     . rw [goAt_last n es 0 D' (goOf s.o) (goAt D (goOf s.o) es 0) i hil (by rw [Nat.zero_add]; exact hDi') hw (fun j hj hij hw' => by
        refine (congrArg D' (Nat.zero_add j)).trans ((hDj' j (by omega)).trans ?_)
        exact clash2 j hj hij (nap (wrO_loc i hil n hw) (.inl (wrO_loc j hj n hw'))))]
     . rw [goPut_other hw]
       refine goAt_congr n es 0 _ _ _ _ rfl (fun j hj hw' => ?_)
       refine (congrArg D' (Nat.zero_add j)).trans (Eq.trans ?_ (congrArg D (Nat.zero_add j)).symm)
       exact hDj' j (fun e => by subst e; exact hw hw')
    have hfresh : ∀ id, es[i].nx ≤ id -> id < es[i].nx + es[i].k -> β id = none := fun id h1 h2 => hβ id (by omega) (fun j hj hDj hr => by
     by_cases e : j = i
     . subst e; rw [hDi] at hDj; cases hDj
     . by_cases c : j < i
       . have := (hfacts j hj (by simp; omega)).2.2.1 i hil c
         omega
       . have := q3 j hj (by omega)
         omega)
    have step := hEnt.ok (gt := gtAt D (gtOf s.t) es 0) (go := goAt D (goOf s.o) es 0) H agt ago hfresh (next := wpAnyIn (Wf C.rnd) 0 C.P .any ops Q fuel (listed.setIfInBounds i true)) (Q := Q)
     (fun β' own' S' a' w' hβ' H' => by
      refine ih _ β' own' S' a' w' (by simpa using hsz) hcl' ?_ (by rw [<- nextt, <- nexto] at H'; exact H') (fun id hid hr => ?_) (fun id hid => by rw [hβ' id (by omega)]; exact hβ0 id hid)
      . -- one less is open
        have : (List.range ops.size).filter (fun j => !(listed.setIfInBounds i true).getD j true) = ((List.range ops.size).filter (fun i => !listed.getD i true)).filter (fun j => decide (j ≠ i)) := by
         rw [List.filter_filter]
         apply List.filter_congr
         intro j hj
         simp at hj
         have hjl : j < listed.size := by omega
         simp only [Array.getD_eq_getD_getElem?, Array.getElem?_setIfInBounds]
         by_cases e : i = j
         . subst e; simp [hjl]
         . simp [e, hjl, Ne.symm e, fun q : j = i => e q.symm]
        rw [this]
        have hmem : i ∈ (List.range ops.size).filter (fun i => !listed.getD i true) := by
         rw [List.mem_filter]; exact ⟨by simpa using hi1, by simp [hi3]⟩
        have := (List.length_filter_lt_length_iff_exists (p := fun j => decide (j ≠ i))).2 ⟨i, hmem, by simp⟩
        omega
      . have hr2 : ∀ j (hj : j < es.length), D j = true -> ¬ (es[j].nx ≤ id ∧ id < es[j].nx + es[j].k) := fun j hj hDj => hr j hj (by
         show D' j = true
         rw [hD']; split <;> simp_all)
        have hri : ¬ (es[i].nx ≤ id ∧ id < es[i].nx + es[i].k) := hr i hil (by show D' i = true; rw [hD']; simp)
        rw [hβ' id hri]
        exact hβ id hid hr2)
    unfold wpOpIn
    rw [ho]
    simp only
    split
    . rename_i hw; rw [if_pos hw] at step; exact step
    . rename_i hw; rw [if_neg hw] at step; exact ⟨fun _ _ => trivial, step⟩
end Go.Sx
namespace Go.Sx
open Go
theorem bytes_beq (a b : ByteArray) : (a == b) = true ↔ a = b := by
 rw [beq_toListBytes, beq_iff_eq, ByteArray.toList_eq, ByteArray.toList_eq]
 obtain ⟨⟨x⟩⟩ := a
 obtain ⟨⟨y⟩⟩ := b
 simp
def kV : SK -> Value -> Prop
 | .int k, v => ∃ n, v = .int k n
 | .bool, v => ∃ b, v = .bool b
 | .str, v => ∃ s, v = .string s
def kVs : List SK -> List Value -> Prop
 | [], vs => vs = []
 | k :: ks, vs => ∃ v r, vs = v :: r ∧ kV k v ∧ kVs ks r
theorem kVs_split : ∀ {k1 k2 : List SK} {vs : List Value}, kVs (k1 ++ k2) vs -> kVs k1 (vs.take k1.length) ∧ kVs k2 (vs.drop k1.length)
 | [], k2, vs, h => by simpa [kVs] using h
 | k :: k1, k2, vs, h => by
   obtain ⟨v, r, rfl, h1, h2⟩ := h
   obtain ⟨h3, h4⟩ := kVs_split h2
   exact ⟨⟨v, _, by simp, h1, h3⟩, by simpa using h4⟩
def isRowT (P : Program) (t : TypeId) : Bool :=
 match P.underlying t with
 | some (.struct _) => true
 | some (.array _ _) => true
 | _ => false
def formV (P : Program) (t : TypeId) (xs : List Value) (a : Value) : Prop :=
 match isRowT P t with
 | true => a = .agg xs.toArray
 | false => xs = [a]
def kindsF (P : Program) (rec : TypeId -> Option (List SK)) : List Field -> Nat -> Option (List SK)
 | [], _ => some []
 | f :: fs, off => if f.name ≠ "_" ∧ f.offset = off then
  match rec f.type with
  | some ks => if P.cellsOf f.type = ks.length ∧ (P.info? f.type).isSome = true then
   match kindsF P rec fs (off + ks.length) with | some r => some (ks ++ r) | none => none
    else none
  | none => none
   else none
def repl (ks : List SK) : Nat -> List SK
 | 0 => []
 | n + 1 => ks ++ repl ks n
def kindsT (P : Program) : Nat -> TypeId -> Option (List SK)
 | 0, _ => none
 | d + 1, t => match P.underlying t with
   | some .bool => some [.bool]
   | some (.int k) => some [.int k]
   | some .string => some [.str]
   | some (.struct fs) => if P.stoodInHeld t = true then none else kindsF P (kindsT P d) fs.toList 0
   | some (.array n e) => match kindsT P d e with
     | some ks => if P.cellsOf e = ks.length ∧ (P.info? e).isSome = true then some (repl ks n) else none
     | none => none
   | _ => none
def EqT (P : Program) (d : Nat) (t : TypeId) (ks : List SK) : Prop :=
 ∀ (w : World) (xs ys : List Value), kVs ks xs -> kVs ks ys -> ∀ a b, formV P t xs a -> formV P t ys b -> ∃ r : Bool, (Op.equalIn d t a b).run P w = .ok r w ∧ (r = true ↔ xs = ys)
theorem run_partF {P : Program} {w : World} {t : TypeId} {d : Nat} {ks : List SK} (hk : kindsT P d t = some ks) (hc : P.cellsOf t = ks.length) (hi : (P.info? t).isSome = true) {xs : Array Value} {off : Nat}
 (hx : kVs ks ((xs.toList.drop off).take ks.length)) : ∃ a, (part t xs off).run P w = .ok a w ∧ formV P t ((xs.toList.drop off).take ks.length) a := by
  obtain ⟨i, hi⟩ := Option.isSome_iff_exists.1 hi
  cases d with
  | zero => simp [kindsT] at hk
  | succ d =>
    unfold kindsT at hk
    cases hu : P.underlying t with
    | none => rw [hu] at hk; cases hk
    | some u =>
      rw [hu] at hk
      have scalar : ∀ {k : SK}, ks = [k] -> isRowT P t = false -> (∀ v, xs[off]? = some v -> (part t xs off).run P w = .ok v w) -> ∃ a, (part t xs off).run P w = .ok a w ∧ formV P t ((xs.toList.drop off).take ks.length) a := by
       intro k e hr hp
       subst e
       obtain ⟨v, r, e1, _, e2⟩ := hx
       simp [kVs] at e2
       subst e2
       refine ⟨v, hp v ?_, by simp only [formV, hr]; exact e1⟩
       have := congrArg (fun l => l[0]?) e1
       simpa using this
      have rowc : isRowT P t = true -> (part t xs off).run P w = .ok (.agg (xs.extract off (off + P.cellsOf t))) w -> ∃ a, (part t xs off).run P w = .ok a w ∧ formV P t ((xs.toList.drop off).take ks.length) a := by
       intro hr hp
       refine ⟨_, hp, ?_⟩
       simp only [formV, hr]
       congr 1
       apply Array.ext'
       rw [hc]
       simp [Array.toList_extract, List.extract_eq_take_drop]
      cases u <;> simp only [reduceCtorEq, Option.some.injEq] at hk
      case bool => exact scalar hk.symm (by simp [isRowT, hu]) (fun v hv => by simp [part, isAgg, run_underlying hu, hv])
      case int => exact scalar hk.symm (by simp [isRowT, hu]) (fun v hv => by simp [part, isAgg, run_underlying hu, hv])
      case string => exact scalar hk.symm (by simp [isRowT, hu]) (fun v hv => by simp [part, isAgg, run_underlying hu, hv])
      case struct => exact rowc (by simp [isRowT, hu]) (by simp [part, isAgg, run_underlying hu, run_sizeOf w hi])
      case array => exact rowc (by simp [isRowT, hu]) (by simp [part, isAgg, run_underlying hu, run_sizeOf w hi])
theorem list_split {α : Type _} (n : Nat) {xs ys : List α} : xs = ys ↔ xs.take n = ys.take n ∧ xs.drop n = ys.drop n :=
 ⟨fun h => by rw [h]; simp, fun ⟨h1, h2⟩ => by rw [<- List.take_append_drop n xs, <- List.take_append_drop n ys, h1, h2]⟩
theorem run_eqFieldsF {P : Program} {d dk : Nat} (IH : ∀ t ks, kindsT P dk t = some ks -> EqT P d t ks) (xs ys : Array Value) : ∀ (fs : List Field) (off : Nat) (ks : List SK), kindsF P (kindsT P dk) fs off = some ks →
 kVs ks (xs.toList.drop off) -> kVs ks (ys.toList.drop off) -> ∀ w, ∃ r : Bool, (Op.eqFields d xs ys fs).run P w = .ok r w ∧ (r = true ↔ xs.toList.drop off = ys.toList.drop off)
  | [], off, ks, hk, h1, h2, w => by
    simp [kindsF] at hk
    subst hk
    simp only [kVs] at h1 h2
    exact ⟨true, by simp [Op.eqFields], by rw [h1, h2]; simp⟩
  | f :: fs, off, ks, hk, h1, h2, w => by
    simp only [kindsF] at hk
    split at hk
    . rename_i hn
      obtain ⟨hn, hoff⟩ := hn
      split at hk
      . rename_i k1 hk1
        split at hk
        . rename_i hc
          split at hk
          . rename_i k2 hk2
            simp only [Option.some.injEq] at hk
            subst hk
            obtain ⟨a1, a2⟩ := kVs_split h1
            obtain ⟨b1, b2⟩ := kVs_split h2
            obtain ⟨a, pa, fa⟩ := run_partF (w := w) hk1 hc.1 hc.2 a1
            obtain ⟨b, pb, fb⟩ := run_partF (w := w) hk1 hc.1 hc.2 b1
            obtain ⟨r, hr, hi⟩ := IH _ _ hk1 w _ _ a1 b1 a b fa fb
            rw [List.drop_drop] at a2 b2
            obtain ⟨r', hr', hi'⟩ := run_eqFieldsF IH xs ys fs (off + k1.length) k2 hk2 a2 b2 w
            subst hoff
            simp only [Op.eqFields, hn, ne_eq, not_false_eq_true, if_true, Sem.run_bind, pa, pb, hr, Result.andThen_ok]
            rw [list_split k1.length, List.drop_drop, List.drop_drop]
            cases r
            . refine ⟨false, by simp, by simp; intro e; exact absurd (hi.2 e) (by simp)⟩
            . refine ⟨r', by simpa using hr', ?_⟩
              rw [hi']
              simp [hi.1 rfl]
          . cases hk
        . cases hk
      . cases hk
    . cases hk
theorem run_eqItemsF {P : Program} {d dk : Nat} {e : TypeId} {ke : List SK} (hke : kindsT P dk e = some ke) (IH : EqT P d e ke) (hc : P.cellsOf e = ke.length) (hi : (P.info? e).isSome = true) (xs ys : Array Value) : ∀ (n i : Nat),
 kVs (repl ke n) (xs.toList.drop (i * ke.length)) -> kVs (repl ke n) (ys.toList.drop (i * ke.length)) -> ∀ w, ∃ r : Bool, (Op.eqItems d e (P.cellsOf e) xs ys (List.range' i n)).run P w = .ok r w ∧
  (r = true ↔ xs.toList.drop (i * ke.length) = ys.toList.drop (i * ke.length))
  | 0, i, h1, h2, w => by
    simp only [repl, kVs] at h1 h2
    exact ⟨true, by simp [Op.eqItems], by rw [h1, h2]; simp⟩
  | n + 1, i, h1, h2, w => by
    simp only [repl] at h1 h2
    obtain ⟨a1, a2⟩ := kVs_split h1
    obtain ⟨b1, b2⟩ := kVs_split h2
    obtain ⟨a, pa, fa⟩ := run_partF (w := w) hke hc hi a1
    obtain ⟨b, pb, fb⟩ := run_partF (w := w) hke hc hi b1
    obtain ⟨r, hr, hi0⟩ := IH w _ _ a1 b1 a b fa fb
    have ei : i * ke.length + ke.length = (i + 1) * ke.length := by rw [Nat.add_mul]; simp
    rw [List.drop_drop, ei] at a2 b2
    obtain ⟨r', hr', hi'⟩ := run_eqItemsF hke IH hc hi xs ys n (i + 1) a2 b2 w
    rw [List.range'_succ]
    rw [<- hc] at pa pb
    simp only [Op.eqItems, Sem.run_bind, pa, pb, hr, Result.andThen_ok]
    rw [list_split ke.length, List.drop_drop, List.drop_drop, ei]
    cases r
    . refine ⟨false, by simp, by simp; intro e; exact absurd (hi0.2 e) (by simp)⟩
    . refine ⟨r', by simpa using hr', ?_⟩
      rw [hi']
      simp [hi0.1 rfl]
theorem eqT_of {P : Program} : ∀ (dk d : Nat) (t : TypeId) (ks : List SK), kindsT P dk t = some ks -> EqT P (d + dk) t ks
 | 0, d, t, ks, h => by simp [kindsT] at h
 | dk + 1, d, t, ks, hk => by
   intro w xs ys hx hy a b fa fb
   have IH : ∀ t ks, kindsT P dk t = some ks -> EqT P (d + dk) t ks := fun t ks h => eqT_of dk d t ks h
   unfold kindsT at hk
   cases hu : P.underlying t with
   | none => rw [hu] at hk; cases hk
   | some u =>
     rw [hu] at hk
     cases u <;> simp only [reduceCtorEq, Option.some.injEq] at hk
     case bool =>
      subst hk
      simp only [formV, isRowT, hu] at fa fb
      subst fa; subst fb
      obtain ⟨v, r, e1, ⟨b1, rfl⟩, e2⟩ := hx
      obtain ⟨v', r', e1', ⟨b2, rfl⟩, e2'⟩ := hy
      simp only [kVs] at e2 e2'
      subst e2; subst e2'
      cases e1; cases e1'
      exact ⟨b1 == b2, by simp [Op.equalIn, run_underlying hu], by simp [bytes_beq]⟩
     case int =>
      subst hk
      simp only [formV, isRowT, hu] at fa fb
      subst fa; subst fb
      obtain ⟨v, r, e1, ⟨b1, rfl⟩, e2⟩ := hx
      obtain ⟨v', r', e1', ⟨b2, rfl⟩, e2'⟩ := hy
      simp only [kVs] at e2 e2'
      subst e2; subst e2'
      cases e1; cases e1'
      exact ⟨b1 == b2, by simp [Op.equalIn, run_underlying hu], by simp [bytes_beq]⟩
     case string =>
      subst hk
      simp only [formV, isRowT, hu] at fa fb
      subst fa; subst fb
      obtain ⟨v, r, e1, ⟨b1, rfl⟩, e2⟩ := hx
      obtain ⟨v', r', e1', ⟨b2, rfl⟩, e2'⟩ := hy
      simp only [kVs] at e2 e2'
      subst e2; subst e2'
      cases e1; cases e1'
      exact ⟨b1 == b2, by simp [Op.equalIn, run_underlying hu], by simp [bytes_beq]⟩
     case struct fs =>
      split at hk
      . cases hk
      . rename_i hp
        simp only [formV, isRowT, hu] at fa fb
        subst fa; subst fb
        have hfs : P.fieldsOf t = fs := by simp [Program.fieldsOf, hu]
        obtain ⟨r, hr, hi⟩ := run_eqFieldsF IH xs.toArray ys.toArray fs.toList 0 ks hk (by simpa using hx) (by simpa using hy) w
        refine ⟨r, ?_, by simpa using hi⟩
        rw [<- Nat.add_assoc, run_equalIn_struct w (d + dk) t _ _ (by rw [hfs]; exact hu) (by simpa using hp), hfs]
        exact hr
     case array n e =>
      split at hk
      . rename_i ke hke
        split at hk
        . rename_i hc
          simp only [Option.some.injEq] at hk
          subst hk
          simp only [formV, isRowT, hu] at fa fb
          subst fa; subst fb
          obtain ⟨i, hi⟩ := Option.isSome_iff_exists.1 hc.2
          obtain ⟨r, hr, hir⟩ := run_eqItemsF hke (IH _ _ hke) hc.1 hc.2 xs.toArray ys.toArray n 0 (by simpa using hx) (by simpa using hy) w
          refine ⟨r, ?_, by simpa using hir⟩
          rw [<- Nat.add_assoc, run_equalIn_array w (d + dk) _ _ hu hi, List.range_eq_range']
          exact hr
        . cases hk
      . cases hk
theorem run_equalF {P : Program} {w : World} {t : TypeId} {dk : Nat} {ks : List SK} (h : kindsT P dk t = some ks) (hdk : dk ≤ 10000) (hr : isRowT P t = true) {xs ys : List Value} (hx : kVs ks xs) (hy : kVs ks ys) :
 ∃ r : Bool, (Op.equal t (.agg xs.toArray) (.agg ys.toArray)).run P w = .ok r w ∧ (r = true ↔ xs = ys) := by
  have := eqT_of dk (10000 - dk) t ks h w xs ys hx hy (.agg xs.toArray) (.agg ys.toArray) (by simp [formV, hr]) (by simp [formV, hr])
  rwa [show 10000 - dk + dk = 10000 by omega] at this
theorem eqCells_ok {β w S} : ∀ {ks : List SK} {a b : List SV} {p : Prop}, eqCells ks a b = some p -> ∀ {xs ys : List Value}, relL β w S a xs -> relL β w S b ys -> kVs ks xs ∧ kVs ks ys ∧ (xs = ys ↔ p)
 | [], a, b, p, h, xs, ys, hx, hy => by
   simp only [eqCells] at h
   split at h
   . cases h
     simp only [relL] at hx hy
     subst hx; subst hy
     simp [kVs]
   . cases h
 | k :: ks, a, b, p, h, xs, ys, hx, hy => by
   simp only [eqCells] at h
   split at h
   . rename_i sa as sb bs
     simp only [relL] at hx hy
     obtain ⟨x, xr, rfl, hx1, hx2⟩ := hx
     obtain ⟨y, yr, rfl, hy1, hy2⟩ := hy
     split at h
     . cases h
     . rename_i r hr
       obtain ⟨i1, i2, i3⟩ := eqCells_ok hr hx2 hy2
       split at h
       . split at h
         . split at h
           . cases h
           . rename_i e1
             split at h
             . cases h
             . rename_i e2
               cases h
               have e1 := kindEq_iff e1
               have e2 := kindEq_iff e2
               subst e1; subst e2
               simp only [rel] at hx1 hy1
               subst hx1; subst hy1
               exact ⟨⟨_, _, rfl, ⟨_, rfl⟩, i1⟩, ⟨_, _, rfl, ⟨_, rfl⟩, i2⟩, by simp [i3]⟩
         . cases h
       . split at h
         . rename_i q1 q2 hq1 hq2
           cases h
           obtain ⟨b1, rfl, j1⟩ := prop_rel hq1 hx1
           obtain ⟨b2, rfl, j2⟩ := prop_rel hq2 hy1
           refine ⟨⟨_, _, rfl, ⟨_, rfl⟩, i1⟩, ⟨_, _, rfl, ⟨_, rfl⟩, i2⟩, ?_⟩
           simp only [List.cons.injEq, Value.bool.injEq, i3, <- j1, <- j2]
           cases b1 <;> cases b2 <;> simp
         . cases h
       . split at h
         . cases h
           simp only [rel] at hx1 hy1
           subst hx1; subst hy1
           exact ⟨⟨_, _, rfl, ⟨_, rfl⟩, i1⟩, ⟨_, _, rfl, ⟨_, rfl⟩, i2⟩, by simp [i3]⟩
         . cases h
   . cases h
structure EqsOk (P : Program) (t : TypeId) (ks : List SK) : Prop where
 k : ∃ d, d ≤ 10000 ∧ kindsT P d t = some ks
 r : isRowT P t = true
 g : P.eqGuardType P.depth t = false
section
variable {C : Ctx} {gt : GT} {go : GO} {o : Oper} {fresh : Nat} {R : List Loc} {v : Option SV} {os : List (Nat × Option SO)} {k : Nat}
theorem ok_eqs {neg : Bool} {t ty : TypeId} {x y : Operand} {ks : List SK} (ho : o.op = .binOp (if neg then .neq else .eql) t x y ty) (hk : EqsOk C.P t ks)
 (h : (MO.rt C.toEnv fresh (.eqs ks neg (cX x) (cX y))).Runs gt go R v os k) (hd : DstOk C o.dst v) : OpOk C o fresh gt go v os k := by
  simp only [MO.rt] at h
  replace h := rd_inv h
  obtain ⟨sx, R1, h, hx⟩ := h
  replace h := rd_inv h
  obtain ⟨sy, R2, h, hy⟩ := h
  split at h
  . rename_i xs ys
    split at h
    . rename_i p hp
      obtain ⟨d, hd1, hd2⟩ := hk.k
      have key : ∀ {β own S a w}, Holds C gt go β own S a w -> ∃ r : Bool, (execOp a.eval o).run C.P w = .ok (.value (.bool (if neg then !r else r))) w ∧ (r = true ↔ p) := by
       intro β own S a w H
       have h1 := hx H
       have h2 := hy H
       simp only [rel] at h1 h2
       obtain ⟨va, ea, ra⟩ := h1
       obtain ⟨vb, eb, rb⟩ := h2
       obtain ⟨k1, k2, hi⟩ := eqCells_ok hp ra rb
       obtain ⟨r, hr, hir⟩ := run_equalF (w := w) hd2 hd1 hk.r k1 k2
       refine ⟨r, ?_, hir.trans hi⟩
       have hg := run_eqGuard_agg (P := C.P) w (if neg then .neq else .eql) t x y va vb hk.g
       have hr : (Op.equalIn 10000 t (.agg va) (.agg vb)).run C.P w = .ok r w := by simpa [Op.equal, Op.maxDepth] using hr
       cases neg
       . simp only [Bool.false_eq_true, if_false] at ho hg ⊢
         simp [execOp, ho, ea, eb, hg, run_eql_struct, hr]
       . simp only [if_true] at ho hg ⊢
         simp [execOp, ho, ea, eb, hg, run_neq_struct, hr]
      cases neg
      . obtain ⟨rfl, rfl, rfl⟩ := ret1_inv h
        refine ok_val (by simp [ho]) hd fun {β own S a w} H => ?_
        obtain ⟨r, hr, hi⟩ := key H
        exact ⟨_, hr, rel_pr hi⟩
      . obtain ⟨rfl, rfl, rfl⟩ := ret1_inv h
        refine ok_val (by simp [ho]) hd fun {β own S a w} H => ?_
        obtain ⟨r, hr, hi⟩ := key H
        exact ⟨_, hr, rel_pr (by rw [<- hi]; cases r <;> simp)⟩
    . cases h
  . cases h
end
end Go.Sx
namespace Go.Sx
open Go
def PV.va : PV -> Value
 | .int k n => .int k n
 | .bool b => .bool b
 | .str s => .string s
 | _ => undef
def keyV (one : Bool) (l : List PV) : Value :=
 match one with
 | true => (match l with | p :: _ => p.va | [] => undef)
 | false => .agg (l.map PV.va).toArray
theorem kind_va {β w S} {p : PV} {k : SK} (h : p.kind = some k) : (∀ v, rel β w S p.sv v ↔ v = p.va) ∧ kV k p.va := by
 cases p <;> simp [PV.kind] at h <;> subst h <;> refine ⟨fun v => ?_, ?_⟩ <;> simp [PV.sv, rel, PV.va, kV]
theorem kind_vas {β w S} : ∀ {l : List PV} {ks : List SK}, l.map PV.kind = ks.map some -> (∀ vs, relL β w S (l.map PV.sv) vs ↔ vs = l.map PV.va) ∧ kVs ks (l.map PV.va)
 | [], ks, h => by
   cases ks with
   | nil => simp [relL, kVs]
   | cons k ks => simp at h
 | p :: l, ks, h => by
   cases ks with
   | nil => simp at h
   | cons k ks =>
     simp only [List.map, List.cons.injEq] at h
     obtain ⟨h1, h2⟩ := kind_vas (β := β) (w := w) (S := S) h.2
     obtain ⟨h3, h4⟩ := kind_va (β := β) (w := w) (S := S) h.1
     refine ⟨fun vs => ?_, ⟨_, _, rfl, h4, h2⟩⟩
     simp only [List.map, relL]
     constructor
     . rintro ⟨x, r, rfl, e1, e2⟩
       rw [(h3 x).1 e1, (h1 r).1 e2]
     . rintro rfl
       exact ⟨_, _, rfl, (h3 _).2 rfl, (h1 _).2 rfl⟩
theorem rel_key {β w S} {one : Bool} {l : List PV} {ks : List SK} (h : l.map PV.kind = ks.map some) (h1 : one = true -> ks.length = 1) (v : Value) : rel β w S (svOf one l) v ↔ v = keyV one l := by
 cases one with
 | false =>
   obtain ⟨e, _⟩ := kind_vas (β := β) (w := w) (S := S) h
   simp only [svOf, keyV, rel]
   constructor
   . rintro ⟨xs, rfl, hx⟩
     rw [<- (e _).1 hx]
   . rintro rfl
     exact ⟨_, rfl, by rw [e]⟩
 | true =>
   have hl : l.length = 1 := by
    have := congrArg List.length h
    simp at this
    rw [this, h1 rfl]
   match l, hl with
   | [p], _ =>
     cases ks with
     | nil => simp at h
     | cons k ks =>
       simp only [List.map, List.cons.injEq] at h
       simp only [svOf, keyV]
       exact (kind_va h.1).1 v
theorem va_inj : ∀ {l l' : List PV} {ks : List SK}, l.map PV.kind = ks.map some -> l'.map PV.kind = ks.map some -> l.map PV.va = l'.map PV.va -> l = l'
 | [], [], _, _, _, _ => rfl
 | [], p :: l', ks, _, _, h => by simp at h
 | p :: l, [], ks, _, _, h => by simp at h
 | p :: l, q :: l', [], h1, _, _ => by simp at h1
 | p :: l, q :: l', k :: ks, h1, h2, h => by
   simp only [List.map, List.cons.injEq] at h1 h2 h
   rw [va_inj h1.2 h2.2 h.2]
   congr 1
   obtain ⟨h1, _⟩ := h1
   obtain ⟨h2, _⟩ := h2
   obtain ⟨h, _⟩ := h
   cases p <;> simp [PV.kind] at h1 <;> cases q <;> simp [PV.kind] at h2 <;> simp_all [PV.va]
structure KeyOk (P : Program) (K : TypeId) (one : Bool) (ks : List SK) : Prop where
 k : ∃ d, d ≤ 10000 ∧ kindsT P d K = some ks
 one : one = !isRowT P K
theorem kinds_one {P : Program} {d : Nat} {t : TypeId} {ks : List SK} (h : kindsT P d t = some ks) (hr : isRowT P t = false) : ks.length = 1 ∧ ∃ u, P.underlying t = some u ∧ (u = .bool ∨ (∃ k, u = .int k) ∨ u = .string) := by
 cases d with
 | zero => simp [kindsT] at h
 | succ d =>
   unfold kindsT at h
   cases hu : P.underlying t with
   | none => rw [hu] at h; cases h
   | some u =>
     rw [hu] at h
     cases u <;> simp only [reduceCtorEq, Option.some.injEq] at h
     case bool => subst h; exact ⟨rfl, _, rfl, .inl rfl⟩
     case int k => subst h; exact ⟨rfl, _, rfl, .inr (.inl ⟨k, rfl⟩)⟩
     case string => subst h; exact ⟨rfl, _, rfl, .inr (.inr rfl)⟩
     case struct => simp [isRowT, hu] at hr
     case array => simp [isRowT, hu] at hr
section key
variable {P : Program} {K : TypeId} {one : Bool} {ks : List SK} (hK : KeyOk P K one ks)
include hK
theorem KeyOk.len1 : one = true -> ks.length = 1 := fun h => by
 obtain ⟨d, _, hd⟩ := hK.k
 have := hK.one
 rw [h] at this
 exact (kinds_one hd (by cases e : isRowT P K with | true => rw [e] at this; cases this | false => rfl)).1
theorem KeyOk.form {l : List PV} (h : l.map PV.kind = ks.map some) : formV P K (l.map PV.va) (keyV one l) := by
 have h1 := hK.len1
 have ho := hK.one
 cases hr : isRowT P K with
 | true => rw [hr] at ho; simp at ho; subst ho; simp [formV, hr, keyV]
 | false =>
   rw [hr] at ho; simp at ho; subst ho
   have hl : l.length = 1 := by
    have := congrArg List.length h
    simp at this
    rw [this, h1 rfl]
   match l, hl with
   | [p], _ => simp [formV, hr, keyV]
theorem KeyOk.equal (w : World) {l l' : List PV} (h : l.map PV.kind = ks.map some) (h' : l'.map PV.kind = ks.map some) :
 ∃ r : Bool, (Op.equal K (keyV one l) (keyV one l')).run P w = .ok r w ∧ (r = true ↔ l = l') := by
  obtain ⟨d, hd, hk⟩ := hK.k
  obtain ⟨_, k1⟩ := kind_vas (β := fun _ => none) (w := w) (S := fun _ => False) h
  obtain ⟨_, k2⟩ := kind_vas (β := fun _ => none) (w := w) (S := fun _ => False) h'
  obtain ⟨r, hr, hi⟩ := eqT_of d (10000 - d) K ks hk w _ _ k1 k2 _ _ (hK.form h) (hK.form h')
  rw [show 10000 - d + d = 10000 by omega] at hr
  exact ⟨r, hr, hi.trans ⟨fun e => va_inj h h' e, fun e => by rw [e]⟩⟩
end key
theorem run_checkKeyF {P : Program} (em : Bool) : ∀ (dk d : Nat) (t : TypeId) (ks : List SK), kindsT P dk t = some ks -> ∀ (w : World) (xs : List Value), kVs ks xs -> ∀ a, formV P t xs a -> (Instr.checkKey em (d + dk) t a).run P w = .ok () w
 | 0, d, t, ks, h => by simp [kindsT] at h
 | dk + 1, d, t, ks, hk => by
   intro w xs hx a fa
   have IH : ∀ t ks, kindsT P dk t = some ks -> ∀ (w : World) (xs : List Value), kVs ks xs -> ∀ a, formV P t xs a -> (Instr.checkKey em (d + dk) t a).run P w = .ok () w := fun t ks h => run_checkKeyF em dk d t ks h
   unfold kindsT at hk
   cases hu : P.underlying t with
   | none => rw [hu] at hk; cases hk
   | some u =>
     rw [hu] at hk
     rw [<- Nat.add_assoc, Instr.checkKey]
     simp only [Sem.run_bind, run_underlying hu, Result.andThen_ok]
     cases u <;> simp only [reduceCtorEq, Option.some.injEq] at hk
     case bool => simp
     case int => simp
     case string => simp
     case struct fs =>
      split at hk
      . cases hk
      . simp only [formV, isRowT, hu] at fa
        subst fa
        simp only []
        rw [<- Array.forIn_toList]
        have key : ∀ (fs : List Field) (off : Nat) (ks : List SK), kindsF P (kindsT P dk) fs off = some ks -> kVs ks (xs.drop off) →
         (forIn fs PUnit.unit (fun f _ => do if f.name ≠ "_" then do Instr.checkKey em (d + dk) f.type (<- part f.type xs.toArray f.offset); pure (ForInStep.yield PUnit.unit) else pure (ForInStep.yield PUnit.unit)) : Sem PUnit).run P w = .ok PUnit.unit w := by
          intro fs
          induction fs with
          | nil => intro off ks _ _; simp
          | cons f fs ih =>
            intro off ks hk hx
            simp only [kindsF] at hk
            split at hk
            . rename_i hn
              obtain ⟨hn, hoff⟩ := hn
              split at hk
              . rename_i k1 hk1
                split at hk
                . rename_i hc
                  split at hk
                  . rename_i k2 hk2
                    simp only [Option.some.injEq] at hk
                    subst hk
                    obtain ⟨a1, a2⟩ := kVs_split hx
                    obtain ⟨a, pa, fa⟩ := run_partF (w := w) (xs := xs.toArray) hk1 hc.1 hc.2 (by simpa using a1)
                    rw [List.drop_drop] at a2
                    have := IH _ _ hk1 w _ (by simpa using a1) a (by simpa using fa)
                    subst hoff
                    simp only [List.forIn_cons, hn, ne_eq, not_false_eq_true, if_true, Sem.run_bind, pa, this, Result.andThen_ok, Sem.run_pure]
                    exact ih _ _ hk2 a2
                  . cases hk
                . cases hk
              . cases hk
            . cases hk
        have := key fs.toList 0 ks hk (by simpa using hx)
        simpa using this
     case array n e =>
      split at hk
      . rename_i ke hke
        split at hk
        . rename_i hc
          simp only [Option.some.injEq] at hk
          subst hk
          simp only [formV, isRowT, hu] at fa
          subst fa
          obtain ⟨i, hi⟩ := Option.isSome_iff_exists.1 hc.2
          simp only [Std.Legacy.Range.forIn_eq_forIn_range', Std.Legacy.Range.size, Nat.sub_zero, Nat.add_one_sub_one, Nat.div_one]
          have key : ∀ (n i : Nat), kVs (repl ke n) (xs.drop (i * ke.length)) →
           (forIn (List.range' i n) PUnit.unit (fun j _ => do Instr.checkKey em (d + dk) e (<- part e xs.toArray (j * (<- sizeOf e))); pure (ForInStep.yield PUnit.unit)) : Sem PUnit).run P w = .ok PUnit.unit w := by
            intro n
            induction n with
            | zero => intro i _; simp
            | succ n ih =>
              intro i hx
              simp only [repl] at hx
              obtain ⟨a1, a2⟩ := kVs_split hx
              obtain ⟨a, pa, fa⟩ := run_partF (w := w) (xs := xs.toArray) hke hc.1 hc.2 (by simpa using a1)
              have := IH _ _ hke w _ (by simpa using a1) a (by simpa using fa)
              have ei : i * ke.length + ke.length = (i + 1) * ke.length := by rw [Nat.add_mul]; simp
              rw [List.drop_drop, ei] at a2
              rw [List.range'_succ]
              rw [<- hc.1] at pa
              simp only [List.forIn_cons, Sem.run_bind, run_sizeOf w hi, pa, this, Result.andThen_ok, Sem.run_pure]
              exact ih _ a2
          have := key n 0 (by simpa using hx)
          simpa using this
        . cases hk
      . cases hk
theorem KeyOk.check {P : Program} {K : TypeId} {one : Bool} {ks : List SK} (hK : KeyOk P K one ks) (em : Bool) (w : World) {l : List PV} (h : l.map PV.kind = ks.map some) : (Instr.checkKey em 10000 K (keyV one l)).run P w = .ok () w := by
 obtain ⟨d, hd, hk⟩ := hK.k
 obtain ⟨_, k1⟩ := kind_vas (β := fun _ => none) (w := w) (S := fun _ => False) h
 have := run_checkKeyF em d (10000 - d) K ks hk w _ k1 _ (hK.form h)
 rwa [show 10000 - d + d = 10000 by omega] at this
theorem sameBits_va {p : PV} {k : SK} (h : p.kind = some k) (n : Nat) : Instr.sameBits n p.va p.va = true := by
 cases p <;> simp [PV.kind] at h <;> cases n <;> simp [PV.va, Instr.sameBits, bytes_beq]
theorem sameBits_key {one : Bool} {l : List PV} {ks : List SK} (h : l.map PV.kind = ks.map some) (h1 : one = true -> ks.length = 1) : Instr.sameBits 10000 (keyV one l) (keyV one l) = true := by
 have each : ∀ p ∈ l, ∃ k, p.kind = some k := fun p hp => by
  have : p.kind ∈ l.map PV.kind := List.mem_map_of_mem hp
  rw [h] at this
  obtain ⟨k, _, e⟩ := List.mem_map.1 this
  exact ⟨k, e.symm⟩
 cases one with
 | true =>
   cases l with
   | nil => have := congrArg List.length h; simp [h1 rfl] at this
   | cons p l => obtain ⟨k, hk⟩ := each p (by simp); exact sameBits_va hk _
 | false =>
   simp only [keyV, Instr.sameBits, beq_self_eq_true, Bool.true_and]
   rw [List.all_eq_true]
   intro x hx
   simp only [List.zip_eq_zipWith] at hx
   have : ∀ (l : List PV), (∀ p ∈ l, ∃ k, p.kind = some k) -> ∀ x ∈ List.zipWith Prod.mk (l.map PV.va) (l.map PV.va), Instr.sameBits 9999 x.1 x.2 = true := by
    intro l
    induction l with
    | nil => intro _ x hx; simp at hx
    | cons p l ih =>
      intro each x hx
      simp only [List.map, List.zipWith_cons_cons, List.mem_cons] at hx
      rcases hx with rfl | hx
      . obtain ⟨k, hk⟩ := each p (by simp)
        exact sameBits_va hk _
      . exact ih (fun q hq => each q (by simp [hq])) x hx
   exact this l each x (by simpa using hx)
section ents
variable (M : MapTy)
def posK (k : M.κ) : List (M.κ × M.ν) -> Option Nat
 | [] => none
 | (j, _) :: r => match M.deq j k with | isTrue _ => some 0 | isFalse _ => (posK k r).map (· + 1)
theorem posK_aget (k : M.κ) : ∀ (es : List (M.κ × M.ν)), aget M k es = (posK M k es).bind fun i => (es[i]?).map (·.2)
 | [] => rfl
 | (j, v) :: r => by
   simp only [aget, posK]
   cases M.deq j k with
   | isTrue h => simp
   | isFalse h => simp only [posK_aget k r]; cases posK M k r <;> simp
theorem posK_mem (k : M.κ) : ∀ (es : List (M.κ × M.ν)), (posK M k es = none ↔ k ∉ es.map (·.1))
 | [] => by simp [posK]
 | (j, v) :: r => by
   simp only [posK]
   cases M.deq j k with
   | isTrue h => simp [h]
   | isFalse h => simp [posK_mem k r, Ne.symm h]
theorem aput_keys (k : M.κ) (v : M.ν) : ∀ (es : List (M.κ × M.ν)), (aput M k v es).map (·.1) = match posK M k es with | some _ => es.map (·.1) | none => es.map (·.1) ++ [k]
 | [] => rfl
 | (j, u) :: r => by
   simp only [aput, posK]
   cases M.deq j k with
   | isTrue h => simp
   | isFalse h => simp only [List.map, aput_keys k v r]; cases posK M k r <;> simp
theorem adel_none (k : M.κ) : ∀ (es : List (M.κ × M.ν)), posK M k es = none -> adel M k es = es
 | [], _ => rfl
 | (j, u) :: r, h => by
   simp only [posK] at h
   simp only [adel]
   cases e : M.deq j k with
   | isTrue h' => rw [e] at h; simp at h
   | isFalse h' => rw [e] at h; simp at h; simp only [adel_none k r h]
theorem adel_sub (k : M.κ) : ∀ (es : List (M.κ × M.ν)), ((adel M k es).map (·.1)).Sublist (es.map (·.1))
 | [] => .slnil
 | (j, u) :: r => by
   simp only [adel]
   cases M.deq j k with
   | isTrue h => exact .cons _ (List.Sublist.refl _)
   | isFalse h => exact .cons_cons _ (adel_sub k r)
variable {M} {β : Nat -> Option Base} {w : World} {S : Nat -> Prop}
theorem relE_at : ∀ {es : List (M.κ × M.ν)} {l : List MapEntry}, relE β w S M es l -> ∀ (i : Nat) (k : M.κ) (v : M.ν), es[i]? = some (k, v) -> ∃ m : MapEntry, l[i]? = some m ∧ rel β w S (svOf M.one (M.ek k)) m.key ∧ rel β w S (svOf M.vone (M.ev v)) m.val
 | [], l, h, i, k, v, e => by simp at e
 | (k0, v0) :: es, l, h, i, k, v, e => by
   obtain ⟨m, r, rfl, h1, h2, h3⟩ := h
   cases i with
   | zero => simp at e; obtain ⟨rfl, rfl⟩ := e; exact ⟨m, rfl, h1, h2⟩
   | succ i => simpa using relE_at h3 i k v (by simpa using e)
theorem relE_len : ∀ {es : List (M.κ × M.ν)} {l : List MapEntry}, relE β w S M es l -> l.length = es.length
 | [], l, h => by simp [relE] at h; simp [h]
 | (k0, v0) :: es, l, h => by obtain ⟨m, r, rfl, h1, h2, h3⟩ := h; simp [relE_len h3]
theorem relE_put {k : M.κ} {v : M.ν} {key val : Value} (hk : rel β w S (svOf M.one (M.ek k)) key) (hv : rel β w S (svOf M.vone (M.ev v)) val) : ∀ {es : List (M.κ × M.ν)} {l : List MapEntry} {i : Nat}, relE β w S M es l -> posK M k es = some i →
 relE β w S M (aput M k v es) (l.modify i fun e => { e with key := key, val := val })
  | [], l, i, h, e => by simp [posK] at e
  | (j, u) :: es, l, i, h, e => by
    obtain ⟨m, r, rfl, h1, h2, h3⟩ := h
    simp only [posK] at e
    simp only [aput]
    cases ej : M.deq j k with
    | isTrue h' =>
      rw [ej] at e
      simp at e
      subst e
      subst h'
      exact ⟨{ m with key := key, val := val }, r, by simp, hk, hv, h3⟩
    | isFalse h' =>
      rw [ej] at e
      simp at e
      obtain ⟨i', e, rfl⟩ := e
      exact ⟨m, _, by simp, h1, h2, relE_put hk hv h3 e⟩
theorem relE_push {k : M.κ} {v : M.ν} {m : MapEntry} (hk : rel β w S (svOf M.one (M.ek k)) m.key) (hv : rel β w S (svOf M.vone (M.ev v)) m.val) : ∀ {es : List (M.κ × M.ν)} {l : List MapEntry}, relE β w S M es l -> posK M k es = none →
 relE β w S M (aput M k v es) (l ++ [m])
  | [], l, h, e => by
    simp only [relE] at h
    subst h
    exact ⟨m, [], rfl, hk, hv, rfl⟩
  | (j, u) :: es, l, h, e => by
    obtain ⟨m', r, rfl, h1, h2, h3⟩ := h
    simp only [posK] at e
    simp only [aput]
    cases ej : M.deq j k with
    | isTrue h' => rw [ej] at e; simp at e
    | isFalse h' =>
      rw [ej] at e
      simp at e
      exact ⟨m', _, by simp, h1, h2, relE_push hk hv h3 e⟩
theorem relE_del {k : M.κ} : ∀ {es : List (M.κ × M.ν)} {l : List MapEntry} {i : Nat}, relE β w S M es l -> posK M k es = some i -> relE β w S M (adel M k es) (l.eraseIdx i)
 | [], l, i, h, e => by simp [posK] at e
 | (j, u) :: es, l, i, h, e => by
   obtain ⟨m, r, rfl, h1, h2, h3⟩ := h
   simp only [posK] at e
   simp only [adel]
   cases ej : M.deq j k with
   | isTrue h' =>
     rw [ej] at e
     simp at e
     subst e
     simpa using h3
   | isFalse h' =>
     rw [ej] at e
     simp at e
     obtain ⟨i', e, rfl⟩ := e
     exact ⟨m, _, by simp, h1, h2, relE_del h3 e⟩
theorem born_modify (l : List MapEntry) (i : Nat) (k v : Value) : (l.modify i fun e => { e with key := k, val := v }).map (·.born) = l.map (·.born) := by
 induction l generalizing i with
 | nil => cases i <;> simp
 | cons m l ih => cases i with
   | zero => simp
   | succ i => simp [ih]
theorem mem_modify_born {l : List MapEntry} {i : Nat} {k v : Value} {m : MapEntry} (h : m ∈ l.modify i fun e => { e with key := k, val := v }) : ∃ m' ∈ l, m'.born = m.born := by
 have : m.born ∈ (l.modify i fun e => { e with key := k, val := v }).map (·.born) := List.mem_map_of_mem h
 rw [born_modify] at this
 obtain ⟨m', h1, h2⟩ := List.mem_map.1 this
 exact ⟨m', h1, h2⟩
end ents
theorem run_findAskingF {P : Program} {K : TypeId} {M : MapTy} (hK : KeyOk P K M.one M.ks) {β w S} (k : M.κ) : ∀ {es : List (M.κ × M.ν)} {l : List MapEntry} (i0 : Nat), relE β w S M es l →
 (Instr.findAsking K (keyV M.one (M.ek k)) l i0).run P w = .ok ((posK M k es).bind fun i => (l[i]?).map fun m => (i0 + i, m.val)) w
  | [], l, i0, h => by
    simp only [relE] at h
    subst h
    simp [Instr.findAsking, posK]
  | (j, u) :: es, l, i0, h => by
    obtain ⟨m, r, rfl, h1, h2, h3⟩ := h
    rw [rel_key (M.ekk j) hK.len1] at h1
    obtain ⟨b, hb, hi⟩ := hK.equal w (M.ekk k) (M.ekk j)
    simp only [Instr.findAsking, Sem.run_bind, h1, hb, Result.andThen_ok, posK]
    cases e : M.deq j k with
    | isTrue h' =>
      subst h'
      rw [hi.2 rfl]
      simp
    | isFalse h' =>
      have : b = false := by
       cases b with
       | false => rfl
       | true => exact absurd (M.inj _ _ (hi.1 rfl)).symm h'
      rw [this]
      have ih := run_findAskingF hK k (i0 + 1) h3
      simp only [Bool.false_eq_true, if_false]
      rw [ih]
      cases posK M k es with
      | none => rfl
      | some i => simp [Nat.add_assoc, Nat.add_comm 1 i]
theorem findNowF {P : Program} {K : TypeId} {M : MapTy} (hK : KeyOk P K M.one M.ks) {β w S} (k : M.κ) {u : TypeDesc} (hu : P.underlying K = some u) (hr : isRowT P K = false) : ∀ {es : List (M.κ × M.ν)} {l : List MapEntry} (i0 : Nat), relE β w S M es l →
 Instr.findNow u (keyV M.one (M.ek k)) l i0 = some ((posK M k es).bind fun i => (l[i]?).map fun m => (i0 + i, m.val))
  | [], l, i0, h => by
    simp only [relE] at h
    subst h
    simp [Instr.findNow, posK]
  | (j, x) :: es, l, i0, h => by
    obtain ⟨m, r, rfl, h1, h2, h3⟩ := h
    rw [rel_key (M.ekk j) hK.len1] at h1
    have ih := findNowF hK k hu hr (i0 + 1) h3
    have same : ∃ b : Bool, Instr.sameNow u (keyV M.one (M.ek k)) (keyV M.one (M.ek j)) = some b ∧ (b = true ↔ M.ek k = M.ek j) := by
     obtain ⟨d, hd, hk⟩ := hK.k
     obtain ⟨hlen, u', hu', hcase⟩ := kinds_one hk hr
     rw [hu] at hu'; cases hu'
     have ho : M.one = true := by rw [hK.one, hr]; rfl
     obtain ⟨q, hq⟩ := List.length_eq_one_iff.1 hlen
     have e1 := M.ekk k
     have e2 := M.ekk j
     rw [hq] at e1 e2 hk
     have one : ∀ {l : List PV}, l.map PV.kind = [q].map some -> ∃ p, l = [p] ∧ p.kind = some q := by
      intro l e
      have hl : l.length = 1 := by have := congrArg List.length e; simpa using this
      obtain ⟨p, rfl⟩ := List.length_eq_one_iff.1 hl
      exact ⟨p, rfl, by simpa using e⟩
     obtain ⟨p1, f1, e1⟩ := one e1
     obtain ⟨p2, f2, e2⟩ := one e2
     rw [f1, f2, ho]
     have hq' : (u = .bool -> q = .bool) ∧ (∀ k, u = .int k -> q = .int k) ∧ (u = .string -> q = .str) := by
      cases d with
      | zero => simp [kindsT] at hk
      | succ d =>
        unfold kindsT at hk
        rw [hu] at hk
        refine ⟨fun e => ?_, fun k e => ?_, fun e => ?_⟩ <;> subst e <;> simp at hk <;> exact hk.symm
     obtain ⟨q1, q2, q3⟩ := hq'
     simp only [keyV]
     rcases hcase with rfl | ⟨kk, rfl⟩ | rfl
     . have := q1 rfl; subst this
       cases p1 <;> simp [PV.kind] at e1
       cases p2 <;> simp [PV.kind] at e2
       rename_i b1 b2
       exact ⟨b1 == b2, by simp [PV.va, Instr.sameNow], by simp⟩
     . have := q2 kk rfl; subst this
       cases p1 <;> simp [PV.kind] at e1
       cases p2 <;> simp [PV.kind] at e2
       rename_i k1 n1 k2 n2
       subst e1; subst e2
       exact ⟨n1 == n2, by simp [PV.va, Instr.sameNow], by simp⟩
     . have := q3 rfl; subst this
       cases p1 <;> simp [PV.kind] at e1
       cases p2 <;> simp [PV.kind] at e2
       rename_i b1 b2
       exact ⟨b1 == b2, by simp [PV.va, Instr.sameNow], by simp [bytes_beq]⟩
    obtain ⟨b, hb, hi⟩ := same
    simp only [Instr.findNow, h1, hb, posK]
    cases e : M.deq j k with
    | isTrue h' =>
      subst h'
      rw [hi.2 rfl]
      simp
    | isFalse h' =>
      have : b = false := by
       cases b with
       | false => rfl
       | true => exact absurd (M.inj _ _ (hi.1 rfl)).symm h'
      rw [this]
      simp only
      rw [ih]
      cases posK M k es with
      | none => rfl
      | some i => simp [Nat.add_assoc, Nat.add_comm 1 i]
theorem run_findKeyF {P : Program} {K : TypeId} {M : MapTy} (hK : KeyOk P K M.one M.ks) {β w S} (k : M.κ) {es : List (M.κ × M.ν)} {l : List MapEntry} (h : relE β w S M es l) :
 (Instr.findKey K (keyV M.one (M.ek k)) l).run P w = .ok ((posK M k es).bind fun i => (l[i]?).map fun m => (i, m.val)) w := by
  obtain ⟨d, hd, hk⟩ := hK.k
  have hu : ∃ u, P.underlying K = some u := by
   cases d with
   | zero => simp [kindsT] at hk
   | succ d =>
     unfold kindsT at hk
     cases hu : P.underlying K with
     | none => rw [hu] at hk; cases hk
     | some u => exact ⟨u, rfl⟩
  obtain ⟨u, hu⟩ := hu
  unfold Instr.findKey
  simp only [Sem.run_bind, run_underlying hu, Result.andThen_ok]
  cases hr : isRowT P K with
  | false =>
    have := findNowF hK k hu hr 0 h
    simp only [Nat.zero_add] at this
    rw [this]
    rfl
  | true =>
    cases l with
    | nil =>
      cases es with
      | nil => simp [Instr.findNow, posK]
      | cons x es => obtain ⟨m, r, e, _⟩ := h; cases e
    | cons m l =>
      have hn : Instr.findNow u (keyV M.one (M.ek k)) (m :: l) 0 = none := by
       have : ∀ a b, Instr.sameNow u a b = none := by
        intro a b
        unfold isRowT at hr
        rw [hu] at hr
        cases u <;> simp at hr <;> simp [Instr.sameNow]
       simp [Instr.findNow, this]
      rw [hn]
      have := run_findAskingF hK k 0 h
      simpa using this
end Go.Sx
