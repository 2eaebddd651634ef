/- Part 7 of 11 of a proof of the law AllocTwice: what the last part leans on. -/
import Derived.Test.YtlahifihaeafbaaGreatDoorZf
set_option linter.all false
set_option maxRecDepth 100000
namespace Go.Proofs.YtlahifihaeafbaaGreatDoor
open Go Go.Sx
section
def zvE : MC := .seq (.reg [oo 4 (ln 1),oo 5 (.rngm (.t 4))]) (.blk 0 (.loop 0 (.seq (.reg [oo 6 (.nxt (.t 5)),oo 7 (ex_ 0 6)]) (.seq (.cond (.t 7) (.skip) (.exit 0)) (.blk 1 (.seq (.reg [oo 8 (.ent (.t 5)),oo 9 (ex_ 0 8),om 3 9]) (.seq (.reg [om 10 0,om 11 3,oo 12 (.call (.t 10) [(.t 11)]),oo 13 (.not (.t 12))]) (.cond (.t 13) (.ret) (.skip)))))))))
theorem zwG : zar Tryz.prog 202 14 zvE [] := fk Tryz.func202 ⟨tv,⟨tv,⟨⟨tv,tv⟩,⟨tv,⟨tv,⟨tv,tv⟩⟩⟩⟩⟩⟩
def zBf : MC := .seq (.reg [oo 2 (.box (.t 0)),oo 4 (.mv (.k (.val (.slice none 0 0))))]) (.seq (.seq (.reg [om 6 1]) (.blk 0 (.rng (.t 6) [7] (.reg [om 5 7]) (.blk 1 (.reg [oo 8 (ln 2),om 9 5,oo 10 (.bsl 1 1 [(kz 0)] [(0,(.t 9))]),oo 11 (.app 1 8 (.t 8) (.t 10)),o none (.st (some 1) (.t 2) (.t 11))])) 202 14 zvE))) (.seq (.reg [oo 12 (ln 2),om 4 12]) (.ret)))
theorem zCr : zar Tryz.prog 221 13 zBf [.t 4] := .of Tryz.func221 (by kernel_rfl) (by kernel_rfl) (by kernel_rfl) (by kernel_rfl) ⟨trivial, ⟨⟨trivial, ⟨trivial, trivial, zwG.it, zwG.its⟩⟩, ⟨trivial, trivial⟩⟩⟩
def zA8 : MC := .seq (.reg [oo 2 (.mv (.k (.val (.slice none 0 0))))]) (.seq (.reg [om 3 0,oo 4 (fc 221 [(.k (.val (.slice none 0 0))),(.t 3)]),om 2 4]) (.ret))
theorem zCm : zar Tryz.prog 200 5 zA8 [.t 2] := fk Tryz.func200 ⟨tv,⟨tv,tv⟩⟩
def zAY : MC := .seq (.reg [oo 4 (.mv (.k (.val (.slice none 0 0))))]) (.seq (.reg [om 6 0,oo 7 (fc 200 [(.t 6)]),om 5 7]) (.gh (.opn 2) (.seq (.reg [om 8 5,om 9 1,oo 10 (fc 201 [(.t 8),(.t 9)])]) (.seq (.reg [om 11 5,om 4 11]) (.ret)))))
theorem zCe : zar Tryz.prog 176 12 zAY [.t 4] := fk Tryz.func176 ⟨tv,⟨tv,⟨tv,⟨tv,tv⟩⟩⟩⟩
def zAZ : MC := .seq (.reg [oo 1 (.box (.t 0)),oo 2 (.mv (.k (.val .nilFunc)))]) (.seq (.reg [oo 3 (.mkf (.func 202) [] [(.t 1)]),om 2 3]) (.ret))
theorem zCf : zar Tryz.prog 177 4 zAZ [.t 2] := fk Tryz.func177 ⟨tv,⟨tv,tv⟩⟩
def zAR : MC := .seq (.reg [oo 4 (.mv (.k (.val (.slice none 0 0))))]) (.seq (.reg [om 5 0,oo 6 (fc 177 [(.t 5)]),om 7 1,oo 8 (fc 176 [(.t 6),(.t 7)]),om 4 8]) (.ret))
theorem zB8 : zar Tryz.prog 155 9 zAR [.t 4] := fk Tryz.func155 ⟨tv,⟨tv,tv⟩⟩
abbrev K1I (es : BM) : List Int := es.map Prod.fst
def zow (K : List Int) (L : List (List PV)) : Prop := ∃ M : List Int, M.Perm K /\ L = M.map ipv
abbrev ziD := Nat × Go.Loop × List Int × Option Int × List Int
def zwi (es : BM) : ziD -> St
 | (lp, r, left, cur, acc) => ⟨[(5, .ptr 4 0 0), (0, .fn (.yield lp) [] [])],
    [(0, some (.row [.mp 1])), (1, some (.map MIB es (some (4, left, cur)))), (2, some (.row [.slc 5 0 acc.length])), (3, some (.lrec lp r .ready)), (4, some (.itr 1)), (5, some (.vec 1 (acc.map ipv)))], 6⟩
def ze6 (es : BM) : ziD -> ziD -> Prop
 | (lp0, r0, _), (lp, r, left, _, acc) => lp = lp0 /\ r = r0 /\ (acc ++ left).Perm (K1I es) /\ (K1I es).Nodup /\ es.length <= 1000000
def zyr (es : BM) : Nat -> zcA := fun _ => .inv ziD (ze6 es) (zwi es) (fun c => c.2.2.1.length)
theorem zvp {es : BM} {lp r x} {Q : ziD -> Prop} (h : ∀ left cur acc, ze6 es (lp, r, x) (lp, r, left, cur, acc) -> Q (lp, r, left, cur, acc)) : ∀ c, ze6 es (lp, r, x) c -> Q c := fun ⟨lp', r', left, cur, acc⟩ hI => by
 obtain ⟨h1, h2, h3⟩ := hI
 subst h1; subst h2
 exact h _ _ _ ⟨rfl, rfl, h3⟩
theorem zvY {es : BM} {lp r x left cur acc} (_ : ze6 es (lp, r, x) (lp, r, left, cur, acc)) {k : Int} (_ : k ∈ left) {p q : ziD -> Prop} (h : p (lp, r, zaB MIB k left, some k, acc ++ [k])) (h2 : q (lp, r, zaB MIB k left, some k, acc ++ [k])) : ∃ c, p c /\ q c := ⟨_, h, h2⟩
theorem zl8 {k : Int} : ∀ {l : List Int}, k ∈ l -> l.Nodup -> l.Perm (k :: zaB MIB k l) /\ (zaB MIB k l).length < l.length
 | [], h, _ => by cases h
 | j :: l, h, hn => by
   rw [List.nodup_cons] at hn
   have he : ∀ (l : List Int), k ∉ l -> zaB MIB k l = l := by
    intro l
    induction l with
    | nil => intro _; simp [zaB]
    | cons a l ih =>
      intro hk
      simp only [List.mem_cons, not_or] at hk
      simp only [zaB]
      split
      . next e _ => exact absurd e.symm hk.1
      . rw [ih hk.2]
   simp only [zaB]
   split
   . next e _ =>
     subst e
     rw [he l hn.1]
     exact ⟨.refl _, by simp⟩
   . next e _ =>
     have hk : k ∈ l := by
      rcases List.mem_cons.1 h with h | h
      . exact absurd h.symm e
      . exact h
     obtain ⟨h1, h2⟩ := zl8 hk hn.2
     exact ⟨(h1.cons j).trans (.swap _ _ _), by simpa using h2⟩
attribute [local irreducible] zbO Go.Sx.zaB
theorem zCz {es : BM} {lp r} (h : (K1I es).Nodup) (h2 : es.length <= 1000000) : ze6 es (lp, r, K1I es, none, []) (lp, r, K1I es, none, []) := ⟨rfl, rfl, .refl _, h, h2⟩
theorem zyZ {es : BM} {lp r x left cur acc} {k : Int} (h : ze6 es (lp, r, x) (lp, r, left, cur, acc)) (hk : k ∈ left) : ze6 es (lp, r, x) (lp, r, zaB MIB k left, some k, acc ++ [k]) /\ (zaB MIB k left).length < left.length := by
 obtain ⟨_, _, h3, h4, h5⟩ := h
 have hn : left.Nodup := (List.nodup_append.1 (h3.nodup_iff.2 h4)).2.1
 obtain ⟨e1, e2⟩ := zl8 hk hn
 refine ⟨⟨rfl, rfl, ?_, h4, h5⟩, e2⟩
 rw [List.append_assoc]
 exact (e1.symm.append_left acc).trans h3
theorem zpr {es : BM} {lp r x left cur acc} (h : ze6 es (lp, r, x) (lp, r, left, cur, acc)) (hk : ∀ p, p ∈ es -> p.1 ∉ left) : acc.Perm (K1I es) := by
 obtain ⟨_, _, h3, h4, h5⟩ := h
 have : left = [] := by
  cases left with
  | nil => rfl
  | cons a l =>
    have ha : a ∈ K1I es := h3.subset (by simp)
    obtain ⟨p, hp, e⟩ := List.mem_map.1 ha
    exact absurd (by rw [<- e] at *; simp) (hk p hp)
 subst this
 simpa using h3
theorem zwK {es : BM} {lp r x left cur acc} (h : ze6 es (lp, r, x) (lp, r, left, cur, acc)) (hk : ∀ p, p ∈ es -> p.1 ∉ left) : es.length = acc.length := by
 have := (zpr h hk).length_eq
 simpa using this.symm
theorem zCA {es : BM} {lp r x left cur acc} {X : List (List SV)} (h : ze6 es (lp, r, x) (lp, r, left, cur, acc)) (hX : X.length = 1) : (zai.len (Sum.inr (List.map ipv acc)) + zai.len (Sum.inl X)) * 8 <= 2 ^ 46 := by
 obtain ⟨_, _, h3, h4, h5⟩ := h
 have := h3.length_eq
 simp only [zai.len, List.length_map, List.length_append, hX] at *; omega
theorem zCB {acc : List Int} {k : Int} : 1 = 1 /\ List.map ipv (acc ++ [k]) = List.map ipv acc ++ [[PV.int IntKind.i64 k]] := ⟨rfl, by rw [List.map_append]; rfl⟩
theorem zCC {es : BM} {lp r x left cur acc} (h : ze6 es (lp, r, x) (lp, r, left, cur, acc)) (hk : ∀ p, p ∈ es -> p.1 ∉ left) : 1 = 1 /\ zow (K1I es) (List.map ipv acc) := ⟨rfl, acc, zpr h hk, rfl⟩
theorem zCD {es : BM} {lp r x left cur acc} (h : ze6 es (lp, r, x) (lp, r, left, cur, acc)) (hk : ∀ p, p ∈ es -> p.1 ∉ left) : 0 = 0 /\ es.length = acc.length := ⟨rfl, zwK h hk⟩
noncomputable def zu9 (es : BM) : zaa := ⟨[.val (.slice none 0 0), .fn (.func 202) [] [.ptr 0 0 0]], [.row [.mp 1], .map MIB es none], [some (.row [.mp 1]), some (.map MIB es none)], [.vex 1 (zow (K1I es))], .slc 2 0 es.length⟩
set_option maxHeartbeats 2000000 in
theorem zDO (es : BM) (hn : (K1I es).Nodup) (hl : es.length <= 1000000) : zaa.ok Tryz.prog GG 221 (zu9 es) := by
 refine zad mix zCr _ rfl rfl (Tab.ok (l := []) trivial) (zyr es) noJ ?_
 repeat' ((conv => whnf); first
  | exact trivial
  | with_reducible first | refine aj ?_ | refine ai rfl ?_ | refine ai ⟨rfl, rfl⟩ ?_
  | ((with_reducible refine ai ?_ ?_); focus exact w3)
  | with_reducible first | refine zvp ?_ | refine zvY (by with_reducible assumption) (by with_reducible assumption) ?_ ?_ | apply exW (γ := ziD) (c := (_, _, K1I es, none, [])) | refine ai ⟨rfl, rfl, rfl⟩ ?_ | refine And.intro ?_ ?_ | refine zae ?_ | refine exI (i64_in (by omega) (by omega)) ?_
  | refine exI (x := ULift.up _) (Eq.refl _) ?_
  | refine exI (x := ULift.up _) ⟨rfl, by omega, Eq.refl _⟩ ?_
  | exact nx
  | ((with_reducible intro h); try dsimp only at h))
 all_goals (refine Sd.mk ?_)
 all_goals first
  | exact zCz hn hl
  | exact zyZ ‹_› ‹_›
  | exact kf_a ‹_›
  | exact zCA ‹_› rfl
  | exact kf_c rfl
  | exact zCB
  | exact zCC ‹_› ‹_›
  | exact zCD ‹_› ‹_›
noncomputable def zqw : SFn
 | [.val _, .fn (.func 202) [] [.ptr p _ _]], k => zbz p fun rp => match rp with
   | .agg [.mp m] => zbh MIB m fun es => .req ((K1I es).Nodup /\ es.length <= 1000000) (k (zu9 es))
   | _ => .fail
 | _, _ => .fail
theorem zEF : FnS Tryz.prog GG 221 zqw := by
 intro args k gt go R v os n h
 unfold zqw at h
 split at h
 . obtain ⟨_, _, h⟩ := zaX h
   split at h
   . obtain ⟨es, _, h⟩ := zaP h
     obtain ⟨hp, _, h⟩ := zaz h
     exact ⟨_, _, zDO es hp.1 hp.2, h⟩
   . cases h
 . cases h
noncomputable def zu2 (es : BM) : zaa := ⟨[.fn (.func 202) [] [.ptr 0 0 0]], [.row [.mp 1], .map MIB es none], [some (.row [.mp 1]), some (.map MIB es none)], [.vex 1 (zow (K1I es))], .slc 2 0 es.length⟩
theorem zDH (es : BM) (hn : (K1I es).Nodup) (hl : es.length <= 1000000) : zaa.ok Tryz.prog GG 200 (zu2 es) := by
 refine zad mix zCm _ rfl rfl (Tab.ok (l := [(221, zqw)]) ⟨zEF, trivial⟩) noL noJ ?_
 repeat' ((conv => whnf); first
  | exact trivial
  | with_reducible first | refine aj ?_ | refine ai rfl ?_ | refine ai ⟨rfl, rfl⟩ ?_
  | ((with_reducible refine ai ?_ ?_); focus exact w3)
  | with_reducible first | refine And.intro (Sd.mk (p := List.Nodup _ /\ _) ⟨hn, by omega⟩) ?_ | refine And.intro ?_ ?_ | refine zae ?_ | refine exI (i64_in (by omega) (by omega)) ?_
  | refine exI (x := ULift.up _) (Eq.refl _) ?_
  | refine exI (x := ULift.up _) ⟨rfl, by omega, Eq.refl _⟩ ?_
  | exact ny
  | ((with_reducible intro h); try dsimp only at h))
 all_goals (refine Sd.mk ?_)
 all_goals first
  | exact ⟨rfl, fun _ h => h⟩
noncomputable def zqt : SFn
 | [.fn (.func 202) [] [.ptr p _ _]], k => zbz p fun rp => match rp with
   | .agg [.mp m] => zbh MIB m fun es => .req ((K1I es).Nodup /\ es.length <= 1000000) (k (zu2 es))
   | _ => .fail
 | _, _ => .fail
theorem zEC : FnS Tryz.prog GG 200 zqt := by
 intro args k gt go R v os n h
 unfold zqt at h
 split at h
 . obtain ⟨_, _, h⟩ := zaX h
   split at h
   . obtain ⟨es, _, h⟩ := zaP h
     obtain ⟨hp, _, h⟩ := zaz h
     exact ⟨_, _, zDH es hp.1 hp.2, h⟩
   . cases h
 . cases h
theorem zvo {K : List Int} {Q : List (List PV) -> Prop} (h : ∀ M : List Int, M.Perm K -> Q (M.map ipv)) : ∀ L, zow K L -> Q L := fun L ⟨M, h1, h2⟩ => by subst h2; exact h M h1
theorem zzA {es : BM} {M : List Int} (h : M.Perm (K1I es)) : zbO (K1I es) = zbO M := (zrW h).symm
theorem zxw {es : BM} {M : List Int} (h : M.Perm (K1I es)) : M.length = es.length := by simpa using h.length_eq
theorem zzy {es : BM} {M : List Int} (h : M.Perm (K1I es)) (h2 : es.length <= 12) : M.length <= 12 := by rw [zxw h]; exact h2
theorem zzz {es : BM} {M : List Int} (h : M.Perm (K1I es)) : 0 = 0 /\ M.length = es.length := ⟨rfl, zxw h⟩
theorem zzB {es : BM} {M : List Int} (h : M.Perm (K1I es)) : 1 = 1 /\ List.map ipv (zbO (K1I es)) = List.map ipv (zbO M) := by rw [zzA h]; exact ⟨rfl, rfl⟩
noncomputable def zuS (es : BM) : zaa := ⟨[.fn (.func 202) [] [.ptr 0 0 0], .fn (.func 96) [] []], [.row [.mp 1], .map MIB es none], [some (.row [.mp 1]), some (.map MIB es none)], [.vec 1 ((zbO (K1I es)).map ipv)], .slc 2 0 es.length⟩
theorem zDx (es : BM) (hn : (K1I es).Nodup) (hl : es.length <= 12) : zaa.ok Tryz.prog GG 176 (zuS es) := by
 refine zad mix zCe _ rfl rfl (Tab.ok (l := [(200, zqt), (201, zqu)]) ⟨zEC, zED, trivial⟩) noL noJ ?_
 repeat' ((conv => whnf); first
  | exact trivial
  | with_reducible first | refine aj ?_ | refine ai rfl ?_ | refine ai ⟨rfl, rfl⟩ ?_
  | ((with_reducible refine ai ?_ ?_); focus exact w3)
  | with_reducible first | refine And.intro (Sd.mk (p := List.Nodup _ /\ _) ⟨hn, by omega⟩) ?_ | refine zvo ?_ | refine And.intro (Sd.mk (p := _ <= 12) (zzy ‹_› hl)) ?_ | refine ai (zzz ‹_›) ?_ | refine And.intro ?_ ?_ | refine zae ?_ | refine exI (i64_in (by omega) (by omega)) ?_
  | refine exI (x := ULift.up _) (Eq.refl _) ?_
  | refine exI (x := ULift.up _) ⟨rfl, by omega, Eq.refl _⟩ ?_
  | exact ny
  | ((with_reducible intro h); try dsimp only at h))
 all_goals (refine Sd.mk ?_)
 all_goals first
  | exact zzB ‹_›
noncomputable def zqp : SFn
 | [.fn (.func 202) [] [.ptr p _ _], .fn (.func 96) [] []], k => zbz p fun rp => match rp with
   | .agg [.mp m] => zbh MIB m fun es => .req ((K1I es).Nodup /\ es.length <= 12) (k (zuS es))
   | _ => .fail
 | _, _ => .fail
theorem zEy : FnS Tryz.prog GG 176 zqp := by
 intro args k gt go R v os n h
 unfold zqp at h
 split at h
 . obtain ⟨_, _, h⟩ := zaX h
   split at h
   . obtain ⟨es, _, h⟩ := zaP h
     obtain ⟨hp, _, h⟩ := zaz h
     exact ⟨_, _, zDx es hp.1 hp.2, h⟩
   . cases h
 . cases h
noncomputable def zuT (es : BM) : zaa := ⟨[.mp 0], [.map MIB es none], [some (.map MIB es none)], [.row [.mp 0]], .fn (.func 202) [] [.ptr 1 0 0]⟩
theorem zDy (es : BM) : zaa.ok Tryz.prog GG 177 (zuT es) := by
 refine zad mix zCf _ rfl rfl (Tab.ok (l := []) trivial) noL noJ ?_
 repeat' ((conv => whnf); first
  | exact trivial
  | with_reducible first | refine aj ?_ | refine ai rfl ?_ | refine ai ⟨rfl, rfl⟩ ?_
  | ((with_reducible refine ai ?_ ?_); focus exact w3)
  | refine exI (x := MIB) trivial ?_
  | with_reducible first | refine And.intro ?_ ?_ | refine zae ?_ | refine exI (i64_in (by omega) (by omega)) ?_
  | refine exI (x := ULift.up _) (Eq.refl _) ?_
  | refine exI (x := ULift.up _) ⟨rfl, by omega, Eq.refl _⟩ ?_
  | exact ny
  | ((with_reducible intro h); try dsimp only at h))
 all_goals (refine Sd.mk ?_)
noncomputable def zqq : SFn
 | [.mp p], k => zbh MIB p fun es => k (zuT es)
 | _, _ => .fail
theorem zEz : FnS Tryz.prog GG 177 zqq := by
 intro args k gt go R v os n h
 unfold zqq at h
 split at h
 . obtain ⟨es, _, h⟩ := zaP h
   exact ⟨_, _, zDy es, h⟩
 . cases h
noncomputable def zuL (es : BM) : zaa := ⟨[.mp 0, .fn (.func 96) [] []], [.map MIB es none], [some (.map MIB es none)], [.vec 1 ((zbO (K1I es)).map ipv)], .slc 1 0 es.length⟩
theorem zDq (es : BM) (hn : (K1I es).Nodup) (hl : es.length <= 12) : zaa.ok Tryz.prog GG 155 (zuL es) := by
 refine zad mix zB8 _ rfl rfl (Tab.ok (l := [(177, zqq), (176, zqp)]) ⟨zEz, zEy, trivial⟩) noL noJ ?_
 repeat' ((conv => whnf); first
  | exact trivial
  | with_reducible first | refine aj ?_ | refine ai rfl ?_ | refine ai ⟨rfl, rfl⟩ ?_
  | ((with_reducible refine ai ?_ ?_); focus exact w3)
  | with_reducible first | refine And.intro (Sd.mk (p := List.Nodup _ /\ _) ⟨hn, by omega⟩) ?_ | refine And.intro ?_ ?_ | refine zae ?_ | refine exI (i64_in (by omega) (by omega)) ?_
  | refine exI (x := ULift.up _) (Eq.refl _) ?_
  | refine exI (x := ULift.up _) ⟨rfl, by omega, Eq.refl _⟩ ?_
  | exact ny
  | ((with_reducible intro h); try dsimp only at h))
 all_goals (refine Sd.mk ?_)
noncomputable def zqk : SFn
 | [.mp p, .fn (.func 96) [] []], k => zbh MIB p fun es => .req ((K1I es).Nodup /\ es.length <= 12) (k (zuL es))
 | _, _ => .fail
theorem zEt : FnS Tryz.prog GG 155 zqk := by
 intro args k gt go R v os n h
 unfold zqk at h
 split at h
 . obtain ⟨es, _, h⟩ := zaP h
   obtain ⟨hp, _, h⟩ := zaz h
   exact ⟨_, _, zDq es hp.1 hp.2, h⟩
 . cases h
end
section
def zAT : MC := .seq (.reg [oo 10 (.mv kt)]) (.seq (.reg [oo 11 (.mv kt)]) (.blk 0 (.loop 0 (.blk 1 (.seq (.reg [om 21 2,om 22 1,oo 23 (at_ .sub 21 22),om 12 23]) (.seq (.seq (.reg [om 24 12,oo 25 (cc .leq 24 12)]) (.cond (.t 25) (.seq (.reg [om 26 0,om 27 1,om 28 2,om 29 4,oo 30 (fc 181 [(.t 26),(.t 27),(.t 28),(.t 29)])]) (.ret)) (.skip))) (.seq (.seq (.reg [om 31 3,oo 32 (cc .eql 31 0)]) (.cond (.t 32) (.seq (.reg [om 33 0,om 34 1,om 35 2,om 36 4,oo 37 (fc 182 [(.t 33),(.t 34),(.t 35),(.t 36)])]) (.ret)) (.skip))) (.seq (.seq (.reg [om 38 10,oo 39 (.not (.t 38))]) (.cond (.t 39) (.seq (.reg [om 40 0,om 41 1,om 42 2,om 43 4,oo 44 (fc 183 [(.t 40),(.t 41),(.t 42),(.t 43)])]) (.reg [om 45 3,oo 46 (ac .sub 45 1),om 3 46])) (.skip))) (.seq (.reg [om 48 0,om 49 1,om 50 2,om 51 4,oo 52 (fc 184 [(.t 48),(.t 49),(.t 50),(.t 51)]),om 47 52,oo 53 (ex_ 0 47),oo 54 (ex_ 1 47),om 13 53,om 14 54]) (.seq (.seq (.reg [om 55 14,oo 56 (cc .eql 55 2)]) (.cond (.t 56) (.seq (.reg [om 57 0,om 58 1,om 59 2,om 60 4,oo 61 (fc 185 [(.t 57),(.t 58),(.t 59),(.t 60)])]) (.seq (.reg [om 62 2,oo 63 (ac .sub 62 1),om 64 13,om 65 1,oo 66 (at_ .sub 64 65),oo 67 (at_ .sub 63 66),om 13 67]) (.reg [oo 14 (.mv (ki 1))]))) (.skip))) (.seq (.seq (.reg [om 68 10,sm 69 68,mt 69 70 11,oo 71 (pf 69 70),sm 72 71,mt 72 73 14,gt_ 72 74 (cc .eql 73 1),oo 75 (pf 72 74)]) (.cond (.t 75) (.seq (.reg [om 76 0,om 77 1,om 78 2,om 79 4,oo 80 (fc 186 [(.t 76),(.t 77),(.t 78),(.t 79)])]) (.cond (.t 80) (.ret) (.skip))) (.skip))) (.seq (.seq (.drw [om 81 1,oo 82 (cc .gtr 81 0),sm 83 82,mt 83 84 4,mt 83 85 0,mt 83 86 1,gt_ 83 87 (ac .sub 86 1),gt_ 83 88 (ia 2 85 87),gt_ 83 89 (ls 2 88),mt 83 90 0,mt 83 91 13,gt_ 83 92 (ia 2 90 91),gt_ 83 93 (ls 2 92),gt_ 83 94 (.call (.t 84) [(.t 89),(.t 93)]),gt_ 83 95 (cc .lss 94 0),gt_ 83 96 (.not (.t 95)),oo 97 (pf 83 96)] [[],[0],[1],[2],[2],[2],[5,2],[4,6,2],[7,2],[2],[2],[9,10,2],[11,2],[3,8,12,2,2],[13,2],[14,2],[2,15]]) (.cond (.t 97) (.seq (.reg [om 98 0,om 99 1,om 100 2,om 101 13,om 102 4,oo 103 (fc 187 [(.t 98),(.t 99),(.t 100),(.t 101),(.t 102)]),om 15 103]) (.seq (.reg [om 104 15,om 1 104]) (.exit 1))) (.skip))) (.seq (.reg [om 106 0,om 107 1,om 108 2,om 109 13,om 110 4,oo 111 (fc 188 [(.t 106),(.t 107),(.t 108),(.t 109),(.t 110)]),om 105 111,oo 112 (ex_ 0 105),oo 113 (ex_ 1 105),om 16 112,om 17 113]) (.seq (.reg [om 114 17,om 11 114]) (.seq (.reg [om 115 16,om 116 1,oo 117 (at_ .sub 115 116),om 118 2,om 119 16,oo 120 (at_ .sub 118 119),om 18 117,om 19 120]) (.seq (.reg [om 121 12,oo 122 (ac .quo 121 8),om 20 122]) (.seq (.reg [om 123 18,om 124 19,oo 125 (ct .lss 123 124)]) (.cond (.t 125) (.seq (.reg [om 126 18,om 127 20,oo 128 (ct .geq 126 127),om 10 128]) (.seq (.reg [om 129 0,om 130 1,om 131 16,om 132 3,om 133 4,oo 134 (fc 169 [(.t 129),(.t 130),(.t 131),(.t 132),(.t 133)])]) (.reg [om 135 16,oo 136 (ac .add 135 1),om 1 136]))) (.seq (.reg [om 137 19,om 138 20,oo 139 (ct .geq 137 138),om 10 139]) (.seq (.reg [om 140 0,om 141 16,oo 142 (ac .add 141 1),om 143 2,om 144 3,om 145 4,oo 146 (fc 169 [(.t 140),(.t 142),(.t 143),(.t 144),(.t 145)])])
 (.reg [om 147 16,om 2 147])))))))))))))))))))))
theorem zCa : zar Tryz.prog 169 148 zAT [] := fk Tryz.func169 ⟨tv,⟨tv,⟨tv,⟨⟨tv,⟨⟨tv,tv⟩,tv⟩⟩,⟨⟨tv,⟨⟨tv,tv⟩,tv⟩⟩,⟨⟨tv,⟨⟨tv,tv⟩,tv⟩⟩,⟨tv,⟨⟨tv,⟨⟨tv,⟨tv,tv⟩⟩,tv⟩⟩,⟨⟨tv,⟨⟨tv,⟨tv,tv⟩⟩,tv⟩⟩,⟨⟨tv,⟨⟨tv,⟨tv,tv⟩⟩,tv⟩⟩,⟨tv,⟨tv,⟨tv,⟨tv,⟨tv,⟨⟨tv,⟨tv,tv⟩⟩,⟨tv,⟨tv,tv⟩⟩⟩⟩⟩⟩⟩⟩⟩⟩⟩⟩⟩⟩⟩⟩⟩⟩
def zAG : MC := .seq (.reg [om 5 0,oo 6 (.lenS (.t 5)),om 4 6]) (.reg [om 7 0,om 8 4,om 9 4,oo 10 (.cv .u64 (.t 9)),oo 11 (fc 170 [(.t 10)]),om 12 1,oo 13 (fc 169 [(.t 7),(ki 0),(.t 8),(.t 11),(.t 12)])])
theorem zBX : zar Tryz.prog 139 14 zAG [] := fk Tryz.func139 ⟨tv,tv⟩
attribute [local irreducible] zb2
noncomputable def zuN (L : List HR) (m : Int) : zaa := ⟨[.slc 0 0 L.length, kz 0, kz L.length, kz m, .fn (.func 52) [] []], [.vec 2 (L.map HR.pv)], [some (.vec 2 ((zb2 L).map HR.pv))], [], .tup []⟩
set_option maxHeartbeats 4000000 in
theorem zDs (L : List HR) (m : Int) (hp : L.length <= 12) : zaa.ok Tryz.prog GG 169 (zuN L m) := by
 refine zad mix zCa _ rfl rfl (Tab.ok (l := [(181, zqr)]) ⟨zEA, trivial⟩) (fun _ => .rounds 1) noJ ?_
 repeat' ((conv => whnf); first
  | exact trivial
  | with_reducible first | refine aj ?_ | refine ai rfl ?_ | refine ai ⟨rfl, rfl⟩ ?_
  | ((with_reducible refine ai ?_ ?_); focus exact w3)
  | ((with_reducible intro h); exfalso; omega)
  | with_reducible first | refine And.intro (Sd.mk (p := _ <= 1000000) (by omega)) ?_ | refine And.intro (Sd.mk (p := _ <= 12) hp) ?_ | refine And.intro (Sd.mk (p := 0 <= _ /\ _ <= 12) (by omega)) ?_
  | refine exI (zgz (by omega) (by omega)) ?_
  | with_reducible first | refine And.intro ?_ ?_ | refine zae ?_ | refine exI (i64_in (by omega) (by omega)) ?_
  | refine exI (x := ULift.up _) (Eq.refl _) ?_
  | refine exI (x := ULift.up _) ⟨rfl, by omega, Eq.refl _⟩ ?_
  | exact nx
  | ((with_reducible intro h); try dsimp only at h))
 all_goals (refine Sd.mk ?_)
noncomputable def zqm : SFn
 | [.slc p 0 _, .int .i64 0, .int .i64 _, .int .i64 m, .fn (.func 52) [] []], k => .rO p fun o => match o with
   | some (.vec 2 LL) => asL HR.pv LL fun L => .req (L.length <= 12) (k (zuN L m))
   | _ => .fail
 | _, _ => .fail
theorem zEv : FnS Tryz.prog GG 169 zqm := by
 intro args k gt go R v os n h
 unfold zqm at h
 split at h
 . cases h with
   | rO h =>
     dsimp only at h
     split at h
     . obtain ⟨L, _, h⟩ := zbc h
       obtain ⟨hp, _, h⟩ := zaz h
       exact ⟨_, _, zDs L _ hp, h⟩
     . cases h
 . cases h
noncomputable def zuA (L : List HR) : zaa := ⟨[.slc 0 0 L.length, .fn (.func 52) [] []], [.vec 2 (L.map HR.pv)], [some (.vec 2 ((zb2 L).map HR.pv))], [], .tup []⟩
set_option maxHeartbeats 4000000 in
theorem zDf (L : List HR) (hp : L.length <= 12) : zaa.ok Tryz.prog GG 139 (zuA L) := by
 refine zad mix zBX _ rfl rfl (Tab.ok (l := [(169, zqm), (170, znX)]) ⟨zEv, zxV, trivial⟩) noL noJ ?_
 repeat' ((conv => whnf); first
  | exact trivial
  | with_reducible first | refine aj ?_ | refine ai rfl ?_ | refine ai ⟨rfl, rfl⟩ ?_
  | ((with_reducible refine ai ?_ ?_); focus exact w3)
  | ((with_reducible intro h); exfalso; omega)
  | with_reducible first | refine And.intro (Sd.mk (p := _ <= 1000000) (by omega)) ?_ | refine And.intro (Sd.mk (p := _ <= 12) hp) ?_ | refine And.intro (Sd.mk (p := 0 <= _ /\ _ <= 12) (by omega)) ?_
  | refine exI (zgz (by omega) (by omega)) ?_
  | with_reducible first | refine And.intro ?_ ?_ | refine zae ?_ | refine exI (i64_in (by omega) (by omega)) ?_
  | refine exI (x := ULift.up _) (Eq.refl _) ?_
  | refine exI (x := ULift.up _) ⟨rfl, by omega, Eq.refl _⟩ ?_
  | exact nx
  | ((with_reducible intro h); try dsimp only at h))
 all_goals (refine Sd.mk ?_)
noncomputable def zqb : SFn
 | [.slc p 0 _, .fn (.func 52) [] []], k => .rO p fun o => match o with
   | some (.vec 2 LL) => asL HR.pv LL fun L => .req (L.length <= 12) (k (zuA L))
   | _ => .fail
 | _, _ => .fail
theorem zEk : FnS Tryz.prog GG 139 zqb := by
 intro args k gt go R v os n h
 unfold zqb at h
 split at h
 . cases h with
   | rO h =>
     dsimp only at h
     split at h
     . obtain ⟨L, _, h⟩ := zbc h
       obtain ⟨hp, _, h⟩ := zaz h
       exact ⟨_, _, zDf L hp, h⟩
     . cases h
 . cases h
end
section
def c55 : MC := .seq (.reg [oo 3 (.box (.t 0)),oo 4 (.box (.t 1)),oo 6 (.mv (ki 0))]) (.seq (.drw [oo 9 (fl 0 3),oo 10 (ln 9),oo 11 (ls 2 4),oo 12 (.lkp false false [.bool,.int .i64] true [.sl 1 []] (.t 10) (.t 11)),om 13 2,oo 14 (fc 98 [(.t 12),(.t 13)]),oo 15 (fl 1 3),oo 16 (ln 15),oo 17 (ls 2 4),oo 18 (.lkp false false [.bool,.int .i64] true [.sl 1 []] (.t 16) (.t 17)),om 19 2,oo 20 (fc 98 [(.t 18),(.t 19)]),om 7 14,om 8 20] [[],[0],[],[1,2],[],[3,4],[],[6],[],[7,8],[],[9,10,5],[5,11,0,1,2,3,4,5],[11,12,0,1,2,3,4,5,6,7,8,9,10,11,12]]) (.seq (.seq (.reg [om 21 7,oo 22 (cc .lss 21 0),sm 23 22,mf 23 24 8,gf 23 25 (cc .geq 24 0),ogs 23 false (some 26) (.mv (.t 25)),mt 26 27 8,mt 26 28 7,gt_ 26 29 (ct .lss 27 28),gf 23 30 (pf 26 29),oo 31 (pt 23 30)]) (.cond (.t 31) (.seq (.reg [oo 6 (.mv (ki (-1)))]) (.ret)) (.skip))) (.seq (.reg [om 32 7,om 6 32]) (.ret))))
theorem k55 : zar Tryz.prog 55 33 c55 [.t 6] := fk Tryz.func55 ⟨tv,⟨tv,⟨⟨tv,⟨⟨tv,tv⟩,tv⟩⟩,⟨tv,tv⟩⟩⟩⟩
def c54 : MC := .seq (.reg [oo 3 (.box (.t 0)),oo 4 (.mv kf)]) (.seq (.reg [oo 5 (ls 2 1),oo 6 (ls 2 3),oo 7 (ln 2),oo 8 (fc 55 [(.t 5),(.t 6),(.t 7)]),oo 9 (cc .lss 8 0),om 4 9]) (.ret))
theorem k54 : zar Tryz.prog 54 10 c54 [.t 4] := fk Tryz.func54 ⟨tv,⟨tv,tv⟩⟩
attribute [local irreducible] Go.Sx.zaf Go.Sx.zas zlM
abbrev MTS : zaj := ⟨HR, List Int, inferInstance, false, [.bool, .int .i64], HR.pv, fun ⟨_, _⟩ => rfl, fun ⟨a, b⟩ ⟨c, d⟩ h => by simp only [HR.pv, List.cons.injEq, PV.bool.injEq, PV.int.injEq] at h; simp [h.1, h.2.1.2], true, fun l => [.sl 1 (l.map ipv)], []⟩
abbrev TM := List (HR × List Int)
def okT (r : HR) (es : TM) : Prop := srt (zaf MTS r es) /\ List.length (zaf MTS r es) <= 1000000
abbrev aft (es : TM) (r : HR) (i : Int) : Int := zlM (zaf MTS r es) i
def zbB (us ds : TM) (r : HR) (i : Int) : Int := if aft us r i < 0 then -1 else if 0 <= aft ds r i /\ aft ds r i < aft us r i then -1 else aft us r i
theorem zCR {us ds : TM} {r : HR} {i : Int} (h : aft us r i < 0) : zbB us ds r i = -1 := by unfold zbB; rw [if_pos h]
theorem zCS {us ds : TM} {r : HR} {i : Int} (h : ¬ aft us r i < 0) (h2 : 0 <= aft ds r i) (h3 : aft ds r i < aft us r i) : zbB us ds r i = -1 := by unfold zbB; rw [if_neg h, if_pos ⟨h2, h3⟩]
theorem zwP {us ds : TM} {r : HR} {i : Int} (h : ¬ aft us r i < 0) (h2 : ¬ (0 <= aft ds r i /\ aft ds r i < aft us r i)) : zbB us ds r i = aft us r i := by unfold zbB; rw [if_neg h, if_neg h2]
noncomputable def L55 (us : TM) (ds : TM) (r : HR) (i : Int) : zaa := ⟨[.agg [.mp 0, .mp 1], .agg r.cells, kz i], [.map MTS us none, .map MTS ds none], [some (.map MTS us none), some (.map MTS ds none)], [], kz (zbB us ds r i)⟩
set_option maxHeartbeats 2000000 in
theorem s55 (us : TM) (ds : TM) (r : HR) (i : Int) (hp : okT r us /\ okT r ds) : zaa.ok Tryz.prog GG 55 (L55 us ds r i) := by
 refine zad mix k55 _ rfl rfl (Tab.ok (l := [(98, S98)]) ⟨t98, trivial⟩) noL noJ ?_
 repeat' ((conv => whnf); first
  | exact trivial
  | with_reducible first | refine aj ?_ | refine ai rfl ?_ | refine ai ⟨rfl, rfl⟩ ?_
  | ((with_reducible refine ai ?_ ?_); focus exact w3)
  | refine And.intro (Sd.mk (p := zaj.one MTS = _ /\ _) ⟨rfl, rfl⟩) ?_
  | refine And.intro (Sd.mk (p := zaj.vone MTS = _ /\ _) ⟨rfl, rfl⟩) ?_
  | refine exI (x := MTS) trivial ?_
  | apply exI (x := ULift.up (HR.mk _ _)) trivial
  | with_reducible first | refine And.intro (Sd.mk (p := srt _ /\ _ <= 1000000) hp.1) ?_ | refine And.intro (Sd.mk (p := srt _ /\ _ <= 1000000) hp.2) ?_ | refine And.intro ?_ ?_ | refine zae ?_ | refine exI (i64_in (by omega) (by omega)) ?_
  | refine exI (x := ULift.up _) (Eq.refl _) ?_
  | refine exI (x := ULift.up _) ⟨rfl, by omega, Eq.refl _⟩ ?_
  | exact nx
  | ((with_reducible intro h); try dsimp only at h))
 all_goals (refine Sd.mk ?_)
 all_goals (try simp only [HR.eta] at *)
 all_goals first
  | exact hp.1
  | exact hp.2
  | exact zCR ‹_›
  | exact zCS ‹_› ‹_› ‹_›
  | exact zwP ‹_› (fun ⟨_, h⟩ => absurd h ‹_›)
  | exact zwP ‹_› (fun ⟨h, _⟩ => absurd h ‹_›)
noncomputable def S55 : SFn
 | [.agg [.mp p, .mp q], a1, .int .i64 i], k => zbh MTS p fun us => zbh MTS q fun ds => zgO a1 fun r => .req (okT r us /\ okT r ds) (k (L55 us ds r i))
 | _, _ => .fail
theorem t55 : FnS Tryz.prog GG 55 S55 := by
 intro args k gt go R v os n h
 unfold S55 at h
 split at h
 . obtain ⟨us, _, h⟩ := zaP h
   obtain ⟨ds, _, h⟩ := zaP h
   obtain ⟨r, _, h⟩ := zd0 h
   obtain ⟨hp, _, h⟩ := zaz h
   exact ⟨_, _, s55 us ds r _ hp, h⟩
 . cases h
noncomputable def L54 (us : TM) (ds : TM) (r : HR) (i : Int) : zaa := ⟨[.agg r.cells, .ptr 0 0 0, .ptr 1 0 0], [.row [.mp 2, .mp 3], .row [kz i], .map MTS us none, .map MTS ds none], [some (.row [.mp 2, .mp 3]), some (.row [kz i]), some (.map MTS us none), some (.map MTS ds none)], [], .bool (decide (zbB us ds r i < 0))⟩
set_option maxHeartbeats 2000000 in
theorem s54 (us : TM) (ds : TM) (r : HR) (i : Int) (hp : okT r us /\ okT r ds) : zaa.ok Tryz.prog GG 54 (L54 us ds r i) := by
 refine zad mix k54 _ rfl rfl (Tab.ok (l := [(55, S55)]) ⟨t55, trivial⟩) noL noJ ?_
 repeat' ((conv => whnf); first
  | exact trivial
  | with_reducible first | refine aj ?_ | refine ai rfl ?_ | refine ai ⟨rfl, rfl⟩ ?_
  | ((with_reducible refine ai ?_ ?_); focus exact w3)
  | refine And.intro (Sd.mk (p := zaj.one MTS = _ /\ _) ⟨rfl, rfl⟩) ?_
  | refine And.intro (Sd.mk (p := zaj.vone MTS = _ /\ _) ⟨rfl, rfl⟩) ?_
  | refine exI (x := MTS) trivial ?_
  | apply exI (x := ULift.up (HR.mk _ _)) trivial
  | with_reducible first | refine And.intro (Sd.mk (p := srt _ /\ _ <= 1000000) hp.1) ?_ | refine And.intro (Sd.mk (p := srt _ /\ _ <= 1000000) hp.2) ?_ | refine And.intro (Sd.mk (p := okT _ _ /\ okT _ _) hp) ?_ | refine And.intro ?_ ?_ | refine zae ?_ | refine exI (i64_in (by omega) (by omega)) ?_
  | refine exI (x := ULift.up _) (Eq.refl _) ?_
  | refine exI (x := ULift.up _) ⟨rfl, by omega, Eq.refl _⟩ ?_
  | exact nx
  | ((with_reducible intro h); try dsimp only at h))
 all_goals (refine Sd.mk ?_)
 all_goals (try simp only [HR.eta] at *)
 all_goals first
  | exact hp
noncomputable def S54 : SFn
 | [a0, .ptr p _ _, .ptr q _ _], k => zgO a0 fun r => zbz p fun rp => zbz q fun rq => match rp, rq with
   | .agg [.mp u, .mp d], .agg [.int .i64 i] => zbh MTS u fun us => zbh MTS d fun ds => .req (okT r us /\ okT r ds) (k (L54 us ds r i))
   | _, _ => .fail
 | _, _ => .fail
theorem t54 : FnS Tryz.prog GG 54 S54 := by
 intro args k gt go R v os n h
 unfold S54 at h
 split at h
 . obtain ⟨r, _, h⟩ := zd0 h
   obtain ⟨_, _, h⟩ := zaX h
   obtain ⟨_, _, h⟩ := zaX h
   split at h
   . obtain ⟨us, _, h⟩ := zaP h
     obtain ⟨ds, _, h⟩ := zaP h
     obtain ⟨hp, _, h⟩ := zaz h
     exact ⟨_, _, s54 us ds r _ hp, h⟩
   . cases h
 . cases h
end
section
set_option maxHeartbeats 8000000 in
theorem zxq (nm : ByteArray) (ru : Int) (fl : Int) (x : HI) (h : fl ∈ [0, 9, 24, 31, 57, 120, 136, 140, 144, 148, 264, 281, 284, 308, 377, 384, 388, 400, 432, 896, 912, 2072, 2184, 2328, 3080, 4120, 4240, 4248, 6168, 6169, 6328, 8496, 12345, 14393, 26744]) : zaa.ok Tryz.prog GG 106 (zp0 ⟨nm, fl, ru⟩ x) := by
 simp only [List.mem_cons, List.not_mem_nil, or_false] at h
 rcases h with rfl | rfl | rfl | rfl | rfl | rfl | rfl | rfl | rfl | rfl | rfl | rfl | rfl | rfl | rfl | rfl | rfl | rfl | rfl | rfl | rfl | rfl | rfl | rfl | rfl | rfl | rfl | rfl | rfl | rfl | rfl | rfl | rfl | rfl | rfl
 all_goals
  refine zad mix zBK _ rfl rfl (Tab.ok (l := [(81, zqA), (135, zp9)]) ⟨zEJ, zEi, trivial⟩) (fun _ => .rounds 9) noJ ?_
  repeat' ((conv => whnf); first
   | exact trivial
   | with_reducible refine And.intro (Sd.mk (by with_reducible rfl)) ?_
   | with_reducible refine And.intro (Sd.mk ⟨by with_reducible rfl, by with_reducible rfl⟩) ?_
   | with_reducible refine And.intro (Sd.mk (show zbH _ _ = true by kernel_rfl)) ?_
   | with_reducible refine And.intro (Sd.mk rfl) ?_
   | with_reducible refine And.intro (Sd.mk ⟨rfl, rfl⟩) ?_
   | with_reducible refine And.intro (Sd.mk (by decide)) ?_
   | with_reducible refine And.intro (Sd.mk (by omega)) ?_
   | with_reducible refine And.intro ?_ ?_
   | with_reducible refine zae ?_
   | with_reducible intro _)
  all_goals exact ⟨by kernel_rfl⟩
theorem zme (op : Int) : (zbd op).1.fields ∈ [0, 9, 24, 31, 57, 120, 136, 140, 144, 148, 264, 281, 284, 308, 377, 384, 388, 400, 432, 896, 912, 2072, 2184, 2328, 3080, 4120, 4240, 4248, 6168, 6169, 6328, 8496, 12345, 14393, 26744] := by
 unfold zbd
 split
 . decide
 . have : op.toNat < 46 := by omega
   have h : ∀ n < 46, (zc3.getD n ⟨⟨#[]⟩, 0, 0⟩).fields ∈ [0, 9, 24, 31, 57, 120, 136, 140, 144, 148, 264, 281, 284, 308, 377, 384, 388, 400, 432, 896, 912, 2072, 2184, 2328, 3080, 4120, 4240, 4248, 6168, 6169, 6328, 8496, 12345, 14393, 26744] := by decide
   exact h _ this
theorem zC2 (op : Int) (x : HI) : zaa.ok Tryz.prog GG 106 (zp0 (zbd op).1 x) := zxq _ _ _ x (zme op)
noncomputable def zp2 : SFn
 | [a0, a1], k => ziH a0 fun f => zdh a1 fun x => .req (∃ op, f = (zbd op).1) (k (zp0 f x))
 | _, _ => .fail
theorem zEb : FnS Tryz.prog GG 106 zp2 := by
 intro args k gt go R v os n h
 unfold zp2 at h
 split at h
 . obtain ⟨f, _, h⟩ := zfv h
   obtain ⟨x, _, h⟩ := zbp h
   obtain ⟨⟨op, rfl⟩, _, h⟩ := zaz h
   exact ⟨_, _, zC2 op x, h⟩
 . cases h
end
section
def zBe : MC := .seq (.reg [oo 2 (.mv (ki 0))]) (.seq (.seq (.reg [om 3 0]) (.blk 0 (.seq (.seq (.reg [oo 5 (cc .eql 3 1),om 4 5]) (.cond (.t 4) (.skip) (.reg [oo 6 (cc .eql 3 8),om 4 6]))) (.cond (.t 4) (.seq (.reg [oo 2 (.mv (ki 1))]) (.ret)) (.seq (.reg [oo 8 (cc .eql 3 16),om 7 8]) (.cond (.t 7) (.seq (.reg [oo 2 (.mv (ki 2))]) (.ret)) (.seq (.reg [oo 10 (cc .eql 3 32),om 9 10]) (.cond (.t 9) (.seq (.reg [oo 2 (.mv (ki 4))]) (.ret)) (.seq (.reg [oo 12 (cc .eql 3 128),om 11 12]) (.cond (.t 11) (.seq (.reg [oo 2 (.mv (ki 16))]) (.ret)) (.skip))))))))))) (.seq (.reg [oo 2 (.mv (ki 0))]) (.ret)))
theorem zCq : zar Tryz.prog 219 13 zBe [.t 2] := fk Tryz.func219 ⟨tv,⟨⟨tv,⟨⟨tv,⟨tv,tv⟩⟩,⟨⟨tv,tv⟩,⟨tv,⟨⟨tv,tv⟩,⟨tv,⟨⟨tv,tv⟩,⟨tv,⟨⟨tv,tv⟩,tv⟩⟩⟩⟩⟩⟩⟩⟩⟩,⟨tv,tv⟩⟩⟩
def zA7 : MC := .seq (.reg [oo 2 (.mv kf)]) (.seq (.reg [om 3 0,oo 4 (cc .neq 3 1),sm 5 4,mt 5 6 0,gt_ 5 7 (fc 219 [(.t 6)]),gt_ 5 8 (cc .gtr 7 0),oo 9 (pf 5 8),om 2 9]) (.ret))
theorem zCl : zar Tryz.prog 197 10 zA7 [.t 2] := fk Tryz.func197 ⟨tv,⟨tv,tv⟩⟩
def zA5 : MC := .seq (.reg [oo 4 (.mv kf)]) (.seq (.reg [om 6 1,oo 7 (fc 219 [(.t 6)]),om 5 7]) (.seq (.reg [om 8 1,oo 9 (fc 197 [(.t 8)]),sm 10 9,mt 10 11 0,gt_ 10 12 (cc .geq 11 0),oo 13 (pf 10 12),sm 14 13,mt 14 15 0,mt 14 16 5,gt_ 14 17 (at_ .rem 15 16),gt_ 14 18 (cc .eql 17 0),oo 19 (pf 14 18),sm 20 19,mt 20 21 0,mt 20 22 5,gt_ 20 23 (.ar .sub (ki 672) (.t 22)),gt_ 20 24 (ct .leq 21 23),oo 25 (pf 20 24),om 4 25]) (.ret)))
theorem zCj : zar Tryz.prog 194 26 zA5 [.t 4] := fk Tryz.func194 ⟨tv,⟨tv,⟨tv,tv⟩⟩⟩
def zA4 : MC := .seq (.reg [oo 4 (.mv (ki 0))]) (.seq (.seq (.reg [om 5 0,oo 6 (.not (.t 5)),sm 7 6,mf 7 8 1,gf 7 9 (fc 219 [(.t 8)]),gf 7 10 (cc .eql 9 0),oo 11 (pt 7 10)]) (.cond (.t 11) (.seq (.reg [oo 4 (.mv (ki 0))]) (.ret)) (.skip))) (.seq (.reg [om 12 1,om 4 12]) (.ret)))
theorem zCi : zar Tryz.prog 193 13 zA4 [.t 4] := fk Tryz.func193 ⟨tv,⟨⟨tv,⟨⟨tv,tv⟩,tv⟩⟩,⟨tv,tv⟩⟩⟩
def zdR (ty : Int) : Int := if ty = 1 \/ ty = 8 then 1 else if ty = 16 then 2 else if ty = 32 then 4 else if ty = 128 then 16 else 0
def zin (ty : Int) : Bool := decide (ty ≠ 1 /\ 0 < zdR ty)
def zjs (off ty : Int) : Bool := decide (zin ty = true /\ 0 <= off /\ off.tmod (zdR ty) = 0 /\ off <= 672 - zdR ty)
def zie (is : Bool) (ty : Int) : Int := if is = true /\ zdR ty ≠ 0 then ty else 0
theorem zit (ty : Int) : 0 <= zdR ty /\ zdR ty <= 16 := by
 unfold zdR; repeat' split
 all_goals omega
def zu8 (ty : Int) : zaa := ⟨[kz ty], [], [], [], kz (zdR ty)⟩
theorem zDN (ty : Int) : zaa.ok Tryz.prog GG 219 (zu8 ty) := by
 refine zad mix zCq _ rfl rfl (Tab.ok (l := []) trivial) noL noJ ?_
 repeat' ((conv => whnf); first
  | exact trivial
  | with_reducible first | refine ai (by with_reducible rfl) ?_ | refine ai ⟨by with_reducible rfl, by with_reducible rfl⟩ ?_ | refine ai (show zbH _ _ = true by kernel_rfl) ?_ | refine ai rfl ?_ | refine ai ⟨rfl, rfl⟩ ?_ | refine ai (by decide) ?_ | refine ai (by omega) ?_ | refine And.intro ?_ ?_ | refine zae ?_ | refine exI (i64_in (by omega) (by omega)) ?_
  | (with_reducible intro h; exact absurd h (by decide))
  | with_reducible intro _)
 all_goals (refine Sd.mk ?_; unfold zdR; grind)
noncomputable def zj2 : SFn
 | [a0], k => asI a0 fun ty => k (zu8 ty)
 | _, _ => .fail
theorem zoH : FnS Tryz.prog GG 219 zj2 := by
 intro args k gt go R v os n h
 unfold zj2 at h
 split at h
 . obtain ⟨ty, _, h⟩ := zaU h
   exact ⟨_, _, zDN ty, h⟩
 . cases h
def zu1 (ty : Int) : zaa := ⟨[kz ty], [], [], [], .bool (zin ty)⟩
theorem zDG (ty : Int) : zaa.ok Tryz.prog GG 197 (zu1 ty) := by
 refine zad mix zCl _ rfl rfl (Tab.ok (l := [(219, zj2)]) ⟨zoH, trivial⟩) noL noJ ?_
 repeat' ((conv => whnf); first
  | exact trivial
  | with_reducible first | refine ai (by with_reducible rfl) ?_ | refine ai ⟨by with_reducible rfl, by with_reducible rfl⟩ ?_ | refine ai (show zbH _ _ = true by kernel_rfl) ?_ | refine ai rfl ?_ | refine ai ⟨rfl, rfl⟩ ?_ | refine ai (by decide) ?_ | refine ai (by omega) ?_ | refine And.intro ?_ ?_ | refine zae ?_ | refine exI (i64_in (by omega) (by omega)) ?_
  | (with_reducible intro h; exact absurd h (by decide))
  | with_reducible intro _)
 all_goals (refine Sd.mk ?_; unfold zin; grind)
noncomputable def zn3 : SFn
 | [a0], k => asI a0 fun ty => k (zu1 ty)
 | _, _ => .fail
theorem zx1 : FnS Tryz.prog GG 197 zn3 := by
 intro args k gt go R v os n h
 unfold zn3 at h
 split at h
 . obtain ⟨ty, _, h⟩ := zaU h
   exact ⟨_, _, zDG ty, h⟩
 . cases h
def zuZ (off : Int) (ty : Int) : zaa := ⟨[kz off, kz ty], [], [], [], .bool (zjs off ty)⟩
theorem zDE (off : Int) (ty : Int) : zaa.ok Tryz.prog GG 194 (zuZ off ty) := by
 refine zad mix zCj _ rfl rfl (Tab.ok (l := [(219, zj2), (197, zn3)]) ⟨zoH, zx1, trivial⟩) noL noJ ?_
 repeat' ((conv => whnf); first
  | exact trivial
  | with_reducible first | refine ai (by with_reducible rfl) ?_ | refine ai ⟨by with_reducible rfl, by with_reducible rfl⟩ ?_ | refine ai (show zbH _ _ = true by kernel_rfl) ?_ | refine ai rfl ?_ | refine ai ⟨rfl, rfl⟩ ?_ | refine ai (by decide) ?_ | refine ai (by omega) ?_ | refine And.intro ?_ ?_ | refine zae ?_ | refine exI (i64_in (by omega) (by omega)) ?_
  | (with_reducible intro h; exact absurd h (by decide))
  | with_reducible first | refine ai (by simp only [zin] at *; grind) ?_ | refine exI (i64_in (by have := zit ty; omega) (by have := zit ty; omega)) ?_
  | with_reducible intro _)
 all_goals (refine Sd.mk ?_; simp only [zjs, zin] at *; grind)
noncomputable def zn1 : SFn
 | [a0, a1], k => asI a0 fun off => asI a1 fun ty => k (zuZ off ty)
 | _, _ => .fail
theorem zxZ : FnS Tryz.prog GG 194 zn1 := by
 intro args k gt go R v os n h
 unfold zn1 at h
 split at h
 . obtain ⟨off, _, h⟩ := zaU h
   obtain ⟨ty, _, h⟩ := zaU h
   exact ⟨_, _, zDE off ty, h⟩
 . cases h
def zuY (is : Bool) (ty : Int) : zaa := ⟨[.bool is, kz ty], [], [], [], kz (zie is ty)⟩
theorem zDD (is : Bool) (ty : Int) : zaa.ok Tryz.prog GG 193 (zuY is ty) := by
 refine zad mix zCi _ rfl rfl (Tab.ok (l := [(219, zj2)]) ⟨zoH, trivial⟩) noL noJ ?_
 repeat' ((conv => whnf); first
  | exact trivial
  | with_reducible first | refine ai (by with_reducible rfl) ?_ | refine ai ⟨by with_reducible rfl, by with_reducible rfl⟩ ?_ | refine ai (show zbH _ _ = true by kernel_rfl) ?_ | refine ai rfl ?_ | refine ai ⟨rfl, rfl⟩ ?_ | refine ai (by decide) ?_ | refine ai (by omega) ?_ | refine And.intro ?_ ?_ | refine zae ?_ | refine exI (i64_in (by omega) (by omega)) ?_
  | (with_reducible intro h; exact absurd h (by decide))
  | with_reducible intro _)
 all_goals (refine Sd.mk ?_; unfold zie; grind)
noncomputable def zlK : SFn
 | [a0, a1], k => asB a0 fun is => asI a1 fun ty => k (zuY is ty)
 | _, _ => .fail
theorem zr2 : FnS Tryz.prog GG 193 zlK := by
 intro args k gt go R v os n h
 unfold zlK at h
 split at h
 . obtain ⟨is, _, h⟩ := zh4 h
   obtain ⟨ty, _, h⟩ := zaU h
   exact ⟨_, _, zDD is ty, h⟩
 . cases h
end
section
def zA6 : MC := .seq (.reg [oo 2 (.box (.t 0)),oo 4 (.mv (ki 0))]) (.seq (.reg [oo 5 (.mv kf)]) (.seq (.seq (.reg [oo 6 (fl 2 2),oo 7 (ln 6)]) (.blk 0 (.seq (.reg [oo 9 (cc .eql 7 1),om 8 9]) (.cond (.t 8) (.reg [oo 10 (fl 1 2),oo 11 (ln 10),om 12 1,oo 13 (ct .eql 11 12),om 5 13]) (.seq (.seq (.reg [oo 15 (cc .eql 7 2),om 14 15]) (.cond (.t 14) (.skip) (.reg [oo 16 (cc .eql 7 3),om 14 16]))) (.cond (.t 14) (.reg [oo 17 (fl 1 2),oo 18 (ln 17),oo 19 (cc .eql 18 32),sm 20 19,mt 20 21 1,gt_ 20 22 (cc .lss 21 32),oo 23 (pf 20 22),om 5 23]) (.seq (.reg [oo 25 (cc .eql 7 4),om 24 25]) (.cond (.t 24) (.reg [om 26 1,oo 27 (cc .eql 26 32),sm 28 27,gt_ 28 29 (fl 1 2),gt_ 28 30 (ln 29),gt_ 28 31 (cc .eql 30 8),ogs 28 true (some 32) (.mv (.t 31)),gf 32 33 (fl 1 2),gf 32 34 (ln 33),gf 32 35 (cc .eql 34 16),gt_ 28 36 (pt 32 35),oo 37 (pf 28 36),om 5 37]) (.seq (.reg [oo 39 (cc .eql 7 5),om 38 39]) (.cond (.t 38) (.reg [oo 40 (fl 1 2),oo 41 (ln 40),oo 42 (cc .eql 41 1),om 5 42]) (.seq (.reg [oo 44 (cc .eql 7 6),om 43 44]) (.cond (.t 43) (.reg [om 45 1,oo 46 (cc .eql 45 1),sm 47 46,gt_ 47 48 (fl 1 2),gt_ 47 49 (ln 48),gt_ 47 50 (fc 197 [(.t 49)]),oo 51 (pf 47 50),om 5 51]) (.seq (.reg [oo 53 (cc .eql 7 7),om 52 53]) (.cond (.t 52) (.reg [om 54 1,oo 55 (cc .eql 54 32),sm 56 55,gt_ 56 57 (fl 1 2),gt_ 56 58 (ln 57),gt_ 56 59 (cc .eql 58 32),oo 60 (pf 56 59),om 5 60]) (.seq (.seq (.reg [oo 62 (cc .eql 7 8),om 61 62]) (.cond (.t 61) (.skip) (.seq (.reg [oo 63 (cc .eql 7 9),om 61 63]) (.cond (.t 61) (.skip) (.reg [oo 64 (cc .eql 7 10),om 61 64]))))) (.cond (.t 61) (.reg [om 65 1,oo 66 (cc .eql 65 128),sm 67 66,gt_ 67 68 (fl 1 2),gt_ 67 69 (ln 68),gt_ 67 70 (cc .eql 69 128),oo 71 (pf 67 70),om 5 71]) (.seq (.reg [oo 73 (cc .eql 7 11),om 72 73]) (.cond (.t 72) (.reg [om 74 1,oo 75 (cc .eql 74 32),sm 76 75,gt_ 76 77 (fl 1 2),gt_ 76 78 (ln 77),gt_ 76 79 (cc .eql 78 128),oo 80 (pf 76 79),om 5 80]) (.seq (.reg [oo 82 (cc .eql 7 12),om 81 82]) (.cond (.t 81) (.seq (.reg [oo 83 (fl 3 2),oo 84 (ln 83),oo 85 (cc .geq 84 0),sm 86 85,gt_ 86 87 (fl 3 2),gt_ 86 88 (ln 87),gt_ 86 89 (cc .lss 88 4),oo 90 (pf 86 89),sm 91 90,mt 91 92 1,gt_ 91 93 (cc .eql 92 128),oo 94 (pf 91 93),sm 95 94,gt_ 95 96 (fl 1 2),gt_ 95 97 (ln 96),gt_ 95 98 (cc .eql 97 32),oo 99 (pf 95 98),oo 100 (fl 1 2),oo 101 (ln 100),oo 102 (fc 193 [(.t 99),(.t 101)]),om 4 102]) (.ret)) (.seq (.reg [oo 104 (cc .eql 7 13),om 103 104]) (.cond (.t 103) (.reg [om 105 1,oo 106 (cc .eql 105 128),sm 107 106,gt_ 107 108 (fl 1 2),gt_ 107 109 (ln 108),gt_ 107 110 (cc .eql 109 32),oo 111 (pf 107 110),om 5 111]) (.skip))))))))))))))))))))))) (.seq (.reg [om 112 5,sm 113 112,gt_ 113 114 (fl 3 2),gt_ 113 115 (ln 114),gt_ 113 116 (cc .eql 115 0),oo 117 (pf 113 116),oo 118 (fl 1 2),oo 119 (ln 118),oo 120 (fc 193 [(.t 117),(.t 119)]),om 4 120]) (.ret))))
theorem zCk : zar Tryz.prog 195 121 zA6 [.t 4] := fk Tryz.func195 ⟨tv,⟨tv,⟨⟨tv,⟨tv,⟨tv,⟨⟨tv,⟨tv,tv⟩⟩,⟨tv,⟨tv,⟨tv,⟨tv,⟨tv,⟨tv,⟨tv,⟨tv,⟨tv,⟨⟨tv,⟨tv,⟨tv,⟨tv,tv⟩⟩⟩⟩,⟨tv,⟨tv,⟨tv,⟨tv,⟨⟨tv,tv⟩,⟨tv,⟨tv,tv⟩⟩⟩⟩⟩⟩⟩⟩⟩⟩⟩⟩⟩⟩⟩⟩⟩⟩⟩⟩⟩,⟨tv,tv⟩⟩⟩⟩
def zBc : MC := .seq (.reg [oo 3 (.box (.t 1)),oo 4 (.mv (ki 0))]) (.seq (.seq (.reg [oo 5 (fl 0 3),oo 6 (ln 5),oo 7 (cc .geq 6 0)]) (.cond (.t 7) (.seq (.seq (.reg [oo 8 (fl 0 3),oo 9 (ln 8),om 10 0,oo 11 (.lenS (.t 10)),oo 12 (ct .geq 9 11),sm 13 12,gf 13 14 (fl 1 3),gf 13 15 (ln 14),gf 13 16 (cc .neq 15 0),oo 17 (pt 13 16),sm 18 17,gf 18 19 (fl 2 3),gf 18 20 (ls 4 19),gf 18 21 (.bld [(.int .u32 0),(.int .u32 0),(.int .u32 0),(.int .u32 0)] []),gf 18 22 (.eqs [.int .u32,.int .u32,.int .u32,.int .u32] true (.t 20) (.t 21)),oo 23 (pt 18 22),sm 24 23,mf 24 25 0,gf 24 26 (fl 0 3),gf 24 27 (ln 26),gf 24 28 (ia 1 25 27),gf 24 29 (ln 28),gf 24 30 (fc 219 [(.t 29)]),gf 24 31 (cc .eql 30 0),oo 32 (pt 24 31)]) (.cond (.t 32) (.seq (.reg [oo 4 (.mv (ki 0))]) (.ret)) (.skip))) (.seq (.reg [om 33 0,oo 34 (fl 0 3),oo 35 (ln 34),oo 36 (ia 1 33 35),oo 37 (ln 36),om 4 37]) (.ret))) (.skip))) (.seq (.seq (.reg [oo 38 (fl 0 3),oo 39 (ln 38),oo 40 (.cmp .neq (.t 39) (ki (-1))),sm 41 40,gf 41 42 (fl 1 3),gf 41 43 (ln 42),gf 41 44 (fc 219 [(.t 43)]),gf 41 45 (cc .eql 44 0),oo 46 (pt 41 45),sm 47 46,gf 47 48 (fl 1 3),gf 47 49 (ln 48),gf 47 50 (cc .lss 49 128),ogs 47 false (some 51) (.mv (.t 50)),gt_ 51 52 (fl 2 3),gt_ 51 53 (.ixr 4 1 (.t 52) (ki 1)),gt_ 51 54 (ln 53),gt_ 51 55 (.cmp .neq (.t 54) (.k (.int .u32 0))),ogs 51 true (some 56) (.mv (.t 55)),gf 56 57 (fl 2 3),gf 56 58 (.ixr 4 1 (.t 57) (ki 2)),gf 56 59 (ln 58),gf 56 60 (.cmp .neq (.t 59) (.k (.int .u32 0))),gt_ 51 61 (pt 56 60),ogs 51 true (some 62) (.mv (.t 61)),gf 62 63 (fl 2 3),gf 62 64 (.ixr 4 1 (.t 63) (ki 3)),gf 62 65 (ln 64),gf 62 66 (.cmp .neq (.t 65) (.k (.int .u32 0))),gt_ 51 67 (pt 62 66),ogs 51 true (some 68) (.mv (.t 67)),gf 68 69 (fl 2 3),gf 68 70 (.ixr 4 1 (.t 69) (ki 0)),gf 68 71 (ln 70),gf 68 72 (.cv .u64 (.t 71)),gf 68 73 (fl 1 3),gf 68 74 (ln 73),gf 68 75 (at_ .shr 72 74),gf 68 76 (.cmp .neq (.t 75) (.k (.int .u64 0))),gt_ 51 77 (pt 68 76),gf 47 78 (pf 51 77),oo 79 (pt 47 78)]) (.cond (.t 79) (.seq (.reg [oo 4 (.mv (ki 0))]) (.ret)) (.skip))) (.seq (.reg [oo 80 (fl 1 3),oo 81 (ln 80),om 4 81]) (.ret))))
theorem zCp : zar Tryz.prog 217 82 zBc [.t 4] := fk Tryz.func217 ⟨tv,⟨⟨tv,⟨⟨⟨tv,⟨⟨tv,tv⟩,tv⟩⟩,⟨tv,tv⟩⟩,tv⟩⟩,⟨⟨tv,⟨⟨tv,tv⟩,tv⟩⟩,⟨tv,tv⟩⟩⟩⟩
def zBb : MC := .seq (.reg [oo 2 (.box (.t 0)),oo 3 (.mv (ki 0))]) (.seq (.reg [oo 4 (ln 1),oo 5 (ls 6 2),oo 6 (fc 217 [(.t 4),(.t 5)]),om 3 6]) (.ret))
theorem zCo : zar Tryz.prog 216 7 zBb [.t 3] := fk Tryz.func216 ⟨tv,⟨tv,tv⟩⟩
def zx8 (op frm ty : Int) : Bool := decide ((op = 1 /\ ty = frm) \/ ((op = 2 \/ op = 3) /\ ty = 32 /\ frm < 32) \/ (op = 4 /\ frm = 32 /\ (ty = 8 \/ ty = 16)) \/ (op = 5 /\ ty = 1) \/ (op = 6 /\ frm = 1 /\ zin ty = true) ∨
 (op = 7 /\ frm = 32 /\ ty = 32) \/ ((op = 8 \/ op = 9 \/ op = 10) /\ frm = 128 /\ ty = 128) \/ (op = 11 /\ frm = 32 /\ ty = 128) \/ (op = 12 /\ frm = 128 /\ ty = 32) \/ (op = 13 /\ frm = 128 /\ ty = 32))
def unF (op frm ty : Int) : Int := zie (zx8 op frm ty) ty
def tyF (frm : Int) : Int := if zdR frm = 0 then 0 else frm
def zsX : List SV := [kz 0, kz 0, ku 0, ku 0, ku 0, ku 0]
def zmU : List PV := [.int .i64 0, .int .i64 0, .int .u32 0, .int .u32 0, .int .u32 0, .int .u32 0]
def zu0 (op : Int) (frm : Int) (ty : Int) : zaa := ⟨[.agg [kz 3, kz ty, kz op, kz 0, .any], kz frm], [], [], [], kz (unF op frm ty)⟩
set_option maxHeartbeats 40000000 in
theorem zDF (op : Int) (frm : Int) (ty : Int) : zaa.ok Tryz.prog GG 195 (zu0 op frm ty) := by
 refine zad mix zCk _ rfl rfl (Tab.ok (l := [(193, zlK), (197, zn3)]) ⟨zr2, zx1, trivial⟩) noL noJ ?_
 repeat' ((conv => whnf); first
  | exact trivial
  | with_reducible first | refine ai (by with_reducible rfl) ?_ | refine ai ⟨by with_reducible rfl, by with_reducible rfl⟩ ?_ | refine ai (show zbH _ _ = true by kernel_rfl) ?_ | refine ai rfl ?_ | refine ai ⟨rfl, rfl⟩ ?_ | refine ai (by decide) ?_ | refine ai (by omega) ?_ | refine And.intro ?_ ?_ | refine zae ?_ | refine exI (i64_in (by omega) (by omega)) ?_
  | (with_reducible intro h; exact absurd h (by decide))
  | with_reducible intro _)
 all_goals (refine Sd.mk ?_; (try simp only [unF, zie, zx8] at *); grind)
noncomputable def zn2 : SFn
 | [.agg [a, b, c, d, _], e], k => asI b fun ty => asI c fun op => asI e fun frm => k (zu0 op frm ty)
 | _, _ => .fail
theorem zx0 : FnS Tryz.prog GG 195 zn2 := by
 intro args k gt go R v os n h
 unfold zn2 at h
 split at h
 . obtain ⟨ty, _, h⟩ := zaU h
   obtain ⟨op, _, h⟩ := zaU h
   obtain ⟨frm, _, h⟩ := zaU h
   exact ⟨_, _, zDF op frm ty, h⟩
 . cases h
def zu6 (frm : Int) : zaa := ⟨[.rd (.sl 1 [ipv frm]), .agg zsX], [], [], [], kz (tyF frm)⟩
theorem zDL (frm : Int) : zaa.ok Tryz.prog GG 217 (zu6 frm) := by
 refine zad mix zCp _ rfl rfl (Tab.ok (l := [(219, zj2)]) ⟨zoH, trivial⟩) noL noJ ?_
 repeat' ((conv => whnf); first
  | exact trivial
  | with_reducible first | refine ai (by with_reducible rfl) ?_ | refine ai ⟨by with_reducible rfl, by with_reducible rfl⟩ ?_ | refine ai (show zbH _ _ = true by kernel_rfl) ?_ | refine ai rfl ?_ | refine ai ⟨rfl, rfl⟩ ?_ | refine ai (by decide) ?_ | refine ai (by omega) ?_ | refine And.intro ?_ ?_ | refine zae ?_ | refine exI (i64_in (by omega) (by omega)) ?_
  | (with_reducible intro h; exact absurd h (by decide))
  | with_reducible refine exI (x := ULift.up _) ⟨rfl, by omega, rfl⟩ ?_
  | with_reducible intro _)
 all_goals (refine Sd.mk ?_; (try simp only [tyF] at *); grind)
noncomputable def zqv : SFn
 | [.rd (.sl _ [[.int .i64 frm]]), _], k => k (zu6 frm)
 | _, _ => .fail
theorem zEE : FnS Tryz.prog GG 217 zqv := by
 intro args k gt go R v os n h
 unfold zqv at h
 split at h
 . exact ⟨_, _, zDL _, h⟩
 . cases h
def zu5 (frm : Int) : zaa := ⟨[.agg zsX, .ptr 0 0 0], [.row [.rd (.sl 1 [ipv frm])]], [some (.row [.rd (.sl 1 [ipv frm])])], [], kz (tyF frm)⟩
theorem zDK (frm : Int) : zaa.ok Tryz.prog GG 216 (zu5 frm) := by
 refine zad mix zCo _ rfl rfl (Tab.ok (l := [(217, zqv)]) ⟨zEE, trivial⟩) noL noJ ?_
 repeat' ((conv => whnf); first
  | exact trivial
  | with_reducible first | refine ai (by with_reducible rfl) ?_ | refine ai ⟨by with_reducible rfl, by with_reducible rfl⟩ ?_ | refine ai (show zbH _ _ = true by kernel_rfl) ?_ | refine ai rfl ?_ | refine ai ⟨rfl, rfl⟩ ?_ | refine ai (by decide) ?_ | refine ai (by omega) ?_ | refine And.intro ?_ ?_ | refine zae ?_ | refine exI (i64_in (by omega) (by omega)) ?_
  | (with_reducible intro h; exact absurd h (by decide))
  | with_reducible intro _)
noncomputable def zn5 : SFn
 | [_, .ptr a _ _], k => zbz a fun r => match r with
   | .agg [.rd (.sl _ [[.int .i64 frm]])] => k (zu5 frm)
   | _ => .fail
 | _, _ => .fail
theorem zx3 : FnS Tryz.prog GG 216 zn5 := by
 intro args k gt go R v os n h
 unfold zn5 at h
 split at h
 . obtain ⟨r, _, h⟩ := zaX h
   split at h
   . exact ⟨_, _, zDK _, h⟩
   . cases h
 . cases h
end
section
def zBa : MC := .seq (.reg [oo 4 (.mv (.k (.val (.slice none 0 0))))]) (.seq (.reg [oo 5 (.mv (.k (.val (.slice none 0 0))))]) (.seq (.seq (.reg [om 8 0,oo 9 (.lenS (.t 8)),oo 10 (.mv (ki 0))]) (.blk 0 (.loop 0 (.seq (.reg [oo 11 (ct .lss 10 9)]) (.seq (.cond (.t 11) (.skip) (.exit 0)) (.seq (.blk 1 (.seq (.reg [oo 12 (ia 6 8 10),oo 13 (ls 6 12),oo 7 (.alloc [(kz 0),(kz 0),(.int .u32 0),(.int .u32 0),(.int .u32 0),(.int .u32 0)]),o none (.st (some 6) (.t 7) (.t 13))]) (.reg [om 14 5,om 15 1,oo 16 (ls 6 7),oo 17 (.call (.t 15) [(.t 16)]),oo 18 (.bsl 1 1 [(kz 0)] [(0,(.t 17))]),oo 19 (.app 1 8 (.t 14) (.t 18)),om 5 19]))) (.reg [oo 20 (ac .add 10 1),om 10 20]))))))) (.seq (.reg [om 21 5,om 4 21]) (.ret))))
theorem zwH : zar Tryz.prog 215 22 zBa [.t 4] := fk Tryz.func215 ⟨tv,⟨tv,⟨⟨tv,⟨tv,⟨⟨tv,tv⟩,⟨⟨tv,tv⟩,tv⟩⟩⟩⟩,⟨tv,tv⟩⟩⟩⟩
def zA2 : MC := .seq (.reg [oo 2 (.box (.t 0)),oo 4 (.mv (.k (.val (.slice none 0 0))))]) (.seq (.reg [om 5 1,oo 6 (.mkf (.func 216) [] [(.t 2)]),oo 7 (fc 215 [(.t 5),(.t 6)]),om 4 7]) (.ret))
theorem zwE : zar Tryz.prog 191 8 zA2 [.t 4] := fk Tryz.func191 ⟨tv,⟨tv,tv⟩⟩
def zBd : MC := .seq (.reg [oo 4 (.mv (ki 0))]) (.seq (.seq (.reg [om 6 0,oo 7 (.lenS (.t 6)),oo 8 (.mv (ki 0))]) (.blk 0 (.loop 0 (.seq (.reg [oo 9 (ct .lss 8 7)]) (.seq (.cond (.t 9) (.skip) (.exit 0)) (.seq (.blk 1 (.seq (.reg [om 10 8,om 5 10]) (.seq (.reg [om 11 1,om 12 0,om 13 5,oo 14 (ia 1 12 13),oo 15 (ln 14),oo 16 (ct .eql 11 15)]) (.cond (.t 16) (.seq (.reg [om 17 5,om 4 17]) (.ret)) (.skip))))) (.reg [oo 18 (ac .add 8 1),om 8 18]))))))) (.seq (.reg [oo 4 (.mv (ki (-1)))]) (.ret)))
theorem zwI : zar Tryz.prog 218 19 zBd [.t 4] := fk Tryz.func218 ⟨tv,⟨⟨tv,⟨tv,⟨⟨tv,tv⟩,⟨⟨tv,⟨tv,⟨⟨tv,tv⟩,tv⟩⟩⟩,tv⟩⟩⟩⟩,⟨tv,tv⟩⟩⟩
def zA3 : MC := .seq (.reg [oo 4 (.mv kf)]) (.seq (.reg [om 5 0,om 6 1,oo 7 (fc 218 [(.t 5),(.t 6)]),oo 8 (cc .geq 7 0),om 4 8]) (.ret))
theorem zwF : zar Tryz.prog 192 9 zA3 [.t 4] := fk Tryz.func192 ⟨tv,⟨tv,tv⟩⟩
def zAX : MC := .seq (.reg [oo 3 (.box (.t 1)),oo 4 (.mv (ki 0))]) (.seq (.reg [om 9 0,oo 10 (fl 4 3),oo 11 (ln 10),oo 12 (fc 191 [(.t 9),(.t 11)]),om 5 12]) (.seq (.seq (.reg [om 13 5,oo 14 (fc 192 [(.t 13),(ki 0)])]) (.cond (.t 14) (.seq (.reg [oo 4 (.mv (ki 0))]) (.ret)) (.skip))) (.seq (.reg [oo 15 (fl 2 3),oo 16 (ln 15),oo 17 (cc .eql 16 0),sm 18 17,gt_ 18 19 (fl 3 3),gt_ 18 20 (ln 19),gt_ 18 21 (cc .eql 20 0),oo 22 (pf 18 21),om 6 22]) (.seq (.blk 0 (.seq (.reg [oo 24 (fl 0 3),oo 25 (ln 24),oo 26 (cc .eql 25 1),sm 27 26,mt 27 28 5,gt_ 27 29 (.lenS (.t 28)),gt_ 27 30 (cc .eql 29 1),oo 31 (pf 27 30),om 23 31]) (.cond (.t 23) (.seq (.drw [om 32 6,sm 33 32,gt_ 33 34 (fl 1 3),gt_ 33 35 (ln 34),mt 33 36 5,gt_ 33 37 (.ixa 1 (.t 36) (ki 0)),gt_ 33 38 (ln 37),gt_ 33 39 (ct .eql 35 38),oo 40 (pf 33 39),oo 41 (fl 1 3),oo 42 (ln 41),oo 43 (fc 193 [(.t 40),(.t 42)]),om 4 43] [[],[0],[1],[2,1],[1],[4,1],[5,1],[3,6,1],[1,7],[],[9],[8,10,1],[11,11,0,1,2,3,4,5,6,7,8,9,10,11]]) (.ret)) (.seq (.reg [oo 45 (fl 0 3),oo 46 (ln 45),oo 47 (cc .eql 46 2),sm 48 47,mt 48 49 5,gt_ 48 50 (.lenS (.t 49)),gt_ 48 51 (cc .eql 50 0),oo 52 (pf 48 51),om 44 52]) (.cond (.t 44) (.seq (.drw [oo 53 (fl 2 3),oo 54 (ln 53),oo 55 (cc .eql 54 0),sm 56 55,gt_ 56 57 (fl 3 3),gt_ 56 58 (ln 57),gt_ 56 59 (fl 1 3),gt_ 56 60 (ln 59),gt_ 56 61 (fc 194 [(.t 58),(.t 60)]),oo 62 (pf 56 61),oo 63 (fl 1 3),oo 64 (ln 63),oo 65 (fc 193 [(.t 62),(.t 64)]),om 4 65] [[],[0],[1],[2],[3],[4,3],[3],[6,3],[5,7,3,3],[3,8],[],[10],[9,11,8],[12,12,0,1,2,3,4,5,6,7,8,9,10,11,12]]) (.ret)) (.seq (.reg [oo 67 (fl 0 3),oo 68 (ln 67),oo 69 (cc .eql 68 3),sm 70 69,mt 70 71 5,gt_ 70 72 (.lenS (.t 71)),gt_ 70 73 (cc .eql 72 1),oo 74 (pf 70 73),om 66 74]) (.cond (.t 66) (.seq (.drw [oo 75 (ls 5 3),om 76 5,oo 77 (.ixa 1 (.t 76) (ki 0)),oo 78 (ln 77),oo 79 (fc 195 [(.t 75),(.t 78)]),om 4 79] [[],[],[1],[2],[0,3],[4,4,0,1,2,3,4]]) (.ret)) (.seq (.reg [oo 81 (fl 0 3),oo 82 (ln 81),oo 83 (cc .eql 82 4),sm 84 83,mt 84 85 5,gt_ 84 86 (.lenS (.t 85)),gt_ 84 87 (cc .eql 86 2),oo 88 (pf 84 87),om 80 88]) (.cond (.t 80) (.seq (.drw [oo 89 (ls 5 3),om 90 5,oo 91 (.ixa 1 (.t 90) (ki 0)),oo 92 (ln 91),om 93 5,oo 94 (.ixa 1 (.t 93) (ki 1)),oo 95 (ln 94),oo 96 (fc 196 [(.t 89),(.t 92),(.t 95)]),om 4 96] [[],[],[1],[2],[],[4],[5],[0,3,6],[7,7,0,1,2,3,4,5,6,7]]) (.ret)) (.seq (.reg [oo 98 (fl 0 3),oo 99 (ln 98),oo 100 (cc .eql 99 5),sm 101 100,gf 101 102 (fl 0 3),gf 101 103 (ln 102),gf 101 104 (cc .eql 103 6),oo 105 (pt 101 104),sm 106 105,mt 106 107 5,gt_ 106 108 (.lenS (.t 107)),gt_ 106 109 (cc .eql 108 1),oo 110 (pf 106 109),om 97 110]) (.cond (.t 97) (.seq (.drw [om 111 6,sm 112 111,mt 112 113 5,gt_ 112 114 (.ixa 1 (.t 113) (ki 0)),gt_ 112 115 (ln 114),gt_ 112 116 (cc .eql 115 32),oo 117 (pf 112 116),sm 118 117,gt_ 118 119 (fl 1 3),gt_ 118 120 (ln 119),gt_ 118 121 (fc 197 [(.t 120)]),oo 122 (pf 118 121),oo 123 (fl 1 3),oo 124 (ln 123),oo 125 (fc 193 [(.t 122),(.t 124)]),om 4 125] [[],[0],[1],[2,1],[3,1],[4,1],[1,5],[6,1],[7],[8,7],[9,7,7],[7,10],[],[12],[11,13,10],[14,14,0,1,2,3,4,5,6,7,8,9,10,11,12,13,14]])
 (.ret)) (.seq (.reg [oo 127 (fl 0 3),oo 128 (ln 127),oo 129 (cc .eql 128 9),sm 130 129,mt 130 131 5,gt_ 130 132 (.lenS (.t 131)),gt_ 130 133 (cc .eql 132 1),oo 134 (pf 130 133),om 126 134]) (.cond (.t 126) (.seq (.reg [om 135 6,sm 136 135,mt 136 137 5,gt_ 136 138 (.ixa 1 (.t 137) (ki 0)),gt_ 136 139 (ln 138),gt_ 136 140 (cc .eql 139 32),oo 141 (pf 136 140),sm 142 141,gt_ 142 143 (fl 1 3),gt_ 142 144 (ln 143),gt_ 142 145 (fc 197 [(.t 144)]),oo 146 (pf 142 145),oo 147 (fc 193 [(.t 146),(ki 32)]),om 4 147]) (.ret)) (.seq (.reg [oo 149 (fl 0 3),oo 150 (ln 149),oo 151 (cc .eql 150 7),sm 152 151,mt 152 153 5,gt_ 152 154 (.lenS (.t 153)),gt_ 152 155 (cc .eql 154 3),oo 156 (pf 152 155),om 148 156]) (.cond (.t 148) (.seq (.drw [om 157 6,sm 158 157,mt 158 159 5,gt_ 158 160 (.ixa 1 (.t 159) (ki 0)),gt_ 158 161 (ln 160),gt_ 158 162 (cc .eql 161 1),oo 163 (pf 158 162),sm 164 163,mt 164 165 5,gt_ 164 166 (.ixa 1 (.t 165) (ki 1)),gt_ 164 167 (ln 166),mt 164 168 5,gt_ 164 169 (.ixa 1 (.t 168) (ki 2)),gt_ 164 170 (ln 169),gt_ 164 171 (ct .eql 167 170),oo 172 (pf 164 171),sm 173 172,gt_ 173 174 (fl 1 3),gt_ 173 175 (ln 174),mt 173 176 5,gt_ 173 177 (.ixa 1 (.t 176) (ki 1)),gt_ 173 178 (ln 177),gt_ 173 179 (ct .eql 175 178),oo 180 (pf 173 179),oo 181 (fl 1 3),oo 182 (ln 181),oo 183 (fc 193 [(.t 180),(.t 182)]),om 4 183] [[],[0],[1],[2,1],[3,1],[4,1],[1,5],[6,1],[7],[8,7],[9,7],[7],[11,7],[12,7],[10,13,7],[7,14],[15,7],[16],[17,16],[16],[19,16],[20,16],[18,21,16],[16,22],[],[24],[23,25,16],[26,26,0,1,2,3,4,5,6,7,8,9,10,11,12,13,14,15,16,17,18,19,20,21,22,23,24,25,26]]) (.ret)) (.seq (.reg [oo 185 (fl 0 3),oo 186 (ln 185),oo 187 (cc .eql 186 8),om 184 187]) (.cond (.t 184) (.seq (.reg [oo 188 (.mkm),o none (.mup true [.int .i64] (.t 188) (ki 1) (ki 4)),o none (.mup true [.int .i64] (.t 188) (ki 2) (ki 5)),om 189 188,oo 190 (fl 2 3),oo 191 (ln 190),oo 192 (.lkp false true [.int .i64] true [.int .i64 0] (.t 189) (.t 191)),om 7 192]) (.seq (.reg [om 193 5,oo 194 (fc 77 [(.t 193),(.k (.fn (.func 198) [] []))]),oo 195 (.not (.t 194)),om 8 195]) (.seq (.reg [om 196 7,oo 197 (cc .gtr 196 0),sm 198 197,mt 198 199 5,gt_ 198 200 (.lenS (.t 199)),mt 198 201 7,gt_ 198 202 (ct .eql 200 201),oo 203 (pf 198 202),sm 204 203,mt 204 205 8,oo 206 (pf 204 205),sm 207 206,gt_ 207 208 (fl 3 3),gt_ 207 209 (ln 208),gt_ 207 210 (cc .eql 209 0),oo 211 (pf 207 210),sm 212 211,gt_ 212 213 (fl 1 3),gt_ 212 214 (ln 213),gt_ 212 215 (cc .eql 214 32),oo 216 (pf 212 215),oo 217 (fl 1 3),oo 218 (ln 217),oo 219 (fc 193 [(.t 216),(.t 218)]),om 4 219]) (.ret)))) (.skip)))))))))))))))))) (.seq (.reg [oo 4 (.mv (ki 0))]) (.ret))))))
theorem zwD : zar Tryz.prog 173 220 zAX [.t 4] := fk Tryz.func173 ⟨tv,⟨tv,⟨⟨tv,⟨⟨tv,tv⟩,tv⟩⟩,⟨tv,⟨⟨tv,⟨⟨tv,tv⟩,⟨tv,⟨⟨tv,tv⟩,⟨tv,⟨⟨tv,tv⟩,⟨tv,⟨⟨tv,tv⟩,⟨tv,⟨⟨tv,tv⟩,⟨tv,⟨⟨tv,tv⟩,⟨tv,⟨⟨tv,tv⟩,⟨tv,⟨⟨tv,⟨tv,⟨tv,tv⟩⟩⟩,tv⟩⟩⟩⟩⟩⟩⟩⟩⟩⟩⟩⟩⟩⟩⟩⟩,⟨tv,tv⟩⟩⟩⟩⟩⟩
def zu4 (frm : Int) : zaa := ⟨[.rd (.sl 6 [zmU]), .fn (.func 216) [] [.ptr 0 0 0]], [.row [.rd (.sl 1 [ipv frm])]], [some (.row [.rd (.sl 1 [ipv frm])])], [.vec 1 [ipv (tyF frm)]], .slc 1 0 1⟩
theorem zDJ (frm : Int) : zaa.ok Tryz.prog GG 215 (zu4 frm) := by
 refine zad mix zwH _ rfl rfl (Tab.ok (l := [(216, zn5)]) ⟨zx3, trivial⟩) (fun _ => .rounds 3) noJ ?_
 repeat' ((conv => whnf); first
  | exact trivial
  | with_reducible first | refine aj ?_ | refine ai rfl ?_ | refine ai ⟨rfl, rfl⟩ ?_
  | ((with_reducible refine ai ?_ ?_); first | focus (exact ⟨trivial, trivial, trivial⟩) | focus (simp [zai.len]; done))
  | with_reducible first | refine And.intro ?_ ?_ | refine zae ?_ | refine exI (i64_in (by omega) (by omega)) ?_
  | refine exI (x := ULift.up _) (Eq.refl _) ?_
  | refine exI (x := ULift.up _) ⟨rfl, by omega, Eq.refl _⟩ ?_
  | ((with_reducible intro h); first | exact absurd h (by decide) | (exfalso; revert h; simp; done))
  | with_reducible refine exI (x := ULift.up _) ⟨rfl, by omega, rfl⟩ ?_
  | with_reducible intro _)
def zsh  : zaa := ⟨[.val (.slice none 0 0), .fn (.func 216) [] [.ptr 0 0 0]], [.row [.val (.slice none 0 0)]], [some (.row [.val (.slice none 0 0)])], [], .val (.slice none 0 0)⟩
theorem zzs  : zaa.ok Tryz.prog GG 215 (zsh ) := by
 refine zad mix zwH _ rfl rfl (Tab.ok (l := [(216, zn5)]) ⟨zx3, trivial⟩) (fun _ => .rounds 3) noJ ?_
 repeat' ((conv => whnf); first
  | exact trivial
  | with_reducible first | refine aj ?_ | refine ai rfl ?_ | refine ai ⟨rfl, rfl⟩ ?_
  | ((with_reducible refine ai ?_ ?_); first | focus (exact ⟨trivial, trivial, trivial⟩) | focus (simp [zai.len]; done))
  | with_reducible first | refine And.intro ?_ ?_ | refine zae ?_ | refine exI (i64_in (by omega) (by omega)) ?_
  | refine exI (x := ULift.up _) (Eq.refl _) ?_
  | refine exI (x := ULift.up _) ⟨rfl, by omega, Eq.refl _⟩ ?_
  | ((with_reducible intro h); first | exact absurd h (by decide) | (exfalso; revert h; simp; done))
  | with_reducible intro _)
noncomputable def zn4 : SFn
 | [a0, .fn _ _ [.ptr p _ _]], k => zcX a0 fun l => match l with
   | [] => k zsh
   | _ => zbz p fun r => match r with
     | .agg [.rd (.sl _ [[.int .i64 frm]])] => k (zu4 frm)
     | _ => .fail
 | _, _ => .fail
theorem zx2 : FnS Tryz.prog GG 215 zn4 := by
 intro args k gt go R v os n h
 unfold zn4 at h
 split at h
 . obtain ⟨l, _, h⟩ := zbq h
   split at h
   . exact ⟨_, _, zzs, h⟩
   . obtain ⟨r, _, h⟩ := zaX h
     split at h
     . exact ⟨_, _, zDJ _, h⟩
     . cases h
 . cases h
def zuW (frm : Int) : zaa := ⟨[.rd (.sl 1 [ipv frm]), .rd (.sl 6 [zmU])], [], [], [.vec 1 [ipv (tyF frm)]], .slc 0 0 1⟩
theorem zDB (frm : Int) : zaa.ok Tryz.prog GG 191 (zuW frm) := by
 refine zad mix zwE _ rfl rfl (Tab.ok (l := [(215, zn4)]) ⟨zx2, trivial⟩) noL noJ ?_
 repeat' ((conv => whnf); first
  | exact trivial
  | with_reducible first | refine aj ?_ | refine ai rfl ?_ | refine ai ⟨rfl, rfl⟩ ?_
  | ((with_reducible refine ai ?_ ?_); first | focus (exact ⟨trivial, trivial, trivial⟩) | focus (simp [zai.len]; done))
  | with_reducible first | refine And.intro ?_ ?_ | refine zae ?_ | refine exI (i64_in (by omega) (by omega)) ?_
  | refine exI (x := ULift.up _) (Eq.refl _) ?_
  | refine exI (x := ULift.up _) ⟨rfl, by omega, Eq.refl _⟩ ?_
  | ((with_reducible intro h); first | exact absurd h (by decide) | (exfalso; revert h; simp; done))
  | with_reducible intro _)
def zsf  : zaa := ⟨[.val (.slice none 0 0), .val (.slice none 0 0)], [], [], [], .val (.slice none 0 0)⟩
theorem zzq  : zaa.ok Tryz.prog GG 191 (zsf ) := by
 refine zad mix zwE _ rfl rfl (Tab.ok (l := [(215, zn4)]) ⟨zx2, trivial⟩) noL noJ ?_
 repeat' ((conv => whnf); first
  | exact trivial
  | with_reducible first | refine aj ?_ | refine ai rfl ?_ | refine ai ⟨rfl, rfl⟩ ?_
  | ((with_reducible refine ai ?_ ?_); first | focus (exact ⟨trivial, trivial, trivial⟩) | focus (simp [zai.len]; done))
  | with_reducible first | refine And.intro ?_ ?_ | refine zae ?_ | refine exI (i64_in (by omega) (by omega)) ?_
  | refine exI (x := ULift.up _) (Eq.refl _) ?_
  | refine exI (x := ULift.up _) ⟨rfl, by omega, Eq.refl _⟩ ?_
  | ((with_reducible intro h); first | exact absurd h (by decide) | (exfalso; revert h; simp; done))
  | with_reducible intro _)
noncomputable def znZ : SFn
 | [a0, a1], k => zcX a0 fun l => match l with
   | [] => k zsf
   | [[.int .i64 frm]] => k (zuW frm)
   | _ => .fail
 | _, _ => .fail
theorem zxX : FnS Tryz.prog GG 191 znZ := by
 intro args k gt go R v os n h
 unfold znZ at h
 split at h
 . obtain ⟨l, _, h⟩ := zbq h
   split at h
   . exact ⟨_, _, zzq, h⟩
   . exact ⟨_, _, zDB _, h⟩
   . cases h
 . cases h
def zu7 (a : Int) : zaa := ⟨[.rd (.sl 1 [ipv a]), kz 0], [], [], [], kz (if a = 0 then 0 else -1)⟩
theorem zDM (a : Int) : zaa.ok Tryz.prog GG 218 (zu7 a) := by
 refine zad mix zwI _ rfl rfl (Tab.ok (l := []) trivial) (fun _ => .rounds 3) noJ ?_
 repeat' ((conv => whnf); first
  | exact trivial
  | with_reducible first | refine aj ?_ | refine ai rfl ?_ | refine ai ⟨rfl, rfl⟩ ?_
  | ((with_reducible refine ai ?_ ?_); first | focus (exact ⟨trivial, trivial, trivial⟩) | focus (simp [zai.len]; done))
  | with_reducible first | refine And.intro ?_ ?_ | refine zae ?_ | refine exI (i64_in (by omega) (by omega)) ?_
  | refine exI (x := ULift.up _) (Eq.refl _) ?_
  | refine exI (x := ULift.up _) ⟨rfl, by omega, Eq.refl _⟩ ?_
  | ((with_reducible intro h); first | exact absurd h (by decide) | (exfalso; revert h; simp; done))
  | with_reducible refine exI (x := ULift.up _) ⟨rfl, by omega, rfl⟩ ?_
  | with_reducible intro _)
 all_goals (refine Sd.mk ?_; grind)
def zsi  : zaa := ⟨[.val (.slice none 0 0), kz 0], [], [], [], kz (-1)⟩
theorem zzt  : zaa.ok Tryz.prog GG 218 (zsi ) := by
 refine zad mix zwI _ rfl rfl (Tab.ok (l := []) trivial) (fun _ => .rounds 3) noJ ?_
 repeat' ((conv => whnf); first
  | exact trivial
  | with_reducible first | refine aj ?_ | refine ai rfl ?_ | refine ai ⟨rfl, rfl⟩ ?_
  | ((with_reducible refine ai ?_ ?_); first | focus (exact ⟨trivial, trivial, trivial⟩) | focus (simp [zai.len]; done))
  | with_reducible first | refine And.intro ?_ ?_ | refine zae ?_ | refine exI (i64_in (by omega) (by omega)) ?_
  | refine exI (x := ULift.up _) (Eq.refl _) ?_
  | refine exI (x := ULift.up _) ⟨rfl, by omega, Eq.refl _⟩ ?_
  | ((with_reducible intro h); first | exact absurd h (by decide) | (exfalso; revert h; simp; done))
  | with_reducible intro _)
noncomputable def zn6 : SFn
 | [a0, a1], k => zcX a0 fun l => match l with
   | [] => k zsi
   | [[.int .i64 frm]] => k (zu7 frm)
   | _ => .fail
 | _, _ => .fail
theorem zx4 : FnS Tryz.prog GG 218 zn6 := by
 intro args k gt go R v os n h
 unfold zn6 at h
 split at h
 . obtain ⟨l, _, h⟩ := zbq h
   split at h
   . exact ⟨_, _, zzt, h⟩
   . exact ⟨_, _, zDM _, h⟩
   . cases h
 . cases h
def zuX (a : Int) : zaa := ⟨[.rd (.sl 1 [ipv a]), kz 0], [], [], [], .bool (decide (a = 0))⟩
theorem zDC (a : Int) : zaa.ok Tryz.prog GG 192 (zuX a) := by
 refine zad mix zwF _ rfl rfl (Tab.ok (l := [(218, zn6)]) ⟨zx4, trivial⟩) noL noJ ?_
 repeat' ((conv => whnf); first
  | exact trivial
  | with_reducible first | refine aj ?_ | refine ai rfl ?_ | refine ai ⟨rfl, rfl⟩ ?_
  | ((with_reducible refine ai ?_ ?_); first | focus (exact ⟨trivial, trivial, trivial⟩) | focus (simp [zai.len]; done))
  | with_reducible first | refine And.intro ?_ ?_ | refine zae ?_ | refine exI (i64_in (by omega) (by omega)) ?_
  | refine exI (x := ULift.up _) (Eq.refl _) ?_
  | refine exI (x := ULift.up _) ⟨rfl, by omega, Eq.refl _⟩ ?_
  | ((with_reducible intro h); first | exact absurd h (by decide) | (exfalso; revert h; simp; done))
  | with_reducible intro _)
 all_goals (refine Sd.mk ?_; grind)
def zsg  : zaa := ⟨[.val (.slice none 0 0), kz 0], [], [], [], .ff⟩
theorem zzr  : zaa.ok Tryz.prog GG 192 (zsg ) := by
 refine zad mix zwF _ rfl rfl (Tab.ok (l := [(218, zn6)]) ⟨zx4, trivial⟩) noL noJ ?_
 repeat' ((conv => whnf); first
  | exact trivial
  | with_reducible first | refine aj ?_ | refine ai rfl ?_ | refine ai ⟨rfl, rfl⟩ ?_
  | ((with_reducible refine ai ?_ ?_); first | focus (exact ⟨trivial, trivial, trivial⟩) | focus (simp [zai.len]; done))
  | with_reducible first | refine And.intro ?_ ?_ | refine zae ?_ | refine exI (i64_in (by omega) (by omega)) ?_
  | refine exI (x := ULift.up _) (Eq.refl _) ?_
  | refine exI (x := ULift.up _) ⟨rfl, by omega, Eq.refl _⟩ ?_
  | ((with_reducible intro h); first | exact absurd h (by decide) | (exfalso; revert h; simp; done))
  | with_reducible intro _)
noncomputable def zn0 : SFn
 | [a0, a1], k => zcX a0 fun l => match l with
   | [] => k zsg
   | [[.int .i64 frm]] => k (zuX frm)
   | _ => .fail
 | _, _ => .fail
theorem zxY : FnS Tryz.prog GG 192 zn0 := by
 intro args k gt go R v os n h
 unfold zn0 at h
 split at h
 . obtain ⟨l, _, h⟩ := zbq h
   split at h
   . exact ⟨_, _, zzr, h⟩
   . exact ⟨_, _, zDC _, h⟩
   . cases h
 . cases h
def zrj (op frm ty : Int) : Int := if tyF frm = 0 then 0 else unF op (tyF frm) ty
def zuR (op : Int) (frm : Int) (ty : Int) : zaa := ⟨[.rd (.sl 1 [ipv frm]), .agg [kz 3, kz ty, kz op, kz 0, .rd (.sl 6 [zmU])]], [], [], [], kz (zrj op frm ty)⟩
set_option maxHeartbeats 40000000 in
theorem zDw (op : Int) (frm : Int) (ty : Int) : zaa.ok Tryz.prog GG 173 (zuR op frm ty) := by
 refine zad mix zwD _ rfl rfl (Tab.ok (l := [(191, znZ), (192, zn0), (193, zlK), (194, zn1), (195, zn2)]) ⟨zxX, zxY, zr2, zxZ, zx0, trivial⟩) noL noJ ?_
 repeat' ((conv => whnf); first
  | exact trivial
  | with_reducible first | refine aj ?_ | refine ai rfl ?_ | refine ai ⟨rfl, rfl⟩ ?_
  | ((with_reducible refine ai ?_ ?_); first | focus (exact ⟨trivial, trivial, trivial⟩) | focus (simp [zai.len]; done))
  | with_reducible first | refine And.intro ?_ ?_ | refine zae ?_ | refine exI (i64_in (by omega) (by omega)) ?_
  | refine exI (x := ULift.up _) (Eq.refl _) ?_
  | refine exI (x := ULift.up _) ⟨rfl, by omega, Eq.refl _⟩ ?_
  | ((with_reducible intro h); first | exact absurd h (by decide) | (exfalso; revert h; simp; done))
  | with_reducible refine exI (x := ULift.up _) ⟨rfl, by omega, rfl⟩ ?_
  | with_reducible intro _)
 all_goals (refine Sd.mk ?_; (try simp only [zrj]); grind)
def zse (off : Int) (ty : Int) : zaa := ⟨[.val (.slice none 0 0), .agg [kz 2, kz ty, kz 0, kz off, .val (.slice none 0 0)]], [], [], [], kz (zie (zjs off ty) ty)⟩
set_option maxHeartbeats 40000000 in
theorem zzp (off : Int) (ty : Int) : zaa.ok Tryz.prog GG 173 (zse off ty) := by
 refine zad mix zwD _ rfl rfl (Tab.ok (l := [(191, znZ), (192, zn0), (193, zlK), (194, zn1), (195, zn2)]) ⟨zxX, zxY, zr2, zxZ, zx0, trivial⟩) noL noJ ?_
 repeat' ((conv => whnf); first
  | exact trivial
  | with_reducible first | refine aj ?_ | refine ai rfl ?_ | refine ai ⟨rfl, rfl⟩ ?_
  | ((with_reducible refine ai ?_ ?_); first | focus (exact ⟨trivial, trivial, trivial⟩) | focus (simp [zai.len]; done))
  | with_reducible first | refine And.intro ?_ ?_ | refine zae ?_ | refine exI (i64_in (by omega) (by omega)) ?_
  | refine exI (x := ULift.up _) (Eq.refl _) ?_
  | refine exI (x := ULift.up _) ⟨rfl, by omega, Eq.refl _⟩ ?_
  | ((with_reducible intro h); first | exact absurd h (by decide) | (exfalso; revert h; simp; done))
  | with_reducible intro _)
 all_goals (refine Sd.mk ?_; grind)
noncomputable def znY : SFn
 | [a0, .agg [_, .int .i64 ty, .int .i64 op, .int .i64 off, _]], k => zcX a0 fun l => match l with
   | [] => k (zse off ty)
   | [[.int .i64 frm]] => k (zuR op frm ty)
   | _ => .fail
 | _, _ => .fail
theorem zxW : FnS Tryz.prog GG 173 znY := by
 intro args k gt go R v os n h
 unfold znY at h
 split at h
 . obtain ⟨l, _, h⟩ := zbq h
   split at h
   . exact ⟨_, _, zzp _ _, h⟩
   . exact ⟨_, _, zDw _ _ _, h⟩
   . cases h
 . cases h
end
section
def zAM : MC := .seq (.reg [oo 4 (.mv kf)]) (.seq (.reg [om 5 0,om 6 1,oo 7 (.bld [(kz 0),(kz 0),(kz 0),(kz 0),(.val (.slice none 0 0))] [(0,1,(ki 2)),(1,1,(.t 5)),(3,1,(.t 6))]),oo 8 (fc 173 [(.k (.val (.slice none 0 0))),(.t 7)]),om 9 0,oo 10 (ct .eql 8 9),sm 11 10,mt 11 12 0,gt_ 11 13 (cc .neq 12 0),oo 14 (pf 11 13),om 4 14]) (.ret))
theorem zB3 : zar Tryz.prog 147 15 zAM [.t 4] := fk Tryz.func147 ⟨tv,⟨tv,tv⟩⟩
def zAK : MC := .seq (.reg [oo 1 (.box (.t 0)),oo 2 (.mv kf)]) (.seq (.seq (.reg [oo 3 (fl 1 1),oo 4 (ln 3),oo 5 (fc 144 [(.t 4),(ki 1),(ki 7)]),oo 6 (.not (.t 5)),sm 7 6,gf 7 8 (fl 2 1),gf 7 9 (ln 8),gf 7 10 (cc .eql 9 128),oo 11 (pt 7 10),sm 12 11,gf 12 13 (fl 3 1),gf 12 14 (ln 13),gf 12 15 (cc .eql 14 128),oo 16 (pt 12 15)]) (.cond (.t 16) (.seq (.reg [oo 2 (.mv kf)]) (.ret)) (.skip))) (.seq (.reg [oo 17 (fl 2 1),oo 18 (ln 17),oo 19 (.bsl 1 1 [(kz 0)] [(0,(.t 18))]),oo 20 (fl 1 1),oo 21 (ln 20),oo 22 (fl 3 1),oo 23 (ln 22),oo 24 (.bld [(kz 0),(kz 0),(.int .u32 0),(.int .u32 0),(.int .u32 0),(.int .u32 0)] []),oo 25 (.bsl 6 1 [(kz 0),(kz 0),(.int .u32 0),(.int .u32 0),(.int .u32 0),(.int .u32 0)] [(0,(.t 24))]),oo 26 (.bld [(kz 0),(kz 0),(kz 0),(kz 0),(.val (.slice none 0 0))] [(0,1,(ki 3)),(2,1,(.t 21)),(1,1,(.t 23)),(4,1,(.t 25))]),oo 27 (fc 173 [(.t 19),(.t 26)]),oo 28 (cc .neq 27 0),om 2 28]) (.ret)))
theorem zB1 : zar Tryz.prog 145 29 zAK [.t 2] := fk Tryz.func145 ⟨tv,⟨⟨tv,⟨⟨tv,tv⟩,tv⟩⟩,⟨tv,tv⟩⟩⟩
def zAr : MC := .seq (.reg [oo 2 (.box (.t 0)),oo 3 (.box (.t 1)),oo 4 (.mv kf)]) (.seq (.seq (.reg [oo 5 (fl 2 2),oo 6 (ln 5)]) (.blk 0 (.seq (.reg [oo 8 (cc .eql 6 1),om 7 8]) (.cond (.t 7) (.seq (.reg [oo 9 (fl 1 3),oo 10 (ln 9),oo 11 (fc 144 [(.t 10),(ki 1),(ki 19)]),om 4 11]) (.ret)) (.seq (.reg [oo 13 (cc .eql 6 2),om 12 13]) (.cond (.t 12) (.seq (.reg [oo 14 (ls 15 3),oo 15 (fc 145 [(.t 14)]),om 4 15]) (.ret)) (.seq (.reg [oo 17 (cc .eql 6 3),om 16 17]) (.cond (.t 16) (.seq (.reg [oo 18 (fl 1 3),oo 19 (ln 18),oo 20 (fc 144 [(.t 19),(ki 8),(ki 10)]),sm 21 20,gf 21 22 (fl 1 3),gf 21 23 (ln 22),gf 21 24 (fc 144 [(.t 23),(ki 20),(ki 29)]),oo 25 (pt 21 24),om 4 25]) (.ret)) (.seq (.reg [oo 27 (cc .eql 6 4),om 26 27]) (.cond (.t 26) (.seq (.reg [oo 28 (fl 1 3),oo 29 (ln 28),oo 30 (cc .eql 29 1),sm 31 30,gf 31 32 (fl 1 3),gf 31 33 (ln 32),gf 31 34 (fc 144 [(.t 33),(ki 8),(ki 10)]),oo 35 (pt 31 34),om 4 35]) (.ret)) (.seq (.reg [oo 37 (cc .eql 6 5),om 36 37]) (.cond (.t 36) (.seq (.reg [oo 38 (fl 1 3),oo 39 (ln 38),oo 40 (cc .eql 39 14),sm 41 40,gf 41 42 (fl 1 3),gf 41 43 (ln 42),gf 41 44 (cc .eql 43 15),oo 45 (pt 41 44),om 4 45]) (.ret)) (.seq (.reg [oo 47 (cc .eql 6 6),om 46 47]) (.cond (.t 46) (.seq (.reg [oo 48 (fl 8 3),oo 49 (ln 48),oo 50 (fc 144 [(.t 49),(ki 0),(ki 3)]),om 4 50]) (.ret)) (.seq (.reg [oo 52 (cc .eql 6 7),om 51 52]) (.cond (.t 51) (.seq (.reg [oo 53 (fl 3 3),oo 54 (ln 53),oo 55 (fc 146 [(.t 54)]),sm 56 55,gt_ 56 57 (fl 3 3),gt_ 56 58 (ln 57),gt_ 56 59 (fl 8 3),gt_ 56 60 (ln 59),gt_ 56 61 (fc 147 [(.t 58),(.t 60)]),oo 62 (pf 56 61),om 4 62]) (.ret)) (.seq (.reg [oo 64 (cc .eql 6 8),om 63 64]) (.cond (.t 63) (.seq (.reg [oo 65 (fl 8 3),oo 66 (ln 65),oo 67 (fc 147 [(ki 128),(.t 66)]),om 4 67]) (.ret)) (.seq (.reg [oo 69 (cc .eql 6 9),om 68 69]) (.cond (.t 68) (.seq (.reg [oo 70 (fl 3 3),oo 71 (ln 70),oo 72 (fc 146 [(.t 71)]),om 4 72]) (.ret)) (.seq (.reg [oo 74 (cc .eql 6 10),om 73 74]) (.cond (.t 73) (.seq (.reg [oo 75 (fl 3 3),oo 76 (ln 75),oo 77 (fc 146 [(.t 76)]),sm 78 77,gf 78 79 (fl 3 3),gf 78 80 (ln 79),gf 78 81 (cc .eql 80 128),oo 82 (pt 78 81),om 4 82]) (.ret)) (.seq (.reg [oo 84 (cc .eql 6 11),om 83 84]) (.cond (.t 83) (.seq (.reg [oo 85 (fl 8 3),oo 86 (ln 85),oo 87 (fc 144 [(.t 86),(ki 1),(ki 16)]),om 4 87]) (.ret)) (.seq (.reg [oo 89 (cc .eql 6 12),om 88 89]) (.cond (.t 88) (.seq (.reg [oo 90 (fl 1 3),oo 91 (ln 90),oo 92 (fc 144 [(.t 91),(ki 0),(ki 2)]),sm 93 92,gt_ 93 94 (fl 1 3),gt_ 93 95 (ln 94),gt_ 93 96 (cc .eql 95 0),ogs 93 true (some 97) (.mv (.t 96)),gf 97 98 (fl 7 3),gf 97 99 (ln 98),gf 97 100 (cc .eql 99 0),gt_ 93 101 (pt 97 100),oo 102 (pf 93 101),om 4 102]) (.ret)) (.seq (.reg [oo 104 (cc .eql 6 13),om 103 104]) (.cond (.t 103) (.seq (.reg [oo 105 (fl 8 3),oo 106 (ln 105),oo 107 (fc 144 [(.t 106),(ki 0),(ki 7)]),om 4 107]) (.ret)) (.seq (.reg [oo 109 (cc .eql 6 14),om 108 109]) (.cond (.t 108) (.seq (.reg [oo 110 (fl 1 3),oo 111 (ln 110),oo 112 (fc 144 [(.t 111),(ki 1),(ki 2)]),om 4 112]) (.ret)) (.seq (.reg [oo 114 (cc .eql 6 15),om 113 114])
 (.cond (.t 113) (.seq (.reg [oo 115 (fl 8 3),oo 116 (ln 115),oo 117 (fc 144 [(.t 116),(ki 0),(ki 8)]),sm 118 117,gt_ 118 119 (fl 9 3),gt_ 118 120 (ln 119),gt_ 118 121 (.cmp .leq (.t 120) (.k (.int .u32 1000000))),oo 122 (pf 118 121),om 4 122]) (.ret)) (.seq (.reg [oo 124 (cc .eql 6 16),om 123 124]) (.cond (.t 123) (.seq (.reg [oo 125 (fl 8 3),oo 126 (ln 125),oo 127 (cc .eql 126 4),sm 128 127,gf 128 129 (fl 8 3),gf 128 130 (ln 129),gf 128 131 (cc .eql 130 8),oo 132 (pt 128 131),om 4 132]) (.ret)) (.seq (.reg [oo 134 (cc .eql 6 17),om 133 134]) (.cond (.t 133) (.seq (.reg [oo 135 (fl 8 3),oo 136 (ln 135),oo 137 (fc 144 [(.t 136),(ki 1),(ki 9)]),om 4 137]) (.ret)) (.seq (.reg [oo 139 (cc .eql 6 18),om 138 139]) (.cond (.t 138) (.seq (.reg [oo 140 (fl 8 3),oo 141 (ln 140),oo 142 (fc 144 [(.t 141),(ki 0),(ki 511)]),om 4 142]) (.ret)) (.seq (.reg [oo 144 (cc .eql 6 19),om 143 144]) (.cond (.t 143) (.seq (.reg [oo 145 (fl 8 3),oo 146 (ln 145),oo 147 (fc 144 [(.t 146),(ki 0),(ki 508)]),sm 148 147,gt_ 148 149 (fl 8 3),gt_ 148 150 (ln 149),gt_ 148 151 (ac .rem 150 4),gt_ 148 152 (cc .eql 151 0),oo 153 (pf 148 152),om 4 153]) (.ret)) (.skip))))))))))))))))))))))))))))))))))))))))) (.seq (.reg [oo 4 (.mv kt)]) (.ret)))
theorem zBL : zar Tryz.prog 107 154 zAr [.t 4] := fk Tryz.func107 ⟨tv,⟨⟨tv,⟨tv,⟨⟨tv,tv⟩,⟨tv,⟨⟨tv,tv⟩,⟨tv,⟨⟨tv,tv⟩,⟨tv,⟨⟨tv,tv⟩,⟨tv,⟨⟨tv,tv⟩,⟨tv,⟨⟨tv,tv⟩,⟨tv,⟨⟨tv,tv⟩,⟨tv,⟨⟨tv,tv⟩,⟨tv,⟨⟨tv,tv⟩,⟨tv,⟨⟨tv,tv⟩,⟨tv,⟨⟨tv,tv⟩,⟨tv,⟨⟨tv,tv⟩,⟨tv,⟨⟨tv,tv⟩,⟨tv,⟨⟨tv,tv⟩,⟨tv,⟨⟨tv,tv⟩,⟨tv,⟨⟨tv,tv⟩,⟨tv,⟨⟨tv,tv⟩,⟨tv,⟨⟨tv,tv⟩,⟨tv,⟨⟨tv,tv⟩,tv⟩⟩⟩⟩⟩⟩⟩⟩⟩⟩⟩⟩⟩⟩⟩⟩⟩⟩⟩⟩⟩⟩⟩⟩⟩⟩⟩⟩⟩⟩⟩⟩⟩⟩⟩⟩⟩⟩⟩,⟨tv,tv⟩⟩⟩
def zjK (ty off : Int) : Bool := decide (zie (zjs off ty) ty = ty /\ ty ≠ 0)
def zmR (sub frm ty : Int) : Bool := zbr sub 1 7 && decide (frm ≠ 128) && decide (ty ≠ 128) && decide (zrj sub frm ty ≠ 0)
def zgu (rule : Int) (x : HI) : Bool :=
 if rule = 1 then zbr x.sub 1 19
 else if rule = 2 then zmR x.sub x.frm x.ty
 else if rule = 3 then zbr x.sub 8 10 || zbr x.sub 20 29
 else if rule = 4 then decide (x.sub = 1) || zbr x.sub 8 10
 else if rule = 5 then decide (x.sub = 14 \/ x.sub = 15)
 else if rule = 6 then zbr x.k 0 3
 else if rule = 7 then zjZ x.ty && zjK x.ty x.k
 else if rule = 8 then zjK 128 x.k
 else if rule = 9 then zjZ x.ty
 else if rule = 10 then zjZ x.ty || decide (x.ty = 128)
 else if rule = 11 then zbr x.k 1 16
 else if rule = 12 then zbr x.sub 0 2 && decide (x.sub = 0 \/ x.c = 0)
 else if rule = 13 then zbr x.k 0 7
 else if rule = 14 then zbr x.sub 1 2
 else if rule = 15 then zbr x.k 0 8 && decide (x.i <= 1000000)
 else if rule = 16 then decide (x.k = 4 \/ x.k = 8)
 else if rule = 17 then zbr x.k 1 9
 else if rule = 18 then zbr x.k 0 511
 else if rule = 19 then zbr x.k 0 508 && decide (x.k.tmod 4 = 0)
 else true
def zuG (ty : Int) (off : Int) : zaa := ⟨[kz ty, kz off], [], [], [], .bool (zjK ty off)⟩
theorem zDl (ty : Int) (off : Int) : zaa.ok Tryz.prog GG 147 (zuG ty off) := by
 refine zad mix zB3 _ rfl rfl (Tab.ok (l := [(173, znY)]) ⟨zxW, trivial⟩) noL noJ ?_
 repeat' ((conv => whnf); first
  | exact trivial
  | with_reducible first | refine aj ?_ | refine ai rfl ?_ | refine ai ⟨rfl, rfl⟩ ?_
  | ((with_reducible refine ai ?_ ?_); focus exact w3)
  | with_reducible first | refine And.intro ?_ ?_ | refine zae ?_ | refine exI (i64_in (by omega) (by omega)) ?_
  | refine exI (x := ULift.up _) (Eq.refl _) ?_
  | refine exI (x := ULift.up _) ⟨rfl, by omega, Eq.refl _⟩ ?_
  | ((with_reducible intro h); first | exact absurd h (by decide) | (exfalso; revert h; simp; done))
  | with_reducible intro _)
 all_goals (refine Sd.mk ?_; (try simp only [zjK]); grind)
noncomputable def zqf : SFn
 | [a0, a1], k => asI a0 fun ty => asI a1 fun off => k (zuG ty off)
 | _, _ => .fail
theorem zEo : FnS Tryz.prog GG 147 zqf := by
 intro args k gt go R v os n h
 unfold zqf at h
 split at h
 . obtain ⟨ty, _, h⟩ := zaU h
   obtain ⟨off, _, h⟩ := zaU h
   exact ⟨_, _, zDl ty off, h⟩
 . cases h
def zuE (x : HI) : zaa := ⟨[.agg x.cells], [], [], [], .bool (zmR x.sub x.frm x.ty)⟩
theorem zDj (x : HI) : zaa.ok Tryz.prog GG 145 (zuE x) := by
 refine zad mix zB1 _ rfl rfl (Tab.ok (l := [(144, znW), (173, znY)]) ⟨zxU, zxW, trivial⟩) noL noJ ?_
 repeat' ((conv => whnf); first
  | exact trivial
  | with_reducible first | refine aj ?_ | refine ai rfl ?_ | refine ai ⟨rfl, rfl⟩ ?_
  | ((with_reducible refine ai ?_ ?_); focus exact w3)
  | with_reducible first | refine And.intro ?_ ?_ | refine zae ?_ | refine exI (i64_in (by omega) (by omega)) ?_
  | refine exI (x := ULift.up _) (Eq.refl _) ?_
  | refine exI (x := ULift.up _) ⟨rfl, by omega, Eq.refl _⟩ ?_
  | ((with_reducible intro h); first | exact absurd h (by decide) | (exfalso; revert h; simp; done))
  | with_reducible intro _)
 all_goals (refine Sd.mk ?_; (try simp only [zmR]); grind)
noncomputable def zqd : SFn
 | [a0], k => zdh a0 fun x => k (zuE x)
 | _, _ => .fail
theorem zEm : FnS Tryz.prog GG 145 zqd := by
 intro args k gt go R v os n h
 unfold zqd at h
 split at h
 . obtain ⟨x, _, h⟩ := zbp h
   exact ⟨_, _, zDj x, h⟩
 . cases h
def zuo (f : FM) (x : HI) : zaa := ⟨[.agg f.cells, .agg x.cells], [], [], [], .bool (zgu f.rule x)⟩
set_option maxHeartbeats 40000000 in
theorem zC3 (f : FM) (x : HI) : zaa.ok Tryz.prog GG 107 (zuo f x) := by
 refine zad mix zBL _ rfl rfl (Tab.ok (l := [(144, znW), (145, zqd), (146, zqe), (147, zqf)]) ⟨zxU, zEm, zEn, zEo, trivial⟩) noL noJ ?_
 repeat' ((conv => whnf); first
  | exact trivial
  | with_reducible first | refine aj ?_ | refine ai rfl ?_ | refine ai ⟨rfl, rfl⟩ ?_
  | ((with_reducible refine ai ?_ ?_); focus exact w3)
  | with_reducible first | refine And.intro ?_ ?_ | refine zae ?_ | refine exI (i64_in (by omega) (by omega)) ?_
  | refine exI (x := ULift.up _) (Eq.refl _) ?_
  | refine exI (x := ULift.up _) ⟨rfl, by omega, Eq.refl _⟩ ?_
  | ((with_reducible intro h); first | exact absurd h (by decide) | (exfalso; revert h; simp; done))
  | with_reducible intro _)
 all_goals (refine Sd.mk ?_; (try simp only [zgu]); grind)
noncomputable def zp3 : SFn
 | [a0, a1], k => ziH a0 fun f => zdh a1 fun x => k (zuo f x)
 | _, _ => .fail
theorem zEc : FnS Tryz.prog GG 107 zp3 := by
 intro args k gt go R v os n h
 unfold zp3 at h
 split at h
 . obtain ⟨f, _, h⟩ := zfv h
   obtain ⟨x, _, h⟩ := zbp h
   exact ⟨_, _, zC3 f x, h⟩
 . cases h
end
section
def c58 : MC := .seq (.reg [oo 1 (.box (.t 0)),oo 2 (.mv kf)]) (.seq (.reg [oo 6 (fl 0 1),oo 7 (ln 6),oo 8 (fc 80 [(.t 7)]),om 5 8,oo 9 (ex_ 0 5),oo 10 (ex_ 1 5),oo 3 (.alloc [(.str ⟨#[]⟩),(kz 0),(kz 0)]),o none (.st (some 3) (.t 3) (.t 9)),om 4 10]) (.seq (.drw [om 11 4,sm 12 11,gt_ 12 13 (ls 3 3),gt_ 12 14 (ls 15 1),gt_ 12 15 (fc 106 [(.t 13),(.t 14)]),gt_ 12 16 (ls 15 1),gt_ 12 17 (.eqs [.int .i64,.int .i64,.int .i64,.int .i64,.int .i64,.int .i64,.int .i64,.int .i64,.int .i64,.int .u32,.int .u32,.int .u32,.int .u32,.int .u32,.int .u32] false (.t 15) (.t 16)),oo 18 (pf 12 17),sm 19 18,gt_ 19 20 (fl 4 1),gt_ 19 21 (ln 20),gt_ 19 22 (cc .geq 21 0),oo 23 (pf 19 22),sm 24 23,gt_ 24 25 (fl 5 1),gt_ 24 26 (ln 25),gt_ 24 27 (cc .geq 26 0),oo 28 (pf 24 27),sm 29 28,gt_ 29 30 (fl 6 1),gt_ 29 31 (ln 30),gt_ 29 32 (cc .geq 31 0),oo 33 (pf 29 32),sm 34 33,gt_ 34 35 (fl 7 1),gt_ 34 36 (ln 35),gt_ 34 37 (cc .geq 36 0),oo 38 (pf 34 37),sm 39 38,gt_ 39 40 (ls 3 3),gt_ 39 41 (ls 15 1),gt_ 39 42 (fc 107 [(.t 40),(.t 41)]),oo 43 (pf 39 42),om 2 43] [[],[0],[1],[1],[2,3,1,1],[1],[4,5,1],[1,6],[7,4],[8],[9,8],[10,8],[8,11],[12,8],[13],[14,13],[15,13],[13,16],[17,13],[18],[19,18],[20,18],[18,21],[22,18],[23],[24,23],[25,23],[23,26],[27,23],[28],[28],[29,30,28,28],[28,31],[32,31,0,1,2,3,4,5,6,7,8,9,10,11,12,13,14,15,16,17,18,19,20,21,22,23,24,25,26,27,28,29,30,31,32]]) (.ret)))
theorem k58 : zar Tryz.prog 58 44 c58 [.t 2] := fk Tryz.func58 ⟨tv,⟨tv,⟨tv,tv⟩⟩⟩
theorem HI.eq_iff (x y : HI) : x = y ↔ x.op = y.op /\ x.sub = y.sub /\ x.frm = y.frm /\ x.ty = y.ty /\ x.d = y.d /\ x.a = y.a /\ x.b = y.b /\ x.c = y.c /\ x.k = y.k /\ x.i = y.i /\ x.ch = y.ch /\ x.v0 = y.v0 /\ x.v1 = y.v1 /\ x.v2 = y.v2 /\ x.v3 = y.v3 := by
 cases x; cases y; simp
theorem HI.eta (x : HI) : HI.mk x.op x.sub x.frm x.ty x.d x.a x.b x.c x.k x.i x.ch x.v0 x.v1 x.v2 x.v3 = x := rfl
theorem FM.eta (x : FM) : FM.mk x.name x.fields x.rule = x := rfl
def zlR (x : HI) : Bool := decide (zck (zbd x.op).1 x = x)
def zbZ (x : HI) : Bool := (zbd x.op).2 && zlR x && decide (0 <= x.d) && decide (0 <= x.a) && decide (0 <= x.b) && decide (0 <= x.c) && zgu (zbd x.op).1.rule x
theorem zoa (x : HI) : zlR x = true ↔ (zck (zbd x.op).1 x).op = x.op /\ (zck (zbd x.op).1 x).sub = x.sub /\ (zck (zbd x.op).1 x).frm = x.frm /\ (zck (zbd x.op).1 x).ty = x.ty /\ (zck (zbd x.op).1 x).d = x.d /\ (zck (zbd x.op).1 x).a = x.a /\ (zck (zbd x.op).1 x).b = x.b /\ (zck (zbd x.op).1 x).c = x.c /\ (zck (zbd x.op).1 x).k = x.k /\ (zck (zbd x.op).1 x).i = x.i /\ (zck (zbd x.op).1 x).ch = x.ch /\ (zck (zbd x.op).1 x).v0 = x.v0 /\ (zck (zbd x.op).1 x).v1 = x.v1 /\ (zck (zbd x.op).1 x).v2 = x.v2 /\ (zck (zbd x.op).1 x).v3 = x.v3 /\ True := by
 unfold zlR
 rw [decide_eq_true_iff, HI.eq_iff]
 simp only [and_true]
def L58 (x : HI) : zaa := ⟨[.agg x.cells], [], [], [], .bool (zbZ x)⟩
set_option maxHeartbeats 40000000 in
theorem s58 (x : HI) : zaa.ok Tryz.prog GG 58 (L58 x) := by
 refine zad mix k58 _ rfl rfl (Tab.ok (l := [(80, S80), (106, zp2), (107, zp3)]) ⟨t80, zEb, zEc, trivial⟩) noL noJ ?_
 repeat' ((conv => whnf); first
  | exact trivial
  | with_reducible first | refine aj ?_ | refine ai rfl ?_ | refine ai ⟨rfl, rfl⟩ ?_
  | ((with_reducible refine ai ?_ ?_); focus exact w3)
  | with_reducible first | refine And.intro ?_ ?_ | refine zae ?_ | refine exI (i64_in (by omega) (by omega)) ?_
  | refine exI (x := ULift.up _) (Eq.refl _) ?_
  | refine exI (x := ULift.up _) ⟨rfl, by omega, Eq.refl _⟩ ?_
  | ((with_reducible intro h); first | exact absurd h (by decide) | (exfalso; revert h; simp; done))
  | ((with_reducible refine ai ?_ ?_); first | focus (exact ⟨_, rfl⟩))
  | with_reducible intro _)
 all_goals (refine Sd.mk ?_; have hb := zoa x; simp only [zck] at hb; (try simp only [HI.eta, FM.eta] at *); (try simp only [zbZ]); grind)
noncomputable def S58 : SFn
 | [a0], k => zdh a0 fun x => k (L58 x)
 | _, _ => .fail
theorem t58 : FnS Tryz.prog GG 58 S58 := by
 intro args k gt go R v os n h
 unfold S58 at h
 split at h
 . obtain ⟨x, _, h⟩ := zbp h
   exact ⟨_, _, s58 x, h⟩
 . cases h
end
section
def c33 : MC := .seq (.reg [oo 1 (.box (.t 0)),oo 2 (.alloc [.ff,(kz 0)]),oo 3 (.mv kf)]) (.seq (.reg [oo 7 (fl 0 1),oo 8 (ln 7),oo 9 (fc 80 [(.t 8)]),om 6 9,oo 10 (ex_ 0 6),oo 11 (ex_ 1 6),oo 4 (.alloc [(.str ⟨#[]⟩),(kz 0),(kz 0)]),o none (.st (some 3) (.t 4) (.t 10)),om 5 11]) (.seq (.seq (.reg [oo 12 (ls 15 1),oo 13 (fc 58 [(.t 12)]),oo 14 (.not (.t 13)),sm 15 14,gf 15 16 (ls 3 4),gf 15 17 (fc 81 [(.t 16),(ki 8)]),gf 15 18 (.not (.t 17)),oo 19 (pt 15 18)]) (.cond (.t 19) (.seq (.reg [oo 20 (.bld [.ff,(kz 0)] []),o none (.st (some 2) (.t 2) (.t 20)),oo 3 (.mv kf)]) (.ret)) (.skip))) (.seq (.drw [oo 21 (ls 3 4),oo 22 (fc 81 [(.t 21),(ki 2048)]),oo 23 (fl 4 1),oo 24 (ln 23),oo 25 (.bld [.ff,(kz 0)] [(0,1,(.t 22)),(1,1,(.t 24))]),o none (.st (some 2) (.t 2) (.t 25)),oo 3 (.mv kt)] [[],[0],[],[2],[1,3],[4,1,0,1,2,3,4],[5,0,1,2,3,4,5]]) (.ret))))
theorem k33 : zar Tryz.prog 33 26 c33 [.c 2 (some 2),.t 3] := fk Tryz.func33 ⟨tv,⟨tv,⟨⟨tv,⟨⟨tv,tv⟩,tv⟩⟩,⟨tv,tv⟩⟩⟩⟩
def c82 : MC := .seq (.reg [oo 2 (.box (.t 0)),oo 4 (.mv (.k (.val (.slice none 0 0))))]) (.seq (.reg [oo 5 (.mv (.k (.val (.slice none 0 0))))]) (.seq (.seq (.reg [oo 6 (ls 3 2),oo 7 (fc 81 [(.t 6),(ki 16)])]) (.cond (.t 7) (.drw [om 8 5,om 9 1,oo 10 (.nchk (.t 9)),oo 11 (fl 5 10),oo 12 (ls 3 2),oo 13 (fc 81 [(.t 12),(ki 4096)]),oo 14 (.bld [(.val (.pointer none)),.ff] [(0,1,(.t 11)),(1,1,(.t 13))]),oo 15 (.bsl 2 1 [(.val (.pointer none)),.ff] [(0,(.t 14))]),oo 16 (.app 2 16 (.t 8) (.t 15)),om 5 16] [[],[],[1],[2],[],[4],[3,5],[6],[0,7,5],[8,8,0,1,2,3,4,5,6,7,8]]) (.skip))) (.seq (.seq (.reg [oo 17 (ls 3 2),oo 18 (fc 81 [(.t 17),(ki 32)])]) (.cond (.t 18) (.drw [om 19 5,om 20 1,oo 21 (.nchk (.t 20)),oo 22 (fl 6 21),oo 23 (ls 3 2),oo 24 (fc 81 [(.t 23),(ki 8192)]),oo 25 (.bld [(.val (.pointer none)),.ff] [(0,1,(.t 22)),(1,1,(.t 24))]),oo 26 (.bsl 2 1 [(.val (.pointer none)),.ff] [(0,(.t 25))]),oo 27 (.app 2 16 (.t 19) (.t 26)),om 5 27] [[],[],[1],[2],[],[4],[3,5],[6],[0,7,5],[8,8,0,1,2,3,4,5,6,7,8]]) (.skip))) (.seq (.seq (.reg [oo 28 (ls 3 2),oo 29 (fc 81 [(.t 28),(ki 64)]),sm 30 29,gt_ 30 31 (fl 2 2),gt_ 30 32 (ln 31),gt_ 30 33 (cc .neq 32 12),ogs 30 true (some 34) (.mv (.t 33)),mf 34 35 1,gf 34 36 (.nchk (.t 35)),gf 34 37 (fl 1 36),gf 34 38 (ln 37),gf 34 39 (cc .eql 38 0),gt_ 30 40 (pt 34 39),oo 41 (pf 30 40)]) (.cond (.t 41) (.drw [om 42 5,om 43 1,oo 44 (.nchk (.t 43)),oo 45 (fl 7 44),oo 46 (ls 3 2),oo 47 (fc 81 [(.t 46),(ki 16384)]),oo 48 (.bld [(.val (.pointer none)),.ff] [(0,1,(.t 45)),(1,1,(.t 47))]),oo 49 (.bsl 2 1 [(.val (.pointer none)),.ff] [(0,(.t 48))]),oo 50 (.app 2 16 (.t 42) (.t 49)),om 5 50] [[],[],[1],[2],[],[4],[3,5],[6],[0,7,5],[8,8,0,1,2,3,4,5,6,7,8]]) (.skip))) (.seq (.reg [om 51 5,om 4 51]) (.ret))))))
theorem k82 : zar Tryz.prog 82 52 c82 [.t 4] := fk Tryz.func82 ⟨tv,⟨tv,⟨⟨tv,⟨tv,tv⟩⟩,⟨⟨tv,⟨tv,tv⟩⟩,⟨⟨tv,⟨tv,tv⟩⟩,⟨tv,tv⟩⟩⟩⟩⟩⟩
def ff (x : HI) (b : Int) : Bool := zcu (zbd x.op).1.fields b
def zal (x : HI) : HR × Bool := if zbZ x = true /\ ff x 8 = true then (⟨ff x 2048, x.d⟩, true) else (⟨false, 0⟩, false)
def L33 (x : HI) : zaa := ⟨[.agg x.cells], [], [], [], .tup [.agg (zal x).1.cells, .bool (zal x).2]⟩
set_option maxHeartbeats 40000000 in
theorem s33 (x : HI) : zaa.ok Tryz.prog GG 33 (L33 x) := by
 refine zad mix k33 _ rfl rfl (Tab.ok (l := [(80, S80), (58, S58), (81, S81)]) ⟨t80, t58, t81, trivial⟩) noL noJ ?_
 repeat' ((conv => whnf); first
  | exact trivial
  | with_reducible first | refine aj ?_ | refine ai rfl ?_ | refine ai ⟨rfl, rfl⟩ ?_
  | ((with_reducible refine ai ?_ ?_); focus exact w3)
  | with_reducible first | refine And.intro ?_ ?_ | refine zae ?_ | refine exI (i64_in (by omega) (by omega)) ?_
  | refine exI (x := ULift.up _) (Eq.refl _) ?_
  | refine exI (x := ULift.up _) ⟨rfl, by omega, Eq.refl _⟩ ?_
  | ((with_reducible intro h); first | exact absurd h (by decide) | (exfalso; revert h; simp; done))
  | with_reducible intro _)
 all_goals (refine Sd.mk ?_; (try simp only [HI.eta, FM.eta] at *); (try simp only [zal, ff]); grind)
noncomputable def S33 : SFn
 | [a0], k => zdh a0 fun x => k (L33 x)
 | _, _ => .fail
theorem t33 : FnS Tryz.prog GG 33 S33 := by
 intro args k gt go R v os n h
 unfold S33 at h
 split at h
 . obtain ⟨x, _, h⟩ := zbp h
   exact ⟨_, _, s33 x, h⟩
 . cases h
def rdA (x : HI) : List SV := [.ptr 0 0 5, .bool (ff x 4096)]
def rdB (x : HI) : List SV := [.ptr 0 0 6, .bool (ff x 8192)]
def rdC (x : HI) : List SV := [.ptr 0 0 7, .bool (ff x 16384)]
def ffC (x : HI) : Bool := ff x 64 && (decide ((zbd x.op).1.rule ≠ 12) || decide (x.sub = 0))
def rdL (x : HI) : Bool -> Bool -> Bool -> List (List SV)
 | false, false, false => []
 | true, false, false => [rdA x]
 | false, true, false => [rdB x]
 | true, true, false => [rdA x, rdB x]
 | false, false, true => [rdC x]
 | true, false, true => [rdA x, rdC x]
 | false, true, true => [rdB x, rdC x]
 | true, true, true => [rdA x, rdB x, rdC x]
def rdN : Bool -> Bool -> Bool -> Nat
 | false, false, false => 0
 | true, false, false => 1
 | false, true, false => 1
 | true, true, false => 2
 | false, false, true => 1
 | true, false, true => 2
 | false, true, true => 2
 | true, true, true => 3
def L82 (x : HI) (ha hb hc : Bool) : zaa := ⟨[.agg (zbd x.op).1.cells, .ptr 0 0 0], [.row x.cells], [some (.row x.cells)], [.arr 2 (rdL x ha hb hc)], .slc 1 0 (rdN ha hb hc)⟩
set_option maxHeartbeats 40000000 in
theorem s82 (x : HI) (ha hb hc : Bool) (h1 : ff x 16 = ha) (h2 : ff x 32 = hb) (h3 : ffC x = hc) : zaa.ok Tryz.prog GG 82 (L82 x ha hb hc) := by
 cases ha <;> cases hb <;> cases hc
 all_goals
  refine zad mix k82 _ rfl rfl (Tab.ok (l := [(81, S81)]) ⟨t81, trivial⟩) noL noJ ?_
  repeat' ((conv => whnf); first
   | exact trivial
   | with_reducible refine And.intro (Sd.mk (by with_reducible rfl)) ?_
   | with_reducible refine And.intro (Sd.mk ⟨by with_reducible rfl, by with_reducible rfl⟩) ?_
   | with_reducible refine And.intro (Sd.mk (show zbH _ _ = true by kernel_rfl)) ?_
   | with_reducible refine And.intro (Sd.mk rfl) ?_
   | with_reducible refine And.intro (Sd.mk ⟨rfl, rfl⟩) ?_
   | with_reducible refine And.intro (Sd.mk (by decide)) ?_
   | with_reducible refine And.intro (Sd.mk (by omega)) ?_
   | ((with_reducible refine And.intro (Sd.mk ?_) ?_); focus (exact ⟨trivial, trivial, trivial⟩))
   | ((with_reducible refine And.intro (Sd.mk ?_) ?_); focus (refine ⟨rfl, ?_⟩; simp; done))
   | ((with_reducible refine And.intro (Sd.mk ?_) ?_); focus (simp [zai.len]; done))
   | with_reducible refine And.intro ?_ ?_
   | with_reducible refine zae ?_
   | with_reducible refine exI (i64_in (by omega) (by omega)) ?_
   | refine exI (x := ULift.up _) (Eq.refl _) ?_
   | refine exI (x := ULift.up _) ⟨rfl, by omega, Eq.refl _⟩ ?_
   | ((with_reducible intro h); exact absurd h (by decide))
   | ((with_reducible intro h); exfalso; revert h; simp; done)
   | ((with_reducible intro h); exact Bool.noConfusion (h.symm.trans h1))
   | ((with_reducible intro h); exact Bool.noConfusion (h.symm.trans h2))
   | with_reducible intro _)
  all_goals first
   | exact Sd.mk ⟨rfl, rfl, rfl⟩
   | (refine Sd.mk ?_; (try simp only [HI.eta, FM.eta] at *); (try simp only [ff, ffC] at *); grind)
   | (exfalso; (try simp only [HI.eta, FM.eta] at *); (try simp only [ff, ffC] at *); grind)
noncomputable def S82 : SFn
 | [a0, .ptr a _ _], k => ziH a0 fun f => zbz a fun r => zdh r fun x => .req (f = (zbd x.op).1)
  (.split (ff x 16 = true) (.split (ff x 32 = true) (.split (ffC x = true) (k (L82 x true true true)) (k (L82 x true true false))) (.split (ffC x = true) (k (L82 x true false true)) (k (L82 x true false false))))
   (.split (ff x 32 = true) (.split (ffC x = true) (k (L82 x false true true)) (k (L82 x false true false))) (.split (ffC x = true) (k (L82 x false false true)) (k (L82 x false false false)))))
 | _, _ => .fail
theorem t82 : FnS Tryz.prog GG 82 S82 := by
 intro args k gt go R v os n h
 unfold S82 at h
 split at h
 . obtain ⟨f, _, h⟩ := zfv h
   obtain ⟨r, _, h⟩ := zaX h
   obtain ⟨x, _, h⟩ := zbp h
   obtain ⟨hf, _, h⟩ := zaz h
   cases h with
   | left h1 h => cases h with
     | left h2 h => cases h with
       | left h3 h => exact ⟨_, _, s82 x _ _ _ h1 h2 h3, h⟩
       | right h3 h => exact ⟨_, _, s82 x _ _ _ h1 h2 (by simpa using h3), h⟩
     | right h2 h => cases h with
       | left h3 h => exact ⟨_, _, s82 x _ _ _ h1 (by simpa using h2) h3, h⟩
       | right h3 h => exact ⟨_, _, s82 x _ _ _ h1 (by simpa using h2) (by simpa using h3), h⟩
   | right h1 h => cases h with
     | left h2 h => cases h with
       | left h3 h => exact ⟨_, _, s82 x _ _ _ (by simpa using h1) h2 h3, h⟩
       | right h3 h => exact ⟨_, _, s82 x _ _ _ (by simpa using h1) h2 (by simpa using h3), h⟩
     | right h2 h => cases h with
       | left h3 h => exact ⟨_, _, s82 x _ _ _ (by simpa using h1) (by simpa using h2) h3, h⟩
       | right h3 h => exact ⟨_, _, s82 x _ _ _ (by simpa using h1) (by simpa using h2) (by simpa using h3), h⟩
 . cases h
end
section
def c34 : MC := .seq (.reg [oo 1 (.box (.t 0)),oo 2 (.mv (.k (.val (.slice none 0 0))))]) (.seq (.reg [oo 3 (.mv (.k (.val (.slice none 0 0))))]) (.seq (.seq (.reg [oo 8 (ls 15 1),oo 9 (fc 58 [(.t 8)]),oo 10 (.not (.t 9))]) (.cond (.t 10) (.seq (.reg [oo 2 (.mv (.k (.val (.slice none 0 0))))]) (.ret)) (.skip))) (.seq (.reg [oo 12 (fl 0 1),oo 13 (ln 12),oo 14 (fc 80 [(.t 13)]),om 11 14,oo 15 (ex_ 0 11),oo 16 (ex_ 1 11),oo 4 (.alloc [(.str ⟨#[]⟩),(kz 0),(kz 0)]),o none (.st (some 3) (.t 4) (.t 15)),om 5 16]) (.seq (.seq (.reg [oo 17 (ls 3 4),oo 18 (fc 82 [(.t 17),(.t 1)]),oo 19 (.lenS (.t 18)),oo 20 (.mv (ki 0))]) (.blk 0 (.loop 0 (.seq (.reg [oo 21 (ct .lss 20 19)]) (.seq (.cond (.t 21) (.skip) (.exit 0)) (.seq (.blk 1 (.seq (.reg [oo 22 (ia 2 18 20),oo 23 (ls 2 22),oo 7 (.alloc [(.val (.pointer none)),.ff]),o none (.st (some 2) (.t 7) (.t 23))]) (.drw [om 24 3,oo 25 (fl 1 7),oo 26 (ln 25),oo 27 (fl 0 7),oo 28 (ln 27),oo 29 (.nchk (.t 28)),oo 30 (ln 29),oo 31 (.bld [.ff,(kz 0)] [(0,1,(.t 26)),(1,1,(.t 30))]),oo 32 (.bsl 2 1 [.ff,(kz 0)] [(0,(.t 31))]),oo 33 (.app 2 16 (.t 24) (.t 32)),om 3 33] [[],[],[1],[],[3],[4],[5],[2,6],[7],[0,8],[9,9,0,1,2,3,4,5,6,7,8,9]]))) (.reg [oo 34 (ac .add 20 1),om 20 34]))))))) (.seq (.reg [om 35 3,om 2 35]) (.ret))))))
theorem k34 : zar Tryz.prog 34 36 c34 [.t 2] := fk Tryz.func34 ⟨tv,⟨tv,⟨⟨tv,⟨⟨tv,tv⟩,tv⟩⟩,⟨tv,⟨⟨tv,⟨tv,⟨⟨tv,tv⟩,⟨⟨tv,tv⟩,tv⟩⟩⟩⟩,⟨tv,tv⟩⟩⟩⟩⟩⟩
def zak (x : HI) : List HR :=
 if zbZ x = true then (if ff x 16 = true then [⟨ff x 4096, x.a⟩] else []) ++ (if ff x 32 = true then [⟨ff x 8192, x.b⟩] else []) ++ (if ffC x = true then [⟨ff x 16384, x.c⟩] else []) else []
def L34 (x : HI) : zaa := ⟨[.agg x.cells], [], [], [.vec 2 ((zak x).map HR.pv)], .slc 0 0 (zak x).length⟩
set_option maxHeartbeats 40000000 in
theorem s34 (x : HI) : zaa.ok Tryz.prog GG 34 (L34 x) := by
 refine zad mix k34 _ rfl rfl (Tab.ok (l := [(58, S58), (80, S80), (82, S82)]) ⟨t58, t80, t82, trivial⟩) (fun _ => .rounds 5) noJ ?_
 repeat' ((conv => whnf); first
  | exact trivial
  | with_reducible first | refine aj ?_ | refine ai rfl ?_ | refine ai ⟨rfl, rfl⟩ ?_
  | ((with_reducible refine ai ?_ ?_); focus exact w3)
  | with_reducible first | refine And.intro ?_ ?_ | refine zae ?_ | refine exI (i64_in (by omega) (by omega)) ?_
  | refine exI (x := ULift.up _) (Eq.refl _) ?_
  | refine exI (x := ULift.up _) ⟨rfl, by omega, Eq.refl _⟩ ?_
  | ((with_reducible intro h); first | exact absurd h (by decide) | (exfalso; revert h; simp; done))
  | with_reducible intro _)
 all_goals first
  | exact Sd.mk ⟨rfl, rfl, rfl⟩
  | (refine Sd.mk ?_; (try simp only [HI.eta, FM.eta] at *); simp_all [zak, HR.pv, rdN, zai.len]; done)
  | (refine Sd.mk ?_; (try simp only [HI.eta, FM.eta] at *); simp only [zak]; grind)
noncomputable def S34 : SFn
 | [a0], k => zdh a0 fun x => k (L34 x)
 | _, _ => .fail
theorem t34 : FnS Tryz.prog GG 34 S34 := by
 intro args k gt go R v os n h
 unfold S34 at h
 split at h
 . obtain ⟨x, _, h⟩ := zbp h
   exact ⟨_, _, s34 x, h⟩
 . cases h
end
section
abbrev zkA : List Int -> Sub := fun v => .vec 1 (v.map ipv)
abbrev ag (r : HR) (es : TM) : List Int := zaf MTS r es
def zdI (X : List Int) : Int := nth X (X.length - 1)
def zdp (i : Int) (es : TM) (r : HR) : TM := if ag r es = [] \/ zdI (ag r es) ≠ i then zan MTS r (ag r es ++ [i]) es else es
def zfy (i : Int) (es : TM) (x : HI) : TM := if (zal x).2 = true then zan MTS (zal x).1 (ag (zal x).1 es ++ [i]) es else es
def zdg : List HI -> Int -> TM -> TM -> TM × TM
 | [], _, us, ds => (us, ds)
 | x :: l, i, us, ds => zdg l (i + 1) ((zak x).foldl (zdp i) us) (zfy i ds x)
def zaW (l : List HI) : TM × TM := zdg l 0 [] []
abbrev KT (es : TM) : List HR := es.map (·.1)
section
variable {M : zaj} {k k' : M.κ} {v u : M.ν}
theorem zda : ∀ {es : List (M.κ × M.ν)}, zas M k (zan M k v es) = some v
 | [] => by
   simp only [zan, zas]
   cases h : M.deq k k with
   | isTrue e => rfl
   | isFalse e => exact absurd rfl e
 | (j, x) :: es => by
   simp only [zan]
   cases h : M.deq j k with
   | isTrue e => simp only [zas, h]
   | isFalse e => simp only [zas, h]; exact zda
theorem zbl (hk : k' ≠ k) : ∀ {es : List (M.κ × M.ν)}, zas M k' (zan M k v es) = zas M k' es
 | [] => by
   simp only [zan, zas]
   cases h : M.deq k k' with
   | isTrue e => exact absurd e.symm hk
   | isFalse e => rfl
 | (j, x) :: es => by
   simp only [zan]
   cases h : M.deq j k with
   | isTrue e =>
     subst e
     simp only [zas]
     cases h' : M.deq j k' with
     | isTrue e => exact absurd e.symm hk
     | isFalse e => rfl
   | isFalse e =>
     simp only [zas]
     cases h' : M.deq j k' with
     | isTrue e' => rfl
     | isFalse e' => exact zbl hk
theorem zfd : ∀ {es : List (M.κ × M.ν)}, zan M k v (zan M k u es) = zan M k v es
 | [] => by
   simp only [zan]
   cases h : M.deq k k with
   | isTrue e => rfl
   | isFalse e => exact absurd rfl e
 | (j, x) :: es => by
   simp only [zan]
   cases h : M.deq j k with
   | isTrue e => simp only [zan, h]
   | isFalse e => simp only [zan, h]; rw [zfd]
end
theorem zvl {r r' : HR} {X : List Int} {es : TM} : ag r' (zan MTS r X es) = if r' = r then X else ag r' es := by
 unfold ag zaf
 split
 . next h => subst h; rw [zda]; rfl
 . next h => rw [zbl h]
theorem zoT {r : HR} {X Y : List Int} {es : TM} : zan MTS r Y (zan MTS r X es) = zan MTS r Y es := zfd
theorem zoS {r : HR} {X : List Int} {es : TM} : (zas MTS r (zan MTS r X es)).isSome = true := by rw [zda]; rfl
theorem zqK {r : HR} {es : TM} : (zas MTS r es).isSome = true \/ (List.map ipv (zaf MTS r es) = [] /\ [PV.sl 1 []] = [PV.sl 1 []]) := by
 cases h : zas MTS r es with
 | none => exact .inr ⟨by rw [zaf, h]; rfl, rfl⟩
 | some v => exact .inl rfl
theorem zoM {r : HR} {X : List Int} {es : TM} (h : (KT es).Nodup) : (KT (zan MTS r X es)).Nodup := Sx.zeq (M := MTS) h
def wfT (i : Int) (es : TM) : Prop := ∀ r, srt (ag r es) /\ ∀ x ∈ ag r es, 0 <= x /\ x < i
theorem znF : ∀ {L : List Int} {a i : Int}, srt L -> (∀ x ∈ L, a <= x /\ x < i) -> a <= i -> (L.length : Int) <= i - a
 | [], a, i, _, _, h => by simp; omega
 | x :: L, a, i, hs, hb, h => by
   rw [srt, List.pairwise_cons] at hs
   have h1 := hb x (by simp)
   have := znF (L := L) (a := x + 1) (i := i) hs.2 (fun y hy => ⟨by have := hs.1 y hy; omega, (hb y (by simp [hy])).2⟩) (by omega)
   simp only [List.length_cons]
   omega
theorem ziq {i : Int} {es : TM} (h : wfT i es) (hi : 0 <= i) (r : HR) : ((ag r es).length : Int) <= i := by
 have := znF (h r).1 (h r).2 hi
 omega
theorem zft {i : Int} : wfT i [] := fun r => by
 have : ag r [] = [] := rfl
 rw [this]
 exact ⟨List.Pairwise.nil, fun x hx => by cases hx⟩
theorem zhd {i j : Int} {es : TM} (h : wfT i es) (hij : i <= j) : wfT j es := fun r => ⟨(h r).1, fun x hx => by have := (h r).2 x hx; omega⟩
theorem ziO {X : List Int} (h : X ≠ []) : X = X.dropLast ++ [zdI X] := by
 have hl : X.getLast h = zdI X := by
  have h0 := List.length_pos_iff.2 h
  have := zb0 X (X.length - 1) ⟨by omega, by omega⟩
  have e : ((X.length : Int) - 1).toNat = X.length - 1 := by omega
  rw [e] at this
  rw [List.getLast_eq_getElem]
  rw [List.getElem?_eq_getElem (by omega)] at this
  exact Option.some.inj this
 rw [<- hl]
 exact (List.dropLast_concat_getLast h).symm
theorem zkW {X : List Int} (h : X ≠ []) : zdI X ∈ X := by
 have e := ziO h
 have : zdI X ∈ X.dropLast ++ [zdI X] := by simp
 rwa [<- e] at this
theorem zug {X : List Int} {i : Int} (h : srt X) (hb : ∀ x ∈ X, x < i) : srt (X ++ [i]) := by
 rw [srt, List.pairwise_append]
 exact ⟨h, by simp, fun a ha b hb' => by simp at hb'; subst hb'; exact hb a ha⟩
theorem zpV {i : Int} {es : TM} {r : HR} (h : wfT (i + 1) es) (hi : 0 <= i) (hl : ag r es = [] \/ zdI (ag r es) ≠ i) : wfT (i + 1) (zan MTS r (ag r es ++ [i]) es) := by
 intro r'
 rw [zvl]
 split
 . have hb : ∀ x ∈ ag r es, x < i := by
    rcases hl with hl | hl
    . rw [hl]; intro x hx; cases hx
    . by_cases he : ag r es = []
      . rw [he]; intro x hx; cases hx
      . have e := ziO he
        have hs := (h r).1
        rw [e, srt, List.pairwise_append] at hs
        have hlast := (h r).2 (zdI (ag r es)) (zkW he)
        intro x hx
        rw [e] at hx
        rcases List.mem_append.1 hx with hx | hx
        . have := hs.2.2 x hx _ (List.mem_singleton.2 rfl)
          omega
        . simp at hx; omega
   refine ⟨zug (h r).1 hb, fun x hx => ?_⟩
   rcases List.mem_append.1 hx with hx | hx
   . exact (h r).2 x hx
   . simp at hx; omega
 . exact h r'
theorem zpU {i : Int} {es : TM} {r : HR} (h : wfT (i + 1) es) (hi : 0 <= i) : wfT (i + 1) (zdp i es r) := by
 unfold zdp
 split
 . next hl => exact zpV h hi hl
 . exact h
theorem zpW {i : Int} {es : TM} {x : HI} (h : wfT i es) (hi : 0 <= i) : wfT (i + 1) (zfy i es x) := by
 unfold zfy
 split
 . refine zpV (zhd h (by omega)) hi ?_
   by_cases he : ag (zal x).1 es = []
   . exact .inl he
   . right
     have e := ziO he
     have := (h (zal x).1).2 (zdI (ag (zal x).1 es)) (zkW he)
     omega
 . exact zhd h (by omega)
theorem zum {i : Int} {es : TM} {r : HR} (h : (KT es).Nodup) : (KT (zdp i es r)).Nodup := by
 unfold zdp
 split
 . exact zoM h
 . exact h
theorem zun {i : Int} {es : TM} {x : HI} (h : (KT es).Nodup) : (KT (zfy i es x)).Nodup := by
 unfold zfy
 split
 . exact zoM h
 . exact h
theorem znI {i : Int} (hi : 0 <= i) : ∀ (us : List HR) {es : TM}, wfT (i + 1) es -> wfT (i + 1) (us.foldl (zdp i) es)
 | [], _, h => h
 | r :: us, _, h => znI hi us (zpU h hi)
theorem zm1 {i : Int} : ∀ (us : List HR) {es : TM}, (KT es).Nodup -> (KT (us.foldl (zdp i) es)).Nodup
 | [], _, h => h
 | r :: us, _, h => zm1 us (zum h)
theorem zi8 : ∀ (l : List HI) {i : Int} {us ds : TM}, 0 <= i -> wfT i us -> wfT i ds -> (KT us).Nodup -> (KT ds).Nodup →
 wfT (i + l.length) (zdg l i us ds).1 /\ wfT (i + l.length) (zdg l i us ds).2 /\ (KT (zdg l i us ds).1).Nodup /\ (KT (zdg l i us ds).2).Nodup
  | [], i, us, ds, _, h1, h2, h3, h4 => by simpa [zdg] using ⟨h1, h2, h3, h4⟩
  | x :: l, i, us, ds, hi, h1, h2, h3, h4 => by
    have := zi8 l (i := i + 1) (us := (zak x).foldl (zdp i) us) (ds := zfy i ds x) (by omega) (znI hi _ (zhd h1 (by omega))) (zpW h2 hi) (zm1 _ h3) (zun h4)
    simp only [zdg, List.length_cons]
    have e : i + ((l.length + 1 : Nat) : Int) = i + 1 + l.length := by omega
    rw [e]
    exact this
end
section
structure BK where
 vec : Bool
 free : BM
 holds : IM
 at_ : IM
 slot : IM
 slots : BM
def BK.row (b : BK) (n : Nat) : SO := .row [.bool b.vec, .mp n, .mp (n + 1), .mp (n + 2), .mp (n + 3), .mp (n + 4)]
def BK.leave (b : BK) (r : Int) : BK := { b with at_ := zaO MII (zaf MII r b.holds) b.at_, holds := zaO MII r b.holds, free := zan MIB r true b.free }
def BK.free1 (b : BK) (v : Int) : BK := if (zas MII v b.at_).isSome = true then b.leave (zaf MII v b.at_) else b
def BK.free2 (b : BK) (v : Int) : BK := if (zas MII v b.slot).isSome = true then { b with slot := zaO MII v b.slot, slots := zan MIB (zaf MII v b.slot) true b.slots } else b
def BK.forget (b : BK) (v : Int) : BK := (b.free1 v).free2 v
def BK.put (b : BK) (r v : Int) : BK := { b with free := zaO MIB r b.free, holds := zan MII r v b.holds, at_ := zan MII v r b.at_ }
noncomputable def zhl (p : Nat) (f : BK -> RT) : RT := zbz p fun r => match r with
 | .agg [v, .mp a, .mp b, .mp c, .mp d, .mp e] => asB v fun v => zbh MIB a fun a => zbh MII b fun b => zbh MII c fun c => zbh MII d fun d => zbh MIB e fun e => f ⟨v, a, b, c, d, e⟩
 | _ => .fail
section
variable {gt : GT} {go : GO} {R : List Sx.Loc} {v : Option SV} {os : List (Nat × Option SO)} {k : Nat}
theorem zeH {p : Nat} {f : BK -> RT} (h : (zhl p f).Runs gt go R v os k) : ∃ x R', (f x).Runs gt go R' v os k := by
 unfold zhl at h
 obtain ⟨_, _, h⟩ := zaX h
 split at h
 . obtain ⟨_, _, h⟩ := zh4 h
   obtain ⟨_, _, h⟩ := zaP h
   obtain ⟨_, _, h⟩ := zaP h
   obtain ⟨_, _, h⟩ := zaP h
   obtain ⟨_, _, h⟩ := zaP h
   obtain ⟨_, _, h⟩ := zaP h
   exact ⟨_, _, h⟩
 . cases h
end
end
section
def zAQ : MC := .seq (.drw [om 4 0,oo 5 (.nchk (.t 4)),oo 6 (fl 3 5),oo 7 (ln 6),om 8 0,oo 9 (.nchk (.t 8)),oo 10 (fl 2 9),oo 11 (ln 10),om 12 1,oo 13 (.lkp false true [.int .i64] true [.int .i64 0] (.t 11) (.t 12)),o none (.mdel true [.int .i64] (.t 7) (.t 13))] [[],[0],[1],[2],[],[4],[5],[6],[],[7,8],[3,9]]) (.seq (.reg [om 14 0,oo 15 (.nchk (.t 14)),oo 16 (fl 2 15),oo 17 (ln 16),om 18 1,o none (.mdel true [.int .i64] (.t 17) (.t 18))]) (.reg [om 19 0,oo 20 (.nchk (.t 19)),oo 21 (fl 1 20),oo 22 (ln 21),om 23 1,o none (.mup true [.int .i64] (.t 22) (.t 23) kt)]))
theorem zB7 : zar Tryz.prog 153 24 zAQ [] := fk Tryz.func153 ⟨tv,⟨tv,tv⟩⟩
def zAA : MC := .seq (.seq (.reg [om 9 0,oo 10 (.nchk (.t 9)),oo 11 (fl 3 10),oo 12 (ln 11),om 13 1,oo 14 (.lkp true true [.int .i64] true [.int .i64 0] (.t 12) (.t 13)),om 8 14,oo 15 (ex_ 0 8),oo 16 (ex_ 1 8),om 4 15,om 5 16]) (.seq (.reg [om 17 5]) (.cond (.t 17) (.reg [om 18 0,om 19 4,oo 20 (fc 153 [(.t 18),(.t 19)])]) (.skip)))) (.seq (.reg [om 22 0,oo 23 (.nchk (.t 22)),oo 24 (fl 4 23),oo 25 (ln 24),om 26 1,oo 27 (.lkp true true [.int .i64] true [.int .i64 0] (.t 25) (.t 26)),om 21 27,oo 28 (ex_ 0 21),oo 29 (ex_ 1 21),om 6 28,om 7 29]) (.seq (.reg [om 30 7]) (.cond (.t 30) (.seq (.reg [om 31 0,oo 32 (.nchk (.t 31)),oo 33 (fl 4 32),oo 34 (ln 33),om 35 1,o none (.mdel true [.int .i64] (.t 34) (.t 35))]) (.reg [om 36 0,oo 37 (.nchk (.t 36)),oo 38 (fl 5 37),oo 39 (ln 38),om 40 6,o none (.mup true [.int .i64] (.t 39) (.t 40) kt)])) (.skip))))
theorem zBR : zar Tryz.prog 122 41 zAA [] := fk Tryz.func122 ⟨⟨tv,⟨tv,⟨tv,tv⟩⟩⟩,⟨tv,⟨tv,⟨⟨tv,tv⟩,tv⟩⟩⟩⟩
def zAC : MC := .seq (.reg [om 6 0,oo 7 (.nchk (.t 6)),oo 8 (fl 1 7),oo 9 (ln 8),om 10 1,o none (.mdel true [.int .i64] (.t 9) (.t 10))]) (.drw [om 11 0,oo 12 (.nchk (.t 11)),oo 13 (fl 2 12),oo 14 (ln 13),om 15 1,om 16 0,oo 17 (.nchk (.t 16)),oo 18 (fl 3 17),oo 19 (ln 18),om 20 2,om 21 2,om 22 1,oo 23 (.ment true [.int .i64] true [.int .i64 0] (.t 14) (.t 15)),oo 24 (ex_ 1 23),o none (.mest (.t 14) (.t 24) (.t 21)),oo 25 (.ment true [.int .i64] true [.int .i64 0] (.t 19) (.t 20)),oo 26 (ex_ 1 25),o none (.mest (.t 19) (.t 26) (.t 22))] [[],[0],[1],[2],[],[],[5],[6],[7],[],[],[],[3,4,8],[12],[3,13,10,12,0,1,2,3,4,8,10,12],[8,9,14,0,1,2,3,4,8,10,12,13,14],[15],[8,16,11,15,0,1,2,3,4,5,6,7,8,9,10,11,12,13,14,15]])
theorem zBT : zar Tryz.prog 124 27 zAC [] := fk Tryz.func124 ⟨tv,tv⟩
attribute [local irreducible] Go.Sx.zaf Go.Sx.zas Go.Sx.zan Go.Sx.zaO
theorem zv0 {b : BK} {v : Int} (h : (zas MII v b.at_).isSome = true) : b.free1 v = b.leave (zaf MII v b.at_) := by unfold BK.free1; rw [if_pos h]
theorem zv1 {b : BK} {v : Int} (h : (zas MII v b.at_).isSome = false) : b.free1 v = b := by unfold BK.free1; rw [if_neg (by rw [h]; decide)]
theorem zrn {b : BK} {v : Int} : (b.free1 v).slot = b.slot /\ (b.free1 v).slots = b.slots /\ (b.free1 v).vec = b.vec := by unfold BK.free1; split <;> exact ⟨rfl, rfl, rfl⟩
theorem zv4 {b c : BK} {v : Int} (e : b.free1 v = c) (h : (zas MII v b.slot).isSome = true) : b.forget v = { c with slot := zaO MII v b.slot, slots := zan MIB (zaf MII v b.slot) true b.slots } := by
 subst e; unfold BK.forget BK.free2; rw [zrn.1, if_pos h, zrn.2.1]
theorem zv5 {b c : BK} {v : Int} (e : b.free1 v = c) (h : (zas MII v b.slot).isSome = false) : b.forget v = c := by
 subst e; unfold BK.forget BK.free2; rw [zrn.1, if_neg (by rw [h]; decide)]
theorem eqm {M : zaj} {a b : List (M.κ × M.ν)} (h : a = b) : SO.map M a none = SO.map M b none := by rw [h]
noncomputable def zuK (b : BK) (r : Int) : zaa := ⟨[.ptr 0 0 0, kz r], [.row [.bool b.vec, .mp 1, .mp 2, .mp 3, .mp 4, .mp 5], .map MIB b.free none, .map MII b.holds none, .map MII b.at_ none, .map MII b.slot none, .map MIB b.slots none], [some (.row [.bool (b.leave r).vec, .mp 1, .mp 2, .mp 3, .mp 4, .mp 5]), some (.map MIB (b.leave r).free none), some (.map MII (b.leave r).holds none), some (.map MII (b.leave r).at_ none), some (.map MII (b.leave r).slot none), some (.map MIB (b.leave r).slots none)], [], .tup []⟩
set_option maxHeartbeats 2000000 in
theorem zDp (b : BK) (r : Int) : zaa.ok Tryz.prog GG 153 (zuK b r) := by
 refine zad mix zB7 _ rfl rfl (Tab.ok (l := []) trivial) noL noJ ?_
 repeat' ((conv => whnf); first
  | exact trivial
  | with_reducible first | refine aj ?_ | refine ai rfl ?_ | refine ai ⟨rfl, rfl⟩ ?_
  | ((with_reducible refine ai ?_ ?_); focus exact w3)
  | refine And.intro (Sd.mk (p := zaj.one MII = _ /\ _) ⟨rfl, rfl⟩) ?_
  | refine And.intro (Sd.mk (p := zaj.vone MII = _ /\ _) ⟨rfl, rfl⟩) ?_
  | refine And.intro (Sd.mk (p := zaj.one MIB = _ /\ _) ⟨rfl, rfl⟩) ?_
  | refine And.intro (Sd.mk (p := zaj.vone MIB = _ /\ _) ⟨rfl, rfl⟩) ?_
  | apply exI (x := (ULift.up (_ : Bool) : ULift.{1} Bool)) trivial
  | apply exI (x := (ULift.up (_ : Int) : ULift.{1} Int)) trivial
  | with_reducible first | refine And.intro ?_ ?_ | refine zae ?_ | refine exI (i64_in (by omega) (by omega)) ?_
  | refine exI (x := ULift.up _) (Eq.refl _) ?_
  | refine exI (x := ULift.up _) ⟨rfl, by omega, Eq.refl _⟩ ?_
  | exact nx
  | ((with_reducible intro h); try dsimp only at h))
 all_goals (refine Sd.mk ?_)
noncomputable def zqj : SFn
 | [.ptr p _ _, .int .i64 r], k => zhl p fun b => k (zuK b r)
 | _, _ => .fail
theorem zEs : FnS Tryz.prog GG 153 zqj := by
 intro args k gt go R v os n h
 unfold zqj at h
 split at h
 . obtain ⟨b, _, h⟩ := zeH h
   exact ⟨_, _, zDp b _, h⟩
 . cases h
noncomputable def zuu (b : BK) (v : Int) : zaa := ⟨[.ptr 0 0 0, kz v], [.row [.bool b.vec, .mp 1, .mp 2, .mp 3, .mp 4, .mp 5], .map MIB b.free none, .map MII b.holds none, .map MII b.at_ none, .map MII b.slot none, .map MIB b.slots none], [some (.row [.bool (b.forget v).vec, .mp 1, .mp 2, .mp 3, .mp 4, .mp 5]), some (.map MIB (b.forget v).free none), some (.map MII (b.forget v).holds none), some (.map MII (b.forget v).at_ none), some (.map MII (b.forget v).slot none), some (.map MIB (b.forget v).slots none)], [], .tup []⟩
set_option maxHeartbeats 2000000 in
theorem zC9 (b : BK) (v : Int) : zaa.ok Tryz.prog GG 122 (zuu b v) := by
 refine zad mix zBR _ rfl rfl (Tab.ok (l := [(153, zqj)]) ⟨zEs, trivial⟩) noL noJ ?_
 repeat' ((conv => whnf); first
  | exact trivial
  | with_reducible first | refine aj ?_ | refine ai rfl ?_ | refine ai ⟨rfl, rfl⟩ ?_
  | ((with_reducible refine ai ?_ ?_); focus exact w3)
  | refine And.intro (Sd.mk (p := zaj.one MII = _ /\ _) ⟨rfl, rfl⟩) ?_
  | refine And.intro (Sd.mk (p := zaj.vone MII = _ /\ _) ⟨rfl, rfl⟩) ?_
  | refine And.intro (Sd.mk (p := zaj.one MIB = _ /\ _) ⟨rfl, rfl⟩) ?_
  | refine And.intro (Sd.mk (p := zaj.vone MIB = _ /\ _) ⟨rfl, rfl⟩) ?_
  | apply exI (x := (ULift.up (_ : Bool) : ULift.{1} Bool)) trivial
  | apply exI (x := (ULift.up (_ : Int) : ULift.{1} Int)) trivial
  | with_reducible first | refine And.intro ?_ ?_ | refine zae ?_ | refine exI (i64_in (by omega) (by omega)) ?_
  | refine exI (x := ULift.up _) (Eq.refl _) ?_
  | refine exI (x := ULift.up _) ⟨rfl, by omega, Eq.refl _⟩ ?_
  | exact nx
  | ((with_reducible intro h); try dsimp only at h))
 all_goals (refine Sd.mk ?_)
 all_goals first
  | (rw [zv4 (b := b) (v := v) (zv0 ‹_›) ‹_›] <;> rfl)
  | (rw [zv5 (b := b) (v := v) (zv0 ‹_›) ‹_›] <;> rfl)
  | (rw [zv4 (b := b) (v := v) (zv1 ‹_›) ‹_›] <;> rfl)
  | (rw [zv5 (b := b) (v := v) (zv1 ‹_›) ‹_›] <;> rfl)
noncomputable def zp8 : SFn
 | [.ptr p _ _, .int .i64 v], k => zhl p fun b => k (zuu b v)
 | _, _ => .fail
theorem zEh : FnS Tryz.prog GG 122 zp8 := by
 intro args k gt go R v os n h
 unfold zp8 at h
 split at h
 . obtain ⟨b, _, h⟩ := zeH h
   exact ⟨_, _, zC9 b _, h⟩
 . cases h
noncomputable def zuw (b : BK) (r : Int) (v : Int) : zaa := ⟨[.ptr 0 0 0, kz r, kz v], [.row [.bool b.vec, .mp 1, .mp 2, .mp 3, .mp 4, .mp 5], .map MIB b.free none, .map MII b.holds none, .map MII b.at_ none, .map MII b.slot none, .map MIB b.slots none], [some (.row [.bool (b.put r v).vec, .mp 1, .mp 2, .mp 3, .mp 4, .mp 5]), some (.map MIB (b.put r v).free none), some (.map MII (b.put r v).holds none), some (.map MII (b.put r v).at_ none), some (.map MII (b.put r v).slot none), some (.map MIB (b.put r v).slots none)], [], .tup []⟩
set_option maxHeartbeats 2000000 in
theorem zDb (b : BK) (r : Int) (v : Int) : zaa.ok Tryz.prog GG 124 (zuw b r v) := by
 refine zad mix zBT _ rfl rfl (Tab.ok (l := []) trivial) noL noJ ?_
 repeat' ((conv => whnf); first
  | exact trivial
  | with_reducible first | refine aj ?_ | refine ai rfl ?_ | refine ai ⟨rfl, rfl⟩ ?_
  | ((with_reducible refine ai ?_ ?_); focus exact w3)
  | refine And.intro (Sd.mk (p := zaj.one MII = _ /\ _) ⟨rfl, rfl⟩) ?_
  | refine And.intro (Sd.mk (p := zaj.vone MII = _ /\ _) ⟨rfl, rfl⟩) ?_
  | refine And.intro (Sd.mk (p := zaj.one MIB = _ /\ _) ⟨rfl, rfl⟩) ?_
  | refine And.intro (Sd.mk (p := zaj.vone MIB = _ /\ _) ⟨rfl, rfl⟩) ?_
  | apply exI (x := (ULift.up (_ : Bool) : ULift.{1} Bool)) trivial
  | apply exI (x := (ULift.up (_ : Int) : ULift.{1} Int)) trivial
  | with_reducible first | refine And.intro ?_ ?_ | refine zae ?_ | refine exI (i64_in (by omega) (by omega)) ?_
  | refine exI (x := ULift.up _) (Eq.refl _) ?_
  | refine exI (x := ULift.up _) ⟨rfl, by omega, Eq.refl _⟩ ?_
  | exact nx
  | ((with_reducible intro h); try dsimp only at h))
 all_goals (refine Sd.mk ?_)
 all_goals first
  | exact eqm (zfd (M := MII)).symm
noncomputable def znT : SFn
 | [.ptr p _ _, .int .i64 r, .int .i64 v], k => zhl p fun b => k (zuw b r v)
 | _, _ => .fail
theorem zxL : FnS Tryz.prog GG 124 znT := by
 intro args k gt go R v os n h
 unfold znT at h
 split at h
 . obtain ⟨b, _, h⟩ := zeH h
   exact ⟨_, _, zDb b _ _, h⟩
 . cases h
end
section
def zAB : MC := .seq (.reg [oo 8 (.mv (ki 0))]) (.seq (.seq (.reg [om 9 1,oo 10 (.nchk (.t 9)),oo 11 (fl 1 10),oo 12 (ln 11),oo 13 (.lenM (.t 12)),oo 14 (cc .eql 13 0)]) (.cond (.t 14) (.reg [om 15 0,om 16 1,om 17 2,om 18 3,oo 19 (fc 154 [(.t 15),(.t 16),(.t 17),(.t 18)])]) (.skip))) (.seq (.reg [om 20 1,oo 21 (.nchk (.t 20)),oo 22 (fl 1 21),oo 23 (ln 22),oo 24 (fc 155 [(.t 23),(.k (.fn (.func 96) [] []))]),oo 25 (.ixa 1 (.t 24) (ki 0)),oo 26 (ln 25),om 8 26]) (.ret)))
theorem zBS : zar Tryz.prog 123 27 zAB [.t 8] := fk Tryz.func123 ⟨tv,⟨⟨tv,⟨tv,tv⟩⟩,⟨tv,tv⟩⟩⟩
def c73 : MC := .seq (.reg [oo 4 (.mv (.k (.val (.pointer none))))]) (.seq (.reg [om 9 0,oo 10 (.mkm),oo 11 (.mkm),oo 12 (.mkm),oo 13 (.mkm),oo 14 (.mkm),oo 15 (.bld [.ff,(.val (.map none)),(.val (.map none)),(.val (.map none)),(.val (.map none)),(.val (.map none))] [(0,1,(.t 9)),(1,1,(.t 10)),(2,1,(.t 11)),(3,1,(.t 12)),(4,1,(.t 13)),(5,1,(.t 14))]),oo 16 (.box (.t 15)),om 5 16]) (.seq (.seq (.reg [om 17 1,oo 18 (.mv (ki 0))]) (.blk 0 (.loop 0 (.seq (.reg [oo 19 (ct .lss 18 17)]) (.seq (.cond (.t 19) (.skip) (.exit 0)) (.seq (.blk 1 (.seq (.reg [om 20 18,om 6 20]) (.reg [om 21 5,oo 22 (.nchk (.t 21)),oo 23 (fl 1 22),oo 24 (ln 23),om 25 6,o none (.mup true [.int .i64] (.t 24) (.t 25) kt)]))) (.reg [oo 26 (ac .add 18 1),om 18 26]))))))) (.seq (.seq (.reg [om 27 0]) (.cond (.t 27) (.seq (.reg [oo 7 (.mv (ki 208))]) (.blk 2 (.loop 1 (.seq (.seq (.reg [om 28 7,oo 29 (ac .add 28 4),oo 30 (cc .leq 29 512)]) (.cond (.t 30) (.skip) (.exit 2))) (.seq (.blk 3 (.reg [om 33 5,oo 34 (.nchk (.t 33)),oo 35 (fl 5 34),oo 36 (ln 35),om 37 7,o none (.mup true [.int .i64] (.t 36) (.t 37) kt)])) (.reg [om 31 7,oo 32 (ac .add 31 4),om 7 32])))))) (.seq (.reg [oo 38 (.mv (ki 0))]) (.blk 4 (.loop 2 (.seq (.reg [oo 39 (cc .lss 38 208)]) (.seq (.cond (.t 39) (.skip) (.exit 4)) (.seq (.blk 5 (.seq (.reg [om 40 38,om 8 40]) (.reg [om 41 5,oo 42 (.nchk (.t 41)),oo 43 (fl 5 42),oo 44 (ln 43),om 45 8,o none (.mup true [.int .i64] (.t 44) (.t 45) kt)]))) (.reg [oo 46 (ac .add 38 1),om 38 46]))))))))) (.seq (.reg [om 47 5,om 4 47]) (.ret)))))
theorem k73 : zar Tryz.prog 73 48 c73 [.t 4] := fk Tryz.func73 ⟨tv,⟨tv,⟨⟨tv,⟨tv,⟨⟨tv,tv⟩,⟨⟨tv,tv⟩,tv⟩⟩⟩⟩,⟨⟨tv,⟨⟨tv,⟨⟨tv,⟨tv,tv⟩⟩,⟨tv,tv⟩⟩⟩,⟨tv,⟨tv,⟨⟨tv,tv⟩,⟨⟨tv,tv⟩,tv⟩⟩⟩⟩⟩⟩,⟨tv,tv⟩⟩⟩⟩⟩
attribute [local irreducible] Go.Sx.zaf Go.Sx.zas Go.Sx.zan Go.Sx.zaO zbO
def BK.top (b : BK) : Int := nth (zbO (K1I b.free)) 0
theorem zEN {b : BK} (h0 : b.free ≠ []) (h : ((b.free.length : Nat) : Int) = 0) : False := by
 have := List.length_pos_iff.2 h0
 omega
theorem zEO {b : BK} (h0 : b.free ≠ []) : 0 <= (0 : Int) /\ (0 : Int) < ((b.free.length : Nat) : Int) := by
 have := List.length_pos_iff.2 h0
 omega
theorem zEP {b : BK} (h0 : b.free ≠ []) : 0 <= (0 : Int) /\ (0 : Int) < ((zbO (K1I b.free)).length : Nat) := by
 have := List.length_pos_iff.2 h0
 have := (zoD (K1I b.free)).length_eq
 rw [List.length_map] at this
 omega
def upN (f : Nat -> Int) : Nat -> BM
 | 0 => []
 | k + 1 => zan MIB (f k) true (upN f k)
def slV (x : Int) : BM := upN (fun j => 208 + 4 * j) ((x - 208) / 4).toNat
def slW (x : Int) : BM := upN (fun j => j) x.toNat
theorem zrV {x : Int} (h : 208 <= x) (h4 : (x - 208) % 4 = 0) : slV (x + 4) = zan MIB x true (slV x) := by
 unfold slV
 have e : ((x + 4 - 208) / 4).toNat = ((x - 208) / 4).toNat + 1 := by omega
 have e2 : 208 + 4 * ((((x - 208) / 4).toNat : Nat) : Int) = x := by omega
 rw [e, upN, e2]
theorem zmN {x : Int} (h : 0 <= x) : slW (x + 1) = zan MIB x true (slW x) := by
 unfold slW
 have e : (x + 1).toNat = x.toNat + 1 := by omega
 have e2 : ((x.toNat : Nat) : Int) = x := by omega
 rw [e, upN, e2]
def zdm (vec : Bool) (n : Int) : BK := ⟨vec, slW n, [], [], [], if vec = true then slV 512 else slW 208⟩
abbrev C73 := Int × BM × BM
def zrL (vec : Bool) (fr sl : BM) : List (Nat × Option SO) := [(5, some (.row [.bool vec, .mp 0, .mp 1, .mp 2, .mp 3, .mp 4])), (0, some (.map MIB fr none)), (1, some (.map MII [] none)), (2, some (.map MII [] none)), (3, some (.map MII [] none)), (4, some (.map MIB sl none))]
def zwn (vec : Bool) (n : Int) : C73 -> St
 | (i, fr, sl) => ⟨[(18, kz i), (17, kz n), (5, .ptr 5 0 0), (0, .bool vec)], zrL vec fr sl, 6⟩
def zwo (vec : Bool) : C73 -> St
 | (i, fr, sl) => ⟨[(7, kz i), (5, .ptr 5 0 0)], zrL vec fr sl, 6⟩
def zwp (vec : Bool) : C73 -> St
 | (i, fr, sl) => ⟨[(38, kz i), (5, .ptr 5 0 0)], zrL vec fr sl, 6⟩
def zgF (n : Int) : C73 -> Prop
 | (i, fr, sl) => 0 <= i /\ i <= n /\ n <= 1000 /\ fr = slW i /\ sl = []
def zgG : C73 -> C73 -> Prop
 | (_, fr0, _), (i, fr, sl) => 208 <= i /\ i <= 512 /\ (i - 208) % 4 = 0 /\ fr = fr0 /\ sl = slV i
def zgH : C73 -> C73 -> Prop
 | (_, fr0, _), (i, fr, sl) => 0 <= i /\ i <= 208 /\ fr = fr0 /\ sl = slW i
def zz5 (vec : Bool) (n : Int) : Nat -> zcA
 | 0 => .inv C73 (fun _ => zgF n) (zwn vec n) (fun c => (n - c.1).toNat)
 | 1 => .inv C73 zgG (zwo vec) (fun c => (512 - c.1).toNat)
 | _ => .inv C73 zgH (zwp vec) (fun c => (208 - c.1).toNat)
theorem zvs {n : Int} {Q : C73 -> Prop} (h : ∀ i fr, zgF n (i, fr, []) -> Q (i, fr, [])) : ∀ c, zgF n c -> Q c := fun ⟨i, fr, sl⟩ hI => by
 obtain ⟨h1, h2, h3, h4, h5⟩ := hI
 subst h5
 exact h _ _ ⟨h1, h2, h3, h4, rfl⟩
theorem zvt {i0 fr sl0} {Q : C73 -> Prop} (h : ∀ i sl, zgG (i0, fr, sl0) (i, fr, sl) -> Q (i, fr, sl)) : ∀ c, zgG (i0, fr, sl0) c -> Q c := fun ⟨i, fr', sl⟩ hI => by
 obtain ⟨h1, h2, h3, h4, h5⟩ := hI
 subst h4
 exact h _ _ ⟨h1, h2, h3, rfl, h5⟩
theorem zvu {i0 fr sl0} {Q : C73 -> Prop} (h : ∀ i sl, zgH (i0, fr, sl0) (i, fr, sl) -> Q (i, fr, sl)) : ∀ c, zgH (i0, fr, sl0) c -> Q c := fun ⟨i, fr', sl⟩ hI => by
 obtain ⟨h1, h2, h4, h5⟩ := hI
 subst h4
 exact h _ _ ⟨h1, h2, rfl, h5⟩
theorem zy7 {n : Int} (h : 0 <= n) (h2 : n <= 1000) : zgF n (0, [], []) := ⟨by omega, h, h2, rfl, rfl⟩
theorem zCL {n i : Int} {fr : BM} (hI : zgF n (i, fr, [])) (h : i < n) : zgF n (i + 1, zan MIB i true fr, []) /\ (n - (i + 1)).toNat < (n - i).toNat := by
 obtain ⟨h1, h2, h3, h4, h5⟩ := hI
 exact ⟨⟨by omega, by omega, h3, by rw [zmN h1, h4], rfl⟩, by omega⟩
theorem zy8 {fr : BM} : zgG (208, fr, []) (208, fr, []) := ⟨by omega, by omega, by omega, rfl, rfl⟩
theorem zCM {i0 i : Int} {fr sl0 sl : BM} (hI : zgG (i0, fr, sl0) (i, fr, sl)) (h : i + 4 <= 512) : zgG (i0, fr, sl0) (i + 4, fr, zan MIB i true sl) /\ (512 - (i + 4)).toNat < (512 - i).toNat := by
 obtain ⟨h1, h2, h3, h4, h5⟩ := hI
 exact ⟨⟨by omega, by omega, by omega, rfl, by rw [zrV h1 h3, h5]⟩, by omega⟩
theorem zy9 {fr : BM} : zgH (0, fr, []) (0, fr, []) := ⟨by omega, by omega, rfl, rfl⟩
theorem zCN {i0 i : Int} {fr sl0 sl : BM} (hI : zgH (i0, fr, sl0) (i, fr, sl)) (h : i < 208) : zgH (i0, fr, sl0) (i + 1, fr, zan MIB i true sl) /\ (208 - (i + 1)).toNat < (208 - i).toNat := by
 obtain ⟨h1, h2, h4, h5⟩ := hI
 exact ⟨⟨by omega, by omega, rfl, by rw [zmN h1, h5]⟩, by omega⟩
theorem zCO {n i : Int} {vec : Bool} {fr : BM} (hI : zgF n (i, fr, [])) (h : ¬ i < n) : SO.map MIB (zdm vec n).free none = SO.map MIB fr none := by
 obtain ⟨h1, h2, h3, h4, h5⟩ := hI
 have : i = n := by omega
 rw [h4, this]; rfl
theorem zza {n i0 i : Int} {fr sl0 sl : BM} (hI : zgG (i0, fr, sl0) (i, fr, sl)) (h : ¬ i + 4 <= 512) {vec : Bool} (hv : vec = true) : SO.map MIB (zdm vec n).slots none = SO.map MIB sl none := by
 obtain ⟨h1, h2, h3, h4, h5⟩ := hI
 have : i = 512 := by omega
 rw [h5, this]; unfold zdm; rw [hv]; rfl
theorem zzb {n i0 i : Int} {fr sl0 sl : BM} (hI : zgH (i0, fr, sl0) (i, fr, sl)) (h : ¬ i < 208) {vec : Bool} (hv : vec = false) : SO.map MIB (zdm vec n).slots none = SO.map MIB sl none := by
 obtain ⟨h1, h2, h4, h5⟩ := hI
 have : i = 208 := by omega
 rw [h5, this]; unfold zdm; rw [hv]; rfl
noncomputable def zuv (b : BK) (i : Int) : zaa := ⟨[.any, .ptr 0 0 0, kz i, .any], [.row [.bool b.vec, .mp 1, .mp 2, .mp 3, .mp 4, .mp 5], .map MIB b.free none, .map MII b.holds none, .map MII b.at_ none, .map MII b.slot none, .map MIB b.slots none], [some (.row [.bool b.vec, .mp 1, .mp 2, .mp 3, .mp 4, .mp 5]), some (.map MIB b.free none), some (.map MII b.holds none), some (.map MII b.at_ none), some (.map MII b.slot none), some (.map MIB b.slots none)], [], kz b.top⟩
set_option maxHeartbeats 2000000 in
theorem zDa (b : BK) (i : Int) (hn : (K1I b.free).Nodup) (hl : b.free.length <= 12) (h0 : b.free ≠ []) : zaa.ok Tryz.prog GG 123 (zuv b i) := by
 refine zad mix zBS _ rfl rfl (Tab.ok (l := [(155, zqk)]) ⟨zEt, trivial⟩) noL noJ ?_
 repeat' ((conv => whnf); first
  | exact trivial
  | with_reducible first | refine aj ?_ | refine ai rfl ?_ | refine ai ⟨rfl, rfl⟩ ?_
  | ((with_reducible refine ai ?_ ?_); focus exact w3)
  | refine And.intro (Sd.mk (p := zaj.one MII = _ /\ _) ⟨rfl, rfl⟩) ?_
  | refine And.intro (Sd.mk (p := zaj.vone MII = _ /\ _) ⟨rfl, rfl⟩) ?_
  | refine And.intro (Sd.mk (p := zaj.one MIB = _ /\ _) ⟨rfl, rfl⟩) ?_
  | refine And.intro (Sd.mk (p := zaj.vone MIB = _ /\ _) ⟨rfl, rfl⟩) ?_
  | apply exI (x := (ULift.up (_ : Bool) : ULift.{1} Bool)) trivial
  | apply exI (x := (ULift.up (_ : Int) : ULift.{1} Int)) trivial
  | ((with_reducible intro h); exact (zEN h0 h).elim)
  | with_reducible first | refine And.intro (Sd.mk (p := List.Nodup _ /\ _) ⟨hn, hl⟩) ?_ | refine ai (zEO h0) ?_
  | refine exI (x := ULift.up _) (zbS _ _ _ (zEP h0)) ?_
  | with_reducible first | refine And.intro ?_ ?_ | refine zae ?_ | refine exI (i64_in (by omega) (by omega)) ?_
  | refine exI (x := ULift.up _) (Eq.refl _) ?_
  | refine exI (x := ULift.up _) ⟨rfl, by omega, Eq.refl _⟩ ?_
  | exact nx
  | ((with_reducible intro h); try dsimp only at h))
 all_goals (refine Sd.mk ?_)
noncomputable def znS : SFn
 | [_, .ptr p _ _, .int .i64 i, _], k => zhl p fun b => .req ((K1I b.free).Nodup /\ b.free.length <= 12 /\ b.free ≠ []) (k (zuv b i))
 | _, _ => .fail
theorem zxK : FnS Tryz.prog GG 123 znS := by
 intro args k gt go R v os n h
 unfold znS at h
 split at h
 . obtain ⟨b, _, h⟩ := zeH h
   obtain ⟨hp, _, h⟩ := zaz h
   exact ⟨_, _, zDa b _ hp.1 hp.2.1 hp.2.2, h⟩
 . cases h
noncomputable def L73 (vec : Bool) (n : Int) : zaa := ⟨[.bool vec, kz n], [], [], [.row [.bool (zdm vec n).vec, .mp 1, .mp 2, .mp 3, .mp 4, .mp 5], .map MIB (zdm vec n).free none, .map MII (zdm vec n).holds none, .map MII (zdm vec n).at_ none, .map MII (zdm vec n).slot none, .map MIB (zdm vec n).slots none], .ptr 0 0 0⟩
set_option maxHeartbeats 4000000 in
theorem s73 (vec : Bool) (n : Int) (h0 : 0 <= n) (h1 : n <= 1000) : zaa.ok Tryz.prog GG 73 (L73 vec n) := by
 refine zad mix k73 _ rfl rfl (Tab.ok (l := []) trivial) (zz5 vec n) noJ ?_
 repeat' ((conv => whnf); first
  | exact trivial
  | with_reducible first | refine aj ?_ | refine ai rfl ?_ | refine ai ⟨rfl, rfl⟩ ?_
  | ((with_reducible refine ai ?_ ?_); focus exact w3)
  | with_reducible first | refine zvs ?_ | refine zvt ?_ | refine zvu ?_ | apply exW (γ := C73) (c := (_, _, _))
  | apply exI (α := zaj) trivial
  | refine And.intro (Sd.mk (p := zaj.one MII = _ /\ _) ⟨rfl, rfl⟩) ?_
  | refine And.intro (Sd.mk (p := zaj.vone MII = _ /\ _) ⟨rfl, rfl⟩) ?_
  | refine And.intro (Sd.mk (p := zaj.one MIB = _ /\ _) ⟨rfl, rfl⟩) ?_
  | refine And.intro (Sd.mk (p := zaj.vone MIB = _ /\ _) ⟨rfl, rfl⟩) ?_
  | apply exI (x := (ULift.up (_ : Bool) : ULift.{1} Bool)) trivial
  | apply exI (x := (ULift.up (_ : Int) : ULift.{1} Int)) trivial
  | with_reducible first | refine exI (i64_in (by simp only [zgF, zgG, zgH] at *; omega) (by simp only [zgF, zgG, zgH] at *; omega)) ?_ | refine And.intro ?_ ?_ | refine zae ?_ | refine exI (i64_in (by omega) (by omega)) ?_
  | refine exI (x := ULift.up _) (Eq.refl _) ?_
  | refine exI (x := ULift.up _) ⟨rfl, by omega, Eq.refl _⟩ ?_
  | exact nx
  | ((with_reducible intro h); try dsimp only at h))
 all_goals (refine Sd.mk ?_)
 all_goals first
  | exact zy7 h0 h1
  | exact zCL ‹_› ‹_›
  | exact zy8
  | exact zCM ‹_› ‹_›
  | exact zy9
  | exact zCN ‹_› ‹_›
  | exact zCO ‹_› ‹_›
  | exact zza ‹_› ‹_› ‹_›
  | exact zzb ‹_› ‹_› ‹_›
noncomputable def S73 : SFn
 | [a0, .int .i64 n], k => asB a0 fun vec => .req (0 <= n /\ n <= 1000) (k (L73 vec n))
 | _, _ => .fail
theorem t73 : FnS Tryz.prog GG 73 S73 := by
 intro args k gt go R v os n h
 unfold S73 at h
 split at h
 . obtain ⟨vec, _, h⟩ := zh4 h
   obtain ⟨hp, _, h⟩ := zaz h
   exact ⟨_, _, s73 vec _ hp.1 hp.2, h⟩
 . cases h
end
section
def c38 : MC := .seq (.reg [oo 3 (.box (.t 0)),oo 6 (.alloc zI),oo 7 (.mv (ki 0))]) (.seq (.seq (.reg [oo 13 (ls 15 3),oo 14 (fc 58 [(.t 13)]),oo 15 (.not (.t 14))]) (.cond (.t 15) (.seq (.reg [oo 16 (.bld zI []),o none (.st (some 15) (.t 6) (.t 16)),oo 7 (.mv (ki 170))]) (.ret)) (.skip))) (.seq (.reg [oo 18 (fl 0 3),oo 19 (ln 18),oo 20 (fc 80 [(.t 19)]),om 17 20,oo 21 (ex_ 0 17),oo 22 (ex_ 1 17),oo 8 (.alloc [(.str ⟨#[]⟩),(kz 0),(kz 0)]),o none (.st (some 3) (.t 8) (.t 21)),om 9 22]) (.seq (.reg [oo 23 (ls 3 8),oo 24 (fc 82 [(.t 23),(.t 3)]),om 10 24]) (.seq (.seq (.reg [om 25 2,oo 26 (.lenS (.t 25)),om 27 10,oo 28 (.lenS (.t 27)),oo 29 (ct .neq 26 28),sm 30 29,mf 30 31 1,gf 30 32 (cc .lss 31 0),oo 33 (pt 30 32),sm 34 33,mf 34 35 1,gf 34 36 (cc .neq 35 0),ogs 34 false (some 37) (.mv (.t 36)),gt_ 37 38 (ls 3 8),gt_ 37 39 (fc 81 [(.t 38),(ki 8)]),gt_ 37 40 (.not (.t 39)),gf 34 41 (pf 37 40),oo 42 (pt 34 41)]) (.cond (.t 42) (.seq (.reg [oo 43 (.bld zI []),o none (.st (some 15) (.t 6) (.t 43)),oo 7 (.mv (ki 1))]) (.ret)) (.skip))) (.seq (.seq (.reg [om 44 10,oo 45 (.lenS (.t 44)),oo 46 (.mv (ki 0))]) (.blk 0 (.loop 0 (.seq (.reg [oo 47 (ct .lss 46 45)]) (.seq (.cond (.t 47) (.skip) (.exit 0)) (.seq (.blk 1 (.seq (.reg [om 48 46,oo 49 (ia 2 44 46),oo 50 (ls 2 49),oo 12 (.alloc [(.val (.pointer none)),.ff]),om 11 48,o none (.st (some 2) (.t 12) (.t 50))]) (.seq (.seq (.reg [om 51 2,om 52 11,oo 53 (ia 1 51 52),oo 54 (ln 53),oo 55 (cc .lss 54 0)]) (.cond (.t 55) (.seq (.reg [oo 56 (.bld zI []),o none (.st (some 15) (.t 6) (.t 56)),oo 7 (.mv (ki 1))]) (.ret)) (.skip))) (.drw [oo 57 (fl 0 12),oo 58 (ln 57),om 59 2,om 60 11,oo 61 (ia 1 59 60),oo 62 (ln 61),oo 63 (.nchk (.t 58)),o none (.st (some 1) (.t 63) (.t 62))] [[],[0],[],[],[2,3],[4],[1,0,1,2,3,4,5],[6,5,0,1,2,3,4,5]])))) (.reg [oo 64 (ac .add 46 1),om 46 64]))))))) (.seq (.seq (.reg [oo 65 (ls 3 8),oo 66 (fc 81 [(.t 65),(ki 8)])]) (.cond (.t 66) (.reg [om 67 1,oo 68 (fl 4 3),o none (.st (some 1) (.t 68) (.t 67))]) (.skip))) (.seq (.reg [oo 69 (ls 15 3),o none (.st (some 15) (.t 6) (.t 69)),oo 7 (.mv (ki 0))]) (.ret))))))))
theorem k38 : zar Tryz.prog 38 70 c38 [.c 6 (some 15),.t 7] := fk Tryz.func38 ⟨tv,⟨⟨tv,⟨⟨tv,tv⟩,tv⟩⟩,⟨tv,⟨tv,⟨⟨tv,⟨⟨tv,tv⟩,tv⟩⟩,⟨⟨tv,⟨tv,⟨⟨tv,tv⟩,⟨⟨tv,⟨⟨tv,⟨⟨tv,tv⟩,tv⟩⟩,tv⟩⟩,tv⟩⟩⟩⟩,⟨⟨tv,⟨tv,tv⟩⟩,⟨tv,tv⟩⟩⟩⟩⟩⟩⟩⟩
def zgA : HI := ⟨0, 0, 0, 0, 0, 0, 0, 0, 0, 0, 0, 0, 0, 0, 0⟩
def b2n (b : Bool) : Nat := match b with | true => 1 | false => 0
def zep (us : List Int) : Bool := us.any fun u => decide (u < 0)
def zc9 (x : HI) (d : Int) (us : List Int) : HI × Int :=
 if zbZ x = false then (zgA, 170)
 else if us.length ≠ (zak x).length \/ d < 0 \/ (d ≠ 0 /\ ff x 8 = false) then (zgA, 1)
 else if zep us = true then (zgA, 1)
 else ({ x with
  d := if ff x 8 = true then d else x.d
  a := if ff x 16 = true then us.getD 0 0 else x.a
  b := if ff x 32 = true then us.getD (b2n (ff x 16)) 0 else x.b
  c := if ffC x = true then us.getD (b2n (ff x 16) + b2n (ff x 32)) 0 else x.c }, 0)
theorem zrw (us : List Int) (n : Int) (h : 0 <= n /\ n < us.length) : (us.map ipv)[n.toNat]? = some (ipv (us.getD n.toNat 0)) := by
 have h1 : n.toNat < us.length := by omega
 rw [List.getElem?_map, List.getElem?_eq_getElem h1]
 simp [List.getD_eq_getElem?_getD, List.getElem?_eq_getElem h1]
theorem zAk {us : List Int} (h : us.length = 3) : zep us = (decide (us.getD 0 0 < 0) || decide (us.getD 1 0 < 0) || decide (us.getD 2 0 < 0)) := by
 match us, h with
 | [a, b, c], _ => simp [zep, Bool.or_assoc]
theorem zAj {us : List Int} (h : us.length = 2) : zep us = (decide (us.getD 0 0 < 0) || decide (us.getD 1 0 < 0)) := by
 match us, h with
 | [a, b], _ => simp [zep]
theorem zAi {us : List Int} (h : us.length = 1) : zep us = decide (us.getD 0 0 < 0) := by
 match us, h with
 | [a], _ => simp [zep]
theorem zAh {us : List Int} (h : us.length = 0) : zep us = false := by
 match us, h with
 | [], _ => simp [zep]
theorem zBn (n : Nat) : ((n : Int) = 0) = (n = 0) := by simp
theorem zBo (n : Nat) : ((n : Int) = 1) = (n = 1) := propext (by omega)
theorem zBp (n : Nat) : ((n : Int) = 2) = (n = 2) := propext (by omega)
theorem zBq (n : Nat) : ((n : Int) = 3) = (n = 3) := propext (by omega)
theorem zr5 {x : HI} (h : zbZ x = true) : (zak x).length = b2n (ff x 16) + b2n (ff x 32) + b2n (ffC x) := by
 unfold zak
 rw [if_pos h]
 cases ff x 16 <;> cases ff x 32 <;> cases ffC x <;> rfl
def L38 (x : HI) (d : Int) (us : List Int) : zaa := ⟨[.agg x.cells, kz d, .rd (.sl 1 (us.map ipv))], [], [], [], .tup [.agg (zc9 x d us).1.cells, kz (zc9 x d us).2]⟩
set_option maxHeartbeats 40000000 in
theorem s38 (x : HI) (d : Int) (us : List Int) : zaa.ok Tryz.prog GG 38 (L38 x d us) := by
 refine zad mix k38 _ rfl rfl (Tab.ok (l := [(58, S58), (80, S80), (82, S82), (81, S81)]) ⟨t58, t80, t82, t81, trivial⟩) (fun _ => .rounds 5) noJ ?_
 repeat' ((conv => whnf); first
  | exact trivial
  | with_reducible first | refine aj ?_ | refine ai rfl ?_ | refine ai ⟨rfl, rfl⟩ ?_
  | ((with_reducible refine ai ?_ ?_); focus exact w3)
  | with_reducible first | refine And.intro ?_ ?_ | refine zae ?_ | refine exI (i64_in (by omega) (by omega)) ?_
  | refine exI (x := ULift.up _) (Eq.refl _) ?_
  | refine exI (x := ULift.up _) ⟨rfl, by omega, Eq.refl _⟩ ?_
  | ((with_reducible intro h); first | exact absurd h (by decide) | (exfalso; revert h; simp; done))
  | refine exI (x := ULift.up _) ⟨rfl, by omega, zrw _ _ (by simp only [List.length_map] at *; simp only [rdN] at *; omega)⟩ ?_
  | with_reducible intro _)
 all_goals (refine Sd.mk ?_; simp only [HI.eta, FM.eta, rdN, List.length_map] at *)
 all_goals simp_all [zc9, zr5, zAk, zAj, zAi, zAh, b2n, HI.cells, zgA, zBn, zBo, zBp, zBq]
 all_goals (simp only [ff] at *; grind)
noncomputable def S38 : SFn
 | [a0, a1, a2], k => zdh a0 fun x => asI a1 fun d => zcX a2 fun L_us => asL ipv L_us fun us => k (L38 x d us)
 | _, _ => .fail
theorem t38 : FnS Tryz.prog GG 38 S38 := by
 intro args k gt go R v os n h
 unfold S38 at h
 split at h
 . obtain ⟨x, _, h⟩ := zbp h
   obtain ⟨d, _, h⟩ := zaU h
   obtain ⟨L_us, _, h⟩ := zbq h
   obtain ⟨us, _, h⟩ := zbc h
   exact ⟨_, _, s38 x d us, h⟩
 . cases h
end
section
def c37 : MC := .seq (.reg [oo 1 (.box (.t 0)),oo 2 (.mv (ki 0))]) (.seq (.seq (.reg [oo 8 (ls 15 1),oo 9 (fc 58 [(.t 8)]),oo 10 (.not (.t 9))]) (.cond (.t 10) (.seq (.reg [oo 2 (.mv (ki 170))]) (.ret)) (.skip))) (.seq (.reg [oo 11 (ls 15 1),oo 12 (fc 34 [(.t 11)]),om 3 12]) (.seq (.seq (.reg [oo 14 (ls 15 1),oo 15 (fc 33 [(.t 14)]),om 13 15,oo 16 (ex_ 0 13),oo 17 (ex_ 1 13),oo 4 (.alloc [.ff,(kz 0)]),o none (.st (some 2) (.t 4) (.t 16)),om 5 17]) (.seq (.reg [om 18 5]) (.cond (.t 18) (.reg [om 19 3,oo 20 (ls 2 4),oo 21 (.bsl 2 1 [.ff,(kz 0)] [(0,(.t 20))]),oo 22 (.app 2 16 (.t 19) (.t 21)),om 3 22]) (.skip)))) (.seq (.seq (.reg [om 23 3,oo 24 (.lenS (.t 23)),oo 25 (.mv (ki 0))]) (.blk 0 (.loop 0 (.seq (.reg [oo 26 (ct .lss 25 24)]) (.seq (.cond (.t 26) (.skip) (.exit 0)) (.seq (.blk 1 (.seq (.reg [oo 27 (ia 2 23 25),oo 28 (ls 2 27),oo 7 (.alloc [.ff,(kz 0)]),o none (.st (some 2) (.t 7) (.t 28))]) (.seq (.reg [oo 29 (fl 0 7),oo 30 (ln 29),sm 31 30,gt_ 31 32 (fl 1 7),gt_ 31 33 (ln 32),gt_ 31 34 (cc .geq 33 6),oo 35 (pf 31 34),sm 36 35,gf 36 37 (fl 0 7),gf 36 38 (ln 37),gf 36 39 (.not (.t 38)),ogs 36 false (some 40) (.mv (.t 39)),gt_ 40 41 (fl 1 7),gt_ 40 42 (ln 41),gt_ 40 43 (cc .geq 42 12),gf 36 44 (pf 40 43),oo 45 (pt 36 44)]) (.cond (.t 45) (.seq (.reg [oo 2 (.mv (ki 170))]) (.ret)) (.skip))))) (.reg [oo 46 (ac .add 25 1),om 25 46]))))))) (.seq (.reg [oo 2 (.mv (ki 0))]) (.ret))))))
theorem k37 : zar Tryz.prog 37 47 c37 [.t 2] := fk Tryz.func37 ⟨tv,⟨⟨tv,⟨⟨tv,tv⟩,tv⟩⟩,⟨tv,⟨⟨tv,⟨tv,⟨tv,tv⟩⟩⟩,⟨⟨tv,⟨tv,⟨⟨tv,tv⟩,⟨⟨tv,⟨tv,⟨⟨tv,tv⟩,tv⟩⟩⟩,tv⟩⟩⟩⟩,⟨tv,tv⟩⟩⟩⟩⟩⟩
def zaK (x : HI) : List HR := zak x ++ (if (zal x).2 = true then [(zal x).1] else [])
def okR (r : HR) : Bool := if r.vec = true then decide (r.n < 6) else decide (r.n < 12)
def zbF (x : HI) : Int := if zbZ x = true /\ (zaK x).all okR = true then 0 else 170
def zyQ (x : HI) (i : Int) : St := ⟨[(25, kz i), (24, kz (zaK x).length), (23, .slc 0 0 (zaK x).length)], [(0, some (.vec 2 ((zaK x).map HR.pv)))], 1⟩
theorem zbY (x : HI) : (zak x).length <= 3 := by
 simp only [zak]; split <;> (try split) <;> (try split) <;> (try split) <;> simp
theorem zk7 (x : HI) : (zaK x).length <= 4 := by
 have := zbY x; simp only [zaK, List.length_append]; split <;> simp <;> omega
def I37 (x : HI) (i : Int) : Prop := 0 <= i /\ i <= (zaK x).length /\ (zaK x).length <= 4 /\ ((zaK x).take i.toNat).all okR = true
theorem zqZ {x : HI} {i : Int} (hI : I37 x i) (h : i < (zaK x).length) (hv : (nth (zaK x) i).vec = true) (hn : 6 <= (nth (zaK x) i).n) : zbF x = 170 := by
 have hb : okR (nth (zaK x) i) = false := by simp [okR, hv, hn]
 simp only [zbF]; split
 . next h1 => rw [zm2 h1.2 ⟨hI.1, h⟩] at hb; cases hb
 . rfl
theorem zq0 {x : HI} {i : Int} (hI : I37 x i) (h : i < (zaK x).length) (hv : (nth (zaK x) i).vec = false) (hn : 12 <= (nth (zaK x) i).n) : zbF x = 170 := by
 have hb : okR (nth (zaK x) i) = false := by simp [okR, hv, hn]
 simp only [zbF]; split
 . next h1 => rw [zm2 h1.2 ⟨hI.1, h⟩] at hb; cases hb
 . rfl
theorem zlZ {x : HI} {i : Int} (hI : I37 x i) (h : i < (zaK x).length) (hb : okR (nth (zaK x) i) = true) : I37 x (i + 1) /\ ((zaK x).length - (i + 1)).toNat < ((zaK x).length - i).toNat := by
 obtain ⟨h1, h2, h3, h4⟩ := hI
 refine ⟨⟨by omega, by omega, h3, ?_⟩, by omega⟩
 rw [zqL _ _ _ ⟨h1, h⟩, h4, hb]; rfl
theorem zo1 {x : HI} {i : Int} (hI : I37 x i) (h : i < (zaK x).length) (hv : (nth (zaK x) i).vec = true) (hn : ¬ 6 <= (nth (zaK x) i).n) : I37 x (i + 1) /\ ((zaK x).length - (i + 1)).toNat < ((zaK x).length - i).toNat :=
 zlZ hI h (by simp [okR, hv]; omega)
theorem zo2 {x : HI} {i : Int} (hI : I37 x i) (h : i < (zaK x).length) (hv : (nth (zaK x) i).vec = false) (hn : ¬ 12 <= (nth (zaK x) i).n) : I37 x (i + 1) /\ ((zaK x).length - (i + 1)).toNat < ((zaK x).length - i).toNat :=
 zlZ hI h (by simp [okR, hv]; omega)
theorem zs9 {x : HI} {i : Int} (hI : I37 x i) (hv : (!zbZ x) = false) (h : ¬ i < (zaK x).length) : zbF x = 0 := by
 have h1 := hI.2.2.2
 rw [zr3 _ _ h] at h1
 have hv : zbZ x = true := by simpa using hv
 simp [zbF, hv, h1]
def L37 (x : HI) : zaa := ⟨[.agg x.cells], [], [], [], kz (zbF x)⟩
set_option maxHeartbeats 40000000 in
theorem s37 (x : HI) : zaa.ok Tryz.prog GG 37 (L37 x) := by
 refine zad mix k37 _ rfl rfl (Tab.ok (l := [(58, S58), (34, S34), (33, S33)]) ⟨t58, t34, t33, trivial⟩) (fun _ => .inv Int (fun _ => I37 x) (zyQ x) (fun i => ((zaK x).length - i).toNat)) noJ ?_
 repeat' ((conv => whnf); first
  | exact trivial
  | with_reducible first | refine aj ?_ | refine ai rfl ?_ | refine ai ⟨rfl, rfl⟩ ?_
  | ((with_reducible refine ai ?_ ?_); focus exact w3)
  | with_reducible first | refine And.intro ?_ ?_ | apply exW (c := _) | refine exI (i64_in (by simp only [I37] at *; omega) (by simp only [I37] at *; omega)) ?_
  | refine exI (x := ULift.up _) (zbS _ _ _ (by simp only [I37] at *; omega)) ?_
  | with_reducible first | refine zae ?_ | refine exI (i64_in (by omega) (by omega)) ?_
  | refine exI (x := ULift.up _) (Eq.refl _) ?_
  | refine exI (x := ULift.up _) ⟨rfl, by omega, Eq.refl _⟩ ?_
  | exact ny
  | ((with_reducible intro h); try dsimp only at h))
 all_goals (refine Sd.mk ?_; have hl := zk7 x; have hu := zbY x; (try simp only [HI.eta] at *))
 all_goals first
  | exact zqZ ‹_› ‹_› ‹_› ‹_›
  | exact zq0 ‹_› ‹_› ‹_› ‹_›
  | exact zo1 ‹_› ‹_› ‹_› ‹_›
  | exact zo2 ‹_› ‹_› ‹_› ‹_›
  | exact zs9 ‹_› ‹_› ‹_›
  | exact ⟨by omega, by omega, hl, rfl⟩
  | (simp only [I37] at *; omega)
  | (simp only [zbF]; simp_all; done)
  | (simp_all [zaK, zai.len, HR.pv, I37]; done)
  | (simp_all [zaK, zai.len, HR.pv]; omega)
noncomputable def S37 : SFn
 | [a0], k => zdh a0 fun x => k (L37 x)
 | _, _ => .fail
theorem t37 : FnS Tryz.prog GG 37 S37 := by
 intro args k gt go R v os n h
 unfold S37 at h
 split at h
 . obtain ⟨x, _, h⟩ := zbp h
   exact ⟨_, _, s37 x, h⟩
 . cases h
end
end Go.Proofs.YtlahifihaeafbaaGreatDoor
