/- Part 8 of 11 of a proof of the law AllocTwice: what the last part leans on. -/
import Derived.Test.YtlahifihaeafbaaGreatDoorZg
set_option linter.all false
set_option maxRecDepth 100000
namespace Go.Proofs.YtlahifihaeafbaaGreatDoor
open Go Go.Sx
section
def c50 : MC := .seq (.reg [oo 2 (.alloc [(.val (.map none)),(.val (.map none))])]) (.seq (.reg [oo 11 (.mkm),oo 12 (.mkm),oo 13 (.bld [(.val (.map none)),(.val (.map none))] [(0,1,(.t 11)),(1,1,(.t 12))]),oo 3 (.alloc [(.val (.map none)),(.val (.map none))]),o none (.st (some 2) (.t 3) (.t 13))]) (.gh (.toFam 1) (.gh (.toFam 2) (.seq (.seq (.reg [om 14 0,oo 15 (.lenS (.t 14)),oo 16 (.mv (ki 0))]) (.blk 0 (.loop 0 (.seq (.reg [oo 17 (ct .lss 16 15)]) (.seq (.cond (.t 17) (.skip) (.exit 0)) (.seq (.blk 1 (.seq (.reg [om 18 16,oo 19 (ia 15 14 16),oo 20 (ls 15 19),oo 5 (.alloc zI),om 4 18,o none (.st (some 15) (.t 5) (.t 20))]) (.seq (.seq (.reg [oo 21 (ls 15 5),oo 22 (fc 34 [(.t 21)]),oo 23 (.lenS (.t 22)),oo 24 (.mv (ki 0))]) (.blk 2 (.loop 1 (.seq (.reg [oo 25 (ct .lss 24 23)]) (.seq (.cond (.t 25) (.skip) (.exit 2)) (.seq (.blk 3 (.seq (.reg [oo 26 (ia 2 22 24),oo 27 (ls 2 26),oo 7 (.alloc [.ff,(kz 0)]),o none (.st (some 2) (.t 7) (.t 27))]) (.seq (.reg [oo 28 (fl 0 3),oo 29 (ln 28),oo 30 (ls 2 7),oo 31 (.lkp false false [.bool,.int .i64] true [.sl 1 []] (.t 29) (.t 30)),om 8 31]) (.seq (.reg [om 32 8,oo 33 (.lenS (.t 32)),oo 34 (cc .eql 33 0),sm 35 34,mf 35 36 8,mf 35 37 8,gf 35 38 (.lenS (.t 37)),gf 35 39 (ac .sub 38 1),gf 35 40 (ia 1 36 39),gf 35 41 (ln 40),mf 35 42 4,gf 35 43 (ct .neq 41 42),oo 44 (pt 35 43)]) (.cond (.t 44) (.drw [oo 45 (fl 0 3),oo 46 (ln 45),oo 47 (ls 2 7),om 48 8,om 49 4,oo 50 (.bsl 1 1 [(kz 0)] [(0,(.t 49))]),oo 51 (.app 1 8 (.t 48) (.t 50)),o none (.mup false [.bool,.int .i64] (.t 46) (.t 47) (.t 51))] [[],[0],[],[],[],[4],[3,5],[1,2,6,6,0,1,2,3,4,5,6]]) (.gh (.putb 1) (.skip))))))) (.reg [oo 52 (ac .add 24 1),om 24 52]))))))) (.seq (.reg [oo 54 (ls 15 5),oo 55 (fc 33 [(.t 54)]),om 53 55,oo 56 (ex_ 0 53),oo 57 (ex_ 1 53),oo 9 (.alloc [.ff,(kz 0)]),o none (.st (some 2) (.t 9) (.t 56)),om 10 57]) (.seq (.reg [om 58 10]) (.cond (.t 58) (.reg [oo 59 (fl 1 3),oo 60 (ln 59),oo 61 (ls 2 9),om 63 4,oo 64 (.bsl 1 1 [(kz 0)] [(0,(.t 63))]),oo 65 (.ment false [.bool,.int .i64] true [.sl 1 []] (.t 60) (.t 61)),oo 62 (ex_ 0 65),oo 66 (.app 1 8 (.t 62) (.t 64)),oo 67 (ex_ 1 65),o none (.mest (.t 60) (.t 67) (.t 66))]) (.skip))))))) (.reg [oo 68 (ac .add 16 1),om 16 68]))))))) (.gh (.toMap 1) (.gh (.toMap 2) (.seq (.reg [oo 69 (ls 2 3),o none (.st (some 2) (.t 2) (.t 69))]) (.ret))))))))
theorem k50 : zar Tryz.prog 50 70 c50 [.c 2 (some 2)] := fk Tryz.func50 ⟨tv,⟨tv,⟨⟨tv,⟨tv,⟨⟨tv,tv⟩,⟨⟨tv,⟨⟨tv,⟨tv,⟨⟨tv,tv⟩,⟨⟨tv,⟨tv,⟨tv,⟨tv,tv⟩⟩⟩⟩,tv⟩⟩⟩⟩,⟨tv,⟨tv,⟨tv,tv⟩⟩⟩⟩⟩,tv⟩⟩⟩⟩,⟨tv,tv⟩⟩⟩⟩
attribute [local irreducible] zak zal zbZ Go.Sx.zaf Go.Sx.zas Go.Sx.zan
abbrev zlD := Int × TM × TM
abbrev zj1 := Int × TM × TM × Int
def zxe (us ds : TM) : List (Nat × Option SO) := [(0, some (.row [.val (.map none), .val (.map none)])), (3, some (.row [.mp 1, .mp 2])), (1, some (.fam MTS zkA us none)), (2, some (.fam MTS zkA ds none))]
def zwk (l : List HI) : zlD -> St
 | (i, us, ds) => ⟨[(16, kz i), (15, kz l.length), (14, hiS l), (3, .ptr 3 0 0), (2, .ptr 0 0 0)], zxe us ds, 4⟩
def zwj (l : List HI) : zj1 -> St
 | (i, us, ds, j) => ⟨[(24, kz j), (23, kz (zak (nth l i)).length), (22, .slc 5 0 (zak (nth l i)).length), (16, kz i), (15, kz l.length), (14, hiS l), (5, .ptr 4 0 0), (4, kz i), (3, .ptr 3 0 0), (2, .ptr 0 0 0)],
    zxe us ds ++ [(4, some (.row (nth l i).cells)), (5, some (.vec 2 ((zak (nth l i)).map HR.pv)))], 6⟩
def zcl (l : List HI) : zlD -> Prop
 | (i, us, ds) => 0 <= i /\ i <= l.length /\ l.length <= 4000 /\ wfT i us /\ wfT i ds /\ zdg (l.drop i.toNat) i us ds = zaW l
def zdo (l : List HI) : zj1 -> zj1 -> Prop
 | (i0, us0, ds0, _), (i, us, ds, j) => i = i0 /\ ds = ds0 /\ 0 <= j /\ j <= (zak (nth l i)).length /\ (zak (nth l i)).length <= 3 /\ wfT (i + 1) us /\ ((zak (nth l i)).drop j.toNat).foldl (zdp i) us = (zak (nth l i)).foldl (zdp i) us0
def zz3 (l : List HI) : Nat -> zcA
 | 0 => .inv zlD (fun _ => zcl l) (zwk l) (fun c => ((l.length : Int) - c.1).toNat)
 | _ => .inv zj1 (zdo l) (zwj l) (fun c => ((zak (nth l c.1)).length - c.2.2.2).toNat)
theorem zvr {l : List HI} {Q : zlD -> Prop} (h : ∀ i us ds, zcl l (i, us, ds) -> Q (i, us, ds)) : ∀ c, zcl l c -> Q c := fun ⟨i, us, ds⟩ hI => h _ _ _ hI
theorem zvq {l : List HI} {i us0 ds j0} {Q : zj1 -> Prop} (h : ∀ us j, zdo l (i, us0, ds, j0) (i, us, ds, j) -> Q (i, us, ds, j)) : ∀ c, zdo l (i, us0, ds, j0) c -> Q c := fun ⟨i', us, ds', j⟩ hI => by
 obtain ⟨h1, h2, h3⟩ := hI
 subst h1; subst h2
 exact h _ _ ⟨rfl, rfl, h3⟩
theorem zEY {l : List HI} (h : l.length <= 4000) : zcl l (0, [], []) := ⟨by omega, by omega, h, zft, zft, rfl⟩
theorem zEZ {l : List HI} {i us ds} (h : zcl l (i, us, ds)) : zdo l (i, us, ds, 0) (i, us, ds, 0) := ⟨rfl, rfl, by omega, by omega, zbY _, zhd h.2.2.2.1 (by omega), rfl⟩
theorem zsU {l : List HI} {i us ds us' ds' j0 j} (h0 : zcl l (i, us', ds')) (h : zdo l (i, us', ds, j0) (i, us, ds, j)) (r : HR) : (List.map ipv (zaf MTS r us)).length <= 4001 := by
 have h1 := h0.2.1
 have h2 := h0.2.2.1
 have h3 := h0.1
 have := ziq h.2.2.2.2.2.1 (by omega) r
 rw [List.length_map]
 simp only [ag] at this
 omega
theorem zES {l : List HI} {i us ds us' ds' j0 j} (_ : zcl l (i, us', ds')) (_ : zdo l (i, us', ds, j0) (i, us, ds, j)) {r : HR} : -9223372036854775808 <= ((List.map ipv (zaf MTS r us)).length : Int) - 1 := by omega
theorem zET {l : List HI} {i us ds us' ds' j0 j} (h0 : zcl l (i, us', ds')) (h : zdo l (i, us', ds, j0) (i, us, ds, j)) {r : HR} : ((List.map ipv (zaf MTS r us)).length : Int) - 1 < 9223372036854775808 := by
 have := zsU h0 h r
 omega
theorem zEU {r : HR} {us : TM} (h : ¬ ((List.map ipv (zaf MTS r us)).length : Int) = 0) : (List.map ipv (zaf MTS r us))[0 + (((List.map ipv (zaf MTS r us)).length : Int) - 1).toNat]? = some (ipv (zdI (ag r us))) := by
 rw [zbS _ _ _ (by rw [List.length_map] at *; omega)]
 unfold zdI
 rw [List.length_map]
theorem ztt {κ : Type} {k : κ} {j : Nat} {g : Option Nat} : ze1 (some (k, j, g)) k := fun _ _ _ e => by cases e; rfl
theorem zua {X : List Int} {i : Int} : zkA (X ++ [i]) = Sub.vec 1 (List.map ipv X ++ [[PV.int .i64 i]]) := by simp only [zkA, List.map_append]; rfl
theorem zt9 {X : List Int} {i : Int} {n : Nat} (h : n = (List.map ipv X ++ [[PV.int .i64 i]]).length) : zkA (X ++ [i]) = Sub.vec 1 (List.map ipv X ++ [[PV.int .i64 i]]) /\ 0 = 0 /\ n = (List.map ipv X ++ [[PV.int .i64 i]]).length := ⟨zua, rfl, h⟩
theorem zEV {l : List HI} {i us ds us' ds' j0 j} {X : List (List SV)} (h0 : zcl l (i, us', ds')) (h : zdo l (i, us', ds, j0) (i, us, ds, j)) (hX : X.length = 1) {r : HR} : (zai.len (Sum.inr (List.map ipv (zaf MTS r us))) + zai.len (Sum.inl X)) * 8 <= 2 ^ 46 := by
 have := zsU h0 h r
 simp only [zai.len, hX] at *
 omega
theorem zEW {l : List HI} {i us ds} {X : List (List SV)} (h0 : zcl l (i, us, ds)) (hX : X.length = 1) {r : HR} : (zai.len (Sum.inr (List.map ipv (zaf MTS r ds))) + zai.len (Sum.inl X)) * 8 <= 2 ^ 46 := by
 obtain ⟨h1, h2, h3, h4, h5, _⟩ := h0
 have := ziq h5 h1 r
 simp only [zai.len, hX, List.length_map, ag] at *
 omega
theorem tj {l : List HI} {i us ds us' ds' j0 j us2} (h0 : zcl l (i, us', ds')) (h : zdo l (i, us', ds, j0) (i, us, ds, j)) (hj : j < (zak (nth l i)).length) (e : zdp i us (nth (zak (nth l i)) j) = us2) :
 zdo l (i, us', ds, j0) (i, us2, ds, j + 1) /\ (((zak (nth l i)).length : Int) - (j + 1)).toNat < (((zak (nth l i)).length : Int) - j).toNat := by
  obtain ⟨_, _, h3, h4, h5, h6, h7⟩ := h
  subst e
  refine ⟨⟨rfl, rfl, by omega, by omega, h5, zpU h6 h0.1, ?_⟩, by omega⟩
  rw [zaG _ _ ⟨h3, hj⟩] at h7
  exact h7
theorem zAa {i : Int} {us : TM} {r : HR} (h : ((List.map ipv (zaf MTS r us)).length : Int) = 0) : zdp i us r = zan MTS r (zaf MTS r us ++ [i]) us := by
 have : (zaf MTS r us).length = 0 := by rw [List.length_map] at h; omega
 unfold zdp; rw [if_pos (.inl (List.length_eq_zero_iff.1 this))]
theorem zAb {i : Int} {us : TM} {r : HR} (h : ¬ zdI (ag r us) = i) : zdp i us r = zan MTS r (zaf MTS r us ++ [i]) us := by
 unfold zdp; rw [if_pos (.inr h)]
theorem zAc {i : Int} {us : TM} {r : HR} (h : ¬ ((List.map ipv (zaf MTS r us)).length : Int) = 0) (h2 : ¬ ¬ zdI (ag r us) = i) : zdp i us r = us := by
 unfold zdp; rw [if_neg]
 rintro (e | e)
 . rw [List.length_map] at h
   simp only [ag] at e
   rw [e] at h; exact h rfl
 . exact h2 e
theorem zBu {i : Int} {ds : TM} {x : HI} (h : (zal x).2 = false) : zfy i ds x = ds := by unfold zfy; rw [if_neg (by rw [h]; decide)]
theorem zBv {i : Int} {ds : TM} {x : HI} (h : (zal x).2 = true) : zfy i ds x = zan MTS (zal x).1 (zaf MTS (zal x).1 ds ++ [i]) (zan MTS (zal x).1 (zaf MTS (zal x).1 ds) ds) := by unfold zfy; rw [if_pos h, zoT]
theorem to {l : List HI} {i us ds us2 j ds2} (h0 : zcl l (i, us, ds)) (h : zdo l (i, us, ds, 0) (i, us2, ds, j)) (hi : i < l.length) (hj : ¬ j < (zak (nth l i)).length) (e : zfy i ds (nth l i) = ds2) :
 zcl l (i + 1, us2, ds2) /\ ((l.length : Int) - (i + 1)).toNat < ((l.length : Int) - i).toNat := by
  obtain ⟨h1, h2, h3, h4, h5, h6⟩ := h0
  obtain ⟨_, _, k3, k4, k5, k6, k7⟩ := h
  rw [List.drop_eq_nil_of_le (by omega)] at k7
  subst e
  refine ⟨⟨by omega, by omega, h3, k6, zpW h5 h1, ?_⟩, by omega⟩
  rw [zaG _ _ ⟨h1, hi⟩, zdg, <- k7] at h6
  exact h6
theorem te {l : List HI} {i us ds} (h : zcl l (i, us, ds)) (hi : ¬ i < l.length) : (zaW l).1 = us /\ (zaW l).2 = ds := by
 obtain ⟨h1, h2, h3, h4, h5, h6⟩ := h
 rw [List.drop_eq_nil_of_le (by omega)] at h6
 rw [<- h6]
 exact ⟨rfl, rfl⟩
theorem zEL {l : List HI} {i us ds} (h : zcl l (i, us, ds)) (hi : ¬ i < l.length) : SO.map MTS (zaW l).1 none = SO.map MTS us none := by rw [(te h hi).1]
theorem zEM {l : List HI} {i us ds} (h : zcl l (i, us, ds)) (hi : ¬ i < l.length) : SO.map MTS (zaW l).2 none = SO.map MTS ds none := by rw [(te h hi).2]
noncomputable def L50 (l : List HI) : zaa := ⟨[.rd (.sl 15 (l.map HI.pv))], [], [], [.map MTS (zaW l).1 none, .map MTS (zaW l).2 none], .agg [.mp 0, .mp 1]⟩
set_option maxHeartbeats 8000000 in
theorem s50 (l : List HI) (hl : l.length <= 4000) : zaa.ok Tryz.prog GG 50 (L50 l) := by
 refine zad mix k50 _ rfl rfl (Tab.ok (l := [(33, S33), (34, S34)]) ⟨t33, t34, trivial⟩) (zz3 l) noJ ?_
 repeat' ((conv => whnf); first
  | exact trivial
  | with_reducible first | refine aj ?_ | refine ai rfl ?_ | refine ai ⟨rfl, rfl⟩ ?_
  | ((with_reducible refine ai ?_ ?_); focus exact w3)
  | with_reducible first | refine zvr ?_ | refine zvq ?_ | apply exW (γ := zlD) (c := (_, _, _)) | apply exW (γ := zj1) (c := (_, _, _, _))
  | refine exI (x := MTS) trivial ?_
  | with_reducible first | refine Exists.intro zkA ?_ | refine And.intro (Sd.mk (p := ze1 _ _) ztt) ?_ | refine exI (i64_in (zES ‹_› ‹_›) (zET ‹_› ‹_›)) ?_ | refine exI (i64_in (by simp only [zcl, zdo, List.length_map] at *; omega) (by simp only [zcl, zdo, List.length_map] at *; omega)) ?_ | refine ai (tl_3 ‹_›) ?_ | refine exI (x := ULift.up _) (zEU ‹_›) ?_
  | refine exI (x := ULift.up _) (zbS _ _ _ (by simp only [zcl, zdo, List.length_map] at *; omega)) ?_
  | refine exI (x := ULift.up _) ⟨rfl, (by simp only [zcl, zdo, List.length_map] at *; omega), zbI _ _ _ (by simp only [zcl, zdo, List.length_map] at *; omega)⟩ ?_
  | refine And.intro (Sd.mk (p := zaj.one MTS = _ /\ _) ⟨rfl, rfl⟩) ?_
  | apply exI (x := ULift.up (HR.mk _ _)) trivial
  | apply exI (x := (ULift.up ((_ : List Int) ++ [(_ : Int)]) : ULift (List Int))) trivial
  | with_reducible first | refine ai (zt9 (by simp [zai.len])) ?_ | refine And.intro (Sd.mk zqK) ?_ | refine And.intro (Sd.mk zoS) ?_ | refine And.intro (Sd.mk (p := (_ : Int) <= _ /\ _) (by simp only [zcl, zdo, List.length_map] at *; omega)) ?_ | refine And.intro ?_ ?_ | refine zae ?_ | refine exI (i64_in (by omega) (by omega)) ?_
  | refine exI (x := ULift.up _) (Eq.refl _) ?_
  | refine exI (x := ULift.up _) ⟨rfl, by omega, Eq.refl _⟩ ?_
  | exact nx
  | ((with_reducible intro h); try dsimp only at h))
 all_goals (refine Sd.mk ?_)
 all_goals try first
  | exact zEY hl
  | exact zEZ ‹_›
  | exact zEV ‹_› ‹_› rfl
  | exact zEW ‹_› rfl
  | exact zEL ‹_› ‹_›
  | exact zEM ‹_› ‹_›
 all_goals (try simp only [HI.eta, HR.eta] at *)
 all_goals first
  | exact tj ‹_› ‹_› ‹_› (zAa ‹_›)
  | exact tj ‹_› ‹_› ‹_› (zAb ‹_›)
  | exact tj ‹_› ‹_› ‹_› (zAc ‹_› ‹_›)
  | exact to ‹_› ‹_› ‹_› ‹_› (zBu ‹_›)
  | exact to ‹_› ‹_› ‹_› ‹_› (zBv ‹_›)
noncomputable def S50 : SFn
 | [a0], k => zcX a0 fun L_l => asL HI.pv L_l fun l => .req (l.length <= 4000) (k (L50 l))
 | _, _ => .fail
theorem t50 : FnS Tryz.prog GG 50 S50 := by
 intro args k gt go R v os n h
 unfold S50 at h
 split at h
 . obtain ⟨L_l, _, h⟩ := zbq h
   obtain ⟨l, _, h⟩ := zbc h
   obtain ⟨hp, _, h⟩ := zaz h
   exact ⟨_, _, s50 l hp, h⟩
 . cases h
end
section
structure AS where
 us : TM
 ds : TM
 code : List HI
 L : List HI
 fr : List Int
 w : BK
 v : BK
def zlr {α : Type} (pv : α -> List PV) (s : Nat) : SV -> (List α -> RT) -> RT
 | .slc j _ _, f => .rO j fun o => match o with
   | some (.vec _ LL) => asL pv LL f
   | _ => .fail
 | _, _ => .fail
noncomputable def zj5 (p : Nat) (f : AS -> RT) : RT := zbz p fun r => match r with
 | .agg [.mp u, .mp d, c, l, fr, .ptr w _ _, .ptr v _ _] => zbh MTS u fun us => zbh MTS d fun ds => zcX c fun L_c => asL HI.pv L_c fun code => zlr HI.pv 15 l fun L => zlr ipv 1 fr fun fr => zhl w fun w => zhl v fun v => f ⟨us, ds, code, L, fr, w, v⟩
 | _ => .fail
section
variable {gt : GT} {go : GO} {R : List Sx.Loc} {v : Option SV} {os : List (Nat × Option SO)} {k : Nat}
theorem zkG {α : Type} {pv : α -> List PV} {s : Nat} {x : SV} {f : List α -> RT} (h : (zlr pv s x f).Runs gt go R v os k) : ∃ y R', (f y).Runs gt go R' v os k := by
 unfold zlr at h
 split at h
 . cases h with
   | rO h =>
     dsimp only at h
     split at h
     . exact zbc h
     . cases h
 . cases h
theorem zgN {p : Nat} {f : AS -> RT} (h : (zj5 p f).Runs gt go R v os k) : ∃ x R', (f x).Runs gt go R' v os k := by
 unfold zj5 at h
 obtain ⟨_, _, h⟩ := zaX h
 split at h
 . obtain ⟨_, _, h⟩ := zaP h
   obtain ⟨_, _, h⟩ := zaP h
   obtain ⟨_, _, h⟩ := zbq h
   obtain ⟨_, _, h⟩ := zbc h
   obtain ⟨_, _, h⟩ := zkG h
   obtain ⟨_, _, h⟩ := zkG h
   obtain ⟨_, _, h⟩ := zeH h
   obtain ⟨_, _, h⟩ := zeH h
   exact ⟨_, _, h⟩
 . cases h
end
def AS.bank (s : AS) (r : HR) : BK := if r.vec = true then s.v else s.w
def AS.emit (s : AS) (x : HI) (f : Int) : AS := { s with L := s.L ++ [x], fr := s.fr ++ [f] }
def AS.setB (s : AS) (r : HR) (b : BK) : AS := if r.vec = true then { s with v := b } else { s with w := b }
theorem zhn {s : AS} {r : HR} (h : r.vec = true) : s.bank r = s.v := by unfold AS.bank; rw [if_pos h]
theorem zhm {s : AS} {r : HR} (h : ¬ r.vec = true) : s.bank r = s.w := by unfold AS.bank; rw [if_neg h]
end
section
def zAz : MC := .seq (.reg [oo 3 (.box (.t 1)),oo 4 (.mv (.k (.val (.pointer none))))]) (.seq (.seq (.reg [oo 5 (fl 0 3),oo 6 (ln 5)]) (.cond (.t 6) (.seq (.reg [om 7 0,oo 8 (.nchk (.t 7)),oo 9 (fl 6 8),oo 10 (ln 9),om 4 10]) (.ret)) (.skip))) (.seq (.reg [om 11 0,oo 12 (.nchk (.t 11)),oo 13 (fl 5 12),oo 14 (ln 13),om 4 14]) (.ret)))
theorem zwz : zar Tryz.prog 121 15 zAz [.t 4] := fk Tryz.func121 ⟨tv,⟨⟨tv,⟨⟨tv,tv⟩,tv⟩⟩,⟨tv,tv⟩⟩⟩
def zAD : MC := .seq (.reg [oo 4 (.box (.t 1))]) (.drw [om 6 0,om 7 0,om 8 0,oo 9 (.nchk (.t 8)),oo 10 (fl 3 9),oo 11 (fl 0 10),oo 12 (ln 11),oo 13 (ls 15 4),oo 14 (.bsl 15 1 zI [(0,(.t 13))]),oo 15 (.app 15 96 (.t 12) (.t 14)),om 16 0,oo 17 (.nchk (.t 16)),oo 18 (fl 3 17),oo 19 (fl 1 18),oo 20 (ln 19),om 21 2,oo 22 (.bsl 1 1 [(kz 0)] [(0,(.t 21))]),oo 23 (.app 1 8 (.t 20) (.t 22)),oo 24 (.nchk (.t 6)),oo 25 (fl 3 24),oo 26 (fl 0 25),o none (.st (some 1) (.t 26) (.t 15)),oo 27 (.nchk (.t 7)),oo 28 (fl 3 27),oo 29 (fl 1 28),o none (.st (some 1) (.t 29) (.t 23))] [[],[],[],[2],[3],[4],[5],[],[7],[6,8],[],[10],[11],[12],[13],[],[15],[14,16,9],[0,0,2,3,4,5,6,7,8,9,14,17],[18,0,2,3,4,5,6,7,8,9,14,17],[19,0,2,3,4,5,6,7,8,9,14,17],[20,9,17,0,2,3,4,5,6,7,8,9,14,17],[1,0,1,2,3,4,5,6,7,8,9,10,11,12,13,14,15,16,17,18,19,20,21],[22,0,1,2,3,4,5,6,7,8,9,10,11,12,13,14,15,16,17,18,19,20,21],[23,0,1,2,3,4,5,6,7,8,9,10,11,12,13,14,15,16,17,18,19,20,21],[24,17,21,0,1,2,3,4,5,6,7,8,9,10,11,12,13,14,15,16,17,18,19,20,21]])
theorem zBU : zar Tryz.prog 125 30 zAD [] := fk Tryz.func125 ⟨tv,tv⟩
def zAy : MC := .seq (.reg [oo 5 (.box (.t 1))]) (.seq (.reg [om 13 0,oo 14 (ls 2 5),oo 15 (fc 121 [(.t 13),(.t 14)]),om 8 15]) (.seq (.seq (.drw [om 17 8,oo 18 (.nchk (.t 17)),oo 19 (fl 3 18),oo 20 (ln 19),oo 21 (fl 1 5),oo 22 (ln 21),oo 23 (.lkp true true [.int .i64] true [.int .i64 0] (.t 20) (.t 22)),om 16 23,oo 24 (ex_ 0 16),oo 25 (ex_ 1 16),om 9 24,om 10 25] [[],[0],[1],[2],[],[4],[3,5],[6],[7],[7],[8,0,1,2,3,4,5,6,7,8],[9,10,0,1,2,3,4,5,6,7,8,9,10]]) (.seq (.reg [om 26 10]) (.cond (.t 26) (.ret) (.skip)))) (.seq (.reg [om 27 0,om 28 8,om 29 2,om 30 3,oo 31 (fc 123 [(.t 27),(.t 28),(.t 29),(.t 30)]),om 11 31]) (.seq (.reg [oo 12 (.mv (ki 43))]) (.seq (.seq (.reg [om 32 8,oo 33 (.nchk (.t 32)),oo 34 (fl 0 33),oo 35 (ln 34)]) (.cond (.t 35) (.reg [oo 12 (.mv (ki 45))]) (.skip))) (.seq (.drw [om 36 0,om 37 12,om 38 11,om 39 8,oo 40 (.nchk (.t 39)),oo 41 (fl 4 40),oo 42 (ln 41),oo 43 (fl 1 5),oo 44 (ln 43),oo 45 (.lkp false true [.int .i64] true [.int .i64 0] (.t 42) (.t 44)),oo 46 (.bld zI [(0,1,(.t 37)),(4,1,(.t 38)),(8,1,(.t 45))]),oo 47 (fc 125 [(.t 36),(.t 46),(ki (-1))])] [[],[],[],[],[3],[4],[5],[],[7],[6,8],[1,2,9],[0,10]]) (.reg [om 48 8,om 49 11,oo 50 (fl 1 5),oo 51 (ln 50),oo 52 (fc 124 [(.t 48),(.t 49),(.t 51)])])))))))
theorem zBQ : zar Tryz.prog 120 53 zAy [] := fk Tryz.func120 ⟨tv,⟨tv,⟨⟨tv,⟨tv,⟨tv,tv⟩⟩⟩,⟨tv,⟨tv,⟨⟨tv,⟨tv,tv⟩⟩,⟨tv,tv⟩⟩⟩⟩⟩⟩⟩
attribute [local irreducible] Go.Sx.zaf Go.Sx.zas Go.Sx.zan Go.Sx.zaO zbO BK.top
noncomputable def zsc (s : AS) (r : HR) : zaa := ⟨[.ptr 0 0 0, .agg r.cells], [.row [.mp 1, .mp 2, .rd (.sl 15 (List.map HI.pv (s).code)), .slc 3 0 (s).L.length, .slc 4 0 (s).fr.length, .ptr 5 0 0, .ptr 6 0 0], .map MTS (s).us none, .map MTS (s).ds none, .vec 15 (List.map HI.pv (s).L), .vec 1 (List.map ipv (s).fr), .row [.bool (s).w.vec, .mp 7, .mp 8, .mp 9, .mp 10, .mp 11], .row [.bool (s).v.vec, .mp 12, .mp 13, .mp 14, .mp 15, .mp 16], .map MIB (s).w.free none, .map MII (s).w.holds none, .map MII (s).w.at_ none, .map MII (s).w.slot none, .map MIB (s).w.slots none, .map MIB (s).v.free none, .map MII (s).v.holds none, .map MII (s).v.at_ none, .map MII (s).v.slot none, .map MIB (s).v.slots none], [some (.row [.mp 1, .mp 2, .rd (.sl 15 (List.map HI.pv (s).code)), .slc 3 0 (s).L.length, .slc 4 0 (s).fr.length, .ptr 5 0 0, .ptr 6 0 0]), some (.map MTS (s).us none), some (.map MTS (s).ds none), some (.vec 15 (List.map HI.pv (s).L)), some (.vec 1 (List.map ipv (s).fr)), some (.row [.bool (s).w.vec, .mp 7, .mp 8, .mp 9, .mp 10, .mp 11]), some (.row [.bool (s).v.vec, .mp 12, .mp 13, .mp 14, .mp 15, .mp 16]), some (.map MIB (s).w.free none), some (.map MII (s).w.holds none), some (.map MII (s).w.at_ none), some (.map MII (s).w.slot none), some (.map MIB (s).w.slots none), some (.map MIB (s).v.free none), some (.map MII (s).v.holds none), some (.map MII (s).v.at_ none), some (.map MII (s).v.slot none), some (.map MIB (s).v.slots none)], [], .ptr 6 0 0⟩
set_option maxHeartbeats 2000000 in
theorem zzn (s : AS) (r : HR) (hv : r.vec = true) : zaa.ok Tryz.prog GG 121 (zsc s r) := by
 refine zad mix zwz _ rfl rfl (Tab.ok (l := []) trivial) noL noJ ?_
 repeat' ((conv => whnf); first
  | exact trivial
  | with_reducible first | refine aj ?_ | refine ai rfl ?_ | refine ai ⟨rfl, rfl⟩ ?_
  | ((with_reducible refine ai ?_ ?_); focus exact w3)
  | ((with_reducible intro h); first | exact absurd h hv | exact absurd hv h | exact absurd (h.symm.trans hv) (by decide))
  | with_reducible first | refine And.intro ?_ ?_ | refine zae ?_ | refine exI (i64_in (by omega) (by omega)) ?_
  | refine exI (x := ULift.up _) (Eq.refl _) ?_
  | refine exI (x := ULift.up _) ⟨rfl, by omega, Eq.refl _⟩ ?_
  | exact nx
  | ((with_reducible intro h); try dsimp only at h))
 all_goals (refine Sd.mk ?_)
noncomputable def zsd (s : AS) (r : HR) : zaa := ⟨[.ptr 0 0 0, .agg r.cells], [.row [.mp 1, .mp 2, .rd (.sl 15 (List.map HI.pv (s).code)), .slc 3 0 (s).L.length, .slc 4 0 (s).fr.length, .ptr 5 0 0, .ptr 6 0 0], .map MTS (s).us none, .map MTS (s).ds none, .vec 15 (List.map HI.pv (s).L), .vec 1 (List.map ipv (s).fr), .row [.bool (s).w.vec, .mp 7, .mp 8, .mp 9, .mp 10, .mp 11], .row [.bool (s).v.vec, .mp 12, .mp 13, .mp 14, .mp 15, .mp 16], .map MIB (s).w.free none, .map MII (s).w.holds none, .map MII (s).w.at_ none, .map MII (s).w.slot none, .map MIB (s).w.slots none, .map MIB (s).v.free none, .map MII (s).v.holds none, .map MII (s).v.at_ none, .map MII (s).v.slot none, .map MIB (s).v.slots none], [some (.row [.mp 1, .mp 2, .rd (.sl 15 (List.map HI.pv (s).code)), .slc 3 0 (s).L.length, .slc 4 0 (s).fr.length, .ptr 5 0 0, .ptr 6 0 0]), some (.map MTS (s).us none), some (.map MTS (s).ds none), some (.vec 15 (List.map HI.pv (s).L)), some (.vec 1 (List.map ipv (s).fr)), some (.row [.bool (s).w.vec, .mp 7, .mp 8, .mp 9, .mp 10, .mp 11]), some (.row [.bool (s).v.vec, .mp 12, .mp 13, .mp 14, .mp 15, .mp 16]), some (.map MIB (s).w.free none), some (.map MII (s).w.holds none), some (.map MII (s).w.at_ none), some (.map MII (s).w.slot none), some (.map MIB (s).w.slots none), some (.map MIB (s).v.free none), some (.map MII (s).v.holds none), some (.map MII (s).v.at_ none), some (.map MII (s).v.slot none), some (.map MIB (s).v.slots none)], [], .ptr 5 0 0⟩
set_option maxHeartbeats 2000000 in
theorem zzo (s : AS) (r : HR) (hv : ¬ r.vec = true) : zaa.ok Tryz.prog GG 121 (zsd s r) := by
 refine zad mix zwz _ rfl rfl (Tab.ok (l := []) trivial) noL noJ ?_
 repeat' ((conv => whnf); first
  | exact trivial
  | with_reducible first | refine aj ?_ | refine ai rfl ?_ | refine ai ⟨rfl, rfl⟩ ?_
  | ((with_reducible refine ai ?_ ?_); focus exact w3)
  | ((with_reducible intro h); first | exact absurd h hv | exact absurd hv h | exact absurd (h.symm.trans hv) (by decide))
  | with_reducible first | refine And.intro ?_ ?_ | refine zae ?_ | refine exI (i64_in (by omega) (by omega)) ?_
  | refine exI (x := ULift.up _) (Eq.refl _) ?_
  | refine exI (x := ULift.up _) ⟨rfl, by omega, Eq.refl _⟩ ?_
  | exact nx
  | ((with_reducible intro h); try dsimp only at h))
 all_goals (refine Sd.mk ?_)
noncomputable def znR : SFn
 | [.ptr p _ _, a1], k => zj5 p fun s => zgO a1 fun r => .split (r.vec = true) (k (zsc s r)) (k (zsd s r))
 | _, _ => .fail
theorem zxJ : FnS Tryz.prog GG 121 znR := by
 intro args k gt go R v os n h
 unfold znR at h
 split at h
 . obtain ⟨s, _, h⟩ := zgN h
   obtain ⟨r, _, h⟩ := zd0 h
   cases h with
   | left hp h => exact ⟨_, _, zzn s r hp, h⟩
   | right hp h => exact ⟨_, _, zzo s r hp, h⟩
 . cases h
theorem zCF {s : AS} {r : HR} (hv : (zas MII r.n (s.bank r).at_).isSome = true) (h : r.vec = true) (h2 : (zas MII r.n s.v.at_).isSome = false) : False := by
 rw [zhn h, h2] at hv; cases hv
theorem zCG {s : AS} {r : HR} (hv : (zas MII r.n (s.bank r).at_).isSome = true) (h : ¬ r.vec = true) (h2 : (zas MII r.n s.w.at_).isSome = false) : False := by
 rw [zhm h, h2] at hv; cases hv
theorem zBA {s : AS} {X : List (List SV)} (h : s.L.length <= 1000000) (hX : X.length = 1) : (zai.len (Sum.inr (List.map HI.pv s.L)) + zai.len (Sum.inl X)) * 96 <= 2 ^ 46 := by
 simp only [zai.len, List.length_map, hX] at *; omega
theorem zBB {s : AS} {X : List (List SV)} (h : s.fr.length <= 1000000) (hX : X.length = 1) : (zai.len (Sum.inr (List.map ipv s.fr)) + zai.len (Sum.inl X)) * 8 <= 2 ^ 46 := by
 simp only [zai.len, List.length_map, hX] at *; omega
theorem zBD {s : AS} {x : HI} {f : Int} {X : List (List SV)} (hX : X.length = 1) : 0 = 0 /\ (s.emit x f).L.length = zai.len (Sum.inr (List.map HI.pv s.L)) + zai.len (Sum.inl X) := by
 simp [zai.len, hX, AS.emit]
theorem zBC {s : AS} {x : HI} {f : Int} {X : List (List SV)} (hX : X.length = 1) : 0 = 0 /\ (s.emit x f).fr.length = zai.len (Sum.inr (List.map ipv s.fr)) + zai.len (Sum.inl X) := by
 simp [zai.len, hX, AS.emit]
theorem zBE {s : AS} {x : HI} {f : Int} : 15 = 15 /\ List.map HI.pv (s.emit x f).L = List.map HI.pv s.L ++ [HI.pv x] := ⟨rfl, by simp [AS.emit]⟩
theorem zBF {s : AS} {x : HI} {f : Int} : 1 = 1 /\ List.map ipv (s.emit x f).fr = List.map ipv s.fr ++ [[PV.int IntKind.i64 f]] := ⟨rfl, by simp [AS.emit, ipv]⟩
noncomputable def zux (s : AS) (x : HI) (f : Int) : zaa := ⟨[.ptr 0 0 0, .agg x.cells, kz f], [.row [.mp 1, .mp 2, .rd (.sl 15 (List.map HI.pv (s).code)), .slc 3 0 (s).L.length, .slc 4 0 (s).fr.length, .ptr 5 0 0, .ptr 6 0 0], .map MTS (s).us none, .map MTS (s).ds none, .vec 15 (List.map HI.pv (s).L), .vec 1 (List.map ipv (s).fr), .row [.bool (s).w.vec, .mp 7, .mp 8, .mp 9, .mp 10, .mp 11], .row [.bool (s).v.vec, .mp 12, .mp 13, .mp 14, .mp 15, .mp 16], .map MIB (s).w.free none, .map MII (s).w.holds none, .map MII (s).w.at_ none, .map MII (s).w.slot none, .map MIB (s).w.slots none, .map MIB (s).v.free none, .map MII (s).v.holds none, .map MII (s).v.at_ none, .map MII (s).v.slot none, .map MIB (s).v.slots none], [some (.row [.mp 1, .mp 2, .rd (.sl 15 (List.map HI.pv (s.emit x f).code)), .slc 17 0 (s.emit x f).L.length, .slc 18 0 (s.emit x f).fr.length, .ptr 5 0 0, .ptr 6 0 0]), some (.map MTS (s.emit x f).us none), some (.map MTS (s.emit x f).ds none), none, none, some (.row [.bool (s.emit x f).w.vec, .mp 7, .mp 8, .mp 9, .mp 10, .mp 11]), some (.row [.bool (s.emit x f).v.vec, .mp 12, .mp 13, .mp 14, .mp 15, .mp 16]), some (.map MIB (s.emit x f).w.free none), some (.map MII (s.emit x f).w.holds none), some (.map MII (s.emit x f).w.at_ none), some (.map MII (s.emit x f).w.slot none), some (.map MIB (s.emit x f).w.slots none), some (.map MIB (s.emit x f).v.free none), some (.map MII (s.emit x f).v.holds none), some (.map MII (s.emit x f).v.at_ none), some (.map MII (s.emit x f).v.slot none), some (.map MIB (s.emit x f).v.slots none)], [.vec 15 (List.map HI.pv (s.emit x f).L), .vec 1 (List.map ipv (s.emit x f).fr)], .tup []⟩
set_option maxHeartbeats 4000000 in
theorem zDc (s : AS) (x : HI) (f : Int) (h1 : s.L.length <= 1000000) (h2 : s.fr.length <= 1000000) : zaa.ok Tryz.prog GG 125 (zux s x f) := by
 refine zad mix zBU _ rfl rfl (Tab.ok (l := []) trivial) noL noJ ?_
 repeat' ((conv => whnf); first
  | exact trivial
  | with_reducible first | refine aj ?_ | refine ai rfl ?_ | refine ai ⟨rfl, rfl⟩ ?_
  | ((with_reducible refine ai ?_ ?_); focus exact w3)
  | with_reducible first | refine And.intro ?_ ?_ | refine zae ?_ | refine exI (i64_in (by omega) (by omega)) ?_
  | refine exI (x := ULift.up _) (Eq.refl _) ?_
  | refine exI (x := ULift.up _) ⟨rfl, by omega, Eq.refl _⟩ ?_
  | exact nx
  | ((with_reducible intro h); try dsimp only at h))
 all_goals (refine Sd.mk ?_)
 all_goals first
  | exact zBA h1 rfl
  | exact zBB h2 rfl
  | exact zBD rfl
  | exact zBC rfl
  | exact zBE
  | exact zBF
  | exact ⟨rfl, by rw [List.length_map]⟩
noncomputable def znU : SFn
 | [.ptr p _ _, a1, .int .i64 f], k => zj5 p fun s => zdh a1 fun x => .req (s.L.length <= 1000000 /\ s.fr.length <= 1000000) (k (zux s x f))
 | _, _ => .fail
theorem zxM : FnS Tryz.prog GG 125 znU := by
 intro args k gt go R v os n h
 unfold znU at h
 split at h
 . obtain ⟨s, _, h⟩ := zgN h
   obtain ⟨x, _, h⟩ := zbp h
   obtain ⟨hp, _, h⟩ := zaz h
   exact ⟨_, _, zDc s x _ hp.1 hp.2, h⟩
 . cases h
noncomputable def zut (s : AS) (r : HR) (i : Int) : zaa := ⟨[.ptr 0 0 0, .agg r.cells, kz i, .any], [.row [.mp 1, .mp 2, .rd (.sl 15 (List.map HI.pv (s).code)), .slc 3 0 (s).L.length, .slc 4 0 (s).fr.length, .ptr 5 0 0, .ptr 6 0 0], .map MTS (s).us none, .map MTS (s).ds none, .vec 15 (List.map HI.pv (s).L), .vec 1 (List.map ipv (s).fr), .row [.bool (s).w.vec, .mp 7, .mp 8, .mp 9, .mp 10, .mp 11], .row [.bool (s).v.vec, .mp 12, .mp 13, .mp 14, .mp 15, .mp 16], .map MIB (s).w.free none, .map MII (s).w.holds none, .map MII (s).w.at_ none, .map MII (s).w.slot none, .map MIB (s).w.slots none, .map MIB (s).v.free none, .map MII (s).v.holds none, .map MII (s).v.at_ none, .map MII (s).v.slot none, .map MIB (s).v.slots none], [some (.row [.mp 1, .mp 2, .rd (.sl 15 (List.map HI.pv (s).code)), .slc 3 0 (s).L.length, .slc 4 0 (s).fr.length, .ptr 5 0 0, .ptr 6 0 0]), some (.map MTS (s).us none), some (.map MTS (s).ds none), some (.vec 15 (List.map HI.pv (s).L)), some (.vec 1 (List.map ipv (s).fr)), some (.row [.bool (s).w.vec, .mp 7, .mp 8, .mp 9, .mp 10, .mp 11]), some (.row [.bool (s).v.vec, .mp 12, .mp 13, .mp 14, .mp 15, .mp 16]), some (.map MIB (s).w.free none), some (.map MII (s).w.holds none), some (.map MII (s).w.at_ none), some (.map MII (s).w.slot none), some (.map MIB (s).w.slots none), some (.map MIB (s).v.free none), some (.map MII (s).v.holds none), some (.map MII (s).v.at_ none), some (.map MII (s).v.slot none), some (.map MIB (s).v.slots none)], [], .tup []⟩
set_option maxHeartbeats 4000000 in
theorem zC8 (s : AS) (r : HR) (i : Int) (hv : (zas MII r.n (s.bank r).at_).isSome = true) : zaa.ok Tryz.prog GG 120 (zut s r i) := by
 refine zad mix zBQ _ rfl rfl (Tab.ok (l := [(121, znR), (123, znS), (124, znT), (125, znU)]) ⟨zxJ, zxK, zxL, zxM, trivial⟩) noL noJ ?_
 repeat' ((conv => whnf); first
  | exact trivial
  | with_reducible first | refine aj ?_ | refine ai rfl ?_ | refine ai ⟨rfl, rfl⟩ ?_
  | ((with_reducible refine ai ?_ ?_); focus exact w3)
  | refine And.intro (Sd.mk (p := zaj.one MII = _ /\ _) ⟨rfl, rfl⟩) ?_
  | refine And.intro (Sd.mk (p := zaj.vone MII = _ /\ _) ⟨rfl, rfl⟩) ?_
  | refine And.intro (Sd.mk (p := zaj.one MIB = _ /\ _) ⟨rfl, rfl⟩) ?_
  | refine And.intro (Sd.mk (p := zaj.vone MIB = _ /\ _) ⟨rfl, rfl⟩) ?_
  | apply exI (x := (ULift.up (_ : Bool) : ULift.{1} Bool)) trivial
  | apply exI (x := (ULift.up (_ : Int) : ULift.{1} Int)) trivial
  | ((with_reducible intro h); first | exact (zCF hv (by with_reducible assumption) h).elim | exact (zCG hv (by with_reducible assumption) h).elim)
  | with_reducible first | refine And.intro ?_ ?_ | refine zae ?_ | refine exI (i64_in (by omega) (by omega)) ?_
  | refine exI (x := ULift.up _) (Eq.refl _) ?_
  | refine exI (x := ULift.up _) ⟨rfl, by omega, Eq.refl _⟩ ?_
  | exact nx
  | ((with_reducible intro h); try dsimp only at h))
 all_goals (refine Sd.mk ?_)
noncomputable def zp7 : SFn
 | [.ptr p _ _, a1, .int .i64 i, _], k => zj5 p fun s => zgO a1 fun r => .req ((zas MII r.n (s.bank r).at_).isSome = true) (k (zut s r i))
 | _, _ => .fail
theorem zEg : FnS Tryz.prog GG 120 zp7 := by
 intro args k gt go R v os n h
 unfold zp7 at h
 split at h
 . obtain ⟨s, _, h⟩ := zgN h
   obtain ⟨r, _, h⟩ := zd0 h
   obtain ⟨hp, _, h⟩ := zaz h
   exact ⟨_, _, zC8 s r _ hp, h⟩
 . cases h
end
section
def c97 : MC := .seq (.reg [oo 4 (.mv (ki 0))]) (.seq (.seq (.reg [om 6 0,oo 7 (.lenS (.t 6)),oo 8 (.mv (ki 0))]) (.blk 0 (.loop 0 (.seq (.reg [oo 9 (ct .lss 8 7)]) (.seq (.cond (.t 9) (.skip) (.exit 0)) (.seq (.blk 1 (.seq (.reg [om 10 8,om 5 10]) (.seq (.reg [om 11 1,om 12 0,om 13 5,oo 14 (ia 2 12 13),oo 15 (ls 2 14),oo 16 (.call (.t 11) [(.t 15)])]) (.cond (.t 16) (.seq (.reg [om 17 5,om 4 17]) (.ret)) (.skip))))) (.reg [oo 18 (ac .add 8 1),om 8 18]))))))) (.seq (.reg [oo 4 (.mv (ki (-1)))]) (.ret)))
theorem k97 : zar Tryz.prog 97 19 c97 [.t 4] := fk Tryz.func97 ⟨tv,⟨⟨tv,⟨tv,⟨⟨tv,tv⟩,⟨⟨tv,⟨tv,⟨⟨tv,tv⟩,tv⟩⟩⟩,tv⟩⟩⟩⟩,⟨tv,tv⟩⟩⟩
attribute [local irreducible] Go.Sx.zaf Go.Sx.zas zbB
def ziR (us ds : TM) : Prop := ∀ r, okT r us /\ okT r ds
def ddF (us ds : TM) (i : Int) (r : HR) : Bool := decide (zbB us ds r i < 0)
def zcv (p : HR -> Bool) : List HR -> Int -> Int
 | [], _ => -1
 | x :: r, i => if p x = true then i else zcv p r (i + 1)
def zyU (L : List HR) (us ds : TM) (i : Int) (j : Int) : St := ⟨[(8, kz j), (7, kz L.length), (1, .fn (.func 54) [] [.ptr 1 0 0, .ptr 2 0 0]), (0, .slc 0 0 L.length)],
 [(0, some (.vec 2 (L.map HR.pv))), (1, some (.row [.mp 3, .mp 4])), (2, some (.row [kz i])), (3, some (.map MTS us none)), (4, some (.map MTS ds none))], 5⟩
def I97 (L : List HR) (us ds : TM) (i : Int) (j : Int) : Prop := 0 <= j /\ j <= L.length /\ L.length <= 1000000 /\ zcv (ddF us ds i) (L.drop j.toNat) j = zcv (ddF us ds i) L 0
theorem zBJ {L us ds i} (h : L.length <= 1000000) : I97 L us ds i 0 := ⟨by omega, by omega, h, rfl⟩
theorem zyW {L us ds i j} (hI : I97 L us ds i j) (h : j < L.length) : 0 <= j /\ j < L.length := ⟨hI.1, h⟩
theorem zww {L us ds i j} (hI : I97 L us ds i j) (h : j < L.length) (e : decide (zbB us ds (nth L j) i < 0) = true) : zcv (ddF us ds i) L 0 = j := by
 obtain ⟨h1, h2, h3, h4⟩ := hI
 rw [zaG L j ⟨h1, h⟩, zcv, if_pos (show ddF us ds i (nth L j) = true from e)] at h4
 exact h4.symm
theorem zyV {L us ds i j} (hI : I97 L us ds i j) (h : j < L.length) (e : decide (zbB us ds (nth L j) i < 0) = false) : I97 L us ds i (j + 1) /\ ((L.length : Int) - (j + 1)).toNat < ((L.length : Int) - j).toNat := by
 obtain ⟨h1, h2, h3, h4⟩ := hI
 rw [zaG L j ⟨h1, h⟩, zcv, if_neg (by rw [show ddF us ds i (nth L j) = false from e]; decide)] at h4
 exact ⟨⟨by omega, by omega, h3, h4⟩, by omega⟩
theorem zwv {L us ds i j} (hI : I97 L us ds i j) (h : ¬ j < L.length) : zcv (ddF us ds i) L 0 = -1 := by
 obtain ⟨h1, h2, h3, h4⟩ := hI
 rw [List.drop_eq_nil_of_le (by omega)] at h4
 exact h4.symm
noncomputable def L97 (L : List HR) (us : TM) (ds : TM) (i : Int) : zaa := ⟨[.slc 0 0 L.length, .fn (.func 54) [] [.ptr 1 0 0, .ptr 2 0 0]], [.vec 2 (L.map HR.pv), .row [.mp 3, .mp 4], .row [kz i], .map MTS us none, .map MTS ds none], [some (.vec 2 (L.map HR.pv)), some (.row [.mp 3, .mp 4]), some (.row [kz i]), some (.map MTS us none), some (.map MTS ds none)], [], kz (zcv (ddF us ds i) L 0)⟩
set_option maxHeartbeats 2000000 in
theorem s97 (L : List HR) (us : TM) (ds : TM) (i : Int) (hp : ziR us ds) (hl : L.length <= 1000000) : zaa.ok Tryz.prog GG 97 (L97 L us ds i) := by
 refine zad mix k97 _ rfl rfl (Tab.ok (l := [(54, S54)]) ⟨t54, trivial⟩) (fun _ => .inv Int (fun _ => I97 L us ds i) (zyU L us ds i) (fun j => ((L.length : Int) - j).toNat)) noJ ?_
 repeat' ((conv => whnf); first
  | exact trivial
  | with_reducible first | refine aj ?_ | refine ai rfl ?_ | refine ai ⟨rfl, rfl⟩ ?_
  | ((with_reducible refine ai ?_ ?_); focus exact w3)
  | with_reducible first | apply exW (γ := Int) (c := _) | refine exI (i64_in (by simp only [I97, List.length_map] at *; omega) (by simp only [I97, List.length_map] at *; omega)) ?_
  | refine exI (x := MTS) trivial ?_
  | with_reducible refine And.intro (Sd.mk (p := okT _ _ /\ okT _ _) (hp _)) ?_
  | refine exI (x := ULift.up _) (zbS _ _ _ (by simp only [I97, List.length_map] at *; omega)) ?_
  | refine exI (x := ULift.up _) ⟨rfl, (by simp only [I97, List.length_map] at *; omega), zbI _ _ _ (by simp only [I97, List.length_map] at *; omega)⟩ ?_
  | with_reducible first | refine And.intro ?_ ?_ | refine zae ?_ | refine exI (i64_in (by omega) (by omega)) ?_
  | refine exI (x := ULift.up _) (Eq.refl _) ?_
  | refine exI (x := ULift.up _) ⟨rfl, by omega, Eq.refl _⟩ ?_
  | exact nx
  | ((with_reducible intro h); try dsimp only at h))
 all_goals (refine Sd.mk ?_)
 all_goals (try simp only [HR.eta] at *)
 all_goals first
  | exact zBJ hl
  | exact hp _
  | exact zyW ‹_› ‹_›
  | exact zww ‹_› ‹_› ‹_›
  | exact zyV ‹_› ‹_› ‹_›
  | exact zwv ‹_› ‹_›
noncomputable def S97 : SFn
 | [.slc o 0 _, .fn (.func 54) [] [.ptr p _ _, .ptr q _ _]], k => .rO o fun oo => match oo with
   | some (.vec 2 LL) => asL HR.pv LL fun L => zbz p fun rp => zbz q fun rq => match rp, rq with
     | .agg [.mp u, .mp d], .agg [.int .i64 i] => zbh MTS u fun us => zbh MTS d fun ds => .req (ziR us ds) (.req (L.length <= 1000000) (k (L97 L us ds i)))
     | _, _ => .fail
   | _ => .fail
 | _, _ => .fail
theorem t97 : FnS Tryz.prog GG 97 S97 := by
 intro args k gt go R v os n h
 unfold S97 at h
 split at h
 . cases h with
   | rO h =>
     dsimp only at h
     split at h
     . obtain ⟨L, _, h⟩ := zbc h
       obtain ⟨_, _, h⟩ := zaX h
       obtain ⟨_, _, h⟩ := zaX h
       split at h
       . obtain ⟨us, _, h⟩ := zaP h
         obtain ⟨ds, _, h⟩ := zaP h
         obtain ⟨hp, _, h⟩ := zaz h
         obtain ⟨hl, _, h⟩ := zaz h
         exact ⟨_, _, s97 L us ds _ hp hl, h⟩
       . cases h
     . cases h
 . cases h
end
section
def eqQ (a b : HR) : Prop := (a.vec = true ↔ b.vec = true) /\ a.n = b.n /\ True
theorem zng (a b : HR) : eqQ a b ↔ a = b := by
 cases a; cases b
 simp only [eqQ, HR.mk.injEq, and_true]
 rw [<- Bool.eq_iff_iff]
def zC0 (s : AS) (r : HR) : Prop := (zas MII r.n (s.bank r).at_).isSome = true
def zdl (s : AS) (r : HR) : Int := zaf MII r.n (s.bank r).at_
def zff (s : AS) (r : HR) : AS := s.setB r ((s.bank r).forget r.n)
def zes (i : Int) (x : HI) (s : AS) (r : HR) : AS := if zbB s.us s.ds r (i + 1) < 0 \/ ((zal x).2 = true /\ r = (zal x).1) then zff s r else s
def zgS (s : AS) (i : Int) (x : HI) : AS := (zak x).foldl (zes i x) s
def zfx (s : AS) (x : HI) : BK := (s.bank (zal x).1).forget (zal x).1.n
def zl5 (s : AS) (x : HI) : AS := s.setB (zal x).1 ((zfx s x).put (zfx s x).top (zal x).1.n)
def zmt (s : AS) (i : Int) (x : HI) : AS × Int := if (zal x).2 = true then (zl5 (zgS s i x) x, (zfx (zgS s i x) x).top) else (zgS s i x, 0)
def emS (s : AS) (i : Int) (x : HI) : AS := (zmt s i x).1.emit (zc9 x (zmt s i x).2 ((zak x).map (zdl s))).1 i
def zbj (s : AS) (i : Int) : AS := if (zal (nth s.code i)).2 = true /\ zbB s.us s.ds (zal (nth s.code i)).1 (i + 1) < 0 then zff (emS s i (nth s.code i)) (zal (nth s.code i)).1 else emS s i (nth s.code i)
def zgy (b : BK) : Prop := (K1I b.free).Nodup /\ b.free.length <= 12 /\ b.free ≠ []
structure zeV (s : AS) (i : Int) : Prop where
 i0 : 0 <= i
 i1 : i < s.code.length
 c : s.code.length <= 4000
 u : ziR s.us s.ds
 p : ∀ r ∈ zak (nth s.code i), zC0 s r
 t : (zal (nth s.code i)).2 = true -> zgy (zfx (zgS s i (nth s.code i)) (nth s.code i))
 L : s.L.length <= 1000000
 f : s.fr.length <= 1000000
theorem zkb {s : AS} {r : HR} (h : r.vec = true) : zff s r = { s with v := s.v.forget r.n } := by unfold zff AS.setB; rw [if_pos h, zhn h]
theorem zka {s : AS} {r : HR} (h : ¬ r.vec = true) : zff s r = { s with w := s.w.forget r.n } := by unfold zff AS.setB; rw [if_neg h, zhm h]
theorem zvQ {i : Int} {x : HI} {s : AS} {r : HR} (h : zbB s.us s.ds r (i + 1) < 0) : zes i x s r = zff s r := by unfold zes; rw [if_pos (.inl h)]
theorem zvR {i : Int} {x : HI} {s : AS} {r : HR} (h : (zal x).2 = true) (h2 : eqQ r (zal x).1) : zes i x s r = zff s r := by unfold zes; rw [if_pos (.inr ⟨h, (zng _ _).1 h2⟩)]
theorem zBy {i : Int} {x : HI} {s : AS} {r : HR} (h : ¬ zbB s.us s.ds r (i + 1) < 0) (h2 : (zal x).2 = false) : zes i x s r = s := by
 unfold zes; rw [if_neg]; rintro (e | e)
 . exact h e
 . rw [h2] at e; cases e.1
theorem zBz {i : Int} {x : HI} {s : AS} {r : HR} (h : ¬ zbB s.us s.ds r (i + 1) < 0) (h2 : ¬ eqQ r (zal x).1) : zes i x s r = s := by
 unfold zes; rw [if_neg]; rintro (e | e)
 . exact h e
 . exact h2 ((zng _ _).2 e.2)
theorem zvO {s : AS} {x : HI} (h : (zal x).1.vec = true) : zl5 s x = { s with v := (s.v.forget (zal x).1.n).put (s.v.forget (zal x).1.n).top (zal x).1.n } := by unfold zl5 AS.setB zfx; rw [if_pos h, zhn h]
theorem zvN {s : AS} {x : HI} (h : ¬ (zal x).1.vec = true) : zl5 s x = { s with w := (s.w.forget (zal x).1.n).put (s.w.forget (zal x).1.n).top (zal x).1.n } := by unfold zl5 AS.setB zfx; rw [if_neg h, zhm h]
theorem zo8 {s : AS} {x : HI} (h : (zal x).1.vec = true) : zfx s x = s.v.forget (zal x).1.n := by unfold zfx; rw [zhn h]
theorem zo7 {s : AS} {x : HI} (h : ¬ (zal x).1.vec = true) : zfx s x = s.w.forget (zal x).1.n := by unfold zfx; rw [zhm h]
theorem ztH {s : AS} {r : HR} (h : r.vec = true) : zdl s r = zaf MII r.n s.v.at_ := by unfold zdl; rw [zhn h]
theorem ztG {s : AS} {r : HR} (h : ¬ r.vec = true) : zdl s r = zaf MII r.n s.w.at_ := by unfold zdl; rw [zhm h]
abbrev MBM : zaj := ⟨Bool, BM, inferInstance, true, [.bool], fun b => [.bool b], fun _ => rfl, fun a b h => by simpa using h, true, fun _ => [], []⟩
abbrev KM := List (Bool × BM)
abbrev zr1 : BM -> Sub := fun es => .map MIB es
def ziI (es : KM) : Prop := ∀ b : Bool, (zas MBM b es).isSome = true
theorem zvA {a b : BM} : ziI (zan MBM true b (zan MBM false a [])) := fun k => by cases k <;> rfl
theorem zqS {es : KM} {k : Bool} {x : BM} (h : ziI es) : ziI (zan MBM k x es) := fun b => by
 by_cases e : b = k
 . subst e; rw [zda]; rfl
 . rw [zbl e]; exact h b
end
section
def c74 : MC := .seq (.reg [om 22 0,oo 23 (.nchk (.t 22)),oo 24 (fl 2 23),oo 25 (ln 24),om 26 1,oo 27 (ia 15 25 26),oo 28 (ls 15 27),oo 4 (.alloc zI),o none (.st (some 15) (.t 4) (.t 28))]) (.seq (.reg [oo 29 (ls 15 4),oo 30 (fc 34 [(.t 29)]),om 5 30]) (.seq (.reg [oo 31 (.mkm),oo 32 (.mkm),o none (.mup true [.bool] (.t 31) kf (.t 32)),oo 33 (.mkm),o none (.mup true [.bool] (.t 31) kt (.t 33)),om 34 31,om 6 34]) (.seq (.seq (.reg [om 35 5,oo 36 (.lenS (.t 35)),oo 37 (.mv (ki 0))]) (.blk 0 (.loop 0 (.seq (.reg [oo 38 (ct .lss 37 36)]) (.seq (.cond (.t 38) (.skip) (.exit 0)) (.seq (.blk 1 (.seq (.reg [oo 39 (ia 2 35 37),oo 40 (ls 2 39),oo 8 (.alloc [.ff,(kz 0)]),o none (.st (some 2) (.t 8) (.t 40))]) (.reg [om 41 6,oo 42 (fl 0 8),oo 43 (ln 42),oo 44 (.lkp false true [.bool] true [.val (.map none)] (.t 41) (.t 43)),oo 45 (fl 1 8),oo 46 (ln 45),o none (.mup true [.int .i64] (.t 44) (.t 46) kt)]))) (.gh (.putc 19) (.reg [oo 47 (ac .add 37 1),om 37 47])))))))) (.seq (.reg [oo 9 (.mv (.k (.val (.slice none 0 0))))]) (.seq (.seq (.reg [om 48 5,oo 49 (.lenS (.t 48)),oo 50 (.mv (ki 0))]) (.blk 2 (.loop 1 (.seq (.reg [oo 51 (ct .lss 50 49)]) (.seq (.cond (.t 51) (.skip) (.exit 2)) (.seq (.blk 3 (.seq (.reg [oo 52 (ia 2 48 50),oo 53 (ls 2 52),oo 11 (.alloc [.ff,(kz 0)]),o none (.st (some 2) (.t 11) (.t 53))]) (.reg [om 54 0,oo 55 (ls 2 11),om 56 1,om 57 6,oo 58 (fl 0 11),oo 59 (ln 58),oo 60 (.lkp false true [.bool] true [.val (.map none)] (.t 57) (.t 59)),oo 61 (fc 120 [(.t 54),(.t 55),(.t 56),(.t 60)])]))) (.gh (.putb 19) (.reg [oo 62 (ac .add 50 1),om 50 62])))))))) (.seq (.seq (.reg [om 63 5,oo 64 (.lenS (.t 63)),oo 65 (.mv (ki 0))]) (.blk 4 (.loop 2 (.seq (.reg [oo 66 (ct .lss 65 64)]) (.seq (.cond (.t 66) (.skip) (.exit 4)) (.seq (.blk 5 (.seq (.reg [oo 67 (ia 2 63 65),oo 68 (ls 2 67),oo 13 (.alloc [.ff,(kz 0)]),o none (.st (some 2) (.t 13) (.t 68))]) (.drw [om 69 9,om 70 0,oo 71 (ls 2 13),oo 72 (fc 121 [(.t 70),(.t 71)]),oo 73 (.nchk (.t 72)),oo 74 (fl 3 73),oo 75 (ln 74),oo 76 (fl 1 13),oo 77 (ln 76),oo 78 (.lkp false true [.int .i64] true [.int .i64 0] (.t 75) (.t 77)),oo 79 (.bsl 1 1 [(kz 0)] [(0,(.t 78))]),oo 80 (.app 1 8 (.t 69) (.t 79)),om 9 80] [[],[],[],[1,2],[3],[4],[5],[],[7],[6,8],[9],[0,10,3],[11,11,0,1,2,3,4,5,6,7,8,9,10,11]]))) (.reg [oo 81 (ac .add 65 1),om 65 81]))))))) (.seq (.reg [oo 83 (ls 15 4),oo 84 (fc 33 [(.t 83)]),om 82 84,oo 85 (ex_ 0 82),oo 86 (ex_ 1 82),oo 14 (.alloc [.ff,(kz 0)]),o none (.st (some 2) (.t 14) (.t 85)),om 15 86]) (.seq (.seq (.reg [om 87 5,oo 88 (.lenS (.t 87)),oo 89 (.mv (ki 0))]) (.blk 6 (.loop 3 (.seq (.reg [oo 90 (ct .lss 89 88)]) (.seq (.cond (.t 90) (.skip) (.exit 6)) (.seq (.blk 7 (.seq (.reg [oo 91 (ia 2 87 89),oo 92 (ls 2 91),oo 17 (.alloc [.ff,(kz 0)]),o none (.st (some 2) (.t 17) (.t 92))]) (.seq (.drw [om 93 0,oo 94 (.nchk (.t 93)),oo 95 (fl 0 94),oo 96 (ls 2 95),oo 97 (ls 2 17),om 98 1,oo 99 (ac .add 98 1),oo 100 (fc 55 [(.t 96),(.t 97),(.t 99)]),oo 101 (cc .lss 100 0),sm 102 101,mf 102 103 15,ogs 102 false (some 104) (.mv (.t 103)),gt_ 104 105 (ls 2 17),gt_ 104 106 (ls 2 14),gt_ 104 107 (.eqs [.bool,.int .i64] false (.t 105) (.t 106)),gf 102 108 (pf 104 107),oo 109 (pt 102 108)] [[],[0],[1],[2],[],[],[5],[3,4,6],[7],[8,7],[9],[10,9,9],[11],[11],[12,13,11],[11,14,9],[9,15]])
 (.cond (.t 109) (.drw [om 110 0,oo 111 (ls 2 17),oo 112 (fc 121 [(.t 110),(.t 111)]),oo 113 (fl 1 17),oo 114 (ln 113),oo 115 (fc 122 [(.t 112),(.t 114)])] [[],[],[0,1],[],[3],[2,4,2]]) (.skip))))) (.reg [oo 116 (ac .add 89 1),om 89 116]))))))) (.seq (.reg [oo 18 (.mv (ki 0))]) (.seq (.seq (.reg [om 117 15]) (.cond (.t 117) (.seq (.reg [om 118 0,oo 119 (ls 2 14),oo 120 (fc 121 [(.t 118),(.t 119)]),om 19 120]) (.seq (.reg [om 121 19,oo 122 (fl 1 14),oo 123 (ln 122),oo 124 (fc 122 [(.t 121),(.t 123)])]) (.seq (.reg [om 125 0,om 126 19,om 127 1,oo 128 (ac .add 127 1),oo 129 (fc 123 [(.t 125),(.t 126),(.t 128),(.k (.val (.map none)))]),om 18 129]) (.reg [om 130 19,om 131 18,oo 132 (fl 1 14),oo 133 (ln 132),oo 134 (fc 124 [(.t 130),(.t 131),(.t 133)])])))) (.skip))) (.seq (.reg [oo 136 (ls 15 4),om 137 18,om 138 9,oo 139 (fc 38 [(.t 136),(.t 137),(.t 138)]),om 135 139,oo 140 (ex_ 0 135),oo 141 (ex_ 1 135),oo 20 (.alloc zI),o none (.st (some 15) (.t 20) (.t 140)),om 21 141]) (.seq (.reg [om 142 0,oo 143 (ls 15 20),om 144 1,oo 145 (fc 125 [(.t 142),(.t 143),(.t 144)])]) (.seq (.drw [om 146 15,sm 147 146,mt 147 148 0,gt_ 147 149 (.nchk (.t 148)),gt_ 147 150 (fl 0 149),gt_ 147 151 (ls 2 150),gt_ 147 152 (ls 2 14),mt 147 153 1,gt_ 147 154 (ac .add 153 1),gt_ 147 155 (fc 55 [(.t 151),(.t 152),(.t 154)]),gt_ 147 156 (cc .lss 155 0),oo 157 (pf 147 156)] [[],[0],[1],[2,1],[3,1],[4,1],[1],[1],[7,1],[5,6,8,1,1],[9,1],[1,10]]) (.cond (.t 157) (.drw [om 158 0,oo 159 (ls 2 14),oo 160 (fc 121 [(.t 158),(.t 159)]),oo 161 (fl 1 14),oo 162 (ln 161),oo 163 (fc 122 [(.t 160),(.t 162)])] [[],[],[0,1],[],[3],[2,4,2]]) (.skip)))))))))))))))
theorem k74 : zar Tryz.prog 74 164 c74 [] := fk Tryz.func74 ⟨tv,⟨tv,⟨tv,⟨⟨tv,⟨tv,⟨⟨tv,tv⟩,⟨⟨tv,tv⟩,tv⟩⟩⟩⟩,⟨tv,⟨⟨tv,⟨tv,⟨⟨tv,tv⟩,⟨⟨tv,tv⟩,tv⟩⟩⟩⟩,⟨⟨tv,⟨tv,⟨⟨tv,tv⟩,⟨⟨tv,tv⟩,tv⟩⟩⟩⟩,⟨tv,⟨⟨tv,⟨tv,⟨⟨tv,tv⟩,⟨⟨tv,⟨tv,⟨tv,tv⟩⟩⟩,tv⟩⟩⟩⟩,⟨tv,⟨⟨tv,⟨⟨tv,⟨tv,⟨tv,tv⟩⟩⟩,tv⟩⟩,⟨tv,⟨tv,⟨tv,⟨tv,tv⟩⟩⟩⟩⟩⟩⟩⟩⟩⟩⟩⟩⟩⟩⟩
attribute [local irreducible] Go.Sx.zaf Go.Sx.zas Go.Sx.zan Go.Sx.zaO zbO BK.top BK.forget BK.put zak zal zc9 zbB
abbrev X74 (s : AS) (i : Int) : HI := nth s.code i
abbrev U74 (s : AS) (i : Int) : List HR := zak (nth s.code i)
abbrev n74 (s : AS) (i : Int) : List Int := (U74 s i).map (zdl s)
abbrev zou (s : AS) (w v : BK) : List (Nat × Option SO) := [(0, some (.row [.mp 1, .mp 2, .rd (.sl 15 (List.map HI.pv (s).code)), .slc 3 0 (s).L.length, .slc 4 0 (s).fr.length, .ptr 5 0 0, .ptr 6 0 0])), (1, some (.map MTS (s).us none)), (2, some (.map MTS (s).ds none)), (3, some (.vec 15 (List.map HI.pv (s).L))), (4, some (.vec 1 (List.map ipv (s).fr))), (5, some (.row [.bool w.vec, .mp 7, .mp 8, .mp 9, .mp 10, .mp 11])), (6, some (.row [.bool v.vec, .mp 12, .mp 13, .mp 14, .mp 15, .mp 16])), (7, some (.map MIB w.free none)), (8, some (.map MII w.holds none)), (9, some (.map MII w.at_ none)), (10, some (.map MII w.slot none)), (11, some (.map MIB w.slots none)), (12, some (.map MIB v.free none)), (13, some (.map MII v.holds none)), (14, some (.map MII v.at_ none)), (15, some (.map MII v.slot none)), (16, some (.map MIB v.slots none))]
abbrev ziE := Int × KM
abbrev zlB := BK × BK × Int
abbrev wv (s : AS) (w v : BK) : AS := ⟨s.us, s.ds, s.code, s.L, s.fr, w, v⟩
def zwq (s : AS) (i : Int) : ziE -> St
 | (j, es) => ⟨[(37, kz j), (36, kz (U74 s i).length), (35, .slc 18 0 (U74 s i).length), (6, .mp 19), (5, .slc 18 0 (U74 s i).length), (4, .ptr 17 0 0), (1, kz i), (0, .ptr 0 0 0)],
    zou s s.w s.v ++ [(17, some (.row (X74 s i).cells)), (18, some (.vec 2 (List.map HR.pv (U74 s i)))), (19, some (.fam MBM zr1 es none))], 20⟩
def zwr (s : AS) (i : Int) : ziE -> St
 | (j, es) => ⟨[(50, kz j), (49, kz (U74 s i).length), (48, .slc 18 0 (U74 s i).length), (9, .val (.slice none 0 0)), (6, .mp 19), (5, .slc 18 0 (U74 s i).length), (4, .ptr 17 0 0), (1, kz i), (0, .ptr 0 0 0)],
    zou s s.w s.v ++ [(17, some (.row (X74 s i).cells)), (18, some (.vec 2 (List.map HR.pv (U74 s i)))), (19, some (.fam MBM zr1 es none))], 20⟩
def zws (s : AS) (i : Int) (j : Int) : St :=
 ⟨[(65, kz j), (64, kz (U74 s i).length), (63, .slc 18 0 (U74 s i).length), (9, .slc 19 0 j.toNat), (5, .slc 18 0 (U74 s i).length), (4, .ptr 17 0 0), (1, kz i), (0, .ptr 0 0 0)],
    zou s s.w s.v ++ [(17, some (.row (X74 s i).cells)), (18, some (.vec 2 (List.map HR.pv (U74 s i)))), (19, some (.vec 1 (List.map ipv (List.map (zdl s) (List.take j.toNat (U74 s i))))))], 20⟩
def zwt (s : AS) (i : Int) : zlB -> St
 | (w, v, j) => ⟨[(89, kz j), (88, kz (U74 s i).length), (87, .slc 18 0 (U74 s i).length), (15, .bool (zal (X74 s i)).2), (14, .ptr 20 0 0), (9, .slc 19 0 (U74 s i).length), (4, .ptr 17 0 0), (1, kz i), (0, .ptr 0 0 0)],
    zou s w v ++ [(17, some (.row (X74 s i).cells)), (18, some (.vec 2 (List.map HR.pv (U74 s i)))), (19, some (.vec 1 (List.map ipv (n74 s i)))), (20, some (.row (zal (X74 s i)).1.cells))], 21⟩
def zcy (s : AS) (i : Int) : ziE -> Prop
 | (j, es) => 0 <= j /\ j <= (U74 s i).length /\ (U74 s i).length <= 3 /\ ziI es
def zcW (s : AS) (i : Int) (j : Int) : Prop := 0 <= j /\ j <= (U74 s i).length /\ (U74 s i).length <= 3
def zcs (s : AS) (i : Int) : zlB -> Prop
 | (w, v, j) => 0 <= j /\ j <= (U74 s i).length /\ (U74 s i).length <= 3 /\ ((U74 s i).drop j.toNat).foldl (zes i (X74 s i)) (wv s w v) = zgS s i (X74 s i)
def zz6 (s : AS) (i : Int) : Nat -> zcA
 | 0 => .inv ziE (fun _ => zcy s i) (zwq s i) (fun c => ((U74 s i).length - c.1).toNat)
 | 1 => .inv ziE (fun _ => zcy s i) (zwr s i) (fun c => ((U74 s i).length - c.1).toNat)
 | 2 => .inv Int (fun _ => zcW s i) (zws s i) (fun c => ((U74 s i).length - c).toNat)
 | _ => .inv zlB (fun _ => zcs s i) (zwt s i) (fun c => ((U74 s i).length - c.2.2).toNat)
theorem zvv {s : AS} {i : Int} {Q : ziE -> Prop} (h : ∀ j es, zcy s i (j, es) -> Q (j, es)) : ∀ c, zcy s i c -> Q c := fun ⟨_, _⟩ hI => h _ _ hI
theorem zvw {s : AS} {i : Int} {Q : zlB -> Prop} (h : ∀ w v j, zcs s i (w, v, j) -> Q (w, v, j)) : ∀ c, zcs s i c -> Q c := fun ⟨_, _, _⟩ hI => h _ _ _ hI
theorem zts {κ : Type} {k : κ} : ze1 (none : Option (κ × Nat × Option Nat)) k := fun _ _ _ e => by cases e
theorem zDW {s : AS} {i : Int} {es : KM} (h : ziI es) : zcy s i (0, es) := ⟨by omega, by omega, zbY _, h⟩
theorem zsS {s : AS} {i j : Int} {es es' : KM} (h : zcy s i (j, es)) (hj : j < (U74 s i).length) (hb : ziI es -> ziI es') : zcy s i (j + 1, es') /\ (((U74 s i).length : Int) - (j + 1)).toNat < (((U74 s i).length : Int) - j).toNat :=
 ⟨⟨by have := h.1; omega, by omega, h.2.2.1, hb h.2.2.2⟩, by have := h.1; omega⟩
theorem zDX {s : AS} {i j : Int} {es : KM} (h : zcy s i (j, es)) : zcy s i (0, es) := ⟨by omega, by omega, h.2.2.1, h.2.2.2⟩
theorem zxs {s : AS} {i j : Int} {es : KM} {b : Bool} (h : zcy s i (j, es)) : (zas MBM b es).isSome = true := h.2.2.2 b
theorem zDY {s : AS} {i : Int} : zcW s i 0 := ⟨by omega, by omega, zbY _⟩
theorem zzu {s : AS} {i j : Int} (h : zcW s i j) (hj : j < (U74 s i).length) : zcW s i (j + 1) /\ (((U74 s i).length : Int) - (j + 1)).toNat < (((U74 s i).length : Int) - j).toNat :=
 ⟨⟨by have := h.1; omega, by omega, h.2.2⟩, by have := h.1; omega⟩
theorem zDZ {s : AS} {i : Int} : zcs s i (s.w, s.v, 0) := ⟨by omega, by omega, zbY _, rfl⟩
theorem zil {s : AS} {i j : Int} {w v w' v' : BK} (h : zcs s i (w, v, j)) (hj : j < (U74 s i).length) (e : zes i (X74 s i) (wv s w v) (nth (U74 s i) j) = wv s w' v') :
 zcs s i (w', v', j + 1) /\ (((U74 s i).length : Int) - (j + 1)).toNat < (((U74 s i).length : Int) - j).toNat := by
  obtain ⟨h1, h2, h3, h4⟩ := h
  refine ⟨⟨by omega, by omega, h3, ?_⟩, by omega⟩
  rw [zaG _ _ ⟨h1, hj⟩, List.foldl_cons, e] at h4
  exact h4
theorem zhV {s : AS} {i j : Int} {w v : BK} (h : zcs s i (w, v, j)) (hj : ¬ j < (U74 s i).length) : zgS s i (X74 s i) = wv s w v := by
 obtain ⟨h1, h2, h3, h4⟩ := h
 rw [List.drop_eq_nil_of_le (by omega)] at h4
 exact h4.symm
theorem zsH {s : AS} {i : Int} : List.take (U74 s i).length (List.drop 0 (List.map ipv (n74 s i))) = (n74 s i).map ipv := by
 rw [List.drop_zero, List.take_of_length_le (by simp)]
theorem zt8 {s : AS} {i j : Int} {es : KM} (hs : zeV s i) (h : zcy s i (j, es)) (hj : j < (U74 s i).length) : (zas MII (nth (U74 s i) j).n (s.bank (nth (U74 s i) j)).at_).isSome = true := hs.p _ (zki _ _ ⟨h.1, hj⟩)
theorem zzC {s : AS} {i : Int} : PV.sl 1 (List.map ipv (n74 s i)) = PV.sl 1 (List.take (U74 s i).length (List.drop 0 (List.map ipv (n74 s i)))) /\ 0 + (U74 s i).length <= (List.map ipv (n74 s i)).length := ⟨by rw [zsH], by simp⟩
theorem zrs (x : HI) : zc2 x.cells := ⟨trivial, trivial, trivial, trivial, trivial, trivial, trivial, trivial, trivial, trivial, trivial, trivial, trivial, trivial, trivial, trivial⟩
theorem zD2 {s : AS} {i j : Int} (h : zcW s i j) : 0 = 0 /\ j.toNat = (List.map ipv (List.map (zdl s) (List.take j.toNat (U74 s i)))).length := by
 obtain ⟨h1, h2, _⟩ := h
 refine ⟨rfl, ?_⟩
 rw [List.length_map, List.length_map, List.length_take]; omega
theorem zD3 {s : AS} {i j : Int} {X : List (List SV)} (h : zcW s i j) (hX : X.length = 1) : (zai.len (Sum.inr (List.map ipv (List.map (zdl s) (List.take j.toNat (U74 s i))))) + zai.len (Sum.inl X)) * 8 <= 2 ^ 46 := by
 obtain ⟨h1, h2, h3⟩ := h
 simp only [zai.len, List.length_map, List.length_take, hX] at *; omega
theorem zD4 {s : AS} {i j : Int} {X : List (List SV)} (h : zcW s i j) (hj : j < (U74 s i).length) (hX : X.length = 1) : 0 = 0 /\ (j + 1).toNat = zai.len (Sum.inr (List.map ipv (List.map (zdl s) (List.take j.toNat (U74 s i))))) + zai.len (Sum.inl X) := by
 obtain ⟨h1, h2, h3⟩ := h
 simp only [zai.len, List.length_map, List.length_take, hX, true_and] at *; omega
theorem zxy {s : AS} {i j y : Int} (h : zcW s i j) (hj : j < (U74 s i).length) (e : zdl s (nth (U74 s i) j) = y) : 1 = 1 /\ List.map ipv (List.map (zdl s) (List.take (j + 1).toNat (U74 s i))) = List.map ipv (List.map (zdl s) (List.take j.toNat (U74 s i))) ++ [[PV.int IntKind.i64 y]] := by
 refine ⟨rfl, ?_⟩
 rw [zcP _ j ⟨h.1, hj⟩, List.map_append, List.map_append, <- e]; rfl
theorem zD5 {s : AS} {i j : Int} (h : zcW s i j) (hj : ¬ j < (U74 s i).length) : 0 = 0 /\ (U74 s i).length = j.toNat := by
 obtain ⟨h1, h2, h3⟩ := h
 exact ⟨rfl, by omega⟩
theorem zD6 {s : AS} {i j : Int} (h : zcW s i j) (hj : ¬ j < (U74 s i).length) : 1 = 1 /\ List.map ipv (n74 s i) = List.map ipv (List.map (zdl s) (List.take j.toNat (U74 s i))) := by
 obtain ⟨h1, h2, h3⟩ := h
 rw [List.take_of_length_le (by omega)]
 exact ⟨rfl, rfl⟩
theorem zEQ {s : AS} {i j : Int} {w v : BK} (hs : zeV s i) (h : zcs s i (w, v, j)) (hj : ¬ j < (U74 s i).length) (hd : (zal (X74 s i)).2 = true) (hv : (zal (X74 s i)).1.vec = true) : zgy (v.forget (zal (X74 s i)).1.n) := by
 have := hs.t hd
 rw [zhV h hj, zo8 hv] at this
 exact this
theorem zER {s : AS} {i j : Int} {w v : BK} (hs : zeV s i) (h : zcs s i (w, v, j)) (hj : ¬ j < (U74 s i).length) (hd : (zal (X74 s i)).2 = true) (hv : ¬ (zal (X74 s i)).1.vec = true) : zgy (w.forget (zal (X74 s i)).1.n) := by
 have := hs.t hd
 rw [zhV h hj, zo7 hv] at this
 exact this
theorem zEa {s : AS} {i j : Int} {w v : BK} (h : zcs s i (w, v, j)) (hj : ¬ j < (U74 s i).length) (hd : (zal (X74 s i)).2 = false) : zbj s i = (wv s w v).emit (zc9 (X74 s i) 0 (n74 s i)).1 i := by
 unfold zbj emS zmt
 rw [if_neg (by rw [hd]; rintro ⟨e, _⟩; cases e), if_neg (by rw [hd]; decide), zhV h hj]
theorem zvW {s : AS} {i j : Int} {w v : BK} (h : zcs s i (w, v, j)) (hj : ¬ j < (U74 s i).length) (hd : (zal (X74 s i)).2 = true) (hv : (zal (X74 s i)).1.vec = true) :
 emS s i (X74 s i) = (wv s w ((v.forget (zal (X74 s i)).1.n).put (v.forget (zal (X74 s i)).1.n).top (zal (X74 s i)).1.n)).emit (zc9 (X74 s i) (v.forget (zal (X74 s i)).1.n).top (n74 s i)).1 i := by
  unfold emS zmt
  rw [if_pos hd, zhV h hj, zvO hv, zo8 hv]
theorem zsx {s : AS} {i j : Int} {w v : BK} (h : zcs s i (w, v, j)) (hj : ¬ j < (U74 s i).length) (hd : (zal (X74 s i)).2 = true) (hv : ¬ (zal (X74 s i)).1.vec = true) :
 emS s i (X74 s i) = (wv s ((w.forget (zal (X74 s i)).1.n).put (w.forget (zal (X74 s i)).1.n).top (zal (X74 s i)).1.n) v).emit (zc9 (X74 s i) (w.forget (zal (X74 s i)).1.n).top (n74 s i)).1 i := by
  unfold emS zmt
  rw [if_pos hd, zhV h hj, zvN hv, zo7 hv]
theorem zxC {s : AS} {i : Int} (hd : (zal (X74 s i)).2 = true) (hn : ¬ zbB s.us s.ds (zal (X74 s i)).1 (i + 1) < 0) : zbj s i = emS s i (X74 s i) := by
 unfold zbj; rw [if_neg (fun e => hn e.2)]
theorem zxD {s : AS} {i : Int} (hd : (zal (X74 s i)).2 = true) (hn : zbB s.us s.ds (zal (X74 s i)).1 (i + 1) < 0) : zbj s i = zff (emS s i (X74 s i)) (zal (X74 s i)).1 := by
 unfold zbj; rw [if_pos ⟨hd, hn⟩]
noncomputable def L74 (s : AS) (i : Int) : zaa := ⟨[.ptr 0 0 0, kz i], [.row [.mp 1, .mp 2, .rd (.sl 15 (List.map HI.pv (s).code)), .slc 3 0 (s).L.length, .slc 4 0 (s).fr.length, .ptr 5 0 0, .ptr 6 0 0], .map MTS (s).us none, .map MTS (s).ds none, .vec 15 (List.map HI.pv (s).L), .vec 1 (List.map ipv (s).fr), .row [.bool (s).w.vec, .mp 7, .mp 8, .mp 9, .mp 10, .mp 11], .row [.bool (s).v.vec, .mp 12, .mp 13, .mp 14, .mp 15, .mp 16], .map MIB (s).w.free none, .map MII (s).w.holds none, .map MII (s).w.at_ none, .map MII (s).w.slot none, .map MIB (s).w.slots none, .map MIB (s).v.free none, .map MII (s).v.holds none, .map MII (s).v.at_ none, .map MII (s).v.slot none, .map MIB (s).v.slots none], [some (.row [.mp 1, .mp 2, .rd (.sl 15 (List.map HI.pv (zbj s i).code)), .slc 17 0 (zbj s i).L.length, .slc 18 0 (zbj s i).fr.length, .ptr 5 0 0, .ptr 6 0 0]), some (.map MTS (zbj s i).us none), some (.map MTS (zbj s i).ds none), none, none, some (.row [.bool (zbj s i).w.vec, .mp 7, .mp 8, .mp 9, .mp 10, .mp 11]), some (.row [.bool (zbj s i).v.vec, .mp 12, .mp 13, .mp 14, .mp 15, .mp 16]), some (.map MIB (zbj s i).w.free none), some (.map MII (zbj s i).w.holds none), some (.map MII (zbj s i).w.at_ none), some (.map MII (zbj s i).w.slot none), some (.map MIB (zbj s i).w.slots none), some (.map MIB (zbj s i).v.free none), some (.map MII (zbj s i).v.holds none), some (.map MII (zbj s i).v.at_ none), some (.map MII (zbj s i).v.slot none), some (.map MIB (zbj s i).v.slots none)], [.vec 15 (List.map HI.pv (zbj s i).L), .vec 1 (List.map ipv (zbj s i).fr)], .tup []⟩
set_option maxHeartbeats 20000000 in
theorem s74 (s : AS) (i : Int) (hs : zeV s i) : zaa.ok Tryz.prog GG 74 (L74 s i) := by
 refine zad mix k74 _ rfl rfl (Tab.ok (l := [(34, S34), (33, S33), (38, S38), (55, S55), (120, zp7), (121, znR), (122, zp8), (123, znS), (124, znT), (125, znU)]) ⟨t34, t33, t38, t55, zEg, zxJ, zEh, zxK, zxL, zxM, trivial⟩) (zz6 s i) noJ ?_
 repeat' ((conv => whnf); first
  | exact trivial
  | with_reducible first | refine aj ?_ | refine ai rfl ?_ | refine ai ⟨rfl, rfl⟩ ?_
  | ((with_reducible refine ai ?_ ?_); focus exact w3)
  | refine exI (x := ULift.up _) ⟨rfl, (by have := hs.i0; have := hs.i1; have := hs.c; (try simp only [zcy, zcW, zcs, List.length_map] at *); omega), zbI _ _ _ (by have := hs.i0; have := hs.i1; have := hs.c; (try simp only [zcy, zcW, zcs, List.length_map] at *); omega)⟩ ?_
  | with_reducible first | refine And.intro ?_ ?_ | refine zae ?_ | refine exI (i64_in (by omega) (by omega)) ?_
  | refine exI (x := ULift.up _) (Eq.refl _) ?_
  | refine exI (x := ULift.up _) ⟨rfl, by omega, Eq.refl _⟩ ?_
  | exact nx
  | ((with_reducible intro h); try dsimp only at h))
 any_goals ((conv => whnf); refine exI (x := MBM) trivial ?_)
 repeat' ((conv => whnf); first
  | exact trivial
  | with_reducible first | refine aj ?_ | refine ai rfl ?_ | refine ai ⟨rfl, rfl⟩ ?_
  | ((with_reducible refine ai ?_ ?_); focus exact w3)
  | refine And.intro (Sd.mk (p := zaj.one MII = _ /\ _) ⟨rfl, rfl⟩) ?_
  | refine And.intro (Sd.mk (p := zaj.vone MII = _ /\ _) ⟨rfl, rfl⟩) ?_
  | refine And.intro (Sd.mk (p := zaj.one MIB = _ /\ _) ⟨rfl, rfl⟩) ?_
  | refine And.intro (Sd.mk (p := zaj.vone MIB = _ /\ _) ⟨rfl, rfl⟩) ?_
  | apply exI (x := (ULift.up (_ : Bool) : ULift.{1} Bool)) trivial
  | apply exI (x := (ULift.up (_ : Int) : ULift.{1} Int)) trivial
  | with_reducible first | refine zvv ?_ | refine zvw ?_ | apply exW (γ := ziE) (c := (_, _)) | apply exW (γ := Int) (c := _) | apply exW (γ := zlB) (c := (⟨_, _, _, _, _, _⟩, ⟨_, _, _, _, _, _⟩, _)) | refine exI (x := MIB) trivial ?_ | refine exI (x := zr1) trivial ?_ | refine And.intro (Sd.mk zts) ?_ | refine And.intro (Sd.mk hole_yes) ?_ | refine And.intro (Sd.mk (p := zaj.one MBM = _ /\ _) ⟨rfl, rfl⟩) ?_
  | apply exI (x := (ULift.up (_ : Bool) : ULift.{1} Bool)) trivial
  | apply exI (x := (ULift.up (_ : BM) : ULift.{1} BM)) trivial
  | with_reducible refine And.intro (Sd.mk (p := Option.isSome _ = true) (zxs (by with_reducible assumption))) ?_
  | refine Exists.intro _ (And.intro (Sd.mk ⟨zxs (by with_reducible assumption), rfl, fun _ _ h => h⟩) ?_)
  | with_reducible refine exI (i64_in (by have := hs.i0; have := hs.i1; have := hs.c; (try simp only [zcy, zcW, zcs, List.length_map] at *); omega) (by have := hs.i0; have := hs.i1; have := hs.c; (try simp only [zcy, zcW, zcs, List.length_map] at *); omega)) ?_
  | refine exI (x := ULift.up _) (zbS _ _ _ (by have := hs.i0; have := hs.i1; have := hs.c; (try simp only [zcy, zcW, zcs, List.length_map] at *); omega)) ?_
  | refine exI (x := ULift.up _) ⟨rfl, (by have := hs.i0; have := hs.i1; have := hs.c; (try simp only [zcy, zcW, zcs, List.length_map] at *); omega), zbI _ _ _ (by have := hs.i0; have := hs.i1; have := hs.c; (try simp only [zcy, zcW, zcs, List.length_map] at *); omega)⟩ ?_
  | refine exI (x := ULift.up (n74 s i)) zsH ?_
  | refine And.intro (Sd.mk (p := Option.isSome _ = true) (hs.p _ (zki _ _ (by have := hs.i0; have := hs.i1; have := hs.c; (try simp only [zcy, zcW, zcs, List.length_map] at *); omega)))) ?_
  | with_reducible refine And.intro (Sd.mk (p := okT _ _ /\ okT _ _) (hs.u _)) ?_
  | refine And.intro (Sd.mk (p := List.Nodup _ /\ _) (zEQ hs ‹_› ‹_› ‹_› ‹_›)) ?_
  | refine And.intro (Sd.mk (p := List.Nodup _ /\ _) (zER hs ‹_› ‹_› ‹_› ‹_›)) ?_
  | refine And.intro (Sd.mk (p := _ <= 1000000 /\ _) ⟨hs.L, hs.f⟩) ?_
  | with_reducible first | refine And.intro (Sd.mk (p := (_ : Int) <= _ /\ _) (by have := hs.i0; have := hs.i1; have := hs.c; (try simp only [zcy, zcW, zcs, List.length_map] at *); omega)) ?_ | refine And.intro ?_ ?_ | refine zae ?_ | refine exI (i64_in (by omega) (by omega)) ?_
  | refine exI (x := ULift.up _) (Eq.refl _) ?_
  | refine exI (x := ULift.up _) ⟨rfl, by omega, Eq.refl _⟩ ?_
  | exact nx
  | ((with_reducible intro h); try dsimp only at h))
 all_goals (refine Sd.mk ?_)
 all_goals first
  | exact zt8 hs ‹_› ‹_›
  | exact hs.u _
  | exact zzC
  | exact ⟨⟨zrs _, trivial, trivial⟩, trivial, trivial⟩
  | exact zDW zvA
  | exact zDX ‹_›
  | exact zsS ‹_› ‹_› zqS
  | exact zsS ‹_› ‹_› (fun h => h)
  | exact zDY
  | exact zzu ‹_› ‹_›
  | exact zD2 ‹_›
  | exact zD3 ‹_› rfl
  | exact zD4 ‹_› ‹_› rfl
  | exact zxy ‹_› ‹_› (ztH ‹_›)
  | exact zxy ‹_› ‹_› (ztG ‹_›)
  | exact zD5 ‹_› ‹_›
  | exact zD6 ‹_› ‹_›
  | exact zDZ
  | exact zil ‹_› ‹_› ((zvQ ‹_›).trans (zkb ‹_›))
  | exact zil ‹_› ‹_› ((zvQ ‹_›).trans (zka ‹_›))
  | exact zil ‹_› ‹_› ((zvR ‹_› ‹_›).trans (zkb ‹_›))
  | exact zil ‹_› ‹_› ((zvR ‹_› ‹_›).trans (zka ‹_›))
  | exact zil ‹_› ‹_› (zBy ‹_› ‹_›)
  | exact zil ‹_› ‹_› (zBz ‹_› ‹_›)
  | (rw [zEa (s := s) (i := i) ‹_› ‹_› ‹_›] <;> first | rfl | exact ⟨rfl, rfl⟩)
  | (rw [zxC (s := s) (i := i) ‹_› ‹_›, zvW (s := s) (i := i) ‹_› ‹_› ‹_› ‹_›] <;> first | rfl | exact ⟨rfl, rfl⟩)
  | (rw [zxD (s := s) (i := i) ‹_› ‹_›, zvW (s := s) (i := i) ‹_› ‹_› ‹_› ‹_›, zkb ‹_›] <;> first | rfl | exact ⟨rfl, rfl⟩)
  | (rw [zxC (s := s) (i := i) ‹_› ‹_›, zsx (s := s) (i := i) ‹_› ‹_› ‹_› ‹_›] <;> first | rfl | exact ⟨rfl, rfl⟩)
  | (rw [zxD (s := s) (i := i) ‹_› ‹_›, zsx (s := s) (i := i) ‹_› ‹_› ‹_› ‹_›, zka ‹_›] <;> first | rfl | exact ⟨rfl, rfl⟩)
noncomputable def S74 : SFn
 | [.ptr p _ _, .int .i64 i], k => zj5 p fun s => .req (zeV s i) (k (L74 s i))
 | _, _ => .fail
theorem t74 : FnS Tryz.prog GG 74 S74 := by
 intro args k gt go R v os n h
 unfold S74 at h
 split at h
 . obtain ⟨s, _, h⟩ := zgN h
   obtain ⟨hp, _, h⟩ := zaz h
   exact ⟨_, _, s74 s _ hp, h⟩
 . cases h
end
section
def c95 : MC := .seq (.reg [oo 1 (.box (.t 0)),oo 2 (.mv (.k (.val .nilFunc)))]) (.seq (.reg [oo 3 (.mkf (.func 140) [] [(.t 1)]),om 2 3]) (.ret))
theorem k95 : zar Tryz.prog 95 4 c95 [.t 2] := fk Tryz.func95 ⟨tv,⟨tv,tv⟩⟩
noncomputable def L95 (es : TM) : zaa := ⟨[.mp 0], [.map MTS es none], [some (.map MTS es none)], [.row [.mp 0]], .fn (.func 140) [] [.ptr 1 0 0]⟩
theorem s95 (es : TM) : zaa.ok Tryz.prog GG 95 (L95 es) := by
 refine zad mix k95 _ rfl rfl (Tab.ok (l := []) trivial) noL noJ ?_
 repeat' ((conv => whnf); first
  | exact trivial
  | with_reducible first | refine aj ?_ | refine ai rfl ?_ | refine ai ⟨rfl, rfl⟩ ?_
  | ((with_reducible refine ai ?_ ?_); focus exact w3)
  | refine exI (x := MTS) trivial ?_
  | with_reducible first | refine And.intro ?_ ?_ | refine zae ?_ | refine exI (i64_in (by omega) (by omega)) ?_
  | refine exI (x := ULift.up _) (Eq.refl _) ?_
  | refine exI (x := ULift.up _) ⟨rfl, by omega, Eq.refl _⟩ ?_
  | exact ny
  | ((with_reducible intro h); try dsimp only at h))
 all_goals (refine Sd.mk ?_)
noncomputable def S95 : SFn
 | [.mp p], k => zbh MTS p fun es => k (L95 es)
 | _, _ => .fail
theorem t95 : FnS Tryz.prog GG 95 S95 := by
 intro args k gt go R v os n h
 unfold S95 at h
 split at h
 . obtain ⟨es, _, h⟩ := zaP h
   exact ⟨_, _, s95 es, h⟩
 . cases h
end
section
theorem zl2 (a b : HR) : zd1 a b < 0 \/ zd1 b a < 0 \/ a = b := by
 obtain ⟨v, n⟩ := a; obtain ⟨w, m⟩ := b
 cases v <;> cases w <;> simp [zd1, zcZ] <;> (repeat' split) <;> omega
theorem zq3 (a : HR) : ¬ zd1 a a < 0 := by
 obtain ⟨v, n⟩ := a
 simp [zd1, zcZ]
theorem zjl {a b c : HR} (h : zd1 a b < 0) (g : zd1 b c < 0) : zd1 a c < 0 := by
 obtain ⟨v, n⟩ := a; obtain ⟨w, m⟩ := b; obtain ⟨u, k⟩ := c
 revert h g
 cases v <;> cases w <;> cases u <;> simp [zd1, zcZ] <;> (repeat' split) <;> omega
abbrev geR (a b : HR) : Prop := ¬ zd1 a b < 0
theorem zpf {a b c : HR} (h : geR a b) (g : geR b c) : geR a c := by
 intro k
 rcases zl2 a b with e | e | e
 . exact h e
 . exact g (zjl e k)
 . subst e; exact g k
theorem zkU (A : List HR) (x : HR) : (zc5 A x).Perm (x :: A) := by
 induction A with
 | nil => exact .refl _
 | cons y r ih =>
   unfold zc5; split
   . exact (ih.cons y).trans (.swap x y r)
   . exact .refl _
theorem ztw (A : List HR) (x : HR) (h : A.Pairwise geR) : (zc5 A x).Pairwise geR := by
 induction A with
 | nil => exact List.pairwise_singleton _ _
 | cons y r ih =>
   rw [List.pairwise_cons] at h
   unfold zc5; split
   . next hc =>
     rw [List.pairwise_cons]
     refine ⟨fun z hz => ?_, ih h.2⟩
     rcases List.mem_cons.1 ((zkU r x).mem_iff.1 hz) with e | e
     . subst e; exact fun k => zq3 _ (zjl hc k)
     . exact h.1 z e
   . next hc =>
     rw [List.pairwise_cons]
     refine ⟨fun z hz => ?_, List.pairwise_cons.2 h⟩
     rcases List.mem_cons.1 hz with e | e
     . subst e; exact hc
     . exact zpf hc (h.1 z e)
theorem zhy (L : List HR) : ∀ A, (L.foldl zc5 A).Perm (L ++ A) := by
 induction L with
 | nil => intro A; exact .refl _
 | cons x r ih => intro A; exact (ih (zc5 A x)).trans (((zkU A x).append_left r).trans List.perm_middle)
theorem znj (L : List HR) : ∀ A, A.Pairwise geR -> (L.foldl zc5 A).Pairwise geR := by
 induction L with
 | nil => intro A h; exact h
 | cons x r ih => intro A h; exact ih _ (ztw A x h)
theorem zoE (L : List HR) : (zb2 L).Perm L := by
 unfold zb2
 exact (List.reverse_perm _).trans (by simpa using zhy L [])
theorem zrX {L M : List HR} (h : L.Perm M) : zb2 L = zb2 M := by
 unfold zb2
 congr 1
 refine List.Perm.eq_of_pairwise (le := geR) ?_ (znj L [] List.Pairwise.nil) (znj M [] List.Pairwise.nil) ?_
 . intro a b _ _ h1 h2
   rcases zl2 a b with e | e | e
   . exact absurd e h1
   . exact absurd e h2
   . exact e
 . exact (zhy L []).trans (((h.append_right [])).trans (zhy M []).symm)
end
section
def zvB : MC := .seq (.reg [oo 4 (ln 1),oo 5 (.rngm (.t 4))]) (.blk 0 (.loop 0 (.seq (.reg [oo 6 (.nxt (.t 5)),oo 7 (ex_ 0 6)]) (.seq (.cond (.t 7) (.skip) (.exit 0)) (.blk 1 (.seq (.reg [oo 8 (.ent (.t 5)),oo 9 (ex_ 0 8),oo 3 (.alloc [.ff,(kz 0)]),o none (.st (some 2) (.t 3) (.t 9))]) (.seq (.reg [om 10 0,oo 11 (ls 2 3),oo 12 (.call (.t 10) [(.t 11)]),oo 13 (.not (.t 12))]) (.cond (.t 13) (.ret) (.skip)))))))))
theorem zwA : zar Tryz.prog 140 14 zvB [] := fk Tryz.func140 ⟨tv,⟨tv,⟨⟨tv,tv⟩,⟨tv,⟨tv,⟨tv,tv⟩⟩⟩⟩⟩⟩
def zAS : MC := .seq (.reg [oo 2 (.box (.t 0)),oo 4 (.mv (.k (.val (.slice none 0 0))))]) (.seq (.seq (.reg [om 6 1]) (.blk 0 (.rng (.t 6) [7] (.reg [oo 5 (.alloc [.ff,(kz 0)]),o none (.st (some 2) (.t 5) (.t 7))]) (.blk 1 (.reg [oo 8 (ln 2),oo 9 (ls 2 5),oo 10 (.bsl 2 1 [.ff,(kz 0)] [(0,(.t 9))]),oo 11 (.app 2 16 (.t 8) (.t 10)),o none (.st (some 1) (.t 2) (.t 11))])) 140 14 zvB))) (.seq (.reg [oo 12 (ln 2),om 4 12]) (.ret)))
theorem zB9 : zar Tryz.prog 168 13 zAS [.t 4] := .of Tryz.func168 (by kernel_rfl) (by kernel_rfl) (by kernel_rfl) (by kernel_rfl) ⟨trivial, ⟨⟨trivial, ⟨trivial, trivial, zwA.it, zwA.its⟩⟩, ⟨trivial, trivial⟩⟩⟩
def zAF : MC := .seq (.reg [oo 2 (.mv (.k (.val (.slice none 0 0))))]) (.seq (.reg [om 3 0,oo 4 (fc 168 [(.k (.val (.slice none 0 0))),(.t 3)]),om 2 4]) (.ret))
theorem zBW : zar Tryz.prog 138 5 zAF [.t 2] := fk Tryz.func138 ⟨tv,⟨tv,tv⟩⟩
def c94 : MC := .seq (.reg [oo 4 (.mv (.k (.val (.slice none 0 0))))]) (.seq (.reg [om 6 0,oo 7 (fc 138 [(.t 6)]),om 5 7]) (.gh (.opn 2) (.seq (.reg [om 8 5,om 9 1,oo 10 (fc 139 [(.t 8),(.t 9)])]) (.seq (.reg [om 11 5,om 4 11]) (.ret)))))
theorem k94 : zar Tryz.prog 94 12 c94 [.t 4] := fk Tryz.func94 ⟨tv,⟨tv,⟨tv,⟨tv,tv⟩⟩⟩⟩
def c51 : MC := .seq (.reg [oo 4 (.mv (.k (.val (.slice none 0 0))))]) (.seq (.reg [om 5 0,oo 6 (fc 95 [(.t 5)]),om 7 1,oo 8 (fc 94 [(.t 6),(.t 7)]),om 4 8]) (.ret))
theorem k51 : zar Tryz.prog 51 9 c51 [.t 4] := fk Tryz.func51 ⟨tv,⟨tv,tv⟩⟩
abbrev K1 (es : TM) : List HR := es.map Prod.fst
def prm (K : List HR) (L : List (List PV)) : Prop := ∃ M : List HR, M.Perm K /\ L = M.map HR.pv
abbrev ziC := Nat × Go.Loop × List HR × Option HR × List HR
def zwh (es : TM) : ziC -> St
 | (lp, r, left, cur, acc) => ⟨[(5, .ptr 4 0 0), (0, .fn (.yield lp) [] [])],
    [(0, some (.row [.mp 1])), (1, some (.map MTS es (some (4, left, cur)))), (2, some (.row [.slc 5 0 acc.length])), (3, some (.lrec lp r .ready)), (4, some (.itr 1)), (5, some (.vec 2 (acc.map HR.pv)))], 6⟩
def ze5 (es : TM) : ziC -> ziC -> Prop
 | (lp0, r0, _), (lp, r, left, _, acc) => lp = lp0 /\ r = r0 /\ (acc ++ left).Perm (K1 es) /\ (K1 es).Nodup /\ es.length <= 1000000
def zyp (es : TM) : Nat -> zcA := fun _ => .inv ziC (ze5 es) (zwh es) (fun c => c.2.2.1.length)
theorem zvn {es : TM} {lp r x} {Q : ziC -> Prop} (h : ∀ left cur acc, ze5 es (lp, r, x) (lp, r, left, cur, acc) -> Q (lp, r, left, cur, acc)) : ∀ c, ze5 es (lp, r, x) c -> Q c := fun ⟨lp', r', left, cur, acc⟩ hI => by
 obtain ⟨h1, h2, h3⟩ := hI
 subst h1; subst h2
 exact h _ _ _ ⟨rfl, rfl, h3⟩
theorem zvX {es : TM} {lp r x left cur acc} (_ : ze5 es (lp, r, x) (lp, r, left, cur, acc)) {k : HR} (_ : k ∈ left) {p q : ziC -> Prop} (h : p (lp, r, zaB MTS k left, some k, acc ++ [k])) (h2 : q (lp, r, zaB MTS k left, some k, acc ++ [k])) : ∃ c, p c /\ q c := ⟨_, h, h2⟩
theorem znh {k : HR} : ∀ {l : List HR}, k ∈ l -> l.Nodup -> l.Perm (k :: zaB MTS k l) /\ (zaB MTS k l).length < l.length
 | [], h, _ => by cases h
 | j :: l, h, hn => by
   rw [List.nodup_cons] at hn
   have he : ∀ (l : List HR), k ∉ l -> zaB MTS k l = l := by
    intro l
    induction l with
    | nil => intro _; simp [zaB]
    | cons a l ih =>
      intro hk
      simp only [List.mem_cons, not_or] at hk
      simp only [zaB]
      split
      . next e _ => exact absurd e.symm hk.1
      . rw [ih hk.2]
   simp only [zaB]
   split
   . next e _ =>
     subst e
     rw [he l hn.1]
     exact ⟨.refl _, by simp⟩
   . next e _ =>
     have hk : k ∈ l := by
      rcases List.mem_cons.1 h with h | h
      . exact absurd h.symm e
      . exact h
     obtain ⟨h1, h2⟩ := znh hk hn.2
     exact ⟨(h1.cons j).trans (.swap _ _ _), by simpa using h2⟩
attribute [local irreducible] zb2 Go.Sx.zaB
theorem zCu {es : TM} {lp r} (h : (K1 es).Nodup) (h2 : es.length <= 1000000) : ze5 es (lp, r, K1 es, none, []) (lp, r, K1 es, none, []) := ⟨rfl, rfl, .refl _, h, h2⟩
theorem zyY {es : TM} {lp r x left cur acc} {k : HR} (h : ze5 es (lp, r, x) (lp, r, left, cur, acc)) (hk : k ∈ left) : ze5 es (lp, r, x) (lp, r, zaB MTS k left, some k, acc ++ [k]) /\ (zaB MTS k left).length < left.length := by
 obtain ⟨_, _, h3, h4, h5⟩ := h
 have hn : left.Nodup := (List.nodup_append.1 (h3.nodup_iff.2 h4)).2.1
 obtain ⟨e1, e2⟩ := znh hk hn
 refine ⟨⟨rfl, rfl, ?_, h4, h5⟩, e2⟩
 rw [List.append_assoc]
 exact (e1.symm.append_left acc).trans h3
theorem zpo {es : TM} {lp r x left cur acc} (h : ze5 es (lp, r, x) (lp, r, left, cur, acc)) (hk : ∀ p, p ∈ es -> p.1 ∉ left) : acc.Perm (K1 es) := by
 obtain ⟨_, _, h3, h4, h5⟩ := h
 have : left = [] := by
  cases left with
  | nil => rfl
  | cons a l =>
    have ha : a ∈ K1 es := h3.subset (by simp)
    obtain ⟨p, hp, e⟩ := List.mem_map.1 ha
    exact absurd (by rw [<- e] at *; simp) (hk p hp)
 subst this
 simpa using h3
theorem zwJ {es : TM} {lp r x left cur acc} (h : ze5 es (lp, r, x) (lp, r, left, cur, acc)) (hk : ∀ p, p ∈ es -> p.1 ∉ left) : es.length = acc.length := by
 have := (zpo h hk).length_eq
 simpa using this.symm
theorem zCv {es : TM} {lp r x left cur acc} {X : List (List SV)} (h : ze5 es (lp, r, x) (lp, r, left, cur, acc)) (hX : X.length = 1) : (zai.len (Sum.inr (List.map HR.pv acc)) + zai.len (Sum.inl X)) * 16 <= 2 ^ 46 := by
 obtain ⟨_, _, h3, h4, h5⟩ := h
 have := h3.length_eq
 simp only [zai.len, List.length_map, List.length_append, hX] at *; omega
theorem zCw {acc : List HR} {k : HR} : 2 = 2 /\ List.map HR.pv (acc ++ [k]) = List.map HR.pv acc ++ [[PV.bool k.vec, PV.int IntKind.i64 k.n]] := ⟨rfl, by rw [List.map_append]; rfl⟩
theorem zCx {es : TM} {lp r x left cur acc} (h : ze5 es (lp, r, x) (lp, r, left, cur, acc)) (hk : ∀ p, p ∈ es -> p.1 ∉ left) : 2 = 2 /\ prm (K1 es) (List.map HR.pv acc) := ⟨rfl, acc, zpo h hk, rfl⟩
theorem zCy {es : TM} {lp r x left cur acc} (h : ze5 es (lp, r, x) (lp, r, left, cur, acc)) (hk : ∀ p, p ∈ es -> p.1 ∉ left) : 0 = 0 /\ es.length = acc.length := ⟨rfl, zwJ h hk⟩
noncomputable def zuM (es : TM) : zaa := ⟨[.val (.slice none 0 0), .fn (.func 140) [] [.ptr 0 0 0]], [.row [.mp 1], .map MTS es none], [some (.row [.mp 1]), some (.map MTS es none)], [.vex 2 (prm (K1 es))], .slc 2 0 es.length⟩
set_option maxHeartbeats 2000000 in
theorem zDr (es : TM) (hn : (K1 es).Nodup) (hl : es.length <= 1000000) : zaa.ok Tryz.prog GG 168 (zuM es) := by
 refine zad mix zB9 _ rfl rfl (Tab.ok (l := []) trivial) (zyp es) noJ ?_
 repeat' ((conv => whnf); first
  | exact trivial
  | with_reducible first | refine aj ?_ | refine ai rfl ?_ | refine ai ⟨rfl, rfl⟩ ?_
  | ((with_reducible refine ai ?_ ?_); focus exact w3)
  | with_reducible first | refine zvn ?_ | refine zvX (by with_reducible assumption) (by with_reducible assumption) ?_ ?_ | apply exW (γ := ziC) (c := (_, _, K1 es, none, [])) | refine ai ⟨rfl, rfl, rfl⟩ ?_ | refine And.intro ?_ ?_ | refine zae ?_ | refine exI (i64_in (by omega) (by omega)) ?_
  | refine exI (x := ULift.up _) (Eq.refl _) ?_
  | refine exI (x := ULift.up _) ⟨rfl, by omega, Eq.refl _⟩ ?_
  | exact nx
  | ((with_reducible intro h); try dsimp only at h))
 all_goals (refine Sd.mk ?_)
 all_goals first
  | exact zCu hn hl
  | exact zyY ‹_› ‹_›
  | exact ke_a ‹_›
  | exact zCv ‹_› rfl
  | exact ke_c rfl
  | exact zCw
  | exact zCx ‹_› ‹_›
  | exact zCy ‹_› ‹_›
noncomputable def zql : SFn
 | [.val _, .fn (.func 140) [] [.ptr p _ _]], k => zbz p fun rp => match rp with
   | .agg [.mp m] => zbh MTS m fun es => .req ((K1 es).Nodup /\ es.length <= 1000000) (k (zuM es))
   | _ => .fail
 | _, _ => .fail
theorem zEu : FnS Tryz.prog GG 168 zql := by
 intro args k gt go R v os n h
 unfold zql at h
 split at h
 . obtain ⟨_, _, h⟩ := zaX h
   split at h
   . obtain ⟨es, _, h⟩ := zaP h
     obtain ⟨hp, _, h⟩ := zaz h
     exact ⟨_, _, zDr es hp.1 hp.2, h⟩
   . cases h
 . cases h
noncomputable def zuz (es : TM) : zaa := ⟨[.fn (.func 140) [] [.ptr 0 0 0]], [.row [.mp 1], .map MTS es none], [some (.row [.mp 1]), some (.map MTS es none)], [.vex 2 (prm (K1 es))], .slc 2 0 es.length⟩
theorem zDe (es : TM) (hn : (K1 es).Nodup) (hl : es.length <= 1000000) : zaa.ok Tryz.prog GG 138 (zuz es) := by
 refine zad mix zBW _ rfl rfl (Tab.ok (l := [(168, zql)]) ⟨zEu, trivial⟩) noL noJ ?_
 repeat' ((conv => whnf); first
  | exact trivial
  | with_reducible first | refine aj ?_ | refine ai rfl ?_ | refine ai ⟨rfl, rfl⟩ ?_
  | ((with_reducible refine ai ?_ ?_); focus exact w3)
  | with_reducible first | refine And.intro (Sd.mk (p := List.Nodup _ /\ _) ⟨hn, by omega⟩) ?_ | refine And.intro ?_ ?_ | refine zae ?_ | refine exI (i64_in (by omega) (by omega)) ?_
  | refine exI (x := ULift.up _) (Eq.refl _) ?_
  | refine exI (x := ULift.up _) ⟨rfl, by omega, Eq.refl _⟩ ?_
  | exact ny
  | ((with_reducible intro h); try dsimp only at h))
 all_goals (refine Sd.mk ?_)
 all_goals first
  | exact ⟨rfl, fun _ h => h⟩
noncomputable def zqa : SFn
 | [.fn (.func 140) [] [.ptr p _ _]], k => zbz p fun rp => match rp with
   | .agg [.mp m] => zbh MTS m fun es => .req ((K1 es).Nodup /\ es.length <= 1000000) (k (zuz es))
   | _ => .fail
 | _, _ => .fail
theorem zEj : FnS Tryz.prog GG 138 zqa := by
 intro args k gt go R v os n h
 unfold zqa at h
 split at h
 . obtain ⟨_, _, h⟩ := zaX h
   split at h
   . obtain ⟨es, _, h⟩ := zaP h
     obtain ⟨hp, _, h⟩ := zaz h
     exact ⟨_, _, zDe es hp.1 hp.2, h⟩
   . cases h
 . cases h
theorem zyv {K : List HR} {Q : List (List PV) -> Prop} (h : ∀ M : List HR, M.Perm K -> Q (M.map HR.pv)) : ∀ L, prm K L -> Q L := fun L ⟨M, h1, h2⟩ => by subst h2; exact h M h1
theorem zzG {es : TM} {M : List HR} (h : M.Perm (K1 es)) : zb2 (K1 es) = zb2 M := (zrX h).symm
theorem zxA {es : TM} {M : List HR} (h : M.Perm (K1 es)) : M.length = es.length := by simpa using h.length_eq
theorem zzD {es : TM} {M : List HR} (h : M.Perm (K1 es)) (h2 : es.length <= 12) : M.length <= 12 := by rw [zxA h]; exact h2
theorem zzF {es : TM} {M : List HR} (h : M.Perm (K1 es)) : 0 = 0 /\ M.length = es.length := ⟨rfl, zxA h⟩
theorem zzH {es : TM} {M : List HR} (h : M.Perm (K1 es)) : 2 = 2 /\ List.map HR.pv (zb2 (K1 es)) = List.map HR.pv (zb2 M) := by rw [zzG h]; exact ⟨rfl, rfl⟩
noncomputable def L94 (es : TM) : zaa := ⟨[.fn (.func 140) [] [.ptr 0 0 0], .fn (.func 52) [] []], [.row [.mp 1], .map MTS es none], [some (.row [.mp 1]), some (.map MTS es none)], [.vec 2 ((zb2 (K1 es)).map HR.pv)], .slc 2 0 es.length⟩
theorem s94 (es : TM) (hn : (K1 es).Nodup) (hl : es.length <= 12) : zaa.ok Tryz.prog GG 94 (L94 es) := by
 refine zad mix k94 _ rfl rfl (Tab.ok (l := [(138, zqa), (139, zqb)]) ⟨zEj, zEk, trivial⟩) noL noJ ?_
 repeat' ((conv => whnf); first
  | exact trivial
  | with_reducible first | refine aj ?_ | refine ai rfl ?_ | refine ai ⟨rfl, rfl⟩ ?_
  | ((with_reducible refine ai ?_ ?_); focus exact w3)
  | with_reducible first | refine And.intro (Sd.mk (p := List.Nodup _ /\ _) ⟨hn, by omega⟩) ?_ | refine zyv ?_ | refine And.intro (Sd.mk (p := _ <= 12) (zzD ‹_› hl)) ?_ | refine ai (zzF ‹_›) ?_ | refine And.intro ?_ ?_ | refine zae ?_ | refine exI (i64_in (by omega) (by omega)) ?_
  | refine exI (x := ULift.up _) (Eq.refl _) ?_
  | refine exI (x := ULift.up _) ⟨rfl, by omega, Eq.refl _⟩ ?_
  | exact ny
  | ((with_reducible intro h); try dsimp only at h))
 all_goals (refine Sd.mk ?_)
 all_goals first
  | exact zzH ‹_›
noncomputable def S94 : SFn
 | [.fn (.func 140) [] [.ptr p _ _], .fn (.func 52) [] []], k => zbz p fun rp => match rp with
   | .agg [.mp m] => zbh MTS m fun es => .req ((K1 es).Nodup /\ es.length <= 12) (k (L94 es))
   | _ => .fail
 | _, _ => .fail
theorem t94 : FnS Tryz.prog GG 94 S94 := by
 intro args k gt go R v os n h
 unfold S94 at h
 split at h
 . obtain ⟨_, _, h⟩ := zaX h
   split at h
   . obtain ⟨es, _, h⟩ := zaP h
     obtain ⟨hp, _, h⟩ := zaz h
     exact ⟨_, _, s94 es hp.1 hp.2, h⟩
   . cases h
 . cases h
noncomputable def L51 (es : TM) : zaa := ⟨[.mp 0, .fn (.func 52) [] []], [.map MTS es none], [some (.map MTS es none)], [.vec 2 ((zb2 (K1 es)).map HR.pv)], .slc 1 0 es.length⟩
theorem s51 (es : TM) (hn : (K1 es).Nodup) (hl : es.length <= 12) : zaa.ok Tryz.prog GG 51 (L51 es) := by
 refine zad mix k51 _ rfl rfl (Tab.ok (l := [(95, S95), (94, S94)]) ⟨t95, t94, trivial⟩) noL noJ ?_
 repeat' ((conv => whnf); first
  | exact trivial
  | with_reducible first | refine aj ?_ | refine ai rfl ?_ | refine ai ⟨rfl, rfl⟩ ?_
  | ((with_reducible refine ai ?_ ?_); focus exact w3)
  | with_reducible first | refine And.intro (Sd.mk (p := List.Nodup _ /\ _) ⟨hn, by omega⟩) ?_ | refine And.intro ?_ ?_ | refine zae ?_ | refine exI (i64_in (by omega) (by omega)) ?_
  | refine exI (x := ULift.up _) (Eq.refl _) ?_
  | refine exI (x := ULift.up _) ⟨rfl, by omega, Eq.refl _⟩ ?_
  | exact ny
  | ((with_reducible intro h); try dsimp only at h))
 all_goals (refine Sd.mk ?_)
noncomputable def S51 : SFn
 | [.mp p, .fn (.func 52) [] []], k => zbh MTS p fun es => .req ((K1 es).Nodup /\ es.length <= 12) (k (L51 es))
 | _, _ => .fail
theorem t51 : FnS Tryz.prog GG 51 S51 := by
 intro args k gt go R v os n h
 unfold S51 at h
 split at h
 . obtain ⟨es, _, h⟩ := zaP h
   obtain ⟨hp, _, h⟩ := zaz h
   exact ⟨_, _, s51 es hp.1 hp.2, h⟩
 . cases h
end
section
def c53 : MC := .seq (.reg [oo 4 (.mv (.k (.val (.slice none 0 0))))]) (.seq (.reg [om 8 0,om 9 1,oo 10 (fc 97 [(.t 8),(.t 9)]),om 5 10]) (.seq (.seq (.reg [om 11 5,oo 12 (.cmp .eql (.t 11) (ki (-1)))]) (.cond (.t 12) (.seq (.reg [om 13 0,om 4 13]) (.ret)) (.skip))) (.seq (.seq (.reg [om 14 5,oo 15 (ac .add 14 1),om 6 15]) (.blk 0 (.loop 0 (.seq (.seq (.reg [om 16 6,om 17 0,oo 18 (.lenS (.t 17)),oo 19 (ct .lss 16 18)]) (.cond (.t 19) (.skip) (.exit 0))) (.seq (.blk 1 (.seq (.reg [om 22 0,om 23 6,oo 24 (ia 2 22 23),oo 25 (ls 2 24),oo 7 (.alloc [.ff,(kz 0)]),o none (.st (some 2) (.t 7) (.t 25))]) (.seq (.reg [om 26 1,oo 27 (ls 2 7),oo 28 (.call (.t 26) [(.t 27)]),oo 29 (.not (.t 28))]) (.cond (.t 29) (.seq (.reg [om 30 0,om 31 5,oo 32 (ls 2 7),oo 33 (ia 2 30 31),o none (.st (some 2) (.t 33) (.t 32))]) (.reg [om 34 5,oo 35 (ac .add 34 1),om 5 35])) (.skip))))) (.reg [om 20 6,oo 21 (ac .add 20 1),om 6 21])))))) (.seq (.reg [om 36 0,om 37 5,oo 38 (.sls 2 (.t 36) (some (.t 37)) none),o none (.clr 2 [.bool false,.int .i64 0] (.t 38))]) (.seq (.reg [om 39 0,om 40 5,oo 41 (.sls 2 (.t 39) none (some (.t 40))),om 4 41]) (.ret))))))
theorem k53 : zar Tryz.prog 53 42 c53 [.t 4] := fk Tryz.func53 ⟨tv,⟨tv,⟨⟨tv,⟨⟨tv,tv⟩,tv⟩⟩,⟨⟨tv,⟨⟨tv,⟨tv,tv⟩⟩,⟨⟨tv,⟨tv,⟨⟨tv,tv⟩,tv⟩⟩⟩,tv⟩⟩⟩,⟨tv,⟨tv,tv⟩⟩⟩⟩⟩⟩
attribute [local irreducible] Go.Sx.zaf Go.Sx.zas zbB
def hr0 : HR := ⟨false, 0⟩
def zc6 (us ds : TM) (i : Int) (L : List HR) : List HR := L.filter (fun r => !ddF us ds i r)
def zhJ (us ds : TM) (i : Int) (L : List HR) : List HR := zc6 us ds i L ++ List.replicate (L.length - (zc6 us ds i L).length) hr0
theorem zgX (p : HR -> Bool) : ∀ (L : List HR) (s : Int), (zcv p L s = -1 /\ L.filter (fun r => !p r) = L) \/ ∃ k : Nat, k < L.length /\ zcv p L s = s + k /\ (L.take (k + 1)).filter (fun r => !p r) = L.take k := by
 intro L
 induction L with
 | nil => intro s; exact .inl ⟨rfl, rfl⟩
 | cons x r ih =>
   intro s
   by_cases hx : p x = true
   . exact .inr ⟨0, by simp, by rw [zcv, if_pos hx]; simp, by simp [hx]⟩
   . rw [zcv, if_neg hx]
     have hx : p x = false := by simpa using hx
     rcases ih (s + 1) with ⟨h1, h2⟩ | ⟨k, h1, h2, h3⟩
     . exact .inl ⟨h1, by rw [List.filter_cons_of_pos (by simp [hx]), h2]⟩
     . exact .inr ⟨k + 1, by simpa using h1, by rw [h2]; omega, by rw [List.take_succ_cons, List.filter_cons_of_pos (by simp [hx]), h3, List.take_succ_cons]⟩
theorem zwu {p : HR -> Bool} {L : List HR} (h : L.length <= 1000000) : -1 <= zcv p L 0 /\ zcv p L 0 < 1000000 := by
 rcases zgX p L 0 with ⟨h1, _⟩ | ⟨k, h1, h2, _⟩ <;> omega
theorem zne {L us ds i} (h : zcv (ddF us ds i) L 0 = -1) : zc6 us ds i L = L := by
 rcases zgX (ddF us ds i) L 0 with ⟨h1, h2⟩ | ⟨k, h1, h2, _⟩
 . exact h2
 . omega
theorem zyD {L us ds i} (h : zcv (ddF us ds i) L 0 = -1) : (zc6 us ds i L).length = L.length := by rw [zne h]
theorem zyE {L us ds i} (h : zcv (ddF us ds i) L 0 = -1) : List.map HR.pv (zhJ us ds i L) = List.map HR.pv L := by unfold zhJ; rw [zne h, Nat.sub_self]; simp
abbrev C53 := Int × Int × List HR
def zyS (L : List HR) (us ds : TM) (i : Int) : C53 -> St
 | (rd, w, M) => ⟨[(6, kz rd), (5, kz w), (1, .fn (.func 54) [] [.ptr 1 0 0, .ptr 2 0 0]), (0, .slc 0 0 L.length)],
 [(0, some (.vec 2 (M.map HR.pv))), (1, some (.row [.mp 3, .mp 4])), (2, some (.row [kz i])), (3, some (.map MTS us none)), (4, some (.map MTS ds none))], 5⟩
def I53 (L : List HR) (us ds : TM) (i : Int) : C53 -> Prop
 | (rd, w, M) => 0 <= w /\ w < rd /\ rd <= L.length /\ L.length <= 1000000 /\ M.length = L.length /\ M.take w.toNat = zc6 us ds i (L.take rd.toNat) /\ M.drop rd.toNat = L.drop rd.toNat
theorem zyt {L us ds i} {Q : C53 -> Prop} (h : ∀ rd w M, I53 L us ds i (rd, w, M) -> Q (rd, w, M)) : ∀ c, I53 L us ds i c -> Q c := fun ⟨rd, w, M⟩ hI => h _ _ _ hI
theorem zBG {L us ds i rd w M} (_ : I53 L us ds i (rd, w, M)) (_ : (!decide (zbB us ds (nth M rd) i < 0)) = true) {p q : C53 -> Prop} (h : p (rd + 1, w + 1, M.set (0 + w.toNat) (nth M rd))) (k : q (rd + 1, w + 1, M.set (0 + w.toNat) (nth M rd))) : ∃ c, p c /\ q c := ⟨_, h, k⟩
theorem zBr {L us ds i} (hl : L.length <= 1000000) (h : ¬ zcv (ddF us ds i) L 0 = -1) : I53 L us ds i (zcv (ddF us ds i) L 0 + 1, zcv (ddF us ds i) L 0, L) := by
 rcases zgX (ddF us ds i) L 0 with ⟨h1, h2⟩ | ⟨k, h1, h2, h3⟩
 . exact absurd h1 h
 . rw [h2]
   refine ⟨by omega, by omega, by omega, hl, rfl, ?_, rfl⟩
   have e1 : ((0 : Int) + k).toNat = k := by omega
   have e2 : ((0 : Int) + k + 1).toNat = k + 1 := by omega
   rw [e1, e2]; exact h3.symm
theorem zsr {L us ds i rd w M} (hI : I53 L us ds i (rd, w, M)) (h : rd < L.length) : nth M rd = nth L rd /\ M.drop (rd + 1).toNat = L.drop (rd + 1).toNat := by
 obtain ⟨h1, h2, h3, h4, h5, h6, h7⟩ := hI
 rw [zaG M rd ⟨by omega, by omega⟩, zaG L rd ⟨by omega, h⟩] at h7
 exact List.cons.inj h7
theorem ztg {L us ds i rd w M} (hI : I53 L us ds i (rd, w, M)) (h : rd < L.length) (e : (!decide (zbB us ds (nth M rd) i < 0)) = false) : I53 L us ds i (rd + 1, w, M) /\ ((L.length : Int) - (rd + 1)).toNat < ((L.length : Int) - rd).toNat := by
 obtain ⟨ha, hb⟩ := zsr hI h
 obtain ⟨h1, h2, h3, h4, h5, h6, h7⟩ := hI
 refine ⟨⟨h1, by omega, by omega, h4, h5, ?_, hb⟩, by omega⟩
 rw [ha] at e
 rw [zcP L rd ⟨by omega, h⟩, zc6, List.filter_append, h6, List.filter_cons_of_neg (by rw [show (!ddF us ds i (nth L rd)) = false from e]; decide)]
 simp [zc6]
theorem ztf {L us ds i rd w M} (hI : I53 L us ds i (rd, w, M)) (h : rd < L.length) (e : (!decide (zbB us ds (nth M rd) i < 0)) = true) : I53 L us ds i (rd + 1, w + 1, M.set (0 + w.toNat) (nth M rd)) /\ ((L.length : Int) - (rd + 1)).toNat < ((L.length : Int) - rd).toNat := by
 obtain ⟨ha, hb⟩ := zsr hI h
 obtain ⟨h1, h2, h3, h4, h5, h6, h7⟩ := hI
 rw [ha] at e ⊢
 refine ⟨⟨by omega, by omega, by omega, h4, by rw [List.length_set]; exact h5, ?_, ?_⟩, by omega⟩
 . have e3 : (w + 1).toNat = w.toNat + 1 := by omega
   rw [zcP L rd ⟨by omega, h⟩, zc6, List.filter_append, List.filter_cons_of_pos (by exact e), e3, Nat.zero_add, List.take_add_one, List.take_set_of_le (Nat.le_refl _), h6, List.getElem?_set_self (by omega)]
   simp [zc6]
 . rw [Nat.zero_add, List.drop_set_of_lt (by omega)]; exact hb
theorem zo6 {L us ds i rd w M} (hI : I53 L us ds i (rd, w, M)) (h : ¬ rd < L.length) : zc6 us ds i L = M.take w.toNat := by
 obtain ⟨h1, h2, h3, h4, h5, h6, h7⟩ := hI
 rw [h6, List.take_of_length_le (l := L) (by omega)]
theorem zBs {L us ds i rd w M} (hI : I53 L us ds i (rd, w, M)) (h : ¬ rd < L.length) : 0 = 0 + Int.toNat 0 /\ (zc6 us ds i L).length = w.toNat - Int.toNat 0 := by
 rw [zo6 hI h, List.length_take]
 obtain ⟨h1, h2, h3, h4, h5, h6, h7⟩ := hI
 omega
theorem zBt {L us ds i rd w M} (hI : I53 L us ds i (rd, w, M)) (h : ¬ rd < L.length) : List.map HR.pv (zhJ us ds i L) = List.take (0 + w.toNat) (List.map HR.pv M) ++ List.replicate ((L.length : Int).toNat - w.toNat) [PV.bool false, PV.int IntKind.i64 0] ++ List.drop (0 + w.toNat + ((L.length : Int).toNat - w.toNat)) (List.map HR.pv M) := by
 unfold zhJ
 rw [zo6 hI h]
 obtain ⟨h1, h2, h3, h4, h5, h6, h7⟩ := hI
 rw [List.drop_eq_nil_of_le (by rw [List.length_map]; omega), List.append_nil, List.map_append, List.map_take, List.map_replicate, Nat.zero_add, List.length_take]
 have : min w.toNat M.length = w.toNat := by omega
 rw [this]; rfl
noncomputable def L53 (L : List HR) (us : TM) (ds : TM) (i : Int) : zaa := ⟨[.slc 0 0 L.length, .fn (.func 54) [] [.ptr 1 0 0, .ptr 2 0 0]], [.vec 2 (L.map HR.pv), .row [.mp 3, .mp 4], .row [kz i], .map MTS us none, .map MTS ds none], [some (.vec 2 ((zhJ us ds i L).map HR.pv)), some (.row [.mp 3, .mp 4]), some (.row [kz i]), some (.map MTS us none), some (.map MTS ds none)], [], .slc 0 0 (zc6 us ds i L).length⟩
set_option maxHeartbeats 2000000 in
theorem s53 (L : List HR) (us : TM) (ds : TM) (i : Int) (hp : ziR us ds) (hl : L.length <= 1000000) : zaa.ok Tryz.prog GG 53 (L53 L us ds i) := by
 refine zad mix k53 _ rfl rfl (Tab.ok (l := [(54, S54), (97, S97)]) ⟨t54, t97, trivial⟩) (fun _ => .inv C53 (fun _ => I53 L us ds i) (zyS L us ds i) (fun c => ((L.length : Int) - c.1).toNat)) noJ ?_
 repeat' ((conv => whnf); first
  | exact trivial
  | with_reducible first | refine aj ?_ | refine ai rfl ?_ | refine ai ⟨rfl, rfl⟩ ?_
  | ((with_reducible refine ai ?_ ?_); focus exact w3)
  | with_reducible first | refine zyt ?_ | refine zBG (by with_reducible assumption) (by with_reducible assumption) ?_ ?_ | apply exW (γ := C53) (c := (_, _, _)) | refine exI (i64_in (n := zcv _ _ _ + 1) (by have := zwu (p := ddF us ds i) hl; omega) (by have := zwu (p := ddF us ds i) hl; omega)) ?_ | refine exI (i64_in (by simp only [I53, List.length_map] at *; omega) (by simp only [I53, List.length_map] at *; omega)) ?_
  | refine exI (x := MTS) trivial ?_
  | with_reducible refine And.intro (Sd.mk (p := okT _ _ /\ okT _ _) (hp _)) ?_
  | refine exI (x := ULift.up _) (zbS _ _ _ (by simp only [I53, List.length_map] at *; omega)) ?_
  | refine exI (x := ULift.up _) ⟨rfl, (by simp only [I53, List.length_map] at *; omega), zbI _ _ _ (by simp only [I53, List.length_map] at *; omega)⟩ ?_
  | with_reducible first | refine And.intro ?_ ?_ | refine zae ?_ | refine exI (i64_in (by omega) (by omega)) ?_
  | refine exI (x := ULift.up _) (Eq.refl _) ?_
  | refine exI (x := ULift.up _) ⟨rfl, by omega, Eq.refl _⟩ ?_
  | exact nx
  | ((with_reducible intro h); try dsimp only at h))
 all_goals (try refine Sd.mk ?_)
 all_goals (try simp only [HR.eta] at *)
 all_goals (try simp only [true_and] at *)
 all_goals first
  | exact hp _
  | exact zyD ‹_›
  | exact zyE ‹_›
  | exact zBr hl ‹_›
  | exact ztg ‹_› ‹_› ‹_›
  | exact ztf ‹_› ‹_› ‹_›
  | exact zBs ‹_› ‹_›
  | exact zBt ‹_› ‹_›
  | (simp only [I53, List.length_map] at *; omega)
  | (rw [List.map_set]; rfl)
noncomputable def S53 : SFn
 | [.slc o 0 _, .fn (.func 54) [] [.ptr p _ _, .ptr q _ _]], k => .rO o fun oo => match oo with
   | some (.vec 2 LL) => asL HR.pv LL fun L => zbz p fun rp => zbz q fun rq => match rp, rq with
     | .agg [.mp u, .mp d], .agg [.int .i64 i] => zbh MTS u fun us => zbh MTS d fun ds => .req (ziR us ds) (.req (L.length <= 1000000) (k (L53 L us ds i)))
     | _, _ => .fail
   | _ => .fail
 | _, _ => .fail
theorem t53 : FnS Tryz.prog GG 53 S53 := by
 intro args k gt go R v os n h
 unfold S53 at h
 split at h
 . cases h with
   | rO h =>
     dsimp only at h
     split at h
     . obtain ⟨L, _, h⟩ := zbc h
       obtain ⟨_, _, h⟩ := zaX h
       obtain ⟨_, _, h⟩ := zaX h
       split at h
       . obtain ⟨us, _, h⟩ := zaP h
         obtain ⟨ds, _, h⟩ := zaP h
         obtain ⟨hp, _, h⟩ := zaz h
         obtain ⟨hl, _, h⟩ := zaz h
         exact ⟨_, _, s53 L us ds _ hp hl, h⟩
       . cases h
     . cases h
 . cases h
end
section
def c18 : MC := .seq (.reg [oo 2 (.mv (ki 0))]) (.seq (.seq (.reg [om 11 0,oo 12 (.lenS (.t 11)),oo 13 (cc .lss 12 1),sm 14 13,mf 14 15 0,gf 14 16 (.lenS (.t 15)),gf 14 17 (cc .gtr 16 4000),oo 18 (pt 14 17)]) (.cond (.t 18) (.seq (.reg [oo 2 (.mv (ki 190))]) (.ret)) (.skip))) (.seq (.reg [oo 19 (.mkm),om 3 19]) (.seq (.seq (.reg [om 20 0,oo 21 (.lenS (.t 20)),oo 22 (.mv (ki 0))]) (.blk 0 (.loop 0 (.seq (.reg [oo 23 (ct .lss 22 21)]) (.seq (.cond (.t 23) (.skip) (.exit 0)) (.seq (.blk 1 (.seq (.reg [om 24 22,oo 25 (ia 15 20 22),oo 26 (ls 15 25),oo 5 (.alloc zI),om 4 24,o none (.st (some 15) (.t 5) (.t 26))]) (.seq (.reg [oo 27 (fl 0 5),oo 28 (ln 27),oo 29 (cc .eql 28 40),sm 30 29,gf 30 31 (fl 0 5),gf 30 32 (ln 31),gf 30 33 (cc .eql 32 41),oo 34 (pt 30 33),om 6 34]) (.seq (.seq (.reg [oo 35 (ls 15 5),oo 36 (fc 58 [(.t 35)]),oo 37 (.not (.t 36)),sm 38 37,gf 38 39 (fl 0 5),gf 38 40 (ln 39),gf 38 41 (fc 59 [(.t 40)]),oo 42 (pt 38 41),sm 43 42,mf 43 44 6,mf 43 45 4,mf 43 46 0,gf 43 47 (.lenS (.t 46)),gf 43 48 (ac .sub 47 1),gf 43 49 (ct .eql 45 48),gf 43 50 (.eqb true (.t 44) (.t 49)),oo 51 (pt 43 50)]) (.cond (.t 51) (.seq (.reg [oo 2 (.mv (ki 190))]) (.ret)) (.skip))) (.seq (.seq (.reg [oo 52 (ls 15 5),oo 53 (fc 34 [(.t 52)]),oo 54 (.lenS (.t 53)),oo 55 (.mv (ki 0))]) (.blk 2 (.loop 1 (.seq (.reg [oo 56 (ct .lss 55 54)]) (.seq (.cond (.t 56) (.skip) (.exit 2)) (.seq (.blk 3 (.seq (.reg [oo 57 (ia 2 53 55),oo 58 (ls 2 57),oo 8 (.alloc [.ff,(kz 0)]),o none (.st (some 2) (.t 8) (.t 58))]) (.seq (.reg [om 59 3,oo 60 (ls 2 8),oo 61 (.lkp false false [.bool,.int .i64] true [.bool false] (.t 59) (.t 60)),oo 62 (.not (.t 61))]) (.cond (.t 62) (.seq (.reg [oo 2 (.mv (ki 190))]) (.ret)) (.skip))))) (.reg [oo 63 (ac .add 55 1),om 55 63]))))))) (.seq (.reg [oo 65 (ls 15 5),oo 66 (fc 33 [(.t 65)]),om 64 66,oo 67 (ex_ 0 64),oo 68 (ex_ 1 64),oo 9 (.alloc [.ff,(kz 0)]),o none (.st (some 2) (.t 9) (.t 67)),om 10 68]) (.seq (.reg [om 69 10]) (.cond (.t 69) (.seq (.seq (.reg [oo 70 (fl 1 9),oo 71 (ln 70),oo 72 (cc .geq 71 1000000)]) (.cond (.t 72) (.seq (.reg [oo 2 (.mv (ki 190))]) (.ret)) (.skip))) (.reg [om 73 3,oo 74 (ls 2 9),o none (.mup false [.bool,.int .i64] (.t 73) (.t 74) kt)])) (.skip))))))))) (.reg [oo 75 (ac .add 22 1),om 22 75]))))))) (.seq (.reg [oo 2 (.mv (ki 0))]) (.ret)))))
theorem k18 : zar Tryz.prog 18 76 c18 [.t 2] := fk Tryz.func18 ⟨tv,⟨⟨tv,⟨⟨tv,tv⟩,tv⟩⟩,⟨tv,⟨⟨tv,⟨tv,⟨⟨tv,tv⟩,⟨⟨tv,⟨tv,⟨⟨tv,⟨⟨tv,tv⟩,tv⟩⟩,⟨⟨tv,⟨tv,⟨⟨tv,tv⟩,⟨⟨tv,⟨tv,⟨⟨tv,tv⟩,tv⟩⟩⟩,tv⟩⟩⟩⟩,⟨tv,⟨tv,⟨⟨⟨tv,⟨⟨tv,tv⟩,tv⟩⟩,tv⟩,tv⟩⟩⟩⟩⟩⟩⟩,tv⟩⟩⟩⟩,⟨tv,tv⟩⟩⟩⟩⟩
def c59 : MC := .seq (.reg [oo 2 (.mv kf)]) (.seq (.reg [om 3 0,oo 4 (cc .eql 3 42),sm 5 4,mf 5 6 0,gf 5 7 (cc .eql 6 43),oo 8 (pt 5 7),sm 9 8,mf 9 10 0,gf 9 11 (cc .eql 10 44),oo 12 (pt 9 11),sm 13 12,mf 13 14 0,gf 13 15 (cc .eql 14 45),oo 16 (pt 13 15),om 2 16]) (.ret))
theorem k59 : zar Tryz.prog 59 17 c59 [.t 2] := fk Tryz.func59 ⟨tv,⟨tv,tv⟩⟩
def zgn (op : Int) : Bool := decide (op = 42) || decide (op = 43) || decide (op = 44) || decide (op = 45)
def zoh (x : HI) : Bool := decide (x.op = 40) || decide (x.op = 41)
noncomputable def L59 (op : Int) : zaa := ⟨[kz op], [], [], [], .bool (zgn op)⟩
set_option maxHeartbeats 40000000 in
theorem s59 (op : Int) : zaa.ok Tryz.prog GG 59 (L59 op) := by
 refine zad mix k59 _ rfl rfl (Tab.ok (l := []) trivial) noL noJ ?_
 repeat' ((conv => whnf); first
  | exact trivial
  | with_reducible first | refine aj ?_ | refine ai rfl ?_ | refine ai ⟨rfl, rfl⟩ ?_
  | ((with_reducible refine ai ?_ ?_); focus exact w3)
  | with_reducible first | refine And.intro ?_ ?_ | refine zae ?_ | refine exI (i64_in (by omega) (by omega)) ?_
  | refine exI (x := ULift.up _) (Eq.refl _) ?_
  | refine exI (x := ULift.up _) ⟨rfl, by omega, Eq.refl _⟩ ?_
  | exact ny
  | ((with_reducible intro h); try dsimp only at h))
 all_goals (refine Sd.mk ?_; simp_all [zgn])
noncomputable def S59 : SFn
 | [a0], k => asI a0 fun op => k (L59 op)
 | _, _ => .fail
theorem t59 : FnS Tryz.prog GG 59 S59 := by
 intro args k gt go R v os n h
 unfold S59 at h
 split at h
 . obtain ⟨op, _, h⟩ := zaU h
   exact ⟨_, _, s59 op, h⟩
 . cases h
abbrev RB := List (HR × Bool)
def inA (es : RB) (r : HR) : Bool := zaf MHB r es
def zg4 (x : HI) (last : Bool) : Bool := zbZ x && !zgn x.op && (zoh x == last)
def okA (es : RB) (x : HI) (last : Bool) : Bool := zg4 x last && (zak x).all (inA es) && (!(zal x).2 || decide ((zal x).1.n < 1000000))
def zmS (es : RB) (x : HI) : RB := if (zal x).2 = true then zan MHB (zal x).1 true es else es
def chk : RB -> List HI -> Bool
 | _, [] => true
 | es, x :: r => okA es x r.isEmpty && chk (zmS es x) r
theorem zoY (l : List HI) (es : RB) (i : Int) (h : 0 <= i /\ i < l.length) : chk es (l.drop i.toNat) = (okA es (nth l i) (decide (i = l.length - 1)) && chk (zmS es (nth l i)) (l.drop (i + 1).toNat)) := by
 rw [zaG l i h, chk]
 have : (l.drop (i + 1).toNat).isEmpty = decide (i = l.length - 1) := by
  rw [Bool.eq_iff_iff]; simp [List.isEmpty_iff]; omega
 rw [this]
def zfT (l : List HI) : Bool := decide (1 <= l.length) && decide (l.length <= 4000) && chk [] l
def zba (l : List HI) : Int := if zfT l = true then 0 else 190
def zyM (l : List HI) (c : Int × RB) : St := ⟨[(22, kz c.1), (21, kz l.length), (20, .rd (.sl 15 (l.map HI.pv))), (3, .mp 0), (0, .rd (.sl 15 (l.map HI.pv)))], [(0, some (.map MHB c.2 none))], 1⟩
def I18 (l : List HI) (c : Int × RB) : Prop := 0 <= c.1 /\ c.1 <= l.length /\ 1 <= l.length /\ l.length <= 4000 /\ chk c.2 (l.drop c.1.toNat) = chk [] l
def zyL (l : List HI) (c : Int × RB × Int) : St := ⟨[(55, kz c.2.2), (54, kz (zak (nth l c.1)).length), (53, .slc 2 0 (zak (nth l c.1)).length), (5, .ptr 1 0 0), (22, kz c.1), (21, kz l.length), (20, .rd (.sl 15 (l.map HI.pv))), (3, .mp 0), (0, .rd (.sl 15 (l.map HI.pv)))], [(0, some (.map MHB c.2.1 none)), (1, some (.row (nth l c.1).cells)), (2, some (.vec 2 ((zak (nth l c.1)).map HR.pv)))], 3⟩
def zcz (l : List HI) (c : Int × RB × Int) : Prop := I18 l (c.1, c.2.1) /\ c.1 < l.length /\ 0 <= c.2.2 /\ c.2.2 <= (zak (nth l c.1)).length /\ (zak (nth l c.1)).length <= 3 ∧
 zg4 (nth l c.1) (decide (c.1 = l.length - 1)) = true /\ ((zak (nth l c.1)).drop c.2.2.toNat).all (inA c.2.1) = (zak (nth l c.1)).all (inA c.2.1)
def zz2 (l : List HI) : Nat -> zcA
 | 0 => .inv (Int × RB) (fun _ => I18 l) (zyM l) (fun c => (l.length - c.1).toNat)
 | _ => .inv (Int × RB × Int) (fun c0 c => c.1 = c0.1 /\ zcz l c) (zyL l) (fun c => ((zak (nth l c.1)).length - c.2.2).toNat)
theorem zxi {x : HI} {i n : Int} (h1 : (!zbZ x) = false) (h2 : zgn x.op = false) (h3 : x.op = 40) (h4 : ¬ ¬ i = n) : zg4 x (decide (i = n)) = true := by
 have h4 : i = n := Classical.not_not.1 h4
 rw [zg4, nf h1, h2]; simp [zoh, h3, h4]
theorem zxj {x : HI} {i n : Int} (h1 : (!zbZ x) = false) (h2 : zgn x.op = false) (h3 : ¬ x.op = 40) (h4 : ¬ ¬ (x.op = 41 ↔ i = n)) : zg4 x (decide (i = n)) = true := by
 have h4 : x.op = 41 ↔ i = n := Classical.not_not.1 h4
 simp only [zg4, nf h1, h2, zoh, h3, h4]; simp
theorem zwQ {es : RB} {x : HI} {last : Bool} (h : zg4 x last = false) : okA es x last = false := by simp [okA, h]
theorem zlX {l : List HI} {c : Int × RB} (hI : I18 l c) (h : c.1 < l.length) (h2 : okA c.2 (nth l c.1) (decide (c.1 = l.length - 1)) = false) : zba l = 190 := by
 have h3 := hI.2.2.2.2
 rw [zoY l c.2 c.1 ⟨hI.1, h⟩, h2] at h3
 simp [zba, zfT, <- h3]
theorem zm9 {l : List HI} (h : (l.length : Int) < 1 \/ 4000 < (l.length : Int)) : zba l = 190 := by
 have : zfT l = false := by
  rcases h with h | h
  . have e : decide (1 <= l.length) = false := by simp only [decide_eq_false_iff_not]; omega
    simp only [zfT, e]; rfl
  . have e : decide (l.length <= 4000) = false := by simp only [decide_eq_false_iff_not]; omega
    simp only [zfT, e, Bool.and_false]; rfl
 simp [zba, this]
theorem ztc {l : List HI} {c : Int × RB} (hI : I18 l c) (h : ¬ c.1 < l.length) : zba l = 0 := by
 obtain ⟨h0, h1, h2, h3, h4⟩ := hI
 have : l.drop c.1.toNat = [] := List.drop_eq_nil_of_le (by omega)
 rw [this, chk] at h4
 have e1 : decide (1 <= l.length) = true := by simp; omega
 have e2 : decide (l.length <= 4000) = true := by simp; omega
 simp [zba, zfT, <- h4, e1, e2]
theorem zoZ {l : List HI} {c : Int × RB × Int} {c0 : Int × RB} {es : RB} (hI : c.1 = c0.1 /\ zcz l c) (hj : ¬ c.2.2 < (zak (nth l c.1)).length) (hd : (!(zal (nth l c.1)).2 || decide ((zal (nth l c.1)).1.n < 1000000)) = true) (he : es = zmS c.2.1 (nth l c.1)) :
 I18 l (c.1 + 1, es) /\ (l.length - (c.1 + 1)).toNat < (l.length - c0.1).toNat := by
  obtain ⟨hc, ⟨h0, h1, h2, h3, h4⟩, h5, h6, h7, h8, h9, h10⟩ := hI
  rw [<- hc]
  dsimp only at *
  have h11 : (zak (nth l c.1)).drop c.2.2.toNat = [] := List.drop_eq_nil_of_le (by omega)
  rw [h11] at h10
  rw [zoY l c.2.1 c.1 ⟨h0, h5⟩] at h4
  have : okA c.2.1 (nth l c.1) (decide (c.1 = l.length - 1)) = true := by simp only [okA, h9, <- h10, hd]; rfl
  rw [this, <- he] at h4
  refine ⟨⟨by dsimp only; omega, by dsimp only; omega, h2, h3, by simpa using h4⟩, by omega⟩
theorem zta {l : List HI} {c : Int × RB × Int} {c0 : Int × RB} (hI : c.1 = c0.1 /\ zcz l c) (hj : ¬ c.2.2 < (zak (nth l c.1)).length) (hd : (zal (nth l c.1)).2 = true) (hn : ¬ 1000000 <= (zal (nth l c.1)).1.n) :
 I18 l (c.1 + 1, zan MHB (zal (nth l c.1)).1 true c.2.1) /\ (l.length - (c.1 + 1)).toNat < (l.length - c0.1).toNat := zoZ hI hj (by simp [hd]; omega) (by simp only [zmS, hd]; rfl)
theorem ztb {l : List HI} {c : Int × RB × Int} {c0 : Int × RB} (hI : c.1 = c0.1 /\ zcz l c) (hj : ¬ c.2.2 < (zak (nth l c.1)).length) (hd : (zal (nth l c.1)).2 = false) :
 I18 l (c.1 + 1, c.2.1) /\ (l.length - (c.1 + 1)).toNat < (l.length - c0.1).toNat := zoZ hI hj (by simp [hd]) (by simp [zmS, hd])
theorem zna {l : List HI} {c : Int × RB × Int} (hI : zcz l c) (hj : c.2.2 < (zak (nth l c.1)).length) (hb : (!zaf MHB (@nth HR _ (zak (nth l c.1)) c.2.2) c.2.1) = false) :
 zcz l (c.1, c.2.1, c.2.2 + 1) /\ ((zak (nth l c.1)).length - (c.2.2 + 1)).toNat < ((zak (nth l c.1)).length - c.2.2).toNat := by
  obtain ⟨hI, h5, h6, h7, h8, h9, h10⟩ := hI
  refine ⟨⟨hI, h5, by dsimp only; omega, by dsimp only; omega, h8, h9, ?_⟩, by omega⟩
  rw [zaG _ _ ⟨h6, hj⟩] at h10
  dsimp only
  rw [<- h10]
  have hb : inA c.2.1 (nth (zak (nth l c.1)) c.2.2) = true := nf hb
  simp [hb]
theorem zs7 {l : List HI} {c : Int × RB × Int} (hI : zcz l c) (hj : c.2.2 < (zak (nth l c.1)).length) (hb : (!zaf MHB (@nth HR _ (zak (nth l c.1)) c.2.2) c.2.1) = true) : zba l = 190 := by
 obtain ⟨hI, h5, h6, h7, h8, h9, h10⟩ := hI
 refine zlX hI h5 ?_
 rw [zaG _ _ ⟨h6, hj⟩] at h10
 simp only [okA, <- h10]
 have hb : inA c.2.1 (nth (zak (nth l c.1)) c.2.2) = false := nt hb
 simp [hb]
theorem zs8 {l : List HI} {c : Int × RB × Int} (hI : zcz l c) (hd : (zal (nth l c.1)).2 = true) (hn : 1000000 <= (zal (nth l c.1)).1.n) : zba l = 190 := by
 refine zlX hI.1 hI.2.1 ?_
 simp only [okA, hd]; simp; intros; omega
theorem zo0 {l : List HI} {c : Int × RB} (hI : I18 l c) (h : c.1 < l.length) (hp : zg4 (nth l c.1) (decide (c.1 = l.length - 1)) = true) : zcz l (c.1, c.2, 0) := by
 have hu := zbY (nth l c.1)
 exact ⟨hI, h, by simp, by dsimp only; omega, hu, hp, by simp⟩
noncomputable def L18 (l : List HI) : zaa := ⟨[.rd (.sl 15 (l.map HI.pv))], [], [], [], kz (zba l)⟩
set_option maxHeartbeats 3000000 in
theorem s18 (l : List HI) : zaa.ok Tryz.prog GG 18 (L18 l) := by
 refine zad mix k18 _ rfl rfl (Tab.ok (l := [(58, S58), (59, S59), (34, S34), (33, S33)]) ⟨t58, t59, t34, t33, trivial⟩) (zz2 l) noJ ?_
 repeat' ((conv => whnf); first
  | exact trivial
  | with_reducible first | refine aj ?_ | refine ai rfl ?_ | refine ai ⟨rfl, rfl⟩ ?_
  | ((with_reducible refine ai ?_ ?_); focus exact w3)
  | with_reducible first | apply exW (c := (_, _, _)) | apply exW (c := (_, _)) | refine exI (i64_in (by simp only [zcz, I18, List.length_map] at *; omega) (by simp only [zcz, I18, List.length_map] at *; omega)) ?_
  | refine exI (x := ULift.up _) (zbS _ _ _ (by simp only [zcz, I18, List.length_map] at *; omega)) ?_
  | refine exI (x := ULift.up _) ⟨rfl, by simp only [zcz, I18, List.length_map] at *; omega, zbI _ _ _ (by simp only [zcz, I18, List.length_map] at *; omega)⟩ ?_
  | refine And.intro (Sd.mk (p := zaj.one MHB = _ /\ _) ⟨rfl, rfl⟩) ?_
  | refine And.intro (Sd.mk (p := zaj.vone MHB = _ /\ _) ⟨rfl, rfl⟩) ?_
  | refine exI (x := MHB) trivial ?_
  | refine exI (x := ULift.up true) trivial ?_
  | apply exI (x := ULift.up (HR.mk _ _)) trivial
  | with_reducible first | refine ai (by simp only [zcz, I18, List.length_map] at *; omega) ?_ | refine And.intro ?_ ?_ | refine zae ?_ | refine exI (i64_in (by omega) (by omega)) ?_
  | refine exI (x := ULift.up _) (Eq.refl _) ?_
  | refine exI (x := ULift.up _) ⟨rfl, by omega, Eq.refl _⟩ ?_
  | exact ny
  | ((with_reducible intro h); try dsimp only at h))
 all_goals (refine Sd.mk ?_; (try simp only [HI.eta, HR.eta, List.length_map] at *))
 all_goals first
  | exact ztc ‹_› ‹_›
  | exact zm9 (.inl ‹_›)
  | exact zm9 (.inr ‹_›)
  | exact ⟨by simp only; omega, by simp only; omega, by omega, by omega, rfl⟩
  | exact zs7 (And.right ‹_ /\ zcz l _›) ‹_› ‹_›
  | exact zs8 (And.right ‹_ /\ zcz l _›) ‹_› ‹_›
  | exact zta ‹_› ‹_› ‹_› ‹_›
  | exact ztb ‹_› ‹_› ‹_›
  | exact ⟨⟨And.left ‹_ /\ zcz l _›, (zna (And.right ‹_ /\ zcz l _›) ‹_› ‹_›).1⟩, (zna (And.right ‹_ /\ zcz l _›) ‹_› ‹_›).2⟩
  | exact ⟨by first | exact trivial | rfl, zo0 (c := (_, _)) ‹_› ‹_› (zxi ‹_› ‹_› ‹_› ‹_›)⟩
  | exact ⟨by first | exact trivial | rfl, zo0 (c := (_, _)) ‹_› ‹_› (zxj ‹_› ‹_› ‹_› ‹_›)⟩
  | (refine zlX ‹_› ‹_› (zwQ ?_); simp_all [zg4, zoh]; done)
noncomputable def S18 : SFn
 | [a0], k => zcX a0 fun L_l => asL HI.pv L_l fun l => k (L18 l)
 | _, _ => .fail
theorem t18 : FnS Tryz.prog GG 18 S18 := by
 intro args k gt go R v os n h
 unfold S18 at h
 split at h
 . obtain ⟨L_l, _, h⟩ := zbq h
   obtain ⟨l, _, h⟩ := zbc h
   exact ⟨_, _, s18 l, h⟩
 . cases h
end
section
def c16 : MC := .seq (.reg [oo 3 (.box (.t 1)),oo 4 (.mv (.k (.val (.slice none 0 0)))),oo 5 (.mv (ki 0))]) (.seq (.seq (.reg [om 8 0,oo 9 (fc 18 [(.t 8)]),oo 10 (cc .neq 9 0)]) (.cond (.t 10) (.seq (.reg [oo 4 (.mv (.k (.val (.slice none 0 0)))),oo 5 (.mv (ki 190))]) (.ret)) (.skip))) (.seq (.seq (.reg [oo 11 (ln 3),oo 12 (cc .lss 11 0),sm 13 12,gf 13 14 (ln 3),mf 13 15 0,gf 13 16 (.lenS (.t 15)),gf 13 17 (ct .gtr 14 16),oo 18 (pt 13 17)]) (.cond (.t 18) (.seq (.reg [oo 4 (.mv (.k (.val (.slice none 0 0)))),oo 5 (.mv (ki 1))]) (.ret)) (.skip))) (.seq (.reg [om 19 0,oo 20 (fc 50 [(.t 19)]),oo 6 (.alloc [(.val (.map none)),(.val (.map none))]),o none (.st (some 2) (.t 6) (.t 20))]) (.seq (.reg [oo 21 (fl 0 6),oo 22 (ln 21),oo 23 (fc 51 [(.t 22),(.k (.fn (.func 52) [] []))]),om 7 23]) (.seq (.reg [om 24 7,oo 25 (.mkf (.func 54) [] [(.t 6),(.t 3)]),oo 26 (fc 53 [(.t 24),(.t 25)]),om 4 26,oo 5 (.mv (ki 0))]) (.ret))))))
theorem k16 : zar Tryz.prog 16 27 c16 [.t 4,.t 5] := fk Tryz.func16 ⟨tv,⟨⟨tv,⟨⟨tv,tv⟩,tv⟩⟩,⟨⟨tv,⟨⟨tv,tv⟩,tv⟩⟩,⟨tv,⟨tv,⟨tv,tv⟩⟩⟩⟩⟩⟩
def zd3 (l : List HI) (i : Int) : Int := if zba l ≠ 0 then 190 else if i < 0 \/ l.length < i then 1 else 0
def zkz (l : List HI) : List HR := zb2 (K1 (zaW l).1)
def zgZ (l : List HI) (i : Int) : List HR := if zd3 l i = 0 then zc6 (zaW l).1 (zaW l).2 i (zkz l) else []
def zg0 (l : List HI) (i : Int) : List HR := if zd3 l i = 0 then zhJ (zaW l).1 (zaW l).2 i (zkz l) else []
theorem zrc {l : List HI} {i : Int} (h : ¬ zba l = 0) : zd3 l i = 190 := by unfold zd3; rw [if_pos h]
theorem zkc {l : List HI} {i : Int} (h : ¬ ¬ zba l = 0) (h2 : i < 0 \/ l.length < i) : zd3 l i = 1 := by unfold zd3; rw [if_neg h, if_pos h2]
theorem zrd {l : List HI} {i : Int} (h : ¬ ¬ zba l = 0) (h2 : ¬ i < 0) (h3 : ¬ l.length < i) : zd3 l i = 0 := by unfold zd3; rw [if_neg h, if_neg (by omega)]
theorem zrB {l : List HI} {i e : Int} (h : zd3 l i = e) (he : e ≠ 0) : (zgZ l i).length = 0 := by unfold zgZ; rw [if_neg (by rw [h]; exact he)]; rfl
theorem zrC {l : List HI} {i e : Int} (h : zd3 l i = e) (he : e ≠ 0) : List.map HR.pv (zg0 l i) = [] := by unfold zg0; rw [if_neg (by rw [h]; exact he)]; rfl
theorem zCH {l : List HI} {i : Int} (h : zd3 l i = 0) : (zgZ l i).length = (zc6 (zaW l).1 (zaW l).2 i (zkz l)).length := by unfold zgZ; rw [if_pos h]
theorem zCI {l : List HI} {i : Int} (h : zd3 l i = 0) : List.map HR.pv (zg0 l i) = List.map HR.pv (zhJ (zaW l).1 (zaW l).2 i (zkz l)) := by unfold zg0; rw [if_pos h]
theorem lc {l : List HI} (h : ¬ ¬ zba l = 0) : l.length <= 4000 := by
 unfold zba zfT at h
 split at h
 . next q => simp at q; omega
 . exact absurd (by decide) h
theorem zsL {l : List HI} (h : ¬ ¬ zba l = 0) : ziR (zaW l).1 (zaW l).2 := by
 have hl := lc h
 obtain ⟨h1, h2, h3, h4⟩ := zi8 l (i := 0) (us := []) (ds := []) (by omega) zft zft List.Pairwise.nil List.Pairwise.nil
 intro r
 have a1 := ziq h1 (by omega) r
 have a2 := ziq h2 (by omega) r
 simp only [ag] at a1 a2
 exact ⟨⟨(h1 r).1, by unfold zaW; omega⟩, ⟨(h2 r).1, by unfold zaW; omega⟩⟩
theorem zCP (l : List HI) : (K1 (zaW l).1).Nodup := (zi8 l (i := 0) (us := []) (ds := []) (by omega) zft zft List.Pairwise.nil List.Pairwise.nil).2.2.1
theorem zmO (l : List HI) : (zkz l).length = List.length (zaW l).1 := by
 have := (zoE (K1 (zaW l).1)).length_eq
 rw [List.length_map] at this
 exact this
theorem zxx {l : List HI} (h : (zaW l).1.length <= 12) : (zkz l).length <= 1000000 := by
 rw [zmO]; omega
theorem zD9 {l : List HI} : 0 = 0 /\ (zb2 (K1 (zaW l).1)).length = List.length (zaW l).1 := ⟨rfl, zmO l⟩
attribute [local irreducible] zba zaW zb2 zc6 zhJ
noncomputable def L16 (l : List HI) (i : Int) : zaa := ⟨[.rd (.sl 15 (l.map HI.pv)), kz i], [], [], [.vec 2 ((zg0 l i).map HR.pv)], .tup [.slc 0 0 (zgZ l i).length, kz (zd3 l i)]⟩
set_option maxHeartbeats 4000000 in
theorem s16 (l : List HI) (i : Int) (hk : (zaW l).1.length <= 12) : zaa.ok Tryz.prog GG 16 (L16 l i) := by
 refine zad mix k16 _ rfl rfl (Tab.ok (l := [(18, S18), (50, S50), (51, S51), (53, S53)]) ⟨t18, t50, t51, t53, trivial⟩) noL noJ ?_
 repeat' ((conv => whnf); first
  | exact trivial
  | with_reducible first | refine aj ?_ | refine ai rfl ?_ | refine ai ⟨rfl, rfl⟩ ?_
  | ((with_reducible refine ai ?_ ?_); focus exact w3)
  | refine exI (x := MTS) trivial ?_
  | with_reducible first | refine And.intro (Sd.mk (p := _ <= 4000) (lc ‹_›)) ?_ | refine And.intro (Sd.mk (p := List.Nodup _ /\ _) ⟨zCP _, hk⟩) ?_ | refine And.intro (Sd.mk (p := ziR _ _) (zsL ‹_›)) ?_ | refine And.intro (Sd.mk (p := _ <= 1000000) (zxx hk)) ?_ | refine And.intro (Sd.mk zD9) ?_ | refine And.intro ?_ ?_ | refine zae ?_ | refine exI (i64_in (by omega) (by omega)) ?_
  | refine exI (x := ULift.up _) (Eq.refl _) ?_
  | refine exI (x := ULift.up _) ⟨rfl, by omega, Eq.refl _⟩ ?_
  | exact nx
  | ((with_reducible intro h); try dsimp only at h))
 all_goals (refine Sd.mk ?_)
 all_goals first
  | exact zxx hk
  | exact zrc ‹_›
  | exact zkc ‹_› (.inl ‹_›)
  | exact zkc ‹_› (.inr (by rw [List.length_map] at *; assumption))
  | exact zrd ‹_› ‹_› (by rw [List.length_map] at *; assumption)
  | exact ⟨rfl, zrB (zrc ‹_›) (by decide), rfl⟩
  | exact ⟨rfl, zrB (zkc ‹_› (.inl ‹_›)) (by decide), rfl⟩
  | exact ⟨rfl, zrB (zkc ‹_› (.inr (by rw [List.length_map] at *; assumption))) (by decide), rfl⟩
  | exact zrC (zrc ‹_›) (by decide)
  | exact zrC (zkc ‹_› (.inl ‹_›)) (by decide)
  | exact zrC (zkc ‹_› (.inr (by rw [List.length_map] at *; assumption))) (by decide)
  | exact ⟨rfl, zCH (zrd ‹_› ‹_› (by rw [List.length_map] at *; assumption))⟩
  | exact ⟨rfl, zCI (zrd ‹_› ‹_› (by rw [List.length_map] at *; assumption))⟩
end
section
def c62 : MC := .seq (.reg [oo 6 (.mv (ki 0))]) (.seq (.seq (.reg [om 7 0,oo 8 (fc 18 [(.t 7)]),oo 9 (cc .neq 8 0)]) (.cond (.t 9) (.seq (.reg [oo 6 (.mv (ki 190))]) (.ret)) (.skip))) (.seq (.seq (.reg [om 10 1,oo 11 (cc .lss 10 3),sm 12 11,mf 12 13 1,gf 12 14 (cc .gtr 13 12),oo 15 (pt 12 14),sm 16 15,mf 16 17 2,gf 16 18 (cc .lss 17 2),oo 19 (pt 16 18),sm 20 19,mf 20 21 2,gf 20 22 (cc .gtr 21 6),oo 23 (pt 20 22)]) (.cond (.t 23) (.seq (.reg [oo 6 (.mv (ki 1))]) (.ret)) (.skip))) (.seq (.reg [oo 6 (.mv (ki 0))]) (.ret))))
theorem k62 : zar Tryz.prog 62 24 c62 [.t 6] := fk Tryz.func62 ⟨tv,⟨⟨tv,⟨⟨tv,tv⟩,tv⟩⟩,⟨⟨tv,⟨⟨tv,tv⟩,tv⟩⟩,⟨tv,tv⟩⟩⟩⟩
def c26 : MC := .seq (.reg [oo 1 (.box (.t 0)),oo 2 (.mv (ki 0)),oo 3 (.mv (ki 0)),oo 4 (.mv (ki 0))]) (.seq (.seq (.reg [oo 6 (fl 0 1),oo 7 (ln 6),oo 8 (.lenS (.t 7)),oo 9 (fl 1 1),oo 10 (ln 9),oo 11 (.lenS (.t 10)),oo 12 (.mm false (.t 8) [(.t 11)]),oo 13 (.mv (ki 0))]) (.blk 0 (.loop 0 (.seq (.reg [oo 14 (ct .lss 13 12)]) (.seq (.cond (.t 14) (.skip) (.exit 0)) (.seq (.blk 1 (.seq (.reg [om 15 13,om 5 15]) (.seq (.seq (.reg [oo 16 (fl 1 1),oo 17 (ln 16),om 18 5,oo 19 (ia 1 17 18),oo 20 (ln 19),oo 21 (.cmp .neq (.t 20) (ki (-1)))]) (.cond (.t 21) (.exit 1) (.skip))) (.seq (.reg [oo 22 (fl 0 1),oo 23 (ln 22),om 24 5,oo 25 (ia 15 23 24),oo 26 (fl 0 25),oo 27 (ln 26)]) (.blk 2 (.seq (.seq (.reg [oo 29 (cc .eql 27 2),om 28 29]) (.cond (.t 28) (.skip) (.reg [oo 30 (cc .eql 27 8),om 28 30]))) (.cond (.t 28) (.reg [om 31 2,oo 32 (ac .add 31 1),om 2 32]) (.seq (.seq (.reg [oo 34 (cc .eql 27 42),om 33 34]) (.cond (.t 33) (.skip) (.reg [oo 35 (cc .eql 27 44),om 33 35]))) (.cond (.t 33) (.reg [om 36 3,oo 37 (ac .add 36 1),om 3 37]) (.seq (.seq (.reg [oo 39 (cc .eql 27 43),om 38 39]) (.cond (.t 38) (.skip) (.reg [oo 40 (cc .eql 27 45),om 38 40]))) (.cond (.t 38) (.reg [om 41 4,oo 42 (ac .add 41 1),om 4 42]) (.skip)))))))))))) (.reg [oo 43 (ac .add 13 1),om 13 43]))))))) (.seq (.reg [om 44 2,om 45 3,om 46 4,om 2 44,om 3 45,om 4 46]) (.ret)))
theorem k26 : zar Tryz.prog 26 47 c26 [.t 2,.t 3,.t 4] := fk Tryz.func26 ⟨tv,⟨⟨tv,⟨tv,⟨⟨tv,tv⟩,⟨⟨tv,⟨⟨tv,⟨tv,tv⟩⟩,⟨tv,⟨⟨tv,⟨tv,tv⟩⟩,⟨tv,⟨⟨tv,⟨tv,tv⟩⟩,⟨tv,⟨⟨tv,⟨tv,tv⟩⟩,⟨tv,tv⟩⟩⟩⟩⟩⟩⟩⟩⟩,tv⟩⟩⟩⟩,⟨tv,tv⟩⟩⟩
def zbE (l : List HI) (w v : Int) : Int := if zba l ≠ 0 then 190 else if w < 3 \/ 12 < w \/ v < 2 \/ 6 < v then 1 else 0
noncomputable def L62 (l : List HI) (w : Int) (v : Int) : zaa := ⟨[.rd (.sl 15 (l.map HI.pv)), kz w, kz v], [], [], [], kz (zbE l w v)⟩
theorem s62 (l : List HI) (w : Int) (v : Int) : zaa.ok Tryz.prog GG 62 (L62 l w v) := by
 refine zad mix k62 _ rfl rfl (Tab.ok (l := [(18, S18)]) ⟨t18, trivial⟩) noL noJ ?_
 repeat' ((conv => whnf); first
  | exact trivial
  | with_reducible first | refine aj ?_ | refine ai rfl ?_ | refine ai ⟨rfl, rfl⟩ ?_
  | ((with_reducible refine ai ?_ ?_); focus exact w3)
  | with_reducible first | refine And.intro ?_ ?_ | refine zae ?_ | refine exI (i64_in (by omega) (by omega)) ?_
  | refine exI (x := ULift.up _) (Eq.refl _) ?_
  | refine exI (x := ULift.up _) ⟨rfl, by omega, Eq.refl _⟩ ?_
  | exact ny
  | ((with_reducible intro h); try dsimp only at h))
 all_goals (refine Sd.mk ?_; simp only [zbE]; grind)
noncomputable def S62 : SFn
 | [a0, a1, a2], k => zcX a0 fun L_l => asL HI.pv L_l fun l => asI a1 fun w => asI a2 fun v => k (L62 l w v)
 | _, _ => .fail
theorem t62 : FnS Tryz.prog GG 62 S62 := by
 intro args k gt go R v os n h
 unfold S62 at h
 split at h
 . obtain ⟨L_l, _, h⟩ := zbq h
   obtain ⟨l, _, h⟩ := zbc h
   obtain ⟨w, _, h⟩ := zaU h
   obtain ⟨v, _, h⟩ := zaU h
   exact ⟨_, _, s62 l w v, h⟩
 . cases h
def zc0 (c : Int × Int × Int) (x : HI) (f : Int) : Int × Int × Int :=
 if f ≠ -1 then c else if x.op = 2 \/ x.op = 8 then (c.1 + 1, c.2.1, c.2.2) else if x.op = 42 \/ x.op = 44 then (c.1, c.2.1 + 1, c.2.2)
 else if x.op = 43 \/ x.op = 45 then (c.1, c.2.1, c.2.2 + 1) else c
def zbt : List HI -> List Int -> Int × Int × Int -> Int × Int × Int
 | x :: L, f :: F, c => zbt L F (zc0 c x f)
 | _, _, c => c
theorem znc (c : Int × Int × Int) (x : HI) (f : Int) : c.1 <= (zc0 c x f).1 /\ (zc0 c x f).1 <= c.1 + 1 /\ c.2.1 <= (zc0 c x f).2.1 /\ (zc0 c x f).2.1 <= c.2.1 + 1 /\ c.2.2 <= (zc0 c x f).2.2 /\ (zc0 c x f).2.2 <= c.2.2 + 1 := by
 unfold zc0; split
 . omega
 . split
   . dsimp only; omega
   . split
     . dsimp only; omega
     . split
       . dsimp only; omega
       . omega
abbrev C26 := Int × Int × Int × Int
def zyO (a : AL) : C26 -> St
 | (i, m, s, u) => ⟨[(13, kz i), (12, kz (min (a.L.length : Int) a.fr.length)), (4, kz u), (3, kz s), (2, kz m), (1, .ptr 0 0 0)], [(0, some (.row a.cells))], 1⟩
def I26 (a : AL) (c : C26) : Prop := 0 <= c.1 /\ c.1 <= a.L.length /\ c.1 <= a.fr.length /\ a.L.length <= 1000000 /\ 0 <= c.2.1 /\ c.2.1 <= c.1 /\ 0 <= c.2.2.1 /\ c.2.2.1 <= c.1 /\ 0 <= c.2.2.2 /\ c.2.2.2 <= c.1 ∧
 zbt (a.L.drop c.1.toNat) (a.fr.drop c.1.toNat) c.2 = zbt a.L a.fr (0, 0, 0)
theorem zvI {a : AL} {c : C26} {c' : Int × Int × Int} (hI : I26 a c) (h : c.1 < min (a.L.length : Int) a.fr.length) (e : zc0 c.2 (nth a.L c.1) (nth a.fr c.1) = c') :
 I26 a (c.1 + 1, c') /\ (min (a.L.length : Int) a.fr.length - (c.1 + 1)).toNat < (min (a.L.length : Int) a.fr.length - c.1).toNat := by
  obtain ⟨h1, h2, h3, h4, h5, h6, h7, h8, h9, h10, h11⟩ := hI
  have hb := znc c.2 (nth a.L c.1) (nth a.fr c.1)
  rw [e] at hb
  rw [zaG a.L c.1 ⟨h1, by omega⟩, zaG a.fr c.1 ⟨h1, by omega⟩, zbt, e] at h11
  refine ⟨⟨by dsimp only; omega, by dsimp only; omega, by dsimp only; omega, h4, by dsimp only; omega, by dsimp only; omega, by dsimp only; omega, by dsimp only; omega, by dsimp only; omega, by dsimp only; omega, h11⟩, by omega⟩
theorem ztd {a : AL} {c : C26} (hI : I26 a c) (h : ¬ c.1 < min (a.L.length : Int) a.fr.length) : zbt a.L a.fr (0, 0, 0) = c.2 := by
 obtain ⟨h1, h2, h3, h4, h5, h6, h7, h8, h9, h10, h11⟩ := hI
 rw [<- h11]
 rcases Int.lt_or_le c.1 a.L.length with h12 | h12
 . have : a.fr.drop c.1.toNat = [] := List.drop_eq_nil_of_le (by omega)
   rw [this]; cases a.L.drop c.1.toNat <;> rfl
 . have : a.L.drop c.1.toNat = [] := List.drop_eq_nil_of_le (by omega)
   rw [this]; rfl
def trp (c : Int × Int × Int) : List SV := [kz c.1, kz c.2.1, kz c.2.2]
noncomputable def L26 (a : AL) : zaa := ⟨[.agg a.cells], [], [], [], .tup (trp (zbt a.L a.fr (0, 0, 0)))⟩
set_option maxHeartbeats 4000000 in
theorem s26 (a : AL) (hp : a.L.length <= 1000000) : zaa.ok Tryz.prog GG 26 (L26 a) := by
 refine zad mix k26 _ rfl rfl (Tab.ok (l := []) trivial) (fun _ => .inv C26 (fun _ => I26 a) (zyO a) (fun c => (min (a.L.length : Int) a.fr.length - c.1).toNat)) noJ ?_
 repeat' ((conv => whnf); first
  | exact trivial
  | with_reducible first | refine aj ?_ | refine ai rfl ?_ | refine ai ⟨rfl, rfl⟩ ?_
  | ((with_reducible refine ai ?_ ?_); focus exact w3)
  | with_reducible first | refine zAd ?_ | apply exW (c := (_, _, _, _)) | refine exI (i64_in (by simp only [I26, List.length_map] at *; omega) (by simp only [I26, List.length_map] at *; omega)) ?_
  | refine exI (x := ULift.up _) ⟨rfl, (by simp only [I26, List.length_map] at *; omega), zbI _ _ _ (by simp only [I26, List.length_map] at *; omega)⟩ ?_
  | with_reducible first | refine And.intro ?_ ?_ | refine zae ?_ | refine exI (i64_in (by omega) (by omega)) ?_
  | refine exI (x := ULift.up _) (Eq.refl _) ?_
  | refine exI (x := ULift.up _) ⟨rfl, by omega, Eq.refl _⟩ ?_
  | exact ny
  | ((with_reducible intro h); try dsimp only at h))
 all_goals (refine Sd.mk ?_; (try simp only [HI.eta, HR.eta, List.length_map, Classical.not_not] at *))
 all_goals first
  | exact zvI (c := (_, _, _, _)) ‹_› ‹_› (by simp only [zc0]; grind)
  | (have h := ztd (c := (_, _, _, _)) ‹_› ‹_›; simp only at h; grind)
  | (simp only [I26]; grind)
end
section
def zAs : MC := .seq (.reg [oo 1 (.box (.t 0)),oo 2 (.mv (ki 0))]) (.seq (.seq (.reg [oo 3 (fl 0 1),oo 4 (ln 3)]) (.cond (.t 4) (.seq (.reg [oo 2 (.mv (ki 1))]) (.ret)) (.skip))) (.seq (.reg [oo 2 (.mv (ki 0))]) (.ret)))
theorem zwx : zar Tryz.prog 108 5 zAs [.t 2] := fk Tryz.func108 ⟨tv,⟨⟨tv,⟨⟨tv,tv⟩,tv⟩⟩,⟨tv,tv⟩⟩⟩
def zAt : MC := .drw [om 6 1,om 7 1,oo 8 (.ixr 2 1 (.t 2) (.t 7)),oo 9 (ln 8),om 10 1,oo 11 (.ixr 2 1 (.t 3) (.t 10)),oo 12 (ln 11),om 13 0,oo 14 (at_ .add 12 13),oo 15 (.mm true (.t 9) [(.t 14)]),oo 16 (.ixr 2 1 (.t 2) (.t 6)),o none (.st (some 1) (.t 16) (.t 15))] [[],[],[1],[2],[],[4],[5],[],[6,7],[3,8],[0,0,1,2,3,4,5,6,7,8,9],[10,9,0,1,2,3,4,5,6,7,8,9]]
theorem zwy : zar Tryz.prog 109 17 zAt [] := fk Tryz.func109 tv
def zAu : MC := .seq (.reg [oo 1 (.box (.t 0)),oo 2 (.mv (.k (.val .nilFunc)))]) (.seq (.reg [oo 3 (.mkf (.func 148) [] [(.t 1)]),om 2 3]) (.ret))
theorem zBM : zar Tryz.prog 110 4 zAu [.t 2] := fk Tryz.func110 ⟨tv,⟨tv,tv⟩⟩
noncomputable def znL (r : HR) : zaa := ⟨[.agg r.cells], [], [], [], kz 1⟩
noncomputable def znM (r : HR) : zaa := ⟨[.agg r.cells], [], [], [], kz 0⟩
theorem zsQ (r : HR) (h : r.vec = true) : zaa.ok Tryz.prog GG 108 (znL r) := by
 refine zad mix zwx _ rfl rfl (Tab.ok (l := []) trivial) noL noJ ?_
 repeat' ((conv => whnf); first
  | exact trivial
  | with_reducible first | refine aj ?_ | refine ai rfl ?_ | refine ai ⟨rfl, rfl⟩ ?_
  | ((with_reducible refine ai ?_ ?_); focus exact w3)
  | with_reducible first | refine And.intro ?_ ?_ | refine zae ?_ | refine exI (i64_in (by omega) (by omega)) ?_
  | refine exI (x := ULift.up _) (Eq.refl _) ?_
  | refine exI (x := ULift.up _) ⟨rfl, by omega, Eq.refl _⟩ ?_
  | exact ny
  | ((with_reducible intro h); try dsimp only at h))
 all_goals (refine Sd.mk ?_; simp_all)
theorem zsR (r : HR) (h : ¬ r.vec = true) : zaa.ok Tryz.prog GG 108 (znM r) := by
 refine zad mix zwx _ rfl rfl (Tab.ok (l := []) trivial) noL noJ ?_
 repeat' ((conv => whnf); first
  | exact trivial
  | with_reducible first | refine aj ?_ | refine ai rfl ?_ | refine ai ⟨rfl, rfl⟩ ?_
  | ((with_reducible refine ai ?_ ?_); focus exact w3)
  | with_reducible first | refine And.intro ?_ ?_ | refine zae ?_ | refine exI (i64_in (by omega) (by omega)) ?_
  | refine exI (x := ULift.up _) (Eq.refl _) ?_
  | refine exI (x := ULift.up _) ⟨rfl, by omega, Eq.refl _⟩ ?_
  | exact ny
  | ((with_reducible intro h); try dsimp only at h))
 all_goals (refine Sd.mk ?_; simp_all)
noncomputable def zp4 : SFn
 | [.agg [b, .int .i64 n]], k => match b with
   | .tt => k (znL ⟨true, n⟩)
   | .ff => k (znM ⟨false, n⟩)
   | .bool b => .split (b = true) (k (znL ⟨b, n⟩)) (k (znM ⟨b, n⟩))
   | _ => .fail
 | _, _ => .fail
theorem zEd : FnS Tryz.prog GG 108 zp4 := by
 intro args k gt go R v os n h
 unfold zp4 at h
 split at h
 . split at h
   . exact ⟨_, _, zsQ _ rfl, h⟩
   . exact ⟨_, _, zsR _ (by simp), h⟩
   . rcases zpH h with ⟨hp, h⟩ | ⟨hp, h⟩
     . exact ⟨_, _, zsQ _ hp, h⟩
     . exact ⟨_, _, zsR _ hp, h⟩
   . cases h
 . cases h
noncomputable def zsa (e : Int) (n0 : Int) (n1 : Int) (m0 : Int) (m1 : Int) : zaa := ⟨[kz e, kz 0, .ptr 0 0 0, .ptr 1 0 0], [.row [kz n0, kz n1], .row [kz m0, kz m1]], [some (.row [kz (max n0 (m0 + e)), kz n1]), some (.row [kz m0, kz m1])], [], .tup []⟩
theorem zzl (e : Int) (n0 : Int) (n1 : Int) (m0 : Int) (m1 : Int) (hp : (0 <= e /\ e <= 1) /\ -1000000 <= m0 /\ m0 <= 1000000) : zaa.ok Tryz.prog GG 109 (zsa e n0 n1 m0 m1) := by
 refine zad mix zwy _ rfl rfl (Tab.ok (l := []) trivial) noL noJ ?_
 repeat' ((conv => whnf); first
  | exact trivial
  | with_reducible first | refine aj ?_ | refine ai rfl ?_ | refine ai ⟨rfl, rfl⟩ ?_
  | ((with_reducible refine ai ?_ ?_); focus exact w3)
  | with_reducible first | refine And.intro ?_ ?_ | refine zae ?_ | refine exI (i64_in (by omega) (by omega)) ?_
  | refine exI (x := ULift.up _) (Eq.refl _) ?_
  | refine exI (x := ULift.up _) ⟨rfl, by omega, Eq.refl _⟩ ?_
  | exact ny
  | ((with_reducible intro h); try dsimp only at h))
noncomputable def zsb (e : Int) (n0 : Int) (n1 : Int) (m0 : Int) (m1 : Int) : zaa := ⟨[kz e, kz 1, .ptr 0 0 0, .ptr 1 0 0], [.row [kz n0, kz n1], .row [kz m0, kz m1]], [some (.row [kz n0, kz (max n1 (m1 + e))]), some (.row [kz m0, kz m1])], [], .tup []⟩
theorem zzm (e : Int) (n0 : Int) (n1 : Int) (m0 : Int) (m1 : Int) (hp : (0 <= e /\ e <= 1) /\ -1000000 <= m1 /\ m1 <= 1000000) : zaa.ok Tryz.prog GG 109 (zsb e n0 n1 m0 m1) := by
 refine zad mix zwy _ rfl rfl (Tab.ok (l := []) trivial) noL noJ ?_
 repeat' ((conv => whnf); first
  | exact trivial
  | with_reducible first | refine aj ?_ | refine ai rfl ?_ | refine ai ⟨rfl, rfl⟩ ?_
  | ((with_reducible refine ai ?_ ?_); focus exact w3)
  | with_reducible first | refine And.intro ?_ ?_ | refine zae ?_ | refine exI (i64_in (by omega) (by omega)) ?_
  | refine exI (x := ULift.up _) (Eq.refl _) ?_
  | refine exI (x := ULift.up _) ⟨rfl, by omega, Eq.refl _⟩ ?_
  | exact ny
  | ((with_reducible intro h); try dsimp only at h))
noncomputable def zp5 : SFn
 | [.int .i64 e, .int .i64 j, .ptr p _ _, .ptr q _ _], k => zn8 p fun n0 n1 => zn8 q fun m0 m1 => match j with
   | .ofNat 0 => .req ((0 <= e /\ e <= 1) /\ -1000000 <= m0 /\ m0 <= 1000000) (k (zsa e n0 n1 m0 m1))
   | .ofNat 1 => .req ((0 <= e /\ e <= 1) /\ -1000000 <= m1 /\ m1 <= 1000000) (k (zsb e n0 n1 m0 m1))
   | _ => .fail
 | _, _ => .fail
theorem zEe : FnS Tryz.prog GG 109 zp5 := by
 intro args k gt go R v os n h
 unfold zp5 at h
 split at h
 . obtain ⟨n0, n1, _, h⟩ := zlP h
   obtain ⟨m0, m1, _, h⟩ := zlP h
   split at h
   . obtain ⟨hp, _, h⟩ := zaz h
     exact ⟨_, _, zzl _ _ _ _ _ hp, h⟩
   . obtain ⟨hp, _, h⟩ := zaz h
     exact ⟨_, _, zzm _ _ _ _ _ hp, h⟩
   . cases h
 . cases h
noncomputable def zup (l : List HI) : zaa := ⟨[.rd (.sl 15 (l.map HI.pv))], [], [], [.row [hiS l]], .fn (.func 148) [] [.ptr 0 0 0]⟩
theorem zC4 (l : List HI) : zaa.ok Tryz.prog GG 110 (zup l) := by
 refine zad mix zBM _ rfl rfl (Tab.ok (l := []) trivial) noL noJ ?_
 repeat' ((conv => whnf); first
  | exact trivial
  | with_reducible first | refine aj ?_ | refine ai rfl ?_ | refine ai ⟨rfl, rfl⟩ ?_
  | ((with_reducible refine ai ?_ ?_); focus exact w3)
  | with_reducible first | refine And.intro ?_ ?_ | refine zae ?_ | refine exI (i64_in (by omega) (by omega)) ?_
  | refine exI (x := ULift.up _) (Eq.refl _) ?_
  | refine exI (x := ULift.up _) ⟨rfl, by omega, Eq.refl _⟩ ?_
  | exact ny
  | ((with_reducible intro h); try dsimp only at h))
noncomputable def zp6 : SFn
 | [a0], k => zcX a0 fun L_l => asL HI.pv L_l fun l => k (zup l)
 | _, _ => .fail
theorem zEf : FnS Tryz.prog GG 110 zp6 := by
 intro args k gt go R v os n h
 unfold zp6 at h
 split at h
 . obtain ⟨L_l, _, h⟩ := zbq h
   obtain ⟨l, _, h⟩ := zbc h
   exact ⟨_, _, zC4 l, h⟩
 . cases h
end
section
def zvC : MC := .seq (.reg [oo 4 (ln 1),oo 5 (.lenS (.t 4)),oo 6 (ac .sub 5 1),om 3 6]) (.blk 0 (.loop 0 (.seq (.seq (.reg [om 7 3,oo 8 (cc .geq 7 0)]) (.cond (.t 8) (.skip) (.exit 0))) (.seq (.blk 1 (.seq (.reg [om 11 0,om 12 3,oo 13 (ln 1),om 14 3,oo 15 (ia 15 13 14),oo 16 (ls 15 15),oo 17 (.call (.t 11) [(.t 12),(.t 16)]),oo 18 (.not (.t 17))]) (.cond (.t 18) (.ret) (.skip)))) (.reg [om 9 3,oo 10 (ac .sub 9 1),om 3 10])))))
theorem zwB : zar Tryz.prog 148 19 zvC [] := fk Tryz.func148 ⟨tv,⟨⟨tv,⟨tv,tv⟩⟩,⟨⟨tv,⟨tv,tv⟩⟩,tv⟩⟩⟩
def c60 : MC := .seq (.reg [oo 2 (.alloc [(kz 0),(kz 0)]),oo 3 (.alloc [(kz 0),(kz 0)])]) (.seq (.reg [oo 15 (.mkm),oo 4 (.alloc [(.val (.map none))]),o none (.st (some 1) (.t 4) (.t 15))]) (.seq (.reg [oo 5 (.alloc [(kz 0),(kz 0)])]) (.seq (.reg [oo 6 (.alloc [(.val .nilFunc)]),o none (.st (some 1) (.t 6) (.k (.fn (.func 108) [] [])))]) (.seq (.reg [oo 16 (.mkf (.func 109) [] [(.t 2),(.t 5)]),oo 7 (.alloc [(.val .nilFunc)]),o none (.st (some 1) (.t 7) (.t 16))]) (.seq (.seq (.reg [om 17 0,oo 18 (fc 110 [(.t 17)])]) (.blk 0 (.rng (.t 18) [19,20] (.reg [oo 9 (.alloc zI),o none (.st (some 15) (.t 9) (.t 20))]) (.blk 1 (.seq (.reg [oo 22 (ls 15 9),oo 23 (fc 33 [(.t 22)]),om 21 23,oo 24 (ex_ 0 21),oo 25 (ex_ 1 21),oo 10 (.alloc [.ff,(kz 0)]),o none (.st (some 2) (.t 10) (.t 24)),om 11 25]) (.seq (.seq (.reg [om 26 11,sm 27 26,gt_ 27 28 (ln 4),gt_ 27 29 (ls 2 10),gt_ 27 30 (.lkp false false [.bool,.int .i64] true [.bool false] (.t 28) (.t 29)),gt_ 27 31 (.not (.t 30)),oo 32 (pf 27 31)]) (.cond (.t 32) (.drw [oo 33 (ln 7),oo 34 (ln 6),oo 35 (ls 2 10),oo 36 (.call (.t 34) [(.t 35)]),oo 37 (.call (.t 33) [(ki 1),(.t 36)])] [[],[],[],[1,2],[0,3,3]]) (.skip))) (.seq (.seq (.reg [om 38 11,sm 39 38,gt_ 39 40 (ln 4),gt_ 39 41 (ls 2 10),gt_ 39 42 (.lkp false false [.bool,.int .i64] true [.bool false] (.t 40) (.t 41)),oo 43 (pf 39 42)]) (.cond (.t 43) (.seq (.reg [oo 44 (ln 4),oo 45 (ls 2 10),o none (.mdel false [.bool,.int .i64] (.t 44) (.t 45))]) (.reg [oo 46 (ln 6),oo 47 (ls 2 10),oo 48 (.call (.t 46) [(.t 47)]),oo 49 (.ixr 2 1 (.t 5) (.t 48)),oo 50 (ln 49),oo 51 (ac .sub 50 1),oo 52 (.ixr 2 1 (.t 5) (.t 48)),o none (.st (some 1) (.t 52) (.t 51))])) (.skip))) (.seq (.seq (.reg [oo 53 (ls 15 9),oo 54 (fc 34 [(.t 53)]),oo 55 (.lenS (.t 54)),oo 56 (.mv (ki 0))]) (.blk 2 (.loop 0 (.seq (.reg [oo 57 (ct .lss 56 55)]) (.seq (.cond (.t 57) (.skip) (.exit 2)) (.seq (.blk 3 (.seq (.reg [oo 58 (ia 2 54 56),oo 59 (ls 2 58),oo 13 (.alloc [.ff,(kz 0)]),o none (.st (some 2) (.t 13) (.t 59))]) (.seq (.reg [oo 60 (ln 4),oo 61 (ls 2 13),oo 62 (.lkp false false [.bool,.int .i64] true [.bool false] (.t 60) (.t 61)),oo 63 (.not (.t 62))]) (.cond (.t 63) (.seq (.reg [oo 64 (ln 4),oo 65 (ls 2 13),o none (.mup false [.bool,.int .i64] (.t 64) (.t 65) kt)]) (.reg [oo 66 (ln 6),oo 67 (ls 2 13),oo 68 (.call (.t 66) [(.t 67)]),oo 69 (.ixr 2 1 (.t 5) (.t 68)),oo 70 (ln 69),oo 71 (ac .add 70 1),oo 72 (.ixr 2 1 (.t 5) (.t 68)),o none (.st (some 1) (.t 72) (.t 71))])) (.skip))))) (.reg [oo 73 (ac .add 56 1),om 56 73]))))))) (.seq (.reg [oo 74 (.mv (ki 0))]) (.blk 4 (.loop 1 (.seq (.reg [oo 75 (.cmpl .lss (.t 74) (ki 2))]) (.seq (.cond (.t 75) (.skip) (.exit 4)) (.seq (.blk 5 (.seq (.reg [om 76 74,om 14 76]) (.seq (.reg [oo 77 (ln 7),om 78 14,oo 79 (.call (.t 77) [(ki 0),(.t 78)])]) (.drw [om 80 14,om 81 14,oo 82 (.ixr 2 1 (.t 3) (.t 81)),oo 83 (ln 82),om 84 14,oo 85 (.ixr 2 1 (.t 5) (.t 84)),oo 86 (ln 85),oo 87 (.mm true (.t 83) [(.t 86)]),oo 88 (.ixr 2 1 (.t 3) (.t 80)),o none (.st (some 1) (.t 88) (.t 87))] [[],[],[1],[2],[],[4],[5],[3,6],[0,0,1,2,3,4,5,6,7],[8,7,0,1,2,3,4,5,6,7]]))))
 (.reg [oo 89 (.arl .add (.t 74) (ki 1)),om 74 89])))))))))))) 148 19 zvC))) (.seq (.drw [oo 90 (ls 2 2),oo 91 (ls 2 3),o none (.st (some 2) (.t 2) (.t 90)),o none (.st (some 2) (.t 3) (.t 91))] [[],[],[0,0],[1,2,0,1,2]]) (.ret)))))))
theorem k60 : zar Tryz.prog 60 92 c60 [.c 2 (some 2),.c 3 (some 2)] := .of Tryz.func60 (by kernel_rfl) (by kernel_rfl) (by kernel_rfl) (by kernel_rfl) ⟨trivial, ⟨trivial, ⟨trivial, ⟨trivial, ⟨trivial, ⟨⟨trivial, ⟨trivial, ⟨trivial, ⟨⟨trivial, ⟨trivial, trivial⟩⟩, ⟨⟨trivial, ⟨⟨trivial, trivial⟩, trivial⟩⟩, ⟨⟨trivial, ⟨trivial, ⟨⟨trivial, trivial⟩, ⟨⟨trivial, ⟨trivial, ⟨⟨trivial, trivial⟩, trivial⟩⟩⟩, trivial⟩⟩⟩⟩, ⟨trivial, ⟨trivial, ⟨⟨trivial, trivial⟩, ⟨⟨trivial, ⟨trivial, trivial⟩⟩, trivial⟩⟩⟩⟩⟩⟩⟩⟩, zwB.it, zwB.its⟩⟩, ⟨trivial, trivial⟩⟩⟩⟩⟩⟩⟩
attribute [local irreducible] Go.Sx.zaf Go.Sx.zas
structure ND where
 now : RB
 m0 : Int
 m1 : Int
 n0 : Int
 n1 : Int
 v0 : Int
 v1 : Int
def zfa (s : ND) (r : HR) : ND := if inA s.now r = true then s else if r.vec = true then { s with now := zan MHB r true s.now, m1 := s.m1 + 1 } else { s with now := zan MHB r true s.now, m0 := s.m0 + 1 }
def zd2 (s : ND) (x : HI) : ND :=
 if (zal x).2 = true then
  (if inA s.now (zal x).1 = true then (if (zal x).1.vec = true then { s with now := zaO MHB (zal x).1 s.now, m1 := s.m1 - 1 } else { s with now := zaO MHB (zal x).1 s.now, m0 := s.m0 - 1 })
  else (if (zal x).1.vec = true then { s with n1 := max s.n1 (s.m1 + 1) } else { s with n0 := max s.n0 (s.m0 + 1) })) else s
def zre (s : ND) : ND := ⟨s.now, s.m0, s.m1, max s.n0 (s.m0 + 0), max s.n1 (s.m1 + 0), max s.v0 s.m0, max s.v1 s.m1⟩
def zoG (s : ND) (x : HI) : ND := zre ((zak x).foldl zfa (zd2 s x))
def nd0 : ND := ⟨[], 0, 0, 0, 0, 0, 0⟩
def zb6 (l : List HI) : ND := l.reverse.foldl zoG nd0
def zxf (l : List HI) (lp : Nat) (r : Go.Loop) (e : LSt) : ND -> List (Nat × Option SO)
 | ⟨now, m0, m1, n0, n1, v0, v1⟩ => [(0, some (.row [kz n0, kz n1])), (1, some (.row [kz v0, kz v1])), (2, some (.map MHB now none)), (3, some (.row [.mp 2])), (4, some (.row [kz m0, kz m1])),
   (5, some (.row [.fn (.func 108) [] []])), (6, some (.row [.fn (.func 109) [] [.ptr 0 0 0, .ptr 4 0 0]])), (7, some (.row [hiS l])), (8, some (.lrec lp r e))]
abbrev zlE := Nat × Go.Loop × Int × ND
abbrev zlC := Nat × Go.Loop × List HR × Int × ND
def zwm (l : List HI) : zlE -> St
 | (lp, r, i, s) => ⟨[(3, kz i), (1, .ptr 7 0 0), (0, .fn (.yield lp) [] [])], zxf l lp r .ready s, 9⟩
def zwl (l : List HI) : zlC -> St
 | (lp, r, us, j, s) => ⟨[(56, kz j), (55, kz us.length), (54, .slc 9 0 us.length), (7, .ptr 6 0 0), (6, .ptr 5 0 0), (5, .ptr 4 0 0), (4, .ptr 3 0 0), (3, .ptr 1 0 0)], zxf l lp r .busy s ++ [(9, some (.vec 2 (us.map HR.pv)))], 10⟩
def bdN (c : Int) (s : ND) : Prop := -c <= s.m0 /\ s.m0 <= c /\ -c <= s.m1 /\ s.m1 <= c
def zdY (l : List HI) (c0 c : zlE) : Prop := c.1 = c0.1 /\ c.2.1 = c0.2.1 /\ -1 <= c.2.2.1 /\ c.2.2.1 < l.length /\ l.length <= 4000 /\ bdN (5 * (l.length - 1 - c.2.2.1)) c.2.2.2 /\ (l.take (c.2.2.1 + 1).toNat).reverse.foldl zoG c.2.2.2 = zb6 l
def zeo (c0 c : zlC) : Prop := c.1 = c0.1 /\ c.2.1 = c0.2.1 /\ c.2.2.1 = c0.2.2.1 /\ 0 <= c.2.2.2.1 /\ c.2.2.2.1 <= c.2.2.1.length /\ c.2.2.1.length <= 3 ∧
 (∀ b : Int, bdN b c0.2.2.2.2 -> bdN (b + c.2.2.2.1) c.2.2.2.2) /\ bdN (30000 + c.2.2.2.1) c.2.2.2.2 /\ (c.2.2.1.drop c.2.2.2.1.toNat).foldl zfa c.2.2.2.2 = c0.2.2.1.foldl zfa c0.2.2.2.2
def zz4 (l : List HI) : Nat -> zcA
 | 0 => .inv zlC zeo (zwl l) (fun c => (c.2.2.1.length - c.2.2.2.1).toNat)
 | 1 => .rounds 3
 | _ => .inv zlE (zdY l) (zwm l) (fun c => (c.2.2.1 + 1).toNat)
theorem zzL {s : ND} {r : HR} (h : (!zaf MHB r s.now) = false) : zfa s r = s := by
 have h : inA s.now r = true := nf h
 unfold zfa; rw [if_pos h]
theorem zzM {s : ND} {r : HR} (h : (!zaf MHB r s.now) = true) (h2 : r.vec = true) : zfa s r = { s with now := zan MHB r true s.now, m1 := s.m1 + 1 } := by
 have h : inA s.now r = false := nt h
 unfold zfa; rw [if_neg (by rw [h]; decide), if_pos h2]
theorem zzN {s : ND} {r : HR} (h : (!zaf MHB r s.now) = true) (h2 : ¬ r.vec = true) : zfa s r = { s with now := zan MHB r true s.now, m0 := s.m0 + 1 } := by
 have h : inA s.now r = false := nt h
 unfold zfa; rw [if_neg (by rw [h]; decide), if_neg h2]
theorem zss {s : ND} {x : HI} (h : (zal x).2 = false) : zd2 s x = s := by unfold zd2; rw [if_neg (by rw [h]; decide)]
theorem zst {s : ND} {x : HI} (h : (zal x).2 = true) (h1 : zaf MHB (zal x).1 s.now = true) (h2 : (zal x).1.vec = true) : zd2 s x = { s with now := zaO MHB (zal x).1 s.now, m1 := s.m1 - 1 } := by
 have h1 : inA s.now (zal x).1 = true := h1
 unfold zd2; rw [if_pos h, if_pos h1, if_pos h2]
theorem zsu {s : ND} {x : HI} (h : (zal x).2 = true) (h1 : zaf MHB (zal x).1 s.now = true) (h2 : ¬ (zal x).1.vec = true) : zd2 s x = { s with now := zaO MHB (zal x).1 s.now, m0 := s.m0 - 1 } := by
 have h1 : inA s.now (zal x).1 = true := h1
 unfold zd2; rw [if_pos h, if_pos h1, if_neg h2]
theorem zsv {s : ND} {x : HI} (h : (zal x).2 = true) (h1 : (!zaf MHB (zal x).1 s.now) = true) (h2 : (zal x).1.vec = true) : zd2 s x = { s with n1 := max s.n1 (s.m1 + 1) } := by
 have h1 : inA s.now (zal x).1 = false := nt h1
 unfold zd2; rw [if_pos h, if_neg (by rw [h1]; decide), if_pos h2]
theorem zsw {s : ND} {x : HI} (h : (zal x).2 = true) (h1 : (!zaf MHB (zal x).1 s.now) = true) (h2 : ¬ (zal x).1.vec = true) : zd2 s x = { s with n0 := max s.n0 (s.m0 + 1) } := by
 have h1 : inA s.now (zal x).1 = false := nt h1
 unfold zd2; rw [if_pos h, if_neg (by rw [h1]; decide), if_neg h2]
theorem zpO {s : ND} {r : HR} {b : Int} (h : bdN b s) : bdN (b + 1) (zfa s r) := by
 unfold zfa; simp only [bdN] at *; split
 . omega
 . split <;> (dsimp only; omega)
theorem zo9 {s : ND} {x : HI} {b : Int} (h : bdN b s) : bdN (b + 1) (zd2 s x) := by
 unfold zd2; simp only [bdN] at *; split
 . split <;> split <;> (dsimp only; omega)
 . omega
theorem ziQ {lp r us j s s' c0} (hI : zeo c0 (lp, r, us, j, s)) (hj : j < us.length) (e : zfa s (nth us j) = s') : zeo c0 (lp, r, us, j + 1, s') /\ ((us.length : Int) - (j + 1)).toNat < ((us.length : Int) - j).toNat := by
 obtain ⟨h1, h2, h3, h4, h5, h6, h7, h8, h9⟩ := hI
 dsimp only at *
 subst e
 refine ⟨⟨h1, h2, h3, by dsimp only; omega, by dsimp only; omega, h6, fun b hb => ?_, ?_, ?_⟩, by omega⟩
 . have := zpO (r := nth us j) (h7 b hb)
   rw [Int.add_assoc] at this; exact this
 . have := zpO (r := nth us j) h8
   rw [Int.add_assoc] at this; exact this
 . rw [zaG _ _ ⟨h4, hj⟩] at h9
   exact h9
theorem zgs {l : List HI} {lp r i s s1 us j s' c00} (hI : zdY l c00 (lp, r, i, s)) (hi : 0 <= i) (hi2 : zeo (lp, r, zak (nth l i), 0, s1) (lp, r, us, j, s')) (hj : ¬ j < us.length) (e : zd2 s (nth l i) = s1) :
 zdY l c00 (lp, r, i - 1, zre s') /\ (i - 1 + 1).toNat < (i + 1).toNat := by
  obtain ⟨h1, h2, h3, h4, h5, h6, h7⟩ := hI
  obtain ⟨k1, k2, k3, k4, k5, k6, k7, k8, k9⟩ := hi2
  dsimp only at *
  subst e; subst k3
  have h8 := k7 _ (zo9 (x := nth l i) h6)
  rw [List.drop_eq_nil_of_le (by omega)] at k9
  refine ⟨⟨h1, h2, by dsimp only; omega, by dsimp only; omega, h5, ?_, ?_⟩, by omega⟩
  . simp only [bdN, zre] at *; omega
  . rw [zcP l i ⟨hi, h4⟩, List.reverse_append] at h7
    dsimp only
    rw [<- h7, Int.sub_add_cancel]
    simp only [List.reverse_cons, List.reverse_nil, List.nil_append, List.cons_append, List.foldl_cons, zoG]
    rw [<- k9]; rfl
theorem zrF {l : List HI} {lp r i s c00} (hI : zdY l c00 (lp, r, i, s)) (hi : ¬ 0 <= i) : zb6 l = s := by
 obtain ⟨h1, h2, h3, h4, h5, h6, h7⟩ := hI
 dsimp only at *
 have : (i + 1).toNat = 0 := by omega
 rw [this] at h7
 rw [<- h7]; rfl
theorem zwN {l : List HI} {lp r} (h : l.length <= 4000) : zdY l (lp, r, l.length - 1, nd0) (lp, r, l.length - 1, nd0) := by
 refine ⟨rfl, rfl, by dsimp only; omega, by dsimp only; omega, h, ?_, ?_⟩
 . simp only [bdN, nd0]; omega
 . dsimp only
   rw [List.take_of_length_le (by omega)]; rfl
theorem zhF {l : List HI} {lp r i s s1 c00} (hI : zdY l c00 (lp, r, i, s)) (e : zd2 s (nth l i) = s1) : zeo (lp, r, zak (nth l i), 0, s1) (lp, r, zak (nth l i), 0, s1) := by
 obtain ⟨h1, h2, h3, h4, h5, h6, h7⟩ := hI
 dsimp only at *
 subst e
 refine ⟨rfl, rfl, rfl, by dsimp only; omega, by dsimp only; omega, zbY _, fun b hb => by dsimp only; rw [Int.add_zero]; exact hb, ?_, rfl⟩
 have := zo9 (x := nth l i) h6
 simp only [bdN] at *; omega
theorem zAg {l : List HI} {lp : Nat} {r : Go.Loop} {x : Int × ND} {Q : zlE -> Prop} (h : ∀ i now m0 m1 n0 n1 v0 v1, zdY l (lp, r, x) (lp, r, i, ⟨now, m0, m1, n0, n1, v0, v1⟩) -> Q (lp, r, i, ⟨now, m0, m1, n0, n1, v0, v1⟩)) :
 ∀ c, zdY l (lp, r, x) c -> Q c := fun ⟨lp', r', i, ⟨now, m0, m1, n0, n1, v0, v1⟩⟩ hI => by
  have h1 := hI.1
  have h2 := hI.2.1
  dsimp only at h1 h2
  subst h1; subst h2
  exact h _ _ _ _ _ _ _ _ hI
theorem zAf {lp : Nat} {r : Go.Loop} {us : List HR} {x : Int × ND} {Q : zlC -> Prop} (h : ∀ j now m0 m1 n0 n1 v0 v1, zeo (lp, r, us, x) (lp, r, us, j, ⟨now, m0, m1, n0, n1, v0, v1⟩) -> Q (lp, r, us, j, ⟨now, m0, m1, n0, n1, v0, v1⟩)) :
 ∀ c, zeo (lp, r, us, x) c -> Q c := fun ⟨lp', r', us', i, ⟨now, m0, m1, n0, n1, v0, v1⟩⟩ hI => by
  have h1 := hI.1
  have h2 := hI.2.1
  have h3 := hI.2.2.1
  dsimp only at h1 h2 h3
  subst h1; subst h2; subst h3
  exact h _ _ _ _ _ _ _ _ hI
noncomputable def L60 (l : List HI) : zaa := ⟨[.rd (.sl 15 (l.map HI.pv))], [], [], [], .tup [.agg [kz (zb6 l).n0, kz (zb6 l).n1], .agg [kz (zb6 l).v0, kz (zb6 l).v1]]⟩
set_option maxHeartbeats 8000000 in
theorem s60 (l : List HI) (hp : l.length <= 4000) : zaa.ok Tryz.prog GG 60 (L60 l) := by
 refine zad mix k60 _ rfl rfl (Tab.ok (l := [(33, S33), (34, S34), (108, zp4), (109, zp5), (110, zp6)]) ⟨t33, t34, zEd, zEe, zEf, trivial⟩) (zz4 l) noJ ?_
 repeat' ((conv => whnf); first
  | exact trivial
  | with_reducible first | refine aj ?_ | refine ai rfl ?_ | refine ai ⟨rfl, rfl⟩ ?_
  | ((with_reducible refine ai ?_ ?_); focus exact w3)
  | with_reducible first | refine ai ⟨rfl, rfl, rfl⟩ ?_ | refine zAg ?_ | refine zAf ?_ | apply exW (γ := zlE) (c := (_, _, _, ⟨_, _, _, _, _, _, _⟩)) | apply exW (γ := zlC) (c := (_, _, _, _, ⟨_, _, _, _, _, _, _⟩)) | refine exI (i64_in (by simp only [zdY, zeo, bdN, List.length_map] at *; omega) (by simp only [zdY, zeo, bdN, List.length_map] at *; omega)) ?_
  | refine exI (x := ULift.up _) (zbS _ _ _ (by simp only [zdY, zeo, bdN, List.length_map] at *; omega)) ?_
  | refine exI (x := ULift.up _) ⟨rfl, (by simp only [zdY, zeo, bdN, List.length_map] at *; omega), zbI _ _ _ (by simp only [zdY, zeo, bdN, List.length_map] at *; omega)⟩ ?_
  | with_reducible first | refine And.intro (Sd.mk (p := (_ : Int) <= _ /\ _) (by simp only [zdY, zeo, bdN, List.length_map] at *; omega)) ?_ | refine And.intro (Sd.mk (p := ((_ : Int) <= _ /\ _) /\ _) (by simp only [zdY, zeo, bdN, List.length_map] at *; omega)) ?_
  | refine And.intro (Sd.mk (p := zaj.one MHB = _ /\ _) ⟨rfl, rfl⟩) ?_
  | refine And.intro (Sd.mk (p := zaj.vone MHB = _ /\ _) ⟨rfl, rfl⟩) ?_
  | refine exI (x := MHB) trivial ?_
  | refine exI (x := ULift.up true) trivial ?_
  | apply exI (x := ULift.up (HR.mk _ _)) trivial
  | with_reducible first | refine And.intro ?_ ?_ | refine zae ?_ | refine exI (i64_in (by omega) (by omega)) ?_
  | refine exI (x := ULift.up _) (Eq.refl _) ?_
  | refine exI (x := ULift.up _) ⟨rfl, by omega, Eq.refl _⟩ ?_
  | exact nx
  | ((with_reducible intro h); try dsimp only at h))
 all_goals (refine Sd.mk ?_; (try simp only [HI.eta, HR.eta, List.length_map] at *))
 all_goals first
  | exact zwN hp
  | exact ziQ (s := ⟨_, _, _, _, _, _, _⟩) ‹_› ‹_› (zzL ‹_›)
  | exact ziQ (s := ⟨_, _, _, _, _, _, _⟩) ‹_› ‹_› (zzM ‹_› ‹_›)
  | exact ziQ (s := ⟨_, _, _, _, _, _, _⟩) ‹_› ‹_› (zzN ‹_› ‹_›)
  | exact zhF (s := ⟨_, _, _, _, _, _, _⟩) ‹_› (zss ‹_›)
  | exact zhF (s := ⟨_, _, _, _, _, _, _⟩) ‹_› (zst ‹_› ‹_› ‹_›)
  | exact zhF (s := ⟨_, _, _, _, _, _, _⟩) ‹_› (zsu ‹_› ‹_› ‹_›)
  | exact zhF (s := ⟨_, _, _, _, _, _, _⟩) ‹_› (zsv ‹_› ‹_› ‹_›)
  | exact zhF (s := ⟨_, _, _, _, _, _, _⟩) ‹_› (zsw ‹_› ‹_› ‹_›)
  | exact zgs (s := ⟨_, _, _, _, _, _, _⟩) ‹_› ‹_› ‹_› ‹_› (zss ‹_›)
  | exact zgs (s := ⟨_, _, _, _, _, _, _⟩) ‹_› ‹_› ‹_› ‹_› (zst ‹_› ‹_› ‹_›)
  | exact zgs (s := ⟨_, _, _, _, _, _, _⟩) ‹_› ‹_› ‹_› ‹_› (zsu ‹_› ‹_› ‹_›)
  | exact zgs (s := ⟨_, _, _, _, _, _, _⟩) ‹_› ‹_› ‹_› ‹_› (zsv ‹_› ‹_› ‹_›)
  | exact zgs (s := ⟨_, _, _, _, _, _, _⟩) ‹_› ‹_› ‹_› ‹_› (zsw ‹_› ‹_› ‹_›)
  | (have h := zrF (s := ⟨_, _, _, _, _, _, _⟩) ‹_› ‹_›; rw [h])
noncomputable def S60 : SFn
 | [a0], k => zcX a0 fun L_l => asL HI.pv L_l fun l => .req (l.length <= 4000) (k (L60 l))
 | _, _ => .fail
theorem t60 : FnS Tryz.prog GG 60 S60 := by
 intro args k gt go R v os n h
 unfold S60 at h
 split at h
 . obtain ⟨L_l, _, h⟩ := zbq h
   obtain ⟨l, _, h⟩ := zbc h
   obtain ⟨hp, _, h⟩ := zaz h
   exact ⟨_, _, s60 l hp, h⟩
 . cases h
end
end Go.Proofs.YtlahifihaeafbaaGreatDoor
