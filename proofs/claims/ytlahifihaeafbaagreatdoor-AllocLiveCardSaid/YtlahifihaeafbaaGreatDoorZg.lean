/- Part 7 of 11 of a proof of the law AllocLive: what the last part leans on. -/
import Derived.Test.YtlahifihaeafbaaGreatDoorZf
set_option linter.all false
set_option maxRecDepth 100000
namespace Go.Proofs.YtlahifihaeafbaaGreatDoor
open Go Go.Sx
section
def zH8 : MC := .seq (.drw [om 4 0,oo 5 (.nchk (.t 4)),oo 6 (fl 3 5),oo 7 (ln 6),om 8 0,oo 9 (.nchk (.t 8)),oo 10 (fl 2 9),oo 11 (ln 10),om 12 1,oo 13 (.lkp false true [.int .i64] true [.int .i64 0] (.t 11) (.t 12)),o none (.mdel true [.int .i64] (.t 7) (.t 13))] [[],[0],[1],[2],[],[4],[5],[6],[],[7,8],[3,9]]) (.seq (.reg [om 14 0,oo 15 (.nchk (.t 14)),oo 16 (fl 2 15),oo 17 (ln 16),om 18 1,o none (.mdel true [.int .i64] (.t 17) (.t 18))]) (.reg [om 19 0,oo 20 (.nchk (.t 19)),oo 21 (fl 1 20),oo 22 (ln 21),om 23 1,o none (.mup true [.int .i64] (.t 22) (.t 23) kt)]))
theorem zIk : zan Tryz.prog 153 24 zH8 [] := fk Tryz.func153 ⟨tv,⟨tv,tv⟩⟩
def zFE : MC := .seq (.seq (.reg [om 9 0,oo 10 (.nchk (.t 9)),oo 11 (fl 3 10),oo 12 (ln 11),om 13 1,oo 14 (.lkp true true [.int .i64] true [.int .i64 0] (.t 12) (.t 13)),om 8 14,oo 15 (ex_ 0 8),oo 16 (ex_ 1 8),om 4 15,om 5 16]) (.seq (.reg [om 17 5]) (.cond (.t 17) (.reg [om 18 0,om 19 4,oo 20 (fc 153 [(.t 18),(.t 19)])]) (.skip)))) (.seq (.reg [om 22 0,oo 23 (.nchk (.t 22)),oo 24 (fl 4 23),oo 25 (ln 24),om 26 1,oo 27 (.lkp true true [.int .i64] true [.int .i64 0] (.t 25) (.t 26)),om 21 27,oo 28 (ex_ 0 21),oo 29 (ex_ 1 21),om 6 28,om 7 29]) (.seq (.reg [om 30 7]) (.cond (.t 30) (.seq (.reg [om 31 0,oo 32 (.nchk (.t 31)),oo 33 (fl 4 32),oo 34 (ln 33),om 35 1,o none (.mdel true [.int .i64] (.t 34) (.t 35))]) (.reg [om 36 0,oo 37 (.nchk (.t 36)),oo 38 (fl 5 37),oo 39 (ln 38),om 40 6,o none (.mup true [.int .i64] (.t 39) (.t 40) kt)])) (.skip))))
theorem zFm : zan Tryz.prog 122 41 zFE [] := fk Tryz.func122 ⟨⟨tv,⟨tv,⟨tv,tv⟩⟩⟩,⟨tv,⟨tv,⟨⟨tv,tv⟩,tv⟩⟩⟩⟩
def zHG : MC := .seq (.reg [om 6 0,oo 7 (.nchk (.t 6)),oo 8 (fl 1 7),oo 9 (ln 8),om 10 1,o none (.mdel true [.int .i64] (.t 9) (.t 10))]) (.drw [om 11 0,oo 12 (.nchk (.t 11)),oo 13 (fl 2 12),oo 14 (ln 13),om 15 1,om 16 0,oo 17 (.nchk (.t 16)),oo 18 (fl 3 17),oo 19 (ln 18),om 20 2,om 21 2,om 22 1,oo 23 (.ment true [.int .i64] true [.int .i64 0] (.t 14) (.t 15)),oo 24 (ex_ 1 23),o none (.mest (.t 14) (.t 24) (.t 21)),oo 25 (.ment true [.int .i64] true [.int .i64 0] (.t 19) (.t 20)),oo 26 (ex_ 1 25),o none (.mest (.t 19) (.t 26) (.t 22))] [[],[0],[1],[2],[],[],[5],[6],[7],[],[],[],[3,4,8],[12],[3,13,10,12,0,1,2,3,4,8,10,12],[8,9,14,0,1,2,3,4,8,10,12,13,14],[15],[8,16,11,15,0,1,2,3,4,5,6,7,8,9,10,11,12,13,14,15]])
theorem zH6 : zan Tryz.prog 124 27 zHG [] := fk Tryz.func124 ⟨tv,tv⟩
attribute [local irreducible] Go.Sx.zak Go.Sx.zay Go.Sx.zam Go.Sx.za3
theorem zzN {b : BK} {v : Int} (h : (zay MII v b.at_).isSome = true) : b.free1 v = b.leave (zak MII v b.at_) := by unfold BK.free1; rw [if_pos h]
theorem zAI {b : BK} {v : Int} (h : (zay MII v b.at_).isSome = false) : b.free1 v = b := by unfold BK.free1; rw [if_neg (by rw [h]; decide)]
theorem zsK {b : BK} {v : Int} : (b.free1 v).slot = b.slot /\ (b.free1 v).slots = b.slots /\ (b.free1 v).vec = b.vec := by unfold BK.free1; split <;> exact ⟨rfl, rfl, rfl⟩
theorem zz6 {b c : BK} {v : Int} (e : b.free1 v = c) (h : (zay MII v b.slot).isSome = true) : b.forget v = { c with slot := za3 MII v b.slot, slots := zam MIB (zak MII v b.slot) true b.slots } := by
 subst e; unfold BK.forget BK.free2; rw [zsK.1, if_pos h, zsK.2.1]
theorem zxP {b c : BK} {v : Int} (e : b.free1 v = c) (h : (zay MII v b.slot).isSome = false) : b.forget v = c := by
 subst e; unfold BK.forget BK.free2; rw [zsK.1, if_neg (by rw [h]; decide)]
theorem eqm {M : zaj} {a b : List (M.κ × M.ν)} (h : a = b) : SO.map M a none = SO.map M b none := by rw [h]
noncomputable def zAd (b : BK) (r : Int) : zaa := ⟨[.ptr 0 0 0, kz r], [.row [.bool b.vec, .mp 1, .mp 2, .mp 3, .mp 4, .mp 5], .map MIB b.free none, .map MII b.holds none, .map MII b.at_ none, .map MII b.slot none, .map MIB b.slots none], [some (.row [.bool (b.leave r).vec, .mp 1, .mp 2, .mp 3, .mp 4, .mp 5]), some (.map MIB (b.leave r).free none), some (.map MII (b.leave r).holds none), some (.map MII (b.leave r).at_ none), some (.map MII (b.leave r).slot none), some (.map MIB (b.leave r).slots none)], [], .tup []⟩
set_option maxHeartbeats 2000000 in
theorem zEe (b : BK) (r : Int) : zaa.ok Tryz.prog GG 153 (zAd b r) := by
 refine zac mix zIk _ rfl rfl (Tab.ok (l := []) trivial) noL noJ ?_
 repeat' ((conv => whnf); first
  | exact trivial
  | with_reducible first | refine aj ?_ | refine ai rfl ?_ | refine ai ⟨rfl, rfl⟩ ?_
  | ((with_reducible refine ai ?_ ?_); focus exact w3)
  | refine And.intro (Sd.mk (p := zaj.one MII = _ /\ _) ⟨rfl, rfl⟩) ?_
  | refine And.intro (Sd.mk (p := zaj.vone MII = _ /\ _) ⟨rfl, rfl⟩) ?_
  | refine And.intro (Sd.mk (p := zaj.one MIB = _ /\ _) ⟨rfl, rfl⟩) ?_
  | refine And.intro (Sd.mk (p := zaj.vone MIB = _ /\ _) ⟨rfl, rfl⟩) ?_
  | apply exI (x := (ULift.up (_ : Bool) : ULift.{1} Bool)) trivial
  | apply exI (x := (ULift.up (_ : Int) : ULift.{1} Int)) trivial
  | with_reducible first | refine And.intro ?_ ?_ | refine zae ?_ | refine exI (i64_in (by omega) (by omega)) ?_
  | refine exI (x := ULift.up _) (Eq.refl _) ?_
  | refine exI (x := ULift.up _) ⟨rfl, by omega, Eq.refl _⟩ ?_
  | exact nx
  | ((with_reducible intro h); try dsimp only at h))
 all_goals (refine Sd.mk ?_)
noncomputable def zq3 : SFn
 | [.ptr p _ _, .int .i64 r], k => ziz p fun b => k (zAd b r)
 | _, _ => .fail
theorem zFg : FnS Tryz.prog GG 153 zq3 := by
 intro args k gt go R v os n h
 unfold zq3 at h
 split at h
 . obtain ⟨b, _, h⟩ := zeY h
   exact ⟨_, _, zEe b _, h⟩
 . cases h
noncomputable def zAo (b : BK) (v : Int) : zaa := ⟨[.ptr 0 0 0, kz v], [.row [.bool b.vec, .mp 1, .mp 2, .mp 3, .mp 4, .mp 5], .map MIB b.free none, .map MII b.holds none, .map MII b.at_ none, .map MII b.slot none, .map MIB b.slots none], [some (.row [.bool (b.forget v).vec, .mp 1, .mp 2, .mp 3, .mp 4, .mp 5]), some (.map MIB (b.forget v).free none), some (.map MII (b.forget v).holds none), some (.map MII (b.forget v).at_ none), some (.map MII (b.forget v).slot none), some (.map MIB (b.forget v).slots none)], [], .tup []⟩
set_option maxHeartbeats 2000000 in
theorem zE9 (b : BK) (v : Int) : zaa.ok Tryz.prog GG 122 (zAo b v) := by
 refine zac mix zFm _ rfl rfl (Tab.ok (l := [(153, zq3)]) ⟨zFg, trivial⟩) noL noJ ?_
 repeat' ((conv => whnf); first
  | exact trivial
  | with_reducible first | refine aj ?_ | refine ai rfl ?_ | refine ai ⟨rfl, rfl⟩ ?_
  | ((with_reducible refine ai ?_ ?_); focus exact w3)
  | refine And.intro (Sd.mk (p := zaj.one MII = _ /\ _) ⟨rfl, rfl⟩) ?_
  | refine And.intro (Sd.mk (p := zaj.vone MII = _ /\ _) ⟨rfl, rfl⟩) ?_
  | refine And.intro (Sd.mk (p := zaj.one MIB = _ /\ _) ⟨rfl, rfl⟩) ?_
  | refine And.intro (Sd.mk (p := zaj.vone MIB = _ /\ _) ⟨rfl, rfl⟩) ?_
  | apply exI (x := (ULift.up (_ : Bool) : ULift.{1} Bool)) trivial
  | apply exI (x := (ULift.up (_ : Int) : ULift.{1} Int)) trivial
  | with_reducible first | refine And.intro ?_ ?_ | refine zae ?_ | refine exI (i64_in (by omega) (by omega)) ?_
  | refine exI (x := ULift.up _) (Eq.refl _) ?_
  | refine exI (x := ULift.up _) ⟨rfl, by omega, Eq.refl _⟩ ?_
  | exact nx
  | ((with_reducible intro h); try dsimp only at h))
 all_goals (refine Sd.mk ?_)
 all_goals first
  | (rw [zz6 (b := b) (v := v) (zzN ‹_›) ‹_›] <;> rfl)
  | (rw [zxP (b := b) (v := v) (zzN ‹_›) ‹_›] <;> rfl)
  | (rw [zz6 (b := b) (v := v) (zAI ‹_›) ‹_›] <;> rfl)
  | (rw [zxP (b := b) (v := v) (zAI ‹_›) ‹_›] <;> rfl)
noncomputable def zq1 : SFn
 | [.ptr p _ _, .int .i64 v], k => ziz p fun b => k (zAo b v)
 | _, _ => .fail
theorem zFW : FnS Tryz.prog GG 122 zq1 := by
 intro args k gt go R v os n h
 unfold zq1 at h
 split at h
 . obtain ⟨b, _, h⟩ := zeY h
   exact ⟨_, _, zE9 b _, h⟩
 . cases h
noncomputable def zz7 (b : BK) (r : Int) (v : Int) : zaa := ⟨[.ptr 0 0 0, kz r, kz v], [.row [.bool b.vec, .mp 1, .mp 2, .mp 3, .mp 4, .mp 5], .map MIB b.free none, .map MII b.holds none, .map MII b.at_ none, .map MII b.slot none, .map MIB b.slots none], [some (.row [.bool (b.put r v).vec, .mp 1, .mp 2, .mp 3, .mp 4, .mp 5]), some (.map MIB (b.put r v).free none), some (.map MII (b.put r v).holds none), some (.map MII (b.put r v).at_ none), some (.map MII (b.put r v).slot none), some (.map MIB (b.put r v).slots none)], [], .tup []⟩
set_option maxHeartbeats 2000000 in
theorem zGx (b : BK) (r : Int) (v : Int) : zaa.ok Tryz.prog GG 124 (zz7 b r v) := by
 refine zac mix zH6 _ rfl rfl (Tab.ok (l := []) trivial) noL noJ ?_
 repeat' ((conv => whnf); first
  | exact trivial
  | with_reducible first | refine aj ?_ | refine ai rfl ?_ | refine ai ⟨rfl, rfl⟩ ?_
  | ((with_reducible refine ai ?_ ?_); focus exact w3)
  | refine And.intro (Sd.mk (p := zaj.one MII = _ /\ _) ⟨rfl, rfl⟩) ?_
  | refine And.intro (Sd.mk (p := zaj.vone MII = _ /\ _) ⟨rfl, rfl⟩) ?_
  | refine And.intro (Sd.mk (p := zaj.one MIB = _ /\ _) ⟨rfl, rfl⟩) ?_
  | refine And.intro (Sd.mk (p := zaj.vone MIB = _ /\ _) ⟨rfl, rfl⟩) ?_
  | apply exI (x := (ULift.up (_ : Bool) : ULift.{1} Bool)) trivial
  | apply exI (x := (ULift.up (_ : Int) : ULift.{1} Int)) trivial
  | with_reducible first | refine And.intro ?_ ?_ | refine zae ?_ | refine exI (i64_in (by omega) (by omega)) ?_
  | refine exI (x := ULift.up _) (Eq.refl _) ?_
  | refine exI (x := ULift.up _) ⟨rfl, by omega, Eq.refl _⟩ ?_
  | exact nx
  | ((with_reducible intro h); try dsimp only at h))
 all_goals (refine Sd.mk ?_)
 all_goals first
  | exact eqm (zhP (M := MII)).symm
noncomputable def zpM : SFn
 | [.ptr p _ _, .int .i64 r, .int .i64 v], k => ziz p fun b => k (zz7 b r v)
 | _, _ => .fail
theorem zx0 : FnS Tryz.prog GG 124 zpM := by
 intro args k gt go R v os n h
 unfold zpM at h
 split at h
 . obtain ⟨b, _, h⟩ := zeY h
   exact ⟨_, _, zGx b _ _, h⟩
 . cases h
end
section
def zEC : MC := .seq (.reg [oo 8 (.mv (ki 0))]) (.seq (.seq (.reg [om 9 1,oo 10 (.nchk (.t 9)),oo 11 (fl 1 10),oo 12 (ln 11),oo 13 (.lenM (.t 12)),oo 14 (cc .eql 13 0)]) (.cond (.t 14) (.reg [om 15 0,om 16 1,om 17 2,om 18 3,oo 19 (fc 154 [(.t 15),(.t 16),(.t 17),(.t 18)])]) (.skip))) (.seq (.reg [om 20 1,oo 21 (.nchk (.t 20)),oo 22 (fl 1 21),oo 23 (ln 22),oo 24 (fc 155 [(.t 23),(.k (.fn (.func 96) [] []))]),oo 25 (.ixa 1 (.t 24) (ki 0)),oo 26 (ln 25),om 8 26]) (.ret)))
theorem zKt : zan Tryz.prog 123 27 zEC [.t 8] := fk Tryz.func123 ⟨tv,⟨⟨tv,⟨tv,tv⟩⟩,⟨tv,tv⟩⟩⟩
def c73 : MC := .seq (.reg [oo 4 (.mv (.k (.val (.pointer none))))]) (.seq (.reg [om 9 0,oo 10 (.mkm),oo 11 (.mkm),oo 12 (.mkm),oo 13 (.mkm),oo 14 (.mkm),oo 15 (.bld [.ff,(.val (.map none)),(.val (.map none)),(.val (.map none)),(.val (.map none)),(.val (.map none))] [(0,1,(.t 9)),(1,1,(.t 10)),(2,1,(.t 11)),(3,1,(.t 12)),(4,1,(.t 13)),(5,1,(.t 14))]),oo 16 (.box (.t 15)),om 5 16]) (.seq (.seq (.reg [om 17 1,oo 18 (.mv (ki 0))]) (.blk 0 (.loop 0 (.seq (.reg [oo 19 (ct .lss 18 17)]) (.seq (.cond (.t 19) (.skip) (.exit 0)) (.seq (.blk 1 (.seq (.reg [om 20 18,om 6 20]) (.reg [om 21 5,oo 22 (.nchk (.t 21)),oo 23 (fl 1 22),oo 24 (ln 23),om 25 6,o none (.mup true [.int .i64] (.t 24) (.t 25) kt)]))) (.reg [oo 26 (ac .add 18 1),om 18 26]))))))) (.seq (.seq (.reg [om 27 0]) (.cond (.t 27) (.seq (.reg [oo 7 (.mv (ki 208))]) (.blk 2 (.loop 1 (.seq (.seq (.reg [om 28 7,oo 29 (ac .add 28 4),oo 30 (cc .leq 29 512)]) (.cond (.t 30) (.skip) (.exit 2))) (.seq (.blk 3 (.reg [om 33 5,oo 34 (.nchk (.t 33)),oo 35 (fl 5 34),oo 36 (ln 35),om 37 7,o none (.mup true [.int .i64] (.t 36) (.t 37) kt)])) (.reg [om 31 7,oo 32 (ac .add 31 4),om 7 32])))))) (.seq (.reg [oo 38 (.mv (ki 0))]) (.blk 4 (.loop 2 (.seq (.reg [oo 39 (cc .lss 38 208)]) (.seq (.cond (.t 39) (.skip) (.exit 4)) (.seq (.blk 5 (.seq (.reg [om 40 38,om 8 40]) (.reg [om 41 5,oo 42 (.nchk (.t 41)),oo 43 (fl 5 42),oo 44 (ln 43),om 45 8,o none (.mup true [.int .i64] (.t 44) (.t 45) kt)]))) (.reg [oo 46 (ac .add 38 1),om 38 46]))))))))) (.seq (.reg [om 47 5,om 4 47]) (.ret)))))
theorem k73 : zan Tryz.prog 73 48 c73 [.t 4] := fk Tryz.func73 ⟨tv,⟨tv,⟨⟨tv,⟨tv,⟨⟨tv,tv⟩,⟨⟨tv,tv⟩,tv⟩⟩⟩⟩,⟨⟨tv,⟨⟨tv,⟨⟨tv,⟨tv,tv⟩⟩,⟨tv,tv⟩⟩⟩,⟨tv,⟨tv,⟨⟨tv,tv⟩,⟨⟨tv,tv⟩,tv⟩⟩⟩⟩⟩⟩,⟨tv,tv⟩⟩⟩⟩⟩
attribute [local irreducible] Go.Sx.zak Go.Sx.zay Go.Sx.zam Go.Sx.za3 zbQ
def BK.top (b : BK) : Int := nth (zbQ (K1I b.free)) 0
theorem zHa {b : BK} (h0 : b.free ≠ []) (h : ((b.free.length : Nat) : Int) = 0) : False := by
 have := List.length_pos_iff.2 h0
 omega
theorem zID {b : BK} (h0 : b.free ≠ []) : 0 <= (0 : Int) /\ (0 : Int) < ((b.free.length : Nat) : Int) := by
 have := List.length_pos_iff.2 h0
 omega
theorem zJQ {b : BK} (h0 : b.free ≠ []) : 0 <= (0 : Int) /\ (0 : Int) < ((zbQ (K1I b.free)).length : Nat) := by
 have := List.length_pos_iff.2 h0
 have := (zpe (K1I b.free)).length_eq
 rw [List.length_map] at this
 omega
def upN (f : Nat -> Int) : Nat -> BM
 | 0 => []
 | k + 1 => zam MIB (f k) true (upN f k)
def slV (x : Int) : BM := upN (fun j => 208 + 4 * j) ((x - 208) / 4).toNat
def slW (x : Int) : BM := upN (fun j => j) x.toNat
theorem zr2 {x : Int} (h : 208 <= x) (h4 : (x - 208) % 4 = 0) : slV (x + 4) = zam MIB x true (slV x) := by
 unfold slV
 have e : ((x + 4 - 208) / 4).toNat = ((x - 208) / 4).toNat + 1 := by omega
 have e2 : 208 + 4 * ((((x - 208) / 4).toNat : Nat) : Int) = x := by omega
 rw [e, upN, e2]
theorem zm2 {x : Int} (h : 0 <= x) : slW (x + 1) = zam MIB x true (slW x) := by
 unfold slW
 have e : (x + 1).toNat = x.toNat + 1 := by omega
 have e2 : ((x.toNat : Nat) : Int) = x := by omega
 rw [e, upN, e2]
def zdq (vec : Bool) (n : Int) : BK := ⟨vec, slW n, [], [], [], if vec = true then slV 512 else slW 208⟩
abbrev C73 := Int × BM × BM
def ztc (vec : Bool) (fr sl : BM) : List (Nat × Option SO) := [(5, some (.row [.bool vec, .mp 0, .mp 1, .mp 2, .mp 3, .mp 4])), (0, some (.map MIB fr none)), (1, some (.map MII [] none)), (2, some (.map MII [] none)), (3, some (.map MII [] none)), (4, some (.map MIB sl none))]
def zAe (vec : Bool) (n : Int) : C73 -> St
 | (i, fr, sl) => ⟨[(18, kz i), (17, kz n), (5, .ptr 5 0 0), (0, .bool vec)], ztc vec fr sl, 6⟩
def zz5 (vec : Bool) : C73 -> St
 | (i, fr, sl) => ⟨[(7, kz i), (5, .ptr 5 0 0)], ztc vec fr sl, 6⟩
def zxu (vec : Bool) : C73 -> St
 | (i, fr, sl) => ⟨[(38, kz i), (5, .ptr 5 0 0)], ztc vec fr sl, 6⟩
def zhz (n : Int) : C73 -> Prop
 | (i, fr, sl) => 0 <= i /\ i <= n /\ n <= 1000 /\ fr = slW i /\ sl = []
def zhB : C73 -> C73 -> Prop
 | (_, fr0, _), (i, fr, sl) => 208 <= i /\ i <= 512 /\ (i - 208) % 4 = 0 /\ fr = fr0 /\ sl = slV i
def zhG : C73 -> C73 -> Prop
 | (_, fr0, _), (i, fr, sl) => 0 <= i /\ i <= 208 /\ fr = fr0 /\ sl = slW i
def zJg (vec : Bool) (n : Int) : Nat -> zbO
 | 0 => .inv C73 (fun _ => zhz n) (zAe vec n) (fun c => (n - c.1).toNat)
 | 1 => .inv C73 zhB (zz5 vec) (fun c => (512 - c.1).toNat)
 | _ => .inv C73 zhG (zxu vec) (fun c => (208 - c.1).toNat)
theorem zzR {n : Int} {Q : C73 -> Prop} (h : ∀ i fr, zhz n (i, fr, []) -> Q (i, fr, [])) : ∀ c, zhz n c -> Q c := fun ⟨i, fr, sl⟩ hI => by
 obtain ⟨h1, h2, h3, h4, h5⟩ := hI
 subst h5
 exact h _ _ ⟨h1, h2, h3, h4, rfl⟩
theorem zAf {i0 fr sl0} {Q : C73 -> Prop} (h : ∀ i sl, zhB (i0, fr, sl0) (i, fr, sl) -> Q (i, fr, sl)) : ∀ c, zhB (i0, fr, sl0) c -> Q c := fun ⟨i, fr', sl⟩ hI => by
 obtain ⟨h1, h2, h3, h4, h5⟩ := hI
 subst h4
 exact h _ _ ⟨h1, h2, h3, rfl, h5⟩
theorem zAB {i0 fr sl0} {Q : C73 -> Prop} (h : ∀ i sl, zhG (i0, fr, sl0) (i, fr, sl) -> Q (i, fr, sl)) : ∀ c, zhG (i0, fr, sl0) c -> Q c := fun ⟨i, fr', sl⟩ hI => by
 obtain ⟨h1, h2, h4, h5⟩ := hI
 subst h4
 exact h _ _ ⟨h1, h2, rfl, h5⟩
theorem zB1 {n : Int} (h : 0 <= n) (h2 : n <= 1000) : zhz n (0, [], []) := ⟨by omega, h, h2, rfl, rfl⟩
theorem zIT {n i : Int} {fr : BM} (hI : zhz n (i, fr, [])) (h : i < n) : zhz n (i + 1, zam MIB i true fr, []) /\ (n - (i + 1)).toNat < (n - i).toNat := by
 obtain ⟨h1, h2, h3, h4, h5⟩ := hI
 exact ⟨⟨by omega, by omega, h3, by rw [zm2 h1, h4], rfl⟩, by omega⟩
theorem zDr {fr : BM} : zhB (208, fr, []) (208, fr, []) := ⟨by omega, by omega, by omega, rfl, rfl⟩
theorem zGQ {i0 i : Int} {fr sl0 sl : BM} (hI : zhB (i0, fr, sl0) (i, fr, sl)) (h : i + 4 <= 512) : zhB (i0, fr, sl0) (i + 4, fr, zam MIB i true sl) /\ (512 - (i + 4)).toNat < (512 - i).toNat := by
 obtain ⟨h1, h2, h3, h4, h5⟩ := hI
 exact ⟨⟨by omega, by omega, by omega, rfl, by rw [zr2 h1 h3, h5]⟩, by omega⟩
theorem zB5 {fr : BM} : zhG (0, fr, []) (0, fr, []) := ⟨by omega, by omega, rfl, rfl⟩
theorem zHk {i0 i : Int} {fr sl0 sl : BM} (hI : zhG (i0, fr, sl0) (i, fr, sl)) (h : i < 208) : zhG (i0, fr, sl0) (i + 1, fr, zam MIB i true sl) /\ (208 - (i + 1)).toNat < (208 - i).toNat := by
 obtain ⟨h1, h2, h4, h5⟩ := hI
 exact ⟨⟨by omega, by omega, rfl, by rw [zm2 h1, h5]⟩, by omega⟩
theorem zFf {n i : Int} {vec : Bool} {fr : BM} (hI : zhz n (i, fr, [])) (h : ¬ i < n) : SO.map MIB (zdq vec n).free none = SO.map MIB fr none := by
 obtain ⟨h1, h2, h3, h4, h5⟩ := hI
 have : i = n := by omega
 rw [h4, this]; rfl
theorem zCX {n i0 i : Int} {fr sl0 sl : BM} (hI : zhB (i0, fr, sl0) (i, fr, sl)) (h : ¬ i + 4 <= 512) {vec : Bool} (hv : vec = true) : SO.map MIB (zdq vec n).slots none = SO.map MIB sl none := by
 obtain ⟨h1, h2, h3, h4, h5⟩ := hI
 have : i = 512 := by omega
 rw [h5, this]; unfold zdq; rw [hv]; rfl
theorem zDk {n i0 i : Int} {fr sl0 sl : BM} (hI : zhG (i0, fr, sl0) (i, fr, sl)) (h : ¬ i < 208) {vec : Bool} (hv : vec = false) : SO.map MIB (zdq vec n).slots none = SO.map MIB sl none := by
 obtain ⟨h1, h2, h4, h5⟩ := hI
 have : i = 208 := by omega
 rw [h5, this]; unfold zdq; rw [hv]; rfl
noncomputable def zzg (b : BK) (i : Int) : zaa := ⟨[.any, .ptr 0 0 0, kz i, .any], [.row [.bool b.vec, .mp 1, .mp 2, .mp 3, .mp 4, .mp 5], .map MIB b.free none, .map MII b.holds none, .map MII b.at_ none, .map MII b.slot none, .map MIB b.slots none], [some (.row [.bool b.vec, .mp 1, .mp 2, .mp 3, .mp 4, .mp 5]), some (.map MIB b.free none), some (.map MII b.holds none), some (.map MII b.at_ none), some (.map MII b.slot none), some (.map MIB b.slots none)], [], kz b.top⟩
set_option maxHeartbeats 2000000 in
theorem zGp (b : BK) (i : Int) (hn : (K1I b.free).Nodup) (hl : b.free.length <= 12) (h0 : b.free ≠ []) : zaa.ok Tryz.prog GG 123 (zzg b i) := by
 refine zac mix zKt _ rfl rfl (Tab.ok (l := [(155, zsS)]) ⟨zEP, trivial⟩) noL noJ ?_
 repeat' ((conv => whnf); first
  | exact trivial
  | with_reducible first | refine aj ?_ | refine ai rfl ?_ | refine ai ⟨rfl, rfl⟩ ?_
  | ((with_reducible refine ai ?_ ?_); focus exact w3)
  | refine And.intro (Sd.mk (p := zaj.one MII = _ /\ _) ⟨rfl, rfl⟩) ?_
  | refine And.intro (Sd.mk (p := zaj.vone MII = _ /\ _) ⟨rfl, rfl⟩) ?_
  | refine And.intro (Sd.mk (p := zaj.one MIB = _ /\ _) ⟨rfl, rfl⟩) ?_
  | refine And.intro (Sd.mk (p := zaj.vone MIB = _ /\ _) ⟨rfl, rfl⟩) ?_
  | apply exI (x := (ULift.up (_ : Bool) : ULift.{1} Bool)) trivial
  | apply exI (x := (ULift.up (_ : Int) : ULift.{1} Int)) trivial
  | ((with_reducible intro h); exact (zHa h0 h).elim)
  | with_reducible first | refine And.intro (Sd.mk (p := List.Nodup _ /\ _) ⟨hn, hl⟩) ?_ | refine ai (zID h0) ?_
  | refine exI (x := ULift.up _) (za8 _ _ _ (zJQ h0)) ?_
  | with_reducible first | refine And.intro ?_ ?_ | refine zae ?_ | refine exI (i64_in (by omega) (by omega)) ?_
  | refine exI (x := ULift.up _) (Eq.refl _) ?_
  | refine exI (x := ULift.up _) ⟨rfl, by omega, Eq.refl _⟩ ?_
  | exact nx
  | ((with_reducible intro h); try dsimp only at h))
 all_goals (refine Sd.mk ?_)
noncomputable def zoW : SFn
 | [_, .ptr p _ _, .int .i64 i, _], k => ziz p fun b => .req ((K1I b.free).Nodup /\ b.free.length <= 12 /\ b.free ≠ []) (k (zzg b i))
 | _, _ => .fail
theorem zyQ : FnS Tryz.prog GG 123 zoW := by
 intro args k gt go R v os n h
 unfold zoW at h
 split at h
 . obtain ⟨b, _, h⟩ := zeY h
   obtain ⟨hp, _, h⟩ := zar h
   exact ⟨_, _, zGp b _ hp.1 hp.2.1 hp.2.2, h⟩
 . cases h
noncomputable def L73 (vec : Bool) (n : Int) : zaa := ⟨[.bool vec, kz n], [], [], [.row [.bool (zdq vec n).vec, .mp 1, .mp 2, .mp 3, .mp 4, .mp 5], .map MIB (zdq vec n).free none, .map MII (zdq vec n).holds none, .map MII (zdq vec n).at_ none, .map MII (zdq vec n).slot none, .map MIB (zdq vec n).slots none], .ptr 0 0 0⟩
set_option maxHeartbeats 4000000 in
theorem s73 (vec : Bool) (n : Int) (h0 : 0 <= n) (h1 : n <= 1000) : zaa.ok Tryz.prog GG 73 (L73 vec n) := by
 refine zac mix k73 _ rfl rfl (Tab.ok (l := []) trivial) (zJg vec n) noJ ?_
 repeat' ((conv => whnf); first
  | exact trivial
  | with_reducible first | refine aj ?_ | refine ai rfl ?_ | refine ai ⟨rfl, rfl⟩ ?_
  | ((with_reducible refine ai ?_ ?_); focus exact w3)
  | with_reducible first | refine zzR ?_ | refine zAf ?_ | refine zAB ?_ | apply exW (γ := C73) (c := (_, _, _))
  | apply exI (α := zaj) trivial
  | refine And.intro (Sd.mk (p := zaj.one MII = _ /\ _) ⟨rfl, rfl⟩) ?_
  | refine And.intro (Sd.mk (p := zaj.vone MII = _ /\ _) ⟨rfl, rfl⟩) ?_
  | refine And.intro (Sd.mk (p := zaj.one MIB = _ /\ _) ⟨rfl, rfl⟩) ?_
  | refine And.intro (Sd.mk (p := zaj.vone MIB = _ /\ _) ⟨rfl, rfl⟩) ?_
  | apply exI (x := (ULift.up (_ : Bool) : ULift.{1} Bool)) trivial
  | apply exI (x := (ULift.up (_ : Int) : ULift.{1} Int)) trivial
  | with_reducible first | refine exI (i64_in (by simp only [zhz, zhB, zhG] at *; omega) (by simp only [zhz, zhB, zhG] at *; omega)) ?_ | refine And.intro ?_ ?_ | refine zae ?_ | refine exI (i64_in (by omega) (by omega)) ?_
  | refine exI (x := ULift.up _) (Eq.refl _) ?_
  | refine exI (x := ULift.up _) ⟨rfl, by omega, Eq.refl _⟩ ?_
  | exact nx
  | ((with_reducible intro h); try dsimp only at h))
 all_goals (refine Sd.mk ?_)
 all_goals first
  | exact zB1 h0 h1
  | exact zIT ‹_› ‹_›
  | exact zDr
  | exact zGQ ‹_› ‹_›
  | exact zB5
  | exact zHk ‹_› ‹_›
  | exact zFf ‹_› ‹_›
  | exact zCX ‹_› ‹_› ‹_›
  | exact zDk ‹_› ‹_› ‹_›
noncomputable def S73 : SFn
 | [a0, .int .i64 n], k => asB a0 fun vec => .req (0 <= n /\ n <= 1000) (k (L73 vec n))
 | _, _ => .fail
theorem t73 : FnS Tryz.prog GG 73 S73 := by
 intro args k gt go R v os n h
 unfold S73 at h
 split at h
 . obtain ⟨vec, _, h⟩ := ziJ h
   obtain ⟨hp, _, h⟩ := zar h
   exact ⟨_, _, s73 vec _ hp.1 hp.2, h⟩
 . cases h
end
section
def c38 : MC := .seq (.reg [oo 3 (.box (.t 0)),oo 6 (.alloc zI),oo 7 (.mv (ki 0))]) (.seq (.seq (.reg [oo 13 (ls 15 3),oo 14 (fc 58 [(.t 13)]),oo 15 (.not (.t 14))]) (.cond (.t 15) (.seq (.reg [oo 16 (.bld zI []),o none (.st (some 15) (.t 6) (.t 16)),oo 7 (.mv (ki 170))]) (.ret)) (.skip))) (.seq (.reg [oo 18 (fl 0 3),oo 19 (ln 18),oo 20 (fc 80 [(.t 19)]),om 17 20,oo 21 (ex_ 0 17),oo 22 (ex_ 1 17),oo 8 (.alloc [(.str ⟨#[]⟩),(kz 0),(kz 0)]),o none (.st (some 3) (.t 8) (.t 21)),om 9 22]) (.seq (.reg [oo 23 (ls 3 8),oo 24 (fc 82 [(.t 23),(.t 3)]),om 10 24]) (.seq (.seq (.reg [om 25 2,oo 26 (.lenS (.t 25)),om 27 10,oo 28 (.lenS (.t 27)),oo 29 (ct .neq 26 28),sm 30 29,mf 30 31 1,gf 30 32 (cc .lss 31 0),oo 33 (pt 30 32),sm 34 33,mf 34 35 1,gf 34 36 (cc .neq 35 0),ogs 34 false (some 37) (.mv (.t 36)),gt_ 37 38 (ls 3 8),gt_ 37 39 (fc 81 [(.t 38),(ki 8)]),gt_ 37 40 (.not (.t 39)),gf 34 41 (pf 37 40),oo 42 (pt 34 41)]) (.cond (.t 42) (.seq (.reg [oo 43 (.bld zI []),o none (.st (some 15) (.t 6) (.t 43)),oo 7 (.mv (ki 1))]) (.ret)) (.skip))) (.seq (.seq (.reg [om 44 10,oo 45 (.lenS (.t 44)),oo 46 (.mv (ki 0))]) (.blk 0 (.loop 0 (.seq (.reg [oo 47 (ct .lss 46 45)]) (.seq (.cond (.t 47) (.skip) (.exit 0)) (.seq (.blk 1 (.seq (.reg [om 48 46,oo 49 (ia 2 44 46),oo 50 (ls 2 49),oo 12 (.alloc [(.val (.pointer none)),.ff]),om 11 48,o none (.st (some 2) (.t 12) (.t 50))]) (.seq (.seq (.reg [om 51 2,om 52 11,oo 53 (ia 1 51 52),oo 54 (ln 53),oo 55 (cc .lss 54 0)]) (.cond (.t 55) (.seq (.reg [oo 56 (.bld zI []),o none (.st (some 15) (.t 6) (.t 56)),oo 7 (.mv (ki 1))]) (.ret)) (.skip))) (.drw [oo 57 (fl 0 12),oo 58 (ln 57),om 59 2,om 60 11,oo 61 (ia 1 59 60),oo 62 (ln 61),oo 63 (.nchk (.t 58)),o none (.st (some 1) (.t 63) (.t 62))] [[],[0],[],[],[2,3],[4],[1,0,1,2,3,4,5],[6,5,0,1,2,3,4,5]])))) (.reg [oo 64 (ac .add 46 1),om 46 64]))))))) (.seq (.seq (.reg [oo 65 (ls 3 8),oo 66 (fc 81 [(.t 65),(ki 8)])]) (.cond (.t 66) (.reg [om 67 1,oo 68 (fl 4 3),o none (.st (some 1) (.t 68) (.t 67))]) (.skip))) (.seq (.reg [oo 69 (ls 15 3),o none (.st (some 15) (.t 6) (.t 69)),oo 7 (.mv (ki 0))]) (.ret))))))))
theorem k38 : zan Tryz.prog 38 70 c38 [.c 6 (some 15),.t 7] := fk Tryz.func38 ⟨tv,⟨⟨tv,⟨⟨tv,tv⟩,tv⟩⟩,⟨tv,⟨tv,⟨⟨tv,⟨⟨tv,tv⟩,tv⟩⟩,⟨⟨tv,⟨tv,⟨⟨tv,tv⟩,⟨⟨tv,⟨⟨tv,⟨⟨tv,tv⟩,tv⟩⟩,tv⟩⟩,tv⟩⟩⟩⟩,⟨⟨tv,⟨tv,tv⟩⟩,⟨tv,tv⟩⟩⟩⟩⟩⟩⟩⟩
def zgR : HI := ⟨0, 0, 0, 0, 0, 0, 0, 0, 0, 0, 0, 0, 0, 0, 0⟩
def b2n (b : Bool) : Nat := match b with | true => 1 | false => 0
def zeN (us : List Int) : Bool := us.any fun u => decide (u < 0)
def zdh (x : HI) (d : Int) (us : List Int) : HI × Int :=
 if zb2 x = false then (zgR, 170)
 else if us.length ≠ (zaf x).length \/ d < 0 \/ (d ≠ 0 /\ ff x 8 = false) then (zgR, 1)
 else if zeN us = true then (zgR, 1)
 else ({ x with
  d := if ff x 8 = true then d else x.d
  a := if ff x 16 = true then us.getD 0 0 else x.a
  b := if ff x 32 = true then us.getD (b2n (ff x 16)) 0 else x.b
  c := if ffC x = true then us.getD (b2n (ff x 16) + b2n (ff x 32)) 0 else x.c }, 0)
theorem zsZ (us : List Int) (n : Int) (h : 0 <= n /\ n < us.length) : (us.map ipv)[n.toNat]? = some (ipv (us.getD n.toNat 0)) := by
 have h1 : n.toNat < us.length := by omega
 rw [List.getElem?_map, List.getElem?_eq_getElem h1]
 simp [List.getD_eq_getElem?_getD, List.getElem?_eq_getElem h1]
theorem zIB {us : List Int} (h : us.length = 3) : zeN us = (decide (us.getD 0 0 < 0) || decide (us.getD 1 0 < 0) || decide (us.getD 2 0 < 0)) := by
 match us, h with
 | [a, b, c], _ => simp [zeN, Bool.or_assoc]
theorem zFC {us : List Int} (h : us.length = 2) : zeN us = (decide (us.getD 0 0 < 0) || decide (us.getD 1 0 < 0)) := by
 match us, h with
 | [a, b], _ => simp [zeN]
theorem zH1 {us : List Int} (h : us.length = 1) : zeN us = decide (us.getD 0 0 < 0) := by
 match us, h with
 | [a], _ => simp [zeN]
theorem zJk {us : List Int} (h : us.length = 0) : zeN us = false := by
 match us, h with
 | [], _ => simp [zeN]
theorem zFp (n : Nat) : ((n : Int) = 0) = (n = 0) := by simp
theorem zJc (n : Nat) : ((n : Int) = 1) = (n = 1) := propext (by omega)
theorem zIW (n : Nat) : ((n : Int) = 2) = (n = 2) := propext (by omega)
theorem zIC (n : Nat) : ((n : Int) = 3) = (n = 3) := propext (by omega)
theorem ztl {x : HI} (h : zb2 x = true) : (zaf x).length = b2n (ff x 16) + b2n (ff x 32) + b2n (ffC x) := by
 unfold zaf
 rw [if_pos h]
 cases ff x 16 <;> cases ff x 32 <;> cases ffC x <;> rfl
def L38 (x : HI) (d : Int) (us : List Int) : zaa := ⟨[.agg x.cells, kz d, .rd (.sl 1 (us.map ipv))], [], [], [], .tup [.agg (zdh x d us).1.cells, kz (zdh x d us).2]⟩
set_option maxHeartbeats 40000000 in
theorem s38 (x : HI) (d : Int) (us : List Int) : zaa.ok Tryz.prog GG 38 (L38 x d us) := by
 refine zac mix k38 _ rfl rfl (Tab.ok (l := [(58, S58), (80, S80), (82, S82), (81, S81)]) ⟨t58, t80, t82, t81, trivial⟩) (fun _ => .rounds 5) noJ ?_
 repeat' ((conv => whnf); first
  | exact trivial
  | with_reducible first | refine aj ?_ | refine ai rfl ?_ | refine ai ⟨rfl, rfl⟩ ?_
  | ((with_reducible refine ai ?_ ?_); focus exact w3)
  | with_reducible first | refine And.intro ?_ ?_ | refine zae ?_ | refine exI (i64_in (by omega) (by omega)) ?_
  | refine exI (x := ULift.up _) (Eq.refl _) ?_
  | refine exI (x := ULift.up _) ⟨rfl, by omega, Eq.refl _⟩ ?_
  | ((with_reducible intro h); first | exact absurd h (by decide) | (exfalso; revert h; simp; done))
  | refine exI (x := ULift.up _) ⟨rfl, by omega, zsZ _ _ (by simp only [List.length_map] at *; simp only [rdN] at *; omega)⟩ ?_
  | with_reducible intro _)
 all_goals (refine Sd.mk ?_; simp only [HI.eta, FM.eta, rdN, List.length_map] at *)
 all_goals simp_all [zdh, ztl, zIB, zFC, zH1, zJk, b2n, HI.cells, zgR, zFp, zJc, zIW, zIC]
 all_goals (simp only [ff] at *; grind)
noncomputable def S38 : SFn
 | [a0, a1, a2], k => zdp a0 fun x => asI a1 fun d => zcu a2 fun L_us => asL ipv L_us fun us => k (L38 x d us)
 | _, _ => .fail
theorem t38 : FnS Tryz.prog GG 38 S38 := by
 intro args k gt go R v os n h
 unfold S38 at h
 split at h
 . obtain ⟨x, _, h⟩ := zbt h
   obtain ⟨d, _, h⟩ := zaU h
   obtain ⟨L_us, _, h⟩ := zbn h
   obtain ⟨us, _, h⟩ := zaN h
   exact ⟨_, _, s38 x d us, h⟩
 . cases h
end
section
def c37 : MC := .seq (.reg [oo 1 (.box (.t 0)),oo 2 (.mv (ki 0))]) (.seq (.seq (.reg [oo 8 (ls 15 1),oo 9 (fc 58 [(.t 8)]),oo 10 (.not (.t 9))]) (.cond (.t 10) (.seq (.reg [oo 2 (.mv (ki 170))]) (.ret)) (.skip))) (.seq (.reg [oo 11 (ls 15 1),oo 12 (fc 34 [(.t 11)]),om 3 12]) (.seq (.seq (.reg [oo 14 (ls 15 1),oo 15 (fc 33 [(.t 14)]),om 13 15,oo 16 (ex_ 0 13),oo 17 (ex_ 1 13),oo 4 (.alloc [.ff,(kz 0)]),o none (.st (some 2) (.t 4) (.t 16)),om 5 17]) (.seq (.reg [om 18 5]) (.cond (.t 18) (.reg [om 19 3,oo 20 (ls 2 4),oo 21 (.bsl 2 1 [.ff,(kz 0)] [(0,(.t 20))]),oo 22 (.app 2 16 (.t 19) (.t 21)),om 3 22]) (.skip)))) (.seq (.seq (.reg [om 23 3,oo 24 (.lenS (.t 23)),oo 25 (.mv (ki 0))]) (.blk 0 (.loop 0 (.seq (.reg [oo 26 (ct .lss 25 24)]) (.seq (.cond (.t 26) (.skip) (.exit 0)) (.seq (.blk 1 (.seq (.reg [oo 27 (ia 2 23 25),oo 28 (ls 2 27),oo 7 (.alloc [.ff,(kz 0)]),o none (.st (some 2) (.t 7) (.t 28))]) (.seq (.reg [oo 29 (fl 0 7),oo 30 (ln 29),sm 31 30,gt_ 31 32 (fl 1 7),gt_ 31 33 (ln 32),gt_ 31 34 (cc .geq 33 6),oo 35 (pf 31 34),sm 36 35,gf 36 37 (fl 0 7),gf 36 38 (ln 37),gf 36 39 (.not (.t 38)),ogs 36 false (some 40) (.mv (.t 39)),gt_ 40 41 (fl 1 7),gt_ 40 42 (ln 41),gt_ 40 43 (cc .geq 42 12),gf 36 44 (pf 40 43),oo 45 (pt 36 44)]) (.cond (.t 45) (.seq (.reg [oo 2 (.mv (ki 170))]) (.ret)) (.skip))))) (.reg [oo 46 (ac .add 25 1),om 25 46]))))))) (.seq (.reg [oo 2 (.mv (ki 0))]) (.ret))))))
theorem k37 : zan Tryz.prog 37 47 c37 [.t 2] := fk Tryz.func37 ⟨tv,⟨⟨tv,⟨⟨tv,tv⟩,tv⟩⟩,⟨tv,⟨⟨tv,⟨tv,⟨tv,tv⟩⟩⟩,⟨⟨tv,⟨tv,⟨⟨tv,tv⟩,⟨⟨tv,⟨tv,⟨⟨tv,tv⟩,tv⟩⟩⟩,tv⟩⟩⟩⟩,⟨tv,tv⟩⟩⟩⟩⟩⟩
def zaL (x : HI) : List HR := zaf x ++ (if (zag x).2 = true then [(zag x).1] else [])
def okR (r : HR) : Bool := if r.vec = true then decide (r.n < 6) else decide (r.n < 12)
def zbJ (x : HI) : Int := if zb2 x = true /\ (zaL x).all okR = true then 0 else 170
def zCj (x : HI) (i : Int) : St := ⟨[(25, kz i), (24, kz (zaL x).length), (23, .slc 0 0 (zaL x).length)], [(0, some (.vec 2 ((zaL x).map HR.pv)))], 1⟩
theorem zbA (x : HI) : (zaf x).length <= 3 := by
 simp only [zaf]; split <;> (try split) <;> (try split) <;> (try split) <;> simp
theorem zlM (x : HI) : (zaL x).length <= 4 := by
 have := zbA x; simp only [zaL, List.length_append]; split <;> simp <;> omega
def I37 (x : HI) (i : Int) : Prop := 0 <= i /\ i <= (zaL x).length /\ (zaL x).length <= 4 /\ ((zaL x).take i.toNat).all okR = true
theorem zsz {x : HI} {i : Int} (hI : I37 x i) (h : i < (zaL x).length) (hv : (nth (zaL x) i).vec = true) (hn : 6 <= (nth (zaL x) i).n) : zbJ x = 170 := by
 have hb : okR (nth (zaL x) i) = false := by simp [okR, hv, hn]
 simp only [zbJ]; split
 . next h1 => rw [zou h1.2 ⟨hI.1, h⟩] at hb; cases hb
 . rfl
theorem zrZ {x : HI} {i : Int} (hI : I37 x i) (h : i < (zaL x).length) (hv : (nth (zaL x) i).vec = false) (hn : 12 <= (nth (zaL x) i).n) : zbJ x = 170 := by
 have hb : okR (nth (zaL x) i) = false := by simp [okR, hv, hn]
 simp only [zbJ]; split
 . next h1 => rw [zou h1.2 ⟨hI.1, h⟩] at hb; cases hb
 . rfl
theorem zmL {x : HI} {i : Int} (hI : I37 x i) (h : i < (zaL x).length) (hb : okR (nth (zaL x) i) = true) : I37 x (i + 1) /\ ((zaL x).length - (i + 1)).toNat < ((zaL x).length - i).toNat := by
 obtain ⟨h1, h2, h3, h4⟩ := hI
 refine ⟨⟨by omega, by omega, h3, ?_⟩, by omega⟩
 rw [zsk _ _ _ ⟨h1, h⟩, h4, hb]; rfl
theorem zqM {x : HI} {i : Int} (hI : I37 x i) (h : i < (zaL x).length) (hv : (nth (zaL x) i).vec = true) (hn : ¬ 6 <= (nth (zaL x) i).n) : I37 x (i + 1) /\ ((zaL x).length - (i + 1)).toNat < ((zaL x).length - i).toNat :=
 zmL hI h (by simp [okR, hv]; omega)
theorem zqP {x : HI} {i : Int} (hI : I37 x i) (h : i < (zaL x).length) (hv : (nth (zaL x) i).vec = false) (hn : ¬ 12 <= (nth (zaL x) i).n) : I37 x (i + 1) /\ ((zaL x).length - (i + 1)).toNat < ((zaL x).length - i).toNat :=
 zmL hI h (by simp [okR, hv]; omega)
theorem zvI {x : HI} {i : Int} (hI : I37 x i) (hv : (!zb2 x) = false) (h : ¬ i < (zaL x).length) : zbJ x = 0 := by
 have h1 := hI.2.2.2
 rw [zs9 _ _ h] at h1
 have hv : zb2 x = true := by simpa using hv
 simp [zbJ, hv, h1]
def L37 (x : HI) : zaa := ⟨[.agg x.cells], [], [], [], kz (zbJ x)⟩
set_option maxHeartbeats 40000000 in
theorem s37 (x : HI) : zaa.ok Tryz.prog GG 37 (L37 x) := by
 refine zac mix k37 _ rfl rfl (Tab.ok (l := [(58, S58), (34, S34), (33, S33)]) ⟨t58, t34, t33, trivial⟩) (fun _ => .inv Int (fun _ => I37 x) (zCj x) (fun i => ((zaL x).length - i).toNat)) noJ ?_
 repeat' ((conv => whnf); first
  | exact trivial
  | with_reducible first | refine aj ?_ | refine ai rfl ?_ | refine ai ⟨rfl, rfl⟩ ?_
  | ((with_reducible refine ai ?_ ?_); focus exact w3)
  | with_reducible first | refine And.intro ?_ ?_ | apply exW (c := _) | refine exI (i64_in (by simp only [I37] at *; omega) (by simp only [I37] at *; omega)) ?_
  | refine exI (x := ULift.up _) (za8 _ _ _ (by simp only [I37] at *; omega)) ?_
  | with_reducible first | refine zae ?_ | refine exI (i64_in (by omega) (by omega)) ?_
  | refine exI (x := ULift.up _) (Eq.refl _) ?_
  | refine exI (x := ULift.up _) ⟨rfl, by omega, Eq.refl _⟩ ?_
  | exact ny
  | ((with_reducible intro h); try dsimp only at h))
 all_goals (refine Sd.mk ?_; have hl := zlM x; have hu := zbA x; (try simp only [HI.eta] at *))
 all_goals first
  | exact zsz ‹_› ‹_› ‹_› ‹_›
  | exact zrZ ‹_› ‹_› ‹_› ‹_›
  | exact zqM ‹_› ‹_› ‹_› ‹_›
  | exact zqP ‹_› ‹_› ‹_› ‹_›
  | exact zvI ‹_› ‹_› ‹_›
  | exact ⟨by omega, by omega, hl, rfl⟩
  | (simp only [I37] at *; omega)
  | (simp only [zbJ]; simp_all; done)
  | (simp_all [zaL, zai.len, HR.pv, I37]; done)
  | (simp_all [zaL, zai.len, HR.pv]; omega)
noncomputable def S37 : SFn
 | [a0], k => zdp a0 fun x => k (L37 x)
 | _, _ => .fail
theorem t37 : FnS Tryz.prog GG 37 S37 := by
 intro args k gt go R v os n h
 unfold S37 at h
 split at h
 . obtain ⟨x, _, h⟩ := zbt h
   exact ⟨_, _, s37 x, h⟩
 . cases h
end
section
def c50 : MC := .seq (.reg [oo 2 (.alloc [(.val (.map none)),(.val (.map none))])]) (.seq (.reg [oo 11 (.mkm),oo 12 (.mkm),oo 13 (.bld [(.val (.map none)),(.val (.map none))] [(0,1,(.t 11)),(1,1,(.t 12))]),oo 3 (.alloc [(.val (.map none)),(.val (.map none))]),o none (.st (some 2) (.t 3) (.t 13))]) (.gh (.toFam 1) (.gh (.toFam 2) (.seq (.seq (.reg [om 14 0,oo 15 (.lenS (.t 14)),oo 16 (.mv (ki 0))]) (.blk 0 (.loop 0 (.seq (.reg [oo 17 (ct .lss 16 15)]) (.seq (.cond (.t 17) (.skip) (.exit 0)) (.seq (.blk 1 (.seq (.reg [om 18 16,oo 19 (ia 15 14 16),oo 20 (ls 15 19),oo 5 (.alloc zI),om 4 18,o none (.st (some 15) (.t 5) (.t 20))]) (.seq (.seq (.reg [oo 21 (ls 15 5),oo 22 (fc 34 [(.t 21)]),oo 23 (.lenS (.t 22)),oo 24 (.mv (ki 0))]) (.blk 2 (.loop 1 (.seq (.reg [oo 25 (ct .lss 24 23)]) (.seq (.cond (.t 25) (.skip) (.exit 2)) (.seq (.blk 3 (.seq (.reg [oo 26 (ia 2 22 24),oo 27 (ls 2 26),oo 7 (.alloc [.ff,(kz 0)]),o none (.st (some 2) (.t 7) (.t 27))]) (.seq (.reg [oo 28 (fl 0 3),oo 29 (ln 28),oo 30 (ls 2 7),oo 31 (.lkp false false [.bool,.int .i64] true [.sl 1 []] (.t 29) (.t 30)),om 8 31]) (.seq (.reg [om 32 8,oo 33 (.lenS (.t 32)),oo 34 (cc .eql 33 0),sm 35 34,mf 35 36 8,mf 35 37 8,gf 35 38 (.lenS (.t 37)),gf 35 39 (ac .sub 38 1),gf 35 40 (ia 1 36 39),gf 35 41 (ln 40),mf 35 42 4,gf 35 43 (ct .neq 41 42),oo 44 (pt 35 43)]) (.cond (.t 44) (.drw [oo 45 (fl 0 3),oo 46 (ln 45),oo 47 (ls 2 7),om 48 8,om 49 4,oo 50 (.bsl 1 1 [(kz 0)] [(0,(.t 49))]),oo 51 (.app 1 8 (.t 48) (.t 50)),o none (.mup false [.bool,.int .i64] (.t 46) (.t 47) (.t 51))] [[],[0],[],[],[],[4],[3,5],[1,2,6,6,0,1,2,3,4,5,6]]) (.gh (.putb 1) (.skip))))))) (.reg [oo 52 (ac .add 24 1),om 24 52]))))))) (.seq (.reg [oo 54 (ls 15 5),oo 55 (fc 33 [(.t 54)]),om 53 55,oo 56 (ex_ 0 53),oo 57 (ex_ 1 53),oo 9 (.alloc [.ff,(kz 0)]),o none (.st (some 2) (.t 9) (.t 56)),om 10 57]) (.seq (.reg [om 58 10]) (.cond (.t 58) (.reg [oo 59 (fl 1 3),oo 60 (ln 59),oo 61 (ls 2 9),om 63 4,oo 64 (.bsl 1 1 [(kz 0)] [(0,(.t 63))]),oo 65 (.ment false [.bool,.int .i64] true [.sl 1 []] (.t 60) (.t 61)),oo 62 (ex_ 0 65),oo 66 (.app 1 8 (.t 62) (.t 64)),oo 67 (ex_ 1 65),o none (.mest (.t 60) (.t 67) (.t 66))]) (.skip))))))) (.reg [oo 68 (ac .add 16 1),om 16 68]))))))) (.gh (.toMap 1) (.gh (.toMap 2) (.seq (.reg [oo 69 (ls 2 3),o none (.st (some 2) (.t 2) (.t 69))]) (.ret))))))))
theorem k50 : zan Tryz.prog 50 70 c50 [.c 2 (some 2)] := fk Tryz.func50 ⟨tv,⟨tv,⟨⟨tv,⟨tv,⟨⟨tv,tv⟩,⟨⟨tv,⟨⟨tv,⟨tv,⟨⟨tv,tv⟩,⟨⟨tv,⟨tv,⟨tv,⟨tv,tv⟩⟩⟩⟩,tv⟩⟩⟩⟩,⟨tv,⟨tv,⟨tv,tv⟩⟩⟩⟩⟩,tv⟩⟩⟩⟩,⟨tv,tv⟩⟩⟩⟩
attribute [local irreducible] zaf zag zb2 Go.Sx.zak Go.Sx.zay Go.Sx.zam
abbrev znm := Int × TM × TM
abbrev zk5 := Int × TM × TM × Int
def zx6 (us ds : TM) : List (Nat × Option SO) := [(0, some (.row [.val (.map none), .val (.map none)])), (3, some (.row [.mp 1, .mp 2])), (1, some (.fam MTS zk7 us none)), (2, some (.fam MTS zk7 ds none))]
def zyn (l : List HI) : znm -> St
 | (i, us, ds) => ⟨[(16, kz i), (15, kz l.length), (14, hiS l), (3, .ptr 3 0 0), (2, .ptr 0 0 0)], zx6 us ds, 4⟩
def zzc (l : List HI) : zk5 -> St
 | (i, us, ds, j) => ⟨[(24, kz j), (23, kz (zaf (nth l i)).length), (22, .slc 5 0 (zaf (nth l i)).length), (16, kz i), (15, kz l.length), (14, hiS l), (5, .ptr 4 0 0), (4, kz i), (3, .ptr 3 0 0), (2, .ptr 0 0 0)],
    zx6 us ds ++ [(4, some (.row (nth l i).cells)), (5, some (.vec 2 ((zaf (nth l i)).map HR.pv)))], 6⟩
def zct (l : List HI) : znm -> Prop
 | (i, us, ds) => 0 <= i /\ i <= l.length /\ l.length <= 4000 /\ wfT i us /\ wfT i ds /\ zbM (l.drop i.toNat) i us ds = zav l
def zdH (l : List HI) : zk5 -> zk5 -> Prop
 | (i0, us0, ds0, _), (i, us, ds, j) => i = i0 /\ ds = ds0 /\ 0 <= j /\ j <= (zaf (nth l i)).length /\ (zaf (nth l i)).length <= 3 /\ wfT (i + 1) us /\ ((zaf (nth l i)).drop j.toNat).foldl (zb3 i) us = (zaf (nth l i)).foldl (zb3 i) us0
def zJr (l : List HI) : Nat -> zbO
 | 0 => .inv znm (fun _ => zct l) (zyn l) (fun c => ((l.length : Int) - c.1).toNat)
 | _ => .inv zk5 (zdH l) (zzc l) (fun c => ((zaf (nth l c.1)).length - c.2.2.2).toNat)
theorem zwB {l : List HI} {Q : znm -> Prop} (h : ∀ i us ds, zct l (i, us, ds) -> Q (i, us, ds)) : ∀ c, zct l c -> Q c := fun ⟨i, us, ds⟩ hI => h _ _ _ hI
theorem zAD {l : List HI} {i us0 ds j0} {Q : zk5 -> Prop} (h : ∀ us j, zdH l (i, us0, ds, j0) (i, us, ds, j) -> Q (i, us, ds, j)) : ∀ c, zdH l (i, us0, ds, j0) c -> Q c := fun ⟨i', us, ds', j⟩ hI => by
 obtain ⟨h1, h2, h3⟩ := hI
 subst h1; subst h2
 exact h _ _ ⟨rfl, rfl, h3⟩
theorem zJE {l : List HI} (h : l.length <= 4000) : zct l (0, [], []) := ⟨by omega, by omega, h, zcy, zcy, rfl⟩
theorem zEh {l : List HI} {i us ds} (h : zct l (i, us, ds)) : zdH l (i, us, ds, 0) (i, us, ds, 0) := ⟨rfl, rfl, by omega, by omega, zbA _, ze2 h.2.2.2.1 (by omega), rfl⟩
theorem ztT {l : List HI} {i us ds us' ds' j0 j} (h0 : zct l (i, us', ds')) (h : zdH l (i, us', ds, j0) (i, us, ds, j)) (r : HR) : (List.map ipv (zak MTS r us)).length <= 4001 := by
 have h1 := h0.2.1
 have h2 := h0.2.2.1
 have h3 := h0.1
 have := ziR h.2.2.2.2.2.1 (by omega) r
 rw [List.length_map]
 simp only [ag] at this
 omega
theorem zFB {l : List HI} {i us ds us' ds' j0 j} (_ : zct l (i, us', ds')) (_ : zdH l (i, us', ds, j0) (i, us, ds, j)) {r : HR} : -9223372036854775808 <= ((List.map ipv (zak MTS r us)).length : Int) - 1 := by omega
theorem zHg {l : List HI} {i us ds us' ds' j0 j} (h0 : zct l (i, us', ds')) (h : zdH l (i, us', ds, j0) (i, us, ds, j)) {r : HR} : ((List.map ipv (zak MTS r us)).length : Int) - 1 < 9223372036854775808 := by
 have := ztT h0 h r
 omega
theorem zJu {r : HR} {us : TM} (h : ¬ ((List.map ipv (zak MTS r us)).length : Int) = 0) : (List.map ipv (zak MTS r us))[0 + (((List.map ipv (zak MTS r us)).length : Int) - 1).toNat]? = some (ipv (zdx (ag r us))) := by
 rw [za8 _ _ _ (by rw [List.length_map] at *; omega)]
 unfold zdx
 rw [List.length_map]
theorem zvn {κ : Type} {k : κ} {j : Nat} {g : Option Nat} : zfd (some (k, j, g)) k := fun _ _ _ e => by cases e; rfl
theorem zvT {X : List Int} {i : Int} : zk7 (X ++ [i]) = Sub.vec 1 (List.map ipv X ++ [[PV.int .i64 i]]) := by simp only [zk7, List.map_append]; rfl
theorem zuu {X : List Int} {i : Int} {n : Nat} (h : n = (List.map ipv X ++ [[PV.int .i64 i]]).length) : zk7 (X ++ [i]) = Sub.vec 1 (List.map ipv X ++ [[PV.int .i64 i]]) /\ 0 = 0 /\ n = (List.map ipv X ++ [[PV.int .i64 i]]).length := ⟨zvT, rfl, h⟩
theorem zHI {l : List HI} {i us ds us' ds' j0 j} {X : List (List SV)} (h0 : zct l (i, us', ds')) (h : zdH l (i, us', ds, j0) (i, us, ds, j)) (hX : X.length = 1) {r : HR} : (zai.len (Sum.inr (List.map ipv (zak MTS r us))) + zai.len (Sum.inl X)) * 8 <= 2 ^ 46 := by
 have := ztT h0 h r
 simp only [zai.len, hX] at *
 omega
theorem zGs {l : List HI} {i us ds} {X : List (List SV)} (h0 : zct l (i, us, ds)) (hX : X.length = 1) {r : HR} : (zai.len (Sum.inr (List.map ipv (zak MTS r ds))) + zai.len (Sum.inl X)) * 8 <= 2 ^ 46 := by
 obtain ⟨h1, h2, h3, h4, h5, _⟩ := h0
 have := ziR h5 h1 r
 simp only [zai.len, hX, List.length_map, ag] at *
 omega
theorem tj {l : List HI} {i us ds us' ds' j0 j us2} (h0 : zct l (i, us', ds')) (h : zdH l (i, us', ds, j0) (i, us, ds, j)) (hj : j < (zaf (nth l i)).length) (e : zb3 i us (nth (zaf (nth l i)) j) = us2) :
 zdH l (i, us', ds, j0) (i, us2, ds, j + 1) /\ (((zaf (nth l i)).length : Int) - (j + 1)).toNat < (((zaf (nth l i)).length : Int) - j).toNat := by
  obtain ⟨_, _, h3, h4, h5, h6, h7⟩ := h
  subst e
  refine ⟨⟨rfl, rfl, by omega, by omega, h5, zmt h6 h0.1, ?_⟩, by omega⟩
  rw [zaF _ _ ⟨h3, hj⟩] at h7
  exact h7
theorem zHf {i : Int} {us : TM} {r : HR} (h : ((List.map ipv (zak MTS r us)).length : Int) = 0) : zb3 i us r = zam MTS r (zak MTS r us ++ [i]) us := by
 have : (zak MTS r us).length = 0 := by rw [List.length_map] at h; omega
 unfold zb3; rw [if_pos (.inl (List.length_eq_zero_iff.1 this))]
theorem zGt {i : Int} {us : TM} {r : HR} (h : ¬ zdx (ag r us) = i) : zb3 i us r = zam MTS r (zak MTS r us ++ [i]) us := by
 unfold zb3; rw [if_pos (.inr h)]
theorem zFA {i : Int} {us : TM} {r : HR} (h : ¬ ((List.map ipv (zak MTS r us)).length : Int) = 0) (h2 : ¬ ¬ zdx (ag r us) = i) : zb3 i us r = us := by
 unfold zb3; rw [if_neg]
 rintro (e | e)
 . rw [List.length_map] at h
   simp only [ag] at e
   rw [e] at h; exact h rfl
 . exact h2 e
theorem zEw {i : Int} {ds : TM} {x : HI} (h : (zag x).2 = false) : zeb i ds x = ds := by unfold zeb; rw [if_neg (by rw [h]; decide)]
theorem zG2 {i : Int} {ds : TM} {x : HI} (h : (zag x).2 = true) : zeb i ds x = zam MTS (zag x).1 (zak MTS (zag x).1 ds ++ [i]) (zam MTS (zag x).1 (zak MTS (zag x).1 ds) ds) := by unfold zeb; rw [if_pos h, zqQ]
theorem to {l : List HI} {i us ds us2 j ds2} (h0 : zct l (i, us, ds)) (h : zdH l (i, us, ds, 0) (i, us2, ds, j)) (hi : i < l.length) (hj : ¬ j < (zaf (nth l i)).length) (e : zeb i ds (nth l i) = ds2) :
 zct l (i + 1, us2, ds2) /\ ((l.length : Int) - (i + 1)).toNat < ((l.length : Int) - i).toNat := by
  obtain ⟨h1, h2, h3, h4, h5, h6⟩ := h0
  obtain ⟨_, _, k3, k4, k5, k6, k7⟩ := h
  rw [List.drop_eq_nil_of_le (by omega)] at k7
  subst e
  refine ⟨⟨by omega, by omega, h3, k6, zmV h5 h1, ?_⟩, by omega⟩
  rw [zaF _ _ ⟨h1, hi⟩, zbM, <- k7] at h6
  exact h6
theorem te {l : List HI} {i us ds} (h : zct l (i, us, ds)) (hi : ¬ i < l.length) : (zav l).1 = us /\ (zav l).2 = ds := by
 obtain ⟨h1, h2, h3, h4, h5, h6⟩ := h
 rw [List.drop_eq_nil_of_le (by omega)] at h6
 rw [<- h6]
 exact ⟨rfl, rfl⟩
theorem zGn {l : List HI} {i us ds} (h : zct l (i, us, ds)) (hi : ¬ i < l.length) : SO.map MTS (zav l).1 none = SO.map MTS us none := by rw [(te h hi).1]
theorem zJ2 {l : List HI} {i us ds} (h : zct l (i, us, ds)) (hi : ¬ i < l.length) : SO.map MTS (zav l).2 none = SO.map MTS ds none := by rw [(te h hi).2]
noncomputable def L50 (l : List HI) : zaa := ⟨[.rd (.sl 15 (l.map HI.pv))], [], [], [.map MTS (zav l).1 none, .map MTS (zav l).2 none], .agg [.mp 0, .mp 1]⟩
set_option maxHeartbeats 8000000 in
theorem s50 (l : List HI) (hl : l.length <= 4000) : zaa.ok Tryz.prog GG 50 (L50 l) := by
 refine zac mix k50 _ rfl rfl (Tab.ok (l := [(33, S33), (34, S34)]) ⟨t33, t34, trivial⟩) (zJr l) noJ ?_
 repeat' ((conv => whnf); first
  | exact trivial
  | with_reducible first | refine aj ?_ | refine ai rfl ?_ | refine ai ⟨rfl, rfl⟩ ?_
  | ((with_reducible refine ai ?_ ?_); focus exact w3)
  | with_reducible first | refine zwB ?_ | refine zAD ?_ | apply exW (γ := znm) (c := (_, _, _)) | apply exW (γ := zk5) (c := (_, _, _, _))
  | refine exI (x := MTS) trivial ?_
  | with_reducible first | refine Exists.intro zk7 ?_ | refine And.intro (Sd.mk (p := zfd _ _) zvn) ?_ | refine exI (i64_in (zFB ‹_› ‹_›) (zHg ‹_› ‹_›)) ?_ | refine exI (i64_in (by simp only [zct, zdH, List.length_map] at *; omega) (by simp only [zct, zdH, List.length_map] at *; omega)) ?_ | refine ai (tl_3 ‹_›) ?_ | refine exI (x := ULift.up _) (zJu ‹_›) ?_
  | refine exI (x := ULift.up _) (za8 _ _ _ (by simp only [zct, zdH, List.length_map] at *; omega)) ?_
  | refine exI (x := ULift.up _) ⟨rfl, (by simp only [zct, zdH, List.length_map] at *; omega), zbc _ _ _ (by simp only [zct, zdH, List.length_map] at *; omega)⟩ ?_
  | refine And.intro (Sd.mk (p := zaj.one MTS = _ /\ _) ⟨rfl, rfl⟩) ?_
  | apply exI (x := ULift.up (HR.mk _ _)) trivial
  | apply exI (x := (ULift.up ((_ : List Int) ++ [(_ : Int)]) : ULift (List Int))) trivial
  | with_reducible first | refine ai (zuu (by simp [zai.len])) ?_ | refine And.intro (Sd.mk zrP) ?_ | refine And.intro (Sd.mk zql) ?_ | refine And.intro (Sd.mk (p := (_ : Int) <= _ /\ _) (by simp only [zct, zdH, List.length_map] at *; omega)) ?_ | refine And.intro ?_ ?_ | refine zae ?_ | refine exI (i64_in (by omega) (by omega)) ?_
  | refine exI (x := ULift.up _) (Eq.refl _) ?_
  | refine exI (x := ULift.up _) ⟨rfl, by omega, Eq.refl _⟩ ?_
  | exact nx
  | ((with_reducible intro h); try dsimp only at h))
 all_goals (refine Sd.mk ?_)
 all_goals try first
  | exact zJE hl
  | exact zEh ‹_›
  | exact zHI ‹_› ‹_› rfl
  | exact zGs ‹_› rfl
  | exact zGn ‹_› ‹_›
  | exact zJ2 ‹_› ‹_›
 all_goals (try simp only [HI.eta, HR.eta] at *)
 all_goals first
  | exact tj ‹_› ‹_› ‹_› (zHf ‹_›)
  | exact tj ‹_› ‹_› ‹_› (zGt ‹_›)
  | exact tj ‹_› ‹_› ‹_› (zFA ‹_› ‹_›)
  | exact to ‹_› ‹_› ‹_› ‹_› (zEw ‹_›)
  | exact to ‹_› ‹_› ‹_› ‹_› (zG2 ‹_›)
noncomputable def S50 : SFn
 | [a0], k => zcu a0 fun L_l => asL HI.pv L_l fun l => .req (l.length <= 4000) (k (L50 l))
 | _, _ => .fail
theorem t50 : FnS Tryz.prog GG 50 S50 := by
 intro args k gt go R v os n h
 unfold S50 at h
 split at h
 . obtain ⟨L_l, _, h⟩ := zbn h
   obtain ⟨l, _, h⟩ := zaN h
   obtain ⟨hp, _, h⟩ := zar h
   exact ⟨_, _, s50 l hp, h⟩
 . cases h
end
section
structure AS where
 us : TM
 ds : TM
 code : List HI
 L : List HI
 fr : List Int
 w : BK
 v : BK
def zmk {α : Type} (pv : α -> List PV) (s : Nat) : SV -> (List α -> RT) -> RT
 | .slc j _ _, f => .rO j fun o => match o with
   | some (.vec _ LL) => asL pv LL f
   | _ => .fail
 | _, _ => .fail
noncomputable def zkW (p : Nat) (f : AS -> RT) : RT := zbk p fun r => match r with
 | .agg [.mp u, .mp d, c, l, fr, .ptr w _ _, .ptr v _ _] => zbl MTS u fun us => zbl MTS d fun ds => zcu c fun L_c => asL HI.pv L_c fun code => zmk HI.pv 15 l fun L => zmk ipv 1 fr fun fr => ziz w fun w => ziz v fun v => f ⟨us, ds, code, L, fr, w, v⟩
 | _ => .fail
section
variable {gt : GT} {go : GO} {R : List Sx.Loc} {v : Option SV} {os : List (Nat × Option SO)} {k : Nat}
theorem zlu {α : Type} {pv : α -> List PV} {s : Nat} {x : SV} {f : List α -> RT} (h : (zmk pv s x f).Runs gt go R v os k) : ∃ y R', (f y).Runs gt go R' v os k := by
 unfold zmk at h
 split at h
 . cases h with
   | rO h =>
     dsimp only at h
     split at h
     . exact zaN h
     . cases h
 . cases h
theorem zhp {p : Nat} {f : AS -> RT} (h : (zkW p f).Runs gt go R v os k) : ∃ x R', (f x).Runs gt go R' v os k := by
 unfold zkW at h
 obtain ⟨_, _, h⟩ := zaR h
 split at h
 . obtain ⟨_, _, h⟩ := zaS h
   obtain ⟨_, _, h⟩ := zaS h
   obtain ⟨_, _, h⟩ := zbn h
   obtain ⟨_, _, h⟩ := zaN h
   obtain ⟨_, _, h⟩ := zlu h
   obtain ⟨_, _, h⟩ := zlu h
   obtain ⟨_, _, h⟩ := zeY h
   obtain ⟨_, _, h⟩ := zeY h
   exact ⟨_, _, h⟩
 . cases h
end
def AS.bank (s : AS) (r : HR) : BK := if r.vec = true then s.v else s.w
def AS.emit (s : AS) (x : HI) (f : Int) : AS := { s with L := s.L ++ [x], fr := s.fr ++ [f] }
def AS.setB (s : AS) (r : HR) (b : BK) : AS := if r.vec = true then { s with v := b } else { s with w := b }
theorem zh5 {s : AS} {r : HR} (h : r.vec = true) : s.bank r = s.v := by unfold AS.bank; rw [if_pos h]
theorem zil {s : AS} {r : HR} (h : ¬ r.vec = true) : s.bank r = s.w := by unfold AS.bank; rw [if_neg h]
end
section
def zDY : MC := .seq (.reg [oo 3 (.box (.t 1)),oo 4 (.mv (.k (.val (.pointer none))))]) (.seq (.seq (.reg [oo 5 (fl 0 3),oo 6 (ln 5)]) (.cond (.t 6) (.seq (.reg [om 7 0,oo 8 (.nchk (.t 7)),oo 9 (fl 6 8),oo 10 (ln 9),om 4 10]) (.ret)) (.skip))) (.seq (.reg [om 11 0,oo 12 (.nchk (.t 11)),oo 13 (fl 5 12),oo 14 (ln 13),om 4 14]) (.ret)))
theorem zAt : zan Tryz.prog 121 15 zDY [.t 4] := fk Tryz.func121 ⟨tv,⟨⟨tv,⟨⟨tv,tv⟩,tv⟩⟩,⟨tv,tv⟩⟩⟩
def zEa : MC := .seq (.reg [oo 4 (.box (.t 1))]) (.drw [om 6 0,om 7 0,om 8 0,oo 9 (.nchk (.t 8)),oo 10 (fl 3 9),oo 11 (fl 0 10),oo 12 (ln 11),oo 13 (ls 15 4),oo 14 (.bsl 15 1 zI [(0,(.t 13))]),oo 15 (.app 15 96 (.t 12) (.t 14)),om 16 0,oo 17 (.nchk (.t 16)),oo 18 (fl 3 17),oo 19 (fl 1 18),oo 20 (ln 19),om 21 2,oo 22 (.bsl 1 1 [(kz 0)] [(0,(.t 21))]),oo 23 (.app 1 8 (.t 20) (.t 22)),oo 24 (.nchk (.t 6)),oo 25 (fl 3 24),oo 26 (fl 0 25),o none (.st (some 1) (.t 26) (.t 15)),oo 27 (.nchk (.t 7)),oo 28 (fl 3 27),oo 29 (fl 1 28),o none (.st (some 1) (.t 29) (.t 23))] [[],[],[],[2],[3],[4],[5],[],[7],[6,8],[],[10],[11],[12],[13],[],[15],[14,16,9],[0,0,2,3,4,5,6,7,8,9,14,17],[18,0,2,3,4,5,6,7,8,9,14,17],[19,0,2,3,4,5,6,7,8,9,14,17],[20,9,17,0,2,3,4,5,6,7,8,9,14,17],[1,0,1,2,3,4,5,6,7,8,9,10,11,12,13,14,15,16,17,18,19,20,21],[22,0,1,2,3,4,5,6,7,8,9,10,11,12,13,14,15,16,17,18,19,20,21],[23,0,1,2,3,4,5,6,7,8,9,10,11,12,13,14,15,16,17,18,19,20,21],[24,17,21,0,1,2,3,4,5,6,7,8,9,10,11,12,13,14,15,16,17,18,19,20,21]])
theorem zEg : zan Tryz.prog 125 30 zEa [] := fk Tryz.func125 ⟨tv,tv⟩
def zIA : MC := .seq (.reg [oo 5 (.box (.t 1))]) (.seq (.reg [om 13 0,oo 14 (ls 2 5),oo 15 (fc 121 [(.t 13),(.t 14)]),om 8 15]) (.seq (.seq (.drw [om 17 8,oo 18 (.nchk (.t 17)),oo 19 (fl 3 18),oo 20 (ln 19),oo 21 (fl 1 5),oo 22 (ln 21),oo 23 (.lkp true true [.int .i64] true [.int .i64 0] (.t 20) (.t 22)),om 16 23,oo 24 (ex_ 0 16),oo 25 (ex_ 1 16),om 9 24,om 10 25] [[],[0],[1],[2],[],[4],[3,5],[6],[7],[7],[8,0,1,2,3,4,5,6,7,8],[9,10,0,1,2,3,4,5,6,7,8,9,10]]) (.seq (.reg [om 26 10]) (.cond (.t 26) (.ret) (.skip)))) (.seq (.reg [om 27 0,om 28 8,om 29 2,om 30 3,oo 31 (fc 123 [(.t 27),(.t 28),(.t 29),(.t 30)]),om 11 31]) (.seq (.reg [oo 12 (.mv (ki 43))]) (.seq (.seq (.reg [om 32 8,oo 33 (.nchk (.t 32)),oo 34 (fl 0 33),oo 35 (ln 34)]) (.cond (.t 35) (.reg [oo 12 (.mv (ki 45))]) (.skip))) (.seq (.drw [om 36 0,om 37 12,om 38 11,om 39 8,oo 40 (.nchk (.t 39)),oo 41 (fl 4 40),oo 42 (ln 41),oo 43 (fl 1 5),oo 44 (ln 43),oo 45 (.lkp false true [.int .i64] true [.int .i64 0] (.t 42) (.t 44)),oo 46 (.bld zI [(0,1,(.t 37)),(4,1,(.t 38)),(8,1,(.t 45))]),oo 47 (fc 125 [(.t 36),(.t 46),(ki (-1))])] [[],[],[],[],[3],[4],[5],[],[7],[6,8],[1,2,9],[0,10]]) (.reg [om 48 8,om 49 11,oo 50 (fl 1 5),oo 51 (ln 50),oo 52 (fc 124 [(.t 48),(.t 49),(.t 51)])])))))))
theorem zKp : zan Tryz.prog 120 53 zIA [] := fk Tryz.func120 ⟨tv,⟨tv,⟨⟨tv,⟨tv,⟨tv,tv⟩⟩⟩,⟨tv,⟨tv,⟨⟨tv,⟨tv,tv⟩⟩,⟨tv,tv⟩⟩⟩⟩⟩⟩⟩
attribute [local irreducible] Go.Sx.zak Go.Sx.zay Go.Sx.zam Go.Sx.za3 zbQ BK.top
noncomputable def ztB (s : AS) (r : HR) : zaa := ⟨[.ptr 0 0 0, .agg r.cells], [.row [.mp 1, .mp 2, .rd (.sl 15 (List.map HI.pv (s).code)), .slc 3 0 (s).L.length, .slc 4 0 (s).fr.length, .ptr 5 0 0, .ptr 6 0 0], .map MTS (s).us none, .map MTS (s).ds none, .vec 15 (List.map HI.pv (s).L), .vec 1 (List.map ipv (s).fr), .row [.bool (s).w.vec, .mp 7, .mp 8, .mp 9, .mp 10, .mp 11], .row [.bool (s).v.vec, .mp 12, .mp 13, .mp 14, .mp 15, .mp 16], .map MIB (s).w.free none, .map MII (s).w.holds none, .map MII (s).w.at_ none, .map MII (s).w.slot none, .map MIB (s).w.slots none, .map MIB (s).v.free none, .map MII (s).v.holds none, .map MII (s).v.at_ none, .map MII (s).v.slot none, .map MIB (s).v.slots none], [some (.row [.mp 1, .mp 2, .rd (.sl 15 (List.map HI.pv (s).code)), .slc 3 0 (s).L.length, .slc 4 0 (s).fr.length, .ptr 5 0 0, .ptr 6 0 0]), some (.map MTS (s).us none), some (.map MTS (s).ds none), some (.vec 15 (List.map HI.pv (s).L)), some (.vec 1 (List.map ipv (s).fr)), some (.row [.bool (s).w.vec, .mp 7, .mp 8, .mp 9, .mp 10, .mp 11]), some (.row [.bool (s).v.vec, .mp 12, .mp 13, .mp 14, .mp 15, .mp 16]), some (.map MIB (s).w.free none), some (.map MII (s).w.holds none), some (.map MII (s).w.at_ none), some (.map MII (s).w.slot none), some (.map MIB (s).w.slots none), some (.map MIB (s).v.free none), some (.map MII (s).v.holds none), some (.map MII (s).v.at_ none), some (.map MII (s).v.slot none), some (.map MIB (s).v.slots none)], [], .ptr 6 0 0⟩
set_option maxHeartbeats 2000000 in
theorem zCf (s : AS) (r : HR) (hv : r.vec = true) : zaa.ok Tryz.prog GG 121 (ztB s r) := by
 refine zac mix zAt _ rfl rfl (Tab.ok (l := []) trivial) noL noJ ?_
 repeat' ((conv => whnf); first
  | exact trivial
  | with_reducible first | refine aj ?_ | refine ai rfl ?_ | refine ai ⟨rfl, rfl⟩ ?_
  | ((with_reducible refine ai ?_ ?_); focus exact w3)
  | ((with_reducible intro h); first | exact absurd h hv | exact absurd hv h | exact absurd (h.symm.trans hv) (by decide))
  | with_reducible first | refine And.intro ?_ ?_ | refine zae ?_ | refine exI (i64_in (by omega) (by omega)) ?_
  | refine exI (x := ULift.up _) (Eq.refl _) ?_
  | refine exI (x := ULift.up _) ⟨rfl, by omega, Eq.refl _⟩ ?_
  | exact nx
  | ((with_reducible intro h); try dsimp only at h))
 all_goals (refine Sd.mk ?_)
noncomputable def ztx (s : AS) (r : HR) : zaa := ⟨[.ptr 0 0 0, .agg r.cells], [.row [.mp 1, .mp 2, .rd (.sl 15 (List.map HI.pv (s).code)), .slc 3 0 (s).L.length, .slc 4 0 (s).fr.length, .ptr 5 0 0, .ptr 6 0 0], .map MTS (s).us none, .map MTS (s).ds none, .vec 15 (List.map HI.pv (s).L), .vec 1 (List.map ipv (s).fr), .row [.bool (s).w.vec, .mp 7, .mp 8, .mp 9, .mp 10, .mp 11], .row [.bool (s).v.vec, .mp 12, .mp 13, .mp 14, .mp 15, .mp 16], .map MIB (s).w.free none, .map MII (s).w.holds none, .map MII (s).w.at_ none, .map MII (s).w.slot none, .map MIB (s).w.slots none, .map MIB (s).v.free none, .map MII (s).v.holds none, .map MII (s).v.at_ none, .map MII (s).v.slot none, .map MIB (s).v.slots none], [some (.row [.mp 1, .mp 2, .rd (.sl 15 (List.map HI.pv (s).code)), .slc 3 0 (s).L.length, .slc 4 0 (s).fr.length, .ptr 5 0 0, .ptr 6 0 0]), some (.map MTS (s).us none), some (.map MTS (s).ds none), some (.vec 15 (List.map HI.pv (s).L)), some (.vec 1 (List.map ipv (s).fr)), some (.row [.bool (s).w.vec, .mp 7, .mp 8, .mp 9, .mp 10, .mp 11]), some (.row [.bool (s).v.vec, .mp 12, .mp 13, .mp 14, .mp 15, .mp 16]), some (.map MIB (s).w.free none), some (.map MII (s).w.holds none), some (.map MII (s).w.at_ none), some (.map MII (s).w.slot none), some (.map MIB (s).w.slots none), some (.map MIB (s).v.free none), some (.map MII (s).v.holds none), some (.map MII (s).v.at_ none), some (.map MII (s).v.slot none), some (.map MIB (s).v.slots none)], [], .ptr 5 0 0⟩
set_option maxHeartbeats 2000000 in
theorem zBk (s : AS) (r : HR) (hv : ¬ r.vec = true) : zaa.ok Tryz.prog GG 121 (ztx s r) := by
 refine zac mix zAt _ rfl rfl (Tab.ok (l := []) trivial) noL noJ ?_
 repeat' ((conv => whnf); first
  | exact trivial
  | with_reducible first | refine aj ?_ | refine ai rfl ?_ | refine ai ⟨rfl, rfl⟩ ?_
  | ((with_reducible refine ai ?_ ?_); focus exact w3)
  | ((with_reducible intro h); first | exact absurd h hv | exact absurd hv h | exact absurd (h.symm.trans hv) (by decide))
  | with_reducible first | refine And.intro ?_ ?_ | refine zae ?_ | refine exI (i64_in (by omega) (by omega)) ?_
  | refine exI (x := ULift.up _) (Eq.refl _) ?_
  | refine exI (x := ULift.up _) ⟨rfl, by omega, Eq.refl _⟩ ?_
  | exact nx
  | ((with_reducible intro h); try dsimp only at h))
 all_goals (refine Sd.mk ?_)
noncomputable def zpi : SFn
 | [.ptr p _ _, a1], k => zkW p fun s => zf0 a1 fun r => .split (r.vec = true) (k (ztB s r)) (k (ztx s r))
 | _, _ => .fail
theorem zAY : FnS Tryz.prog GG 121 zpi := by
 intro args k gt go R v os n h
 unfold zpi at h
 split at h
 . obtain ⟨s, _, h⟩ := zhp h
   obtain ⟨r, _, h⟩ := zdd h
   cases h with
   | left hp h => exact ⟨_, _, zCf s r hp, h⟩
   | right hp h => exact ⟨_, _, zBk s r hp, h⟩
 . cases h
theorem zKj {s : AS} {r : HR} (hv : (zay MII r.n (s.bank r).at_).isSome = true) (h : r.vec = true) (h2 : (zay MII r.n s.v.at_).isSome = false) : False := by
 rw [zh5 h, h2] at hv; cases hv
theorem zJs {s : AS} {r : HR} (hv : (zay MII r.n (s.bank r).at_).isSome = true) (h : ¬ r.vec = true) (h2 : (zay MII r.n s.w.at_).isSome = false) : False := by
 rw [zil h, h2] at hv; cases hv
theorem zIy {s : AS} {X : List (List SV)} (h : s.L.length <= 1000000) (hX : X.length = 1) : (zai.len (Sum.inr (List.map HI.pv s.L)) + zai.len (Sum.inl X)) * 96 <= 2 ^ 46 := by
 simp only [zai.len, List.length_map, hX] at *; omega
theorem zI5 {s : AS} {X : List (List SV)} (h : s.fr.length <= 1000000) (hX : X.length = 1) : (zai.len (Sum.inr (List.map ipv s.fr)) + zai.len (Sum.inl X)) * 8 <= 2 ^ 46 := by
 simp only [zai.len, List.length_map, hX] at *; omega
theorem zFi {s : AS} {x : HI} {f : Int} {X : List (List SV)} (hX : X.length = 1) : 0 = 0 /\ (s.emit x f).L.length = zai.len (Sum.inr (List.map HI.pv s.L)) + zai.len (Sum.inl X) := by
 simp [zai.len, hX, AS.emit]
theorem zJR {s : AS} {x : HI} {f : Int} {X : List (List SV)} (hX : X.length = 1) : 0 = 0 /\ (s.emit x f).fr.length = zai.len (Sum.inr (List.map ipv s.fr)) + zai.len (Sum.inl X) := by
 simp [zai.len, hX, AS.emit]
theorem zEx {s : AS} {x : HI} {f : Int} : 15 = 15 /\ List.map HI.pv (s.emit x f).L = List.map HI.pv s.L ++ [HI.pv x] := ⟨rfl, by simp [AS.emit]⟩
theorem zEJ {s : AS} {x : HI} {f : Int} : 1 = 1 /\ List.map ipv (s.emit x f).fr = List.map ipv s.fr ++ [[PV.int IntKind.i64 f]] := ⟨rfl, by simp [AS.emit, ipv]⟩
noncomputable def zwt (s : AS) (x : HI) (f : Int) : zaa := ⟨[.ptr 0 0 0, .agg x.cells, kz f], [.row [.mp 1, .mp 2, .rd (.sl 15 (List.map HI.pv (s).code)), .slc 3 0 (s).L.length, .slc 4 0 (s).fr.length, .ptr 5 0 0, .ptr 6 0 0], .map MTS (s).us none, .map MTS (s).ds none, .vec 15 (List.map HI.pv (s).L), .vec 1 (List.map ipv (s).fr), .row [.bool (s).w.vec, .mp 7, .mp 8, .mp 9, .mp 10, .mp 11], .row [.bool (s).v.vec, .mp 12, .mp 13, .mp 14, .mp 15, .mp 16], .map MIB (s).w.free none, .map MII (s).w.holds none, .map MII (s).w.at_ none, .map MII (s).w.slot none, .map MIB (s).w.slots none, .map MIB (s).v.free none, .map MII (s).v.holds none, .map MII (s).v.at_ none, .map MII (s).v.slot none, .map MIB (s).v.slots none], [some (.row [.mp 1, .mp 2, .rd (.sl 15 (List.map HI.pv (s.emit x f).code)), .slc 17 0 (s.emit x f).L.length, .slc 18 0 (s.emit x f).fr.length, .ptr 5 0 0, .ptr 6 0 0]), some (.map MTS (s.emit x f).us none), some (.map MTS (s.emit x f).ds none), none, none, some (.row [.bool (s.emit x f).w.vec, .mp 7, .mp 8, .mp 9, .mp 10, .mp 11]), some (.row [.bool (s.emit x f).v.vec, .mp 12, .mp 13, .mp 14, .mp 15, .mp 16]), some (.map MIB (s.emit x f).w.free none), some (.map MII (s.emit x f).w.holds none), some (.map MII (s.emit x f).w.at_ none), some (.map MII (s.emit x f).w.slot none), some (.map MIB (s.emit x f).w.slots none), some (.map MIB (s.emit x f).v.free none), some (.map MII (s.emit x f).v.holds none), some (.map MII (s.emit x f).v.at_ none), some (.map MII (s.emit x f).v.slot none), some (.map MIB (s.emit x f).v.slots none)], [.vec 15 (List.map HI.pv (s.emit x f).L), .vec 1 (List.map ipv (s.emit x f).fr)], .tup []⟩
set_option maxHeartbeats 4000000 in
theorem zE1 (s : AS) (x : HI) (f : Int) (h1 : s.L.length <= 1000000) (h2 : s.fr.length <= 1000000) : zaa.ok Tryz.prog GG 125 (zwt s x f) := by
 refine zac mix zEg _ rfl rfl (Tab.ok (l := []) trivial) noL noJ ?_
 repeat' ((conv => whnf); first
  | exact trivial
  | with_reducible first | refine aj ?_ | refine ai rfl ?_ | refine ai ⟨rfl, rfl⟩ ?_
  | ((with_reducible refine ai ?_ ?_); focus exact w3)
  | with_reducible first | refine And.intro ?_ ?_ | refine zae ?_ | refine exI (i64_in (by omega) (by omega)) ?_
  | refine exI (x := ULift.up _) (Eq.refl _) ?_
  | refine exI (x := ULift.up _) ⟨rfl, by omega, Eq.refl _⟩ ?_
  | exact nx
  | ((with_reducible intro h); try dsimp only at h))
 all_goals (refine Sd.mk ?_)
 all_goals first
  | exact zIy h1 rfl
  | exact zI5 h2 rfl
  | exact zFi rfl
  | exact zJR rfl
  | exact zEx
  | exact zEJ
  | exact ⟨rfl, by rw [List.length_map]⟩
noncomputable def zo8 : SFn
 | [.ptr p _ _, a1, .int .i64 f], k => zkW p fun s => zdp a1 fun x => .req (s.L.length <= 1000000 /\ s.fr.length <= 1000000) (k (zwt s x f))
 | _, _ => .fail
theorem zAh : FnS Tryz.prog GG 125 zo8 := by
 intro args k gt go R v os n h
 unfold zo8 at h
 split at h
 . obtain ⟨s, _, h⟩ := zhp h
   obtain ⟨x, _, h⟩ := zbt h
   obtain ⟨hp, _, h⟩ := zar h
   exact ⟨_, _, zE1 s x _ hp.1 hp.2, h⟩
 . cases h
noncomputable def zyG (s : AS) (r : HR) (i : Int) : zaa := ⟨[.ptr 0 0 0, .agg r.cells, kz i, .any], [.row [.mp 1, .mp 2, .rd (.sl 15 (List.map HI.pv (s).code)), .slc 3 0 (s).L.length, .slc 4 0 (s).fr.length, .ptr 5 0 0, .ptr 6 0 0], .map MTS (s).us none, .map MTS (s).ds none, .vec 15 (List.map HI.pv (s).L), .vec 1 (List.map ipv (s).fr), .row [.bool (s).w.vec, .mp 7, .mp 8, .mp 9, .mp 10, .mp 11], .row [.bool (s).v.vec, .mp 12, .mp 13, .mp 14, .mp 15, .mp 16], .map MIB (s).w.free none, .map MII (s).w.holds none, .map MII (s).w.at_ none, .map MII (s).w.slot none, .map MIB (s).w.slots none, .map MIB (s).v.free none, .map MII (s).v.holds none, .map MII (s).v.at_ none, .map MII (s).v.slot none, .map MIB (s).v.slots none], [some (.row [.mp 1, .mp 2, .rd (.sl 15 (List.map HI.pv (s).code)), .slc 3 0 (s).L.length, .slc 4 0 (s).fr.length, .ptr 5 0 0, .ptr 6 0 0]), some (.map MTS (s).us none), some (.map MTS (s).ds none), some (.vec 15 (List.map HI.pv (s).L)), some (.vec 1 (List.map ipv (s).fr)), some (.row [.bool (s).w.vec, .mp 7, .mp 8, .mp 9, .mp 10, .mp 11]), some (.row [.bool (s).v.vec, .mp 12, .mp 13, .mp 14, .mp 15, .mp 16]), some (.map MIB (s).w.free none), some (.map MII (s).w.holds none), some (.map MII (s).w.at_ none), some (.map MII (s).w.slot none), some (.map MIB (s).w.slots none), some (.map MIB (s).v.free none), some (.map MII (s).v.holds none), some (.map MII (s).v.at_ none), some (.map MII (s).v.slot none), some (.map MIB (s).v.slots none)], [], .tup []⟩
set_option maxHeartbeats 4000000 in
theorem zJK (s : AS) (r : HR) (i : Int) (hv : (zay MII r.n (s.bank r).at_).isSome = true) : zaa.ok Tryz.prog GG 120 (zyG s r i) := by
 refine zac mix zKp _ rfl rfl (Tab.ok (l := [(121, zpi), (123, zoW), (124, zpM), (125, zo8)]) ⟨zAY, zyQ, zx0, zAh, trivial⟩) noL noJ ?_
 repeat' ((conv => whnf); first
  | exact trivial
  | with_reducible first | refine aj ?_ | refine ai rfl ?_ | refine ai ⟨rfl, rfl⟩ ?_
  | ((with_reducible refine ai ?_ ?_); focus exact w3)
  | refine And.intro (Sd.mk (p := zaj.one MII = _ /\ _) ⟨rfl, rfl⟩) ?_
  | refine And.intro (Sd.mk (p := zaj.vone MII = _ /\ _) ⟨rfl, rfl⟩) ?_
  | refine And.intro (Sd.mk (p := zaj.one MIB = _ /\ _) ⟨rfl, rfl⟩) ?_
  | refine And.intro (Sd.mk (p := zaj.vone MIB = _ /\ _) ⟨rfl, rfl⟩) ?_
  | apply exI (x := (ULift.up (_ : Bool) : ULift.{1} Bool)) trivial
  | apply exI (x := (ULift.up (_ : Int) : ULift.{1} Int)) trivial
  | ((with_reducible intro h); first | exact (zKj hv (by with_reducible assumption) h).elim | exact (zJs hv (by with_reducible assumption) h).elim)
  | with_reducible first | refine And.intro ?_ ?_ | refine zae ?_ | refine exI (i64_in (by omega) (by omega)) ?_
  | refine exI (x := ULift.up _) (Eq.refl _) ?_
  | refine exI (x := ULift.up _) ⟨rfl, by omega, Eq.refl _⟩ ?_
  | exact nx
  | ((with_reducible intro h); try dsimp only at h))
 all_goals (refine Sd.mk ?_)
noncomputable def zq8 : SFn
 | [.ptr p _ _, a1, .int .i64 i, _], k => zkW p fun s => zf0 a1 fun r => .req ((zay MII r.n (s.bank r).at_).isSome = true) (k (zyG s r i))
 | _, _ => .fail
theorem zFH : FnS Tryz.prog GG 120 zq8 := by
 intro args k gt go R v os n h
 unfold zq8 at h
 split at h
 . obtain ⟨s, _, h⟩ := zhp h
   obtain ⟨r, _, h⟩ := zdd h
   obtain ⟨hp, _, h⟩ := zar h
   exact ⟨_, _, zJK s r _ hp, h⟩
 . cases h
end
section
def c97 : MC := .seq (.reg [oo 4 (.mv (ki 0))]) (.seq (.seq (.reg [om 6 0,oo 7 (.lenS (.t 6)),oo 8 (.mv (ki 0))]) (.blk 0 (.loop 0 (.seq (.reg [oo 9 (ct .lss 8 7)]) (.seq (.cond (.t 9) (.skip) (.exit 0)) (.seq (.blk 1 (.seq (.reg [om 10 8,om 5 10]) (.seq (.reg [om 11 1,om 12 0,om 13 5,oo 14 (ia 2 12 13),oo 15 (ls 2 14),oo 16 (.call (.t 11) [(.t 15)])]) (.cond (.t 16) (.seq (.reg [om 17 5,om 4 17]) (.ret)) (.skip))))) (.reg [oo 18 (ac .add 8 1),om 8 18]))))))) (.seq (.reg [oo 4 (.mv (ki (-1)))]) (.ret)))
theorem k97 : zan Tryz.prog 97 19 c97 [.t 4] := fk Tryz.func97 ⟨tv,⟨⟨tv,⟨tv,⟨⟨tv,tv⟩,⟨⟨tv,⟨tv,⟨⟨tv,tv⟩,tv⟩⟩⟩,tv⟩⟩⟩⟩,⟨tv,tv⟩⟩⟩
attribute [local irreducible] Go.Sx.zak Go.Sx.zay zbq
def zjw (us ds : TM) : Prop := ∀ r, okT r us /\ okT r ds
def ddF (us ds : TM) (i : Int) (r : HR) : Bool := decide (zbq us ds r i < 0)
def zcI (p : HR -> Bool) : List HR -> Int -> Int
 | [], _ => -1
 | x :: r, i => if p x = true then i else zcI p r (i + 1)
def zCh (L : List HR) (us ds : TM) (i : Int) (j : Int) : St := ⟨[(8, kz j), (7, kz L.length), (1, .fn (.func 54) [] [.ptr 1 0 0, .ptr 2 0 0]), (0, .slc 0 0 L.length)],
 [(0, some (.vec 2 (L.map HR.pv))), (1, some (.row [.mp 3, .mp 4])), (2, some (.row [kz i])), (3, some (.map MTS us none)), (4, some (.map MTS ds none))], 5⟩
def I97 (L : List HR) (us ds : TM) (i : Int) (j : Int) : Prop := 0 <= j /\ j <= L.length /\ L.length <= 1000000 /\ zcI (ddF us ds i) (L.drop j.toNat) j = zcI (ddF us ds i) L 0
theorem zGJ {L us ds i} (h : L.length <= 1000000) : I97 L us ds i 0 := ⟨by omega, by omega, h, rfl⟩
theorem zCC {L us ds i j} (hI : I97 L us ds i j) (h : j < L.length) : 0 <= j /\ j < L.length := ⟨hI.1, h⟩
theorem zxZ {L us ds i j} (hI : I97 L us ds i j) (h : j < L.length) (e : decide (zbq us ds (nth L j) i < 0) = true) : zcI (ddF us ds i) L 0 = j := by
 obtain ⟨h1, h2, h3, h4⟩ := hI
 rw [zaF L j ⟨h1, h⟩, zcI, if_pos (show ddF us ds i (nth L j) = true from e)] at h4
 exact h4.symm
theorem zBy {L us ds i j} (hI : I97 L us ds i j) (h : j < L.length) (e : decide (zbq us ds (nth L j) i < 0) = false) : I97 L us ds i (j + 1) /\ ((L.length : Int) - (j + 1)).toNat < ((L.length : Int) - j).toNat := by
 obtain ⟨h1, h2, h3, h4⟩ := hI
 rw [zaF L j ⟨h1, h⟩, zcI, if_neg (by rw [show ddF us ds i (nth L j) = false from e]; decide)] at h4
 exact ⟨⟨by omega, by omega, h3, h4⟩, by omega⟩
theorem zv9 {L us ds i j} (hI : I97 L us ds i j) (h : ¬ j < L.length) : zcI (ddF us ds i) L 0 = -1 := by
 obtain ⟨h1, h2, h3, h4⟩ := hI
 rw [List.drop_eq_nil_of_le (by omega)] at h4
 exact h4.symm
noncomputable def L97 (L : List HR) (us : TM) (ds : TM) (i : Int) : zaa := ⟨[.slc 0 0 L.length, .fn (.func 54) [] [.ptr 1 0 0, .ptr 2 0 0]], [.vec 2 (L.map HR.pv), .row [.mp 3, .mp 4], .row [kz i], .map MTS us none, .map MTS ds none], [some (.vec 2 (L.map HR.pv)), some (.row [.mp 3, .mp 4]), some (.row [kz i]), some (.map MTS us none), some (.map MTS ds none)], [], kz (zcI (ddF us ds i) L 0)⟩
set_option maxHeartbeats 2000000 in
theorem s97 (L : List HR) (us : TM) (ds : TM) (i : Int) (hp : zjw us ds) (hl : L.length <= 1000000) : zaa.ok Tryz.prog GG 97 (L97 L us ds i) := by
 refine zac mix k97 _ rfl rfl (Tab.ok (l := [(54, S54)]) ⟨t54, trivial⟩) (fun _ => .inv Int (fun _ => I97 L us ds i) (zCh L us ds i) (fun j => ((L.length : Int) - j).toNat)) noJ ?_
 repeat' ((conv => whnf); first
  | exact trivial
  | with_reducible first | refine aj ?_ | refine ai rfl ?_ | refine ai ⟨rfl, rfl⟩ ?_
  | ((with_reducible refine ai ?_ ?_); focus exact w3)
  | with_reducible first | apply exW (γ := Int) (c := _) | refine exI (i64_in (by simp only [I97, List.length_map] at *; omega) (by simp only [I97, List.length_map] at *; omega)) ?_
  | refine exI (x := MTS) trivial ?_
  | with_reducible refine And.intro (Sd.mk (p := okT _ _ /\ okT _ _) (hp _)) ?_
  | refine exI (x := ULift.up _) (za8 _ _ _ (by simp only [I97, List.length_map] at *; omega)) ?_
  | refine exI (x := ULift.up _) ⟨rfl, (by simp only [I97, List.length_map] at *; omega), zbc _ _ _ (by simp only [I97, List.length_map] at *; omega)⟩ ?_
  | with_reducible first | refine And.intro ?_ ?_ | refine zae ?_ | refine exI (i64_in (by omega) (by omega)) ?_
  | refine exI (x := ULift.up _) (Eq.refl _) ?_
  | refine exI (x := ULift.up _) ⟨rfl, by omega, Eq.refl _⟩ ?_
  | exact nx
  | ((with_reducible intro h); try dsimp only at h))
 all_goals (refine Sd.mk ?_)
 all_goals (try simp only [HR.eta] at *)
 all_goals first
  | exact zGJ hl
  | exact hp _
  | exact zCC ‹_› ‹_›
  | exact zxZ ‹_› ‹_› ‹_›
  | exact zBy ‹_› ‹_› ‹_›
  | exact zv9 ‹_› ‹_›
noncomputable def S97 : SFn
 | [.slc o 0 _, .fn (.func 54) [] [.ptr p _ _, .ptr q _ _]], k => .rO o fun oo => match oo with
   | some (.vec 2 LL) => asL HR.pv LL fun L => zbk p fun rp => zbk q fun rq => match rp, rq with
     | .agg [.mp u, .mp d], .agg [.int .i64 i] => zbl MTS u fun us => zbl MTS d fun ds => .req (zjw us ds) (.req (L.length <= 1000000) (k (L97 L us ds i)))
     | _, _ => .fail
   | _ => .fail
 | _, _ => .fail
theorem t97 : FnS Tryz.prog GG 97 S97 := by
 intro args k gt go R v os n h
 unfold S97 at h
 split at h
 . cases h with
   | rO h =>
     dsimp only at h
     split at h
     . obtain ⟨L, _, h⟩ := zaN h
       obtain ⟨_, _, h⟩ := zaR h
       obtain ⟨_, _, h⟩ := zaR h
       split at h
       . obtain ⟨us, _, h⟩ := zaS h
         obtain ⟨ds, _, h⟩ := zaS h
         obtain ⟨hp, _, h⟩ := zar h
         obtain ⟨hl, _, h⟩ := zar h
         exact ⟨_, _, s97 L us ds _ hp hl, h⟩
       . cases h
     . cases h
 . cases h
end
section
def eqQ (a b : HR) : Prop := (a.vec = true ↔ b.vec = true) /\ a.n = b.n /\ True
theorem zok (a b : HR) : eqQ a b ↔ a = b := by
 cases a; cases b
 simp only [eqQ, HR.mk.injEq, and_true]
 rw [<- Bool.eq_iff_iff]
def zFZ (s : AS) (r : HR) : Prop := (zay MII r.n (s.bank r).at_).isSome = true
def zdy (s : AS) (r : HR) : Int := zak MII r.n (s.bank r).at_
def zfD (s : AS) (r : HR) : AS := s.setB r ((s.bank r).forget r.n)
def zeM (i : Int) (x : HI) (s : AS) (r : HR) : AS := if zbq s.us s.ds r (i + 1) < 0 \/ ((zag x).2 = true /\ r = (zag x).1) then zfD s r else s
def zhd (s : AS) (i : Int) (x : HI) : AS := (zaf x).foldl (zeM i x) s
def zfX (s : AS) (x : HI) : BK := (s.bank (zag x).1).forget (zag x).1.n
def zna (s : AS) (x : HI) : AS := s.setB (zag x).1 ((zfX s x).put (zfX s x).top (zag x).1.n)
def znE (s : AS) (i : Int) (x : HI) : AS × Int := if (zag x).2 = true then (zna (zhd s i x) x, (zfX (zhd s i x) x).top) else (zhd s i x, 0)
def emS (s : AS) (i : Int) (x : HI) : AS := (znE s i x).1.emit (zdh x (znE s i x).2 ((zaf x).map (zdy s))).1 i
def zbm (s : AS) (i : Int) : AS := if (zag (nth s.code i)).2 = true /\ zbq s.us s.ds (zag (nth s.code i)).1 (i + 1) < 0 then zfD (emS s i (nth s.code i)) (zag (nth s.code i)).1 else emS s i (nth s.code i)
def zgY (b : BK) : Prop := (K1I b.free).Nodup /\ b.free.length <= 12 /\ b.free ≠ []
structure zfc (s : AS) (i : Int) : Prop where
 i0 : 0 <= i
 i1 : i < s.code.length
 c : s.code.length <= 4000
 u : zjw s.us s.ds
 p : ∀ r ∈ zaf (nth s.code i), zFZ s r
 t : (zag (nth s.code i)).2 = true -> zgY (zfX (zhd s i (nth s.code i)) (nth s.code i))
 L : s.L.length <= 1000000
 f : s.fr.length <= 1000000
theorem zk9 {s : AS} {r : HR} (h : r.vec = true) : zfD s r = { s with v := s.v.forget r.n } := by unfold zfD AS.setB; rw [if_pos h, zh5 h]
theorem zlk {s : AS} {r : HR} (h : ¬ r.vec = true) : zfD s r = { s with w := s.w.forget r.n } := by unfold zfD AS.setB; rw [if_neg h, zil h]
theorem zA3 {i : Int} {x : HI} {s : AS} {r : HR} (h : zbq s.us s.ds r (i + 1) < 0) : zeM i x s r = zfD s r := by unfold zeM; rw [if_pos (.inl h)]
theorem zAR {i : Int} {x : HI} {s : AS} {r : HR} (h : (zag x).2 = true) (h2 : eqQ r (zag x).1) : zeM i x s r = zfD s r := by unfold zeM; rw [if_pos (.inr ⟨h, (zok _ _).1 h2⟩)]
theorem zGV {i : Int} {x : HI} {s : AS} {r : HR} (h : ¬ zbq s.us s.ds r (i + 1) < 0) (h2 : (zag x).2 = false) : zeM i x s r = s := by
 unfold zeM; rw [if_neg]; rintro (e | e)
 . exact h e
 . rw [h2] at e; cases e.1
theorem zEE {i : Int} {x : HI} {s : AS} {r : HR} (h : ¬ zbq s.us s.ds r (i + 1) < 0) (h2 : ¬ eqQ r (zag x).1) : zeM i x s r = s := by
 unfold zeM; rw [if_neg]; rintro (e | e)
 . exact h e
 . exact h2 ((zok _ _).2 e.2)
theorem zxv {s : AS} {x : HI} (h : (zag x).1.vec = true) : zna s x = { s with v := (s.v.forget (zag x).1.n).put (s.v.forget (zag x).1.n).top (zag x).1.n } := by unfold zna AS.setB zfX; rw [if_pos h, zh5 h]
theorem zwz {s : AS} {x : HI} (h : ¬ (zag x).1.vec = true) : zna s x = { s with w := (s.w.forget (zag x).1.n).put (s.w.forget (zag x).1.n).top (zag x).1.n } := by unfold zna AS.setB zfX; rw [if_neg h, zil h]
theorem zp7 {s : AS} {x : HI} (h : (zag x).1.vec = true) : zfX s x = s.v.forget (zag x).1.n := by unfold zfX; rw [zh5 h]
theorem zp6 {s : AS} {x : HI} (h : ¬ (zag x).1.vec = true) : zfX s x = s.w.forget (zag x).1.n := by unfold zfX; rw [zil h]
theorem zv2 {s : AS} {r : HR} (h : r.vec = true) : zdy s r = zak MII r.n s.v.at_ := by unfold zdy; rw [zh5 h]
theorem zuE {s : AS} {r : HR} (h : ¬ r.vec = true) : zdy s r = zak MII r.n s.w.at_ := by unfold zdy; rw [zil h]
abbrev MBM : zaj := ⟨Bool, BM, inferInstance, true, [.bool], fun b => [.bool b], fun _ => rfl, fun a b h => by simpa using h, true, fun _ => [], []⟩
abbrev KM := List (Bool × BM)
abbrev zrW : BM -> Sub := fun es => .map MIB es
def zjr (es : KM) : Prop := ∀ b : Bool, (zay MBM b es).isSome = true
theorem zwI {a b : BM} : zjr (zam MBM true b (zam MBM false a [])) := fun k => by cases k <;> rfl
theorem zsP {es : KM} {k : Bool} {x : BM} (h : zjr es) : zjr (zam MBM k x es) := fun b => by
 by_cases e : b = k
 . subst e; rw [zd6]; rfl
 . rw [zeW e]; exact h b
end
section
def c74 : MC := .seq (.reg [om 22 0,oo 23 (.nchk (.t 22)),oo 24 (fl 2 23),oo 25 (ln 24),om 26 1,oo 27 (ia 15 25 26),oo 28 (ls 15 27),oo 4 (.alloc zI),o none (.st (some 15) (.t 4) (.t 28))]) (.seq (.reg [oo 29 (ls 15 4),oo 30 (fc 34 [(.t 29)]),om 5 30]) (.seq (.reg [oo 31 (.mkm),oo 32 (.mkm),o none (.mup true [.bool] (.t 31) kf (.t 32)),oo 33 (.mkm),o none (.mup true [.bool] (.t 31) kt (.t 33)),om 34 31,om 6 34]) (.seq (.seq (.reg [om 35 5,oo 36 (.lenS (.t 35)),oo 37 (.mv (ki 0))]) (.blk 0 (.loop 0 (.seq (.reg [oo 38 (ct .lss 37 36)]) (.seq (.cond (.t 38) (.skip) (.exit 0)) (.seq (.blk 1 (.seq (.reg [oo 39 (ia 2 35 37),oo 40 (ls 2 39),oo 8 (.alloc [.ff,(kz 0)]),o none (.st (some 2) (.t 8) (.t 40))]) (.reg [om 41 6,oo 42 (fl 0 8),oo 43 (ln 42),oo 44 (.lkp false true [.bool] true [.val (.map none)] (.t 41) (.t 43)),oo 45 (fl 1 8),oo 46 (ln 45),o none (.mup true [.int .i64] (.t 44) (.t 46) kt)]))) (.gh (.putc 19) (.reg [oo 47 (ac .add 37 1),om 37 47])))))))) (.seq (.reg [oo 9 (.mv (.k (.val (.slice none 0 0))))]) (.seq (.seq (.reg [om 48 5,oo 49 (.lenS (.t 48)),oo 50 (.mv (ki 0))]) (.blk 2 (.loop 1 (.seq (.reg [oo 51 (ct .lss 50 49)]) (.seq (.cond (.t 51) (.skip) (.exit 2)) (.seq (.blk 3 (.seq (.reg [oo 52 (ia 2 48 50),oo 53 (ls 2 52),oo 11 (.alloc [.ff,(kz 0)]),o none (.st (some 2) (.t 11) (.t 53))]) (.reg [om 54 0,oo 55 (ls 2 11),om 56 1,om 57 6,oo 58 (fl 0 11),oo 59 (ln 58),oo 60 (.lkp false true [.bool] true [.val (.map none)] (.t 57) (.t 59)),oo 61 (fc 120 [(.t 54),(.t 55),(.t 56),(.t 60)])]))) (.gh (.putb 19) (.reg [oo 62 (ac .add 50 1),om 50 62])))))))) (.seq (.seq (.reg [om 63 5,oo 64 (.lenS (.t 63)),oo 65 (.mv (ki 0))]) (.blk 4 (.loop 2 (.seq (.reg [oo 66 (ct .lss 65 64)]) (.seq (.cond (.t 66) (.skip) (.exit 4)) (.seq (.blk 5 (.seq (.reg [oo 67 (ia 2 63 65),oo 68 (ls 2 67),oo 13 (.alloc [.ff,(kz 0)]),o none (.st (some 2) (.t 13) (.t 68))]) (.drw [om 69 9,om 70 0,oo 71 (ls 2 13),oo 72 (fc 121 [(.t 70),(.t 71)]),oo 73 (.nchk (.t 72)),oo 74 (fl 3 73),oo 75 (ln 74),oo 76 (fl 1 13),oo 77 (ln 76),oo 78 (.lkp false true [.int .i64] true [.int .i64 0] (.t 75) (.t 77)),oo 79 (.bsl 1 1 [(kz 0)] [(0,(.t 78))]),oo 80 (.app 1 8 (.t 69) (.t 79)),om 9 80] [[],[],[],[1,2],[3],[4],[5],[],[7],[6,8],[9],[0,10,3],[11,11,0,1,2,3,4,5,6,7,8,9,10,11]]))) (.reg [oo 81 (ac .add 65 1),om 65 81]))))))) (.seq (.reg [oo 83 (ls 15 4),oo 84 (fc 33 [(.t 83)]),om 82 84,oo 85 (ex_ 0 82),oo 86 (ex_ 1 82),oo 14 (.alloc [.ff,(kz 0)]),o none (.st (some 2) (.t 14) (.t 85)),om 15 86]) (.seq (.seq (.reg [om 87 5,oo 88 (.lenS (.t 87)),oo 89 (.mv (ki 0))]) (.blk 6 (.loop 3 (.seq (.reg [oo 90 (ct .lss 89 88)]) (.seq (.cond (.t 90) (.skip) (.exit 6)) (.seq (.blk 7 (.seq (.reg [oo 91 (ia 2 87 89),oo 92 (ls 2 91),oo 17 (.alloc [.ff,(kz 0)]),o none (.st (some 2) (.t 17) (.t 92))]) (.seq (.drw [om 93 0,oo 94 (.nchk (.t 93)),oo 95 (fl 0 94),oo 96 (ls 2 95),oo 97 (ls 2 17),om 98 1,oo 99 (ac .add 98 1),oo 100 (fc 55 [(.t 96),(.t 97),(.t 99)]),oo 101 (cc .lss 100 0),sm 102 101,mf 102 103 15,ogs 102 false (some 104) (.mv (.t 103)),gt_ 104 105 (ls 2 17),gt_ 104 106 (ls 2 14),gt_ 104 107 (.eqs [.bool,.int .i64] false (.t 105) (.t 106)),gf 102 108 (pf 104 107),oo 109 (pt 102 108)] [[],[0],[1],[2],[],[],[5],[3,4,6],[7],[8,7],[9],[10,9,9],[11],[11],[12,13,11],[11,14,9],[9,15]])
 (.cond (.t 109) (.drw [om 110 0,oo 111 (ls 2 17),oo 112 (fc 121 [(.t 110),(.t 111)]),oo 113 (fl 1 17),oo 114 (ln 113),oo 115 (fc 122 [(.t 112),(.t 114)])] [[],[],[0,1],[],[3],[2,4,2]]) (.skip))))) (.reg [oo 116 (ac .add 89 1),om 89 116]))))))) (.seq (.reg [oo 18 (.mv (ki 0))]) (.seq (.seq (.reg [om 117 15]) (.cond (.t 117) (.seq (.reg [om 118 0,oo 119 (ls 2 14),oo 120 (fc 121 [(.t 118),(.t 119)]),om 19 120]) (.seq (.reg [om 121 19,oo 122 (fl 1 14),oo 123 (ln 122),oo 124 (fc 122 [(.t 121),(.t 123)])]) (.seq (.reg [om 125 0,om 126 19,om 127 1,oo 128 (ac .add 127 1),oo 129 (fc 123 [(.t 125),(.t 126),(.t 128),(.k (.val (.map none)))]),om 18 129]) (.reg [om 130 19,om 131 18,oo 132 (fl 1 14),oo 133 (ln 132),oo 134 (fc 124 [(.t 130),(.t 131),(.t 133)])])))) (.skip))) (.seq (.reg [oo 136 (ls 15 4),om 137 18,om 138 9,oo 139 (fc 38 [(.t 136),(.t 137),(.t 138)]),om 135 139,oo 140 (ex_ 0 135),oo 141 (ex_ 1 135),oo 20 (.alloc zI),o none (.st (some 15) (.t 20) (.t 140)),om 21 141]) (.seq (.reg [om 142 0,oo 143 (ls 15 20),om 144 1,oo 145 (fc 125 [(.t 142),(.t 143),(.t 144)])]) (.seq (.drw [om 146 15,sm 147 146,mt 147 148 0,gt_ 147 149 (.nchk (.t 148)),gt_ 147 150 (fl 0 149),gt_ 147 151 (ls 2 150),gt_ 147 152 (ls 2 14),mt 147 153 1,gt_ 147 154 (ac .add 153 1),gt_ 147 155 (fc 55 [(.t 151),(.t 152),(.t 154)]),gt_ 147 156 (cc .lss 155 0),oo 157 (pf 147 156)] [[],[0],[1],[2,1],[3,1],[4,1],[1],[1],[7,1],[5,6,8,1,1],[9,1],[1,10]]) (.cond (.t 157) (.drw [om 158 0,oo 159 (ls 2 14),oo 160 (fc 121 [(.t 158),(.t 159)]),oo 161 (fl 1 14),oo 162 (ln 161),oo 163 (fc 122 [(.t 160),(.t 162)])] [[],[],[0,1],[],[3],[2,4,2]]) (.skip)))))))))))))))
theorem k74 : zan Tryz.prog 74 164 c74 [] := fk Tryz.func74 ⟨tv,⟨tv,⟨tv,⟨⟨tv,⟨tv,⟨⟨tv,tv⟩,⟨⟨tv,tv⟩,tv⟩⟩⟩⟩,⟨tv,⟨⟨tv,⟨tv,⟨⟨tv,tv⟩,⟨⟨tv,tv⟩,tv⟩⟩⟩⟩,⟨⟨tv,⟨tv,⟨⟨tv,tv⟩,⟨⟨tv,tv⟩,tv⟩⟩⟩⟩,⟨tv,⟨⟨tv,⟨tv,⟨⟨tv,tv⟩,⟨⟨tv,⟨tv,⟨tv,tv⟩⟩⟩,tv⟩⟩⟩⟩,⟨tv,⟨⟨tv,⟨⟨tv,⟨tv,⟨tv,tv⟩⟩⟩,tv⟩⟩,⟨tv,⟨tv,⟨tv,⟨tv,tv⟩⟩⟩⟩⟩⟩⟩⟩⟩⟩⟩⟩⟩⟩⟩
attribute [local irreducible] Go.Sx.zak Go.Sx.zay Go.Sx.zam Go.Sx.za3 zbQ BK.top BK.forget BK.put zaf zag zdh zbq
abbrev X74 (s : AS) (i : Int) : HI := nth s.code i
abbrev U74 (s : AS) (i : Int) : List HR := zaf (nth s.code i)
abbrev n74 (s : AS) (i : Int) : List Int := (U74 s i).map (zdy s)
abbrev zoD (s : AS) (w v : BK) : List (Nat × Option SO) := [(0, some (.row [.mp 1, .mp 2, .rd (.sl 15 (List.map HI.pv (s).code)), .slc 3 0 (s).L.length, .slc 4 0 (s).fr.length, .ptr 5 0 0, .ptr 6 0 0])), (1, some (.map MTS (s).us none)), (2, some (.map MTS (s).ds none)), (3, some (.vec 15 (List.map HI.pv (s).L))), (4, some (.vec 1 (List.map ipv (s).fr))), (5, some (.row [.bool w.vec, .mp 7, .mp 8, .mp 9, .mp 10, .mp 11])), (6, some (.row [.bool v.vec, .mp 12, .mp 13, .mp 14, .mp 15, .mp 16])), (7, some (.map MIB w.free none)), (8, some (.map MII w.holds none)), (9, some (.map MII w.at_ none)), (10, some (.map MII w.slot none)), (11, some (.map MIB w.slots none)), (12, some (.map MIB v.free none)), (13, some (.map MII v.holds none)), (14, some (.map MII v.at_ none)), (15, some (.map MII v.slot none)), (16, some (.map MIB v.slots none))]
abbrev zjL := Int × KM
abbrev zmJ := BK × BK × Int
abbrev wv (s : AS) (w v : BK) : AS := ⟨s.us, s.ds, s.code, s.L, s.fr, w, v⟩
def zzA (s : AS) (i : Int) : zjL -> St
 | (j, es) => ⟨[(37, kz j), (36, kz (U74 s i).length), (35, .slc 18 0 (U74 s i).length), (6, .mp 19), (5, .slc 18 0 (U74 s i).length), (4, .ptr 17 0 0), (1, kz i), (0, .ptr 0 0 0)],
    zoD s s.w s.v ++ [(17, some (.row (X74 s i).cells)), (18, some (.vec 2 (List.map HR.pv (U74 s i)))), (19, some (.fam MBM zrW es none))], 20⟩
def zwF (s : AS) (i : Int) : zjL -> St
 | (j, es) => ⟨[(50, kz j), (49, kz (U74 s i).length), (48, .slc 18 0 (U74 s i).length), (9, .val (.slice none 0 0)), (6, .mp 19), (5, .slc 18 0 (U74 s i).length), (4, .ptr 17 0 0), (1, kz i), (0, .ptr 0 0 0)],
    zoD s s.w s.v ++ [(17, some (.row (X74 s i).cells)), (18, some (.vec 2 (List.map HR.pv (U74 s i)))), (19, some (.fam MBM zrW es none))], 20⟩
def zyC (s : AS) (i : Int) (j : Int) : St :=
 ⟨[(65, kz j), (64, kz (U74 s i).length), (63, .slc 18 0 (U74 s i).length), (9, .slc 19 0 j.toNat), (5, .slc 18 0 (U74 s i).length), (4, .ptr 17 0 0), (1, kz i), (0, .ptr 0 0 0)],
    zoD s s.w s.v ++ [(17, some (.row (X74 s i).cells)), (18, some (.vec 2 (List.map HR.pv (U74 s i)))), (19, some (.vec 1 (List.map ipv (List.map (zdy s) (List.take j.toNat (U74 s i))))))], 20⟩
def zzs (s : AS) (i : Int) : zmJ -> St
 | (w, v, j) => ⟨[(89, kz j), (88, kz (U74 s i).length), (87, .slc 18 0 (U74 s i).length), (15, .bool (zag (X74 s i)).2), (14, .ptr 20 0 0), (9, .slc 19 0 (U74 s i).length), (4, .ptr 17 0 0), (1, kz i), (0, .ptr 0 0 0)],
    zoD s w v ++ [(17, some (.row (X74 s i).cells)), (18, some (.vec 2 (List.map HR.pv (U74 s i)))), (19, some (.vec 1 (List.map ipv (n74 s i)))), (20, some (.row (zag (X74 s i)).1.cells))], 21⟩
def zcN (s : AS) (i : Int) : zjL -> Prop
 | (j, es) => 0 <= j /\ j <= (U74 s i).length /\ (U74 s i).length <= 3 /\ zjr es
def zdg (s : AS) (i : Int) (j : Int) : Prop := 0 <= j /\ j <= (U74 s i).length /\ (U74 s i).length <= 3
def zcD (s : AS) (i : Int) : zmJ -> Prop
 | (w, v, j) => 0 <= j /\ j <= (U74 s i).length /\ (U74 s i).length <= 3 /\ ((U74 s i).drop j.toNat).foldl (zeM i (X74 s i)) (wv s w v) = zhd s i (X74 s i)
def zHc (s : AS) (i : Int) : Nat -> zbO
 | 0 => .inv zjL (fun _ => zcN s i) (zzA s i) (fun c => ((U74 s i).length - c.1).toNat)
 | 1 => .inv zjL (fun _ => zcN s i) (zwF s i) (fun c => ((U74 s i).length - c.1).toNat)
 | 2 => .inv Int (fun _ => zdg s i) (zyC s i) (fun c => ((U74 s i).length - c).toNat)
 | _ => .inv zmJ (fun _ => zcD s i) (zzs s i) (fun c => ((U74 s i).length - c.2.2).toNat)
theorem zwu {s : AS} {i : Int} {Q : zjL -> Prop} (h : ∀ j es, zcN s i (j, es) -> Q (j, es)) : ∀ c, zcN s i c -> Q c := fun ⟨_, _⟩ hI => h _ _ hI
theorem zA7 {s : AS} {i : Int} {Q : zmJ -> Prop} (h : ∀ w v j, zcD s i (w, v, j) -> Q (w, v, j)) : ∀ c, zcD s i c -> Q c := fun ⟨_, _, _⟩ hI => h _ _ _ hI
theorem zuX {κ : Type} {k : κ} : zfd (none : Option (κ × Nat × Option Nat)) k := fun _ _ _ e => by cases e
theorem zFU {s : AS} {i : Int} {es : KM} (h : zjr es) : zcN s i (0, es) := ⟨by omega, by omega, zbA _, h⟩
theorem ztv {s : AS} {i j : Int} {es es' : KM} (h : zcN s i (j, es)) (hj : j < (U74 s i).length) (hb : zjr es -> zjr es') : zcN s i (j + 1, es') /\ (((U74 s i).length : Int) - (j + 1)).toNat < (((U74 s i).length : Int) - j).toNat :=
 ⟨⟨by have := h.1; omega, by omega, h.2.2.1, hb h.2.2.2⟩, by have := h.1; omega⟩
theorem zDW {s : AS} {i j : Int} {es : KM} (h : zcN s i (j, es)) : zcN s i (0, es) := ⟨by omega, by omega, h.2.2.1, h.2.2.2⟩
theorem zAv {s : AS} {i j : Int} {es : KM} {b : Bool} (h : zcN s i (j, es)) : (zay MBM b es).isSome = true := h.2.2.2 b
theorem zJj {s : AS} {i : Int} : zdg s i 0 := ⟨by omega, by omega, zbA _⟩
theorem zBW {s : AS} {i j : Int} (h : zdg s i j) (hj : j < (U74 s i).length) : zdg s i (j + 1) /\ (((U74 s i).length : Int) - (j + 1)).toNat < (((U74 s i).length : Int) - j).toNat :=
 ⟨⟨by have := h.1; omega, by omega, h.2.2⟩, by have := h.1; omega⟩
theorem zFD {s : AS} {i : Int} : zcD s i (s.w, s.v, 0) := ⟨by omega, by omega, zbA _, rfl⟩
theorem ziP {s : AS} {i j : Int} {w v w' v' : BK} (h : zcD s i (w, v, j)) (hj : j < (U74 s i).length) (e : zeM i (X74 s i) (wv s w v) (nth (U74 s i) j) = wv s w' v') :
 zcD s i (w', v', j + 1) /\ (((U74 s i).length : Int) - (j + 1)).toNat < (((U74 s i).length : Int) - j).toNat := by
  obtain ⟨h1, h2, h3, h4⟩ := h
  refine ⟨⟨by omega, by omega, h3, ?_⟩, by omega⟩
  rw [zaF _ _ ⟨h1, hj⟩, List.foldl_cons, e] at h4
  exact h4
theorem zhX {s : AS} {i j : Int} {w v : BK} (h : zcD s i (w, v, j)) (hj : ¬ j < (U74 s i).length) : zhd s i (X74 s i) = wv s w v := by
 obtain ⟨h1, h2, h3, h4⟩ := h
 rw [List.drop_eq_nil_of_le (by omega)] at h4
 exact h4.symm
theorem zud {s : AS} {i : Int} : List.take (U74 s i).length (List.drop 0 (List.map ipv (n74 s i))) = (n74 s i).map ipv := by
 rw [List.drop_zero, List.take_of_length_le (by simp)]
theorem zvq {s : AS} {i j : Int} {es : KM} (hs : zfc s i) (h : zcN s i (j, es)) (hj : j < (U74 s i).length) : (zay MII (nth (U74 s i) j).n (s.bank (nth (U74 s i) j)).at_).isSome = true := hs.p _ (zld _ _ ⟨h.1, hj⟩)
theorem zCz {s : AS} {i : Int} : PV.sl 1 (List.map ipv (n74 s i)) = PV.sl 1 (List.take (U74 s i).length (List.drop 0 (List.map ipv (n74 s i)))) /\ 0 + (U74 s i).length <= (List.map ipv (n74 s i)).length := ⟨by rw [zud], by simp⟩
theorem zsc (x : HI) : zdw x.cells := ⟨trivial, trivial, trivial, trivial, trivial, trivial, trivial, trivial, trivial, trivial, trivial, trivial, trivial, trivial, trivial, trivial⟩
theorem zGd {s : AS} {i j : Int} (h : zdg s i j) : 0 = 0 /\ j.toNat = (List.map ipv (List.map (zdy s) (List.take j.toNat (U74 s i)))).length := by
 obtain ⟨h1, h2, _⟩ := h
 refine ⟨rfl, ?_⟩
 rw [List.length_map, List.length_map, List.length_take]; omega
theorem zJl {s : AS} {i j : Int} {X : List (List SV)} (h : zdg s i j) (hX : X.length = 1) : (zai.len (Sum.inr (List.map ipv (List.map (zdy s) (List.take j.toNat (U74 s i))))) + zai.len (Sum.inl X)) * 8 <= 2 ^ 46 := by
 obtain ⟨h1, h2, h3⟩ := h
 simp only [zai.len, List.length_map, List.length_take, hX] at *; omega
theorem zEo {s : AS} {i j : Int} {X : List (List SV)} (h : zdg s i j) (hj : j < (U74 s i).length) (hX : X.length = 1) : 0 = 0 /\ (j + 1).toNat = zai.len (Sum.inr (List.map ipv (List.map (zdy s) (List.take j.toNat (U74 s i))))) + zai.len (Sum.inl X) := by
 obtain ⟨h1, h2, h3⟩ := h
 simp only [zai.len, List.length_map, List.length_take, hX, true_and] at *; omega
theorem zwA {s : AS} {i j y : Int} (h : zdg s i j) (hj : j < (U74 s i).length) (e : zdy s (nth (U74 s i) j) = y) : 1 = 1 /\ List.map ipv (List.map (zdy s) (List.take (j + 1).toNat (U74 s i))) = List.map ipv (List.map (zdy s) (List.take j.toNat (U74 s i))) ++ [[PV.int IntKind.i64 y]] := by
 refine ⟨rfl, ?_⟩
 rw [zdL _ j ⟨h.1, hj⟩, List.map_append, List.map_append, <- e]; rfl
theorem zI2 {s : AS} {i j : Int} (h : zdg s i j) (hj : ¬ j < (U74 s i).length) : 0 = 0 /\ (U74 s i).length = j.toNat := by
 obtain ⟨h1, h2, h3⟩ := h
 exact ⟨rfl, by omega⟩
theorem zFS {s : AS} {i j : Int} (h : zdg s i j) (hj : ¬ j < (U74 s i).length) : 1 = 1 /\ List.map ipv (n74 s i) = List.map ipv (List.map (zdy s) (List.take j.toNat (U74 s i))) := by
 obtain ⟨h1, h2, h3⟩ := h
 rw [List.take_of_length_le (by omega)]
 exact ⟨rfl, rfl⟩
theorem zFa {s : AS} {i j : Int} {w v : BK} (hs : zfc s i) (h : zcD s i (w, v, j)) (hj : ¬ j < (U74 s i).length) (hd : (zag (X74 s i)).2 = true) (hv : (zag (X74 s i)).1.vec = true) : zgY (v.forget (zag (X74 s i)).1.n) := by
 have := hs.t hd
 rw [zhX h hj, zp7 hv] at this
 exact this
theorem zHv {s : AS} {i j : Int} {w v : BK} (hs : zfc s i) (h : zcD s i (w, v, j)) (hj : ¬ j < (U74 s i).length) (hd : (zag (X74 s i)).2 = true) (hv : ¬ (zag (X74 s i)).1.vec = true) : zgY (w.forget (zag (X74 s i)).1.n) := by
 have := hs.t hd
 rw [zhX h hj, zp6 hv] at this
 exact this
theorem zIf {s : AS} {i j : Int} {w v : BK} (h : zcD s i (w, v, j)) (hj : ¬ j < (U74 s i).length) (hd : (zag (X74 s i)).2 = false) : zbm s i = (wv s w v).emit (zdh (X74 s i) 0 (n74 s i)).1 i := by
 unfold zbm emS znE
 rw [if_neg (by rw [hd]; rintro ⟨e, _⟩; cases e), if_neg (by rw [hd]; decide), zhX h hj]
theorem zx3 {s : AS} {i j : Int} {w v : BK} (h : zcD s i (w, v, j)) (hj : ¬ j < (U74 s i).length) (hd : (zag (X74 s i)).2 = true) (hv : (zag (X74 s i)).1.vec = true) :
 emS s i (X74 s i) = (wv s w ((v.forget (zag (X74 s i)).1.n).put (v.forget (zag (X74 s i)).1.n).top (zag (X74 s i)).1.n)).emit (zdh (X74 s i) (v.forget (zag (X74 s i)).1.n).top (n74 s i)).1 i := by
  unfold emS znE
  rw [if_pos hd, zhX h hj, zxv hv, zp7 hv]
theorem zt0 {s : AS} {i j : Int} {w v : BK} (h : zcD s i (w, v, j)) (hj : ¬ j < (U74 s i).length) (hd : (zag (X74 s i)).2 = true) (hv : ¬ (zag (X74 s i)).1.vec = true) :
 emS s i (X74 s i) = (wv s ((w.forget (zag (X74 s i)).1.n).put (w.forget (zag (X74 s i)).1.n).top (zag (X74 s i)).1.n) v).emit (zdh (X74 s i) (w.forget (zag (X74 s i)).1.n).top (n74 s i)).1 i := by
  unfold emS znE
  rw [if_pos hd, zhX h hj, zwz hv, zp6 hv]
theorem zzp {s : AS} {i : Int} (hd : (zag (X74 s i)).2 = true) (hn : ¬ zbq s.us s.ds (zag (X74 s i)).1 (i + 1) < 0) : zbm s i = emS s i (X74 s i) := by
 unfold zbm; rw [if_neg (fun e => hn e.2)]
theorem zzy {s : AS} {i : Int} (hd : (zag (X74 s i)).2 = true) (hn : zbq s.us s.ds (zag (X74 s i)).1 (i + 1) < 0) : zbm s i = zfD (emS s i (X74 s i)) (zag (X74 s i)).1 := by
 unfold zbm; rw [if_pos ⟨hd, hn⟩]
noncomputable def L74 (s : AS) (i : Int) : zaa := ⟨[.ptr 0 0 0, kz i], [.row [.mp 1, .mp 2, .rd (.sl 15 (List.map HI.pv (s).code)), .slc 3 0 (s).L.length, .slc 4 0 (s).fr.length, .ptr 5 0 0, .ptr 6 0 0], .map MTS (s).us none, .map MTS (s).ds none, .vec 15 (List.map HI.pv (s).L), .vec 1 (List.map ipv (s).fr), .row [.bool (s).w.vec, .mp 7, .mp 8, .mp 9, .mp 10, .mp 11], .row [.bool (s).v.vec, .mp 12, .mp 13, .mp 14, .mp 15, .mp 16], .map MIB (s).w.free none, .map MII (s).w.holds none, .map MII (s).w.at_ none, .map MII (s).w.slot none, .map MIB (s).w.slots none, .map MIB (s).v.free none, .map MII (s).v.holds none, .map MII (s).v.at_ none, .map MII (s).v.slot none, .map MIB (s).v.slots none], [some (.row [.mp 1, .mp 2, .rd (.sl 15 (List.map HI.pv (zbm s i).code)), .slc 17 0 (zbm s i).L.length, .slc 18 0 (zbm s i).fr.length, .ptr 5 0 0, .ptr 6 0 0]), some (.map MTS (zbm s i).us none), some (.map MTS (zbm s i).ds none), none, none, some (.row [.bool (zbm s i).w.vec, .mp 7, .mp 8, .mp 9, .mp 10, .mp 11]), some (.row [.bool (zbm s i).v.vec, .mp 12, .mp 13, .mp 14, .mp 15, .mp 16]), some (.map MIB (zbm s i).w.free none), some (.map MII (zbm s i).w.holds none), some (.map MII (zbm s i).w.at_ none), some (.map MII (zbm s i).w.slot none), some (.map MIB (zbm s i).w.slots none), some (.map MIB (zbm s i).v.free none), some (.map MII (zbm s i).v.holds none), some (.map MII (zbm s i).v.at_ none), some (.map MII (zbm s i).v.slot none), some (.map MIB (zbm s i).v.slots none)], [.vec 15 (List.map HI.pv (zbm s i).L), .vec 1 (List.map ipv (zbm s i).fr)], .tup []⟩
set_option maxHeartbeats 20000000 in
theorem s74 (s : AS) (i : Int) (hs : zfc s i) : zaa.ok Tryz.prog GG 74 (L74 s i) := by
 refine zac mix k74 _ rfl rfl (Tab.ok (l := [(34, S34), (33, S33), (38, S38), (55, S55), (120, zq8), (121, zpi), (122, zq1), (123, zoW), (124, zpM), (125, zo8)]) ⟨t34, t33, t38, t55, zFH, zAY, zFW, zyQ, zx0, zAh, trivial⟩) (zHc s i) noJ ?_
 repeat' ((conv => whnf); first
  | exact trivial
  | with_reducible first | refine aj ?_ | refine ai rfl ?_ | refine ai ⟨rfl, rfl⟩ ?_
  | ((with_reducible refine ai ?_ ?_); focus exact w3)
  | refine exI (x := ULift.up _) ⟨rfl, (by have := hs.i0; have := hs.i1; have := hs.c; (try simp only [zcN, zdg, zcD, List.length_map] at *); omega), zbc _ _ _ (by have := hs.i0; have := hs.i1; have := hs.c; (try simp only [zcN, zdg, zcD, List.length_map] at *); omega)⟩ ?_
  | with_reducible first | refine And.intro ?_ ?_ | refine zae ?_ | refine exI (i64_in (by omega) (by omega)) ?_
  | refine exI (x := ULift.up _) (Eq.refl _) ?_
  | refine exI (x := ULift.up _) ⟨rfl, by omega, Eq.refl _⟩ ?_
  | exact nx
  | ((with_reducible intro h); try dsimp only at h))
 any_goals ((conv => whnf); refine exI (x := MBM) trivial ?_)
 repeat' ((conv => whnf); first
  | exact trivial
  | with_reducible first | refine aj ?_ | refine ai rfl ?_ | refine ai ⟨rfl, rfl⟩ ?_
  | ((with_reducible refine ai ?_ ?_); focus exact w3)
  | refine And.intro (Sd.mk (p := zaj.one MII = _ /\ _) ⟨rfl, rfl⟩) ?_
  | refine And.intro (Sd.mk (p := zaj.vone MII = _ /\ _) ⟨rfl, rfl⟩) ?_
  | refine And.intro (Sd.mk (p := zaj.one MIB = _ /\ _) ⟨rfl, rfl⟩) ?_
  | refine And.intro (Sd.mk (p := zaj.vone MIB = _ /\ _) ⟨rfl, rfl⟩) ?_
  | apply exI (x := (ULift.up (_ : Bool) : ULift.{1} Bool)) trivial
  | apply exI (x := (ULift.up (_ : Int) : ULift.{1} Int)) trivial
  | with_reducible first | refine zwu ?_ | refine zA7 ?_ | apply exW (γ := zjL) (c := (_, _)) | apply exW (γ := Int) (c := _) | apply exW (γ := zmJ) (c := (⟨_, _, _, _, _, _⟩, ⟨_, _, _, _, _, _⟩, _)) | refine exI (x := MIB) trivial ?_ | refine exI (x := zrW) trivial ?_ | refine And.intro (Sd.mk zuX) ?_ | refine And.intro (Sd.mk hole_yes) ?_ | refine And.intro (Sd.mk (p := zaj.one MBM = _ /\ _) ⟨rfl, rfl⟩) ?_
  | apply exI (x := (ULift.up (_ : Bool) : ULift.{1} Bool)) trivial
  | apply exI (x := (ULift.up (_ : BM) : ULift.{1} BM)) trivial
  | with_reducible refine And.intro (Sd.mk (p := Option.isSome _ = true) (zAv (by with_reducible assumption))) ?_
  | refine Exists.intro _ (And.intro (Sd.mk ⟨zAv (by with_reducible assumption), rfl, fun _ _ h => h⟩) ?_)
  | with_reducible refine exI (i64_in (by have := hs.i0; have := hs.i1; have := hs.c; (try simp only [zcN, zdg, zcD, List.length_map] at *); omega) (by have := hs.i0; have := hs.i1; have := hs.c; (try simp only [zcN, zdg, zcD, List.length_map] at *); omega)) ?_
  | refine exI (x := ULift.up _) (za8 _ _ _ (by have := hs.i0; have := hs.i1; have := hs.c; (try simp only [zcN, zdg, zcD, List.length_map] at *); omega)) ?_
  | refine exI (x := ULift.up _) ⟨rfl, (by have := hs.i0; have := hs.i1; have := hs.c; (try simp only [zcN, zdg, zcD, List.length_map] at *); omega), zbc _ _ _ (by have := hs.i0; have := hs.i1; have := hs.c; (try simp only [zcN, zdg, zcD, List.length_map] at *); omega)⟩ ?_
  | refine exI (x := ULift.up (n74 s i)) zud ?_
  | refine And.intro (Sd.mk (p := Option.isSome _ = true) (hs.p _ (zld _ _ (by have := hs.i0; have := hs.i1; have := hs.c; (try simp only [zcN, zdg, zcD, List.length_map] at *); omega)))) ?_
  | with_reducible refine And.intro (Sd.mk (p := okT _ _ /\ okT _ _) (hs.u _)) ?_
  | refine And.intro (Sd.mk (p := List.Nodup _ /\ _) (zFa hs ‹_› ‹_› ‹_› ‹_›)) ?_
  | refine And.intro (Sd.mk (p := List.Nodup _ /\ _) (zHv hs ‹_› ‹_› ‹_› ‹_›)) ?_
  | refine And.intro (Sd.mk (p := _ <= 1000000 /\ _) ⟨hs.L, hs.f⟩) ?_
  | with_reducible first | refine And.intro (Sd.mk (p := (_ : Int) <= _ /\ _) (by have := hs.i0; have := hs.i1; have := hs.c; (try simp only [zcN, zdg, zcD, List.length_map] at *); omega)) ?_ | refine And.intro ?_ ?_ | refine zae ?_ | refine exI (i64_in (by omega) (by omega)) ?_
  | refine exI (x := ULift.up _) (Eq.refl _) ?_
  | refine exI (x := ULift.up _) ⟨rfl, by omega, Eq.refl _⟩ ?_
  | exact nx
  | ((with_reducible intro h); try dsimp only at h))
 all_goals (refine Sd.mk ?_)
 all_goals first
  | exact zvq hs ‹_› ‹_›
  | exact hs.u _
  | exact zCz
  | exact ⟨⟨zsc _, trivial, trivial⟩, trivial, trivial⟩
  | exact zFU zwI
  | exact zDW ‹_›
  | exact ztv ‹_› ‹_› zsP
  | exact ztv ‹_› ‹_› (fun h => h)
  | exact zJj
  | exact zBW ‹_› ‹_›
  | exact zGd ‹_›
  | exact zJl ‹_› rfl
  | exact zEo ‹_› ‹_› rfl
  | exact zwA ‹_› ‹_› (zv2 ‹_›)
  | exact zwA ‹_› ‹_› (zuE ‹_›)
  | exact zI2 ‹_› ‹_›
  | exact zFS ‹_› ‹_›
  | exact zFD
  | exact ziP ‹_› ‹_› ((zA3 ‹_›).trans (zk9 ‹_›))
  | exact ziP ‹_› ‹_› ((zA3 ‹_›).trans (zlk ‹_›))
  | exact ziP ‹_› ‹_› ((zAR ‹_› ‹_›).trans (zk9 ‹_›))
  | exact ziP ‹_› ‹_› ((zAR ‹_› ‹_›).trans (zlk ‹_›))
  | exact ziP ‹_› ‹_› (zGV ‹_› ‹_›)
  | exact ziP ‹_› ‹_› (zEE ‹_› ‹_›)
  | (rw [zIf (s := s) (i := i) ‹_› ‹_› ‹_›] <;> first | rfl | exact ⟨rfl, rfl⟩)
  | (rw [zzp (s := s) (i := i) ‹_› ‹_›, zx3 (s := s) (i := i) ‹_› ‹_› ‹_› ‹_›] <;> first | rfl | exact ⟨rfl, rfl⟩)
  | (rw [zzy (s := s) (i := i) ‹_› ‹_›, zx3 (s := s) (i := i) ‹_› ‹_› ‹_› ‹_›, zk9 ‹_›] <;> first | rfl | exact ⟨rfl, rfl⟩)
  | (rw [zzp (s := s) (i := i) ‹_› ‹_›, zt0 (s := s) (i := i) ‹_› ‹_› ‹_› ‹_›] <;> first | rfl | exact ⟨rfl, rfl⟩)
  | (rw [zzy (s := s) (i := i) ‹_› ‹_›, zt0 (s := s) (i := i) ‹_› ‹_› ‹_› ‹_›, zlk ‹_›] <;> first | rfl | exact ⟨rfl, rfl⟩)
noncomputable def S74 : SFn
 | [.ptr p _ _, .int .i64 i], k => zkW p fun s => .req (zfc s i) (k (L74 s i))
 | _, _ => .fail
theorem t74 : FnS Tryz.prog GG 74 S74 := by
 intro args k gt go R v os n h
 unfold S74 at h
 split at h
 . obtain ⟨s, _, h⟩ := zhp h
   obtain ⟨hp, _, h⟩ := zar h
   exact ⟨_, _, s74 s _ hp, h⟩
 . cases h
end
section
def c95 : MC := .seq (.reg [oo 1 (.box (.t 0)),oo 2 (.mv (.k (.val .nilFunc)))]) (.seq (.reg [oo 3 (.mkf (.func 140) [] [(.t 1)]),om 2 3]) (.ret))
theorem k95 : zan Tryz.prog 95 4 c95 [.t 2] := fk Tryz.func95 ⟨tv,⟨tv,tv⟩⟩
noncomputable def L95 (es : TM) : zaa := ⟨[.mp 0], [.map MTS es none], [some (.map MTS es none)], [.row [.mp 0]], .fn (.func 140) [] [.ptr 1 0 0]⟩
theorem s95 (es : TM) : zaa.ok Tryz.prog GG 95 (L95 es) := by
 refine zac mix k95 _ rfl rfl (Tab.ok (l := []) trivial) noL noJ ?_
 repeat' ((conv => whnf); first
  | exact trivial
  | with_reducible first | refine aj ?_ | refine ai rfl ?_ | refine ai ⟨rfl, rfl⟩ ?_
  | ((with_reducible refine ai ?_ ?_); focus exact w3)
  | refine exI (x := MTS) trivial ?_
  | with_reducible first | refine And.intro ?_ ?_ | refine zae ?_ | refine exI (i64_in (by omega) (by omega)) ?_
  | refine exI (x := ULift.up _) (Eq.refl _) ?_
  | refine exI (x := ULift.up _) ⟨rfl, by omega, Eq.refl _⟩ ?_
  | exact ny
  | ((with_reducible intro h); try dsimp only at h))
 all_goals (refine Sd.mk ?_)
noncomputable def S95 : SFn
 | [.mp p], k => zbl MTS p fun es => k (L95 es)
 | _, _ => .fail
theorem t95 : FnS Tryz.prog GG 95 S95 := by
 intro args k gt go R v os n h
 unfold S95 at h
 split at h
 . obtain ⟨es, _, h⟩ := zaS h
   exact ⟨_, _, s95 es, h⟩
 . cases h
end
section
theorem zhE (a b : HR) : zaI a b < 0 \/ zaI b a < 0 \/ a = b := by
 obtain ⟨v, n⟩ := a; obtain ⟨w, m⟩ := b
 cases v <;> cases w <;> simp [zaI, zc3] <;> (repeat' split) <;> omega
theorem zcC (a : HR) : ¬ zaI a a < 0 := by
 obtain ⟨v, n⟩ := a
 simp [zaI, zc3]
theorem zbW {a b c : HR} (h : zaI a b < 0) (g : zaI b c < 0) : zaI a c < 0 := by
 obtain ⟨v, n⟩ := a; obtain ⟨w, m⟩ := b; obtain ⟨u, k⟩ := c
 revert h g
 cases v <;> cases w <;> cases u <;> simp [zaI, zc3] <;> (repeat' split) <;> omega
abbrev geR (a b : HR) : Prop := ¬ zaI a b < 0
theorem zh9 {a b c : HR} (h : geR a b) (g : geR b c) : geR a c := by
 intro k
 rcases zhE a b with e | e | e
 . exact h e
 . exact g (zbW e k)
 . subst e; exact g k
theorem zlr (A : List HR) (x : HR) : (zhi A x).Perm (x :: A) := by
 induction A with
 | nil => exact .refl _
 | cons y r ih =>
   unfold zhi; split
   . exact (ih.cons y).trans (.swap x y r)
   . exact .refl _
theorem zup (A : List HR) (x : HR) (h : A.Pairwise geR) : (zhi A x).Pairwise geR := by
 induction A with
 | nil => exact List.pairwise_singleton _ _
 | cons y r ih =>
   rw [List.pairwise_cons] at h
   unfold zhi; split
   . next hc =>
     rw [List.pairwise_cons]
     refine ⟨fun z hz => ?_, ih h.2⟩
     rcases List.mem_cons.1 ((zlr r x).mem_iff.1 hz) with e | e
     . subst e; exact fun k => zcC _ (zbW hc k)
     . exact h.1 z e
   . next hc =>
     rw [List.pairwise_cons]
     refine ⟨fun z hz => ?_, List.pairwise_cons.2 h⟩
     rcases List.mem_cons.1 hz with e | e
     . subst e; exact hc
     . exact zh9 hc (h.1 z e)
theorem ziq (L : List HR) : ∀ A, (L.foldl zhi A).Perm (L ++ A) := by
 induction L with
 | nil => intro A; exact .refl _
 | cons x r ih => intro A; exact (ih (zhi A x)).trans (((zlr A x).append_left r).trans List.perm_middle)
theorem zk8 (L : List HR) : ∀ A, A.Pairwise geR -> (L.foldl zhi A).Pairwise geR := by
 induction L with
 | nil => intro A h; exact h
 | cons x r ih => intro A h; exact ih _ (zup A x h)
theorem zhc (L : List HR) : (zbE L).Perm L := by
 unfold zbE
 exact (List.reverse_perm _).trans (by simpa using ziq L [])
theorem znd {L M : List HR} (h : L.Perm M) : zbE L = zbE M := by
 unfold zbE
 congr 1
 refine List.Perm.eq_of_pairwise (le := geR) ?_ (zk8 L [] List.Pairwise.nil) (zk8 M [] List.Pairwise.nil) ?_
 . intro a b _ _ h1 h2
   rcases zhE a b with e | e | e
   . exact absurd e h1
   . exact absurd e h2
   . exact e
 . exact (ziq L []).trans (((h.append_right [])).trans (ziq M []).symm)
end
section
def zzB : MC := .seq (.reg [oo 4 (ln 1),oo 5 (.rngm (.t 4))]) (.blk 0 (.loop 0 (.seq (.reg [oo 6 (.nxt (.t 5)),oo 7 (ex_ 0 6)]) (.seq (.cond (.t 7) (.skip) (.exit 0)) (.blk 1 (.seq (.reg [oo 8 (.ent (.t 5)),oo 9 (ex_ 0 8),oo 3 (.alloc [.ff,(kz 0)]),o none (.st (some 2) (.t 3) (.t 9))]) (.seq (.reg [om 10 0,oo 11 (ls 2 3),oo 12 (.call (.t 10) [(.t 11)]),oo 13 (.not (.t 12))]) (.cond (.t 13) (.ret) (.skip)))))))))
theorem zwX : zan Tryz.prog 140 14 zzB [] := fk Tryz.func140 ⟨tv,⟨tv,⟨⟨tv,tv⟩,⟨tv,⟨tv,⟨tv,tv⟩⟩⟩⟩⟩⟩
def zD8 : MC := .seq (.reg [oo 2 (.box (.t 0)),oo 4 (.mv (.k (.val (.slice none 0 0))))]) (.seq (.seq (.reg [om 6 1]) (.blk 0 (.rng (.t 6) [7] (.reg [oo 5 (.alloc [.ff,(kz 0)]),o none (.st (some 2) (.t 5) (.t 7))]) (.blk 1 (.reg [oo 8 (ln 2),oo 9 (ls 2 5),oo 10 (.bsl 2 1 [.ff,(kz 0)] [(0,(.t 9))]),oo 11 (.app 2 16 (.t 8) (.t 10)),o none (.st (some 1) (.t 2) (.t 11))])) 140 14 zzB))) (.seq (.reg [oo 12 (ln 2),om 4 12]) (.ret)))
theorem zJ4 : zan Tryz.prog 168 13 zD8 [.t 4] := .of Tryz.func168 (by kernel_rfl) (by kernel_rfl) (by kernel_rfl) (by kernel_rfl) ⟨trivial, ⟨⟨trivial, ⟨trivial, trivial, zwX.it, zwX.its⟩⟩, ⟨trivial, trivial⟩⟩⟩
def zJw : MC := .seq (.reg [oo 2 (.mv (.k (.val (.slice none 0 0))))]) (.seq (.reg [om 3 0,oo 4 (fc 168 [(.k (.val (.slice none 0 0))),(.t 3)]),om 2 4]) (.ret))
theorem zFM : zan Tryz.prog 138 5 zJw [.t 2] := fk Tryz.func138 ⟨tv,⟨tv,tv⟩⟩
def c51 : MC := .seq (.reg [oo 4 (.mv (.k (.val (.slice none 0 0))))]) (.seq (.reg [om 5 0,oo 6 (fc 95 [(.t 5)]),om 7 1,oo 8 (fc 94 [(.t 6),(.t 7)]),om 4 8]) (.ret))
theorem k51 : zan Tryz.prog 51 9 c51 [.t 4] := fk Tryz.func51 ⟨tv,⟨tv,tv⟩⟩
abbrev K1 (es : TM) : List HR := es.map Prod.fst
def prm (K : List HR) (L : List (List PV)) : Prop := ∃ M : List HR, M.Perm K /\ L = M.map HR.pv
abbrev zjG := Nat × Go.Loop × List HR × Option HR × List HR
def zAg (es : TM) : zjG -> St
 | (lp, r, left, cur, acc) => ⟨[(5, .ptr 4 0 0), (0, .fn (.yield lp) [] [])],
    [(0, some (.row [.mp 1])), (1, some (.map MTS es (some (4, left, cur)))), (2, some (.row [.slc 5 0 acc.length])), (3, some (.lrec lp r .ready)), (4, some (.itr 1)), (5, some (.vec 2 (acc.map HR.pv)))], 6⟩
def zfm (es : TM) : zjG -> zjG -> Prop
 | (lp0, r0, _), (lp, r, left, _, acc) => lp = lp0 /\ r = r0 /\ (acc ++ left).Perm (K1 es) /\ (K1 es).Nodup /\ es.length <= 1000000
def zC8 (es : TM) : Nat -> zbO := fun _ => .inv zjG (zfm es) (zAg es) (fun c => c.2.2.1.length)
theorem zyZ {es : TM} {lp r x} {Q : zjG -> Prop} (h : ∀ left cur acc, zfm es (lp, r, x) (lp, r, left, cur, acc) -> Q (lp, r, left, cur, acc)) : ∀ c, zfm es (lp, r, x) c -> Q c := fun ⟨lp', r', left, cur, acc⟩ hI => by
 obtain ⟨h1, h2, h3⟩ := hI
 subst h1; subst h2
 exact h _ _ _ ⟨rfl, rfl, h3⟩
theorem zy1 {es : TM} {lp r x left cur acc} (_ : zfm es (lp, r, x) (lp, r, left, cur, acc)) {k : HR} (_ : k ∈ left) {p q : zjG -> Prop} (h : p (lp, r, zaB MTS k left, some k, acc ++ [k])) (h2 : q (lp, r, zaB MTS k left, some k, acc ++ [k])) : ∃ c, p c /\ q c := ⟨_, h, h2⟩
theorem zn8 {k : HR} : ∀ {l : List HR}, k ∈ l -> l.Nodup -> l.Perm (k :: zaB MTS k l) /\ (zaB MTS k l).length < l.length
 | [], h, _ => by cases h
 | j :: l, h, hn => by
   rw [List.nodup_cons] at hn
   have he : ∀ (l : List HR), k ∉ l -> zaB MTS k l = l := by
    intro l
    induction l with
    | nil => intro _; simp [zaB]
    | cons a l ih =>
      intro hk
      simp only [List.mem_cons, not_or] at hk
      simp only [zaB]
      split
      . next e _ => exact absurd e.symm hk.1
      . rw [ih hk.2]
   simp only [zaB]
   split
   . next e _ =>
     subst e
     rw [he l hn.1]
     exact ⟨.refl _, by simp⟩
   . next e _ =>
     have hk : k ∈ l := by
      rcases List.mem_cons.1 h with h | h
      . exact absurd h.symm e
      . exact h
     obtain ⟨h1, h2⟩ := zn8 hk hn.2
     exact ⟨(h1.cons j).trans (.swap _ _ _), by simpa using h2⟩
attribute [local irreducible] zbE Go.Sx.zaB
theorem zFq {es : TM} {lp r} (h : (K1 es).Nodup) (h2 : es.length <= 1000000) : zfm es (lp, r, K1 es, none, []) (lp, r, K1 es, none, []) := ⟨rfl, rfl, .refl _, h, h2⟩
theorem zBo {es : TM} {lp r x left cur acc} {k : HR} (h : zfm es (lp, r, x) (lp, r, left, cur, acc)) (hk : k ∈ left) : zfm es (lp, r, x) (lp, r, zaB MTS k left, some k, acc ++ [k]) /\ (zaB MTS k left).length < left.length := by
 obtain ⟨_, _, h3, h4, h5⟩ := h
 have hn : left.Nodup := (List.nodup_append.1 (h3.nodup_iff.2 h4)).2.1
 obtain ⟨e1, e2⟩ := zn8 hk hn
 refine ⟨⟨rfl, rfl, ?_, h4, h5⟩, e2⟩
 rw [List.append_assoc]
 exact (e1.symm.append_left acc).trans h3
theorem zqk {es : TM} {lp r x left cur acc} (h : zfm es (lp, r, x) (lp, r, left, cur, acc)) (hk : ∀ p, p ∈ es -> p.1 ∉ left) : acc.Perm (K1 es) := by
 obtain ⟨_, _, h3, h4, h5⟩ := h
 have : left = [] := by
  cases left with
  | nil => rfl
  | cons a l =>
    have ha : a ∈ K1 es := h3.subset (by simp)
    obtain ⟨p, hp, e⟩ := List.mem_map.1 ha
    exact absurd (by rw [<- e] at *; simp) (hk p hp)
 subst this
 simpa using h3
theorem zx1 {es : TM} {lp r x left cur acc} (h : zfm es (lp, r, x) (lp, r, left, cur, acc)) (hk : ∀ p, p ∈ es -> p.1 ∉ left) : es.length = acc.length := by
 have := (zqk h hk).length_eq
 simpa using this.symm
theorem zJf {es : TM} {lp r x left cur acc} {X : List (List SV)} (h : zfm es (lp, r, x) (lp, r, left, cur, acc)) (hX : X.length = 1) : (zai.len (Sum.inr (List.map HR.pv acc)) + zai.len (Sum.inl X)) * 16 <= 2 ^ 46 := by
 obtain ⟨_, _, h3, h4, h5⟩ := h
 have := h3.length_eq
 simp only [zai.len, List.length_map, List.length_append, hX] at *; omega
theorem zEr {acc : List HR} {k : HR} : 2 = 2 /\ List.map HR.pv (acc ++ [k]) = List.map HR.pv acc ++ [[PV.bool k.vec, PV.int IntKind.i64 k.n]] := ⟨rfl, by rw [List.map_append]; rfl⟩
theorem zHw {es : TM} {lp r x left cur acc} (h : zfm es (lp, r, x) (lp, r, left, cur, acc)) (hk : ∀ p, p ∈ es -> p.1 ∉ left) : 2 = 2 /\ prm (K1 es) (List.map HR.pv acc) := ⟨rfl, acc, zqk h hk, rfl⟩
theorem zJm {es : TM} {lp r x left cur acc} (h : zfm es (lp, r, x) (lp, r, left, cur, acc)) (hk : ∀ p, p ∈ es -> p.1 ∉ left) : 0 = 0 /\ es.length = acc.length := ⟨rfl, zx1 h hk⟩
noncomputable def zzJ (es : TM) : zaa := ⟨[.val (.slice none 0 0), .fn (.func 140) [] [.ptr 0 0 0]], [.row [.mp 1], .map MTS es none], [some (.row [.mp 1]), some (.map MTS es none)], [.vex 2 (prm (K1 es))], .slc 2 0 es.length⟩
set_option maxHeartbeats 2000000 in
theorem zD2 (es : TM) (hn : (K1 es).Nodup) (hl : es.length <= 1000000) : zaa.ok Tryz.prog GG 168 (zzJ es) := by
 refine zac mix zJ4 _ rfl rfl (Tab.ok (l := []) trivial) (zC8 es) noJ ?_
 repeat' ((conv => whnf); first
  | exact trivial
  | with_reducible first | refine aj ?_ | refine ai rfl ?_ | refine ai ⟨rfl, rfl⟩ ?_
  | ((with_reducible refine ai ?_ ?_); focus exact w3)
  | with_reducible first | refine zyZ ?_ | refine zy1 (by with_reducible assumption) (by with_reducible assumption) ?_ ?_ | apply exW (γ := zjG) (c := (_, _, K1 es, none, [])) | refine ai ⟨rfl, rfl, rfl⟩ ?_ | refine And.intro ?_ ?_ | refine zae ?_ | refine exI (i64_in (by omega) (by omega)) ?_
  | refine exI (x := ULift.up _) (Eq.refl _) ?_
  | refine exI (x := ULift.up _) ⟨rfl, by omega, Eq.refl _⟩ ?_
  | exact nx
  | ((with_reducible intro h); try dsimp only at h))
 all_goals (refine Sd.mk ?_)
 all_goals first
  | exact zFq hn hl
  | exact zBo ‹_› ‹_›
  | exact ke_a ‹_›
  | exact zJf ‹_› rfl
  | exact ke_c rfl
  | exact zEr
  | exact zHw ‹_› ‹_›
  | exact zJm ‹_› ‹_›
noncomputable def zss : SFn
 | [.val _, .fn (.func 140) [] [.ptr p _ _]], k => zbk p fun rp => match rp with
   | .agg [.mp m] => zbl MTS m fun es => .req ((K1 es).Nodup /\ es.length <= 1000000) (k (zzJ es))
   | _ => .fail
 | _, _ => .fail
theorem zHz : FnS Tryz.prog GG 168 zss := by
 intro args k gt go R v os n h
 unfold zss at h
 split at h
 . obtain ⟨_, _, h⟩ := zaR h
   split at h
   . obtain ⟨es, _, h⟩ := zaS h
     obtain ⟨hp, _, h⟩ := zar h
     exact ⟨_, _, zD2 es hp.1 hp.2, h⟩
   . cases h
 . cases h
noncomputable def zAw (es : TM) : zaa := ⟨[.fn (.func 140) [] [.ptr 0 0 0]], [.row [.mp 1], .map MTS es none], [some (.row [.mp 1]), some (.map MTS es none)], [.vex 2 (prm (K1 es))], .slc 2 0 es.length⟩
theorem zDR (es : TM) (hn : (K1 es).Nodup) (hl : es.length <= 1000000) : zaa.ok Tryz.prog GG 138 (zAw es) := by
 refine zac mix zFM _ rfl rfl (Tab.ok (l := [(168, zss)]) ⟨zHz, trivial⟩) noL noJ ?_
 repeat' ((conv => whnf); first
  | exact trivial
  | with_reducible first | refine aj ?_ | refine ai rfl ?_ | refine ai ⟨rfl, rfl⟩ ?_
  | ((with_reducible refine ai ?_ ?_); focus exact w3)
  | with_reducible first | refine And.intro (Sd.mk (p := List.Nodup _ /\ _) ⟨hn, by omega⟩) ?_ | refine And.intro ?_ ?_ | refine zae ?_ | refine exI (i64_in (by omega) (by omega)) ?_
  | refine exI (x := ULift.up _) (Eq.refl _) ?_
  | refine exI (x := ULift.up _) ⟨rfl, by omega, Eq.refl _⟩ ?_
  | exact ny
  | ((with_reducible intro h); try dsimp only at h))
 all_goals (refine Sd.mk ?_)
 all_goals first
  | exact ⟨rfl, fun _ h => h⟩
noncomputable def zsm : SFn
 | [.fn (.func 140) [] [.ptr p _ _]], k => zbk p fun rp => match rp with
   | .agg [.mp m] => zbl MTS m fun es => .req ((K1 es).Nodup /\ es.length <= 1000000) (k (zAw es))
   | _ => .fail
 | _, _ => .fail
theorem zGH : FnS Tryz.prog GG 138 zsm := by
 intro args k gt go R v os n h
 unfold zsm at h
 split at h
 . obtain ⟨_, _, h⟩ := zaR h
   split at h
   . obtain ⟨es, _, h⟩ := zaS h
     obtain ⟨hp, _, h⟩ := zar h
     exact ⟨_, _, zDR es hp.1 hp.2, h⟩
   . cases h
 . cases h
theorem zCy {es : TM} {M : List HR} (h : M.Perm (K1 es)) : zbE (K1 es) = zbE M := (znd h).symm
theorem zyb {es : TM} {M : List HR} (h : M.Perm (K1 es)) : M.length = es.length := by simpa using h.length_eq
theorem zBY {es : TM} {M : List HR} (h : M.Perm (K1 es)) : 0 = 0 /\ M.length = es.length := ⟨rfl, zyb h⟩
theorem zBL {es : TM} {M : List HR} (h : M.Perm (K1 es)) : 2 = 2 /\ List.map HR.pv (zbE (K1 es)) = List.map HR.pv (zbE M) := by rw [zCy h]; exact ⟨rfl, rfl⟩
end
section
def c53 : MC := .seq (.reg [oo 4 (.mv (.k (.val (.slice none 0 0))))]) (.seq (.reg [om 8 0,om 9 1,oo 10 (fc 97 [(.t 8),(.t 9)]),om 5 10]) (.seq (.seq (.reg [om 11 5,oo 12 (.cmp .eql (.t 11) (ki (-1)))]) (.cond (.t 12) (.seq (.reg [om 13 0,om 4 13]) (.ret)) (.skip))) (.seq (.seq (.reg [om 14 5,oo 15 (ac .add 14 1),om 6 15]) (.blk 0 (.loop 0 (.seq (.seq (.reg [om 16 6,om 17 0,oo 18 (.lenS (.t 17)),oo 19 (ct .lss 16 18)]) (.cond (.t 19) (.skip) (.exit 0))) (.seq (.blk 1 (.seq (.reg [om 22 0,om 23 6,oo 24 (ia 2 22 23),oo 25 (ls 2 24),oo 7 (.alloc [.ff,(kz 0)]),o none (.st (some 2) (.t 7) (.t 25))]) (.seq (.reg [om 26 1,oo 27 (ls 2 7),oo 28 (.call (.t 26) [(.t 27)]),oo 29 (.not (.t 28))]) (.cond (.t 29) (.seq (.reg [om 30 0,om 31 5,oo 32 (ls 2 7),oo 33 (ia 2 30 31),o none (.st (some 2) (.t 33) (.t 32))]) (.reg [om 34 5,oo 35 (ac .add 34 1),om 5 35])) (.skip))))) (.reg [om 20 6,oo 21 (ac .add 20 1),om 6 21])))))) (.seq (.reg [om 36 0,om 37 5,oo 38 (.sls 2 (.t 36) (some (.t 37)) none),o none (.clr 2 [.bool false,.int .i64 0] (.t 38))]) (.seq (.reg [om 39 0,om 40 5,oo 41 (.sls 2 (.t 39) none (some (.t 40))),om 4 41]) (.ret))))))
theorem k53 : zan Tryz.prog 53 42 c53 [.t 4] := fk Tryz.func53 ⟨tv,⟨tv,⟨⟨tv,⟨⟨tv,tv⟩,tv⟩⟩,⟨⟨tv,⟨⟨tv,⟨tv,tv⟩⟩,⟨⟨tv,⟨tv,⟨⟨tv,tv⟩,tv⟩⟩⟩,tv⟩⟩⟩,⟨tv,⟨tv,tv⟩⟩⟩⟩⟩⟩
attribute [local irreducible] Go.Sx.zak Go.Sx.zay zbq
def hr0 : HR := ⟨false, 0⟩
def zcr (us ds : TM) (i : Int) (L : List HR) : List HR := L.filter (fun r => !ddF us ds i r)
def zgI (us ds : TM) (i : Int) (L : List HR) : List HR := zcr us ds i L ++ List.replicate (L.length - (zcr us ds i L).length) hr0
theorem zhA (p : HR -> Bool) : ∀ (L : List HR) (s : Int), (zcI p L s = -1 /\ L.filter (fun r => !p r) = L) \/ ∃ k : Nat, k < L.length /\ zcI p L s = s + k /\ (L.take (k + 1)).filter (fun r => !p r) = L.take k := by
 intro L
 induction L with
 | nil => intro s; exact .inl ⟨rfl, rfl⟩
 | cons x r ih =>
   intro s
   by_cases hx : p x = true
   . exact .inr ⟨0, by simp, by rw [zcI, if_pos hx]; simp, by simp [hx]⟩
   . rw [zcI, if_neg hx]
     have hx : p x = false := by simpa using hx
     rcases ih (s + 1) with ⟨h1, h2⟩ | ⟨k, h1, h2, h3⟩
     . exact .inl ⟨h1, by rw [List.filter_cons_of_pos (by simp [hx]), h2]⟩
     . exact .inr ⟨k + 1, by simpa using h1, by rw [h2]; omega, by rw [List.take_succ_cons, List.filter_cons_of_pos (by simp [hx]), h3, List.take_succ_cons]⟩
theorem zwb {p : HR -> Bool} {L : List HR} (h : L.length <= 1000000) : -1 <= zcI p L 0 /\ zcI p L 0 < 1000000 := by
 rcases zhA p L 0 with ⟨h1, _⟩ | ⟨k, h1, h2, _⟩ <;> omega
theorem zow {L us ds i} (h : zcI (ddF us ds i) L 0 = -1) : zcr us ds i L = L := by
 rcases zhA (ddF us ds i) L 0 with ⟨h1, h2⟩ | ⟨k, h1, h2, _⟩
 . exact h2
 . omega
theorem zDf {L us ds i} (h : zcI (ddF us ds i) L 0 = -1) : (zcr us ds i L).length = L.length := by rw [zow h]
theorem zBV {L us ds i} (h : zcI (ddF us ds i) L 0 = -1) : List.map HR.pv (zgI us ds i L) = List.map HR.pv L := by unfold zgI; rw [zow h, Nat.sub_self]; simp
abbrev C53 := Int × Int × List HR
def zCg (L : List HR) (us ds : TM) (i : Int) : C53 -> St
 | (rd, w, M) => ⟨[(6, kz rd), (5, kz w), (1, .fn (.func 54) [] [.ptr 1 0 0, .ptr 2 0 0]), (0, .slc 0 0 L.length)],
 [(0, some (.vec 2 (M.map HR.pv))), (1, some (.row [.mp 3, .mp 4])), (2, some (.row [kz i])), (3, some (.map MTS us none)), (4, some (.map MTS ds none))], 5⟩
def I53 (L : List HR) (us ds : TM) (i : Int) : C53 -> Prop
 | (rd, w, M) => 0 <= w /\ w < rd /\ rd <= L.length /\ L.length <= 1000000 /\ M.length = L.length /\ M.take w.toNat = zcr us ds i (L.take rd.toNat) /\ M.drop rd.toNat = L.drop rd.toNat
theorem zDv {L us ds i} {Q : C53 -> Prop} (h : ∀ rd w M, I53 L us ds i (rd, w, M) -> Q (rd, w, M)) : ∀ c, I53 L us ds i c -> Q c := fun ⟨rd, w, M⟩ hI => h _ _ _ hI
theorem zEt {L us ds i rd w M} (_ : I53 L us ds i (rd, w, M)) (_ : (!decide (zbq us ds (nth M rd) i < 0)) = true) {p q : C53 -> Prop} (h : p (rd + 1, w + 1, M.set (0 + w.toNat) (nth M rd))) (k : q (rd + 1, w + 1, M.set (0 + w.toNat) (nth M rd))) : ∃ c, p c /\ q c := ⟨_, h, k⟩
theorem zEi {L us ds i} (hl : L.length <= 1000000) (h : ¬ zcI (ddF us ds i) L 0 = -1) : I53 L us ds i (zcI (ddF us ds i) L 0 + 1, zcI (ddF us ds i) L 0, L) := by
 rcases zhA (ddF us ds i) L 0 with ⟨h1, h2⟩ | ⟨k, h1, h2, h3⟩
 . exact absurd h1 h
 . rw [h2]
   refine ⟨by omega, by omega, by omega, hl, rfl, ?_, rfl⟩
   have e1 : ((0 : Int) + k).toNat = k := by omega
   have e2 : ((0 : Int) + k + 1).toNat = k + 1 := by omega
   rw [e1, e2]; exact h3.symm
theorem ztC {L us ds i rd w M} (hI : I53 L us ds i (rd, w, M)) (h : rd < L.length) : nth M rd = nth L rd /\ M.drop (rd + 1).toNat = L.drop (rd + 1).toNat := by
 obtain ⟨h1, h2, h3, h4, h5, h6, h7⟩ := hI
 rw [zaF M rd ⟨by omega, by omega⟩, zaF L rd ⟨by omega, h⟩] at h7
 exact List.cons.inj h7
theorem zvi {L us ds i rd w M} (hI : I53 L us ds i (rd, w, M)) (h : rd < L.length) (e : (!decide (zbq us ds (nth M rd) i < 0)) = false) : I53 L us ds i (rd + 1, w, M) /\ ((L.length : Int) - (rd + 1)).toNat < ((L.length : Int) - rd).toNat := by
 obtain ⟨ha, hb⟩ := ztC hI h
 obtain ⟨h1, h2, h3, h4, h5, h6, h7⟩ := hI
 refine ⟨⟨h1, by omega, by omega, h4, h5, ?_, hb⟩, by omega⟩
 rw [ha] at e
 rw [zdL L rd ⟨by omega, h⟩, zcr, List.filter_append, h6, List.filter_cons_of_neg (by rw [show (!ddF us ds i (nth L rd)) = false from e]; decide)]
 simp [zcr]
theorem zvg {L us ds i rd w M} (hI : I53 L us ds i (rd, w, M)) (h : rd < L.length) (e : (!decide (zbq us ds (nth M rd) i < 0)) = true) : I53 L us ds i (rd + 1, w + 1, M.set (0 + w.toNat) (nth M rd)) /\ ((L.length : Int) - (rd + 1)).toNat < ((L.length : Int) - rd).toNat := by
 obtain ⟨ha, hb⟩ := ztC hI h
 obtain ⟨h1, h2, h3, h4, h5, h6, h7⟩ := hI
 rw [ha] at e ⊢
 refine ⟨⟨by omega, by omega, by omega, h4, by rw [List.length_set]; exact h5, ?_, ?_⟩, by omega⟩
 . have e3 : (w + 1).toNat = w.toNat + 1 := by omega
   rw [zdL L rd ⟨by omega, h⟩, zcr, List.filter_append, List.filter_cons_of_pos (by exact e), e3, Nat.zero_add, List.take_add_one, List.take_set_of_le (Nat.le_refl _), h6, List.getElem?_set_self (by omega)]
   simp [zcr]
 . rw [Nat.zero_add, List.drop_set_of_lt (by omega)]; exact hb
theorem zqa {L us ds i rd w M} (hI : I53 L us ds i (rd, w, M)) (h : ¬ rd < L.length) : zcr us ds i L = M.take w.toNat := by
 obtain ⟨h1, h2, h3, h4, h5, h6, h7⟩ := hI
 rw [h6, List.take_of_length_le (l := L) (by omega)]
theorem zJ1 {L us ds i rd w M} (hI : I53 L us ds i (rd, w, M)) (h : ¬ rd < L.length) : 0 = 0 + Int.toNat 0 /\ (zcr us ds i L).length = w.toNat - Int.toNat 0 := by
 rw [zqa hI h, List.length_take]
 obtain ⟨h1, h2, h3, h4, h5, h6, h7⟩ := hI
 omega
theorem zIc {L us ds i rd w M} (hI : I53 L us ds i (rd, w, M)) (h : ¬ rd < L.length) : List.map HR.pv (zgI us ds i L) = List.take (0 + w.toNat) (List.map HR.pv M) ++ List.replicate ((L.length : Int).toNat - w.toNat) [PV.bool false, PV.int IntKind.i64 0] ++ List.drop (0 + w.toNat + ((L.length : Int).toNat - w.toNat)) (List.map HR.pv M) := by
 unfold zgI
 rw [zqa hI h]
 obtain ⟨h1, h2, h3, h4, h5, h6, h7⟩ := hI
 rw [List.drop_eq_nil_of_le (by rw [List.length_map]; omega), List.append_nil, List.map_append, List.map_take, List.map_replicate, Nat.zero_add, List.length_take]
 have : min w.toNat M.length = w.toNat := by omega
 rw [this]; rfl
noncomputable def L53 (L : List HR) (us : TM) (ds : TM) (i : Int) : zaa := ⟨[.slc 0 0 L.length, .fn (.func 54) [] [.ptr 1 0 0, .ptr 2 0 0]], [.vec 2 (L.map HR.pv), .row [.mp 3, .mp 4], .row [kz i], .map MTS us none, .map MTS ds none], [some (.vec 2 ((zgI us ds i L).map HR.pv)), some (.row [.mp 3, .mp 4]), some (.row [kz i]), some (.map MTS us none), some (.map MTS ds none)], [], .slc 0 0 (zcr us ds i L).length⟩
set_option maxHeartbeats 2000000 in
theorem s53 (L : List HR) (us : TM) (ds : TM) (i : Int) (hp : zjw us ds) (hl : L.length <= 1000000) : zaa.ok Tryz.prog GG 53 (L53 L us ds i) := by
 refine zac mix k53 _ rfl rfl (Tab.ok (l := [(54, S54), (97, S97)]) ⟨t54, t97, trivial⟩) (fun _ => .inv C53 (fun _ => I53 L us ds i) (zCg L us ds i) (fun c => ((L.length : Int) - c.1).toNat)) noJ ?_
 repeat' ((conv => whnf); first
  | exact trivial
  | with_reducible first | refine aj ?_ | refine ai rfl ?_ | refine ai ⟨rfl, rfl⟩ ?_
  | ((with_reducible refine ai ?_ ?_); focus exact w3)
  | with_reducible first | refine zDv ?_ | refine zEt (by with_reducible assumption) (by with_reducible assumption) ?_ ?_ | apply exW (γ := C53) (c := (_, _, _)) | refine exI (i64_in (n := zcI _ _ _ + 1) (by have := zwb (p := ddF us ds i) hl; omega) (by have := zwb (p := ddF us ds i) hl; omega)) ?_ | refine exI (i64_in (by simp only [I53, List.length_map] at *; omega) (by simp only [I53, List.length_map] at *; omega)) ?_
  | refine exI (x := MTS) trivial ?_
  | with_reducible refine And.intro (Sd.mk (p := okT _ _ /\ okT _ _) (hp _)) ?_
  | refine exI (x := ULift.up _) (za8 _ _ _ (by simp only [I53, List.length_map] at *; omega)) ?_
  | refine exI (x := ULift.up _) ⟨rfl, (by simp only [I53, List.length_map] at *; omega), zbc _ _ _ (by simp only [I53, List.length_map] at *; omega)⟩ ?_
  | with_reducible first | refine And.intro ?_ ?_ | refine zae ?_ | refine exI (i64_in (by omega) (by omega)) ?_
  | refine exI (x := ULift.up _) (Eq.refl _) ?_
  | refine exI (x := ULift.up _) ⟨rfl, by omega, Eq.refl _⟩ ?_
  | exact nx
  | ((with_reducible intro h); try dsimp only at h))
 all_goals (try refine Sd.mk ?_)
 all_goals (try simp only [HR.eta] at *)
 all_goals (try simp only [true_and] at *)
 all_goals first
  | exact hp _
  | exact zDf ‹_›
  | exact zBV ‹_›
  | exact zEi hl ‹_›
  | exact zvi ‹_› ‹_› ‹_›
  | exact zvg ‹_› ‹_› ‹_›
  | exact zJ1 ‹_› ‹_›
  | exact zIc ‹_› ‹_›
  | (simp only [I53, List.length_map] at *; omega)
  | (rw [List.map_set]; rfl)
noncomputable def S53 : SFn
 | [.slc o 0 _, .fn (.func 54) [] [.ptr p _ _, .ptr q _ _]], k => .rO o fun oo => match oo with
   | some (.vec 2 LL) => asL HR.pv LL fun L => zbk p fun rp => zbk q fun rq => match rp, rq with
     | .agg [.mp u, .mp d], .agg [.int .i64 i] => zbl MTS u fun us => zbl MTS d fun ds => .req (zjw us ds) (.req (L.length <= 1000000) (k (L53 L us ds i)))
     | _, _ => .fail
   | _ => .fail
 | _, _ => .fail
theorem t53 : FnS Tryz.prog GG 53 S53 := by
 intro args k gt go R v os n h
 unfold S53 at h
 split at h
 . cases h with
   | rO h =>
     dsimp only at h
     split at h
     . obtain ⟨L, _, h⟩ := zaN h
       obtain ⟨_, _, h⟩ := zaR h
       obtain ⟨_, _, h⟩ := zaR h
       split at h
       . obtain ⟨us, _, h⟩ := zaS h
         obtain ⟨ds, _, h⟩ := zaS h
         obtain ⟨hp, _, h⟩ := zar h
         obtain ⟨hl, _, h⟩ := zar h
         exact ⟨_, _, s53 L us ds _ hp hl, h⟩
       . cases h
     . cases h
 . cases h
end
section
def c18 : MC := .seq (.reg [oo 2 (.mv (ki 0))]) (.seq (.seq (.reg [om 11 0,oo 12 (.lenS (.t 11)),oo 13 (cc .lss 12 1),sm 14 13,mf 14 15 0,gf 14 16 (.lenS (.t 15)),gf 14 17 (cc .gtr 16 4000),oo 18 (pt 14 17)]) (.cond (.t 18) (.seq (.reg [oo 2 (.mv (ki 190))]) (.ret)) (.skip))) (.seq (.reg [oo 19 (.mkm),om 3 19]) (.seq (.seq (.reg [om 20 0,oo 21 (.lenS (.t 20)),oo 22 (.mv (ki 0))]) (.blk 0 (.loop 0 (.seq (.reg [oo 23 (ct .lss 22 21)]) (.seq (.cond (.t 23) (.skip) (.exit 0)) (.seq (.blk 1 (.seq (.reg [om 24 22,oo 25 (ia 15 20 22),oo 26 (ls 15 25),oo 5 (.alloc zI),om 4 24,o none (.st (some 15) (.t 5) (.t 26))]) (.seq (.reg [oo 27 (fl 0 5),oo 28 (ln 27),oo 29 (cc .eql 28 40),sm 30 29,gf 30 31 (fl 0 5),gf 30 32 (ln 31),gf 30 33 (cc .eql 32 41),oo 34 (pt 30 33),om 6 34]) (.seq (.seq (.reg [oo 35 (ls 15 5),oo 36 (fc 58 [(.t 35)]),oo 37 (.not (.t 36)),sm 38 37,gf 38 39 (fl 0 5),gf 38 40 (ln 39),gf 38 41 (fc 59 [(.t 40)]),oo 42 (pt 38 41),sm 43 42,mf 43 44 6,mf 43 45 4,mf 43 46 0,gf 43 47 (.lenS (.t 46)),gf 43 48 (ac .sub 47 1),gf 43 49 (ct .eql 45 48),gf 43 50 (.eqb true (.t 44) (.t 49)),oo 51 (pt 43 50)]) (.cond (.t 51) (.seq (.reg [oo 2 (.mv (ki 190))]) (.ret)) (.skip))) (.seq (.seq (.reg [oo 52 (ls 15 5),oo 53 (fc 34 [(.t 52)]),oo 54 (.lenS (.t 53)),oo 55 (.mv (ki 0))]) (.blk 2 (.loop 1 (.seq (.reg [oo 56 (ct .lss 55 54)]) (.seq (.cond (.t 56) (.skip) (.exit 2)) (.seq (.blk 3 (.seq (.reg [oo 57 (ia 2 53 55),oo 58 (ls 2 57),oo 8 (.alloc [.ff,(kz 0)]),o none (.st (some 2) (.t 8) (.t 58))]) (.seq (.reg [om 59 3,oo 60 (ls 2 8),oo 61 (.lkp false false [.bool,.int .i64] true [.bool false] (.t 59) (.t 60)),oo 62 (.not (.t 61))]) (.cond (.t 62) (.seq (.reg [oo 2 (.mv (ki 190))]) (.ret)) (.skip))))) (.reg [oo 63 (ac .add 55 1),om 55 63]))))))) (.seq (.reg [oo 65 (ls 15 5),oo 66 (fc 33 [(.t 65)]),om 64 66,oo 67 (ex_ 0 64),oo 68 (ex_ 1 64),oo 9 (.alloc [.ff,(kz 0)]),o none (.st (some 2) (.t 9) (.t 67)),om 10 68]) (.seq (.reg [om 69 10]) (.cond (.t 69) (.seq (.seq (.reg [oo 70 (fl 1 9),oo 71 (ln 70),oo 72 (cc .geq 71 1000000)]) (.cond (.t 72) (.seq (.reg [oo 2 (.mv (ki 190))]) (.ret)) (.skip))) (.reg [om 73 3,oo 74 (ls 2 9),o none (.mup false [.bool,.int .i64] (.t 73) (.t 74) kt)])) (.skip))))))))) (.reg [oo 75 (ac .add 22 1),om 22 75]))))))) (.seq (.reg [oo 2 (.mv (ki 0))]) (.ret)))))
theorem k18 : zan Tryz.prog 18 76 c18 [.t 2] := fk Tryz.func18 ⟨tv,⟨⟨tv,⟨⟨tv,tv⟩,tv⟩⟩,⟨tv,⟨⟨tv,⟨tv,⟨⟨tv,tv⟩,⟨⟨tv,⟨tv,⟨⟨tv,⟨⟨tv,tv⟩,tv⟩⟩,⟨⟨tv,⟨tv,⟨⟨tv,tv⟩,⟨⟨tv,⟨tv,⟨⟨tv,tv⟩,tv⟩⟩⟩,tv⟩⟩⟩⟩,⟨tv,⟨tv,⟨⟨⟨tv,⟨⟨tv,tv⟩,tv⟩⟩,tv⟩,tv⟩⟩⟩⟩⟩⟩⟩,tv⟩⟩⟩⟩,⟨tv,tv⟩⟩⟩⟩⟩
def c59 : MC := .seq (.reg [oo 2 (.mv kf)]) (.seq (.reg [om 3 0,oo 4 (cc .eql 3 42),sm 5 4,mf 5 6 0,gf 5 7 (cc .eql 6 43),oo 8 (pt 5 7),sm 9 8,mf 9 10 0,gf 9 11 (cc .eql 10 44),oo 12 (pt 9 11),sm 13 12,mf 13 14 0,gf 13 15 (cc .eql 14 45),oo 16 (pt 13 15),om 2 16]) (.ret))
theorem k59 : zan Tryz.prog 59 17 c59 [.t 2] := fk Tryz.func59 ⟨tv,⟨tv,tv⟩⟩
def zgZ (op : Int) : Bool := decide (op = 42) || decide (op = 43) || decide (op = 44) || decide (op = 45)
def zpk (x : HI) : Bool := decide (x.op = 40) || decide (x.op = 41)
noncomputable def L59 (op : Int) : zaa := ⟨[kz op], [], [], [], .bool (zgZ op)⟩
set_option maxHeartbeats 40000000 in
theorem s59 (op : Int) : zaa.ok Tryz.prog GG 59 (L59 op) := by
 refine zac mix k59 _ rfl rfl (Tab.ok (l := []) trivial) noL noJ ?_
 repeat' ((conv => whnf); first
  | exact trivial
  | with_reducible first | refine aj ?_ | refine ai rfl ?_ | refine ai ⟨rfl, rfl⟩ ?_
  | ((with_reducible refine ai ?_ ?_); focus exact w3)
  | with_reducible first | refine And.intro ?_ ?_ | refine zae ?_ | refine exI (i64_in (by omega) (by omega)) ?_
  | refine exI (x := ULift.up _) (Eq.refl _) ?_
  | refine exI (x := ULift.up _) ⟨rfl, by omega, Eq.refl _⟩ ?_
  | exact ny
  | ((with_reducible intro h); try dsimp only at h))
 all_goals (refine Sd.mk ?_; simp_all [zgZ])
noncomputable def S59 : SFn
 | [a0], k => asI a0 fun op => k (L59 op)
 | _, _ => .fail
theorem t59 : FnS Tryz.prog GG 59 S59 := by
 intro args k gt go R v os n h
 unfold S59 at h
 split at h
 . obtain ⟨op, _, h⟩ := zaU h
   exact ⟨_, _, s59 op, h⟩
 . cases h
abbrev RB := List (HR × Bool)
def inA (es : RB) (r : HR) : Bool := zak MHB r es
def zhf (x : HI) (last : Bool) : Bool := zb2 x && !zgZ x.op && (zpk x == last)
def okA (es : RB) (x : HI) (last : Bool) : Bool := zhf x last && (zaf x).all (inA es) && (!(zag x).2 || decide ((zag x).1.n < 1000000))
def zjQ (es : RB) (x : HI) : RB := if (zag x).2 = true then zam MHB (zag x).1 true es else es
def chk : RB -> List HI -> Bool
 | _, [] => true
 | es, x :: r => okA es x r.isEmpty && chk (zjQ es x) r
theorem zqT (l : List HI) (es : RB) (i : Int) (h : 0 <= i /\ i < l.length) : chk es (l.drop i.toNat) = (okA es (nth l i) (decide (i = l.length - 1)) && chk (zjQ es (nth l i)) (l.drop (i + 1).toNat)) := by
 rw [zaF l i h, chk]
 have : (l.drop (i + 1).toNat).isEmpty = decide (i = l.length - 1) := by
  rw [Bool.eq_iff_iff]; simp [List.isEmpty_iff]; omega
 rw [this]
def zfA (l : List HI) : Bool := decide (1 <= l.length) && decide (l.length <= 4000) && chk [] l
def zaT (l : List HI) : Int := if zfA l = true then 0 else 190
def zC7 (l : List HI) (c : Int × RB) : St := ⟨[(22, kz c.1), (21, kz l.length), (20, .rd (.sl 15 (l.map HI.pv))), (3, .mp 0), (0, .rd (.sl 15 (l.map HI.pv)))], [(0, some (.map MHB c.2 none))], 1⟩
def I18 (l : List HI) (c : Int × RB) : Prop := 0 <= c.1 /\ c.1 <= l.length /\ 1 <= l.length /\ l.length <= 4000 /\ chk c.2 (l.drop c.1.toNat) = chk [] l
def zCN (l : List HI) (c : Int × RB × Int) : St := ⟨[(55, kz c.2.2), (54, kz (zaf (nth l c.1)).length), (53, .slc 2 0 (zaf (nth l c.1)).length), (5, .ptr 1 0 0), (22, kz c.1), (21, kz l.length), (20, .rd (.sl 15 (l.map HI.pv))), (3, .mp 0), (0, .rd (.sl 15 (l.map HI.pv)))], [(0, some (.map MHB c.2.1 none)), (1, some (.row (nth l c.1).cells)), (2, some (.vec 2 ((zaf (nth l c.1)).map HR.pv)))], 3⟩
def zcQ (l : List HI) (c : Int × RB × Int) : Prop := I18 l (c.1, c.2.1) /\ c.1 < l.length /\ 0 <= c.2.2 /\ c.2.2 <= (zaf (nth l c.1)).length /\ (zaf (nth l c.1)).length <= 3 ∧
 zhf (nth l c.1) (decide (c.1 = l.length - 1)) = true /\ ((zaf (nth l c.1)).drop c.2.2.toNat).all (inA c.2.1) = (zaf (nth l c.1)).all (inA c.2.1)
def zHZ (l : List HI) : Nat -> zbO
 | 0 => .inv (Int × RB) (fun _ => I18 l) (zC7 l) (fun c => (l.length - c.1).toNat)
 | _ => .inv (Int × RB × Int) (fun c0 c => c.1 = c0.1 /\ zcQ l c) (zCN l) (fun c => ((zaf (nth l c.1)).length - c.2.2).toNat)
theorem zAU {x : HI} {i n : Int} (h1 : (!zb2 x) = false) (h2 : zgZ x.op = false) (h3 : x.op = 40) (h4 : ¬ ¬ i = n) : zhf x (decide (i = n)) = true := by
 have h4 : i = n := Classical.not_not.1 h4
 rw [zhf, nf h1, h2]; simp [zpk, h3, h4]
theorem zyq {x : HI} {i n : Int} (h1 : (!zb2 x) = false) (h2 : zgZ x.op = false) (h3 : ¬ x.op = 40) (h4 : ¬ ¬ (x.op = 41 ↔ i = n)) : zhf x (decide (i = n)) = true := by
 have h4 : x.op = 41 ↔ i = n := Classical.not_not.1 h4
 simp only [zhf, nf h1, h2, zpk, h3, h4]; simp
theorem zxi {es : RB} {x : HI} {last : Bool} (h : zhf x last = false) : okA es x last = false := by simp [okA, h]
theorem znc {l : List HI} {c : Int × RB} (hI : I18 l c) (h : c.1 < l.length) (h2 : okA c.2 (nth l c.1) (decide (c.1 = l.length - 1)) = false) : zaT l = 190 := by
 have h3 := hI.2.2.2.2
 rw [zqT l c.2 c.1 ⟨hI.1, h⟩, h2] at h3
 simp [zaT, zfA, <- h3]
theorem zoc {l : List HI} (h : (l.length : Int) < 1 \/ 4000 < (l.length : Int)) : zaT l = 190 := by
 have : zfA l = false := by
  rcases h with h | h
  . have e : decide (1 <= l.length) = false := by simp only [decide_eq_false_iff_not]; omega
    simp only [zfA, e]; rfl
  . have e : decide (l.length <= 4000) = false := by simp only [decide_eq_false_iff_not]; omega
    simp only [zfA, e, Bool.and_false]; rfl
 simp [zaT, this]
theorem zvv {l : List HI} {c : Int × RB} (hI : I18 l c) (h : ¬ c.1 < l.length) : zaT l = 0 := by
 obtain ⟨h0, h1, h2, h3, h4⟩ := hI
 have : l.drop c.1.toNat = [] := List.drop_eq_nil_of_le (by omega)
 rw [this, chk] at h4
 have e1 : decide (1 <= l.length) = true := by simp; omega
 have e2 : decide (l.length <= 4000) = true := by simp; omega
 simp [zaT, zfA, <- h4, e1, e2]
theorem zqX {l : List HI} {c : Int × RB × Int} {c0 : Int × RB} {es : RB} (hI : c.1 = c0.1 /\ zcQ l c) (hj : ¬ c.2.2 < (zaf (nth l c.1)).length) (hd : (!(zag (nth l c.1)).2 || decide ((zag (nth l c.1)).1.n < 1000000)) = true) (he : es = zjQ c.2.1 (nth l c.1)) :
 I18 l (c.1 + 1, es) /\ (l.length - (c.1 + 1)).toNat < (l.length - c0.1).toNat := by
  obtain ⟨hc, ⟨h0, h1, h2, h3, h4⟩, h5, h6, h7, h8, h9, h10⟩ := hI
  rw [<- hc]
  dsimp only at *
  have h11 : (zaf (nth l c.1)).drop c.2.2.toNat = [] := List.drop_eq_nil_of_le (by omega)
  rw [h11] at h10
  rw [zqT l c.2.1 c.1 ⟨h0, h5⟩] at h4
  have : okA c.2.1 (nth l c.1) (decide (c.1 = l.length - 1)) = true := by simp only [okA, h9, <- h10, hd]; rfl
  rw [this, <- he] at h4
  refine ⟨⟨by dsimp only; omega, by dsimp only; omega, h2, h3, by simpa using h4⟩, by omega⟩
theorem zvH {l : List HI} {c : Int × RB × Int} {c0 : Int × RB} (hI : c.1 = c0.1 /\ zcQ l c) (hj : ¬ c.2.2 < (zaf (nth l c.1)).length) (hd : (zag (nth l c.1)).2 = true) (hn : ¬ 1000000 <= (zag (nth l c.1)).1.n) :
 I18 l (c.1 + 1, zam MHB (zag (nth l c.1)).1 true c.2.1) /\ (l.length - (c.1 + 1)).toNat < (l.length - c0.1).toNat := zqX hI hj (by simp [hd]; omega) (by simp only [zjQ, hd]; rfl)
theorem zvm {l : List HI} {c : Int × RB × Int} {c0 : Int × RB} (hI : c.1 = c0.1 /\ zcQ l c) (hj : ¬ c.2.2 < (zaf (nth l c.1)).length) (hd : (zag (nth l c.1)).2 = false) :
 I18 l (c.1 + 1, c.2.1) /\ (l.length - (c.1 + 1)).toNat < (l.length - c0.1).toNat := zqX hI hj (by simp [hd]) (by simp [zjQ, hd])
theorem zn7 {l : List HI} {c : Int × RB × Int} (hI : zcQ l c) (hj : c.2.2 < (zaf (nth l c.1)).length) (hb : (!zak MHB (@nth HR _ (zaf (nth l c.1)) c.2.2) c.2.1) = false) :
 zcQ l (c.1, c.2.1, c.2.2 + 1) /\ ((zaf (nth l c.1)).length - (c.2.2 + 1)).toNat < ((zaf (nth l c.1)).length - c.2.2).toNat := by
  obtain ⟨hI, h5, h6, h7, h8, h9, h10⟩ := hI
  refine ⟨⟨hI, h5, by dsimp only; omega, by dsimp only; omega, h8, h9, ?_⟩, by omega⟩
  rw [zaF _ _ ⟨h6, hj⟩] at h10
  dsimp only
  rw [<- h10]
  have hb : inA c.2.1 (nth (zaf (nth l c.1)) c.2.2) = true := nf hb
  simp [hb]
theorem zvJ {l : List HI} {c : Int × RB × Int} (hI : zcQ l c) (hj : c.2.2 < (zaf (nth l c.1)).length) (hb : (!zak MHB (@nth HR _ (zaf (nth l c.1)) c.2.2) c.2.1) = true) : zaT l = 190 := by
 obtain ⟨hI, h5, h6, h7, h8, h9, h10⟩ := hI
 refine znc hI h5 ?_
 rw [zaF _ _ ⟨h6, hj⟩] at h10
 simp only [okA, <- h10]
 have hb : inA c.2.1 (nth (zaf (nth l c.1)) c.2.2) = false := nt hb
 simp [hb]
theorem zvz {l : List HI} {c : Int × RB × Int} (hI : zcQ l c) (hd : (zag (nth l c.1)).2 = true) (hn : 1000000 <= (zag (nth l c.1)).1.n) : zaT l = 190 := by
 refine znc hI.1 hI.2.1 ?_
 simp only [okA, hd]; simp; intros; omega
theorem zp8 {l : List HI} {c : Int × RB} (hI : I18 l c) (h : c.1 < l.length) (hp : zhf (nth l c.1) (decide (c.1 = l.length - 1)) = true) : zcQ l (c.1, c.2, 0) := by
 have hu := zbA (nth l c.1)
 exact ⟨hI, h, by simp, by dsimp only; omega, hu, hp, by simp⟩
noncomputable def L18 (l : List HI) : zaa := ⟨[.rd (.sl 15 (l.map HI.pv))], [], [], [], kz (zaT l)⟩
set_option maxHeartbeats 3000000 in
theorem s18 (l : List HI) : zaa.ok Tryz.prog GG 18 (L18 l) := by
 refine zac mix k18 _ rfl rfl (Tab.ok (l := [(58, S58), (59, S59), (34, S34), (33, S33)]) ⟨t58, t59, t34, t33, trivial⟩) (zHZ l) noJ ?_
 repeat' ((conv => whnf); first
  | exact trivial
  | with_reducible first | refine aj ?_ | refine ai rfl ?_ | refine ai ⟨rfl, rfl⟩ ?_
  | ((with_reducible refine ai ?_ ?_); focus exact w3)
  | with_reducible first | apply exW (c := (_, _, _)) | apply exW (c := (_, _)) | refine exI (i64_in (by simp only [zcQ, I18, List.length_map] at *; omega) (by simp only [zcQ, I18, List.length_map] at *; omega)) ?_
  | refine exI (x := ULift.up _) (za8 _ _ _ (by simp only [zcQ, I18, List.length_map] at *; omega)) ?_
  | refine exI (x := ULift.up _) ⟨rfl, by simp only [zcQ, I18, List.length_map] at *; omega, zbc _ _ _ (by simp only [zcQ, I18, List.length_map] at *; omega)⟩ ?_
  | refine And.intro (Sd.mk (p := zaj.one MHB = _ /\ _) ⟨rfl, rfl⟩) ?_
  | refine And.intro (Sd.mk (p := zaj.vone MHB = _ /\ _) ⟨rfl, rfl⟩) ?_
  | refine exI (x := MHB) trivial ?_
  | refine exI (x := ULift.up true) trivial ?_
  | apply exI (x := ULift.up (HR.mk _ _)) trivial
  | with_reducible first | refine ai (by simp only [zcQ, I18, List.length_map] at *; omega) ?_ | refine And.intro ?_ ?_ | refine zae ?_ | refine exI (i64_in (by omega) (by omega)) ?_
  | refine exI (x := ULift.up _) (Eq.refl _) ?_
  | refine exI (x := ULift.up _) ⟨rfl, by omega, Eq.refl _⟩ ?_
  | exact ny
  | ((with_reducible intro h); try dsimp only at h))
 all_goals (refine Sd.mk ?_; (try simp only [HI.eta, HR.eta, List.length_map] at *))
 all_goals first
  | exact zvv ‹_› ‹_›
  | exact zoc (.inl ‹_›)
  | exact zoc (.inr ‹_›)
  | exact ⟨by simp only; omega, by simp only; omega, by omega, by omega, rfl⟩
  | exact zvJ (And.right ‹_ /\ zcQ l _›) ‹_› ‹_›
  | exact zvz (And.right ‹_ /\ zcQ l _›) ‹_› ‹_›
  | exact zvH ‹_› ‹_› ‹_› ‹_›
  | exact zvm ‹_› ‹_› ‹_›
  | exact ⟨⟨And.left ‹_ /\ zcQ l _›, (zn7 (And.right ‹_ /\ zcQ l _›) ‹_› ‹_›).1⟩, (zn7 (And.right ‹_ /\ zcQ l _›) ‹_› ‹_›).2⟩
  | exact ⟨by first | exact trivial | rfl, zp8 (c := (_, _)) ‹_› ‹_› (zAU ‹_› ‹_› ‹_› ‹_›)⟩
  | exact ⟨by first | exact trivial | rfl, zp8 (c := (_, _)) ‹_› ‹_› (zyq ‹_› ‹_› ‹_› ‹_›)⟩
  | (refine znc ‹_› ‹_› (zxi ?_); simp_all [zhf, zpk]; done)
noncomputable def S18 : SFn
 | [a0], k => zcu a0 fun L_l => asL HI.pv L_l fun l => k (L18 l)
 | _, _ => .fail
theorem t18 : FnS Tryz.prog GG 18 S18 := by
 intro args k gt go R v os n h
 unfold S18 at h
 split at h
 . obtain ⟨L_l, _, h⟩ := zbn h
   obtain ⟨l, _, h⟩ := zaN h
   exact ⟨_, _, s18 l, h⟩
 . cases h
end
section
def c16 : MC := .seq (.reg [oo 3 (.box (.t 1)),oo 4 (.mv (.k (.val (.slice none 0 0)))),oo 5 (.mv (ki 0))]) (.seq (.seq (.reg [om 8 0,oo 9 (fc 18 [(.t 8)]),oo 10 (cc .neq 9 0)]) (.cond (.t 10) (.seq (.reg [oo 4 (.mv (.k (.val (.slice none 0 0)))),oo 5 (.mv (ki 190))]) (.ret)) (.skip))) (.seq (.seq (.reg [oo 11 (ln 3),oo 12 (cc .lss 11 0),sm 13 12,gf 13 14 (ln 3),mf 13 15 0,gf 13 16 (.lenS (.t 15)),gf 13 17 (ct .gtr 14 16),oo 18 (pt 13 17)]) (.cond (.t 18) (.seq (.reg [oo 4 (.mv (.k (.val (.slice none 0 0)))),oo 5 (.mv (ki 1))]) (.ret)) (.skip))) (.seq (.reg [om 19 0,oo 20 (fc 50 [(.t 19)]),oo 6 (.alloc [(.val (.map none)),(.val (.map none))]),o none (.st (some 2) (.t 6) (.t 20))]) (.seq (.reg [oo 21 (fl 0 6),oo 22 (ln 21),oo 23 (fc 51 [(.t 22),(.k (.fn (.func 52) [] []))]),om 7 23]) (.seq (.reg [om 24 7,oo 25 (.mkf (.func 54) [] [(.t 6),(.t 3)]),oo 26 (fc 53 [(.t 24),(.t 25)]),om 4 26,oo 5 (.mv (ki 0))]) (.ret))))))
theorem k16 : zan Tryz.prog 16 27 c16 [.t 4,.t 5] := fk Tryz.func16 ⟨tv,⟨⟨tv,⟨⟨tv,tv⟩,tv⟩⟩,⟨⟨tv,⟨⟨tv,tv⟩,tv⟩⟩,⟨tv,⟨tv,⟨tv,tv⟩⟩⟩⟩⟩⟩
def zcG (l : List HI) (i : Int) : Int := if zaT l ≠ 0 then 190 else if i < 0 \/ l.length < i then 1 else 0
def zgN (l : List HI) : List HR := zbE (K1 (zav l).1)
def zaQ (l : List HI) (i : Int) : List HR := if zcG l i = 0 then zcr (zav l).1 (zav l).2 i (zgN l) else []
def zby (l : List HI) (i : Int) : List HR := if zcG l i = 0 then zgI (zav l).1 (zav l).2 i (zgN l) else []
theorem zre {l : List HI} {i : Int} (h : ¬ zaT l = 0) : zcG l i = 190 := by unfold zcG; rw [if_pos h]
theorem zkQ {l : List HI} {i : Int} (h : ¬ ¬ zaT l = 0) (h2 : i < 0 \/ l.length < i) : zcG l i = 1 := by unfold zcG; rw [if_neg h, if_pos h2]
theorem zmO {l : List HI} {i : Int} (h : ¬ ¬ zaT l = 0) (h2 : ¬ i < 0) (h3 : ¬ l.length < i) : zcG l i = 0 := by unfold zcG; rw [if_neg h, if_neg (by omega)]
theorem zrJ {l : List HI} {i e : Int} (h : zcG l i = e) (he : e ≠ 0) : (zaQ l i).length = 0 := by unfold zaQ; rw [if_neg (by rw [h]; exact he)]; rfl
theorem zr5 {l : List HI} {i e : Int} (h : zcG l i = e) (he : e ≠ 0) : List.map HR.pv (zby l i) = [] := by unfold zby; rw [if_neg (by rw [h]; exact he)]; rfl
theorem zJI {l : List HI} {i : Int} (h : zcG l i = 0) : (zaQ l i).length = (zcr (zav l).1 (zav l).2 i (zgN l)).length := by unfold zaQ; rw [if_pos h]
theorem zEb {l : List HI} {i : Int} (h : zcG l i = 0) : List.map HR.pv (zby l i) = List.map HR.pv (zgI (zav l).1 (zav l).2 i (zgN l)) := by unfold zby; rw [if_pos h]
theorem lc {l : List HI} (h : ¬ ¬ zaT l = 0) : l.length <= 4000 := by
 unfold zaT zfA at h
 split at h
 . next q => simp at q; omega
 . exact absurd (by decide) h
theorem ztL {l : List HI} (h : ¬ ¬ zaT l = 0) : zjw (zav l).1 (zav l).2 := by
 have hl := lc h
 obtain ⟨h1, h2, h3, h4⟩ := zhM l (i := 0) (us := []) (ds := []) (by omega) zcy zcy List.Pairwise.nil List.Pairwise.nil
 intro r
 have a1 := ziR h1 (by omega) r
 have a2 := ziR h2 (by omega) r
 simp only [ag] at a1 a2
 exact ⟨⟨(h1 r).1, by unfold zav; omega⟩, ⟨(h2 r).1, by unfold zav; omega⟩⟩
theorem zJD (l : List HI) : (K1 (zav l).1).Nodup := (zhM l (i := 0) (us := []) (ds := []) (by omega) zcy zcy List.Pairwise.nil List.Pairwise.nil).2.2.1
theorem zjB (l : List HI) : (zgN l).length = List.length (zav l).1 := by
 have := (zhc (K1 (zav l).1)).length_eq
 rw [List.length_map] at this
 exact this
theorem zIt {l : List HI} : 0 = 0 /\ (zbE (K1 (zav l).1)).length = List.length (zav l).1 := ⟨rfl, zjB l⟩
attribute [local irreducible] zaT zav zbE zcr zgI
end
end Go.Proofs.YtlahifihaeafbaaGreatDoor
