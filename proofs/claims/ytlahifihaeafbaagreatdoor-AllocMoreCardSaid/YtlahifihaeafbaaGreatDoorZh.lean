/- Part 8 of 11 of a proof of the law AllocMore: what the last part leans on. -/
import Derived.Test.YtlahifihaeafbaaGreatDoorZg
set_option linter.all false
set_option maxRecDepth 100000
namespace Go.Proofs.YtlahifihaeafbaaGreatDoor
open Go Go.Sx
def c121 : MC := .seq (.reg [oo 3 (.box (.t 1)),oo 4 (.mv (.k (.val (.pointer none))))]) (.seq (.seq (.reg [oo 5 (.fld 0 (.t 3)),oo 6 (.ld none (.t 5))]) (.cond (.t 6) (.seq (.reg [om 7 0,oo 8 (.nchk (.t 7)),oo 9 (.fld 6 (.t 8)),oo 10 (.ld none (.t 9)),om 4 10]) (.ret)) (.skip))) (.seq (.reg [om 11 0,oo 12 (.nchk (.t 11)),oo 13 (.fld 5 (.t 12)),oo 14 (.ld none (.t 13)),om 4 14]) (.ret)))
theorem k121 : FnOk Tryz.prog 121 15 c121 [.t 4] := fk Tryz.func121 ⟨tv,⟨⟨tv,⟨⟨tv,tv⟩,tv⟩⟩,⟨tv,tv⟩⟩⟩
def c125 : MC := .seq (.reg [oo 4 (.box (.t 1))]) (.drw [om 6 0,om 7 0,om 8 0,oo 9 (.nchk (.t 8)),oo 10 (.fld 3 (.t 9)),oo 11 (.fld 0 (.t 10)),oo 12 (.ld none (.t 11)),oo 13 (.ld (some 15) (.t 4)),oo 14 (.bsl 15 1 [(kz 0),(kz 0),(kz 0),(kz 0),(kz 0),(kz 0),(kz 0),(kz 0),(kz 0),(.int .u32 0),(.int .u32 0),(.int .u32 0),(.int .u32 0),(.int .u32 0),(.int .u32 0)] [(0,(.t 13))]),oo 15 (.app 15 96 (.t 12) (.t 14)),om 16 0,oo 17 (.nchk (.t 16)),oo 18 (.fld 3 (.t 17)),oo 19 (.fld 1 (.t 18)),oo 20 (.ld none (.t 19)),om 21 2,oo 22 (.bsl 1 1 [(kz 0)] [(0,(.t 21))]),oo 23 (.app 1 8 (.t 20) (.t 22)),oo 24 (.nchk (.t 6)),oo 25 (.fld 3 (.t 24)),oo 26 (.fld 0 (.t 25)),o none (.st (some 1) (.t 26) (.t 15)),oo 27 (.nchk (.t 7)),oo 28 (.fld 3 (.t 27)),oo 29 (.fld 1 (.t 28)),o none (.st (some 1) (.t 29) (.t 23))] [[],[],[],[2],[3],[4],[5],[],[7],[6,8],[],[10],[11],[12],[13],[],[15],[14,16,9],[0,0,2,3,4,5,6,7,8,9,14,17],[18,0,2,3,4,5,6,7,8,9,14,17],[19,0,2,3,4,5,6,7,8,9,14,17],[20,9,17,0,2,3,4,5,6,7,8,9,14,17],[1,0,1,2,3,4,5,6,7,8,9,10,11,12,13,14,15,16,17,18,19,20,21],[22,0,1,2,3,4,5,6,7,8,9,10,11,12,13,14,15,16,17,18,19,20,21],[23,0,1,2,3,4,5,6,7,8,9,10,11,12,13,14,15,16,17,18,19,20,21],[24,17,21,0,1,2,3,4,5,6,7,8,9,10,11,12,13,14,15,16,17,18,19,20,21]])
theorem k125 : FnOk Tryz.prog 125 30 c125 [] := fk Tryz.func125 ⟨tv,tv⟩
def c120 : MC := .seq (.reg [oo 5 (.box (.t 1))]) (.seq (.reg [om 13 0,oo 14 (.ld (some 2) (.t 5)),oo 15 (.call (.k (.fn (.func 121) [] [])) [(.t 13),(.t 14)]),om 8 15]) (.seq (.seq (.drw [om 17 8,oo 18 (.nchk (.t 17)),oo 19 (.fld 3 (.t 18)),oo 20 (.ld none (.t 19)),oo 21 (.fld 1 (.t 5)),oo 22 (.ld none (.t 21)),oo 23 (.lkp true true [.int .i64] true [.int .i64 0] (.t 20) (.t 22)),om 16 23,oo 24 (.ext 0 (.t 16)),oo 25 (.ext 1 (.t 16)),om 9 24,om 10 25] [[],[0],[1],[2],[],[4],[3,5],[6],[7],[7],[8,0,1,2,3,4,5,6,7,8],[9,10,0,1,2,3,4,5,6,7,8,9,10]]) (.seq (.reg [om 26 10]) (.cond (.t 26) (.ret) (.skip)))) (.seq (.reg [om 27 0,om 28 8,om 29 2,om 30 3,oo 31 (.call (.k (.fn (.func 123) [] [])) [(.t 27),(.t 28),(.t 29),(.t 30)]),om 11 31]) (.seq (.reg [oo 12 (.mv (ki 43))]) (.seq (.seq (.reg [om 32 8,oo 33 (.nchk (.t 32)),oo 34 (.fld 0 (.t 33)),oo 35 (.ld none (.t 34))]) (.cond (.t 35) (.reg [oo 12 (.mv (ki 45))]) (.skip))) (.seq (.drw [om 36 0,om 37 12,om 38 11,om 39 8,oo 40 (.nchk (.t 39)),oo 41 (.fld 4 (.t 40)),oo 42 (.ld none (.t 41)),oo 43 (.fld 1 (.t 5)),oo 44 (.ld none (.t 43)),oo 45 (.lkp false true [.int .i64] true [.int .i64 0] (.t 42) (.t 44)),oo 46 (.bld [(kz 0),(kz 0),(kz 0),(kz 0),(kz 0),(kz 0),(kz 0),(kz 0),(kz 0),(.int .u32 0),(.int .u32 0),(.int .u32 0),(.int .u32 0),(.int .u32 0),(.int .u32 0)] [(0,1,(.t 37)),(4,1,(.t 38)),(8,1,(.t 45))]),oo 47 (.call (.k (.fn (.func 125) [] [])) [(.t 36),(.t 46),(ki (-1))])] [[],[],[],[],[3],[4],[5],[],[7],[6,8],[1,2,9],[0,10]]) (.reg [om 48 8,om 49 11,oo 50 (.fld 1 (.t 5)),oo 51 (.ld none (.t 50)),oo 52 (.call (.k (.fn (.func 124) [] [])) [(.t 48),(.t 49),(.t 51)])])))))))
theorem k120 : FnOk Tryz.prog 120 53 c120 [] := fk Tryz.func120 ⟨tv,⟨tv,⟨⟨tv,⟨tv,⟨tv,tv⟩⟩⟩,⟨tv,⟨tv,⟨⟨tv,⟨tv,tv⟩⟩,⟨tv,tv⟩⟩⟩⟩⟩⟩⟩
attribute [local irreducible] Go.Sx.agetD Go.Sx.aget Go.Sx.aput Go.Sx.adel sortI BK.top
noncomputable def L121v (s : AS) (r : HR) : LSpec := ⟨[.ptr 0 0 0, .agg r.cells], [.row [.mp 1, .mp 2, .rd (.sl 15 (List.map HI.pv (s).code)), .slc 3 0 (s).L.length, .slc 4 0 (s).fr.length, .ptr 5 0 0, .ptr 6 0 0], .map MTS (s).us none, .map MTS (s).ds none, .vec 15 (List.map HI.pv (s).L), .vec 1 (List.map ipv (s).fr), .row [.bool (s).w.vec, .mp 7, .mp 8, .mp 9, .mp 10, .mp 11], .row [.bool (s).v.vec, .mp 12, .mp 13, .mp 14, .mp 15, .mp 16], .map MIB (s).w.free none, .map MII (s).w.holds none, .map MII (s).w.at_ none, .map MII (s).w.slot none, .map MIB (s).w.slots none, .map MIB (s).v.free none, .map MII (s).v.holds none, .map MII (s).v.at_ none, .map MII (s).v.slot none, .map MIB (s).v.slots none], [some (.row [.mp 1, .mp 2, .rd (.sl 15 (List.map HI.pv (s).code)), .slc 3 0 (s).L.length, .slc 4 0 (s).fr.length, .ptr 5 0 0, .ptr 6 0 0]), some (.map MTS (s).us none), some (.map MTS (s).ds none), some (.vec 15 (List.map HI.pv (s).L)), some (.vec 1 (List.map ipv (s).fr)), some (.row [.bool (s).w.vec, .mp 7, .mp 8, .mp 9, .mp 10, .mp 11]), some (.row [.bool (s).v.vec, .mp 12, .mp 13, .mp 14, .mp 15, .mp 16]), some (.map MIB (s).w.free none), some (.map MII (s).w.holds none), some (.map MII (s).w.at_ none), some (.map MII (s).w.slot none), some (.map MIB (s).w.slots none), some (.map MIB (s).v.free none), some (.map MII (s).v.holds none), some (.map MII (s).v.at_ none), some (.map MII (s).v.slot none), some (.map MIB (s).v.slots none)], [], .ptr 6 0 0⟩
set_option maxHeartbeats 2000000 in
theorem s121v (s : AS) (r : HR) (hv : r.vec = true) : LSpec.ok Tryz.prog GG 121 (L121v s r) := by
 refine fn_spec mix k121 _ rfl rfl (Tab.ok (l := []) trivial) noL noJ ?_
 repeat' ((conv => whnf); first
  | exact trivial
  | with_reducible first | refine aj ?_ | refine ai rfl ?_ | refine ai ⟨rfl, rfl⟩ ?_
  | ((with_reducible refine ai ?_ ?_); focus exact w3)
  | ((with_reducible intro h); first | exact absurd h hv | exact absurd hv h | exact absurd (h.symm.trans hv) (by decide))
  | with_reducible first | refine And.intro ?_ ?_ | refine asL_mk ?_ | refine exI (i64_in (by omega) (by omega)) ?_
  | refine exI (x := ULift.up _) (Eq.refl _) ?_
  | refine exI (x := ULift.up _) ⟨rfl, by omega, Eq.refl _⟩ ?_
  | exact nx
  | ((with_reducible intro h); try dsimp only at h))
 all_goals (refine Sd.mk ?_)
noncomputable def L121w (s : AS) (r : HR) : LSpec := ⟨[.ptr 0 0 0, .agg r.cells], [.row [.mp 1, .mp 2, .rd (.sl 15 (List.map HI.pv (s).code)), .slc 3 0 (s).L.length, .slc 4 0 (s).fr.length, .ptr 5 0 0, .ptr 6 0 0], .map MTS (s).us none, .map MTS (s).ds none, .vec 15 (List.map HI.pv (s).L), .vec 1 (List.map ipv (s).fr), .row [.bool (s).w.vec, .mp 7, .mp 8, .mp 9, .mp 10, .mp 11], .row [.bool (s).v.vec, .mp 12, .mp 13, .mp 14, .mp 15, .mp 16], .map MIB (s).w.free none, .map MII (s).w.holds none, .map MII (s).w.at_ none, .map MII (s).w.slot none, .map MIB (s).w.slots none, .map MIB (s).v.free none, .map MII (s).v.holds none, .map MII (s).v.at_ none, .map MII (s).v.slot none, .map MIB (s).v.slots none], [some (.row [.mp 1, .mp 2, .rd (.sl 15 (List.map HI.pv (s).code)), .slc 3 0 (s).L.length, .slc 4 0 (s).fr.length, .ptr 5 0 0, .ptr 6 0 0]), some (.map MTS (s).us none), some (.map MTS (s).ds none), some (.vec 15 (List.map HI.pv (s).L)), some (.vec 1 (List.map ipv (s).fr)), some (.row [.bool (s).w.vec, .mp 7, .mp 8, .mp 9, .mp 10, .mp 11]), some (.row [.bool (s).v.vec, .mp 12, .mp 13, .mp 14, .mp 15, .mp 16]), some (.map MIB (s).w.free none), some (.map MII (s).w.holds none), some (.map MII (s).w.at_ none), some (.map MII (s).w.slot none), some (.map MIB (s).w.slots none), some (.map MIB (s).v.free none), some (.map MII (s).v.holds none), some (.map MII (s).v.at_ none), some (.map MII (s).v.slot none), some (.map MIB (s).v.slots none)], [], .ptr 5 0 0⟩
set_option maxHeartbeats 2000000 in
theorem s121w (s : AS) (r : HR) (hv : ¬ r.vec = true) : LSpec.ok Tryz.prog GG 121 (L121w s r) := by
 refine fn_spec mix k121 _ rfl rfl (Tab.ok (l := []) trivial) noL noJ ?_
 repeat' ((conv => whnf); first
  | exact trivial
  | with_reducible first | refine aj ?_ | refine ai rfl ?_ | refine ai ⟨rfl, rfl⟩ ?_
  | ((with_reducible refine ai ?_ ?_); focus exact w3)
  | ((with_reducible intro h); first | exact absurd h hv | exact absurd hv h | exact absurd (h.symm.trans hv) (by decide))
  | with_reducible first | refine And.intro ?_ ?_ | refine asL_mk ?_ | refine exI (i64_in (by omega) (by omega)) ?_
  | refine exI (x := ULift.up _) (Eq.refl _) ?_
  | refine exI (x := ULift.up _) ⟨rfl, by omega, Eq.refl _⟩ ?_
  | exact nx
  | ((with_reducible intro h); try dsimp only at h))
 all_goals (refine Sd.mk ?_)
noncomputable def S121 : SFn
 | [.ptr p _ _, a1], k => asAS p fun s => asHR a1 fun r => .split (r.vec = true) (k (L121v s r)) (k (L121w s r))
 | _, _ => .fail
theorem t121 : FnS Tryz.prog GG 121 S121 := by
 intro args k gt go R v os n h
 unfold S121 at h
 split at h
 . obtain ⟨s, _, h⟩ := asAS_inv h
   obtain ⟨r, _, h⟩ := asHR_inv h
   cases h with
   | left hp h => exact ⟨_, _, s121v s r hp, h⟩
   | right hp h => exact ⟨_, _, s121w s r hp, h⟩
 . cases h
theorem ld_v {s : AS} {r : HR} (hv : (aget MII r.n (s.bank r).at_).isSome = true) (h : r.vec = true) (h2 : (aget MII r.n s.v.at_).isSome = false) : False := by
 rw [bank_t h, h2] at hv; cases hv
theorem ld_w {s : AS} {r : HR} (hv : (aget MII r.n (s.bank r).at_).isSome = true) (h : ¬ r.vec = true) (h2 : (aget MII r.n s.w.at_).isSome = false) : False := by
 rw [bank_f h, h2] at hv; cases hv
theorem em_b {s : AS} {X : List (List SV)} (h : s.L.length ≤ 1000000) (hX : X.length = 1) : (Rows.len (Sum.inr (List.map HI.pv s.L)) + Rows.len (Sum.inl X)) * 96 ≤ 2 ^ 46 := by
 simp only [Rows.len, List.length_map, hX] at *; omega
theorem em_c {s : AS} {X : List (List SV)} (h : s.fr.length ≤ 1000000) (hX : X.length = 1) : (Rows.len (Sum.inr (List.map ipv s.fr)) + Rows.len (Sum.inl X)) * 8 ≤ 2 ^ 46 := by
 simp only [Rows.len, List.length_map, hX] at *; omega
theorem em_l {s : AS} {x : HI} {f : Int} {X : List (List SV)} (hX : X.length = 1) : 0 = 0 ∧ (s.emit x f).L.length = Rows.len (Sum.inr (List.map HI.pv s.L)) + Rows.len (Sum.inl X) := by
 simp [Rows.len, hX, AS.emit]
theorem em_f {s : AS} {x : HI} {f : Int} {X : List (List SV)} (hX : X.length = 1) : 0 = 0 ∧ (s.emit x f).fr.length = Rows.len (Sum.inr (List.map ipv s.fr)) + Rows.len (Sum.inl X) := by
 simp [Rows.len, hX, AS.emit]
theorem em_v {s : AS} {x : HI} {f : Int} : 15 = 15 ∧ List.map HI.pv (s.emit x f).L = List.map HI.pv s.L ++ [HI.pv x] := ⟨rfl, by simp [AS.emit]⟩
theorem em_w {s : AS} {x : HI} {f : Int} : 1 = 1 ∧ List.map ipv (s.emit x f).fr = List.map ipv s.fr ++ [[PV.int IntKind.i64 f]] := ⟨rfl, by simp [AS.emit, ipv]⟩
noncomputable def L125 (s : AS) (x : HI) (f : Int) : LSpec := ⟨[.ptr 0 0 0, .agg x.cells, kz f], [.row [.mp 1, .mp 2, .rd (.sl 15 (List.map HI.pv (s).code)), .slc 3 0 (s).L.length, .slc 4 0 (s).fr.length, .ptr 5 0 0, .ptr 6 0 0], .map MTS (s).us none, .map MTS (s).ds none, .vec 15 (List.map HI.pv (s).L), .vec 1 (List.map ipv (s).fr), .row [.bool (s).w.vec, .mp 7, .mp 8, .mp 9, .mp 10, .mp 11], .row [.bool (s).v.vec, .mp 12, .mp 13, .mp 14, .mp 15, .mp 16], .map MIB (s).w.free none, .map MII (s).w.holds none, .map MII (s).w.at_ none, .map MII (s).w.slot none, .map MIB (s).w.slots none, .map MIB (s).v.free none, .map MII (s).v.holds none, .map MII (s).v.at_ none, .map MII (s).v.slot none, .map MIB (s).v.slots none], [some (.row [.mp 1, .mp 2, .rd (.sl 15 (List.map HI.pv (s.emit x f).code)), .slc 17 0 (s.emit x f).L.length, .slc 18 0 (s.emit x f).fr.length, .ptr 5 0 0, .ptr 6 0 0]), some (.map MTS (s.emit x f).us none), some (.map MTS (s.emit x f).ds none), none, none, some (.row [.bool (s.emit x f).w.vec, .mp 7, .mp 8, .mp 9, .mp 10, .mp 11]), some (.row [.bool (s.emit x f).v.vec, .mp 12, .mp 13, .mp 14, .mp 15, .mp 16]), some (.map MIB (s.emit x f).w.free none), some (.map MII (s.emit x f).w.holds none), some (.map MII (s.emit x f).w.at_ none), some (.map MII (s.emit x f).w.slot none), some (.map MIB (s.emit x f).w.slots none), some (.map MIB (s.emit x f).v.free none), some (.map MII (s.emit x f).v.holds none), some (.map MII (s.emit x f).v.at_ none), some (.map MII (s.emit x f).v.slot none), some (.map MIB (s.emit x f).v.slots none)], [.vec 15 (List.map HI.pv (s.emit x f).L), .vec 1 (List.map ipv (s.emit x f).fr)], .tup []⟩
set_option maxHeartbeats 4000000 in
theorem s125 (s : AS) (x : HI) (f : Int) (h1 : s.L.length ≤ 1000000) (h2 : s.fr.length ≤ 1000000) : LSpec.ok Tryz.prog GG 125 (L125 s x f) := by
 refine fn_spec mix k125 _ rfl rfl (Tab.ok (l := []) trivial) noL noJ ?_
 repeat' ((conv => whnf); first
  | exact trivial
  | with_reducible first | refine aj ?_ | refine ai rfl ?_ | refine ai ⟨rfl, rfl⟩ ?_
  | ((with_reducible refine ai ?_ ?_); focus exact w3)
  | with_reducible first | refine And.intro ?_ ?_ | refine asL_mk ?_ | refine exI (i64_in (by omega) (by omega)) ?_
  | refine exI (x := ULift.up _) (Eq.refl _) ?_
  | refine exI (x := ULift.up _) ⟨rfl, by omega, Eq.refl _⟩ ?_
  | exact nx
  | ((with_reducible intro h); try dsimp only at h))
 all_goals (refine Sd.mk ?_)
 all_goals first
  | exact em_b h1 rfl
  | exact em_c h2 rfl
  | exact em_l rfl
  | exact em_f rfl
  | exact em_v
  | exact em_w
  | exact ⟨rfl, by rw [List.length_map]⟩
noncomputable def S125 : SFn
 | [.ptr p _ _, a1, .int .i64 f], k => asAS p fun s => asHI a1 fun x => .req (s.L.length ≤ 1000000 ∧ s.fr.length ≤ 1000000) (k (L125 s x f))
 | _, _ => .fail
theorem t125 : FnS Tryz.prog GG 125 S125 := by
 intro args k gt go R v os n h
 unfold S125 at h
 split at h
 . obtain ⟨s, _, h⟩ := asAS_inv h
   obtain ⟨x, _, h⟩ := asHI_inv h
   obtain ⟨hp, _, h⟩ := req_inv h
   exact ⟨_, _, s125 s x _ hp.1 hp.2, h⟩
 . cases h
noncomputable def L120 (s : AS) (r : HR) (i : Int) : LSpec := ⟨[.ptr 0 0 0, .agg r.cells, kz i, .any], [.row [.mp 1, .mp 2, .rd (.sl 15 (List.map HI.pv (s).code)), .slc 3 0 (s).L.length, .slc 4 0 (s).fr.length, .ptr 5 0 0, .ptr 6 0 0], .map MTS (s).us none, .map MTS (s).ds none, .vec 15 (List.map HI.pv (s).L), .vec 1 (List.map ipv (s).fr), .row [.bool (s).w.vec, .mp 7, .mp 8, .mp 9, .mp 10, .mp 11], .row [.bool (s).v.vec, .mp 12, .mp 13, .mp 14, .mp 15, .mp 16], .map MIB (s).w.free none, .map MII (s).w.holds none, .map MII (s).w.at_ none, .map MII (s).w.slot none, .map MIB (s).w.slots none, .map MIB (s).v.free none, .map MII (s).v.holds none, .map MII (s).v.at_ none, .map MII (s).v.slot none, .map MIB (s).v.slots none], [some (.row [.mp 1, .mp 2, .rd (.sl 15 (List.map HI.pv (s).code)), .slc 3 0 (s).L.length, .slc 4 0 (s).fr.length, .ptr 5 0 0, .ptr 6 0 0]), some (.map MTS (s).us none), some (.map MTS (s).ds none), some (.vec 15 (List.map HI.pv (s).L)), some (.vec 1 (List.map ipv (s).fr)), some (.row [.bool (s).w.vec, .mp 7, .mp 8, .mp 9, .mp 10, .mp 11]), some (.row [.bool (s).v.vec, .mp 12, .mp 13, .mp 14, .mp 15, .mp 16]), some (.map MIB (s).w.free none), some (.map MII (s).w.holds none), some (.map MII (s).w.at_ none), some (.map MII (s).w.slot none), some (.map MIB (s).w.slots none), some (.map MIB (s).v.free none), some (.map MII (s).v.holds none), some (.map MII (s).v.at_ none), some (.map MII (s).v.slot none), some (.map MIB (s).v.slots none)], [], .tup []⟩
set_option maxHeartbeats 4000000 in
theorem s120 (s : AS) (r : HR) (i : Int) (hv : (aget MII r.n (s.bank r).at_).isSome = true) : LSpec.ok Tryz.prog GG 120 (L120 s r i) := by
 refine fn_spec mix k120 _ rfl rfl (Tab.ok (l := [(121, S121), (123, S123), (124, S124), (125, S125)]) ⟨t121, t123, t124, t125, trivial⟩) noL noJ ?_
 repeat' ((conv => whnf); first
  | exact trivial
  | with_reducible first | refine aj ?_ | refine ai rfl ?_ | refine ai ⟨rfl, rfl⟩ ?_
  | ((with_reducible refine ai ?_ ?_); focus exact w3)
  | refine And.intro (Sd.mk (p := MapTy.one MII = _ ∧ _) ⟨rfl, rfl⟩) ?_
  | refine And.intro (Sd.mk (p := MapTy.vone MII = _ ∧ _) ⟨rfl, rfl⟩) ?_
  | refine And.intro (Sd.mk (p := MapTy.one MIB = _ ∧ _) ⟨rfl, rfl⟩) ?_
  | refine And.intro (Sd.mk (p := MapTy.vone MIB = _ ∧ _) ⟨rfl, rfl⟩) ?_
  | apply exI (x := (ULift.up (_ : Bool) : ULift.{1} Bool)) trivial
  | apply exI (x := (ULift.up (_ : Int) : ULift.{1} Int)) trivial
  | ((with_reducible intro h); first | exact (ld_v hv (by with_reducible assumption) h).elim | exact (ld_w hv (by with_reducible assumption) h).elim)
  | with_reducible first | refine And.intro ?_ ?_ | refine asL_mk ?_ | refine exI (i64_in (by omega) (by omega)) ?_
  | refine exI (x := ULift.up _) (Eq.refl _) ?_
  | refine exI (x := ULift.up _) ⟨rfl, by omega, Eq.refl _⟩ ?_
  | exact nx
  | ((with_reducible intro h); try dsimp only at h))
 all_goals (refine Sd.mk ?_)
noncomputable def S120 : SFn
 | [.ptr p _ _, a1, .int .i64 i, _], k => asAS p fun s => asHR a1 fun r => .req ((aget MII r.n (s.bank r).at_).isSome = true) (k (L120 s r i))
 | _, _ => .fail
theorem t120 : FnS Tryz.prog GG 120 S120 := by
 intro args k gt go R v os n h
 unfold S120 at h
 split at h
 . obtain ⟨s, _, h⟩ := asAS_inv h
   obtain ⟨r, _, h⟩ := asHR_inv h
   obtain ⟨hp, _, h⟩ := req_inv h
   exact ⟨_, _, s120 s r _ hp, h⟩
 . cases h
end Go.Proofs.YtlahifihaeafbaaGreatDoor
namespace Go.Proofs.YtlahifihaeafbaaGreatDoor
open Go Go.Sx
def c97 : MC := .seq (.reg [oo 4 (.mv (ki 0))]) (.seq (.seq (.reg [om 6 0,oo 7 (.lenS (.t 6)),oo 8 (.mv (ki 0))]) (.blk 0 (.loop 0 (.seq (.reg [oo 9 (.cmp .lss (.t 8) (.t 7))]) (.seq (.cond (.t 9) (.skip) (.exit 0)) (.seq (.blk 1 (.seq (.reg [om 10 8,om 5 10]) (.seq (.reg [om 11 1,om 12 0,om 13 5,oo 14 (.ixa 2 (.t 12) (.t 13)),oo 15 (.ld (some 2) (.t 14)),oo 16 (.call (.t 11) [(.t 15)])]) (.cond (.t 16) (.seq (.reg [om 17 5,om 4 17]) (.ret)) (.skip))))) (.reg [oo 18 (.ar .add (.t 8) (ki 1)),om 8 18]))))))) (.seq (.reg [oo 4 (.mv (ki (-1)))]) (.ret)))
theorem k97 : FnOk Tryz.prog 97 19 c97 [.t 4] := fk Tryz.func97 ⟨tv,⟨⟨tv,⟨tv,⟨⟨tv,tv⟩,⟨⟨tv,⟨tv,⟨⟨tv,tv⟩,tv⟩⟩⟩,tv⟩⟩⟩⟩,⟨tv,tv⟩⟩⟩
attribute [local irreducible] Go.Sx.agetD Go.Sx.aget nextF
def okUD (us ds : TM) : Prop := ∀ r, okT r us ∧ okT r ds
def ddF (us ds : TM) (i : Int) (r : HR) : Bool := decide (nextF us ds r i < 0)
def idxP (p : HR -> Bool) : List HR -> Int -> Int
 | [], _ => -1
 | x :: r, i => if p x = true then i else idxP p r (i + 1)
def inv97 (L : List HR) (us ds : TM) (i : Int) (j : Int) : St := ⟨[(8, kz j), (7, kz L.length), (1, .fn (.func 54) [] [.ptr 1 0 0, .ptr 2 0 0]), (0, .slc 0 0 L.length)],
 [(0, some (.vec 2 (L.map HR.pv))), (1, some (.row [.mp 3, .mp 4])), (2, some (.row [kz i])), (3, some (.map MTS us none)), (4, some (.map MTS ds none))], 5⟩
def I97 (L : List HR) (us ds : TM) (i : Int) (j : Int) : Prop := 0 ≤ j ∧ j ≤ L.length ∧ L.length ≤ 1000000 ∧ idxP (ddF us ds i) (L.drop j.toNat) j = idxP (ddF us ds i) L 0
theorem ip_0 {L us ds i} (h : L.length ≤ 1000000) : I97 L us ds i 0 := ⟨by omega, by omega, h, rfl⟩
theorem ip_in {L us ds i j} (hI : I97 L us ds i j) (h : j < L.length) : 0 ≤ j ∧ j < L.length := ⟨hI.1, h⟩
theorem ip_yes {L us ds i j} (hI : I97 L us ds i j) (h : j < L.length) (e : decide (nextF us ds (nth L j) i < 0) = true) : idxP (ddF us ds i) L 0 = j := by
 obtain ⟨h1, h2, h3, h4⟩ := hI
 rw [drop_step L j ⟨h1, h⟩, idxP, if_pos (show ddF us ds i (nth L j) = true from e)] at h4
 exact h4.symm
theorem ip_go {L us ds i j} (hI : I97 L us ds i j) (h : j < L.length) (e : decide (nextF us ds (nth L j) i < 0) = false) : I97 L us ds i (j + 1) ∧ ((L.length : Int) - (j + 1)).toNat < ((L.length : Int) - j).toNat := by
 obtain ⟨h1, h2, h3, h4⟩ := hI
 rw [drop_step L j ⟨h1, h⟩, idxP, if_neg (by rw [show ddF us ds i (nth L j) = false from e]; decide)] at h4
 exact ⟨⟨by omega, by omega, h3, h4⟩, by omega⟩
theorem ip_end {L us ds i j} (hI : I97 L us ds i j) (h : ¬ j < L.length) : idxP (ddF us ds i) L 0 = -1 := by
 obtain ⟨h1, h2, h3, h4⟩ := hI
 rw [List.drop_eq_nil_of_le (by omega)] at h4
 exact h4.symm
noncomputable def L97 (L : List HR) (us : TM) (ds : TM) (i : Int) : LSpec := ⟨[.slc 0 0 L.length, .fn (.func 54) [] [.ptr 1 0 0, .ptr 2 0 0]], [.vec 2 (L.map HR.pv), .row [.mp 3, .mp 4], .row [kz i], .map MTS us none, .map MTS ds none], [some (.vec 2 (L.map HR.pv)), some (.row [.mp 3, .mp 4]), some (.row [kz i]), some (.map MTS us none), some (.map MTS ds none)], [], kz (idxP (ddF us ds i) L 0)⟩
set_option maxHeartbeats 2000000 in
theorem s97 (L : List HR) (us : TM) (ds : TM) (i : Int) (hp : okUD us ds) (hl : L.length ≤ 1000000) : LSpec.ok Tryz.prog GG 97 (L97 L us ds i) := by
 refine fn_spec mix k97 _ rfl rfl (Tab.ok (l := [(54, S54)]) ⟨t54, trivial⟩) (fun _ => .inv Int (fun _ => I97 L us ds i) (inv97 L us ds i) (fun j => ((L.length : Int) - j).toNat)) noJ ?_
 repeat' ((conv => whnf); first
  | exact trivial
  | with_reducible first | refine aj ?_ | refine ai rfl ?_ | refine ai ⟨rfl, rfl⟩ ?_
  | ((with_reducible refine ai ?_ ?_); focus exact w3)
  | with_reducible first | apply exW (γ := Int) (c := _) | refine exI (i64_in (by simp only [I97, List.length_map] at *; omega) (by simp only [I97, List.length_map] at *; omega)) ?_
  | refine exI (x := MTS) trivial ?_
  | with_reducible refine And.intro (Sd.mk (p := okT _ _ ∧ okT _ _) (hp _)) ?_
  | refine exI (x := ULift.up _) (pv_get0 _ _ _ (by simp only [I97, List.length_map] at *; omega)) ?_
  | refine exI (x := ULift.up _) ⟨rfl, (by simp only [I97, List.length_map] at *; omega), pv_get _ _ _ (by simp only [I97, List.length_map] at *; omega)⟩ ?_
  | with_reducible first | refine And.intro ?_ ?_ | refine asL_mk ?_ | refine exI (i64_in (by omega) (by omega)) ?_
  | refine exI (x := ULift.up _) (Eq.refl _) ?_
  | refine exI (x := ULift.up _) ⟨rfl, by omega, Eq.refl _⟩ ?_
  | exact nx
  | ((with_reducible intro h); try dsimp only at h))
 all_goals (refine Sd.mk ?_)
 all_goals (try simp only [HR.eta] at *)
 all_goals first
  | exact ip_0 hl
  | exact hp _
  | exact ip_in (by assumption) (by assumption)
  | exact ip_yes (by assumption) (by assumption) (by assumption)
  | exact ip_go (by assumption) (by assumption) (by assumption)
  | exact ip_end (by assumption) (by assumption)
noncomputable def S97 : SFn
 | [.slc o 0 _, .fn (.func 54) [] [.ptr p _ _, .ptr q _ _]], k => .rO o fun oo => match oo with
   | some (.vec 2 LL) => asL HR.pv LL fun L => asRow p fun rp => asRow q fun rq => match rp, rq with
     | .agg [.mp u, .mp d], .agg [.int .i64 i] => asMap MTS u fun us => asMap MTS d fun ds => .req (okUD us ds) (.req (L.length ≤ 1000000) (k (L97 L us ds i)))
     | _, _ => .fail
   | _ => .fail
 | _, _ => .fail
theorem t97 : FnS Tryz.prog GG 97 S97 := by
 intro args k gt go R v os n h
 unfold S97 at h
 split at h
 . cases h with
   | rO h =>
     dsimp only at h
     split at h
     . obtain ⟨L, _, h⟩ := asL_inv h
       obtain ⟨_, _, h⟩ := asRow_inv h
       obtain ⟨_, _, h⟩ := asRow_inv h
       split at h
       . obtain ⟨us, _, h⟩ := asMap_inv h
         obtain ⟨ds, _, h⟩ := asMap_inv h
         obtain ⟨hp, _, h⟩ := req_inv h
         obtain ⟨hl, _, h⟩ := req_inv h
         exact ⟨_, _, s97 L us ds _ hp hl, h⟩
       . cases h
     . cases h
 . cases h
end Go.Proofs.YtlahifihaeafbaaGreatDoor
namespace Go.Proofs.YtlahifihaeafbaaGreatDoor
open Go Go.Sx
def eqQ (a b : HR) : Prop := (a.vec = true ↔ b.vec = true) ∧ a.n = b.n ∧ True
theorem eqQ_iff (a b : HR) : eqQ a b ↔ a = b := by
 cases a; cases b
 simp only [eqQ, HR.mk.injEq, and_true]
 rw [<- Bool.eq_iff_iff]
def pres (s : AS) (r : HR) : Prop := (aget MII r.n (s.bank r).at_).isSome = true
def nameA (s : AS) (r : HR) : Int := agetD MII r.n (s.bank r).at_
def dropA (s : AS) (r : HR) : AS := s.setB r ((s.bank r).forget r.n)
def dropU (i : Int) (x : HI) (s : AS) (r : HR) : AS := if nextF s.us s.ds r (i + 1) < 0 ∨ ((defF x).2 = true ∧ r = (defF x).1) then dropA s r else s
def drops (s : AS) (i : Int) (x : HI) : AS := (usesF x).foldl (dropU i x) s
def defB (s : AS) (x : HI) : BK := (s.bank (defF x).1).forget (defF x).1.n
def defS (s : AS) (x : HI) : AS := s.setB (defF x).1 ((defB s x).put (defB s x).top (defF x).1.n)
def preS (s : AS) (i : Int) (x : HI) : AS × Int := if (defF x).2 = true then (defS (drops s i x) x, (defB (drops s i x) x).top) else (drops s i x, 0)
def emS (s : AS) (i : Int) (x : HI) : AS := (preS s i x).1.emit (withF x (preS s i x).2 ((usesF x).map (nameA s))).1 i
def stepA (s : AS) (i : Int) : AS := if (defF (nth s.code i)).2 = true ∧ nextF s.us s.ds (defF (nth s.code i)).1 (i + 1) < 0 then dropA (emS s i (nth s.code i)) (defF (nth s.code i)).1 else emS s i (nth s.code i)
def takeOk (b : BK) : Prop := (K1I b.free).Nodup ∧ b.free.length ≤ 12 ∧ b.free ≠ []
structure StepOk (s : AS) (i : Int) : Prop where
 i0 : 0 ≤ i
 i1 : i < s.code.length
 c : s.code.length ≤ 4000
 u : okUD s.us s.ds
 p : ∀ r ∈ usesF (nth s.code i), pres s r
 t : (defF (nth s.code i)).2 = true -> takeOk (defB (drops s i (nth s.code i)) (nth s.code i))
 L : s.L.length ≤ 1000000
 f : s.fr.length ≤ 1000000
theorem dropA_t {s : AS} {r : HR} (h : r.vec = true) : dropA s r = { s with v := s.v.forget r.n } := by unfold dropA AS.setB; rw [if_pos h, bank_t h]
theorem dropA_f {s : AS} {r : HR} (h : ¬ r.vec = true) : dropA s r = { s with w := s.w.forget r.n } := by unfold dropA AS.setB; rw [if_neg h, bank_f h]
theorem du_1 {i : Int} {x : HI} {s : AS} {r : HR} (h : nextF s.us s.ds r (i + 1) < 0) : dropU i x s r = dropA s r := by unfold dropU; rw [if_pos (.inl h)]
theorem du_2 {i : Int} {x : HI} {s : AS} {r : HR} (h : (defF x).2 = true) (h2 : eqQ r (defF x).1) : dropU i x s r = dropA s r := by unfold dropU; rw [if_pos (.inr ⟨h, (eqQ_iff _ _).1 h2⟩)]
theorem du_3 {i : Int} {x : HI} {s : AS} {r : HR} (h : ¬ nextF s.us s.ds r (i + 1) < 0) (h2 : (defF x).2 = false) : dropU i x s r = s := by
 unfold dropU; rw [if_neg]; rintro (e | e)
 . exact h e
 . rw [h2] at e; cases e.1
theorem du_4 {i : Int} {x : HI} {s : AS} {r : HR} (h : ¬ nextF s.us s.ds r (i + 1) < 0) (h2 : ¬ eqQ r (defF x).1) : dropU i x s r = s := by
 unfold dropU; rw [if_neg]; rintro (e | e)
 . exact h e
 . exact h2 ((eqQ_iff _ _).2 e.2)
theorem defS_t {s : AS} {x : HI} (h : (defF x).1.vec = true) : defS s x = { s with v := (s.v.forget (defF x).1.n).put (s.v.forget (defF x).1.n).top (defF x).1.n } := by unfold defS AS.setB defB; rw [if_pos h, bank_t h]
theorem defS_f {s : AS} {x : HI} (h : ¬ (defF x).1.vec = true) : defS s x = { s with w := (s.w.forget (defF x).1.n).put (s.w.forget (defF x).1.n).top (defF x).1.n } := by unfold defS AS.setB defB; rw [if_neg h, bank_f h]
theorem defB_t {s : AS} {x : HI} (h : (defF x).1.vec = true) : defB s x = s.v.forget (defF x).1.n := by unfold defB; rw [bank_t h]
theorem defB_f {s : AS} {x : HI} (h : ¬ (defF x).1.vec = true) : defB s x = s.w.forget (defF x).1.n := by unfold defB; rw [bank_f h]
theorem nameA_t {s : AS} {r : HR} (h : r.vec = true) : nameA s r = agetD MII r.n s.v.at_ := by unfold nameA; rw [bank_t h]
theorem nameA_f {s : AS} {r : HR} (h : ¬ r.vec = true) : nameA s r = agetD MII r.n s.w.at_ := by unfold nameA; rw [bank_f h]
abbrev MBM : MapTy := ⟨Bool, BM, inferInstance, true, [.bool], fun b => [.bool b], fun _ => rfl, fun a b h => by simpa using h, true, fun _ => [], []⟩
abbrev KM := List (Bool × BM)
abbrev subM : BM -> Sub := fun es => .map MIB es
def both (es : KM) : Prop := ∀ b : Bool, (aget MBM b es).isSome = true
theorem both_2 {a b : BM} : both (aput MBM true b (aput MBM false a [])) := fun k => by cases k <;> rfl
theorem both_put {es : KM} {k : Bool} {x : BM} (h : both es) : both (aput MBM k x es) := fun b => by
 by_cases e : b = k
 . subst e; rw [aget_put_same]; rfl
 . rw [aget_put_other e]; exact h b
end Go.Proofs.YtlahifihaeafbaaGreatDoor
namespace Go.Proofs.YtlahifihaeafbaaGreatDoor
open Go Go.Sx
def c74 : MC := .seq (.reg [om 22 0,oo 23 (.nchk (.t 22)),oo 24 (.fld 2 (.t 23)),oo 25 (.ld none (.t 24)),om 26 1,oo 27 (.ixa 15 (.t 25) (.t 26)),oo 28 (.ld (some 15) (.t 27)),oo 4 (.alloc [(kz 0),(kz 0),(kz 0),(kz 0),(kz 0),(kz 0),(kz 0),(kz 0),(kz 0),(.int .u32 0),(.int .u32 0),(.int .u32 0),(.int .u32 0),(.int .u32 0),(.int .u32 0)]),o none (.st (some 15) (.t 4) (.t 28))]) (.seq (.reg [oo 29 (.ld (some 15) (.t 4)),oo 30 (.call (.k (.fn (.func 34) [] [])) [(.t 29)]),om 5 30]) (.seq (.reg [oo 31 (.mkm),oo 32 (.mkm),o none (.mup true [.bool] (.t 31) kf (.t 32)),oo 33 (.mkm),o none (.mup true [.bool] (.t 31) kt (.t 33)),om 34 31,om 6 34]) (.seq (.seq (.reg [om 35 5,oo 36 (.lenS (.t 35)),oo 37 (.mv (ki 0))]) (.blk 0 (.loop 0 (.seq (.reg [oo 38 (.cmp .lss (.t 37) (.t 36))]) (.seq (.cond (.t 38) (.skip) (.exit 0)) (.seq (.blk 1 (.seq (.reg [oo 39 (.ixa 2 (.t 35) (.t 37)),oo 40 (.ld (some 2) (.t 39)),oo 8 (.alloc [.ff,(kz 0)]),o none (.st (some 2) (.t 8) (.t 40))]) (.reg [om 41 6,oo 42 (.fld 0 (.t 8)),oo 43 (.ld none (.t 42)),oo 44 (.lkp false true [.bool] true [.val (.map none)] (.t 41) (.t 43)),oo 45 (.fld 1 (.t 8)),oo 46 (.ld none (.t 45)),o none (.mup true [.int .i64] (.t 44) (.t 46) kt)]))) (.gh (.putc 19) (.reg [oo 47 (.ar .add (.t 37) (ki 1)),om 37 47])))))))) (.seq (.reg [oo 9 (.mv (.k (.val (.slice none 0 0))))]) (.seq (.seq (.reg [om 48 5,oo 49 (.lenS (.t 48)),oo 50 (.mv (ki 0))]) (.blk 2 (.loop 1 (.seq (.reg [oo 51 (.cmp .lss (.t 50) (.t 49))]) (.seq (.cond (.t 51) (.skip) (.exit 2)) (.seq (.blk 3 (.seq (.reg [oo 52 (.ixa 2 (.t 48) (.t 50)),oo 53 (.ld (some 2) (.t 52)),oo 11 (.alloc [.ff,(kz 0)]),o none (.st (some 2) (.t 11) (.t 53))]) (.reg [om 54 0,oo 55 (.ld (some 2) (.t 11)),om 56 1,om 57 6,oo 58 (.fld 0 (.t 11)),oo 59 (.ld none (.t 58)),oo 60 (.lkp false true [.bool] true [.val (.map none)] (.t 57) (.t 59)),oo 61 (.call (.k (.fn (.func 120) [] [])) [(.t 54),(.t 55),(.t 56),(.t 60)])]))) (.gh (.putb 19) (.reg [oo 62 (.ar .add (.t 50) (ki 1)),om 50 62])))))))) (.seq (.seq (.reg [om 63 5,oo 64 (.lenS (.t 63)),oo 65 (.mv (ki 0))]) (.blk 4 (.loop 2 (.seq (.reg [oo 66 (.cmp .lss (.t 65) (.t 64))]) (.seq (.cond (.t 66) (.skip) (.exit 4)) (.seq (.blk 5 (.seq (.reg [oo 67 (.ixa 2 (.t 63) (.t 65)),oo 68 (.ld (some 2) (.t 67)),oo 13 (.alloc [.ff,(kz 0)]),o none (.st (some 2) (.t 13) (.t 68))]) (.drw [om 69 9,om 70 0,oo 71 (.ld (some 2) (.t 13)),oo 72 (.call (.k (.fn (.func 121) [] [])) [(.t 70),(.t 71)]),oo 73 (.nchk (.t 72)),oo 74 (.fld 3 (.t 73)),oo 75 (.ld none (.t 74)),oo 76 (.fld 1 (.t 13)),oo 77 (.ld none (.t 76)),oo 78 (.lkp false true [.int .i64] true [.int .i64 0] (.t 75) (.t 77)),oo 79 (.bsl 1 1 [(kz 0)] [(0,(.t 78))]),oo 80 (.app 1 8 (.t 69) (.t 79)),om 9 80] [[],[],[],[1,2],[3],[4],[5],[],[7],[6,8],[9],[0,10,3],[11,11,0,1,2,3,4,5,6,7,8,9,10,11]]))) (.reg [oo 81 (.ar .add (.t 65) (ki 1)),om 65 81]))))))) (.seq (.reg [oo 83 (.ld (some 15) (.t 4)),oo 84 (.call (.k (.fn (.func 33) [] [])) [(.t 83)]),om 82 84,oo 85 (.ext 0 (.t 82)),oo 86 (.ext 1 (.t 82)),oo 14 (.alloc [.ff,(kz 0)]),o none (.st (some 2) (.t 14) (.t 85)),om 15 86])
 (.seq (.seq (.reg [om 87 5,oo 88 (.lenS (.t 87)),oo 89 (.mv (ki 0))]) (.blk 6 (.loop 3 (.seq (.reg [oo 90 (.cmp .lss (.t 89) (.t 88))]) (.seq (.cond (.t 90) (.skip) (.exit 6)) (.seq (.blk 7 (.seq (.reg [oo 91 (.ixa 2 (.t 87) (.t 89)),oo 92 (.ld (some 2) (.t 91)),oo 17 (.alloc [.ff,(kz 0)]),o none (.st (some 2) (.t 17) (.t 92))]) (.seq (.drw [om 93 0,oo 94 (.nchk (.t 93)),oo 95 (.fld 0 (.t 94)),oo 96 (.ld (some 2) (.t 95)),oo 97 (.ld (some 2) (.t 17)),om 98 1,oo 99 (.ar .add (.t 98) (ki 1)),oo 100 (.call (.k (.fn (.func 55) [] [])) [(.t 96),(.t 97),(.t 99)]),oo 101 (.cmp .lss (.t 100) (ki 0)),os (some 102) (.mv (.t 101)),og 102 false (some 103) (.mv (.t 15)),ogs 102 false (some 104) (.mv (.t 103)),og 104 true (some 105) (.ld (some 2) (.t 17)),og 104 true (some 106) (.ld (some 2) (.t 14)),og 104 true (some 107) (.eqs [.bool,.int .i64] false (.t 105) (.t 106)),og 102 false (some 108) (.pick (.t 104) (.t 107) kf),oo 109 (.pick (.t 102) kt (.t 108))] [[],[0],[1],[2],[],[],[5],[3,4,6],[7],[8,7],[9],[10,9,9],[11],[11],[12,13,11],[11,14,9],[9,15]]) (.cond (.t 109) (.drw [om 110 0,oo 111 (.ld (some 2) (.t 17)),oo 112 (.call (.k (.fn (.func 121) [] [])) [(.t 110),(.t 111)]),oo 113 (.fld 1 (.t 17)),oo 114 (.ld none (.t 113)),oo 115 (.call (.k (.fn (.func 122) [] [])) [(.t 112),(.t 114)])] [[],[],[0,1],[],[3],[2,4,2]]) (.skip))))) (.reg [oo 116 (.ar .add (.t 89) (ki 1)),om 89 116]))))))) (.seq (.reg [oo 18 (.mv (ki 0))]) (.seq (.seq (.reg [om 117 15]) (.cond (.t 117) (.seq (.reg [om 118 0,oo 119 (.ld (some 2) (.t 14)),oo 120 (.call (.k (.fn (.func 121) [] [])) [(.t 118),(.t 119)]),om 19 120]) (.seq (.reg [om 121 19,oo 122 (.fld 1 (.t 14)),oo 123 (.ld none (.t 122)),oo 124 (.call (.k (.fn (.func 122) [] [])) [(.t 121),(.t 123)])]) (.seq (.reg [om 125 0,om 126 19,om 127 1,oo 128 (.ar .add (.t 127) (ki 1)),oo 129 (.call (.k (.fn (.func 123) [] [])) [(.t 125),(.t 126),(.t 128),(.k (.val (.map none)))]),om 18 129]) (.reg [om 130 19,om 131 18,oo 132 (.fld 1 (.t 14)),oo 133 (.ld none (.t 132)),oo 134 (.call (.k (.fn (.func 124) [] [])) [(.t 130),(.t 131),(.t 133)])])))) (.skip))) (.seq (.reg [oo 136 (.ld (some 15) (.t 4)),om 137 18,om 138 9,oo 139 (.call (.k (.fn (.func 38) [] [])) [(.t 136),(.t 137),(.t 138)]),om 135 139,oo 140 (.ext 0 (.t 135)),oo 141 (.ext 1 (.t 135)),oo 20 (.alloc [(kz 0),(kz 0),(kz 0),(kz 0),(kz 0),(kz 0),(kz 0),(kz 0),(kz 0),(.int .u32 0),(.int .u32 0),(.int .u32 0),(.int .u32 0),(.int .u32 0),(.int .u32 0)]),o none (.st (some 15) (.t 20) (.t 140)),om 21 141]) (.seq (.reg [om 142 0,oo 143 (.ld (some 15) (.t 20)),om 144 1,oo 145 (.call (.k (.fn (.func 125) [] [])) [(.t 142),(.t 143),(.t 144)])]) (.seq (.drw [om 146 15,os (some 147) (.mv (.t 146)),og 147 true (some 148) (.mv (.t 0)),og 147 true (some 149) (.nchk (.t 148)),og 147 true (some 150) (.fld 0 (.t 149)),og 147 true (some 151) (.ld (some 2) (.t 150)),og 147 true (some 152) (.ld (some 2) (.t 14)),og 147 true (some 153) (.mv (.t 1)),og 147 true (some 154) (.ar .add (.t 153) (ki 1)),og 147 true (some 155) (.call (.k (.fn (.func 55) [] [])) [(.t 151),(.t 152),(.t 154)]),og 147 true (some 156) (.cmp .lss (.t 155) (ki 0)),oo 157 (.pick (.t 147) (.t 156) kf)] [[],[0],[1],[2,1],[3,1],[4,1],[1],[1],[7,1],[5,6,8,1,1],[9,1],[1,10]])
 (.cond (.t 157) (.drw [om 158 0,oo 159 (.ld (some 2) (.t 14)),oo 160 (.call (.k (.fn (.func 121) [] [])) [(.t 158),(.t 159)]),oo 161 (.fld 1 (.t 14)),oo 162 (.ld none (.t 161)),oo 163 (.call (.k (.fn (.func 122) [] [])) [(.t 160),(.t 162)])] [[],[],[0,1],[],[3],[2,4,2]]) (.skip)))))))))))))))
theorem k74 : FnOk Tryz.prog 74 164 c74 [] := fk Tryz.func74 ⟨tv,⟨tv,⟨tv,⟨⟨tv,⟨tv,⟨⟨tv,tv⟩,⟨⟨tv,tv⟩,tv⟩⟩⟩⟩,⟨tv,⟨⟨tv,⟨tv,⟨⟨tv,tv⟩,⟨⟨tv,tv⟩,tv⟩⟩⟩⟩,⟨⟨tv,⟨tv,⟨⟨tv,tv⟩,⟨⟨tv,tv⟩,tv⟩⟩⟩⟩,⟨tv,⟨⟨tv,⟨tv,⟨⟨tv,tv⟩,⟨⟨tv,⟨tv,⟨tv,tv⟩⟩⟩,tv⟩⟩⟩⟩,⟨tv,⟨⟨tv,⟨⟨tv,⟨tv,⟨tv,tv⟩⟩⟩,tv⟩⟩,⟨tv,⟨tv,⟨tv,⟨tv,tv⟩⟩⟩⟩⟩⟩⟩⟩⟩⟩⟩⟩⟩⟩⟩
attribute [local irreducible] Go.Sx.agetD Go.Sx.aget Go.Sx.aput Go.Sx.adel sortI BK.top BK.forget BK.put usesF defF withF nextF
abbrev X74 (s : AS) (i : Int) : HI := nth s.code i
abbrev U74 (s : AS) (i : Int) : List HR := usesF (nth s.code i)
abbrev n74 (s : AS) (i : Int) : List Int := (U74 s i).map (nameA s)
abbrev os74 (s : AS) (w v : BK) : List (Nat × Option SO) := [(0, some (.row [.mp 1, .mp 2, .rd (.sl 15 (List.map HI.pv (s).code)), .slc 3 0 (s).L.length, .slc 4 0 (s).fr.length, .ptr 5 0 0, .ptr 6 0 0])), (1, some (.map MTS (s).us none)), (2, some (.map MTS (s).ds none)), (3, some (.vec 15 (List.map HI.pv (s).L))), (4, some (.vec 1 (List.map ipv (s).fr))), (5, some (.row [.bool w.vec, .mp 7, .mp 8, .mp 9, .mp 10, .mp 11])), (6, some (.row [.bool v.vec, .mp 12, .mp 13, .mp 14, .mp 15, .mp 16])), (7, some (.map MIB w.free none)), (8, some (.map MII w.holds none)), (9, some (.map MII w.at_ none)), (10, some (.map MII w.slot none)), (11, some (.map MIB w.slots none)), (12, some (.map MIB v.free none)), (13, some (.map MII v.holds none)), (14, some (.map MII v.at_ none)), (15, some (.map MII v.slot none)), (16, some (.map MIB v.slots none))]
abbrev Ca74 := Int × KM
abbrev Cd74 := BK × BK × Int
abbrev wv (s : AS) (w v : BK) : AS := ⟨s.us, s.ds, s.code, s.L, s.fr, w, v⟩
def inv74a (s : AS) (i : Int) : Ca74 -> St
 | (j, es) => ⟨[(37, kz j), (36, kz (U74 s i).length), (35, .slc 18 0 (U74 s i).length), (6, .mp 19), (5, .slc 18 0 (U74 s i).length), (4, .ptr 17 0 0), (1, kz i), (0, .ptr 0 0 0)],
    os74 s s.w s.v ++ [(17, some (.row (X74 s i).cells)), (18, some (.vec 2 (List.map HR.pv (U74 s i)))), (19, some (.fam MBM subM es none))], 20⟩
def inv74b (s : AS) (i : Int) : Ca74 -> St
 | (j, es) => ⟨[(50, kz j), (49, kz (U74 s i).length), (48, .slc 18 0 (U74 s i).length), (9, .val (.slice none 0 0)), (6, .mp 19), (5, .slc 18 0 (U74 s i).length), (4, .ptr 17 0 0), (1, kz i), (0, .ptr 0 0 0)],
    os74 s s.w s.v ++ [(17, some (.row (X74 s i).cells)), (18, some (.vec 2 (List.map HR.pv (U74 s i)))), (19, some (.fam MBM subM es none))], 20⟩
def inv74c (s : AS) (i : Int) (j : Int) : St :=
 ⟨[(65, kz j), (64, kz (U74 s i).length), (63, .slc 18 0 (U74 s i).length), (9, .slc 19 0 j.toNat), (5, .slc 18 0 (U74 s i).length), (4, .ptr 17 0 0), (1, kz i), (0, .ptr 0 0 0)],
    os74 s s.w s.v ++ [(17, some (.row (X74 s i).cells)), (18, some (.vec 2 (List.map HR.pv (U74 s i)))), (19, some (.vec 1 (List.map ipv (List.map (nameA s) (List.take j.toNat (U74 s i))))))], 20⟩
def inv74d (s : AS) (i : Int) : Cd74 -> St
 | (w, v, j) => ⟨[(89, kz j), (88, kz (U74 s i).length), (87, .slc 18 0 (U74 s i).length), (15, .bool (defF (X74 s i)).2), (14, .ptr 20 0 0), (9, .slc 19 0 (U74 s i).length), (4, .ptr 17 0 0), (1, kz i), (0, .ptr 0 0 0)],
    os74 s w v ++ [(17, some (.row (X74 s i).cells)), (18, some (.vec 2 (List.map HR.pv (U74 s i)))), (19, some (.vec 1 (List.map ipv (n74 s i)))), (20, some (.row (defF (X74 s i)).1.cells))], 21⟩
def I74a (s : AS) (i : Int) : Ca74 -> Prop
 | (j, es) => 0 ≤ j ∧ j ≤ (U74 s i).length ∧ (U74 s i).length ≤ 3 ∧ both es
def I74c (s : AS) (i : Int) (j : Int) : Prop := 0 ≤ j ∧ j ≤ (U74 s i).length ∧ (U74 s i).length ≤ 3
def I74d (s : AS) (i : Int) : Cd74 -> Prop
 | (w, v, j) => 0 ≤ j ∧ j ≤ (U74 s i).length ∧ (U74 s i).length ≤ 3 ∧ ((U74 s i).drop j.toNat).foldl (dropU i (X74 s i)) (wv s w v) = drops s i (X74 s i)
def LA74 (s : AS) (i : Int) : Nat -> LAnn
 | 0 => .inv Ca74 (fun _ => I74a s i) (inv74a s i) (fun c => ((U74 s i).length - c.1).toNat)
 | 1 => .inv Ca74 (fun _ => I74a s i) (inv74b s i) (fun c => ((U74 s i).length - c.1).toNat)
 | 2 => .inv Int (fun _ => I74c s i) (inv74c s i) (fun c => ((U74 s i).length - c).toNat)
 | _ => .inv Cd74 (fun _ => I74d s i) (inv74d s i) (fun c => ((U74 s i).length - c.2.2).toNat)
theorem all74a {s : AS} {i : Int} {Q : Ca74 -> Prop} (h : ∀ j es, I74a s i (j, es) -> Q (j, es)) : ∀ c, I74a s i c -> Q c := fun ⟨_, _⟩ hI => h _ _ hI
theorem all74d {s : AS} {i : Int} {Q : Cd74 -> Prop} (h : ∀ w v j, I74d s i (w, v, j) -> Q (w, v, j)) : ∀ c, I74d s i c -> Q c := fun ⟨_, _, _⟩ hI => h _ _ _ hI
theorem hole_no {κ : Type} {k : κ} : holeAt (none : Option (κ × Nat × Option Nat)) k := fun _ _ _ e => by cases e
theorem sa_0 {s : AS} {i : Int} {es : KM} (h : both es) : I74a s i (0, es) := ⟨by omega, by omega, usesF_len _, h⟩
theorem sa_go {s : AS} {i j : Int} {es es' : KM} (h : I74a s i (j, es)) (hj : j < (U74 s i).length) (hb : both es -> both es') : I74a s i (j + 1, es') ∧ (((U74 s i).length : Int) - (j + 1)).toNat < (((U74 s i).length : Int) - j).toNat :=
 ⟨⟨by have := h.1; omega, by omega, h.2.2.1, hb h.2.2.2⟩, by have := h.1; omega⟩
theorem sb_0 {s : AS} {i j : Int} {es : KM} (h : I74a s i (j, es)) : I74a s i (0, es) := ⟨by omega, by omega, h.2.2.1, h.2.2.2⟩
theorem sa_b {s : AS} {i j : Int} {es : KM} {b : Bool} (h : I74a s i (j, es)) : (aget MBM b es).isSome = true := h.2.2.2 b
theorem sc_0 {s : AS} {i : Int} : I74c s i 0 := ⟨by omega, by omega, usesF_len _⟩
theorem sc_go {s : AS} {i j : Int} (h : I74c s i j) (hj : j < (U74 s i).length) : I74c s i (j + 1) ∧ (((U74 s i).length : Int) - (j + 1)).toNat < (((U74 s i).length : Int) - j).toNat :=
 ⟨⟨by have := h.1; omega, by omega, h.2.2⟩, by have := h.1; omega⟩
theorem sd_0 {s : AS} {i : Int} : I74d s i (s.w, s.v, 0) := ⟨by omega, by omega, usesF_len _, rfl⟩
theorem sd_go {s : AS} {i j : Int} {w v w' v' : BK} (h : I74d s i (w, v, j)) (hj : j < (U74 s i).length) (e : dropU i (X74 s i) (wv s w v) (nth (U74 s i) j) = wv s w' v') :
 I74d s i (w', v', j + 1) ∧ (((U74 s i).length : Int) - (j + 1)).toNat < (((U74 s i).length : Int) - j).toNat := by
  obtain ⟨h1, h2, h3, h4⟩ := h
  refine ⟨⟨by omega, by omega, h3, ?_⟩, by omega⟩
  rw [drop_step _ _ ⟨h1, hj⟩, List.foldl_cons, e] at h4
  exact h4
theorem sd_end {s : AS} {i j : Int} {w v : BK} (h : I74d s i (w, v, j)) (hj : ¬ j < (U74 s i).length) : drops s i (X74 s i) = wv s w v := by
 obtain ⟨h1, h2, h3, h4⟩ := h
 rw [List.drop_eq_nil_of_le (by omega)] at h4
 exact h4.symm
theorem nm_74 {s : AS} {i : Int} : List.take (U74 s i).length (List.drop 0 (List.map ipv (n74 s i))) = (n74 s i).map ipv := by
 rw [List.drop_zero, List.take_of_length_le (by simp)]
theorem pres_74 {s : AS} {i j : Int} {es : KM} (hs : StepOk s i) (h : I74a s i (j, es)) (hj : j < (U74 s i).length) : (aget MII (nth (U74 s i) j).n (s.bank (nth (U74 s i) j)).at_).isSome = true := hs.p _ (nth_mem _ _ ⟨h.1, hj⟩)
theorem sl_74 {s : AS} {i : Int} : PV.sl 1 (List.map ipv (n74 s i)) = PV.sl 1 (List.take (U74 s i).length (List.drop 0 (List.map ipv (n74 s i)))) ∧ 0 + (U74 s i).length ≤ (List.map ipv (n74 s i)).length := ⟨by rw [nm_74], by simp⟩
theorem hi_flatS (x : HI) : flats x.cells := ⟨trivial, trivial, trivial, trivial, trivial, trivial, trivial, trivial, trivial, trivial, trivial, trivial, trivial, trivial, trivial, trivial⟩
theorem sn_a {s : AS} {i j : Int} (h : I74c s i j) : 0 = 0 ∧ j.toNat = (List.map ipv (List.map (nameA s) (List.take j.toNat (U74 s i)))).length := by
 obtain ⟨h1, h2, _⟩ := h
 refine ⟨rfl, ?_⟩
 rw [List.length_map, List.length_map, List.length_take]; omega
theorem sn_b {s : AS} {i j : Int} {X : List (List SV)} (h : I74c s i j) (hX : X.length = 1) : (Rows.len (Sum.inr (List.map ipv (List.map (nameA s) (List.take j.toNat (U74 s i))))) + Rows.len (Sum.inl X)) * 8 ≤ 2 ^ 46 := by
 obtain ⟨h1, h2, h3⟩ := h
 simp only [Rows.len, List.length_map, List.length_take, hX] at *; omega
theorem sn_c {s : AS} {i j : Int} {X : List (List SV)} (h : I74c s i j) (hj : j < (U74 s i).length) (hX : X.length = 1) : 0 = 0 ∧ (j + 1).toNat = Rows.len (Sum.inr (List.map ipv (List.map (nameA s) (List.take j.toNat (U74 s i))))) + Rows.len (Sum.inl X) := by
 obtain ⟨h1, h2, h3⟩ := h
 simp only [Rows.len, List.length_map, List.length_take, hX, true_and] at *; omega
theorem sn_d {s : AS} {i j y : Int} (h : I74c s i j) (hj : j < (U74 s i).length) (e : nameA s (nth (U74 s i) j) = y) : 1 = 1 ∧ List.map ipv (List.map (nameA s) (List.take (j + 1).toNat (U74 s i))) = List.map ipv (List.map (nameA s) (List.take j.toNat (U74 s i))) ++ [[PV.int IntKind.i64 y]] := by
 refine ⟨rfl, ?_⟩
 rw [take_step _ j ⟨h.1, hj⟩, List.map_append, List.map_append, <- e]; rfl
theorem sn_e {s : AS} {i j : Int} (h : I74c s i j) (hj : ¬ j < (U74 s i).length) : 0 = 0 ∧ (U74 s i).length = j.toNat := by
 obtain ⟨h1, h2, h3⟩ := h
 exact ⟨rfl, by omega⟩
theorem sn_f {s : AS} {i j : Int} (h : I74c s i j) (hj : ¬ j < (U74 s i).length) : 1 = 1 ∧ List.map ipv (n74 s i) = List.map ipv (List.map (nameA s) (List.take j.toNat (U74 s i))) := by
 obtain ⟨h1, h2, h3⟩ := h
 rw [List.take_of_length_le (by omega)]
 exact ⟨rfl, rfl⟩
theorem tk_v {s : AS} {i j : Int} {w v : BK} (hs : StepOk s i) (h : I74d s i (w, v, j)) (hj : ¬ j < (U74 s i).length) (hd : (defF (X74 s i)).2 = true) (hv : (defF (X74 s i)).1.vec = true) : takeOk (v.forget (defF (X74 s i)).1.n) := by
 have := hs.t hd
 rw [sd_end h hj, defB_t hv] at this
 exact this
theorem tk_w {s : AS} {i j : Int} {w v : BK} (hs : StepOk s i) (h : I74d s i (w, v, j)) (hj : ¬ j < (U74 s i).length) (hd : (defF (X74 s i)).2 = true) (hv : ¬ (defF (X74 s i)).1.vec = true) : takeOk (w.forget (defF (X74 s i)).1.n) := by
 have := hs.t hd
 rw [sd_end h hj, defB_f hv] at this
 exact this
theorem st_0 {s : AS} {i j : Int} {w v : BK} (h : I74d s i (w, v, j)) (hj : ¬ j < (U74 s i).length) (hd : (defF (X74 s i)).2 = false) : stepA s i = (wv s w v).emit (withF (X74 s i) 0 (n74 s i)).1 i := by
 unfold stepA emS preS
 rw [if_neg (by rw [hd]; rintro ⟨e, _⟩; cases e), if_neg (by rw [hd]; decide), sd_end h hj]
theorem em_t {s : AS} {i j : Int} {w v : BK} (h : I74d s i (w, v, j)) (hj : ¬ j < (U74 s i).length) (hd : (defF (X74 s i)).2 = true) (hv : (defF (X74 s i)).1.vec = true) :
 emS s i (X74 s i) = (wv s w ((v.forget (defF (X74 s i)).1.n).put (v.forget (defF (X74 s i)).1.n).top (defF (X74 s i)).1.n)).emit (withF (X74 s i) (v.forget (defF (X74 s i)).1.n).top (n74 s i)).1 i := by
  unfold emS preS
  rw [if_pos hd, sd_end h hj, defS_t hv, defB_t hv]
theorem em_f' {s : AS} {i j : Int} {w v : BK} (h : I74d s i (w, v, j)) (hj : ¬ j < (U74 s i).length) (hd : (defF (X74 s i)).2 = true) (hv : ¬ (defF (X74 s i)).1.vec = true) :
 emS s i (X74 s i) = (wv s ((w.forget (defF (X74 s i)).1.n).put (w.forget (defF (X74 s i)).1.n).top (defF (X74 s i)).1.n) v).emit (withF (X74 s i) (w.forget (defF (X74 s i)).1.n).top (n74 s i)).1 i := by
  unfold emS preS
  rw [if_pos hd, sd_end h hj, defS_f hv, defB_f hv]
theorem st_1 {s : AS} {i : Int} (hd : (defF (X74 s i)).2 = true) (hn : ¬ nextF s.us s.ds (defF (X74 s i)).1 (i + 1) < 0) : stepA s i = emS s i (X74 s i) := by
 unfold stepA; rw [if_neg (fun e => hn e.2)]
theorem st_2 {s : AS} {i : Int} (hd : (defF (X74 s i)).2 = true) (hn : nextF s.us s.ds (defF (X74 s i)).1 (i + 1) < 0) : stepA s i = dropA (emS s i (X74 s i)) (defF (X74 s i)).1 := by
 unfold stepA; rw [if_pos ⟨hd, hn⟩]
noncomputable def L74 (s : AS) (i : Int) : LSpec := ⟨[.ptr 0 0 0, kz i], [.row [.mp 1, .mp 2, .rd (.sl 15 (List.map HI.pv (s).code)), .slc 3 0 (s).L.length, .slc 4 0 (s).fr.length, .ptr 5 0 0, .ptr 6 0 0], .map MTS (s).us none, .map MTS (s).ds none, .vec 15 (List.map HI.pv (s).L), .vec 1 (List.map ipv (s).fr), .row [.bool (s).w.vec, .mp 7, .mp 8, .mp 9, .mp 10, .mp 11], .row [.bool (s).v.vec, .mp 12, .mp 13, .mp 14, .mp 15, .mp 16], .map MIB (s).w.free none, .map MII (s).w.holds none, .map MII (s).w.at_ none, .map MII (s).w.slot none, .map MIB (s).w.slots none, .map MIB (s).v.free none, .map MII (s).v.holds none, .map MII (s).v.at_ none, .map MII (s).v.slot none, .map MIB (s).v.slots none], [some (.row [.mp 1, .mp 2, .rd (.sl 15 (List.map HI.pv (stepA s i).code)), .slc 17 0 (stepA s i).L.length, .slc 18 0 (stepA s i).fr.length, .ptr 5 0 0, .ptr 6 0 0]), some (.map MTS (stepA s i).us none), some (.map MTS (stepA s i).ds none), none, none, some (.row [.bool (stepA s i).w.vec, .mp 7, .mp 8, .mp 9, .mp 10, .mp 11]), some (.row [.bool (stepA s i).v.vec, .mp 12, .mp 13, .mp 14, .mp 15, .mp 16]), some (.map MIB (stepA s i).w.free none), some (.map MII (stepA s i).w.holds none), some (.map MII (stepA s i).w.at_ none), some (.map MII (stepA s i).w.slot none), some (.map MIB (stepA s i).w.slots none), some (.map MIB (stepA s i).v.free none), some (.map MII (stepA s i).v.holds none), some (.map MII (stepA s i).v.at_ none), some (.map MII (stepA s i).v.slot none), some (.map MIB (stepA s i).v.slots none)], [.vec 15 (List.map HI.pv (stepA s i).L), .vec 1 (List.map ipv (stepA s i).fr)], .tup []⟩
set_option maxHeartbeats 20000000 in
theorem s74 (s : AS) (i : Int) (hs : StepOk s i) : LSpec.ok Tryz.prog GG 74 (L74 s i) := by
 refine fn_spec mix k74 _ rfl rfl (Tab.ok (l := [(34, S34), (33, S33), (38, S38), (55, S55), (120, S120), (121, S121), (122, S122), (123, S123), (124, S124), (125, S125)]) ⟨t34, t33, t38, t55, t120, t121, t122, t123, t124, t125, trivial⟩) (LA74 s i) noJ ?_
 repeat' ((conv => whnf); first
  | exact trivial
  | with_reducible first | refine aj ?_ | refine ai rfl ?_ | refine ai ⟨rfl, rfl⟩ ?_
  | ((with_reducible refine ai ?_ ?_); focus exact w3)
  | refine exI (x := ULift.up _) ⟨rfl, (by have := hs.i0; have := hs.i1; have := hs.c; (try simp only [I74a, I74c, I74d, List.length_map] at *); omega), pv_get _ _ _ (by have := hs.i0; have := hs.i1; have := hs.c; (try simp only [I74a, I74c, I74d, List.length_map] at *); omega)⟩ ?_
  | with_reducible first | refine And.intro ?_ ?_ | refine asL_mk ?_ | refine exI (i64_in (by omega) (by omega)) ?_
  | refine exI (x := ULift.up _) (Eq.refl _) ?_
  | refine exI (x := ULift.up _) ⟨rfl, by omega, Eq.refl _⟩ ?_
  | exact nx
  | ((with_reducible intro h); try dsimp only at h))
 any_goals ((conv => whnf); refine exI (x := MBM) trivial ?_)
 repeat' ((conv => whnf); first
  | exact trivial
  | with_reducible first | refine aj ?_ | refine ai rfl ?_ | refine ai ⟨rfl, rfl⟩ ?_
  | ((with_reducible refine ai ?_ ?_); focus exact w3)
  | refine And.intro (Sd.mk (p := MapTy.one MII = _ ∧ _) ⟨rfl, rfl⟩) ?_
  | refine And.intro (Sd.mk (p := MapTy.vone MII = _ ∧ _) ⟨rfl, rfl⟩) ?_
  | refine And.intro (Sd.mk (p := MapTy.one MIB = _ ∧ _) ⟨rfl, rfl⟩) ?_
  | refine And.intro (Sd.mk (p := MapTy.vone MIB = _ ∧ _) ⟨rfl, rfl⟩) ?_
  | apply exI (x := (ULift.up (_ : Bool) : ULift.{1} Bool)) trivial
  | apply exI (x := (ULift.up (_ : Int) : ULift.{1} Int)) trivial
  | with_reducible first | refine all74a ?_ | refine all74d ?_ | apply exW (γ := Ca74) (c := (_, _)) | apply exW (γ := Int) (c := _) | apply exW (γ := Cd74) (c := (⟨_, _, _, _, _, _⟩, ⟨_, _, _, _, _, _⟩, _)) | refine exI (x := MIB) trivial ?_ | refine exI (x := subM) trivial ?_ | refine And.intro (Sd.mk hole_no) ?_ | refine And.intro (Sd.mk hole_yes) ?_ | refine And.intro (Sd.mk (p := MapTy.one MBM = _ ∧ _) ⟨rfl, rfl⟩) ?_
  | apply exI (x := (ULift.up (_ : Bool) : ULift.{1} Bool)) trivial
  | apply exI (x := (ULift.up (_ : BM) : ULift.{1} BM)) trivial
  | with_reducible refine And.intro (Sd.mk (p := Option.isSome _ = true) (sa_b (by with_reducible assumption))) ?_
  | refine Exists.intro _ (And.intro (Sd.mk ⟨sa_b (by with_reducible assumption), rfl, fun _ _ h => h⟩) ?_)
  | with_reducible refine exI (i64_in (by have := hs.i0; have := hs.i1; have := hs.c; (try simp only [I74a, I74c, I74d, List.length_map] at *); omega) (by have := hs.i0; have := hs.i1; have := hs.c; (try simp only [I74a, I74c, I74d, List.length_map] at *); omega)) ?_
  | refine exI (x := ULift.up _) (pv_get0 _ _ _ (by have := hs.i0; have := hs.i1; have := hs.c; (try simp only [I74a, I74c, I74d, List.length_map] at *); omega)) ?_
  | refine exI (x := ULift.up _) ⟨rfl, (by have := hs.i0; have := hs.i1; have := hs.c; (try simp only [I74a, I74c, I74d, List.length_map] at *); omega), pv_get _ _ _ (by have := hs.i0; have := hs.i1; have := hs.c; (try simp only [I74a, I74c, I74d, List.length_map] at *); omega)⟩ ?_
  | refine exI (x := ULift.up (n74 s i)) nm_74 ?_
  | refine And.intro (Sd.mk (p := Option.isSome _ = true) (hs.p _ (nth_mem _ _ (by have := hs.i0; have := hs.i1; have := hs.c; (try simp only [I74a, I74c, I74d, List.length_map] at *); omega)))) ?_
  | with_reducible refine And.intro (Sd.mk (p := okT _ _ ∧ okT _ _) (hs.u _)) ?_
  | refine And.intro (Sd.mk (p := List.Nodup _ ∧ _) (tk_v hs (by assumption) (by assumption) (by assumption) (by assumption))) ?_
  | refine And.intro (Sd.mk (p := List.Nodup _ ∧ _) (tk_w hs (by assumption) (by assumption) (by assumption) (by assumption))) ?_
  | refine And.intro (Sd.mk (p := _ ≤ 1000000 ∧ _) ⟨hs.L, hs.f⟩) ?_
  | with_reducible first | refine And.intro (Sd.mk (p := (_ : Int) ≤ _ ∧ _) (by have := hs.i0; have := hs.i1; have := hs.c; (try simp only [I74a, I74c, I74d, List.length_map] at *); omega)) ?_ | refine And.intro ?_ ?_ | refine asL_mk ?_ | refine exI (i64_in (by omega) (by omega)) ?_
  | refine exI (x := ULift.up _) (Eq.refl _) ?_
  | refine exI (x := ULift.up _) ⟨rfl, by omega, Eq.refl _⟩ ?_
  | exact nx
  | ((with_reducible intro h); try dsimp only at h))
 all_goals (refine Sd.mk ?_)
 all_goals first
  | exact pres_74 hs (by assumption) (by assumption)
  | exact hs.u _
  | exact sl_74
  | exact ⟨⟨hi_flatS _, trivial, trivial⟩, trivial, trivial⟩
  | exact sa_0 both_2
  | exact sb_0 (by assumption)
  | exact sa_go (by assumption) (by assumption) both_put
  | exact sa_go (by assumption) (by assumption) (fun h => h)
  | exact sc_0
  | exact sc_go (by assumption) (by assumption)
  | exact sn_a (by assumption)
  | exact sn_b (by assumption) rfl
  | exact sn_c (by assumption) (by assumption) rfl
  | exact sn_d (by assumption) (by assumption) (nameA_t (by assumption))
  | exact sn_d (by assumption) (by assumption) (nameA_f (by assumption))
  | exact sn_e (by assumption) (by assumption)
  | exact sn_f (by assumption) (by assumption)
  | exact sd_0
  | exact sd_go (by assumption) (by assumption) ((du_1 (by assumption)).trans (dropA_t (by assumption)))
  | exact sd_go (by assumption) (by assumption) ((du_1 (by assumption)).trans (dropA_f (by assumption)))
  | exact sd_go (by assumption) (by assumption) ((du_2 (by assumption) (by assumption)).trans (dropA_t (by assumption)))
  | exact sd_go (by assumption) (by assumption) ((du_2 (by assumption) (by assumption)).trans (dropA_f (by assumption)))
  | exact sd_go (by assumption) (by assumption) (du_3 (by assumption) (by assumption))
  | exact sd_go (by assumption) (by assumption) (du_4 (by assumption) (by assumption))
  | (rw [st_0 (s := s) (i := i) (by assumption) (by assumption) (by assumption)] <;> first | rfl | exact ⟨rfl, rfl⟩)
  | (rw [st_1 (s := s) (i := i) (by assumption) (by assumption), em_t (s := s) (i := i) (by assumption) (by assumption) (by assumption) (by assumption)] <;> first | rfl | exact ⟨rfl, rfl⟩)
  | (rw [st_2 (s := s) (i := i) (by assumption) (by assumption), em_t (s := s) (i := i) (by assumption) (by assumption) (by assumption) (by assumption), dropA_t (by assumption)] <;> first | rfl | exact ⟨rfl, rfl⟩)
  | (rw [st_1 (s := s) (i := i) (by assumption) (by assumption), em_f' (s := s) (i := i) (by assumption) (by assumption) (by assumption) (by assumption)] <;> first | rfl | exact ⟨rfl, rfl⟩)
  | (rw [st_2 (s := s) (i := i) (by assumption) (by assumption), em_f' (s := s) (i := i) (by assumption) (by assumption) (by assumption) (by assumption), dropA_f (by assumption)] <;> first | rfl | exact ⟨rfl, rfl⟩)
noncomputable def S74 : SFn
 | [.ptr p _ _, .int .i64 i], k => asAS p fun s => .req (StepOk s i) (k (L74 s i))
 | _, _ => .fail
theorem t74 : FnS Tryz.prog GG 74 S74 := by
 intro args k gt go R v os n h
 unfold S74 at h
 split at h
 . obtain ⟨s, _, h⟩ := asAS_inv h
   obtain ⟨hp, _, h⟩ := req_inv h
   exact ⟨_, _, s74 s _ hp, h⟩
 . cases h
end Go.Proofs.YtlahifihaeafbaaGreatDoor
namespace Go.Proofs.YtlahifihaeafbaaGreatDoor
open Go Go.Sx
def c95 : MC := .seq (.reg [oo 1 (.box (.t 0)),oo 2 (.mv (.k (.val .nilFunc)))]) (.seq (.reg [oo 3 (.mkf (.func 140) [] [(.t 1)]),om 2 3]) (.ret))
theorem k95 : FnOk Tryz.prog 95 4 c95 [.t 2] := fk Tryz.func95 ⟨tv,⟨tv,tv⟩⟩
noncomputable def L95 (es : TM) : LSpec := ⟨[.mp 0], [.map MTS es none], [some (.map MTS es none)], [.row [.mp 0]], .fn (.func 140) [] [.ptr 1 0 0]⟩
theorem s95 (es : TM) : LSpec.ok Tryz.prog GG 95 (L95 es) := by
 refine fn_spec mix k95 _ rfl rfl (Tab.ok (l := []) trivial) noL noJ ?_
 repeat' ((conv => whnf); first
  | exact trivial
  | with_reducible first | refine aj ?_ | refine ai rfl ?_ | refine ai ⟨rfl, rfl⟩ ?_
  | ((with_reducible refine ai ?_ ?_); focus exact w3)
  | refine exI (x := MTS) trivial ?_
  | with_reducible first | refine And.intro ?_ ?_ | refine asL_mk ?_ | refine exI (i64_in (by omega) (by omega)) ?_
  | refine exI (x := ULift.up _) (Eq.refl _) ?_
  | refine exI (x := ULift.up _) ⟨rfl, by omega, Eq.refl _⟩ ?_
  | exact ny
  | ((with_reducible intro h); try dsimp only at h))
 all_goals (refine Sd.mk ?_)
noncomputable def S95 : SFn
 | [.mp p], k => asMap MTS p fun es => k (L95 es)
 | _, _ => .fail
theorem t95 : FnS Tryz.prog GG 95 S95 := by
 intro args k gt go R v os n h
 unfold S95 at h
 split at h
 . obtain ⟨es, _, h⟩ := asMap_inv h
   exact ⟨_, _, s95 es, h⟩
 . cases h
end Go.Proofs.YtlahifihaeafbaaGreatDoor
namespace Go.Proofs.YtlahifihaeafbaaGreatDoor
open Go Go.Sx
theorem cmpR_tri (a b : HR) : cmpR a b < 0 ∨ cmpR b a < 0 ∨ a = b := by
 obtain ⟨v, n⟩ := a; obtain ⟨w, m⟩ := b
 cases v <;> cases w <;> simp [cmpR, cmpI] <;> (repeat' split) <;> omega
theorem cmpR_irr (a : HR) : ¬ cmpR a a < 0 := by
 obtain ⟨v, n⟩ := a
 simp [cmpR, cmpI]
theorem cmpR_trans {a b c : HR} (h : cmpR a b < 0) (g : cmpR b c < 0) : cmpR a c < 0 := by
 obtain ⟨v, n⟩ := a; obtain ⟨w, m⟩ := b; obtain ⟨u, k⟩ := c
 revert h g
 cases v <;> cases w <;> cases u <;> simp [cmpR, cmpI] <;> (repeat' split) <;> omega
abbrev geR (a b : HR) : Prop := ¬ cmpR a b < 0
theorem geR_trans {a b c : HR} (h : geR a b) (g : geR b c) : geR a c := by
 intro k
 rcases cmpR_tri a b with e | e | e
 . exact h e
 . exact g (cmpR_trans e k)
 . subst e; exact g k
theorem insR_perm (A : List HR) (x : HR) : (insR A x).Perm (x :: A) := by
 induction A with
 | nil => exact .refl _
 | cons y r ih =>
   unfold insR; split
   . exact (ih.cons y).trans (.swap x y r)
   . exact .refl _
theorem insR_pw (A : List HR) (x : HR) (h : A.Pairwise geR) : (insR A x).Pairwise geR := by
 induction A with
 | nil => exact List.pairwise_singleton _ _
 | cons y r ih =>
   rw [List.pairwise_cons] at h
   unfold insR; split
   . next hc =>
     rw [List.pairwise_cons]
     refine ⟨fun z hz => ?_, ih h.2⟩
     rcases List.mem_cons.1 ((insR_perm r x).mem_iff.1 hz) with e | e
     . subst e; exact fun k => cmpR_irr _ (cmpR_trans hc k)
     . exact h.1 z e
   . next hc =>
     rw [List.pairwise_cons]
     refine ⟨fun z hz => ?_, List.pairwise_cons.2 h⟩
     rcases List.mem_cons.1 hz with e | e
     . subst e; exact hc
     . exact geR_trans hc (h.1 z e)
theorem fold_perm (L : List HR) : ∀ A, (L.foldl insR A).Perm (L ++ A) := by
 induction L with
 | nil => intro A; exact .refl _
 | cons x r ih => intro A; exact (ih (insR A x)).trans (((insR_perm A x).append_left r).trans List.perm_middle)
theorem fold_pw (L : List HR) : ∀ A, A.Pairwise geR -> (L.foldl insR A).Pairwise geR := by
 induction L with
 | nil => intro A h; exact h
 | cons x r ih => intro A h; exact ih _ (insR_pw A x h)
theorem sortR_perm (L : List HR) : (sortR L).Perm L := by
 unfold sortR
 exact (List.reverse_perm _).trans (by simpa using fold_perm L [])
theorem sortR_eq {L M : List HR} (h : L.Perm M) : sortR L = sortR M := by
 unfold sortR
 congr 1
 refine List.Perm.eq_of_pairwise (le := geR) ?_ (fold_pw L [] List.Pairwise.nil) (fold_pw M [] List.Pairwise.nil) ?_
 . intro a b _ _ h1 h2
   rcases cmpR_tri a b with e | e | e
   . exact absurd e h1
   . exact absurd e h2
   . exact e
 . exact (fold_perm L []).trans (((h.append_right [])).trans (fold_perm M []).symm)
end Go.Proofs.YtlahifihaeafbaaGreatDoor
namespace Go.Proofs.YtlahifihaeafbaaGreatDoor
open Go Go.Sx
def c140 : MC := .seq (.reg [oo 4 (.ld none (.t 1)),oo 5 (.rngm (.t 4))]) (.blk 0 (.loop 0 (.seq (.reg [oo 6 (.nxt (.t 5)),oo 7 (.ext 0 (.t 6))]) (.seq (.cond (.t 7) (.skip) (.exit 0)) (.blk 1 (.seq (.reg [oo 8 (.ent (.t 5)),oo 9 (.ext 0 (.t 8)),oo 3 (.alloc [.ff,(kz 0)]),o none (.st (some 2) (.t 3) (.t 9))]) (.seq (.reg [om 10 0,oo 11 (.ld (some 2) (.t 3)),oo 12 (.call (.t 10) [(.t 11)]),oo 13 (.not (.t 12))]) (.cond (.t 13) (.ret) (.skip)))))))))
theorem k140 : FnOk Tryz.prog 140 14 c140 [] := fk Tryz.func140 ⟨tv,⟨tv,⟨⟨tv,tv⟩,⟨tv,⟨tv,⟨tv,tv⟩⟩⟩⟩⟩⟩
def c168 : MC := .seq (.reg [oo 2 (.box (.t 0)),oo 4 (.mv (.k (.val (.slice none 0 0))))]) (.seq (.seq (.reg [om 6 1]) (.blk 0 (.rng (.t 6) [7] (.reg [oo 5 (.alloc [.ff,(kz 0)]),o none (.st (some 2) (.t 5) (.t 7))]) (.blk 1 (.reg [oo 8 (.ld none (.t 2)),oo 9 (.ld (some 2) (.t 5)),oo 10 (.bsl 2 1 [.ff,(kz 0)] [(0,(.t 9))]),oo 11 (.app 2 16 (.t 8) (.t 10)),o none (.st (some 1) (.t 2) (.t 11))])) 140 14 c140))) (.seq (.reg [oo 12 (.ld none (.t 2)),om 4 12]) (.ret)))
theorem k168 : FnOk Tryz.prog 168 13 c168 [.t 4] := .of Tryz.func168 (by kernel_rfl) (by kernel_rfl) (by kernel_rfl) (by kernel_rfl) ⟨trivial, ⟨⟨trivial, ⟨trivial, trivial, k140.it, k140.its⟩⟩, ⟨trivial, trivial⟩⟩⟩
def c138 : MC := .seq (.reg [oo 2 (.mv (.k (.val (.slice none 0 0))))]) (.seq (.reg [om 3 0,oo 4 (.call (.k (.fn (.func 168) [] [])) [(.k (.val (.slice none 0 0))),(.t 3)]),om 2 4]) (.ret))
theorem k138 : FnOk Tryz.prog 138 5 c138 [.t 2] := fk Tryz.func138 ⟨tv,⟨tv,tv⟩⟩
def c94 : MC := .seq (.reg [oo 4 (.mv (.k (.val (.slice none 0 0))))]) (.seq (.reg [om 6 0,oo 7 (.call (.k (.fn (.func 138) [] [])) [(.t 6)]),om 5 7]) (.gh (.opn 2) (.seq (.reg [om 8 5,om 9 1,oo 10 (.call (.k (.fn (.func 139) [] [])) [(.t 8),(.t 9)])]) (.seq (.reg [om 11 5,om 4 11]) (.ret)))))
theorem k94 : FnOk Tryz.prog 94 12 c94 [.t 4] := fk Tryz.func94 ⟨tv,⟨tv,⟨tv,⟨tv,tv⟩⟩⟩⟩
def c51 : MC := .seq (.reg [oo 4 (.mv (.k (.val (.slice none 0 0))))]) (.seq (.reg [om 5 0,oo 6 (.call (.k (.fn (.func 95) [] [])) [(.t 5)]),om 7 1,oo 8 (.call (.k (.fn (.func 94) [] [])) [(.t 6),(.t 7)]),om 4 8]) (.ret))
theorem k51 : FnOk Tryz.prog 51 9 c51 [.t 4] := fk Tryz.func51 ⟨tv,⟨tv,tv⟩⟩
abbrev K1 (es : TM) : List HR := es.map Prod.fst
def prm (K : List HR) (L : List (List PV)) : Prop := ∃ M : List HR, M.Perm K ∧ L = M.map HR.pv
abbrev C168 := Nat × Go.Loop × List HR × Option HR × List HR
def inv168 (es : TM) : C168 -> St
 | (lp, r, left, cur, acc) => ⟨[(5, .ptr 4 0 0), (0, .fn (.yield lp) [] [])],
    [(0, some (.row [.mp 1])), (1, some (.map MTS es (some (4, left, cur)))), (2, some (.row [.slc 5 0 acc.length])), (3, some (.lrec lp r .ready)), (4, some (.itr 1)), (5, some (.vec 2 (acc.map HR.pv)))], 6⟩
def I168 (es : TM) : C168 -> C168 -> Prop
 | (lp0, r0, _), (lp, r, left, _, acc) => lp = lp0 ∧ r = r0 ∧ (acc ++ left).Perm (K1 es) ∧ (K1 es).Nodup ∧ es.length ≤ 1000000
def LA168 (es : TM) : Nat -> LAnn := fun _ => .inv C168 (I168 es) (inv168 es) (fun c => c.2.2.1.length)
theorem all168 {es : TM} {lp r x} {Q : C168 -> Prop} (h : ∀ left cur acc, I168 es (lp, r, x) (lp, r, left, cur, acc) -> Q (lp, r, left, cur, acc)) : ∀ c, I168 es (lp, r, x) c -> Q c := fun ⟨lp', r', left, cur, acc⟩ hI => by
 obtain ⟨h1, h2, h3⟩ := hI
 subst h1; subst h2
 exact h _ _ _ ⟨rfl, rfl, h3⟩
theorem exS168 {es : TM} {lp r x left cur acc} (_ : I168 es (lp, r, x) (lp, r, left, cur, acc)) {k : HR} (_ : k ∈ left) {p q : C168 -> Prop} (h : p (lp, r, aerase MTS k left, some k, acc ++ [k])) (h2 : q (lp, r, aerase MTS k left, some k, acc ++ [k])) : ∃ c, p c ∧ q c := ⟨_, h, h2⟩
theorem er_perm {k : HR} : ∀ {l : List HR}, k ∈ l -> l.Nodup -> l.Perm (k :: aerase MTS k l) ∧ (aerase MTS k l).length < l.length
 | [], h, _ => by cases h
 | j :: l, h, hn => by
   rw [List.nodup_cons] at hn
   have he : ∀ (l : List HR), k ∉ l -> aerase MTS k l = l := by
    intro l
    induction l with
    | nil => intro _; simp [aerase]
    | cons a l ih =>
      intro hk
      simp only [List.mem_cons, not_or] at hk
      simp only [aerase]
      split
      . next e _ => exact absurd e.symm hk.1
      . rw [ih hk.2]
   simp only [aerase]
   split
   . next e _ =>
     subst e
     rw [he l hn.1]
     exact ⟨.refl _, by simp⟩
   . next e _ =>
     have hk : k ∈ l := by
      rcases List.mem_cons.1 h with h | h
      . exact absurd h.symm e
      . exact h
     obtain ⟨h1, h2⟩ := er_perm hk hn.2
     exact ⟨(h1.cons j).trans (.swap _ _ _), by simpa using h2⟩
attribute [local irreducible] sortR Go.Sx.aerase
theorem ke_0 {es : TM} {lp r} (h : (K1 es).Nodup) (h2 : es.length ≤ 1000000) : I168 es (lp, r, K1 es, none, []) (lp, r, K1 es, none, []) := ⟨rfl, rfl, .refl _, h, h2⟩
theorem ke_go {es : TM} {lp r x left cur acc} {k : HR} (h : I168 es (lp, r, x) (lp, r, left, cur, acc)) (hk : k ∈ left) : I168 es (lp, r, x) (lp, r, aerase MTS k left, some k, acc ++ [k]) ∧ (aerase MTS k left).length < left.length := by
 obtain ⟨_, _, h3, h4, h5⟩ := h
 have hn : left.Nodup := (List.nodup_append.1 (h3.nodup_iff.2 h4)).2.1
 obtain ⟨e1, e2⟩ := er_perm hk hn
 refine ⟨⟨rfl, rfl, ?_, h4, h5⟩, e2⟩
 rw [List.append_assoc]
 exact (e1.symm.append_left acc).trans h3
theorem ke_end {es : TM} {lp r x left cur acc} (h : I168 es (lp, r, x) (lp, r, left, cur, acc)) (hk : ∀ p, p ∈ es -> p.1 ∉ left) : acc.Perm (K1 es) := by
 obtain ⟨_, _, h3, h4, h5⟩ := h
 have : left = [] := by
  cases left with
  | nil => rfl
  | cons a l =>
    have ha : a ∈ K1 es := h3.subset (by simp)
    obtain ⟨p, hp, e⟩ := List.mem_map.1 ha
    exact absurd (by rw [<- e] at *; simp) (hk p hp)
 subst this
 simpa using h3
theorem ke_len {es : TM} {lp r x left cur acc} (h : I168 es (lp, r, x) (lp, r, left, cur, acc)) (hk : ∀ p, p ∈ es -> p.1 ∉ left) : es.length = acc.length := by
 have := (ke_end h hk).length_eq
 simpa using this.symm
theorem ke_b {es : TM} {lp r x left cur acc} {X : List (List SV)} (h : I168 es (lp, r, x) (lp, r, left, cur, acc)) (hX : X.length = 1) : (Rows.len (Sum.inr (List.map HR.pv acc)) + Rows.len (Sum.inl X)) * 16 ≤ 2 ^ 46 := by
 obtain ⟨_, _, h3, h4, h5⟩ := h
 have := h3.length_eq
 simp only [Rows.len, List.length_map, List.length_append, hX] at *; omega
theorem ke_d {acc : List HR} {k : HR} : 2 = 2 ∧ List.map HR.pv (acc ++ [k]) = List.map HR.pv acc ++ [[PV.bool k.vec, PV.int IntKind.i64 k.n]] := ⟨rfl, by rw [List.map_append]; rfl⟩
theorem ke_e {es : TM} {lp r x left cur acc} (h : I168 es (lp, r, x) (lp, r, left, cur, acc)) (hk : ∀ p, p ∈ es -> p.1 ∉ left) : 2 = 2 ∧ prm (K1 es) (List.map HR.pv acc) := ⟨rfl, acc, ke_end h hk, rfl⟩
theorem ke_f {es : TM} {lp r x left cur acc} (h : I168 es (lp, r, x) (lp, r, left, cur, acc)) (hk : ∀ p, p ∈ es -> p.1 ∉ left) : 0 = 0 ∧ es.length = acc.length := ⟨rfl, ke_len h hk⟩
noncomputable def L168 (es : TM) : LSpec := ⟨[.val (.slice none 0 0), .fn (.func 140) [] [.ptr 0 0 0]], [.row [.mp 1], .map MTS es none], [some (.row [.mp 1]), some (.map MTS es none)], [.vex 2 (prm (K1 es))], .slc 2 0 es.length⟩
set_option maxHeartbeats 2000000 in
theorem s168 (es : TM) (hn : (K1 es).Nodup) (hl : es.length ≤ 1000000) : LSpec.ok Tryz.prog GG 168 (L168 es) := by
 refine fn_spec mix k168 _ rfl rfl (Tab.ok (l := []) trivial) (LA168 es) noJ ?_
 repeat' ((conv => whnf); first
  | exact trivial
  | with_reducible first | refine aj ?_ | refine ai rfl ?_ | refine ai ⟨rfl, rfl⟩ ?_
  | ((with_reducible refine ai ?_ ?_); focus exact w3)
  | with_reducible first | refine all168 ?_ | refine exS168 (by with_reducible assumption) (by with_reducible assumption) ?_ ?_ | apply exW (γ := C168) (c := (_, _, K1 es, none, [])) | refine ai ⟨rfl, rfl, rfl⟩ ?_ | refine And.intro ?_ ?_ | refine asL_mk ?_ | refine exI (i64_in (by omega) (by omega)) ?_
  | refine exI (x := ULift.up _) (Eq.refl _) ?_
  | refine exI (x := ULift.up _) ⟨rfl, by omega, Eq.refl _⟩ ?_
  | exact nx
  | ((with_reducible intro h); try dsimp only at h))
 all_goals (refine Sd.mk ?_)
 all_goals first
  | exact ke_0 hn hl
  | exact ke_go (by assumption) (by assumption)
  | exact ke_a (by assumption)
  | exact ke_b (by assumption) rfl
  | exact ke_c rfl
  | exact ke_d
  | exact ke_e (by assumption) (by assumption)
  | exact ke_f (by assumption) (by assumption)
noncomputable def S168 : SFn
 | [.val _, .fn (.func 140) [] [.ptr p _ _]], k => asRow p fun rp => match rp with
   | .agg [.mp m] => asMap MTS m fun es => .req ((K1 es).Nodup ∧ es.length ≤ 1000000) (k (L168 es))
   | _ => .fail
 | _, _ => .fail
theorem t168 : FnS Tryz.prog GG 168 S168 := by
 intro args k gt go R v os n h
 unfold S168 at h
 split at h
 . obtain ⟨_, _, h⟩ := asRow_inv h
   split at h
   . obtain ⟨es, _, h⟩ := asMap_inv h
     obtain ⟨hp, _, h⟩ := req_inv h
     exact ⟨_, _, s168 es hp.1 hp.2, h⟩
   . cases h
 . cases h
noncomputable def L138 (es : TM) : LSpec := ⟨[.fn (.func 140) [] [.ptr 0 0 0]], [.row [.mp 1], .map MTS es none], [some (.row [.mp 1]), some (.map MTS es none)], [.vex 2 (prm (K1 es))], .slc 2 0 es.length⟩
theorem s138 (es : TM) (hn : (K1 es).Nodup) (hl : es.length ≤ 1000000) : LSpec.ok Tryz.prog GG 138 (L138 es) := by
 refine fn_spec mix k138 _ rfl rfl (Tab.ok (l := [(168, S168)]) ⟨t168, trivial⟩) noL noJ ?_
 repeat' ((conv => whnf); first
  | exact trivial
  | with_reducible first | refine aj ?_ | refine ai rfl ?_ | refine ai ⟨rfl, rfl⟩ ?_
  | ((with_reducible refine ai ?_ ?_); focus exact w3)
  | with_reducible first | refine And.intro (Sd.mk (p := List.Nodup _ ∧ _) ⟨hn, by omega⟩) ?_ | refine And.intro ?_ ?_ | refine asL_mk ?_ | refine exI (i64_in (by omega) (by omega)) ?_
  | refine exI (x := ULift.up _) (Eq.refl _) ?_
  | refine exI (x := ULift.up _) ⟨rfl, by omega, Eq.refl _⟩ ?_
  | exact ny
  | ((with_reducible intro h); try dsimp only at h))
 all_goals (refine Sd.mk ?_)
 all_goals first
  | exact ⟨rfl, fun _ h => h⟩
noncomputable def S138 : SFn
 | [.fn (.func 140) [] [.ptr p _ _]], k => asRow p fun rp => match rp with
   | .agg [.mp m] => asMap MTS m fun es => .req ((K1 es).Nodup ∧ es.length ≤ 1000000) (k (L138 es))
   | _ => .fail
 | _, _ => .fail
theorem t138 : FnS Tryz.prog GG 138 S138 := by
 intro args k gt go R v os n h
 unfold S138 at h
 split at h
 . obtain ⟨_, _, h⟩ := asRow_inv h
   split at h
   . obtain ⟨es, _, h⟩ := asMap_inv h
     obtain ⟨hp, _, h⟩ := req_inv h
     exact ⟨_, _, s138 es hp.1 hp.2, h⟩
   . cases h
 . cases h
theorem all94 {K : List HR} {Q : List (List PV) -> Prop} (h : ∀ M : List HR, M.Perm K -> Q (M.map HR.pv)) : ∀ L, prm K L -> Q L := fun L ⟨M, h1, h2⟩ => by subst h2; exact h M h1
theorem so_sm {es : TM} {M : List HR} (h : M.Perm (K1 es)) : sortR (K1 es) = sortR M := (sortR_eq h).symm
theorem so_l {es : TM} {M : List HR} (h : M.Perm (K1 es)) : M.length = es.length := by simpa using h.length_eq
theorem so_12 {es : TM} {M : List HR} (h : M.Perm (K1 es)) (h2 : es.length ≤ 12) : M.length ≤ 12 := by rw [so_l h]; exact h2
theorem so_ll {es : TM} {M : List HR} (h : M.Perm (K1 es)) : 0 = 0 ∧ M.length = es.length := ⟨rfl, so_l h⟩
theorem so_vv {es : TM} {M : List HR} (h : M.Perm (K1 es)) : 2 = 2 ∧ List.map HR.pv (sortR (K1 es)) = List.map HR.pv (sortR M) := by rw [so_sm h]; exact ⟨rfl, rfl⟩
noncomputable def L94 (es : TM) : LSpec := ⟨[.fn (.func 140) [] [.ptr 0 0 0], .fn (.func 52) [] []], [.row [.mp 1], .map MTS es none], [some (.row [.mp 1]), some (.map MTS es none)], [.vec 2 ((sortR (K1 es)).map HR.pv)], .slc 2 0 es.length⟩
theorem s94 (es : TM) (hn : (K1 es).Nodup) (hl : es.length ≤ 12) : LSpec.ok Tryz.prog GG 94 (L94 es) := by
 refine fn_spec mix k94 _ rfl rfl (Tab.ok (l := [(138, S138), (139, S139)]) ⟨t138, t139, trivial⟩) noL noJ ?_
 repeat' ((conv => whnf); first
  | exact trivial
  | with_reducible first | refine aj ?_ | refine ai rfl ?_ | refine ai ⟨rfl, rfl⟩ ?_
  | ((with_reducible refine ai ?_ ?_); focus exact w3)
  | with_reducible first | refine And.intro (Sd.mk (p := List.Nodup _ ∧ _) ⟨hn, by omega⟩) ?_ | refine all94 ?_ | refine And.intro (Sd.mk (p := _ ≤ 12) (so_12 (by assumption) hl)) ?_ | refine ai (so_ll (by assumption)) ?_ | refine And.intro ?_ ?_ | refine asL_mk ?_ | refine exI (i64_in (by omega) (by omega)) ?_
  | refine exI (x := ULift.up _) (Eq.refl _) ?_
  | refine exI (x := ULift.up _) ⟨rfl, by omega, Eq.refl _⟩ ?_
  | exact ny
  | ((with_reducible intro h); try dsimp only at h))
 all_goals (refine Sd.mk ?_)
 all_goals first
  | exact so_vv (by assumption)
noncomputable def S94 : SFn
 | [.fn (.func 140) [] [.ptr p _ _], .fn (.func 52) [] []], k => asRow p fun rp => match rp with
   | .agg [.mp m] => asMap MTS m fun es => .req ((K1 es).Nodup ∧ es.length ≤ 12) (k (L94 es))
   | _ => .fail
 | _, _ => .fail
theorem t94 : FnS Tryz.prog GG 94 S94 := by
 intro args k gt go R v os n h
 unfold S94 at h
 split at h
 . obtain ⟨_, _, h⟩ := asRow_inv h
   split at h
   . obtain ⟨es, _, h⟩ := asMap_inv h
     obtain ⟨hp, _, h⟩ := req_inv h
     exact ⟨_, _, s94 es hp.1 hp.2, h⟩
   . cases h
 . cases h
noncomputable def L51 (es : TM) : LSpec := ⟨[.mp 0, .fn (.func 52) [] []], [.map MTS es none], [some (.map MTS es none)], [.vec 2 ((sortR (K1 es)).map HR.pv)], .slc 1 0 es.length⟩
theorem s51 (es : TM) (hn : (K1 es).Nodup) (hl : es.length ≤ 12) : LSpec.ok Tryz.prog GG 51 (L51 es) := by
 refine fn_spec mix k51 _ rfl rfl (Tab.ok (l := [(95, S95), (94, S94)]) ⟨t95, t94, trivial⟩) noL noJ ?_
 repeat' ((conv => whnf); first
  | exact trivial
  | with_reducible first | refine aj ?_ | refine ai rfl ?_ | refine ai ⟨rfl, rfl⟩ ?_
  | ((with_reducible refine ai ?_ ?_); focus exact w3)
  | with_reducible first | refine And.intro (Sd.mk (p := List.Nodup _ ∧ _) ⟨hn, by omega⟩) ?_ | refine And.intro ?_ ?_ | refine asL_mk ?_ | refine exI (i64_in (by omega) (by omega)) ?_
  | refine exI (x := ULift.up _) (Eq.refl _) ?_
  | refine exI (x := ULift.up _) ⟨rfl, by omega, Eq.refl _⟩ ?_
  | exact ny
  | ((with_reducible intro h); try dsimp only at h))
 all_goals (refine Sd.mk ?_)
noncomputable def S51 : SFn
 | [.mp p, .fn (.func 52) [] []], k => asMap MTS p fun es => .req ((K1 es).Nodup ∧ es.length ≤ 12) (k (L51 es))
 | _, _ => .fail
theorem t51 : FnS Tryz.prog GG 51 S51 := by
 intro args k gt go R v os n h
 unfold S51 at h
 split at h
 . obtain ⟨es, _, h⟩ := asMap_inv h
   obtain ⟨hp, _, h⟩ := req_inv h
   exact ⟨_, _, s51 es hp.1 hp.2, h⟩
 . cases h
end Go.Proofs.YtlahifihaeafbaaGreatDoor
namespace Go.Proofs.YtlahifihaeafbaaGreatDoor
open Go Go.Sx
def c53 : MC := .seq (.reg [oo 4 (.mv (.k (.val (.slice none 0 0))))]) (.seq (.reg [om 8 0,om 9 1,oo 10 (.call (.k (.fn (.func 97) [] [])) [(.t 8),(.t 9)]),om 5 10]) (.seq (.seq (.reg [om 11 5,oo 12 (.cmp .eql (.t 11) (ki (-1)))]) (.cond (.t 12) (.seq (.reg [om 13 0,om 4 13]) (.ret)) (.skip))) (.seq (.seq (.reg [om 14 5,oo 15 (.ar .add (.t 14) (ki 1)),om 6 15]) (.blk 0 (.loop 0 (.seq (.seq (.reg [om 16 6,om 17 0,oo 18 (.lenS (.t 17)),oo 19 (.cmp .lss (.t 16) (.t 18))]) (.cond (.t 19) (.skip) (.exit 0))) (.seq (.blk 1 (.seq (.reg [om 22 0,om 23 6,oo 24 (.ixa 2 (.t 22) (.t 23)),oo 25 (.ld (some 2) (.t 24)),oo 7 (.alloc [.ff,(kz 0)]),o none (.st (some 2) (.t 7) (.t 25))]) (.seq (.reg [om 26 1,oo 27 (.ld (some 2) (.t 7)),oo 28 (.call (.t 26) [(.t 27)]),oo 29 (.not (.t 28))]) (.cond (.t 29) (.seq (.reg [om 30 0,om 31 5,oo 32 (.ld (some 2) (.t 7)),oo 33 (.ixa 2 (.t 30) (.t 31)),o none (.st (some 2) (.t 33) (.t 32))]) (.reg [om 34 5,oo 35 (.ar .add (.t 34) (ki 1)),om 5 35])) (.skip))))) (.reg [om 20 6,oo 21 (.ar .add (.t 20) (ki 1)),om 6 21])))))) (.seq (.reg [om 36 0,om 37 5,oo 38 (.sls 2 (.t 36) (some (.t 37)) none),o none (.clr 2 [.bool false,.int .i64 0] (.t 38))]) (.seq (.reg [om 39 0,om 40 5,oo 41 (.sls 2 (.t 39) none (some (.t 40))),om 4 41]) (.ret))))))
theorem k53 : FnOk Tryz.prog 53 42 c53 [.t 4] := fk Tryz.func53 ⟨tv,⟨tv,⟨⟨tv,⟨⟨tv,tv⟩,tv⟩⟩,⟨⟨tv,⟨⟨tv,⟨tv,tv⟩⟩,⟨⟨tv,⟨tv,⟨⟨tv,tv⟩,tv⟩⟩⟩,tv⟩⟩⟩,⟨tv,⟨tv,tv⟩⟩⟩⟩⟩⟩
attribute [local irreducible] Go.Sx.agetD Go.Sx.aget nextF
def hr0 : HR := ⟨false, 0⟩
def keepL (us ds : TM) (i : Int) (L : List HR) : List HR := L.filter (fun r => !ddF us ds i r)
def outL (us ds : TM) (i : Int) (L : List HR) : List HR := keepL us ds i L ++ List.replicate (L.length - (keepL us ds i L).length) hr0
theorem idxP_cases (p : HR -> Bool) : ∀ (L : List HR) (s : Int), (idxP p L s = -1 ∧ L.filter (fun r => !p r) = L) ∨ ∃ k : Nat, k < L.length ∧ idxP p L s = s + k ∧ (L.take (k + 1)).filter (fun r => !p r) = L.take k := by
 intro L
 induction L with
 | nil => intro s; exact .inl ⟨rfl, rfl⟩
 | cons x r ih =>
   intro s
   by_cases hx : p x = true
   . exact .inr ⟨0, by simp, by rw [idxP, if_pos hx]; simp, by simp [hx]⟩
   . rw [idxP, if_neg hx]
     have hx : p x = false := by simpa using hx
     rcases ih (s + 1) with ⟨h1, h2⟩ | ⟨k, h1, h2, h3⟩
     . exact .inl ⟨h1, by rw [List.filter_cons_of_pos (by simp [hx]), h2]⟩
     . exact .inr ⟨k + 1, by simpa using h1, by rw [h2]; omega, by rw [List.take_succ_cons, List.filter_cons_of_pos (by simp [hx]), h3, List.take_succ_cons]⟩
theorem ip_b {p : HR -> Bool} {L : List HR} (h : L.length ≤ 1000000) : -1 ≤ idxP p L 0 ∧ idxP p L 0 < 1000000 := by
 rcases idxP_cases p L 0 with ⟨h1, _⟩ | ⟨k, h1, h2, _⟩ <;> omega
theorem de_none {L us ds i} (h : idxP (ddF us ds i) L 0 = -1) : keepL us ds i L = L := by
 rcases idxP_cases (ddF us ds i) L 0 with ⟨h1, h2⟩ | ⟨k, h1, h2, _⟩
 . exact h2
 . omega
theorem de_n1 {L us ds i} (h : idxP (ddF us ds i) L 0 = -1) : (keepL us ds i L).length = L.length := by rw [de_none h]
theorem de_n2 {L us ds i} (h : idxP (ddF us ds i) L 0 = -1) : List.map HR.pv (outL us ds i L) = List.map HR.pv L := by unfold outL; rw [de_none h, Nat.sub_self]; simp
abbrev C53 := Int × Int × List HR
def inv53 (L : List HR) (us ds : TM) (i : Int) : C53 -> St
 | (rd, w, M) => ⟨[(6, kz rd), (5, kz w), (1, .fn (.func 54) [] [.ptr 1 0 0, .ptr 2 0 0]), (0, .slc 0 0 L.length)],
 [(0, some (.vec 2 (M.map HR.pv))), (1, some (.row [.mp 3, .mp 4])), (2, some (.row [kz i])), (3, some (.map MTS us none)), (4, some (.map MTS ds none))], 5⟩
def I53 (L : List HR) (us ds : TM) (i : Int) : C53 -> Prop
 | (rd, w, M) => 0 ≤ w ∧ w < rd ∧ rd ≤ L.length ∧ L.length ≤ 1000000 ∧ M.length = L.length ∧ M.take w.toNat = keepL us ds i (L.take rd.toNat) ∧ M.drop rd.toNat = L.drop rd.toNat
theorem all53 {L us ds i} {Q : C53 -> Prop} (h : ∀ rd w M, I53 L us ds i (rd, w, M) -> Q (rd, w, M)) : ∀ c, I53 L us ds i c -> Q c := fun ⟨rd, w, M⟩ hI => h _ _ _ hI
theorem ex53 {L us ds i rd w M} (_ : I53 L us ds i (rd, w, M)) (_ : (!decide (nextF us ds (nth M rd) i < 0)) = true) {p q : C53 -> Prop} (h : p (rd + 1, w + 1, M.set (0 + w.toNat) (nth M rd))) (k : q (rd + 1, w + 1, M.set (0 + w.toNat) (nth M rd))) : ∃ c, p c ∧ q c := ⟨_, h, k⟩
theorem de_0 {L us ds i} (hl : L.length ≤ 1000000) (h : ¬ idxP (ddF us ds i) L 0 = -1) : I53 L us ds i (idxP (ddF us ds i) L 0 + 1, idxP (ddF us ds i) L 0, L) := by
 rcases idxP_cases (ddF us ds i) L 0 with ⟨h1, h2⟩ | ⟨k, h1, h2, h3⟩
 . exact absurd h1 h
 . rw [h2]
   refine ⟨by omega, by omega, by omega, hl, rfl, ?_, rfl⟩
   have e1 : ((0 : Int) + k).toNat = k := by omega
   have e2 : ((0 : Int) + k + 1).toNat = k + 1 := by omega
   rw [e1, e2]; exact h3.symm
theorem de_at {L us ds i rd w M} (hI : I53 L us ds i (rd, w, M)) (h : rd < L.length) : nth M rd = nth L rd ∧ M.drop (rd + 1).toNat = L.drop (rd + 1).toNat := by
 obtain ⟨h1, h2, h3, h4, h5, h6, h7⟩ := hI
 rw [drop_step M rd ⟨by omega, by omega⟩, drop_step L rd ⟨by omega, h⟩] at h7
 exact List.cons.inj h7
theorem de_kill {L us ds i rd w M} (hI : I53 L us ds i (rd, w, M)) (h : rd < L.length) (e : (!decide (nextF us ds (nth M rd) i < 0)) = false) : I53 L us ds i (rd + 1, w, M) ∧ ((L.length : Int) - (rd + 1)).toNat < ((L.length : Int) - rd).toNat := by
 obtain ⟨ha, hb⟩ := de_at hI h
 obtain ⟨h1, h2, h3, h4, h5, h6, h7⟩ := hI
 refine ⟨⟨h1, by omega, by omega, h4, h5, ?_, hb⟩, by omega⟩
 rw [ha] at e
 rw [take_step L rd ⟨by omega, h⟩, keepL, List.filter_append, h6, List.filter_cons_of_neg (by rw [show (!ddF us ds i (nth L rd)) = false from e]; decide)]
 simp [keepL]
theorem de_keep {L us ds i rd w M} (hI : I53 L us ds i (rd, w, M)) (h : rd < L.length) (e : (!decide (nextF us ds (nth M rd) i < 0)) = true) : I53 L us ds i (rd + 1, w + 1, M.set (0 + w.toNat) (nth M rd)) ∧ ((L.length : Int) - (rd + 1)).toNat < ((L.length : Int) - rd).toNat := by
 obtain ⟨ha, hb⟩ := de_at hI h
 obtain ⟨h1, h2, h3, h4, h5, h6, h7⟩ := hI
 rw [ha] at e ⊢
 refine ⟨⟨by omega, by omega, by omega, h4, by rw [List.length_set]; exact h5, ?_, ?_⟩, by omega⟩
 . have e3 : (w + 1).toNat = w.toNat + 1 := by omega
   rw [take_step L rd ⟨by omega, h⟩, keepL, List.filter_append, List.filter_cons_of_pos (by exact e), e3, Nat.zero_add, List.take_add_one, List.take_set_of_le (Nat.le_refl _), h6, List.getElem?_set_self (by omega)]
   simp [keepL]
 . rw [Nat.zero_add, List.drop_set_of_lt (by omega)]; exact hb
theorem de_len {L us ds i rd w M} (hI : I53 L us ds i (rd, w, M)) (h : ¬ rd < L.length) : keepL us ds i L = M.take w.toNat := by
 obtain ⟨h1, h2, h3, h4, h5, h6, h7⟩ := hI
 rw [h6, List.take_of_length_le (l := L) (by omega)]
theorem de_l {L us ds i rd w M} (hI : I53 L us ds i (rd, w, M)) (h : ¬ rd < L.length) : 0 = 0 + Int.toNat 0 ∧ (keepL us ds i L).length = w.toNat - Int.toNat 0 := by
 rw [de_len hI h, List.length_take]
 obtain ⟨h1, h2, h3, h4, h5, h6, h7⟩ := hI
 omega
theorem de_o {L us ds i rd w M} (hI : I53 L us ds i (rd, w, M)) (h : ¬ rd < L.length) : List.map HR.pv (outL us ds i L) = List.take (0 + w.toNat) (List.map HR.pv M) ++ List.replicate ((L.length : Int).toNat - w.toNat) [PV.bool false, PV.int IntKind.i64 0] ++ List.drop (0 + w.toNat + ((L.length : Int).toNat - w.toNat)) (List.map HR.pv M) := by
 unfold outL
 rw [de_len hI h]
 obtain ⟨h1, h2, h3, h4, h5, h6, h7⟩ := hI
 rw [List.drop_eq_nil_of_le (by rw [List.length_map]; omega), List.append_nil, List.map_append, List.map_take, List.map_replicate, Nat.zero_add, List.length_take]
 have : min w.toNat M.length = w.toNat := by omega
 rw [this]; rfl
noncomputable def L53 (L : List HR) (us : TM) (ds : TM) (i : Int) : LSpec := ⟨[.slc 0 0 L.length, .fn (.func 54) [] [.ptr 1 0 0, .ptr 2 0 0]], [.vec 2 (L.map HR.pv), .row [.mp 3, .mp 4], .row [kz i], .map MTS us none, .map MTS ds none], [some (.vec 2 ((outL us ds i L).map HR.pv)), some (.row [.mp 3, .mp 4]), some (.row [kz i]), some (.map MTS us none), some (.map MTS ds none)], [], .slc 0 0 (keepL us ds i L).length⟩
set_option maxHeartbeats 2000000 in
theorem s53 (L : List HR) (us : TM) (ds : TM) (i : Int) (hp : okUD us ds) (hl : L.length ≤ 1000000) : LSpec.ok Tryz.prog GG 53 (L53 L us ds i) := by
 refine fn_spec mix k53 _ rfl rfl (Tab.ok (l := [(54, S54), (97, S97)]) ⟨t54, t97, trivial⟩) (fun _ => .inv C53 (fun _ => I53 L us ds i) (inv53 L us ds i) (fun c => ((L.length : Int) - c.1).toNat)) noJ ?_
 repeat' ((conv => whnf); first
  | exact trivial
  | with_reducible first | refine aj ?_ | refine ai rfl ?_ | refine ai ⟨rfl, rfl⟩ ?_
  | ((with_reducible refine ai ?_ ?_); focus exact w3)
  | with_reducible first | refine all53 ?_ | refine ex53 (by with_reducible assumption) (by with_reducible assumption) ?_ ?_ | apply exW (γ := C53) (c := (_, _, _)) | refine exI (i64_in (n := idxP _ _ _ + 1) (by have := ip_b (p := ddF us ds i) hl; omega) (by have := ip_b (p := ddF us ds i) hl; omega)) ?_ | refine exI (i64_in (by simp only [I53, List.length_map] at *; omega) (by simp only [I53, List.length_map] at *; omega)) ?_
  | refine exI (x := MTS) trivial ?_
  | with_reducible refine And.intro (Sd.mk (p := okT _ _ ∧ okT _ _) (hp _)) ?_
  | refine exI (x := ULift.up _) (pv_get0 _ _ _ (by simp only [I53, List.length_map] at *; omega)) ?_
  | refine exI (x := ULift.up _) ⟨rfl, (by simp only [I53, List.length_map] at *; omega), pv_get _ _ _ (by simp only [I53, List.length_map] at *; omega)⟩ ?_
  | with_reducible first | refine And.intro ?_ ?_ | refine asL_mk ?_ | refine exI (i64_in (by omega) (by omega)) ?_
  | refine exI (x := ULift.up _) (Eq.refl _) ?_
  | refine exI (x := ULift.up _) ⟨rfl, by omega, Eq.refl _⟩ ?_
  | exact nx
  | ((with_reducible intro h); try dsimp only at h))
 all_goals (try refine Sd.mk ?_)
 all_goals (try simp only [HR.eta] at *)
 all_goals (try simp only [true_and] at *)
 all_goals first
  | exact hp _
  | exact de_n1 (by assumption)
  | exact de_n2 (by assumption)
  | exact de_0 hl (by assumption)
  | exact de_kill (by assumption) (by assumption) (by assumption)
  | exact de_keep (by assumption) (by assumption) (by assumption)
  | exact de_l (by assumption) (by assumption)
  | exact de_o (by assumption) (by assumption)
  | (simp only [I53, List.length_map] at *; omega)
  | (rw [List.map_set]; rfl)
noncomputable def S53 : SFn
 | [.slc o 0 _, .fn (.func 54) [] [.ptr p _ _, .ptr q _ _]], k => .rO o fun oo => match oo with
   | some (.vec 2 LL) => asL HR.pv LL fun L => asRow p fun rp => asRow q fun rq => match rp, rq with
     | .agg [.mp u, .mp d], .agg [.int .i64 i] => asMap MTS u fun us => asMap MTS d fun ds => .req (okUD us ds) (.req (L.length ≤ 1000000) (k (L53 L us ds i)))
     | _, _ => .fail
   | _ => .fail
 | _, _ => .fail
theorem t53 : FnS Tryz.prog GG 53 S53 := by
 intro args k gt go R v os n h
 unfold S53 at h
 split at h
 . cases h with
   | rO h =>
     dsimp only at h
     split at h
     . obtain ⟨L, _, h⟩ := asL_inv h
       obtain ⟨_, _, h⟩ := asRow_inv h
       obtain ⟨_, _, h⟩ := asRow_inv h
       split at h
       . obtain ⟨us, _, h⟩ := asMap_inv h
         obtain ⟨ds, _, h⟩ := asMap_inv h
         obtain ⟨hp, _, h⟩ := req_inv h
         obtain ⟨hl, _, h⟩ := req_inv h
         exact ⟨_, _, s53 L us ds _ hp hl, h⟩
       . cases h
     . cases h
 . cases h
end Go.Proofs.YtlahifihaeafbaaGreatDoor
namespace Go.Proofs.YtlahifihaeafbaaGreatDoor
open Go Go.Sx
def c18 : MC := .seq (.reg [oo 2 (.mv (ki 0))]) (.seq (.seq (.reg [om 11 0,oo 12 (.lenS (.t 11)),oo 13 (.cmp .lss (.t 12) (ki 1)),os (some 14) (.mv (.t 13)),og 14 false (some 15) (.mv (.t 0)),og 14 false (some 16) (.lenS (.t 15)),og 14 false (some 17) (.cmp .gtr (.t 16) (ki 4000)),oo 18 (.pick (.t 14) kt (.t 17))]) (.cond (.t 18) (.seq (.reg [oo 2 (.mv (ki 190))]) (.ret)) (.skip))) (.seq (.reg [oo 19 (.mkm),om 3 19]) (.seq (.seq (.reg [om 20 0,oo 21 (.lenS (.t 20)),oo 22 (.mv (ki 0))]) (.blk 0 (.loop 0 (.seq (.reg [oo 23 (.cmp .lss (.t 22) (.t 21))]) (.seq (.cond (.t 23) (.skip) (.exit 0)) (.seq (.blk 1 (.seq (.reg [om 24 22,oo 25 (.ixa 15 (.t 20) (.t 22)),oo 26 (.ld (some 15) (.t 25)),oo 5 (.alloc [(kz 0),(kz 0),(kz 0),(kz 0),(kz 0),(kz 0),(kz 0),(kz 0),(kz 0),(.int .u32 0),(.int .u32 0),(.int .u32 0),(.int .u32 0),(.int .u32 0),(.int .u32 0)]),om 4 24,o none (.st (some 15) (.t 5) (.t 26))]) (.seq (.reg [oo 27 (.fld 0 (.t 5)),oo 28 (.ld none (.t 27)),oo 29 (.cmp .eql (.t 28) (ki 40)),os (some 30) (.mv (.t 29)),og 30 false (some 31) (.fld 0 (.t 5)),og 30 false (some 32) (.ld none (.t 31)),og 30 false (some 33) (.cmp .eql (.t 32) (ki 41)),oo 34 (.pick (.t 30) kt (.t 33)),om 6 34]) (.seq (.seq (.reg [oo 35 (.ld (some 15) (.t 5)),oo 36 (.call (.k (.fn (.func 58) [] [])) [(.t 35)]),oo 37 (.not (.t 36)),os (some 38) (.mv (.t 37)),og 38 false (some 39) (.fld 0 (.t 5)),og 38 false (some 40) (.ld none (.t 39)),og 38 false (some 41) (.call (.k (.fn (.func 59) [] [])) [(.t 40)]),oo 42 (.pick (.t 38) kt (.t 41)),os (some 43) (.mv (.t 42)),og 43 false (some 44) (.mv (.t 6)),og 43 false (some 45) (.mv (.t 4)),og 43 false (some 46) (.mv (.t 0)),og 43 false (some 47) (.lenS (.t 46)),og 43 false (some 48) (.ar .sub (.t 47) (ki 1)),og 43 false (some 49) (.cmp .eql (.t 45) (.t 48)),og 43 false (some 50) (.eqb true (.t 44) (.t 49)),oo 51 (.pick (.t 43) kt (.t 50))]) (.cond (.t 51) (.seq (.reg [oo 2 (.mv (ki 190))]) (.ret)) (.skip))) (.seq (.seq (.reg [oo 52 (.ld (some 15) (.t 5)),oo 53 (.call (.k (.fn (.func 34) [] [])) [(.t 52)]),oo 54 (.lenS (.t 53)),oo 55 (.mv (ki 0))]) (.blk 2 (.loop 1 (.seq (.reg [oo 56 (.cmp .lss (.t 55) (.t 54))]) (.seq (.cond (.t 56) (.skip) (.exit 2)) (.seq (.blk 3 (.seq (.reg [oo 57 (.ixa 2 (.t 53) (.t 55)),oo 58 (.ld (some 2) (.t 57)),oo 8 (.alloc [.ff,(kz 0)]),o none (.st (some 2) (.t 8) (.t 58))]) (.seq (.reg [om 59 3,oo 60 (.ld (some 2) (.t 8)),oo 61 (.lkp false false [.bool,.int .i64] true [.bool false] (.t 59) (.t 60)),oo 62 (.not (.t 61))]) (.cond (.t 62) (.seq (.reg [oo 2 (.mv (ki 190))]) (.ret)) (.skip))))) (.reg [oo 63 (.ar .add (.t 55) (ki 1)),om 55 63]))))))) (.seq (.reg [oo 65 (.ld (some 15) (.t 5)),oo 66 (.call (.k (.fn (.func 33) [] [])) [(.t 65)]),om 64 66,oo 67 (.ext 0 (.t 64)),oo 68 (.ext 1 (.t 64)),oo 9 (.alloc [.ff,(kz 0)]),o none (.st (some 2) (.t 9) (.t 67)),om 10 68]) (.seq (.reg [om 69 10]) (.cond (.t 69) (.seq (.seq (.reg [oo 70 (.fld 1 (.t 9)),oo 71 (.ld none (.t 70)),oo 72 (.cmp .geq (.t 71) (ki 1000000))]) (.cond (.t 72) (.seq (.reg [oo 2 (.mv (ki 190))])
 (.ret)) (.skip))) (.reg [om 73 3,oo 74 (.ld (some 2) (.t 9)),o none (.mup false [.bool,.int .i64] (.t 73) (.t 74) kt)])) (.skip))))))))) (.reg [oo 75 (.ar .add (.t 22) (ki 1)),om 22 75]))))))) (.seq (.reg [oo 2 (.mv (ki 0))]) (.ret)))))
theorem k18 : FnOk Tryz.prog 18 76 c18 [.t 2] := fk Tryz.func18 ⟨tv,⟨⟨tv,⟨⟨tv,tv⟩,tv⟩⟩,⟨tv,⟨⟨tv,⟨tv,⟨⟨tv,tv⟩,⟨⟨tv,⟨tv,⟨⟨tv,⟨⟨tv,tv⟩,tv⟩⟩,⟨⟨tv,⟨tv,⟨⟨tv,tv⟩,⟨⟨tv,⟨tv,⟨⟨tv,tv⟩,tv⟩⟩⟩,tv⟩⟩⟩⟩,⟨tv,⟨tv,⟨⟨⟨tv,⟨⟨tv,tv⟩,tv⟩⟩,tv⟩,tv⟩⟩⟩⟩⟩⟩⟩,tv⟩⟩⟩⟩,⟨tv,tv⟩⟩⟩⟩⟩
def c59 : MC := .seq (.reg [oo 2 (.mv kf)]) (.seq (.reg [om 3 0,oo 4 (.cmp .eql (.t 3) (ki 42)),os (some 5) (.mv (.t 4)),og 5 false (some 6) (.mv (.t 0)),og 5 false (some 7) (.cmp .eql (.t 6) (ki 43)),oo 8 (.pick (.t 5) kt (.t 7)),os (some 9) (.mv (.t 8)),og 9 false (some 10) (.mv (.t 0)),og 9 false (some 11) (.cmp .eql (.t 10) (ki 44)),oo 12 (.pick (.t 9) kt (.t 11)),os (some 13) (.mv (.t 12)),og 13 false (some 14) (.mv (.t 0)),og 13 false (some 15) (.cmp .eql (.t 14) (ki 45)),oo 16 (.pick (.t 13) kt (.t 15)),om 2 16]) (.ret))
theorem k59 : FnOk Tryz.prog 59 17 c59 [.t 2] := fk Tryz.func59 ⟨tv,⟨tv,tv⟩⟩
def framedF (op : Int) : Bool := decide (op = 42) || decide (op = 43) || decide (op = 44) || decide (op = 45)
def endF (x : HI) : Bool := decide (x.op = 40) || decide (x.op = 41)
noncomputable def L59 (op : Int) : LSpec := ⟨[kz op], [], [], [], .bool (framedF op)⟩
set_option maxHeartbeats 40000000 in
theorem s59 (op : Int) : LSpec.ok Tryz.prog GG 59 (L59 op) := by
 refine fn_spec mix k59 _ rfl rfl (Tab.ok (l := []) trivial) noL noJ ?_
 repeat' ((conv => whnf); first
  | exact trivial
  | with_reducible first | refine aj ?_ | refine ai rfl ?_ | refine ai ⟨rfl, rfl⟩ ?_
  | ((with_reducible refine ai ?_ ?_); focus exact w3)
  | with_reducible first | refine And.intro ?_ ?_ | refine asL_mk ?_ | refine exI (i64_in (by omega) (by omega)) ?_
  | refine exI (x := ULift.up _) (Eq.refl _) ?_
  | refine exI (x := ULift.up _) ⟨rfl, by omega, Eq.refl _⟩ ?_
  | exact ny
  | ((with_reducible intro h); try dsimp only at h))
 all_goals (refine Sd.mk ?_; simp_all [framedF])
noncomputable def S59 : SFn
 | [a0], k => asI a0 fun op => k (L59 op)
 | _, _ => .fail
theorem t59 : FnS Tryz.prog GG 59 S59 := by
 intro args k gt go R v os n h
 unfold S59 at h
 split at h
 . obtain ⟨op, _, h⟩ := asI_inv h
   exact ⟨_, _, s59 op, h⟩
 . cases h
abbrev RB := List (HR × Bool)
def inA (es : RB) (r : HR) : Bool := agetD MHB r es
def preA (x : HI) (last : Bool) : Bool := validF x && !framedF x.op && (endF x == last)
def okA (es : RB) (x : HI) (last : Bool) : Bool := preA x last && (usesF x).all (inA es) && (!(defF x).2 || decide ((defF x).1.n < 1000000))
def updA (es : RB) (x : HI) : RB := if (defF x).2 = true then aput MHB (defF x).1 true es else es
def chk : RB -> List HI -> Bool
 | _, [] => true
 | es, x :: r => okA es x r.isEmpty && chk (updA es x) r
theorem chk_at (l : List HI) (es : RB) (i : Int) (h : 0 ≤ i ∧ i < l.length) : chk es (l.drop i.toNat) = (okA es (nth l i) (decide (i = l.length - 1)) && chk (updA es (nth l i)) (l.drop (i + 1).toNat)) := by
 rw [drop_step l i h, chk]
 have : (l.drop (i + 1).toNat).isEmpty = decide (i = l.length - 1) := by
  rw [Bool.eq_iff_iff]; simp [List.isEmpty_iff]; omega
 rw [this]
def codeA (l : List HI) : Bool := decide (1 ≤ l.length) && decide (l.length ≤ 4000) && chk [] l
def checkA (l : List HI) : Int := if codeA l = true then 0 else 190
def inv18 (l : List HI) (c : Int × RB) : St := ⟨[(22, kz c.1), (21, kz l.length), (20, .rd (.sl 15 (l.map HI.pv))), (3, .mp 0), (0, .rd (.sl 15 (l.map HI.pv)))], [(0, some (.map MHB c.2 none))], 1⟩
def I18 (l : List HI) (c : Int × RB) : Prop := 0 ≤ c.1 ∧ c.1 ≤ l.length ∧ 1 ≤ l.length ∧ l.length ≤ 4000 ∧ chk c.2 (l.drop c.1.toNat) = chk [] l
def inu18 (l : List HI) (c : Int × RB × Int) : St := ⟨[(55, kz c.2.2), (54, kz (usesF (nth l c.1)).length), (53, .slc 2 0 (usesF (nth l c.1)).length), (5, .ptr 1 0 0), (22, kz c.1), (21, kz l.length), (20, .rd (.sl 15 (l.map HI.pv))), (3, .mp 0), (0, .rd (.sl 15 (l.map HI.pv)))], [(0, some (.map MHB c.2.1 none)), (1, some (.row (nth l c.1).cells)), (2, some (.vec 2 ((usesF (nth l c.1)).map HR.pv)))], 3⟩
def Iu18 (l : List HI) (c : Int × RB × Int) : Prop := I18 l (c.1, c.2.1) ∧ c.1 < l.length ∧ 0 ≤ c.2.2 ∧ c.2.2 ≤ (usesF (nth l c.1)).length ∧ (usesF (nth l c.1)).length ≤ 3 ∧
 preA (nth l c.1) (decide (c.1 = l.length - 1)) = true ∧ ((usesF (nth l c.1)).drop c.2.2.toNat).all (inA c.2.1) = (usesF (nth l c.1)).all (inA c.2.1)
def LA18 (l : List HI) : Nat -> LAnn
 | 0 => .inv (Int × RB) (fun _ => I18 l) (inv18 l) (fun c => (l.length - c.1).toNat)
 | _ => .inv (Int × RB × Int) (fun c0 c => c.1 = c0.1 ∧ Iu18 l c) (inu18 l) (fun c => ((usesF (nth l c.1)).length - c.2.2).toNat)
theorem preA_1 {x : HI} {i n : Int} (h1 : (!validF x) = false) (h2 : framedF x.op = false) (h3 : x.op = 40) (h4 : ¬ ¬ i = n) : preA x (decide (i = n)) = true := by
 have h4 : i = n := Classical.not_not.1 h4
 rw [preA, nf h1, h2]; simp [endF, h3, h4]
theorem preA_2 {x : HI} {i n : Int} (h1 : (!validF x) = false) (h2 : framedF x.op = false) (h3 : ¬ x.op = 40) (h4 : ¬ ¬ (x.op = 41 ↔ i = n)) : preA x (decide (i = n)) = true := by
 have h4 : x.op = 41 ↔ i = n := Classical.not_not.1 h4
 simp only [preA, nf h1, h2, endF, h3, h4]; simp
theorem okA_le {es : RB} {x : HI} {last : Bool} (h : preA x last = false) : okA es x last = false := by simp [okA, h]
theorem chk_no {l : List HI} {c : Int × RB} (hI : I18 l c) (h : c.1 < l.length) (h2 : okA c.2 (nth l c.1) (decide (c.1 = l.length - 1)) = false) : checkA l = 190 := by
 have h3 := hI.2.2.2.2
 rw [chk_at l c.2 c.1 ⟨hI.1, h⟩, h2] at h3
 simp [checkA, codeA, <- h3]
theorem chk_len {l : List HI} (h : (l.length : Int) < 1 ∨ 4000 < (l.length : Int)) : checkA l = 190 := by
 have : codeA l = false := by
  rcases h with h | h
  . have e : decide (1 ≤ l.length) = false := by simp only [decide_eq_false_iff_not]; omega
    simp only [codeA, e]; rfl
  . have e : decide (l.length ≤ 4000) = false := by simp only [decide_eq_false_iff_not]; omega
    simp only [codeA, e, Bool.and_false]; rfl
 simp [checkA, this]
theorem chk_yes {l : List HI} {c : Int × RB} (hI : I18 l c) (h : ¬ c.1 < l.length) : checkA l = 0 := by
 obtain ⟨h0, h1, h2, h3, h4⟩ := hI
 have : l.drop c.1.toNat = [] := List.drop_eq_nil_of_le (by omega)
 rw [this, chk] at h4
 have e1 : decide (1 ≤ l.length) = true := by simp; omega
 have e2 : decide (l.length ≤ 4000) = true := by simp; omega
 simp [checkA, codeA, <- h4, e1, e2]
theorem chk_go {l : List HI} {c : Int × RB × Int} {c0 : Int × RB} {es : RB} (hI : c.1 = c0.1 ∧ Iu18 l c) (hj : ¬ c.2.2 < (usesF (nth l c.1)).length) (hd : (!(defF (nth l c.1)).2 || decide ((defF (nth l c.1)).1.n < 1000000)) = true) (he : es = updA c.2.1 (nth l c.1)) :
 I18 l (c.1 + 1, es) ∧ (l.length - (c.1 + 1)).toNat < (l.length - c0.1).toNat := by
  obtain ⟨hc, ⟨h0, h1, h2, h3, h4⟩, h5, h6, h7, h8, h9, h10⟩ := hI
  rw [<- hc]
  dsimp only at *
  have h11 : (usesF (nth l c.1)).drop c.2.2.toNat = [] := List.drop_eq_nil_of_le (by omega)
  rw [h11] at h10
  rw [chk_at l c.2.1 c.1 ⟨h0, h5⟩] at h4
  have : okA c.2.1 (nth l c.1) (decide (c.1 = l.length - 1)) = true := by simp only [okA, h9, <- h10, hd]; rfl
  rw [this, <- he] at h4
  refine ⟨⟨by dsimp only; omega, by dsimp only; omega, h2, h3, by simpa using h4⟩, by omega⟩
theorem chk_go1 {l : List HI} {c : Int × RB × Int} {c0 : Int × RB} (hI : c.1 = c0.1 ∧ Iu18 l c) (hj : ¬ c.2.2 < (usesF (nth l c.1)).length) (hd : (defF (nth l c.1)).2 = true) (hn : ¬ 1000000 ≤ (defF (nth l c.1)).1.n) :
 I18 l (c.1 + 1, aput MHB (defF (nth l c.1)).1 true c.2.1) ∧ (l.length - (c.1 + 1)).toNat < (l.length - c0.1).toNat := chk_go hI hj (by simp [hd]; omega) (by simp only [updA, hd]; rfl)
theorem chk_go2 {l : List HI} {c : Int × RB × Int} {c0 : Int × RB} (hI : c.1 = c0.1 ∧ Iu18 l c) (hj : ¬ c.2.2 < (usesF (nth l c.1)).length) (hd : (defF (nth l c.1)).2 = false) :
 I18 l (c.1 + 1, c.2.1) ∧ (l.length - (c.1 + 1)).toNat < (l.length - c0.1).toNat := chk_go hI hj (by simp [hd]) (by simp [updA, hd])
theorem chk_use {l : List HI} {c : Int × RB × Int} (hI : Iu18 l c) (hj : c.2.2 < (usesF (nth l c.1)).length) (hb : (!agetD MHB (@nth HR _ (usesF (nth l c.1)) c.2.2) c.2.1) = false) :
 Iu18 l (c.1, c.2.1, c.2.2 + 1) ∧ ((usesF (nth l c.1)).length - (c.2.2 + 1)).toNat < ((usesF (nth l c.1)).length - c.2.2).toNat := by
  obtain ⟨hI, h5, h6, h7, h8, h9, h10⟩ := hI
  refine ⟨⟨hI, h5, by dsimp only; omega, by dsimp only; omega, h8, h9, ?_⟩, by omega⟩
  rw [drop_step _ _ ⟨h6, hj⟩] at h10
  dsimp only
  rw [<- h10]
  have hb : inA c.2.1 (nth (usesF (nth l c.1)) c.2.2) = true := nf hb
  simp [hb]
theorem chk_bad {l : List HI} {c : Int × RB × Int} (hI : Iu18 l c) (hj : c.2.2 < (usesF (nth l c.1)).length) (hb : (!agetD MHB (@nth HR _ (usesF (nth l c.1)) c.2.2) c.2.1) = true) : checkA l = 190 := by
 obtain ⟨hI, h5, h6, h7, h8, h9, h10⟩ := hI
 refine chk_no hI h5 ?_
 rw [drop_step _ _ ⟨h6, hj⟩] at h10
 simp only [okA, <- h10]
 have hb : inA c.2.1 (nth (usesF (nth l c.1)) c.2.2) = false := nt hb
 simp [hb]
theorem chk_big {l : List HI} {c : Int × RB × Int} (hI : Iu18 l c) (hd : (defF (nth l c.1)).2 = true) (hn : 1000000 ≤ (defF (nth l c.1)).1.n) : checkA l = 190 := by
 refine chk_no hI.1 hI.2.1 ?_
 simp only [okA, hd]; simp; intros; omega
theorem chk_in {l : List HI} {c : Int × RB} (hI : I18 l c) (h : c.1 < l.length) (hp : preA (nth l c.1) (decide (c.1 = l.length - 1)) = true) : Iu18 l (c.1, c.2, 0) := by
 have hu := usesF_len (nth l c.1)
 exact ⟨hI, h, by simp, by dsimp only; omega, hu, hp, by simp⟩
noncomputable def L18 (l : List HI) : LSpec := ⟨[.rd (.sl 15 (l.map HI.pv))], [], [], [], kz (checkA l)⟩
set_option maxHeartbeats 3000000 in
theorem s18 (l : List HI) : LSpec.ok Tryz.prog GG 18 (L18 l) := by
 refine fn_spec mix k18 _ rfl rfl (Tab.ok (l := [(58, S58), (59, S59), (34, S34), (33, S33)]) ⟨t58, t59, t34, t33, trivial⟩) (LA18 l) noJ ?_
 repeat' ((conv => whnf); first
  | exact trivial
  | with_reducible first | refine aj ?_ | refine ai rfl ?_ | refine ai ⟨rfl, rfl⟩ ?_
  | ((with_reducible refine ai ?_ ?_); focus exact w3)
  | with_reducible first | apply exW (c := (_, _, _)) | apply exW (c := (_, _)) | refine exI (i64_in (by simp only [Iu18, I18, List.length_map] at *; omega) (by simp only [Iu18, I18, List.length_map] at *; omega)) ?_
  | refine exI (x := ULift.up _) (pv_get0 _ _ _ (by simp only [Iu18, I18, List.length_map] at *; omega)) ?_
  | refine exI (x := ULift.up _) ⟨rfl, by simp only [Iu18, I18, List.length_map] at *; omega, pv_get _ _ _ (by simp only [Iu18, I18, List.length_map] at *; omega)⟩ ?_
  | refine And.intro (Sd.mk (p := MapTy.one MHB = _ ∧ _) ⟨rfl, rfl⟩) ?_
  | refine And.intro (Sd.mk (p := MapTy.vone MHB = _ ∧ _) ⟨rfl, rfl⟩) ?_
  | refine exI (x := MHB) trivial ?_
  | refine exI (x := ULift.up true) trivial ?_
  | apply exI (x := ULift.up (HR.mk _ _)) trivial
  | with_reducible first | refine ai (by simp only [Iu18, I18, List.length_map] at *; omega) ?_ | refine And.intro ?_ ?_ | refine asL_mk ?_ | refine exI (i64_in (by omega) (by omega)) ?_
  | refine exI (x := ULift.up _) (Eq.refl _) ?_
  | refine exI (x := ULift.up _) ⟨rfl, by omega, Eq.refl _⟩ ?_
  | exact ny
  | ((with_reducible intro h); try dsimp only at h))
 all_goals (refine Sd.mk ?_; (try simp only [HI.eta, HR.eta, List.length_map] at *))
 all_goals first
  | exact chk_yes (by assumption) (by assumption)
  | exact chk_len (.inl (by assumption))
  | exact chk_len (.inr (by assumption))
  | exact ⟨by simp only; omega, by simp only; omega, by omega, by omega, rfl⟩
  | exact chk_bad (And.right ‹_ ∧ Iu18 l _›) (by assumption) (by assumption)
  | exact chk_big (And.right ‹_ ∧ Iu18 l _›) (by assumption) (by assumption)
  | exact chk_go1 (by assumption) (by assumption) (by assumption) (by assumption)
  | exact chk_go2 (by assumption) (by assumption) (by assumption)
  | exact ⟨⟨And.left ‹_ ∧ Iu18 l _›, (chk_use (And.right ‹_ ∧ Iu18 l _›) (by assumption) (by assumption)).1⟩, (chk_use (And.right ‹_ ∧ Iu18 l _›) (by assumption) (by assumption)).2⟩
  | exact ⟨by first | exact trivial | rfl, chk_in (c := (_, _)) (by assumption) (by assumption) (preA_1 (by assumption) (by assumption) (by assumption) (by assumption))⟩
  | exact ⟨by first | exact trivial | rfl, chk_in (c := (_, _)) (by assumption) (by assumption) (preA_2 (by assumption) (by assumption) (by assumption) (by assumption))⟩
  | (refine chk_no (by assumption) (by assumption) (okA_le ?_); simp_all [preA, endF]; done)
noncomputable def S18 : SFn
 | [a0], k => asSl a0 fun L_l => asL HI.pv L_l fun l => k (L18 l)
 | _, _ => .fail
theorem t18 : FnS Tryz.prog GG 18 S18 := by
 intro args k gt go R v os n h
 unfold S18 at h
 split at h
 . obtain ⟨L_l, _, h⟩ := asSl_inv h
   obtain ⟨l, _, h⟩ := asL_inv h
   exact ⟨_, _, s18 l, h⟩
 . cases h
end Go.Proofs.YtlahifihaeafbaaGreatDoor
namespace Go.Proofs.YtlahifihaeafbaaGreatDoor
open Go Go.Sx
def c16 : MC := .seq (.reg [oo 3 (.box (.t 1)),oo 4 (.mv (.k (.val (.slice none 0 0)))),oo 5 (.mv (ki 0))]) (.seq (.seq (.reg [om 8 0,oo 9 (.call (.k (.fn (.func 18) [] [])) [(.t 8)]),oo 10 (.cmp .neq (.t 9) (ki 0))]) (.cond (.t 10) (.seq (.reg [oo 4 (.mv (.k (.val (.slice none 0 0)))),oo 5 (.mv (ki 190))]) (.ret)) (.skip))) (.seq (.seq (.reg [oo 11 (.ld none (.t 3)),oo 12 (.cmp .lss (.t 11) (ki 0)),os (some 13) (.mv (.t 12)),og 13 false (some 14) (.ld none (.t 3)),og 13 false (some 15) (.mv (.t 0)),og 13 false (some 16) (.lenS (.t 15)),og 13 false (some 17) (.cmp .gtr (.t 14) (.t 16)),oo 18 (.pick (.t 13) kt (.t 17))]) (.cond (.t 18) (.seq (.reg [oo 4 (.mv (.k (.val (.slice none 0 0)))),oo 5 (.mv (ki 1))]) (.ret)) (.skip))) (.seq (.reg [om 19 0,oo 20 (.call (.k (.fn (.func 50) [] [])) [(.t 19)]),oo 6 (.alloc [(.val (.map none)),(.val (.map none))]),o none (.st (some 2) (.t 6) (.t 20))]) (.seq (.reg [oo 21 (.fld 0 (.t 6)),oo 22 (.ld none (.t 21)),oo 23 (.call (.k (.fn (.func 51) [] [])) [(.t 22),(.k (.fn (.func 52) [] []))]),om 7 23]) (.seq (.reg [om 24 7,oo 25 (.mkf (.func 54) [] [(.t 6),(.t 3)]),oo 26 (.call (.k (.fn (.func 53) [] [])) [(.t 24),(.t 25)]),om 4 26,oo 5 (.mv (ki 0))]) (.ret))))))
theorem k16 : FnOk Tryz.prog 16 27 c16 [.t 4,.t 5] := fk Tryz.func16 ⟨tv,⟨⟨tv,⟨⟨tv,tv⟩,tv⟩⟩,⟨⟨tv,⟨⟨tv,tv⟩,tv⟩⟩,⟨tv,⟨tv,⟨tv,tv⟩⟩⟩⟩⟩⟩
def errL (l : List HI) (i : Int) : Int := if checkA l ≠ 0 then 190 else if i < 0 ∨ l.length < i then 1 else 0
def srtK (l : List HI) : List HR := sortR (K1 (timesF l).1)
def liveL (l : List HI) (i : Int) : List HR := if errL l i = 0 then keepL (timesF l).1 (timesF l).2 i (srtK l) else []
def liveO (l : List HI) (i : Int) : List HR := if errL l i = 0 then outL (timesF l).1 (timesF l).2 i (srtK l) else []
theorem el_1 {l : List HI} {i : Int} (h : ¬ checkA l = 0) : errL l i = 190 := by unfold errL; rw [if_pos h]
theorem el_2 {l : List HI} {i : Int} (h : ¬ ¬ checkA l = 0) (h2 : i < 0 ∨ l.length < i) : errL l i = 1 := by unfold errL; rw [if_neg h, if_pos h2]
theorem el_3 {l : List HI} {i : Int} (h : ¬ ¬ checkA l = 0) (h2 : ¬ i < 0) (h3 : ¬ l.length < i) : errL l i = 0 := by unfold errL; rw [if_neg h, if_neg (by omega)]
theorem ln_0 {l : List HI} {i e : Int} (h : errL l i = e) (he : e ≠ 0) : (liveL l i).length = 0 := by unfold liveL; rw [if_neg (by rw [h]; exact he)]; rfl
theorem lo_0 {l : List HI} {i e : Int} (h : errL l i = e) (he : e ≠ 0) : List.map HR.pv (liveO l i) = [] := by unfold liveO; rw [if_neg (by rw [h]; exact he)]; rfl
theorem ln_1 {l : List HI} {i : Int} (h : errL l i = 0) : (liveL l i).length = (keepL (timesF l).1 (timesF l).2 i (srtK l)).length := by unfold liveL; rw [if_pos h]
theorem lo_1 {l : List HI} {i : Int} (h : errL l i = 0) : List.map HR.pv (liveO l i) = List.map HR.pv (outL (timesF l).1 (timesF l).2 i (srtK l)) := by unfold liveO; rw [if_pos h]
theorem lc {l : List HI} (h : ¬ ¬ checkA l = 0) : l.length ≤ 4000 := by
 unfold checkA codeA at h
 split at h
 . next q => simp at q; omega
 . exact absurd (by decide) h
theorem okA_t {l : List HI} (h : ¬ ¬ checkA l = 0) : okUD (timesF l).1 (timesF l).2 := by
 have hl := lc h
 obtain ⟨h1, h2, h3, h4⟩ := times_wf l (i := 0) (us := []) (ds := []) (by omega) wfT_nil wfT_nil List.Pairwise.nil List.Pairwise.nil
 intro r
 have a1 := wfT_len h1 (by omega) r
 have a2 := wfT_len h2 (by omega) r
 simp only [ag] at a1 a2
 exact ⟨⟨(h1 r).1, by unfold timesF; omega⟩, ⟨(h2 r).1, by unfold timesF; omega⟩⟩
theorem nd_t (l : List HI) : (K1 (timesF l).1).Nodup := (times_wf l (i := 0) (us := []) (ds := []) (by omega) wfT_nil wfT_nil List.Pairwise.nil List.Pairwise.nil).2.2.1
theorem srtK_len (l : List HI) : (srtK l).length = List.length (timesF l).1 := by
 have := (sortR_perm (K1 (timesF l).1)).length_eq
 rw [List.length_map] at this
 exact this
theorem sl_t {l : List HI} (h : (timesF l).1.length ≤ 12) : (srtK l).length ≤ 1000000 := by
 rw [srtK_len]; omega
theorem ss_t {l : List HI} : 0 = 0 ∧ (sortR (K1 (timesF l).1)).length = List.length (timesF l).1 := ⟨rfl, srtK_len l⟩
attribute [local irreducible] checkA timesF sortR keepL outL
noncomputable def L16 (l : List HI) (i : Int) : LSpec := ⟨[.rd (.sl 15 (l.map HI.pv)), kz i], [], [], [.vec 2 ((liveO l i).map HR.pv)], .tup [.slc 0 0 (liveL l i).length, kz (errL l i)]⟩
set_option maxHeartbeats 4000000 in
theorem s16 (l : List HI) (i : Int) (hk : (timesF l).1.length ≤ 12) : LSpec.ok Tryz.prog GG 16 (L16 l i) := by
 refine fn_spec mix k16 _ rfl rfl (Tab.ok (l := [(18, S18), (50, S50), (51, S51), (53, S53)]) ⟨t18, t50, t51, t53, trivial⟩) noL noJ ?_
 repeat' ((conv => whnf); first
  | exact trivial
  | with_reducible first | refine aj ?_ | refine ai rfl ?_ | refine ai ⟨rfl, rfl⟩ ?_
  | ((with_reducible refine ai ?_ ?_); focus exact w3)
  | refine exI (x := MTS) trivial ?_
  | with_reducible first | refine And.intro (Sd.mk (p := _ ≤ 4000) (lc (by assumption))) ?_ | refine And.intro (Sd.mk (p := List.Nodup _ ∧ _) ⟨nd_t _, hk⟩) ?_ | refine And.intro (Sd.mk (p := okUD _ _) (okA_t (by assumption))) ?_ | refine And.intro (Sd.mk (p := _ ≤ 1000000) (sl_t hk)) ?_ | refine And.intro (Sd.mk ss_t) ?_ | refine And.intro ?_ ?_ | refine asL_mk ?_ | refine exI (i64_in (by omega) (by omega)) ?_
  | refine exI (x := ULift.up _) (Eq.refl _) ?_
  | refine exI (x := ULift.up _) ⟨rfl, by omega, Eq.refl _⟩ ?_
  | exact nx
  | ((with_reducible intro h); try dsimp only at h))
 all_goals (refine Sd.mk ?_)
 all_goals first
  | exact sl_t hk
  | exact el_1 (by assumption)
  | exact el_2 (by assumption) (.inl (by assumption))
  | exact el_2 (by assumption) (.inr (by rw [List.length_map] at *; assumption))
  | exact el_3 (by assumption) (by assumption) (by rw [List.length_map] at *; assumption)
  | exact ⟨rfl, ln_0 (el_1 (by assumption)) (by decide), rfl⟩
  | exact ⟨rfl, ln_0 (el_2 (by assumption) (.inl (by assumption))) (by decide), rfl⟩
  | exact ⟨rfl, ln_0 (el_2 (by assumption) (.inr (by rw [List.length_map] at *; assumption))) (by decide), rfl⟩
  | exact lo_0 (el_1 (by assumption)) (by decide)
  | exact lo_0 (el_2 (by assumption) (.inl (by assumption))) (by decide)
  | exact lo_0 (el_2 (by assumption) (.inr (by rw [List.length_map] at *; assumption))) (by decide)
  | exact ⟨rfl, ln_1 (el_3 (by assumption) (by assumption) (by rw [List.length_map] at *; assumption))⟩
  | exact ⟨rfl, lo_1 (el_3 (by assumption) (by assumption) (by rw [List.length_map] at *; assumption))⟩
end Go.Proofs.YtlahifihaeafbaaGreatDoor
namespace Go.Proofs.YtlahifihaeafbaaGreatDoor
open Go Go.Sx
def c62 : MC := .seq (.reg [oo 6 (.mv (ki 0))]) (.seq (.seq (.reg [om 7 0,oo 8 (.call (.k (.fn (.func 18) [] [])) [(.t 7)]),oo 9 (.cmp .neq (.t 8) (ki 0))]) (.cond (.t 9) (.seq (.reg [oo 6 (.mv (ki 190))]) (.ret)) (.skip))) (.seq (.seq (.reg [om 10 1,oo 11 (.cmp .lss (.t 10) (ki 3)),os (some 12) (.mv (.t 11)),og 12 false (some 13) (.mv (.t 1)),og 12 false (some 14) (.cmp .gtr (.t 13) (ki 12)),oo 15 (.pick (.t 12) kt (.t 14)),os (some 16) (.mv (.t 15)),og 16 false (some 17) (.mv (.t 2)),og 16 false (some 18) (.cmp .lss (.t 17) (ki 2)),oo 19 (.pick (.t 16) kt (.t 18)),os (some 20) (.mv (.t 19)),og 20 false (some 21) (.mv (.t 2)),og 20 false (some 22) (.cmp .gtr (.t 21) (ki 6)),oo 23 (.pick (.t 20) kt (.t 22))]) (.cond (.t 23) (.seq (.reg [oo 6 (.mv (ki 1))]) (.ret)) (.skip))) (.seq (.reg [oo 6 (.mv (ki 0))]) (.ret))))
theorem k62 : FnOk Tryz.prog 62 24 c62 [.t 6] := fk Tryz.func62 ⟨tv,⟨⟨tv,⟨⟨tv,tv⟩,tv⟩⟩,⟨⟨tv,⟨⟨tv,tv⟩,tv⟩⟩,⟨tv,tv⟩⟩⟩⟩
def c26 : MC := .seq (.reg [oo 1 (.box (.t 0)),oo 2 (.mv (ki 0)),oo 3 (.mv (ki 0)),oo 4 (.mv (ki 0))]) (.seq (.seq (.reg [oo 6 (.fld 0 (.t 1)),oo 7 (.ld none (.t 6)),oo 8 (.lenS (.t 7)),oo 9 (.fld 1 (.t 1)),oo 10 (.ld none (.t 9)),oo 11 (.lenS (.t 10)),oo 12 (.mm false (.t 8) [(.t 11)]),oo 13 (.mv (ki 0))]) (.blk 0 (.loop 0 (.seq (.reg [oo 14 (.cmp .lss (.t 13) (.t 12))]) (.seq (.cond (.t 14) (.skip) (.exit 0)) (.seq (.blk 1 (.seq (.reg [om 15 13,om 5 15]) (.seq (.seq (.reg [oo 16 (.fld 1 (.t 1)),oo 17 (.ld none (.t 16)),om 18 5,oo 19 (.ixa 1 (.t 17) (.t 18)),oo 20 (.ld none (.t 19)),oo 21 (.cmp .neq (.t 20) (ki (-1)))]) (.cond (.t 21) (.exit 1) (.skip))) (.seq (.reg [oo 22 (.fld 0 (.t 1)),oo 23 (.ld none (.t 22)),om 24 5,oo 25 (.ixa 15 (.t 23) (.t 24)),oo 26 (.fld 0 (.t 25)),oo 27 (.ld none (.t 26))]) (.blk 2 (.seq (.seq (.reg [oo 29 (.cmp .eql (.t 27) (ki 2)),om 28 29]) (.cond (.t 28) (.skip) (.reg [oo 30 (.cmp .eql (.t 27) (ki 8)),om 28 30]))) (.cond (.t 28) (.reg [om 31 2,oo 32 (.ar .add (.t 31) (ki 1)),om 2 32]) (.seq (.seq (.reg [oo 34 (.cmp .eql (.t 27) (ki 42)),om 33 34]) (.cond (.t 33) (.skip) (.reg [oo 35 (.cmp .eql (.t 27) (ki 44)),om 33 35]))) (.cond (.t 33) (.reg [om 36 3,oo 37 (.ar .add (.t 36) (ki 1)),om 3 37]) (.seq (.seq (.reg [oo 39 (.cmp .eql (.t 27) (ki 43)),om 38 39]) (.cond (.t 38) (.skip) (.reg [oo 40 (.cmp .eql (.t 27) (ki 45)),om 38 40]))) (.cond (.t 38) (.reg [om 41 4,oo 42 (.ar .add (.t 41) (ki 1)),om 4 42]) (.skip)))))))))))) (.reg [oo 43 (.ar .add (.t 13) (ki 1)),om 13 43]))))))) (.seq (.reg [om 44 2,om 45 3,om 46 4,om 2 44,om 3 45,om 4 46]) (.ret)))
theorem k26 : FnOk Tryz.prog 26 47 c26 [.t 2,.t 3,.t 4] := fk Tryz.func26 ⟨tv,⟨⟨tv,⟨tv,⟨⟨tv,tv⟩,⟨⟨tv,⟨⟨tv,⟨tv,tv⟩⟩,⟨tv,⟨⟨tv,⟨tv,tv⟩⟩,⟨tv,⟨⟨tv,⟨tv,tv⟩⟩,⟨tv,⟨⟨tv,⟨tv,tv⟩⟩,⟨tv,tv⟩⟩⟩⟩⟩⟩⟩⟩⟩,tv⟩⟩⟩⟩,⟨tv,tv⟩⟩⟩
def argsF (l : List HI) (w v : Int) : Int := if checkA l ≠ 0 then 190 else if w < 3 ∨ 12 < w ∨ v < 2 ∨ 6 < v then 1 else 0
noncomputable def L62 (l : List HI) (w : Int) (v : Int) : LSpec := ⟨[.rd (.sl 15 (l.map HI.pv)), kz w, kz v], [], [], [], kz (argsF l w v)⟩
theorem s62 (l : List HI) (w : Int) (v : Int) : LSpec.ok Tryz.prog GG 62 (L62 l w v) := by
 refine fn_spec mix k62 _ rfl rfl (Tab.ok (l := [(18, S18)]) ⟨t18, trivial⟩) noL noJ ?_
 repeat' ((conv => whnf); first
  | exact trivial
  | with_reducible first | refine aj ?_ | refine ai rfl ?_ | refine ai ⟨rfl, rfl⟩ ?_
  | ((with_reducible refine ai ?_ ?_); focus exact w3)
  | with_reducible first | refine And.intro ?_ ?_ | refine asL_mk ?_ | refine exI (i64_in (by omega) (by omega)) ?_
  | refine exI (x := ULift.up _) (Eq.refl _) ?_
  | refine exI (x := ULift.up _) ⟨rfl, by omega, Eq.refl _⟩ ?_
  | exact ny
  | ((with_reducible intro h); try dsimp only at h))
 all_goals (refine Sd.mk ?_; simp only [argsF]; grind)
noncomputable def S62 : SFn
 | [a0, a1, a2], k => asSl a0 fun L_l => asL HI.pv L_l fun l => asI a1 fun w => asI a2 fun v => k (L62 l w v)
 | _, _ => .fail
theorem t62 : FnS Tryz.prog GG 62 S62 := by
 intro args k gt go R v os n h
 unfold S62 at h
 split at h
 . obtain ⟨L_l, _, h⟩ := asSl_inv h
   obtain ⟨l, _, h⟩ := asL_inv h
   obtain ⟨w, _, h⟩ := asI_inv h
   obtain ⟨v, _, h⟩ := asI_inv h
   exact ⟨_, _, s62 l w v, h⟩
 . cases h
def cnt1 (c : Int × Int × Int) (x : HI) (f : Int) : Int × Int × Int :=
 if f ≠ -1 then c else if x.op = 2 ∨ x.op = 8 then (c.1 + 1, c.2.1, c.2.2) else if x.op = 42 ∨ x.op = 44 then (c.1, c.2.1 + 1, c.2.2)
 else if x.op = 43 ∨ x.op = 45 then (c.1, c.2.1, c.2.2 + 1) else c
def cntF : List HI -> List Int -> Int × Int × Int -> Int × Int × Int
 | x :: L, f :: F, c => cntF L F (cnt1 c x f)
 | _, _, c => c
theorem cnt1_le (c : Int × Int × Int) (x : HI) (f : Int) : c.1 ≤ (cnt1 c x f).1 ∧ (cnt1 c x f).1 ≤ c.1 + 1 ∧ c.2.1 ≤ (cnt1 c x f).2.1 ∧ (cnt1 c x f).2.1 ≤ c.2.1 + 1 ∧ c.2.2 ≤ (cnt1 c x f).2.2 ∧ (cnt1 c x f).2.2 ≤ c.2.2 + 1 := by
 unfold cnt1; split
 . omega
 . split
   . dsimp only; omega
   . split
     . dsimp only; omega
     . split
       . dsimp only; omega
       . omega
abbrev C26 := Int × Int × Int × Int
def inv26 (a : AL) : C26 -> St
 | (i, m, s, u) => ⟨[(13, kz i), (12, kz (min (a.L.length : Int) a.fr.length)), (4, kz u), (3, kz s), (2, kz m), (1, .ptr 0 0 0)], [(0, some (.row a.cells))], 1⟩
def I26 (a : AL) (c : C26) : Prop := 0 ≤ c.1 ∧ c.1 ≤ a.L.length ∧ c.1 ≤ a.fr.length ∧ a.L.length ≤ 1000000 ∧ 0 ≤ c.2.1 ∧ c.2.1 ≤ c.1 ∧ 0 ≤ c.2.2.1 ∧ c.2.2.1 ≤ c.1 ∧ 0 ≤ c.2.2.2 ∧ c.2.2.2 ≤ c.1 ∧
 cntF (a.L.drop c.1.toNat) (a.fr.drop c.1.toNat) c.2 = cntF a.L a.fr (0, 0, 0)
theorem cnt_go {a : AL} {c : C26} {c' : Int × Int × Int} (hI : I26 a c) (h : c.1 < min (a.L.length : Int) a.fr.length) (e : cnt1 c.2 (nth a.L c.1) (nth a.fr c.1) = c') :
 I26 a (c.1 + 1, c') ∧ (min (a.L.length : Int) a.fr.length - (c.1 + 1)).toNat < (min (a.L.length : Int) a.fr.length - c.1).toNat := by
  obtain ⟨h1, h2, h3, h4, h5, h6, h7, h8, h9, h10, h11⟩ := hI
  have hb := cnt1_le c.2 (nth a.L c.1) (nth a.fr c.1)
  rw [e] at hb
  rw [drop_step a.L c.1 ⟨h1, by omega⟩, drop_step a.fr c.1 ⟨h1, by omega⟩, cntF, e] at h11
  refine ⟨⟨by dsimp only; omega, by dsimp only; omega, by dsimp only; omega, h4, by dsimp only; omega, by dsimp only; omega, by dsimp only; omega, by dsimp only; omega, by dsimp only; omega, by dsimp only; omega, h11⟩, by omega⟩
theorem cnt_end {a : AL} {c : C26} (hI : I26 a c) (h : ¬ c.1 < min (a.L.length : Int) a.fr.length) : cntF a.L a.fr (0, 0, 0) = c.2 := by
 obtain ⟨h1, h2, h3, h4, h5, h6, h7, h8, h9, h10, h11⟩ := hI
 rw [<- h11]
 rcases Int.lt_or_le c.1 a.L.length with h12 | h12
 . have : a.fr.drop c.1.toNat = [] := List.drop_eq_nil_of_le (by omega)
   rw [this]; cases a.L.drop c.1.toNat <;> rfl
 . have : a.L.drop c.1.toNat = [] := List.drop_eq_nil_of_le (by omega)
   rw [this]; rfl
def trp (c : Int × Int × Int) : List SV := [kz c.1, kz c.2.1, kz c.2.2]
noncomputable def L26 (a : AL) : LSpec := ⟨[.agg a.cells], [], [], [], .tup (trp (cntF a.L a.fr (0, 0, 0)))⟩
set_option maxHeartbeats 4000000 in
theorem s26 (a : AL) (hp : a.L.length ≤ 1000000) : LSpec.ok Tryz.prog GG 26 (L26 a) := by
 refine fn_spec mix k26 _ rfl rfl (Tab.ok (l := []) trivial) (fun _ => .inv C26 (fun _ => I26 a) (inv26 a) (fun c => (min (a.L.length : Int) a.fr.length - c.1).toNat)) noJ ?_
 repeat' ((conv => whnf); first
  | exact trivial
  | with_reducible first | refine aj ?_ | refine ai rfl ?_ | refine ai ⟨rfl, rfl⟩ ?_
  | ((with_reducible refine ai ?_ ?_); focus exact w3)
  | with_reducible first | refine all4 ?_ | apply exW (c := (_, _, _, _)) | refine exI (i64_in (by simp only [I26, List.length_map] at *; omega) (by simp only [I26, List.length_map] at *; omega)) ?_
  | refine exI (x := ULift.up _) ⟨rfl, (by simp only [I26, List.length_map] at *; omega), pv_get _ _ _ (by simp only [I26, List.length_map] at *; omega)⟩ ?_
  | with_reducible first | refine And.intro ?_ ?_ | refine asL_mk ?_ | refine exI (i64_in (by omega) (by omega)) ?_
  | refine exI (x := ULift.up _) (Eq.refl _) ?_
  | refine exI (x := ULift.up _) ⟨rfl, by omega, Eq.refl _⟩ ?_
  | exact ny
  | ((with_reducible intro h); try dsimp only at h))
 all_goals (refine Sd.mk ?_; (try simp only [HI.eta, HR.eta, List.length_map, Classical.not_not] at *))
 all_goals first
  | exact cnt_go (c := (_, _, _, _)) (by assumption) (by assumption) (by simp only [cnt1]; grind)
  | (have h := cnt_end (c := (_, _, _, _)) (by assumption) (by assumption); simp only at h; grind)
  | (simp only [I26]; grind)
end Go.Proofs.YtlahifihaeafbaaGreatDoor
namespace Go.Proofs.YtlahifihaeafbaaGreatDoor
open Go Go.Sx
def c108 : MC := .seq (.reg [oo 1 (.box (.t 0)),oo 2 (.mv (ki 0))]) (.seq (.seq (.reg [oo 3 (.fld 0 (.t 1)),oo 4 (.ld none (.t 3))]) (.cond (.t 4) (.seq (.reg [oo 2 (.mv (ki 1))]) (.ret)) (.skip))) (.seq (.reg [oo 2 (.mv (ki 0))]) (.ret)))
theorem k108 : FnOk Tryz.prog 108 5 c108 [.t 2] := fk Tryz.func108 ⟨tv,⟨⟨tv,⟨⟨tv,tv⟩,tv⟩⟩,⟨tv,tv⟩⟩⟩
def c109 : MC := .drw [om 6 1,om 7 1,oo 8 (.ixr 2 1 (.t 2) (.t 7)),oo 9 (.ld none (.t 8)),om 10 1,oo 11 (.ixr 2 1 (.t 3) (.t 10)),oo 12 (.ld none (.t 11)),om 13 0,oo 14 (.ar .add (.t 12) (.t 13)),oo 15 (.mm true (.t 9) [(.t 14)]),oo 16 (.ixr 2 1 (.t 2) (.t 6)),o none (.st (some 1) (.t 16) (.t 15))] [[],[],[1],[2],[],[4],[5],[],[6,7],[3,8],[0,0,1,2,3,4,5,6,7,8,9],[10,9,0,1,2,3,4,5,6,7,8,9]]
theorem k109 : FnOk Tryz.prog 109 17 c109 [] := fk Tryz.func109 tv
def c110 : MC := .seq (.reg [oo 1 (.box (.t 0)),oo 2 (.mv (.k (.val .nilFunc)))]) (.seq (.reg [oo 3 (.mkf (.func 148) [] [(.t 1)]),om 2 3]) (.ret))
theorem k110 : FnOk Tryz.prog 110 4 c110 [.t 2] := fk Tryz.func110 ⟨tv,⟨tv,tv⟩⟩
noncomputable def L108a (r : HR) : LSpec := ⟨[.agg r.cells], [], [], [], kz 1⟩
noncomputable def L108b (r : HR) : LSpec := ⟨[.agg r.cells], [], [], [], kz 0⟩
theorem s108a (r : HR) (h : r.vec = true) : LSpec.ok Tryz.prog GG 108 (L108a r) := by
 refine fn_spec mix k108 _ rfl rfl (Tab.ok (l := []) trivial) noL noJ ?_
 repeat' ((conv => whnf); first
  | exact trivial
  | with_reducible first | refine aj ?_ | refine ai rfl ?_ | refine ai ⟨rfl, rfl⟩ ?_
  | ((with_reducible refine ai ?_ ?_); focus exact w3)
  | with_reducible first | refine And.intro ?_ ?_ | refine asL_mk ?_ | refine exI (i64_in (by omega) (by omega)) ?_
  | refine exI (x := ULift.up _) (Eq.refl _) ?_
  | refine exI (x := ULift.up _) ⟨rfl, by omega, Eq.refl _⟩ ?_
  | exact ny
  | ((with_reducible intro h); try dsimp only at h))
 all_goals (refine Sd.mk ?_; simp_all)
theorem s108b (r : HR) (h : ¬ r.vec = true) : LSpec.ok Tryz.prog GG 108 (L108b r) := by
 refine fn_spec mix k108 _ rfl rfl (Tab.ok (l := []) trivial) noL noJ ?_
 repeat' ((conv => whnf); first
  | exact trivial
  | with_reducible first | refine aj ?_ | refine ai rfl ?_ | refine ai ⟨rfl, rfl⟩ ?_
  | ((with_reducible refine ai ?_ ?_); focus exact w3)
  | with_reducible first | refine And.intro ?_ ?_ | refine asL_mk ?_ | refine exI (i64_in (by omega) (by omega)) ?_
  | refine exI (x := ULift.up _) (Eq.refl _) ?_
  | refine exI (x := ULift.up _) ⟨rfl, by omega, Eq.refl _⟩ ?_
  | exact ny
  | ((with_reducible intro h); try dsimp only at h))
 all_goals (refine Sd.mk ?_; simp_all)
noncomputable def S108 : SFn
 | [.agg [b, .int .i64 n]], k => match b with
   | .tt => k (L108a ⟨true, n⟩)
   | .ff => k (L108b ⟨false, n⟩)
   | .bool b => .split (b = true) (k (L108a ⟨b, n⟩)) (k (L108b ⟨b, n⟩))
   | _ => .fail
 | _, _ => .fail
theorem t108 : FnS Tryz.prog GG 108 S108 := by
 intro args k gt go R v os n h
 unfold S108 at h
 split at h
 . split at h
   . exact ⟨_, _, s108a _ rfl, h⟩
   . exact ⟨_, _, s108b _ (by simp), h⟩
   . rcases split_inv h with ⟨hp, h⟩ | ⟨hp, h⟩
     . exact ⟨_, _, s108a _ hp, h⟩
     . exact ⟨_, _, s108b _ hp, h⟩
   . cases h
 . cases h
noncomputable def L109a (e : Int) (n0 : Int) (n1 : Int) (m0 : Int) (m1 : Int) : LSpec := ⟨[kz e, kz 0, .ptr 0 0 0, .ptr 1 0 0], [.row [kz n0, kz n1], .row [kz m0, kz m1]], [some (.row [kz (max n0 (m0 + e)), kz n1]), some (.row [kz m0, kz m1])], [], .tup []⟩
theorem s109a (e : Int) (n0 : Int) (n1 : Int) (m0 : Int) (m1 : Int) (hp : (0 ≤ e ∧ e ≤ 1) ∧ -1000000 ≤ m0 ∧ m0 ≤ 1000000) : LSpec.ok Tryz.prog GG 109 (L109a e n0 n1 m0 m1) := by
 refine fn_spec mix k109 _ rfl rfl (Tab.ok (l := []) trivial) noL noJ ?_
 repeat' ((conv => whnf); first
  | exact trivial
  | with_reducible first | refine aj ?_ | refine ai rfl ?_ | refine ai ⟨rfl, rfl⟩ ?_
  | ((with_reducible refine ai ?_ ?_); focus exact w3)
  | with_reducible first | refine And.intro ?_ ?_ | refine asL_mk ?_ | refine exI (i64_in (by omega) (by omega)) ?_
  | refine exI (x := ULift.up _) (Eq.refl _) ?_
  | refine exI (x := ULift.up _) ⟨rfl, by omega, Eq.refl _⟩ ?_
  | exact ny
  | ((with_reducible intro h); try dsimp only at h))
noncomputable def L109b (e : Int) (n0 : Int) (n1 : Int) (m0 : Int) (m1 : Int) : LSpec := ⟨[kz e, kz 1, .ptr 0 0 0, .ptr 1 0 0], [.row [kz n0, kz n1], .row [kz m0, kz m1]], [some (.row [kz n0, kz (max n1 (m1 + e))]), some (.row [kz m0, kz m1])], [], .tup []⟩
theorem s109b (e : Int) (n0 : Int) (n1 : Int) (m0 : Int) (m1 : Int) (hp : (0 ≤ e ∧ e ≤ 1) ∧ -1000000 ≤ m1 ∧ m1 ≤ 1000000) : LSpec.ok Tryz.prog GG 109 (L109b e n0 n1 m0 m1) := by
 refine fn_spec mix k109 _ rfl rfl (Tab.ok (l := []) trivial) noL noJ ?_
 repeat' ((conv => whnf); first
  | exact trivial
  | with_reducible first | refine aj ?_ | refine ai rfl ?_ | refine ai ⟨rfl, rfl⟩ ?_
  | ((with_reducible refine ai ?_ ?_); focus exact w3)
  | with_reducible first | refine And.intro ?_ ?_ | refine asL_mk ?_ | refine exI (i64_in (by omega) (by omega)) ?_
  | refine exI (x := ULift.up _) (Eq.refl _) ?_
  | refine exI (x := ULift.up _) ⟨rfl, by omega, Eq.refl _⟩ ?_
  | exact ny
  | ((with_reducible intro h); try dsimp only at h))
noncomputable def S109 : SFn
 | [.int .i64 e, .int .i64 j, .ptr p _ _, .ptr q _ _], k => asII p fun n0 n1 => asII q fun m0 m1 => match j with
   | .ofNat 0 => .req ((0 ≤ e ∧ e ≤ 1) ∧ -1000000 ≤ m0 ∧ m0 ≤ 1000000) (k (L109a e n0 n1 m0 m1))
   | .ofNat 1 => .req ((0 ≤ e ∧ e ≤ 1) ∧ -1000000 ≤ m1 ∧ m1 ≤ 1000000) (k (L109b e n0 n1 m0 m1))
   | _ => .fail
 | _, _ => .fail
theorem t109 : FnS Tryz.prog GG 109 S109 := by
 intro args k gt go R v os n h
 unfold S109 at h
 split at h
 . obtain ⟨n0, n1, _, h⟩ := asII_inv h
   obtain ⟨m0, m1, _, h⟩ := asII_inv h
   split at h
   . obtain ⟨hp, _, h⟩ := req_inv h
     exact ⟨_, _, s109a _ _ _ _ _ hp, h⟩
   . obtain ⟨hp, _, h⟩ := req_inv h
     exact ⟨_, _, s109b _ _ _ _ _ hp, h⟩
   . cases h
 . cases h
noncomputable def L110 (l : List HI) : LSpec := ⟨[.rd (.sl 15 (l.map HI.pv))], [], [], [.row [hiS l]], .fn (.func 148) [] [.ptr 0 0 0]⟩
theorem s110 (l : List HI) : LSpec.ok Tryz.prog GG 110 (L110 l) := by
 refine fn_spec mix k110 _ rfl rfl (Tab.ok (l := []) trivial) noL noJ ?_
 repeat' ((conv => whnf); first
  | exact trivial
  | with_reducible first | refine aj ?_ | refine ai rfl ?_ | refine ai ⟨rfl, rfl⟩ ?_
  | ((with_reducible refine ai ?_ ?_); focus exact w3)
  | with_reducible first | refine And.intro ?_ ?_ | refine asL_mk ?_ | refine exI (i64_in (by omega) (by omega)) ?_
  | refine exI (x := ULift.up _) (Eq.refl _) ?_
  | refine exI (x := ULift.up _) ⟨rfl, by omega, Eq.refl _⟩ ?_
  | exact ny
  | ((with_reducible intro h); try dsimp only at h))
noncomputable def S110 : SFn
 | [a0], k => asSl a0 fun L_l => asL HI.pv L_l fun l => k (L110 l)
 | _, _ => .fail
theorem t110 : FnS Tryz.prog GG 110 S110 := by
 intro args k gt go R v os n h
 unfold S110 at h
 split at h
 . obtain ⟨L_l, _, h⟩ := asSl_inv h
   obtain ⟨l, _, h⟩ := asL_inv h
   exact ⟨_, _, s110 l, h⟩
 . cases h
end Go.Proofs.YtlahifihaeafbaaGreatDoor
namespace Go.Proofs.YtlahifihaeafbaaGreatDoor
open Go Go.Sx
def c148 : MC := .seq (.reg [oo 4 (.ld none (.t 1)),oo 5 (.lenS (.t 4)),oo 6 (.ar .sub (.t 5) (ki 1)),om 3 6]) (.blk 0 (.loop 0 (.seq (.seq (.reg [om 7 3,oo 8 (.cmp .geq (.t 7) (ki 0))]) (.cond (.t 8) (.skip) (.exit 0))) (.seq (.blk 1 (.seq (.reg [om 11 0,om 12 3,oo 13 (.ld none (.t 1)),om 14 3,oo 15 (.ixa 15 (.t 13) (.t 14)),oo 16 (.ld (some 15) (.t 15)),oo 17 (.call (.t 11) [(.t 12),(.t 16)]),oo 18 (.not (.t 17))]) (.cond (.t 18) (.ret) (.skip)))) (.reg [om 9 3,oo 10 (.ar .sub (.t 9) (ki 1)),om 3 10])))))
theorem k148 : FnOk Tryz.prog 148 19 c148 [] := fk Tryz.func148 ⟨tv,⟨⟨tv,⟨tv,tv⟩⟩,⟨⟨tv,⟨tv,tv⟩⟩,tv⟩⟩⟩
def c60 : MC := .seq (.reg [oo 2 (.alloc [(kz 0),(kz 0)]),oo 3 (.alloc [(kz 0),(kz 0)])]) (.seq (.reg [oo 15 (.mkm),oo 4 (.alloc [(.val (.map none))]),o none (.st (some 1) (.t 4) (.t 15))]) (.seq (.reg [oo 5 (.alloc [(kz 0),(kz 0)])]) (.seq (.reg [oo 6 (.alloc [(.val .nilFunc)]),o none (.st (some 1) (.t 6) (.k (.fn (.func 108) [] [])))]) (.seq (.reg [oo 16 (.mkf (.func 109) [] [(.t 2),(.t 5)]),oo 7 (.alloc [(.val .nilFunc)]),o none (.st (some 1) (.t 7) (.t 16))]) (.seq (.seq (.reg [om 17 0,oo 18 (.call (.k (.fn (.func 110) [] [])) [(.t 17)])]) (.blk 0 (.rng (.t 18) [19,20] (.reg [oo 9 (.alloc [(kz 0),(kz 0),(kz 0),(kz 0),(kz 0),(kz 0),(kz 0),(kz 0),(kz 0),(.int .u32 0),(.int .u32 0),(.int .u32 0),(.int .u32 0),(.int .u32 0),(.int .u32 0)]),o none (.st (some 15) (.t 9) (.t 20))]) (.blk 1 (.seq (.reg [oo 22 (.ld (some 15) (.t 9)),oo 23 (.call (.k (.fn (.func 33) [] [])) [(.t 22)]),om 21 23,oo 24 (.ext 0 (.t 21)),oo 25 (.ext 1 (.t 21)),oo 10 (.alloc [.ff,(kz 0)]),o none (.st (some 2) (.t 10) (.t 24)),om 11 25]) (.seq (.seq (.reg [om 26 11,os (some 27) (.mv (.t 26)),og 27 true (some 28) (.ld none (.t 4)),og 27 true (some 29) (.ld (some 2) (.t 10)),og 27 true (some 30) (.lkp false false [.bool,.int .i64] true [.bool false] (.t 28) (.t 29)),og 27 true (some 31) (.not (.t 30)),oo 32 (.pick (.t 27) (.t 31) kf)]) (.cond (.t 32) (.drw [oo 33 (.ld none (.t 7)),oo 34 (.ld none (.t 6)),oo 35 (.ld (some 2) (.t 10)),oo 36 (.call (.t 34) [(.t 35)]),oo 37 (.call (.t 33) [(ki 1),(.t 36)])] [[],[],[],[1,2],[0,3,3]]) (.skip))) (.seq (.seq (.reg [om 38 11,os (some 39) (.mv (.t 38)),og 39 true (some 40) (.ld none (.t 4)),og 39 true (some 41) (.ld (some 2) (.t 10)),og 39 true (some 42) (.lkp false false [.bool,.int .i64] true [.bool false] (.t 40) (.t 41)),oo 43 (.pick (.t 39) (.t 42) kf)]) (.cond (.t 43) (.seq (.reg [oo 44 (.ld none (.t 4)),oo 45 (.ld (some 2) (.t 10)),o none (.mdel false [.bool,.int .i64] (.t 44) (.t 45))]) (.reg [oo 46 (.ld none (.t 6)),oo 47 (.ld (some 2) (.t 10)),oo 48 (.call (.t 46) [(.t 47)]),oo 49 (.ixr 2 1 (.t 5) (.t 48)),oo 50 (.ld none (.t 49)),oo 51 (.ar .sub (.t 50) (ki 1)),oo 52 (.ixr 2 1 (.t 5) (.t 48)),o none (.st (some 1) (.t 52) (.t 51))])) (.skip))) (.seq (.seq (.reg [oo 53 (.ld (some 15) (.t 9)),oo 54 (.call (.k (.fn (.func 34) [] [])) [(.t 53)]),oo 55 (.lenS (.t 54)),oo 56 (.mv (ki 0))]) (.blk 2 (.loop 0 (.seq (.reg [oo 57 (.cmp .lss (.t 56) (.t 55))]) (.seq (.cond (.t 57) (.skip) (.exit 2)) (.seq (.blk 3 (.seq (.reg [oo 58 (.ixa 2 (.t 54) (.t 56)),oo 59 (.ld (some 2) (.t 58)),oo 13 (.alloc [.ff,(kz 0)]),o none (.st (some 2) (.t 13) (.t 59))]) (.seq (.reg [oo 60 (.ld none (.t 4)),oo 61 (.ld (some 2) (.t 13)),oo 62 (.lkp false false [.bool,.int .i64] true [.bool false] (.t 60) (.t 61)),oo 63 (.not (.t 62))]) (.cond (.t 63) (.seq (.reg [oo 64 (.ld none (.t 4)),oo 65 (.ld (some 2) (.t 13)),o none (.mup false [.bool,.int .i64] (.t 64) (.t 65) kt)]) (.reg [oo 66 (.ld none (.t 6)),oo 67 (.ld (some 2) (.t 13)),oo 68 (.call (.t 66) [(.t 67)]),oo 69 (.ixr 2 1 (.t 5) (.t 68)),oo 70 (.ld none (.t 69)),oo 71 (.ar .add (.t 70) (ki 1)),oo 72 (.ixr 2 1 (.t 5) (.t 68)),o none (.st (some 1) (.t 72) (.t 71))])) (.skip)))))
 (.reg [oo 73 (.ar .add (.t 56) (ki 1)),om 56 73]))))))) (.seq (.reg [oo 74 (.mv (ki 0))]) (.blk 4 (.loop 1 (.seq (.reg [oo 75 (.cmpl .lss (.t 74) (ki 2))]) (.seq (.cond (.t 75) (.skip) (.exit 4)) (.seq (.blk 5 (.seq (.reg [om 76 74,om 14 76]) (.seq (.reg [oo 77 (.ld none (.t 7)),om 78 14,oo 79 (.call (.t 77) [(ki 0),(.t 78)])]) (.drw [om 80 14,om 81 14,oo 82 (.ixr 2 1 (.t 3) (.t 81)),oo 83 (.ld none (.t 82)),om 84 14,oo 85 (.ixr 2 1 (.t 5) (.t 84)),oo 86 (.ld none (.t 85)),oo 87 (.mm true (.t 83) [(.t 86)]),oo 88 (.ixr 2 1 (.t 3) (.t 80)),o none (.st (some 1) (.t 88) (.t 87))] [[],[],[1],[2],[],[4],[5],[3,6],[0,0,1,2,3,4,5,6,7],[8,7,0,1,2,3,4,5,6,7]])))) (.reg [oo 89 (.arl .add (.t 74) (ki 1)),om 74 89])))))))))))) 148 19 c148))) (.seq (.drw [oo 90 (.ld (some 2) (.t 2)),oo 91 (.ld (some 2) (.t 3)),o none (.st (some 2) (.t 2) (.t 90)),o none (.st (some 2) (.t 3) (.t 91))] [[],[],[0,0],[1,2,0,1,2]]) (.ret)))))))
theorem k60 : FnOk Tryz.prog 60 92 c60 [.c 2 (some 2),.c 3 (some 2)] := .of Tryz.func60 (by kernel_rfl) (by kernel_rfl) (by kernel_rfl) (by kernel_rfl) ⟨trivial, ⟨trivial, ⟨trivial, ⟨trivial, ⟨trivial, ⟨⟨trivial, ⟨trivial, ⟨trivial, ⟨⟨trivial, ⟨trivial, trivial⟩⟩, ⟨⟨trivial, ⟨⟨trivial, trivial⟩, trivial⟩⟩, ⟨⟨trivial, ⟨trivial, ⟨⟨trivial, trivial⟩, ⟨⟨trivial, ⟨trivial, ⟨⟨trivial, trivial⟩, trivial⟩⟩⟩, trivial⟩⟩⟩⟩, ⟨trivial, ⟨trivial, ⟨⟨trivial, trivial⟩, ⟨⟨trivial, ⟨trivial, trivial⟩⟩, trivial⟩⟩⟩⟩⟩⟩⟩⟩, k148.it, k148.its⟩⟩, ⟨trivial, trivial⟩⟩⟩⟩⟩⟩⟩
attribute [local irreducible] Go.Sx.agetD Go.Sx.aget
structure ND where
 now : RB
 m0 : Int
 m1 : Int
 n0 : Int
 n1 : Int
 v0 : Int
 v1 : Int
def useN (s : ND) (r : HR) : ND := if inA s.now r = true then s else if r.vec = true then { s with now := aput MHB r true s.now, m1 := s.m1 + 1 } else { s with now := aput MHB r true s.now, m0 := s.m0 + 1 }
def defN (s : ND) (x : HI) : ND :=
 if (defF x).2 = true then
  (if inA s.now (defF x).1 = true then (if (defF x).1.vec = true then { s with now := adel MHB (defF x).1 s.now, m1 := s.m1 - 1 } else { s with now := adel MHB (defF x).1 s.now, m0 := s.m0 - 1 })
  else (if (defF x).1.vec = true then { s with n1 := max s.n1 (s.m1 + 1) } else { s with n0 := max s.n0 (s.m0 + 1) })) else s
def endN (s : ND) : ND := ⟨s.now, s.m0, s.m1, max s.n0 (s.m0 + 0), max s.n1 (s.m1 + 0), max s.v0 s.m0, max s.v1 s.m1⟩
def stepN (s : ND) (x : HI) : ND := endN ((usesF x).foldl useN (defN s x))
def nd0 : ND := ⟨[], 0, 0, 0, 0, 0, 0⟩
def needsF (l : List HI) : ND := l.reverse.foldl stepN nd0
def os60 (l : List HI) (lp : Nat) (r : Go.Loop) (e : LSt) : ND -> List (Nat × Option SO)
 | ⟨now, m0, m1, n0, n1, v0, v1⟩ => [(0, some (.row [kz n0, kz n1])), (1, some (.row [kz v0, kz v1])), (2, some (.map MHB now none)), (3, some (.row [.mp 2])), (4, some (.row [kz m0, kz m1])),
   (5, some (.row [.fn (.func 108) [] []])), (6, some (.row [.fn (.func 109) [] [.ptr 0 0 0, .ptr 4 0 0]])), (7, some (.row [hiS l])), (8, some (.lrec lp r e))]
abbrev Co60 := Nat × Go.Loop × Int × ND
abbrev Ci60 := Nat × Go.Loop × List HR × Int × ND
def inv60o (l : List HI) : Co60 -> St
 | (lp, r, i, s) => ⟨[(3, kz i), (1, .ptr 7 0 0), (0, .fn (.yield lp) [] [])], os60 l lp r .ready s, 9⟩
def inv60i (l : List HI) : Ci60 -> St
 | (lp, r, us, j, s) => ⟨[(56, kz j), (55, kz us.length), (54, .slc 9 0 us.length), (7, .ptr 6 0 0), (6, .ptr 5 0 0), (5, .ptr 4 0 0), (4, .ptr 3 0 0), (3, .ptr 1 0 0)], os60 l lp r .busy s ++ [(9, some (.vec 2 (us.map HR.pv)))], 10⟩
def bdN (c : Int) (s : ND) : Prop := -c ≤ s.m0 ∧ s.m0 ≤ c ∧ -c ≤ s.m1 ∧ s.m1 ≤ c
def I60o (l : List HI) (c0 c : Co60) : Prop := c.1 = c0.1 ∧ c.2.1 = c0.2.1 ∧ -1 ≤ c.2.2.1 ∧ c.2.2.1 < l.length ∧ l.length ≤ 4000 ∧ bdN (5 * (l.length - 1 - c.2.2.1)) c.2.2.2 ∧ (l.take (c.2.2.1 + 1).toNat).reverse.foldl stepN c.2.2.2 = needsF l
def I60i (c0 c : Ci60) : Prop := c.1 = c0.1 ∧ c.2.1 = c0.2.1 ∧ c.2.2.1 = c0.2.2.1 ∧ 0 ≤ c.2.2.2.1 ∧ c.2.2.2.1 ≤ c.2.2.1.length ∧ c.2.2.1.length ≤ 3 ∧
 (∀ b : Int, bdN b c0.2.2.2.2 -> bdN (b + c.2.2.2.1) c.2.2.2.2) ∧ bdN (30000 + c.2.2.2.1) c.2.2.2.2 ∧ (c.2.2.1.drop c.2.2.2.1.toNat).foldl useN c.2.2.2.2 = c0.2.2.1.foldl useN c0.2.2.2.2
def LA60 (l : List HI) : Nat -> LAnn
 | 0 => .inv Ci60 I60i (inv60i l) (fun c => (c.2.2.1.length - c.2.2.2.1).toNat)
 | 1 => .rounds 3
 | _ => .inv Co60 (I60o l) (inv60o l) (fun c => (c.2.2.1 + 1).toNat)
theorem use_0 {s : ND} {r : HR} (h : (!agetD MHB r s.now) = false) : useN s r = s := by
 have h : inA s.now r = true := nf h
 unfold useN; rw [if_pos h]
theorem use_1 {s : ND} {r : HR} (h : (!agetD MHB r s.now) = true) (h2 : r.vec = true) : useN s r = { s with now := aput MHB r true s.now, m1 := s.m1 + 1 } := by
 have h : inA s.now r = false := nt h
 unfold useN; rw [if_neg (by rw [h]; decide), if_pos h2]
theorem use_2 {s : ND} {r : HR} (h : (!agetD MHB r s.now) = true) (h2 : ¬ r.vec = true) : useN s r = { s with now := aput MHB r true s.now, m0 := s.m0 + 1 } := by
 have h : inA s.now r = false := nt h
 unfold useN; rw [if_neg (by rw [h]; decide), if_neg h2]
theorem def_0 {s : ND} {x : HI} (h : (defF x).2 = false) : defN s x = s := by unfold defN; rw [if_neg (by rw [h]; decide)]
theorem def_1 {s : ND} {x : HI} (h : (defF x).2 = true) (h1 : agetD MHB (defF x).1 s.now = true) (h2 : (defF x).1.vec = true) : defN s x = { s with now := adel MHB (defF x).1 s.now, m1 := s.m1 - 1 } := by
 have h1 : inA s.now (defF x).1 = true := h1
 unfold defN; rw [if_pos h, if_pos h1, if_pos h2]
theorem def_2 {s : ND} {x : HI} (h : (defF x).2 = true) (h1 : agetD MHB (defF x).1 s.now = true) (h2 : ¬ (defF x).1.vec = true) : defN s x = { s with now := adel MHB (defF x).1 s.now, m0 := s.m0 - 1 } := by
 have h1 : inA s.now (defF x).1 = true := h1
 unfold defN; rw [if_pos h, if_pos h1, if_neg h2]
theorem def_3 {s : ND} {x : HI} (h : (defF x).2 = true) (h1 : (!agetD MHB (defF x).1 s.now) = true) (h2 : (defF x).1.vec = true) : defN s x = { s with n1 := max s.n1 (s.m1 + 1) } := by
 have h1 : inA s.now (defF x).1 = false := nt h1
 unfold defN; rw [if_pos h, if_neg (by rw [h1]; decide), if_pos h2]
theorem def_4 {s : ND} {x : HI} (h : (defF x).2 = true) (h1 : (!agetD MHB (defF x).1 s.now) = true) (h2 : ¬ (defF x).1.vec = true) : defN s x = { s with n0 := max s.n0 (s.m0 + 1) } := by
 have h1 : inA s.now (defF x).1 = false := nt h1
 unfold defN; rw [if_pos h, if_neg (by rw [h1]; decide), if_neg h2]
theorem use_bd {s : ND} {r : HR} {b : Int} (h : bdN b s) : bdN (b + 1) (useN s r) := by
 unfold useN; simp only [bdN] at *; split
 . omega
 . split <;> (dsimp only; omega)
theorem def_bd {s : ND} {x : HI} {b : Int} (h : bdN b s) : bdN (b + 1) (defN s x) := by
 unfold defN; simp only [bdN] at *; split
 . split <;> split <;> (dsimp only; omega)
 . omega
theorem need_use {lp r us j s s' c0} (hI : I60i c0 (lp, r, us, j, s)) (hj : j < us.length) (e : useN s (nth us j) = s') : I60i c0 (lp, r, us, j + 1, s') ∧ ((us.length : Int) - (j + 1)).toNat < ((us.length : Int) - j).toNat := by
 obtain ⟨h1, h2, h3, h4, h5, h6, h7, h8, h9⟩ := hI
 dsimp only at *
 subst e
 refine ⟨⟨h1, h2, h3, by dsimp only; omega, by dsimp only; omega, h6, fun b hb => ?_, ?_, ?_⟩, by omega⟩
 . have := use_bd (r := nth us j) (h7 b hb)
   rw [Int.add_assoc] at this; exact this
 . have := use_bd (r := nth us j) h8
   rw [Int.add_assoc] at this; exact this
 . rw [drop_step _ _ ⟨h4, hj⟩] at h9
   exact h9
theorem need_go {l : List HI} {lp r i s s1 us j s' c00} (hI : I60o l c00 (lp, r, i, s)) (hi : 0 ≤ i) (hi2 : I60i (lp, r, usesF (nth l i), 0, s1) (lp, r, us, j, s')) (hj : ¬ j < us.length) (e : defN s (nth l i) = s1) :
 I60o l c00 (lp, r, i - 1, endN s') ∧ (i - 1 + 1).toNat < (i + 1).toNat := by
  obtain ⟨h1, h2, h3, h4, h5, h6, h7⟩ := hI
  obtain ⟨k1, k2, k3, k4, k5, k6, k7, k8, k9⟩ := hi2
  dsimp only at *
  subst e; subst k3
  have h8 := k7 _ (def_bd (x := nth l i) h6)
  rw [List.drop_eq_nil_of_le (by omega)] at k9
  refine ⟨⟨h1, h2, by dsimp only; omega, by dsimp only; omega, h5, ?_, ?_⟩, by omega⟩
  . simp only [bdN, endN] at *; omega
  . rw [take_step l i ⟨hi, h4⟩, List.reverse_append] at h7
    dsimp only
    rw [<- h7, Int.sub_add_cancel]
    simp only [List.reverse_cons, List.reverse_nil, List.nil_append, List.cons_append, List.foldl_cons, stepN]
    rw [<- k9]; rfl
theorem need_end {l : List HI} {lp r i s c00} (hI : I60o l c00 (lp, r, i, s)) (hi : ¬ 0 ≤ i) : needsF l = s := by
 obtain ⟨h1, h2, h3, h4, h5, h6, h7⟩ := hI
 dsimp only at *
 have : (i + 1).toNat = 0 := by omega
 rw [this] at h7
 rw [<- h7]; rfl
theorem need_0 {l : List HI} {lp r} (h : l.length ≤ 4000) : I60o l (lp, r, l.length - 1, nd0) (lp, r, l.length - 1, nd0) := by
 refine ⟨rfl, rfl, by dsimp only; omega, by dsimp only; omega, h, ?_, ?_⟩
 . simp only [bdN, nd0]; omega
 . dsimp only
   rw [List.take_of_length_le (by omega)]; rfl
theorem need_i {l : List HI} {lp r i s s1 c00} (hI : I60o l c00 (lp, r, i, s)) (e : defN s (nth l i) = s1) : I60i (lp, r, usesF (nth l i), 0, s1) (lp, r, usesF (nth l i), 0, s1) := by
 obtain ⟨h1, h2, h3, h4, h5, h6, h7⟩ := hI
 dsimp only at *
 subst e
 refine ⟨rfl, rfl, rfl, by dsimp only; omega, by dsimp only; omega, usesF_len _, fun b hb => by dsimp only; rw [Int.add_zero]; exact hb, ?_, rfl⟩
 have := def_bd (x := nth l i) h6
 simp only [bdN] at *; omega
theorem allo {l : List HI} {lp : Nat} {r : Go.Loop} {x : Int × ND} {Q : Co60 -> Prop} (h : ∀ i now m0 m1 n0 n1 v0 v1, I60o l (lp, r, x) (lp, r, i, ⟨now, m0, m1, n0, n1, v0, v1⟩) -> Q (lp, r, i, ⟨now, m0, m1, n0, n1, v0, v1⟩)) :
 ∀ c, I60o l (lp, r, x) c -> Q c := fun ⟨lp', r', i, ⟨now, m0, m1, n0, n1, v0, v1⟩⟩ hI => by
  have h1 := hI.1
  have h2 := hI.2.1
  dsimp only at h1 h2
  subst h1; subst h2
  exact h _ _ _ _ _ _ _ _ hI
theorem alli {lp : Nat} {r : Go.Loop} {us : List HR} {x : Int × ND} {Q : Ci60 -> Prop} (h : ∀ j now m0 m1 n0 n1 v0 v1, I60i (lp, r, us, x) (lp, r, us, j, ⟨now, m0, m1, n0, n1, v0, v1⟩) -> Q (lp, r, us, j, ⟨now, m0, m1, n0, n1, v0, v1⟩)) :
 ∀ c, I60i (lp, r, us, x) c -> Q c := fun ⟨lp', r', us', i, ⟨now, m0, m1, n0, n1, v0, v1⟩⟩ hI => by
  have h1 := hI.1
  have h2 := hI.2.1
  have h3 := hI.2.2.1
  dsimp only at h1 h2 h3
  subst h1; subst h2; subst h3
  exact h _ _ _ _ _ _ _ _ hI
noncomputable def L60 (l : List HI) : LSpec := ⟨[.rd (.sl 15 (l.map HI.pv))], [], [], [], .tup [.agg [kz (needsF l).n0, kz (needsF l).n1], .agg [kz (needsF l).v0, kz (needsF l).v1]]⟩
set_option maxHeartbeats 8000000 in
theorem s60 (l : List HI) (hp : l.length ≤ 4000) : LSpec.ok Tryz.prog GG 60 (L60 l) := by
 refine fn_spec mix k60 _ rfl rfl (Tab.ok (l := [(33, S33), (34, S34), (108, S108), (109, S109), (110, S110)]) ⟨t33, t34, t108, t109, t110, trivial⟩) (LA60 l) noJ ?_
 repeat' ((conv => whnf); first
  | exact trivial
  | with_reducible first | refine aj ?_ | refine ai rfl ?_ | refine ai ⟨rfl, rfl⟩ ?_
  | ((with_reducible refine ai ?_ ?_); focus exact w3)
  | with_reducible first | refine ai ⟨rfl, rfl, rfl⟩ ?_ | refine allo ?_ | refine alli ?_ | apply exW (γ := Co60) (c := (_, _, _, ⟨_, _, _, _, _, _, _⟩)) | apply exW (γ := Ci60) (c := (_, _, _, _, ⟨_, _, _, _, _, _, _⟩)) | refine exI (i64_in (by simp only [I60o, I60i, bdN, List.length_map] at *; omega) (by simp only [I60o, I60i, bdN, List.length_map] at *; omega)) ?_
  | refine exI (x := ULift.up _) (pv_get0 _ _ _ (by simp only [I60o, I60i, bdN, List.length_map] at *; omega)) ?_
  | refine exI (x := ULift.up _) ⟨rfl, (by simp only [I60o, I60i, bdN, List.length_map] at *; omega), pv_get _ _ _ (by simp only [I60o, I60i, bdN, List.length_map] at *; omega)⟩ ?_
  | with_reducible first | refine And.intro (Sd.mk (p := (_ : Int) ≤ _ ∧ _) (by simp only [I60o, I60i, bdN, List.length_map] at *; omega)) ?_ | refine And.intro (Sd.mk (p := ((_ : Int) ≤ _ ∧ _) ∧ _) (by simp only [I60o, I60i, bdN, List.length_map] at *; omega)) ?_
  | refine And.intro (Sd.mk (p := MapTy.one MHB = _ ∧ _) ⟨rfl, rfl⟩) ?_
  | refine And.intro (Sd.mk (p := MapTy.vone MHB = _ ∧ _) ⟨rfl, rfl⟩) ?_
  | refine exI (x := MHB) trivial ?_
  | refine exI (x := ULift.up true) trivial ?_
  | apply exI (x := ULift.up (HR.mk _ _)) trivial
  | with_reducible first | refine And.intro ?_ ?_ | refine asL_mk ?_ | refine exI (i64_in (by omega) (by omega)) ?_
  | refine exI (x := ULift.up _) (Eq.refl _) ?_
  | refine exI (x := ULift.up _) ⟨rfl, by omega, Eq.refl _⟩ ?_
  | exact nx
  | ((with_reducible intro h); try dsimp only at h))
 all_goals (refine Sd.mk ?_; (try simp only [HI.eta, HR.eta, List.length_map] at *))
 all_goals first
  | exact need_0 hp
  | exact need_use (s := ⟨_, _, _, _, _, _, _⟩) (by assumption) (by assumption) (use_0 (by assumption))
  | exact need_use (s := ⟨_, _, _, _, _, _, _⟩) (by assumption) (by assumption) (use_1 (by assumption) (by assumption))
  | exact need_use (s := ⟨_, _, _, _, _, _, _⟩) (by assumption) (by assumption) (use_2 (by assumption) (by assumption))
  | exact need_i (s := ⟨_, _, _, _, _, _, _⟩) (by assumption) (def_0 (by assumption))
  | exact need_i (s := ⟨_, _, _, _, _, _, _⟩) (by assumption) (def_1 (by assumption) (by assumption) (by assumption))
  | exact need_i (s := ⟨_, _, _, _, _, _, _⟩) (by assumption) (def_2 (by assumption) (by assumption) (by assumption))
  | exact need_i (s := ⟨_, _, _, _, _, _, _⟩) (by assumption) (def_3 (by assumption) (by assumption) (by assumption))
  | exact need_i (s := ⟨_, _, _, _, _, _, _⟩) (by assumption) (def_4 (by assumption) (by assumption) (by assumption))
  | exact need_go (s := ⟨_, _, _, _, _, _, _⟩) (by assumption) (by assumption) (by assumption) (by assumption) (def_0 (by assumption))
  | exact need_go (s := ⟨_, _, _, _, _, _, _⟩) (by assumption) (by assumption) (by assumption) (by assumption) (def_1 (by assumption) (by assumption) (by assumption))
  | exact need_go (s := ⟨_, _, _, _, _, _, _⟩) (by assumption) (by assumption) (by assumption) (by assumption) (def_2 (by assumption) (by assumption) (by assumption))
  | exact need_go (s := ⟨_, _, _, _, _, _, _⟩) (by assumption) (by assumption) (by assumption) (by assumption) (def_3 (by assumption) (by assumption) (by assumption))
  | exact need_go (s := ⟨_, _, _, _, _, _, _⟩) (by assumption) (by assumption) (by assumption) (by assumption) (def_4 (by assumption) (by assumption) (by assumption))
  | (have h := need_end (s := ⟨_, _, _, _, _, _, _⟩) (by assumption) (by assumption); rw [h])
noncomputable def S60 : SFn
 | [a0], k => asSl a0 fun L_l => asL HI.pv L_l fun l => .req (l.length ≤ 4000) (k (L60 l))
 | _, _ => .fail
theorem t60 : FnS Tryz.prog GG 60 S60 := by
 intro args k gt go R v os n h
 unfold S60 at h
 split at h
 . obtain ⟨L_l, _, h⟩ := asSl_inv h
   obtain ⟨l, _, h⟩ := asL_inv h
   obtain ⟨hp, _, h⟩ := req_inv h
   exact ⟨_, _, s60 l hp, h⟩
 . cases h
end Go.Proofs.YtlahifihaeafbaaGreatDoor
