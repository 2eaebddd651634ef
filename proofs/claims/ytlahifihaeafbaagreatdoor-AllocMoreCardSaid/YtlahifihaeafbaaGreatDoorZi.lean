/- Part 9 of 11 of a proof of the law AllocMore: what the last part leans on. -/
import Derived.Test.YtlahifihaeafbaaGreatDoorZh
import Derived.Test.YtlahifihaeafbaaGreatDoorY
set_option linter.all false
set_option maxRecDepth 100000
namespace Go.Proofs.YtlahifihaeafbaaGreatDoor
open Go Go.Sx
def c28 : MC := .seq (.reg [oo 6 (.alloc [(.val (.slice none 0 0)),(.val (.slice none 0 0))]),oo 7 (.mv (ki 0))]) (.seq (.seq (.reg [om 13 0,om 14 1,om 15 2,oo 16 (.call (.k (.fn (.func 62) [] [])) [(.t 13),(.t 14),(.t 15)]),om 8 16]) (.seq (.reg [om 17 8,oo 18 (.cmp .neq (.t 17) (ki 0))]) (.cond (.t 18) (.seq (.reg [oo 19 (.bld [(.val (.slice none 0 0)),(.val (.slice none 0 0))] []),om 20 8,o none (.st (some 2) (.t 6) (.t 19)),om 7 20]) (.ret)) (.skip)))) (.seq (.seq (.reg [om 22 0,oo 23 (.call (.k (.fn (.func 60) [] [])) [(.t 22)]),om 21 23,oo 24 (.ext 0 (.t 21)),oo 25 (.ext 1 (.t 21)),oo 9 (.alloc [(kz 0),(kz 0)]),oo 10 (.alloc [(kz 0),(kz 0)]),o none (.st (some 2) (.t 9) (.t 24)),o none (.st (some 2) (.t 10) (.t 25))]) (.seq (.reg [oo 26 (.ixr 2 1 (.t 10) (ki 0)),oo 27 (.ld none (.t 26)),oo 28 (.cmp .gtr (.t 27) (ki 200)),os (some 29) (.mv (.t 28)),og 29 false (some 30) (.ixr 2 1 (.t 10) (ki 1)),og 29 false (some 31) (.ld none (.t 30)),og 29 false (some 32) (.cmp .gtr (.t 31) (ki 75)),oo 33 (.pick (.t 29) kt (.t 32))]) (.cond (.t 33) (.seq (.reg [oo 34 (.bld [(.val (.slice none 0 0)),(.val (.slice none 0 0))] []),o none (.st (some 2) (.t 6) (.t 34)),oo 7 (.mv (ki 2))]) (.ret)) (.skip)))) (.seq (.reg [om 35 0,oo 36 (.call (.k (.fn (.func 50) [] [])) [(.t 35)]),om 37 0,om 38 1,oo 39 (.call (.k (.fn (.func 73) [] [])) [kf,(.t 38)]),om 40 2,oo 41 (.call (.k (.fn (.func 73) [] [])) [kt,(.t 40)]),oo 42 (.bld [(.val (.map none)),(.val (.map none)),(.val (.slice none 0 0)),(.val (.slice none 0 0)),(.val (.slice none 0 0)),(.val (.pointer none)),(.val (.pointer none))] [(0,2,(.t 36)),(2,1,(.t 37)),(5,1,(.t 39)),(6,1,(.t 41))]),oo 43 (.box (.t 42)),om 11 43]) (.seq (.seq (.reg [om 44 0,oo 45 (.lenS (.t 44)),oo 46 (.mv (ki 0))]) (.blk 0 (.loop 0 (.seq (.reg [oo 47 (.cmp .lss (.t 46) (.t 45))]) (.seq (.cond (.t 47) (.skip) (.exit 0)) (.seq (.blk 1 (.seq (.reg [om 48 46,om 12 48]) (.reg [om 49 11,om 50 12,oo 51 (.call (.k (.fn (.func 74) [] [])) [(.t 49),(.t 50)])]))) (.reg [oo 52 (.ar .add (.t 46) (ki 1)),om 46 52]))))))) (.seq (.reg [om 53 11,oo 54 (.nchk (.t 53)),oo 55 (.fld 3 (.t 54)),oo 56 (.ld (some 2) (.t 55)),o none (.st (some 2) (.t 6) (.t 56)),oo 7 (.mv (ki 0))]) (.ret))))))
theorem k28 : FnOk Tryz.prog 28 57 c28 [.c 6 (some 2),.t 7] := fk Tryz.func28 ⟨tv,⟨⟨tv,⟨tv,⟨⟨tv,tv⟩,tv⟩⟩⟩,⟨⟨tv,⟨tv,⟨⟨tv,tv⟩,tv⟩⟩⟩,⟨tv,⟨⟨tv,⟨tv,⟨⟨tv,tv⟩,⟨⟨tv,tv⟩,tv⟩⟩⟩⟩,⟨tv,tv⟩⟩⟩⟩⟩⟩
attribute [local irreducible] checkA timesF needsF newBK stepA
def errA (l : List HI) (w v : Int) : Int := if argsF l w v ≠ 0 then argsF l w v else if 200 < (needsF l).v0 ∨ 75 < (needsF l).v1 then 2 else 0
def s0A (l : List HI) (w v : Int) : AS := ⟨(timesF l).1, (timesF l).2, l, [], [], newBK false w, newBK true v⟩
def stN (l : List HI) (w v : Int) : Nat -> AS
 | 0 => s0A l w v
 | k + 1 => stepA (stN l w v k) k
def outAL (l : List HI) (w v : Int) : List HI := if errA l w v = 0 then (stN l w v l.length).L else []
def outAF (l : List HI) (w v : Int) : List Int := if errA l w v = 0 then (stN l w v l.length).fr else []
def Ok28 (l : List HI) (w v : Int) : Prop := errA l w v = 0 -> ∀ i : Int, 0 ≤ i -> i < l.length -> StepOk (stN l w v i.toNat) i
abbrev os28 (s : AS) : List (Nat × Option SO) := [(0, some (.row [.mp 1, .mp 2, .rd (.sl 15 (List.map HI.pv (s).code)), .slc 3 0 (s).L.length, .slc 4 0 (s).fr.length, .ptr 5 0 0, .ptr 6 0 0])), (1, some (.map MTS (s).us none)), (2, some (.map MTS (s).ds none)), (3, some (.vec 15 (List.map HI.pv (s).L))), (4, some (.vec 1 (List.map ipv (s).fr))), (5, some (.row [.bool (s).w.vec, .mp 7, .mp 8, .mp 9, .mp 10, .mp 11])), (6, some (.row [.bool (s).v.vec, .mp 12, .mp 13, .mp 14, .mp 15, .mp 16])), (7, some (.map MIB (s).w.free none)), (8, some (.map MII (s).w.holds none)), (9, some (.map MII (s).w.at_ none)), (10, some (.map MII (s).w.slot none)), (11, some (.map MIB (s).w.slots none)), (12, some (.map MIB (s).v.free none)), (13, some (.map MII (s).v.holds none)), (14, some (.map MII (s).v.at_ none)), (15, some (.map MII (s).v.slot none)), (16, some (.map MIB (s).v.slots none))]
def inv28 (l : List HI) (w v : Int) (i : Int) : St := ⟨[(46, kz i), (45, kz l.length), (11, .ptr 0 0 0), (6, .ptr 17 0 0)], os28 (stN l w v i.toNat) ++ [(17, some (.row [.val (.slice none 0 0), .val (.slice none 0 0)]))], 18⟩
def I28 (l : List HI) (i : Int) : Prop := 0 ≤ i ∧ i ≤ l.length ∧ l.length ≤ 4000
theorem stN_succ {l : List HI} {w v i : Int} (h : 0 ≤ i) : stN l w v (i + 1).toNat = stepA (stN l w v i.toNat) i := by
 have e : (i + 1).toNat = i.toNat + 1 := by omega
 have e2 : ((i.toNat : Nat) : Int) = i := by omega
 rw [e, stN, e2]
theorem ea_0 {l : List HI} {w v : Int} (h : ¬ argsF l w v = 0) : errA l w v = argsF l w v := by unfold errA; rw [if_pos h]
theorem ea_1 {l : List HI} {w v : Int} (h : ¬ ¬ argsF l w v = 0) (h2 : 200 < (needsF l).v0 ∨ 75 < (needsF l).v1) : errA l w v = 2 := by unfold errA; rw [if_neg h, if_pos h2]
theorem ea_2 {l : List HI} {w v : Int} (h : ¬ ¬ argsF l w v = 0) (h2 : ¬ 200 < (needsF l).v0) (h3 : ¬ 75 < (needsF l).v1) : errA l w v = 0 := by unfold errA; rw [if_neg h, if_neg (by omega)]
theorem oe_L {l : List HI} {w v e : Int} (h : errA l w v = e) (he : e ≠ 0) : outAL l w v = [] := by unfold outAL; rw [if_neg (by rw [h]; exact he)]
theorem oe_F {l : List HI} {w v e : Int} (h : errA l w v = e) (he : e ≠ 0) : outAF l w v = [] := by unfold outAF; rw [if_neg (by rw [h]; exact he)]
theorem lc28 {l : List HI} {w v : Int} (h : ¬ ¬ argsF l w v = 0) : l.length ≤ 4000 := by
 unfold argsF at h
 split at h
 . next q => exact absurd (by decide) h
 . next q => exact lc q
theorem wv28 {l : List HI} {w v : Int} (h : ¬ ¬ argsF l w v = 0) : 0 ≤ w ∧ w ≤ 1000 ∧ 0 ≤ v ∧ v ≤ 1000 := by
 unfold argsF at h
 split at h
 . next q => exact absurd (by decide) h
 . split at h
   . exact absurd (by decide) h
   . omega
theorem oo_L {l : List HI} {w v i : Int} (h0 : errA l w v = 0) (h : I28 l i) (hi : ¬ i < l.length) : outAL l w v = (stN l w v i.toNat).L := by
 obtain ⟨h1, h2, _⟩ := h
 have : i.toNat = l.length := by omega
 unfold outAL; rw [if_pos h0, this]
theorem oo_F {l : List HI} {w v i : Int} (h0 : errA l w v = 0) (h : I28 l i) (hi : ¬ i < l.length) : outAF l w v = (stN l w v i.toNat).fr := by
 obtain ⟨h1, h2, _⟩ := h
 have : i.toNat = l.length := by omega
 unfold outAF; rw [if_pos h0, this]
theorem i28_0 {l : List HI} {w v : Int} (h : ¬ ¬ argsF l w v = 0) : I28 l 0 := ⟨by omega, by omega, lc28 h⟩
theorem i28_go {l : List HI} {i : Int} (h : I28 l i) (hi : i < l.length) : I28 l (i + 1) ∧ ((l.length : Int) - (i + 1)).toNat < ((l.length : Int) - i).toNat := ⟨⟨by have := h.1; omega, by omega, h.2.2⟩, by have := h.1; omega⟩
noncomputable def L28 (l : List HI) (w : Int) (v : Int) : LSpec := ⟨[.rd (.sl 15 (l.map HI.pv)), kz w, kz v], [], [], [.vec 15 (List.map HI.pv (outAL l w v)), .vec 1 (List.map ipv (outAF l w v))], .tup [.agg [.slc 0 0 (outAL l w v).length, .slc 1 0 (outAF l w v).length], kz (errA l w v)]⟩
set_option maxHeartbeats 20000000 in
theorem s28 (l : List HI) (w : Int) (v : Int) (ho : Ok28 l w v) : LSpec.ok Tryz.prog GG 28 (L28 l w v) := by
 refine fn_spec mix k28 _ rfl rfl (Tab.ok (l := [(62, S62), (60, S60), (50, S50), (73, S73), (74, S74)]) ⟨t62, t60, t50, t73, t74, trivial⟩) (fun _ => .inv Int (fun _ => I28 l) (inv28 l w v) (fun i => ((l.length : Int) - i).toNat)) noJ ?_
 repeat' ((conv => whnf); first
  | exact trivial
  | with_reducible first | refine aj ?_ | refine ai rfl ?_ | refine ai ⟨rfl, rfl⟩ ?_
  | ((with_reducible refine ai ?_ ?_); focus exact w3)
  | with_reducible first | apply exW (γ := Int) (c := _) | refine exI (i64_in (by simp only [I28, List.length_map] at *; omega) (by simp only [I28, List.length_map] at *; omega)) ?_ | refine And.intro (Sd.mk (p := _ ≤ 4000) (lc28 (by assumption))) ?_ | refine And.intro (Sd.mk (p := 0 ≤ w ∧ w ≤ 1000) ⟨(wv28 (by assumption)).1, (wv28 (by assumption)).2.1⟩) ?_ | refine And.intro (Sd.mk (p := 0 ≤ v ∧ v ≤ 1000) (wv28 (by assumption)).2.2) ?_
  | refine And.intro (Sd.mk (p := StepOk _ _) (ho (ea_2 (by assumption) (by assumption) (by assumption)) _ (by simp only [I28, List.length_map] at *; omega) (by simp only [I28, List.length_map] at *; omega))) ?_
  | with_reducible first | refine And.intro ?_ ?_ | refine asL_mk ?_ | refine exI (i64_in (by omega) (by omega)) ?_
  | refine exI (x := ULift.up _) (Eq.refl _) ?_
  | refine exI (x := ULift.up _) ⟨rfl, by omega, Eq.refl _⟩ ?_
  | exact nx
  | ((with_reducible intro h); try dsimp only at h))
 all_goals (refine Sd.mk ?_)
 all_goals first
  | exact i28_0 (by assumption)
  | exact i28_go (by assumption) (by assumption)
  | exact (ea_0 (by assumption))
  | exact ⟨rfl, by rw [oe_L (ea_0 (by assumption)) (by assumption)]; rfl, rfl⟩
  | exact ⟨rfl, by rw [oe_F (ea_0 (by assumption)) (by assumption)]; rfl, rfl⟩
  | (rw [oe_L (ea_0 (by assumption)) (by assumption)]; rfl)
  | (rw [oe_F (ea_0 (by assumption)) (by assumption)]; rfl)
  | exact (ea_1 (by assumption) (.inl (by assumption)))
  | exact ⟨rfl, by rw [oe_L (ea_1 (by assumption) (.inl (by assumption))) (by decide)]; rfl, rfl⟩
  | exact ⟨rfl, by rw [oe_F (ea_1 (by assumption) (.inl (by assumption))) (by decide)]; rfl, rfl⟩
  | (rw [oe_L (ea_1 (by assumption) (.inl (by assumption))) (by decide)]; rfl)
  | (rw [oe_F (ea_1 (by assumption) (.inl (by assumption))) (by decide)]; rfl)
  | exact (ea_1 (by assumption) (.inr (by assumption)))
  | exact ⟨rfl, by rw [oe_L (ea_1 (by assumption) (.inr (by assumption))) (by decide)]; rfl, rfl⟩
  | exact ⟨rfl, by rw [oe_F (ea_1 (by assumption) (.inr (by assumption))) (by decide)]; rfl, rfl⟩
  | (rw [oe_L (ea_1 (by assumption) (.inr (by assumption))) (by decide)]; rfl)
  | (rw [oe_F (ea_1 (by assumption) (.inr (by assumption))) (by decide)]; rfl)
  | exact (ea_2 (by assumption) (by assumption) (by assumption))
  | exact ⟨rfl, rfl, rfl⟩
  | exact ⟨rfl, by rw [oo_L (ea_2 (by assumption) (by assumption) (by assumption)) (by assumption) (by assumption)]⟩
  | exact ⟨rfl, by rw [oo_F (ea_2 (by assumption) (by assumption) (by assumption)) (by assumption) (by assumption)]⟩
  | (rw [stN_succ] <;> first | rfl | exact ⟨rfl, rfl⟩ | (simp only [I28] at *; omega))
end Go.Proofs.YtlahifihaeafbaaGreatDoor
namespace Go.Proofs.YtlahifihaeafbaaGreatDoor
open Go Go.Sx
def c150 : MC := .seq (.reg [oo 4 (.box (.t 1)),oo 5 (.box (.t 2))]) (.seq (.drw [om 9 0,oo 10 (.nchk (.t 9)),oo 11 (.fld 3 (.t 10)),oo 12 (.ld none (.t 11)),oo 13 (.ld (some 2) (.t 5)),oo 14 (.lkp true false [.int .i64,.int .i64] false [.bool false,.int .i64 0,.int .i64 0] (.t 12) (.t 13)),om 8 14,oo 15 (.ext 0 (.t 8)),oo 16 (.ext 1 (.t 8)),oo 6 (.alloc [.ff,(kz 0),(kz 0)]),o none (.st (some 3) (.t 6) (.t 15)),om 7 16] [[],[0],[1],[2],[],[3,4],[5],[6],[6],[],[9,7,0,1,2,3,4,5,6,7,9],[8,10,0,1,2,3,4,5,6,7,8,9,10]]) (.seq (.seq (.reg [om 17 7,oo 18 (.not (.t 17)),os (some 19) (.mv (.t 18)),og 19 false (some 20) (.fld 0 (.t 5)),og 19 false (some 21) (.ld none (.t 20)),og 19 false (some 22) (.cmp .eql (.t 21) (ki 2)),ogs 19 false (some 23) (.mv (.t 22)),og 23 true (some 24) (.fld 2 (.t 6)),og 23 true (some 25) (.ld none (.t 24)),og 23 true (some 26) (.cmp .neq (.t 25) (ki 0)),og 19 false (some 27) (.pick (.t 23) (.t 26) kf),oo 28 (.pick (.t 19) kt (.t 27))]) (.cond (.t 28) (.seq (.drw [om 29 0,oo 30 (.nchk (.t 29)),oo 31 (.fld 3 (.t 30)),oo 32 (.ld none (.t 31)),oo 33 (.ld (some 2) (.t 4)),o none (.mdel false [.int .i64,.int .i64] (.t 32) (.t 33))] [[],[0],[1],[2],[],[3,4]]) (.ret)) (.skip))) (.drw [om 34 0,oo 35 (.nchk (.t 34)),oo 36 (.fld 3 (.t 35)),oo 37 (.ld none (.t 36)),oo 38 (.ld (some 2) (.t 4)),oo 39 (.ld (some 3) (.t 6)),o none (.mup false [.int .i64,.int .i64] (.t 37) (.t 38) (.t 39))] [[],[0],[1],[2],[],[],[3,4,5,0,1,2,3,4,5]])))
theorem k150 : FnOk Tryz.prog 150 40 c150 [] := fk Tryz.func150 ⟨tv,⟨tv,⟨⟨tv,⟨⟨tv,tv⟩,tv⟩⟩,tv⟩⟩⟩
def c151 : MC := .seq (.reg [oo 1 (.box (.t 0)),oo 2 (.alloc [(kz 0),(kz 0)])]) (.seq (.seq (.reg [oo 3 (.fld 0 (.t 1)),oo 4 (.ld none (.t 3))]) (.cond (.t 4) (.seq (.reg [oo 5 (.fld 1 (.t 1)),oo 6 (.ld none (.t 5)),oo 7 (.bld [(kz 0),(kz 0)] [(0,1,(ki 1)),(1,1,(.t 6))]),o none (.st (some 2) (.t 2) (.t 7))]) (.ret)) (.skip))) (.seq (.reg [oo 8 (.fld 1 (.t 1)),oo 9 (.ld none (.t 8)),oo 10 (.bld [(kz 0),(kz 0)] [(0,1,(ki 0)),(1,1,(.t 9))]),o none (.st (some 2) (.t 2) (.t 10))]) (.ret)))
theorem k151 : FnOk Tryz.prog 151 11 c151 [.c 2 (some 2)] := fk Tryz.func151 ⟨tv,⟨⟨tv,⟨⟨tv,tv⟩,tv⟩⟩,⟨tv,tv⟩⟩⟩
def c149 : MC := .seq (.reg [oo 3 (.alloc [(kz 0),(kz 0)])]) (.seq (.reg [oo 4 (.fld 8 (.t 1)),oo 5 (.ld none (.t 4)),om 6 0,oo 7 (.ar .add (.t 5) (.t 6)),oo 8 (.bld [(kz 0),(kz 0)] [(0,1,(ki 2)),(1,1,(.t 7))]),o none (.st (some 2) (.t 3) (.t 8))]) (.ret))
theorem k149 : FnOk Tryz.prog 149 9 c149 [.c 3 (some 2)] := fk Tryz.func149 ⟨tv,⟨tv,tv⟩⟩
def c111 : MC := .seq (.reg [oo 3 (.box (.t 0)),oo 6 (.mv kf)]) (.seq (.reg [oo 12 (.ld (some 15) (.t 3)),oo 13 (.call (.k (.fn (.func 34) [] [])) [(.t 12)]),om 7 13]) (.seq (.seq (.reg [oo 15 (.ld (some 15) (.t 3)),oo 16 (.call (.k (.fn (.func 33) [] [])) [(.t 15)]),om 14 16,oo 17 (.ext 0 (.t 14)),oo 18 (.ext 1 (.t 14)),oo 8 (.alloc [.ff,(kz 0)]),o none (.st (some 2) (.t 8) (.t 17)),om 9 18]) (.seq (.reg [om 19 9]) (.cond (.t 19) (.reg [om 20 7,oo 21 (.ld (some 2) (.t 8)),oo 22 (.bsl 2 1 [.ff,(kz 0)] [(0,(.t 21))]),oo 23 (.app 2 16 (.t 20) (.t 22)),om 7 23]) (.skip)))) (.seq (.seq (.reg [om 24 7,oo 25 (.lenS (.t 24)),oo 26 (.mv (ki 0))]) (.blk 0 (.loop 0 (.seq (.reg [oo 27 (.cmp .lss (.t 26) (.t 25))]) (.seq (.cond (.t 27) (.skip) (.exit 0)) (.seq (.blk 1 (.seq (.reg [oo 28 (.ixa 2 (.t 24) (.t 26)),oo 29 (.ld (some 2) (.t 28)),oo 11 (.alloc [.ff,(kz 0)]),o none (.st (some 2) (.t 11) (.t 29))]) (.seq (.reg [oo 30 (.fld 0 (.t 11)),oo 31 (.ld none (.t 30)),os (some 32) (.mv (.t 31)),og 32 true (some 33) (.fld 1 (.t 11)),og 32 true (some 34) (.ld none (.t 33)),og 32 true (some 35) (.mv (.t 2)),og 32 true (some 36) (.cmp .geq (.t 34) (.t 35)),oo 37 (.pick (.t 32) (.t 36) kf),os (some 38) (.mv (.t 37)),og 38 false (some 39) (.fld 0 (.t 11)),og 38 false (some 40) (.ld none (.t 39)),og 38 false (some 41) (.not (.t 40)),ogs 38 false (some 42) (.mv (.t 41)),og 42 true (some 43) (.fld 1 (.t 11)),og 42 true (some 44) (.ld none (.t 43)),og 42 true (some 45) (.mv (.t 1)),og 42 true (some 46) (.cmp .geq (.t 44) (.t 45)),og 38 false (some 47) (.pick (.t 42) (.t 46) kf),oo 48 (.pick (.t 38) kt (.t 47))]) (.cond (.t 48) (.seq (.reg [oo 6 (.mv kf)]) (.ret)) (.skip))))) (.reg [oo 49 (.ar .add (.t 26) (ki 1)),om 26 49]))))))) (.seq (.reg [oo 6 (.mv kt)]) (.ret)))))
theorem k111 : FnOk Tryz.prog 111 50 c111 [.t 6] := fk Tryz.func111 ⟨tv,⟨tv,⟨⟨tv,⟨tv,⟨tv,tv⟩⟩⟩,⟨⟨tv,⟨tv,⟨⟨tv,tv⟩,⟨⟨tv,⟨tv,⟨⟨tv,tv⟩,tv⟩⟩⟩,tv⟩⟩⟩⟩,⟨tv,tv⟩⟩⟩⟩⟩
attribute [local irreducible] Go.Sx.agetD Go.Sx.aget
def copyF (es : HM) (t f : PL) : HM := if (aget MPC f es).isSome = false ∨ (f.kind = 2 ∧ (agetD MPC f es : CT).part ≠ 0) then adel MPC t es else aput MPC t (agetD MPC f es) es
abbrev ctG (f : PL) (es : HM) : CT := agetD MPC f es
abbrev MPS (es : HM) : SO := .map MPC es none
theorem copy_no {es : HM} {t f : PL} (h : (!(aget MPC f es).isSome) = true) : MPS (copyF es t f) = MPS (adel MPC t es) := by
 unfold copyF; rw [if_pos (.inl (nt h))]
theorem copy_del {es : HM} {t f : PL} (h1 : f.kind = 2) (h2 : ¬ (ctG f es).part = 0) : MPS (copyF es t f) = MPS (adel MPC t es) := by
 unfold copyF; rw [if_pos (.inr ⟨h1, h2⟩)]
theorem copy_put {es : HM} {t f : PL} (h : (!(aget MPC f es).isSome) = false) (h1 : ¬ f.kind = 2 ∨ ¬ ¬ (ctG f es).part = 0) : MPS (copyF es t f) = MPS (aput MPC t (CT.mk (ctG f es).r (ctG f es).part) es) := by
 unfold copyF; rw [if_neg]
 . rw [nf h]; rintro (h2 | ⟨h2, h3⟩)
   . cases h2
   . rcases h1 with h1 | h1
     . exact h1 h2
     . exact h1 h3
noncomputable def L150 (v : VL) (es : HM) (t : PL) (f : PL) : LSpec := ⟨[.ptr 0 0 0, .agg t.cells, .agg f.cells], [v.row, .map MPC es none], [some v.row, some (.map MPC (copyF es t f) none)], [], .tup []⟩
set_option maxHeartbeats 2000000 in
theorem s150 (v : VL) (es : HM) (t : PL) (f : PL) : LSpec.ok Tryz.prog GG 150 (L150 v es t f) := by
 refine fn_spec mix k150 _ rfl rfl (Tab.ok (l := []) trivial) noL noJ ?_
 repeat' ((conv => whnf); first
  | exact trivial
  | with_reducible first | refine aj ?_ | refine ai rfl ?_ | refine ai ⟨rfl, rfl⟩ ?_
  | ((with_reducible refine ai ?_ ?_); focus exact w3)
  | refine And.intro (Sd.mk (p := MapTy.one MPC = _ ∧ _) ⟨rfl, rfl⟩) ?_
  | refine And.intro (Sd.mk (p := MapTy.vone MPC = _ ∧ _) ⟨rfl, rfl⟩) ?_
  | apply exI (x := ULift.up (PL.mk _ _)) trivial
  | apply exI (x := ULift.up (CT.mk (HR.mk _ _) _)) trivial
  | with_reducible first | refine And.intro ?_ ?_ | refine asL_mk ?_ | refine exI (i64_in (by omega) (by omega)) ?_
  | refine exI (x := ULift.up _) (Eq.refl _) ?_
  | refine exI (x := ULift.up _) ⟨rfl, by omega, Eq.refl _⟩ ?_
  | exact ny
  | ((with_reducible intro h); try dsimp only at h))
 all_goals (refine Sd.mk ?_; (try simp only [HR.eta, PL.eta] at *))
 all_goals first
  | exact copy_no (by assumption)
  | exact copy_del (by assumption) (by assumption)
  | exact copy_put (by assumption) (.inl (by assumption))
  | exact copy_put (by assumption) (.inr (by assumption))
noncomputable def S150 : SFn
 | [.ptr p _ _, a1, a2], k => asVal p fun v es => asPL a1 fun t => asPL a2 fun f => k (L150 v es t f)
 | _, _ => .fail
theorem t150 : FnS Tryz.prog GG 150 S150 := by
 intro args k gt go R v os n h
 unfold S150 at h
 split at h
 . obtain ⟨v, es, _, h⟩ := asVal_inv h
   obtain ⟨t, _, h⟩ := asPL_inv h
   obtain ⟨f, _, h⟩ := asPL_inv h
   exact ⟨_, _, s150 v es t f, h⟩
 . cases h
def ofF (r : HR) : PL := if r.vec = true then ⟨1, r.n⟩ else ⟨0, r.n⟩
noncomputable def L151 (r : HR) : LSpec := ⟨[.agg r.cells], [], [], [], .agg (ofF r).cells⟩
theorem s151 (r : HR) : LSpec.ok Tryz.prog GG 151 (L151 r) := by
 refine fn_spec mix k151 _ rfl rfl (Tab.ok (l := []) trivial) noL noJ ?_
 repeat' ((conv => whnf); first
  | exact trivial
  | with_reducible first | refine aj ?_ | refine ai rfl ?_ | refine ai ⟨rfl, rfl⟩ ?_
  | ((with_reducible refine ai ?_ ?_); focus exact w3)
  | with_reducible first | refine And.intro ?_ ?_ | refine asL_mk ?_ | refine exI (i64_in (by omega) (by omega)) ?_
  | refine exI (x := ULift.up _) (Eq.refl _) ?_
  | refine exI (x := ULift.up _) ⟨rfl, by omega, Eq.refl _⟩ ?_
  | exact ny
  | ((with_reducible intro h); try dsimp only at h))
 all_goals (refine Sd.mk ?_; simp_all [ofF, PL.cells])
noncomputable def S151 : SFn
 | [a0], k => asHR a0 fun r => k (L151 r)
 | _, _ => .fail
theorem t151 : FnS Tryz.prog GG 151 S151 := by
 intro args k gt go R v os n h
 unfold S151 at h
 split at h
 . obtain ⟨r, _, h⟩ := asHR_inv h
   exact ⟨_, _, s151 r, h⟩
 . cases h
noncomputable def L149 (x : HI) (k : Int) : LSpec := ⟨[kz k, .rp (HI.pv x) 0], [], [], [], .agg (PL.cells ⟨2, x.k + k⟩)⟩
theorem s149 (x : HI) (k : Int) (hp : (0 ≤ k ∧ k ≤ 3) ∧ -1000000 ≤ x.k ∧ x.k ≤ 1000000) : LSpec.ok Tryz.prog GG 149 (L149 x k) := by
 refine fn_spec mix k149 _ rfl rfl (Tab.ok (l := []) trivial) noL noJ ?_
 repeat' ((conv => whnf); first
  | exact trivial
  | with_reducible first | refine aj ?_ | refine ai rfl ?_ | refine ai ⟨rfl, rfl⟩ ?_
  | ((with_reducible refine ai ?_ ?_); focus exact w3)
  | with_reducible first | refine And.intro ?_ ?_ | refine asL_mk ?_ | refine exI (i64_in (by omega) (by omega)) ?_
  | refine exI (x := ULift.up _) (Eq.refl _) ?_
  | refine exI (x := ULift.up _) ⟨rfl, by omega, Eq.refl _⟩ ?_
  | exact ny
  | ((with_reducible intro h); try dsimp only at h))
noncomputable def S149 : SFn
 | [.int .i64 j, .ptr p _ _], k => asRow p fun r => asHI r fun x => .req ((0 ≤ j ∧ j ≤ 3) ∧ -1000000 ≤ x.k ∧ x.k ≤ 1000000) (k (L149 x j))
 | _, _ => .fail
theorem t149 : FnS Tryz.prog GG 149 S149 := by
 intro args k gt go R v os n h
 unfold S149 at h
 split at h
 . obtain ⟨r, _, h⟩ := asRow_inv h
   obtain ⟨x, _, h⟩ := asHI_inv h
   obtain ⟨hp, _, h⟩ := req_inv h
   exact ⟨_, _, s149 x _ hp, h⟩
 . cases h
def lowR (w v : Int) (r : HR) : Bool := if r.vec = true then decide (r.n < v) else decide (r.n < w)
def withinA (x : HI) (w v : Int) : Bool := (regsF x).all (lowR w v)
def inv111 (x : HI) (w v : Int) (i : Int) : St := ⟨[(26, kz i), (25, kz (regsF x).length), (24, .slc 0 0 (regsF x).length), (2, kz v), (1, kz w)], [(0, some (.vec 2 ((regsF x).map HR.pv)))], 1⟩
def I111 (x : HI) (w v : Int) (i : Int) : Prop := 0 ≤ i ∧ i ≤ (regsF x).length ∧ (regsF x).length ≤ 4 ∧ ((regsF x).drop i.toNat).all (lowR w v) = (regsF x).all (lowR w v)
theorem wit_no {x : HI} {w v i : Int} (hI : I111 x w v i) (h : i < (regsF x).length) (hb : lowR w v (nth (regsF x) i) = false) : withinA x w v = false := by
 obtain ⟨h1, h2, h3, h4⟩ := hI
 rw [drop_step _ _ ⟨h1, h⟩] at h4
 rw [withinA, <- h4]; simp [hb]
theorem wit_go {x : HI} {w v i : Int} (hI : I111 x w v i) (h : i < (regsF x).length) (hb : lowR w v (nth (regsF x) i) = true) : I111 x w v (i + 1) ∧ ((regsF x).length - (i + 1)).toNat < ((regsF x).length - i).toNat := by
 obtain ⟨h1, h2, h3, h4⟩ := hI
 rw [drop_step _ _ ⟨h1, h⟩] at h4
 refine ⟨⟨by omega, by omega, h3, ?_⟩, by omega⟩
 rw [<- h4]; simp [hb]
theorem wit_end {x : HI} {w v i : Int} (hI : I111 x w v i) (h : ¬ i < (regsF x).length) : withinA x w v = true := by
 obtain ⟨h1, h2, h3, h4⟩ := hI
 have : (regsF x).drop i.toNat = [] := List.drop_eq_nil_of_le (by omega)
 rw [withinA, <- h4, this]; rfl
noncomputable def L111 (x : HI) (w : Int) (v : Int) : LSpec := ⟨[.agg x.cells, kz w, kz v], [], [], [], .bool (withinA x w v)⟩
set_option maxHeartbeats 4000000 in
theorem s111 (x : HI) (w : Int) (v : Int) : LSpec.ok Tryz.prog GG 111 (L111 x w v) := by
 refine fn_spec mix k111 _ rfl rfl (Tab.ok (l := [(34, S34), (33, S33)]) ⟨t34, t33, trivial⟩) (fun _ => .inv Int (fun _ => I111 x w v) (inv111 x w v) (fun i => ((regsF x).length - i).toNat)) noJ ?_
 repeat' ((conv => whnf); first
  | exact trivial
  | with_reducible first | refine aj ?_ | refine ai rfl ?_ | refine ai ⟨rfl, rfl⟩ ?_
  | ((with_reducible refine ai ?_ ?_); focus exact w3)
  | with_reducible first | apply exW (c := _) | refine exI (i64_in (by simp only [I111, List.length_map] at *; omega) (by simp only [I111, List.length_map] at *; omega)) ?_
  | refine exI (x := ULift.up _) (pv_get0 _ _ _ (by simp only [I111, List.length_map] at *; omega)) ?_
  | with_reducible first | refine ai (by simp only [I111, List.length_map] at *; omega) ?_ | refine And.intro ?_ ?_ | refine asL_mk ?_ | refine exI (i64_in (by omega) (by omega)) ?_
  | refine exI (x := ULift.up _) (Eq.refl _) ?_
  | refine exI (x := ULift.up _) ⟨rfl, by omega, Eq.refl _⟩ ?_
  | exact ny
  | ((with_reducible intro h); try dsimp only at h))
 all_goals (refine Sd.mk ?_; have hl := regsF_len x; have hu := usesF_len x; (try simp only [HI.eta, HR.eta, List.length_map] at *))
 all_goals first
  | exact (wit_end (by assumption) (by assumption)).symm
  | exact wit_end (by assumption) (by assumption)
  | exact ⟨by omega, by omega, hl, rfl⟩
  | (refine wit_no (by assumption) (by assumption) ?_; simp only [lowR]; grind)
  | (refine (wit_no (by assumption) (by assumption) ?_).symm; simp only [lowR]; grind)
  | (refine wit_go (by assumption) (by assumption) ?_; simp only [lowR]; grind)
  | (simp_all [regsF, Rows.len, HR.pv]; done)
  | (simp_all [regsF, Rows.len, HR.pv]; omega)
noncomputable def S111 : SFn
 | [a0, a1, a2], k => asHI a0 fun x => asI a1 fun w => asI a2 fun v => k (L111 x w v)
 | _, _ => .fail
theorem t111 : FnS Tryz.prog GG 111 S111 := by
 intro args k gt go R v os n h
 unfold S111 at h
 split at h
 . obtain ⟨x, _, h⟩ := asHI_inv h
   obtain ⟨w, _, h⟩ := asI_inv h
   obtain ⟨v, _, h⟩ := asI_inv h
   exact ⟨_, _, s111 x w v, h⟩
 . cases h
end Go.Proofs.YtlahifihaeafbaaGreatDoor
namespace Go.Proofs.YtlahifihaeafbaaGreatDoor
open Go Go.Sx
def c112 : MC := .seq (.reg [oo 3 (.box (.t 1)),oo 4 (.mv kf)]) (.seq (.reg [oo 12 (.mkf (.func 149) [] [(.t 3)]),om 5 12]) (.seq (.seq (.reg [oo 13 (.fld 0 (.t 3)),oo 14 (.ld none (.t 13))]) (.blk 0 (.seq (.reg [oo 16 (.cmp .eql (.t 14) (ki 2)),om 15 16]) (.cond (.t 15) (.reg [om 17 0,oo 18 (.fld 4 (.t 3)),oo 19 (.ld none (.t 18)),oo 20 (.bld [(kz 0),(kz 0)] [(0,1,(ki 0)),(1,1,(.t 19))]),oo 21 (.fld 5 (.t 3)),oo 22 (.ld none (.t 21)),oo 23 (.bld [(kz 0),(kz 0)] [(0,1,(ki 0)),(1,1,(.t 22))]),oo 24 (.call (.k (.fn (.func 150) [] [])) [(.t 17),(.t 20),(.t 23)])]) (.seq (.reg [oo 26 (.cmp .eql (.t 14) (ki 8)),om 25 26]) (.cond (.t 25) (.reg [om 27 0,oo 28 (.fld 4 (.t 3)),oo 29 (.ld none (.t 28)),oo 30 (.bld [(kz 0),(kz 0)] [(0,1,(ki 1)),(1,1,(.t 29))]),oo 31 (.fld 5 (.t 3)),oo 32 (.ld none (.t 31)),oo 33 (.bld [(kz 0),(kz 0)] [(0,1,(ki 1)),(1,1,(.t 32))]),oo 34 (.call (.k (.fn (.func 150) [] [])) [(.t 27),(.t 30),(.t 33)])]) (.seq (.reg [oo 36 (.cmp .eql (.t 14) (ki 42)),om 35 36]) (.cond (.t 35) (.drw [om 37 0,om 38 5,oo 39 (.call (.t 38) [(ki 0)]),oo 40 (.fld 5 (.t 3)),oo 41 (.ld none (.t 40)),oo 42 (.bld [(kz 0),(kz 0)] [(0,1,(ki 0)),(1,1,(.t 41))]),oo 43 (.call (.k (.fn (.func 150) [] [])) [(.t 37),(.t 39),(.t 42)])] [[],[],[1],[],[3],[4],[0,2,5,2]]) (.seq (.reg [oo 45 (.cmp .eql (.t 14) (ki 43)),om 44 45]) (.cond (.t 44) (.drw [om 46 0,oo 47 (.fld 4 (.t 3)),oo 48 (.ld none (.t 47)),oo 49 (.bld [(kz 0),(kz 0)] [(0,1,(ki 0)),(1,1,(.t 48))]),om 50 5,oo 51 (.call (.t 50) [(ki 0)]),oo 52 (.call (.k (.fn (.func 150) [] [])) [(.t 46),(.t 49),(.t 51)])] [[],[],[1],[2],[],[4],[0,3,5,5]]) (.seq (.reg [oo 54 (.cmp .eql (.t 14) (ki 44)),om 53 54]) (.cond (.t 53) (.seq (.drw [om 56 0,oo 57 (.nchk (.t 56)),oo 58 (.fld 3 (.t 57)),oo 59 (.ld none (.t 58)),oo 60 (.fld 5 (.t 3)),oo 61 (.ld none (.t 60)),oo 62 (.bld [(kz 0),(kz 0)] [(0,1,(ki 1)),(1,1,(.t 61))]),oo 63 (.lkp true false [.int .i64,.int .i64] false [.bool false,.int .i64 0,.int .i64 0] (.t 59) (.t 62)),om 55 63,oo 64 (.ext 0 (.t 55)),oo 65 (.ext 1 (.t 55)),oo 6 (.alloc [.ff,(kz 0),(kz 0)]),o none (.st (some 3) (.t 6) (.t 64)),om 7 65] [[],[0],[1],[2],[],[4],[5],[3,6],[7],[8],[8],[],[11,9,0,1,2,3,4,5,6,7,8,9,11],[10,12,0,1,2,3,4,5,6,7,8,9,10,11,12]]) (.seq (.reg [oo 66 (.mv (ki 0))]) (.blk 1 (.loop 0 (.seq (.reg [oo 67 (.cmpl .lss (.t 66) (ki 4))]) (.seq (.cond (.t 67) (.skip) (.exit 1)) (.seq (.blk 2 (.seq (.reg [om 68 66,om 8 68]) (.seq (.drw [om 69 0,oo 70 (.nchk (.t 69)),oo 71 (.fld 3 (.t 70)),oo 72 (.ld none (.t 71)),om 73 5,om 74 8,oo 75 (.call (.t 73) [(.t 74)]),o none (.mdel false [.int .i64,.int .i64] (.t 72) (.t 75))] [[],[0],[1],[2],[],[],[4,5],[3,6,6]]) (.seq (.reg [om 76 7]) (.cond (.t 76) (.drw [om 77 0,oo 78 (.nchk (.t 77)),oo 79 (.fld 3 (.t 78)),oo 80 (.ld none (.t 79)),om 81 5,om 82 8,oo 83 (.call (.t 81) [(.t 82)]),oo 84 (.fld 0 (.t 6)),oo 85 (.ld (some 2) (.t 84)),om 86 8,oo 87 (.arl .add (.t 86) (ki 1)),oo 88 (.bld [.ff,(kz 0),(kz 0)] [(0,2,(.t 85)),(2,1,(.t 87))]),o none (.mup false [.int .i64,.int .i64] (.t 80) (.t 83) (.t 88))] [[],[0],[1],[2],[],[],[4,5],[],[7],[],[9],[8,10],[3,6,11,6,0,1,2,3,4,5,6,7,8,9,10,11]]) (.skip))))))
 (.reg [oo 89 (.arl .add (.t 66) (ki 1)),om 66 89])))))))) (.seq (.reg [oo 91 (.cmp .eql (.t 14) (ki 45)),om 90 91]) (.cond (.t 90) (.seq (.drw [om 93 0,oo 94 (.nchk (.t 93)),oo 95 (.fld 3 (.t 94)),oo 96 (.ld none (.t 95)),om 97 5,oo 98 (.call (.t 97) [(ki 0)]),oo 99 (.lkp true false [.int .i64,.int .i64] false [.bool false,.int .i64 0,.int .i64 0] (.t 96) (.t 98)),om 92 99,oo 100 (.ext 0 (.t 92)),oo 101 (.ext 1 (.t 92)),oo 9 (.alloc [.ff,(kz 0),(kz 0)]),o none (.st (some 3) (.t 9) (.t 100)),om 10 101] [[],[0],[1],[2],[],[4],[3,5],[6],[7],[7],[],[10,8,5,0,1,2,3,4,5,6,7,8,10],[9,11,0,1,2,3,4,5,6,7,8,9,10,11]]) (.seq (.seq (.reg [oo 102 (.mv (ki 0))]) (.blk 3 (.loop 1 (.seq (.reg [oo 103 (.cmpl .lss (.t 102) (ki 4))]) (.seq (.cond (.t 103) (.skip) (.exit 3)) (.seq (.blk 4 (.seq (.reg [om 104 102,om 11 104]) (.drw [om 105 10,os (some 106) (.mv (.t 105)),og 106 true (some 107) (.mv (.t 0)),og 106 true (some 108) (.nchk (.t 107)),og 106 true (some 109) (.fld 3 (.t 108)),og 106 true (some 110) (.ld none (.t 109)),og 106 true (some 111) (.mv (.t 5)),og 106 true (some 112) (.mv (.t 11)),og 106 true (some 113) (.call (.t 111) [(.t 112)]),og 106 true (some 114) (.lkp false false [.int .i64,.int .i64] false [.bool false,.int .i64 0,.int .i64 0] (.t 110) (.t 113)),og 106 true (some 115) (.fld 0 (.t 9)),og 106 true (some 116) (.ld (some 2) (.t 115)),og 106 true (some 117) (.mv (.t 11)),og 106 true (some 118) (.arl .add (.t 117) (ki 1)),og 106 true (some 119) (.bld [.ff,(kz 0),(kz 0)] [(0,2,(.t 116)),(2,1,(.t 118))]),og 106 true (some 120) (.eqs [.bool,.int .i64,.int .i64] false (.t 114) (.t 119)),oo 121 (.pick (.t 106) (.t 120) kf),om 10 121] [[],[0],[1],[2,1],[3,1],[4,1],[1],[1],[6,7,1,1],[5,8,1],[1],[10,1],[1],[12,1],[11,13,1],[9,14,1],[1,15],[16,8,0,1,2,3,4,5,6,7,8,9,10,11,12,13,14,15,16]]))) (.reg [oo 122 (.arl .add (.t 102) (ki 1)),om 102 122]))))))) (.seq (.drw [om 123 0,oo 124 (.nchk (.t 123)),oo 125 (.fld 3 (.t 124)),oo 126 (.ld none (.t 125)),oo 127 (.fld 4 (.t 3)),oo 128 (.ld none (.t 127)),oo 129 (.bld [(kz 0),(kz 0)] [(0,1,(ki 1)),(1,1,(.t 128))]),o none (.mdel false [.int .i64,.int .i64] (.t 126) (.t 129))] [[],[0],[1],[2],[],[4],[5],[3,6]]) (.seq (.reg [om 130 10]) (.cond (.t 130) (.drw [om 131 0,oo 132 (.nchk (.t 131)),oo 133 (.fld 3 (.t 132)),oo 134 (.ld none (.t 133)),oo 135 (.fld 4 (.t 3)),oo 136 (.ld none (.t 135)),oo 137 (.bld [(kz 0),(kz 0)] [(0,1,(ki 1)),(1,1,(.t 136))]),oo 138 (.fld 0 (.t 9)),oo 139 (.ld (some 2) (.t 138)),oo 140 (.bld [.ff,(kz 0),(kz 0)] [(0,2,(.t 139))]),o none (.mup false [.int .i64,.int .i64] (.t 134) (.t 137) (.t 140))] [[],[0],[1],[2],[],[4],[5],[],[7],[8],[3,6,9,0,1,2,3,4,5,6,7,8,9]]) (.skip)))))) (.seq (.reg [oo 4 (.mv kf)]) (.ret)))))))))))))))) (.seq (.reg [oo 4 (.mv kt)]) (.ret))))
theorem k112 : FnOk Tryz.prog 112 141 c112 [.t 4] := fk Tryz.func112 ⟨tv,⟨tv,⟨⟨tv,⟨tv,⟨tv,⟨tv,⟨tv,⟨tv,⟨tv,⟨tv,⟨tv,⟨tv,⟨⟨tv,⟨tv,⟨tv,⟨⟨tv,tv⟩,⟨⟨tv,⟨tv,⟨tv,⟨tv,tv⟩⟩⟩⟩,tv⟩⟩⟩⟩⟩,⟨tv,⟨⟨tv,⟨⟨tv,⟨tv,⟨⟨tv,tv⟩,⟨⟨tv,tv⟩,tv⟩⟩⟩⟩,⟨tv,⟨tv,⟨tv,tv⟩⟩⟩⟩⟩,⟨tv,tv⟩⟩⟩⟩⟩⟩⟩⟩⟩⟩⟩⟩⟩⟩,⟨tv,tv⟩⟩⟩⟩
attribute [local irreducible] Go.Sx.agetD Go.Sx.aget
abbrev slotF (x : HI) (k : Int) : PL := ⟨2, x.k + k⟩
def vspill1 (x : HI) (y : HR) (is : Bool) (es : HM) (k : Int) : HM := if is = true then aput MPC (slotF x k) (CT.mk y (k + 1)) (adel MPC (slotF x k) es) else adel MPC (slotF x k) es
def vspillF (es : HM) (x : HI) : HM :=
 let is := (aget MPC (PL.mk 1 x.a) es).isSome
 let y := (ctG ⟨1, x.a⟩ es).r
 vspill1 x y is (vspill1 x y is (vspill1 x y is (vspill1 x y is es 0) 1) 2) 3
def eqC (c : CT) (y : HR) (p : Int) : Prop := (c.r.vec = true ↔ y.vec = true) ∧ c.r.n = y.n ∧ c.part = p ∧ True
instance (c y p) : Decidable (eqC c y p) := inferInstanceAs (Decidable (_ ∧ _ ∧ _ ∧ _))
abbrev part4 (es : HM) (x : HI) : Prop := (aget MPC (slotF x 0) es).isSome = true ∧ eqC (ctG (slotF x 0) es) (ctG (slotF x 0) es).r 1 ∧ eqC (ctG (slotF x 1) es) (ctG (slotF x 0) es).r 2 ∧ eqC (ctG (slotF x 2) es) (ctG (slotF x 0) es).r 3 ∧ eqC (ctG (slotF x 3) es) (ctG (slotF x 0) es).r 4
def unspillF (es : HM) (x : HI) : HM := if part4 es x then aput MPC (PL.mk 1 x.d) (CT.mk (ctG (slotF x 0) es).r 0) (adel MPC (PL.mk 1 x.d) es) else adel MPC (PL.mk 1 x.d) es
def insF (es : HM) (x : HI) : HM × Bool :=
 if x.op = 2 then (copyF es ⟨0, x.d⟩ ⟨0, x.a⟩, true)
 else if x.op = 8 then (copyF es ⟨1, x.d⟩ ⟨1, x.a⟩, true)
 else if x.op = 42 then (copyF es (slotF x 0) ⟨0, x.a⟩, true)
 else if x.op = 43 then (copyF es ⟨0, x.d⟩ (slotF x 0), true)
 else if x.op = 44 then (vspillF es x, true)
 else if x.op = 45 then (unspillF es x, true)
 else (es, false)
theorem ins_2 {es : HM} {x : HI} (h : x.op = 2) : insF es x = (copyF es ⟨0, x.d⟩ ⟨0, x.a⟩, true) := by simp [insF, h]
theorem ins_8 {es : HM} {x : HI} (h : x.op = 8) : insF es x = (copyF es ⟨1, x.d⟩ ⟨1, x.a⟩, true) := by simp [insF, h]
theorem ins_42 {es : HM} {x : HI} (h : x.op = 42) : insF es x = (copyF es (slotF x 0) ⟨0, x.a⟩, true) := by simp [insF, h]
theorem ins_43 {es : HM} {x : HI} (h : x.op = 43) : insF es x = (copyF es ⟨0, x.d⟩ (slotF x 0), true) := by simp [insF, h]
theorem ins_44 {es : HM} {x : HI} (h : x.op = 44) : insF es x = (vspillF es x, true) := by simp [insF, h]
theorem ins_45 {es : HM} {x : HI} (h : x.op = 45) : insF es x = (unspillF es x, true) := by simp [insF, h]
theorem ins_no {es : HM} {x : HI} (h1 : ¬ x.op = 2) (h2 : ¬ x.op = 8) (h3 : ¬ x.op = 42) (h4 : ¬ x.op = 43) (h5 : ¬ x.op = 44) (h6 : ¬ x.op = 45) : insF es x = (es, false) := by simp [insF, h1, h2, h3, h4, h5, h6]
theorem vsp_t {es : HM} {x : HI} (h : (aget MPC (PL.mk 1 x.a) es).isSome = true) : vspillF es x =
 aput MPC (slotF x 3) (CT.mk (ctG ⟨1, x.a⟩ es).r 4) (adel MPC (slotF x 3) (aput MPC (slotF x 2) (CT.mk (ctG ⟨1, x.a⟩ es).r 3) (adel MPC (slotF x 2) (aput MPC (slotF x 1) (CT.mk (ctG ⟨1, x.a⟩ es).r 2) (adel MPC (slotF x 1) (aput MPC (slotF x 0) (CT.mk (ctG ⟨1, x.a⟩ es).r 1) (adel MPC (slotF x 0) es))))))) := by
  simp only [vspillF, vspill1, h, if_true]; rfl
theorem vsp_f {es : HM} {x : HI} (h : (aget MPC (PL.mk 1 x.a) es).isSome = false) : vspillF es x = adel MPC (slotF x 3) (adel MPC (slotF x 2) (adel MPC (slotF x 1) (adel MPC (slotF x 0) es))) := by
 simp only [vspillF, vspill1, h]; rfl
theorem uns_t {es : HM} {x : HI} (h : (aget MPC (slotF x 0) es).isSome = true) (h0 : eqC (ctG (slotF x 0) es) (ctG (slotF x 0) es).r 1) (h1 : eqC (ctG (slotF x 1) es) (ctG (slotF x 0) es).r 2) (h2 : eqC (ctG (slotF x 2) es) (ctG (slotF x 0) es).r 3)
 (h3 : eqC (ctG (slotF x 3) es) (ctG (slotF x 0) es).r 4) : unspillF es x = aput MPC (PL.mk 1 x.d) (CT.mk (ctG (slotF x 0) es).r 0) (adel MPC (PL.mk 1 x.d) es) := by
  unfold unspillF; rw [if_pos ⟨h, h0, h1, h2, h3⟩]
theorem uns_f {es : HM} {x : HI} (h : (aget MPC (slotF x 0) es).isSome = false ∨ ¬ eqC (ctG (slotF x 0) es) (ctG (slotF x 0) es).r 1 ∨ ¬ eqC (ctG (slotF x 1) es) (ctG (slotF x 0) es).r 2 ∨ ¬ eqC (ctG (slotF x 2) es) (ctG (slotF x 0) es).r 3 ∨ ¬ eqC (ctG (slotF x 3) es) (ctG (slotF x 0) es).r 4) :
 unspillF es x = adel MPC (PL.mk 1 x.d) es := by
  unfold unspillF; rw [if_neg]
  rintro ⟨a, b, c, d, e⟩
  rcases h with h | h | h | h | h
  . rw [h] at a; cases a
  . exact h b
  . exact h c
  . exact h d
  . exact h e
theorem bdk {x : HI} {e : Int} (hp : 42 ≤ x.op -> x.op ≤ 45 -> 0 ≤ x.k ∧ x.k ≤ 1000) (n : Int) (h : x.op = n) (h1 : 42 ≤ n) (h2 : n ≤ 45) (he : 0 ≤ e ∧ e ≤ 3) : (0 ≤ e ∧ e ≤ 3) ∧ -1000000 ≤ x.k ∧ x.k ≤ 1000000 := by
 have := hp (by omega) (by omega)
 exact ⟨he, by omega, by omega⟩
theorem mpe {a b : HM} (h : a = b) : MPS a = MPS b := by rw [h]
theorem i1 {p : HM × Bool} {a : HM} {b : Bool} (h : p = (a, b)) : p.1 = a := by rw [h]
theorem i2 {p : HM × Bool} {a : HM} {b : Bool} (h : p = (a, b)) : p.2 = b := by rw [h]
noncomputable def L112 (v : VL) (es : HM) (x : HI) : LSpec := ⟨[.ptr 0 0 0, .agg x.cells], [v.row, .map MPC es none], [some v.row, some (.map MPC (insF es x).1 none)], [], .bool (insF es x).2⟩
set_option maxHeartbeats 4000000 in
theorem s112 (v : VL) (es : HM) (x : HI) (hp : 42 ≤ x.op -> x.op ≤ 45 -> 0 ≤ x.k ∧ x.k ≤ 1000) : LSpec.ok Tryz.prog GG 112 (L112 v es x) := by
 refine fn_spec mix k112 _ rfl rfl (Tab.ok (l := [(149, S149), (150, S150)]) ⟨t149, t150, trivial⟩) (fun _ => .rounds 6) noJ ?_
 repeat' ((conv => whnf); first
  | exact trivial
  | with_reducible first | refine aj ?_ | refine ai rfl ?_ | refine ai ⟨rfl, rfl⟩ ?_
  | ((with_reducible refine ai ?_ ?_); focus exact w3)
  | refine And.intro (Sd.mk (p := MapTy.one MPC = _ ∧ _) ⟨rfl, rfl⟩) ?_
  | refine And.intro (Sd.mk (p := MapTy.vone MPC = _ ∧ _) ⟨rfl, rfl⟩) ?_
  | apply exI (x := ULift.up (PL.mk _ _)) trivial
  | apply exI (x := ULift.up (CT.mk (HR.mk _ _) _)) trivial
  | with_reducible first | refine And.intro ?_ ?_ | refine asL_mk ?_ | refine exI (i64_in (by omega) (by omega)) ?_
  | refine exI (x := ULift.up _) (Eq.refl _) ?_
  | refine exI (x := ULift.up _) ⟨rfl, by omega, Eq.refl _⟩ ?_
  | exact nx
  | ((with_reducible intro h); try dsimp only at h))
 all_goals (refine Sd.mk ?_)
 all_goals first
  | exact i2 (ins_2 (by assumption))
  | exact i2 (ins_8 (by assumption))
  | exact i2 (ins_42 (by assumption))
  | exact i2 (ins_43 (by assumption))
  | exact i2 (ins_44 (by assumption))
  | exact i2 (ins_45 (by assumption))
  | exact i2 (ins_no (by assumption) (by assumption) (by assumption) (by assumption) (by assumption) (by assumption))
  | exact mpe (i1 (ins_2 (by assumption)))
  | exact mpe (i1 (ins_8 (by assumption)))
  | exact mpe (i1 (ins_42 (by assumption)))
  | exact mpe (i1 (ins_43 (by assumption)))
  | exact mpe (i1 (ins_no (by assumption) (by assumption) (by assumption) (by assumption) (by assumption) (by assumption)))
  | exact mpe ((i1 (ins_44 (by assumption))).trans (vsp_t (by assumption)))
  | exact mpe ((i1 (ins_44 (by assumption))).trans (vsp_f (by assumption)))
  | exact mpe ((i1 (ins_45 (by assumption))).trans (uns_t (by assumption) (by assumption) (by assumption) (by assumption) (by assumption)))
  | exact mpe ((i1 (ins_45 (by assumption))).trans (uns_f (.inl (by assumption))))
  | exact mpe ((i1 (ins_45 (by assumption))).trans (uns_f (.inr (.inl (by assumption)))))
  | exact mpe ((i1 (ins_45 (by assumption))).trans (uns_f (.inr (.inr (.inl (by assumption))))))
  | exact mpe ((i1 (ins_45 (by assumption))).trans (uns_f (.inr (.inr (.inr (.inl (by assumption)))))))
  | exact mpe ((i1 (ins_45 (by assumption))).trans (uns_f (.inr (.inr (.inr (.inr (by assumption)))))))
  | exact bdk hp 42 (by assumption) (by decide) (by decide) (by decide)
  | exact bdk hp 43 (by assumption) (by decide) (by decide) (by decide)
  | exact bdk hp 44 (by assumption) (by decide) (by decide) (by decide)
  | exact bdk hp 45 (by assumption) (by decide) (by decide) (by decide)
  | exact ⟨⟨trivial, trivial, trivial⟩, trivial, trivial⟩
noncomputable def S112 : SFn
 | [.ptr p _ _, a1], k => asVal p fun v es => asHI a1 fun x => .req (42 ≤ x.op -> x.op ≤ 45 -> 0 ≤ x.k ∧ x.k ≤ 1000) (k (L112 v es x))
 | _, _ => .fail
theorem t112 : FnS Tryz.prog GG 112 S112 := by
 intro args k gt go R v os n h
 unfold S112 at h
 split at h
 . obtain ⟨v, es, _, h⟩ := asVal_inv h
   obtain ⟨x, _, h⟩ := asHI_inv h
   obtain ⟨hp, _, h⟩ := req_inv h
   exact ⟨_, _, s112 v es x hp, h⟩
 . cases h
end Go.Proofs.YtlahifihaeafbaaGreatDoor
namespace Go.Proofs.YtlahifihaeafbaaGreatDoor
open Go Go.Sx
def matchU (es : HM) : List HR -> List HR -> Bool
 | r :: rs, u :: us => (aget MPC (ofF r) es).isSome && decide (eqC (ctG (ofF r) es) u 0) && matchU es rs us
 | _, _ => true
def purge (es : HM) (r : HR) : HM := es.filter fun e => decide (e.2.r ≠ r)
def dNum (x : HI) : Int := if (defF x).2 = true then (defF x).1.n else 0
def eqH (a b : HI) : Prop := a.op = b.op ∧ a.sub = b.sub ∧ a.frm = b.frm ∧ a.ty = b.ty ∧ a.d = b.d ∧ a.a = b.a ∧ a.b = b.b ∧ a.c = b.c ∧ a.k = b.k ∧ a.i = b.i ∧ a.ch = b.ch ∧ a.v0 = b.v0 ∧ a.v1 = b.v1 ∧ a.v2 = b.v2 ∧ a.v3 = b.v3 ∧ True
theorem eqH_iff (a b : HI) : eqH a b ↔ a = b := by
 constructor
 . intro h
   obtain ⟨h0, h1, h2, h3, h4, h5, h6, h7, h8, h9, h10, h11, h12, h13, h14, _⟩ := h
   cases a; cases b
   dsimp only at *
   subst h0; subst h1; subst h2; subst h3; subst h4; subst h5; subst h6; subst h7; subst h8; subst h9; subst h10; subst h11; subst h12; subst h13; subst h14
   rfl
 . rintro rfl
   exact ⟨rfl, rfl, rfl, rfl, rfl, rfl, rfl, rfl, rfl, rfl, rfl, rfl, rfl, rfl, rfl, trivial⟩
def eqR (a b : HR) : Prop := (a.vec = true ↔ b.vec = true) ∧ a.n = b.n ∧ True
theorem eqR_iff (a b : HR) : eqR a b ↔ a = b := by
 cases a; cases b
 simp only [eqR, HR.mk.injEq, and_true]
 rw [<- Bool.eq_iff_iff]
def sameF (x old : HI) : Bool := decide ((withF x (dNum old) ((usesF old).map HR.n)).2 = 0 ∧ (withF x (dNum old) ((usesF old).map HR.n)).1 = old)
def standsF (es : HM) (code : List HI) (x : HI) (i : Int) : HM × Bool :=
 if i < 0 ∨ code.length ≤ i then (es, false)
 else if sameF x (nth code i) = false then (es, false)
 else if matchU es (usesF x) (usesF (nth code i)) = false then (es, false)
 else if (defF x).2 = true ∧ (defF (nth code i)).2 = true then (aput MPC (ofF (defF x).1) (CT.mk (defF (nth code i)).1 0) (purge es (defF (nth code i)).1), true)
 else (es, true)
theorem matchU_at (es : HM) (rs us : List HR) (j : Int) (h : 0 ≤ j ∧ j < rs.length) (h2 : j < us.length) :
 matchU es (rs.drop j.toNat) (us.drop j.toNat) = ((aget MPC (ofF (nth rs j)) es).isSome && decide (eqC (ctG (ofF (nth rs j)) es) (nth us j) 0) && matchU es (rs.drop (j + 1).toNat) (us.drop (j + 1).toNat)) := by
  rw [drop_step rs j h, drop_step us j ⟨h.1, h2⟩, matchU]
theorem matchU_end (es : HM) (rs us : List HR) (j : Int) (h : ¬ j < rs.length) : matchU es (rs.drop j.toNat) (us.drop j.toNat) = true := by
 rw [List.drop_eq_nil_of_le (by omega), matchU]
 intros; contradiction
def keptF (es : HM) (left : List PL) (r : HR) : HM := es.filter fun e => decide (e.1 ∈ left ∨ e.2.r ≠ r)
def ndk (es : HM) : Prop := (es.map (·.1)).Nodup
theorem aerase_len {M : MapTy} {k : M.κ} : ∀ {l : List M.κ}, k ∈ l -> (aerase M k l).length < l.length
 | j :: l, h => by
   have le : ∀ (l : List M.κ), (aerase M k l).length ≤ l.length := by
    intro l
    induction l with
    | nil => simp [aerase]
    | cons a l ih => simp only [aerase]; split <;> simp <;> omega
   simp only [aerase]
   split
   . have := le l; simp; omega
   . rename_i hne _
     rcases List.mem_cons.1 h with rfl | h
     . exact absurd rfl hne
     . have := aerase_len h; simp; omega
theorem adel_filter {k : PL} : ∀ {es : HM}, ndk es -> adel MPC k es = es.filter fun e => decide (e.1 ≠ k)
 | [], _ => rfl
 | (j, u) :: r, h => by
   simp only [ndk, List.map_cons, List.nodup_cons] at h
   simp only [adel]
   split
   . rename_i e _
     subst e
     rw [List.filter_cons_of_neg (by simp), List.filter_eq_self.2]
     intro a ha
     simp only [decide_eq_true_eq]
     intro e
     exact h.1 (List.mem_map.2 ⟨a, ha, e⟩)
   . rename_i e _
     rw [List.filter_cons_of_pos (by simpa using e), adel_filter (es := r) h.2]
theorem kept_start (es : HM) (r : HR) : keptF es (es.map Prod.fst) r = es := by
 unfold keptF; rw [List.filter_eq_self]
 intro a ha
 simp only [decide_eq_true_eq]
 exact .inl (List.mem_map.2 ⟨a, ha, rfl⟩)
theorem kept_mem {es : HM} {left : List PL} {r : HR} {e : PL × CT} : e ∈ keptF es left r ↔ e ∈ es ∧ (e.1 ∈ left ∨ e.2.r ≠ r) := by
 unfold keptF; rw [List.mem_filter]; simp only [decide_eq_true_eq]
theorem key_eq {es : HM} (h : ndk es) {a b : PL × CT} (ha : a ∈ es) (hb : b ∈ es) (e : a.1 = b.1) : a = b := by
 induction es with
 | nil => cases ha
 | cons c es ih =>
   simp only [ndk, List.map_cons, List.nodup_cons] at h
   rcases List.mem_cons.1 ha with h1 | h1 <;> rcases List.mem_cons.1 hb with h2 | h2
   . rw [h1, h2]
   . rw [h1] at e; exact absurd (List.mem_map.2 ⟨b, h2, e.symm⟩) h.1
   . rw [h2] at e; exact absurd (List.mem_map.2 ⟨a, h1, e⟩) h.1
   . exact ih h.2 h1 h2
theorem kept_keep {es : HM} {left : List PL} {r : HR} {k : PL} {c : CT} (hn : ndk es) (hm : (k, c) ∈ keptF es left r) (hc : c.r ≠ r) : keptF es (aerase MPC k left) r = keptF es left r := by
 have hk := (kept_mem.1 hm).1
 unfold keptF
 apply List.filter_congr
 intro a ha
 rw [Bool.eq_iff_iff]
 simp only [decide_eq_true_eq]
 rw [show (a.1 ∈ aerase MPC k left ↔ a.1 ∈ left ∧ a.1 ≠ k) from mem_aerase]
 constructor
 . rintro (h | h)
   . exact .inl h.1
   . exact .inr h
 . rintro (h | h)
   . by_cases e : a.1 = k
     . have := key_eq hn ha hk e
       subst this
       exact .inr hc
     . exact .inl ⟨h, e⟩
   . exact .inr h
theorem ndk_filter {es : HM} (h : ndk es) (p : PL × CT -> Bool) : ndk (es.filter p) := by
 unfold ndk at *
 exact (List.Sublist.map _ List.filter_sublist).nodup h
theorem kept_del {es : HM} {left : List PL} {r : HR} {k : PL} {c : CT} (hn : ndk es) (hm : (k, c) ∈ keptF es left r) (hc : c.r = r) : adel MPC k (keptF es left r) = keptF es (aerase MPC k (aerase MPC k left)) r := by
 have hk := (kept_mem.1 hm).1
 unfold keptF
 rw [adel_filter (ndk_filter hn _), List.filter_filter]
 apply List.filter_congr
 intro a ha
 rw [Bool.eq_iff_iff]
 simp only [Bool.and_eq_true, decide_eq_true_eq]
 rw [show (a.1 ∈ aerase MPC k (aerase MPC k left) ↔ a.1 ∈ aerase MPC k left ∧ a.1 ≠ k) from mem_aerase, show (a.1 ∈ aerase MPC k left ↔ a.1 ∈ left ∧ a.1 ≠ k) from mem_aerase]
 constructor
 . rintro ⟨h1, h2 | h2⟩
   . exact .inl ⟨⟨h2, h1⟩, h1⟩
   . exact .inr h2
 . rintro (⟨⟨h1, h2⟩, _⟩ | h2)
   . exact ⟨h2, .inl h1⟩
   . refine ⟨fun e => ?_, .inr h2⟩
     have := key_eq hn ha hk e
     subst this
     exact h2 hc
theorem kept_end {es : HM} {left : List PL} {r : HR} (h : ∀ p ∈ keptF es left r, p.1 ∉ left) : keptF es left r = purge es r := by
 unfold keptF purge
 apply List.filter_congr
 intro a ha
 rw [Bool.eq_iff_iff]
 simp only [decide_eq_true_eq]
 constructor
 . rintro (h1 | h1)
   . intro e
     exact h a (kept_mem.2 ⟨ha, .inl h1⟩) h1
   . exact h1
 . exact .inr
theorem ndk_put {es : HM} {k : PL} {c : CT} (h : ndk es) : ndk (aput MPC k c es) := by
 have key : ∀ (es : HM), (∀ x, x ∈ (aput MPC k c es).map (·.1) ↔ x = k ∨ x ∈ es.map (·.1)) := by
  intro es x
  induction es with
  | nil => simp [aput]
  | cons a es ih =>
    obtain ⟨j, u⟩ := a
    simp only [aput]
    split
    . rename_i e _; subst e; simp
    . simp only [List.map_cons, List.mem_cons, ih]
      constructor
      . rintro (h | h | h)
        . exact .inr (.inl h)
        . exact .inl h
        . exact .inr (.inr h)
      . rintro (h | h | h)
        . exact .inr (.inl h)
        . exact .inl h
        . exact .inr (.inr h)
 unfold ndk at *
 induction es with
 | nil => simp [aput]
 | cons a es ih =>
   obtain ⟨j, u⟩ := a
   simp only [List.map_cons, List.nodup_cons] at h
   simp only [aput]
   split
   . rename_i e _; simp only [List.map_cons, List.nodup_cons]; exact h
   . rename_i e _
     simp only [List.map_cons, List.nodup_cons]
     refine ⟨fun hm => ?_, ih h.2⟩
     rcases (key es j).1 hm with hm | hm
     . exact e hm
     . exact h.1 hm
theorem ndk_del {es : HM} {k : PL} (h : ndk es) : ndk (adel MPC k es) := by
 rw [adel_filter h]; exact ndk_filter h _
theorem aget_some {k : PL} {c : CT} : ∀ {es : HM}, ndk es -> (k, c) ∈ es -> aget MPC k es = some c
 | (j, u) :: r, h, hm => by
   simp only [ndk, List.map_cons, List.nodup_cons] at h
   rw [aget]
   split
   . rename_i e _
     subst e
     rcases List.mem_cons.1 hm with h1 | h1
     . cases h1; rfl
     . exact absurd (List.mem_map.2 ⟨(j, c), h1, rfl⟩) h.1
   . rename_i e _
     rcases List.mem_cons.1 hm with h1 | h1
     . cases h1; exact absurd rfl e
     . exact aget_some h.2 h1
theorem agetD_some {k : PL} {c : CT} {es : HM} (h : ndk es) (hm : (k, c) ∈ es) : ctG k es = c := by
 unfold ctG; rw [agetD, aget_some h hm]; rfl
end Go.Proofs.YtlahifihaeafbaaGreatDoor
namespace Go.Proofs.YtlahifihaeafbaaGreatDoor
open Go Go.Sx
def c113 : MC := .seq (.reg [oo 4 (.box (.t 1)),oo 6 (.mv kf)]) (.seq (.seq (.reg [om 25 2,oo 26 (.cmp .lss (.t 25) (ki 0)),os (some 27) (.mv (.t 26)),og 27 false (some 28) (.mv (.t 2)),og 27 false (some 29) (.mv (.t 0)),og 27 false (some 30) (.nchk (.t 29)),og 27 false (some 31) (.fld 2 (.t 30)),og 27 false (some 32) (.ld none (.t 31)),og 27 false (some 33) (.lenS (.t 32)),og 27 false (some 34) (.cmp .geq (.t 28) (.t 33)),oo 35 (.pick (.t 27) kt (.t 34))]) (.cond (.t 35) (.seq (.reg [oo 6 (.mv kf)]) (.ret)) (.skip))) (.seq (.reg [om 36 0,oo 37 (.nchk (.t 36)),oo 38 (.fld 2 (.t 37)),oo 39 (.ld none (.t 38)),om 40 2,oo 41 (.ixa 15 (.t 39) (.t 40)),oo 42 (.ld (some 15) (.t 41)),oo 7 (.alloc [(kz 0),(kz 0),(kz 0),(kz 0),(kz 0),(kz 0),(kz 0),(kz 0),(kz 0),(.int .u32 0),(.int .u32 0),(.int .u32 0),(.int .u32 0),(.int .u32 0),(.int .u32 0)]),o none (.st (some 15) (.t 7) (.t 42))]) (.seq (.reg [oo 43 (.ld (some 15) (.t 7)),oo 44 (.call (.k (.fn (.func 34) [] [])) [(.t 43)]),om 8 44,oo 9 (.mv (ki 0))]) (.seq (.reg [oo 46 (.ld (some 15) (.t 7)),oo 47 (.call (.k (.fn (.func 33) [] [])) [(.t 46)]),om 45 47,oo 48 (.ext 0 (.t 45)),oo 49 (.ext 1 (.t 45)),oo 10 (.alloc [.ff,(kz 0)]),o none (.st (some 2) (.t 10) (.t 48)),om 11 49]) (.seq (.seq (.reg [om 50 11]) (.cond (.t 50) (.reg [oo 51 (.fld 1 (.t 10)),oo 52 (.ld none (.t 51)),om 9 52]) (.skip))) (.seq (.reg [oo 12 (.mv (.k (.val (.slice none 0 0))))]) (.seq (.seq (.reg [om 53 8,oo 54 (.lenS (.t 53)),oo 55 (.mv (ki 0))]) (.blk 0 (.loop 0 (.seq (.reg [oo 56 (.cmp .lss (.t 55) (.t 54))]) (.seq (.cond (.t 56) (.skip) (.exit 0)) (.seq (.blk 1 (.seq (.reg [oo 57 (.ixa 2 (.t 53) (.t 55)),oo 58 (.ld (some 2) (.t 57)),oo 14 (.alloc [.ff,(kz 0)]),o none (.st (some 2) (.t 14) (.t 58))]) (.reg [om 59 12,oo 60 (.fld 1 (.t 14)),oo 61 (.ld none (.t 60)),oo 62 (.bsl 1 1 [(kz 0)] [(0,(.t 61))]),oo 63 (.app 1 8 (.t 59) (.t 62)),om 12 63]))) (.reg [oo 64 (.ar .add (.t 55) (ki 1)),om 55 64]))))))) (.seq (.reg [oo 66 (.ld (some 15) (.t 4)),om 67 9,om 68 12,oo 69 (.call (.k (.fn (.func 38) [] [])) [(.t 66),(.t 67),(.t 68)]),om 65 69,oo 70 (.ext 0 (.t 65)),oo 71 (.ext 1 (.t 65)),oo 15 (.alloc [(kz 0),(kz 0),(kz 0),(kz 0),(kz 0),(kz 0),(kz 0),(kz 0),(kz 0),(.int .u32 0),(.int .u32 0),(.int .u32 0),(.int .u32 0),(.int .u32 0),(.int .u32 0)]),o none (.st (some 15) (.t 15) (.t 70)),om 16 71]) (.seq (.seq (.reg [om 72 16,oo 73 (.cmp .neq (.t 72) (ki 0)),os (some 74) (.mv (.t 73)),og 74 false (some 75) (.ld (some 15) (.t 15)),og 74 false (some 76) (.ld (some 15) (.t 7)),og 74 false (some 77) (.eqs [.int .i64,.int .i64,.int .i64,.int .i64,.int .i64,.int .i64,.int .i64,.int .i64,.int .i64,.int .u32,.int .u32,.int .u32,.int .u32,.int .u32,.int .u32] true (.t 75) (.t 76)),oo 78 (.pick (.t 74) kt (.t 77))]) (.cond (.t 78) (.seq (.reg [oo 6 (.mv kf)]) (.ret)) (.skip))) (.seq (.seq (.reg [oo 79 (.ld (some 15) (.t 4)),oo 80 (.call (.k (.fn (.func 34) [] [])) [(.t 79)]),oo 81 (.lenS (.t 80)),oo 82 (.mv (ki 0))]) (.blk 2 (.loop 1 (.seq (.reg [oo 83 (.cmp .lss (.t 82) (.t 81))])
 (.seq (.cond (.t 83) (.skip) (.exit 2)) (.seq (.blk 3 (.seq (.reg [om 84 82,oo 85 (.ixa 2 (.t 80) (.t 82)),oo 86 (.ld (some 2) (.t 85)),oo 18 (.alloc [.ff,(kz 0)]),om 17 84,o none (.st (some 2) (.t 18) (.t 86))]) (.seq (.drw [om 88 0,oo 89 (.nchk (.t 88)),oo 90 (.fld 3 (.t 89)),oo 91 (.ld none (.t 90)),oo 92 (.ld (some 2) (.t 18)),oo 93 (.call (.k (.fn (.func 151) [] [])) [(.t 92)]),oo 94 (.lkp true false [.int .i64,.int .i64] false [.bool false,.int .i64 0,.int .i64 0] (.t 91) (.t 93)),om 87 94,oo 95 (.ext 0 (.t 87)),oo 96 (.ext 1 (.t 87)),oo 19 (.alloc [.ff,(kz 0),(kz 0)]),o none (.st (some 3) (.t 19) (.t 95)),om 20 96] [[],[0],[1],[2],[],[4],[3,5],[6],[7],[7],[],[10,8,5,0,1,2,3,4,5,6,7,8,10],[9,11,0,1,2,3,4,5,6,7,8,9,10,11]]) (.seq (.drw [om 97 20,oo 98 (.not (.t 97)),os (some 99) (.mv (.t 98)),og 99 false (some 100) (.ld (some 3) (.t 19)),og 99 false (some 101) (.mv (.t 8)),og 99 false (some 102) (.mv (.t 17)),og 99 false (some 103) (.ixa 2 (.t 101) (.t 102)),og 99 false (some 104) (.ld (some 2) (.t 103)),og 99 false (some 105) (.bld [.ff,(kz 0),(kz 0)] [(0,2,(.t 104))]),og 99 false (some 106) (.eqs [.bool,.int .i64,.int .i64] true (.t 100) (.t 105)),oo 107 (.pick (.t 99) kt (.t 106))] [[],[0],[1],[2],[2],[2],[4,5,2],[6,2],[7,2],[3,8,2],[2,9]]) (.cond (.t 107) (.seq (.reg [oo 6 (.mv kf)]) (.ret)) (.skip)))))) (.reg [oo 108 (.ar .add (.t 82) (ki 1)),om 82 108]))))))) (.seq (.seq (.reg [oo 110 (.ld (some 15) (.t 4)),oo 111 (.call (.k (.fn (.func 33) [] [])) [(.t 110)]),om 109 111,oo 112 (.ext 0 (.t 109)),oo 113 (.ext 1 (.t 109)),oo 21 (.alloc [.ff,(kz 0)]),o none (.st (some 2) (.t 21) (.t 112)),om 22 113]) (.seq (.reg [om 114 22,os (some 115) (.mv (.t 114)),og 115 true (some 116) (.mv (.t 11)),oo 117 (.pick (.t 115) (.t 116) kf)]) (.cond (.t 117) (.seq (.seq (.reg [om 118 0,oo 119 (.nchk (.t 118)),oo 120 (.fld 3 (.t 119)),oo 121 (.ld none (.t 120)),oo 122 (.rngm (.t 121))]) (.blk 4 (.loop 2 (.seq (.reg [oo 123 (.nxt (.t 122)),oo 124 (.ext 0 (.t 123))]) (.seq (.cond (.t 124) (.skip) (.exit 4)) (.blk 5 (.seq (.reg [oo 125 (.ent (.t 122)),oo 126 (.ext 0 (.t 125)),oo 127 (.ext 1 (.t 125)),oo 23 (.alloc [(kz 0),(kz 0)]),oo 24 (.alloc [.ff,(kz 0),(kz 0)]),o none (.st (some 2) (.t 23) (.t 126)),o none (.st (some 3) (.t 24) (.t 127))]) (.seq (.reg [oo 128 (.fld 0 (.t 24)),oo 129 (.ld (some 2) (.t 128)),oo 130 (.ld (some 2) (.t 10)),oo 131 (.eqs [.bool,.int .i64] false (.t 129) (.t 130))]) (.cond (.t 131) (.drw [om 132 0,oo 133 (.nchk (.t 132)),oo 134 (.fld 3 (.t 133)),oo 135 (.ld none (.t 134)),oo 136 (.ld (some 2) (.t 23)),o none (.mdel false [.int .i64,.int .i64] (.t 135) (.t 136))] [[],[0],[1],[2],[],[3,4]]) (.skip)))))))))) (.drw [om 137 0,oo 138 (.nchk (.t 137)),oo 139 (.fld 3 (.t 138)),oo 140 (.ld none (.t 139)),oo 141 (.ld (some 2) (.t 21)),oo 142 (.call (.k (.fn (.func 151) [] [])) [(.t 141)]),oo 143 (.ld (some 2) (.t 10)),oo 144 (.bld [.ff,(kz 0),(kz 0)] [(0,2,(.t 143))]),o none (.mup false [.int .i64,.int .i64] (.t 140) (.t 142) (.t 144))] [[],[0],[1],[2],[],[4],[],[6],[3,5,7,5,0,1,2,3,4,5,6,7]])) (.skip))))
 (.seq (.reg [oo 6 (.mv kt)]) (.ret)))))))))))))
theorem k113 : FnOk Tryz.prog 113 145 c113 [.t 6] := fk Tryz.func113 ⟨tv,⟨⟨tv,⟨⟨tv,tv⟩,tv⟩⟩,⟨tv,⟨tv,⟨tv,⟨⟨tv,⟨tv,tv⟩⟩,⟨tv,⟨⟨tv,⟨tv,⟨⟨tv,tv⟩,⟨⟨tv,tv⟩,tv⟩⟩⟩⟩,⟨tv,⟨⟨tv,⟨⟨tv,tv⟩,tv⟩⟩,⟨⟨tv,⟨tv,⟨⟨tv,tv⟩,⟨⟨tv,⟨tv,⟨tv,⟨⟨tv,tv⟩,tv⟩⟩⟩⟩,tv⟩⟩⟩⟩,⟨⟨tv,⟨tv,⟨⟨⟨tv,⟨tv,⟨⟨tv,tv⟩,⟨tv,⟨tv,⟨tv,tv⟩⟩⟩⟩⟩⟩,tv⟩,tv⟩⟩⟩,⟨tv,tv⟩⟩⟩⟩⟩⟩⟩⟩⟩⟩⟩⟩⟩
attribute [local irreducible] Go.Sx.agetD Go.Sx.aget ofF withF
abbrev old (v : VL) (i : Int) : HI := nth v.code i
def npv (r : HR) : List PV := ipv r.n
def inv113a (v : VL) (es : HM) (x : HI) (i : Int) (j : Int) : St :=
 ⟨[(55, kz j), (54, kz (usesF (old v i)).length), (53, .slc 4 0 (usesF (old v i)).length), (12, .slc 6 0 j.toNat), (11, .bool (defF (old v i)).2), (10, .ptr 5 0 0), (9, kz (dNum (old v i))), (8, .slc 4 0 (usesF (old v i)).length), (7, .ptr 3 0 0), (4, .ptr 2 0 0), (0, .ptr 0 0 0)],
  [(0, some v.row), (1, some (.map MPC es none)), (2, some (.row x.cells)), (3, some (.row (old v i).cells)), (4, some (.vec 2 ((usesF (old v i)).map HR.pv))), (5, some (.row (defF (old v i)).1.cells)), (6, some (.vec 1 (((usesF (old v i)).take j.toNat).map npv)))], 7⟩
def I113a (v : VL) (i j : Int) : Prop := 0 ≤ j ∧ j ≤ (usesF (old v i)).length ∧ (usesF (old v i)).length ≤ 3
def inv113b (v : VL) (es : HM) (x : HI) (i : Int) (j : Int) : St :=
 ⟨[(82, kz j), (81, kz (usesF x).length), (80, .slc 5 0 (usesF x).length), (11, .bool (defF (old v i)).2), (10, .ptr 4 0 0), (8, .slc 3 0 (usesF (old v i)).length), (4, .ptr 2 0 0), (0, .ptr 0 0 0)],
  [(0, some v.row), (1, some (.map MPC es none)), (2, some (.row x.cells)), (3, some (.vec 2 ((usesF (old v i)).map HR.pv))), (4, some (.row (defF (old v i)).1.cells)), (5, some (.vec 2 ((usesF x).map HR.pv)))], 6⟩
def I113b (v : VL) (es : HM) (x : HI) (i j : Int) : Prop := 0 ≤ j ∧ j ≤ (usesF x).length ∧ (usesF x).length ≤ 3 ∧ (usesF x).length = (usesF (old v i)).length ∧ (0 ≤ i ∧ i < v.code.length) ∧ sameF x (old v i) = true ∧
 matchU es ((usesF x).drop j.toNat) ((usesF (old v i)).drop j.toNat) = matchU es (usesF x) (usesF (old v i))
abbrev C113 := List PL × Option PL × HM
def inv113c (v : VL) (x : HI) (i : Int) : C113 -> St
 | (left, cur, es') => ⟨[(122, .ptr 4 0 0), (21, .ptr 3 0 0), (10, .ptr 2 0 0), (0, .ptr 0 0 0)],
  [(0, some v.row), (1, some (.map MPC es' (some (4, left, cur)))), (2, some (.row (defF (old v i)).1.cells)), (3, some (.row (defF x).1.cells)), (4, some (.itr 1))], 5⟩
def I113c (v : VL) (es : HM) (i : Int) (c : C113) : Prop := c.2.2 = keptF es c.1 (defF (old v i)).1
def LA113 (v : VL) (es : HM) (x : HI) (i : Int) : Nat -> LAnn
 | 0 => .inv Int (fun _ => I113a v i) (inv113a v es x i) (fun j => ((usesF (old v i)).length - j).toNat)
 | 1 => .inv Int (fun _ => I113b v es x i) (inv113b v es x i) (fun j => ((usesF x).length - j).toNat)
 | _ => .inv C113 (fun _ => I113c v es i) (inv113c v x i) (fun c => c.1.length)
theorem allc {v : VL} {es : HM} {i : Int} {Q : C113 -> Prop} (h : ∀ left cur es', es' = keptF es left (defF (old v i)).1 -> Q (left, cur, es')) : ∀ c, I113c v es i c -> Q c := fun ⟨left, cur, es'⟩ hI => h _ _ _ hI
theorem names_eq (us : List HR) (j : Int) (h : 0 ≤ j) (h2 : ¬ j < us.length) : List.take j.toNat (List.drop 0 (List.map npv (List.take j.toNat us))) = (us.map HR.n).map ipv := by
 rw [List.drop_zero, List.take_of_length_le (by simp; omega), List.take_of_length_le (l := us) (by omega), List.map_map]; rfl
abbrev W113 (v : VL) (x : HI) (i : Int) : HI × Int := withF x (dNum (old v i)) ((usesF (old v i)).map HR.n)
theorem same_t {v x i} (h1 : ¬ ¬ (W113 v x i).2 = 0) (h2 : ¬ ¬ eqH (W113 v x i).1 (old v i)) : sameF x (old v i) = true := by
 unfold sameF; rw [decide_eq_true_eq]
 exact ⟨Classical.not_not.1 h1, (eqH_iff _ _).1 (Classical.not_not.1 h2)⟩
theorem same_f1 {v x i} (h1 : ¬ (W113 v x i).2 = 0) : sameF x (old v i) = false := by
 unfold sameF; rw [decide_eq_false_iff_not]
 exact fun h => h1 h.1
theorem same_f2 {v x i} (h2 : ¬ eqH (W113 v x i).1 (old v i)) : sameF x (old v i) = false := by
 unfold sameF; rw [decide_eq_false_iff_not]
 exact fun h => h2 ((eqH_iff _ _).2 h.2)
theorem with_len {x : HI} {d : Int} {us : List Int} (h : (withF x d us).2 = 0) : us.length = (usesF x).length := by
 unfold withF at h
 split at h
 . cases h
 . split at h
   . cases h
   . rename_i h1; exact Classical.not_not.1 fun h2 => h1 (.inl h2)
theorem st_i {v : VL} {es x i} (h : i < 0 ∨ (v.code.length : Int) ≤ i) : standsF es v.code x i = (es, false) := by unfold standsF; rw [if_pos h]
theorem st_same {v : VL} {es x i} (h : sameF x (old v i) = false) : standsF es v.code x i = (es, false) := by
 unfold standsF; split
 . rfl
 . rfl
theorem st_match {v : VL} {es x i j} (hI : I113b v es x i j) (hj : j < (usesF x).length) (h : (aget MPC (ofF (nth (usesF x) j)) es).isSome = false ∨ ¬ eqC (ctG (ofF (nth (usesF x) j)) es) (nth (usesF (old v i)) j) 0) : standsF es v.code x i = (es, false) := by
 obtain ⟨h1, h2, h3, h4, h5, h6, h7⟩ := hI
 rw [matchU_at es _ _ j ⟨h1, hj⟩ (by omega)] at h7
 have h8 : matchU es (usesF x) (usesF (old v i)) = false := by
  rw [<- h7]
  rcases h with h | h
  . rw [h]; rfl
  . rw [decide_eq_false h]; simp
 unfold standsF
 rw [if_neg (by omega), if_neg (by rw [h6]; decide), if_pos h8]
theorem st_m {v : VL} {es x i j} (hI : I113b v es x i j) (hj : ¬ j < (usesF x).length) : standsF es v.code x i = if (defF x).2 = true ∧ (defF (old v i)).2 = true then (aput MPC (ofF (defF x).1) (CT.mk (defF (old v i)).1 0) (purge es (defF (old v i)).1), true) else (es, true) := by
 obtain ⟨h1, h2, h3, h4, h5, h6, h7⟩ := hI
 rw [matchU_end es _ _ j hj] at h7
 unfold standsF
 rw [if_neg (by omega), if_neg (by rw [h6]; decide), if_neg (by rw [<- h7]; decide)]
theorem st_ok {v : VL} {es x i j} (hI : I113b v es x i j) (hj : ¬ j < (usesF x).length) (h : (defF x).2 = false ∨ (defF (old v i)).2 = false) : standsF es v.code x i = (es, true) := by
 rw [st_m hI hj, if_neg]
 rintro ⟨a, b⟩
 rcases h with h | h
 . rw [h] at a; cases a
 . rw [h] at b; cases b
theorem st_put {v : VL} {es x i j left es'} (hI : I113b v es x i j) (hj : ¬ j < (usesF x).length) (h1 : (defF x).2 = true) (h2 : (defF (old v i)).2 = true) (he : es' = keptF es left (defF (old v i)).1) (ha : ∀ p ∈ es', p.1 ∉ left) :
 standsF es v.code x i = (aput MPC (ofF (defF x).1) (CT.mk (defF (old v i)).1 0) es', true) := by
  rw [st_m hI hj, if_pos ⟨h1, h2⟩]
  subst he
  rw [kept_end ha]
theorem a_go {v : VL} {i j} (hI : I113a v i j) (hj : j < (usesF (old v i)).length) : I113a v i (j + 1) ∧ ((usesF (old v i)).length - (j + 1)).toNat < ((usesF (old v i)).length - j).toNat := by
 obtain ⟨h1, h2, h3⟩ := hI
 exact ⟨⟨by omega, by omega, h3⟩, by omega⟩
theorem b_0 {v : VL} {es x i} (h1 : ¬ i < 0) (h2 : ¬ (v.code.length : Int) ≤ i) (h3 : ¬ ¬ (W113 v x i).2 = 0) (h4 : ¬ ¬ eqH (W113 v x i).1 (old v i)) : I113b v es x i 0 := by
 have h5 := with_len (Classical.not_not.1 h3)
 rw [List.length_map] at h5
 exact ⟨by omega, by omega, usesF_len _, h5.symm, by omega, same_t h3 h4, rfl⟩
theorem b_go {v : VL} {es x i j} (hI : I113b v es x i j) (hj : j < (usesF x).length) (h1 : (!(aget MPC (ofF (nth (usesF x) j)) es).isSome) = false) (h2 : ¬ ¬ eqC (ctG (ofF (nth (usesF x) j)) es) (nth (usesF (old v i)) j) 0) :
 I113b v es x i (j + 1) ∧ ((usesF x).length - (j + 1)).toNat < ((usesF x).length - j).toNat := by
  obtain ⟨k1, k2, k3, k4, k5, k6, k7⟩ := hI
  rw [matchU_at es _ _ j ⟨k1, hj⟩ (by omega)] at k7
  rw [nf h1, decide_eq_true (Classical.not_not.1 h2)] at k7
  exact ⟨⟨by omega, by omega, k3, k4, k5, k6, by simpa using k7⟩, by omega⟩
theorem c_0 {v : VL} {es i} : I113c v es i (List.map Prod.fst es, none, es) := (kept_start es _).symm
theorem c_del {v : VL} {es i left es' k c} (hn : ndk es) (he : es' = keptF es left (defF (old v i)).1) (hm : (k, c) ∈ es') (hl : k ∈ left) (h : eqR (ctG k es').r (defF (old v i)).1) :
 I113c v es i (aerase MPC k (aerase MPC k left), none, adel MPC k es') ∧ (aerase MPC k (aerase MPC k left)).length < left.length := by
  subst he
  rw [agetD_some (es := keptF _ _ _) (ndk_filter hn _) hm] at h
  refine ⟨kept_del hn hm ((eqR_iff _ _).1 h), ?_⟩
  have h1 := aerase_len (M := MPC) hl
  by_cases h2 : k ∈ aerase MPC k left
  . exact absurd rfl (mem_aerase.1 h2).2
  . have h3 : ∀ (l : List PL), (aerase MPC k l).length ≤ l.length := by
     intro l
     induction l with
     | nil => simp [aerase]
     | cons a l ih => simp only [aerase]; split <;> simp <;> omega
    have := h3 (aerase MPC k left)
    omega
theorem c_keep {v : VL} {es i left es' k c} (hn : ndk es) (he : es' = keptF es left (defF (old v i)).1) (hm : (k, c) ∈ es') (hl : k ∈ left) (h : ¬ eqR (ctG k es').r (defF (old v i)).1) :
 I113c v es i (aerase MPC k left, some k, es') ∧ (aerase MPC k left).length < left.length := by
  subst he
  rw [agetD_some (es := keptF _ _ _) (ndk_filter hn _) hm] at h
  exact ⟨(kept_keep hn hm (fun e => h ((eqR_iff _ _).2 e))).symm, aerase_len (M := MPC) hl⟩
theorem dn_t {x : HI} (h : (defF x).2 = true) : dNum x = (defF x).1.n := by unfold dNum; rw [if_pos h]
theorem dn_f {x : HI} (h : (defF x).2 = false) : dNum x = 0 := by unfold dNum; rw [if_neg (by rw [h]; decide)]
theorem hi_flat (x : HI) : flats x.cells := ⟨trivial, trivial, trivial, trivial, trivial, trivial, trivial, trivial, trivial, trivial, trivial, trivial, trivial, trivial, trivial, trivial⟩
theorem len_a {v : VL} {i j} (h : I113a v i j) : 0 = 0 ∧ j.toNat = (List.map npv (List.take j.toNat (usesF (old v i)))).length := by
 obtain ⟨h1, h2, h3⟩ := h
 refine ⟨rfl, ?_⟩
 rw [List.length_map, List.length_take]; omega
theorem len_b {v : VL} {i j} {X : List (List SV)} (h : I113a v i j) (hX : X.length = 1) : (Rows.len (Sum.inr (List.map npv (List.take j.toNat (usesF (old v i))))) + Rows.len (Sum.inl X)) * 8 ≤ 2 ^ 46 := by
 obtain ⟨h1, h2, h3⟩ := h
 simp only [Rows.len, List.length_map, List.length_take, hX]; omega
theorem len_c {v : VL} {i j} {X : List (List SV)} (h : I113a v i j) (hj : j < (usesF (old v i)).length) (hX : X.length = 1) : 0 = 0 ∧ (j + 1).toNat = Rows.len (Sum.inr (List.map npv (List.take j.toNat (usesF (old v i))))) + Rows.len (Sum.inl X) := by
 obtain ⟨h1, h2, h3⟩ := h
 simp only [Rows.len, List.length_map, List.length_take, hX, true_and]; omega
theorem vec_a {v : VL} {i j} (h : I113a v i j) (hj : j < (usesF (old v i)).length) : 1 = 1 ∧ List.map npv (List.take (j + 1).toNat (usesF (old v i))) = List.map npv (List.take j.toNat (usesF (old v i))) ++ [[PV.int IntKind.i64 (nth (usesF (old v i)) j).n]] := by
 refine ⟨rfl, ?_⟩
 rw [take_step _ j ⟨h.1, hj⟩, List.map_append]; rfl
theorem nam_a {v : VL} {i j} (h : I113a v i j) (hj : ¬ j < (usesF (old v i)).length) : PV.sl 1 (List.map ipv (List.map HR.n (usesF (old v i)))) = PV.sl 1 (List.take j.toNat (List.drop 0 (List.map npv (List.take j.toNat (usesF (old v i)))))) ∧ 0 + j.toNat ≤ (List.map npv (List.take j.toNat (usesF (old v i)))).length := by
 refine ⟨by rw [names_eq _ _ h.1 hj], ?_⟩
 rw [(len_a h).2.symm]; omega
attribute [local irreducible] usesF defF validF sameF standsF purge keptF matchU
noncomputable def L113 (v : VL) (es : HM) (x : HI) (i : Int) : LSpec := ⟨[.ptr 0 0 0, .agg x.cells, kz i], [v.row, .map MPC es none], [some v.row, some (.map MPC (standsF es v.code x i).1 none)], [], .bool (standsF es v.code x i).2⟩
set_option maxHeartbeats 4000000 in
theorem s113 (v : VL) (es : HM) (x : HI) (i : Int) (hn : ndk es) : LSpec.ok Tryz.prog GG 113 (L113 v es x i) := by
 refine fn_spec mix k113 _ rfl rfl (Tab.ok (l := [(34, S34), (33, S33), (38, S38), (151, S151)]) ⟨t34, t33, t38, t151, trivial⟩) (LA113 v es x i) noJ ?_
 repeat' ((conv => whnf); first
  | exact trivial
  | with_reducible first | refine aj ?_ | refine ai rfl ?_ | refine ai ⟨rfl, rfl⟩ ?_
  | ((with_reducible refine ai ?_ ?_); focus exact w3)
  | with_reducible first | refine allc ?_ | apply exW (γ := C113) (c := (_, _, _)) | apply exW (γ := Int) (c := _) | refine exI (i64_in (by simp only [I113a, I113b, List.length_map] at *; omega) (by simp only [I113a, I113b, List.length_map] at *; omega)) ?_
  | refine exI (x := ULift.up _) (pv_get0 _ _ _ (by simp only [I113a, I113b, List.length_map] at *; omega)) ?_
  | refine exI (x := ULift.up _) ⟨rfl, (by simp only [I113a, I113b, List.length_map] at *; omega), pv_get _ _ _ (by simp only [I113a, I113b, List.length_map] at *; omega)⟩ ?_
  | refine exI (x := ULift.up (List.map HR.n (usesF _))) (names_eq _ _ (by simp only [I113a, I113b, List.length_map] at *; omega) (by with_reducible assumption)) ?_
  | with_reducible refine And.intro (Sd.mk (p := (_ : Int) ≤ _ ∧ _) (by simp only [I113a, I113b, List.length_map] at *; omega)) ?_
  | refine And.intro (Sd.mk (p := MapTy.one MPC = _ ∧ _) ⟨rfl, rfl⟩) ?_
  | refine And.intro (Sd.mk (p := MapTy.vone MPC = _ ∧ _) ⟨rfl, rfl⟩) ?_
  | apply exI (x := ULift.up (PL.mk _ _)) trivial
  | apply exI (x := ULift.up (CT.mk (HR.mk _ _) _)) trivial
  | with_reducible first | refine And.intro ?_ ?_ | refine asL_mk ?_ | refine exI (i64_in (by omega) (by omega)) ?_
  | refine exI (x := ULift.up _) (Eq.refl _) ?_
  | refine exI (x := ULift.up _) ⟨rfl, by omega, Eq.refl _⟩ ?_
  | exact nx
  | ((with_reducible intro h); try dsimp only at h))
 all_goals (refine Sd.mk ?_)
 all_goals try first
  | exact len_a (by assumption)
  | exact len_b (by assumption) rfl
  | exact len_c (by assumption) (by assumption) rfl
  | exact vec_a (by assumption) (by assumption)
  | exact nam_a (by assumption) (by assumption)
  | exact ⟨⟨hi_flat _, trivial, trivial⟩, trivial, trivial⟩
 all_goals (try simp only [HI.eta, HR.eta, PL.eta, List.length_map] at *)
 all_goals first
  | exact dn_t (by assumption)
  | exact dn_f (by assumption)
  | exact ⟨by omega, by omega, usesF_len _⟩
  | exact a_go (by assumption) (by assumption)
  | exact ⟨⟨by decide, trivial, trivial⟩, trivial, trivial⟩
  | exact b_0 (by assumption) (by assumption) (by assumption) (by assumption)
  | exact b_go (by assumption) (by assumption) (by assumption) (by assumption)
  | exact c_0
  | exact c_del hn (by assumption) (by assumption) (by assumption) (by assumption)
  | exact c_keep hn (by assumption) (by assumption) (by assumption) (by assumption)
  | exact i2 (st_i (.inl (by assumption)))
  | exact i2 (st_i (.inr (by assumption)))
  | exact i2 (st_same (same_f1 (by assumption)))
  | exact i2 (st_same (same_f2 (by assumption)))
  | exact i2 (st_match (by assumption) (by assumption) (.inl (nt (by assumption))))
  | exact i2 (st_match (by assumption) (by assumption) (.inr (by assumption)))
  | exact i2 (st_ok (by assumption) (by assumption) (.inl (by assumption)))
  | exact i2 (st_ok (by assumption) (by assumption) (.inr (by assumption)))
  | exact i2 (st_put (by assumption) (by assumption) (by assumption) (by assumption) (by assumption) (by assumption))
  | exact mpe (i1 (st_i (.inl (by assumption))))
  | exact mpe (i1 (st_i (.inr (by assumption))))
  | exact mpe (i1 (st_same (same_f1 (by assumption))))
  | exact mpe (i1 (st_same (same_f2 (by assumption))))
  | exact mpe (i1 (st_match (by assumption) (by assumption) (.inl (nt (by assumption)))))
  | exact mpe (i1 (st_match (by assumption) (by assumption) (.inr (by assumption))))
  | exact mpe (i1 (st_ok (by assumption) (by assumption) (.inl (by assumption))))
  | exact mpe (i1 (st_ok (by assumption) (by assumption) (.inr (by assumption))))
  | exact mpe (i1 (st_put (by assumption) (by assumption) (by assumption) (by assumption) (by assumption) (by assumption)))
noncomputable def S113 : SFn
 | [.ptr p _ _, a1, .int .i64 i], k => asVal p fun v es => asHI a1 fun x => .req (ndk es) (k (L113 v es x i))
 | _, _ => .fail
theorem t113 : FnS Tryz.prog GG 113 S113 := by
 intro args k gt go R v os n h
 unfold S113 at h
 split at h
 . obtain ⟨v, es, _, h⟩ := asVal_inv h
   obtain ⟨x, _, h⟩ := asHI_inv h
   obtain ⟨hp, _, h⟩ := req_inv h
   exact ⟨_, _, s113 v es x _ hp, h⟩
 . cases h
end Go.Proofs.YtlahifihaeafbaaGreatDoor
namespace Go.Proofs.YtlahifihaeafbaaGreatDoor
open Go Go.Sx
theorem formF_rule (n : Int) (h1 : 42 ≤ n) (h2 : n ≤ 45) : (formF n).1.rule = 18 ∨ (formF n).1.rule = 19 := by
 have : n = 42 ∨ n = 43 ∨ n = 44 ∨ n = 45 := by omega
 rcases this with rfl | rfl | rfl | rfl <;> decide
theorem chk_slot {x : HI} (h : checkF x = 0) : 42 ≤ x.op -> x.op ≤ 45 -> 0 ≤ x.k ∧ x.k ≤ 1000 := by
 intro h1 h2
 have hv : validF x = true := by
  unfold checkF at h
  split at h
  . next h3 => exact h3.1
  . cases h
 have ho : obeysF (formF x.op).1.rule x = true := by
  unfold validF at hv
  simp only [Bool.and_eq_true] at hv
  exact hv.2
 rcases formF_rule x.op h1 h2 with e | e
 . rw [e] at ho
   simp [obeysF, withinF] at ho
   omega
 . rw [e] at ho
   simp [obeysF, withinF] at ho
   omega
def elemV (code : List HI) (w vv : Int) (es : HM) (x : HI) (f : Int) : HM × Bool :=
 if checkF x = 0 ∧ withinA x w vv = true then (if f = -1 then insF es x else standsF es code x f) else (es, false)
def walkGo (code : List HI) (w vv : Int) : List HI -> List Int -> HM -> Int -> Int ⊕ HM
 | x :: L, f :: F, es, k => if (elemV code w vv es x f).2 = true then walkGo code w vv L F (elemV code w vv es x f).1 (k + 1) else .inl k
 | _, _, es, _ => .inr es
theorem e_1 {code w vv es x f} (h : ¬ checkF x = 0) : elemV code w vv es x f = (es, false) := by
 unfold elemV; rw [if_neg (fun e => h e.1)]
theorem e_2 {code w vv es x f} (h : withinA x w vv = false) : elemV code w vv es x f = (es, false) := by
 unfold elemV; rw [if_neg (fun e => by rw [h] at e; cases e.2)]
theorem e_3 {code w vv es x f} (h : checkF x = 0) (h2 : withinA x w vv = true) (h3 : f = -1) : elemV code w vv es x f = insF es x := by
 unfold elemV; rw [if_pos ⟨h, h2⟩, if_pos h3]
theorem e_4 {code w vv es x f} (h : checkF x = 0) (h2 : withinA x w vv = true) (h3 : ¬ f = -1) : elemV code w vv es x f = standsF es code x f := by
 unfold elemV; rw [if_pos ⟨h, h2⟩, if_neg h3]
theorem ndk_copy {es : HM} {t f : PL} (h : ndk es) : ndk (copyF es t f) := by
 unfold copyF; split
 . exact ndk_del h
 . exact ndk_put h
theorem ndk_vspill1 {es : HM} {x y b k} (h : ndk es) : ndk (vspill1 x y b es k) := by
 unfold vspill1; split
 . exact ndk_put (ndk_del h)
 . exact ndk_del h
theorem ndk_ins {es : HM} {x : HI} (h : ndk es) : ndk (insF es x).1 := by
 unfold insF
 split
 . exact ndk_copy h
 . split
   . exact ndk_copy h
   . split
     . exact ndk_copy h
     . split
       . exact ndk_copy h
       . split
         . exact ndk_vspill1 (ndk_vspill1 (ndk_vspill1 (ndk_vspill1 h)))
         . split
           . show ndk (unspillF es x)
             unfold unspillF; split
             . exact ndk_put (ndk_del h)
             . exact ndk_del h
           . exact h
theorem ndk_stands {es : HM} {code x i} (h : ndk es) : ndk (standsF es code x i).1 := by
 unfold standsF
 split
 . exact h
 . split
   . exact h
   . split
     . exact h
     . split
       . exact ndk_put (ndk_filter h _)
       . exact h
theorem ndk_elem {code w vv es x f} (h : ndk es) : ndk (elemV code w vv es x f).1 := by
 unfold elemV
 split
 . split
   . exact ndk_ins h
   . exact ndk_stands h
 . exact h
abbrev C64 := Int × HM
def I64 (v : VL) (w vv : Int) (T : Int ⊕ HM) (c : C64) : Prop := 0 ≤ c.1 ∧ c.1 ≤ v.L.length ∧ c.1 ≤ v.fr.length ∧ v.L.length ≤ 1000000 ∧ ndk c.2 ∧ walkGo v.code w vv (v.L.drop c.1.toNat) (v.fr.drop c.1.toNat) c.2 c.1 = T
theorem walk_at {v : VL} {w vv T k es} (hI : I64 v w vv T (k, es)) (h : k < min (v.L.length : Int) v.fr.length) :
 (if (elemV v.code w vv es (nth v.L k) (nth v.fr k)).2 = true then walkGo v.code w vv (v.L.drop (k + 1).toNat) (v.fr.drop (k + 1).toNat) (elemV v.code w vv es (nth v.L k) (nth v.fr k)).1 (k + 1) else .inl k) = T := by
  obtain ⟨h1, h2, h3, h4, h5, h6⟩ := hI
  dsimp only at *
  rw [drop_step v.L k ⟨h1, by omega⟩, drop_step v.fr k ⟨h1, by omega⟩, walkGo] at h6
  exact h6
theorem walk_no {v : VL} {w vv T k es a} (hI : I64 v w vv T (k, es)) (h : k < min (v.L.length : Int) v.fr.length) (e : elemV v.code w vv es (nth v.L k) (nth v.fr k) = (a, false)) : T = .inl k := by
 have := walk_at hI h
 rw [e] at this
 exact this.symm
theorem wlk_go {v : VL} {w vv T k es es'} (hI : I64 v w vv T (k, es)) (h : k < min (v.L.length : Int) v.fr.length) (e2 : (elemV v.code w vv es (nth v.L k) (nth v.fr k)).2 = true) (e1 : (elemV v.code w vv es (nth v.L k) (nth v.fr k)).1 = es') :
 I64 v w vv T (k + 1, es') ∧ (min (v.L.length : Int) v.fr.length - (k + 1)).toNat < (min (v.L.length : Int) v.fr.length - k).toNat := by
  have h8 := walk_at hI h
  obtain ⟨h1, h2, h3, h4, h5, h6⟩ := hI
  dsimp only at *
  rw [if_pos e2, e1] at h8
  refine ⟨⟨by dsimp only; omega, by dsimp only; omega, by dsimp only; omega, h4, ?_, h8⟩, by omega⟩
  rw [<- e1]; exact ndk_elem h5
theorem walk_end {v : VL} {w vv T k es} (hI : I64 v w vv T (k, es)) (h : ¬ k < min (v.L.length : Int) v.fr.length) : T = .inr es := by
 obtain ⟨h1, h2, h3, h4, h5, h6⟩ := hI
 dsimp only at *
 rw [<- h6]
 rcases Int.lt_or_le k v.L.length with h7 | h7
 . have : v.fr.drop k.toNat = [] := List.drop_eq_nil_of_le (by omega)
   rw [this]; cases v.L.drop k.toNat <;> rfl
 . have : v.L.drop k.toNat = [] := List.drop_eq_nil_of_le (by omega)
   rw [this]; rfl
def ordGo : List Int -> Int -> Option Int
 | [], n => some n
 | f :: F, n => if f = -1 then ordGo F n else if f = n then ordGo F (n + 1) else none
def orderedF (v : VL) : Bool := match ordGo v.fr 0 with
 | none => false
 | some n => decide (v.L.length = v.fr.length ∧ n = v.code.length ∧ 0 < v.fr.length ∧ nth v.fr (v.fr.length - 1) ≠ -1)
abbrev C65 := Int × Int
def I65 (v : VL) (c : C65) : Prop := 0 ≤ c.1 ∧ c.1 ≤ v.fr.length ∧ v.fr.length ≤ 1000000 ∧ 0 ≤ c.2 ∧ c.2 ≤ c.1 ∧ ordGo (v.fr.drop c.1.toNat) c.2 = ordGo v.fr 0
theorem ord_go1 {v : VL} {i n} (hI : I65 v (i, n)) (h : i < v.fr.length) (e : nth v.fr i = -1) : I65 v (i + 1, n) ∧ (v.fr.length - (i + 1)).toNat < (v.fr.length - i).toNat := by
 obtain ⟨h1, h2, h3, h4, h5, h6⟩ := hI
 dsimp only at *
 rw [drop_step v.fr i ⟨h1, h⟩, ordGo, if_pos e] at h6
 exact ⟨⟨by dsimp only; omega, by dsimp only; omega, h3, h4, by dsimp only; omega, h6⟩, by omega⟩
theorem ord_go2 {v : VL} {i n} (hI : I65 v (i, n)) (h : i < v.fr.length) (e : ¬ nth v.fr i = -1) (e2 : ¬ ¬ nth v.fr i = n) : I65 v (i + 1, n + 1) ∧ (v.fr.length - (i + 1)).toNat < (v.fr.length - i).toNat := by
 obtain ⟨h1, h2, h3, h4, h5, h6⟩ := hI
 dsimp only at *
 rw [drop_step v.fr i ⟨h1, h⟩, ordGo, if_neg e, if_pos (Classical.not_not.1 e2)] at h6
 exact ⟨⟨by dsimp only; omega, by dsimp only; omega, h3, by dsimp only; omega, by dsimp only; omega, h6⟩, by omega⟩
theorem ord_no {v : VL} {i n} (hI : I65 v (i, n)) (h : i < v.fr.length) (e : ¬ nth v.fr i = -1) (e2 : ¬ nth v.fr i = n) : orderedF v = false := by
 obtain ⟨h1, h2, h3, h4, h5, h6⟩ := hI
 dsimp only at *
 rw [drop_step v.fr i ⟨h1, h⟩, ordGo, if_neg e, if_neg e2] at h6
 unfold orderedF; rw [<- h6]
theorem ord_end {v : VL} {i n} (hI : I65 v (i, n)) (h : ¬ i < v.fr.length) : orderedF v = decide (v.L.length = v.fr.length ∧ n = v.code.length ∧ 0 < v.fr.length ∧ nth v.fr (v.fr.length - 1) ≠ -1) := by
 obtain ⟨h1, h2, h3, h4, h5, h6⟩ := hI
 dsimp only at *
 rw [List.drop_eq_nil_of_le (by omega), ordGo] at h6
 unfold orderedF; rw [<- h6]
end Go.Proofs.YtlahifihaeafbaaGreatDoor
namespace Go.Proofs.YtlahifihaeafbaaGreatDoor
open Go Go.Sx
def c64 : MC := .seq (.drw [om 9 0,oo 10 (.nchk (.t 9)),oo 11 (.fld 0 (.t 10)),oo 12 (.fld 0 (.t 11)),oo 13 (.ld none (.t 12)),oo 14 (.lenS (.t 13)),om 15 0,oo 16 (.nchk (.t 15)),oo 17 (.fld 0 (.t 16)),oo 18 (.fld 1 (.t 17)),oo 19 (.ld none (.t 18)),oo 20 (.lenS (.t 19)),oo 21 (.mm false (.t 14) [(.t 20)]),oo 22 (.mv (ki 0))] [[],[0],[1],[2],[3],[4],[],[6],[7],[8],[9],[10],[5,11],[]]) (.blk 0 (.loop 0 (.seq (.reg [oo 23 (.cmp .lss (.t 22) (.t 21))]) (.seq (.cond (.t 23) (.skip) (.exit 0)) (.seq (.blk 1 (.seq (.reg [om 24 22,om 6 24]) (.seq (.reg [om 25 0,oo 26 (.nchk (.t 25)),oo 27 (.fld 0 (.t 26)),oo 28 (.fld 0 (.t 27)),oo 29 (.ld none (.t 28)),om 30 6,oo 31 (.ixa 15 (.t 29) (.t 30)),oo 32 (.ld (some 15) (.t 31)),oo 7 (.alloc [(kz 0),(kz 0),(kz 0),(kz 0),(kz 0),(kz 0),(kz 0),(kz 0),(kz 0),(.int .u32 0),(.int .u32 0),(.int .u32 0),(.int .u32 0),(.int .u32 0),(.int .u32 0)]),o none (.st (some 15) (.t 7) (.t 32))]) (.seq (.reg [oo 33 (.ld (some 15) (.t 7)),oo 34 (.call (.k (.fn (.func 37) [] [])) [(.t 33)]),oo 35 (.cmp .eql (.t 34) (ki 0)),os (some 36) (.mv (.t 35)),og 36 true (some 37) (.ld (some 15) (.t 7)),og 36 true (some 38) (.mv (.t 1)),og 36 true (some 39) (.mv (.t 2)),og 36 true (some 40) (.call (.k (.fn (.func 111) [] [])) [(.t 37),(.t 38),(.t 39)]),oo 41 (.pick (.t 36) (.t 40) kf),om 8 41]) (.seq (.seq (.reg [om 42 8,os (some 43) (.mv (.t 42)),og 43 true (some 44) (.mv (.t 0)),og 43 true (some 45) (.nchk (.t 44)),og 43 true (some 46) (.fld 0 (.t 45)),og 43 true (some 47) (.fld 1 (.t 46)),og 43 true (some 48) (.ld none (.t 47)),og 43 true (some 49) (.mv (.t 6)),og 43 true (some 50) (.ixa 1 (.t 48) (.t 49)),og 43 true (some 51) (.ld none (.t 50)),og 43 true (some 52) (.cmp .eql (.t 51) (ki (-1))),oo 53 (.pick (.t 43) (.t 52) kf)]) (.cond (.t 53) (.reg [om 54 0,oo 55 (.ld (some 15) (.t 7)),oo 56 (.call (.k (.fn (.func 112) [] [])) [(.t 54),(.t 55)]),om 8 56]) (.seq (.reg [om 57 8]) (.cond (.t 57) (.drw [om 58 0,oo 59 (.ld (some 15) (.t 7)),om 60 0,oo 61 (.nchk (.t 60)),oo 62 (.fld 0 (.t 61)),oo 63 (.fld 1 (.t 62)),oo 64 (.ld none (.t 63)),om 65 6,oo 66 (.ixa 1 (.t 64) (.t 65)),oo 67 (.ld none (.t 66)),oo 68 (.call (.k (.fn (.func 113) [] [])) [(.t 58),(.t 59),(.t 67)]),om 8 68] [[],[],[],[2],[3],[4],[5],[],[6,7],[8],[0,1,9],[10,10,0,1,2,3,4,5,6,7,8,9,10]]) (.skip))))) (.seq (.reg [om 69 8,oo 70 (.not (.t 69))]) (.cond (.t 70) (.reg [om 71 6,oo 72 (.bld [(kz 0)] [(0,1,(.t 71))]),oo 73 (.mki 109 (.t 72)),o none (.pnc (.t 73))]) (.skip)))))))) (.reg [oo 74 (.ar .add (.t 22) (ki 1)),om 22 74]))))))
theorem k64 : FnOk Tryz.prog 64 75 c64 [] := fk Tryz.func64 ⟨tv,⟨tv,⟨⟨tv,tv⟩,⟨⟨tv,⟨tv,⟨tv,⟨⟨tv,⟨tv,⟨tv,⟨tv,tv⟩⟩⟩⟩,⟨tv,⟨tv,tv⟩⟩⟩⟩⟩⟩,tv⟩⟩⟩⟩
def c65 : MC := .seq (.reg [oo 2 (.mv kf)]) (.seq (.reg [oo 3 (.mv (ki 0))]) (.seq (.seq (.reg [om 7 0,oo 8 (.nchk (.t 7)),oo 9 (.fld 0 (.t 8)),oo 10 (.fld 1 (.t 9)),oo 11 (.ld none (.t 10)),oo 12 (.lenS (.t 11)),oo 13 (.mv (ki 0))]) (.blk 0 (.loop 0 (.seq (.reg [oo 14 (.cmp .lss (.t 13) (.t 12))]) (.seq (.cond (.t 14) (.skip) (.exit 0)) (.seq (.blk 1 (.seq (.reg [oo 15 (.ixa 1 (.t 11) (.t 13)),oo 16 (.ld none (.t 15)),om 5 16]) (.seq (.seq (.reg [om 17 5,oo 18 (.cmp .eql (.t 17) (ki (-1)))]) (.cond (.t 18) (.exit 1) (.skip))) (.seq (.seq (.reg [om 19 5,om 20 3,oo 21 (.cmp .neq (.t 19) (.t 20))]) (.cond (.t 21) (.seq (.reg [oo 2 (.mv kf)]) (.ret)) (.skip))) (.reg [om 22 3,oo 23 (.ar .add (.t 22) (ki 1)),om 3 23]))))) (.reg [oo 24 (.ar .add (.t 13) (ki 1)),om 13 24]))))))) (.seq (.reg [om 25 0,oo 26 (.nchk (.t 25)),oo 27 (.fld 0 (.t 26)),oo 28 (.fld 1 (.t 27)),oo 29 (.ld none (.t 28)),oo 30 (.lenS (.t 29)),om 6 30]) (.seq (.reg [om 31 0,oo 32 (.nchk (.t 31)),oo 33 (.fld 0 (.t 32)),oo 34 (.fld 0 (.t 33)),oo 35 (.ld none (.t 34)),oo 36 (.lenS (.t 35)),om 37 6,oo 38 (.cmp .eql (.t 36) (.t 37)),os (some 39) (.mv (.t 38)),og 39 true (some 40) (.mv (.t 3)),og 39 true (some 41) (.mv (.t 0)),og 39 true (some 42) (.nchk (.t 41)),og 39 true (some 43) (.fld 2 (.t 42)),og 39 true (some 44) (.ld none (.t 43)),og 39 true (some 45) (.lenS (.t 44)),og 39 true (some 46) (.cmp .eql (.t 40) (.t 45)),oo 47 (.pick (.t 39) (.t 46) kf),os (some 48) (.mv (.t 47)),og 48 true (some 49) (.mv (.t 6)),og 48 true (some 50) (.cmp .gtr (.t 49) (ki 0)),oo 51 (.pick (.t 48) (.t 50) kf),os (some 52) (.mv (.t 51)),og 52 true (some 53) (.mv (.t 0)),og 52 true (some 54) (.nchk (.t 53)),og 52 true (some 55) (.fld 0 (.t 54)),og 52 true (some 56) (.fld 1 (.t 55)),og 52 true (some 57) (.ld none (.t 56)),og 52 true (some 58) (.mv (.t 6)),og 52 true (some 59) (.ar .sub (.t 58) (ki 1)),og 52 true (some 60) (.ixa 1 (.t 57) (.t 59)),og 52 true (some 61) (.ld none (.t 60)),og 52 true (some 62) (.cmp .neq (.t 61) (ki (-1))),oo 63 (.pick (.t 52) (.t 62) kf),om 2 63]) (.ret)))))
theorem k65 : FnOk Tryz.prog 65 64 c65 [.t 2] := fk Tryz.func65 ⟨tv,⟨tv,⟨⟨tv,⟨tv,⟨⟨tv,tv⟩,⟨⟨tv,⟨⟨tv,⟨tv,tv⟩⟩,⟨⟨tv,⟨⟨tv,tv⟩,tv⟩⟩,tv⟩⟩⟩,tv⟩⟩⟩⟩,⟨tv,⟨tv,tv⟩⟩⟩⟩⟩
attribute [local irreducible] Go.Sx.agetD Go.Sx.aget usesF defF validF withF insF standsF checkF withinA walkGo orderedF ordGo
def inv64 (v : VL) (w vv : Int) : C64 -> St
 | (k, es) => ⟨[(22, kz k), (21, kz (min (v.L.length : Int) v.fr.length)), (2, kz vv), (1, kz w), (0, .ptr 0 0 0)], [(0, some v.row), (1, some (.map MPC es none))], 2⟩
def inv65 (v : VL) (es : HM) : C65 -> St
 | (i, n) => ⟨[(13, kz i), (12, kz v.fr.length), (11, inS v.fr), (3, kz n), (0, .ptr 0 0 0)], [(0, some v.row), (1, some (.map MPC es none))], 2⟩
theorem all64 {v w vv T} {Q : C64 -> Prop} (h : ∀ k es, I64 v w vv T (k, es) -> Q (k, es)) : ∀ c, I64 v w vv T c -> Q c := fun ⟨k, es⟩ hI => h k es hI
theorem all65 {v} {Q : C65 -> Prop} (h : ∀ i n, I65 v (i, n) -> Q (i, n)) : ∀ c, I65 v c -> Q c := fun ⟨i, n⟩ hI => h i n hI
theorem nopan {T : Int ⊕ HM} {a : HM} {k : Int} (h : T = .inr a) (h2 : T = .inl k) : False := by rw [h] at h2; cases h2
theorem e_3f {code w vv es x f} (h : checkF x = 0) (h2 : withinA x w vv = true) (h3 : f = -1) (hb : (!(insF es x).2) = true) : elemV code w vv es x f = ((insF es x).1, false) := by
 rw [e_3 h h2 h3]; exact Prod.ext rfl (nt hb)
theorem e_4f {code w vv es x f} (h : checkF x = 0) (h2 : withinA x w vv = true) (h3 : ¬ f = -1) (hb : (!(standsF es code x f).2) = true) : elemV code w vv es x f = ((standsF es code x f).1, false) := by
 rw [e_4 h h2 h3]; exact Prod.ext rfl (nt hb)
theorem e_3t {code w vv es x f} (h : checkF x = 0) (h2 : withinA x w vv = true) (h3 : f = -1) (hb : (!(insF es x).2) = false) : (elemV code w vv es x f).2 = true := by
 rw [e_3 h h2 h3]; exact nf hb
theorem e_4t {code w vv es x f} (h : checkF x = 0) (h2 : withinA x w vv = true) (h3 : ¬ f = -1) (hb : (!(standsF es code x f).2) = false) : (elemV code w vv es x f).2 = true := by
 rw [e_4 h h2 h3]; exact nf hb
theorem inr_eq {T : Int ⊕ HM} {a b : HM} (h : T = .inr a) (h2 : T = .inr b) : MPS a = MPS b := by rw [h] at h2; cases h2; rfl
theorem inl_eq {T : Int ⊕ HM} {a b : Int} (h : T = .inl a) (h2 : T = .inl b) : [kz a] = [kz b] := by rw [h] at h2; cases h2; rfl
noncomputable def L64 (v : VL) (es : HM) (w : Int) (vv : Int) (es1 : HM) : LSpec := ⟨[.ptr 0 0 0, kz w, kz vv], [v.row, .map MPC es none], [some v.row, some (.map MPC es1 none)], [], .tup []⟩
set_option maxHeartbeats 4000000 in
theorem s64 (v : VL) (es : HM) (w : Int) (vv : Int) (es1 : HM) (hn : ndk es) (hl : v.L.length ≤ 1000000) (hT : walkGo v.code w vv v.L v.fr es 0 = .inr es1) : LSpec.ok Tryz.prog GG 64 (L64 v es w vv es1) := by
 refine fn_spec mix k64 _ rfl rfl (Tab.ok (l := [(37, S37), (111, S111), (112, S112), (113, S113)]) ⟨t37, t111, t112, t113, trivial⟩) (fun _ => .inv C64 (fun _ => I64 v w vv (walkGo v.code w vv v.L v.fr es 0)) (inv64 v w vv) (fun c => (min (v.L.length : Int) v.fr.length - c.1).toNat)) noJ ?_
 repeat' ((conv => whnf); first
  | exact trivial
  | with_reducible first | refine aj ?_ | refine ai rfl ?_ | refine ai ⟨rfl, rfl⟩ ?_
  | ((with_reducible refine ai ?_ ?_); focus exact w3)
  | with_reducible first | refine all64 ?_ | apply exW (γ := C64) (c := (_, _)) | refine exI (i64_in (by simp only [I64, I65, List.length_map] at *; omega) (by simp only [I64, I65, List.length_map] at *; omega)) ?_
  | refine exI (x := ULift.up _) ⟨rfl, (by simp only [I64, I65, List.length_map] at *; omega), pv_get _ _ _ (by simp only [I64, I65, List.length_map] at *; omega)⟩ ?_
  | with_reducible first | refine And.intro (Sd.mk (p := ndk _) (by simp only [I64] at *; simp_all)) ?_ | refine And.intro (Sd.mk (p := (42 : Int) ≤ _ -> _) (chk_slot (by with_reducible assumption))) ?_ | refine And.intro ?_ ?_ | refine asL_mk ?_ | refine exI (i64_in (by omega) (by omega)) ?_
  | refine exI (x := ULift.up _) (Eq.refl _) ?_
  | refine exI (x := ULift.up _) ⟨rfl, by omega, Eq.refl _⟩ ?_
  | exact nx
  | ((with_reducible intro h); try dsimp only at h))
 all_goals (try (refine Sd.mk ?_)); all_goals (try simp only [HI.eta, HR.eta, List.length_map] at *)
 all_goals first
  | exact nopan hT (walk_no (by assumption) (by assumption) (e_1 (by assumption)))
  | exact nopan hT (walk_no (by assumption) (by assumption) (e_2 (by assumption)))
  | exact nopan hT (walk_no (by assumption) (by assumption) (e_3f (by assumption) (by assumption) (by assumption) (by assumption)))
  | exact nopan hT (walk_no (by assumption) (by assumption) (e_4f (by assumption) (by assumption) (by assumption) (by assumption)))
  | exact inr_eq hT (walk_end (by assumption) (by assumption))
  | exact wlk_go (by assumption) (by assumption) (e_3t (by assumption) (by assumption) (by assumption) (by assumption)) (congrArg Prod.fst (e_3 (by assumption) (by assumption) (by assumption)))
  | exact wlk_go (by assumption) (by assumption) (e_4t (by assumption) (by assumption) (by assumption) (by assumption)) (congrArg Prod.fst (e_4 (by assumption) (by assumption) (by assumption)))
  | exact ⟨by dsimp only; omega, by dsimp only; omega, by dsimp only; omega, hl, hn, rfl⟩
noncomputable def L64p (v : VL) (es : HM) (w : Int) (vv : Int) (k1 : Int) : LSpec := ⟨[.ptr 0 0 0, kz w, kz vv], [v.row, .map MPC es none], [none, none], [], .ifc 109 (.agg [kz k1])⟩
set_option maxHeartbeats 4000000 in
theorem s64p (v : VL) (es : HM) (w : Int) (vv : Int) (k1 : Int) (hn : ndk es) (hl : v.L.length ≤ 1000000) (hT : walkGo v.code w vv v.L v.fr es 0 = .inl k1) : LSpec.okE panicked Tryz.prog GG 64 (L64p v es w vv k1) := by
 refine fn_pan mix k64 _ rfl rfl (Tab.ok (l := [(37, S37), (111, S111), (112, S112), (113, S113)]) ⟨t37, t111, t112, t113, trivial⟩) (fun _ => .inv C64 (fun _ => I64 v w vv (walkGo v.code w vv v.L v.fr es 0)) (inv64 v w vv) (fun c => (min (v.L.length : Int) v.fr.length - c.1).toNat)) noJ ?_
 repeat' ((conv => whnf); first
  | exact trivial
  | with_reducible first | refine aj ?_ | refine ai rfl ?_ | refine ai ⟨rfl, rfl⟩ ?_
  | ((with_reducible refine ai ?_ ?_); focus exact w3)
  | with_reducible first | refine all64 ?_ | apply exW (γ := C64) (c := (_, _)) | refine exI (i64_in (by simp only [I64, I65, List.length_map] at *; omega) (by simp only [I64, I65, List.length_map] at *; omega)) ?_
  | refine exI (x := ULift.up _) ⟨rfl, (by simp only [I64, I65, List.length_map] at *; omega), pv_get _ _ _ (by simp only [I64, I65, List.length_map] at *; omega)⟩ ?_
  | with_reducible first | refine And.intro (Sd.mk (p := ndk _) (by simp only [I64] at *; simp_all)) ?_ | refine And.intro (Sd.mk (p := (42 : Int) ≤ _ -> _) (chk_slot (by with_reducible assumption))) ?_ | refine And.intro ?_ ?_ | refine asL_mk ?_ | refine exI (i64_in (by omega) (by omega)) ?_
  | refine exI (x := ULift.up _) (Eq.refl _) ?_
  | refine exI (x := ULift.up _) ⟨rfl, by omega, Eq.refl _⟩ ?_
  | exact nx
  | ((with_reducible intro h); try dsimp only at h))
 all_goals (try (refine Sd.mk ?_)); all_goals (try simp only [HI.eta, HR.eta, List.length_map] at *)
 all_goals first
  | exact inl_eq hT (walk_no (by assumption) (by assumption) (e_1 (by assumption)))
  | exact inl_eq hT (walk_no (by assumption) (by assumption) (e_2 (by assumption)))
  | exact inl_eq hT (walk_no (by assumption) (by assumption) (e_3f (by assumption) (by assumption) (by assumption) (by assumption)))
  | exact inl_eq hT (walk_no (by assumption) (by assumption) (e_4f (by assumption) (by assumption) (by assumption) (by assumption)))
  | exact nopan (walk_end (by assumption) (by assumption)) hT
  | exact wlk_go (by assumption) (by assumption) (e_3t (by assumption) (by assumption) (by assumption) (by assumption)) (congrArg Prod.fst (e_3 (by assumption) (by assumption) (by assumption)))
  | exact wlk_go (by assumption) (by assumption) (e_4t (by assumption) (by assumption) (by assumption) (by assumption)) (congrArg Prod.fst (e_4 (by assumption) (by assumption) (by assumption)))
  | exact ⟨by dsimp only; omega, by dsimp only; omega, by dsimp only; omega, hl, hn, rfl⟩
noncomputable def S64 : SFn
 | [.ptr p _ _, .int .i64 w, .int .i64 vv], k => asVal p fun v es => .req (ndk es ∧ v.L.length ≤ 1000000) (.ex (fun es1 : ULift.{1} HM => walkGo v.code w vv v.L v.fr es 0 = .inr es1.down) fun es1 => match es1 with | ⟨es1⟩ => k (L64 v es w vv es1))
 | _, _ => .fail
theorem t64 : FnS Tryz.prog GG 64 S64 := by
 intro args k gt go R v os n h
 unfold S64 at h
 split at h
 . obtain ⟨v, es, _, h⟩ := asVal_inv h
   obtain ⟨hp, _, h⟩ := req_inv h
   cases h with
   | ex x hx h => exact ⟨_, _, s64 v es _ _ _ hp.1 hp.2 hx, h⟩
 . cases h
noncomputable def S64p : SFn
 | [.ptr p _ _, .int .i64 w, .int .i64 vv], k => asVal p fun v es => .req (ndk es ∧ v.L.length ≤ 1000000) (.ex (fun k1 : ULift.{1} Int => walkGo v.code w vv v.L v.fr es 0 = .inl k1.down) fun k1 => match k1 with | ⟨k1⟩ => k (L64p v es w vv k1))
 | _, _ => .fail
theorem t64p : ∀ args k gt go R v os n, (S64p args k).Runs gt go R v os n -> ∃ L R', LSpec.okE panicked Tryz.prog GG 64 L ∧ (k L).Runs gt go R' v os n := by
 intro args k gt go R v os n h
 unfold S64p at h
 split at h
 . obtain ⟨v, es, _, h⟩ := asVal_inv h
   obtain ⟨hp, _, h⟩ := req_inv h
   cases h with
   | ex x hx h => exact ⟨_, _, s64p v es _ _ _ hp.1 hp.2 hx, h⟩
 . cases h
noncomputable def L65 (v : VL) (es : HM) : LSpec := ⟨[.ptr 0 0 0], [v.row, .map MPC es none], [some (v.row), some (.map MPC es none)], [], .bool (orderedF v)⟩
set_option maxHeartbeats 4000000 in
theorem s65 (v : VL) (es : HM) (hl : v.fr.length ≤ 1000000) : LSpec.ok Tryz.prog GG 65 (L65 v es) := by
 refine fn_spec mix k65 _ rfl rfl (Tab.ok (l := []) trivial) (fun _ => .inv C65 (fun _ => I65 v) (inv65 v es) (fun c => (v.fr.length - c.1).toNat)) noJ ?_
 repeat' ((conv => whnf); first
  | exact trivial
  | with_reducible first | refine aj ?_ | refine ai rfl ?_ | refine ai ⟨rfl, rfl⟩ ?_
  | ((with_reducible refine ai ?_ ?_); focus exact w3)
  | with_reducible first | refine all65 ?_ | apply exW (γ := C65) (c := (_, _)) | refine exI (i64_in (by simp only [I64, I65, List.length_map] at *; omega) (by simp only [I64, I65, List.length_map] at *; omega)) ?_
  | refine exI (x := ULift.up _) ⟨rfl, (by simp only [I64, I65, List.length_map] at *; omega), pv_get _ _ _ (by simp only [I64, I65, List.length_map] at *; omega)⟩ ?_
  | with_reducible first | refine And.intro ?_ ?_ | refine asL_mk ?_ | refine exI (i64_in (by omega) (by omega)) ?_
  | refine exI (x := ULift.up _) (Eq.refl _) ?_
  | refine exI (x := ULift.up _) ⟨rfl, by omega, Eq.refl _⟩ ?_
  | exact nx
  | ((with_reducible intro h); try dsimp only at h))
 all_goals (try (refine Sd.mk ?_)); all_goals (try simp only [HI.eta, HR.eta, List.length_map] at *)
 all_goals first
  | exact ⟨by dsimp only; omega, by dsimp only; omega, hl, by dsimp only; omega, by dsimp only; omega, rfl⟩
  | exact ord_go1 (by assumption) (by assumption) (by assumption)
  | exact ord_go2 (by assumption) (by assumption) (by assumption) (by assumption)
  | exact ord_no (by assumption) (by assumption) (by assumption) (by assumption)
  | (rw [ord_end (by assumption) (by assumption)]; simp only [decide_eq_true_eq, decide_eq_false_iff_not]; omega)
noncomputable def S65 : SFn
 | [.ptr p _ _], k => asVal p fun v es => .req (v.fr.length ≤ 1000000) (k (L65 v es))
 | _, _ => .fail
theorem t65 : FnS Tryz.prog GG 65 S65 := by
 intro args k gt go R v os n h
 unfold S65 at h
 split at h
 . obtain ⟨v, es, _, h⟩ := asVal_inv h
   obtain ⟨hp, _, h⟩ := req_inv h
   exact ⟨_, _, s65 v es hp, h⟩
 . cases h
end Go.Proofs.YtlahifihaeafbaaGreatDoor
namespace Go.Sx
open Go
open Classical
def mk1 (D : Nat) : Deferred := { target := .collected D, args := #[] }
theorem leaves_one {F : Fence} {n : Nat} {P : Program} {fn : Func} {tmps : Array Value} {R : Ending -> World -> Prop} {d : Deferred} {u : FrameMode} (hu : u ≠ .run) : ∀ (ds : List Deferred) (w : World), nmk ds = [d] -> (mks ds).Nodup →
 (∀ m ∈ mks ds, ∃ D, m = mk1 D ∧ w.heap[D]? = some (.deferred (some []))) →
 (∀ (rest : List Deferred) (w' : World), w'.heap.size = w.heap.size -> w'.os = w.os -> w'.tape = w.tape -> w'.output = w.output -> (∀ b, mk1 b ∉ mks ds -> w'.heap[b]? = w.heap[b]?) →
  nmk rest = [] -> (∀ m ∈ rest, m ∈ mks ds) -> rest.Nodup -> (∀ m ∈ rest, ∃ D, m = mk1 D ∧ w'.heap[D]? = some (.deferred (some []))) -> LeavesInM F n P fn tmps R (d :: rest) u w') -> LeavesInM F n P fn tmps R ds u w
  | [], w, h, _, _, _ => by simp [nmk] at h
  | x :: ds, w, h, hnd, hm, hc => by
    by_cases hx : isMk x = true
    . have e1 : nmk (x :: ds) = nmk ds := by simp [nmk, hx]
      have e2 : mks (x :: ds) = x :: mks ds := by simp [mks, hx]
      rw [e1] at h
      rw [e2] at hnd hm hc
      obtain ⟨D, rfl, hD⟩ := hm x (by simp)
      have hnd' := List.nodup_cons.1 hnd
      have hput : ∀ b, b ≠ D -> (w.putObj D (.deferred none)).heap[b]? = w.heap[b]? := fun b hb => World.putObj_heap_other hb
      refine ⟨hu, .inl ⟨D, _, rfl, run_takeDeferred hD, leaves_one hu ds _ h hnd'.2 (fun m hmm => ?_) (fun rest w' h1 h2 h3 h4 h5 h6 h7 h8 h9 => ?_)⟩⟩
      . obtain ⟨D', rfl, hD'⟩ := hm m (by simp [hmm])
        refine ⟨D', rfl, (hput D' (fun e => ?_)).trans hD'⟩
        subst e
        exact hnd'.1 hmm
      . refine hc rest w' (h1.trans (by simp [World.putObj])) h2 h3 h4 (fun b hb => ?_) h6 (fun m hmm => by simp [h7 m hmm]) h8 h9
        simp only [List.mem_cons, not_or] at hb
        exact (h5 b hb.2).trans (hput b (fun e => hb.1 (by rw [e])))
    . have e1 : nmk (x :: ds) = x :: nmk ds := by simp [nmk, hx]
      have e2 : mks (x :: ds) = mks ds := by simp [mks, hx]
      rw [e1] at h
      rw [e2] at hnd hm hc
      injection h with h1 h2
      subst h1
      have e3 : mks ds = ds := all_mk h2
      rw [e3] at hnd hm hc
      exact hc ds w rfl rfl rfl rfl (fun _ _ => rfl) h2 (fun _ h => h) hnd hm
theorem Holds.off {C : Ctx} {gt go β own S a w} (H : Holds C gt go β own S a w) {w' : World} {a' : Act} (ht : a'.tmps = a.tmps) (h1 : w'.heap.size = w.heap.size) (h2 : w'.os = w.os) (h3 : w'.tape = w.tape) (h4 : w'.output = w.output)
 (h5 : ∀ b, w'.heap[b]? = w.heap[b]? ∨ (C.w0.heap.size ≤ b ∧ ¬ S b ∧ ∀ id, (go id).isSome -> ¬ own id b)) (hdf : DfOk C.w0.heap.size go own S (mks a'.defers) w' ∧ nmk a'.defers = C.dt) : Holds C gt go β own S a' w' := by
  have x : Ext β w S β w' S := ⟨fun _ _ e => e, fun _ e => e, fun b hb => by
   rcases h5 b with h | h
   . exact h
   . exact absurd hb h.2.1⟩
  refine ⟨fun t s e => by rw [ht]; exact rel_ext x _ _ (H.tm t s e), ⟨fun id o e => ?_, H.mem.sep, H.mem.st, fun b hb => by rw [h1]; exact H.mem.sz b hb⟩, ⟨h2.trans H.fr.os, h3.trans H.fr.tape, h4.trans H.fr.output, by rw [h1]; exact H.fr.size, fun k hk hx => ?_⟩,
   H.own0, H.s0, H.s1, by rw [ht]; exact H.n, hdf, fun g s e => rel_ext ⟨fun _ _ e => e, fun _ e => e, x.heap⟩ _ _ (H.gl g s e)⟩
  . obtain ⟨B, hB, ho⟩ := H.mem.obj id o e
    exact ⟨B, hB, ho.ext x (fun b hb => by
     rcases h5 b with h | h
     . exact h
     . exact absurd hb (h.2.2 id (by simp [e])))⟩
  . rcases h5 k with h | h
    . rw [h]; exact H.fr.block k hk hx
    . have := h.1; omega
theorem ret_fin {P : Program} {fn : Func} {rs : List RV} {L : LSpec} (hrs : RVsOk P fn.results.toList rs) (hout : L.out.length = L.foot.length) {C : Ctx} (hP : C.P = P) (hm0 : C.m0 = L.foot.length) {own : Nat -> Nat -> Prop} (hX : C.X0 = owned L.go0 own) (hmem : MemOk C.β0 own C.S0 L.go0 C.w0)
 {s' : St} {β1 own1 S1 a' w'} (hk : (retRT rs L).vc (gtOf s'.t) (goOf s'.o) [] fun _ _ _ _ => True) (H : HoldsS C s' β1 own1 S1 a' w') :
 ∃ v, (results fn a'.tmps).run P w' = .ok v w' ∧ ∃ β' own' S', Keeps L.foot.length C.β0 C.w0 C.S0 β' w' S' ∧ (∀ id, L.foot.length + L.new.length ≤ id -> β' id = none) ∧
  rel β' w' S' L.res v ∧ MemOk β' own' S' L.go1 w' ∧ Fr (owned L.go0 own) C.w0 w' ∧ (∀ id b, (L.go1 id).isSome -> own' id b -> owned L.go0 own b ∨ C.w0.heap.size ≤ b) ∧
  (∀ b, S' b -> C.S0 b ∨ owned L.go0 own b ∨ C.w0.heap.size ≤ b) := by
  have H2 := H.h
  obtain ⟨R, v, os, k, hk, _⟩ := RT.runs_of_vc _ _ _ hk
  obtain ⟨ss, R1, hk, hres⟩ := rvs_inv hrs hk
  obtain ⟨xs, hxs, hrel⟩ := hres (C := C) hP H2
  obtain ⟨ρ1, R2, hk, l1, i1, m1⟩ := mSV_inv _ hk
  obtain ⟨ρ2, R3, hk, l2, i2, m2⟩ := mObjs_inv _ hk
  obtain ⟨e1, e2, e3⟩ := endRT_inv hk
  have hinj : ρ2.inj := i2 (i1 (fun i i' j q q' => by
   have := look_identR _ _ _ _ q
   have := look_identR _ _ _ _ q'
   simp_all))
  obtain ⟨hm, ho, hl⟩ := matched H2 hinj _ m2 e1
  have hgo1 : ∀ i, look i (outObjs L.out 0 ++ idxd L.new L.foot.length) = L.go1 i := fun i => by
   rw [look_append, look_outObjs, look_idxd]
   simp only [Nat.zero_le, if_true, Nat.sub_zero, LSpec.go1]
   by_cases c : i < L.foot.length
   . rw [if_pos c, if_neg (by omega)]
     cases getN L.out i with
     | none => rfl
     | some q => cases q <;> rfl
   . rw [if_neg c, if_pos (by omega)]
     have : getN L.out i = none := by rw [getN_eq]; simp; omega
     rw [this]; rfl
  have hgo1' : (fun i => look i (outObjs L.out 0 ++ idxd L.new L.foot.length)) = L.go1 := funext hgo1
  rw [hgo1'] at hm
  have hfr := H2.fr
  rw [hX] at hfr
  refine ⟨_, res_run hxs, bOf ρ2 β1 (spOf (outObjs L.out 0 ++ idxd L.new L.foot.length)), ownOf ρ2 own1, _, ⟨fun i B hi e => ?_, fun b hb => .inl (H2.s0 b hb), fun b hb => ?_⟩, fun i hi => by simp [bOf, keysLt_iff e2 i hi],
   m1 ρ2 l2 (fit_of H2.mem) _ _ (rel_res hrel), hm, hfr, fun id b hi hb => ?_, fun b hb => ?_⟩
  . simp only [bOf] at e
    split at e
    . rename_i j hj
      have := idLow_iff e3 i _ hi hj
      cases this
      exact H.b0 i B (by rw [hm0]; exact hi) e
    . rename_i hj
      have := idLow_iff e3 i _ hi hj
      cases this
    . cases e
  . exact hfr.block b (hmem.sz b hb) (fun ⟨i, q1, q2⟩ => hmem.st i b q1 q2 hb)
  . obtain ⟨j, q1, q2⟩ := ho id b (by rw [hgo1]; exact hi) hb
    have := H2.own0 j b q1 q2
    rw [hX] at this; exact this
  . have s1 := H2.s1
    have o0 := H2.own0
    rw [hX] at s1 o0
    rcases hb with hb | hb
    . exact s1 b hb
    . obtain ⟨j, q1, q2⟩ := hl b hb
      exact .inr (o0 j b q1 q2)
theorem mark_eq {b D : Nat} (h : mk1 b = { target := .collected D, args := #[] }) : b = D := by
 unfold mk1 at h
 injection h with h _
 injection h
theorem mks_one {d : Deferred} (h : isMk d = false) : mks [d] = [] ∧ nmk [d] = [d] := by simp [mks, nmk, h]
theorem one_mk {ds : List Deferred} {d : Deferred} (h : nmk ds = [d]) : isMk d = false := by
 have : d ∈ nmk ds := by rw [h]; simp
 have := (List.mem_filter.1 this).2
 simpa using this
theorem dfr_ret {C : Ctx} {gt go β own S a w} (H : Holds C gt go β own S a w) {P : Program} {fn : Func} {R : Ending -> World -> Prop} {d : Deferred} {fv : Fn} {cap : Array Value} {g : FuncId} {args : Array Value} (hdt : C.dt = [d]) (htgt : d.target = .fn fv cap)
 (hinv : ∀ w1, (invoke d.target d.args).run P w1 = .ok (.enter g args) w1) (hidle : ∀ w1, CallsDIn Fence.wide 0 P g args .returning w1 fun e u' w' => e = .returned (.tuple #[]) ∧ u' = .returning ∧ w' = w1)
 (hR : ∀ w3, Holds C gt go β own S { a with defers := [d] } w3 -> ∃ v, (results fn a.tmps).run P w3 = .ok v w3 ∧ R (.returned v) w3) : LeavesInM Fence.wide 0 P fn a.tmps R a.defers .returning w := by
  have hn : nmk a.defers = [d] := H.df.2.trans hdt
  refine leaves_one (by simp) a.defers w hn H.df.1.nd (fun m hm => ?_) (fun rest w1 g1 g2 g3 g4 g5 g6 g7 g8 g9 => ?_)
  . obtain ⟨D, e1, _, e3, _⟩ := H.df.1.at_ m hm
    exact ⟨D, e1, e3⟩
  . refine ⟨by simp, .inr ⟨fun e => by simp [Fence.wide] at e, fv, cap, g, args, htgt, hinv w1, fun _ _ => trivial, (hidle w1).mono ?_⟩⟩
    rintro e u' w' ⟨rfl, rfl, rfl⟩
    show LeavesInM Fence.wide 0 P fn a.tmps R rest .returning _
    refine leavesM rest _ g8 (fun m hm => g9 m hm) (fun w3 h1 h2 h3 h4 h5 => hR w3 ?_)
    refine H.off rfl (h1.trans g1) (h2.trans g2) (h3.trans g3) (h4.trans g4) (fun b => ?_) ?_
    . by_cases hb : mk1 b ∈ mks a.defers
      . right
        obtain ⟨D, e1, e2, _, e4, e5⟩ := H.df.1.at_ _ hb
        have := mark_eq e1
        subst this
        exact ⟨e2, e4, e5⟩
      . left
        rw [h5 b (fun hr => hb (g7 _ hr)), g5 b hb]
    . have := mks_one (one_mk hn)
      exact ⟨⟨by rw [this.1]; simp, fun m hm => by rw [this.1] at hm; cases hm⟩, by rw [this.2, hdt]⟩
theorem row1 {C : Ctx} {gt go β own S a w} (H : Holds C gt go β own S a w) {i : Nat} {c : SV} {B : Base} {b : Nat} (h : go i = some (.row [c])) (hB : β i = some B) (hb : B.blk = some b) :
 ∃ v T, w.heap[b]? = some (.cells #[v] T (0, 0)) ∧ own i = one1 b ∧ B.str = 1 ∧ B.cap = 1 := by
  obtain ⟨B', h1, b', arr, T, h2, h3, h4, h5, h6, h7⟩ := H.mem.obj i _ h
  rw [hB] at h1; cases h1
  rw [hb] at h2; cases h2
  simp only [relL] at h7
  obtain ⟨x, xs, e, _, rfl⟩ := h7
  have : arr = #[x] := by apply Array.toList_inj.1; simpa using e
  subst this
  exact ⟨x, T, h6, h5, h3, h4⟩
theorem set_cells {w : World} {b : Nat} {x y : Value} {T : TypeId} (h : w.heap[b]? = some (.cells #[x] T (0, 0))) :
 (w.setCell ⟨b, 0, none⟩ y).heap[b]? = some (.cells #[y] T (0, 0)) ∧ (∀ j, j ≠ b -> (w.setCell ⟨b, 0, none⟩ y).heap[j]? = w.heap[j]?) ∧ (w.setCell ⟨b, 0, none⟩ y).heap.size = w.heap.size := by
  refine ⟨?_, fun j hj => ?_, by simp [World.setCell]⟩
  . simp [World.setCell, Array.getElem?_modify, h]
  . simp only [World.setCell, Array.getElem?_modify]
    rw [if_neg (fun e => hj e.symm)]
theorem cell_of {w : World} {b : Nat} {x : Value} {T : TypeId} (h : w.heap[b]? = some (.cells #[x] T (0, 0))) : w.cell? ⟨b, 0, none⟩ = some x ∧ w.frozen? ⟨b, 0, none⟩ = false := by
 simp [World.cell?, World.frozen?, h]
theorem dfr_pan {C : Ctx} {gt go β own S a w} (H : Holds C gt go β own S a w) {P : Program} {fn : Func} {R : Ending -> World -> Prop} {d : Deferred} {fv : Fn} {cap : Array Value} {g : FuncId} {args : Array Value} (hdt : C.dt = [d]) (htgt : d.target = .fn fv cap)
 (hinv : ∀ w1, (invoke d.target d.args).run P w1 = .ok (.enter g args) w1) {i8 i9 : Nat} {B8 B9 : Base} {b8 b9 : Nat} {c8 c9 : SV} (ne : i8 ≠ i9) (h8 : go i8 = some (.row [c8])) (h9 : go i9 = some (.row [c9])) (hB8 : β i8 = some B8) (hb8 : B8.blk = some b8)
 (hB9 : β i9 = some B9) (hb9 : B9.blk = some b9) (k y : Int) (x : Value)
 (hpan : ∀ w1 v8 v9, w1.cell? ⟨b8, 0, none⟩ = some v8 -> w1.frozen? ⟨b8, 0, none⟩ = false -> w1.cell? ⟨b9, 0, none⟩ = some v9 -> w1.frozen? ⟨b9, 0, none⟩ = false -> b8 < w1.heap.size -> b9 < w1.heap.size -> ¬ b8 = b9 →
  CallsDIn Fence.wide 0 P g args (.panicking [{ v := x, recovered := false }]) w1 fun e u' w' => e = .returned (.tuple #[]) ∧ u' = .panicking [{ v := x, recovered := true }] ∧
   ∃ T, w' = ((w1.alloc (.cells #[.int .i64 k] T)).setCell ⟨b8, 0, none⟩ (.int .i64 k)).setCell ⟨b9, 0, none⟩ (.int .i64 y))
 (hR : ∀ w3, Holds C gt (upd (upd go i8 (some (.row [.int .i64 k]))) i9 (some (.row [.int .i64 y]))) β own S { a with defers := [d] } w3 -> ∃ v, (results fn a.tmps).run P w3 = .ok v w3 ∧ R (.returned v) w3) :
 LeavesInM Fence.wide 0 P fn a.tmps R a.defers (.panicking [{ v := x, recovered := false }]) w := by
  have hn : nmk a.defers = [d] := H.df.2.trans hdt
  have hone := mks_one (one_mk hn)
  refine leaves_one (by simp) a.defers w hn H.df.1.nd (fun m hm => ?_) (fun rest w1 g1 g2 g3 g4 g5 g6 g7 g8 g9 => ?_)
  . obtain ⟨D, e1, _, e3, _⟩ := H.df.1.at_ m hm
    exact ⟨D, e1, e3⟩
  . have offd : ∀ b, w1.heap[b]? = w.heap[b]? ∨ (C.w0.heap.size ≤ b ∧ ¬ S b ∧ ∀ id, (go id).isSome -> ¬ own id b) := fun b => by
     by_cases hb : mk1 b ∈ mks a.defers
     . right
       obtain ⟨D, e1, e2, _, e4, e5⟩ := H.df.1.at_ _ hb
       have := mark_eq e1
       subst this
       exact ⟨e2, e4, e5⟩
     . exact .inl (g5 b hb)
    have hrest : mks (d :: rest) = rest ∧ nmk (d :: rest) = [d] := by
     have h1 := all_mk g6
     have h2 := one_mk hn
     constructor
     . simp only [mks, List.filter_cons, h2]; exact h1
     . simp only [nmk, List.filter_cons, h2]
       show d :: nmk rest = [d]
       rw [g6]
    have H1 : Holds C gt go β own S { a with defers := d :: rest } w1 := by
     refine H.off rfl g1 g2 g3 g4 offd ⟨⟨by rw [hrest.1]; exact g8, fun m hm => ?_⟩, by rw [hrest.2, hdt]⟩
     rw [hrest.1] at hm
     obtain ⟨D, e1, e2, _, e4, e5⟩ := H.df.1.at_ m (g7 m hm)
     obtain ⟨D', e1', e3'⟩ := g9 m hm
     have := mark_eq (e1'.symm.trans e1)
     subst this
     exact ⟨D', e1, e2, e3', e4, e5⟩
    obtain ⟨v8, T8, q8, o8, st8, cp8⟩ := row1 H1 h8 hB8 hb8
    obtain ⟨v9, T9, q9, o9, st9, cp9⟩ := row1 H1 h9 hB9 hb9
    have hne : ¬ b8 = b9 := fun e => H1.mem.sep i8 i9 b8 ne (by simp [h8]) (by simp [h9]) (by rw [o8]; rfl) (by rw [o9, e]; rfl)
    have l8 := (Array.getElem?_eq_some_iff.1 q8).1
    have l9 := (Array.getElem?_eq_some_iff.1 q9).1
    refine ⟨by simp, .inr ⟨fun e => by simp [Fence.wide] at e, fv, cap, g, args, htgt, hinv w1, fun _ _ => trivial, (hpan w1 v8 v9 (cell_of q8).1 (cell_of q8).2 (cell_of q9).1 (cell_of q9).2 l8 l9 hne).mono ?_⟩⟩
    rintro e u' w' ⟨rfl, rfl, T, hw'⟩
    show LeavesInM Fence.wide 0 P fn a.tmps R rest (settle _) w'
    have hset : settle (.panicking [{ v := x, recovered := true }]) = .returning := by simp [settle]
    rw [hset]
    have H2 := H1.push (.cells #[.int .i64 k] T)
    generalize hW2 : w1.alloc (.cells #[.int .i64 k] T) = W2 at *
    have old : ∀ j, j < w1.heap.size -> W2.heap[j]? = w1.heap[j]? := fun j hj => by
     rw [<- hW2]; show (w1.heap.push _)[j]? = _; rw [Array.getElem?_push, if_neg (by omega)]
    have p8 := set_cells (y := .int .i64 k) ((old b8 l8).trans q8)
    have H3 := H2.set h8 (w' := W2.setCell ⟨b8, 0, none⟩ (.int .i64 k)) hB8 p8.2.2 (fun j hj => p8.2.1 j (fun e => hj (by rw [o8, e]; rfl))) rfl rfl rfl (o := .row [.int .i64 k])
     (fun _ => ⟨b8, #[.int .i64 k], T8, hb8, by simp [st8], cp8, o8, p8.1, by simp [relL, rel]⟩) none undef none (fun d s e => by cases e) (fun _ => .inl rfl)
    simp only [gtPut] at H3
    generalize hW3 : W2.setCell ⟨b8, 0, none⟩ (.int .i64 k) = W3 at *
    have h9' : upd go i8 (some (SO.row [.int .i64 k])) i9 = some (.row [c9]) := by rw [upd_other _ _ (Ne.symm ne)]; exact h9
    have p9 := set_cells (y := .int .i64 y) ((p8.2.1 b9 (fun e => hne e.symm)).trans ((old b9 l9).trans q9))
    have H4 := H3.set h9' (w' := W3.setCell ⟨b9, 0, none⟩ (.int .i64 y)) hB9 p9.2.2 (fun j hj => p9.2.1 j (fun e => hj (by rw [o9, e]; rfl))) rfl rfl rfl (o := .row [.int .i64 y])
     (fun _ => ⟨b9, #[.int .i64 y], T9, hb9, by simp [st9], cp9, o9, p9.1, by simp [relL, rel]⟩) none undef none (fun d s e => by cases e) (fun _ => .inl rfl)
    simp only [gtPut] at H4
    rw [<- hw'] at H4
    have hdf := H4.df
    refine leavesM rest w' g8 (fun m hm => ?_) (fun w3 h1 h2 h3 h4 h5 => hR w3 ?_)
    . obtain ⟨D, e1, _, e3, _⟩ := hdf.1.at_ m (by show m ∈ mks (d :: rest); rw [hrest.1]; exact hm)
      exact ⟨D, e1, e3⟩
    . refine H4.off rfl h1 h2 h3 h4 (fun b => ?_) ⟨⟨by rw [hone.1]; simp, fun m hm => by rw [hone.1] at hm; cases hm⟩, by rw [hone.2, hdt]⟩
      by_cases hb : mk1 b ∈ rest
      . right
        obtain ⟨D, e1, e2, _, e4, e5⟩ := hdf.1.at_ _ (show mk1 b ∈ mks (d :: rest) by rw [hrest.1]; exact hb)
        have := mark_eq e1
        subst this
        exact ⟨e2, e4, e5⟩
      . exact .inl (h5 b hb)
end Go.Sx
namespace Go.Sx
open Go
open Classical
def dfrB (rs : List RV) (L : LSpec) (T : TypeId) (y : Int) (i8 i9 : Nat) : Ex -> St -> Prop
 | .nrm, s => (retRT rs L).vc (gtOf s.t) (goOf s.o) [] fun _ _ _ _ => True
 | .ret, s => (retRT rs L).vc (gtOf s.t) (goOf s.o) [] fun _ _ _ _ => True
 | .exit _, _ => False
 | .pan v, s => match v with
   | .ifc T' (.agg [.int .i64 k]) => match goOf s.o i8, goOf s.o i9 with
     | some (.row [_]), some (.row [_]) => Sd (T' = T) ∧ (retRT rs L).vc (gtOf s.t) (goOf ((i9, some (.row [.int .i64 y])) :: (i8, some (.row [.int .i64 k])) :: s.o)) [] fun _ _ _ _ => True
     | _, _ => False
   | _ => False
def dfrA (P : Program) (G : Nat -> Option SV) (N : Nat) (S PS : STab) (LA : Nat -> LAnn) (JA : Nat -> JAnn) (mB : MC) (rs : List RV) (L : LSpec) (T : TypeId) (y : Int) (t8 t9 t19 : Nat) : Ex -> St -> Prop
 | .ret, s => (retRT rs L).vc (gtOf s.t) (goOf s.o) [] fun _ _ _ _ => True
 | .nrm, s => match look t8 s.t, look t9 s.t, look t19 s.t with
   | some (.ptr i8 0 0), some (.ptr i9 0 0), none => match Nat.beq i8 i9, Nat.blt i8 s.nx, Nat.blt i9 s.nx with
     | false, true, true => run ⟨P, G, N, none, s.nx, none, S, LA, JA, PS⟩ mB s (dfrB rs L T y i8 i9)
     | _, _, _ => False
   | _, _, _ => False
 | _, _ => False
theorem plain_ret {P : Program} {fn : Func} {R : Ending -> World -> Prop} {C : Ctx} (hdt : C.dt = []) {gt go β own S a w} (H : Holds C gt go β own S a w)
 (hR : ∀ w3, Holds C gt go β own S { a with defers := [] } w3 -> ∃ v, (results fn a.tmps).run P w3 = .ok v w3 ∧ R (.returned v) w3) : LeavesInM Fence.wide 0 P fn a.tmps R a.defers .returning w := by
  obtain ⟨hdf, hms⟩ := H.df
  rw [all_mk (hms.trans hdt)] at hdf
  refine leavesM a.defers w hdf.nd (fun d hd => ?_) (fun w2 h1 h2 h3 h4 h5 => ?_)
  . obtain ⟨D, e1, _, e3, _⟩ := hdf.at_ d hd
    exact ⟨D, e1, e3⟩
  . have H2 := H.undf h1 h2 h3 h4 hdf h5
    rw [hdt] at H2
    exact hR w2 H2
theorem spec_dfr {P : Program} {G : Nat -> Option SV} {f : FuncId} {fn : Func} {A1 A2 B : Code} {rid : Nat} {o1 o2 : Oper} {mA1 mA2 mB : MC} {rs : List RV} {L : LSpec} (hmix : P.follows .mixedOrders = true) (hf : P.funcs[f]? = some fn)
 (hb : fn.body = some (.seq A1 (.seq A2 (.seq (.region rid #[o1, o2] false) B)))) (hent : Enters P f) (h1 : McOk P A1 mA1) (h2 : McOk P A2 mA2) (hB : McOk P B mB) (hrs : RVsOk P fn.results.toList rs) (hN : L.args.length ≤ fn.ntmps) (hout : L.out.length = L.foot.length)
 {t8 t9 t19 : Nat} {g : FuncId} (ho1 : o1.op = .makeFunc (.func g) #[] #[.tmp t8, .tmp t9]) (hd1 : o1.dst = some t19) (hg1 : o1.guard = none) (ho2 : o2.op = .defer { callee := .value (.tmp t19), args := #[], argTypes := #[] }) (hd2 : o2.dst = none) (hg2 : o2.guard = none) (h19 : t19 < fn.ntmps)
 (hentg : Enters P g) (T : TypeId) (y : Int)
 (hidle : ∀ (b8 b9 : Nat) w1, CallsDIn Fence.wide 0 P g #[.pointer (some ⟨b8, 0, none⟩), .pointer (some ⟨b9, 0, none⟩)] .returning w1 fun e u' w' => e = .returned (.tuple #[]) ∧ u' = .returning ∧ w' = w1)
 (hpan : ∀ (b8 b9 : Nat) (k : Int) w1 v8 v9, w1.cell? ⟨b8, 0, none⟩ = some v8 -> w1.frozen? ⟨b8, 0, none⟩ = false -> w1.cell? ⟨b9, 0, none⟩ = some v9 -> w1.frozen? ⟨b9, 0, none⟩ = false -> b8 < w1.heap.size -> b9 < w1.heap.size -> ¬ b8 = b9 →
  CallsDIn Fence.wide 0 P g #[.pointer (some ⟨b8, 0, none⟩), .pointer (some ⟨b9, 0, none⟩)] (.panicking [{ v := .iface T (.agg #[.int .i64 k]), recovered := false }]) w1 fun e u' w' => e = .returned (.tuple #[]) ∧ u' = .panicking [{ v := .iface T (.agg #[.int .i64 k]), recovered := true }] ∧
   ∃ T', w' = ((w1.alloc (.cells #[.int .i64 k] T')).setCell ⟨b8, 0, none⟩ (.int .i64 k)).setCell ⟨b9, 0, none⟩ (.int .i64 y))
 {S : STab} (hS : SOk P G S) (LA : Nat -> LAnn) (JA : Nat -> JAnn) {PS : STab} (hPS : SOkE panicked P G PS)
 (h : run ⟨P, G, fn.ntmps, none, L.foot.length, none, S, LA, JA, PS⟩ (.seq mA1 mA2) (entry L) (dfrA P G fn.ntmps S PS LA JA mB rs L T y t8 t9 t19)) : LSpec.ok P G f L := by
  refine ⟨hent, hout, fun β own S0 w vs hβ hmem hargs hgl => ?_⟩
  have hlen := relL_length _ _ hargs
  simp at hlen
  let C : Ctx := { P := P, G := G, N := fn.ntmps, rnd := none, m0 := L.foot.length, Y := none, S := S, L := LA, J := JA, PS := PS, sok := hS, psok := hPS, w0 := w, X0 := owned L.go0 own, S0 := S0, β0 := β }
  have hgo : goOf (idxd (somes L.foot) 0) = L.go0 := funext fun i => by rw [goOf_somes]; simp [LSpec.go0]
  have H0 : HoldsS C (entry L) β own S0 { tmps := vs ++ Array.replicate (fn.ntmps - vs.size) undef, defers := [] } w := by
   refine ⟨⟨fun t s e => ?_, by simp only [entry]; rw [hgo]; exact hmem, Fr.refl _ _, fun id b h1 h2 => ?_, fun _ e => e, fun _ e => .inl e, ?_, ⟨⟨by simp [mks], fun d hd => by simp [mks] at hd⟩, rfl⟩, hgl⟩, hβ, Nat.le_refl _, fun i B _ e => e⟩
   . simp only [entry, gtOf, look_idxd, Nat.zero_le, if_true, Nat.sub_zero] at e
     rw [getN_eq] at e
     obtain ⟨y, h1, h2⟩ := relL_get (i := t) _ _ _ hargs e
     have ht : t < vs.size := by
      have := (List.getElem?_eq_some_iff.1 h1).1
      simpa using this
     have : (vs ++ Array.replicate (fn.ntmps - vs.size) undef).getD t undef = y := by
      rw [Array.getD_eq_getD_getElem?, Array.getElem?_append_left ht]
      simp at h1
      rw [h1]; rfl
     simp only [this]
     exact h2
   . left
     simp only [entry] at h1
     rw [hgo] at h1
     exact ⟨id, h1, h2⟩
   . show (vs ++ Array.replicate (fn.ntmps - vs.size) undef).size = fn.ntmps
     simp; omega
  simp only [run] at h
  refine callsIn_wide.1 (callsIn_of_wp_marks (F := Fence.wide) (n := 0) hf hb trivial (wpIn_seq (F := Fence.wide) (wpIn_mono (F := Fence.wide) (run_ok (C := C) hmix h1 rfl (fun y e => by cases e) h H0) ?_)) rfl)
  have early : ∀ s' β1 own1 S1 a' w', ((retRT rs L).vc (gtOf s'.t) (goOf s'.o) [] fun _ _ _ _ => True) -> HoldsS C s' β1 own1 S1 a' w' -> bodyPostM Fence.wide 0 P fn (fun e w' => ∃ v β' own' S', e = .returned v ∧ Keeps L.foot.length β w S0 β' w' S' ∧ (∀ id, L.foot.length + L.new.length ≤ id -> β' id = none) ∧
   rel β' w' S' L.res v ∧ MemOk β' own' S' L.go1 w' ∧ Fr (owned L.go0 own) w w' ∧ (∀ id b, (L.go1 id).isSome -> own' id b -> owned L.go0 own b ∨ w.heap.size ≤ b) ∧ (∀ b, S' b -> S0 b ∨ owned L.go0 own b ∨ w.heap.size ≤ b)) .ret a' w' := by
    intro s' β1 own1 S1 a' w' hk H
    refine plain_ret (C := C) rfl H.h (fun w3 H3 => ?_)
    obtain ⟨v, e, β', own', S', q⟩ := ret_fin (C := C) (own := own) hrs hout rfl rfl rfl hmem hk (a' := { a' with defers := [] }) (w' := w3) ⟨H3, H.fresh, H.m0, H.b0⟩
    exact ⟨v, e, v, β', own', S', rfl, q⟩
  intro e a1 w1 hp
  cases e with
  | exit i => obtain ⟨s1, β1, own1, S1, hk, H1⟩ := hp; exact hk.elim
  | goto l => exact hp.elim
  | panic c => obtain ⟨s1, β1, own1, S1, v, x, _, hk, _⟩ := hp; exact hk.elim
  | outgrown => exact hp.elim
  | ret => obtain ⟨s1, β1, own1, S1, hk, H1⟩ := hp; exact early _ _ _ _ _ _ hk H1
  | normal =>
  obtain ⟨s1, β1, own1, S1, hk, H1⟩ := hp
  refine wpIn_seq (F := Fence.wide) (wpIn_mono (F := Fence.wide) (run_ok (C := C) hmix h2 rfl (fun y e => by cases e) hk H1) ?_)
  intro e a2 w2 hp
  cases e with
  | exit i => obtain ⟨s2, β2, own2, S2, hk, H2⟩ := hp; exact hk.elim
  | goto l => exact hp.elim
  | panic c => obtain ⟨s2, β2, own2, S2, v, x, _, hk, _⟩ := hp; exact hk.elim
  | outgrown => exact hp.elim
  | ret => obtain ⟨s2, β2, own2, S2, hk, H2⟩ := hp; exact early _ _ _ _ _ _ hk H2
  | normal =>
  obtain ⟨s2, β2, own2, S2, hk, H2⟩ := hp
  simp only [dfrA] at hk
  split at hk
  case h_2 => exact hk.elim
  rename_i i8 i9 e8 e9 e19
  split at hk
  case h_2 => exact hk.elim
  rename_i q1 q2 q3
  have ne : i8 ≠ i9 := fun e => by rw [e] at q1; simp at q1
  have lt8 : i8 < s2.nx := by rw [Nat.blt_eq] at q2; exact q2
  have lt9 : i9 < s2.nx := by rw [Nat.blt_eq] at q3; exact q3
  have r8 := H2.h.tm t8 _ e8
  have r9 := H2.h.tm t9 _ e9
  simp only [rel] at r8 r9
  obtain ⟨B8, b8, hB8, hb8, v8⟩ := r8
  obtain ⟨B9, b9, hB9, hb9, v9⟩ := r9
  simp only [Nat.zero_mul, Nat.zero_add] at v8 v9
  let d : Deferred := { target := .fn (.func g) #[.pointer (some ⟨b8, 0, none⟩), .pointer (some ⟨b9, 0, none⟩)], args := #[] ++ #[] }
  have hinv : ∀ w1, (invoke d.target d.args).run P w1 = .ok (.enter g #[.pointer (some ⟨b8, 0, none⟩), .pointer (some ⟨b9, 0, none⟩)]) w1 := fun w1 => by
   simp only [invoke, d]
   have := hentg #[.pointer (some ⟨b8, 0, none⟩), .pointer (some ⟨b9, 0, none⟩)] w1
   simpa using this
  refine wpIn_seq (F := Fence.wide) (wpIn_region (F := Fence.wide) ?_)
  have hr1 : (execOp a2.eval o1).run P w2 = .ok (.value (.func (.func g) #[] #[.pointer (some ⟨b8, 0, none⟩), .pointer (some ⟨b9, 0, none⟩)])) w2 := by
   simp only [execOp, ho1]
   simp [Instr.makeFunc, Act.eval, v8, v9]
  have hr2 : (execOp (a2.put o1.dst (.func (.func g) #[] #[.pointer (some ⟨b8, 0, none⟩), .pointer (some ⟨b9, 0, none⟩)])).eval o2).run P w2 = .ok (.defer d) w2 := by
   have hsz : t19 < a2.tmps.size := by rw [H2.h.n]; exact h19
   have hv : (a2.put (some t19) (.func (.func g) #[] #[.pointer (some ⟨b8, 0, none⟩), .pointer (some ⟨b9, 0, none⟩)])).eval (.tmp t19) = .func (.func g) #[] #[.pointer (some ⟨b8, 0, none⟩), .pointer (some ⟨b9, 0, none⟩)] := by
    show (a2.put (some t19) _).tmps.getD t19 undef = _
    rw [getD_put hsz, if_pos rfl]
   simp only [execOp, ho2, hd1]
   simp [resolve, Deferred.ofValue, hv, d]
  have hw1 : ∀ t, Region.wanted o1 t = true := fun t => by unfold Region.wanted; rw [hg1]
  have hw2 : ∀ t, Region.wanted o2 t = true := fun t => by unfold Region.wanted; rw [hg2]
  show wpOpsIn Fence.wide 0 P #[o1, o2] _ [0, 1] a2 w2
  simp only [wpOpsIn, show #[o1, o2][0]? = some o1 from rfl, show #[o1, o2][1]? = some o2 from rfl, hw1, hw2, if_true]
  refine ⟨fun _ _ => trivial, ?_⟩
  show Oper.uponIn Fence.wide 0 P o1 a2 _ _ ((execOp a2.eval o1).run P w2)
  rw [hr1]
  refine ⟨fun _ _ => trivial, ?_⟩
  show Oper.uponIn Fence.wide 0 P o2 _ _ _ ((execOp (a2.put o1.dst _).eval o2).run P w2)
  rw [hr2]
  show B.wpIn Fence.wide 0 P _ ({ a2.put o1.dst (.func (.func g) #[] #[.pointer (some ⟨b8, 0, none⟩), .pointer (some ⟨b9, 0, none⟩)]) with defers := d :: (a2.put o1.dst (.func (.func g) #[] #[.pointer (some ⟨b8, 0, none⟩), .pointer (some ⟨b9, 0, none⟩)])).defers }.put o2.dst undef) w2
  rw [hd1, hd2]
  let C' : Ctx := { C with m0 := s2.nx, dt := [d], β0 := β2 }
  have hdm : isMk d = false := rfl
  have hnm : nmk a2.defers = [] := H2.h.df.2
  have HB : HoldsS C' s2 β2 own2 S2 { a2.put (some t19) (.func (.func g) #[] #[.pointer (some ⟨b8, 0, none⟩), .pointer (some ⟨b9, 0, none⟩)]) with defers := d :: (a2.put (some t19) (.func (.func g) #[] #[.pointer (some ⟨b8, 0, none⟩), .pointer (some ⟨b9, 0, none⟩)])).defers } w2 := by
   have hsz : t19 < a2.tmps.size := by rw [H2.h.n]; exact h19
   have e1 : mks (d :: a2.defers) = mks a2.defers := by simp [mks, hdm]
   have e2 : nmk (d :: a2.defers) = [d] := by
    have : nmk (d :: a2.defers) = d :: nmk a2.defers := by simp [nmk, hdm]
    rw [this, hnm]
   refine ⟨⟨fun t s e => ?_, H2.h.mem, H2.h.fr, H2.h.own0, H2.h.s0, H2.h.s1, by rw [<- H2.h.n]; exact put_size _ _ _, ⟨?_, ?_⟩, H2.h.gl⟩, H2.fresh, Nat.le_refl _, fun i B _ e => e⟩
   . show rel β2 w2 S2 s ((a2.put (some t19) _).tmps.getD t undef)
     rw [getD_put hsz, if_neg (fun e' => by subst e'; simp only [gtOf] at e; rw [e19] at e; cases e)]
     exact H2.h.tm t s e
   . show DfOk _ _ _ _ (mks (d :: a2.defers)) _
     rw [e1]; exact H2.h.df.1
   . exact e2
  refine wpIn_mono (F := Fence.wide) (run_ok (C := C') hmix hB rfl (fun y e => by cases e) hk HB) ?_
  have back : ∀ {s3 : St} {β3 own3 S3 a5 w5}, HoldsS C' s3 β3 own3 S3 a5 w5 -> ∀ {s6 : St} {w6}, s6.nx = s3.nx -> Holds C' (gtOf s6.t) (goOf s6.o) β3 own3 S3 { a5 with defers := [d] } w6 -> HoldsS C s6 β3 own3 S3 { a5 with defers := [] } w6 := by
   intro s3 β3 own3 S3 a5 w5 H3 s6 w6 hnx H6
   have hm2 : C.m0 ≤ s2.nx := H2.m0
   have hm3 : s2.nx ≤ s3.nx := H3.m0
   exact ⟨⟨H6.tm, H6.mem, H6.fr, H6.own0, H6.s0, H6.s1, H6.n, ⟨⟨by simp [mks], fun m hm => by simp [mks] at hm⟩, rfl⟩, H6.gl⟩, by rw [hnx]; exact H3.fresh, by rw [hnx]; omega, fun i B hi e => H2.b0 i B hi (H3.b0 i B (Nat.lt_of_lt_of_le hi hm2) e)⟩
  have late : ∀ {s3 : St} {β3 own3 S3 a5 w5}, HoldsS C' s3 β3 own3 S3 a5 w5 -> ((retRT rs L).vc (gtOf s3.t) (goOf s3.o) [] fun _ _ _ _ => True) -> LeavesInM Fence.wide 0 P fn a5.tmps (fun e w' => ∃ v β' own' S', e = .returned v ∧ Keeps L.foot.length β w S0 β' w' S' ∧ (∀ id, L.foot.length + L.new.length ≤ id -> β' id = none) ∧
   rel β' w' S' L.res v ∧ MemOk β' own' S' L.go1 w' ∧ Fr (owned L.go0 own) w w' ∧ (∀ id b, (L.go1 id).isSome -> own' id b -> owned L.go0 own b ∨ w.heap.size ≤ b) ∧ (∀ b, S' b -> S0 b ∨ owned L.go0 own b ∨ w.heap.size ≤ b)) a5.defers .returning w5 := by
    intro s3 β3 own3 S3 a5 w5 H3 hk3
    refine dfr_ret (C := C') H3.h rfl rfl hinv (hidle b8 b9) (fun w6 H6 => ?_)
    obtain ⟨v, e, β', own', S', q⟩ := ret_fin (C := C) (own := own) hrs hout rfl rfl rfl hmem hk3 (back H3 (s6 := s3) rfl H6)
    exact ⟨v, e, v, β', own', S', rfl, q⟩
  intro e a5 w5 hp
  cases e with
  | exit i => obtain ⟨s3, β3, own3, S3, hk3, H3⟩ := hp; exact hk3.elim
  | goto l => exact hp.elim
  | outgrown => exact hp.elim
  | ret => obtain ⟨s3, β3, own3, S3, hk3, H3⟩ := hp; exact late H3 hk3
  | normal => obtain ⟨s3, β3, own3, S3, hk3, H3⟩ := hp; exact late H3 hk3
  | panic c =>
    obtain ⟨s3, β3, own3, S3, v, x, rfl, hk3, H3, hx⟩ := hp
    simp only [dfrB] at hk3
    split at hk3
    case h_2 => exact hk3.elim
    rename_i T' k
    split at hk3
    case h_2 => exact hk3.elim
    rename_i c8 c9 g8 g9
    obtain ⟨⟨rfl⟩, hk3⟩ := hk3
    simp only [rel, relL] at hx
    obtain ⟨yy, rfl, xs, rfl, x1, xs1, e1, rfl, e2⟩ := hx
    have hxs : xs = #[.int .i64 k] := by apply Array.toList_inj.1; rw [e1, e2]
    subst hxs
    obtain ⟨B8', hB8', _⟩ := H3.h.mem.obj i8 _ g8
    obtain ⟨B9', hB9', _⟩ := H3.h.mem.obj i9 _ g9
    have c1 := H3.b0 i8 B8' lt8 hB8'
    have c2 := H3.b0 i9 B9' lt9 hB9'
    simp only [C'] at c1 c2
    rw [hB8] at c1; cases c1
    rw [hB9] at c2; cases c2
    refine dfr_pan (C := C') H3.h rfl rfl hinv ne g8 g9 hB8' hb8 hB9' hb9 k y _ (hpan b8 b9 k) (fun w6 H6 => ?_)
    have H6' := back H3 (s6 := ⟨s3.t, (i9, some (.row [.int .i64 y])) :: (i8, some (.row [.int .i64 k])) :: s3.o, s3.nx⟩) rfl (by simp only [goOf_cons]; exact H6)
    obtain ⟨v, e, β', own', S', q⟩ := ret_fin (C := C) (own := own) hrs hout rfl rfl rfl hmem hk3 H6'
    exact ⟨v, e, v, β', own', S', rfl, q⟩
theorem fn_dfr {P : Program} {G : Nat -> Option SV} {f : FuncId} {fn : Func} {A1 A2 B : Code} {rid : Nat} {o1 o2 : Oper} {mA1 mA2 mB : MC} {rs : List RV} {L : LSpec} (hmix : P.follows .mixedOrders = true) (hf : P.funcs[f]? = some fn)
 {N : Nat} (hNn : fn.ntmps = N) (hb : fn.body = some (.seq A1 (.seq A2 (.seq (.region rid #[o1, o2] false) B)))) (hent : Enters P f) (h1 : McOk P A1 mA1) (h2 : McOk P A2 mA2) (hB : McOk P B mB) (hrs : RVsOk P fn.results.toList rs) (hN : L.args.length ≤ N) (hout : L.out.length = L.foot.length)
 {t8 t9 t19 : Nat} {g : FuncId} (ho1 : o1.op = .makeFunc (.func g) #[] #[.tmp t8, .tmp t9]) (hd1 : o1.dst = some t19) (hg1 : o1.guard = none) (ho2 : o2.op = .defer { callee := .value (.tmp t19), args := #[], argTypes := #[] }) (hd2 : o2.dst = none) (hg2 : o2.guard = none) (h19 : t19 < N)
 (hentg : Enters P g) (T : TypeId) (y : Int)
 (hidle : ∀ (b8 b9 : Nat) w1, CallsDIn Fence.wide 0 P g #[.pointer (some ⟨b8, 0, none⟩), .pointer (some ⟨b9, 0, none⟩)] .returning w1 fun e u' w' => e = .returned (.tuple #[]) ∧ u' = .returning ∧ w' = w1)
 (hpan : ∀ (b8 b9 : Nat) (k : Int) w1 v8 v9, w1.cell? ⟨b8, 0, none⟩ = some v8 -> w1.frozen? ⟨b8, 0, none⟩ = false -> w1.cell? ⟨b9, 0, none⟩ = some v9 -> w1.frozen? ⟨b9, 0, none⟩ = false -> b8 < w1.heap.size -> b9 < w1.heap.size -> ¬ b8 = b9 →
  CallsDIn Fence.wide 0 P g #[.pointer (some ⟨b8, 0, none⟩), .pointer (some ⟨b9, 0, none⟩)] (.panicking [{ v := .iface T (.agg #[.int .i64 k]), recovered := false }]) w1 fun e u' w' => e = .returned (.tuple #[]) ∧ u' = .panicking [{ v := .iface T (.agg #[.int .i64 k]), recovered := true }] ∧
   ∃ T', w' = ((w1.alloc (.cells #[.int .i64 k] T')).setCell ⟨b8, 0, none⟩ (.int .i64 k)).setCell ⟨b9, 0, none⟩ (.int .i64 y))
 {S : STab} (hS : SOk P G S) (LA : Nat -> LAnn) (JA : Nat -> JAnn) {PS : STab} (hPS : SOkE panicked P G PS)
 (h : fTs (idxd L.args 0) fun t => fOs (idxd (somes L.foot) 0) fun o => fNat L.foot.length fun nx => run ⟨P, G, N, none, nx, none, S, LA, JA, PS⟩ (.seq mA1 mA2) ⟨t, o, nx⟩ (dfrA P G N S PS LA JA mB rs L T y t8 t9 t19)) : LSpec.ok P G f L := by
  subst hNn
  rw [fTs_eq, fOs_eq, fNat_eq] at h
  exact spec_dfr hmix hf hb hent h1 h2 hB hrs hN hout ho1 hd1 hg1 ho2 hd2 hg2 h19 hentg T y hidle hpan hS LA JA hPS h
end Go.Sx
namespace Go.Proofs.YtlahifihaeafbaaGreatDoor
open Go Go.Sx
def c2401 : MC := .reg [oo 5 (.box (.t 1)),oo 8 (.alloc [(kz 0)]),oo 9 (.alloc [(kz 0)])]
def c2402 : MC := .seq (.reg [om 12 0,om 13 2,om 14 3,oo 15 (.call (.k (.fn (.func 62) [] [])) [(.t 12),(.t 13),(.t 14)]),om 10 15]) (.seq (.reg [om 16 10,oo 17 (.cmp .neq (.t 16) (ki 0))]) (.cond (.t 17) (.seq (.reg [om 18 10,o none (.st (some 1) (.t 8) (ki 0)),o none (.st (some 1) (.t 9) (.t 18))]) (.ret)) (.skip)))
def c2403 : MC := .seq (.reg [oo 20 (.ld (some 2) (.t 5)),om 21 0,oo 22 (.mkm),oo 23 (.bld [(.val (.slice none 0 0)),(.val (.slice none 0 0)),(.val (.slice none 0 0)),(.val (.map none))] [(0,2,(.t 20)),(2,1,(.t 21)),(3,1,(.t 22))]),oo 24 (.box (.t 23)),om 11 24]) (.seq (.reg [om 25 11,om 26 2,om 27 3,oo 28 (.pcall (.k (.fn (.func 64) [] [])) [(.t 25),(.t 26),(.t 27)])]) (.seq (.seq (.reg [om 29 11,oo 30 (.call (.k (.fn (.func 65) [] [])) [(.t 29)]),oo 31 (.not (.t 30))]) (.cond (.t 31) (.reg [oo 32 (.fld 0 (.t 5)),oo 33 (.ld none (.t 32)),oo 34 (.lenS (.t 33)),oo 35 (.bld [(kz 0)] [(0,1,(.t 34))]),oo 36 (.mki 109 (.t 35)),o none (.pnc (.t 36))]) (.skip))) (.seq (.reg [o none (.st (some 1) (.t 8) (ki 0)),o none (.st (some 1) (.t 9) (ki 0))]) (.ret))))
attribute [local irreducible] Go.Sx.agetD Go.Sx.aget walkGo orderedF ordGo checkA argsF
def acceptF (l : List HI) (a : AL) (w v : Int) : Int × Int :=
 if argsF l w v ≠ 0 then (0, argsF l w v)
 else match walkGo l w v a.L a.fr [] 0 with
  | .inl k => (k, 191)
  | .inr _ => if orderedF ⟨a.L, a.fr, l⟩ = true then (0, 0) else ((a.L.length : Int), 191)
theorem ac_1 {l a w v} (h : ¬ argsF l w v = 0) : acceptF l a w v = (0, argsF l w v) := by unfold acceptF; rw [if_pos h]
theorem ac_2 {l a w v k} (h : ¬ ¬ argsF l w v = 0) (h2 : walkGo l w v a.L a.fr [] 0 = .inl k) : acceptF l a w v = (k, 191) := by unfold acceptF; rw [if_neg h, h2]
theorem ac_3 {l a w v es} (h : ¬ ¬ argsF l w v = 0) (h2 : walkGo l w v a.L a.fr [] 0 = .inr es) (h3 : orderedF ⟨a.L, a.fr, l⟩ = true) : acceptF l a w v = (0, 0) := by
 unfold acceptF; rw [if_neg h, h2]; exact if_pos h3
theorem ac_4 {l a w v es} (h : ¬ ¬ argsF l w v = 0) (h2 : walkGo l w v a.L a.fr [] 0 = .inr es) (h3 : orderedF ⟨a.L, a.fr, l⟩ = false) : acceptF l a w v = ((a.L.length : Int), 191) := by
 unfold acceptF; rw [if_neg h, h2]; exact if_neg (by rw [h3]; decide)
theorem a1 {p : Int × Int} {a b : Int} (h : p = (a, b)) : p.1 = a := by rw [h]
theorem a2 {p : Int × Int} {a b : Int} (h : p = (a, b)) : p.2 = b := by rw [h]
theorem inr_of {T : Int ⊕ HM} (h : ¬ ∃ k, T = .inl k) : ∃ es, T = .inr es := by
 cases T with
 | inl k => exact absurd ⟨k, rfl⟩ h
 | inr es => exact ⟨es, rfl⟩
theorem ps24 : SOkE panicked Tryz.prog GG (tabS [(64, S64p)]) := by
 intro f args k gt go R v os n h
 simp only [tabS, Sx.look] at h
 cases e : Nat.beq 64 f with
 | true =>
   rw [e] at h
   have := Nat.eq_of_beq_eq_true e
   subst this
   exact t64p _ _ _ _ _ _ _ _ h
 | false => rw [e] at h; cases h
def L24 (l : List HI) (a : AL) (w v : Int) : LSpec := ⟨[hiS l, .agg a.cells, kz w, kz v], [], [], [], .tup [kz (acceptF l a w v).1, kz (acceptF l a w v).2]⟩
set_option maxHeartbeats 8000000 in
theorem s24 (l : List HI) (a : AL) (w v : Int) (hL : a.L.length ≤ 1000000) (hF : a.fr.length ≤ 1000000) : LSpec.ok Tryz.prog GG 24 (L24 l a w v) := by
 refine fn_dfr (rs := [.c 8 none, .c 9 none]) (N := 37) mix Tryz.func24 (by kernel_rfl) rfl (enters_of Tryz.func24 (by kernel_rfl) rfl) (comp_ok (mc := c2401) (by kernel_rfl) trivial) (comp_ok (mc := c2402) (by kernel_rfl) ⟨trivial, ⟨trivial, ⟨⟨trivial, trivial⟩, trivial⟩⟩⟩)
  (comp_ok (mc := c2403) (by kernel_rfl) ⟨trivial, ⟨trivial, ⟨⟨trivial, ⟨trivial, trivial⟩⟩, ⟨trivial, trivial⟩⟩⟩⟩) (cRVs_ok (by kernel_rfl)) (Nat.le_of_ble_eq_true rfl) rfl rfl rfl rfl rfl rfl rfl (by decide) (enters_of Tryz.func63 (by kernel_rfl) rfl) 109 191 rec_idle' rec_pan'
  (Tab.ok (l := [(62, S62), (64, S64), (65, S65)]) ⟨t62, t64, t65, trivial⟩) noL noJ ps24 ?_
 repeat' ((conv => whnf); first
  | exact trivial
  | with_reducible first | refine aj ?_ | refine ai rfl ?_ | refine ai ⟨rfl, rfl⟩ ?_
  | ((with_reducible refine ai ?_ ?_); focus exact w3)
  | ((with_reducible intro h); first | refine Exists.elim (p := fun k1 : Int => _ = Sum.inl k1) h (fun k1 hk1 => ?_) | refine Exists.elim (inr_of h) (fun k1 hk1 => ?_))
  | refine Exists.intro (∃ k1 : Int, walkGo l w v a.L a.fr [] 0 = .inl k1) ?_
  | refine exI (x := MPC) trivial ?_
  | refine exI (x := ULift.up _) (by with_reducible assumption) ?_
  | with_reducible first | refine And.intro (Sd.mk (p := ndk _ ∧ _) ⟨by simp [ndk], by assumption⟩) ?_ | refine And.intro (Sd.mk (p := _ ≤ 1000000) (by assumption)) ?_ | refine And.intro ?_ ?_ | refine asL_mk ?_ | refine exI (i64_in (by omega) (by omega)) ?_
  | refine exI (x := ULift.up _) (Eq.refl _) ?_
  | refine exI (x := ULift.up _) ⟨rfl, by omega, Eq.refl _⟩ ?_
  | exact nx
  | ((with_reducible intro h); try dsimp only at h))
 all_goals (refine Sd.mk ?_); all_goals (try simp only [List.length_map])
 all_goals first
  | exact a1 (ac_1 (by assumption))
  | exact a2 (ac_1 (by assumption))
  | exact a1 (ac_2 (by assumption) (by assumption))
  | exact a2 (ac_2 (by assumption) (by assumption))
  | exact a1 (ac_3 (by assumption) (by assumption) (nf (by assumption)))
  | exact a2 (ac_3 (by assumption) (by assumption) (nf (by assumption)))
  | exact a1 (ac_4 (by assumption) (by assumption) (nt (by assumption)))
  | exact a2 (ac_4 (by assumption) (by assumption) (nt (by assumption)))
end Go.Proofs.YtlahifihaeafbaaGreatDoor
namespace Go.Proofs.YtlahifihaeafbaaGreatDoor
open Go Go.Sx
def c21 : MC := .seq (.reg [oo 2 (.mv (ki 0)),oo 3 (.mv (ki 0)),oo 4 (.mv (ki 0))]) (.seq (.seq (.reg [om 7 0,oo 8 (.call (.k (.fn (.func 18) [] [])) [(.t 7)]),oo 9 (.cmp .neq (.t 8) (ki 0))]) (.cond (.t 9) (.seq (.reg [oo 2 (.mv (ki 0)),oo 3 (.mv (ki 0)),oo 4 (.mv (ki 190))]) (.ret)) (.skip))) (.seq (.reg [om 11 0,oo 12 (.call (.k (.fn (.func 60) [] [])) [(.t 11)]),om 10 12,oo 13 (.ext 0 (.t 10)),oo 14 (.ext 1 (.t 10)),oo 5 (.alloc [(kz 0),(kz 0)]),oo 6 (.alloc [(kz 0),(kz 0)]),o none (.st (some 2) (.t 5) (.t 13)),o none (.st (some 2) (.t 6) (.t 14))]) (.seq (.drw [oo 15 (.ixr 2 1 (.t 5) (ki 0)),oo 16 (.ld none (.t 15)),oo 17 (.ixr 2 1 (.t 5) (ki 1)),oo 18 (.ld none (.t 17)),om 2 16,om 3 18,oo 4 (.mv (ki 0))] [[],[0],[],[2],[1,0,1],[3,4,0,1,2,3,4],[5,0,1,2,3,4,5]]) (.ret))))
theorem k21 : FnOk Tryz.prog 21 19 c21 [.t 2,.t 3,.t 4] := fk Tryz.func21 ⟨tv,⟨⟨tv,⟨⟨tv,tv⟩,tv⟩⟩,⟨tv,⟨tv,tv⟩⟩⟩⟩
attribute [local irreducible] checkA needsF
def pressF (l : List HI) : Int × Int × Int := if checkA l ≠ 0 then (0, 0, 190) else ((needsF l).n0, (needsF l).n1, 0)
theorem chkA_len {l : List HI} (h : ¬ ¬ checkA l = 0) : l.length ≤ 4000 := by
 have h := Classical.not_not.1 h
 unfold checkA at h
 split at h
 . next h1 => simp only [codeA, Bool.and_eq_true, decide_eq_true_eq] at h1; exact h1.1.2
 . cases h
noncomputable def L21 (l : List HI) : LSpec := ⟨[.rd (.sl 15 (l.map HI.pv))], [], [], [], .tup [kz (pressF l).1, kz (pressF l).2.1, kz (pressF l).2.2]⟩
set_option maxHeartbeats 4000000 in
theorem s21 (l : List HI) : LSpec.ok Tryz.prog GG 21 (L21 l) := by
 refine fn_spec mix k21 _ rfl rfl (Tab.ok (l := [(18, S18), (60, S60)]) ⟨t18, t60, trivial⟩) noL noJ ?_
 repeat' ((conv => whnf); first
  | exact trivial
  | with_reducible first | refine aj ?_ | refine ai rfl ?_ | refine ai ⟨rfl, rfl⟩ ?_
  | ((with_reducible refine ai ?_ ?_); focus exact w3)
  | with_reducible first | refine And.intro (Sd.mk (p := _ ≤ 4000) (chkA_len (by with_reducible assumption))) ?_ | refine And.intro ?_ ?_ | refine asL_mk ?_ | refine exI (i64_in (by omega) (by omega)) ?_
  | refine exI (x := ULift.up _) (Eq.refl _) ?_
  | refine exI (x := ULift.up _) ⟨rfl, by omega, Eq.refl _⟩ ?_
  | exact ny
  | ((with_reducible intro h); try dsimp only at h))
 all_goals (refine Sd.mk ?_; simp only [pressF]; simp_all)
end Go.Proofs.YtlahifihaeafbaaGreatDoor
namespace Go.Proofs.YtlahifihaeafbaaGreatDoor
open Go Go.Sx
def c47 : MC := .seq (.reg [oo 0 (.mv (.k (.val (.slice none 0 0))))]) (.seq (.reg [oo 1 (.bld [(kz 0),(kz 0),(kz 0),(kz 0),(kz 0),(kz 0),(kz 0),(kz 0),(kz 0),(.int .u32 0),(.int .u32 0),(.int .u32 0),(.int .u32 0),(.int .u32 0),(.int .u32 0)] [(0,1,(ki 1)),(9,1,(.k (.int .u32 1)))]),oo 2 (.bld [(kz 0),(kz 0),(kz 0),(kz 0),(kz 0),(kz 0),(kz 0),(kz 0),(kz 0),(.int .u32 0),(.int .u32 0),(.int .u32 0),(.int .u32 0),(.int .u32 0),(.int .u32 0)] [(0,1,(ki 1)),(4,1,(ki 1)),(9,1,(.k (.int .u32 2)))]),oo 3 (.bld [(kz 0),(kz 0),(kz 0),(kz 0),(kz 0),(kz 0),(kz 0),(kz 0),(kz 0),(.int .u32 0),(.int .u32 0),(.int .u32 0),(.int .u32 0),(.int .u32 0),(.int .u32 0)] [(0,1,(ki 3)),(1,1,(ki 1)),(4,1,(ki 2)),(6,1,(ki 1))]),oo 4 (.bld [(kz 0),(kz 0),(kz 0),(kz 0),(kz 0),(kz 0),(kz 0),(kz 0),(kz 0),(.int .u32 0),(.int .u32 0),(.int .u32 0),(.int .u32 0),(.int .u32 0),(.int .u32 0)] [(0,1,(ki 20)),(5,1,(ki 2)),(3,1,(ki 32)),(8,1,(ki 4))]),oo 5 (.bld [(kz 0),(kz 0),(kz 0),(kz 0),(kz 0),(kz 0),(kz 0),(kz 0),(kz 0),(.int .u32 0),(.int .u32 0),(.int .u32 0),(.int .u32 0),(.int .u32 0),(.int .u32 0)] [(0,1,(ki 40)),(8,1,(ki 1))]),oo 6 (.bsl 15 5 [(kz 0),(kz 0),(kz 0),(kz 0),(kz 0),(kz 0),(kz 0),(kz 0),(kz 0),(.int .u32 0),(.int .u32 0),(.int .u32 0),(.int .u32 0),(.int .u32 0),(.int .u32 0)] [(0,(.t 1)),(1,(.t 2)),(2,(.t 3)),(3,(.t 4)),(4,(.t 5))]),om 0 6]) (.ret))
theorem k47 : FnOk Tryz.prog 47 7 c47 [.t 0] := fk Tryz.func47 ⟨tv,⟨tv,tv⟩⟩
def c48 : MC := .seq (.reg [oo 2 (.mv (.k (.val (.slice none 0 0))))]) (.seq (.reg [oo 3 (.mv (.k (.val (.slice none 0 0))))]) (.seq (.seq (.reg [om 5 0,oo 6 (.mv (ki 0))]) (.blk 0 (.loop 0 (.seq (.reg [oo 7 (.cmpl .lss (.t 6) (.t 5))]) (.seq (.cond (.t 7) (.skip) (.exit 0)) (.seq (.blk 1 (.seq (.reg [om 8 6,om 4 8]) (.reg [om 9 3,om 10 4,oo 11 (.bsl 1 1 [(kz 0)] [(0,(.t 10))]),oo 12 (.app 1 8 (.t 9) (.t 11)),om 3 12]))) (.reg [oo 13 (.arl .add (.t 6) (ki 1)),om 6 13]))))))) (.seq (.reg [om 14 3,om 2 14]) (.ret))))
theorem k48 : FnOk Tryz.prog 48 15 c48 [.t 2] := fk Tryz.func48 ⟨tv,⟨tv,⟨⟨tv,⟨tv,⟨⟨tv,tv⟩,⟨⟨tv,tv⟩,tv⟩⟩⟩⟩,⟨tv,tv⟩⟩⟩⟩
def c49 : MC := .seq (.reg [oo 4 (.mv kf)]) (.seq (.seq (.reg [om 6 0,oo 7 (.lenS (.t 6)),om 8 1,oo 9 (.lenS (.t 8)),oo 10 (.cmp .neq (.t 7) (.t 9))]) (.cond (.t 10) (.seq (.reg [oo 4 (.mv kf)]) (.ret)) (.skip))) (.seq (.seq (.reg [om 11 0,oo 12 (.lenS (.t 11)),oo 13 (.mv (ki 0))]) (.blk 0 (.loop 0 (.seq (.reg [oo 14 (.cmp .lss (.t 13) (.t 12))]) (.seq (.cond (.t 14) (.skip) (.exit 0)) (.seq (.blk 1 (.seq (.reg [om 15 13,om 5 15]) (.seq (.drw [om 16 0,om 17 5,oo 18 (.ixa 1 (.t 16) (.t 17)),oo 19 (.ld none (.t 18)),om 20 1,om 21 5,oo 22 (.ixa 1 (.t 20) (.t 21)),oo 23 (.ld none (.t 22)),oo 24 (.cmp .neq (.t 19) (.t 23))] [[],[],[0,1],[2],[],[],[4,5],[6],[3,7]]) (.cond (.t 24) (.seq (.reg [oo 4 (.mv kf)]) (.ret)) (.skip))))) (.reg [oo 25 (.ar .add (.t 13) (ki 1)),om 13 25]))))))) (.seq (.reg [oo 4 (.mv kt)]) (.ret))))
theorem k49 : FnOk Tryz.prog 49 26 c49 [.t 4] := fk Tryz.func49 ⟨tv,⟨⟨tv,⟨⟨tv,tv⟩,tv⟩⟩,⟨⟨tv,⟨tv,⟨⟨tv,tv⟩,⟨⟨tv,⟨tv,⟨⟨tv,tv⟩,tv⟩⟩⟩,tv⟩⟩⟩⟩,⟨tv,tv⟩⟩⟩⟩
def c20 : MC := .seq (.reg [oo 4 (.mv kf)]) (.seq (.seq (.reg [om 6 0,oo 7 (.lenS (.t 6)),om 8 1,oo 9 (.lenS (.t 8)),oo 10 (.cmp .neq (.t 7) (.t 9))]) (.cond (.t 10) (.seq (.reg [oo 4 (.mv kf)]) (.ret)) (.skip))) (.seq (.seq (.reg [om 11 0,oo 12 (.lenS (.t 11)),oo 13 (.mv (ki 0))]) (.blk 0 (.loop 0 (.seq (.reg [oo 14 (.cmp .lss (.t 13) (.t 12))]) (.seq (.cond (.t 14) (.skip) (.exit 0)) (.seq (.blk 1 (.seq (.reg [om 15 13,om 5 15]) (.seq (.drw [om 16 0,om 17 5,oo 18 (.ixa 2 (.t 16) (.t 17)),oo 19 (.ld (some 2) (.t 18)),om 20 1,om 21 5,oo 22 (.ixa 2 (.t 20) (.t 21)),oo 23 (.ld (some 2) (.t 22)),oo 24 (.eqs [.bool,.int .i64] true (.t 19) (.t 23))] [[],[],[0,1],[2],[],[],[4,5],[6],[3,7]]) (.cond (.t 24) (.seq (.reg [oo 4 (.mv kf)]) (.ret)) (.skip))))) (.reg [oo 25 (.ar .add (.t 13) (ki 1)),om 13 25]))))))) (.seq (.reg [oo 4 (.mv kt)]) (.ret))))
theorem k20 : FnOk Tryz.prog 20 26 c20 [.t 4] := fk Tryz.func20 ⟨tv,⟨⟨tv,⟨⟨tv,tv⟩,tv⟩⟩,⟨⟨tv,⟨tv,⟨⟨tv,tv⟩,⟨⟨tv,⟨tv,⟨⟨tv,tv⟩,tv⟩⟩⟩,tv⟩⟩⟩⟩,⟨tv,tv⟩⟩⟩⟩
def sampleF : List HI := [⟨1, 0, 0, 0, 0, 0, 0, 0, 0, 1, 0, 0, 0, 0, 0⟩, ⟨1, 0, 0, 0, 1, 0, 0, 0, 0, 2, 0, 0, 0, 0, 0⟩, ⟨3, 1, 0, 0, 2, 0, 1, 0, 0, 0, 0, 0, 0, 0, 0⟩, ⟨20, 0, 0, 32, 0, 2, 0, 0, 4, 0, 0, 0, 0, 0, 0⟩, ⟨40, 0, 0, 0, 0, 0, 0, 0, 1, 0, 0, 0, 0, 0, 0⟩]
noncomputable def L47  : LSpec := ⟨[], [], [], [.vec 15 (sampleF.map HI.pv)], .slc 0 0 5⟩
theorem s47  : LSpec.ok Tryz.prog GG 47 (L47 ) := by
 refine fn_spec mix k47 _ rfl rfl (Tab.ok (l := []) trivial) noL noJ ?_
 repeat' ((conv => whnf); first
  | exact trivial
  | with_reducible first | refine aj ?_ | refine ai rfl ?_ | refine ai ⟨rfl, rfl⟩ ?_
  | ((with_reducible refine ai ?_ ?_); focus exact w3)
  | with_reducible first | refine And.intro ?_ ?_ | refine asL_mk ?_ | refine exI (i64_in (by omega) (by omega)) ?_
  | refine exI (x := ULift.up _) (Eq.refl _) ?_
  | refine exI (x := ULift.up _) ⟨rfl, by omega, Eq.refl _⟩ ?_
  | exact ny
  | ((with_reducible intro h); try dsimp only at h))
noncomputable def L48  : LSpec := ⟨[kz 5], [], [], [.vec 1 ([0, 1, 2, 3, 4].map ipv)], .slc 0 0 5⟩
theorem s48  : LSpec.ok Tryz.prog GG 48 (L48 ) := by
 refine fn_spec mix k48 _ rfl rfl (Tab.ok (l := []) trivial) (fun _ => .rounds 8) noJ ?_
 repeat' ((conv => whnf); first
  | exact trivial
  | with_reducible first | refine aj ?_ | refine ai rfl ?_ | refine ai ⟨rfl, rfl⟩ ?_
  | ((with_reducible refine ai ?_ ?_); focus exact w3)
  | with_reducible first | refine And.intro ?_ ?_ | refine asL_mk ?_ | refine exI (i64_in (by omega) (by omega)) ?_
  | refine exI (x := ULift.up _) (Eq.refl _) ?_
  | refine exI (x := ULift.up _) ⟨rfl, by omega, Eq.refl _⟩ ?_
  | exact ny
  | ((with_reducible intro h); try dsimp only at h))
def inv49 (L M : List Int) (i : Int) : St := ⟨[(13, kz i), (12, kz L.length), (1, .rd (.sl 1 (M.map ipv))), (0, .rd (.sl 1 (L.map ipv)))], [], 0⟩
def I49 (L M : List Int) (i : Int) : Prop := 0 ≤ i ∧ i ≤ L.length ∧ L.length = M.length ∧ L.length ≤ 1000000 ∧ (L.drop i.toNat = M.drop i.toNat ↔ L = M)
theorem eq49_len {L M : List Int} (h : ¬ (L.length : Int) = M.length) : decide (L = M) = false := by
 rw [decide_eq_false_iff_not]; rintro rfl; exact h rfl
theorem eq49_end {L M : List Int} {i : Int} (hI : I49 L M i) (h : ¬ i < L.length) : decide (L = M) = true := by
 obtain ⟨h1, h2, h3, h4, h5⟩ := hI
 rw [decide_eq_true_eq, <- h5, List.drop_eq_nil_of_le (by omega), List.drop_eq_nil_of_le (by omega)]
theorem eq49_no {L M : List Int} {i : Int} (hI : I49 L M i) (h : i < L.length) (e : ¬ nth L i = nth M i) : decide (L = M) = false := by
 obtain ⟨h1, h2, h3, h4, h5⟩ := hI
 rw [decide_eq_false_iff_not, <- h5, drop_step L i ⟨h1, h⟩, drop_step M i ⟨h1, by omega⟩]
 intro e'; injection e' with e1 _; exact e e1
theorem eq49_go {L M : List Int} {i : Int} (hI : I49 L M i) (h : i < L.length) (e : nth L i = nth M i) : I49 L M (i + 1) ∧ ((L.length : Int) - (i + 1)).toNat < ((L.length : Int) - i).toNat := by
 obtain ⟨h1, h2, h3, h4, h5⟩ := hI
 rw [drop_step L i ⟨h1, h⟩, drop_step M i ⟨h1, by omega⟩, e] at h5
 refine ⟨⟨by omega, by omega, h3, h4, ?_⟩, by omega⟩
 rw [<- h5]; simp
noncomputable def L49 (L : List Int) (M : List Int) : LSpec := ⟨[.rd (.sl 1 (L.map ipv)), .rd (.sl 1 (M.map ipv))], [], [], [], .bool (decide (L = M))⟩
set_option maxHeartbeats 4000000 in
theorem s49 (L : List Int) (M : List Int) (hp : L.length ≤ 1000000) : LSpec.ok Tryz.prog GG 49 (L49 L M) := by
 refine fn_spec mix k49 _ rfl rfl (Tab.ok (l := []) trivial) (fun _ => .inv Int (fun _ => I49 L M) (inv49 L M) (fun i => ((L.length : Int) - i).toNat)) noJ ?_
 repeat' ((conv => whnf); first
  | exact trivial
  | with_reducible first | refine aj ?_ | refine ai rfl ?_ | refine ai ⟨rfl, rfl⟩ ?_
  | ((with_reducible refine ai ?_ ?_); focus exact w3)
  | with_reducible first | apply exW (c := _) | refine exI (i64_in (by simp only [I49, List.length_map] at *; omega) (by simp only [I49, List.length_map] at *; omega)) ?_
  | refine exI (x := ULift.up _) ⟨rfl, (by simp only [I49, List.length_map] at *; omega), pv_get _ _ _ (by simp only [I49, List.length_map] at *; omega)⟩ ?_
  | with_reducible first | refine And.intro ?_ ?_ | refine asL_mk ?_ | refine exI (i64_in (by omega) (by omega)) ?_
  | refine exI (x := ULift.up _) (Eq.refl _) ?_
  | refine exI (x := ULift.up _) ⟨rfl, by omega, Eq.refl _⟩ ?_
  | exact ny
  | ((with_reducible intro h); try dsimp only at h))
 all_goals (refine Sd.mk ?_); all_goals (try simp only [HR.eta, List.length_map] at *)
 all_goals first
  | exact eq49_len (by assumption)
  | exact ⟨by omega, by omega, by omega, hp, by simp⟩
  | exact eq49_end (by assumption) (by assumption)
  | exact eq49_no (by assumption) (by assumption) (by assumption)
  | exact eq49_go (by assumption) (by assumption) (Classical.not_not.1 (by assumption))
def inv20 (L M : List HR) (i : Int) : St := ⟨[(13, kz i), (12, kz L.length), (1, .rd (.sl 2 (M.map HR.pv))), (0, .rd (.sl 2 (L.map HR.pv)))], [], 0⟩
def I20 (L M : List HR) (i : Int) : Prop := 0 ≤ i ∧ i ≤ L.length ∧ L.length = M.length ∧ L.length ≤ 1000000 ∧ (L.drop i.toNat = M.drop i.toNat ↔ L = M)
theorem eq20_len {L M : List HR} (h : ¬ (L.length : Int) = M.length) : decide (L = M) = false := by
 rw [decide_eq_false_iff_not]; rintro rfl; exact h rfl
theorem eq20_end {L M : List HR} {i : Int} (hI : I20 L M i) (h : ¬ i < L.length) : decide (L = M) = true := by
 obtain ⟨h1, h2, h3, h4, h5⟩ := hI
 rw [decide_eq_true_eq, <- h5, List.drop_eq_nil_of_le (by omega), List.drop_eq_nil_of_le (by omega)]
theorem eq20_no {L M : List HR} {i : Int} (hI : I20 L M i) (h : i < L.length) (e : ¬ nth L i = nth M i) : decide (L = M) = false := by
 obtain ⟨h1, h2, h3, h4, h5⟩ := hI
 rw [decide_eq_false_iff_not, <- h5, drop_step L i ⟨h1, h⟩, drop_step M i ⟨h1, by omega⟩]
 intro e'; injection e' with e1 _; exact e e1
theorem eq20_go {L M : List HR} {i : Int} (hI : I20 L M i) (h : i < L.length) (e : nth L i = nth M i) : I20 L M (i + 1) ∧ ((L.length : Int) - (i + 1)).toNat < ((L.length : Int) - i).toNat := by
 obtain ⟨h1, h2, h3, h4, h5⟩ := hI
 rw [drop_step L i ⟨h1, h⟩, drop_step M i ⟨h1, by omega⟩, e] at h5
 refine ⟨⟨by omega, by omega, h3, h4, ?_⟩, by omega⟩
 rw [<- h5]; simp
noncomputable def L20 (L : List HR) (M : List HR) : LSpec := ⟨[.rd (.sl 2 (L.map HR.pv)), .rd (.sl 2 (M.map HR.pv))], [], [], [], .bool (decide (L = M))⟩
set_option maxHeartbeats 4000000 in
theorem s20 (L : List HR) (M : List HR) (hp : L.length ≤ 1000000) : LSpec.ok Tryz.prog GG 20 (L20 L M) := by
 refine fn_spec mix k20 _ rfl rfl (Tab.ok (l := []) trivial) (fun _ => .inv Int (fun _ => I20 L M) (inv20 L M) (fun i => ((L.length : Int) - i).toNat)) noJ ?_
 repeat' ((conv => whnf); first
  | exact trivial
  | with_reducible first | refine aj ?_ | refine ai rfl ?_ | refine ai ⟨rfl, rfl⟩ ?_
  | ((with_reducible refine ai ?_ ?_); focus exact w3)
  | with_reducible first | apply exW (c := _) | refine exI (i64_in (by simp only [I20, List.length_map] at *; omega) (by simp only [I20, List.length_map] at *; omega)) ?_
  | refine exI (x := ULift.up _) ⟨rfl, (by simp only [I20, List.length_map] at *; omega), pv_get _ _ _ (by simp only [I20, List.length_map] at *; omega)⟩ ?_
  | with_reducible first | refine And.intro ?_ ?_ | refine asL_mk ?_ | refine exI (i64_in (by omega) (by omega)) ?_
  | refine exI (x := ULift.up _) (Eq.refl _) ?_
  | refine exI (x := ULift.up _) ⟨rfl, by omega, Eq.refl _⟩ ?_
  | exact ny
  | ((with_reducible intro h); try dsimp only at h))
 all_goals (refine Sd.mk ?_); all_goals (try simp only [HR.eta, List.length_map] at *)
 all_goals first
  | exact eq20_len (by assumption)
  | exact ⟨by omega, by omega, by omega, hp, by simp⟩
  | exact eq20_end (by assumption) (by assumption)
  | exact eq20_no (by assumption) (by assumption) (fun e => ‹¬ eqR _ _› ((eqR_iff _ _).2 e))
  | exact eq20_go (by assumption) (by assumption) ((eqR_iff _ _).1 (Classical.not_not.1 (by assumption)))
end Go.Proofs.YtlahifihaeafbaaGreatDoor
