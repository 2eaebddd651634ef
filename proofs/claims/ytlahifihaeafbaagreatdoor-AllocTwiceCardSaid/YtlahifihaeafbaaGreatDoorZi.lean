/- Part 9 of 11 of a proof of the law AllocTwice: what the last part leans on. -/
import Derived.Test.YtlahifihaeafbaaGreatDoorZh
import Derived.Test.YtlahifihaeafbaaGreatDoorY
set_option linter.all false
set_option maxRecDepth 100000
namespace Go.Proofs.YtlahifihaeafbaaGreatDoor
open Go Go.Sx
section
def c28 : MC := .seq (.reg [oo 6 (.alloc [(.val (.slice none 0 0)),(.val (.slice none 0 0))]),oo 7 (.mv (ki 0))]) (.seq (.seq (.reg [om 13 0,om 14 1,om 15 2,oo 16 (fc 62 [(.t 13),(.t 14),(.t 15)]),om 8 16]) (.seq (.reg [om 17 8,oo 18 (cc .neq 17 0)]) (.cond (.t 18) (.seq (.reg [oo 19 (.bld [(.val (.slice none 0 0)),(.val (.slice none 0 0))] []),om 20 8,o none (.st (some 2) (.t 6) (.t 19)),om 7 20]) (.ret)) (.skip)))) (.seq (.seq (.reg [om 22 0,oo 23 (fc 60 [(.t 22)]),om 21 23,oo 24 (ex_ 0 21),oo 25 (ex_ 1 21),oo 9 (.alloc [(kz 0),(kz 0)]),oo 10 (.alloc [(kz 0),(kz 0)]),o none (.st (some 2) (.t 9) (.t 24)),o none (.st (some 2) (.t 10) (.t 25))]) (.seq (.reg [oo 26 (.ixr 2 1 (.t 10) (ki 0)),oo 27 (ln 26),oo 28 (cc .gtr 27 200),sm 29 28,gf 29 30 (.ixr 2 1 (.t 10) (ki 1)),gf 29 31 (ln 30),gf 29 32 (cc .gtr 31 75),oo 33 (pt 29 32)]) (.cond (.t 33) (.seq (.reg [oo 34 (.bld [(.val (.slice none 0 0)),(.val (.slice none 0 0))] []),o none (.st (some 2) (.t 6) (.t 34)),oo 7 (.mv (ki 2))]) (.ret)) (.skip)))) (.seq (.reg [om 35 0,oo 36 (fc 50 [(.t 35)]),om 37 0,om 38 1,oo 39 (fc 73 [kf,(.t 38)]),om 40 2,oo 41 (fc 73 [kt,(.t 40)]),oo 42 (.bld [(.val (.map none)),(.val (.map none)),(.val (.slice none 0 0)),(.val (.slice none 0 0)),(.val (.slice none 0 0)),(.val (.pointer none)),(.val (.pointer none))] [(0,2,(.t 36)),(2,1,(.t 37)),(5,1,(.t 39)),(6,1,(.t 41))]),oo 43 (.box (.t 42)),om 11 43]) (.seq (.seq (.reg [om 44 0,oo 45 (.lenS (.t 44)),oo 46 (.mv (ki 0))]) (.blk 0 (.loop 0 (.seq (.reg [oo 47 (ct .lss 46 45)]) (.seq (.cond (.t 47) (.skip) (.exit 0)) (.seq (.blk 1 (.seq (.reg [om 48 46,om 12 48]) (.reg [om 49 11,om 50 12,oo 51 (fc 74 [(.t 49),(.t 50)])]))) (.reg [oo 52 (ac .add 46 1),om 46 52]))))))) (.seq (.reg [om 53 11,oo 54 (.nchk (.t 53)),oo 55 (fl 3 54),oo 56 (ls 2 55),o none (.st (some 2) (.t 6) (.t 56)),oo 7 (.mv (ki 0))]) (.ret))))))
theorem k28 : zar Tryz.prog 28 57 c28 [.c 6 (some 2),.t 7] := fk Tryz.func28 ⟨tv,⟨⟨tv,⟨tv,⟨⟨tv,tv⟩,tv⟩⟩⟩,⟨⟨tv,⟨tv,⟨⟨tv,tv⟩,tv⟩⟩⟩,⟨tv,⟨⟨tv,⟨tv,⟨⟨tv,tv⟩,⟨⟨tv,tv⟩,tv⟩⟩⟩⟩,⟨tv,tv⟩⟩⟩⟩⟩⟩
attribute [local irreducible] zba zaW zb6 zdm zbj
def zdN (l : List HI) (w v : Int) : Int := if zbE l w v ≠ 0 then zbE l w v else if 200 < (zb6 l).v0 \/ 75 < (zb6 l).v1 then 2 else 0
def s0A (l : List HI) (w v : Int) : AS := ⟨(zaW l).1, (zaW l).2, l, [], [], zdm false w, zdm true v⟩
def stN (l : List HI) (w v : Int) : Nat -> AS
 | 0 => s0A l w v
 | k + 1 => zbj (stN l w v k) k
def zfk (l : List HI) (w v : Int) : List HI := if zdN l w v = 0 then (stN l w v l.length).L else []
def zfZ (l : List HI) (w v : Int) : List Int := if zdN l w v = 0 then (stN l w v l.length).fr else []
def zp1 (l : List HI) (w v : Int) : Prop := zdN l w v = 0 -> ∀ i : Int, 0 <= i -> i < l.length -> zeV (stN l w v i.toNat) i
abbrev zCV (s : AS) : List (Nat × Option SO) := [(0, some (.row [.mp 1, .mp 2, .rd (.sl 15 (List.map HI.pv (s).code)), .slc 3 0 (s).L.length, .slc 4 0 (s).fr.length, .ptr 5 0 0, .ptr 6 0 0])), (1, some (.map MTS (s).us none)), (2, some (.map MTS (s).ds none)), (3, some (.vec 15 (List.map HI.pv (s).L))), (4, some (.vec 1 (List.map ipv (s).fr))), (5, some (.row [.bool (s).w.vec, .mp 7, .mp 8, .mp 9, .mp 10, .mp 11])), (6, some (.row [.bool (s).v.vec, .mp 12, .mp 13, .mp 14, .mp 15, .mp 16])), (7, some (.map MIB (s).w.free none)), (8, some (.map MII (s).w.holds none)), (9, some (.map MII (s).w.at_ none)), (10, some (.map MII (s).w.slot none)), (11, some (.map MIB (s).w.slots none)), (12, some (.map MIB (s).v.free none)), (13, some (.map MII (s).v.holds none)), (14, some (.map MII (s).v.at_ none)), (15, some (.map MII (s).v.slot none)), (16, some (.map MIB (s).v.slots none))]
def zyP (l : List HI) (w v : Int) (i : Int) : St := ⟨[(46, kz i), (45, kz l.length), (11, .ptr 0 0 0), (6, .ptr 17 0 0)], zCV (stN l w v i.toNat) ++ [(17, some (.row [.val (.slice none 0 0), .val (.slice none 0 0)]))], 18⟩
def I28 (l : List HI) (i : Int) : Prop := 0 <= i /\ i <= l.length /\ l.length <= 4000
theorem zr0 {l : List HI} {w v i : Int} (h : 0 <= i) : stN l w v (i + 1).toNat = zbj (stN l w v i.toNat) i := by
 have e : (i + 1).toNat = i.toNat + 1 := by omega
 have e2 : ((i.toNat : Nat) : Int) = i := by omega
 rw [e, stN, e2]
theorem zl6 {l : List HI} {w v : Int} (h : ¬ zbE l w v = 0) : zdN l w v = zbE l w v := by unfold zdN; rw [if_pos h]
theorem zf9 {l : List HI} {w v : Int} (h : ¬ ¬ zbE l w v = 0) (h2 : 200 < (zb6 l).v0 \/ 75 < (zb6 l).v1) : zdN l w v = 2 := by unfold zdN; rw [if_neg h, if_pos h2]
theorem zog {l : List HI} {w v : Int} (h : ¬ ¬ zbE l w v = 0) (h2 : ¬ 200 < (zb6 l).v0) (h3 : ¬ 75 < (zb6 l).v1) : zdN l w v = 0 := by unfold zdN; rw [if_neg h, if_neg (by omega)]
theorem zkk {l : List HI} {w v e : Int} (h : zdN l w v = e) (he : e ≠ 0) : zfk l w v = [] := by unfold zfk; rw [if_neg (by rw [h]; exact he)]
theorem zkj {l : List HI} {w v e : Int} (h : zdN l w v = e) (he : e ≠ 0) : zfZ l w v = [] := by unfold zfZ; rw [if_neg (by rw [h]; exact he)]
theorem zwL {l : List HI} {w v : Int} (h : ¬ ¬ zbE l w v = 0) : l.length <= 4000 := by
 unfold zbE at h
 split at h
 . next q => exact absurd (by decide) h
 . next q => exact lc q
theorem zr7 {l : List HI} {w v : Int} (h : ¬ ¬ zbE l w v = 0) : 0 <= w /\ w <= 1000 /\ 0 <= v /\ v <= 1000 := by
 unfold zbE at h
 split at h
 . next q => exact absurd (by decide) h
 . split at h
   . exact absurd (by decide) h
   . omega
theorem zCU {l : List HI} {w v i : Int} (h0 : zdN l w v = 0) (h : I28 l i) (hi : ¬ i < l.length) : zfk l w v = (stN l w v i.toNat).L := by
 obtain ⟨h1, h2, _⟩ := h
 have : i.toNat = l.length := by omega
 unfold zfk; rw [if_pos h0, this]
theorem zCT {l : List HI} {w v i : Int} (h0 : zdN l w v = 0) (h : I28 l i) (hi : ¬ i < l.length) : zfZ l w v = (stN l w v i.toNat).fr := by
 obtain ⟨h1, h2, _⟩ := h
 have : i.toNat = l.length := by omega
 unfold zfZ; rw [if_pos h0, this]
theorem zyJ {l : List HI} {w v : Int} (h : ¬ ¬ zbE l w v = 0) : I28 l 0 := ⟨by omega, by omega, zwL h⟩
theorem zv6 {l : List HI} {i : Int} (h : I28 l i) (hi : i < l.length) : I28 l (i + 1) /\ ((l.length : Int) - (i + 1)).toNat < ((l.length : Int) - i).toNat := ⟨⟨by have := h.1; omega, by omega, h.2.2⟩, by have := h.1; omega⟩
noncomputable def L28 (l : List HI) (w : Int) (v : Int) : zaa := ⟨[.rd (.sl 15 (l.map HI.pv)), kz w, kz v], [], [], [.vec 15 (List.map HI.pv (zfk l w v)), .vec 1 (List.map ipv (zfZ l w v))], .tup [.agg [.slc 0 0 (zfk l w v).length, .slc 1 0 (zfZ l w v).length], kz (zdN l w v)]⟩
set_option maxHeartbeats 20000000 in
theorem s28 (l : List HI) (w : Int) (v : Int) (ho : zp1 l w v) : zaa.ok Tryz.prog GG 28 (L28 l w v) := by
 refine zad mix k28 _ rfl rfl (Tab.ok (l := [(62, S62), (60, S60), (50, S50), (73, S73), (74, S74)]) ⟨t62, t60, t50, t73, t74, trivial⟩) (fun _ => .inv Int (fun _ => I28 l) (zyP l w v) (fun i => ((l.length : Int) - i).toNat)) noJ ?_
 repeat' ((conv => whnf); first
  | exact trivial
  | with_reducible first | refine aj ?_ | refine ai rfl ?_ | refine ai ⟨rfl, rfl⟩ ?_
  | ((with_reducible refine ai ?_ ?_); focus exact w3)
  | with_reducible first | apply exW (γ := Int) (c := _) | refine exI (i64_in (by simp only [I28, List.length_map] at *; omega) (by simp only [I28, List.length_map] at *; omega)) ?_ | refine And.intro (Sd.mk (p := _ <= 4000) (zwL ‹_›)) ?_ | refine And.intro (Sd.mk (p := 0 <= w /\ w <= 1000) ⟨(zr7 ‹_›).1, (zr7 ‹_›).2.1⟩) ?_ | refine And.intro (Sd.mk (p := 0 <= v /\ v <= 1000) (zr7 ‹_›).2.2) ?_
  | refine And.intro (Sd.mk (p := zeV _ _) (ho (zog ‹_› ‹_› ‹_›) _ (by simp only [I28, List.length_map] at *; omega) (by simp only [I28, List.length_map] at *; omega))) ?_
  | with_reducible first | refine And.intro ?_ ?_ | refine zae ?_ | refine exI (i64_in (by omega) (by omega)) ?_
  | refine exI (x := ULift.up _) (Eq.refl _) ?_
  | refine exI (x := ULift.up _) ⟨rfl, by omega, Eq.refl _⟩ ?_
  | exact nx
  | ((with_reducible intro h); try dsimp only at h))
 all_goals (refine Sd.mk ?_)
 all_goals first
  | exact zyJ ‹_›
  | exact zv6 ‹_› ‹_›
  | exact (zl6 ‹_›)
  | exact ⟨rfl, by rw [zkk (zl6 ‹_›) ‹_›]; rfl, rfl⟩
  | exact ⟨rfl, by rw [zkj (zl6 ‹_›) ‹_›]; rfl, rfl⟩
  | (rw [zkk (zl6 ‹_›) ‹_›]; rfl)
  | (rw [zkj (zl6 ‹_›) ‹_›]; rfl)
  | exact (zf9 ‹_› (.inl ‹_›))
  | exact ⟨rfl, by rw [zkk (zf9 ‹_› (.inl ‹_›)) (by decide)]; rfl, rfl⟩
  | exact ⟨rfl, by rw [zkj (zf9 ‹_› (.inl ‹_›)) (by decide)]; rfl, rfl⟩
  | (rw [zkk (zf9 ‹_› (.inl ‹_›)) (by decide)]; rfl)
  | (rw [zkj (zf9 ‹_› (.inl ‹_›)) (by decide)]; rfl)
  | exact (zf9 ‹_› (.inr ‹_›))
  | exact ⟨rfl, by rw [zkk (zf9 ‹_› (.inr ‹_›)) (by decide)]; rfl, rfl⟩
  | exact ⟨rfl, by rw [zkj (zf9 ‹_› (.inr ‹_›)) (by decide)]; rfl, rfl⟩
  | (rw [zkk (zf9 ‹_› (.inr ‹_›)) (by decide)]; rfl)
  | (rw [zkj (zf9 ‹_› (.inr ‹_›)) (by decide)]; rfl)
  | exact (zog ‹_› ‹_› ‹_›)
  | exact ⟨rfl, rfl, rfl⟩
  | exact ⟨rfl, by rw [zCU (zog ‹_› ‹_› ‹_›) ‹_› ‹_›]⟩
  | exact ⟨rfl, by rw [zCT (zog ‹_› ‹_› ‹_›) ‹_› ‹_›]⟩
  | (rw [zr0] <;> first | rfl | exact ⟨rfl, rfl⟩ | (simp only [I28] at *; omega))
end
section
def zAO : MC := .seq (.reg [oo 4 (.box (.t 1)),oo 5 (.box (.t 2))]) (.seq (.drw [om 9 0,oo 10 (.nchk (.t 9)),oo 11 (fl 3 10),oo 12 (ln 11),oo 13 (ls 2 5),oo 14 (.lkp true false [.int .i64,.int .i64] false [.bool false,.int .i64 0,.int .i64 0] (.t 12) (.t 13)),om 8 14,oo 15 (ex_ 0 8),oo 16 (ex_ 1 8),oo 6 (.alloc [.ff,(kz 0),(kz 0)]),o none (.st (some 3) (.t 6) (.t 15)),om 7 16] [[],[0],[1],[2],[],[3,4],[5],[6],[6],[],[9,7,0,1,2,3,4,5,6,7,9],[8,10,0,1,2,3,4,5,6,7,8,9,10]]) (.seq (.seq (.reg [om 17 7,oo 18 (.not (.t 17)),sm 19 18,gf 19 20 (fl 0 5),gf 19 21 (ln 20),gf 19 22 (cc .eql 21 2),ogs 19 false (some 23) (.mv (.t 22)),gt_ 23 24 (fl 2 6),gt_ 23 25 (ln 24),gt_ 23 26 (cc .neq 25 0),gf 19 27 (pf 23 26),oo 28 (pt 19 27)]) (.cond (.t 28) (.seq (.drw [om 29 0,oo 30 (.nchk (.t 29)),oo 31 (fl 3 30),oo 32 (ln 31),oo 33 (ls 2 4),o none (.mdel false [.int .i64,.int .i64] (.t 32) (.t 33))] [[],[0],[1],[2],[],[3,4]]) (.ret)) (.skip))) (.drw [om 34 0,oo 35 (.nchk (.t 34)),oo 36 (fl 3 35),oo 37 (ln 36),oo 38 (ls 2 4),oo 39 (ls 3 6),o none (.mup false [.int .i64,.int .i64] (.t 37) (.t 38) (.t 39))] [[],[0],[1],[2],[],[],[3,4,5,0,1,2,3,4,5]])))
theorem zB5 : zar Tryz.prog 150 40 zAO [] := fk Tryz.func150 ⟨tv,⟨tv,⟨⟨tv,⟨⟨tv,tv⟩,tv⟩⟩,tv⟩⟩⟩
def zAP : MC := .seq (.reg [oo 1 (.box (.t 0)),oo 2 (.alloc [(kz 0),(kz 0)])]) (.seq (.seq (.reg [oo 3 (fl 0 1),oo 4 (ln 3)]) (.cond (.t 4) (.seq (.reg [oo 5 (fl 1 1),oo 6 (ln 5),oo 7 (.bld [(kz 0),(kz 0)] [(0,1,(ki 1)),(1,1,(.t 6))]),o none (.st (some 2) (.t 2) (.t 7))]) (.ret)) (.skip))) (.seq (.reg [oo 8 (fl 1 1),oo 9 (ln 8),oo 10 (.bld [(kz 0),(kz 0)] [(0,1,(ki 0)),(1,1,(.t 9))]),o none (.st (some 2) (.t 2) (.t 10))]) (.ret)))
theorem zB6 : zar Tryz.prog 151 11 zAP [.c 2 (some 2)] := fk Tryz.func151 ⟨tv,⟨⟨tv,⟨⟨tv,tv⟩,tv⟩⟩,⟨tv,tv⟩⟩⟩
def zAN : MC := .seq (.reg [oo 3 (.alloc [(kz 0),(kz 0)])]) (.seq (.reg [oo 4 (fl 8 1),oo 5 (ln 4),om 6 0,oo 7 (at_ .add 5 6),oo 8 (.bld [(kz 0),(kz 0)] [(0,1,(ki 2)),(1,1,(.t 7))]),o none (.st (some 2) (.t 3) (.t 8))]) (.ret))
theorem zB4 : zar Tryz.prog 149 9 zAN [.c 3 (some 2)] := fk Tryz.func149 ⟨tv,⟨tv,tv⟩⟩
def zAv : MC := .seq (.reg [oo 3 (.box (.t 0)),oo 6 (.mv kf)]) (.seq (.reg [oo 12 (ls 15 3),oo 13 (fc 34 [(.t 12)]),om 7 13]) (.seq (.seq (.reg [oo 15 (ls 15 3),oo 16 (fc 33 [(.t 15)]),om 14 16,oo 17 (ex_ 0 14),oo 18 (ex_ 1 14),oo 8 (.alloc [.ff,(kz 0)]),o none (.st (some 2) (.t 8) (.t 17)),om 9 18]) (.seq (.reg [om 19 9]) (.cond (.t 19) (.reg [om 20 7,oo 21 (ls 2 8),oo 22 (.bsl 2 1 [.ff,(kz 0)] [(0,(.t 21))]),oo 23 (.app 2 16 (.t 20) (.t 22)),om 7 23]) (.skip)))) (.seq (.seq (.reg [om 24 7,oo 25 (.lenS (.t 24)),oo 26 (.mv (ki 0))]) (.blk 0 (.loop 0 (.seq (.reg [oo 27 (ct .lss 26 25)]) (.seq (.cond (.t 27) (.skip) (.exit 0)) (.seq (.blk 1 (.seq (.reg [oo 28 (ia 2 24 26),oo 29 (ls 2 28),oo 11 (.alloc [.ff,(kz 0)]),o none (.st (some 2) (.t 11) (.t 29))]) (.seq (.reg [oo 30 (fl 0 11),oo 31 (ln 30),sm 32 31,gt_ 32 33 (fl 1 11),gt_ 32 34 (ln 33),mt 32 35 2,gt_ 32 36 (ct .geq 34 35),oo 37 (pf 32 36),sm 38 37,gf 38 39 (fl 0 11),gf 38 40 (ln 39),gf 38 41 (.not (.t 40)),ogs 38 false (some 42) (.mv (.t 41)),gt_ 42 43 (fl 1 11),gt_ 42 44 (ln 43),mt 42 45 1,gt_ 42 46 (ct .geq 44 45),gf 38 47 (pf 42 46),oo 48 (pt 38 47)]) (.cond (.t 48) (.seq (.reg [oo 6 (.mv kf)]) (.ret)) (.skip))))) (.reg [oo 49 (ac .add 26 1),om 26 49]))))))) (.seq (.reg [oo 6 (.mv kt)]) (.ret)))))
theorem zBN : zar Tryz.prog 111 50 zAv [.t 6] := fk Tryz.func111 ⟨tv,⟨tv,⟨⟨tv,⟨tv,⟨tv,tv⟩⟩⟩,⟨⟨tv,⟨tv,⟨⟨tv,tv⟩,⟨⟨tv,⟨tv,⟨⟨tv,tv⟩,tv⟩⟩⟩,tv⟩⟩⟩⟩,⟨tv,tv⟩⟩⟩⟩⟩
attribute [local irreducible] Go.Sx.zaf Go.Sx.zas
def zbi (es : HM) (t f : PL) : HM := if (zas MPC f es).isSome = false \/ (f.kind = 2 /\ (zaf MPC f es : CT).part ≠ 0) then zaO MPC t es else zan MPC t (zaf MPC f es) es
abbrev ctG (f : PL) (es : HM) : CT := zaf MPC f es
abbrev MPS (es : HM) : SO := .map MPC es none
theorem zte {es : HM} {t f : PL} (h : (!(zas MPC f es).isSome) = true) : MPS (zbi es t f) = MPS (zaO MPC t es) := by
 unfold zbi; rw [if_pos (.inl (nt h))]
theorem zq6 {es : HM} {t f : PL} (h1 : f.kind = 2) (h2 : ¬ (ctG f es).part = 0) : MPS (zbi es t f) = MPS (zaO MPC t es) := by
 unfold zbi; rw [if_pos (.inr ⟨h1, h2⟩)]
theorem zl3 {es : HM} {t f : PL} (h : (!(zas MPC f es).isSome) = false) (h1 : ¬ f.kind = 2 \/ ¬ ¬ (ctG f es).part = 0) : MPS (zbi es t f) = MPS (zan MPC t (CT.mk (ctG f es).r (ctG f es).part) es) := by
 unfold zbi; rw [if_neg]
 . rw [nf h]; rintro (h2 | ⟨h2, h3⟩)
   . cases h2
   . rcases h1 with h1 | h1
     . exact h1 h2
     . exact h1 h3
noncomputable def zuI (v : VL) (es : HM) (t : PL) (f : PL) : zaa := ⟨[.ptr 0 0 0, .agg t.cells, .agg f.cells], [v.row, .map MPC es none], [some v.row, some (.map MPC (zbi es t f) none)], [], .tup []⟩
set_option maxHeartbeats 2000000 in
theorem zDn (v : VL) (es : HM) (t : PL) (f : PL) : zaa.ok Tryz.prog GG 150 (zuI v es t f) := by
 refine zad mix zB5 _ rfl rfl (Tab.ok (l := []) trivial) noL noJ ?_
 repeat' ((conv => whnf); first
  | exact trivial
  | with_reducible first | refine aj ?_ | refine ai rfl ?_ | refine ai ⟨rfl, rfl⟩ ?_
  | ((with_reducible refine ai ?_ ?_); focus exact w3)
  | refine And.intro (Sd.mk (p := zaj.one MPC = _ /\ _) ⟨rfl, rfl⟩) ?_
  | refine And.intro (Sd.mk (p := zaj.vone MPC = _ /\ _) ⟨rfl, rfl⟩) ?_
  | apply exI (x := ULift.up (PL.mk _ _)) trivial
  | apply exI (x := ULift.up (CT.mk (HR.mk _ _) _)) trivial
  | with_reducible first | refine And.intro ?_ ?_ | refine zae ?_ | refine exI (i64_in (by omega) (by omega)) ?_
  | refine exI (x := ULift.up _) (Eq.refl _) ?_
  | refine exI (x := ULift.up _) ⟨rfl, by omega, Eq.refl _⟩ ?_
  | exact ny
  | ((with_reducible intro h); try dsimp only at h))
 all_goals (refine Sd.mk ?_; (try simp only [HR.eta, PL.eta] at *))
 all_goals first
  | exact zte ‹_›
  | exact zq6 ‹_› ‹_›
  | exact zl3 ‹_› (.inl ‹_›)
  | exact zl3 ‹_› (.inr ‹_›)
noncomputable def zqh : SFn
 | [.ptr p _ _, a1, a2], k => zfS p fun v es => zn9 a1 fun t => zn9 a2 fun f => k (zuI v es t f)
 | _, _ => .fail
theorem zEq : FnS Tryz.prog GG 150 zqh := by
 intro args k gt go R v os n h
 unfold zqh at h
 split at h
 . obtain ⟨v, es, _, h⟩ := zea h
   obtain ⟨t, _, h⟩ := zlQ h
   obtain ⟨f, _, h⟩ := zlQ h
   exact ⟨_, _, zDn v es t f, h⟩
 . cases h
def ofF (r : HR) : PL := if r.vec = true then ⟨1, r.n⟩ else ⟨0, r.n⟩
noncomputable def zuJ (r : HR) : zaa := ⟨[.agg r.cells], [], [], [], .agg (ofF r).cells⟩
theorem zDo (r : HR) : zaa.ok Tryz.prog GG 151 (zuJ r) := by
 refine zad mix zB6 _ rfl rfl (Tab.ok (l := []) trivial) noL noJ ?_
 repeat' ((conv => whnf); first
  | exact trivial
  | with_reducible first | refine aj ?_ | refine ai rfl ?_ | refine ai ⟨rfl, rfl⟩ ?_
  | ((with_reducible refine ai ?_ ?_); focus exact w3)
  | with_reducible first | refine And.intro ?_ ?_ | refine zae ?_ | refine exI (i64_in (by omega) (by omega)) ?_
  | refine exI (x := ULift.up _) (Eq.refl _) ?_
  | refine exI (x := ULift.up _) ⟨rfl, by omega, Eq.refl _⟩ ?_
  | exact ny
  | ((with_reducible intro h); try dsimp only at h))
 all_goals (refine Sd.mk ?_; simp_all [ofF, PL.cells])
noncomputable def zqi : SFn
 | [a0], k => zgO a0 fun r => k (zuJ r)
 | _, _ => .fail
theorem zEr : FnS Tryz.prog GG 151 zqi := by
 intro args k gt go R v os n h
 unfold zqi at h
 split at h
 . obtain ⟨r, _, h⟩ := zd0 h
   exact ⟨_, _, zDo r, h⟩
 . cases h
noncomputable def zuH (x : HI) (k : Int) : zaa := ⟨[kz k, .rp (HI.pv x) 0], [], [], [], .agg (PL.cells ⟨2, x.k + k⟩)⟩
theorem zDm (x : HI) (k : Int) (hp : (0 <= k /\ k <= 3) /\ -1000000 <= x.k /\ x.k <= 1000000) : zaa.ok Tryz.prog GG 149 (zuH x k) := by
 refine zad mix zB4 _ rfl rfl (Tab.ok (l := []) trivial) noL noJ ?_
 repeat' ((conv => whnf); first
  | exact trivial
  | with_reducible first | refine aj ?_ | refine ai rfl ?_ | refine ai ⟨rfl, rfl⟩ ?_
  | ((with_reducible refine ai ?_ ?_); focus exact w3)
  | with_reducible first | refine And.intro ?_ ?_ | refine zae ?_ | refine exI (i64_in (by omega) (by omega)) ?_
  | refine exI (x := ULift.up _) (Eq.refl _) ?_
  | refine exI (x := ULift.up _) ⟨rfl, by omega, Eq.refl _⟩ ?_
  | exact ny
  | ((with_reducible intro h); try dsimp only at h))
noncomputable def zqg : SFn
 | [.int .i64 j, .ptr p _ _], k => zbz p fun r => zdh r fun x => .req ((0 <= j /\ j <= 3) /\ -1000000 <= x.k /\ x.k <= 1000000) (k (zuH x j))
 | _, _ => .fail
theorem zEp : FnS Tryz.prog GG 149 zqg := by
 intro args k gt go R v os n h
 unfold zqg at h
 split at h
 . obtain ⟨r, _, h⟩ := zaX h
   obtain ⟨x, _, h⟩ := zbp h
   obtain ⟨hp, _, h⟩ := zaz h
   exact ⟨_, _, zDm x _ hp, h⟩
 . cases h
def zhC (w v : Int) (r : HR) : Bool := if r.vec = true then decide (r.n < v) else decide (r.n < w)
def zb3 (x : HI) (w v : Int) : Bool := (zaK x).all (zhC w v)
def zwf (x : HI) (w v : Int) (i : Int) : St := ⟨[(26, kz i), (25, kz (zaK x).length), (24, .slc 0 0 (zaK x).length), (2, kz v), (1, kz w)], [(0, some (.vec 2 ((zaK x).map HR.pv)))], 1⟩
def zgE (x : HI) (w v : Int) (i : Int) : Prop := 0 <= i /\ i <= (zaK x).length /\ (zaK x).length <= 4 /\ ((zaK x).drop i.toNat).all (zhC w v) = (zaK x).all (zhC w v)
theorem zpX {x : HI} {w v i : Int} (hI : zgE x w v i) (h : i < (zaK x).length) (hb : zhC w v (nth (zaK x) i) = false) : zb3 x w v = false := by
 obtain ⟨h1, h2, h3, h4⟩ := hI
 rw [zaG _ _ ⟨h1, h⟩] at h4
 rw [zb3, <- h4]; simp [hb]
theorem zx9 {x : HI} {w v i : Int} (hI : zgE x w v i) (h : i < (zaK x).length) (hb : zhC w v (nth (zaK x) i) = true) : zgE x w v (i + 1) /\ ((zaK x).length - (i + 1)).toNat < ((zaK x).length - i).toNat := by
 obtain ⟨h1, h2, h3, h4⟩ := hI
 rw [zaG _ _ ⟨h1, h⟩] at h4
 refine ⟨⟨by omega, by omega, h3, ?_⟩, by omega⟩
 rw [<- h4]; simp [hb]
theorem znJ {x : HI} {w v i : Int} (hI : zgE x w v i) (h : ¬ i < (zaK x).length) : zb3 x w v = true := by
 obtain ⟨h1, h2, h3, h4⟩ := hI
 have : (zaK x).drop i.toNat = [] := List.drop_eq_nil_of_le (by omega)
 rw [zb3, <- h4, this]; rfl
noncomputable def zuq (x : HI) (w : Int) (v : Int) : zaa := ⟨[.agg x.cells, kz w, kz v], [], [], [], .bool (zb3 x w v)⟩
set_option maxHeartbeats 4000000 in
theorem zC5 (x : HI) (w : Int) (v : Int) : zaa.ok Tryz.prog GG 111 (zuq x w v) := by
 refine zad mix zBN _ rfl rfl (Tab.ok (l := [(34, S34), (33, S33)]) ⟨t34, t33, trivial⟩) (fun _ => .inv Int (fun _ => zgE x w v) (zwf x w v) (fun i => ((zaK x).length - i).toNat)) noJ ?_
 repeat' ((conv => whnf); first
  | exact trivial
  | with_reducible first | refine aj ?_ | refine ai rfl ?_ | refine ai ⟨rfl, rfl⟩ ?_
  | ((with_reducible refine ai ?_ ?_); focus exact w3)
  | with_reducible first | apply exW (c := _) | refine exI (i64_in (by simp only [zgE, List.length_map] at *; omega) (by simp only [zgE, List.length_map] at *; omega)) ?_
  | refine exI (x := ULift.up _) (zbS _ _ _ (by simp only [zgE, List.length_map] at *; omega)) ?_
  | with_reducible first | refine ai (by simp only [zgE, List.length_map] at *; omega) ?_ | refine And.intro ?_ ?_ | refine zae ?_ | refine exI (i64_in (by omega) (by omega)) ?_
  | refine exI (x := ULift.up _) (Eq.refl _) ?_
  | refine exI (x := ULift.up _) ⟨rfl, by omega, Eq.refl _⟩ ?_
  | exact ny
  | ((with_reducible intro h); try dsimp only at h))
 all_goals (refine Sd.mk ?_; have hl := zk7 x; have hu := zbY x; (try simp only [HI.eta, HR.eta, List.length_map] at *))
 all_goals first
  | exact (znJ ‹_› ‹_›).symm
  | exact znJ ‹_› ‹_›
  | exact ⟨by omega, by omega, hl, rfl⟩
  | (refine zpX ‹_› ‹_› ?_; simp only [zhC]; grind)
  | (refine (zpX ‹_› ‹_› ?_).symm; simp only [zhC]; grind)
  | (refine zx9 ‹_› ‹_› ?_; simp only [zhC]; grind)
  | (simp_all [zaK, zai.len, HR.pv]; done)
  | (simp_all [zaK, zai.len, HR.pv]; omega)
noncomputable def znO : SFn
 | [a0, a1, a2], k => zdh a0 fun x => asI a1 fun w => asI a2 fun v => k (zuq x w v)
 | _, _ => .fail
theorem zxG : FnS Tryz.prog GG 111 znO := by
 intro args k gt go R v os n h
 unfold znO at h
 split at h
 . obtain ⟨x, _, h⟩ := zbp h
   obtain ⟨w, _, h⟩ := zaU h
   obtain ⟨v, _, h⟩ := zaU h
   exact ⟨_, _, zC5 x w v, h⟩
 . cases h
end
section
def zAw : MC := .seq (.reg [oo 3 (.box (.t 1)),oo 4 (.mv kf)]) (.seq (.reg [oo 12 (.mkf (.func 149) [] [(.t 3)]),om 5 12]) (.seq (.seq (.reg [oo 13 (fl 0 3),oo 14 (ln 13)]) (.blk 0 (.seq (.reg [oo 16 (cc .eql 14 2),om 15 16]) (.cond (.t 15) (.reg [om 17 0,oo 18 (fl 4 3),oo 19 (ln 18),oo 20 (.bld [(kz 0),(kz 0)] [(0,1,(ki 0)),(1,1,(.t 19))]),oo 21 (fl 5 3),oo 22 (ln 21),oo 23 (.bld [(kz 0),(kz 0)] [(0,1,(ki 0)),(1,1,(.t 22))]),oo 24 (fc 150 [(.t 17),(.t 20),(.t 23)])]) (.seq (.reg [oo 26 (cc .eql 14 8),om 25 26]) (.cond (.t 25) (.reg [om 27 0,oo 28 (fl 4 3),oo 29 (ln 28),oo 30 (.bld [(kz 0),(kz 0)] [(0,1,(ki 1)),(1,1,(.t 29))]),oo 31 (fl 5 3),oo 32 (ln 31),oo 33 (.bld [(kz 0),(kz 0)] [(0,1,(ki 1)),(1,1,(.t 32))]),oo 34 (fc 150 [(.t 27),(.t 30),(.t 33)])]) (.seq (.reg [oo 36 (cc .eql 14 42),om 35 36]) (.cond (.t 35) (.drw [om 37 0,om 38 5,oo 39 (.call (.t 38) [(ki 0)]),oo 40 (fl 5 3),oo 41 (ln 40),oo 42 (.bld [(kz 0),(kz 0)] [(0,1,(ki 0)),(1,1,(.t 41))]),oo 43 (fc 150 [(.t 37),(.t 39),(.t 42)])] [[],[],[1],[],[3],[4],[0,2,5,2]]) (.seq (.reg [oo 45 (cc .eql 14 43),om 44 45]) (.cond (.t 44) (.drw [om 46 0,oo 47 (fl 4 3),oo 48 (ln 47),oo 49 (.bld [(kz 0),(kz 0)] [(0,1,(ki 0)),(1,1,(.t 48))]),om 50 5,oo 51 (.call (.t 50) [(ki 0)]),oo 52 (fc 150 [(.t 46),(.t 49),(.t 51)])] [[],[],[1],[2],[],[4],[0,3,5,5]]) (.seq (.reg [oo 54 (cc .eql 14 44),om 53 54]) (.cond (.t 53) (.seq (.drw [om 56 0,oo 57 (.nchk (.t 56)),oo 58 (fl 3 57),oo 59 (ln 58),oo 60 (fl 5 3),oo 61 (ln 60),oo 62 (.bld [(kz 0),(kz 0)] [(0,1,(ki 1)),(1,1,(.t 61))]),oo 63 (.lkp true false [.int .i64,.int .i64] false [.bool false,.int .i64 0,.int .i64 0] (.t 59) (.t 62)),om 55 63,oo 64 (ex_ 0 55),oo 65 (ex_ 1 55),oo 6 (.alloc [.ff,(kz 0),(kz 0)]),o none (.st (some 3) (.t 6) (.t 64)),om 7 65] [[],[0],[1],[2],[],[4],[5],[3,6],[7],[8],[8],[],[11,9,0,1,2,3,4,5,6,7,8,9,11],[10,12,0,1,2,3,4,5,6,7,8,9,10,11,12]]) (.seq (.reg [oo 66 (.mv (ki 0))]) (.blk 1 (.loop 0 (.seq (.reg [oo 67 (.cmpl .lss (.t 66) (ki 4))]) (.seq (.cond (.t 67) (.skip) (.exit 1)) (.seq (.blk 2 (.seq (.reg [om 68 66,om 8 68]) (.seq (.drw [om 69 0,oo 70 (.nchk (.t 69)),oo 71 (fl 3 70),oo 72 (ln 71),om 73 5,om 74 8,oo 75 (.call (.t 73) [(.t 74)]),o none (.mdel false [.int .i64,.int .i64] (.t 72) (.t 75))] [[],[0],[1],[2],[],[],[4,5],[3,6,6]]) (.seq (.reg [om 76 7]) (.cond (.t 76) (.drw [om 77 0,oo 78 (.nchk (.t 77)),oo 79 (fl 3 78),oo 80 (ln 79),om 81 5,om 82 8,oo 83 (.call (.t 81) [(.t 82)]),oo 84 (fl 0 6),oo 85 (ls 2 84),om 86 8,oo 87 (.arl .add (.t 86) (ki 1)),oo 88 (.bld [.ff,(kz 0),(kz 0)] [(0,2,(.t 85)),(2,1,(.t 87))]),o none (.mup false [.int .i64,.int .i64] (.t 80) (.t 83) (.t 88))] [[],[0],[1],[2],[],[],[4,5],[],[7],[],[9],[8,10],[3,6,11,6,0,1,2,3,4,5,6,7,8,9,10,11]]) (.skip)))))) (.reg [oo 89 (.arl .add (.t 66) (ki 1)),om 66 89])))))))) (.seq (.reg [oo 91 (cc .eql 14 45),om 90 91]) (.cond (.t 90) (.seq (.drw [om 93 0,oo 94 (.nchk (.t 93)),oo 95 (fl 3 94),oo 96 (ln 95),om 97 5,oo 98 (.call (.t 97) [(ki 0)]),oo 99 (.lkp true false [.int .i64,.int .i64] false [.bool false,.int .i64 0,.int .i64 0] (.t 96) (.t 98)),om 92 99,oo 100 (ex_ 0 92),oo 101 (ex_ 1 92),oo 9 (.alloc [.ff,(kz 0),(kz 0)]),o none (.st (some 3) (.t 9) (.t 100)),om 10 101] [[],[0],[1],[2],[],[4],[3,5],[6],[7],[7],[],[10,8,5,0,1,2,3,4,5,6,7,8,10],[9,11,0,1,2,3,4,5,6,7,8,9,10,11]])
 (.seq (.seq (.reg [oo 102 (.mv (ki 0))]) (.blk 3 (.loop 1 (.seq (.reg [oo 103 (.cmpl .lss (.t 102) (ki 4))]) (.seq (.cond (.t 103) (.skip) (.exit 3)) (.seq (.blk 4 (.seq (.reg [om 104 102,om 11 104]) (.drw [om 105 10,sm 106 105,mt 106 107 0,gt_ 106 108 (.nchk (.t 107)),gt_ 106 109 (fl 3 108),gt_ 106 110 (ln 109),mt 106 111 5,mt 106 112 11,gt_ 106 113 (.call (.t 111) [(.t 112)]),gt_ 106 114 (.lkp false false [.int .i64,.int .i64] false [.bool false,.int .i64 0,.int .i64 0] (.t 110) (.t 113)),gt_ 106 115 (fl 0 9),gt_ 106 116 (ls 2 115),mt 106 117 11,gt_ 106 118 (.arl .add (.t 117) (ki 1)),gt_ 106 119 (.bld [.ff,(kz 0),(kz 0)] [(0,2,(.t 116)),(2,1,(.t 118))]),gt_ 106 120 (.eqs [.bool,.int .i64,.int .i64] false (.t 114) (.t 119)),oo 121 (pf 106 120),om 10 121] [[],[0],[1],[2,1],[3,1],[4,1],[1],[1],[6,7,1,1],[5,8,1],[1],[10,1],[1],[12,1],[11,13,1],[9,14,1],[1,15],[16,8,0,1,2,3,4,5,6,7,8,9,10,11,12,13,14,15,16]]))) (.reg [oo 122 (.arl .add (.t 102) (ki 1)),om 102 122]))))))) (.seq (.drw [om 123 0,oo 124 (.nchk (.t 123)),oo 125 (fl 3 124),oo 126 (ln 125),oo 127 (fl 4 3),oo 128 (ln 127),oo 129 (.bld [(kz 0),(kz 0)] [(0,1,(ki 1)),(1,1,(.t 128))]),o none (.mdel false [.int .i64,.int .i64] (.t 126) (.t 129))] [[],[0],[1],[2],[],[4],[5],[3,6]]) (.seq (.reg [om 130 10]) (.cond (.t 130) (.drw [om 131 0,oo 132 (.nchk (.t 131)),oo 133 (fl 3 132),oo 134 (ln 133),oo 135 (fl 4 3),oo 136 (ln 135),oo 137 (.bld [(kz 0),(kz 0)] [(0,1,(ki 1)),(1,1,(.t 136))]),oo 138 (fl 0 9),oo 139 (ls 2 138),oo 140 (.bld [.ff,(kz 0),(kz 0)] [(0,2,(.t 139))]),o none (.mup false [.int .i64,.int .i64] (.t 134) (.t 137) (.t 140))] [[],[0],[1],[2],[],[4],[5],[],[7],[8],[3,6,9,0,1,2,3,4,5,6,7,8,9]]) (.skip)))))) (.seq (.reg [oo 4 (.mv kf)]) (.ret)))))))))))))))) (.seq (.reg [oo 4 (.mv kt)]) (.ret))))
theorem zBO : zar Tryz.prog 112 141 zAw [.t 4] := fk Tryz.func112 ⟨tv,⟨tv,⟨⟨tv,⟨tv,⟨tv,⟨tv,⟨tv,⟨tv,⟨tv,⟨tv,⟨tv,⟨tv,⟨⟨tv,⟨tv,⟨tv,⟨⟨tv,tv⟩,⟨⟨tv,⟨tv,⟨tv,⟨tv,tv⟩⟩⟩⟩,tv⟩⟩⟩⟩⟩,⟨tv,⟨⟨tv,⟨⟨tv,⟨tv,⟨⟨tv,tv⟩,⟨⟨tv,tv⟩,tv⟩⟩⟩⟩,⟨tv,⟨tv,⟨tv,tv⟩⟩⟩⟩⟩,⟨tv,tv⟩⟩⟩⟩⟩⟩⟩⟩⟩⟩⟩⟩⟩⟩,⟨tv,tv⟩⟩⟩⟩
attribute [local irreducible] Go.Sx.zaf Go.Sx.zas
abbrev zag (x : HI) (k : Int) : PL := ⟨2, x.k + k⟩
def zem (x : HI) (y : HR) (is : Bool) (es : HM) (k : Int) : HM := if is = true then zan MPC (zag x k) (CT.mk y (k + 1)) (zaO MPC (zag x k) es) else zaO MPC (zag x k) es
def zbo (es : HM) (x : HI) : HM :=
 let is := (zas MPC (PL.mk 1 x.a) es).isSome
 let y := (ctG ⟨1, x.a⟩ es).r
 zem x y is (zem x y is (zem x y is (zem x y is es 0) 1) 2) 3
def eqC (c : CT) (y : HR) (p : Int) : Prop := (c.r.vec = true ↔ y.vec = true) /\ c.r.n = y.n /\ c.part = p /\ True
instance (c y p) : Decidable (eqC c y p) := inferInstanceAs (Decidable (_ /\ _ /\ _ /\ _))
abbrev zig (es : HM) (x : HI) : Prop := (zas MPC (zag x 0) es).isSome = true /\ eqC (ctG (zag x 0) es) (ctG (zag x 0) es).r 1 /\ eqC (ctG (zag x 1) es) (ctG (zag x 0) es).r 2 /\ eqC (ctG (zag x 2) es) (ctG (zag x 0) es).r 3 /\ eqC (ctG (zag x 3) es) (ctG (zag x 0) es).r 4
def za8 (es : HM) (x : HI) : HM := if zig es x then zan MPC (PL.mk 1 x.d) (CT.mk (ctG (zag x 0) es).r 0) (zaO MPC (PL.mk 1 x.d) es) else zaO MPC (PL.mk 1 x.d) es
def zbs (es : HM) (x : HI) : HM × Bool :=
 if x.op = 2 then (zbi es ⟨0, x.d⟩ ⟨0, x.a⟩, true)
 else if x.op = 8 then (zbi es ⟨1, x.d⟩ ⟨1, x.a⟩, true)
 else if x.op = 42 then (zbi es (zag x 0) ⟨0, x.a⟩, true)
 else if x.op = 43 then (zbi es ⟨0, x.d⟩ (zag x 0), true)
 else if x.op = 44 then (zbo es x, true)
 else if x.op = 45 then (za8 es x, true)
 else (es, false)
theorem zlu {es : HM} {x : HI} (h : x.op = 2) : zbs es x = (zbi es ⟨0, x.d⟩ ⟨0, x.a⟩, true) := by simp [zbs, h]
theorem zlv {es : HM} {x : HI} (h : x.op = 8) : zbs es x = (zbi es ⟨1, x.d⟩ ⟨1, x.a⟩, true) := by simp [zbs, h]
theorem zjA {es : HM} {x : HI} (h : x.op = 42) : zbs es x = (zbi es (zag x 0) ⟨0, x.a⟩, true) := by simp [zbs, h]
theorem zjB {es : HM} {x : HI} (h : x.op = 43) : zbs es x = (zbi es ⟨0, x.d⟩ (zag x 0), true) := by simp [zbs, h]
theorem zgp {es : HM} {x : HI} (h : x.op = 44) : zbs es x = (zbo es x, true) := by simp [zbs, h]
theorem zew {es : HM} {x : HI} (h : x.op = 45) : zbs es x = (za8 es x, true) := by simp [zbs, h]
theorem zmg {es : HM} {x : HI} (h1 : ¬ x.op = 2) (h2 : ¬ x.op = 8) (h3 : ¬ x.op = 42) (h4 : ¬ x.op = 43) (h5 : ¬ x.op = 44) (h6 : ¬ x.op = 45) : zbs es x = (es, false) := by simp [zbs, h1, h2, h3, h4, h5, h6]
theorem zoK {es : HM} {x : HI} (h : (zas MPC (PL.mk 1 x.a) es).isSome = true) : zbo es x =
 zan MPC (zag x 3) (CT.mk (ctG ⟨1, x.a⟩ es).r 4) (zaO MPC (zag x 3) (zan MPC (zag x 2) (CT.mk (ctG ⟨1, x.a⟩ es).r 3) (zaO MPC (zag x 2) (zan MPC (zag x 1) (CT.mk (ctG ⟨1, x.a⟩ es).r 2) (zaO MPC (zag x 1) (zan MPC (zag x 0) (CT.mk (ctG ⟨1, x.a⟩ es).r 1) (zaO MPC (zag x 0) es))))))) := by
  simp only [zbo, zem, h, if_true]; rfl
theorem zlz {es : HM} {x : HI} (h : (zas MPC (PL.mk 1 x.a) es).isSome = false) : zbo es x = zaO MPC (zag x 3) (zaO MPC (zag x 2) (zaO MPC (zag x 1) (zaO MPC (zag x 0) es))) := by
 simp only [zbo, zem, h]; rfl
theorem zzK {es : HM} {x : HI} (h : (zas MPC (zag x 0) es).isSome = true) (h0 : eqC (ctG (zag x 0) es) (ctG (zag x 0) es).r 1) (h1 : eqC (ctG (zag x 1) es) (ctG (zag x 0) es).r 2) (h2 : eqC (ctG (zag x 2) es) (ctG (zag x 0) es).r 3)
 (h3 : eqC (ctG (zag x 3) es) (ctG (zag x 0) es).r 4) : za8 es x = zan MPC (PL.mk 1 x.d) (CT.mk (ctG (zag x 0) es).r 0) (zaO MPC (PL.mk 1 x.d) es) := by
  unfold za8; rw [if_pos ⟨h, h0, h1, h2, h3⟩]
theorem zjW {es : HM} {x : HI} (h : (zas MPC (zag x 0) es).isSome = false \/ ¬ eqC (ctG (zag x 0) es) (ctG (zag x 0) es).r 1 \/ ¬ eqC (ctG (zag x 1) es) (ctG (zag x 0) es).r 2 \/ ¬ eqC (ctG (zag x 2) es) (ctG (zag x 0) es).r 3 \/ ¬ eqC (ctG (zag x 3) es) (ctG (zag x 0) es).r 4) :
 za8 es x = zaO MPC (PL.mk 1 x.d) es := by
  unfold za8; rw [if_neg]
  rintro ⟨a, b, c, d, e⟩
  rcases h with h | h | h | h | h
  . rw [h] at a; cases a
  . exact h b
  . exact h c
  . exact h d
  . exact h e
theorem bdk {x : HI} {e : Int} (hp : 42 <= x.op -> x.op <= 45 -> 0 <= x.k /\ x.k <= 1000) (n : Int) (h : x.op = n) (h1 : 42 <= n) (h2 : n <= 45) (he : 0 <= e /\ e <= 3) : (0 <= e /\ e <= 3) /\ -1000000 <= x.k /\ x.k <= 1000000 := by
 have := hp (by omega) (by omega)
 exact ⟨he, by omega, by omega⟩
theorem mpe {a b : HM} (h : a = b) : MPS a = MPS b := by rw [h]
theorem i1 {p : HM × Bool} {a : HM} {b : Bool} (h : p = (a, b)) : p.1 = a := by rw [h]
theorem i2 {p : HM × Bool} {a : HM} {b : Bool} (h : p = (a, b)) : p.2 = b := by rw [h]
noncomputable def zur (v : VL) (es : HM) (x : HI) : zaa := ⟨[.ptr 0 0 0, .agg x.cells], [v.row, .map MPC es none], [some v.row, some (.map MPC (zbs es x).1 none)], [], .bool (zbs es x).2⟩
set_option maxHeartbeats 4000000 in
theorem zC6 (v : VL) (es : HM) (x : HI) (hp : 42 <= x.op -> x.op <= 45 -> 0 <= x.k /\ x.k <= 1000) : zaa.ok Tryz.prog GG 112 (zur v es x) := by
 refine zad mix zBO _ rfl rfl (Tab.ok (l := [(149, zqg), (150, zqh)]) ⟨zEp, zEq, trivial⟩) (fun _ => .rounds 6) noJ ?_
 repeat' ((conv => whnf); first
  | exact trivial
  | with_reducible first | refine aj ?_ | refine ai rfl ?_ | refine ai ⟨rfl, rfl⟩ ?_
  | ((with_reducible refine ai ?_ ?_); focus exact w3)
  | refine And.intro (Sd.mk (p := zaj.one MPC = _ /\ _) ⟨rfl, rfl⟩) ?_
  | refine And.intro (Sd.mk (p := zaj.vone MPC = _ /\ _) ⟨rfl, rfl⟩) ?_
  | apply exI (x := ULift.up (PL.mk _ _)) trivial
  | apply exI (x := ULift.up (CT.mk (HR.mk _ _) _)) trivial
  | with_reducible first | refine And.intro ?_ ?_ | refine zae ?_ | refine exI (i64_in (by omega) (by omega)) ?_
  | refine exI (x := ULift.up _) (Eq.refl _) ?_
  | refine exI (x := ULift.up _) ⟨rfl, by omega, Eq.refl _⟩ ?_
  | exact nx
  | ((with_reducible intro h); try dsimp only at h))
 all_goals (refine Sd.mk ?_)
 all_goals first
  | exact i2 (zlu ‹_›)
  | exact i2 (zlv ‹_›)
  | exact i2 (zjA ‹_›)
  | exact i2 (zjB ‹_›)
  | exact i2 (zgp ‹_›)
  | exact i2 (zew ‹_›)
  | exact i2 (zmg ‹_› ‹_› ‹_› ‹_› ‹_› ‹_›)
  | exact mpe (i1 (zlu ‹_›))
  | exact mpe (i1 (zlv ‹_›))
  | exact mpe (i1 (zjA ‹_›))
  | exact mpe (i1 (zjB ‹_›))
  | exact mpe (i1 (zmg ‹_› ‹_› ‹_› ‹_› ‹_› ‹_›))
  | exact mpe ((i1 (zgp ‹_›)).trans (zoK ‹_›))
  | exact mpe ((i1 (zgp ‹_›)).trans (zlz ‹_›))
  | exact mpe ((i1 (zew ‹_›)).trans (zzK ‹_› ‹_› ‹_› ‹_› ‹_›))
  | exact mpe ((i1 (zew ‹_›)).trans (zjW (.inl ‹_›)))
  | exact mpe ((i1 (zew ‹_›)).trans (zjW (.inr (.inl ‹_›))))
  | exact mpe ((i1 (zew ‹_›)).trans (zjW (.inr (.inr (.inl ‹_›)))))
  | exact mpe ((i1 (zew ‹_›)).trans (zjW (.inr (.inr (.inr (.inl ‹_›))))))
  | exact mpe ((i1 (zew ‹_›)).trans (zjW (.inr (.inr (.inr (.inr ‹_›))))))
  | exact bdk hp 42 ‹_› (by decide) (by decide) (by decide)
  | exact bdk hp 43 ‹_› (by decide) (by decide) (by decide)
  | exact bdk hp 44 ‹_› (by decide) (by decide) (by decide)
  | exact bdk hp 45 ‹_› (by decide) (by decide) (by decide)
  | exact ⟨⟨trivial, trivial, trivial⟩, trivial, trivial⟩
noncomputable def znP : SFn
 | [.ptr p _ _, a1], k => zfS p fun v es => zdh a1 fun x => .req (42 <= x.op -> x.op <= 45 -> 0 <= x.k /\ x.k <= 1000) (k (zur v es x))
 | _, _ => .fail
theorem zxH : FnS Tryz.prog GG 112 znP := by
 intro args k gt go R v os n h
 unfold znP at h
 split at h
 . obtain ⟨v, es, _, h⟩ := zea h
   obtain ⟨x, _, h⟩ := zbp h
   obtain ⟨hp, _, h⟩ := zaz h
   exact ⟨_, _, zC6 v es x hp, h⟩
 . cases h
end
section
def zdx (es : HM) : List HR -> List HR -> Bool
 | r :: rs, u :: us => (zas MPC (ofF r) es).isSome && decide (eqC (ctG (ofF r) es) u 0) && zdx es rs us
 | _, _ => true
def zjL (es : HM) (r : HR) : HM := es.filter fun e => decide (e.2.r ≠ r)
def zhu (x : HI) : Int := if (zal x).2 = true then (zal x).1.n else 0
def eqH (a b : HI) : Prop := a.op = b.op /\ a.sub = b.sub /\ a.frm = b.frm /\ a.ty = b.ty /\ a.d = b.d /\ a.a = b.a /\ a.b = b.b /\ a.c = b.c /\ a.k = b.k /\ a.i = b.i /\ a.ch = b.ch /\ a.v0 = b.v0 /\ a.v1 = b.v1 /\ a.v2 = b.v2 /\ a.v3 = b.v3 /\ True
theorem znf (a b : HI) : eqH a b ↔ a = b := by
 constructor
 . intro h
   obtain ⟨h0, h1, h2, h3, h4, h5, h6, h7, h8, h9, h10, h11, h12, h13, h14, _⟩ := h
   cases a; cases b
   dsimp only at *
   subst h0; subst h1; subst h2; subst h3; subst h4; subst h5; subst h6; subst h7; subst h8; subst h9; subst h10; subst h11; subst h12; subst h13; subst h14
   rfl
 . rintro rfl
   exact ⟨rfl, rfl, rfl, rfl, rfl, rfl, rfl, rfl, rfl, rfl, rfl, rfl, rfl, rfl, rfl, trivial⟩
def eqR (a b : HR) : Prop := (a.vec = true ↔ b.vec = true) /\ a.n = b.n /\ True
theorem zh9 (a b : HR) : eqR a b ↔ a = b := by
 cases a; cases b
 simp only [eqR, HR.mk.injEq, and_true]
 rw [<- Bool.eq_iff_iff]
def zeS (x old : HI) : Bool := decide ((zc9 x (zhu old) ((zak old).map HR.n)).2 = 0 /\ (zc9 x (zhu old) ((zak old).map HR.n)).1 = old)
def zbg (es : HM) (code : List HI) (x : HI) (i : Int) : HM × Bool :=
 if i < 0 \/ code.length <= i then (es, false)
 else if zeS x (nth code i) = false then (es, false)
 else if zdx es (zak x) (zak (nth code i)) = false then (es, false)
 else if (zal x).2 = true /\ (zal (nth code i)).2 = true then (zan MPC (ofF (zal x).1) (CT.mk (zal (nth code i)).1 0) (zjL es (zal (nth code i)).1), true)
 else (es, true)
theorem zkZ (es : HM) (rs us : List HR) (j : Int) (h : 0 <= j /\ j < rs.length) (h2 : j < us.length) :
 zdx es (rs.drop j.toNat) (us.drop j.toNat) = ((zas MPC (ofF (nth rs j)) es).isSome && decide (eqC (ctG (ofF (nth rs j)) es) (nth us j) 0) && zdx es (rs.drop (j + 1).toNat) (us.drop (j + 1).toNat)) := by
  rw [zaG rs j h, zaG us j ⟨h.1, h2⟩, zdx]
theorem zop (es : HM) (rs us : List HR) (j : Int) (h : ¬ j < rs.length) : zdx es (rs.drop j.toNat) (us.drop j.toNat) = true := by
 rw [List.drop_eq_nil_of_le (by omega), zdx]
 intros; contradiction
def zbG (es : HM) (left : List PL) (r : HR) : HM := es.filter fun e => decide (e.1 ∈ left \/ e.2.r ≠ r)
def ndk (es : HM) : Prop := (es.map (·.1)).Nodup
theorem zgK {M : zaj} {k : M.κ} : ∀ {l : List M.κ}, k ∈ l -> (zaB M k l).length < l.length
 | j :: l, h => by
   have le : ∀ (l : List M.κ), (zaB M k l).length <= l.length := by
    intro l
    induction l with
    | nil => simp [zaB]
    | cons a l ih => simp only [zaB]; split <;> simp <;> omega
   simp only [zaB]
   split
   . have := le l; simp; omega
   . rename_i hne _
     rcases List.mem_cons.1 h with rfl | h
     . exact absurd rfl hne
     . have := zgK h; simp; omega
theorem zeO {k : PL} : ∀ {es : HM}, ndk es -> zaO MPC k es = es.filter fun e => decide (e.1 ≠ k)
 | [], _ => rfl
 | (j, u) :: r, h => by
   simp only [ndk, List.map_cons, List.nodup_cons] at h
   simp only [zaO]
   split
   . rename_i e _
     subst e
     rw [List.filter_cons_of_neg (by simp), List.filter_eq_self.2]
     intro a ha
     simp only [decide_eq_true_eq]
     intro e
     exact h.1 (List.mem_map.2 ⟨a, ha, e⟩)
   . rename_i e _
     rw [List.filter_cons_of_pos (by simpa using e), zeO (es := r) h.2]
theorem zon (es : HM) (r : HR) : zbG es (es.map Prod.fst) r = es := by
 unfold zbG; rw [List.filter_eq_self]
 intro a ha
 simp only [decide_eq_true_eq]
 exact .inl (List.mem_map.2 ⟨a, ha, rfl⟩)
theorem ziN {es : HM} {left : List PL} {r : HR} {e : PL × CT} : e ∈ zbG es left r ↔ e ∈ es /\ (e.1 ∈ left \/ e.2.r ≠ r) := by
 unfold zbG; rw [List.mem_filter]; simp only [decide_eq_true_eq]
theorem zpq {es : HM} (h : ndk es) {a b : PL × CT} (ha : a ∈ es) (hb : b ∈ es) (e : a.1 = b.1) : a = b := by
 induction es with
 | nil => cases ha
 | cons c es ih =>
   simp only [ndk, List.map_cons, List.nodup_cons] at h
   rcases List.mem_cons.1 ha with h1 | h1 <;> rcases List.mem_cons.1 hb with h2 | h2
   . rw [h1, h2]
   . rw [h1] at e; exact absurd (List.mem_map.2 ⟨b, h2, e.symm⟩) h.1
   . rw [h2] at e; exact absurd (List.mem_map.2 ⟨a, h1, e⟩) h.1
   . exact ih h.2 h1 h2
theorem zpp {es : HM} {left : List PL} {r : HR} {k : PL} {c : CT} (hn : ndk es) (hm : (k, c) ∈ zbG es left r) (hc : c.r ≠ r) : zbG es (zaB MPC k left) r = zbG es left r := by
 have hk := (ziN.1 hm).1
 unfold zbG
 apply List.filter_congr
 intro a ha
 rw [Bool.eq_iff_iff]
 simp only [decide_eq_true_eq]
 rw [show (a.1 ∈ zaB MPC k left ↔ a.1 ∈ left /\ a.1 ≠ k) from zbW]
 constructor
 . rintro (h | h)
   . exact .inl h.1
   . exact .inr h
 . rintro (h | h)
   . by_cases e : a.1 = k
     . have := zpq hn ha hk e
       subst this
       exact .inr hc
     . exact .inl ⟨h, e⟩
   . exact .inr h
theorem zeA {es : HM} (h : ndk es) (p : PL × CT -> Bool) : ndk (es.filter p) := by
 unfold ndk at *
 exact (List.Sublist.map _ List.filter_sublist).nodup h
theorem zry {es : HM} {left : List PL} {r : HR} {k : PL} {c : CT} (hn : ndk es) (hm : (k, c) ∈ zbG es left r) (hc : c.r = r) : zaO MPC k (zbG es left r) = zbG es (zaB MPC k (zaB MPC k left)) r := by
 have hk := (ziN.1 hm).1
 unfold zbG
 rw [zeO (zeA hn _), List.filter_filter]
 apply List.filter_congr
 intro a ha
 rw [Bool.eq_iff_iff]
 simp only [Bool.and_eq_true, decide_eq_true_eq]
 rw [show (a.1 ∈ zaB MPC k (zaB MPC k left) ↔ a.1 ∈ zaB MPC k left /\ a.1 ≠ k) from zbW, show (a.1 ∈ zaB MPC k left ↔ a.1 ∈ left /\ a.1 ≠ k) from zbW]
 constructor
 . rintro ⟨h1, h2 | h2⟩
   . exact .inl ⟨⟨h2, h1⟩, h1⟩
   . exact .inr h2
 . rintro (⟨⟨h1, h2⟩, _⟩ | h2)
   . exact ⟨h2, .inl h1⟩
   . refine ⟨fun e => ?_, .inr h2⟩
     have := zpq hn ha hk e
     subst this
     exact h2 hc
theorem zrz {es : HM} {left : List PL} {r : HR} (h : ∀ p ∈ zbG es left r, p.1 ∉ left) : zbG es left r = zjL es r := by
 unfold zbG zjL
 apply List.filter_congr
 intro a ha
 rw [Bool.eq_iff_iff]
 simp only [decide_eq_true_eq]
 constructor
 . rintro (h1 | h1)
   . intro e
     exact h a (ziN.2 ⟨ha, .inl h1⟩) h1
   . exact h1
 . exact .inr
theorem zcF {es : HM} {k : PL} {c : CT} (h : ndk es) : ndk (zan MPC k c es) := by
 have key : ∀ (es : HM), (∀ x, x ∈ (zan MPC k c es).map (·.1) ↔ x = k \/ x ∈ es.map (·.1)) := by
  intro es x
  induction es with
  | nil => simp [zan]
  | cons a es ih =>
    obtain ⟨j, u⟩ := a
    simp only [zan]
    split
    . rename_i e _; subst e; simp
    . simp only [List.map_cons, List.mem_cons, ih]
      constructor
      . rintro (h | h | h)
        . exact .inr (.inl h)
        . exact .inl h
        . exact .inr (.inr h)
      . rintro (h | h | h)
        . exact .inr (.inl h)
        . exact .inl h
        . exact .inr (.inr h)
 unfold ndk at *
 induction es with
 | nil => simp [zan]
 | cons a es ih =>
   obtain ⟨j, u⟩ := a
   simp only [List.map_cons, List.nodup_cons] at h
   simp only [zan]
   split
   . rename_i e _; simp only [List.map_cons, List.nodup_cons]; exact h
   . rename_i e _
     simp only [List.map_cons, List.nodup_cons]
     refine ⟨fun hm => ?_, ih h.2⟩
     rcases (key es j).1 hm with hm | hm
     . exact e hm
     . exact h.1 hm
theorem zbn {es : HM} {k : PL} (h : ndk es) : ndk (zaO MPC k es) := by
 rw [zeO h]; exact zeA h _
theorem zcI {k : PL} {c : CT} : ∀ {es : HM}, ndk es -> (k, c) ∈ es -> zas MPC k es = some c
 | (j, u) :: r, h, hm => by
   simp only [ndk, List.map_cons, List.nodup_cons] at h
   rw [zas]
   split
   . rename_i e _
     subst e
     rcases List.mem_cons.1 hm with h1 | h1
     . cases h1; rfl
     . exact absurd (List.mem_map.2 ⟨(j, c), h1, rfl⟩) h.1
   . rename_i e _
     rcases List.mem_cons.1 hm with h1 | h1
     . cases h1; exact absurd rfl e
     . exact zcI h.2 h1
theorem zjd {k : PL} {c : CT} {es : HM} (h : ndk es) (hm : (k, c) ∈ es) : ctG k es = c := by
 unfold ctG; rw [zaf, zcI h hm]; rfl
end
section
def zAx : MC := .seq (.reg [oo 4 (.box (.t 1)),oo 6 (.mv kf)]) (.seq (.seq (.reg [om 25 2,oo 26 (cc .lss 25 0),sm 27 26,mf 27 28 2,mf 27 29 0,gf 27 30 (.nchk (.t 29)),gf 27 31 (fl 2 30),gf 27 32 (ln 31),gf 27 33 (.lenS (.t 32)),gf 27 34 (ct .geq 28 33),oo 35 (pt 27 34)]) (.cond (.t 35) (.seq (.reg [oo 6 (.mv kf)]) (.ret)) (.skip))) (.seq (.reg [om 36 0,oo 37 (.nchk (.t 36)),oo 38 (fl 2 37),oo 39 (ln 38),om 40 2,oo 41 (ia 15 39 40),oo 42 (ls 15 41),oo 7 (.alloc zI),o none (.st (some 15) (.t 7) (.t 42))]) (.seq (.reg [oo 43 (ls 15 7),oo 44 (fc 34 [(.t 43)]),om 8 44,oo 9 (.mv (ki 0))]) (.seq (.reg [oo 46 (ls 15 7),oo 47 (fc 33 [(.t 46)]),om 45 47,oo 48 (ex_ 0 45),oo 49 (ex_ 1 45),oo 10 (.alloc [.ff,(kz 0)]),o none (.st (some 2) (.t 10) (.t 48)),om 11 49]) (.seq (.seq (.reg [om 50 11]) (.cond (.t 50) (.reg [oo 51 (fl 1 10),oo 52 (ln 51),om 9 52]) (.skip))) (.seq (.reg [oo 12 (.mv (.k (.val (.slice none 0 0))))]) (.seq (.seq (.reg [om 53 8,oo 54 (.lenS (.t 53)),oo 55 (.mv (ki 0))]) (.blk 0 (.loop 0 (.seq (.reg [oo 56 (ct .lss 55 54)]) (.seq (.cond (.t 56) (.skip) (.exit 0)) (.seq (.blk 1 (.seq (.reg [oo 57 (ia 2 53 55),oo 58 (ls 2 57),oo 14 (.alloc [.ff,(kz 0)]),o none (.st (some 2) (.t 14) (.t 58))]) (.reg [om 59 12,oo 60 (fl 1 14),oo 61 (ln 60),oo 62 (.bsl 1 1 [(kz 0)] [(0,(.t 61))]),oo 63 (.app 1 8 (.t 59) (.t 62)),om 12 63]))) (.reg [oo 64 (ac .add 55 1),om 55 64]))))))) (.seq (.reg [oo 66 (ls 15 4),om 67 9,om 68 12,oo 69 (fc 38 [(.t 66),(.t 67),(.t 68)]),om 65 69,oo 70 (ex_ 0 65),oo 71 (ex_ 1 65),oo 15 (.alloc zI),o none (.st (some 15) (.t 15) (.t 70)),om 16 71]) (.seq (.seq (.reg [om 72 16,oo 73 (cc .neq 72 0),sm 74 73,gf 74 75 (ls 15 15),gf 74 76 (ls 15 7),gf 74 77 (.eqs [.int .i64,.int .i64,.int .i64,.int .i64,.int .i64,.int .i64,.int .i64,.int .i64,.int .i64,.int .u32,.int .u32,.int .u32,.int .u32,.int .u32,.int .u32] true (.t 75) (.t 76)),oo 78 (pt 74 77)]) (.cond (.t 78) (.seq (.reg [oo 6 (.mv kf)]) (.ret)) (.skip))) (.seq (.seq (.reg [oo 79 (ls 15 4),oo 80 (fc 34 [(.t 79)]),oo 81 (.lenS (.t 80)),oo 82 (.mv (ki 0))]) (.blk 2 (.loop 1 (.seq (.reg [oo 83 (ct .lss 82 81)]) (.seq (.cond (.t 83) (.skip) (.exit 2)) (.seq (.blk 3 (.seq (.reg [om 84 82,oo 85 (ia 2 80 82),oo 86 (ls 2 85),oo 18 (.alloc [.ff,(kz 0)]),om 17 84,o none (.st (some 2) (.t 18) (.t 86))]) (.seq (.drw [om 88 0,oo 89 (.nchk (.t 88)),oo 90 (fl 3 89),oo 91 (ln 90),oo 92 (ls 2 18),oo 93 (fc 151 [(.t 92)]),oo 94 (.lkp true false [.int .i64,.int .i64] false [.bool false,.int .i64 0,.int .i64 0] (.t 91) (.t 93)),om 87 94,oo 95 (ex_ 0 87),oo 96 (ex_ 1 87),oo 19 (.alloc [.ff,(kz 0),(kz 0)]),o none (.st (some 3) (.t 19) (.t 95)),om 20 96] [[],[0],[1],[2],[],[4],[3,5],[6],[7],[7],[],[10,8,5,0,1,2,3,4,5,6,7,8,10],[9,11,0,1,2,3,4,5,6,7,8,9,10,11]]) (.seq (.drw [om 97 20,oo 98 (.not (.t 97)),sm 99 98,gf 99 100 (ls 3 19),mf 99 101 8,mf 99 102 17,gf 99 103 (ia 2 101 102),gf 99 104 (ls 2 103),gf 99 105 (.bld [.ff,(kz 0),(kz 0)] [(0,2,(.t 104))]),gf 99 106 (.eqs [.bool,.int .i64,.int .i64] true (.t 100) (.t 105)),oo 107 (pt 99 106)] [[],[0],[1],[2],[2],[2],[4,5,2],[6,2],[7,2],[3,8,2],[2,9]])
 (.cond (.t 107) (.seq (.reg [oo 6 (.mv kf)]) (.ret)) (.skip)))))) (.reg [oo 108 (ac .add 82 1),om 82 108]))))))) (.seq (.seq (.reg [oo 110 (ls 15 4),oo 111 (fc 33 [(.t 110)]),om 109 111,oo 112 (ex_ 0 109),oo 113 (ex_ 1 109),oo 21 (.alloc [.ff,(kz 0)]),o none (.st (some 2) (.t 21) (.t 112)),om 22 113]) (.seq (.reg [om 114 22,sm 115 114,mt 115 116 11,oo 117 (pf 115 116)]) (.cond (.t 117) (.seq (.seq (.reg [om 118 0,oo 119 (.nchk (.t 118)),oo 120 (fl 3 119),oo 121 (ln 120),oo 122 (.rngm (.t 121))]) (.blk 4 (.loop 2 (.seq (.reg [oo 123 (.nxt (.t 122)),oo 124 (ex_ 0 123)]) (.seq (.cond (.t 124) (.skip) (.exit 4)) (.blk 5 (.seq (.reg [oo 125 (.ent (.t 122)),oo 126 (ex_ 0 125),oo 127 (ex_ 1 125),oo 23 (.alloc [(kz 0),(kz 0)]),oo 24 (.alloc [.ff,(kz 0),(kz 0)]),o none (.st (some 2) (.t 23) (.t 126)),o none (.st (some 3) (.t 24) (.t 127))]) (.seq (.reg [oo 128 (fl 0 24),oo 129 (ls 2 128),oo 130 (ls 2 10),oo 131 (.eqs [.bool,.int .i64] false (.t 129) (.t 130))]) (.cond (.t 131) (.drw [om 132 0,oo 133 (.nchk (.t 132)),oo 134 (fl 3 133),oo 135 (ln 134),oo 136 (ls 2 23),o none (.mdel false [.int .i64,.int .i64] (.t 135) (.t 136))] [[],[0],[1],[2],[],[3,4]]) (.skip)))))))))) (.drw [om 137 0,oo 138 (.nchk (.t 137)),oo 139 (fl 3 138),oo 140 (ln 139),oo 141 (ls 2 21),oo 142 (fc 151 [(.t 141)]),oo 143 (ls 2 10),oo 144 (.bld [.ff,(kz 0),(kz 0)] [(0,2,(.t 143))]),o none (.mup false [.int .i64,.int .i64] (.t 140) (.t 142) (.t 144))] [[],[0],[1],[2],[],[4],[],[6],[3,5,7,5,0,1,2,3,4,5,6,7]])) (.skip)))) (.seq (.reg [oo 6 (.mv kt)]) (.ret)))))))))))))
theorem zBP : zar Tryz.prog 113 145 zAx [.t 6] := fk Tryz.func113 ⟨tv,⟨⟨tv,⟨⟨tv,tv⟩,tv⟩⟩,⟨tv,⟨tv,⟨tv,⟨⟨tv,⟨tv,tv⟩⟩,⟨tv,⟨⟨tv,⟨tv,⟨⟨tv,tv⟩,⟨⟨tv,tv⟩,tv⟩⟩⟩⟩,⟨tv,⟨⟨tv,⟨⟨tv,tv⟩,tv⟩⟩,⟨⟨tv,⟨tv,⟨⟨tv,tv⟩,⟨⟨tv,⟨tv,⟨tv,⟨⟨tv,tv⟩,tv⟩⟩⟩⟩,tv⟩⟩⟩⟩,⟨⟨tv,⟨tv,⟨⟨⟨tv,⟨tv,⟨⟨tv,tv⟩,⟨tv,⟨tv,⟨tv,tv⟩⟩⟩⟩⟩⟩,tv⟩,tv⟩⟩⟩,⟨tv,tv⟩⟩⟩⟩⟩⟩⟩⟩⟩⟩⟩⟩⟩
attribute [local irreducible] Go.Sx.zaf Go.Sx.zas ofF zc9
abbrev old (v : VL) (i : Int) : HI := nth v.code i
def npv (r : HR) : List PV := ipv r.n
def ztx (v : VL) (es : HM) (x : HI) (i : Int) (j : Int) : St :=
 ⟨[(55, kz j), (54, kz (zak (old v i)).length), (53, .slc 4 0 (zak (old v i)).length), (12, .slc 6 0 j.toNat), (11, .bool (zal (old v i)).2), (10, .ptr 5 0 0), (9, kz (zhu (old v i))), (8, .slc 4 0 (zak (old v i)).length), (7, .ptr 3 0 0), (4, .ptr 2 0 0), (0, .ptr 0 0 0)],
  [(0, some v.row), (1, some (.map MPC es none)), (2, some (.row x.cells)), (3, some (.row (old v i).cells)), (4, some (.vec 2 ((zak (old v i)).map HR.pv))), (5, some (.row (zal (old v i)).1.cells)), (6, some (.vec 1 (((zak (old v i)).take j.toNat).map npv)))], 7⟩
def zcQ (v : VL) (i j : Int) : Prop := 0 <= j /\ j <= (zak (old v i)).length /\ (zak (old v i)).length <= 3
def zty (v : VL) (es : HM) (x : HI) (i : Int) (j : Int) : St :=
 ⟨[(82, kz j), (81, kz (zak x).length), (80, .slc 5 0 (zak x).length), (11, .bool (zal (old v i)).2), (10, .ptr 4 0 0), (8, .slc 3 0 (zak (old v i)).length), (4, .ptr 2 0 0), (0, .ptr 0 0 0)],
  [(0, some v.row), (1, some (.map MPC es none)), (2, some (.row x.cells)), (3, some (.vec 2 ((zak (old v i)).map HR.pv))), (4, some (.row (zal (old v i)).1.cells)), (5, some (.vec 2 ((zak x).map HR.pv)))], 6⟩
def zcR (v : VL) (es : HM) (x : HI) (i j : Int) : Prop := 0 <= j /\ j <= (zak x).length /\ (zak x).length <= 3 /\ (zak x).length = (zak (old v i)).length /\ (0 <= i /\ i < v.code.length) /\ zeS x (old v i) = true ∧
 zdx es ((zak x).drop j.toNat) ((zak (old v i)).drop j.toNat) = zdx es (zak x) (zak (old v i))
abbrev zlA := List PL × Option PL × HM
def ztz (v : VL) (x : HI) (i : Int) : zlA -> St
 | (left, cur, es') => ⟨[(122, .ptr 4 0 0), (21, .ptr 3 0 0), (10, .ptr 2 0 0), (0, .ptr 0 0 0)],
  [(0, some v.row), (1, some (.map MPC es' (some (4, left, cur)))), (2, some (.row (zal (old v i)).1.cells)), (3, some (.row (zal x).1.cells)), (4, some (.itr 1))], 5⟩
def zi9 (v : VL) (es : HM) (i : Int) (c : zlA) : Prop := c.2.2 = zbG es c.1 (zal (old v i)).1
def zyo (v : VL) (es : HM) (x : HI) (i : Int) : Nat -> zcA
 | 0 => .inv Int (fun _ => zcQ v i) (ztx v es x i) (fun j => ((zak (old v i)).length - j).toNat)
 | 1 => .inv Int (fun _ => zcR v es x i) (zty v es x i) (fun j => ((zak x).length - j).toNat)
 | _ => .inv zlA (fun _ => zi9 v es i) (ztz v x i) (fun c => c.1.length)
theorem zAe {v : VL} {es : HM} {i : Int} {Q : zlA -> Prop} (h : ∀ left cur es', es' = zbG es left (zal (old v i)).1 -> Q (left, cur, es')) : ∀ c, zi9 v es i c -> Q c := fun ⟨left, cur, es'⟩ hI => h _ _ _ hI
theorem zml (us : List HR) (j : Int) (h : 0 <= j) (h2 : ¬ j < us.length) : List.take j.toNat (List.drop 0 (List.map npv (List.take j.toNat us))) = (us.map HR.n).map ipv := by
 rw [List.drop_zero, List.take_of_length_le (by simp; omega), List.take_of_length_le (l := us) (by omega), List.map_map]; rfl
abbrev zj3 (v : VL) (x : HI) (i : Int) : HI × Int := zc9 x (zhu (old v i)) ((zak (old v i)).map HR.n)
theorem zxt {v x i} (h1 : ¬ ¬ (zj3 v x i).2 = 0) (h2 : ¬ ¬ eqH (zj3 v x i).1 (old v i)) : zeS x (old v i) = true := by
 unfold zeS; rw [decide_eq_true_eq]
 exact ⟨Classical.not_not.1 h1, (znf _ _).1 (Classical.not_not.1 h2)⟩
theorem znD {v x i} (h1 : ¬ (zj3 v x i).2 = 0) : zeS x (old v i) = false := by
 unfold zeS; rw [decide_eq_false_iff_not]
 exact fun h => h1 h.1
theorem znE {v x i} (h2 : ¬ eqH (zj3 v x i).1 (old v i)) : zeS x (old v i) = false := by
 unfold zeS; rw [decide_eq_false_iff_not]
 exact fun h => h2 ((znf _ _).2 h.2)
theorem zr6 {x : HI} {d : Int} {us : List Int} (h : (zc9 x d us).2 = 0) : us.length = (zak x).length := by
 unfold zc9 at h
 split at h
 . cases h
 . split at h
   . cases h
   . rename_i h1; exact Classical.not_not.1 fun h2 => h1 (.inl h2)
theorem zoF {v : VL} {es x i} (h : i < 0 \/ (v.code.length : Int) <= i) : zbg es v.code x i = (es, false) := by unfold zbg; rw [if_pos h]
theorem zim {v : VL} {es x i} (h : zeS x (old v i) = false) : zbg es v.code x i = (es, false) := by
 unfold zbg; split
 . rfl
 . rfl
theorem zhc {v : VL} {es x i j} (hI : zcR v es x i j) (hj : j < (zak x).length) (h : (zas MPC (ofF (nth (zak x) j)) es).isSome = false \/ ¬ eqC (ctG (ofF (nth (zak x) j)) es) (nth (zak (old v i)) j) 0) : zbg es v.code x i = (es, false) := by
 obtain ⟨h1, h2, h3, h4, h5, h6, h7⟩ := hI
 rw [zkZ es _ _ j ⟨h1, hj⟩ (by omega)] at h7
 have h8 : zdx es (zak x) (zak (old v i)) = false := by
  rw [<- h7]
  rcases h with h | h
  . rw [h]; rfl
  . rw [decide_eq_false h]; simp
 unfold zbg
 rw [if_neg (by omega), if_neg (by rw [h6]; decide), if_pos h8]
theorem zxE {v : VL} {es x i j} (hI : zcR v es x i j) (hj : ¬ j < (zak x).length) : zbg es v.code x i = if (zal x).2 = true /\ (zal (old v i)).2 = true then (zan MPC (ofF (zal x).1) (CT.mk (zal (old v i)).1 0) (zjL es (zal (old v i)).1), true) else (es, true) := by
 obtain ⟨h1, h2, h3, h4, h5, h6, h7⟩ := hI
 rw [zop es _ _ j hj] at h7
 unfold zbg
 rw [if_neg (by omega), if_neg (by rw [h6]; decide), if_neg (by rw [<- h7]; decide)]
theorem zly {v : VL} {es x i j} (hI : zcR v es x i j) (hj : ¬ j < (zak x).length) (h : (zal x).2 = false \/ (zal (old v i)).2 = false) : zbg es v.code x i = (es, true) := by
 rw [zxE hI hj, if_neg]
 rintro ⟨a, b⟩
 rcases h with h | h
 . rw [h] at a; cases a
 . rw [h] at b; cases b
theorem zpJ {v : VL} {es x i j left es'} (hI : zcR v es x i j) (hj : ¬ j < (zak x).length) (h1 : (zal x).2 = true) (h2 : (zal (old v i)).2 = true) (he : es' = zbG es left (zal (old v i)).1) (ha : ∀ p ∈ es', p.1 ∉ left) :
 zbg es v.code x i = (zan MPC (ofF (zal x).1) (CT.mk (zal (old v i)).1 0) es', true) := by
  rw [zxE hI hj, if_pos ⟨h1, h2⟩]
  subst he
  rw [zrz ha]
theorem zz8 {v : VL} {i j} (hI : zcQ v i j) (hj : j < (zak (old v i)).length) : zcQ v i (j + 1) /\ ((zak (old v i)).length - (j + 1)).toNat < ((zak (old v i)).length - j).toNat := by
 obtain ⟨h1, h2, h3⟩ := hI
 exact ⟨⟨by omega, by omega, h3⟩, by omega⟩
theorem b_0 {v : VL} {es x i} (h1 : ¬ i < 0) (h2 : ¬ (v.code.length : Int) <= i) (h3 : ¬ ¬ (zj3 v x i).2 = 0) (h4 : ¬ ¬ eqH (zj3 v x i).1 (old v i)) : zcR v es x i 0 := by
 have h5 := zr6 (Classical.not_not.1 h3)
 rw [List.length_map] at h5
 exact ⟨by omega, by omega, zbY _, h5.symm, by omega, zxt h3 h4, rfl⟩
theorem zAl {v : VL} {es x i j} (hI : zcR v es x i j) (hj : j < (zak x).length) (h1 : (!(zas MPC (ofF (nth (zak x) j)) es).isSome) = false) (h2 : ¬ ¬ eqC (ctG (ofF (nth (zak x) j)) es) (nth (zak (old v i)) j) 0) :
 zcR v es x i (j + 1) /\ ((zak x).length - (j + 1)).toNat < ((zak x).length - j).toNat := by
  obtain ⟨k1, k2, k3, k4, k5, k6, k7⟩ := hI
  rw [zkZ es _ _ j ⟨k1, hj⟩ (by omega)] at k7
  rw [nf h1, decide_eq_true (Classical.not_not.1 h2)] at k7
  exact ⟨⟨by omega, by omega, k3, k4, k5, k6, by simpa using k7⟩, by omega⟩
theorem c_0 {v : VL} {es i} : zi9 v es i (List.map Prod.fst es, none, es) := (zon es _).symm
theorem zyB {v : VL} {es i left es' k c} (hn : ndk es) (he : es' = zbG es left (zal (old v i)).1) (hm : (k, c) ∈ es') (hl : k ∈ left) (h : eqR (ctG k es').r (zal (old v i)).1) :
 zi9 v es i (zaB MPC k (zaB MPC k left), none, zaO MPC k es') /\ (zaB MPC k (zaB MPC k left)).length < left.length := by
  subst he
  rw [zjd (es := zbG _ _ _) (zeA hn _) hm] at h
  refine ⟨zry hn hm ((zh9 _ _).1 h), ?_⟩
  have h1 := zgK (M := MPC) hl
  by_cases h2 : k ∈ zaB MPC k left
  . exact absurd rfl (zbW.1 h2).2
  . have h3 : ∀ (l : List PL), (zaB MPC k l).length <= l.length := by
     intro l
     induction l with
     | nil => simp [zaB]
     | cons a l ih => simp only [zaB]; split <;> simp <;> omega
    have := h3 (zaB MPC k left)
    omega
theorem zvG {v : VL} {es i left es' k c} (hn : ndk es) (he : es' = zbG es left (zal (old v i)).1) (hm : (k, c) ∈ es') (hl : k ∈ left) (h : ¬ eqR (ctG k es').r (zal (old v i)).1) :
 zi9 v es i (zaB MPC k left, some k, es') /\ (zaB MPC k left).length < left.length := by
  subst he
  rw [zjd (es := zbG _ _ _) (zeA hn _) hm] at h
  exact ⟨(zpp hn hm (fun e => h ((zh9 _ _).2 e))).symm, zgK (M := MPC) hl⟩
theorem zBx {x : HI} (h : (zal x).2 = true) : zhu x = (zal x).1.n := by unfold zhu; rw [if_pos h]
theorem zBw {x : HI} (h : (zal x).2 = false) : zhu x = 0 := by unfold zhu; rw [if_neg (by rw [h]; decide)]
theorem ztr (x : HI) : zc2 x.cells := ⟨trivial, trivial, trivial, trivial, trivial, trivial, trivial, trivial, trivial, trivial, trivial, trivial, trivial, trivial, trivial, trivial⟩
theorem zsF {v : VL} {i j} (h : zcQ v i j) : 0 = 0 /\ j.toNat = (List.map npv (List.take j.toNat (zak (old v i)))).length := by
 obtain ⟨h1, h2, h3⟩ := h
 refine ⟨rfl, ?_⟩
 rw [List.length_map, List.length_take]; omega
theorem zy4 {v : VL} {i j} {X : List (List SV)} (h : zcQ v i j) (hX : X.length = 1) : (zai.len (Sum.inr (List.map npv (List.take j.toNat (zak (old v i))))) + zai.len (Sum.inl X)) * 8 <= 2 ^ 46 := by
 obtain ⟨h1, h2, h3⟩ := h
 simp only [zai.len, List.length_map, List.length_take, hX]; omega
theorem zy5 {v : VL} {i j} {X : List (List SV)} (h : zcQ v i j) (hj : j < (zak (old v i)).length) (hX : X.length = 1) : 0 = 0 /\ (j + 1).toNat = zai.len (Sum.inr (List.map npv (List.take j.toNat (zak (old v i))))) + zai.len (Sum.inl X) := by
 obtain ⟨h1, h2, h3⟩ := h
 simp only [zai.len, List.length_map, List.length_take, hX, true_and]; omega
theorem zzO {v : VL} {i j} (h : zcQ v i j) (hj : j < (zak (old v i)).length) : 1 = 1 /\ List.map npv (List.take (j + 1).toNat (zak (old v i))) = List.map npv (List.take j.toNat (zak (old v i))) ++ [[PV.int IntKind.i64 (nth (zak (old v i)) j).n]] := by
 refine ⟨rfl, ?_⟩
 rw [zcP _ j ⟨h.1, hj⟩, List.map_append]; rfl
theorem zy6 {v : VL} {i j} (h : zcQ v i j) (hj : ¬ j < (zak (old v i)).length) : PV.sl 1 (List.map ipv (List.map HR.n (zak (old v i)))) = PV.sl 1 (List.take j.toNat (List.drop 0 (List.map npv (List.take j.toNat (zak (old v i)))))) /\ 0 + j.toNat <= (List.map npv (List.take j.toNat (zak (old v i)))).length := by
 refine ⟨by rw [zml _ _ h.1 hj], ?_⟩
 rw [(zsF h).2.symm]; omega
attribute [local irreducible] zak zal zbZ zeS zbg zjL zbG zdx
noncomputable def zus (v : VL) (es : HM) (x : HI) (i : Int) : zaa := ⟨[.ptr 0 0 0, .agg x.cells, kz i], [v.row, .map MPC es none], [some v.row, some (.map MPC (zbg es v.code x i).1 none)], [], .bool (zbg es v.code x i).2⟩
set_option maxHeartbeats 4000000 in
theorem zC7 (v : VL) (es : HM) (x : HI) (i : Int) (hn : ndk es) : zaa.ok Tryz.prog GG 113 (zus v es x i) := by
 refine zad mix zBP _ rfl rfl (Tab.ok (l := [(34, S34), (33, S33), (38, S38), (151, zqi)]) ⟨t34, t33, t38, zEr, trivial⟩) (zyo v es x i) noJ ?_
 repeat' ((conv => whnf); first
  | exact trivial
  | with_reducible first | refine aj ?_ | refine ai rfl ?_ | refine ai ⟨rfl, rfl⟩ ?_
  | ((with_reducible refine ai ?_ ?_); focus exact w3)
  | with_reducible first | refine zAe ?_ | apply exW (γ := zlA) (c := (_, _, _)) | apply exW (γ := Int) (c := _) | refine exI (i64_in (by simp only [zcQ, zcR, List.length_map] at *; omega) (by simp only [zcQ, zcR, List.length_map] at *; omega)) ?_
  | refine exI (x := ULift.up _) (zbS _ _ _ (by simp only [zcQ, zcR, List.length_map] at *; omega)) ?_
  | refine exI (x := ULift.up _) ⟨rfl, (by simp only [zcQ, zcR, List.length_map] at *; omega), zbI _ _ _ (by simp only [zcQ, zcR, List.length_map] at *; omega)⟩ ?_
  | refine exI (x := ULift.up (List.map HR.n (zak _))) (zml _ _ (by simp only [zcQ, zcR, List.length_map] at *; omega) (by with_reducible assumption)) ?_
  | with_reducible refine And.intro (Sd.mk (p := (_ : Int) <= _ /\ _) (by simp only [zcQ, zcR, List.length_map] at *; omega)) ?_
  | refine And.intro (Sd.mk (p := zaj.one MPC = _ /\ _) ⟨rfl, rfl⟩) ?_
  | refine And.intro (Sd.mk (p := zaj.vone MPC = _ /\ _) ⟨rfl, rfl⟩) ?_
  | apply exI (x := ULift.up (PL.mk _ _)) trivial
  | apply exI (x := ULift.up (CT.mk (HR.mk _ _) _)) trivial
  | with_reducible first | refine And.intro ?_ ?_ | refine zae ?_ | refine exI (i64_in (by omega) (by omega)) ?_
  | refine exI (x := ULift.up _) (Eq.refl _) ?_
  | refine exI (x := ULift.up _) ⟨rfl, by omega, Eq.refl _⟩ ?_
  | exact nx
  | ((with_reducible intro h); try dsimp only at h))
 all_goals (refine Sd.mk ?_)
 all_goals try first
  | exact zsF ‹_›
  | exact zy4 ‹_› rfl
  | exact zy5 ‹_› ‹_› rfl
  | exact zzO ‹_› ‹_›
  | exact zy6 ‹_› ‹_›
  | exact ⟨⟨ztr _, trivial, trivial⟩, trivial, trivial⟩
 all_goals (try simp only [HI.eta, HR.eta, PL.eta, List.length_map] at *)
 all_goals first
  | exact zBx ‹_›
  | exact zBw ‹_›
  | exact ⟨by omega, by omega, zbY _⟩
  | exact zz8 ‹_› ‹_›
  | exact ⟨⟨by decide, trivial, trivial⟩, trivial, trivial⟩
  | exact b_0 ‹_› ‹_› ‹_› ‹_›
  | exact zAl ‹_› ‹_› ‹_› ‹_›
  | exact c_0
  | exact zyB hn ‹_› ‹_› ‹_› ‹_›
  | exact zvG hn ‹_› ‹_› ‹_› ‹_›
  | exact i2 (zoF (.inl ‹_›))
  | exact i2 (zoF (.inr ‹_›))
  | exact i2 (zim (znD ‹_›))
  | exact i2 (zim (znE ‹_›))
  | exact i2 (zhc ‹_› ‹_› (.inl (nt ‹_›)))
  | exact i2 (zhc ‹_› ‹_› (.inr ‹_›))
  | exact i2 (zly ‹_› ‹_› (.inl ‹_›))
  | exact i2 (zly ‹_› ‹_› (.inr ‹_›))
  | exact i2 (zpJ ‹_› ‹_› ‹_› ‹_› ‹_› ‹_›)
  | exact mpe (i1 (zoF (.inl ‹_›)))
  | exact mpe (i1 (zoF (.inr ‹_›)))
  | exact mpe (i1 (zim (znD ‹_›)))
  | exact mpe (i1 (zim (znE ‹_›)))
  | exact mpe (i1 (zhc ‹_› ‹_› (.inl (nt ‹_›))))
  | exact mpe (i1 (zhc ‹_› ‹_› (.inr ‹_›)))
  | exact mpe (i1 (zly ‹_› ‹_› (.inl ‹_›)))
  | exact mpe (i1 (zly ‹_› ‹_› (.inr ‹_›)))
  | exact mpe (i1 (zpJ ‹_› ‹_› ‹_› ‹_› ‹_› ‹_›))
noncomputable def znQ : SFn
 | [.ptr p _ _, a1, .int .i64 i], k => zfS p fun v es => zdh a1 fun x => .req (ndk es) (k (zus v es x i))
 | _, _ => .fail
theorem zxI : FnS Tryz.prog GG 113 znQ := by
 intro args k gt go R v os n h
 unfold znQ at h
 split at h
 . obtain ⟨v, es, _, h⟩ := zea h
   obtain ⟨x, _, h⟩ := zbp h
   obtain ⟨hp, _, h⟩ := zaz h
   exact ⟨_, _, zC7 v es x _ hp, h⟩
 . cases h
end
section
theorem zoi (n : Int) (h1 : 42 <= n) (h2 : n <= 45) : (zbd n).1.rule = 18 \/ (zbd n).1.rule = 19 := by
 have : n = 42 \/ n = 43 \/ n = 44 \/ n = 45 := by omega
 rcases this with rfl | rfl | rfl | rfl <;> decide
theorem zlY {x : HI} (h : zbF x = 0) : 42 <= x.op -> x.op <= 45 -> 0 <= x.k /\ x.k <= 1000 := by
 intro h1 h2
 have hv : zbZ x = true := by
  unfold zbF at h
  split at h
  . next h3 => exact h3.1
  . cases h
 have ho : zgu (zbd x.op).1.rule x = true := by
  unfold zbZ at hv
  simp only [Bool.and_eq_true] at hv
  exact hv.2
 rcases zoi x.op h1 h2 with e | e
 . rw [e] at ho
   simp [zgu, zbr] at ho
   omega
 . rw [e] at ho
   simp [zgu, zbr] at ho
   omega
def zbA (code : List HI) (w vv : Int) (es : HM) (x : HI) (f : Int) : HM × Bool :=
 if zbF x = 0 /\ zb3 x w vv = true then (if f = -1 then zbs es x else zbg es code x f) else (es, false)
def za2 (code : List HI) (w vv : Int) : List HI -> List Int -> HM -> Int -> Int ⊕ HM
 | x :: L, f :: F, es, k => if (zbA code w vv es x f).2 = true then za2 code w vv L F (zbA code w vv es x f).1 (k + 1) else .inl k
 | _, _, es, _ => .inr es
theorem e_1 {code w vv es x f} (h : ¬ zbF x = 0) : zbA code w vv es x f = (es, false) := by
 unfold zbA; rw [if_neg (fun e => h e.1)]
theorem e_2 {code w vv es x f} (h : zb3 x w vv = false) : zbA code w vv es x f = (es, false) := by
 unfold zbA; rw [if_neg (fun e => by rw [h] at e; cases e.2)]
theorem e_3 {code w vv es x f} (h : zbF x = 0) (h2 : zb3 x w vv = true) (h3 : f = -1) : zbA code w vv es x f = zbs es x := by
 unfold zbA; rw [if_pos ⟨h, h2⟩, if_pos h3]
theorem e_4 {code w vv es x f} (h : zbF x = 0) (h2 : zb3 x w vv = true) (h3 : ¬ f = -1) : zbA code w vv es x f = zbg es code x f := by
 unfold zbA; rw [if_pos ⟨h, h2⟩, if_neg h3]
theorem zg1 {es : HM} {t f : PL} (h : ndk es) : ndk (zbi es t f) := by
 unfold zbi; split
 . exact zbn h
 . exact zcF h
theorem zeP {es : HM} {x y b k} (h : ndk es) : ndk (zem x y b es k) := by
 unfold zem; split
 . exact zcF (zbn h)
 . exact zbn h
theorem znr {es : HM} {x : HI} (h : ndk es) : ndk (zbs es x).1 := by
 unfold zbs
 split
 . exact zg1 h
 . split
   . exact zg1 h
   . split
     . exact zg1 h
     . split
       . exact zg1 h
       . split
         . exact zeP (zeP (zeP (zeP h)))
         . split
           . show ndk (za8 es x)
             unfold za8; split
             . exact zcF (zbn h)
             . exact zbn h
           . exact h
theorem zor {es : HM} {code x i} (h : ndk es) : ndk (zbg es code x i).1 := by
 unfold zbg
 split
 . exact h
 . split
   . exact h
   . split
     . exact h
     . split
       . exact zcF (zeA h _)
       . exact h
theorem zmm {code w vv es x f} (h : ndk es) : ndk (zbA code w vv es x f).1 := by
 unfold zbA
 split
 . split
   . exact znr h
   . exact zor h
 . exact h
abbrev C64 := Int × HM
def I64 (v : VL) (w vv : Int) (T : Int ⊕ HM) (c : C64) : Prop := 0 <= c.1 /\ c.1 <= v.L.length /\ c.1 <= v.fr.length /\ v.L.length <= 1000000 /\ ndk c.2 /\ za2 v.code w vv (v.L.drop c.1.toNat) (v.fr.drop c.1.toNat) c.2 c.1 = T
theorem znH {v : VL} {w vv T k es} (hI : I64 v w vv T (k, es)) (h : k < min (v.L.length : Int) v.fr.length) :
 (if (zbA v.code w vv es (nth v.L k) (nth v.fr k)).2 = true then za2 v.code w vv (v.L.drop (k + 1).toNat) (v.fr.drop (k + 1).toNat) (zbA v.code w vv es (nth v.L k) (nth v.fr k)).1 (k + 1) else .inl k) = T := by
  obtain ⟨h1, h2, h3, h4, h5, h6⟩ := hI
  dsimp only at *
  rw [zaG v.L k ⟨h1, by omega⟩, zaG v.fr k ⟨h1, by omega⟩, za2] at h6
  exact h6
theorem zen {v : VL} {w vv T k es a} (hI : I64 v w vv T (k, es)) (h : k < min (v.L.length : Int) v.fr.length) (e : zbA v.code w vv es (nth v.L k) (nth v.fr k) = (a, false)) : T = .inl k := by
 have := znH hI h
 rw [e] at this
 exact this.symm
theorem zjY {v : VL} {w vv T k es es'} (hI : I64 v w vv T (k, es)) (h : k < min (v.L.length : Int) v.fr.length) (e2 : (zbA v.code w vv es (nth v.L k) (nth v.fr k)).2 = true) (e1 : (zbA v.code w vv es (nth v.L k) (nth v.fr k)).1 = es') :
 I64 v w vv T (k + 1, es') /\ (min (v.L.length : Int) v.fr.length - (k + 1)).toNat < (min (v.L.length : Int) v.fr.length - k).toNat := by
  have h8 := znH hI h
  obtain ⟨h1, h2, h3, h4, h5, h6⟩ := hI
  dsimp only at *
  rw [if_pos e2, e1] at h8
  refine ⟨⟨by dsimp only; omega, by dsimp only; omega, by dsimp only; omega, h4, ?_, h8⟩, by omega⟩
  rw [<- e1]; exact zmm h5
theorem zmT {v : VL} {w vv T k es} (hI : I64 v w vv T (k, es)) (h : ¬ k < min (v.L.length : Int) v.fr.length) : T = .inr es := by
 obtain ⟨h1, h2, h3, h4, h5, h6⟩ := hI
 dsimp only at *
 rw [<- h6]
 rcases Int.lt_or_le k v.L.length with h7 | h7
 . have : v.fr.drop k.toNat = [] := List.drop_eq_nil_of_le (by omega)
   rw [this]; cases v.L.drop k.toNat <;> rfl
 . have : v.L.drop k.toNat = [] := List.drop_eq_nil_of_le (by omega)
   rw [this]; rfl
def zb7 : List Int -> Int -> Option Int
 | [], n => some n
 | f :: F, n => if f = -1 then zb7 F n else if f = n then zb7 F (n + 1) else none
def zbu (v : VL) : Bool := match zb7 v.fr 0 with
 | none => false
 | some n => decide (v.L.length = v.fr.length /\ n = v.code.length /\ 0 < v.fr.length /\ nth v.fr (v.fr.length - 1) ≠ -1)
abbrev C65 := Int × Int
def I65 (v : VL) (c : C65) : Prop := 0 <= c.1 /\ c.1 <= v.fr.length /\ v.fr.length <= 1000000 /\ 0 <= c.2 /\ c.2 <= c.1 /\ zb7 (v.fr.drop c.1.toNat) c.2 = zb7 v.fr 0
theorem zt4 {v : VL} {i n} (hI : I65 v (i, n)) (h : i < v.fr.length) (e : nth v.fr i = -1) : I65 v (i + 1, n) /\ (v.fr.length - (i + 1)).toNat < (v.fr.length - i).toNat := by
 obtain ⟨h1, h2, h3, h4, h5, h6⟩ := hI
 dsimp only at *
 rw [zaG v.fr i ⟨h1, h⟩, zb7, if_pos e] at h6
 exact ⟨⟨by dsimp only; omega, by dsimp only; omega, h3, h4, by dsimp only; omega, h6⟩, by omega⟩
theorem zt5 {v : VL} {i n} (hI : I65 v (i, n)) (h : i < v.fr.length) (e : ¬ nth v.fr i = -1) (e2 : ¬ ¬ nth v.fr i = n) : I65 v (i + 1, n + 1) /\ (v.fr.length - (i + 1)).toNat < (v.fr.length - i).toNat := by
 obtain ⟨h1, h2, h3, h4, h5, h6⟩ := hI
 dsimp only at *
 rw [zaG v.fr i ⟨h1, h⟩, zb7, if_neg e, if_pos (Classical.not_not.1 e2)] at h6
 exact ⟨⟨by dsimp only; omega, by dsimp only; omega, h3, by dsimp only; omega, by dsimp only; omega, h6⟩, by omega⟩
theorem zxd {v : VL} {i n} (hI : I65 v (i, n)) (h : i < v.fr.length) (e : ¬ nth v.fr i = -1) (e2 : ¬ nth v.fr i = n) : zbu v = false := by
 obtain ⟨h1, h2, h3, h4, h5, h6⟩ := hI
 dsimp only at *
 rw [zaG v.fr i ⟨h1, h⟩, zb7, if_neg e, if_neg e2] at h6
 unfold zbu; rw [<- h6]
theorem zt3 {v : VL} {i n} (hI : I65 v (i, n)) (h : ¬ i < v.fr.length) : zbu v = decide (v.L.length = v.fr.length /\ n = v.code.length /\ 0 < v.fr.length /\ nth v.fr (v.fr.length - 1) ≠ -1) := by
 obtain ⟨h1, h2, h3, h4, h5, h6⟩ := hI
 dsimp only at *
 rw [List.drop_eq_nil_of_le (by omega), zb7] at h6
 unfold zbu; rw [<- h6]
end
section
def c64 : MC := .seq (.drw [om 9 0,oo 10 (.nchk (.t 9)),oo 11 (fl 0 10),oo 12 (fl 0 11),oo 13 (ln 12),oo 14 (.lenS (.t 13)),om 15 0,oo 16 (.nchk (.t 15)),oo 17 (fl 0 16),oo 18 (fl 1 17),oo 19 (ln 18),oo 20 (.lenS (.t 19)),oo 21 (.mm false (.t 14) [(.t 20)]),oo 22 (.mv (ki 0))] [[],[0],[1],[2],[3],[4],[],[6],[7],[8],[9],[10],[5,11],[]]) (.blk 0 (.loop 0 (.seq (.reg [oo 23 (ct .lss 22 21)]) (.seq (.cond (.t 23) (.skip) (.exit 0)) (.seq (.blk 1 (.seq (.reg [om 24 22,om 6 24]) (.seq (.reg [om 25 0,oo 26 (.nchk (.t 25)),oo 27 (fl 0 26),oo 28 (fl 0 27),oo 29 (ln 28),om 30 6,oo 31 (ia 15 29 30),oo 32 (ls 15 31),oo 7 (.alloc zI),o none (.st (some 15) (.t 7) (.t 32))]) (.seq (.reg [oo 33 (ls 15 7),oo 34 (fc 37 [(.t 33)]),oo 35 (cc .eql 34 0),sm 36 35,gt_ 36 37 (ls 15 7),mt 36 38 1,mt 36 39 2,gt_ 36 40 (fc 111 [(.t 37),(.t 38),(.t 39)]),oo 41 (pf 36 40),om 8 41]) (.seq (.seq (.reg [om 42 8,sm 43 42,mt 43 44 0,gt_ 43 45 (.nchk (.t 44)),gt_ 43 46 (fl 0 45),gt_ 43 47 (fl 1 46),gt_ 43 48 (ln 47),mt 43 49 6,gt_ 43 50 (ia 1 48 49),gt_ 43 51 (ln 50),gt_ 43 52 (.cmp .eql (.t 51) (ki (-1))),oo 53 (pf 43 52)]) (.cond (.t 53) (.reg [om 54 0,oo 55 (ls 15 7),oo 56 (fc 112 [(.t 54),(.t 55)]),om 8 56]) (.seq (.reg [om 57 8]) (.cond (.t 57) (.drw [om 58 0,oo 59 (ls 15 7),om 60 0,oo 61 (.nchk (.t 60)),oo 62 (fl 0 61),oo 63 (fl 1 62),oo 64 (ln 63),om 65 6,oo 66 (ia 1 64 65),oo 67 (ln 66),oo 68 (fc 113 [(.t 58),(.t 59),(.t 67)]),om 8 68] [[],[],[],[2],[3],[4],[5],[],[6,7],[8],[0,1,9],[10,10,0,1,2,3,4,5,6,7,8,9,10]]) (.skip))))) (.seq (.reg [om 69 8,oo 70 (.not (.t 69))]) (.cond (.t 70) (.reg [om 71 6,oo 72 (.bld [(kz 0)] [(0,1,(.t 71))]),oo 73 (.mki 109 (.t 72)),o none (.pnc (.t 73))]) (.skip)))))))) (.reg [oo 74 (ac .add 22 1),om 22 74]))))))
theorem k64 : zar Tryz.prog 64 75 c64 [] := fk Tryz.func64 ⟨tv,⟨tv,⟨⟨tv,tv⟩,⟨⟨tv,⟨tv,⟨tv,⟨⟨tv,⟨tv,⟨tv,⟨tv,tv⟩⟩⟩⟩,⟨tv,⟨tv,tv⟩⟩⟩⟩⟩⟩,tv⟩⟩⟩⟩
def c65 : MC := .seq (.reg [oo 2 (.mv kf)]) (.seq (.reg [oo 3 (.mv (ki 0))]) (.seq (.seq (.reg [om 7 0,oo 8 (.nchk (.t 7)),oo 9 (fl 0 8),oo 10 (fl 1 9),oo 11 (ln 10),oo 12 (.lenS (.t 11)),oo 13 (.mv (ki 0))]) (.blk 0 (.loop 0 (.seq (.reg [oo 14 (ct .lss 13 12)]) (.seq (.cond (.t 14) (.skip) (.exit 0)) (.seq (.blk 1 (.seq (.reg [oo 15 (ia 1 11 13),oo 16 (ln 15),om 5 16]) (.seq (.seq (.reg [om 17 5,oo 18 (.cmp .eql (.t 17) (ki (-1)))]) (.cond (.t 18) (.exit 1) (.skip))) (.seq (.seq (.reg [om 19 5,om 20 3,oo 21 (ct .neq 19 20)]) (.cond (.t 21) (.seq (.reg [oo 2 (.mv kf)]) (.ret)) (.skip))) (.reg [om 22 3,oo 23 (ac .add 22 1),om 3 23]))))) (.reg [oo 24 (ac .add 13 1),om 13 24]))))))) (.seq (.reg [om 25 0,oo 26 (.nchk (.t 25)),oo 27 (fl 0 26),oo 28 (fl 1 27),oo 29 (ln 28),oo 30 (.lenS (.t 29)),om 6 30]) (.seq (.reg [om 31 0,oo 32 (.nchk (.t 31)),oo 33 (fl 0 32),oo 34 (fl 0 33),oo 35 (ln 34),oo 36 (.lenS (.t 35)),om 37 6,oo 38 (ct .eql 36 37),sm 39 38,mt 39 40 3,mt 39 41 0,gt_ 39 42 (.nchk (.t 41)),gt_ 39 43 (fl 2 42),gt_ 39 44 (ln 43),gt_ 39 45 (.lenS (.t 44)),gt_ 39 46 (ct .eql 40 45),oo 47 (pf 39 46),sm 48 47,mt 48 49 6,gt_ 48 50 (cc .gtr 49 0),oo 51 (pf 48 50),sm 52 51,mt 52 53 0,gt_ 52 54 (.nchk (.t 53)),gt_ 52 55 (fl 0 54),gt_ 52 56 (fl 1 55),gt_ 52 57 (ln 56),mt 52 58 6,gt_ 52 59 (ac .sub 58 1),gt_ 52 60 (ia 1 57 59),gt_ 52 61 (ln 60),gt_ 52 62 (.cmp .neq (.t 61) (ki (-1))),oo 63 (pf 52 62),om 2 63]) (.ret)))))
theorem k65 : zar Tryz.prog 65 64 c65 [.t 2] := fk Tryz.func65 ⟨tv,⟨tv,⟨⟨tv,⟨tv,⟨⟨tv,tv⟩,⟨⟨tv,⟨⟨tv,⟨tv,tv⟩⟩,⟨⟨tv,⟨⟨tv,tv⟩,tv⟩⟩,tv⟩⟩⟩,tv⟩⟩⟩⟩,⟨tv,⟨tv,tv⟩⟩⟩⟩⟩
attribute [local irreducible] Go.Sx.zaf Go.Sx.zas zak zal zbZ zc9 zbs zbg zbF zb3 za2 zbu zb7
def zsE (v : VL) (w vv : Int) : C64 -> St
 | (k, es) => ⟨[(22, kz k), (21, kz (min (v.L.length : Int) v.fr.length)), (2, kz vv), (1, kz w), (0, .ptr 0 0 0)], [(0, some v.row), (1, some (.map MPC es none))], 2⟩
def zyT (v : VL) (es : HM) : C65 -> St
 | (i, n) => ⟨[(13, kz i), (12, kz v.fr.length), (11, inS v.fr), (3, kz n), (0, .ptr 0 0 0)], [(0, some v.row), (1, some (.map MPC es none))], 2⟩
theorem zsj {v w vv T} {Q : C64 -> Prop} (h : ∀ k es, I64 v w vv T (k, es) -> Q (k, es)) : ∀ c, I64 v w vv T c -> Q c := fun ⟨k, es⟩ hI => h k es hI
theorem zyu {v} {Q : C65 -> Prop} (h : ∀ i n, I65 v (i, n) -> Q (i, n)) : ∀ c, I65 v c -> Q c := fun ⟨i, n⟩ hI => h i n hI
theorem zjI {T : Int ⊕ HM} {a : HM} {k : Int} (h : T = .inr a) (h2 : T = .inl k) : False := by rw [h] at h2; cases h2
theorem zvS {code w vv es x f} (h : zbF x = 0) (h2 : zb3 x w vv = true) (h3 : f = -1) (hb : (!(zbs es x).2) = true) : zbA code w vv es x f = ((zbs es x).1, false) := by
 rw [e_3 h h2 h3]; exact Prod.ext rfl (nt hb)
theorem zvU {code w vv es x f} (h : zbF x = 0) (h2 : zb3 x w vv = true) (h3 : ¬ f = -1) (hb : (!(zbg es code x f).2) = true) : zbA code w vv es x f = ((zbg es code x f).1, false) := by
 rw [e_4 h h2 h3]; exact Prod.ext rfl (nt hb)
theorem zvT {code w vv es x f} (h : zbF x = 0) (h2 : zb3 x w vv = true) (h3 : f = -1) (hb : (!(zbs es x).2) = false) : (zbA code w vv es x f).2 = true := by
 rw [e_3 h h2 h3]; exact nf hb
theorem zvV {code w vv es x f} (h : zbF x = 0) (h2 : zb3 x w vv = true) (h3 : ¬ f = -1) (hb : (!(zbg es code x f).2) = false) : (zbA code w vv es x f).2 = true := by
 rw [e_4 h h2 h3]; exact nf hb
theorem zv9 {T : Int ⊕ HM} {a b : HM} (h : T = .inr a) (h2 : T = .inr b) : MPS a = MPS b := by rw [h] at h2; cases h2; rfl
theorem zjz {T : Int ⊕ HM} {a b : Int} (h : T = .inl a) (h2 : T = .inl b) : [kz a] = [kz b] := by rw [h] at h2; cases h2; rfl
noncomputable def L64 (v : VL) (es : HM) (w : Int) (vv : Int) (es1 : HM) : zaa := ⟨[.ptr 0 0 0, kz w, kz vv], [v.row, .map MPC es none], [some v.row, some (.map MPC es1 none)], [], .tup []⟩
set_option maxHeartbeats 4000000 in
theorem s64 (v : VL) (es : HM) (w : Int) (vv : Int) (es1 : HM) (hn : ndk es) (hl : v.L.length <= 1000000) (hT : za2 v.code w vv v.L v.fr es 0 = .inr es1) : zaa.ok Tryz.prog GG 64 (L64 v es w vv es1) := by
 refine zad mix k64 _ rfl rfl (Tab.ok (l := [(37, S37), (111, znO), (112, znP), (113, znQ)]) ⟨t37, zxG, zxH, zxI, trivial⟩) (fun _ => .inv C64 (fun _ => I64 v w vv (za2 v.code w vv v.L v.fr es 0)) (zsE v w vv) (fun c => (min (v.L.length : Int) v.fr.length - c.1).toNat)) noJ ?_
 repeat' ((conv => whnf); first
  | exact trivial
  | with_reducible first | refine aj ?_ | refine ai rfl ?_ | refine ai ⟨rfl, rfl⟩ ?_
  | ((with_reducible refine ai ?_ ?_); focus exact w3)
  | with_reducible first | refine zsj ?_ | apply exW (γ := C64) (c := (_, _)) | refine exI (i64_in (by simp only [I64, I65, List.length_map] at *; omega) (by simp only [I64, I65, List.length_map] at *; omega)) ?_
  | refine exI (x := ULift.up _) ⟨rfl, (by simp only [I64, I65, List.length_map] at *; omega), zbI _ _ _ (by simp only [I64, I65, List.length_map] at *; omega)⟩ ?_
  | with_reducible first | refine And.intro (Sd.mk (p := ndk _) (by simp only [I64] at *; simp_all)) ?_ | refine And.intro (Sd.mk (p := (42 : Int) <= _ -> _) (zlY (by with_reducible assumption))) ?_ | refine And.intro ?_ ?_ | refine zae ?_ | refine exI (i64_in (by omega) (by omega)) ?_
  | refine exI (x := ULift.up _) (Eq.refl _) ?_
  | refine exI (x := ULift.up _) ⟨rfl, by omega, Eq.refl _⟩ ?_
  | exact nx
  | ((with_reducible intro h); try dsimp only at h))
 all_goals (try (refine Sd.mk ?_)); all_goals (try simp only [HI.eta, HR.eta, List.length_map] at *)
 all_goals first
  | exact zjI hT (zen ‹_› ‹_› (e_1 ‹_›))
  | exact zjI hT (zen ‹_› ‹_› (e_2 ‹_›))
  | exact zjI hT (zen ‹_› ‹_› (zvS ‹_› ‹_› ‹_› ‹_›))
  | exact zjI hT (zen ‹_› ‹_› (zvU ‹_› ‹_› ‹_› ‹_›))
  | exact zv9 hT (zmT ‹_› ‹_›)
  | exact zjY ‹_› ‹_› (zvT ‹_› ‹_› ‹_› ‹_›) (congrArg Prod.fst (e_3 ‹_› ‹_› ‹_›))
  | exact zjY ‹_› ‹_› (zvV ‹_› ‹_› ‹_› ‹_›) (congrArg Prod.fst (e_4 ‹_› ‹_› ‹_›))
  | exact ⟨by dsimp only; omega, by dsimp only; omega, by dsimp only; omega, hl, hn, rfl⟩
noncomputable def zvc (v : VL) (es : HM) (w : Int) (vv : Int) (k1 : Int) : zaa := ⟨[.ptr 0 0 0, kz w, kz vv], [v.row, .map MPC es none], [none, none], [], .ifc 109 (.agg [kz k1])⟩
set_option maxHeartbeats 4000000 in
theorem zDU (v : VL) (es : HM) (w : Int) (vv : Int) (k1 : Int) (hn : ndk es) (hl : v.L.length <= 1000000) (hT : za2 v.code w vv v.L v.fr es 0 = .inl k1) : zaa.okE panicked Tryz.prog GG 64 (zvc v es w vv k1) := by
 refine zv3 mix k64 _ rfl rfl (Tab.ok (l := [(37, S37), (111, znO), (112, znP), (113, znQ)]) ⟨t37, zxG, zxH, zxI, trivial⟩) (fun _ => .inv C64 (fun _ => I64 v w vv (za2 v.code w vv v.L v.fr es 0)) (zsE v w vv) (fun c => (min (v.L.length : Int) v.fr.length - c.1).toNat)) noJ ?_
 repeat' ((conv => whnf); first
  | exact trivial
  | with_reducible first | refine aj ?_ | refine ai rfl ?_ | refine ai ⟨rfl, rfl⟩ ?_
  | ((with_reducible refine ai ?_ ?_); focus exact w3)
  | with_reducible first | refine zsj ?_ | apply exW (γ := C64) (c := (_, _)) | refine exI (i64_in (by simp only [I64, I65, List.length_map] at *; omega) (by simp only [I64, I65, List.length_map] at *; omega)) ?_
  | refine exI (x := ULift.up _) ⟨rfl, (by simp only [I64, I65, List.length_map] at *; omega), zbI _ _ _ (by simp only [I64, I65, List.length_map] at *; omega)⟩ ?_
  | with_reducible first | refine And.intro (Sd.mk (p := ndk _) (by simp only [I64] at *; simp_all)) ?_ | refine And.intro (Sd.mk (p := (42 : Int) <= _ -> _) (zlY (by with_reducible assumption))) ?_ | refine And.intro ?_ ?_ | refine zae ?_ | refine exI (i64_in (by omega) (by omega)) ?_
  | refine exI (x := ULift.up _) (Eq.refl _) ?_
  | refine exI (x := ULift.up _) ⟨rfl, by omega, Eq.refl _⟩ ?_
  | exact nx
  | ((with_reducible intro h); try dsimp only at h))
 all_goals (try (refine Sd.mk ?_)); all_goals (try simp only [HI.eta, HR.eta, List.length_map] at *)
 all_goals first
  | exact zjz hT (zen ‹_› ‹_› (e_1 ‹_›))
  | exact zjz hT (zen ‹_› ‹_› (e_2 ‹_›))
  | exact zjz hT (zen ‹_› ‹_› (zvS ‹_› ‹_› ‹_› ‹_›))
  | exact zjz hT (zen ‹_› ‹_› (zvU ‹_› ‹_› ‹_› ‹_›))
  | exact zjI (zmT ‹_› ‹_›) hT
  | exact zjY ‹_› ‹_› (zvT ‹_› ‹_› ‹_› ‹_›) (congrArg Prod.fst (e_3 ‹_› ‹_› ‹_›))
  | exact zjY ‹_› ‹_› (zvV ‹_› ‹_› ‹_› ‹_›) (congrArg Prod.fst (e_4 ‹_› ‹_› ‹_›))
  | exact ⟨by dsimp only; omega, by dsimp only; omega, by dsimp only; omega, hl, hn, rfl⟩
noncomputable def S64 : SFn
 | [.ptr p _ _, .int .i64 w, .int .i64 vv], k => zfS p fun v es => .req (ndk es /\ v.L.length <= 1000000) (.ex (fun es1 : ULift.{1} HM => za2 v.code w vv v.L v.fr es 0 = .inr es1.down) fun es1 => match es1 with | ⟨es1⟩ => k (L64 v es w vv es1))
 | _, _ => .fail
theorem t64 : FnS Tryz.prog GG 64 S64 := by
 intro args k gt go R v os n h
 unfold S64 at h
 split at h
 . obtain ⟨v, es, _, h⟩ := zea h
   obtain ⟨hp, _, h⟩ := zaz h
   cases h with
   | ex x hx h => exact ⟨_, _, s64 v es _ _ _ hp.1 hp.2 hx, h⟩
 . cases h
noncomputable def zqz : SFn
 | [.ptr p _ _, .int .i64 w, .int .i64 vv], k => zfS p fun v es => .req (ndk es /\ v.L.length <= 1000000) (.ex (fun k1 : ULift.{1} Int => za2 v.code w vv v.L v.fr es 0 = .inl k1.down) fun k1 => match k1 with | ⟨k1⟩ => k (zvc v es w vv k1))
 | _, _ => .fail
theorem zEI : ∀ args k gt go R v os n, (zqz args k).Runs gt go R v os n -> ∃ L R', zaa.okE panicked Tryz.prog GG 64 L /\ (k L).Runs gt go R' v os n := by
 intro args k gt go R v os n h
 unfold zqz at h
 split at h
 . obtain ⟨v, es, _, h⟩ := zea h
   obtain ⟨hp, _, h⟩ := zaz h
   cases h with
   | ex x hx h => exact ⟨_, _, zDU v es _ _ _ hp.1 hp.2 hx, h⟩
 . cases h
noncomputable def L65 (v : VL) (es : HM) : zaa := ⟨[.ptr 0 0 0], [v.row, .map MPC es none], [some (v.row), some (.map MPC es none)], [], .bool (zbu v)⟩
set_option maxHeartbeats 4000000 in
theorem s65 (v : VL) (es : HM) (hl : v.fr.length <= 1000000) : zaa.ok Tryz.prog GG 65 (L65 v es) := by
 refine zad mix k65 _ rfl rfl (Tab.ok (l := []) trivial) (fun _ => .inv C65 (fun _ => I65 v) (zyT v es) (fun c => (v.fr.length - c.1).toNat)) noJ ?_
 repeat' ((conv => whnf); first
  | exact trivial
  | with_reducible first | refine aj ?_ | refine ai rfl ?_ | refine ai ⟨rfl, rfl⟩ ?_
  | ((with_reducible refine ai ?_ ?_); focus exact w3)
  | with_reducible first | refine zyu ?_ | apply exW (γ := C65) (c := (_, _)) | refine exI (i64_in (by simp only [I64, I65, List.length_map] at *; omega) (by simp only [I64, I65, List.length_map] at *; omega)) ?_
  | refine exI (x := ULift.up _) ⟨rfl, (by simp only [I64, I65, List.length_map] at *; omega), zbI _ _ _ (by simp only [I64, I65, List.length_map] at *; omega)⟩ ?_
  | with_reducible first | refine And.intro ?_ ?_ | refine zae ?_ | refine exI (i64_in (by omega) (by omega)) ?_
  | refine exI (x := ULift.up _) (Eq.refl _) ?_
  | refine exI (x := ULift.up _) ⟨rfl, by omega, Eq.refl _⟩ ?_
  | exact nx
  | ((with_reducible intro h); try dsimp only at h))
 all_goals (try (refine Sd.mk ?_)); all_goals (try simp only [HI.eta, HR.eta, List.length_map] at *)
 all_goals first
  | exact ⟨by dsimp only; omega, by dsimp only; omega, hl, by dsimp only; omega, by dsimp only; omega, rfl⟩
  | exact zt4 ‹_› ‹_› ‹_›
  | exact zt5 ‹_› ‹_› ‹_› ‹_›
  | exact zxd ‹_› ‹_› ‹_› ‹_›
  | (rw [zt3 ‹_› ‹_›]; simp only [decide_eq_true_eq, decide_eq_false_iff_not]; omega)
noncomputable def S65 : SFn
 | [.ptr p _ _], k => zfS p fun v es => .req (v.fr.length <= 1000000) (k (L65 v es))
 | _, _ => .fail
theorem t65 : FnS Tryz.prog GG 65 S65 := by
 intro args k gt go R v os n h
 unfold S65 at h
 split at h
 . obtain ⟨v, es, _, h⟩ := zea h
   obtain ⟨hp, _, h⟩ := zaz h
   exact ⟨_, _, s65 v es hp, h⟩
 . cases h
end
end Go.Proofs.YtlahifihaeafbaaGreatDoor
namespace Go.Sx
open Go
open Classical
def mk1 (D : Nat) : Deferred := { target := .collected D, args := #[] }
theorem zgY {F : Fence} {n : Nat} {P : Program} {fn : Func} {tmps : Array Value} {R : Ending -> World -> Prop} {d : Deferred} {u : FrameMode} (hu : u ≠ .run) : ∀ (ds : List Deferred) (w : World), nmk ds = [d] -> (mks ds).Nodup →
 (∀ m ∈ mks ds, ∃ D, m = mk1 D /\ w.heap[D]? = some (.deferred (some []))) →
 (∀ (rest : List Deferred) (w' : World), w'.heap.size = w.heap.size -> w'.os = w.os -> w'.tape = w.tape -> w'.output = w.output -> (∀ b, mk1 b ∉ mks ds -> w'.heap[b]? = w.heap[b]?) →
  nmk rest = [] -> (∀ m ∈ rest, m ∈ mks ds) -> rest.Nodup -> (∀ m ∈ rest, ∃ D, m = mk1 D /\ w'.heap[D]? = some (.deferred (some []))) -> LeavesInM F n P fn tmps R (d :: rest) u w') -> LeavesInM F n P fn tmps R ds u w
  | [], w, h, _, _, _ => by simp [nmk] at h
  | x :: ds, w, h, hnd, hm, hc => by
    by_cases hx : ziM x = true
    . have e1 : nmk (x :: ds) = nmk ds := by simp [nmk, hx]
      have e2 : mks (x :: ds) = x :: mks ds := by simp [mks, hx]
      rw [e1] at h
      rw [e2] at hnd hm hc
      obtain ⟨D, rfl, hD⟩ := hm x (by simp)
      have hnd' := List.nodup_cons.1 hnd
      have hput : ∀ b, b ≠ D -> (w.putObj D (.deferred none)).heap[b]? = w.heap[b]? := fun b hb => World.putObj_heap_other hb
      refine ⟨hu, .inl ⟨D, _, rfl, run_takeDeferred hD, zgY hu ds _ h hnd'.2 (fun m hmm => ?_) (fun rest w' h1 h2 h3 h4 h5 h6 h7 h8 h9 => ?_)⟩⟩
      . obtain ⟨D', rfl, hD'⟩ := hm m (by simp [hmm])
        refine ⟨D', rfl, (hput D' (fun e => ?_)).trans hD'⟩
        subst e
        exact hnd'.1 hmm
      . refine hc rest w' (h1.trans (by simp [World.putObj])) h2 h3 h4 (fun b hb => ?_) h6 (fun m hmm => by simp [h7 m hmm]) h8 h9
        simp only [List.mem_cons, not_or] at hb
        exact (h5 b hb.2).trans (hput b (fun e => hb.1 (by rw [e])))
    . have e1 : nmk (x :: ds) = x :: nmk ds := by simp [nmk, hx]
      have e2 : mks (x :: ds) = mks ds := by simp [mks, hx]
      rw [e1] at h
      rw [e2] at hnd hm hc
      injection h with h1 h2
      subst h1
      have e3 : mks ds = ds := zgg h2
      rw [e3] at hnd hm hc
      exact hc ds w rfl rfl rfl rfl (fun _ _ => rfl) h2 (fun _ h => h) hnd hm
theorem zah.off {C : Ctx} {gt go β own S a w} (H : zah C gt go β own S a w) {w' : World} {a' : Act} (ht : a'.tmps = a.tmps) (h1 : w'.heap.size = w.heap.size) (h2 : w'.os = w.os) (h3 : w'.tape = w.tape) (h4 : w'.output = w.output)
 (h5 : ∀ b, w'.heap[b]? = w.heap[b]? \/ (C.w0.heap.size <= b /\ ¬ S b /\ ∀ id, (go id).isSome -> ¬ own id b)) (hdf : zlF C.w0.heap.size go own S (mks a'.defers) w' /\ nmk a'.defers = C.dt) : zah C gt go β own S a' w' := by
  have x : Ext β w S β w' S := ⟨fun _ _ e => e, fun _ e => e, fun b hb => by
   rcases h5 b with h | h
   . exact h
   . exact absurd hb h.2.1⟩
  refine ⟨fun t s e => by rw [ht]; exact zaH x _ _ (H.tm t s e), ⟨fun id o e => ?_, H.mem.sep, H.mem.st, fun b hb => by rw [h1]; exact H.mem.sz b hb⟩, ⟨h2.trans H.fr.os, h3.trans H.fr.tape, h4.trans H.fr.output, by rw [h1]; exact H.fr.size, fun k hk hx => ?_⟩,
   H.own0, H.s0, H.s1, by rw [ht]; exact H.n, hdf, fun g s e => zaH ⟨fun _ _ e => e, fun _ e => e, x.heap⟩ _ _ (H.gl g s e)⟩
  . obtain ⟨B, hB, ho⟩ := H.mem.obj id o e
    exact ⟨B, hB, ho.ext x (fun b hb => by
     rcases h5 b with h | h
     . exact h
     . exact absurd hb (h.2.2 id (by simp [e])))⟩
  . rcases h5 k with h | h
    . rw [h]; exact H.fr.block k hk hx
    . have := h.1; omega
theorem zks {P : Program} {fn : Func} {rs : List RV} {L : zaa} (hrs : zfc P fn.results.toList rs) (hout : L.out.length = L.foot.length) {C : Ctx} (hP : C.P = P) (hm0 : C.m0 = L.foot.length) {own : Nat -> Nat -> Prop} (hX : C.X0 = za9 L.go0 own) (hmem : zaw C.β0 own C.S0 L.go0 C.w0)
 {s' : St} {β1 own1 S1 a' w'} (hk : (zeQ rs L).vc (zaM s'.t) (zax s'.o) [] fun _ _ _ _ => True) (H : zaA C s' β1 own1 S1 a' w') :
 ∃ v, (results fn a'.tmps).run P w' = .ok v w' /\ ∃ β' own' S', zgI L.foot.length C.β0 C.w0 C.S0 β' w' S' /\ (∀ id, L.foot.length + L.new.length <= id -> β' id = none) ∧
  rel β' w' S' L.res v /\ zaw β' own' S' L.go1 w' /\ Fr (za9 L.go0 own) C.w0 w' /\ (∀ id b, (L.go1 id).isSome -> own' id b -> za9 L.go0 own b \/ C.w0.heap.size <= b) ∧
  (∀ b, S' b -> C.S0 b \/ za9 L.go0 own b \/ C.w0.heap.size <= b) := by
  have H2 := H.h
  obtain ⟨R, v, os, k, hk, _⟩ := RT.runs_of_vc _ _ _ hk
  obtain ⟨ss, R1, hk, hres⟩ := zkx hrs hk
  obtain ⟨xs, hxs, hrel⟩ := hres (C := C) hP H2
  obtain ⟨ρ1, R2, hk, l1, i1, m1⟩ := zdJ _ hk
  obtain ⟨ρ2, R3, hk, l2, i2, m2⟩ := zdv _ hk
  obtain ⟨e1, e2, e3⟩ := zfU hk
  have hinj : ρ2.inj := i2 (i1 (fun i i' j q q' => by
   have := zca _ _ _ _ q
   have := zca _ _ _ _ q'
   simp_all))
  obtain ⟨hm, ho, hl⟩ := zid H2 hinj _ m2 e1
  have hgo1 : ∀ i, zav i (zby L.out 0 ++ zbm L.new L.foot.length) = L.go1 i := fun i => by
   rw [zdd, zdu, zcb]
   simp only [Nat.zero_le, if_true, Nat.sub_zero, zaa.go1]
   by_cases c : i < L.foot.length
   . rw [if_pos c, if_neg (by omega)]
     cases zaQ L.out i with
     | none => rfl
     | some q => cases q <;> rfl
   . rw [if_neg c, if_pos (by omega)]
     have : zaQ L.out i = none := by rw [zbx]; simp; omega
     rw [this]; rfl
  have hgo1' : (fun i => zav i (zby L.out 0 ++ zbm L.new L.foot.length)) = L.go1 := funext hgo1
  rw [hgo1'] at hm
  have hfr := H2.fr
  rw [hX] at hfr
  refine ⟨_, zkr hxs, bOf ρ2 β1 (zky (zby L.out 0 ++ zbm L.new L.foot.length)), zb8 ρ2 own1, _, ⟨fun i B hi e => ?_, fun b hb => .inl (H2.s0 b hb), fun b hb => ?_⟩, fun i hi => by simp [bOf, zdG e2 i hi],
   m1 ρ2 l2 (zet H2.mem) _ _ (znB hrel), hm, hfr, fun id b hi hb => ?_, fun b hb => ?_⟩
  . simp only [bOf] at e
    split at e
    . rename_i j hj
      have := zb9 e3 i _ hi hj
      cases this
      exact H.b0 i B (by rw [hm0]; exact hi) e
    . rename_i hj
      have := zb9 e3 i _ hi hj
      cases this
    . cases e
  . exact hfr.block b (hmem.sz b hb) (fun ⟨i, q1, q2⟩ => hmem.st i b q1 q2 hb)
  . obtain ⟨j, q1, q2⟩ := ho id b (by rw [hgo1]; exact hi) hb
    have := H2.own0 j b q1 q2
    rw [hX] at this; exact this
  . have s1 := H2.s1
    have o0 := H2.own0
    rw [hX] at s1 o0
    rcases hb with hb | hb
    . exact s1 b hb
    . obtain ⟨j, q1, q2⟩ := hl b hb
      exact .inr (o0 j b q1 q2)
theorem zic {b D : Nat} (h : mk1 b = { target := .collected D, args := #[] }) : b = D := by
 unfold mk1 at h
 injection h with h _
 injection h
theorem znq {d : Deferred} (h : ziM d = false) : mks [d] = [] /\ nmk [d] = [d] := by simp [mks, nmk, h]
theorem zmq {ds : List Deferred} {d : Deferred} (h : nmk ds = [d]) : ziM d = false := by
 have : d ∈ nmk ds := by rw [h]; simp
 have := (List.mem_filter.1 this).2
 simpa using this
theorem ztj {C : Ctx} {gt go β own S a w} (H : zah C gt go β own S a w) {P : Program} {fn : Func} {R : Ending -> World -> Prop} {d : Deferred} {fv : Fn} {cap : Array Value} {g : FuncId} {args : Array Value} (hdt : C.dt = [d]) (htgt : d.target = .fn fv cap)
 (hinv : ∀ w1, (invoke d.target d.args).run P w1 = .ok (.enter g args) w1) (hidle : ∀ w1, CallsDIn Fence.wide 0 P g args .returning w1 fun e u' w' => e = .returned (.tuple #[]) /\ u' = .returning /\ w' = w1)
 (hR : ∀ w3, zah C gt go β own S { a with defers := [d] } w3 -> ∃ v, (results fn a.tmps).run P w3 = .ok v w3 /\ R (.returned v) w3) : LeavesInM Fence.wide 0 P fn a.tmps R a.defers .returning w := by
  have hn : nmk a.defers = [d] := H.df.2.trans hdt
  refine zgY (by simp) a.defers w hn H.df.1.nd (fun m hm => ?_) (fun rest w1 g1 g2 g3 g4 g5 g6 g7 g8 g9 => ?_)
  . obtain ⟨D, e1, _, e3, _⟩ := H.df.1.at_ m hm
    exact ⟨D, e1, e3⟩
  . refine ⟨by simp, .inr ⟨fun e => by simp [Fence.wide] at e, fv, cap, g, args, htgt, hinv w1, fun _ _ => trivial, (hidle w1).mono ?_⟩⟩
    rintro e u' w' ⟨rfl, rfl, rfl⟩
    show LeavesInM Fence.wide 0 P fn a.tmps R rest .returning _
    refine zfo rest _ g8 (fun m hm => g9 m hm) (fun w3 h1 h2 h3 h4 h5 => hR w3 ?_)
    refine H.off rfl (h1.trans g1) (h2.trans g2) (h3.trans g3) (h4.trans g4) (fun b => ?_) ?_
    . by_cases hb : mk1 b ∈ mks a.defers
      . right
        obtain ⟨D, e1, e2, _, e4, e5⟩ := H.df.1.at_ _ hb
        have := zic e1
        subst this
        exact ⟨e2, e4, e5⟩
      . left
        rw [h5 b (fun hr => hb (g7 _ hr)), g5 b hb]
    . have := znq (zmq hn)
      exact ⟨⟨by rw [this.1]; simp, fun m hm => by rw [this.1] at hm; cases hm⟩, by rw [this.2, hdt]⟩
theorem zxn {C : Ctx} {gt go β own S a w} (H : zah C gt go β own S a w) {i : Nat} {c : SV} {B : zay} {b : Nat} (h : go i = some (.row [c])) (hB : β i = some B) (hb : B.blk = some b) :
 ∃ v T, w.heap[b]? = some (.cells #[v] T (0, 0)) /\ own i = zci b /\ B.str = 1 /\ B.cap = 1 := by
  obtain ⟨B', h1, b', arr, T, h2, h3, h4, h5, h6, h7⟩ := H.mem.obj i _ h
  rw [hB] at h1; cases h1
  rw [hb] at h2; cases h2
  simp only [zam] at h7
  obtain ⟨x, xs, e, _, rfl⟩ := h7
  have : arr = #[x] := by apply Array.toList_inj.1; simpa using e
  subst this
  exact ⟨x, T, h6, h5, h3, h4⟩
theorem zlh {w : World} {b : Nat} {x y : Value} {T : TypeId} (h : w.heap[b]? = some (.cells #[x] T (0, 0))) :
 (w.setCell ⟨b, 0, none⟩ y).heap[b]? = some (.cells #[y] T (0, 0)) /\ (∀ j, j ≠ b -> (w.setCell ⟨b, 0, none⟩ y).heap[j]? = w.heap[j]?) /\ (w.setCell ⟨b, 0, none⟩ y).heap.size = w.heap.size := by
  refine ⟨?_, fun j hj => ?_, by simp [World.setCell]⟩
  . simp [World.setCell, Array.getElem?_modify, h]
  . simp only [World.setCell, Array.getElem?_modify]
    rw [if_neg (fun e => hj e.symm)]
theorem zh7 {w : World} {b : Nat} {x : Value} {T : TypeId} (h : w.heap[b]? = some (.cells #[x] T (0, 0))) : w.cell? ⟨b, 0, none⟩ = some x /\ w.frozen? ⟨b, 0, none⟩ = false := by
 simp [World.cell?, World.frozen?, h]
theorem zti {C : Ctx} {gt go β own S a w} (H : zah C gt go β own S a w) {P : Program} {fn : Func} {R : Ending -> World -> Prop} {d : Deferred} {fv : Fn} {cap : Array Value} {g : FuncId} {args : Array Value} (hdt : C.dt = [d]) (htgt : d.target = .fn fv cap)
 (hinv : ∀ w1, (invoke d.target d.args).run P w1 = .ok (.enter g args) w1) {i8 i9 : Nat} {B8 B9 : zay} {b8 b9 : Nat} {c8 c9 : SV} (ne : i8 ≠ i9) (h8 : go i8 = some (.row [c8])) (h9 : go i9 = some (.row [c9])) (hB8 : β i8 = some B8) (hb8 : B8.blk = some b8)
 (hB9 : β i9 = some B9) (hb9 : B9.blk = some b9) (k y : Int) (x : Value)
 (hpan : ∀ w1 v8 v9, w1.cell? ⟨b8, 0, none⟩ = some v8 -> w1.frozen? ⟨b8, 0, none⟩ = false -> w1.cell? ⟨b9, 0, none⟩ = some v9 -> w1.frozen? ⟨b9, 0, none⟩ = false -> b8 < w1.heap.size -> b9 < w1.heap.size -> ¬ b8 = b9 →
  CallsDIn Fence.wide 0 P g args (.panicking [{ v := x, recovered := false }]) w1 fun e u' w' => e = .returned (.tuple #[]) /\ u' = .panicking [{ v := x, recovered := true }] ∧
   ∃ T, w' = ((w1.alloc (.cells #[.int .i64 k] T)).setCell ⟨b8, 0, none⟩ (.int .i64 k)).setCell ⟨b9, 0, none⟩ (.int .i64 y))
 (hR : ∀ w3, zah C gt (upd (upd go i8 (some (.row [.int .i64 k]))) i9 (some (.row [.int .i64 y]))) β own S { a with defers := [d] } w3 -> ∃ v, (results fn a.tmps).run P w3 = .ok v w3 /\ R (.returned v) w3) :
 LeavesInM Fence.wide 0 P fn a.tmps R a.defers (.panicking [{ v := x, recovered := false }]) w := by
  have hn : nmk a.defers = [d] := H.df.2.trans hdt
  have hone := znq (zmq hn)
  refine zgY (by simp) a.defers w hn H.df.1.nd (fun m hm => ?_) (fun rest w1 g1 g2 g3 g4 g5 g6 g7 g8 g9 => ?_)
  . obtain ⟨D, e1, _, e3, _⟩ := H.df.1.at_ m hm
    exact ⟨D, e1, e3⟩
  . have offd : ∀ b, w1.heap[b]? = w.heap[b]? \/ (C.w0.heap.size <= b /\ ¬ S b /\ ∀ id, (go id).isSome -> ¬ own id b) := fun b => by
     by_cases hb : mk1 b ∈ mks a.defers
     . right
       obtain ⟨D, e1, e2, _, e4, e5⟩ := H.df.1.at_ _ hb
       have := zic e1
       subst this
       exact ⟨e2, e4, e5⟩
     . exact .inl (g5 b hb)
    have hrest : mks (d :: rest) = rest /\ nmk (d :: rest) = [d] := by
     have h1 := zgg g6
     have h2 := zmq hn
     constructor
     . simp only [mks, List.filter_cons, h2]; exact h1
     . simp only [nmk, List.filter_cons, h2]
       show d :: nmk rest = [d]
       rw [g6]
    have H1 : zah C gt go β own S { a with defers := d :: rest } w1 := by
     refine H.off rfl g1 g2 g3 g4 offd ⟨⟨by rw [hrest.1]; exact g8, fun m hm => ?_⟩, by rw [hrest.2, hdt]⟩
     rw [hrest.1] at hm
     obtain ⟨D, e1, e2, _, e4, e5⟩ := H.df.1.at_ m (g7 m hm)
     obtain ⟨D', e1', e3'⟩ := g9 m hm
     have := zic (e1'.symm.trans e1)
     subst this
     exact ⟨D', e1, e2, e3', e4, e5⟩
    obtain ⟨v8, T8, q8, o8, st8, cp8⟩ := zxn H1 h8 hB8 hb8
    obtain ⟨v9, T9, q9, o9, st9, cp9⟩ := zxn H1 h9 hB9 hb9
    have hne : ¬ b8 = b9 := fun e => H1.mem.sep i8 i9 b8 ne (by simp [h8]) (by simp [h9]) (by rw [o8]; rfl) (by rw [o9, e]; rfl)
    have l8 := (Array.getElem?_eq_some_iff.1 q8).1
    have l9 := (Array.getElem?_eq_some_iff.1 q9).1
    refine ⟨by simp, .inr ⟨fun e => by simp [Fence.wide] at e, fv, cap, g, args, htgt, hinv w1, fun _ _ => trivial, (hpan w1 v8 v9 (zh7 q8).1 (zh7 q8).2 (zh7 q9).1 (zh7 q9).2 l8 l9 hne).mono ?_⟩⟩
    rintro e u' w' ⟨rfl, rfl, T, hw'⟩
    show LeavesInM Fence.wide 0 P fn a.tmps R rest (settle _) w'
    have hset : settle (.panicking [{ v := x, recovered := true }]) = .returning := by simp [settle]
    rw [hset]
    have H2 := H1.push (.cells #[.int .i64 k] T)
    generalize hW2 : w1.alloc (.cells #[.int .i64 k] T) = W2 at *
    have old : ∀ j, j < w1.heap.size -> W2.heap[j]? = w1.heap[j]? := fun j hj => by
     rw [<- hW2]; show (w1.heap.push _)[j]? = _; rw [Array.getElem?_push, if_neg (by omega)]
    have p8 := zlh (y := .int .i64 k) ((old b8 l8).trans q8)
    have H3 := H2.set h8 (w' := W2.setCell ⟨b8, 0, none⟩ (.int .i64 k)) hB8 p8.2.2 (fun j hj => p8.2.1 j (fun e => hj (by rw [o8, e]; rfl))) rfl rfl rfl (o := .row [.int .i64 k])
     (fun _ => ⟨b8, #[.int .i64 k], T8, hb8, by simp [st8], cp8, o8, p8.1, by simp [zam, rel]⟩) none undef none (fun d s e => by cases e) (fun _ => .inl rfl)
    simp only [zbe] at H3
    generalize hW3 : W2.setCell ⟨b8, 0, none⟩ (.int .i64 k) = W3 at *
    have h9' : upd go i8 (some (SO.row [.int .i64 k])) i9 = some (.row [c9]) := by rw [zab _ _ (Ne.symm ne)]; exact h9
    have p9 := zlh (y := .int .i64 y) ((p8.2.1 b9 (fun e => hne e.symm)).trans ((old b9 l9).trans q9))
    have H4 := H3.set h9' (w' := W3.setCell ⟨b9, 0, none⟩ (.int .i64 y)) hB9 p9.2.2 (fun j hj => p9.2.1 j (fun e => hj (by rw [o9, e]; rfl))) rfl rfl rfl (o := .row [.int .i64 y])
     (fun _ => ⟨b9, #[.int .i64 y], T9, hb9, by simp [st9], cp9, o9, p9.1, by simp [zam, rel]⟩) none undef none (fun d s e => by cases e) (fun _ => .inl rfl)
    simp only [zbe] at H4
    rw [<- hw'] at H4
    have hdf := H4.df
    refine zfo rest w' g8 (fun m hm => ?_) (fun w3 h1 h2 h3 h4 h5 => hR w3 ?_)
    . obtain ⟨D, e1, _, e3, _⟩ := hdf.1.at_ m (by show m ∈ mks (d :: rest); rw [hrest.1]; exact hm)
      exact ⟨D, e1, e3⟩
    . refine H4.off rfl h1 h2 h3 h4 (fun b => ?_) ⟨⟨by rw [hone.1]; simp, fun m hm => by rw [hone.1] at hm; cases hm⟩, by rw [hone.2, hdt]⟩
      by_cases hb : mk1 b ∈ rest
      . right
        obtain ⟨D, e1, e2, _, e4, e5⟩ := hdf.1.at_ _ (show mk1 b ∈ mks (d :: rest) by rw [hrest.1]; exact hb)
        have := zic e1
        subst this
        exact ⟨e2, e4, e5⟩
      . exact .inl (h5 b hb)
end Go.Sx
namespace Go.Sx
open Go
open Classical
def zvP (rs : List RV) (L : zaa) (T : TypeId) (y : Int) (i8 i9 : Nat) : Ex -> St -> Prop
 | .nrm, s => (zeQ rs L).vc (zaM s.t) (zax s.o) [] fun _ _ _ _ => True
 | .ret, s => (zeQ rs L).vc (zaM s.t) (zax s.o) [] fun _ _ _ _ => True
 | .exit _, _ => False
 | .pan v, s => match v with
   | .ifc T' (.agg [.int .i64 k]) => match zax s.o i8, zax s.o i9 with
     | some (.row [_]), some (.row [_]) => Sd (T' = T) /\ (zeQ rs L).vc (zaM s.t) (zax ((i9, some (.row [.int .i64 y])) :: (i8, some (.row [.int .i64 k])) :: s.o)) [] fun _ _ _ _ => True
     | _, _ => False
   | _ => False
def zq9 (P : Program) (G : Nat -> Option SV) (N : Nat) (S PS : zct) (LA : Nat -> zcA) (JA : Nat -> zf6) (mB : MC) (rs : List RV) (L : zaa) (T : TypeId) (y : Int) (t8 t9 t19 : Nat) : Ex -> St -> Prop
 | .ret, s => (zeQ rs L).vc (zaM s.t) (zax s.o) [] fun _ _ _ _ => True
 | .nrm, s => match zav t8 s.t, zav t9 s.t, zav t19 s.t with
   | some (.ptr i8 0 0), some (.ptr i9 0 0), none => match Nat.beq i8 i9, Nat.blt i8 s.nx, Nat.blt i9 s.nx with
     | false, true, true => run ⟨P, G, N, none, s.nx, none, S, LA, JA, PS⟩ mB s (zvP rs L T y i8 i9)
     | _, _, _ => False
   | _, _, _ => False
 | _, _ => False
theorem zpA {P : Program} {fn : Func} {R : Ending -> World -> Prop} {C : Ctx} (hdt : C.dt = []) {gt go β own S a w} (H : zah C gt go β own S a w)
 (hR : ∀ w3, zah C gt go β own S { a with defers := [] } w3 -> ∃ v, (results fn a.tmps).run P w3 = .ok v w3 /\ R (.returned v) w3) : LeavesInM Fence.wide 0 P fn a.tmps R a.defers .returning w := by
  obtain ⟨hdf, hms⟩ := H.df
  rw [zgg (hms.trans hdt)] at hdf
  refine zfo a.defers w hdf.nd (fun d hd => ?_) (fun w2 h1 h2 h3 h4 h5 => ?_)
  . obtain ⟨D, e1, _, e3, _⟩ := hdf.at_ d hd
    exact ⟨D, e1, e3⟩
  . have H2 := H.undf h1 h2 h3 h4 hdf h5
    rw [hdt] at H2
    exact hR w2 H2
theorem zrY {P : Program} {G : Nat -> Option SV} {f : FuncId} {fn : Func} {A1 A2 B : Code} {rid : Nat} {o1 o2 : Oper} {mA1 mA2 mB : MC} {rs : List RV} {L : zaa} (hmix : P.follows .mixedOrders = true) (hf : P.funcs[f]? = some fn)
 (hb : fn.body = some (.seq A1 (.seq A2 (.seq (.region rid #[o1, o2] false) B)))) (hent : zcp P f) (h1 : zbk P A1 mA1) (h2 : zbk P A2 mA2) (hB : zbk P B mB) (hrs : zfc P fn.results.toList rs) (hN : L.args.length <= fn.ntmps) (hout : L.out.length = L.foot.length)
 {t8 t9 t19 : Nat} {g : FuncId} (ho1 : o1.op = .makeFunc (.func g) #[] #[.tmp t8, .tmp t9]) (hd1 : o1.dst = some t19) (hg1 : o1.guard = none) (ho2 : o2.op = .defer { callee := .value (.tmp t19), args := #[], argTypes := #[] }) (hd2 : o2.dst = none) (hg2 : o2.guard = none) (h19 : t19 < fn.ntmps)
 (hentg : zcp P g) (T : TypeId) (y : Int)
 (hidle : ∀ (b8 b9 : Nat) w1, CallsDIn Fence.wide 0 P g #[.pointer (some ⟨b8, 0, none⟩), .pointer (some ⟨b9, 0, none⟩)] .returning w1 fun e u' w' => e = .returned (.tuple #[]) /\ u' = .returning /\ w' = w1)
 (hpan : ∀ (b8 b9 : Nat) (k : Int) w1 v8 v9, w1.cell? ⟨b8, 0, none⟩ = some v8 -> w1.frozen? ⟨b8, 0, none⟩ = false -> w1.cell? ⟨b9, 0, none⟩ = some v9 -> w1.frozen? ⟨b9, 0, none⟩ = false -> b8 < w1.heap.size -> b9 < w1.heap.size -> ¬ b8 = b9 →
  CallsDIn Fence.wide 0 P g #[.pointer (some ⟨b8, 0, none⟩), .pointer (some ⟨b9, 0, none⟩)] (.panicking [{ v := .iface T (.agg #[.int .i64 k]), recovered := false }]) w1 fun e u' w' => e = .returned (.tuple #[]) /\ u' = .panicking [{ v := .iface T (.agg #[.int .i64 k]), recovered := true }] ∧
   ∃ T', w' = ((w1.alloc (.cells #[.int .i64 k] T')).setCell ⟨b8, 0, none⟩ (.int .i64 k)).setCell ⟨b9, 0, none⟩ (.int .i64 y))
 {S : zct} (hS : SOk P G S) (LA : Nat -> zcA) (JA : Nat -> zf6) {PS : zct} (hPS : zf7 panicked P G PS)
 (h : run ⟨P, G, fn.ntmps, none, L.foot.length, none, S, LA, JA, PS⟩ (.seq mA1 mA2) (entry L) (zq9 P G fn.ntmps S PS LA JA mB rs L T y t8 t9 t19)) : zaa.ok P G f L := by
  refine ⟨hent, hout, fun β own S0 w vs hβ hmem hargs hgl => ?_⟩
  have hlen := zaL _ _ hargs
  simp at hlen
  let C : Ctx := { P := P, G := G, N := fn.ntmps, rnd := none, m0 := L.foot.length, Y := none, S := S, L := LA, J := JA, PS := PS, sok := hS, psok := hPS, w0 := w, X0 := za9 L.go0 own, S0 := S0, β0 := β }
  have hgo : zax (zbm (zdX L.foot) 0) = L.go0 := funext fun i => by rw [zgV]; simp [zaa.go0]
  have H0 : zaA C (entry L) β own S0 { tmps := vs ++ Array.replicate (fn.ntmps - vs.size) undef, defers := [] } w := by
   refine ⟨⟨fun t s e => ?_, by simp only [entry]; rw [hgo]; exact hmem, Fr.refl _ _, fun id b h1 h2 => ?_, fun _ e => e, fun _ e => .inl e, ?_, ⟨⟨by simp [mks], fun d hd => by simp [mks] at hd⟩, rfl⟩, hgl⟩, hβ, Nat.le_refl _, fun i B _ e => e⟩
   . simp only [entry, zaM, zcb, Nat.zero_le, if_true, Nat.sub_zero] at e
     rw [zbx] at e
     obtain ⟨y, h1, h2⟩ := zd6 (i := t) _ _ _ hargs e
     have ht : t < vs.size := by
      have := (List.getElem?_eq_some_iff.1 h1).1
      simpa using this
     have : (vs ++ Array.replicate (fn.ntmps - vs.size) undef).getD t undef = y := by
      rw [Array.getD_eq_getD_getElem?, Array.getElem?_append_left ht]
      simp at h1
      rw [h1]; rfl
     simp only [this]
     exact h2
   . left
     simp only [entry] at h1
     rw [hgo] at h1
     exact ⟨id, h1, h2⟩
   . show (vs ++ Array.replicate (fn.ntmps - vs.size) undef).size = fn.ntmps
     simp; omega
  simp only [run] at h
  refine callsIn_wide.1 (callsIn_of_wp_marks (F := Fence.wide) (n := 0) hf hb trivial (wpIn_seq (F := Fence.wide) (wpIn_mono (F := Fence.wide) (zhU (C := C) hmix h1 rfl (fun y e => by cases e) h H0) ?_)) rfl)
  have early : ∀ s' β1 own1 S1 a' w', ((zeQ rs L).vc (zaM s'.t) (zax s'.o) [] fun _ _ _ _ => True) -> zaA C s' β1 own1 S1 a' w' -> bodyPostM Fence.wide 0 P fn (fun e w' => ∃ v β' own' S', e = .returned v /\ zgI L.foot.length β w S0 β' w' S' /\ (∀ id, L.foot.length + L.new.length <= id -> β' id = none) ∧
   rel β' w' S' L.res v /\ zaw β' own' S' L.go1 w' /\ Fr (za9 L.go0 own) w w' /\ (∀ id b, (L.go1 id).isSome -> own' id b -> za9 L.go0 own b \/ w.heap.size <= b) /\ (∀ b, S' b -> S0 b \/ za9 L.go0 own b \/ w.heap.size <= b)) .ret a' w' := by
    intro s' β1 own1 S1 a' w' hk H
    refine zpA (C := C) rfl H.h (fun w3 H3 => ?_)
    obtain ⟨v, e, β', own', S', q⟩ := zks (C := C) (own := own) hrs hout rfl rfl rfl hmem hk (a' := { a' with defers := [] }) (w' := w3) ⟨H3, H.fresh, H.m0, H.b0⟩
    exact ⟨v, e, v, β', own', S', rfl, q⟩
  intro e a1 w1 hp
  cases e with
  | exit i => obtain ⟨s1, β1, own1, S1, hk, H1⟩ := hp; exact hk.elim
  | goto l => exact hp.elim
  | panic c => obtain ⟨s1, β1, own1, S1, v, x, _, hk, _⟩ := hp; exact hk.elim
  | outgrown => exact hp.elim
  | ret => obtain ⟨s1, β1, own1, S1, hk, H1⟩ := hp; exact early _ _ _ _ _ _ hk H1
  | normal =>
  obtain ⟨s1, β1, own1, S1, hk, H1⟩ := hp
  refine wpIn_seq (F := Fence.wide) (wpIn_mono (F := Fence.wide) (zhU (C := C) hmix h2 rfl (fun y e => by cases e) hk H1) ?_)
  intro e a2 w2 hp
  cases e with
  | exit i => obtain ⟨s2, β2, own2, S2, hk, H2⟩ := hp; exact hk.elim
  | goto l => exact hp.elim
  | panic c => obtain ⟨s2, β2, own2, S2, v, x, _, hk, _⟩ := hp; exact hk.elim
  | outgrown => exact hp.elim
  | ret => obtain ⟨s2, β2, own2, S2, hk, H2⟩ := hp; exact early _ _ _ _ _ _ hk H2
  | normal =>
  obtain ⟨s2, β2, own2, S2, hk, H2⟩ := hp
  simp only [zq9] at hk
  split at hk
  case h_2 => exact hk.elim
  rename_i i8 i9 e8 e9 e19
  split at hk
  case h_2 => exact hk.elim
  rename_i q1 q2 q3
  have ne : i8 ≠ i9 := fun e => by rw [e] at q1; simp at q1
  have lt8 : i8 < s2.nx := by rw [Nat.blt_eq] at q2; exact q2
  have lt9 : i9 < s2.nx := by rw [Nat.blt_eq] at q3; exact q3
  have r8 := H2.h.tm t8 _ e8
  have r9 := H2.h.tm t9 _ e9
  simp only [rel] at r8 r9
  obtain ⟨B8, b8, hB8, hb8, v8⟩ := r8
  obtain ⟨B9, b9, hB9, hb9, v9⟩ := r9
  simp only [Nat.zero_mul, Nat.zero_add] at v8 v9
  let d : Deferred := { target := .fn (.func g) #[.pointer (some ⟨b8, 0, none⟩), .pointer (some ⟨b9, 0, none⟩)], args := #[] ++ #[] }
  have hinv : ∀ w1, (invoke d.target d.args).run P w1 = .ok (.enter g #[.pointer (some ⟨b8, 0, none⟩), .pointer (some ⟨b9, 0, none⟩)]) w1 := fun w1 => by
   simp only [invoke, d]
   have := hentg #[.pointer (some ⟨b8, 0, none⟩), .pointer (some ⟨b9, 0, none⟩)] w1
   simpa using this
  refine wpIn_seq (F := Fence.wide) (wpIn_region (F := Fence.wide) ?_)
  have hr1 : (execOp a2.eval o1).run P w2 = .ok (.value (.func (.func g) #[] #[.pointer (some ⟨b8, 0, none⟩), .pointer (some ⟨b9, 0, none⟩)])) w2 := by
   simp only [execOp, ho1]
   simp [Instr.makeFunc, Act.eval, v8, v9]
  have hr2 : (execOp (a2.put o1.dst (.func (.func g) #[] #[.pointer (some ⟨b8, 0, none⟩), .pointer (some ⟨b9, 0, none⟩)])).eval o2).run P w2 = .ok (.defer d) w2 := by
   have hsz : t19 < a2.tmps.size := by rw [H2.h.n]; exact h19
   have hv : (a2.put (some t19) (.func (.func g) #[] #[.pointer (some ⟨b8, 0, none⟩), .pointer (some ⟨b9, 0, none⟩)])).eval (.tmp t19) = .func (.func g) #[] #[.pointer (some ⟨b8, 0, none⟩), .pointer (some ⟨b9, 0, none⟩)] := by
    show (a2.put (some t19) _).tmps.getD t19 undef = _
    rw [zgU hsz, if_pos rfl]
   simp only [execOp, ho2, hd1]
   simp [resolve, Deferred.ofValue, hv, d]
  have hw1 : ∀ t, Region.wanted o1 t = true := fun t => by unfold Region.wanted; rw [hg1]
  have hw2 : ∀ t, Region.wanted o2 t = true := fun t => by unfold Region.wanted; rw [hg2]
  show wpOpsIn Fence.wide 0 P #[o1, o2] _ [0, 1] a2 w2
  simp only [wpOpsIn, show #[o1, o2][0]? = some o1 from rfl, show #[o1, o2][1]? = some o2 from rfl, hw1, hw2, if_true]
  refine ⟨fun _ _ => trivial, ?_⟩
  show Oper.uponIn Fence.wide 0 P o1 a2 _ _ ((execOp a2.eval o1).run P w2)
  rw [hr1]
  refine ⟨fun _ _ => trivial, ?_⟩
  show Oper.uponIn Fence.wide 0 P o2 _ _ _ ((execOp (a2.put o1.dst _).eval o2).run P w2)
  rw [hr2]
  show B.wpIn Fence.wide 0 P _ ({ a2.put o1.dst (.func (.func g) #[] #[.pointer (some ⟨b8, 0, none⟩), .pointer (some ⟨b9, 0, none⟩)]) with defers := d :: (a2.put o1.dst (.func (.func g) #[] #[.pointer (some ⟨b8, 0, none⟩), .pointer (some ⟨b9, 0, none⟩)])).defers }.put o2.dst undef) w2
  rw [hd1, hd2]
  let C' : Ctx := { C with m0 := s2.nx, dt := [d], β0 := β2 }
  have hdm : ziM d = false := rfl
  have hnm : nmk a2.defers = [] := H2.h.df.2
  have HB : zaA C' s2 β2 own2 S2 { a2.put (some t19) (.func (.func g) #[] #[.pointer (some ⟨b8, 0, none⟩), .pointer (some ⟨b9, 0, none⟩)]) with defers := d :: (a2.put (some t19) (.func (.func g) #[] #[.pointer (some ⟨b8, 0, none⟩), .pointer (some ⟨b9, 0, none⟩)])).defers } w2 := by
   have hsz : t19 < a2.tmps.size := by rw [H2.h.n]; exact h19
   have e1 : mks (d :: a2.defers) = mks a2.defers := by simp [mks, hdm]
   have e2 : nmk (d :: a2.defers) = [d] := by
    have : nmk (d :: a2.defers) = d :: nmk a2.defers := by simp [nmk, hdm]
    rw [this, hnm]
   refine ⟨⟨fun t s e => ?_, H2.h.mem, H2.h.fr, H2.h.own0, H2.h.s0, H2.h.s1, by rw [<- H2.h.n]; exact zmx _ _ _, ⟨?_, ?_⟩, H2.h.gl⟩, H2.fresh, Nat.le_refl _, fun i B _ e => e⟩
   . show rel β2 w2 S2 s ((a2.put (some t19) _).tmps.getD t undef)
     rw [zgU hsz, if_neg (fun e' => by subst e'; simp only [zaM] at e; rw [e19] at e; cases e)]
     exact H2.h.tm t s e
   . show zlF _ _ _ _ (mks (d :: a2.defers)) _
     rw [e1]; exact H2.h.df.1
   . exact e2
  refine wpIn_mono (F := Fence.wide) (zhU (C := C') hmix hB rfl (fun y e => by cases e) hk HB) ?_
  have back : ∀ {s3 : St} {β3 own3 S3 a5 w5}, zaA C' s3 β3 own3 S3 a5 w5 -> ∀ {s6 : St} {w6}, s6.nx = s3.nx -> zah C' (zaM s6.t) (zax s6.o) β3 own3 S3 { a5 with defers := [d] } w6 -> zaA C s6 β3 own3 S3 { a5 with defers := [] } w6 := by
   intro s3 β3 own3 S3 a5 w5 H3 s6 w6 hnx H6
   have hm2 : C.m0 <= s2.nx := H2.m0
   have hm3 : s2.nx <= s3.nx := H3.m0
   exact ⟨⟨H6.tm, H6.mem, H6.fr, H6.own0, H6.s0, H6.s1, H6.n, ⟨⟨by simp [mks], fun m hm => by simp [mks] at hm⟩, rfl⟩, H6.gl⟩, by rw [hnx]; exact H3.fresh, by rw [hnx]; omega, fun i B hi e => H2.b0 i B hi (H3.b0 i B (Nat.lt_of_lt_of_le hi hm2) e)⟩
  have late : ∀ {s3 : St} {β3 own3 S3 a5 w5}, zaA C' s3 β3 own3 S3 a5 w5 -> ((zeQ rs L).vc (zaM s3.t) (zax s3.o) [] fun _ _ _ _ => True) -> LeavesInM Fence.wide 0 P fn a5.tmps (fun e w' => ∃ v β' own' S', e = .returned v /\ zgI L.foot.length β w S0 β' w' S' /\ (∀ id, L.foot.length + L.new.length <= id -> β' id = none) ∧
   rel β' w' S' L.res v /\ zaw β' own' S' L.go1 w' /\ Fr (za9 L.go0 own) w w' /\ (∀ id b, (L.go1 id).isSome -> own' id b -> za9 L.go0 own b \/ w.heap.size <= b) /\ (∀ b, S' b -> S0 b \/ za9 L.go0 own b \/ w.heap.size <= b)) a5.defers .returning w5 := by
    intro s3 β3 own3 S3 a5 w5 H3 hk3
    refine ztj (C := C') H3.h rfl rfl hinv (hidle b8 b9) (fun w6 H6 => ?_)
    obtain ⟨v, e, β', own', S', q⟩ := zks (C := C) (own := own) hrs hout rfl rfl rfl hmem hk3 (back H3 (s6 := s3) rfl H6)
    exact ⟨v, e, v, β', own', S', rfl, q⟩
  intro e a5 w5 hp
  cases e with
  | exit i => obtain ⟨s3, β3, own3, S3, hk3, H3⟩ := hp; exact hk3.elim
  | goto l => exact hp.elim
  | outgrown => exact hp.elim
  | ret => obtain ⟨s3, β3, own3, S3, hk3, H3⟩ := hp; exact late H3 hk3
  | normal => obtain ⟨s3, β3, own3, S3, hk3, H3⟩ := hp; exact late H3 hk3
  | panic c =>
    obtain ⟨s3, β3, own3, S3, v, x, rfl, hk3, H3, hx⟩ := hp
    simp only [zvP] at hk3
    split at hk3
    case h_2 => exact hk3.elim
    rename_i T' k
    split at hk3
    case h_2 => exact hk3.elim
    rename_i c8 c9 g8 g9
    obtain ⟨⟨rfl⟩, hk3⟩ := hk3
    simp only [rel, zam] at hx
    obtain ⟨yy, rfl, xs, rfl, x1, xs1, e1, rfl, e2⟩ := hx
    have hxs : xs = #[.int .i64 k] := by apply Array.toList_inj.1; rw [e1, e2]
    subst hxs
    obtain ⟨B8', hB8', _⟩ := H3.h.mem.obj i8 _ g8
    obtain ⟨B9', hB9', _⟩ := H3.h.mem.obj i9 _ g9
    have c1 := H3.b0 i8 B8' lt8 hB8'
    have c2 := H3.b0 i9 B9' lt9 hB9'
    simp only [C'] at c1 c2
    rw [hB8] at c1; cases c1
    rw [hB9] at c2; cases c2
    refine zti (C := C') H3.h rfl rfl hinv ne g8 g9 hB8' hb8 hB9' hb9 k y _ (hpan b8 b9 k) (fun w6 H6 => ?_)
    have H6' := back H3 (s6 := ⟨s3.t, (i9, some (.row [.int .i64 y])) :: (i8, some (.row [.int .i64 k])) :: s3.o, s3.nx⟩) rfl (by simp only [zcK]; exact H6)
    obtain ⟨v, e, β', own', S', q⟩ := zks (C := C) (own := own) hrs hout rfl rfl rfl hmem hk3 H6'
    exact ⟨v, e, v, β', own', S', rfl, q⟩
theorem zv2 {P : Program} {G : Nat -> Option SV} {f : FuncId} {fn : Func} {A1 A2 B : Code} {rid : Nat} {o1 o2 : Oper} {mA1 mA2 mB : MC} {rs : List RV} {L : zaa} (hmix : P.follows .mixedOrders = true) (hf : P.funcs[f]? = some fn)
 {N : Nat} (hNn : fn.ntmps = N) (hb : fn.body = some (.seq A1 (.seq A2 (.seq (.region rid #[o1, o2] false) B)))) (hent : zcp P f) (h1 : zbk P A1 mA1) (h2 : zbk P A2 mA2) (hB : zbk P B mB) (hrs : zfc P fn.results.toList rs) (hN : L.args.length <= N) (hout : L.out.length = L.foot.length)
 {t8 t9 t19 : Nat} {g : FuncId} (ho1 : o1.op = .makeFunc (.func g) #[] #[.tmp t8, .tmp t9]) (hd1 : o1.dst = some t19) (hg1 : o1.guard = none) (ho2 : o2.op = .defer { callee := .value (.tmp t19), args := #[], argTypes := #[] }) (hd2 : o2.dst = none) (hg2 : o2.guard = none) (h19 : t19 < N)
 (hentg : zcp P g) (T : TypeId) (y : Int)
 (hidle : ∀ (b8 b9 : Nat) w1, CallsDIn Fence.wide 0 P g #[.pointer (some ⟨b8, 0, none⟩), .pointer (some ⟨b9, 0, none⟩)] .returning w1 fun e u' w' => e = .returned (.tuple #[]) /\ u' = .returning /\ w' = w1)
 (hpan : ∀ (b8 b9 : Nat) (k : Int) w1 v8 v9, w1.cell? ⟨b8, 0, none⟩ = some v8 -> w1.frozen? ⟨b8, 0, none⟩ = false -> w1.cell? ⟨b9, 0, none⟩ = some v9 -> w1.frozen? ⟨b9, 0, none⟩ = false -> b8 < w1.heap.size -> b9 < w1.heap.size -> ¬ b8 = b9 →
  CallsDIn Fence.wide 0 P g #[.pointer (some ⟨b8, 0, none⟩), .pointer (some ⟨b9, 0, none⟩)] (.panicking [{ v := .iface T (.agg #[.int .i64 k]), recovered := false }]) w1 fun e u' w' => e = .returned (.tuple #[]) /\ u' = .panicking [{ v := .iface T (.agg #[.int .i64 k]), recovered := true }] ∧
   ∃ T', w' = ((w1.alloc (.cells #[.int .i64 k] T')).setCell ⟨b8, 0, none⟩ (.int .i64 k)).setCell ⟨b9, 0, none⟩ (.int .i64 y))
 {S : zct} (hS : SOk P G S) (LA : Nat -> zcA) (JA : Nat -> zf6) {PS : zct} (hPS : zf7 panicked P G PS)
 (h : fTs (zbm L.args 0) fun t => fOs (zbm (zdX L.foot) 0) fun o => zb5 L.foot.length fun nx => run ⟨P, G, N, none, nx, none, S, LA, JA, PS⟩ (.seq mA1 mA2) ⟨t, o, nx⟩ (zq9 P G N S PS LA JA mB rs L T y t8 t9 t19)) : zaa.ok P G f L := by
  subst hNn
  rw [zjq, zfA, zbf] at h
  exact zrY hmix hf hb hent h1 h2 hB hrs hN hout ho1 hd1 hg1 ho2 hd2 hg2 h19 hentg T y hidle hpan hS LA JA hPS h
end Go.Sx
namespace Go.Proofs.YtlahifihaeafbaaGreatDoor
open Go Go.Sx
section
def zyy : MC := .reg [oo 5 (.box (.t 1)),oo 8 (.alloc [(kz 0)]),oo 9 (.alloc [(kz 0)])]
def zyz : MC := .seq (.reg [om 12 0,om 13 2,om 14 3,oo 15 (fc 62 [(.t 12),(.t 13),(.t 14)]),om 10 15]) (.seq (.reg [om 16 10,oo 17 (cc .neq 16 0)]) (.cond (.t 17) (.seq (.reg [om 18 10,o none (.st (some 1) (.t 8) (ki 0)),o none (.st (some 1) (.t 9) (.t 18))]) (.ret)) (.skip)))
def zyA : MC := .seq (.reg [oo 20 (ls 2 5),om 21 0,oo 22 (.mkm),oo 23 (.bld [(.val (.slice none 0 0)),(.val (.slice none 0 0)),(.val (.slice none 0 0)),(.val (.map none))] [(0,2,(.t 20)),(2,1,(.t 21)),(3,1,(.t 22))]),oo 24 (.box (.t 23)),om 11 24]) (.seq (.reg [om 25 11,om 26 2,om 27 3,oo 28 (.pcall (.k (.fn (.func 64) [] [])) [(.t 25),(.t 26),(.t 27)])]) (.seq (.seq (.reg [om 29 11,oo 30 (fc 65 [(.t 29)]),oo 31 (.not (.t 30))]) (.cond (.t 31) (.reg [oo 32 (fl 0 5),oo 33 (ln 32),oo 34 (.lenS (.t 33)),oo 35 (.bld [(kz 0)] [(0,1,(.t 34))]),oo 36 (.mki 109 (.t 35)),o none (.pnc (.t 36))]) (.skip))) (.seq (.reg [o none (.st (some 1) (.t 8) (ki 0)),o none (.st (some 1) (.t 9) (ki 0))]) (.ret))))
attribute [local irreducible] Go.Sx.zaf Go.Sx.zas za2 zbu zb7 zba zbE
def zaT (l : List HI) (a : AL) (w v : Int) : Int × Int :=
 if zbE l w v ≠ 0 then (0, zbE l w v)
 else match za2 l w v a.L a.fr [] 0 with
  | .inl k => (k, 191)
  | .inr _ => if zbu ⟨a.L, a.fr, l⟩ = true then (0, 0) else ((a.L.length : Int), 191)
theorem zvi {l a w v} (h : ¬ zbE l w v = 0) : zaT l a w v = (0, zbE l w v) := by unfold zaT; rw [if_pos h]
theorem zvj {l a w v k} (h : ¬ ¬ zbE l w v = 0) (h2 : za2 l w v a.L a.fr [] 0 = .inl k) : zaT l a w v = (k, 191) := by unfold zaT; rw [if_neg h, h2]
theorem zqJ {l a w v es} (h : ¬ ¬ zbE l w v = 0) (h2 : za2 l w v a.L a.fr [] 0 = .inr es) (h3 : zbu ⟨a.L, a.fr, l⟩ = true) : zaT l a w v = (0, 0) := by
 unfold zaT; rw [if_neg h, h2]; exact if_pos h3
theorem zvk {l a w v es} (h : ¬ ¬ zbE l w v = 0) (h2 : za2 l w v a.L a.fr [] 0 = .inr es) (h3 : zbu ⟨a.L, a.fr, l⟩ = false) : zaT l a w v = ((a.L.length : Int), 191) := by
 unfold zaT; rw [if_neg h, h2]; exact if_neg (by rw [h3]; decide)
theorem a1 {p : Int × Int} {a b : Int} (h : p = (a, b)) : p.1 = a := by rw [h]
theorem a2 {p : Int × Int} {a b : Int} (h : p = (a, b)) : p.2 = b := by rw [h]
theorem zwa {T : Int ⊕ HM} (h : ¬ ∃ k, T = .inl k) : ∃ es, T = .inr es := by
 cases T with
 | inl k => exact absurd ⟨k, rfl⟩ h
 | inr es => exact ⟨es, rfl⟩
theorem zC1 : zf7 panicked Tryz.prog GG (zoI [(64, zqz)]) := by
 intro f args k gt go R v os n h
 simp only [zoI, Sx.zav] at h
 cases e : Nat.beq 64 f with
 | true =>
   rw [e] at h
   have := Nat.eq_of_beq_eq_true e
   subst this
   exact zEI _ _ _ _ _ _ _ _ h
 | false => rw [e] at h; cases h
def L24 (l : List HI) (a : AL) (w v : Int) : zaa := ⟨[hiS l, .agg a.cells, kz w, kz v], [], [], [], .tup [kz (zaT l a w v).1, kz (zaT l a w v).2]⟩
set_option maxHeartbeats 8000000 in
theorem s24 (l : List HI) (a : AL) (w v : Int) (hL : a.L.length <= 1000000) (hF : a.fr.length <= 1000000) : zaa.ok Tryz.prog GG 24 (L24 l a w v) := by
 refine zv2 (rs := [.c 8 none, .c 9 none]) (N := 37) mix Tryz.func24 (by kernel_rfl) rfl (zeY Tryz.func24 (by kernel_rfl) rfl) (zgl (mc := zyy) (by kernel_rfl) trivial) (zgl (mc := zyz) (by kernel_rfl) ⟨trivial, ⟨trivial, ⟨⟨trivial, trivial⟩, trivial⟩⟩⟩)
  (zgl (mc := zyA) (by kernel_rfl) ⟨trivial, ⟨trivial, ⟨⟨trivial, ⟨trivial, trivial⟩⟩, ⟨trivial, trivial⟩⟩⟩⟩) (zj7 (by kernel_rfl)) (Nat.le_of_ble_eq_true rfl) rfl rfl rfl rfl rfl rfl rfl (by decide) (zeY Tryz.func63 (by kernel_rfl) rfl) 109 191 zpC zrO
  (Tab.ok (l := [(62, S62), (64, S64), (65, S65)]) ⟨t62, t64, t65, trivial⟩) noL noJ zC1 ?_
 repeat' ((conv => whnf); first
  | exact trivial
  | with_reducible first | refine aj ?_ | refine ai rfl ?_ | refine ai ⟨rfl, rfl⟩ ?_
  | ((with_reducible refine ai ?_ ?_); focus exact w3)
  | ((with_reducible intro h); first | refine Exists.elim (p := fun k1 : Int => _ = Sum.inl k1) h (fun k1 hk1 => ?_) | refine Exists.elim (zwa h) (fun k1 hk1 => ?_))
  | refine Exists.intro (∃ k1 : Int, za2 l w v a.L a.fr [] 0 = .inl k1) ?_
  | refine exI (x := MPC) trivial ?_
  | refine exI (x := ULift.up _) (by with_reducible assumption) ?_
  | with_reducible first | refine And.intro (Sd.mk (p := ndk _ /\ _) ⟨by simp [ndk], by assumption⟩) ?_ | refine And.intro (Sd.mk (p := _ <= 1000000) ‹_›) ?_ | refine And.intro ?_ ?_ | refine zae ?_ | refine exI (i64_in (by omega) (by omega)) ?_
  | refine exI (x := ULift.up _) (Eq.refl _) ?_
  | refine exI (x := ULift.up _) ⟨rfl, by omega, Eq.refl _⟩ ?_
  | exact nx
  | ((with_reducible intro h); try dsimp only at h))
 all_goals (refine Sd.mk ?_); all_goals (try simp only [List.length_map])
 all_goals first
  | exact a1 (zvi ‹_›)
  | exact a2 (zvi ‹_›)
  | exact a1 (zvj ‹_› ‹_›)
  | exact a2 (zvj ‹_› ‹_›)
  | exact a1 (zqJ ‹_› ‹_› (nf ‹_›))
  | exact a2 (zqJ ‹_› ‹_› (nf ‹_›))
  | exact a1 (zvk ‹_› ‹_› (nt ‹_›))
  | exact a2 (zvk ‹_› ‹_› (nt ‹_›))
end
section
def c21 : MC := .seq (.reg [oo 2 (.mv (ki 0)),oo 3 (.mv (ki 0)),oo 4 (.mv (ki 0))]) (.seq (.seq (.reg [om 7 0,oo 8 (fc 18 [(.t 7)]),oo 9 (cc .neq 8 0)]) (.cond (.t 9) (.seq (.reg [oo 2 (.mv (ki 0)),oo 3 (.mv (ki 0)),oo 4 (.mv (ki 190))]) (.ret)) (.skip))) (.seq (.reg [om 11 0,oo 12 (fc 60 [(.t 11)]),om 10 12,oo 13 (ex_ 0 10),oo 14 (ex_ 1 10),oo 5 (.alloc [(kz 0),(kz 0)]),oo 6 (.alloc [(kz 0),(kz 0)]),o none (.st (some 2) (.t 5) (.t 13)),o none (.st (some 2) (.t 6) (.t 14))]) (.seq (.drw [oo 15 (.ixr 2 1 (.t 5) (ki 0)),oo 16 (ln 15),oo 17 (.ixr 2 1 (.t 5) (ki 1)),oo 18 (ln 17),om 2 16,om 3 18,oo 4 (.mv (ki 0))] [[],[0],[],[2],[1,0,1],[3,4,0,1,2,3,4],[5,0,1,2,3,4,5]]) (.ret))))
theorem k21 : zar Tryz.prog 21 19 c21 [.t 2,.t 3,.t 4] := fk Tryz.func21 ⟨tv,⟨⟨tv,⟨⟨tv,tv⟩,tv⟩⟩,⟨tv,⟨tv,tv⟩⟩⟩⟩
attribute [local irreducible] zba zb6
def zhK (l : List HI) : Int × Int × Int := if zba l ≠ 0 then (0, 0, 190) else ((zb6 l).n0, (zb6 l).n1, 0)
theorem zqY {l : List HI} (h : ¬ ¬ zba l = 0) : l.length <= 4000 := by
 have h := Classical.not_not.1 h
 unfold zba at h
 split at h
 . next h1 => simp only [zfT, Bool.and_eq_true, decide_eq_true_eq] at h1; exact h1.1.2
 . cases h
noncomputable def L21 (l : List HI) : zaa := ⟨[.rd (.sl 15 (l.map HI.pv))], [], [], [], .tup [kz (zhK l).1, kz (zhK l).2.1, kz (zhK l).2.2]⟩
set_option maxHeartbeats 4000000 in
theorem s21 (l : List HI) : zaa.ok Tryz.prog GG 21 (L21 l) := by
 refine zad mix k21 _ rfl rfl (Tab.ok (l := [(18, S18), (60, S60)]) ⟨t18, t60, trivial⟩) noL noJ ?_
 repeat' ((conv => whnf); first
  | exact trivial
  | with_reducible first | refine aj ?_ | refine ai rfl ?_ | refine ai ⟨rfl, rfl⟩ ?_
  | ((with_reducible refine ai ?_ ?_); focus exact w3)
  | with_reducible first | refine And.intro (Sd.mk (p := _ <= 4000) (zqY (by with_reducible assumption))) ?_ | refine And.intro ?_ ?_ | refine zae ?_ | refine exI (i64_in (by omega) (by omega)) ?_
  | refine exI (x := ULift.up _) (Eq.refl _) ?_
  | refine exI (x := ULift.up _) ⟨rfl, by omega, Eq.refl _⟩ ?_
  | exact ny
  | ((with_reducible intro h); try dsimp only at h))
 all_goals (refine Sd.mk ?_; simp only [zhK]; simp_all)
end
section
def c47 : MC := .seq (.reg [oo 0 (.mv (.k (.val (.slice none 0 0))))]) (.seq (.reg [oo 1 (.bld zI [(0,1,(ki 1)),(9,1,(.k (.int .u32 1)))]),oo 2 (.bld zI [(0,1,(ki 1)),(4,1,(ki 1)),(9,1,(.k (.int .u32 2)))]),oo 3 (.bld zI [(0,1,(ki 3)),(1,1,(ki 1)),(4,1,(ki 2)),(6,1,(ki 1))]),oo 4 (.bld zI [(0,1,(ki 20)),(5,1,(ki 2)),(3,1,(ki 32)),(8,1,(ki 4))]),oo 5 (.bld zI [(0,1,(ki 40)),(8,1,(ki 1))]),oo 6 (.bsl 15 5 zI [(0,(.t 1)),(1,(.t 2)),(2,(.t 3)),(3,(.t 4)),(4,(.t 5))]),om 0 6]) (.ret))
theorem k47 : zar Tryz.prog 47 7 c47 [.t 0] := fk Tryz.func47 ⟨tv,⟨tv,tv⟩⟩
def c48 : MC := .seq (.reg [oo 2 (.mv (.k (.val (.slice none 0 0))))]) (.seq (.reg [oo 3 (.mv (.k (.val (.slice none 0 0))))]) (.seq (.seq (.reg [om 5 0,oo 6 (.mv (ki 0))]) (.blk 0 (.loop 0 (.seq (.reg [oo 7 (.cmpl .lss (.t 6) (.t 5))]) (.seq (.cond (.t 7) (.skip) (.exit 0)) (.seq (.blk 1 (.seq (.reg [om 8 6,om 4 8]) (.reg [om 9 3,om 10 4,oo 11 (.bsl 1 1 [(kz 0)] [(0,(.t 10))]),oo 12 (.app 1 8 (.t 9) (.t 11)),om 3 12]))) (.reg [oo 13 (.arl .add (.t 6) (ki 1)),om 6 13]))))))) (.seq (.reg [om 14 3,om 2 14]) (.ret))))
theorem k48 : zar Tryz.prog 48 15 c48 [.t 2] := fk Tryz.func48 ⟨tv,⟨tv,⟨⟨tv,⟨tv,⟨⟨tv,tv⟩,⟨⟨tv,tv⟩,tv⟩⟩⟩⟩,⟨tv,tv⟩⟩⟩⟩
def c49 : MC := .seq (.reg [oo 4 (.mv kf)]) (.seq (.seq (.reg [om 6 0,oo 7 (.lenS (.t 6)),om 8 1,oo 9 (.lenS (.t 8)),oo 10 (ct .neq 7 9)]) (.cond (.t 10) (.seq (.reg [oo 4 (.mv kf)]) (.ret)) (.skip))) (.seq (.seq (.reg [om 11 0,oo 12 (.lenS (.t 11)),oo 13 (.mv (ki 0))]) (.blk 0 (.loop 0 (.seq (.reg [oo 14 (ct .lss 13 12)]) (.seq (.cond (.t 14) (.skip) (.exit 0)) (.seq (.blk 1 (.seq (.reg [om 15 13,om 5 15]) (.seq (.drw [om 16 0,om 17 5,oo 18 (ia 1 16 17),oo 19 (ln 18),om 20 1,om 21 5,oo 22 (ia 1 20 21),oo 23 (ln 22),oo 24 (ct .neq 19 23)] [[],[],[0,1],[2],[],[],[4,5],[6],[3,7]]) (.cond (.t 24) (.seq (.reg [oo 4 (.mv kf)]) (.ret)) (.skip))))) (.reg [oo 25 (ac .add 13 1),om 13 25]))))))) (.seq (.reg [oo 4 (.mv kt)]) (.ret))))
theorem k49 : zar Tryz.prog 49 26 c49 [.t 4] := fk Tryz.func49 ⟨tv,⟨⟨tv,⟨⟨tv,tv⟩,tv⟩⟩,⟨⟨tv,⟨tv,⟨⟨tv,tv⟩,⟨⟨tv,⟨tv,⟨⟨tv,tv⟩,tv⟩⟩⟩,tv⟩⟩⟩⟩,⟨tv,tv⟩⟩⟩⟩
def c20 : MC := .seq (.reg [oo 4 (.mv kf)]) (.seq (.seq (.reg [om 6 0,oo 7 (.lenS (.t 6)),om 8 1,oo 9 (.lenS (.t 8)),oo 10 (ct .neq 7 9)]) (.cond (.t 10) (.seq (.reg [oo 4 (.mv kf)]) (.ret)) (.skip))) (.seq (.seq (.reg [om 11 0,oo 12 (.lenS (.t 11)),oo 13 (.mv (ki 0))]) (.blk 0 (.loop 0 (.seq (.reg [oo 14 (ct .lss 13 12)]) (.seq (.cond (.t 14) (.skip) (.exit 0)) (.seq (.blk 1 (.seq (.reg [om 15 13,om 5 15]) (.seq (.drw [om 16 0,om 17 5,oo 18 (ia 2 16 17),oo 19 (ls 2 18),om 20 1,om 21 5,oo 22 (ia 2 20 21),oo 23 (ls 2 22),oo 24 (.eqs [.bool,.int .i64] true (.t 19) (.t 23))] [[],[],[0,1],[2],[],[],[4,5],[6],[3,7]]) (.cond (.t 24) (.seq (.reg [oo 4 (.mv kf)]) (.ret)) (.skip))))) (.reg [oo 25 (ac .add 13 1),om 13 25]))))))) (.seq (.reg [oo 4 (.mv kt)]) (.ret))))
theorem k20 : zar Tryz.prog 20 26 c20 [.t 4] := fk Tryz.func20 ⟨tv,⟨⟨tv,⟨⟨tv,tv⟩,tv⟩⟩,⟨⟨tv,⟨tv,⟨⟨tv,tv⟩,⟨⟨tv,⟨tv,⟨⟨tv,tv⟩,tv⟩⟩⟩,tv⟩⟩⟩⟩,⟨tv,tv⟩⟩⟩⟩
def zaF : List HI := [⟨1, 0, 0, 0, 0, 0, 0, 0, 0, 1, 0, 0, 0, 0, 0⟩, ⟨1, 0, 0, 0, 1, 0, 0, 0, 0, 2, 0, 0, 0, 0, 0⟩, ⟨3, 1, 0, 0, 2, 0, 1, 0, 0, 0, 0, 0, 0, 0, 0⟩, ⟨20, 0, 0, 32, 0, 2, 0, 0, 4, 0, 0, 0, 0, 0, 0⟩, ⟨40, 0, 0, 0, 0, 0, 0, 0, 1, 0, 0, 0, 0, 0, 0⟩]
noncomputable def L47  : zaa := ⟨[], [], [], [.vec 15 (zaF.map HI.pv)], .slc 0 0 5⟩
theorem s47  : zaa.ok Tryz.prog GG 47 (L47 ) := by
 refine zad mix k47 _ rfl rfl (Tab.ok (l := []) trivial) noL noJ ?_
 repeat' ((conv => whnf); first
  | exact trivial
  | with_reducible first | refine aj ?_ | refine ai rfl ?_ | refine ai ⟨rfl, rfl⟩ ?_
  | ((with_reducible refine ai ?_ ?_); focus exact w3)
  | with_reducible first | refine And.intro ?_ ?_ | refine zae ?_ | refine exI (i64_in (by omega) (by omega)) ?_
  | refine exI (x := ULift.up _) (Eq.refl _) ?_
  | refine exI (x := ULift.up _) ⟨rfl, by omega, Eq.refl _⟩ ?_
  | exact ny
  | ((with_reducible intro h); try dsimp only at h))
noncomputable def L48  : zaa := ⟨[kz 5], [], [], [.vec 1 ([0, 1, 2, 3, 4].map ipv)], .slc 0 0 5⟩
theorem s48  : zaa.ok Tryz.prog GG 48 (L48 ) := by
 refine zad mix k48 _ rfl rfl (Tab.ok (l := []) trivial) (fun _ => .rounds 8) noJ ?_
 repeat' ((conv => whnf); first
  | exact trivial
  | with_reducible first | refine aj ?_ | refine ai rfl ?_ | refine ai ⟨rfl, rfl⟩ ?_
  | ((with_reducible refine ai ?_ ?_); focus exact w3)
  | with_reducible first | refine And.intro ?_ ?_ | refine zae ?_ | refine exI (i64_in (by omega) (by omega)) ?_
  | refine exI (x := ULift.up _) (Eq.refl _) ?_
  | refine exI (x := ULift.up _) ⟨rfl, by omega, Eq.refl _⟩ ?_
  | exact ny
  | ((with_reducible intro h); try dsimp only at h))
def zyR (L M : List Int) (i : Int) : St := ⟨[(13, kz i), (12, kz L.length), (1, .rd (.sl 1 (M.map ipv))), (0, .rd (.sl 1 (L.map ipv)))], [], 0⟩
def I49 (L M : List Int) (i : Int) : Prop := 0 <= i /\ i <= L.length /\ L.length = M.length /\ L.length <= 1000000 /\ (L.drop i.toNat = M.drop i.toNat ↔ L = M)
theorem zri {L M : List Int} (h : ¬ (L.length : Int) = M.length) : decide (L = M) = false := by
 rw [decide_eq_false_iff_not]; rintro rfl; exact h rfl
theorem zrh {L M : List Int} {i : Int} (hI : I49 L M i) (h : ¬ i < L.length) : decide (L = M) = true := by
 obtain ⟨h1, h2, h3, h4, h5⟩ := hI
 rw [decide_eq_true_eq, <- h5, List.drop_eq_nil_of_le (by omega), List.drop_eq_nil_of_le (by omega)]
theorem ztn {L M : List Int} {i : Int} (hI : I49 L M i) (h : i < L.length) (e : ¬ nth L i = nth M i) : decide (L = M) = false := by
 obtain ⟨h1, h2, h3, h4, h5⟩ := hI
 rw [decide_eq_false_iff_not, <- h5, zaG L i ⟨h1, h⟩, zaG M i ⟨h1, by omega⟩]
 intro e'; injection e' with e1 _; exact e e1
theorem ztm {L M : List Int} {i : Int} (hI : I49 L M i) (h : i < L.length) (e : nth L i = nth M i) : I49 L M (i + 1) /\ ((L.length : Int) - (i + 1)).toNat < ((L.length : Int) - i).toNat := by
 obtain ⟨h1, h2, h3, h4, h5⟩ := hI
 rw [zaG L i ⟨h1, h⟩, zaG M i ⟨h1, by omega⟩, e] at h5
 refine ⟨⟨by omega, by omega, h3, h4, ?_⟩, by omega⟩
 rw [<- h5]; simp
noncomputable def L49 (L : List Int) (M : List Int) : zaa := ⟨[.rd (.sl 1 (L.map ipv)), .rd (.sl 1 (M.map ipv))], [], [], [], .bool (decide (L = M))⟩
set_option maxHeartbeats 4000000 in
theorem s49 (L : List Int) (M : List Int) (hp : L.length <= 1000000) : zaa.ok Tryz.prog GG 49 (L49 L M) := by
 refine zad mix k49 _ rfl rfl (Tab.ok (l := []) trivial) (fun _ => .inv Int (fun _ => I49 L M) (zyR L M) (fun i => ((L.length : Int) - i).toNat)) noJ ?_
 repeat' ((conv => whnf); first
  | exact trivial
  | with_reducible first | refine aj ?_ | refine ai rfl ?_ | refine ai ⟨rfl, rfl⟩ ?_
  | ((with_reducible refine ai ?_ ?_); focus exact w3)
  | with_reducible first | apply exW (c := _) | refine exI (i64_in (by simp only [I49, List.length_map] at *; omega) (by simp only [I49, List.length_map] at *; omega)) ?_
  | refine exI (x := ULift.up _) ⟨rfl, (by simp only [I49, List.length_map] at *; omega), zbI _ _ _ (by simp only [I49, List.length_map] at *; omega)⟩ ?_
  | with_reducible first | refine And.intro ?_ ?_ | refine zae ?_ | refine exI (i64_in (by omega) (by omega)) ?_
  | refine exI (x := ULift.up _) (Eq.refl _) ?_
  | refine exI (x := ULift.up _) ⟨rfl, by omega, Eq.refl _⟩ ?_
  | exact ny
  | ((with_reducible intro h); try dsimp only at h))
 all_goals (refine Sd.mk ?_); all_goals (try simp only [HR.eta, List.length_map] at *)
 all_goals first
  | exact zri ‹_›
  | exact ⟨by omega, by omega, by omega, hp, by simp⟩
  | exact zrh ‹_› ‹_›
  | exact ztn ‹_› ‹_› ‹_›
  | exact ztm ‹_› ‹_› (Classical.not_not.1 ‹_›)
def zyN (L M : List HR) (i : Int) : St := ⟨[(13, kz i), (12, kz L.length), (1, .rd (.sl 2 (M.map HR.pv))), (0, .rd (.sl 2 (L.map HR.pv)))], [], 0⟩
def I20 (L M : List HR) (i : Int) : Prop := 0 <= i /\ i <= L.length /\ L.length = M.length /\ L.length <= 1000000 /\ (L.drop i.toNat = M.drop i.toNat ↔ L = M)
theorem zrg {L M : List HR} (h : ¬ (L.length : Int) = M.length) : decide (L = M) = false := by
 rw [decide_eq_false_iff_not]; rintro rfl; exact h rfl
theorem zrf {L M : List HR} {i : Int} (hI : I20 L M i) (h : ¬ i < L.length) : decide (L = M) = true := by
 obtain ⟨h1, h2, h3, h4, h5⟩ := hI
 rw [decide_eq_true_eq, <- h5, List.drop_eq_nil_of_le (by omega), List.drop_eq_nil_of_le (by omega)]
theorem ztl {L M : List HR} {i : Int} (hI : I20 L M i) (h : i < L.length) (e : ¬ nth L i = nth M i) : decide (L = M) = false := by
 obtain ⟨h1, h2, h3, h4, h5⟩ := hI
 rw [decide_eq_false_iff_not, <- h5, zaG L i ⟨h1, h⟩, zaG M i ⟨h1, by omega⟩]
 intro e'; injection e' with e1 _; exact e e1
theorem ztk {L M : List HR} {i : Int} (hI : I20 L M i) (h : i < L.length) (e : nth L i = nth M i) : I20 L M (i + 1) /\ ((L.length : Int) - (i + 1)).toNat < ((L.length : Int) - i).toNat := by
 obtain ⟨h1, h2, h3, h4, h5⟩ := hI
 rw [zaG L i ⟨h1, h⟩, zaG M i ⟨h1, by omega⟩, e] at h5
 refine ⟨⟨by omega, by omega, h3, h4, ?_⟩, by omega⟩
 rw [<- h5]; simp
noncomputable def L20 (L : List HR) (M : List HR) : zaa := ⟨[.rd (.sl 2 (L.map HR.pv)), .rd (.sl 2 (M.map HR.pv))], [], [], [], .bool (decide (L = M))⟩
set_option maxHeartbeats 4000000 in
theorem s20 (L : List HR) (M : List HR) (hp : L.length <= 1000000) : zaa.ok Tryz.prog GG 20 (L20 L M) := by
 refine zad mix k20 _ rfl rfl (Tab.ok (l := []) trivial) (fun _ => .inv Int (fun _ => I20 L M) (zyN L M) (fun i => ((L.length : Int) - i).toNat)) noJ ?_
 repeat' ((conv => whnf); first
  | exact trivial
  | with_reducible first | refine aj ?_ | refine ai rfl ?_ | refine ai ⟨rfl, rfl⟩ ?_
  | ((with_reducible refine ai ?_ ?_); focus exact w3)
  | with_reducible first | apply exW (c := _) | refine exI (i64_in (by simp only [I20, List.length_map] at *; omega) (by simp only [I20, List.length_map] at *; omega)) ?_
  | refine exI (x := ULift.up _) ⟨rfl, (by simp only [I20, List.length_map] at *; omega), zbI _ _ _ (by simp only [I20, List.length_map] at *; omega)⟩ ?_
  | with_reducible first | refine And.intro ?_ ?_ | refine zae ?_ | refine exI (i64_in (by omega) (by omega)) ?_
  | refine exI (x := ULift.up _) (Eq.refl _) ?_
  | refine exI (x := ULift.up _) ⟨rfl, by omega, Eq.refl _⟩ ?_
  | exact ny
  | ((with_reducible intro h); try dsimp only at h))
 all_goals (refine Sd.mk ?_); all_goals (try simp only [HR.eta, List.length_map] at *)
 all_goals first
  | exact zrg ‹_›
  | exact ⟨by omega, by omega, by omega, hp, by simp⟩
  | exact zrf ‹_› ‹_›
  | exact ztl ‹_› ‹_› (fun e => ‹¬ eqR _ _› ((zh9 _ _).2 e))
  | exact ztk ‹_› ‹_› ((zh9 _ _).1 (Classical.not_not.1 ‹_›))
end
end Go.Proofs.YtlahifihaeafbaaGreatDoor
