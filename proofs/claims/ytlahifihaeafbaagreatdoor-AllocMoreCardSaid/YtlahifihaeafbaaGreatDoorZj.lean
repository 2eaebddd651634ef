/- Part 10 of 11 of a proof of the law AllocMore: what the last part leans on. -/
import Derived.Test.YtlahifihaeafbaaGreatDoorZi
import Derived.ProofKit
import Derived.LaidMore
import Derived.OpenShut
import Derived.Test.YtlahifihaeafbaaGreatDoorRows
set_option linter.all false
set_option maxRecDepth 100000
namespace Go.Proofs.YtlahifihaeafbaaGreatDoor
open Go Go.Sx
def c14 : MC := .seq (.reg [oo 0 (.mv kf)]) (.seq (.reg [oo 16 (.call (.k (.fn (.func 47) [] [])) []),om 1 16]) (.seq (.reg [om 18 1,oo 19 (.call (.k (.fn (.func 21) [] [])) [(.t 18)]),om 17 19,oo 20 (.ext 0 (.t 17)),oo 21 (.ext 1 (.t 17)),oo 22 (.ext 2 (.t 17)),om 2 20,om 3 21,om 4 22]) (.seq (.reg [om 24 1,oo 25 (.call (.k (.fn (.func 16) [] [])) [(.t 24),(ki 2)]),om 23 25,oo 26 (.ext 0 (.t 23)),oo 27 (.ext 1 (.t 23)),om 5 26,om 6 27]) (.seq (.reg [om 29 1,oo 30 (.call (.k (.fn (.func 16) [] [])) [(.t 29),(ki 3)]),om 28 30,oo 31 (.ext 0 (.t 28)),oo 32 (.ext 1 (.t 28)),om 7 31,om 8 32]) (.seq (.seq (.reg [om 33 4,oo 34 (.cmpl .neq (.t 33) (ki 0)),os (some 35) (.mv (.t 34)),og 35 false (some 36) (.mv (.t 6)),og 35 false (some 37) (.cmpl .neq (.t 36) (ki 0)),oo 38 (.pick (.t 35) kt (.t 37)),os (some 39) (.mv (.t 38)),og 39 false (some 40) (.mv (.t 8)),og 39 false (some 41) (.cmpl .neq (.t 40) (ki 0)),oo 42 (.pick (.t 39) kt (.t 41)),os (some 43) (.mv (.t 42)),og 43 false (some 44) (.mv (.t 2)),og 43 false (some 45) (.cmpl .neq (.t 44) (ki 2)),oo 46 (.pick (.t 43) kt (.t 45)),os (some 47) (.mv (.t 46)),og 47 false (some 48) (.mv (.t 3)),og 47 false (some 49) (.cmpl .neq (.t 48) (ki 0)),oo 50 (.pick (.t 47) kt (.t 49)),os (some 51) (.mv (.t 50)),og 51 false (some 52) (.mv (.t 5)),og 51 false (some 53) (.bld [.ff,(kz 0)] []),og 51 false (some 54) (.bld [.ff,(kz 0)] [(1,1,(ki 1))]),og 51 false (some 55) (.bsl 2 2 [.ff,(kz 0)] [(0,(.t 53)),(1,(.t 54))]),og 51 false (some 56) (.call (.k (.fn (.func 20) [] [])) [(.t 52),(.t 55)]),og 51 false (some 57) (.not (.t 56)),oo 58 (.pick (.t 51) kt (.t 57)),os (some 59) (.mv (.t 58)),og 59 false (some 60) (.mv (.t 7)),og 59 false (some 61) (.bld [.ff,(kz 0)] [(1,1,(ki 2))]),og 59 false (some 62) (.bsl 2 1 [.ff,(kz 0)] [(0,(.t 61))]),og 59 false (some 63) (.call (.k (.fn (.func 20) [] [])) [(.t 60),(.t 62)]),og 59 false (some 64) (.not (.t 63)),oo 65 (.pick (.t 59) kt (.t 64))]) (.cond (.t 65) (.seq (.reg [oo 0 (.mv kf)]) (.ret)) (.skip))) (.seq (.reg [om 67 1,om 68 1,oo 69 (.call (.k (.fn (.func 48) [] [])) [(ki 5)]),oo 70 (.bld [(.val (.slice none 0 0)),(.val (.slice none 0 0))] [(0,1,(.t 68)),(1,1,(.t 69))]),oo 71 (.call (.k (.fn (.func 24) [] [])) [(.t 67),(.t 70),(ki 3),(ki 2)]),om 66 71,oo 72 (.ext 0 (.t 66)),oo 73 (.ext 1 (.t 66)),om 4 73]) (.seq (.reg [om 74 1,oo 75 (.call (.k (.fn (.func 31) [] [])) [(.t 74)]),om 76 1,oo 77 (.call (.k (.fn (.func 31) [] [])) [(.t 76)]),om 9 75,om 10 77]) (.seq (.reg [om 78 9,om 79 9,om 80 10,oo 81 (.ixa 15 (.t 78) (ki 2)),oo 82 (.fld 4 (.t 81)),o none (.st (some 1) (.t 82) (ki 0)),oo 83 (.ixa 15 (.t 79) (ki 3)),oo 84 (.fld 5 (.t 83)),o none (.st (some 1) (.t 84) (ki 0)),oo 85 (.ixa 15 (.t 80) (ki 2)),oo 86 (.fld 5 (.t 85)),o none (.st (some 1) (.t 86) (ki 1))]) (.seq (.reg [om 88 1,om 89 9,oo 90 (.call (.k (.fn (.func 48) [] [])) [(ki 5)]),oo 91 (.bld [(.val (.slice none 0 0)),(.val (.slice none 0 0))] [(0,1,(.t 89)),(1,1,(.t 90))]),oo 92 (.call (.k (.fn (.func 24) [] [])) [(.t 88),(.t 91),(ki 3),(ki 2)]),om 87 92,oo 93 (.ext 0 (.t 87)),oo 94 (.ext 1 (.t 87)),om 6 94])
 (.seq (.reg [om 96 1,om 97 10,oo 98 (.call (.k (.fn (.func 48) [] [])) [(ki 5)]),oo 99 (.bld [(.val (.slice none 0 0)),(.val (.slice none 0 0))] [(0,1,(.t 97)),(1,1,(.t 98))]),oo 100 (.call (.k (.fn (.func 24) [] [])) [(.t 96),(.t 99),(ki 3),(ki 2)]),om 95 100,oo 101 (.ext 0 (.t 95)),oo 102 (.ext 1 (.t 95)),om 11 101,om 8 102]) (.seq (.seq (.drw [om 103 4,oo 104 (.cmpl .neq (.t 103) (ki 0)),os (some 105) (.mv (.t 104)),og 105 false (some 106) (.mv (.t 6)),og 105 false (some 107) (.cmpl .neq (.t 106) (ki 0)),oo 108 (.pick (.t 105) kt (.t 107)),os (some 109) (.mv (.t 108)),og 109 false (some 110) (.mv (.t 8)),og 109 false (some 111) (.cmpl .neq (.t 110) (ki 191)),oo 112 (.pick (.t 109) kt (.t 111)),os (some 113) (.mv (.t 112)),og 113 false (some 114) (.mv (.t 11)),og 113 false (some 115) (.cmpl .neq (.t 114) (ki 2)),oo 116 (.pick (.t 113) kt (.t 115)),os (some 117) (.mv (.t 116)),og 117 false (some 118) (.mv (.t 1)),og 117 false (some 119) (.sls3 15 (.t 118) (ki 1) (ki 1)),og 117 false (some 120) (.mv (.t 1)),og 117 false (some 121) (.sls 15 (.t 120) (some (ki 2)) none),og 117 false (some 122) (.app 15 96 (.t 119) (.t 121)),og 117 false (some 123) (.call (.k (.fn (.func 18) [] [])) [(.t 122)]),og 117 false (some 124) (.cmpl .neq (.t 123) (ki 190)),oo 125 (.pick (.t 117) kt (.t 124))] [[],[0],[1],[2],[3,2],[2,4],[5,2],[6],[7,6],[6,8],[9,6],[10],[11,10],[10,12],[13,10],[14],[15,14],[14],[17,14],[16,18,14,14],[19,19,14],[20,14],[14,21]]) (.cond (.t 125) (.seq (.reg [oo 0 (.mv kf)]) (.ret)) (.skip))) (.seq (.reg [om 127 1,oo 128 (.call (.k (.fn (.func 28) [] [])) [(.t 127),(ki 2),(ki 2)]),om 126 128,oo 129 (.ext 0 (.t 126)),oo 130 (.ext 1 (.t 126)),om 4 130]) (.seq (.reg [oo 132 (.bld [(kz 0),(kz 0),(kz 0),(kz 0),(kz 0),(kz 0),(kz 0),(kz 0),(kz 0),(.int .u32 0),(.int .u32 0),(.int .u32 0),(.int .u32 0),(.int .u32 0),(.int .u32 0)] [(0,1,(ki 42))]),oo 133 (.bld [(kz 0),(kz 0),(kz 0),(kz 0),(kz 0),(kz 0),(kz 0),(kz 0),(kz 0),(.int .u32 0),(.int .u32 0),(.int .u32 0),(.int .u32 0),(.int .u32 0),(.int .u32 0)] [(0,1,(ki 43))]),om 134 1,oo 135 (.ixa 15 (.t 134) (ki 4)),oo 136 (.ld (some 15) (.t 135)),oo 137 (.bsl 15 3 [(kz 0),(kz 0),(kz 0),(kz 0),(kz 0),(kz 0),(kz 0),(kz 0),(kz 0),(.int .u32 0),(.int .u32 0),(.int .u32 0),(.int .u32 0),(.int .u32 0),(.int .u32 0)] [(0,(.t 132)),(1,(.t 133)),(2,(.t 136))]),oo 138 (.bsl 1 3 [(kz 0)] [(0,(ki (-1))),(1,(ki (-1))),(2,(ki 0))]),oo 139 (.bld [(.val (.slice none 0 0)),(.val (.slice none 0 0))] [(0,1,(.t 137)),(1,1,(.t 138))]),oo 140 (.call (.k (.fn (.func 26) [] [])) [(.t 139)]),om 131 140,oo 141 (.ext 0 (.t 131)),oo 142 (.ext 1 (.t 131)),oo 143 (.ext 2 (.t 131)),om 12 141,om 13 142,om 14 143]) (.seq (.reg [om 145 1,oo 146 (.call (.k (.fn (.func 28) [] [])) [(.t 145),(ki 3),(ki 2)]),om 144 146,oo 147 (.ext 0 (.t 144)),oo 148 (.ext 1 (.t 144)),oo 15 (.alloc [(.val (.slice none 0 0)),(.val (.slice none 0 0))]),o none (.st (some 2) (.t 15) (.t 147)),om 6 148]) (.seq (.drw [om 149 4,oo 150 (.cmpl .eql (.t 149) (ki 1)),os (some 151) (.mv (.t 150)),og 151 true (some 152) (.mv (.t 12)),og 151 true (some 153) (.cmpl .eql (.t 152) (ki 0)),oo 154 (.pick (.t 151) (.t 153) kf),os (some 155) (.mv (.t 154)),og 155 true (some 156) (.mv (.t 13)),og 155 true (some 157) (.cmpl .eql (.t 156) (ki 1)),oo 158 (.pick (.t 155) (.t 157) kf),os (some 159) (.mv (.t 158)),og 159 true (some 160) (.mv (.t 14)),og 159 true (some 161) (.cmpl .eql (.t 160) (ki 1)),oo 162 (.pick (.t 159) (.t 161) kf),os (some 163) (.mv (.t 162)),og 163 true (some 164) (.mv (.t 6)),og 163 true (some 165) (.cmpl .eql (.t 164) (ki 0)),oo 166 (.pick (.t 163) (.t 165) kf),os (some 167) (.mv (.t 166)),og 167 true (some 168) (.fld 1 (.t 15)),og 167 true (some 169) (.ld none (.t 168)),og 167 true (some 170) (.call (.k (.fn (.func 48) [] [])) [(ki 5)]),og 167 true (some 171) (.call (.k (.fn (.func 49) [] [])) [(.t 169),(.t 170)]),oo 172 (.pick (.t 167) (.t 171) kf),om 0 172] [[],[0],[1],[2],[3,2],[2,4],[5,2],[6],[7,6],[6,8],[9,6],[10],[11,10],[10,12],[13,10],[14],[15,14],[14,16],[17,14],[18],[19,18],[18,18],[20,21,21,18],[18,22],[23,22,0,1,2,3,4,5,6,7,8,9,10,11,12,13,14,15,16,17,18,19,20,21,22,23]])
 (.ret))))))))))))))))
theorem k14 : FnOk Tryz.prog 14 173 c14 [.t 0] := fk Tryz.func14 ⟨tv,⟨tv,⟨tv,⟨tv,⟨tv,⟨⟨tv,⟨⟨tv,tv⟩,tv⟩⟩,⟨tv,⟨tv,⟨tv,⟨tv,⟨tv,⟨⟨tv,⟨⟨tv,tv⟩,tv⟩⟩,⟨tv,⟨tv,⟨tv,⟨tv,tv⟩⟩⟩⟩⟩⟩⟩⟩⟩⟩⟩⟩⟩⟩⟩⟩
def r0 : HR := ⟨false, 0⟩
def r1 : HR := ⟨false, 1⟩
def r2 : HR := ⟨false, 2⟩
def five : List Int := [0, 1, 2, 3, 4]
def zi0 : HI := ⟨1, 0, 0, 0, 0, 0, 0, 0, 0, 1, 0, 0, 0, 0, 0⟩
def zi1 : HI := ⟨1, 0, 0, 0, 1, 0, 0, 0, 0, 2, 0, 0, 0, 0, 0⟩
def zi2 : HI := ⟨3, 1, 0, 0, 2, 0, 1, 0, 0, 0, 0, 0, 0, 0, 0⟩
def zi3 : HI := ⟨20, 0, 0, 32, 0, 2, 0, 0, 4, 0, 0, 0, 0, 0, 0⟩
def zi4 : HI := ⟨40, 0, 0, 0, 0, 0, 0, 0, 1, 0, 0, 0, 0, 0, 0⟩
def twoF : List HI := [zi0, zi1, { zi2 with d := 0 }, { zi3 with a := 0 }, zi4]
def badF : List HI := [zi0, zi1, { zi2 with a := 1 }, zi3, zi4]
def cutF : List HI := [zi0, zi2, zi3, zi4]
def cnt3 : List HI := [{ zeroHI with op := 42 }, { zeroHI with op := 43 }, zi4]
theorem z_press : pressF sampleF = (2, 0, 0) := by kernel_rfl
theorem z_err2 : errL sampleF 2 = 0 := by kernel_rfl
theorem z_err3 : errL sampleF 3 = 0 := by kernel_rfl
theorem z_l2 : liveO sampleF 2 = [r0, r1, r0] := by kernel_rfl
theorem z_n2 : (liveL sampleF 2).length = 2 := by kernel_rfl
theorem z_l3 : liveO sampleF 3 = [r2, r0, r0] := by kernel_rfl
theorem z_n3 : (liveL sampleF 3).length = 1 := by kernel_rfl
theorem z_ts : (timesF sampleF).1.length ≤ 12 := by decide
theorem z_a1 : acceptF sampleF ⟨sampleF, five⟩ 3 2 = (0, 0) := by kernel_rfl
theorem z_a2 : acceptF sampleF ⟨twoF, five⟩ 3 2 = (0, 0) := by kernel_rfl
theorem z_a3 : acceptF sampleF ⟨badF, five⟩ 3 2 = (2, 191) := by kernel_rfl
theorem z_c : checkA cutF = 190 := by kernel_rfl
theorem z_n : cntF cnt3 [-1, -1, 0] (0, 0, 0) = (0, 1, 1) := by kernel_rfl
theorem z_e1 : errA sampleF 2 2 = 1 := by kernel_rfl
theorem z_e2 : errA sampleF 3 2 = 0 := by kernel_rfl
theorem z_oL1 : outAL sampleF 2 2 = [] := by kernel_rfl
theorem z_oF1 : outAF sampleF 2 2 = [] := by kernel_rfl
theorem z_f : outAF sampleF 3 2 = five := by kernel_rfl
theorem z_fl : (outAL sampleF 3 2).length = 5 := by kernel_rfl
theorem z_k : ¬ ¬ checkA sampleF = 0 := by rw [show checkA sampleF = 0 by kernel_rfl]; simp
instance (b : BK) : Decidable (takeOk b) := by unfold takeOk; infer_instance
def okB (s : AS) (i : Int) : Bool := decide (0 ≤ i) && decide (i < s.code.length) && decide (s.code.length ≤ 4000) && decide (∀ r ∈ usesF (nth s.code i), (aget MII r.n (s.bank r).at_).isSome = true) &&
 decide ((defF (nth s.code i)).2 = true -> takeOk (defB (drops s i (nth s.code i)) (nth s.code i))) && decide (s.L.length ≤ 1000000) && decide (s.fr.length ≤ 1000000)
theorem okB_ok {s : AS} {i : Int} (h : okB s i = true) (hu : s.us = (timesF sampleF).1) (hd : s.ds = (timesF sampleF).2) : StepOk s i := by
 simp only [okB, Bool.and_eq_true, decide_eq_true_eq] at h
 obtain ⟨⟨⟨⟨⟨⟨h1, h2⟩, h3⟩, h4⟩, h5⟩, h6⟩, h7⟩ := h
 exact ⟨h1, h2, h3, by rw [hu, hd]; exact okA_t z_k, h4, h5, h6, h7⟩
theorem ok28a : Ok28 sampleF 2 2 := fun h => by rw [z_e1] at h; cases h
theorem ok28b : Ok28 sampleF 3 2 := fun _ i h1 h2 => by
 have h2 : i < 5 := h2
 have : i = 0 ∨ i = 1 ∨ i = 2 ∨ i = 3 ∨ i = 4 := by omega
 rcases this with rfl | rfl | rfl | rfl | rfl
 . exact okB_ok (by kernel_rfl) (by kernel_rfl) (by kernel_rfl)
 . exact okB_ok (by kernel_rfl) (by kernel_rfl) (by kernel_rfl)
 . exact okB_ok (by kernel_rfl) (by kernel_rfl) (by kernel_rfl)
 . exact okB_ok (by kernel_rfl) (by kernel_rfl) (by kernel_rfl)
 . exact okB_ok (by kernel_rfl) (by kernel_rfl) (by kernel_rfl)
abbrev ok_ (f : FuncId) (L : LSpec) : Prop := LSpec.ok Tryz.prog GG f L
def Z47 : LSpec := ⟨[], [], [], [.vec 15 (sampleF.map HI.pv)], .slc 0 0 5⟩
theorem zok47 : ok_ 47 Z47 := s47
def Z21 : LSpec := ⟨[hiS sampleF], [], [], [], .tup [kz 2, kz 0, kz 0]⟩
theorem zok21 : ok_ 21 Z21 := by have h := s21 sampleF; unfold L21 at h; rw [z_press] at h; exact h
def Z16a : LSpec := ⟨[hiS sampleF, kz 2], [], [], [.vec 2 ([r0, r1, r0].map HR.pv)], .tup [.slc 0 0 2, kz 0]⟩
theorem zok16a : ok_ 16 Z16a := by have h := s16 sampleF 2 z_ts; unfold L16 at h; rw [z_err2, z_n2, z_l2] at h; exact h
def Z16b : LSpec := ⟨[hiS sampleF, kz 3], [], [], [.vec 2 ([r2, r0, r0].map HR.pv)], .tup [.slc 0 0 1, kz 0]⟩
theorem zok16b : ok_ 16 Z16b := by have h := s16 sampleF 3 z_ts; unfold L16 at h; rw [z_err3, z_n3, z_l3] at h; exact h
theorem b_tt {f : FuncId} {b : Bool} (a : List SV) (hb : b = true) (h : ok_ f ⟨a, [], [], [], .bool b⟩) : ok_ f ⟨a, [], [], [], .tt⟩ := by
 subst hb
 obtain ⟨h1, h2, h3⟩ := h
 refine ⟨h1, h2, fun β own S w vs q1 q2 q3 q4 => (h3 β own S w vs q1 q2 q3 q4).mono ?_⟩
 rintro e w' ⟨v, β', own', S', p1, p2, p3, p4, p5⟩
 exact ⟨v, β', own', S', p1, p2, p3, by simpa only [rel] using p4, p5⟩
def Z20a : LSpec := ⟨[.rd (.sl 2 ([r0, r1].map HR.pv)), .rd (.sl 2 ([r0, r1].map HR.pv))], [], [], [], .tt⟩
theorem zok20a : ok_ 20 Z20a := b_tt (b := decide ([r0, r1] = [r0, r1])) _ (by decide) (s20 [r0, r1] [r0, r1] (by decide))
def Z20b : LSpec := ⟨[.rd (.sl 2 ([r2].map HR.pv)), .rd (.sl 2 ([r2].map HR.pv))], [], [], [], .tt⟩
theorem zok20b : ok_ 20 Z20b := b_tt (b := decide ([r2] = [r2])) _ (by decide) (s20 [r2] [r2] (by decide))
def Z49 : LSpec := ⟨[.rd (.sl 1 (five.map ipv)), .rd (.sl 1 (five.map ipv))], [], [], [], .tt⟩
theorem zok49 : ok_ 49 Z49 := b_tt (b := decide (five = five)) _ (by decide) (s49 five five (by decide))
def Z48 : LSpec := ⟨[kz 5], [], [], [.vec 1 (five.map ipv)], .slc 0 0 5⟩
theorem zok48 : ok_ 48 Z48 := s48
def Z24 (a : List HI) (e : Int × Int) : LSpec := ⟨[hiS sampleF, .agg [hiS a, inS five], kz 3, kz 2], [], [], [], .tup [kz e.1, kz e.2]⟩
theorem zok24 {a : List HI} {e : Int × Int} (ha : a.length ≤ 1000000) (h : acceptF sampleF ⟨a, five⟩ 3 2 = e) : ok_ 24 (Z24 a e) := by
 have h2 := s24 sampleF ⟨a, five⟩ 3 2 ha (show five.length ≤ 1000000 by decide)
 unfold L24 at h2
 rw [h] at h2
 exact h2
def Z31 : LSpec := ⟨[hiS sampleF], [], [], [.vec 15 (sampleF.map HI.pv)], .slc 0 0 5⟩
theorem zok31 : ok_ 31 Z31 := s31 sampleF (by decide)
def Z18 : LSpec := ⟨[hiS cutF], [], [], [], kz 190⟩
theorem zok18 : ok_ 18 Z18 := by have h := s18 cutF; unfold L18 at h; rw [z_c] at h; exact h
def Z26 : LSpec := ⟨[.agg [hiS cnt3, inS [-1, -1, 0]]], [], [], [], .tup [kz 0, kz 1, kz 1]⟩
theorem zok26 : ok_ 26 Z26 := by have h := s26 ⟨cnt3, [-1, -1, 0]⟩ (by decide); unfold L26 at h; rw [z_n] at h; exact h
def Z28a : LSpec := ⟨[hiS sampleF, kz 2, kz 2], [], [], [.vec 15 [], .vec 1 []], .tup [.agg [.slc 0 0 0, .slc 1 0 0], kz 1]⟩
theorem zok28a : ok_ 28 Z28a := by have h := s28 sampleF 2 2 ok28a; unfold L28 at h; rw [z_e1, z_oL1, z_oF1] at h; exact h
def Z28b : LSpec := ⟨[hiS sampleF, kz 3, kz 2], [], [], [.vec 15 ((outAL sampleF 3 2).map HI.pv), .vec 1 (five.map ipv)], .tup [.agg [.slc 0 0 5, .slc 1 0 5], kz 0]⟩
theorem zok28b : ok_ 28 Z28b := by have h := s28 sampleF 3 2 ok28b; unfold L28 at h; rw [z_e2, z_fl, z_f] at h; exact h
theorem one_ {f : FuncId} {L : LSpec} (h : ok_ f L) : FnS Tryz.prog GG f (fun _ k => k L) := fun _ _ _ _ _ _ _ _ hr => ⟨L, _, h, hr⟩
noncomputable def SZ16 : SFn
 | [_, .int _ (.ofNat 2)], k => k Z16a
 | [_, .int _ (.ofNat 3)], k => k Z16b
 | _, _ => .fail
theorem tz16 : FnS Tryz.prog GG 16 SZ16 := by
 intro args k gt go R v os n h
 unfold SZ16 at h
 split at h
 . exact ⟨_, _, zok16a, h⟩
 . exact ⟨_, _, zok16b, h⟩
 . cases h
noncomputable def SZ20 : SFn
 | [_, .slc _ _ 2], k => k Z20a
 | [_, .slc _ _ 1], k => k Z20b
 | _, _ => .fail
theorem tz20 : FnS Tryz.prog GG 20 SZ20 := by
 intro args k gt go R v os n h
 unfold SZ20 at h
 split at h
 . exact ⟨_, _, zok20a, h⟩
 . exact ⟨_, _, zok20b, h⟩
 . cases h
noncomputable def SZ28 : SFn
 | [_, .int _ (.ofNat 2), _], k => k Z28a
 | [_, .int _ (.ofNat 3), _], k => k Z28b
 | _, _ => .fail
theorem tz28 : FnS Tryz.prog GG 28 SZ28 := by
 intro args k gt go R v os n h
 unfold SZ28 at h
 split at h
 . exact ⟨_, _, zok28a, h⟩
 . exact ⟨_, _, zok28b, h⟩
 . cases h
noncomputable def SZ24 : SFn
 | [_, .agg [.slc 0 _ _, _], _, _], k => k (Z24 sampleF (0, 0))
 | [_, .agg [.slc 6 _ _, _], _, _], k => k (Z24 twoF (0, 0))
 | [_, .agg [.slc 7 _ _, _], _, _], k => k (Z24 badF (2, 191))
 | _, _ => .fail
theorem tz24 : FnS Tryz.prog GG 24 SZ24 := by
 intro args k gt go R v os n h
 unfold SZ24 at h
 split at h
 . exact ⟨_, _, zok24 (by decide) z_a1, h⟩
 . exact ⟨_, _, zok24 (by decide) z_a2, h⟩
 . exact ⟨_, _, zok24 (by decide) z_a3, h⟩
 . cases h
noncomputable def tabZ : List (FuncId × SFn) := [(47, fun _ k => k Z47), (21, fun _ k => k Z21), (16, SZ16), (20, SZ20), (48, fun _ k => k Z48), (24, SZ24), (31, fun _ k => k Z31), (18, fun _ k => k Z18), (28, SZ28), (26, fun _ k => k Z26), (49, fun _ k => k Z49)]
theorem hr_fl (l : List HR) : ∀ e ∈ l.map HR.pv, ∀ p ∈ e, PV.flat p := fun e he p hp => by
 obtain ⟨a, _, rfl⟩ := List.mem_map.1 he
 simp only [HR.pv, List.mem_cons, List.not_mem_nil, or_false] at hp
 rcases hp with rfl | rfl <;> simp [PV.flat]
theorem hi_fl (l : List HI) : ∀ e ∈ l.map HI.pv, ∀ p ∈ e, PV.flat p := fun e he p hp => by
 obtain ⟨a, _, rfl⟩ := List.mem_map.1 he
 simp only [HI.pv, List.mem_cons, List.not_mem_nil, or_false] at hp
 rcases hp with rfl | rfl | rfl | rfl | rfl | rfl | rfl | rfl | rfl | rfl | rfl | rfl | rfl | rfl | rfl <;> simp [PV.flat]
theorem in_fl (l : List Int) : ∀ e ∈ l.map ipv, ∀ p ∈ e, PV.flat p := fun e he p hp => by
 obtain ⟨a, _, rfl⟩ := List.mem_map.1 he
 simp only [ipv, List.mem_cons, List.not_mem_nil, or_false] at hp
 subst hp; simp [PV.flat]
noncomputable def L14 : LSpec := ⟨[], [], [], [], .tt⟩
set_option maxHeartbeats 8000000 in
theorem s14 : LSpec.ok Tryz.prog GG 14 L14 := by
 refine fn_spec mix k14 _ rfl rfl (Tab.ok (l := tabZ) ⟨one_ zok47, one_ zok21, tz16, tz20, one_ zok48, tz24, one_ zok31, one_ zok18, tz28, one_ zok26, one_ zok49, trivial⟩) noL noJ ?_
 repeat' ((conv => whnf); first
  | exact trivial
  | with_reducible first | refine aj ?_ | refine ai rfl ?_ | refine ai ⟨rfl, rfl⟩ ?_
  | ((with_reducible refine ai ?_ ?_); focus exact w3)
  | refine And.intro (Sd.mk (by decide)) ?_
  | refine And.intro (Sd.mk (p := _ = _ ∧ _) ⟨by rfl, by decide⟩) ?_
  | with_reducible first | refine And.intro ?_ ?_ | refine asL_mk ?_ | refine exI (i64_in (by omega) (by omega)) ?_
  | refine exI (x := ULift.up _) (Eq.refl _) ?_
  | refine exI (x := ULift.up _) ⟨rfl, by omega, Eq.refl _⟩ ?_
  | exact ny
  | ((with_reducible intro h); try dsimp only at h))
 all_goals (refine Sd.mk ?_)
 all_goals (simp only [LSpec.flat, Z21, Z16a, Z16b, Z24, Z31, Z28a, Z28b, Z26, SV.flat, flats, flatOs, flatOuts, SO.flat, and_true, true_and])
 all_goals first
  | done
  | exact hr_fl _
  | exact hi_fl _
  | exact ⟨hi_fl _, in_fl _⟩
  | exact ⟨hi_fl [], in_fl []⟩
end Go.Proofs.YtlahifihaeafbaaGreatDoor
namespace Go.Proofs.YtlahifihaeafbaaGreatDoor
open Go Go.Sx
def c23 : MC := .seq (.reg [oo 1 (.box (.t 0)),oo 2 (.mv kf)]) (.seq (.reg [oo 3 (.fld 0 (.t 1)),oo 4 (.ld none (.t 3)),oo 5 (.lenS (.t 4)),oo 6 (.cmp .leq (.t 5) (ki 2000)),os (some 7) (.mv (.t 6)),og 7 true (some 8) (.fld 1 (.t 1)),og 7 true (some 9) (.ld none (.t 8)),og 7 true (some 10) (.lenS (.t 9)),og 7 true (some 11) (.cmp .leq (.t 10) (ki 2000)),oo 12 (.pick (.t 7) (.t 11) kf),om 2 12]) (.ret))
theorem k23 : FnOk Tryz.prog 23 13 c23 [.t 2] := fk Tryz.func23 ⟨tv,⟨tv,tv⟩⟩
def shortF (a : AL) : Bool := if (a.L.length : Int) ≤ 2000 then decide ((a.fr.length : Int) ≤ 2000) else false
noncomputable def L23 (a : AL) : LSpec := ⟨[.agg a.cells], [], [], [], .bool (shortF a)⟩
theorem s23 (a : AL) : LSpec.ok Tryz.prog GG 23 (L23 a) := by
 refine fn_spec mix k23 _ rfl rfl (Tab.ok (l := []) trivial) noL noJ ?_
 repeat' ((conv => whnf); first
  | exact trivial
  | with_reducible first | refine aj ?_ | refine ai rfl ?_ | refine ai ⟨rfl, rfl⟩ ?_
  | ((with_reducible refine ai ?_ ?_); focus exact w3)
  | with_reducible first | refine And.intro ?_ ?_ | refine asL_mk ?_ | refine exI (i64_in (by omega) (by omega)) ?_
  | refine exI (x := ULift.up _) (Eq.refl _) ?_
  | refine exI (x := ULift.up _) ⟨rfl, by omega, Eq.refl _⟩ ?_
  | exact ny
  | ((with_reducible intro h); try dsimp only at h))
 all_goals (refine Sd.mk ?_; unfold shortF; simp_all; try omega)
noncomputable def S23 : SFn
 | [a0], k => asAL a0 fun a => k (L23 a)
 | _, _ => .fail
theorem t23 : FnS Tryz.prog GG 23 S23 := by
 intro args k gt go R v os n h
 unfold S23 at h
 split at h
 . obtain ⟨a, _, h⟩ := asAL_inv h
   exact ⟨_, _, s23 a, h⟩
 . cases h
end Go.Proofs.YtlahifihaeafbaaGreatDoor
namespace Go.Proofs.YtlahifihaeafbaaGreatDoor
open Go Go.Sx
def trD (D : List HR) : RB := D.map fun r => (r, true)
section
variable {M : MapTy} {j k : M.κ} {u v : M.ν} {es : List (M.κ × M.ν)}
theorem ag_y (h : j = k) : aget M k ((j, u) :: es) = some u := by
 simp only [aget]
 cases M.deq j k with
 | isTrue _ => rfl
 | isFalse e => exact absurd h e
theorem ag_n (h : ¬ j = k) : aget M k ((j, u) :: es) = aget M k es := by
 simp only [aget]
 cases M.deq j k with
 | isTrue e => exact absurd e h
 | isFalse _ => rfl
theorem ap_n (h : ¬ j = k) : aput M k v ((j, u) :: es) = (j, u) :: aput M k v es := by
 simp only [aput]
 cases M.deq j k with
 | isTrue e => exact absurd e h
 | isFalse _ => rfl
theorem ad_y (h : j = k) : adel M k ((j, u) :: es) = es := by
 simp only [adel]
 cases M.deq j k with
 | isTrue _ => rfl
 | isFalse e => exact absurd h e
theorem ad_n (h : ¬ j = k) : adel M k ((j, u) :: es) = (j, u) :: adel M k es := by
 simp only [adel]
 cases M.deq j k with
 | isTrue e => exact absurd e h
 | isFalse _ => rfl
end
theorem inA_e (es : RB) (r : HR) : inA es r = (aget MHB r es).getD (default : Bool) := by unfold inA agetD; rfl
theorem in_tr : ∀ {D : List HR} {r : HR}, inA (trD D) r = true ↔ r ∈ D
 | [], r => by
   have : inA (trD []) r = false := rfl
   rw [this]; simp
 | a :: D, r => by
   have ih := in_tr (D := D) (r := r)
   rw [inA_e] at ih ⊢
   have c : trD (a :: D) = (a, true) :: trD D := rfl
   rw [c]
   by_cases h : a = r
   . rw [ag_y (M := MHB) h]; subst h
     exact ⟨fun _ => List.mem_cons_self .., fun _ => rfl⟩
   . rw [ag_n (M := MHB) h, ih, List.mem_cons]
     exact ⟨.inr, fun q => q.elim (fun q => absurd q.symm h) id⟩
theorem put_tr : ∀ {D : List HR} {r : HR}, r ∉ D -> aput MHB r true (trD D) = trD (D ++ [r])
 | [], r, _ => rfl
 | a :: D, r, h => by
   simp only [List.mem_cons, not_or] at h
   have ih := put_tr (D := D) (r := r) h.2
   have c : trD (a :: D) = (a, true) :: trD D := rfl
   rw [c, ap_n (M := MHB) (fun e => h.1 e.symm), ih]; rfl
theorem del_tr : ∀ {D : List HR} {r : HR}, D.Nodup -> adel MHB r (trD D) = trD (D.filter fun x => decide (x ≠ r))
 | [], r, _ => rfl
 | a :: D, r, h => by
   rw [List.nodup_cons] at h
   have ih := del_tr (D := D) (r := r) h.2
   have c : trD (a :: D) = (a, true) :: trD D := rfl
   rw [c]
   by_cases e : a = r
   . rw [ad_y (M := MHB) e]; subst e
     rw [List.filter_cons_of_neg (by simp), List.filter_eq_self.2]
     intro x hx
     simp only [decide_eq_true_eq]
     rintro rfl
     exact h.1 hx
   . rw [ad_n (M := MHB) e, ih, List.filter_cons_of_pos (by simpa using e)]; rfl
def cntD (b : Bool) (D : List HR) : Int := ((D.filter fun r => r.vec == b).length : Int)
theorem nodup_len : ∀ {D E : List HR}, D.Nodup -> (∀ r ∈ D, r ∈ E) -> D.length ≤ E.length
 | [], _, _, _ => Nat.zero_le _
 | a :: D, E, h, hs => by
   rw [List.nodup_cons] at h
   have h1 : a ∈ E := hs a (List.mem_cons_self ..)
   have h2 : D.length ≤ (E.erase a).length := nodup_len h.2 fun r hr => (List.mem_erase_of_ne (by rintro rfl; exact h.1 hr)).2 (hs r (List.mem_cons_of_mem _ hr))
   rw [List.length_erase_of_mem h1] at h2
   have : 0 < E.length := List.length_pos_of_mem h1
   simp only [List.length_cons]; omega
theorem cnt_le {b : Bool} {D E : List HR} (h : D.Nodup) (hs : ∀ r ∈ D, r ∈ E) : cntD b D ≤ cntD b E := by
 have := nodup_len (D := D.filter fun r => r.vec == b) (E := E.filter fun r => r.vec == b) (h.filter _) fun r hr => by
  rw [List.mem_filter] at hr ⊢
  exact ⟨hs r hr.1, hr.2⟩
 unfold cntD; omega
theorem cnt_add {b : Bool} {D : List HR} {r : HR} : cntD b (D ++ [r]) = cntD b D + if r.vec = b then 1 else 0 := by
 unfold cntD
 rw [List.filter_append, List.length_append]
 by_cases h : r.vec = b
 . rw [if_pos h, List.filter_cons_of_pos (by simpa using h)]; simp
 . rw [if_neg h, List.filter_cons_of_neg (by simpa using h)]; simp
theorem cnt_del {b : Bool} : ∀ {D : List HR} {r : HR}, D.Nodup -> r ∈ D -> cntD b (D.filter fun x => decide (x ≠ r)) = cntD b D - if r.vec = b then 1 else 0
 | a :: D, r, h, hr => by
   rw [List.nodup_cons] at h
   by_cases e : a = r
   . subst e
     rw [List.filter_cons_of_neg (by simp), List.filter_eq_self.2 (fun x hx => by simp only [decide_eq_true_eq]; rintro rfl; exact h.1 hx)]
     unfold cntD
     by_cases c : a.vec = b
     . rw [if_pos c, List.filter_cons_of_pos (by simpa using c)]; simp
     . rw [if_neg c, List.filter_cons_of_neg (by simpa using c)]; simp
   . have hr' : r ∈ D := (List.mem_cons.1 hr).elim (fun q => absurd q.symm e) id
     have ih := cnt_del (b := b) h.2 hr'
     rw [List.filter_cons_of_pos (by simpa using e)]
     unfold cntD at ih ⊢
     by_cases c : a.vec = b
     . rw [List.filter_cons_of_pos (by simpa using c), List.filter_cons_of_pos (by simpa using c)]
       simp only [List.length_cons]; omega
     . rw [List.filter_cons_of_neg (by simpa using c), List.filter_cons_of_neg (by simpa using c)]
       exact ih
structure WN (s : ND) (D : List HR) : Prop where
 nd : D.Nodup
 now : s.now = trD D
 m0 : s.m0 = cntD false D
 m1 : s.m1 = cntD true D
theorem use_w {s : ND} {D : List HR} (h : WN s D) (r : HR) : ∃ D', WN (useN s r) D' ∧ (∀ x, x ∈ D' ↔ x ∈ D ∨ x = r) ∧ (useN s r).n0 = s.n0 ∧ (useN s r).n1 = s.n1 := by
 unfold useN
 have hi : inA s.now r = true ↔ r ∈ D := by rw [h.now]; exact in_tr
 by_cases c : r ∈ D
 . rw [if_pos (hi.2 c)]
   exact ⟨D, h, fun x => ⟨.inl, fun q => q.elim id (fun q => q ▸ c)⟩, rfl, rfl⟩
 . rw [if_neg (fun q => c (hi.1 q))]
   have hn : (D ++ [r]).Nodup := by
    rw [List.nodup_append]
    refine ⟨h.nd, by simp, ?_⟩
    intro a ha b hb
    rw [List.mem_singleton] at hb
    subst hb; rintro rfl; exact c ha
   have hp : aput MHB r true s.now = trD (D ++ [r]) := by rw [h.now]; exact put_tr c
   have hm : ∀ x, x ∈ D ++ [r] ↔ x ∈ D ∨ x = r := fun x => by simp
   split
   . next e => exact ⟨D ++ [r], ⟨hn, hp, by simp only [h.m0, cnt_add, e]; simp, by simp only [h.m1, cnt_add, e]; simp⟩, hm, rfl, rfl⟩
   . next e =>
     have e : r.vec = false := by simpa using e
     exact ⟨D ++ [r], ⟨hn, hp, by simp only [h.m0, cnt_add, e]; simp, by simp only [h.m1, cnt_add, e]; simp⟩, hm, rfl, rfl⟩
theorem uses_w : ∀ {us : List HR} {s : ND} {D : List HR}, WN s D -> ∃ D', WN (us.foldl useN s) D' ∧ (∀ x, x ∈ D' ↔ x ∈ D ∨ x ∈ us) ∧ (us.foldl useN s).n0 = s.n0 ∧ (us.foldl useN s).n1 = s.n1
 | [], s, D, h => ⟨D, h, fun x => by simp, rfl, rfl⟩
 | r :: us, s, D, h => by
   obtain ⟨D1, h1, h2, h3, h4⟩ := use_w h r
   obtain ⟨D2, k1, k2, k3, k4⟩ := uses_w (us := us) h1
   refine ⟨D2, k1, fun x => ?_, k3.trans h3, k4.trans h4⟩
   rw [k2, h2, List.mem_cons, or_assoc]
theorem def_w {s : ND} {D : List HR} (h : WN s D) {x : HI} (hd : (defF x).2 = true) :
 ∃ D', WN (defN s x) D' ∧ (∀ y, y ∈ D' ↔ y ∈ D ∧ y ≠ (defF x).1) ∧
  (((defF x).1 ∈ D ∧ (defN s x).n0 = s.n0 ∧ (defN s x).n1 = s.n1) ∨
   ((defF x).1 ∉ D ∧ (defF x).1.vec = true ∧ (defN s x).n0 = s.n0 ∧ (defN s x).n1 = max s.n1 (s.m1 + 1)) ∨
   ((defF x).1 ∉ D ∧ (defF x).1.vec = false ∧ (defN s x).n0 = max s.n0 (s.m0 + 1) ∧ (defN s x).n1 = s.n1)) := by
  generalize hr : (defF x).1 = r
  have hi : inA s.now r = true ↔ r ∈ D := by rw [h.now]; exact in_tr
  unfold defN
  rw [if_pos hd, hr]
  by_cases c : r ∈ D
  . rw [if_pos (hi.2 c)]
    have hp : adel MHB r s.now = trD (D.filter fun x => decide (x ≠ r)) := by rw [h.now]; exact del_tr h.nd
    have hm : ∀ y, y ∈ D.filter (fun x => decide (x ≠ r)) ↔ y ∈ D ∧ y ≠ r := fun y => by simp [List.mem_filter]
    have d0 := cnt_del (b := false) h.nd c
    have d1 := cnt_del (b := true) h.nd c
    cases e : r.vec with
    | true =>
      rw [e] at d0 d1
      rw [if_pos rfl]
      exact ⟨_, ⟨h.nd.filter _, hp, by rw [d0]; simp [h.m0], by rw [d1]; simp [h.m1]⟩, hm, .inl ⟨c, rfl, rfl⟩⟩
    | false =>
      rw [e] at d0 d1
      rw [if_neg (by decide)]
      exact ⟨_, ⟨h.nd.filter _, hp, by rw [d0]; simp [h.m0], by rw [d1]; simp [h.m1]⟩, hm, .inl ⟨c, rfl, rfl⟩⟩
  . rw [if_neg (fun q => c (hi.1 q))]
    have hm : ∀ y, y ∈ D ↔ y ∈ D ∧ y ≠ r := fun y => ⟨fun q => ⟨q, by rintro rfl; exact c q⟩, fun q => q.1⟩
    cases e : r.vec with
    | true => rw [if_pos rfl]; exact ⟨D, ⟨h.nd, h.now, h.m0, h.m1⟩, hm, .inr (.inl ⟨c, rfl, rfl, rfl⟩)⟩
    | false => rw [if_neg (by decide)]; exact ⟨D, ⟨h.nd, h.now, h.m0, h.m1⟩, hm, .inr (.inr ⟨c, rfl, rfl, rfl⟩)⟩
structure LeN (s t : ND) (D E : List HR) : Prop where
 l : WN s D
 r : WN t E
 sub : ∀ x ∈ D, x ∈ E
 n0 : s.n0 ≤ t.n0
 n1 : s.n1 ≤ t.n1
theorem LeN.c0 {s t D E} (h : LeN s t D E) : s.m0 ≤ t.m0 := by rw [h.l.m0, h.r.m0]; exact cnt_le h.l.nd h.sub
theorem LeN.c1 {s t D E} (h : LeN s t D E) : s.m1 ≤ t.m1 := by rw [h.l.m1, h.r.m1]; exact cnt_le h.l.nd h.sub
theorem nodup_snoc {D : List HR} {r : HR} (h : D.Nodup) (c : r ∉ D) : (D ++ [r]).Nodup := by
 rw [List.nodup_append]
 refine ⟨h, by simp, ?_⟩
 intro a ha b hb
 rw [List.mem_singleton] at hb
 subst hb; rintro rfl; exact c ha
theorem le_def {s t : ND} {D E : List HR} (h : LeN s t D E) (h0 : t.m0 ≤ t.n0) (h1 : t.m1 ≤ t.n1) (x : HI) : ∃ D' E', LeN (defN s x) (defN t x) D' E' := by
 cases hd : (defF x).2 with
 | false =>
   have e : ∀ s, defN s x = s := fun s => by unfold defN; rw [if_neg (by rw [hd]; decide)]
   rw [e, e]; exact ⟨D, E, h⟩
 | true =>
   obtain ⟨D', a1, a2, a3⟩ := def_w h.l hd
   obtain ⟨E', b1, b2, b3⟩ := def_w h.r hd
   have hs : ∀ y ∈ D', y ∈ E' := fun y hy => (b2 y).2 ⟨h.sub y ((a2 y).1 hy).1, ((a2 y).1 hy).2⟩
   have k0 := h.c0
   have k1 := h.c1
   have n0 := h.n0
   have n1 := h.n1
   have big : ∀ b, (defF x).1 ∉ D -> (defF x).1 ∈ E -> cntD b D + (if (defF x).1.vec = b then 1 else 0) ≤ cntD b E := fun b c1 c2 => by
    rw [<- cnt_add]
    refine cnt_le (nodup_snoc h.l.nd c1) fun y hy => ?_
    rcases List.mem_append.1 hy with q | q
    . exact h.sub y q
    . rw [List.mem_singleton] at q; subst q; exact c2
   refine ⟨D', E', a1, b1, hs, ?_, ?_⟩
   . rcases a3 with ⟨p, q1, q2⟩ | ⟨p, v, q1, q2⟩ | ⟨p, v, q1, q2⟩ <;> rcases b3 with ⟨p', r1, r2⟩ | ⟨p', v', r1, r2⟩ | ⟨p', v', r1, r2⟩ <;> rw [q1, r1]
     . exact n0
     . exact n0
     . omega
     . exact n0
     . exact n0
     . omega
     . have := big false p p'
       rw [if_pos v, <- h.l.m0, <- h.r.m0] at this
       omega
     . rw [v] at v'; cases v'
     . omega
   . rcases a3 with ⟨p, q1, q2⟩ | ⟨p, v, q1, q2⟩ | ⟨p, v, q1, q2⟩ <;> rcases b3 with ⟨p', r1, r2⟩ | ⟨p', v', r1, r2⟩ | ⟨p', v', r1, r2⟩ <;> rw [q2, r2]
     . exact n1
     . omega
     . exact n1
     . have := big true p p'
       rw [if_pos v, <- h.l.m1, <- h.r.m1] at this
       omega
     . omega
     . rw [v] at v'; cases v'
     . exact n1
     . omega
     . exact n1
theorem le_step {s t : ND} {D E : List HR} (h : LeN s t D E) (h0 : t.m0 ≤ t.n0) (h1 : t.m1 ≤ t.n1) (x : HI) : ∃ D' E', LeN (stepN s x) (stepN t x) D' E' ∧ (stepN t x).m0 ≤ (stepN t x).n0 ∧ (stepN t x).m1 ≤ (stepN t x).n1 := by
 obtain ⟨D1, E1, k⟩ := le_def h h0 h1 x
 obtain ⟨D2, a1, a2, a3, a4⟩ := uses_w (us := usesF x) k.l
 obtain ⟨E2, b1, b2, b3, b4⟩ := uses_w (us := usesF x) k.r
 have hs : ∀ y ∈ D2, y ∈ E2 := fun y hy => (b2 y).2 (((a2 y).1 hy).imp (k.sub y) id)
 have kn0 := k.n0
 have kn1 := k.n1
 unfold stepN
 generalize (usesF x).foldl useN (defN s x) = u at *
 generalize (usesF x).foldl useN (defN t x) = v at *
 have q : LeN u v D2 E2 := ⟨a1, b1, hs, by omega, by omega⟩
 have c0 := q.c0
 have c1 := q.c1
 refine ⟨D2, E2, ⟨⟨a1.nd, a1.now, a1.m0, a1.m1⟩, ⟨b1.nd, b1.now, b1.m0, b1.m1⟩, hs, ?_, ?_⟩, ?_, ?_⟩ <;> simp only [endN] <;> omega
theorem le_fold : ∀ {l : List HI} {s t : ND} {D E : List HR}, LeN s t D E -> t.m0 ≤ t.n0 -> t.m1 ≤ t.n1 -> (l.foldl stepN s).n0 ≤ (l.foldl stepN t).n0 ∧ (l.foldl stepN s).n1 ≤ (l.foldl stepN t).n1
 | [], _, _, _, _, h, _, _ => ⟨h.n0, h.n1⟩
 | x :: l, s, t, D, E, h, h0, h1 => by
   obtain ⟨D', E', k, k0, k1⟩ := le_step h h0 h1 x
   rw [List.foldl_cons, List.foldl_cons]
   exact le_fold (s := stepN s x) (t := stepN t x) k k0 k1
theorem w_fold : ∀ {l : List HI} {t : ND} {E : List HR}, WN t E -> t.m0 ≤ t.n0 -> t.m1 ≤ t.n1 -> ∃ E', WN (l.foldl stepN t) E' ∧ (l.foldl stepN t).m0 ≤ (l.foldl stepN t).n0 ∧ (l.foldl stepN t).m1 ≤ (l.foldl stepN t).n1
 | [], _, E, h, h0, h1 => ⟨E, h, h0, h1⟩
 | x :: l, t, E, h, h0, h1 => by
   obtain ⟨_, E', k, k0, k1⟩ := le_step (s := t) ⟨h, h, fun _ q => q, Int.le_refl _, Int.le_refl _⟩ h0 h1 x
   rw [List.foldl_cons]
   exact w_fold k.r k0 k1
theorem w_nd0 : WN nd0 [] := ⟨List.nodup_nil, rfl, rfl, rfl⟩
theorem cnt_nn (b : Bool) (D : List HR) : 0 ≤ cntD b D := by unfold cntD; omega
def endI : HI := ⟨40, 0, 0, 0, 0, 0, 0, 0, 1, 0, 0, 0, 0, 0, 0⟩
theorem end_u : usesF endI = [] := by kernel_rfl
theorem end_d : defF endI = (⟨false, 0⟩, false) := by kernel_rfl
theorem end_p : preA endI true = true := by kernel_rfl
theorem end_step : stepN nd0 endI = nd0 := by
 unfold stepN defN
 rw [end_u, end_d]; rfl
theorem end_ok (es : RB) : okA es endI true = true := by
 unfold okA
 rw [end_p, end_u, end_d]; rfl
theorem chk_pre : ∀ {p r : List HI} {es : RB}, r ≠ [] -> chk es (p ++ r) = true -> chk es (p ++ [endI]) = true
 | [], r, es, _, _ => by
   simp only [List.nil_append, chk, List.isEmpty_nil, end_ok, Bool.and_self]
 | x :: p, r, es, hr, h => by
   simp only [List.cons_append, chk, Bool.and_eq_true] at h ⊢
   have e1 : (p ++ r).isEmpty = false := by
    cases p with
    | nil => cases r with
      | nil => exact absurd rfl hr
      | cons _ _ => rfl
    | cons _ _ => rfl
   have e2 : (p ++ [endI]).isEmpty = false := by cases p <;> rfl
   rw [e1] at h
   rw [e2]
   exact ⟨h.1, chk_pre hr h.2⟩
theorem press_pre {l : List HI} {n : Nat} (hc : checkA l = 0) (hn : n < l.length) : checkA (l.take n ++ [endI]) = 0 ∧ (pressF (l.take n ++ [endI])).2.2 = 0 ∧ (pressF (l.take n ++ [endI])).1 ≤ (pressF l).1 ∧ (pressF (l.take n ++ [endI])).2.1 ≤ (pressF l).2.1 := by
 have hl : l = l.take n ++ l.drop n := (List.take_append_drop n l).symm
 have hd : l.drop n ≠ [] := fun e => by have := congrArg List.length e; rw [List.length_drop] at this; simp at this; omega
 have hc2 : checkA (l.take n ++ [endI]) = 0 := by
  unfold checkA at hc ⊢
  split at hc
  . next c =>
    rw [if_pos]
    simp only [codeA, Bool.and_eq_true, decide_eq_true_eq, List.length_append, List.length_take, List.length_singleton] at c ⊢
    refine ⟨⟨by omega, by omega⟩, ?_⟩
    have c2 := c.2
    rw [hl] at c2
    exact chk_pre hd c2
  . cases hc
 have e1 : needsF l = (l.take n).reverse.foldl stepN ((l.drop n).reverse.foldl stepN nd0) := by
  conv => lhs; rw [hl]
  unfold needsF
  rw [List.reverse_append, List.foldl_append]
 have e2 : needsF (l.take n ++ [endI]) = (l.take n).reverse.foldl stepN nd0 := by
  unfold needsF
  rw [List.reverse_append, List.foldl_append]
  show List.foldl stepN (stepN nd0 endI) _ = _
  rw [end_step]
 obtain ⟨E, k, k0, k1⟩ := w_fold (l := (l.drop n).reverse) w_nd0 (Int.le_refl _) (Int.le_refl _)
 have a0 := cnt_nn false E
 have a1 := cnt_nn true E
 rw [<- k.m0] at a0
 rw [<- k.m1] at a1
 have q := le_fold (l := (l.take n).reverse) (s := nd0) ⟨w_nd0, k, fun _ h => (List.not_mem_nil h).elim, by show (0 : Int) ≤ _; omega, by show (0 : Int) ≤ _; omega⟩ k0 k1
 rw [<- e1, <- e2] at q
 have p1 : pressF l = ((needsF l).n0, (needsF l).n1, 0) := by unfold pressF; rw [if_neg (fun e => e hc)]
 have p2 : pressF (l.take n ++ [endI]) = ((needsF (l.take n ++ [endI])).n0, (needsF (l.take n ++ [endI])).n1, 0) := by unfold pressF; rw [if_neg (fun e => e hc2)]
 rw [p1, p2]
 exact ⟨hc2, rfl, q.1, q.2⟩
end Go.Proofs.YtlahifihaeafbaaGreatDoor
namespace Go.Proofs.YtlahifihaeafbaaGreatDoor
open Go Go.Sx
theorem low_more {w v w' v' : Int} (h : w ≤ w') (h2 : v ≤ v') {r : HR} (hr : lowR w v r = true) : lowR w' v' r = true := by
 unfold lowR at hr ⊢
 split at hr
 . next c => rw [if_pos c]; simp only [decide_eq_true_eq] at hr ⊢; omega
 . next c => rw [if_neg c]; simp only [decide_eq_true_eq] at hr ⊢; omega
theorem within_more {w v w' v' : Int} (h : w ≤ w') (h2 : v ≤ v') {x : HI} (hx : withinA x w v = true) : withinA x w' v' = true := by
 unfold withinA at hx ⊢
 rw [List.all_eq_true] at hx ⊢
 exact fun r hr => low_more h h2 (hx r hr)
theorem elem_more {code : List HI} {w v w' v' : Int} (h : w ≤ w') (h2 : v ≤ v') {es : HM} {x : HI} {f : Int} (hx : (elemV code w v es x f).2 = true) : elemV code w' v' es x f = elemV code w v es x f := by
 unfold elemV at hx ⊢
 split at hx
 . next c => rw [if_pos c, if_pos ⟨c.1, within_more h h2 c.2⟩]
 . cases hx
theorem walk_more {code : List HI} {w v w' v' : Int} (h : w ≤ w') (h2 : v ≤ v') : ∀ {L : List HI} {F : List Int} {es : HM} {k : Int} {es' : HM}, walkGo code w v L F es k = .inr es' -> walkGo code w' v' L F es k = .inr es'
 | [], _, _, _, _, e => by simpa only [walkGo] using e
 | _ :: _, [], _, _, _, e => by simpa only [walkGo] using e
 | x :: L, f :: F, es, k, es', e => by
   rw [walkGo] at e ⊢
   split at e
   . next c =>
     rw [elem_more h h2 c, if_pos c]
     exact walk_more h h2 e
   . cases e
theorem args_iff {l : List HI} {w v : Int} : argsF l w v = 0 ↔ checkA l = 0 ∧ 3 ≤ w ∧ w ≤ 12 ∧ 2 ≤ v ∧ v ≤ 6 := by
 unfold argsF
 split
 . next c => exact ⟨fun e => absurd e (by decide), fun e => absurd e.1 c⟩
 . next c =>
   split
   . exact ⟨fun e => absurd e (by decide), fun e => by omega⟩
   . exact ⟨fun _ => ⟨Classical.not_not.1 c, by omega, by omega, by omega, by omega⟩, fun _ => rfl⟩
theorem acc_zero {l : List HI} {a : AL} {w v : Int} (h : (acceptF l a w v).2 = 0) : argsF l w v = 0 ∧ (∃ es, walkGo l w v a.L a.fr [] 0 = .inr es) ∧ orderedF ⟨a.L, a.fr, l⟩ = true := by
 unfold acceptF at h
 split at h
 . next c => exact absurd h c
 . next c =>
   refine ⟨Classical.not_not.1 c, ?_⟩
   revert h
   have c' : argsF l w v = 0 := Classical.not_not.1 c
   cases e : walkGo l w v a.L a.fr [] 0 with
   | inl k => intro h; exact absurd (show (191 : Int) = 0 from h) (by decide)
   | inr es =>
     intro h
     refine ⟨⟨es, rfl⟩, ?_⟩
     cases o : orderedF ⟨a.L, a.fr, l⟩ with
     | true => rfl
     | false => rw [o] at h; exact absurd (show (191 : Int) = 0 from h) (by decide)
theorem acc_more {l : List HI} {a : AL} {w v w' v' : Int} (h : (acceptF l a w v).2 = 0) (hw : w ≤ w') (hw2 : w' ≤ 12) (hv : v ≤ v') (hv2 : v' ≤ 6) : acceptF l a w' v' = (0, 0) := by
 obtain ⟨h1, ⟨es, h2⟩, h3⟩ := acc_zero h
 rw [args_iff] at h1
 have h4 : argsF l w' v' = 0 := args_iff.2 ⟨h1.1, by omega, by omega, by omega, by omega⟩
 exact ac_3 (by rw [h4]; exact fun e => e rfl) (walk_more hw hv h2) h3
end Go.Proofs.YtlahifihaeafbaaGreatDoor
namespace Go.Proofs.YtlahifihaeafbaaGreatDoor
open Go Go.Sx
def c131 : MC := .seq (.reg [oo 8 (.mv kf)]) (.seq (.seq (.reg [om 9 1,oo 10 (.cmp .eql (.t 9) (ki 0))]) (.cond (.t 10) (.seq (.reg [om 11 0,oo 12 (.cmp .eql (.t 11) (ki 0)),om 8 12]) (.ret)) (.skip))) (.seq (.seq (.reg [om 13 1,oo 14 (.cmp .eql (.t 13) (ki 2))]) (.cond (.t 14) (.seq (.reg [om 15 0,oo 16 (.cmp .geq (.t 15) (ki 0)),os (some 17) (.mv (.t 16)),og 17 true (some 18) (.mv (.t 0)),og 17 true (some 19) (.mv (.t 3)),og 17 true (some 20) (.cmp .lss (.t 18) (.t 19)),oo 21 (.pick (.t 17) (.t 20) kf),om 8 21]) (.ret)) (.skip))) (.seq (.reg [om 22 0,oo 23 (.cmp .geq (.t 22) (ki 0)),os (some 24) (.mv (.t 23)),og 24 true (some 25) (.mv (.t 0)),og 24 true (some 26) (.mv (.t 2)),og 24 true (some 27) (.cmp .lss (.t 25) (.t 26)),oo 28 (.pick (.t 24) (.t 27) kf),om 8 28]) (.ret))))
theorem k131 : FnOk Tryz.prog 131 29 c131 [.t 8] := fk Tryz.func131 ⟨tv,⟨⟨tv,⟨⟨tv,tv⟩,tv⟩⟩,⟨⟨tv,⟨⟨tv,tv⟩,tv⟩⟩,⟨tv,tv⟩⟩⟩⟩
def c157 : MC := .seq (.reg [oo 6 (.mv kf)]) (.seq (.reg [om 7 0,om 8 1,oo 9 (.cmp .geq (.t 7) (.t 8)),os (some 10) (.mv (.t 9)),og 10 true (some 11) (.mv (.t 0)),og 10 true (some 12) (.mv (.t 2)),og 10 true (some 13) (.cmp .leq (.t 11) (.t 12)),oo 14 (.pick (.t 10) (.t 13) kf),om 6 14]) (.ret))
theorem k157 : FnOk Tryz.prog 157 15 c157 [.t 6] := fk Tryz.func157 ⟨tv,⟨tv,tv⟩⟩
def c159 : MC := .seq (.reg [oo 2 (.mv kf)]) (.seq (.reg [om 3 0,oo 4 (.cmp .eql (.t 3) (ki 8)),os (some 5) (.mv (.t 4)),og 5 false (some 6) (.mv (.t 0)),og 5 false (some 7) (.cmp .eql (.t 6) (ki 16)),oo 8 (.pick (.t 5) kt (.t 7)),os (some 9) (.mv (.t 8)),og 9 false (some 10) (.mv (.t 0)),og 9 false (some 11) (.cmp .eql (.t 10) (ki 32)),oo 12 (.pick (.t 9) kt (.t 11)),om 2 12]) (.ret))
theorem k159 : FnOk Tryz.prog 159 13 c159 [.t 2] := fk Tryz.func159 ⟨tv,⟨tv,tv⟩⟩
def regF (x k w v : Int) : Bool := if k = 0 then decide (x = 0) else if k = 2 then (if 0 ≤ x then decide (x < v) else false) else (if 0 ≤ x then decide (x < w) else false)
noncomputable def L131 (x : Int) (kd : Int) (wn : Int) (vn : Int) : LSpec := ⟨[kz x, kz kd, kz wn, kz vn], [], [], [], .bool (regF x kd wn vn)⟩
theorem s131 (x : Int) (kd : Int) (wn : Int) (vn : Int) : LSpec.ok Tryz.prog GG 131 (L131 x kd wn vn) := by
 refine fn_spec mix k131 _ rfl rfl (Tab.ok (l := []) trivial) noL noJ ?_
 repeat' ((conv => whnf); first
  | exact trivial
  | with_reducible first | refine aj ?_ | refine ai rfl ?_ | refine ai ⟨rfl, rfl⟩ ?_
  | ((with_reducible refine ai ?_ ?_); focus exact w3)
  | with_reducible first | refine And.intro ?_ ?_ | refine asL_mk ?_ | refine exI (i64_in (by omega) (by omega)) ?_
  | refine exI (x := ULift.up _) (Eq.refl _) ?_
  | refine exI (x := ULift.up _) ⟨rfl, by omega, Eq.refl _⟩ ?_
  | exact ny
  | ((with_reducible intro h); try dsimp only at h))
 all_goals (refine Sd.mk ?_; simp only [regF]; simp_all <;> omega)
noncomputable def S131 : SFn
 | [a0, a1, a2, a3], k => asI a0 fun x => asI a1 fun kd => asI a2 fun wn => asI a3 fun vn => k (L131 x kd wn vn)
 | _, _ => .fail
theorem t131 : FnS Tryz.prog GG 131 S131 := by
 intro args k gt go R v os n h
 unfold S131 at h
 split at h
 . obtain ⟨x, _, h⟩ := asI_inv h
   obtain ⟨kd, _, h⟩ := asI_inv h
   obtain ⟨wn, _, h⟩ := asI_inv h
   obtain ⟨vn, _, h⟩ := asI_inv h
   exact ⟨_, _, s131 x kd wn vn, h⟩
 . cases h
noncomputable def L157 (x : Int) (lo : Int) (hi : Int) : LSpec := ⟨[kz x, kz lo, kz hi], [], [], [], .bool (withinF x lo hi)⟩
theorem s157 (x : Int) (lo : Int) (hi : Int) : LSpec.ok Tryz.prog GG 157 (L157 x lo hi) := by
 refine fn_spec mix k157 _ rfl rfl (Tab.ok (l := []) trivial) noL noJ ?_
 repeat' ((conv => whnf); first
  | exact trivial
  | with_reducible first | refine aj ?_ | refine ai rfl ?_ | refine ai ⟨rfl, rfl⟩ ?_
  | ((with_reducible refine ai ?_ ?_); focus exact w3)
  | with_reducible first | refine And.intro ?_ ?_ | refine asL_mk ?_ | refine exI (i64_in (by omega) (by omega)) ?_
  | refine exI (x := ULift.up _) (Eq.refl _) ?_
  | refine exI (x := ULift.up _) ⟨rfl, by omega, Eq.refl _⟩ ?_
  | exact ny
  | ((with_reducible intro h); try dsimp only at h))
 all_goals (refine Sd.mk ?_; simp only [withinF]; simp_all <;> omega)
noncomputable def S157 : SFn
 | [a0, a1, a2], k => asI a0 fun x => asI a1 fun lo => asI a2 fun hi => k (L157 x lo hi)
 | _, _ => .fail
theorem t157 : FnS Tryz.prog GG 157 S157 := by
 intro args k gt go R v os n h
 unfold S157 at h
 split at h
 . obtain ⟨x, _, h⟩ := asI_inv h
   obtain ⟨lo, _, h⟩ := asI_inv h
   obtain ⟨hi, _, h⟩ := asI_inv h
   exact ⟨_, _, s157 x lo hi, h⟩
 . cases h
noncomputable def L159 (x : Int) : LSpec := ⟨[kz x], [], [], [], .bool (wordF x)⟩
theorem s159 (x : Int) : LSpec.ok Tryz.prog GG 159 (L159 x) := by
 refine fn_spec mix k159 _ rfl rfl (Tab.ok (l := []) trivial) noL noJ ?_
 repeat' ((conv => whnf); first
  | exact trivial
  | with_reducible first | refine aj ?_ | refine ai rfl ?_ | refine ai ⟨rfl, rfl⟩ ?_
  | ((with_reducible refine ai ?_ ?_); focus exact w3)
  | with_reducible first | refine And.intro ?_ ?_ | refine asL_mk ?_ | refine exI (i64_in (by omega) (by omega)) ?_
  | refine exI (x := ULift.up _) (Eq.refl _) ?_
  | refine exI (x := ULift.up _) ⟨rfl, by omega, Eq.refl _⟩ ?_
  | exact ny
  | ((with_reducible intro h); try dsimp only at h))
 all_goals (refine Sd.mk ?_; simp only [wordF]; simp_all)
noncomputable def S159 : SFn
 | [a0], k => asI a0 fun x => k (L159 x)
 | _, _ => .fail
theorem t159 : FnS Tryz.prog GG 159 S159 := by
 intro args k gt go R v os n h
 unfold S159 at h
 split at h
 . obtain ⟨x, _, h⟩ := asI_inv h
   exact ⟨_, _, s159 x, h⟩
 . cases h
end Go.Proofs.YtlahifihaeafbaaGreatDoor
namespace Go.Proofs.YtlahifihaeafbaaGreatDoor
open Go Go.Sx
def c156 : MC := .seq (.reg [oo 2 (.alloc [.ff,.ff,.ff,(kz 0),(kz 0),(kz 0),(kz 0),.ff,.ff,.ff,.ff]),oo 3 (.mv kf)]) (.seq (.seq (.reg [om 4 0]) (.blk 0 (.seq (.reg [oo 6 (.cmp .eql (.t 4) (ki 1)),om 5 6]) (.cond (.t 5) (.seq (.reg [oo 7 (.bld [.ff,.ff,.ff,(kz 0),(kz 0),(kz 0),(kz 0),.ff,.ff,.ff,.ff] [(3,1,(ki 1)),(8,1,kt)]),o none (.st (some 11) (.t 2) (.t 7)),oo 3 (.mv kt)]) (.ret)) (.seq (.reg [oo 9 (.cmp .eql (.t 4) (ki 2)),om 8 9]) (.cond (.t 8) (.seq (.reg [oo 10 (.bld [.ff,.ff,.ff,(kz 0),(kz 0),(kz 0),(kz 0),.ff,.ff,.ff,.ff] [(3,1,(ki 1)),(4,1,(ki 1))]),o none (.st (some 11) (.t 2) (.t 10)),oo 3 (.mv kt)]) (.ret)) (.seq (.reg [oo 12 (.cmp .eql (.t 4) (ki 3)),om 11 12]) (.cond (.t 11) (.seq (.reg [oo 13 (.bld [.ff,.ff,.ff,(kz 0),(kz 0),(kz 0),(kz 0),.ff,.ff,.ff,.ff] [(0,1,kt),(3,1,(ki 1)),(4,1,(ki 1)),(5,1,(ki 1))]),o none (.st (some 11) (.t 2) (.t 13)),oo 3 (.mv kt)]) (.ret)) (.seq (.reg [oo 15 (.cmp .eql (.t 4) (ki 4)),om 14 15]) (.cond (.t 14) (.seq (.reg [oo 16 (.bld [.ff,.ff,.ff,(kz 0),(kz 0),(kz 0),(kz 0),.ff,.ff,.ff,.ff] [(0,1,kt),(3,1,(ki 1)),(4,1,(ki 1)),(8,1,kt)]),o none (.st (some 11) (.t 2) (.t 16)),oo 3 (.mv kt)]) (.ret)) (.seq (.reg [oo 18 (.cmp .eql (.t 4) (ki 5)),om 17 18]) (.cond (.t 17) (.seq (.reg [oo 19 (.bld [.ff,.ff,.ff,(kz 0),(kz 0),(kz 0),(kz 0),.ff,.ff,.ff,.ff] [(0,1,kt),(1,1,kt),(2,1,kt),(3,1,(ki 1)),(4,1,(ki 1))]),o none (.st (some 11) (.t 2) (.t 19)),oo 3 (.mv kt)]) (.ret)) (.seq (.reg [oo 21 (.cmp .eql (.t 4) (ki 6)),om 20 21]) (.cond (.t 20) (.seq (.reg [oo 22 (.bld [.ff,.ff,.ff,(kz 0),(kz 0),(kz 0),(kz 0),.ff,.ff,.ff,.ff] [(3,1,(ki 1)),(4,1,(ki 1)),(5,1,(ki 1)),(6,1,(ki 1))]),o none (.st (some 11) (.t 2) (.t 22)),oo 3 (.mv kt)]) (.ret)) (.seq (.reg [oo 24 (.cmp .eql (.t 4) (ki 7)),om 23 24]) (.cond (.t 23) (.seq (.reg [oo 25 (.bld [.ff,.ff,.ff,(kz 0),(kz 0),(kz 0),(kz 0),.ff,.ff,.ff,.ff] [(3,1,(ki 2)),(10,1,kt)]),o none (.st (some 11) (.t 2) (.t 25)),oo 3 (.mv kt)]) (.ret)) (.seq (.reg [oo 27 (.cmp .eql (.t 4) (ki 8)),om 26 27]) (.cond (.t 26) (.seq (.reg [oo 28 (.bld [.ff,.ff,.ff,(kz 0),(kz 0),(kz 0),(kz 0),.ff,.ff,.ff,.ff] [(3,1,(ki 2)),(4,1,(ki 2))]),o none (.st (some 11) (.t 2) (.t 28)),oo 3 (.mv kt)]) (.ret)) (.seq (.reg [oo 30 (.cmp .eql (.t 4) (ki 9)),om 29 30]) (.cond (.t 29) (.seq (.reg [oo 31 (.bld [.ff,.ff,.ff,(kz 0),(kz 0),(kz 0),(kz 0),.ff,.ff,.ff,.ff] [(0,1,kt),(3,1,(ki 2)),(4,1,(ki 2)),(5,1,(ki 2))]),o none (.st (some 11) (.t 2) (.t 31)),oo 3 (.mv kt)]) (.ret)) (.seq (.reg [oo 33 (.cmp .eql (.t 4) (ki 10)),om 32 33]) (.cond (.t 32) (.seq (.reg [oo 34 (.bld [.ff,.ff,.ff,(kz 0),(kz 0),(kz 0),(kz 0),.ff,.ff,.ff,.ff] [(0,1,kt),(3,1,(ki 2)),(4,1,(ki 2))]),o none (.st (some 11) (.t 2) (.t 34)),oo 3 (.mv kt)]) (.ret)) (.seq (.reg [oo 36 (.cmp .eql (.t 4) (ki 11)),om 35 36]) (.cond (.t 35) (.seq (.reg [oo 37 (.bld [.ff,.ff,.ff,(kz 0),(kz 0),(kz 0),(kz 0),.ff,.ff,.ff,.ff] [(0,1,kt),(3,1,(ki 1)),(4,1,(ki 2)),(5,1,(ki 2))]),o none (.st (some 11) (.t 2) (.t 37)),oo 3 (.mv kt)]) (.ret)) (.seq (.seq (.reg [oo 39 (.cmp .eql (.t 4) (ki 12)),om 38 39])
 (.cond (.t 38) (.skip) (.reg [oo 40 (.cmp .eql (.t 4) (ki 17)),om 38 40]))) (.cond (.t 38) (.seq (.reg [oo 41 (.bld [.ff,.ff,.ff,(kz 0),(kz 0),(kz 0),(kz 0),.ff,.ff,.ff,.ff] [(3,1,(ki 1)),(4,1,(ki 2))]),o none (.st (some 11) (.t 2) (.t 41)),oo 3 (.mv kt)]) (.ret)) (.seq (.seq (.reg [oo 43 (.cmp .eql (.t 4) (ki 13)),om 42 43]) (.cond (.t 42) (.skip) (.reg [oo 44 (.cmp .eql (.t 4) (ki 14)),om 42 44]))) (.cond (.t 42) (.seq (.reg [oo 45 (.bld [.ff,.ff,.ff,(kz 0),(kz 0),(kz 0),(kz 0),.ff,.ff,.ff,.ff] [(3,1,(ki 2)),(4,1,(ki 1))]),o none (.st (some 11) (.t 2) (.t 45)),oo 3 (.mv kt)]) (.ret)) (.seq (.reg [oo 47 (.cmp .eql (.t 4) (ki 15)),om 46 47]) (.cond (.t 46) (.seq (.reg [oo 48 (.bld [.ff,.ff,.ff,(kz 0),(kz 0),(kz 0),(kz 0),.ff,.ff,.ff,.ff] [(3,1,(ki 1)),(4,1,(ki 2)),(7,1,kt)]),o none (.st (some 11) (.t 2) (.t 48)),oo 3 (.mv kt)]) (.ret)) (.seq (.reg [oo 50 (.cmp .eql (.t 4) (ki 16)),om 49 50]) (.cond (.t 49) (.seq (.reg [oo 51 (.bld [.ff,.ff,.ff,(kz 0),(kz 0),(kz 0),(kz 0),.ff,.ff,.ff,.ff] [(3,1,(ki 2)),(4,1,(ki 2)),(5,1,(ki 1)),(7,1,kt)]),o none (.st (some 11) (.t 2) (.t 51)),oo 3 (.mv kt)]) (.ret)) (.seq (.reg [oo 53 (.cmp .eql (.t 4) (ki 18)),om 52 53]) (.cond (.t 52) (.seq (.reg [oo 54 (.bld [.ff,.ff,.ff,(kz 0),(kz 0),(kz 0),(kz 0),.ff,.ff,.ff,.ff] [(3,1,(ki 2)),(4,1,(ki 1)),(5,1,(ki 2)),(6,1,(ki 2))]),o none (.st (some 11) (.t 2) (.t 54)),oo 3 (.mv kt)]) (.ret)) (.seq (.reg [oo 56 (.cmp .eql (.t 4) (ki 19)),om 55 56]) (.cond (.t 55) (.seq (.reg [oo 57 (.bld [.ff,.ff,.ff,(kz 0),(kz 0),(kz 0),(kz 0),.ff,.ff,.ff,.ff] [(2,1,kt),(3,1,(ki 1)),(7,1,kt)]),o none (.st (some 11) (.t 2) (.t 57)),oo 3 (.mv kt)]) (.ret)) (.seq (.reg [oo 59 (.cmp .eql (.t 4) (ki 20)),om 58 59]) (.cond (.t 58) (.seq (.reg [oo 60 (.bld [.ff,.ff,.ff,(kz 0),(kz 0),(kz 0),(kz 0),.ff,.ff,.ff,.ff] [(2,1,kt),(4,1,(ki 1)),(7,1,kt)]),o none (.st (some 11) (.t 2) (.t 60)),oo 3 (.mv kt)]) (.ret)) (.seq (.reg [oo 62 (.cmp .eql (.t 4) (ki 21)),om 61 62]) (.cond (.t 61) (.seq (.reg [oo 63 (.bld [.ff,.ff,.ff,(kz 0),(kz 0),(kz 0),(kz 0),.ff,.ff,.ff,.ff] [(2,1,kt),(7,1,kt),(8,1,kt)]),o none (.st (some 11) (.t 2) (.t 63)),oo 3 (.mv kt)]) (.ret)) (.seq (.seq (.reg [oo 65 (.cmp .eql (.t 4) (ki 22)),om 64 65]) (.cond (.t 64) (.skip) (.reg [oo 66 (.cmp .eql (.t 4) (ki 45)),om 64 66]))) (.cond (.t 64) (.seq (.reg [oo 67 (.bld [.ff,.ff,.ff,(kz 0),(kz 0),(kz 0),(kz 0),.ff,.ff,.ff,.ff] [(3,1,(ki 2)),(7,1,kt)]),o none (.st (some 11) (.t 2) (.t 67)),oo 3 (.mv kt)]) (.ret)) (.seq (.seq (.reg [oo 69 (.cmp .eql (.t 4) (ki 23)),om 68 69]) (.cond (.t 68) (.skip) (.reg [oo 70 (.cmp .eql (.t 4) (ki 44)),om 68 70]))) (.cond (.t 68) (.seq (.reg [oo 71 (.bld [.ff,.ff,.ff,(kz 0),(kz 0),(kz 0),(kz 0),.ff,.ff,.ff,.ff] [(4,1,(ki 2)),(7,1,kt)]),o none (.st (some 11) (.t 2) (.t 71)),oo 3 (.mv kt)]) (.ret)) (.seq (.seq (.reg [oo 73 (.cmp .eql (.t 4) (ki 24)),om 72 73]) (.cond (.t 72) (.skip) (.seq (.reg [oo 74 (.cmp .eql (.t 4) (ki 28)),om 72 74]) (.cond (.t 72) (.skip) (.reg [oo 75 (.cmp .eql (.t 4) (ki 32)),om 72 75])))))
 (.cond (.t 72) (.seq (.reg [oo 76 (.bld [.ff,.ff,.ff,(kz 0),(kz 0),(kz 0),(kz 0),.ff,.ff,.ff,.ff] [(2,1,kt),(3,1,(ki 1)),(4,1,(ki 1)),(8,1,kt)]),o none (.st (some 11) (.t 2) (.t 76)),oo 3 (.mv kt)]) (.ret)) (.seq (.seq (.reg [oo 78 (.cmp .eql (.t 4) (ki 25)),om 77 78]) (.cond (.t 77) (.skip) (.reg [oo 79 (.cmp .eql (.t 4) (ki 29)),om 77 79]))) (.cond (.t 77) (.seq (.reg [oo 80 (.bld [.ff,.ff,.ff,(kz 0),(kz 0),(kz 0),(kz 0),.ff,.ff,.ff,.ff] [(2,1,kt),(4,1,(ki 1)),(5,1,(ki 1)),(8,1,kt)]),o none (.st (some 11) (.t 2) (.t 80)),oo 3 (.mv kt)]) (.ret)) (.seq (.seq (.reg [oo 82 (.cmp .eql (.t 4) (ki 26)),om 81 82]) (.cond (.t 81) (.skip) (.reg [oo 83 (.cmp .eql (.t 4) (ki 30)),om 81 83]))) (.cond (.t 81) (.seq (.reg [oo 84 (.bld [.ff,.ff,.ff,(kz 0),(kz 0),(kz 0),(kz 0),.ff,.ff,.ff,.ff] [(3,1,(ki 2)),(4,1,(ki 1)),(8,1,kt)]),o none (.st (some 11) (.t 2) (.t 84)),oo 3 (.mv kt)]) (.ret)) (.seq (.seq (.reg [oo 86 (.cmp .eql (.t 4) (ki 27)),om 85 86]) (.cond (.t 85) (.skip) (.reg [oo 87 (.cmp .eql (.t 4) (ki 31)),om 85 87]))) (.cond (.t 85) (.seq (.reg [oo 88 (.bld [.ff,.ff,.ff,(kz 0),(kz 0),(kz 0),(kz 0),.ff,.ff,.ff,.ff] [(4,1,(ki 1)),(5,1,(ki 2)),(8,1,kt)]),o none (.st (some 11) (.t 2) (.t 88)),oo 3 (.mv kt)]) (.ret)) (.seq (.reg [oo 90 (.cmp .eql (.t 4) (ki 33)),om 89 90]) (.cond (.t 89) (.seq (.reg [oo 91 (.bld [.ff,.ff,.ff,(kz 0),(kz 0),(kz 0),(kz 0),.ff,.ff,.ff,.ff] [(4,1,(ki 1)),(5,1,(ki 1)),(7,1,kt),(8,1,kt)]),o none (.st (some 11) (.t 2) (.t 91)),oo 3 (.mv kt)]) (.ret)) (.seq (.reg [oo 93 (.cmp .eql (.t 4) (ki 34)),om 92 93]) (.cond (.t 92) (.seq (.reg [oo 94 (.bld [.ff,.ff,.ff,(kz 0),(kz 0),(kz 0),(kz 0),.ff,.ff,.ff,.ff] [(0,1,kt),(3,1,(ki 1)),(4,1,(ki 1)),(5,1,(ki 1)),(6,1,(ki 1)),(8,1,kt)]),o none (.st (some 11) (.t 2) (.t 94)),oo 3 (.mv kt)]) (.ret)) (.seq (.seq (.reg [oo 96 (.cmp .eql (.t 4) (ki 35)),om 95 96]) (.cond (.t 95) (.skip) (.reg [oo 97 (.cmp .eql (.t 4) (ki 42)),om 95 97]))) (.cond (.t 95) (.seq (.reg [oo 98 (.bld [.ff,.ff,.ff,(kz 0),(kz 0),(kz 0),(kz 0),.ff,.ff,.ff,.ff] [(4,1,(ki 1)),(7,1,kt)]),o none (.st (some 11) (.t 2) (.t 98)),oo 3 (.mv kt)]) (.ret)) (.seq (.reg [oo 100 (.cmp .eql (.t 4) (ki 36)),om 99 100]) (.cond (.t 99) (.seq (.reg [oo 101 (.bld [.ff,.ff,.ff,(kz 0),(kz 0),(kz 0),(kz 0),.ff,.ff,.ff,.ff] [(0,1,kt),(3,1,(ki 1))]),o none (.st (some 11) (.t 2) (.t 101)),oo 3 (.mv kt)]) (.ret)) (.seq (.reg [oo 103 (.cmp .eql (.t 4) (ki 37)),om 102 103]) (.cond (.t 102) (.seq (.reg [oo 104 (.bld [.ff,.ff,.ff,(kz 0),(kz 0),(kz 0),(kz 0),.ff,.ff,.ff,.ff] [(4,1,(ki 1)),(7,1,kt),(8,1,kt)]),o none (.st (some 11) (.t 2) (.t 104)),oo 3 (.mv kt)]) (.ret)) (.seq (.reg [oo 106 (.cmp .eql (.t 4) (ki 38)),om 105 106]) (.cond (.t 105) (.seq (.reg [oo 107 (.bld [.ff,.ff,.ff,(kz 0),(kz 0),(kz 0),(kz 0),.ff,.ff,.ff,.ff] [(7,1,kt),(8,1,kt)]),o none (.st (some 11) (.t 2) (.t 107)),oo 3 (.mv kt)]) (.ret)) (.seq (.reg [oo 109 (.cmp .eql (.t 4) (ki 39)),om 108 109]) (.cond (.t 108) (.seq (.reg [oo 110 (.bld [.ff,.ff,.ff,(kz 0),(kz 0),(kz 0),(kz 0),.ff,.ff,.ff,.ff] [(4,1,(ki 1)),(7,1,kt),(8,1,kt),(9,1,kt)]),o none (.st (some 11) (.t 2) (.t 110)),oo 3 (.mv kt)])
 (.ret)) (.seq (.reg [oo 112 (.cmp .eql (.t 4) (ki 40)),om 111 112]) (.cond (.t 111) (.seq (.reg [oo 113 (.bld [.ff,.ff,.ff,(kz 0),(kz 0),(kz 0),(kz 0),.ff,.ff,.ff,.ff] [(7,1,kt),(8,1,kt),(9,1,kt)]),o none (.st (some 11) (.t 2) (.t 113)),oo 3 (.mv kt)]) (.ret)) (.seq (.reg [oo 115 (.cmp .eql (.t 4) (ki 41)),om 114 115]) (.cond (.t 114) (.seq (.reg [oo 116 (.bld [.ff,.ff,.ff,(kz 0),(kz 0),(kz 0),(kz 0),.ff,.ff,.ff,.ff] [(4,1,(ki 1)),(7,1,kt)]),o none (.st (some 11) (.t 2) (.t 116)),oo 3 (.mv kt)]) (.ret)) (.seq (.reg [oo 118 (.cmp .eql (.t 4) (ki 43)),om 117 118]) (.cond (.t 117) (.seq (.reg [oo 119 (.bld [.ff,.ff,.ff,(kz 0),(kz 0),(kz 0),(kz 0),.ff,.ff,.ff,.ff] [(3,1,(ki 1)),(7,1,kt)]),o none (.st (some 11) (.t 2) (.t 119)),oo 3 (.mv kt)]) (.ret)) (.skip))))))))))))))))))))))))))))))))))))))))))))))))))))))))))))))))))))))))) (.seq (.reg [oo 120 (.bld [.ff,.ff,.ff,(kz 0),(kz 0),(kz 0),(kz 0),.ff,.ff,.ff,.ff] []),o none (.st (some 11) (.t 2) (.t 120)),oo 3 (.mv kf)]) (.ret)))
theorem k156 : FnOk Tryz.prog 156 121 c156 [.c 2 (some 11),.t 3] := fk Tryz.func156 ⟨tv,⟨⟨tv,⟨tv,⟨⟨tv,tv⟩,⟨tv,⟨⟨tv,tv⟩,⟨tv,⟨⟨tv,tv⟩,⟨tv,⟨⟨tv,tv⟩,⟨tv,⟨⟨tv,tv⟩,⟨tv,⟨⟨tv,tv⟩,⟨tv,⟨⟨tv,tv⟩,⟨tv,⟨⟨tv,tv⟩,⟨tv,⟨⟨tv,tv⟩,⟨tv,⟨⟨tv,tv⟩,⟨tv,⟨⟨tv,tv⟩,⟨⟨tv,⟨tv,tv⟩⟩,⟨⟨tv,tv⟩,⟨⟨tv,⟨tv,tv⟩⟩,⟨⟨tv,tv⟩,⟨tv,⟨⟨tv,tv⟩,⟨tv,⟨⟨tv,tv⟩,⟨tv,⟨⟨tv,tv⟩,⟨tv,⟨⟨tv,tv⟩,⟨tv,⟨⟨tv,tv⟩,⟨tv,⟨⟨tv,tv⟩,⟨⟨tv,⟨tv,tv⟩⟩,⟨⟨tv,tv⟩,⟨⟨tv,⟨tv,tv⟩⟩,⟨⟨tv,tv⟩,⟨⟨tv,⟨tv,⟨tv,⟨tv,tv⟩⟩⟩⟩,⟨⟨tv,tv⟩,⟨⟨tv,⟨tv,tv⟩⟩,⟨⟨tv,tv⟩,⟨⟨tv,⟨tv,tv⟩⟩,⟨⟨tv,tv⟩,⟨⟨tv,⟨tv,tv⟩⟩,⟨⟨tv,tv⟩,⟨tv,⟨⟨tv,tv⟩,⟨tv,⟨⟨tv,tv⟩,⟨⟨tv,⟨tv,tv⟩⟩,⟨⟨tv,tv⟩,⟨tv,⟨⟨tv,tv⟩,⟨tv,⟨⟨tv,tv⟩,⟨tv,⟨⟨tv,tv⟩,⟨tv,⟨⟨tv,tv⟩,⟨tv,⟨⟨tv,tv⟩,⟨tv,⟨⟨tv,tv⟩,⟨tv,⟨⟨tv,tv⟩,tv⟩⟩⟩⟩⟩⟩⟩⟩⟩⟩⟩⟩⟩⟩⟩⟩⟩⟩⟩⟩⟩⟩⟩⟩⟩⟩⟩⟩⟩⟩⟩⟩⟩⟩⟩⟩⟩⟩⟩⟩⟩⟩⟩⟩⟩⟩⟩⟩⟩⟩⟩⟩⟩⟩⟩⟩⟩⟩⟩⟩⟩⟩⟩⟩⟩⟩⟩⟩⟩⟩⟩,⟨tv,tv⟩⟩⟩
def c127 : MC := .seq (.reg [oo 1 (.box (.t 0)),oo 2 (.alloc [.ff,.ff,.ff,(kz 0),(kz 0),(kz 0),(kz 0),.ff,.ff,.ff,.ff]),oo 3 (.mv kf)]) (.seq (.reg [oo 7 (.fld 0 (.t 1)),oo 8 (.ld none (.t 7)),oo 9 (.call (.k (.fn (.func 156) [] [])) [(.t 8)]),om 6 9,oo 10 (.ext 0 (.t 6)),oo 11 (.ext 1 (.t 6)),oo 4 (.alloc [.ff,.ff,.ff,(kz 0),(kz 0),(kz 0),(kz 0),.ff,.ff,.ff,.ff]),o none (.st (some 11) (.t 4) (.t 10)),om 5 11]) (.seq (.seq (.reg [oo 12 (.fld 0 (.t 1)),oo 13 (.ld none (.t 12)),oo 14 (.cmp .eql (.t 13) (ki 34)),os (some 15) (.mv (.t 14)),og 15 true (some 16) (.fld 1 (.t 1)),og 15 true (some 17) (.ld none (.t 16)),og 15 true (some 18) (.cmp .neq (.t 17) (ki 0)),oo 19 (.pick (.t 15) (.t 18) kf)]) (.cond (.t 19) (.reg [oo 20 (.fld 6 (.t 4)),o none (.st (some 1) (.t 20) (ki 0))]) (.skip))) (.seq (.reg [oo 21 (.ld (some 11) (.t 4)),om 22 5,o none (.st (some 11) (.t 2) (.t 21)),om 3 22]) (.ret))))
theorem k127 : FnOk Tryz.prog 127 23 c127 [.c 2 (some 11),.t 3] := fk Tryz.func127 ⟨tv,⟨tv,⟨⟨tv,⟨tv,tv⟩⟩,⟨tv,tv⟩⟩⟩⟩
def c128 : MC := .seq (.reg [oo 1 (.box (.t 0)),oo 2 (.mv kf)]) (.seq (.seq (.reg [oo 3 (.fld 0 (.t 1)),oo 4 (.ld none (.t 3))]) (.blk 0 (.seq (.seq (.reg [oo 6 (.cmp .eql (.t 4) (ki 3)),om 5 6]) (.cond (.t 5) (.skip) (.reg [oo 7 (.cmp .eql (.t 4) (ki 4)),om 5 7]))) (.cond (.t 5) (.seq (.reg [oo 8 (.fld 1 (.t 1)),oo 9 (.ld none (.t 8)),oo 10 (.call (.k (.fn (.func 157) [] [])) [(.t 9),(ki 1),(ki 19)]),om 2 10]) (.ret)) (.seq (.reg [oo 12 (.cmp .eql (.t 4) (ki 5)),om 11 12]) (.cond (.t 11) (.seq (.reg [oo 13 (.fld 1 (.t 1)),oo 14 (.ld none (.t 13)),oo 15 (.call (.k (.fn (.func 157) [] [])) [(.t 14),(ki 1),(ki 7)]),os (some 16) (.mv (.t 15)),og 16 true (some 17) (.fld 2 (.t 1)),og 16 true (some 18) (.ld none (.t 17)),og 16 true (some 19) (.cmp .neq (.t 18) (ki 128)),oo 20 (.pick (.t 16) (.t 19) kf),os (some 21) (.mv (.t 20)),og 21 true (some 22) (.fld 3 (.t 1)),og 21 true (some 23) (.ld none (.t 22)),og 21 true (some 24) (.cmp .neq (.t 23) (ki 128)),oo 25 (.pick (.t 21) (.t 24) kf),os (some 26) (.mv (.t 25)),og 26 true (some 27) (.fld 1 (.t 1)),og 26 true (some 28) (.ld none (.t 27)),og 26 true (some 29) (.fld 2 (.t 1)),og 26 true (some 30) (.ld none (.t 29)),og 26 true (some 31) (.fld 3 (.t 1)),og 26 true (some 32) (.ld none (.t 31)),og 26 true (some 33) (.call (.k (.fn (.func 158) [] [])) [(.t 28),(.t 30),(.t 32),(ki 0)]),oo 34 (.pick (.t 26) (.t 33) kf),om 2 34]) (.ret)) (.seq (.reg [oo 36 (.cmp .eql (.t 4) (ki 9)),om 35 36]) (.cond (.t 35) (.seq (.reg [oo 37 (.fld 1 (.t 1)),oo 38 (.ld none (.t 37)),oo 39 (.call (.k (.fn (.func 157) [] [])) [(.t 38),(ki 8),(ki 10)]),os (some 40) (.mv (.t 39)),og 40 false (some 41) (.fld 1 (.t 1)),og 40 false (some 42) (.ld none (.t 41)),og 40 false (some 43) (.call (.k (.fn (.func 157) [] [])) [(.t 42),(ki 20),(ki 29)]),oo 44 (.pick (.t 40) kt (.t 43)),om 2 44]) (.ret)) (.seq (.reg [oo 46 (.cmp .eql (.t 4) (ki 10)),om 45 46]) (.cond (.t 45) (.seq (.reg [oo 47 (.fld 1 (.t 1)),oo 48 (.ld none (.t 47)),oo 49 (.cmp .eql (.t 48) (ki 1)),os (some 50) (.mv (.t 49)),og 50 false (some 51) (.fld 1 (.t 1)),og 50 false (some 52) (.ld none (.t 51)),og 50 false (some 53) (.call (.k (.fn (.func 157) [] [])) [(.t 52),(ki 8),(ki 10)]),oo 54 (.pick (.t 50) kt (.t 53)),om 2 54]) (.ret)) (.seq (.reg [oo 56 (.cmp .eql (.t 4) (ki 11)),om 55 56]) (.cond (.t 55) (.seq (.reg [oo 57 (.fld 1 (.t 1)),oo 58 (.ld none (.t 57)),oo 59 (.cmp .eql (.t 58) (ki 14)),os (some 60) (.mv (.t 59)),og 60 false (some 61) (.fld 1 (.t 1)),og 60 false (some 62) (.ld none (.t 61)),og 60 false (some 63) (.cmp .eql (.t 62) (ki 15)),oo 64 (.pick (.t 60) kt (.t 63)),om 2 64]) (.ret)) (.seq (.reg [oo 66 (.cmp .eql (.t 4) (ki 34)),om 65 66]) (.cond (.t 65) (.seq (.reg [oo 67 (.fld 1 (.t 1)),oo 68 (.ld none (.t 67)),oo 69 (.call (.k (.fn (.func 157) [] [])) [(.t 68),(ki 0),(ki 2)]),om 2 69]) (.ret)) (.seq (.reg [oo 71 (.cmp .eql (.t 4) (ki 36)),om 70 71]) (.cond (.t 70) (.seq (.reg [oo 72 (.fld 1 (.t 1)),oo 73 (.ld none (.t 72)),oo 74 (.cmp .eql (.t 73) (ki 1)),os (some 75) (.mv (.t 74)),og 75 false (some 76) (.fld 1 (.t 1)),og 75 false (some 77) (.ld none (.t 76)),og 75 false (some 78) (.cmp .eql (.t 77) (ki 2)),oo 79 (.pick (.t 75) kt (.t 78)),om 2 79])
 (.ret)) (.skip))))))))))))))))) (.seq (.reg [oo 80 (.fld 1 (.t 1)),oo 81 (.ld none (.t 80)),oo 82 (.cmp .eql (.t 81) (ki 0)),om 2 82]) (.ret)))
theorem k128 : FnOk Tryz.prog 128 83 c128 [.t 2] := fk Tryz.func128 ⟨tv,⟨⟨tv,⟨⟨tv,⟨tv,tv⟩⟩,⟨⟨tv,tv⟩,⟨tv,⟨⟨tv,tv⟩,⟨tv,⟨⟨tv,tv⟩,⟨tv,⟨⟨tv,tv⟩,⟨tv,⟨⟨tv,tv⟩,⟨tv,⟨⟨tv,tv⟩,⟨tv,⟨⟨tv,tv⟩,tv⟩⟩⟩⟩⟩⟩⟩⟩⟩⟩⟩⟩⟩⟩⟩,⟨tv,tv⟩⟩⟩
def c129 : MC := .seq (.reg [oo 1 (.box (.t 0)),oo 2 (.mv kf)]) (.seq (.seq (.reg [oo 3 (.fld 0 (.t 1)),oo 4 (.ld none (.t 3))]) (.blk 0 (.seq (.seq (.reg [oo 6 (.cmp .eql (.t 4) (ki 19)),om 5 6]) (.cond (.t 5) (.skip) (.seq (.reg [oo 7 (.cmp .eql (.t 4) (ki 20)),om 5 7]) (.cond (.t 5) (.skip) (.seq (.reg [oo 8 (.cmp .eql (.t 4) (ki 21)),om 5 8]) (.cond (.t 5) (.skip) (.seq (.reg [oo 9 (.cmp .eql (.t 4) (ki 24)),om 5 9]) (.cond (.t 5) (.skip) (.seq (.reg [oo 10 (.cmp .eql (.t 4) (ki 25)),om 5 10]) (.cond (.t 5) (.skip) (.seq (.reg [oo 11 (.cmp .eql (.t 4) (ki 28)),om 5 11]) (.cond (.t 5) (.skip) (.reg [oo 12 (.cmp .eql (.t 4) (ki 29)),om 5 12]))))))))))))) (.cond (.t 5) (.seq (.reg [oo 13 (.fld 3 (.t 1)),oo 14 (.ld none (.t 13)),oo 15 (.call (.k (.fn (.func 159) [] [])) [(.t 14)]),om 2 15]) (.ret)) (.seq (.reg [oo 17 (.cmp .eql (.t 4) (ki 32)),om 16 17]) (.cond (.t 16) (.seq (.reg [oo 18 (.fld 3 (.t 1)),oo 19 (.ld none (.t 18)),oo 20 (.call (.k (.fn (.func 160) [] [])) [(.t 19)]),om 2 20]) (.ret)) (.seq (.reg [oo 22 (.cmp .eql (.t 4) (ki 5)),om 21 22]) (.cond (.t 21) (.seq (.reg [oo 2 (.mv kt)]) (.ret)) (.skip))))))))) (.seq (.reg [oo 23 (.fld 3 (.t 1)),oo 24 (.ld none (.t 23)),oo 25 (.cmp .eql (.t 24) (ki 0)),om 2 25]) (.ret)))
theorem k129 : FnOk Tryz.prog 129 26 c129 [.t 2] := fk Tryz.func129 ⟨tv,⟨⟨tv,⟨⟨tv,⟨tv,⟨tv,⟨tv,⟨tv,⟨tv,⟨tv,⟨tv,⟨tv,⟨tv,⟨tv,⟨tv,tv⟩⟩⟩⟩⟩⟩⟩⟩⟩⟩⟩⟩,⟨⟨tv,tv⟩,⟨tv,⟨⟨tv,tv⟩,⟨tv,⟨⟨tv,tv⟩,tv⟩⟩⟩⟩⟩⟩⟩,⟨tv,tv⟩⟩⟩
def c130 : MC := .seq (.reg [oo 1 (.box (.t 0)),oo 2 (.mv kf)]) (.seq (.seq (.reg [oo 3 (.fld 0 (.t 1)),oo 4 (.ld none (.t 3))]) (.blk 0 (.seq (.seq (.reg [oo 6 (.cmp .eql (.t 4) (ki 15)),om 5 6]) (.cond (.t 5) (.skip) (.reg [oo 7 (.cmp .eql (.t 4) (ki 16)),om 5 7]))) (.cond (.t 5) (.seq (.reg [oo 8 (.fld 8 (.t 1)),oo 9 (.ld none (.t 8)),oo 10 (.call (.k (.fn (.func 157) [] [])) [(.t 9),(ki 0),(ki 3)]),om 2 10]) (.ret)) (.seq (.seq (.reg [oo 12 (.cmp .eql (.t 4) (ki 19)),om 11 12]) (.cond (.t 11) (.skip) (.seq (.reg [oo 13 (.cmp .eql (.t 4) (ki 20)),om 11 13]) (.cond (.t 11) (.skip) (.reg [oo 14 (.cmp .eql (.t 4) (ki 21)),om 11 14]))))) (.cond (.t 11) (.seq (.reg [oo 15 (.fld 8 (.t 1)),oo 16 (.ld none (.t 15)),oo 17 (.fld 3 (.t 1)),oo 18 (.ld none (.t 17)),oo 19 (.call (.k (.fn (.func 161) [] [])) [(.t 16),(.t 18)]),om 2 19]) (.ret)) (.seq (.seq (.reg [oo 21 (.cmp .eql (.t 4) (ki 22)),om 20 21]) (.cond (.t 20) (.skip) (.reg [oo 22 (.cmp .eql (.t 4) (ki 23)),om 20 22]))) (.cond (.t 20) (.seq (.reg [oo 23 (.fld 8 (.t 1)),oo 24 (.ld none (.t 23)),oo 25 (.call (.k (.fn (.func 161) [] [])) [(.t 24),(ki 128)]),om 2 25]) (.ret)) (.seq (.reg [oo 27 (.cmp .eql (.t 4) (ki 33)),om 26 27]) (.cond (.t 26) (.seq (.reg [oo 28 (.fld 8 (.t 1)),oo 29 (.ld none (.t 28)),oo 30 (.call (.k (.fn (.func 157) [] [])) [(.t 29),(ki 1),(ki 16)]),om 2 30]) (.ret)) (.seq (.reg [oo 32 (.cmp .eql (.t 4) (ki 35)),om 31 32]) (.cond (.t 31) (.seq (.reg [oo 33 (.fld 8 (.t 1)),oo 34 (.ld none (.t 33)),oo 35 (.call (.k (.fn (.func 157) [] [])) [(.t 34),(ki 0),(ki 7)]),om 2 35]) (.ret)) (.seq (.reg [oo 37 (.cmp .eql (.t 4) (ki 37)),om 36 37]) (.cond (.t 36) (.seq (.reg [oo 38 (.fld 8 (.t 1)),oo 39 (.ld none (.t 38)),oo 40 (.call (.k (.fn (.func 157) [] [])) [(.t 39),(ki 0),(ki 8)]),os (some 41) (.mv (.t 40)),og 41 true (some 42) (.fld 9 (.t 1)),og 41 true (some 43) (.ld none (.t 42)),og 41 true (some 44) (.cmp .leq (.t 43) (.k (.int .u32 1000000))),oo 45 (.pick (.t 41) (.t 44) kf),om 2 45]) (.ret)) (.seq (.reg [oo 47 (.cmp .eql (.t 4) (ki 38)),om 46 47]) (.cond (.t 46) (.seq (.reg [oo 48 (.fld 8 (.t 1)),oo 49 (.ld none (.t 48)),oo 50 (.cmp .eql (.t 49) (ki 4)),os (some 51) (.mv (.t 50)),og 51 false (some 52) (.fld 8 (.t 1)),og 51 false (some 53) (.ld none (.t 52)),og 51 false (some 54) (.cmp .eql (.t 53) (ki 8)),oo 55 (.pick (.t 51) kt (.t 54)),om 2 55]) (.ret)) (.seq (.seq (.reg [oo 57 (.cmp .eql (.t 4) (ki 39)),om 56 57]) (.cond (.t 56) (.skip) (.seq (.reg [oo 58 (.cmp .eql (.t 4) (ki 40)),om 56 58]) (.cond (.t 56) (.skip) (.reg [oo 59 (.cmp .eql (.t 4) (ki 41)),om 56 59]))))) (.cond (.t 56) (.seq (.reg [oo 60 (.fld 8 (.t 1)),oo 61 (.ld none (.t 60)),oo 62 (.call (.k (.fn (.func 157) [] [])) [(.t 61),(ki 1),(ki 9)]),om 2 62]) (.ret)) (.seq (.seq (.reg [oo 64 (.cmp .eql (.t 4) (ki 42)),om 63 64]) (.cond (.t 63) (.skip) (.reg [oo 65 (.cmp .eql (.t 4) (ki 43)),om 63 65]))) (.cond (.t 63) (.seq (.reg [oo 66 (.fld 8 (.t 1)),oo 67 (.ld none (.t 66)),oo 68 (.call (.k (.fn (.func 157) [] [])) [(.t 67),(ki 0),(ki 511)]),om 2 68])
 (.ret)) (.seq (.seq (.reg [oo 70 (.cmp .eql (.t 4) (ki 44)),om 69 70]) (.cond (.t 69) (.skip) (.reg [oo 71 (.cmp .eql (.t 4) (ki 45)),om 69 71]))) (.cond (.t 69) (.seq (.reg [oo 72 (.fld 8 (.t 1)),oo 73 (.ld none (.t 72)),oo 74 (.call (.k (.fn (.func 157) [] [])) [(.t 73),(ki 0),(ki 508)]),os (some 75) (.mv (.t 74)),og 75 true (some 76) (.fld 8 (.t 1)),og 75 true (some 77) (.ld none (.t 76)),og 75 true (some 78) (.ar .rem (.t 77) (ki 4)),og 75 true (some 79) (.cmp .eql (.t 78) (ki 0)),oo 80 (.pick (.t 75) (.t 79) kf),om 2 80]) (.ret)) (.skip))))))))))))))))))))))) (.seq (.reg [oo 81 (.fld 8 (.t 1)),oo 82 (.ld none (.t 81)),oo 83 (.cmp .eql (.t 82) (ki 0)),om 2 83]) (.ret)))
theorem k130 : FnOk Tryz.prog 130 84 c130 [.t 2] := fk Tryz.func130 ⟨tv,⟨⟨tv,⟨⟨tv,⟨tv,tv⟩⟩,⟨⟨tv,tv⟩,⟨⟨tv,⟨tv,⟨tv,⟨tv,tv⟩⟩⟩⟩,⟨⟨tv,tv⟩,⟨⟨tv,⟨tv,tv⟩⟩,⟨⟨tv,tv⟩,⟨tv,⟨⟨tv,tv⟩,⟨tv,⟨⟨tv,tv⟩,⟨tv,⟨⟨tv,tv⟩,⟨tv,⟨⟨tv,tv⟩,⟨⟨tv,⟨tv,⟨tv,⟨tv,tv⟩⟩⟩⟩,⟨⟨tv,tv⟩,⟨⟨tv,⟨tv,tv⟩⟩,⟨⟨tv,tv⟩,⟨⟨tv,⟨tv,tv⟩⟩,⟨⟨tv,tv⟩,tv⟩⟩⟩⟩⟩⟩⟩⟩⟩⟩⟩⟩⟩⟩⟩⟩⟩⟩⟩⟩⟩,⟨tv,tv⟩⟩⟩
def c79 : MC := .seq (.reg [oo 3 (.box (.t 0)),oo 6 (.mv kf)]) (.seq (.reg [oo 10 (.ld (some 15) (.t 3)),oo 11 (.call (.k (.fn (.func 127) [] [])) [(.t 10)]),om 9 11,oo 12 (.ext 0 (.t 9)),oo 13 (.ext 1 (.t 9)),oo 7 (.alloc [.ff,.ff,.ff,(kz 0),(kz 0),(kz 0),(kz 0),.ff,.ff,.ff,.ff]),o none (.st (some 11) (.t 7) (.t 12)),om 8 13]) (.seq (.seq (.reg [om 14 8,oo 15 (.not (.t 14)),os (some 16) (.mv (.t 15)),og 16 false (some 17) (.ld (some 15) (.t 3)),og 16 false (some 18) (.call (.k (.fn (.func 128) [] [])) [(.t 17)]),og 16 false (some 19) (.not (.t 18)),oo 20 (.pick (.t 16) kt (.t 19)),os (some 21) (.mv (.t 20)),og 21 false (some 22) (.ld (some 15) (.t 3)),og 21 false (some 23) (.call (.k (.fn (.func 129) [] [])) [(.t 22)]),og 21 false (some 24) (.not (.t 23)),oo 25 (.pick (.t 21) kt (.t 24)),os (some 26) (.mv (.t 25)),og 26 false (some 27) (.ld (some 15) (.t 3)),og 26 false (some 28) (.call (.k (.fn (.func 130) [] [])) [(.t 27)]),og 26 false (some 29) (.not (.t 28)),oo 30 (.pick (.t 26) kt (.t 29))]) (.cond (.t 30) (.seq (.reg [oo 6 (.mv kf)]) (.ret)) (.skip))) (.seq (.seq (.reg [oo 31 (.fld 1 (.t 7)),oo 32 (.ld none (.t 31)),oo 33 (.not (.t 32)),os (some 34) (.mv (.t 33)),og 34 true (some 35) (.fld 2 (.t 3)),og 34 true (some 36) (.ld none (.t 35)),og 34 true (some 37) (.cmp .neq (.t 36) (ki 0)),oo 38 (.pick (.t 34) (.t 37) kf),os (some 39) (.mv (.t 38)),og 39 false (some 40) (.fld 8 (.t 7)),og 39 false (some 41) (.ld none (.t 40)),og 39 false (some 42) (.not (.t 41)),ogs 39 false (some 43) (.mv (.t 42)),og 43 true (some 44) (.fld 9 (.t 3)),og 43 true (some 45) (.ld none (.t 44)),og 43 true (some 46) (.cmp .neq (.t 45) (.k (.int .u32 0))),og 39 false (some 47) (.pick (.t 43) (.t 46) kf),oo 48 (.pick (.t 39) kt (.t 47)),os (some 49) (.mv (.t 48)),og 49 false (some 50) (.fld 9 (.t 7)),og 49 false (some 51) (.ld none (.t 50)),og 49 false (some 52) (.not (.t 51)),ogs 49 false (some 53) (.mv (.t 52)),og 53 true (some 54) (.fld 10 (.t 3)),og 53 true (some 55) (.ld none (.t 54)),og 53 true (some 56) (.cmp .neq (.t 55) (.k (.int .u32 0))),og 49 false (some 57) (.pick (.t 53) (.t 56) kf),oo 58 (.pick (.t 49) kt (.t 57)),os (some 59) (.mv (.t 58)),og 59 false (some 60) (.fld 10 (.t 7)),og 59 false (some 61) (.ld none (.t 60)),og 59 false (some 62) (.not (.t 61)),ogs 59 false (some 63) (.mv (.t 62)),og 63 true (some 64) (.fld 11 (.t 3)),og 63 true (some 65) (.ld (some 4) (.t 64)),og 63 true (some 66) (.bld [(.int .u32 0),(.int .u32 0),(.int .u32 0),(.int .u32 0)] []),og 63 true (some 67) (.eqs [.int .u32,.int .u32,.int .u32,.int .u32] true (.t 65) (.t 66)),og 59 false (some 68) (.pick (.t 63) (.t 67) kf),oo 69 (.pick (.t 59) kt (.t 68))]) (.cond (.t 69) (.seq (.reg [oo 6 (.mv kf)]) (.ret)) (.skip))) (.seq (.reg [oo 70 (.fld 4 (.t 3)),oo 71 (.ld none (.t 70)),oo 72 (.fld 3 (.t 7)),oo 73 (.ld none (.t 72)),om 74 1,om 75 2,oo 76 (.call (.k (.fn (.func 131) [] [])) [(.t 71),(.t 73),(.t 74),(.t 75)]),os (some 77) (.mv (.t 76)),og 77 true (some 78) (.fld 5 (.t 3)),og 77 true (some 79) (.ld none (.t 78)),og 77 true (some 80) (.fld 4 (.t 7)),og 77 true (some 81) (.ld none (.t 80)),og 77 true (some 82) (.mv (.t 1)),og 77 true (some 83) (.mv (.t 2)),og 77 true (some 84) (.call (.k (.fn (.func 131) [] [])) [(.t 79),(.t 81),(.t 82),(.t 83)]),oo 85 (.pick (.t 77) (.t 84) kf),os (some 86) (.mv (.t 85)),og 86 true (some 87) (.fld 6 (.t 3)),og 86 true (some 88) (.ld none (.t 87)),og 86 true (some 89) (.fld 5 (.t 7)),og 86 true (some 90) (.ld none (.t 89)),og 86 true (some 91) (.mv (.t 1)),og 86 true (some 92) (.mv (.t 2)),og 86 true (some 93) (.call (.k (.fn (.func 131) [] [])) [(.t 88),(.t 90),(.t 91),(.t 92)]),oo 94 (.pick (.t 86) (.t 93) kf),os (some 95) (.mv (.t 94)),og 95 true (some 96) (.fld 7 (.t 3)),og 95 true (some 97) (.ld none (.t 96)),og 95 true (some 98) (.fld 6 (.t 7)),og 95 true (some 99) (.ld none (.t 98)),og 95 true (some 100) (.mv (.t 1)),og 95 true (some 101) (.mv (.t 2)),og 95 true (some 102) (.call (.k (.fn (.func 131) [] [])) [(.t 97),(.t 99),(.t 100),(.t 101)]),oo 103 (.pick (.t 95) (.t 102) kf),om 6 103])
 (.ret)))))
theorem k79 : FnOk Tryz.prog 79 104 c79 [.t 6] := fk Tryz.func79 ⟨tv,⟨tv,⟨⟨tv,⟨⟨tv,tv⟩,tv⟩⟩,⟨⟨tv,⟨⟨tv,tv⟩,tv⟩⟩,⟨tv,tv⟩⟩⟩⟩⟩
def c32 : MC := .seq (.reg [oo 1 (.box (.t 0)),oo 2 (.mv kf)]) (.seq (.reg [oo 4 (.ld (some 15) (.t 1)),oo 3 (.alloc [(kz 0),(kz 0),(kz 0),(kz 0),(kz 0),(kz 0),(kz 0),(kz 0),(kz 0),(.int .u32 0),(.int .u32 0),(.int .u32 0),(.int .u32 0),(.int .u32 0),(.int .u32 0)]),o none (.st (some 15) (.t 3) (.t 4))]) (.seq (.reg [oo 5 (.fld 4 (.t 1)),oo 6 (.ld none (.t 5)),oo 7 (.mm false (.t 6) [(ki 4611686018427387903)]),oo 8 (.fld 4 (.t 3)),o none (.st (some 1) (.t 8) (.t 7))]) (.seq (.reg [oo 9 (.fld 5 (.t 1)),oo 10 (.ld none (.t 9)),oo 11 (.mm false (.t 10) [(ki 4611686018427387903)]),oo 12 (.fld 5 (.t 3)),o none (.st (some 1) (.t 12) (.t 11))]) (.seq (.reg [oo 13 (.fld 6 (.t 1)),oo 14 (.ld none (.t 13)),oo 15 (.mm false (.t 14) [(ki 4611686018427387903)]),oo 16 (.fld 6 (.t 3)),o none (.st (some 1) (.t 16) (.t 15))]) (.seq (.reg [oo 17 (.fld 7 (.t 1)),oo 18 (.ld none (.t 17)),oo 19 (.mm false (.t 18) [(ki 4611686018427387903)]),oo 20 (.fld 7 (.t 3)),o none (.st (some 1) (.t 20) (.t 19))]) (.seq (.reg [oo 21 (.ld (some 15) (.t 3)),oo 22 (.call (.k (.fn (.func 79) [] [])) [(.t 21),(ki 4611686018427387904),(ki 4611686018427387904)]),om 2 22]) (.ret)))))))
theorem k32 : FnOk Tryz.prog 32 23 c32 [.t 2] := fk Tryz.func32 ⟨tv,⟨tv,⟨tv,⟨tv,⟨tv,⟨tv,⟨tv,tv⟩⟩⟩⟩⟩⟩⟩
abbrev bigW : Int := 4611686018427387904
noncomputable def L156e  : LSpec := ⟨[kz 40], [], [], [], .tup [.agg [.ff, .ff, .ff, kz 0, kz 0, kz 0, kz 0, .tt, .tt, .tt, .ff], .tt]⟩
set_option maxHeartbeats 4000000 in
theorem s156e  : LSpec.ok Tryz.prog GG 156 (L156e ) := by
 refine fn_spec mix k156 _ rfl rfl (Tab.ok (l := []) trivial) noL noJ ?_
 repeat' ((conv => whnf); first
  | exact trivial
  | with_reducible first | refine aj ?_ | refine ai rfl ?_ | refine ai ⟨rfl, rfl⟩ ?_
  | ((with_reducible refine ai ?_ ?_); focus exact w3)
  | with_reducible first | refine And.intro ?_ ?_ | refine asL_mk ?_ | refine exI (i64_in (by omega) (by omega)) ?_
  | refine exI (x := ULift.up _) (Eq.refl _) ?_
  | refine exI (x := ULift.up _) ⟨rfl, by omega, Eq.refl _⟩ ?_
  | exact nx
  | ((with_reducible intro h); try dsimp only at h))
 all_goals (refine Sd.mk ?_)
 all_goals first
  | rfl
  | decide
noncomputable def S156e : SFn := fun _ q => q L156e
theorem t156e : FnS Tryz.prog GG 156 S156e := fun _ _ _ _ _ _ _ _ hr => ⟨L156e, _, s156e, hr⟩
noncomputable def L127e  : LSpec := ⟨[.agg endI.cells], [], [], [], .tup [.agg [.ff, .ff, .ff, kz 0, kz 0, kz 0, kz 0, .tt, .tt, .tt, .ff], .tt]⟩
set_option maxHeartbeats 4000000 in
theorem s127e  : LSpec.ok Tryz.prog GG 127 (L127e ) := by
 refine fn_spec mix k127 _ rfl rfl (Tab.ok (l := [(156, S156e)]) ⟨t156e, trivial⟩) noL noJ ?_
 repeat' ((conv => whnf); first
  | exact trivial
  | with_reducible first | refine aj ?_ | refine ai rfl ?_ | refine ai ⟨rfl, rfl⟩ ?_
  | ((with_reducible refine ai ?_ ?_); focus exact w3)
  | with_reducible first | refine And.intro ?_ ?_ | refine asL_mk ?_ | refine exI (i64_in (by omega) (by omega)) ?_
  | refine exI (x := ULift.up _) (Eq.refl _) ?_
  | refine exI (x := ULift.up _) ⟨rfl, by omega, Eq.refl _⟩ ?_
  | exact nx
  | ((with_reducible intro h); try dsimp only at h))
 all_goals (refine Sd.mk ?_)
 all_goals first
  | rfl
  | decide
noncomputable def S127e : SFn := fun _ q => q L127e
theorem t127e : FnS Tryz.prog GG 127 S127e := fun _ _ _ _ _ _ _ _ hr => ⟨L127e, _, s127e, hr⟩
noncomputable def L128e  : LSpec := ⟨[.agg endI.cells], [], [], [], .tt⟩
set_option maxHeartbeats 4000000 in
theorem s128e  : LSpec.ok Tryz.prog GG 128 (L128e ) := by
 refine fn_spec mix k128 _ rfl rfl (Tab.ok (l := [(157, S157)]) ⟨t157, trivial⟩) noL noJ ?_
 repeat' ((conv => whnf); first
  | exact trivial
  | with_reducible first | refine aj ?_ | refine ai rfl ?_ | refine ai ⟨rfl, rfl⟩ ?_
  | ((with_reducible refine ai ?_ ?_); focus exact w3)
  | with_reducible first | refine And.intro ?_ ?_ | refine asL_mk ?_ | refine exI (i64_in (by omega) (by omega)) ?_
  | refine exI (x := ULift.up _) (Eq.refl _) ?_
  | refine exI (x := ULift.up _) ⟨rfl, by omega, Eq.refl _⟩ ?_
  | exact nx
  | ((with_reducible intro h); try dsimp only at h))
 all_goals (refine Sd.mk ?_)
 all_goals first
  | rfl
  | decide
noncomputable def S128e : SFn := fun _ q => q L128e
theorem t128e : FnS Tryz.prog GG 128 S128e := fun _ _ _ _ _ _ _ _ hr => ⟨L128e, _, s128e, hr⟩
noncomputable def L129e  : LSpec := ⟨[.agg endI.cells], [], [], [], .tt⟩
set_option maxHeartbeats 4000000 in
theorem s129e  : LSpec.ok Tryz.prog GG 129 (L129e ) := by
 refine fn_spec mix k129 _ rfl rfl (Tab.ok (l := [(159, S159)]) ⟨t159, trivial⟩) noL noJ ?_
 repeat' ((conv => whnf); first
  | exact trivial
  | with_reducible first | refine aj ?_ | refine ai rfl ?_ | refine ai ⟨rfl, rfl⟩ ?_
  | ((with_reducible refine ai ?_ ?_); focus exact w3)
  | with_reducible first | refine And.intro ?_ ?_ | refine asL_mk ?_ | refine exI (i64_in (by omega) (by omega)) ?_
  | refine exI (x := ULift.up _) (Eq.refl _) ?_
  | refine exI (x := ULift.up _) ⟨rfl, by omega, Eq.refl _⟩ ?_
  | exact nx
  | ((with_reducible intro h); try dsimp only at h))
 all_goals (refine Sd.mk ?_)
 all_goals first
  | rfl
  | decide
noncomputable def S129e : SFn := fun _ q => q L129e
theorem t129e : FnS Tryz.prog GG 129 S129e := fun _ _ _ _ _ _ _ _ hr => ⟨L129e, _, s129e, hr⟩
noncomputable def L130e  : LSpec := ⟨[.agg endI.cells], [], [], [], .tt⟩
set_option maxHeartbeats 4000000 in
theorem s130e  : LSpec.ok Tryz.prog GG 130 (L130e ) := by
 refine fn_spec mix k130 _ rfl rfl (Tab.ok (l := [(157, S157)]) ⟨t157, trivial⟩) noL noJ ?_
 repeat' ((conv => whnf); first
  | exact trivial
  | with_reducible first | refine aj ?_ | refine ai rfl ?_ | refine ai ⟨rfl, rfl⟩ ?_
  | ((with_reducible refine ai ?_ ?_); focus exact w3)
  | with_reducible first | refine And.intro ?_ ?_ | refine asL_mk ?_ | refine exI (i64_in (by omega) (by omega)) ?_
  | refine exI (x := ULift.up _) (Eq.refl _) ?_
  | refine exI (x := ULift.up _) ⟨rfl, by omega, Eq.refl _⟩ ?_
  | exact nx
  | ((with_reducible intro h); try dsimp only at h))
 all_goals (refine Sd.mk ?_)
 all_goals first
  | rfl
  | decide
noncomputable def S130e : SFn := fun _ q => q L130e
theorem t130e : FnS Tryz.prog GG 130 S130e := fun _ _ _ _ _ _ _ _ hr => ⟨L130e, _, s130e, hr⟩
noncomputable def L79e  : LSpec := ⟨[.agg endI.cells, kz bigW, kz bigW], [], [], [], .tt⟩
set_option maxHeartbeats 4000000 in
theorem s79e  : LSpec.ok Tryz.prog GG 79 (L79e ) := by
 refine fn_spec mix k79 _ rfl rfl (Tab.ok (l := [(127, S127e), (128, S128e), (129, S129e), (130, S130e), (131, S131)]) ⟨t127e, t128e, t129e, t130e, t131, trivial⟩) noL noJ ?_
 repeat' ((conv => whnf); first
  | exact trivial
  | with_reducible first | refine aj ?_ | refine ai rfl ?_ | refine ai ⟨rfl, rfl⟩ ?_
  | ((with_reducible refine ai ?_ ?_); focus exact w3)
  | with_reducible first | refine And.intro ?_ ?_ | refine asL_mk ?_ | refine exI (i64_in (by omega) (by omega)) ?_
  | refine exI (x := ULift.up _) (Eq.refl _) ?_
  | refine exI (x := ULift.up _) ⟨rfl, by omega, Eq.refl _⟩ ?_
  | exact nx
  | ((with_reducible intro h); try dsimp only at h))
 all_goals (refine Sd.mk ?_)
 all_goals first
  | rfl
  | decide
noncomputable def S79e : SFn := fun _ q => q L79e
theorem t79e : FnS Tryz.prog GG 79 S79e := fun _ _ _ _ _ _ _ _ hr => ⟨L79e, _, s79e, hr⟩
noncomputable def L32e  : LSpec := ⟨[.agg endI.cells], [], [], [], .tt⟩
set_option maxHeartbeats 4000000 in
theorem s32e  : LSpec.ok Tryz.prog GG 32 (L32e ) := by
 refine fn_spec mix k32 _ rfl rfl (Tab.ok (l := [(79, S79e)]) ⟨t79e, trivial⟩) noL noJ ?_
 repeat' ((conv => whnf); first
  | exact trivial
  | with_reducible first | refine aj ?_ | refine ai rfl ?_ | refine ai ⟨rfl, rfl⟩ ?_
  | ((with_reducible refine ai ?_ ?_); focus exact w3)
  | with_reducible first | refine And.intro ?_ ?_ | refine asL_mk ?_ | refine exI (i64_in (by omega) (by omega)) ?_
  | refine exI (x := ULift.up _) (Eq.refl _) ?_
  | refine exI (x := ULift.up _) ⟨rfl, by omega, Eq.refl _⟩ ?_
  | exact nx
  | ((with_reducible intro h); try dsimp only at h))
 all_goals (refine Sd.mk ?_)
 all_goals first
  | rfl
  | decide
noncomputable def S32e : SFn := fun _ q => q L32e
theorem t32e : FnS Tryz.prog GG 32 S32e := fun _ _ _ _ _ _ _ _ hr => ⟨L32e, _, s32e, hr⟩
end Go.Proofs.YtlahifihaeafbaaGreatDoor
namespace Go.Proofs.YtlahifihaeafbaaGreatDoor
open Go Go.Sx
def L31v (x : Value) : LSpec := ⟨[.val x], [], [], [.vec 15 []], .slc 0 0 0⟩
theorem s31s (a : Addr) (c : Nat) : LSpec.ok Tryz.prog GG 31 (L31v (.slice (some a) 0 c)) := by
 refine fn_spec mix k31 _ rfl rfl (Tab.ok (l := []) trivial) noL noJ ?_
 repeat' ((conv => whnf); first
  | exact trivial
  | with_reducible first | refine aj ?_ | refine ai rfl ?_ | refine ai ⟨rfl, rfl⟩ ?_
  | ((with_reducible refine ai ?_ ?_); focus exact w3)
  | with_reducible first | refine And.intro ?_ ?_ | refine asL_mk ?_ | refine exI (i64_in (by omega) (by omega)) ?_
  | refine exI (x := ULift.up _) (Eq.refl _) ?_
  | refine exI (x := ULift.up _) ⟨rfl, by omega, Eq.refl _⟩ ?_
  | exact nx
  | ((with_reducible intro h); try dsimp only at h))
 all_goals (refine Sd.mk ?_)
 all_goals first
  | rfl
  | simp [Rows.len]
theorem s31z  : LSpec.ok Tryz.prog GG 31 (L31v (.slice none 0 0)) := by
 refine fn_spec mix k31 _ rfl rfl (Tab.ok (l := []) trivial) noL noJ ?_
 repeat' ((conv => whnf); first
  | exact trivial
  | with_reducible first | refine aj ?_ | refine ai rfl ?_ | refine ai ⟨rfl, rfl⟩ ?_
  | ((with_reducible refine ai ?_ ?_); focus exact w3)
  | with_reducible first | refine And.intro ?_ ?_ | refine asL_mk ?_ | refine exI (i64_in (by omega) (by omega)) ?_
  | refine exI (x := ULift.up _) (Eq.refl _) ?_
  | refine exI (x := ULift.up _) ⟨rfl, by omega, Eq.refl _⟩ ?_
  | exact nx
  | ((with_reducible intro h); try dsimp only at h))
 all_goals (refine Sd.mk ?_)
 all_goals first
  | rfl
  | simp [Rows.len]
theorem s31e : LSpec.ok Tryz.prog GG 31 (L31 []) := by
 refine ⟨s31z.1, rfl, fun β own S w vs q1 q2 q3 q4 => ?_⟩
 have q3' := q3
 simp only [L31, relL, rel, relP, List.map_nil, List.length_nil] at q3'
 obtain ⟨v, r, e, ⟨a, cap, rfl, _, _, hz⟩, h0⟩ := q3'
 cases a with
 | none =>
   obtain rfl := hz rfl
   exact s31z.2.2 β own S w vs q1 q2 (by simp only [L31v, relL, rel]; exact ⟨_, r, e, rfl, h0⟩) q4
 | some a => exact (s31s a cap).2.2 β own S w vs q1 q2 (by simp only [L31v, relL, rel]; exact ⟨_, r, e, rfl, h0⟩) q4
theorem s31g (l : List HI) (hp : l.length ≤ 1000000) : LSpec.ok Tryz.prog GG 31 (L31 l) := by
 by_cases h : l = []
 . subst h; exact s31e
 . exact s31 l ⟨h, hp⟩
end Go.Proofs.YtlahifihaeafbaaGreatDoor
namespace Go.Proofs.YtlahifihaeafbaaGreatDoor
open Go Go.Sx
def c9 : MC := .seq (.reg [oo 7 (.box (.t 1)),oo 12 (.mv kf)]) (.seq (.seq (.reg [oo 27 (.call (.k (.fn (.func 14) [] [])) []),oo 28 (.not (.t 27))]) (.cond (.t 28) (.seq (.reg [oo 12 (.mv kf)]) (.ret)) (.skip))) (.seq (.seq (.reg [om 29 0,oo 30 (.lenS (.t 29)),oo 31 (.cmp .gtr (.t 30) (ki 150)),os (some 32) (.mv (.t 31)),og 32 false (some 33) (.ld (some 2) (.t 7)),og 32 false (some 34) (.call (.k (.fn (.func 23) [] [])) [(.t 33)]),og 32 false (some 35) (.not (.t 34)),oo 36 (.pick (.t 32) kt (.t 35))]) (.cond (.t 36) (.seq (.reg [oo 12 (.mv kt)]) (.ret)) (.skip))) (.seq (.seq (.reg [om 38 0,oo 39 (.ld (some 2) (.t 7)),om 40 2,om 41 3,oo 42 (.call (.k (.fn (.func 24) [] [])) [(.t 38),(.t 39),(.t 40),(.t 41)]),om 37 42,oo 43 (.ext 0 (.t 37)),oo 44 (.ext 1 (.t 37)),om 13 43,om 14 44]) (.seq (.reg [om 45 14,oo 46 (.cmp .eql (.t 45) (ki 0))]) (.cond (.t 46) (.seq (.reg [om 47 2,om 48 4,oo 49 (.cv .u64 (.t 48)),oo 50 (.ar .rem (.t 49) (.k (.int .u64 13))),oo 51 (.cv .i64 (.t 50)),oo 52 (.ar .add (.t 47) (.t 51)),om 53 3,om 54 4,oo 55 (.cv .u64 (.t 54)),oo 56 (.ar .rem (.t 55) (.k (.int .u64 7))),oo 57 (.cv .i64 (.t 56)),oo 58 (.ar .add (.t 53) (.t 57)),om 15 52,om 16 58]) (.seq (.reg [om 60 0,oo 61 (.ld (some 2) (.t 7)),om 62 15,oo 63 (.mm false (.t 62) [(ki 12)]),om 64 16,oo 65 (.mm false (.t 64) [(ki 6)]),oo 66 (.call (.k (.fn (.func 24) [] [])) [(.t 60),(.t 61),(.t 63),(.t 65)]),om 59 66,oo 67 (.ext 0 (.t 59)),oo 68 (.ext 1 (.t 59)),om 17 67,om 18 68]) (.seq (.reg [om 69 18,oo 70 (.cmp .neq (.t 69) (ki 0))]) (.cond (.t 70) (.seq (.reg [oo 12 (.mv kf)]) (.ret)) (.skip))))) (.skip)))) (.seq (.reg [om 72 0,oo 73 (.call (.k (.fn (.func 21) [] [])) [(.t 72)]),om 71 73,oo 74 (.ext 0 (.t 71)),oo 75 (.ext 1 (.t 71)),oo 76 (.ext 2 (.t 71)),om 19 74,om 20 75,om 21 76]) (.seq (.seq (.reg [om 77 21,oo 78 (.cmp .neq (.t 77) (ki 0))]) (.cond (.t 78) (.seq (.reg [oo 12 (.mv kt)]) (.ret)) (.skip))) (.seq (.reg [om 79 5,oo 80 (.cv .u64 (.t 79)),om 81 0,oo 82 (.lenS (.t 81)),oo 83 (.cv .u64 (.t 82)),oo 84 (.ar .rem (.t 80) (.t 83)),oo 85 (.cv .i64 (.t 84)),om 22 85]) (.seq (.reg [om 86 0,om 87 22,oo 88 (.sls 15 (.t 86) none (some (.t 87))),oo 89 (.call (.k (.fn (.func 31) [] [])) [(.t 88)]),oo 90 (.bld [(kz 0),(kz 0),(kz 0),(kz 0),(kz 0),(kz 0),(kz 0),(kz 0),(kz 0),(.int .u32 0),(.int .u32 0),(.int .u32 0),(.int .u32 0),(.int .u32 0),(.int .u32 0)] [(0,1,(ki 40)),(8,1,(ki 1))]),oo 91 (.bsl 15 1 [(kz 0),(kz 0),(kz 0),(kz 0),(kz 0),(kz 0),(kz 0),(kz 0),(kz 0),(.int .u32 0),(.int .u32 0),(.int .u32 0),(.int .u32 0),(.int .u32 0),(.int .u32 0)] [(0,(.t 90))]),oo 92 (.app 15 96 (.t 89) (.t 91)),om 23 92]) (.seq (.reg [om 94 23,oo 95 (.call (.k (.fn (.func 21) [] [])) [(.t 94)]),om 93 95,oo 96 (.ext 0 (.t 93)),oo 97 (.ext 1 (.t 93)),oo 98 (.ext 2 (.t 93)),om 24 96,om 25 97,om 26 98]) (.seq (.reg [om 99 26,oo 100 (.cmp .eql (.t 99) (ki 0)),os (some 101) (.mv (.t 100)),og 101 true (some 102) (.mv (.t 24)),og 101 true (some 103) (.mv (.t 19)),og 101 true (some 104) (.cmp .leq (.t 102) (.t 103)),oo 105 (.pick (.t 101) (.t 104) kf),os (some 106) (.mv (.t 105)),og 106 true (some 107) (.mv (.t 25)),og 106 true (some 108) (.mv (.t 20)),og 106 true (some 109) (.cmp .leq (.t 107) (.t 108)),oo 110 (.pick (.t 106) (.t 109) kf),os (some 111) (.mv (.t 110)),og 111 true (some 112) (.mv (.t 23)),og 111 true (some 113) (.mv (.t 22)),og 111 true (some 114) (.ixa 15 (.t 112) (.t 113)),og 111 true (some 115) (.ld (some 15) (.t 114)),og 111 true (some 116) (.call (.k (.fn (.func 32) [] [])) [(.t 115)]),oo 117 (.pick (.t 111) (.t 116) kf),om 12 117])
 (.ret))))))))))
theorem k9 : FnOk Tryz.prog 9 118 c9 [.t 12] := fk Tryz.func9 ⟨tv,⟨⟨tv,⟨⟨tv,tv⟩,tv⟩⟩,⟨⟨tv,⟨⟨tv,tv⟩,tv⟩⟩,⟨⟨tv,⟨tv,⟨⟨tv,⟨tv,⟨tv,⟨⟨tv,tv⟩,tv⟩⟩⟩⟩,tv⟩⟩⟩,⟨tv,⟨⟨tv,⟨⟨tv,tv⟩,tv⟩⟩,⟨tv,⟨tv,⟨tv,⟨tv,tv⟩⟩⟩⟩⟩⟩⟩⟩⟩⟩
attribute [local irreducible] checkA needsF pressF acceptF
theorem tm9 {n q : Int} (h : 0 ≤ n) (hq : 0 < q) : 0 ≤ n.tmod q ∧ n.tmod q < q := by
 rw [Int.tmod_eq_emod_of_nonneg h]
 exact ⟨Int.emod_nonneg _ (by omega), Int.emod_lt_of_pos _ hq⟩
theorem uw9 (k : Int) : 0 ≤ IntKind.u64.wrap k := by
 have : IntKind.u64.wrap k = k % 18446744073709551616 := rfl
 rw [this]; exact Int.emod_nonneg _ (by decide)
abbrev mq (k q : Int) : Int := (IntKind.u64.wrap k).tmod q
theorem mq_b (k : Int) {q : Int} (hq : 0 < q) : 0 ≤ mq k q ∧ mq k q < q := tm9 (uw9 k) hq
theorem m13 (k : Int) : (ULift.up (mq k 13) : ULift.{1} Int).down = IntKind.i64.wrap (mq k 13) := by
 have := mq_b k (show (0 : Int) < 13 by decide)
 exact i64_in (by omega) (by omega)
theorem m7 (k : Int) : (ULift.up (mq k 7) : ULift.{1} Int).down = IntKind.i64.wrap (mq k 7) := by
 have := mq_b k (show (0 : Int) < 7 by decide)
 exact i64_in (by omega) (by omega)
theorem acc_bd {l : List HI} {a : AL} {w v : Int} (h : (acceptF l a w v).2 = 0) : 3 ≤ w ∧ w ≤ 12 ∧ 2 ≤ v ∧ v ≤ 6 := (args_iff.1 (acc_zero h).1).2
theorem w13 {l : List HI} {a : AL} {w v : Int} (k : Int) (h : (acceptF l a w v).2 = 0) : (ULift.up (w + mq k 13) : ULift.{1} Int).down = IntKind.i64.wrap (w + mq k 13) := by
 have := mq_b k (show (0 : Int) < 13 by decide)
 have := acc_bd h
 exact i64_in (by omega) (by omega)
theorem v7 {l : List HI} {a : AL} {w v : Int} (k : Int) (h : (acceptF l a w v).2 = 0) : (ULift.up (v + mq k 7) : ULift.{1} Int).down = IntKind.i64.wrap (v + mq k 7) := by
 have := mq_b k (show (0 : Int) < 7 by decide)
 have := acc_bd h
 exact i64_in (by omega) (by omega)
theorem acc9 {l : List HI} {a : AL} {w v w' v' : Int} (k : Int) (h : (acceptF l a w v).2 = 0) (hw : w' = min (w + mq k 13) 12) (hv : v' = min (v + mq k 7) 6) : (acceptF l a w' v').2 = 0 := by
 have h1 := mq_b k (show (0 : Int) < 13 by decide)
 have h2 := mq_b k (show (0 : Int) < 7 by decide)
 have := acc_bd h
 rw [acc_more h (w' := w') (v' := v') (by omega) (by omega) (by omega) (by omega)]
theorem short9 {a : AL} (h : shortF a = true) : a.L.length ≤ 1000000 ∧ a.fr.length ≤ 1000000 := by
 unfold shortF at h
 split at h
 . simp only [decide_eq_true_eq] at h; omega
 . cases h
theorem pr0 {l : List HI} (h : ¬ ¬ (pressF l).2.2 = 0) : checkA l = 0 := by
 unfold pressF at h
 split at h
 . next c => exact absurd (by decide) h
 . next c => exact Classical.not_not.1 c
theorem len9 {l : List HI} (h : ¬ ¬ (pressF l).2.2 = 0) : 1 ≤ l.length ∧ l.length ≤ 4000 := by
 have h := pr0 h
 unfold checkA codeA at h
 split at h
 . next q => simp at q; omega
 . exact absurd h (by decide)
abbrev kn (l : List HI) (n : Int) : Int := mq n l.length
theorem kn_b {l : List HI} (n : Int) (h : ¬ ¬ (pressF l).2.2 = 0) : 0 ≤ kn l n ∧ kn l n < l.length := mq_b n (by have := len9 h; omega)
theorem lw9 {l : List HI} (h : ¬ ¬ (pressF l).2.2 = 0) : (ULift.up (l.length : Int) : ULift.{1} Int).down = IntKind.u64.wrap (((l.map HI.pv).length : Nat) : Int) := by
 have := len9 h
 rw [List.length_map]
 exact u64_in (by omega) (by omega)
theorem kw9 {l : List HI} (n : Int) (h : ¬ ¬ (pressF l).2.2 = 0) : (ULift.up (kn l n) : ULift.{1} Int).down = IntKind.i64.wrap (kn l n) := by
 have := len9 h
 have := kn_b n h
 exact i64_in (by omega) (by omega)
abbrev part9 (l : List HI) (n : Int) : List HI := l.take (kn l n).toNat ++ [endI]
theorem pp9 {l : List HI} (n : Int) (h : ¬ ¬ (pressF l).2.2 = 0) : (pressF (part9 l n)).2.2 = 0 ∧ (pressF (part9 l n)).1 ≤ (pressF l).1 ∧ (pressF (part9 l n)).2.1 ≤ (pressF l).2.1 :=
 (press_pre (pr0 h) (by have := kn_b n h; omega)).2
theorem n0_9 {l : List HI} (h : ¬ ¬ (pressF l).2.2 = 0) : (l.length : Int) ≠ 0 := by have := len9 h; omega
theorem sl9 {l : List HI} {n : Int} (h : ¬ ¬ (pressF l).2.2 = 0) : 15 = 15 ∧ (0 : Int) ≤ 0 ∧ 0 ≤ kn l n ∧ kn l n ≤ ((List.map HI.pv l).length : Nat) := by
 have := kn_b n h
 rw [List.length_map]
 exact ⟨rfl, Int.le_refl _, this.1, by omega⟩
theorem tkl9 {l : List HI} {n : Int} (h : ¬ ¬ (pressF l).2.2 = 0) : (List.take (kn l n).toNat l).length = (kn l n).toNat := by
 have := kn_b n h
 rw [List.length_take]; omega
theorem tk9 {l : List HI} {n : Int} (h : ¬ ¬ (pressF l).2.2 = 0) : (List.take (kn l n).toNat l).length ≤ 1000000 := by
 have := kn_b n h
 have := len9 h
 rw [tkl9 h]; omega
theorem ap9 {l : List HI} {n : Int} {X : List (List SV)} (h : ¬ ¬ (pressF l).2.2 = 0) (hX : X.length = 1) : (Rows.len (Sum.inr (List.map HI.pv (List.take (kn l n).toNat l))) + Rows.len (Sum.inl X)) * 96 ≤ 2 ^ 46 := by
 have := tk9 (n := n) h
 simp only [Rows.len, List.length_map, hX]; omega
theorem pt9 {l : List HI} {n : Int} {X : List (List SV)} (hX : X.length = 1) : PV.sl 15 (List.map HI.pv (part9 l n)) = PV.sl 15 (List.take (Rows.len (Sum.inr (List.map HI.pv (List.take (kn l n).toNat l))) + Rows.len (Sum.inl X)) (List.drop 0 (List.map HI.pv (List.take (kn l n).toNat l) ++ [endI.pv]))) ∧
 0 + (Rows.len (Sum.inr (List.map HI.pv (List.take (kn l n).toNat l))) + Rows.len (Sum.inl X)) ≤ (List.map HI.pv (List.take (kn l n).toNat l) ++ [endI.pv]).length := by
  have e : (List.map HI.pv (List.take (kn l n).toNat l) ++ [endI.pv]).length = Rows.len (Sum.inr (List.map HI.pv (List.take (kn l n).toNat l))) + Rows.len (Sum.inl X) := by
   rw [List.length_append]; simp only [Rows.len, hX]; rfl
  refine ⟨?_, by omega⟩
  rw [<- e, List.drop_zero, List.take_length, List.map_append]; rfl
theorem ix9 {l : List HI} {n : Int} {X : List (List SV)} (h : ¬ ¬ (pressF l).2.2 = 0) (hX : X.length = 1) : 0 ≤ kn l n ∧ kn l n < ((Rows.len (Sum.inr (List.map HI.pv (List.take (kn l n).toNat l))) + Rows.len (Sum.inl X) : Nat) : Int) := by
 have := kn_b n h
 have e := tkl9 (n := n) h
 simp only [Rows.len, List.length_map, hX, e]; omega
theorem ld9 {l : List HI} {n : Int} (h : ¬ ¬ (pressF l).2.2 = 0) : (List.map HI.pv (List.take (kn l n).toNat l) ++ [endI.pv])[0 + (kn l n).toNat]? = some endI.pv := by
 have e := tkl9 (n := n) h
 rw [Nat.zero_add, List.getElem?_append_right (by rw [List.length_map]; omega), List.length_map, e, Nat.sub_self]; rfl
noncomputable def S9_21 (l : List HI) (n : Int) : SFn
 | [.rd _], q => q (L21 l)
 | [.slc _ _ _], q => q (L21 (part9 l n))
 | _, _ => .fail
theorem t9_21 (l : List HI) (n : Int) : FnS Tryz.prog GG 21 (S9_21 l n) := by
 intro args k' gt go R v os n' h
 unfold S9_21 at h
 split at h
 . exact ⟨_, _, s21 _, h⟩
 . exact ⟨_, _, s21 _, h⟩
 . cases h
noncomputable def S9_24 (l : List HI) (a : AL) : SFn
 | [_, _, .int .i64 w, .int .i64 v], q => .req (a.L.length ≤ 1000000 ∧ a.fr.length ≤ 1000000) (q (L24 l a w v))
 | _, _ => .fail
theorem t9_24 (l : List HI) (a : AL) : FnS Tryz.prog GG 24 (S9_24 l a) := by
 intro args k' gt go R v' os n h
 unfold S9_24 at h
 split at h
 . obtain ⟨hp, _, h⟩ := req_inv h
   exact ⟨_, _, s24 _ _ _ _ hp.1 hp.2, h⟩
 . cases h
noncomputable def S9_31 (l : List HI) (n : Int) : SFn
 | _, q => .req ((l.take (kn l n).toNat).length ≤ 1000000) (q (L31 (l.take (kn l n).toNat)))
theorem t9_31 (l : List HI) (n : Int) : FnS Tryz.prog GG 31 (S9_31 l n) := by
 intro args k' gt go R v' os n' h
 unfold S9_31 at h
 obtain ⟨hp, _, h⟩ := req_inv h
 exact ⟨_, _, s31g _ hp, h⟩
noncomputable def L9 (l : List HI) (a : AL) (w v m n : Int) : LSpec := ⟨[hiS l, .agg a.cells, kz w, kz v, kz m, kz n], [], [], [], .tt⟩
set_option maxHeartbeats 8000000 in
theorem s9 (l : List HI) (a : AL) (w v m n : Int) : LSpec.ok Tryz.prog GG 9 (L9 l a w v m n) := by
 refine fn_spec mix k9 _ rfl rfl (Tab.ok (l := [(14, fun _ q => q L14), (23, S23), (24, S9_24 l a), (21, S9_21 l n), (31, S9_31 l n), (32, S32e)]) ⟨one_ s14, t23, t9_24 l a, t9_21 l n, t9_31 l n, t32e, trivial⟩) noL noJ ?_
 repeat' ((conv => whnf); first
  | exact trivial
  | with_reducible first | refine aj ?_ | refine ai rfl ?_ | refine ai ⟨rfl, rfl⟩ ?_
  | ((with_reducible refine ai ?_ ?_); focus exact w3)
  | with_reducible first | refine exI (m13 _) ?_ | refine exI (m7 _) ?_ | refine exI (w13 _ (by with_reducible assumption)) ?_ | refine exI (v7 _ (by with_reducible assumption)) ?_ | refine exI (lw9 (by with_reducible assumption)) ?_ | refine exI (kw9 _ (by with_reducible assumption)) ?_
  | refine exI (x := ULift.up endI.pv) (ld9 (by with_reducible assumption)) ?_
  | ((with_reducible intro h); first | exact False.elim (absurd (acc9 m (by with_reducible assumption) rfl rfl) h) | exact False.elim (absurd (pp9 n (by with_reducible assumption)).1 h) | exact False.elim (absurd (pp9 n (by with_reducible assumption)).2.1 h) | exact False.elim (absurd (pp9 n (by with_reducible assumption)).2.2 h))
  | with_reducible first | refine And.intro ?_ ?_ | refine asL_mk ?_ | refine exI (i64_in (by omega) (by omega)) ?_
  | refine exI (x := ULift.up _) (Eq.refl _) ?_
  | refine exI (x := ULift.up _) ⟨rfl, by omega, Eq.refl _⟩ ?_
  | exact nx
  | ((with_reducible intro h); try dsimp only at h))
 all_goals first
  | exact Sd.mk rfl
  | exact Sd.mk (short9 (nf (by assumption)))
  | exact Sd.mk (n0_9 (by assumption))
  | exact Sd.mk (sl9 (by assumption))
  | exact Sd.mk (tk9 (by assumption))
  | exact Sd.mk (ap9 (by assumption) rfl)
  | exact Sd.mk (pt9 rfl)
  | exact Sd.mk (ix9 (by assumption) rfl)
  | (refine Sd.mk ?_; simp only [L21, LSpec.flat, SV.flat, flats, flatOs, flatOuts, and_true, true_and]; done)
end Go.Proofs.YtlahifihaeafbaaGreatDoor
namespace Go.Proofs.YtlahifihaeafbaaGreatDoor
open Go Go.Sx Go.ChangeShapes
section
variable {H : Type} {enc : TypeId × Value -> H} {P : Program} {W : World} {sp : Nat -> Bool} {held : Bool}
abbrev stay (W : World) : Nat -> Prop := fun b => b < W.heap.size
theorem add_off {b o n : Nat} : (Addr.add ⟨b, o, none⟩ n) = ⟨b, o + n, none⟩ := by
 unfold Addr.add; split
 . next h => subst h; rfl
 . rfl
theorem cell_arr {b o : Nat} {v : Value} (h : W.cell? ⟨b, o, none⟩ = some v) : ∃ arr T fz, W.heap[b]? = some (.cells arr T fz) ∧ arr[o]? = some v := by
 unfold World.cell? at h
 split at h
 . next c T fz e => exact ⟨c, T, fz, e, by simpa using h⟩
 . cases h
theorem cells_row {b o s : Nat} {cs : List Value} {arr : Array Value} {T : TypeId} {fz : Nat × Nat} (hh : W.heap[b]? = some (.cells arr T fz)) (h : W.cells? 0 ⟨b, o, none⟩ s = some cs) : ∃ r, arr.toList.drop o = cs ++ r := by
 obtain ⟨_, hl, he⟩ := World.cells?_some h
 refine ⟨(arr.toList.drop o).drop s, ?_⟩
 have e : cs = (arr.toList.drop o).take s := by
  apply List.ext_getElem?
  intro i
  by_cases hi : i < s
  . have := he i hi
    rw [add_off] at this
    rw [List.getElem?_take_of_lt hi, List.getElem?_drop, <- this]
    unfold World.cell?
    rw [hh]
    simp
  . rw [List.getElem?_eq_none (by omega), List.getElem?_eq_none (by rw [List.length_take]; omega)]
 rw [e]; exact (List.take_append_drop s _).symm
theorem relPR_of {S : Nat -> Prop} {s : Nat} : ∀ {L : List (List PV)} {vs : List Value}, (∀ i e, L[i]? = some e -> e.length = s ∧ relPL W S e (vs.drop (i * s))) -> relPR W S s L vs
 | [], _, _ => by simp [relPR]
 | e :: L, vs, h => by
   simp only [relPR]
   have h0 := h 0 e rfl
   rw [Nat.zero_mul, List.drop_zero] at h0
   refine ⟨h0.1, h0.2, relPR_of fun i e' he => ?_⟩
   have h1 := h (i + 1) e' (by simpa using he)
   rw [List.drop_drop]
   rw [show s + i * s = (i + 1) * s by rw [Nat.add_mul, Nat.one_mul, Nat.add_comm]]
   exact h1
theorem open_rows {α : Type} [Inhabited α] {pv : α -> List PV} {t e : TypeId} {s fuel : Nat} {cs : List Value} {x : DataW H × List MemPlace} (ht : P.underlying t = some (.slice e)) (hc : P.cellsOf e = s) (hs : 0 < s) (hp : ∀ a, (pv a).length = s)
 (hd : ∀ n cs y, DataW.trod enc P W 0 sp held n e cs = some y -> ∃ a, ∀ r, relPL W (stay W) (pv a) (cs ++ r))
 (h : DataW.trod enc P W 0 sp held fuel t cs = some x) : ∃ L : List α, ∃ v, cs = [v] ∧ relP W (stay W) (.sl s (L.map pv)) v := by
  rcases DataW.trod_slice ht h with ⟨h0, _⟩ | ⟨a, len, cap, elems, rest, n, _, rfl, rfl, hb, hl, hm, hlen, hel, _, _⟩
  . subst h0
    refine ⟨[], _, rfl, ?_⟩
    simp only [relP, List.map_nil]
    exact ⟨none, 0, rfl, Nat.le_refl _, fun q => absurd rfl q, fun _ => rfl⟩
  rw [hc] at hel
  have each : ∀ i, i < len -> ∃ cs' y, W.cells? 0 (a.add (i * s)) s = some cs' ∧ DataW.trod enc P W 0 sp held n e cs' = some y := by
   intro i hi
   have := hel i hi
   rw [List.getElem?_eq_getElem (by omega)] at this
   obtain ⟨cs', h1, h2⟩ := Option.bind_eq_some_iff.1 this
   exact ⟨cs', _, h1, h2⟩
  by_cases h0 : len = 0
  . subst h0
    refine ⟨[], _, rfl, ?_⟩
    simp only [relP, List.map_nil]
    exact ⟨some a, cap, rfl, Nat.zero_le _, fun q => absurd rfl q, fun e => by cases e⟩
  obtain ⟨b, off, spot⟩ := a
  obtain ⟨cs0, y0, e0, _⟩ := each 0 (by omega)
  have hc0 := (World.cells?_some e0).2.2 0 hs
  rw [Nat.zero_mul] at hc0
  have hlen0 : 0 < cs0.length := by rw [(World.cells?_some e0).2.1]; exact hs
  rw [List.getElem?_eq_getElem hlen0] at hc0
  have hspot : spot = none := by simpa [Addr.add] using World.cell?_spot hc0
  subst hspot
  rw [add_off, add_off] at hc0
  obtain ⟨arr, T, fz, hh, _⟩ := cell_arr hc0
  have each2 : ∀ i, ∃ p : α, i < len -> relPL W (stay W) (pv p) (arr.toList.drop (off + i * s)) := by
   intro i
   by_cases hi : i < len
   . obtain ⟨cs', y, h1, h2⟩ := each i hi
     obtain ⟨p, hp⟩ := hd _ _ _ h2
     rw [add_off] at h1
     obtain ⟨r, hr⟩ := cells_row hh h1
     exact ⟨p, fun _ => by rw [hr]; exact hp r⟩
   . exact ⟨default, fun q => absurd q hi⟩
  have hf := Classical.axiomOfChoice each2
  obtain ⟨f, hf⟩ := hf
  refine ⟨(List.range len).map f, _, rfl, ?_⟩
  simp only [relP, List.length_map, List.length_range]
  refine ⟨_, cap, rfl, hl, fun _ => ⟨b, off, arr, T, fz, rfl, ?_, hh, ?_⟩, fun e => by cases e⟩
  . exact (Array.getElem?_eq_some_iff.1 hh).1
  . refine relPR_of fun i e he => ?_
    rw [List.getElem?_map, List.getElem?_map] at he
    by_cases hi : i < len
    . rw [List.getElem?_range hi] at he
      simp only [Option.map_some, Option.some.injEq] at he
      subst he
      refine ⟨hp _, ?_⟩
      rw [List.drop_drop]
      exact hf i hi
    . rw [List.getElem?_eq_none (by simp; omega)] at he
      cases he
end
theorem dec_int {H : Type} {enc : TypeId × Value -> H} {W : World} {sp : Nat -> Bool} {held : Bool} (n : Nat) (cs : List Value) (y : DataW H × List MemPlace) (h : DataW.trod enc Tryz.prog W 0 sp held n 3 cs = some y) : ∃ a, ∀ r, relPL W (stay W) (ipv a) (cs ++ r) := by
 obtain ⟨k, rfl, _, _⟩ := DataW.trod_int Tryz.underlying3 h
 exact ⟨k, fun r => by simp [ipv, relPL, relP]⟩
theorem c15 {cs : List Value} (h : cs.length = 15) : ∃ a0 a1 a2 a3 a4 a5 a6 a7 a8 a9 a10 a11 a12 a13 a14, cs = [a0, a1, a2, a3, a4, a5, a6, a7, a8, a9, a10, a11, a12, a13, a14] := by
 match cs, h with
 | [a0, a1, a2, a3, a4, a5, a6, a7, a8, a9, a10, a11, a12, a13, a14], _ => exact ⟨_, _, _, _, _, _, _, _, _, _, _, _, _, _, _, rfl⟩
theorem dec_i {H : Type} {enc : TypeId × Value -> H} {W : World} {sp : Nat -> Bool} {held : Bool} {n : Nat} {t : TypeId} {k : IntKind} (ht : Tryz.prog.underlying t = some (.int k)) {v : Value} {o : Option (DataW H × List MemPlace)} (ho : o.isSome = true) (h : DataW.trod enc Tryz.prog W 0 sp held n t [v] = o) : ∃ m, v = .int k m := by
 obtain ⟨y, rfl⟩ := Option.isSome_iff_exists.1 ho
 obtain ⟨m, e, _, _⟩ := DataW.trod_int ht h
 cases e
 exact ⟨m, rfl⟩
theorem co63 : Tryz.prog.cellsOf 63 = 15 := by kernel_rfl
theorem co61 : Tryz.prog.cellsOf 61 = 4 := by kernel_rfl
theorem co59 : Tryz.prog.cellsOf 59 = 1 := by kernel_rfl
theorem co3 : Tryz.prog.cellsOf 3 = 1 := by kernel_rfl
theorem co38 : Tryz.prog.cellsOf 38 = 2 := by kernel_rfl
theorem co22 : Tryz.prog.cellsOf 22 = 1 := by kernel_rfl
theorem co36 : Tryz.prog.cellsOf 36 = 1 := by kernel_rfl
theorem dec_hi {H : Type} {enc : TypeId × Value -> H} {W : World} {sp : Nat -> Bool} {held : Bool} (n : Nat) (cs : List Value) (y : DataW H × List MemPlace) (h : DataW.trod enc Tryz.prog W 0 sp held n 63 cs = some y) : ∃ a, ∀ r, relPL W (stay W) (HI.pv a) (cs ++ r) := by
 obtain ⟨xs, m, rfl, _, hl, hx, hf⟩ := DataW.trod_struct Tryz.underlying63 h
 rw [co63] at hl
 obtain ⟨a0, a1, a2, a3, a4, a5, a6, a7, a8, a9, a10, a11, a12, a13, a14, rfl⟩ := c15 hl
 have hx : xs.length = 12 := hx
 have is : ∀ i, i < 12 -> (xs[i]?).isSome = true := fun i hi => by rw [List.getElem?_eq_getElem (by omega)]; rfl
 have f0 := hf 0 { name := "Op", type := 3, offset := 0, embedded := false, tag := "", pkgPath := "", byteOffset := 0 } rfl
 have f1 := hf 1 { name := "Sub", type := 3, offset := 1, embedded := false, tag := "", pkgPath := "", byteOffset := 8 } rfl
 have f2 := hf 2 { name := "From", type := 3, offset := 2, embedded := false, tag := "", pkgPath := "", byteOffset := 16 } rfl
 have f3 := hf 3 { name := "Ty", type := 3, offset := 3, embedded := false, tag := "", pkgPath := "", byteOffset := 24 } rfl
 have f4 := hf 4 { name := "D", type := 3, offset := 4, embedded := false, tag := "", pkgPath := "", byteOffset := 32 } rfl
 have f5 := hf 5 { name := "A", type := 3, offset := 5, embedded := false, tag := "", pkgPath := "", byteOffset := 40 } rfl
 have f6 := hf 6 { name := "B", type := 3, offset := 6, embedded := false, tag := "", pkgPath := "", byteOffset := 48 } rfl
 have f7 := hf 7 { name := "C", type := 3, offset := 7, embedded := false, tag := "", pkgPath := "", byteOffset := 56 } rfl
 have f8 := hf 8 { name := "K", type := 3, offset := 8, embedded := false, tag := "", pkgPath := "", byteOffset := 64 } rfl
 have f9 := hf 9 { name := "I", type := 59, offset := 9, embedded := false, tag := "", pkgPath := "", byteOffset := 72 } rfl
 have f10 := hf 10 { name := "Chain", type := 59, offset := 10, embedded := false, tag := "", pkgPath := "", byteOffset := 76 } rfl
 have f11 := hf 11 { name := "V", type := 61, offset := 11, embedded := false, tag := "", pkgPath := "", byteOffset := 80 } rfl
 simp only [co3, co59, co61, List.drop_zero, List.drop_succ_cons, List.take_succ_cons, List.take_zero] at f0 f1 f2 f3 f4 f5 f6 f7 f8 f9 f10 f11
 obtain ⟨m0, rfl⟩ := dec_i Tryz.underlying3 (is 0 (by decide)) f0
 obtain ⟨m1, rfl⟩ := dec_i Tryz.underlying3 (is 1 (by decide)) f1
 obtain ⟨m2, rfl⟩ := dec_i Tryz.underlying3 (is 2 (by decide)) f2
 obtain ⟨m3, rfl⟩ := dec_i Tryz.underlying3 (is 3 (by decide)) f3
 obtain ⟨m4, rfl⟩ := dec_i Tryz.underlying3 (is 4 (by decide)) f4
 obtain ⟨m5, rfl⟩ := dec_i Tryz.underlying3 (is 5 (by decide)) f5
 obtain ⟨m6, rfl⟩ := dec_i Tryz.underlying3 (is 6 (by decide)) f6
 obtain ⟨m7, rfl⟩ := dec_i Tryz.underlying3 (is 7 (by decide)) f7
 obtain ⟨m8, rfl⟩ := dec_i Tryz.underlying3 (is 8 (by decide)) f8
 obtain ⟨m9, rfl⟩ := dec_i Tryz.underlying59 (is 9 (by decide)) f9
 obtain ⟨m10, rfl⟩ := dec_i Tryz.underlying59 (is 10 (by decide)) f10
 obtain ⟨z, hz⟩ := Option.isSome_iff_exists.1 (is 11 (by decide))
 rw [hz] at f11
 obtain ⟨ys, q, _, _, _, hy, hg⟩ := DataW.trod_array Tryz.underlying61 f11
 have is2 : ∀ i, i < 4 -> (ys[i]?).isSome = true := fun i hi => by rw [List.getElem?_eq_getElem (by omega)]; rfl
 have g0 := hg 0 (by decide)
 have g1 := hg 1 (by decide)
 have g2 := hg 2 (by decide)
 have g3 := hg 3 (by decide)
 simp only [co59, Nat.zero_mul, Nat.mul_one, List.drop_zero, List.drop_succ_cons, List.take_succ_cons, List.take_zero] at g0 g1 g2 g3
 obtain ⟨m11, rfl⟩ := dec_i Tryz.underlying59 (is2 0 (by decide)) g0
 obtain ⟨m12, rfl⟩ := dec_i Tryz.underlying59 (is2 1 (by decide)) g1
 obtain ⟨m13, rfl⟩ := dec_i Tryz.underlying59 (is2 2 (by decide)) g2
 obtain ⟨m14, rfl⟩ := dec_i Tryz.underlying59 (is2 3 (by decide)) g3
 exact ⟨⟨m0, m1, m2, m3, m4, m5, m6, m7, m8, m9, m10, m11, m12, m13, m14⟩, fun r => by
  simp only [HI.pv, relPL, relP, List.cons_append]
  exact ⟨_, _, rfl, rfl, ⟨_, _, rfl, rfl, ⟨_, _, rfl, rfl, ⟨_, _, rfl, rfl, ⟨_, _, rfl, rfl, ⟨_, _, rfl, rfl, ⟨_, _, rfl, rfl, ⟨_, _, rfl, rfl, ⟨_, _, rfl, rfl, ⟨_, _, rfl, rfl, ⟨_, _, rfl, rfl, ⟨_, _, rfl, rfl, ⟨_, _, rfl, rfl, ⟨_, _, rfl, rfl, ⟨_, _, rfl, rfl, trivial⟩⟩⟩⟩⟩⟩⟩⟩⟩⟩⟩⟩⟩⟩⟩⟩
instance : Inhabited HI := ⟨⟨0, 0, 0, 0, 0, 0, 0, 0, 0, 0, 0, 0, 0, 0, 0⟩⟩
section
variable {H : Type} {enc : TypeId × Value -> H} {W : World} {sp : Nat -> Bool} {held : Bool} {fuel : Nat} {cs : List Value} {x : DataW H × List MemPlace}
theorem open_his (h : DataW.trod enc Tryz.prog W 0 sp held fuel 22 cs = some x) : ∃ l : List HI, ∃ v, cs = [v] ∧ rel (fun _ => none) W (stay W) (hiS l) v := by
 obtain ⟨l, v, e, hr⟩ := open_rows (pv := HI.pv) Tryz.underlying22 co63 (by decide) (fun a => rfl) dec_hi h
 exact ⟨l, v, e, by simpa only [rel] using hr⟩
theorem open_is (h : DataW.trod enc Tryz.prog W 0 sp held fuel 36 cs = some x) : ∃ l : List Int, ∃ v, cs = [v] ∧ rel (fun _ => none) W (stay W) (inS l) v := by
 obtain ⟨l, v, e, hr⟩ := open_rows (pv := ipv) Tryz.underlying36 co3 (by decide) (fun a => rfl) dec_int h
 exact ⟨l, v, e, by simpa only [rel] using hr⟩
theorem open_al (h : DataW.trod enc Tryz.prog W 0 sp held fuel 38 cs = some x) : ∃ a : AL, ∃ v1 v2, cs = [v1, v2] ∧ relL (fun _ => none) W (stay W) a.cells [v1, v2] := by
 obtain ⟨xs, m, rfl, _, hl, hx, hf⟩ := DataW.trod_struct Tryz.underlying38 h
 rw [co38] at hl
 match cs, hl with
 | [v1, v2], _ =>
   have hx : xs.length = 2 := hx
   have is : ∀ i, i < 2 -> (xs[i]?).isSome = true := fun i hi => by rw [List.getElem?_eq_getElem (by omega)]; rfl
   have f0 := hf 0 { name := "L", type := 22, offset := 0, embedded := false, tag := "", pkgPath := "", byteOffset := 0 } rfl
   have f1 := hf 1 { name := "From", type := 36, offset := 1, embedded := false, tag := "", pkgPath := "", byteOffset := 24 } rfl
   simp only [co22, co36, List.drop_zero, List.drop_succ_cons, List.take_succ_cons, List.take_zero] at f0 f1
   obtain ⟨y0, h0⟩ := Option.isSome_iff_exists.1 (is 0 (by decide))
   obtain ⟨y1, h1⟩ := Option.isSome_iff_exists.1 (is 1 (by decide))
   rw [h0] at f0; rw [h1] at f1
   obtain ⟨l, w1, e1, r1⟩ := open_his f0
   obtain ⟨f, w2, e2, r2⟩ := open_is f1
   cases e1; cases e2
   exact ⟨⟨l, f⟩, _, _, rfl, by simp only [AL.cells, relL]; exact ⟨_, _, rfl, r1, _, _, rfl, r2, rfl⟩⟩
end
end Go.Proofs.YtlahifihaeafbaaGreatDoor
namespace Go.Proofs.YtlahifihaeafbaaGreatDoor
open Go Go.Sx Go.ChangeShapes
def fmD : FM -> DataW Unit
 | ⟨n, a, b⟩ => .agg [.lit (.string n.data.toList), .lit (.int .i64 a), .lit (.int .i64 b)]
def fmP : FM -> List PV
 | ⟨n, a, b⟩ => [.str n, .int .i64 a, .int .i64 b]
theorem fmD_inj {f g : FM} (h : fmD f = fmD g) : f = g := by
 obtain ⟨⟨⟨n⟩⟩, a, b⟩ := f
 obtain ⟨⟨⟨m⟩⟩, c, d⟩ := g
 simp only [fmD, DataW.agg.injEq, List.cons.injEq, DataW.lit.injEq, Lit.string.injEq, Lit.int.injEq, true_and, and_true] at h
 obtain ⟨h1, h2, h3⟩ := h
 subst h1; subst h2; subst h3; rfl
theorem laidD : (Rows.laid_candling_host_forms : DataW Unit) = .agg (formRows.map fmD) := by rfl
theorem gForms : Tryz.prog.globalNamed "candling/host.forms" = some 0 := by kernel_rfl
theorem tForms : (Tryz.prog.globals[0]?).map (·.type) = some 189 := by kernel_rfl
theorem co9 : Tryz.prog.cellsOf 9 = 1 := by kernel_rfl
theorem co130 : Tryz.prog.cellsOf 130 = 3 := by kernel_rfl
theorem co189 : Tryz.prog.cellsOf 189 = 138 := by kernel_rfl
theorem dec_fm {W : World} (n : Nat) (cs : List Value) (y : DataW Unit × List MemPlace) (h : DataW.trod (fun _ => ()) Tryz.prog W 0 (fun _ => true) false n 130 cs = some y) : ∃ f : FM, y.1 = fmD f ∧ ∀ r, relPL W (stay W) (fmP f) (cs ++ r) := by
 obtain ⟨xs, m, rfl, hy, hl, hx, hf⟩ := DataW.trod_struct Tryz.underlying130 h
 rw [co130] at hl
 match cs, hl with
 | [a0, a1, a2], _ =>
   have hx : xs.length = 3 := hx
   match xs, hx with
   | [x0, x1, x2], _ =>
     have f0 := hf 0 { name := "name", type := 9, offset := 0, embedded := false, tag := "", pkgPath := "candling/host", byteOffset := 0 } rfl
     have f1 := hf 1 { name := "fields", type := 3, offset := 1, embedded := false, tag := "", pkgPath := "candling/host", byteOffset := 16 } rfl
     have f2 := hf 2 { name := "rule", type := 3, offset := 2, embedded := false, tag := "", pkgPath := "candling/host", byteOffset := 24 } rfl
     simp only [co3, co9, List.drop_zero, List.drop_succ_cons, List.take_succ_cons, List.take_zero] at f0 f1 f2
     obtain ⟨s, e0, g0, _⟩ := DataW.trod_string Tryz.underlying9 f0
     obtain ⟨k1, e1, g1, _⟩ := DataW.trod_int Tryz.underlying3 f1
     obtain ⟨k2, e2, g2, _⟩ := DataW.trod_int Tryz.underlying3 f2
     cases e0; cases e1; cases e2
     subst g0; subst g1; subst g2
     refine ⟨⟨s, k1, k2⟩, by rw [hy]; rfl, fun r => ?_⟩
     simp only [fmP, relPL, relP, List.cons_append]
     exact ⟨_, _, rfl, rfl, _, _, rfl, rfl, _, _, rfl, rfl, trivial⟩
theorem forms_laid {W : World} (h : laidMetH Tryz.prog [("candling/host.forms", Rows.laid_candling_host_forms)] W) (g : Nat) (s : SV) (hs : GG g = some s) : rel (fun _ => none) W (stay W) s (.pointer (some ⟨g, 0, none⟩)) := by
 match g, hs with
 | 0, hs =>
   cases hs
   rw [MakeChecks.laidMetH_plain _ _ _ (by kernel_rfl)] at h
   obtain ⟨ps, ⟨g0, t0, cs0, f0, p0, q0, hg0, ht0, hv0, hd0, _, _⟩, _, _⟩ := h
   obtain rfl := Option.some.inj (gForms.symm.trans hg0)
   obtain rfl := Option.some.inj (tForms.symm.trans ht0)
   rw [laidD] at hd0
   obtain ⟨xs, m, rfl, hx, hl, hn, hel⟩ := DataW.trod_array Tryz.underlying189 hd0
   rw [co189] at hl
   simp only [Prod.mk.injEq, DataW.agg.injEq] at hx
   have hx := hx.1
   have hh : ∃ T fz, W.heap[0]? = some (.cells cs0 T fz) := by
    simp only [World.var?, gForms, Option.bind_some] at hv0
    split at hv0
    . next cs T fz e => cases hv0; exact ⟨T, fz, e⟩
    . cases hv0
   obtain ⟨T, fz, hh⟩ := hh
   simp only [rel]
   refine ⟨0, 0, cs0, T, fz, rfl, (Array.getElem?_eq_some_iff.1 hh).1, hh, ?_⟩
   rw [List.drop_zero]
   refine relPR_of fun i e he => ?_
   have hi : i < 46 := by
    have := (List.getElem?_eq_some_iff.1 he).1
    rw [List.length_map] at this
    exact this
   have h1 := hel i hi
   rw [co130, List.getElem?_eq_getElem (by omega)] at h1
   obtain ⟨f, e1, e2⟩ := dec_fm _ _ _ h1
   have h3 : (xs.map (·.1))[i]? = some (fmD f) := by rw [List.getElem?_map, List.getElem?_eq_getElem (by omega), Option.map_some, e1]
   rw [<- hx, List.getElem?_map] at h3
   rw [List.getElem?_map] at he
   cases hq : formRows[i]? with
   | none => rw [hq] at he; cases he
   | some f' =>
     rw [hq] at he h3
     have : f' = f := fmD_inj (by simpa using h3)
     subst this
     have he : fmP f' = e := Option.some.inj he
     subst he
     refine ⟨rfl, ?_⟩
     have := e2 ((cs0.toList.drop (i * 3)).drop 3)
     rw [List.take_append_drop] at this
     exact this
end Go.Proofs.YtlahifihaeafbaaGreatDoor
