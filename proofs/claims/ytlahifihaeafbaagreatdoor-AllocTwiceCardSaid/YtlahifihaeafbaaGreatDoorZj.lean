/- Part 10 of 11 of a proof of the law AllocTwice: what the last part leans on. -/
import Derived.Test.YtlahifihaeafbaaGreatDoorZi
import Derived.Shelf.Spec.SlicesInsert
import Derived.Lib.AppendZerosOnto
import Derived.Laws.NewBlocks
import Derived.ProofKit
import Derived.LaidMore
import Derived.OpenShut
import Derived.Test.YtlahifihaeafbaaGreatDoorRows
set_option linter.all false
set_option maxRecDepth 100000
namespace Go.Proofs.YtlahifihaeafbaaGreatDoor
open Go Go.Sx
section
def c14 : MC := .seq (.reg [oo 0 (.mv kf)]) (.seq (.reg [oo 16 (fc 47 []),om 1 16]) (.seq (.reg [om 18 1,oo 19 (fc 21 [(.t 18)]),om 17 19,oo 20 (ex_ 0 17),oo 21 (ex_ 1 17),oo 22 (ex_ 2 17),om 2 20,om 3 21,om 4 22]) (.seq (.reg [om 24 1,oo 25 (fc 16 [(.t 24),(ki 2)]),om 23 25,oo 26 (ex_ 0 23),oo 27 (ex_ 1 23),om 5 26,om 6 27]) (.seq (.reg [om 29 1,oo 30 (fc 16 [(.t 29),(ki 3)]),om 28 30,oo 31 (ex_ 0 28),oo 32 (ex_ 1 28),om 7 31,om 8 32]) (.seq (.seq (.reg [om 33 4,oo 34 (.cmpl .neq (.t 33) (ki 0)),sm 35 34,mf 35 36 6,gf 35 37 (.cmpl .neq (.t 36) (ki 0)),oo 38 (pt 35 37),sm 39 38,mf 39 40 8,gf 39 41 (.cmpl .neq (.t 40) (ki 0)),oo 42 (pt 39 41),sm 43 42,mf 43 44 2,gf 43 45 (.cmpl .neq (.t 44) (ki 2)),oo 46 (pt 43 45),sm 47 46,mf 47 48 3,gf 47 49 (.cmpl .neq (.t 48) (ki 0)),oo 50 (pt 47 49),sm 51 50,mf 51 52 5,gf 51 53 (.bld [.ff,(kz 0)] []),gf 51 54 (.bld [.ff,(kz 0)] [(1,1,(ki 1))]),gf 51 55 (.bsl 2 2 [.ff,(kz 0)] [(0,(.t 53)),(1,(.t 54))]),gf 51 56 (fc 20 [(.t 52),(.t 55)]),gf 51 57 (.not (.t 56)),oo 58 (pt 51 57),sm 59 58,mf 59 60 7,gf 59 61 (.bld [.ff,(kz 0)] [(1,1,(ki 2))]),gf 59 62 (.bsl 2 1 [.ff,(kz 0)] [(0,(.t 61))]),gf 59 63 (fc 20 [(.t 60),(.t 62)]),gf 59 64 (.not (.t 63)),oo 65 (pt 59 64)]) (.cond (.t 65) (.seq (.reg [oo 0 (.mv kf)]) (.ret)) (.skip))) (.seq (.reg [om 67 1,om 68 1,oo 69 (fc 48 [(ki 5)]),oo 70 (.bld [(.val (.slice none 0 0)),(.val (.slice none 0 0))] [(0,1,(.t 68)),(1,1,(.t 69))]),oo 71 (fc 24 [(.t 67),(.t 70),(ki 3),(ki 2)]),om 66 71,oo 72 (ex_ 0 66),oo 73 (ex_ 1 66),om 4 73]) (.seq (.reg [om 74 1,oo 75 (fc 31 [(.t 74)]),om 76 1,oo 77 (fc 31 [(.t 76)]),om 9 75,om 10 77]) (.seq (.reg [om 78 9,om 79 9,om 80 10,oo 81 (.ixa 15 (.t 78) (ki 2)),oo 82 (fl 4 81),o none (.st (some 1) (.t 82) (ki 0)),oo 83 (.ixa 15 (.t 79) (ki 3)),oo 84 (fl 5 83),o none (.st (some 1) (.t 84) (ki 0)),oo 85 (.ixa 15 (.t 80) (ki 2)),oo 86 (fl 5 85),o none (.st (some 1) (.t 86) (ki 1))]) (.seq (.reg [om 88 1,om 89 9,oo 90 (fc 48 [(ki 5)]),oo 91 (.bld [(.val (.slice none 0 0)),(.val (.slice none 0 0))] [(0,1,(.t 89)),(1,1,(.t 90))]),oo 92 (fc 24 [(.t 88),(.t 91),(ki 3),(ki 2)]),om 87 92,oo 93 (ex_ 0 87),oo 94 (ex_ 1 87),om 6 94]) (.seq (.reg [om 96 1,om 97 10,oo 98 (fc 48 [(ki 5)]),oo 99 (.bld [(.val (.slice none 0 0)),(.val (.slice none 0 0))] [(0,1,(.t 97)),(1,1,(.t 98))]),oo 100 (fc 24 [(.t 96),(.t 99),(ki 3),(ki 2)]),om 95 100,oo 101 (ex_ 0 95),oo 102 (ex_ 1 95),om 11 101,om 8 102]) (.seq (.seq (.drw [om 103 4,oo 104 (.cmpl .neq (.t 103) (ki 0)),sm 105 104,mf 105 106 6,gf 105 107 (.cmpl .neq (.t 106) (ki 0)),oo 108 (pt 105 107),sm 109 108,mf 109 110 8,gf 109 111 (.cmpl .neq (.t 110) (ki 191)),oo 112 (pt 109 111),sm 113 112,mf 113 114 11,gf 113 115 (.cmpl .neq (.t 114) (ki 2)),oo 116 (pt 113 115),sm 117 116,mf 117 118 1,gf 117 119 (.sls3 15 (.t 118) (ki 1) (ki 1)),mf 117 120 1,gf 117 121 (.sls 15 (.t 120) (some (ki 2)) none),gf 117 122 (.app 15 96 (.t 119) (.t 121)),gf 117 123 (fc 18 [(.t 122)]),gf 117 124 (.cmpl .neq (.t 123) (ki 190)),oo 125 (pt 117 124)] [[],[0],[1],[2],[3,2],[2,4],[5,2],[6],[7,6],[6,8],[9,6],[10],[11,10],[10,12],[13,10],[14],[15,14],[14],[17,14],[16,18,14,14],[19,19,14],[20,14],[14,21]])
 (.cond (.t 125) (.seq (.reg [oo 0 (.mv kf)]) (.ret)) (.skip))) (.seq (.reg [om 127 1,oo 128 (fc 28 [(.t 127),(ki 2),(ki 2)]),om 126 128,oo 129 (ex_ 0 126),oo 130 (ex_ 1 126),om 4 130]) (.seq (.reg [oo 132 (.bld zI [(0,1,(ki 42))]),oo 133 (.bld zI [(0,1,(ki 43))]),om 134 1,oo 135 (.ixa 15 (.t 134) (ki 4)),oo 136 (ls 15 135),oo 137 (.bsl 15 3 zI [(0,(.t 132)),(1,(.t 133)),(2,(.t 136))]),oo 138 (.bsl 1 3 [(kz 0)] [(0,(ki (-1))),(1,(ki (-1))),(2,(ki 0))]),oo 139 (.bld [(.val (.slice none 0 0)),(.val (.slice none 0 0))] [(0,1,(.t 137)),(1,1,(.t 138))]),oo 140 (fc 26 [(.t 139)]),om 131 140,oo 141 (ex_ 0 131),oo 142 (ex_ 1 131),oo 143 (ex_ 2 131),om 12 141,om 13 142,om 14 143]) (.seq (.reg [om 145 1,oo 146 (fc 28 [(.t 145),(ki 3),(ki 2)]),om 144 146,oo 147 (ex_ 0 144),oo 148 (ex_ 1 144),oo 15 (.alloc [(.val (.slice none 0 0)),(.val (.slice none 0 0))]),o none (.st (some 2) (.t 15) (.t 147)),om 6 148]) (.seq (.drw [om 149 4,oo 150 (.cmpl .eql (.t 149) (ki 1)),sm 151 150,mt 151 152 12,gt_ 151 153 (.cmpl .eql (.t 152) (ki 0)),oo 154 (pf 151 153),sm 155 154,mt 155 156 13,gt_ 155 157 (.cmpl .eql (.t 156) (ki 1)),oo 158 (pf 155 157),sm 159 158,mt 159 160 14,gt_ 159 161 (.cmpl .eql (.t 160) (ki 1)),oo 162 (pf 159 161),sm 163 162,mt 163 164 6,gt_ 163 165 (.cmpl .eql (.t 164) (ki 0)),oo 166 (pf 163 165),sm 167 166,gt_ 167 168 (fl 1 15),gt_ 167 169 (ln 168),gt_ 167 170 (fc 48 [(ki 5)]),gt_ 167 171 (fc 49 [(.t 169),(.t 170)]),oo 172 (pf 167 171),om 0 172] [[],[0],[1],[2],[3,2],[2,4],[5,2],[6],[7,6],[6,8],[9,6],[10],[11,10],[10,12],[13,10],[14],[15,14],[14,16],[17,14],[18],[19,18],[18,18],[20,21,21,18],[18,22],[23,22,0,1,2,3,4,5,6,7,8,9,10,11,12,13,14,15,16,17,18,19,20,21,22,23]]) (.ret))))))))))))))))
theorem k14 : zar Tryz.prog 14 173 c14 [.t 0] := fk Tryz.func14 ⟨tv,⟨tv,⟨tv,⟨tv,⟨tv,⟨⟨tv,⟨⟨tv,tv⟩,tv⟩⟩,⟨tv,⟨tv,⟨tv,⟨tv,⟨tv,⟨⟨tv,⟨⟨tv,tv⟩,tv⟩⟩,⟨tv,⟨tv,⟨tv,⟨tv,tv⟩⟩⟩⟩⟩⟩⟩⟩⟩⟩⟩⟩⟩⟩⟩⟩
def r0 : HR := ⟨false, 0⟩
def r1 : HR := ⟨false, 1⟩
def r2 : HR := ⟨false, 2⟩
def zdO : List Int := [0, 1, 2, 3, 4]
def zi0 : HI := ⟨1, 0, 0, 0, 0, 0, 0, 0, 0, 1, 0, 0, 0, 0, 0⟩
def zi1 : HI := ⟨1, 0, 0, 0, 1, 0, 0, 0, 0, 2, 0, 0, 0, 0, 0⟩
def zi2 : HI := ⟨3, 1, 0, 0, 2, 0, 1, 0, 0, 0, 0, 0, 0, 0, 0⟩
def zi3 : HI := ⟨20, 0, 0, 32, 0, 2, 0, 0, 4, 0, 0, 0, 0, 0, 0⟩
def zi4 : HI := ⟨40, 0, 0, 0, 0, 0, 0, 0, 1, 0, 0, 0, 0, 0, 0⟩
def zx6 : List HI := [zi0, zi1, { zi2 with d := 0 }, { zi3 with a := 0 }, zi4]
def zvy : List HI := [zi0, zi1, { zi2 with a := 1 }, zi3, zi4]
def zq7 : List HI := [zi0, zi2, zi3, zi4]
def zq4 : List HI := [{ zgA with op := 42 }, { zgA with op := 43 }, zi4]
theorem zuj : zhK zaF = (2, 0, 0) := by kernel_rfl
theorem zyb : zd3 zaF 2 = 0 := by kernel_rfl
theorem zyc : zd3 zaF 3 = 0 := by kernel_rfl
theorem zFb : zg0 zaF 2 = [r0, r1, r0] := by kernel_rfl
theorem zFd : (zgZ zaF 2).length = 2 := by kernel_rfl
theorem zFc : zg0 zaF 3 = [r2, r0, r0] := by kernel_rfl
theorem zFe : (zgZ zaF 3).length = 1 := by kernel_rfl
theorem zyd : (zaW zaF).1.length <= 12 := by decide
theorem zE6 : zaT zaF ⟨zaF, zdO⟩ 3 2 = (0, 0) := by kernel_rfl
theorem zE7 : zaT zaF ⟨zx6, zdO⟩ 3 2 = (0, 0) := by kernel_rfl
theorem zE8 : zaT zaF ⟨zvy, zdO⟩ 3 2 = (2, 191) := by kernel_rfl
theorem z_c : zba zq7 = 190 := by kernel_rfl
theorem z_n : zbt zq4 [-1, -1, 0] (0, 0, 0) = (0, 1, 1) := by kernel_rfl
theorem zya : zdN zaF 2 2 = 1 := by kernel_rfl
theorem zE9 : zdN zaF 3 2 = 0 := by kernel_rfl
theorem zzR : zfk zaF 2 2 = [] := by kernel_rfl
theorem zzQ : zfZ zaF 2 2 = [] := by kernel_rfl
theorem z_f : zfZ zaF 3 2 = zdO := by kernel_rfl
theorem zFa : (zfk zaF 3 2).length = 5 := by kernel_rfl
theorem z_k : ¬ ¬ zba zaF = 0 := by rw [show zba zaF = 0 by kernel_rfl]; simp
instance (b : BK) : Decidable (zgy b) := by unfold zgy; infer_instance
def okB (s : AS) (i : Int) : Bool := decide (0 <= i) && decide (i < s.code.length) && decide (s.code.length <= 4000) && decide (∀ r ∈ zak (nth s.code i), (zas MII r.n (s.bank r).at_).isSome = true) &&
 decide ((zal (nth s.code i)).2 = true -> zgy (zfx (zgS s i (nth s.code i)) (nth s.code i))) && decide (s.L.length <= 1000000) && decide (s.fr.length <= 1000000)
theorem zhG {s : AS} {i : Int} (h : okB s i = true) (hu : s.us = (zaW zaF).1) (hd : s.ds = (zaW zaF).2) : zeV s i := by
 simp only [okB, Bool.and_eq_true, decide_eq_true_eq] at h
 obtain ⟨⟨⟨⟨⟨⟨h1, h2⟩, h3⟩, h4⟩, h5⟩, h6⟩, h7⟩ := h
 exact ⟨h1, h2, h3, by rw [hu, hd]; exact zsL z_k, h4, h5, h6, h7⟩
theorem zzc : zp1 zaF 2 2 := fun h => by rw [zya] at h; cases h
theorem zzd : zp1 zaF 3 2 := fun _ i h1 h2 => by
 have h2 : i < 5 := h2
 have : i = 0 \/ i = 1 \/ i = 2 \/ i = 3 \/ i = 4 := by omega
 rcases this with rfl | rfl | rfl | rfl | rfl
 . exact zhG (by kernel_rfl) (by kernel_rfl) (by kernel_rfl)
 . exact zhG (by kernel_rfl) (by kernel_rfl) (by kernel_rfl)
 . exact zhG (by kernel_rfl) (by kernel_rfl) (by kernel_rfl)
 . exact zhG (by kernel_rfl) (by kernel_rfl) (by kernel_rfl)
 . exact zhG (by kernel_rfl) (by kernel_rfl) (by kernel_rfl)
abbrev ok_ (f : FuncId) (L : zaa) : Prop := zaa.ok Tryz.prog GG f L
def Z47 : zaa := ⟨[], [], [], [.vec 15 (zaF.map HI.pv)], .slc 0 0 5⟩
theorem zzW : ok_ 47 Z47 := s47
def Z21 : zaa := ⟨[hiS zaF], [], [], [], .tup [kz 2, kz 0, kz 0]⟩
theorem zzT : ok_ 21 Z21 := by have h := s21 zaF; unfold L21 at h; rw [zuj] at h; exact h
def zqF : zaa := ⟨[hiS zaF, kz 2], [], [], [.vec 2 ([r0, r1, r0].map HR.pv)], .tup [.slc 0 0 2, kz 0]⟩
theorem zye : ok_ 16 zqF := by have h := s16 zaF 2 zyd; unfold L16 at h; rw [zyb, zFd, zFb] at h; exact h
def zqG : zaa := ⟨[hiS zaF, kz 3], [], [], [.vec 2 ([r2, r0, r0].map HR.pv)], .tup [.slc 0 0 1, kz 0]⟩
theorem zyf : ok_ 16 zqG := by have h := s16 zaF 3 zyd; unfold L16 at h; rw [zyc, zFe, zFc] at h; exact h
theorem zqR {f : FuncId} {b : Bool} (a : List SV) (hb : b = true) (h : ok_ f ⟨a, [], [], [], .bool b⟩) : ok_ f ⟨a, [], [], [], .tt⟩ := by
 subst hb
 obtain ⟨h1, h2, h3⟩ := h
 refine ⟨h1, h2, fun β own S w vs q1 q2 q3 q4 => (h3 β own S w vs q1 q2 q3 q4).mono ?_⟩
 rintro e w' ⟨v, β', own', S', p1, p2, p3, p4, p5⟩
 exact ⟨v, β', own', S', p1, p2, p3, by simpa only [rel] using p4, p5⟩
def zvg : zaa := ⟨[.rd (.sl 2 ([r0, r1].map HR.pv)), .rd (.sl 2 ([r0, r1].map HR.pv))], [], [], [], .tt⟩
theorem zyg : ok_ 20 zvg := zqR (b := decide ([r0, r1] = [r0, r1])) _ (by decide) (s20 [r0, r1] [r0, r1] (by decide))
def zvh : zaa := ⟨[.rd (.sl 2 ([r2].map HR.pv)), .rd (.sl 2 ([r2].map HR.pv))], [], [], [], .tt⟩
theorem zyh : ok_ 20 zvh := zqR (b := decide ([r2] = [r2])) _ (by decide) (s20 [r2] [r2] (by decide))
def Z49 : zaa := ⟨[.rd (.sl 1 (zdO.map ipv)), .rd (.sl 1 (zdO.map ipv))], [], [], [], .tt⟩
theorem zzY : ok_ 49 Z49 := zqR (b := decide (zdO = zdO)) _ (by decide) (s49 zdO zdO (by decide))
def Z48 : zaa := ⟨[kz 5], [], [], [.vec 1 (zdO.map ipv)], .slc 0 0 5⟩
theorem zzX : ok_ 48 Z48 := s48
def Z24 (a : List HI) (e : Int × Int) : zaa := ⟨[hiS zaF, .agg [hiS a, inS zdO], kz 3, kz 2], [], [], [], .tup [kz e.1, kz e.2]⟩
theorem zoL {a : List HI} {e : Int × Int} (ha : a.length <= 1000000) (h : zaT zaF ⟨a, zdO⟩ 3 2 = e) : ok_ 24 (Z24 a e) := by
 have h2 := s24 zaF ⟨a, zdO⟩ 3 2 ha (show zdO.length <= 1000000 by decide)
 unfold L24 at h2
 rw [h] at h2
 exact h2
def Z31 : zaa := ⟨[hiS zaF], [], [], [.vec 15 (zaF.map HI.pv)], .slc 0 0 5⟩
theorem zzV : ok_ 31 Z31 := s31 zaF (by decide)
def Z18 : zaa := ⟨[hiS zq7], [], [], [], kz 190⟩
theorem zzS : ok_ 18 Z18 := by have h := s18 zq7; unfold L18 at h; rw [z_c] at h; exact h
def Z26 : zaa := ⟨[.agg [hiS zq4, inS [-1, -1, 0]]], [], [], [], .tup [kz 0, kz 1, kz 1]⟩
theorem zzU : ok_ 26 Z26 := by have h := s26 ⟨zq4, [-1, -1, 0]⟩ (by decide); unfold L26 at h; rw [z_n] at h; exact h
def zqH : zaa := ⟨[hiS zaF, kz 2, kz 2], [], [], [.vec 15 [], .vec 1 []], .tup [.agg [.slc 0 0 0, .slc 1 0 0], kz 1]⟩
theorem zyi : ok_ 28 zqH := by have h := s28 zaF 2 2 zzc; unfold L28 at h; rw [zya, zzR, zzQ] at h; exact h
def zqI : zaa := ⟨[hiS zaF, kz 3, kz 2], [], [], [.vec 15 ((zfk zaF 3 2).map HI.pv), .vec 1 (zdO.map ipv)], .tup [.agg [.slc 0 0 5, .slc 1 0 5], kz 0]⟩
theorem zyj : ok_ 28 zqI := by have h := s28 zaF 3 2 zzd; unfold L28 at h; rw [zE9, zFa, z_f] at h; exact h
theorem zhI {f : FuncId} {L : zaa} (h : ok_ f L) : FnS Tryz.prog GG f (fun _ k => k L) := fun _ _ _ _ _ _ _ _ hr => ⟨L, _, h, hr⟩
noncomputable def zqB : SFn
 | [_, .int _ (.ofNat 2)], k => k zqF
 | [_, .int _ (.ofNat 3)], k => k zqG
 | _, _ => .fail
theorem zE1 : FnS Tryz.prog GG 16 zqB := by
 intro args k gt go R v os n h
 unfold zqB at h
 split at h
 . exact ⟨_, _, zye, h⟩
 . exact ⟨_, _, zyf, h⟩
 . cases h
noncomputable def zqC : SFn
 | [_, .slc _ _ 2], k => k zvg
 | [_, .slc _ _ 1], k => k zvh
 | _, _ => .fail
theorem zE2 : FnS Tryz.prog GG 20 zqC := by
 intro args k gt go R v os n h
 unfold zqC at h
 split at h
 . exact ⟨_, _, zyg, h⟩
 . exact ⟨_, _, zyh, h⟩
 . cases h
noncomputable def zqE : SFn
 | [_, .int _ (.ofNat 2), _], k => k zqH
 | [_, .int _ (.ofNat 3), _], k => k zqI
 | _, _ => .fail
theorem zE4 : FnS Tryz.prog GG 28 zqE := by
 intro args k gt go R v os n h
 unfold zqE at h
 split at h
 . exact ⟨_, _, zyi, h⟩
 . exact ⟨_, _, zyj, h⟩
 . cases h
noncomputable def zqD : SFn
 | [_, .agg [.slc 0 _ _, _], _, _], k => k (Z24 zaF (0, 0))
 | [_, .agg [.slc 6 _ _, _], _, _], k => k (Z24 zx6 (0, 0))
 | [_, .agg [.slc 7 _ _, _], _, _], k => k (Z24 zvy (2, 191))
 | _, _ => .fail
theorem zE3 : FnS Tryz.prog GG 24 zqD := by
 intro args k gt go R v os n h
 unfold zqD at h
 split at h
 . exact ⟨_, _, zoL (by decide) zE6, h⟩
 . exact ⟨_, _, zoL (by decide) zE7, h⟩
 . exact ⟨_, _, zoL (by decide) zE8, h⟩
 . cases h
noncomputable def zEK : List (FuncId × SFn) := [(47, fun _ k => k Z47), (21, fun _ k => k Z21), (16, zqB), (20, zqC), (48, fun _ k => k Z48), (24, zqD), (31, fun _ k => k Z31), (18, fun _ k => k Z18), (28, zqE), (26, fun _ k => k Z26), (49, fun _ k => k Z49)]
theorem zyI (l : List HR) : ∀ e ∈ l.map HR.pv, ∀ p ∈ e, PV.flat p := fun e he p hp => by
 obtain ⟨a, _, rfl⟩ := List.mem_map.1 he
 simp only [HR.pv, List.mem_cons, List.not_mem_nil, or_false] at hp
 rcases hp with rfl | rfl <;> simp [PV.flat]
theorem zok (l : List HI) : ∀ e ∈ l.map HI.pv, ∀ p ∈ e, PV.flat p := fun e he p hp => by
 obtain ⟨a, _, rfl⟩ := List.mem_map.1 he
 simp only [HI.pv, List.mem_cons, List.not_mem_nil, or_false] at hp
 rcases hp with rfl | rfl | rfl | rfl | rfl | rfl | rfl | rfl | rfl | rfl | rfl | rfl | rfl | rfl | rfl <;> simp [PV.flat]
theorem zsD (l : List Int) : ∀ e ∈ l.map ipv, ∀ p ∈ e, PV.flat p := fun e he p hp => by
 obtain ⟨a, _, rfl⟩ := List.mem_map.1 he
 simp only [ipv, List.mem_cons, List.not_mem_nil, or_false] at hp
 subst hp; simp [PV.flat]
noncomputable def L14 : zaa := ⟨[], [], [], [], .tt⟩
set_option maxHeartbeats 8000000 in
theorem s14 : zaa.ok Tryz.prog GG 14 L14 := by
 refine zad mix k14 _ rfl rfl (Tab.ok (l := zEK) ⟨zhI zzW, zhI zzT, zE1, zE2, zhI zzX, zE3, zhI zzV, zhI zzS, zE4, zhI zzU, zhI zzY, trivial⟩) noL noJ ?_
 repeat' ((conv => whnf); first
  | exact trivial
  | with_reducible first | refine aj ?_ | refine ai rfl ?_ | refine ai ⟨rfl, rfl⟩ ?_
  | ((with_reducible refine ai ?_ ?_); focus exact w3)
  | refine And.intro (Sd.mk (by decide)) ?_
  | refine And.intro (Sd.mk (p := _ = _ /\ _) ⟨by rfl, by decide⟩) ?_
  | with_reducible first | refine And.intro ?_ ?_ | refine zae ?_ | refine exI (i64_in (by omega) (by omega)) ?_
  | refine exI (x := ULift.up _) (Eq.refl _) ?_
  | refine exI (x := ULift.up _) ⟨rfl, by omega, Eq.refl _⟩ ?_
  | exact ny
  | ((with_reducible intro h); try dsimp only at h))
 all_goals (refine Sd.mk ?_)
 all_goals (simp only [zaa.flat, Z21, zqF, zqG, Z24, Z31, zqH, zqI, Z26, SV.flat, zc2, zhx, zeI, SO.flat, and_true, true_and])
 all_goals first
  | done
  | exact zyI _
  | exact zok _
  | exact ⟨zok _, zsD _⟩
  | exact ⟨zok [], zsD []⟩
end
section
def c23 : MC := .seq (.reg [oo 1 (.box (.t 0)),oo 2 (.mv kf)]) (.seq (.reg [oo 3 (fl 0 1),oo 4 (ln 3),oo 5 (.lenS (.t 4)),oo 6 (cc .leq 5 2000),sm 7 6,gt_ 7 8 (fl 1 1),gt_ 7 9 (ln 8),gt_ 7 10 (.lenS (.t 9)),gt_ 7 11 (cc .leq 10 2000),oo 12 (pf 7 11),om 2 12]) (.ret))
theorem k23 : zar Tryz.prog 23 13 c23 [.t 2] := fk Tryz.func23 ⟨tv,⟨tv,tv⟩⟩
def zdc (a : AL) : Bool := if (a.L.length : Int) <= 2000 then decide ((a.fr.length : Int) <= 2000) else false
noncomputable def L23 (a : AL) : zaa := ⟨[.agg a.cells], [], [], [], .bool (zdc a)⟩
theorem s23 (a : AL) : zaa.ok Tryz.prog GG 23 (L23 a) := by
 refine zad mix k23 _ rfl rfl (Tab.ok (l := []) trivial) noL noJ ?_
 repeat' ((conv => whnf); first
  | exact trivial
  | with_reducible first | refine aj ?_ | refine ai rfl ?_ | refine ai ⟨rfl, rfl⟩ ?_
  | ((with_reducible refine ai ?_ ?_); focus exact w3)
  | with_reducible first | refine And.intro ?_ ?_ | refine zae ?_ | refine exI (i64_in (by omega) (by omega)) ?_
  | refine exI (x := ULift.up _) (Eq.refl _) ?_
  | refine exI (x := ULift.up _) ⟨rfl, by omega, Eq.refl _⟩ ?_
  | exact ny
  | ((with_reducible intro h); try dsimp only at h))
 all_goals (refine Sd.mk ?_; unfold zdc; simp_all; try omega)
noncomputable def S23 : SFn
 | [a0], k => zqP a0 fun a => k (L23 a)
 | _, _ => .fail
theorem t23 : FnS Tryz.prog GG 23 S23 := by
 intro args k gt go R v os n h
 unfold S23 at h
 split at h
 . obtain ⟨a, _, h⟩ := zqQ h
   exact ⟨_, _, s23 a, h⟩
 . cases h
end
section
theorem ziG {l : List HI} {a : AL} {w v : Int} (h : (zaT l a w v).2 = 0) : zbE l w v = 0 /\ (∃ es, za2 l w v a.L a.fr [] 0 = .inr es) /\ zbu ⟨a.L, a.fr, l⟩ = true := by
 unfold zaT at h
 split at h
 . next c => exact absurd h c
 . next c =>
   refine ⟨Classical.not_not.1 c, ?_⟩
   revert h
   have c' : zbE l w v = 0 := Classical.not_not.1 c
   cases e : za2 l w v a.L a.fr [] 0 with
   | inl k => intro h; exact absurd (show (191 : Int) = 0 from h) (by decide)
   | inr es =>
     intro h
     refine ⟨⟨es, rfl⟩, ?_⟩
     cases o : zbu ⟨a.L, a.fr, l⟩ with
     | true => rfl
     | false => rw [o] at h; exact absurd (show (191 : Int) = 0 from h) (by decide)
end
section
open Go.RowKit Go.Lib Go.Proofs
theorem zcc {P : Program} (w : World) (dT sT ty elem : TypeId) (s : Nat) (b o dLen dCap : Nat) (a : Addr) (sLen sCap : Nat) (cs : List Value)
 (hu : P.underlying dT = some (.slice elem)) (hs : (P.info? elem).map (·.size) = some s) (hn : cs.length = min sLen dLen * s) (m : Nat) (hm : min sLen dLen = m)
 (hsrc : ∀ j v, cs[j]? = some v -> w.cell? (a.add j) = some v) (hc : ∀ j, j < cs.length -> (w.cell? ⟨b, o + j, none⟩).isSome = true) (hf : ∀ j, j < cs.length -> w.frozen? ⟨b, o + j, none⟩ = false) (h1 : ∀ v ∈ cs, v.oneCell' = true) :
 (Builtin.copy_ #[dT, sT] ty #[.slice (some ⟨b, o, none⟩) dLen dCap, .slice (some a) sLen sCap]).run P w = .ok (goInt m) (w.setCells b o cs) := by
  have hl := run_loadCells_list (P := P) w a cs hsrc
  have hst := run_storeCells_cells (P := P) b o cs 0 w (by simpa using hc) (by simpa using hf) h1
  have hm' : Nat.min sLen dLen = m := hm
  rw [hm] at hn
  cases hq : P.info? elem with
  | none => simp [hq] at hs
  | some i =>
    have hi : i.size = s := by simpa [hq] using hs
    simp [Builtin.copy_, run_underlying hu, Builtin.lenOf, Builtin.firstCells, sizeOf, typeInfo, hq, hi, hm', <- hn, hl, hst]
theorem zdW (b : Nat) (vs : List Value) (o : Nat) (w : World) (h : ∀ j, j < vs.length -> (w.cell? ⟨b, o + j, none⟩).isSome = true) (k : Nat) (hk : (w.cell? ⟨b, k, none⟩).isSome = true) : ((w.setCells b o vs).cell? ⟨b, k, none⟩).isSome = true :=
 isSome_setCells b vs o w h k hk
end
section
open Go.RowKit Go.Lib Go.Proofs
set_option maxHeartbeats 4000000 in
theorem zwd (b n c i vb vc : Nat) (cs vs : List Value) (w : World) (hi : i < n) (hroom : n + 1 <= c) (hc63 : n <= 1000000) (hvb : vb ≠ b)
 (hcl : cs.length = n * 15) (hvl : vs.length = 15)
 (hcs : ∀ j v, cs[j]? = some v -> w.cell? ⟨b, j, none⟩ = some v) (hsp : ∀ j, j < (n + 1) * 15 -> (w.cell? ⟨b, j, none⟩).isSome = true) (hfz : ∀ j, w.frozen? ⟨b, j, none⟩ = false)
 (hvs : ∀ j v, vs[j]? = some v -> w.cell? ⟨vb, j, none⟩ = some v) (h1c : ∀ v ∈ cs, v.oneCell' = true) (h1v : ∀ v ∈ vs, v.oneCell' = true)
 (tA tB : TypeId) (kA kB : Nat) (hsa : w.shape? vb = some (tA, kA)) (hsb : w.shape? b = some (tB, kB)) (hkB : kB ≠ 0) (hfa : w.frozen? ⟨vb, 0, none⟩ = false) (hfe : w.frozen? ⟨vb, kA, none⟩ = false) :
 Calls Tryz.prog 40 #[.slice (some ⟨b, 0, none⟩) n c, .int .i64 i, .slice (some ⟨vb, 0, none⟩) 1 vc] w fun e w' =>
  e = .returned (.slice (some ⟨b, 0, none⟩) (n + 1) c) /\ w' = (w.drew.setCells b ((i + 1) * 15) (cs.drop (i * 15))).setCells b (i * 15) vs := by
  have hz2 : ¬ ((i : Int) = (n : Int)) := by omega
  have hsz : (Tryz.prog.info? 63).map (·.size) = some 15 := by kernel_rfl
  have hov : ∀ o lb cb, (callFunc 87 #[.slice (some ⟨vb, 0, none⟩) 1 vc, .slice (some ⟨b, o, none⟩) lb cb]).run Tryz.prog w = .ok (.value (.bool false)) w := fun o lb cb => by
   rw [run_callFunc_extern Tryz.func87 (by kernel_rfl) (by kernel_rfl) (by kernel_rfl) (e := Extern.SlicesOverlaps.overlaps #[22, 22] #[4]) (by kernel_rfl),
    Lib.run_overlaps_apart w 22 4 63 Tryz.underlying22 15 (fun _ => by simp [go_sem]) ⟨vb, 0, none⟩ ⟨b, o, none⟩ 1 vc lb cb hvb tA tB kA kB hsa hsb hkB hfa hfe]
   rfl
  have hdl : (cs.drop (i * 15)).length = (n - i) * 15 := by have := List.length_drop (i := i * 15) (l := cs); omega
  have mixed := mix
  have hw1 : IntKind.i64.wrap ((i : Int) + 1) = (i : Int) + 1 := by rw [IntKind.wrap_i64]; omega
  have hw2 : IntKind.i64.wrap ((n : Int) + 1) = (n : Int) + 1 := by rw [IntKind.wrap_i64]; omega
  have hb1 : (0 : Int) <= (i : Int) + 1 := by omega
  have hin : i <= n := by omega
  have htn : ((i : Int) + 1).toNat = i + 1 := by omega
  have htm : ((n : Int) + 1).toNat = n + 1 := by omega
  have hb2 : ¬ (c = i + 1) := by omega
  have hb3 : (i : Int) <= (n : Int) + 1 := by omega
  have hb4 : ¬ (c = i) := by omega
  have hcp1 : ∀ ty dc sc, (Builtin.copy_ #[22, 22] ty #[.slice (some ⟨b, (i + 1) * 15, none⟩) (n - i) dc, .slice (some ⟨b, i * 15, none⟩) (n + 1 - i) sc]).run Tryz.prog w.drew = .ok (goInt (n - i : Nat)) (w.drew.setCells b ((i + 1) * 15) (cs.drop (i * 15))) := fun ty dc sc =>
   zcc w.drew _ _ ty 63 15 b ((i + 1) * 15) (n - i) dc ⟨b, i * 15, none⟩ (n + 1 - i) sc (cs.drop (i * 15)) Tryz.underlying22 hsz (by rw [show min (n + 1 - i) (n - i) = n - i by omega]; simpa using hdl) _ (by omega)
    (fun j v hj => by rw [Addr.add_lit]; exact hcs _ v (by rwa [List.getElem?_drop] at hj))
    (fun j hj => hsp _ (by omega)) (fun j hj => hfz _) (fun v hv => h1c v (List.mem_of_mem_drop hv))
  obtain ⟨W1, hW1⟩ : ∃ W1, W1 = w.drew.setCells b ((i + 1) * 15) (cs.drop (i * 15)) := ⟨_, rfl⟩
  have hsp1 : ∀ k, k < (n + 1) * 15 -> (W1.cell? ⟨b, k, none⟩).isSome = true := fun k hk => by
   rw [hW1]
   exact zdW b (cs.drop (i * 15)) ((i + 1) * 15) w.drew (fun j hj => hsp _ (by omega)) _ (hsp k hk)
  have hcp2 : ∀ (W : World), (∀ x, W.cell? x = W1.cell? x) -> (∀ x, W.frozen? x = W1.frozen? x) -> ∀ ty dc, (Builtin.copy_ #[22, 22] ty #[.slice (some ⟨b, i * 15, none⟩) (n + 1 - i) dc, .slice (some ⟨vb, 0, none⟩) 1 vc]).run Tryz.prog W = .ok (goInt (1 : Nat)) (W.setCells b (i * 15) vs) := fun W hWc hWf ty dc =>
   zcc W _ _ ty 63 15 b (i * 15) (n + 1 - i) dc ⟨vb, 0, none⟩ 1 vc vs Tryz.underlying22 hsz (by rw [hvl, show min 1 (n + 1 - i) = 1 by omega]) _ (by omega)
    (fun j v hj => by
     rw [Addr.add_lit, hWc, hW1, World.cell?_setCells_out b _ _ _ _ (fun h _ => absurd h hvb), Nat.zero_add]
     exact hvs j v hj)
    (fun j hj => by rw [hWc]; exact hsp1 _ (by omega)) (fun j hj => by rw [hWf, hW1, World.frozen?_setCells]; exact hfz _) h1v
  rw [<- hW1] at hcp1
  go_enter Tryz.func40, Tryz.ntmps40
  go_wp2_with (simp only [hov])
  go_region_law_o (refine step_copy_runI rfl _ _ 22 22 rfl _ _ (by simp [Act.eval, Act.put]) (by simp [Act.eval, Act.put]) (hcp1 _ _ _) ?_)
  go_wp2_with (at_builtin; refine wpList_copy_runI _ rfl _ _ 22 22 rfl _ _ rfl rfl (hcp2 _ (fun _ => rfl) (fun _ => rfl) _ _) ?_)
  go_ret
  first | exact ⟨rfl, rfl⟩ | exact ⟨rfl, by rw [hW1]⟩ | (refine ⟨rfl, ?_⟩; simp [hW1])
end
section
open Go.RowKit Go.Lib Go.Proofs
set_option maxHeartbeats 4000000 in
theorem zwe (b n c i vb vc : Nat) (cs vs : List Value) (w : World) (hi : i < n) (hroom : n + 1 <= c) (hc63 : n <= 1000000) (hvb : vb ≠ b)
 (hcl : cs.length = n) (hvl : vs.length = 1)
 (hcs : ∀ j v, cs[j]? = some v -> w.cell? ⟨b, j, none⟩ = some v) (hsp : ∀ j, j < (n + 1) -> (w.cell? ⟨b, j, none⟩).isSome = true) (hfz : ∀ j, w.frozen? ⟨b, j, none⟩ = false)
 (hvs : ∀ j v, vs[j]? = some v -> w.cell? ⟨vb, j, none⟩ = some v) (h1c : ∀ v ∈ cs, v.oneCell' = true) (h1v : ∀ v ∈ vs, v.oneCell' = true)
 (tA tB : TypeId) (kA kB : Nat) (hsa : w.shape? vb = some (tA, kA)) (hsb : w.shape? b = some (tB, kB)) (hkB : kB ≠ 0) (hfa : w.frozen? ⟨vb, 0, none⟩ = false) (hfe : w.frozen? ⟨vb, kA, none⟩ = false) :
 Calls Tryz.prog 41 #[.slice (some ⟨b, 0, none⟩) n c, .int .i64 i, .slice (some ⟨vb, 0, none⟩) 1 vc] w fun e w' =>
  e = .returned (.slice (some ⟨b, 0, none⟩) (n + 1) c) /\ w' = (w.drew.setCells b ((i + 1)) (cs.drop (i))).setCells b (i) vs := by
  have hz2 : ¬ ((i : Int) = (n : Int)) := by omega
  have hsz : (Tryz.prog.info? 3).map (·.size) = some 1 := by kernel_rfl
  have hov : ∀ o lb cb, (callFunc 89 #[.slice (some ⟨vb, 0, none⟩) 1 vc, .slice (some ⟨b, o, none⟩) lb cb]).run Tryz.prog w = .ok (.value (.bool false)) w := fun o lb cb => by
   rw [run_callFunc_extern Tryz.func89 (by kernel_rfl) (by kernel_rfl) (by kernel_rfl) (e := Extern.SlicesOverlaps.overlaps #[36, 36] #[4]) (by kernel_rfl),
    Lib.run_overlaps_apart w 36 4 3 Tryz.underlying36 1 (fun _ => by simp [go_sem]) ⟨vb, 0, none⟩ ⟨b, o, none⟩ 1 vc lb cb hvb tA tB kA kB hsa hsb hkB hfa hfe]
   rfl
  have hdl : (cs.drop (i)).length = (n - i) := by have := List.length_drop (i := i) (l := cs); omega
  have mixed := mix
  have hw1 : IntKind.i64.wrap ((i : Int) + 1) = (i : Int) + 1 := by rw [IntKind.wrap_i64]; omega
  have hw2 : IntKind.i64.wrap ((n : Int) + 1) = (n : Int) + 1 := by rw [IntKind.wrap_i64]; omega
  have hb1 : (0 : Int) <= (i : Int) + 1 := by omega
  have hin : i <= n := by omega
  have htn : ((i : Int) + 1).toNat = i + 1 := by omega
  have htm : ((n : Int) + 1).toNat = n + 1 := by omega
  have hb2 : ¬ (c = i + 1) := by omega
  have hb3 : (i : Int) <= (n : Int) + 1 := by omega
  have hb4 : ¬ (c = i) := by omega
  have hcp1 : ∀ ty dc sc, (Builtin.copy_ #[36, 36] ty #[.slice (some ⟨b, (i + 1), none⟩) (n - i) dc, .slice (some ⟨b, i, none⟩) (n + 1 - i) sc]).run Tryz.prog w.drew = .ok (goInt (n - i : Nat)) (w.drew.setCells b ((i + 1)) (cs.drop (i))) := fun ty dc sc =>
   zcc w.drew _ _ ty 3 1 b ((i + 1)) (n - i) dc ⟨b, i, none⟩ (n + 1 - i) sc (cs.drop (i)) Tryz.underlying36 hsz (by rw [show min (n + 1 - i) (n - i) = n - i by omega]; simpa using hdl) _ (by omega)
    (fun j v hj => by rw [Addr.add_lit]; exact hcs _ v (by rwa [List.getElem?_drop] at hj))
    (fun j hj => hsp _ (by omega)) (fun j hj => hfz _) (fun v hv => h1c v (List.mem_of_mem_drop hv))
  obtain ⟨W1, hW1⟩ : ∃ W1, W1 = w.drew.setCells b ((i + 1)) (cs.drop (i)) := ⟨_, rfl⟩
  have hsp1 : ∀ k, k < (n + 1) -> (W1.cell? ⟨b, k, none⟩).isSome = true := fun k hk => by
   rw [hW1]
   exact zdW b (cs.drop (i)) ((i + 1)) w.drew (fun j hj => hsp _ (by omega)) _ (hsp k hk)
  have hcp2 : ∀ (W : World), (∀ x, W.cell? x = W1.cell? x) -> (∀ x, W.frozen? x = W1.frozen? x) -> ∀ ty dc, (Builtin.copy_ #[36, 36] ty #[.slice (some ⟨b, i, none⟩) (n + 1 - i) dc, .slice (some ⟨vb, 0, none⟩) 1 vc]).run Tryz.prog W = .ok (goInt (1 : Nat)) (W.setCells b (i) vs) := fun W hWc hWf ty dc =>
   zcc W _ _ ty 3 1 b (i) (n + 1 - i) dc ⟨vb, 0, none⟩ 1 vc vs Tryz.underlying36 hsz (by rw [hvl, show min 1 (n + 1 - i) = 1 by omega]) _ (by omega)
    (fun j v hj => by
     rw [Addr.add_lit, hWc, hW1, World.cell?_setCells_out b _ _ _ _ (fun h _ => absurd h hvb), Nat.zero_add]
     exact hvs j v hj)
    (fun j hj => by rw [hWc]; exact hsp1 _ (by omega)) (fun j hj => by rw [hWf, hW1, World.frozen?_setCells]; exact hfz _) h1v
  rw [<- hW1] at hcp1
  go_enter Tryz.func41, Tryz.ntmps41
  go_wp2_with (simp only [hov])
  go_region_law_o (refine step_copy_runI rfl _ _ 36 36 rfl _ _ (by simp [Act.eval, Act.put]) (by simp [Act.eval, Act.put]) (hcp1 _ _ _) ?_)
  go_wp2_with (at_builtin; refine wpList_copy_runI _ rfl _ _ 36 36 rfl _ _ rfl rfl (hcp2 _ (fun _ => rfl) (fun _ => rfl) _ _) ?_)
  go_ret
  first | exact ⟨rfl, rfl⟩ | exact ⟨rfl, by rw [hW1]⟩ | (refine ⟨rfl, ?_⟩; simp [hW1])
end
section
open Go.RowKit Go.Lib Go.Proofs
set_option maxHeartbeats 4000000 in
theorem zwb (b n c i vb vc : Nat) (cs vs : List Value) (w : World) (hi : i < n) (hnc : n <= c) (hroom : c < n + 1) (hbig : (n + 1) * 96 <= 140737488355328)
 (hcl : cs.length = n * 15) (hvl : vs.length = 15)
 (hcs : ∀ j v, cs[j]? = some v -> w.cell? ⟨b, j, none⟩ = some v)
 (hvs : ∀ j v, vs[j]? = some v -> w.cell? ⟨vb, j, none⟩ = some v) (h1c : ∀ v ∈ cs, v.oneCell' = true) (h1v : ∀ v ∈ vs, v.oneCell' = true) :
 Calls Tryz.prog 40 #[.slice (some ⟨b, 0, none⟩) n c, .int .i64 i, .slice (some ⟨vb, 0, none⟩) 1 vc] w fun e w' =>
  e = .returned (.slice (some ⟨w.heap.size, 0, none⟩) (n + 1) (grownCap w (n + 1) c 63)) ∧
  w' = (((w.alloc (.cells ((cs.take (i * 15)).toArray ++ Builtin.zeroCells (Value.agg #[.int .i64 0, .int .i64 0, .int .i64 0, .int .i64 0, .int .i64 0, .int .i64 0, .int .i64 0, .int .i64 0, .int .i64 0, .int .u32 0, .int .u32 0, .int .u32 0, .int .u32 0, .int .u32 0, .int .u32 0]).cells (n + 1 - i) ++ Builtin.zeroCells (Value.agg #[.int .i64 0, .int .i64 0, .int .i64 0, .int .i64 0, .int .i64 0, .int .i64 0, .int .i64 0, .int .i64 0, .int .i64 0, .int .u32 0, .int .u32 0, .int .u32 0, .int .u32 0, .int .u32 0, .int .u32 0]).cells (grownCap w (n + 1) c 63 - (n + 1))) 63)).drew.setCells w.heap.size (i * 15) vs).drew).setCells w.heap.size ((i + 1) * 15) (cs.drop (i * 15)) := by
  have mixed := mix
  obtain ⟨i0, hi0, hz0, hzs, hzb⟩ := info_parts (show (Tryz.prog.info? 63).map (fun i => (i.zero, i.size, i.bytes)) = some (some (Value.agg #[.int .i64 0, .int .i64 0, .int .i64 0, .int .i64 0, .int .i64 0, .int .i64 0, .int .i64 0, .int .i64 0, .int .i64 0, .int .u32 0, .int .u32 0, .int .u32 0, .int .u32 0, .int .u32 0, .int .u32 0]), 15, 96) by kernel_rfl)
  have hz2 : ¬ ((i : Int) = (n : Int)) := by omega
  have hz3 : (c : Int) < (n : Int) + 1 := by omega
  have hsz : (Tryz.prog.info? 63).map (·.size) = some 15 := by rw [hi0]; simp [hzs]
  have hbw : b < w.heap.size := block_lt_of_cell (hcs 0 _ (List.getElem?_eq_getElem (by omega)))
  have hvw : vb < w.heap.size := block_lt_of_cell (hvs 0 _ (List.getElem?_eq_getElem (by omega)))
  have hkk : (n : Int) + 1 - (i : Int) = ((n + 1 - i : Nat) : Int) := by omega
  have hik : i + (n + 1 - i) = n + 1 := by omega
  have hold : (Builtin.firstCells i0.size i (.slice (some ⟨b, 0, none⟩) i c)).run Tryz.prog w.drew = .ok (cs.take (i * 15)).toArray w.drew := by
   rw [hzs]
   exact run_firstCells_some w.drew 15 i ⟨b, 0, none⟩ i c (cs.take (i * 15)) (by rw [List.length_take]; omega) (fun j v hj => by
    rw [Addr.add_lit, Nat.zero_add]
    rw [List.getElem?_take] at hj
    split at hj
    . exact hcs j v hj
    . cases hj)
  have hrz : ∀ ty, (Builtin.append_ #[22, 3] ty #[.slice (some ⟨b, 0, none⟩) i c, .int .i64 ((n : Int) + 1 - (i : Int))]).run Tryz.prog w =
   .ok (.slice (some ⟨w.heap.size, 0, none⟩) (n + 1) (grownCap w (n + 1) c 63)) (w.drew.alloc (.cells ((cs.take (i * 15)).toArray ++ Builtin.zeroCells (Value.agg #[.int .i64 0, .int .i64 0, .int .i64 0, .int .i64 0, .int .i64 0, .int .i64 0, .int .i64 0, .int .i64 0, .int .i64 0, .int .u32 0, .int .u32 0, .int .u32 0, .int .u32 0, .int .u32 0, .int .u32 0]).cells (n + 1 - i) ++ Builtin.zeroCells (Value.agg #[.int .i64 0, .int .i64 0, .int .i64 0, .int .i64 0, .int .i64 0, .int .i64 0, .int .i64 0, .int .i64 0, .int .i64 0, .int .u32 0, .int .u32 0, .int .u32 0, .int .u32 0, .int .u32 0, .int .u32 0]).cells (grownCap w (n + 1) c 63 - (n + 1))) 63)) := fun ty => by
    have h := Lib.run_append_grow_zeros w 22 3 ty 63 i0 _ .i64 .i64 Tryz.underlying22 Tryz.underlying3 hi0 hz0 (some ⟨b, 0, none⟩) i c (cs.take (i * 15)) hold (n + 1 - i) (by omega) (by omega) (by omega) (by omega) (by rw [hzb]; omega) (by rw [hzb, hik]; exact growslice_fits hroom hbig)
    rw [hik] at h
    rw [hkk]
    exact h
  obtain ⟨G, hG⟩ : ∃ G, G = grownCap w (n + 1) c 63 := ⟨_, rfl⟩
  obtain ⟨ROW, hROW⟩ : ∃ ROW : Array Value, ROW = (cs.take (i * 15)).toArray ++ Builtin.zeroCells (Value.agg #[.int .i64 0, .int .i64 0, .int .i64 0, .int .i64 0, .int .i64 0, .int .i64 0, .int .i64 0, .int .i64 0, .int .i64 0, .int .u32 0, .int .u32 0, .int .u32 0, .int .u32 0, .int .u32 0, .int .u32 0]).cells (n + 1 - i) ++ Builtin.zeroCells (Value.agg #[.int .i64 0, .int .i64 0, .int .i64 0, .int .i64 0, .int .i64 0, .int .i64 0, .int .i64 0, .int .i64 0, .int .i64 0, .int .u32 0, .int .u32 0, .int .u32 0, .int .u32 0, .int .u32 0, .int .u32 0]).cells (G - (n + 1)) := ⟨_, rfl⟩
  rw [<- hG] at hrz ⊢
  rw [<- hROW] at hrz ⊢
  have hRl : (n + 1) * 15 <= ROW.size := by
   rw [hROW]
   simp [Builtin.zeroCells, Value.cells]
   omega
  obtain ⟨W1, hW1⟩ : ∃ W1, W1 = w.drew.alloc (.cells ROW 63) := ⟨_, rfl⟩
  rw [<- hW1] at hrz
  have hN : ∀ j, j < (n + 1) * 15 -> (W1.cell? ⟨w.heap.size, j, none⟩).isSome = true := fun j hj => by
   rw [hW1, World.cell?_alloc_at (w := w.drew) ROW _ w.heap.size j rfl, Array.getElem?_eq_getElem (by omega)]; rfl
  have hNf : ∀ j, W1.frozen? ⟨w.heap.size, j, none⟩ = false := fun j => by rw [hW1]; exact World.frozen?_alloc_at (w := w.drew) ROW _ w.heap.size j rfl
  have hOb : ∀ j v, w.cell? ⟨b, j, none⟩ = some v -> W1.cell? ⟨b, j, none⟩ = some v := fun j v h => by rw [hW1, World.cell?_alloc_past (w := w.drew) _ b j hbw]; exact h
  have hOv : ∀ j v, w.cell? ⟨vb, j, none⟩ = some v -> W1.cell? ⟨vb, j, none⟩ = some v := fun j v h => by rw [hW1, World.cell?_alloc_past (w := w.drew) _ vb j hvw]; exact h
  have hcpA : ∀ (W : World), (∀ x, W.cell? x = W1.cell? x) -> (∀ x, W.frozen? x = W1.frozen? x) -> ∀ ty dc, (Builtin.copy_ #[22, 22] ty #[.slice (some ⟨w.heap.size, i * 15, none⟩) (n + 1 - i) dc, .slice (some ⟨vb, 0, none⟩) 1 vc]).run Tryz.prog W = .ok (goInt (1 : Nat)) (W.setCells w.heap.size (i * 15) vs) := fun W hWc hWf ty dc =>
   zcc W _ _ ty 63 15 w.heap.size (i * 15) (n + 1 - i) dc ⟨vb, 0, none⟩ 1 vc vs Tryz.underlying22 hsz (by rw [hvl, show min 1 (n + 1 - i) = 1 by omega]) _ (by omega)
    (fun j v hj => by rw [Addr.add_lit, hWc, Nat.zero_add]; exact hOv _ v (hvs j v hj))
    (fun j hj => by rw [hWc]; exact hN _ (by omega)) (fun j hj => by rw [hWf]; exact hNf _) h1v
  have hGn : n + 1 <= G := by rw [hG]; exact grownCap_ge w _ _ _
  have hG63 : G <= 9223372036854775807 := by
   have := grownCap_le_maxLen w (n + 1) c 63 (by unfold maxLen; omega)
   rw [<- hG] at this
   unfold maxLen at this
   omega
  have hGi : ¬ (G = i) := by omega
  have hGim : ¬ (G = i + 1) := by omega
  have hci : ¬ (c = i) := by omega
  have hbN : b ≠ w.heap.size := by omega
  have hdl : (cs.drop (i * 15)).length = (n - i) * 15 := by have := List.length_drop (i := i * 15) (l := cs); omega
  have hcpB : ∀ (W : World), (∀ x, W.cell? x = (W1.setCells w.heap.size (i * 15) vs).cell? x) -> (∀ x, W.frozen? x = (W1.setCells w.heap.size (i * 15) vs).frozen? x) -> ∀ ty dc sc, (Builtin.copy_ #[22, 22] ty #[.slice (some ⟨w.heap.size, (i + 1) * 15, none⟩) (n - i) dc, .slice (some ⟨b, i * 15, none⟩) (n - i) sc]).run Tryz.prog W = .ok (goInt (n - i : Nat)) (W.setCells w.heap.size ((i + 1) * 15) (cs.drop (i * 15))) := fun W hWc hWf ty dc sc =>
   zcc W _ _ ty 63 15 w.heap.size ((i + 1) * 15) (n - i) dc ⟨b, i * 15, none⟩ (n - i) sc (cs.drop (i * 15)) Tryz.underlying22 hsz (by rw [show min (n - i) (n - i) = n - i by omega]; simpa using hdl) _ (by omega)
    (fun j v hj => by
     rw [Addr.add_lit, hWc, World.cell?_setCells_out _ _ _ _ _ (fun h _ => absurd h hbN)]
     exact hOb _ v (hcs _ v (by rwa [List.getElem?_drop] at hj)))
    (fun j hj => by rw [hWc]; exact zdW _ _ _ _ (fun t ht => hN _ (by omega)) _ (hN _ (by omega)))
    (fun j hj => by rw [hWf, World.frozen?_setCells]; exact hNf _) (fun v hv => h1c v (List.mem_of_mem_drop hv))
  subst hW1
  have hE1 : ∀ x, ((w.alloc (.cells ROW 63)).drew).cell? x = (w.drew.alloc (.cells ROW 63)).cell? x := fun x => rfl
  have hE2 : ∀ x, ((w.alloc (.cells ROW 63)).drew).frozen? x = (w.drew.alloc (.cells ROW 63)).frozen? x := fun x => rfl
  have hF1 : ∀ x, (((w.alloc (.cells ROW 63)).drew.setCells w.heap.size (i * 15) vs).drew).cell? x = ((w.drew.alloc (.cells ROW 63)).setCells w.heap.size (i * 15) vs).cell? x := fun x => rfl
  have hF2 : ∀ x, (((w.alloc (.cells ROW 63)).drew.setCells w.heap.size (i * 15) vs).drew).frozen? x = ((w.drew.alloc (.cells ROW 63)).setCells w.heap.size (i * 15) vs).frozen? x := fun x => rfl
  have hw1 : IntKind.i64.wrap ((i : Int) + 1) = (i : Int) + 1 := by rw [IntKind.wrap_i64]; omega
  have hw2 : IntKind.i64.wrap ((n : Int) + 1) = (n : Int) + 1 := by rw [IntKind.wrap_i64]; omega
  have hw3 : IntKind.i64.wrap ((n : Int) + 1 - (i : Int)) = (n : Int) + 1 - (i : Int) := by rw [IntKind.wrap_i64]; omega
  have hb1 : (0 : Int) <= (i : Int) + 1 := by omega
  have hin : i <= n := by omega
  have htn : ((i : Int) + 1).toNat = i + 1 := by omega
  have hb3 : (i : Int) <= (n : Int) := by omega
  clear hkk hik hold hROW hG hRl
  go_enter Tryz.func40, Tryz.ntmps40
  go_wp2_with (first
   | (at_builtin; refine Lib.wpList_append_run _ rfl _ _ _ _ rfl _ _ rfl rfl _ _ (hrz _) ?_)
   | (at_builtin; refine wpList_copy_runI _ rfl _ _ 22 22 rfl _ _ rfl rfl (hcpA _ hE1 hE2 _ _) ?_)
   | (at_builtin; refine wpList_copy_runI _ rfl _ _ 22 22 rfl _ _ rfl rfl (hcpB _ (fun _ => rfl) (fun _ => rfl) _ _ _) ?_))
  go_region_law_o (refine step_copy_runI rfl _ _ 22 22 rfl (.slice (some ⟨w.heap.size, (i + 1) * 15, none⟩) (n - i) (G - (i + 1))) (.slice (some ⟨b, i * 15, none⟩) (n - i) (c - i)) (by simp [Act.eval, Act.put]) (by simp [Act.eval, Act.put]) (hcpB _ hF1 hF2 3 (G - (i + 1)) (c - i)) ?_)
  go_wp2
  go_ret
  exact ⟨rfl, rfl⟩
end
section
open Go.RowKit Go.Lib Go.Proofs
set_option maxHeartbeats 4000000 in
theorem zwc (b n c i vb vc : Nat) (cs vs : List Value) (w : World) (hi : i < n) (hnc : n <= c) (hroom : c < n + 1) (hbig : (n + 1) * 8 <= 140737488355328)
 (hcl : cs.length = n) (hvl : vs.length = 1)
 (hcs : ∀ j v, cs[j]? = some v -> w.cell? ⟨b, j, none⟩ = some v)
 (hvs : ∀ j v, vs[j]? = some v -> w.cell? ⟨vb, j, none⟩ = some v) (h1c : ∀ v ∈ cs, v.oneCell' = true) (h1v : ∀ v ∈ vs, v.oneCell' = true) :
 Calls Tryz.prog 41 #[.slice (some ⟨b, 0, none⟩) n c, .int .i64 i, .slice (some ⟨vb, 0, none⟩) 1 vc] w fun e w' =>
  e = .returned (.slice (some ⟨w.heap.size, 0, none⟩) (n + 1) (grownCap w (n + 1) c 3)) ∧
  w' = (((w.alloc (.cells ((cs.take (i)).toArray ++ Builtin.zeroCells (Value.int .i64 0).cells (n + 1 - i) ++ Builtin.zeroCells (Value.int .i64 0).cells (grownCap w (n + 1) c 3 - (n + 1))) 3)).drew.setCells w.heap.size (i) vs).drew).setCells w.heap.size ((i + 1)) (cs.drop (i)) := by
  have mixed := mix
  obtain ⟨i0, hi0, hz0, hzs, hzb⟩ := info_parts (show (Tryz.prog.info? 3).map (fun i => (i.zero, i.size, i.bytes)) = some (some (Value.int .i64 0), 1, 8) by kernel_rfl)
  have hz2 : ¬ ((i : Int) = (n : Int)) := by omega
  have hz3 : (c : Int) < (n : Int) + 1 := by omega
  have hsz : (Tryz.prog.info? 3).map (·.size) = some 1 := by rw [hi0]; simp [hzs]
  have hbw : b < w.heap.size := block_lt_of_cell (hcs 0 _ (List.getElem?_eq_getElem (by omega)))
  have hvw : vb < w.heap.size := block_lt_of_cell (hvs 0 _ (List.getElem?_eq_getElem (by omega)))
  have hkk : (n : Int) + 1 - (i : Int) = ((n + 1 - i : Nat) : Int) := by omega
  have hik : i + (n + 1 - i) = n + 1 := by omega
  have hold : (Builtin.firstCells i0.size i (.slice (some ⟨b, 0, none⟩) i c)).run Tryz.prog w.drew = .ok (cs.take (i)).toArray w.drew := by
   rw [hzs]
   exact run_firstCells_some w.drew 1 i ⟨b, 0, none⟩ i c (cs.take (i)) (by rw [List.length_take]; omega) (fun j v hj => by
    rw [Addr.add_lit, Nat.zero_add]
    rw [List.getElem?_take] at hj
    split at hj
    . exact hcs j v hj
    . cases hj)
  have hrz : ∀ ty, (Builtin.append_ #[36, 3] ty #[.slice (some ⟨b, 0, none⟩) i c, .int .i64 ((n : Int) + 1 - (i : Int))]).run Tryz.prog w =
   .ok (.slice (some ⟨w.heap.size, 0, none⟩) (n + 1) (grownCap w (n + 1) c 3)) (w.drew.alloc (.cells ((cs.take (i)).toArray ++ Builtin.zeroCells (Value.int .i64 0).cells (n + 1 - i) ++ Builtin.zeroCells (Value.int .i64 0).cells (grownCap w (n + 1) c 3 - (n + 1))) 3)) := fun ty => by
    have h := Lib.run_append_grow_zeros w 36 3 ty 3 i0 _ .i64 .i64 Tryz.underlying36 Tryz.underlying3 hi0 hz0 (some ⟨b, 0, none⟩) i c (cs.take (i)) hold (n + 1 - i) (by omega) (by omega) (by omega) (by omega) (by rw [hzb]; omega) (by rw [hzb, hik]; exact growslice_fits hroom hbig)
    rw [hik] at h
    rw [hkk]
    exact h
  obtain ⟨G, hG⟩ : ∃ G, G = grownCap w (n + 1) c 3 := ⟨_, rfl⟩
  obtain ⟨ROW, hROW⟩ : ∃ ROW : Array Value, ROW = (cs.take (i)).toArray ++ Builtin.zeroCells (Value.int .i64 0).cells (n + 1 - i) ++ Builtin.zeroCells (Value.int .i64 0).cells (G - (n + 1)) := ⟨_, rfl⟩
  rw [<- hG] at hrz ⊢
  rw [<- hROW] at hrz ⊢
  have hRl : (n + 1) <= ROW.size := by
   rw [hROW]
   simp [Builtin.zeroCells, Value.cells]
   omega
  obtain ⟨W1, hW1⟩ : ∃ W1, W1 = w.drew.alloc (.cells ROW 3) := ⟨_, rfl⟩
  rw [<- hW1] at hrz
  have hN : ∀ j, j < (n + 1) -> (W1.cell? ⟨w.heap.size, j, none⟩).isSome = true := fun j hj => by
   rw [hW1, World.cell?_alloc_at (w := w.drew) ROW _ w.heap.size j rfl, Array.getElem?_eq_getElem (by omega)]; rfl
  have hNf : ∀ j, W1.frozen? ⟨w.heap.size, j, none⟩ = false := fun j => by rw [hW1]; exact World.frozen?_alloc_at (w := w.drew) ROW _ w.heap.size j rfl
  have hOb : ∀ j v, w.cell? ⟨b, j, none⟩ = some v -> W1.cell? ⟨b, j, none⟩ = some v := fun j v h => by rw [hW1, World.cell?_alloc_past (w := w.drew) _ b j hbw]; exact h
  have hOv : ∀ j v, w.cell? ⟨vb, j, none⟩ = some v -> W1.cell? ⟨vb, j, none⟩ = some v := fun j v h => by rw [hW1, World.cell?_alloc_past (w := w.drew) _ vb j hvw]; exact h
  have hcpA : ∀ (W : World), (∀ x, W.cell? x = W1.cell? x) -> (∀ x, W.frozen? x = W1.frozen? x) -> ∀ ty dc, (Builtin.copy_ #[36, 36] ty #[.slice (some ⟨w.heap.size, i, none⟩) (n + 1 - i) dc, .slice (some ⟨vb, 0, none⟩) 1 vc]).run Tryz.prog W = .ok (goInt (1 : Nat)) (W.setCells w.heap.size (i) vs) := fun W hWc hWf ty dc =>
   zcc W _ _ ty 3 1 w.heap.size (i) (n + 1 - i) dc ⟨vb, 0, none⟩ 1 vc vs Tryz.underlying36 hsz (by rw [hvl, show min 1 (n + 1 - i) = 1 by omega]) _ (by omega)
    (fun j v hj => by rw [Addr.add_lit, hWc, Nat.zero_add]; exact hOv _ v (hvs j v hj))
    (fun j hj => by rw [hWc]; exact hN _ (by omega)) (fun j hj => by rw [hWf]; exact hNf _) h1v
  have hGn : n + 1 <= G := by rw [hG]; exact grownCap_ge w _ _ _
  have hG63 : G <= 9223372036854775807 := by
   have := grownCap_le_maxLen w (n + 1) c 3 (by unfold maxLen; omega)
   rw [<- hG] at this
   unfold maxLen at this
   omega
  have hGi : ¬ (G = i) := by omega
  have hGim : ¬ (G = i + 1) := by omega
  have hci : ¬ (c = i) := by omega
  have hbN : b ≠ w.heap.size := by omega
  have hdl : (cs.drop (i)).length = (n - i) := by have := List.length_drop (i := i) (l := cs); omega
  have hcpB : ∀ (W : World), (∀ x, W.cell? x = (W1.setCells w.heap.size (i) vs).cell? x) -> (∀ x, W.frozen? x = (W1.setCells w.heap.size (i) vs).frozen? x) -> ∀ ty dc sc, (Builtin.copy_ #[36, 36] ty #[.slice (some ⟨w.heap.size, (i + 1), none⟩) (n - i) dc, .slice (some ⟨b, i, none⟩) (n - i) sc]).run Tryz.prog W = .ok (goInt (n - i : Nat)) (W.setCells w.heap.size ((i + 1)) (cs.drop (i))) := fun W hWc hWf ty dc sc =>
   zcc W _ _ ty 3 1 w.heap.size ((i + 1)) (n - i) dc ⟨b, i, none⟩ (n - i) sc (cs.drop (i)) Tryz.underlying36 hsz (by rw [show min (n - i) (n - i) = n - i by omega]; simpa using hdl) _ (by omega)
    (fun j v hj => by
     rw [Addr.add_lit, hWc, World.cell?_setCells_out _ _ _ _ _ (fun h _ => absurd h hbN)]
     exact hOb _ v (hcs _ v (by rwa [List.getElem?_drop] at hj)))
    (fun j hj => by rw [hWc]; exact zdW _ _ _ _ (fun t ht => hN _ (by omega)) _ (hN _ (by omega)))
    (fun j hj => by rw [hWf, World.frozen?_setCells]; exact hNf _) (fun v hv => h1c v (List.mem_of_mem_drop hv))
  subst hW1
  have hE1 : ∀ x, ((w.alloc (.cells ROW 3)).drew).cell? x = (w.drew.alloc (.cells ROW 3)).cell? x := fun x => rfl
  have hE2 : ∀ x, ((w.alloc (.cells ROW 3)).drew).frozen? x = (w.drew.alloc (.cells ROW 3)).frozen? x := fun x => rfl
  have hF1 : ∀ x, (((w.alloc (.cells ROW 3)).drew.setCells w.heap.size (i) vs).drew).cell? x = ((w.drew.alloc (.cells ROW 3)).setCells w.heap.size (i) vs).cell? x := fun x => rfl
  have hF2 : ∀ x, (((w.alloc (.cells ROW 3)).drew.setCells w.heap.size (i) vs).drew).frozen? x = ((w.drew.alloc (.cells ROW 3)).setCells w.heap.size (i) vs).frozen? x := fun x => rfl
  have hw1 : IntKind.i64.wrap ((i : Int) + 1) = (i : Int) + 1 := by rw [IntKind.wrap_i64]; omega
  have hw2 : IntKind.i64.wrap ((n : Int) + 1) = (n : Int) + 1 := by rw [IntKind.wrap_i64]; omega
  have hw3 : IntKind.i64.wrap ((n : Int) + 1 - (i : Int)) = (n : Int) + 1 - (i : Int) := by rw [IntKind.wrap_i64]; omega
  have hb1 : (0 : Int) <= (i : Int) + 1 := by omega
  have hin : i <= n := by omega
  have htn : ((i : Int) + 1).toNat = i + 1 := by omega
  have hb3 : (i : Int) <= (n : Int) := by omega
  clear hkk hik hold hROW hG hRl
  go_enter Tryz.func41, Tryz.ntmps41
  go_wp2_with (first
   | (at_builtin; refine Lib.wpList_append_run _ rfl _ _ _ _ rfl _ _ rfl rfl _ _ (hrz _) ?_)
   | (at_builtin; refine wpList_copy_runI _ rfl _ _ 36 36 rfl _ _ rfl rfl (hcpA _ hE1 hE2 _ _) ?_)
   | (at_builtin; refine wpList_copy_runI _ rfl _ _ 36 36 rfl _ _ rfl rfl (hcpB _ (fun _ => rfl) (fun _ => rfl) _ _ _) ?_))
  go_region_law_o (refine step_copy_runI rfl _ _ 36 36 rfl (.slice (some ⟨w.heap.size, (i + 1), none⟩) (n - i) (G - (i + 1))) (.slice (some ⟨b, i, none⟩) (n - i) (c - i)) (by simp [Act.eval, Act.put]) (by simp [Act.eval, Act.put]) (hcpB _ hF1 hF2 3 (G - (i + 1)) (c - i)) ?_)
  go_wp2
  go_ret
  exact ⟨rfl, rfl⟩
end
section
open Go.RowKit Go.Lib Go.Proofs
theorem zdC (b : Nat) (t : TypeId) : ∀ (vs : List Value) (o : Nat) (cur : Array Value) (w : World), w.heap[b]? = some (.cells cur t (0, 0)) -> o + vs.length <= cur.size →
 w.setCells b o vs = w.setRow b (cur.toList.take o ++ vs ++ cur.toList.drop (o + vs.length)).toArray
  | [], o, cur, w, hg, _ => by
    simp only [World.setCells, List.append_nil, List.length_nil, Nat.add_zero, List.take_append_drop, Array.toArray_toList]
    rw [setRow_self w b cur t (0, 0) hg]
  | v :: rest, o, cur, w, hg, hl => by
    rw [World.setCells, setCell_eq_setRow w b o cur t (0, 0) v hg, zdC b t rest (o + 1) (cur.setIfInBounds o v) (w.setRow b (cur.setIfInBounds o v)) (setRow_heap w b cur _ t _ hg) (by simp at hl ⊢; omega), setRow_setRow]
    congr 2
    have e := list_seg_step cur.toList o v rest (by simp at hl ⊢; omega)
    simpa [Array.toList_setIfInBounds, Nat.add_assoc] using e
theorem zzv {α : Type} {X V D : List α} {p q : Nat} (hq : V.length = q) (hl : p + q + D.length <= X.length) :
 ((X.take (p + q) ++ D ++ X.drop (p + q + D.length)).take p ++ V ++ (X.take (p + q) ++ D ++ X.drop (p + q + D.length)).drop (p + V.length)) = X.take p ++ V ++ (D ++ X.drop (p + q + D.length)) := by
  have h1 : (X.take (p + q)).length = p + q := by rw [List.length_take]; omega
  rw [List.append_assoc (X.take (p + q)), List.take_append_of_le_length (by omega), List.take_take, Nat.min_eq_left (by omega), hq]
  congr 1
  exact List.drop_left' h1
theorem zzw {α : Type} {X V D : List α} {p q : Nat} (hq : V.length = q) (hl : p + q + D.length <= X.length) :
 ((X.take p ++ V ++ X.drop (p + V.length)).take (p + q) ++ D ++ (X.take p ++ V ++ X.drop (p + V.length)).drop (p + q + D.length)) = X.take p ++ V ++ (D ++ X.drop (p + q + D.length)) := by
  have h1 : (X.take p ++ V).length = p + q := by rw [List.length_append, List.length_take]; omega
  have e1 : (X.take p ++ V ++ X.drop (p + V.length)).take (p + q) = X.take p ++ V := by rw [<- h1, List.take_left]
  have e2 : (X.take p ++ V ++ X.drop (p + V.length)).drop (p + q + D.length) = X.drop (p + q + D.length) := by
   rw [List.drop_append, List.drop_eq_nil_of_le (by omega), List.nil_append, List.drop_drop, h1]
   congr 1; omega
  rw [e1, e2, List.append_assoc, List.append_assoc]
theorem zrS {w : World} {S : Nat -> Prop} {s i : Nat} {R : List (List PV)} {r : List PV} {C V Z : List Value} (hC : zaq w S s R C) (hCl : C.length = R.length * s) (hV : zaq w S s [r] V) (hVl : V.length = s) (hi : i <= R.length) :
 zaq w S s (R.take i ++ r :: R.drop i) (C.take (i * s) ++ V ++ (C.drop (i * s) ++ Z)) := by
  have hle : i * s <= R.length * s := Nat.mul_le_mul_right _ hi
  rw [List.append_assoc, show r :: R.drop i = [r] ++ R.drop i from rfl]
  refine zbT (zcr hC (by omega)) (by rw [List.length_take, List.length_take]; rw [Nat.min_eq_left (by omega), Nat.min_eq_left hi]) ?_
  refine zbT hV (by rw [hVl]; simp) ?_
  refine zbD s _ _ _ (zdn hC) ?_
  have : (C.drop (i * s)).length = (R.drop i).length * s := by rw [List.length_drop, List.length_drop, hCl, Nat.sub_mul]
  rw [<- this, List.take_left, List.take_length]
abbrev zfu (s : Nat) (R : List (List PV)) (r : List PV) (i : Nat) : zaa := ⟨[.slc 0 0 R.length, .int .i64 i, .slc 1 0 1], [.vec s R, .vec s [r]], [none, none], [.vec s (R.take i ++ r :: R.drop i)], .slc 2 0 (R.length + 1)⟩
theorem zj8 {w : World} {b j : Nat} {arr : Array Value} {T : TypeId} {fz : Nat × Nat} (h : w.heap[b]? = some (.cells arr T fz)) : w.cell? ⟨b, j, none⟩ = arr[j]? := by simp [World.cell?, h]
theorem zpk {F E s : Nat} {zs : Array Value} (hs : 0 < s) (hzs : zs.size = s) (hEnt : zcp Tryz.prog F)
 (hsh : ∀ (b n c i vb vc : Nat) (cs vs : List Value) (w : World), i < n -> n + 1 <= c -> n <= 1000000 -> vb ≠ b -> cs.length = n * s -> vs.length = s →
  (∀ j v, cs[j]? = some v -> w.cell? ⟨b, j, none⟩ = some v) -> (∀ j, j < (n + 1) * s -> (w.cell? ⟨b, j, none⟩).isSome = true) -> (∀ j, w.frozen? ⟨b, j, none⟩ = false) →
  (∀ j v, vs[j]? = some v -> w.cell? ⟨vb, j, none⟩ = some v) -> (∀ v ∈ cs, v.oneCell' = true) -> (∀ v ∈ vs, v.oneCell' = true) →
  ∀ (tA tB : TypeId) (kA kB : Nat), w.shape? vb = some (tA, kA) -> w.shape? b = some (tB, kB) -> kB ≠ 0 -> w.frozen? ⟨vb, 0, none⟩ = false -> w.frozen? ⟨vb, kA, none⟩ = false →
  Calls Tryz.prog F #[.slice (some ⟨b, 0, none⟩) n c, .int .i64 i, .slice (some ⟨vb, 0, none⟩) 1 vc] w fun e w' =>
   e = .returned (.slice (some ⟨b, 0, none⟩) (n + 1) c) /\ w' = (w.drew.setCells b ((i + 1) * s) (cs.drop (i * s))).setCells b (i * s) vs)
 (hgr : ∀ (b n c i vb vc : Nat) (cs vs : List Value) (w : World), i < n -> n <= c -> c < n + 1 -> n + 1 <= 1000001 -> cs.length = n * s -> vs.length = s →
  (∀ j v, cs[j]? = some v -> w.cell? ⟨b, j, none⟩ = some v) -> (∀ j v, vs[j]? = some v -> w.cell? ⟨vb, j, none⟩ = some v) -> (∀ v ∈ cs, v.oneCell' = true) -> (∀ v ∈ vs, v.oneCell' = true) →
  Calls Tryz.prog F #[.slice (some ⟨b, 0, none⟩) n c, .int .i64 i, .slice (some ⟨vb, 0, none⟩) 1 vc] w fun e w' =>
   e = .returned (.slice (some ⟨w.heap.size, 0, none⟩) (n + 1) (grownCap w (n + 1) c E)) ∧
   w' = (((w.alloc (.cells ((cs.take (i * s)).toArray ++ Builtin.zeroCells zs (n + 1 - i) ++ Builtin.zeroCells zs (grownCap w (n + 1) c E - (n + 1))) E)).drew.setCells w.heap.size (i * s) vs).drew).setCells w.heap.size ((i + 1) * s) (cs.drop (i * s)))
 {R : List (List PV)} {r : List PV} {i : Nat} (hi : i < R.length) (hbig : R.length <= 1000000) : zaa.ok Tryz.prog GG F (zfu s R r i) := by
  refine ⟨hEnt, rfl, fun β own S w vs hβ hm ha hG => ?_⟩
  simp only [zam, rel] at ha
  obtain ⟨v0, l0, e0, ⟨B0, hB0, h0⟩, v1, l1, rfl, rfl, v2, l2, rfl, ⟨B1, hB1, h1⟩, rfl⟩ := ha
  obtain rfl : vs = #[v0, .int .i64 i, v2] := by cases vs; simp_all
  obtain ⟨B0', q, o0⟩ := hm.obj 0 (.vec s R) rfl
  rw [hB0] at q; cases q
  obtain ⟨B1', q, o1⟩ := hm.obj 1 (.vec s [r]) rfl
  rw [hB1] at q; cases q
  rcases o0 with ⟨_, q, _⟩ | ⟨b, arr, T, p1, p2, p3, p4, p5, p6, p7⟩
  . rw [q] at hi; simp at hi
  rcases o1 with ⟨_, q, _⟩ | ⟨vb, brr, U, k1, k2, k3, k4, k5, k6, k7⟩
  . cases q
  simp only [zaV, p1] at h0
  obtain ⟨off, c, rfl, hc1, hc2, hc3⟩ := h0
  simp only [zaV, k1] at h1
  obtain ⟨off1, vc, rfl, hd1, hd2, hd3⟩ := h1
  obtain rfl : off = 0 := by
   rcases hc3 with h | h
   . omega
   . simpa using h
  obtain rfl : off1 = 0 := by
   rcases hd3 with h | h
   . omega
   . simpa using h
  have hne : vb ≠ b := fun e => hm.sep 0 1 b (by decide) rfl rfl (by rw [p3]; rfl) (by rw [k3, e]; rfl)
  obtain ⟨c1, c2⟩ := zcN s _ _ p7
  obtain ⟨d1, d2⟩ := zcN s _ _ k7
  simp only [List.length_cons, List.length_nil, Nat.zero_add, Nat.one_mul] at d1 d2
  have al : arr.toList.length = arr.size := Array.length_toList ..
  have bl : brr.toList.length = brr.size := Array.length_toList ..
  obtain ⟨cs, hcs⟩ : ∃ cs, cs = arr.toList.take (R.length * s) := ⟨_, rfl⟩
  obtain ⟨ws, hws⟩ : ∃ ws, ws = brr.toList.take s := ⟨_, rfl⟩
  have csl : cs.length = R.length * s := by rw [hcs, List.length_take]; omega
  have wsl : ws.length = s := by rw [hws, List.length_take]; omega
  rw [<- hcs] at c1
  rw [<- hws] at d1
  have gcs : ∀ j v, cs[j]? = some v -> w.cell? ⟨b, j, none⟩ = some v := fun j v h => by
   rw [zj8 p4]
   rw [hcs, List.getElem?_take] at h
   split at h
   . simpa using h
   . cases h
  have gws : ∀ j v, ws[j]? = some v -> w.cell? ⟨vb, j, none⟩ = some v := fun j v h => by
   rw [zj8 k4]
   rw [hws, List.getElem?_take] at h
   split at h
   . simpa using h
   . cases h
  have relC : zaq w S s R cs := zbD s _ _ _ p7 (by rw [hcs, List.take_take, Nat.min_self])
  have relV : zaq w S s [r] ws := zbD s _ _ _ k7 (by rw [hws, List.take_take]; simp)
  have bS : ¬ S b := hm.st 0 b rfl (by rw [p3]; rfl)
  have is1 : (i + 1) * s = i * s + s := by rw [Nat.add_mul, Nat.one_mul]
  have isn : i * s + s <= R.length * s := by rw [<- is1]; exact Nat.mul_le_mul_right _ hi
  have dl : (cs.drop (i * s)).length = R.length * s - i * s := by rw [List.length_drop, csl]
  have n1 : (R.length + 1) * s = R.length * s + s := by rw [Nat.add_mul, Nat.one_mul]
  have g0 : ∀ id, ((zfu s R r i).go1 id).isSome -> id = 2 := fun id h => by
   rcases id with _ | _ | _ | id
   . cases h
   . cases h
   . rfl
   . simp [zaa.go1, zaQ] at h
  have g2 : (zfu s R r i).go1 2 = some (.vec s (R.take i ++ r :: R.drop i)) := rfl
  have fin : ∀ (N : Nat) (A : Array Value) (T' : TypeId) (c' : Nat) (w' : World), w'.os = w.os -> w'.tape = w.tape -> w'.output = w.output -> w.heap.size <= w'.heap.size -> (∀ k, k < w.heap.size -> k ≠ N -> w'.heap[k]? = w.heap[k]?) -> (N = b \/ N = w.heap.size) →
   w'.heap[N]? = some (.cells A T' (0, 0)) -> ∀ B' : zay, B'.blk = some N -> B'.str = s -> A.size = B'.cap * s -> R.length + 1 <= c' -> c' <= B'.cap -> (∃ Z, A.toList = cs.take (i * s) ++ ws ++ (cs.drop (i * s) ++ Z)) →
   ∃ v β' own' S', Ending.returned (.slice (some ⟨N, 0, none⟩) (R.length + 1) c') = .returned v /\ zgI 2 β w S β' w' S' /\ (∀ id, 2 + 1 <= id -> β' id = none) ∧
    rel β' w' S' (.slc 2 0 (R.length + 1)) v /\ zaw β' own' S' (zfu s R r i).go1 w' /\ Fr (za9 (zfu s R r i).go0 own) w w' ∧
    (∀ id b, ((zfu s R r i).go1 id).isSome -> own' id b -> za9 (zfu s R r i).go0 own b \/ w.heap.size <= b) /\ (∀ b, S' b -> S b \/ za9 (zfu s R r i).go0 own b \/ w.heap.size <= b) := by
    intro N A T' c' w' q1 q2 q3 q4 q5 qN q6 B' r1 r2 r3 r4 r5 ⟨Z, r6⟩
    have hNS : ¬ S N := by
     rcases qN with rfl | rfl
     . exact bS
     . exact fun h => Nat.lt_irrefl _ (hm.sz _ h)
    have hSh : ∀ k, S k -> w'.heap[k]? = w.heap[k]? := fun k hk => q5 k (hm.sz k hk) (fun e => hNS (e ▸ hk))
    have hown : N = b \/ w.heap.size <= N := qN.imp id (fun e => Nat.le_of_eq e.symm)
    have ob : za9 (zfu s R r i).go0 own b := ⟨0, rfl, by rw [p3]; rfl⟩
    refine ⟨_, upd β 2 (some B'), upd own 2 (zci N), S, rfl, ⟨fun j B hj h => by rw [zab _ _ (by omega)] at h; exact h, fun _ h => h, hSh⟩, fun id hid => by rw [zab _ _ (by omega)]; exact hβ id (by show 2 <= id; omega), ?_, ⟨?_, ?_, ?_, ?_⟩, ⟨q1, q2, q3, q4, ?_⟩, ?_, fun k hk => .inl hk⟩
    . simp only [rel]
      refine ⟨B', zac _ _ _, ?_⟩
      simp only [zaV, r1]
      exact ⟨0, c', rfl, r4, by omega, .inr (by simp)⟩
    . intro id o h
      obtain rfl := g0 id (by rw [h]; rfl)
      rw [g2] at h
      cases h
      refine ⟨B', zac _ _ _, .inr ⟨N, A, T', r1, r2, zac _ _ _, q6, r3, ?_, ?_⟩⟩
      . rw [List.length_append, List.length_take, List.length_cons, List.length_drop]; omega
      . rw [r6]
        exact zrS (za6 (fun _ h => h) hSh s _ _ relC) csl (za6 (fun _ h => h) hSh s _ _ relV) wsl (by omega)
    . intro id id' k hne' h h' _
      exact absurd ((g0 id h).trans (g0 id' h').symm) hne'
    . intro id k h hk
      obtain rfl := g0 id h
      rw [zac] at hk
      cases hk
      exact hNS
    . intro k hk
      exact Nat.lt_of_lt_of_le (hm.sz k hk) q4
    . intro k hk hx
      refine q5 k hk (fun e => ?_)
      rcases hown with h | h
      . exact hx (by rw [e, h]; exact ob)
      . omega
    . intro id k h hk
      obtain rfl := g0 id h
      rw [zac] at hk
      cases hk
      rcases hown with h | h
      . rw [h]; exact .inl ob
      . exact .inr h
  by_cases hroom : R.length + 1 <= c
  . have hb1 : R.length * s + s <= arr.size := by
     rw [p5, <- n1]; exact Nat.mul_le_mul_right _ (by omega)
    refine (hsh b R.length c i vb vc cs ws w hi hroom hbig hne csl wsl gcs (fun j hj => ?_) (fun j => by simp [World.frozen?, p4]) gws c1 d1 U T brr.size arr.size (by simp [World.shape?, k4]) (by simp [World.shape?, p4]) (by omega) (by simp [World.frozen?, k4]) (by simp [World.frozen?, k4])).mono ?_
    . rw [zj8 p4, Array.getElem?_eq_getElem (by omega)]; rfl
    rintro e w' ⟨rfl, rfl⟩
    have hl1 : i * s + s + (cs.drop (i * s)).length <= arr.toList.length := by omega
    obtain ⟨A1, hA1⟩ : ∃ A1, A1 = (arr.toList.take (i * s + s) ++ cs.drop (i * s) ++ arr.toList.drop (i * s + s + (cs.drop (i * s)).length)).toArray := ⟨_, rfl⟩
    have sz1 : A1.toList.length = arr.toList.length := by rw [hA1]; simp only [List.length_append, List.length_take, List.length_drop]; omega
    have al1 : A1.toList.length = A1.size := Array.length_toList ..
    obtain ⟨A2, hA2⟩ : ∃ A2, A2 = (A1.toList.take (i * s) ++ ws ++ A1.toList.drop (i * s + ws.length)).toArray := ⟨_, rfl⟩
    have e1 : w.drew.setCells b ((i + 1) * s) (cs.drop (i * s)) = w.drew.setRow b A1 := by
     rw [is1, zdC b T _ _ arr w.drew p4 (by omega), hA1]
    have e2 : (w.drew.setRow b A1).setCells b (i * s) ws = w.drew.setRow b A2 := by
     rw [zdC b T _ _ A1 _ (setRow_heap w.drew b arr A1 T (0, 0) p4) (by omega), setRow_setRow, hA2]
    have hlist : A2.toList = cs.take (i * s) ++ ws ++ (cs.drop (i * s) ++ arr.toList.drop (i * s + s + (cs.drop (i * s)).length)) := by
     rw [hA2, List.toList_toArray, hA1, List.toList_toArray, zzv wsl hl1]
     congr 2
     rw [hcs, List.take_take, Nat.min_eq_left (by omega)]
    have sz2 : A2.size = arr.size := by
     have : A2.toList.length = A2.size := Array.length_toList ..
     rw [<- this, hlist]
     simp only [List.length_append, List.length_take, List.length_drop] at hl1 dl ⊢
     omega
    rw [e1, e2]
    exact fin b A2 T c _ rfl rfl rfl (Nat.le_of_eq (Sx.zbX (w := w.drew) (g := b) (cs := A2)).symm) (fun k _ hk => Sx.zbL hk) (.inl rfl) (setRow_heap w.drew b arr A2 T (0, 0) p4) B0 p1 p2 (by rw [sz2]; exact p5) hroom (by omega) ⟨_, hlist⟩
  . refine (hgr b R.length c i vb vc cs ws w hi hc1 (by omega) (by omega) csl wsl gcs gws c1 d1).mono ?_
    rintro e w' ⟨rfl, rfl⟩
    have hG := grownCap_ge w (R.length + 1) c E
    generalize grownCap w (R.length + 1) c E = G at hG ⊢
    obtain ⟨ROW, hROW⟩ : ∃ ROW : Array Value, ROW = (cs.take (i * s)).toArray ++ Builtin.zeroCells zs (R.length + 1 - i) ++ Builtin.zeroCells zs (G - (R.length + 1)) := ⟨_, rfl⟩
    rw [<- hROW]
    have rl : ROW.toList.length = ROW.size := Array.length_toList ..
    have hz : ∀ k, (Builtin.zeroCells zs k).size = k * s := fun k => by simp [Builtin.zeroCells, hzs]
    have e3 : i * s + (R.length + 1 - i) * s = R.length * s + s := by rw [<- Nat.add_mul, <- n1]; congr 1; omega
    have e4 : R.length * s + s + (G - (R.length + 1)) * s = G * s := by rw [<- n1, <- Nat.add_mul]; congr 1; omega
    have hRs : ROW.size = G * s := by
     rw [hROW, Array.size_append, Array.size_append, hz, hz, List.size_toArray, List.length_take, csl]
     omega
    have w0 : ((w.alloc (.cells ROW E)).drew).heap[w.heap.size]? = some (.cells ROW E (0, 0)) := by
     show (w.heap.push _)[w.heap.size]? = _
     simp
    have hl1 : i * s + s + (cs.drop (i * s)).length <= ROW.toList.length := by omega
    obtain ⟨A1, hA1⟩ : ∃ A1, A1 = (ROW.toList.take (i * s) ++ ws ++ ROW.toList.drop (i * s + ws.length)).toArray := ⟨_, rfl⟩
    have sz1 : A1.toList.length = ROW.toList.length := by rw [hA1]; simp only [List.length_append, List.length_take, List.length_drop]; omega
    have al1 : A1.toList.length = A1.size := Array.length_toList ..
    obtain ⟨A2, hA2⟩ : ∃ A2, A2 = (A1.toList.take (i * s + s) ++ cs.drop (i * s) ++ A1.toList.drop (i * s + s + (cs.drop (i * s)).length)).toArray := ⟨_, rfl⟩
    have e1 : (w.alloc (.cells ROW E)).drew.setCells w.heap.size (i * s) ws = (w.alloc (.cells ROW E)).drew.setRow w.heap.size A1 := by
     rw [zdC w.heap.size E _ _ ROW _ w0 (by omega), hA1]
    have w1 : (((w.alloc (.cells ROW E)).drew.setRow w.heap.size A1).drew).heap[w.heap.size]? = some (.cells A1 E (0, 0)) := setRow_heap _ _ ROW A1 E (0, 0) w0
    have e2 : (((w.alloc (.cells ROW E)).drew.setRow w.heap.size A1).drew).setCells w.heap.size ((i + 1) * s) (cs.drop (i * s)) = (((w.alloc (.cells ROW E)).drew.setRow w.heap.size A1).drew).setRow w.heap.size A2 := by
     rw [is1, zdC w.heap.size E _ _ A1 _ w1 (by omega), hA2]
    have hlist : A2.toList = cs.take (i * s) ++ ws ++ (cs.drop (i * s) ++ ROW.toList.drop (i * s + s + (cs.drop (i * s)).length)) := by
     rw [hA2, List.toList_toArray, hA1, List.toList_toArray, zzw wsl hl1]
     congr 2
     rw [hROW]
     simp only [Array.toList_append, List.append_assoc]
     rw [List.take_append_of_le_length (by rw [List.length_take, csl]; omega), List.take_take, Nat.min_self]
    have sz2 : A2.size = ROW.size := by
     have : A2.toList.length = A2.size := Array.length_toList ..
     rw [<- this, hlist]
     simp only [List.length_append, List.length_take, List.length_drop] at hl1 dl ⊢
     omega
    rw [e1, e2]
    refine fin w.heap.size A2 E G _ rfl rfl rfl ?_ (fun k hk hne => ?_) (.inr rfl) (setRow_heap _ _ A1 A2 E (0, 0) w1) ⟨some w.heap.size, s, G⟩ rfl rfl (by rw [sz2]; exact hRs) hG (Nat.le_refl _) ⟨_, hlist⟩
    . rw [zbX]
      show w.heap.size <= ((w.alloc (.cells ROW E)).drew.setRow w.heap.size A1).heap.size
      rw [zbX]
      show w.heap.size <= (w.heap.push _).size
      simp
    . rw [Sx.zbL hne]
      show (((w.alloc (.cells ROW E)).drew.setRow w.heap.size A1)).heap[k]? = _
      rw [Sx.zbL hne]
      show (w.heap.push _)[k]? = _
      rw [Array.getElem?_push, if_neg (by omega)]
theorem zyF : zcp Tryz.prog 40 := zeY Tryz.func40 (by kernel_rfl) rfl
theorem zyG : zcp Tryz.prog 41 := zeY Tryz.func41 (by kernel_rfl) rfl
def zev {α : Type} (L : List α) (i : Int) (x : α) : List α := L.take i.toNat ++ x :: L.drop i.toNat
theorem zrt {α β : Type} {L : List α} {i : Int} {x : α} (f : α -> β) : (zev L i x).map f = (L.map f).take i.toNat ++ f x :: (L.map f).drop i.toNat := by
 unfold zev; simp [List.map_take, List.map_drop]
abbrev LIn {α : Type} (pv : α -> List PV) (s : Nat) (L : List α) (x : α) (i : Int) : zaa := ⟨[.slc 0 0 L.length, kz i, .slc 1 0 1], [.vec s (L.map pv), .vec s [pv x]], [none, none], [.vec s ((zev L i x).map pv)], .slc 2 0 (L.length + 1)⟩
theorem zoN {α : Type} {pv : α -> List PV} {s : Nat} {L : List α} {x : α} {i : Int} (h : 0 <= i) : LIn pv s L x i = zfu s (L.map pv) (pv x) i.toNat := by
 have e : ((i.toNat : Nat) : Int) = i := by omega
 unfold LIn zfu
 rw [zrt, e, List.length_map]
theorem s40 (L : List HI) (x : HI) (i : Int) (h : 0 <= i /\ i < L.length) (hb : L.length <= 1000000) : zaa.ok Tryz.prog GG 40 (LIn HI.pv 15 L x i) := by
 rw [zoN h.1]
 exact zpk (E := 63) (by decide) (show (Value.cells _).size = 15 from rfl) zyF
  (fun b n c i vb vc cs vs w h1 h2 h3 h4 h5 h6 h7 h8 h9 h10 h11 h12 tA tB kA kB h13 h14 h15 h16 h17 => zwd b n c i vb vc cs vs w h1 h2 h3 h4 h5 h6 h7 h8 h9 h10 h11 h12 tA tB kA kB h13 h14 h15 h16 h17)
  (fun b n c i vb vc cs vs w h1 h2 h3 h4 h5 h6 h7 h8 h9 h10 => zwb b n c i vb vc cs vs w h1 h2 h3 (by omega) h5 h6 h7 h8 h9 h10) (by rw [List.length_map]; omega) (by rw [List.length_map]; exact hb)
theorem s41 (L : List Int) (x : Int) (i : Int) (h : 0 <= i /\ i < L.length) (hb : L.length <= 1000000) : zaa.ok Tryz.prog GG 41 (LIn ipv 1 L x i) := by
 rw [zoN h.1]
 refine zpk (E := 3) (by decide) (show (Value.cells (.int .i64 0)).size = 1 from rfl) zyG
  (fun b n c i vb vc cs vs w h1 h2 h3 h4 h5 h6 h7 h8 h9 h10 h11 h12 tA tB kA kB h13 h14 h15 h16 h17 => ?_)
  (fun b n c i vb vc cs vs w h1 h2 h3 h4 h5 h6 h7 h8 h9 h10 => ?_) (by rw [List.length_map]; omega) (by rw [List.length_map]; exact hb)
 . rw [Nat.mul_one] at h5 h8 ⊢
   rw [Nat.mul_one]
   exact zwe b n c i vb vc cs vs w h1 h2 h3 h4 h5 h6 h7 h8 h9 h10 h11 h12 tA tB kA kB h13 h14 h15 h16 h17
 . rw [Nat.mul_one] at h5 ⊢
   rw [Nat.mul_one]
   exact zwc b n c i vb vc cs vs w h1 h2 h3 (by omega) h5 h6 h7 h8 h9 h10
end
section
section
variable {M : zaj} {k k' : M.κ} {v : M.ν}
theorem za4 (hk : k' ≠ k) : ∀ {es : List (M.κ × M.ν)}, zas M k' (zaO M k es) = zas M k' es
 | [] => rfl
 | (j, x) :: es => by
   simp only [zaO]
   cases h : M.deq j k with
   | isTrue e =>
     subst e
     simp only [zas]
     cases h' : M.deq j k' with
     | isTrue e => exact absurd e.symm hk
     | isFalse e => rfl
   | isFalse e =>
     simp only [zas]
     cases h' : M.deq j k' with
     | isTrue e' => rfl
     | isFalse e' => exact za4 hk
theorem zeW : ∀ {es : List (M.κ × M.ν)}, (∀ e ∈ es, e.1 ≠ k) -> zas M k es = none
 | [], _ => rfl
 | (j, x) :: es, h => by
   simp only [zas]
   cases h' : M.deq j k with
   | isTrue e => exact absurd e (h _ (List.mem_cons_self ..))
   | isFalse e => exact zeW fun e he => h e (List.mem_cons_of_mem _ he)
theorem zlO : ∀ {es : List (M.κ × M.ν)}, (∀ e ∈ es, e.1 ≠ k) -> zan M k v es = es ++ [(k, v)]
 | [], _ => rfl
 | (j, x) :: es, h => by
   simp only [zan]
   cases h' : M.deq j k with
   | isTrue e => exact absurd e (h _ (List.mem_cons_self ..))
   | isFalse e => rw [zlO fun e he => h e (List.mem_cons_of_mem _ he)]; rfl
end
abbrev zbN (k : PL) (es : HM) : HM := es.filter fun e => decide (e.1 ≠ k)
theorem zdF {k : PL} {es : HM} (h : ndk es) : zaO MPC k es = zbN k es := zeO h
theorem zjt {k : PL} {es : HM} : ∀ e ∈ zbN k es, e.1 ≠ k := fun e he => by simpa using (List.mem_filter.1 he).2
theorem ze0 {k : PL} {es : HM} (h : ∀ e ∈ es, e.1 ≠ k) : zbN k es = es := List.filter_eq_self.2 fun e he => by simpa using h e he
theorem zfn {k : PL} {es fs : HM} : zbN k (es ++ fs) = zbN k es ++ zbN k fs := List.filter_append ..
theorem zj9 {k : PL} {es : HM} (h : ndk es) : zaO MPC k (zaO MPC k es) = zaO MPC k es := by
 rw [zdF (zbn h), zdF h]; exact ze0 zjt
theorem zq8 {k : PL} {es : HM} (h : ndk es) : zas MPC k (zaO MPC k es) = none := by
 rw [zdF h]; exact zeW zjt
theorem zih {k : PL} {c : CT} {es : HM} (h : ndk es) : zan MPC k c (zaO MPC k es) = zbN k es ++ [(k, c)] := by
 rw [zdF h]; exact zlO zjt
theorem zjn {k : PL} {es fs : HM} (h : zas MPC k es = zas MPC k fs) : ctG k es = ctG k fs := by
 unfold ctG zaf; rw [h]
theorem zfe {es : HM} {t f : PL} (h : ndk es) : zbi (zbi es t f) t f = zbi es t f := by
 by_cases c : (zas MPC f es).isSome = false \/ (f.kind = 2 /\ (zaf MPC f es : CT).part ≠ 0)
 . have e : zbi es t f = zaO MPC t es := by unfold zbi; rw [if_pos c]
   rw [e]
   by_cases q : f = t
   . subst q
     unfold zbi
     rw [if_pos (.inl (by rw [zq8 h]; rfl))]
     exact zj9 h
   . have g : zas MPC f (zaO MPC t es) = zas MPC f es := za4 q
     unfold zbi
     rw [if_pos (by rw [g]; exact c.imp id fun c => ⟨c.1, by rw [show zaf MPC f (zaO MPC t es) = zaf MPC f es from zjn g]; exact c.2⟩)]
     exact zj9 h
 . have e : zbi es t f = zan MPC t (zaf MPC f es) es := by unfold zbi; rw [if_neg c]
   have hs : (zas MPC f es).isSome = true := by
    cases q : (zas MPC f es).isSome with
    | true => rfl
    | false => exact absurd (.inl q) c
   have g : zas MPC f (zan MPC t (zaf MPC f es) es) = zas MPC f es := by
    by_cases q : f = t
    . subst q
      rw [zda]
      cases u : zas MPC f es with
      | none => rw [u] at hs; cases hs
      | some y => simp only [zaf, u]; rfl
    . exact zbl q
   rw [e]
   have g2 : zaf MPC f (zan MPC t (zaf MPC f es) es) = zaf MPC f es := zjn g
   have e2 : zbi (zan MPC t (zaf MPC f es) es) t f = zan MPC t (zaf MPC f (zan MPC t (zaf MPC f es) es)) (zan MPC t (zaf MPC f es) es) := by
    unfold zbi
    rw [if_neg (by rw [g, g2]; exact c)]
   rw [e2, g2]
   exact zfd
theorem zco {x : HI} {a b : Int} (h : a ≠ b) : zag x a ≠ zag x b := fun e => h (by have := congrArg PL.n e; simp only at this; omega)
theorem zpQ {es : HM} {x : HI} (h : ndk es) (hs : (zas MPC (PL.mk 1 x.a) es).isSome = true) : ∃ Z : HM, Z = zbN (zag x 3) (zbN (zag x 2) (zbN (zag x 1) (zbN (zag x 0) es))) ∧
 zbo es x = Z ++ [(zag x 0, CT.mk (ctG ⟨1, x.a⟩ es).r 1), (zag x 1, CT.mk (ctG ⟨1, x.a⟩ es).r 2), (zag x 2, CT.mk (ctG ⟨1, x.a⟩ es).r 3), (zag x 3, CT.mk (ctG ⟨1, x.a⟩ es).r 4)] := by
  refine ⟨_, rfl, ?_⟩
  have h01 : zag x 0 ≠ zag x 1 := zco (by decide)
  have h02 : zag x 0 ≠ zag x 2 := zco (by decide)
  have h03 : zag x 0 ≠ zag x 3 := zco (by decide)
  have h12 : zag x 1 ≠ zag x 2 := zco (by decide)
  have h13 : zag x 1 ≠ zag x 3 := zco (by decide)
  have h23 : zag x 2 ≠ zag x 3 := zco (by decide)
  have one : ∀ {k j : PL} {c : CT}, k ≠ j -> zbN j [(k, c)] = [(k, c)] := fun q => ze0 (by simpa using q)
  rw [zoK hs, zih (zcF (zbn (zcF (zbn (zcF (zbn h)))))), zih (zcF (zbn (zcF (zbn h)))), zih (zcF (zbn h)), zih h]
  simp only [zfn, one h01, one h02, one h03, one h12, one h13, one h23, List.append_assoc]; rfl
theorem zpR {es : HM} {x : HI} (h : ndk es) : zbo (zbo es x) x = zbo es x := by
 have ks : ∀ i : Int, (PL.mk 1 x.a) ≠ zag x i := fun i e => by have := congrArg PL.kind e; simp at this
 have hd : ndk (zbo es x) := by
  have := znr (x := { x with op := 44 }) h
  rw [zgp rfl] at this
  exact this
 cases hs : (zas MPC (PL.mk 1 x.a) es).isSome with
 | false =>
   have g : zas MPC (PL.mk 1 x.a) (zbo es x) = zas MPC (PL.mk 1 x.a) es := by
    rw [zlz hs, za4 (ks 3), za4 (ks 2), za4 (ks 1), za4 (ks 0)]
   rw [zlz (es := zbo es x) (by rw [g]; exact hs)]
   have q : zbo es x = zbN (zag x 3) (zbN (zag x 2) (zbN (zag x 1) (zbN (zag x 0) es))) := by
    rw [zlz hs, zdF (zbn (zbn (zbn h))), zdF (zbn (zbn h)), zdF (zbn h), zdF h]
   have no : ∀ (k : PL), k = zag x 0 \/ k = zag x 1 \/ k = zag x 2 \/ k = zag x 3 -> ∀ e ∈ zbo es x, e.1 ≠ k := by
    intro k hk e he
    rw [q] at he
    simp only [zbN, List.mem_filter, decide_eq_true_eq] at he
    obtain ⟨⟨⟨⟨_, e0⟩, e1⟩, e2⟩, e3⟩ := he
    rcases hk with rfl | rfl | rfl | rfl <;> assumption
   have dl : ∀ k, k = zag x 0 \/ k = zag x 1 \/ k = zag x 2 \/ k = zag x 3 -> zaO MPC k (zbo es x) = zbo es x := fun k hk => by
    rw [zdF hd]; exact ze0 (no k hk)
   rw [dl _ (.inl rfl), dl _ (.inr (.inl rfl)), dl _ (.inr (.inr (.inl rfl))), dl _ (.inr (.inr (.inr rfl)))]
 | true =>
   have g : zas MPC (PL.mk 1 x.a) (zbo es x) = zas MPC (PL.mk 1 x.a) es := by
    rw [zoK hs, zbl (ks 3), za4 (ks 3), zbl (ks 2), za4 (ks 2), zbl (ks 1), za4 (ks 1), zbl (ks 0), za4 (ks 0)]
   obtain ⟨Z, hZ, e1⟩ := zpQ h hs
   obtain ⟨Z', hZ', e2⟩ := zpQ (es := zbo es x) hd (by rw [g]; exact hs)
   rw [e2, zjn g]
   rw [e1] at hZ'
   have no : ∀ (k : PL), k = zag x 0 \/ k = zag x 1 \/ k = zag x 2 \/ k = zag x 3 -> ∀ e ∈ Z, e.1 ≠ k := by
    intro k hk e he
    rw [hZ] at he
    simp only [zbN, List.mem_filter, decide_eq_true_eq] at he
    obtain ⟨⟨⟨⟨_, e0⟩, e1⟩, e2⟩, e3⟩ := he
    rcases hk with rfl | rfl | rfl | rfl <;> assumption
   have h01 : zag x 0 ≠ zag x 1 := zco (by decide)
   have h02 : zag x 0 ≠ zag x 2 := zco (by decide)
   have h03 : zag x 0 ≠ zag x 3 := zco (by decide)
   have h12 : zag x 1 ≠ zag x 2 := zco (by decide)
   have h13 : zag x 1 ≠ zag x 3 := zco (by decide)
   have h23 : zag x 2 ≠ zag x 3 := zco (by decide)
   have hz : Z' = Z := by
    rw [hZ']
    have f0 : ∀ (A B C D : CT), zbN (zag x 0) (Z ++ [(zag x 0, A), (zag x 1, B), (zag x 2, C), (zag x 3, D)]) = Z ++ [(zag x 1, B), (zag x 2, C), (zag x 3, D)] := fun A B C D => by
     rw [zfn, ze0 (no _ (.inl rfl))]
     simp [zbN, h01.symm, h02.symm, h03.symm]
    have f1 : ∀ (B C D : CT), zbN (zag x 1) (Z ++ [(zag x 1, B), (zag x 2, C), (zag x 3, D)]) = Z ++ [(zag x 2, C), (zag x 3, D)] := fun B C D => by
     rw [zfn, ze0 (no _ (.inr (.inl rfl)))]
     simp [zbN, h12.symm, h13.symm]
    have f2 : ∀ (C D : CT), zbN (zag x 2) (Z ++ [(zag x 2, C), (zag x 3, D)]) = Z ++ [(zag x 3, D)] := fun C D => by
     rw [zfn, ze0 (no _ (.inr (.inr (.inl rfl))))]
     simp [zbN, h23.symm]
    have f3 : ∀ (D : CT), zbN (zag x 3) (Z ++ [(zag x 3, D)]) = Z := fun D => by
     rw [zfn, ze0 (no _ (.inr (.inr (.inr rfl))))]
     simp [zbN]
    rw [f0, f1, f2, f3]
   rw [hz, e1]
theorem zpM {es : HM} {x : HI} (h : ndk es) : za8 (za8 es x) x = za8 es x := by
 have ks : ∀ i : Int, zag x i ≠ PL.mk 1 x.d := fun i e => by have := congrArg PL.kind e; simp at this
 have g : ∀ i : Int, zas MPC (zag x i) (za8 es x) = zas MPC (zag x i) es := fun i => by
  unfold za8
  split
  . rw [zbl (ks i), za4 (ks i)]
  . rw [za4 (ks i)]
 have g2 : ∀ i : Int, ctG (zag x i) (za8 es x) = ctG (zag x i) es := fun i => zjn (g i)
 have hp : zig (za8 es x) x ↔ zig es x := by
  unfold zig; rw [g 0, g2 0, g2 1, g2 2, g2 3]
 have e : ∀ es', za8 es' x = if zig es' x then zan MPC (PL.mk 1 x.d) (CT.mk (ctG (zag x 0) es').r 0) (zaO MPC (PL.mk 1 x.d) es') else zaO MPC (PL.mk 1 x.d) es' := fun _ => rfl
 by_cases c : zig es x
 . have e1 : za8 es x = zbN (PL.mk 1 x.d) es ++ [(PL.mk 1 x.d, CT.mk (ctG (zag x 0) es).r 0)] := by
    rw [e es, if_pos c, zih h]
   have hd : ndk (za8 es x) := by rw [e es, if_pos c]; exact zcF (zbn h)
   rw [e (za8 es x), if_pos (hp.2 c), zih hd, g2 0, e1, zfn, ze0 zjt]
   simp [zbN]
 . have e1 : za8 es x = zaO MPC (PL.mk 1 x.d) es := by rw [e es, if_neg c]
   rw [e (za8 es x), if_neg (fun q => c (hp.1 q)), e1]
   exact zj9 h
theorem zpl {es : HM} {x : HI} (h : (zbs es x).2 = true) : x.op = 2 \/ x.op = 8 \/ x.op = 42 \/ x.op = 43 \/ x.op = 44 \/ x.op = 45 := by
 by_cases h1 : x.op = 2
 . exact .inl h1
 by_cases h2 : x.op = 8
 . exact .inr (.inl h2)
 by_cases h3 : x.op = 42
 . exact .inr (.inr (.inl h3))
 by_cases h4 : x.op = 43
 . exact .inr (.inr (.inr (.inl h4)))
 by_cases h5 : x.op = 44
 . exact .inr (.inr (.inr (.inr (.inl h5))))
 by_cases h6 : x.op = 45
 . exact .inr (.inr (.inr (.inr (.inr h6))))
 rw [zmg h1 h2 h3 h4 h5 h6] at h
 cases h
theorem zpm {es : HM} {x : HI} (hn : ndk es) (h : (zbs es x).2 = true) : zbs (zbs es x).1 x = zbs es x := by
 rcases zpl h with e | e | e | e | e | e
 . rw [zlu e, zlu e, zfe hn]
 . rw [zlv e, zlv e, zfe hn]
 . rw [zjA e, zjA e, zfe hn]
 . rw [zjB e, zjB e, zfe hn]
 . rw [zgp e, zgp e, zpR hn]
 . rw [zew e, zew e, zpM hn]
theorem zpS {code : List HI} {w v : Int} : ∀ {L : List HI} {F : List Int} {es : HM} {k k' : Int} {es' : HM}, za2 code w v L F es k = .inr es' -> za2 code w v L F es k' = .inr es'
 | [], _, _, _, _, _, e => by simpa only [za2] using e
 | _ :: _, [], _, _, _, _, e => by simpa only [za2] using e
 | x :: L, f :: F, es, k, k', es', e => by
   rw [za2] at e ⊢
   split at e
   . next c => rw [if_pos c]; exact zpS e
   . cases e
theorem zjX {code : List HI} {w v : Int} {x : HI} : ∀ (n : Nat) {L : List HI} {F : List Int} {es : HM} {k : Int} {es' : HM}, ndk es -> za2 code w v L F es k = .inr es' -> L[n]? = some x -> F[n]? = some (-1) →
 za2 code w v (L.take n ++ x :: L.drop n) (F.take n ++ -1 :: F.drop n) es k = .inr es' /\ (x.op = 2 \/ x.op = 8 \/ x.op = 42 \/ x.op = 43 \/ x.op = 44 \/ x.op = 45)
  | 0, y :: L, f :: F, es, k, es', hn, e, h1, h2 => by
    obtain rfl : y = x := by simpa using h1
    obtain rfl : f = -1 := by simpa using h2
    simp only [List.take_zero, List.drop_zero, List.nil_append]
    rw [za2] at e
    split at e
    . next c =>
      have c0 := c
      unfold zbA at c
      split at c
      . next q =>
        rw [if_pos rfl] at c
        have e1 : zbA code w v es y (-1) = zbs es y := e_3 q.1 q.2 rfl
        have e2 : zbA code w v (zbs es y).1 y (-1) = zbs es y := by rw [e_3 q.1 q.2 rfl]; exact zpm hn c
        refine ⟨?_, zpl c⟩
        rw [za2, if_pos c0, za2, e1, e2, if_pos c]
        rw [e1] at e
        exact zpS e
      . cases c
    . cases e
  | n + 1, y :: L, f :: F, es, k, es', hn, e, h1, h2 => by
    simp only [List.take_succ_cons, List.drop_succ_cons, List.cons_append]
    rw [za2] at e ⊢
    split at e
    . next c =>
      rw [if_pos c]
      exact zjX n (zmm hn) e (by simpa using h1) (by simpa using h2)
    . cases e
  | _, [], _, _, _, _, _, _, h1, _ => by simp at h1
  | _, _ :: _, [], _, _, _, _, _, _, h2 => by simp at h2
theorem zkn : ∀ (n : Nat) (F : List Int) (m : Int), zb7 (F.take n ++ -1 :: F.drop n) m = zb7 F m
 | 0, F, m => by simp only [List.take_zero, List.drop_zero, List.nil_append, zb7, if_true]
 | n + 1, [], m => by simp only [List.take_nil, List.drop_nil, List.nil_append, zb7, if_true]
 | n + 1, f :: F, m => by
   simp only [List.take_succ_cons, List.drop_succ_cons, List.cons_append, zb7]
   split
   . exact zkn n F m
   . split
     . exact zkn n F (m + 1)
     . rfl
theorem zeJ {α : Type} {L : List α} {i : Int} {x : α} (h : 0 <= i /\ i < L.length) : (zev L i x).length = L.length + 1 := by
 unfold zev; simp only [List.length_append, List.length_take, List.length_cons, List.length_drop]; omega
theorem zsJ {α : Type} [Inhabited α] {L : List α} {i : Int} {n : Nat} (e : i = n) : nth L i = L.getD n default := by
 unfold nth; rw [e]; rfl
theorem zpj {F : List Int} {i x : Int} (h : 0 <= i /\ i < F.length) : nth (zev F i x) ((zev F i x).length - 1) = nth F (F.length - 1) := by
 rw [zeJ h, zsJ (n := F.length) (by omega), zsJ (n := F.length - 1) (by omega)]
 unfold zev
 rw [List.getD_eq_getElem?_getD, List.getD_eq_getElem?_getD, List.getElem?_append_right (by rw [List.length_take]; omega), List.length_take]
 have e : F.length - min i.toNat F.length = (F.length - 1 - i.toNat) + 1 := by omega
 rw [e, List.getElem?_cons_succ, List.getElem?_drop]
 have e2 : i.toNat + (F.length - 1 - i.toNat) = F.length - 1 := by omega
 rw [e2]
theorem zsI {α : Type} [Inhabited α] {L : List α} {i : Int} (h : 0 <= i /\ i < L.length) : L[i.toNat]? = some (nth L i) := zb0 L i h
abbrev zmQ (a : AL) (i : Int) : AL := ⟨zev a.L i (nth a.L i), zev a.fr i (-1)⟩
theorem zko {v : VL} (h : zbu v = true) : v.L.length = v.fr.length := by
 unfold zbu at h
 split at h
 . cases h
 . simp only [decide_eq_true_eq] at h; exact h.1
theorem zkB {l : List HI} {a : AL} {w v i : Int} (h : (zaT l a w v).2 = 0) (hi : 0 <= i /\ i < a.L.length) (hf : nth a.fr i = -1) :
 zaT l (zmQ a i) w v = (0, 0) /\ ((nth a.L i).op = 2 \/ (nth a.L i).op = 8 \/ (nth a.L i).op = 42 \/ (nth a.L i).op = 43 \/ (nth a.L i).op = 44 \/ (nth a.L i).op = 45) := by
  obtain ⟨h1, ⟨es, h2⟩, h3⟩ := ziG h
  have hl : a.L.length = a.fr.length := zko h3
  have hi2 : 0 <= i /\ i < a.fr.length := by omega
  have hn : ndk ([] : HM) := List.nodup_nil
  obtain ⟨w1, w2⟩ := zjX i.toNat hn h2 (zsI hi) (by rw [zsI hi2, hf])
  refine ⟨zqJ (by rw [h1]; exact fun e => e rfl) w1 ?_, w2⟩
  unfold zbu at h3 ⊢
  dsimp only at h3 ⊢
  have e : zb7 (zev a.fr i (-1)) 0 = zb7 a.fr 0 := zkn _ _ _
  rw [e]
  cases q : zb7 a.fr 0 with
  | none => rw [q] at h3; cases h3
  | some n =>
    rw [q] at h3
    simp only [decide_eq_true_eq] at h3 ⊢
    refine ⟨by rw [zeJ hi, zeJ hi2, hl], h3.2.1, by rw [zeJ hi2]; omega, ?_⟩
    rw [zpj hi2]
    exact h3.2.2.2
def tot (c : Int × Int × Int) : Int := c.1 + c.2.1 + c.2.2
theorem zzI (c c' : Int × Int × Int) (x : HI) (f : Int) : tot (zc0 c x f) - tot c = tot (zc0 c' x f) - tot c' := by
 unfold zc0 tot
 split
 . omega
 . split
   . dsimp only; omega
   . split
     . dsimp only; omega
     . split
       . dsimp only; omega
       . omega
theorem zsV : ∀ (L : List HI) (F : List Int) (c c' : Int × Int × Int), tot (zbt L F c) - tot c = tot (zbt L F c') - tot c'
 | [], _, c, c' => by simp only [zbt]; omega
 | _ :: _, [], c, c' => by simp only [zbt]; omega
 | x :: L, f :: F, c, c' => by
   rw [zbt, zbt]
   have h1 := zsV L F (zc0 c x f) (zc0 c' x f)
   have h2 := zzI c c' x f
   omega
theorem zkL {x : HI} (hx : x.op = 2 \/ x.op = 8 \/ x.op = 42 \/ x.op = 43 \/ x.op = 44 \/ x.op = 45) : ∀ (n : Nat) (L : List HI) (F : List Int) (c : Int × Int × Int), n <= L.length -> n <= F.length →
 tot (zbt (L.take n ++ x :: L.drop n) (F.take n ++ -1 :: F.drop n) c) = tot (zbt L F c) + 1
  | 0, L, F, c, _, _ => by
    simp only [List.take_zero, List.drop_zero, List.nil_append]
    rw [zbt]
    have h1 := zsV L F (zc0 c x (-1)) c
    have h2 : tot (zc0 c x (-1)) = tot c + 1 := by
     unfold zc0 tot
     rw [if_neg (by decide)]
     split
     . dsimp only; omega
     . split
       . dsimp only; omega
       . split
         . dsimp only; omega
         . omega
    omega
  | n + 1, y :: L, f :: F, c, h1, h2 => by
    simp only [List.take_succ_cons, List.drop_succ_cons, List.cons_append]
    rw [zbt, zbt]
    exact zkL hx n L F _ (by simpa using h1) (by simpa using h2)
  | _ + 1, [], _, _, h1, _ => by simp at h1
  | _ + 1, _ :: _, [], _, _, h2 => by simp at h2
theorem zjm : ∀ (L : List HI) (F : List Int) (c : Int × Int × Int), c.1 <= (zbt L F c).1 /\ (zbt L F c).1 <= c.1 + L.length /\ c.2.1 <= (zbt L F c).2.1 /\ (zbt L F c).2.1 <= c.2.1 + L.length /\ c.2.2 <= (zbt L F c).2.2 /\ (zbt L F c).2.2 <= c.2.2 + L.length
 | [], _, c => by simp only [zbt, List.length_nil]; omega
 | _ :: _, [], c => by simp only [zbt]; omega
 | x :: L, f :: F, c => by
   rw [zbt]
   have h1 := zjm L F (zc0 c x f)
   have h2 := znc c x f
   simp only [List.length_cons]
   omega
theorem zpK {l : List HI} {a : AL} {w v i : Int} (h : (zaT l a w v).2 = 0) (hi : 0 <= i /\ i < a.L.length) (hf : nth a.fr i = -1) :
 tot (zbt (zmQ a i).L (zmQ a i).fr (0, 0, 0)) = tot (zbt a.L a.fr (0, 0, 0)) + 1 :=
  zkL (zkB h hi hf).2 _ _ _ _ (by omega) (by have := zko (ziG h).2.2; dsimp only at this; omega)
end
section
def znN (x : Value) : zaa := ⟨[.val x], [], [], [.vec 15 []], .slc 0 0 0⟩
theorem zDT (a : Addr) (c : Nat) : zaa.ok Tryz.prog GG 31 (znN (.slice (some a) 0 c)) := by
 refine zad mix k31 _ rfl rfl (Tab.ok (l := []) trivial) noL noJ ?_
 repeat' ((conv => whnf); first
  | exact trivial
  | with_reducible first | refine aj ?_ | refine ai rfl ?_ | refine ai ⟨rfl, rfl⟩ ?_
  | ((with_reducible refine ai ?_ ?_); focus exact w3)
  | with_reducible first | refine And.intro ?_ ?_ | refine zae ?_ | refine exI (i64_in (by omega) (by omega)) ?_
  | refine exI (x := ULift.up _) (Eq.refl _) ?_
  | refine exI (x := ULift.up _) ⟨rfl, by omega, Eq.refl _⟩ ?_
  | exact nx
  | ((with_reducible intro h); try dsimp only at h))
 all_goals (refine Sd.mk ?_)
 all_goals first
  | rfl
  | simp [zai.len]
theorem zxr  : zaa.ok Tryz.prog GG 31 (znN (.slice none 0 0)) := by
 refine zad mix k31 _ rfl rfl (Tab.ok (l := []) trivial) noL noJ ?_
 repeat' ((conv => whnf); first
  | exact trivial
  | with_reducible first | refine aj ?_ | refine ai rfl ?_ | refine ai ⟨rfl, rfl⟩ ?_
  | ((with_reducible refine ai ?_ ?_); focus exact w3)
  | with_reducible first | refine And.intro ?_ ?_ | refine zae ?_ | refine exI (i64_in (by omega) (by omega)) ?_
  | refine exI (x := ULift.up _) (Eq.refl _) ?_
  | refine exI (x := ULift.up _) ⟨rfl, by omega, Eq.refl _⟩ ?_
  | exact nx
  | ((with_reducible intro h); try dsimp only at h))
 all_goals (refine Sd.mk ?_)
 all_goals first
  | rfl
  | simp [zai.len]
theorem zDR : zaa.ok Tryz.prog GG 31 (L31 []) := by
 refine ⟨zxr.1, rfl, fun β own S w vs q1 q2 q3 q4 => ?_⟩
 have q3' := q3
 simp only [L31, zam, rel, zaR, List.map_nil, List.length_nil] at q3'
 obtain ⟨v, r, e, ⟨a, cap, rfl, _, _, hz⟩, h0⟩ := q3'
 cases a with
 | none =>
   obtain rfl := hz rfl
   exact zxr.2.2 β own S w vs q1 q2 (by simp only [znN, zam, rel]; exact ⟨_, r, e, rfl, h0⟩) q4
 | some a => exact (zDT a cap).2.2 β own S w vs q1 q2 (by simp only [znN, zam, rel]; exact ⟨_, r, e, rfl, h0⟩) q4
theorem zDS (l : List HI) (hp : l.length <= 1000000) : zaa.ok Tryz.prog GG 31 (L31 l) := by
 by_cases h : l = []
 . subst h; exact zDR
 . exact s31 l ⟨h, hp⟩
end
section
def c12 : MC := .seq (.reg [oo 6 (.box (.t 1)),oo 10 (.mv kf)]) (.seq (.seq (.reg [oo 23 (fc 14 []),oo 24 (.not (.t 23))]) (.cond (.t 24) (.seq (.reg [oo 10 (.mv kf)]) (.ret)) (.skip))) (.seq (.seq (.reg [om 25 0,oo 26 (.lenS (.t 25)),oo 27 (cc .gtr 26 150),sm 28 27,gf 28 29 (ls 2 6),gf 28 30 (fc 23 [(.t 29)]),gf 28 31 (.not (.t 30)),oo 32 (pt 28 31),sm 33 32,gf 33 34 (fl 0 6),gf 33 35 (ln 34),gf 33 36 (.lenS (.t 35)),gf 33 37 (cc .eql 36 0),oo 38 (pt 33 37)]) (.cond (.t 38) (.seq (.reg [oo 10 (.mv kt)]) (.ret)) (.skip))) (.seq (.seq (.reg [om 40 0,oo 41 (ls 2 6),om 42 2,om 43 3,oo 44 (fc 24 [(.t 40),(.t 41),(.t 42),(.t 43)]),om 39 44,oo 45 (ex_ 0 39),oo 46 (ex_ 1 39),om 11 45,om 12 46]) (.seq (.reg [om 47 12,oo 48 (cc .neq 47 0),sm 49 48,gf 49 50 (fl 1 6),gf 49 51 (ln 50),gf 49 52 (.lenS (.t 51)),gf 49 53 (fl 0 6),gf 49 54 (ln 53),gf 49 55 (.lenS (.t 54)),gf 49 56 (ct .neq 52 55),oo 57 (pt 49 56)]) (.cond (.t 57) (.seq (.reg [om 58 12,oo 59 (cc .neq 58 0),om 10 59]) (.ret)) (.skip)))) (.seq (.reg [om 60 4,oo 61 (.cv .u64 (.t 60)),oo 62 (fl 0 6),oo 63 (ln 62),oo 64 (.lenS (.t 63)),oo 65 (.cv .u64 (.t 64)),oo 66 (at_ .rem 61 65),oo 67 (.cv .i64 (.t 66)),om 13 67]) (.seq (.seq (.reg [oo 68 (fl 1 6),oo 69 (ln 68),om 70 13,oo 71 (ia 1 69 70),oo 72 (ln 71),oo 73 (.cmp .neq (.t 72) (ki (-1)))]) (.cond (.t 73) (.seq (.reg [oo 10 (.mv kt)]) (.ret)) (.skip))) (.seq (.drw [oo 74 (fl 0 6),oo 75 (ln 74),oo 76 (fc 31 [(.t 75)]),om 77 13,oo 78 (fl 0 6),oo 79 (ln 78),om 80 13,oo 81 (ia 15 79 80),oo 82 (ls 15 81),oo 83 (.bsl 15 1 zI [(0,(.t 82))]),oo 84 (fc 40 [(.t 76),(.t 77),(.t 83)]),oo 85 (fl 1 6),oo 86 (ln 85),oo 87 (fc 42 [(.t 86)]),om 88 13,oo 89 (.bsl 1 1 [(kz 0)] [(0,(ki (-1)))]),oo 90 (fc 41 [(.t 87),(.t 88),(.t 89)]),oo 91 (.bld [(.val (.slice none 0 0)),(.val (.slice none 0 0))] [(0,1,(.t 84)),(1,1,(.t 90))]),oo 14 (.alloc [(.val (.slice none 0 0)),(.val (.slice none 0 0))]),o none (.st (some 2) (.t 14) (.t 91))] [[],[0],[1],[],[],[4],[],[5,6],[7],[8],[2,3,9,2],[],[11],[12,10],[],[],[13,14,15,13],[10,16],[],[18,17,16,0,1,2,3,4,5,6,7,8,9,10,11,12,13,14,15,16,17,18]]) (.seq (.reg [om 93 0,oo 94 (ls 2 14),om 95 2,om 96 3,oo 97 (fc 24 [(.t 93),(.t 94),(.t 95),(.t 96)]),om 92 97,oo 98 (ex_ 0 92),oo 99 (ex_ 1 92),om 15 98,om 16 99]) (.seq (.reg [oo 101 (ls 2 6),oo 102 (fc 26 [(.t 101)]),om 100 102,oo 103 (ex_ 0 100),oo 104 (ex_ 1 100),oo 105 (ex_ 2 100),om 17 103,om 18 104,om 19 105]) (.seq (.reg [oo 107 (ls 2 14),oo 108 (fc 26 [(.t 107)]),om 106 108,oo 109 (ex_ 0 106),oo 110 (ex_ 1 106),oo 111 (ex_ 2 106),om 20 109,om 21 110,om 22 111]) (.seq (.reg [om 112 16,oo 113 (cc .eql 112 0),sm 114 113,mt 114 115 20,mt 114 116 21,gt_ 114 117 (at_ .add 115 116),mt 114 118 22,gt_ 114 119 (at_ .add 117 118),mt 114 120 17,mt 114 121 18,gt_ 114 122 (at_ .add 120 121),mt 114 123 19,gt_ 114 124 (at_ .add 122 123),gt_ 114 125 (ac .add 124 1),gt_ 114 126 (ct .eql 119 125),oo 127 (pf 114 126),om 10 127]) (.ret)))))))))))
theorem k12 : zar Tryz.prog 12 128 c12 [.t 10] := fk Tryz.func12 ⟨tv,⟨⟨tv,⟨⟨tv,tv⟩,tv⟩⟩,⟨⟨tv,⟨⟨tv,tv⟩,tv⟩⟩,⟨⟨tv,⟨tv,⟨⟨tv,tv⟩,tv⟩⟩⟩,⟨tv,⟨⟨tv,⟨⟨tv,tv⟩,tv⟩⟩,⟨tv,⟨tv,⟨tv,⟨tv,⟨tv,tv⟩⟩⟩⟩⟩⟩⟩⟩⟩⟩⟩
attribute [local irreducible] zba zaT zbt zdc zev
theorem zEX {n q : Int} (h : 0 <= n) (hq : 0 < q) : 0 <= n.tmod q /\ n.tmod q < q := by
 rw [Int.tmod_eq_emod_of_nonneg h]
 exact ⟨Int.emod_nonneg _ (by omega), Int.emod_lt_of_pos _ hq⟩
theorem zE5 (k : Int) : 0 <= IntKind.u64.wrap k := by
 have : IntKind.u64.wrap k = k % 18446744073709551616 := rfl
 rw [this]; exact Int.emod_nonneg _ (by decide)
abbrev mq (k q : Int) : Int := (IntKind.u64.wrap k).tmod q
theorem zCK (k : Int) {q : Int} (hq : 0 < q) : 0 <= mq k q /\ mq k q < q := zEX (zE5 k) hq
abbrev j12 (L : List HI) (n : Int) : Int := mq n L.length
theorem zi7 {L : List HI} {F : List Int} (h : zdc ⟨L, F⟩ = true) : L.length <= 2000 /\ F.length <= 2000 := by
 unfold zdc at h
 split at h
 . next q => simp only [decide_eq_true_eq] at h; dsimp only at q; omega
 . cases h
theorem zrE {L : List HI} (h : ¬ ((L.map HI.pv).length : Int) = 0) : (L.length : Int) ≠ 0 := by rw [List.length_map] at h; exact h
theorem j_b {L : List HI} (n : Int) (h : ¬ ((L.map HI.pv).length : Int) = 0) : 0 <= j12 L n /\ j12 L n < L.length := zCK n (by have := zrE h; omega)
theorem zCJ {L : List HI} {F : List Int} (h : zdc ⟨L, F⟩ = true) : (ULift.up (L.length : Int) : ULift.{1} Int).down = IntKind.u64.wrap (((L.map HI.pv).length : Nat) : Int) := by
 have := zi7 h
 rw [List.length_map]
 exact zgz (by omega) (by omega)
theorem zCE {L : List HI} {F : List Int} (n : Int) (h : zdc ⟨L, F⟩ = true) (h0 : ¬ ((L.map HI.pv).length : Int) = 0) : (ULift.up (j12 L n) : ULift.{1} Int).down = IntKind.i64.wrap (j12 L n) := by
 have := zi7 h
 have := j_b n h0
 exact i64_in (by omega) (by omega)
theorem zro {l L : List HI} {F : List Int} {w v : Int} (h : (zaT l ⟨L, F⟩ w v).2 = 0) : F.length = L.length := (zko (ziG h).2.2).symm
theorem zCQ {l L : List HI} {F : List Int} {w v : Int} (h : (zaT l ⟨L, F⟩ w v).2 = 0) : ((F.map ipv).length : Int) = ((L.map HI.pv).length : Int) := by
 rw [List.length_map, List.length_map, zro h]
theorem zy2 {F : List Int} {i : Int} (h : 0 <= i /\ i < F.length) : 1 = 1 /\ 0 <= i /\ (F.map ipv)[i.toNat]? = some (ULift.up.{1} (ipv (nth F i))).down := by
 refine ⟨rfl, h.1, ?_⟩
 rw [List.getElem?_map, zb0 F i h]; rfl
theorem zy3 {L : List HI} {i : Int} (h : 0 <= i /\ i < L.length) : 15 = 15 /\ 0 <= i /\ (L.map HI.pv)[i.toNat]? = some (ULift.up.{1} (HI.pv (nth L i))).down := by
 refine ⟨rfl, h.1, ?_⟩
 rw [List.getElem?_map, zb0 L i h]; rfl
theorem zrx {l L : List HI} {F : List Int} {w v n : Int} (h : (zaT l ⟨L, F⟩ w v).2 = 0) (h0 : ¬ ((L.map HI.pv).length : Int) = 0) : 0 <= j12 L n /\ j12 L n < F.length := by
 have := j_b n h0
 rw [zro h]; exact this
theorem zBI {L : List HI} {F : List Int} {n : Int} (h : zdc ⟨L, F⟩ = true) (h0 : ¬ ((L.map HI.pv).length : Int) = 0) : (0 <= j12 L n /\ j12 L n < L.length) /\ L.length <= 1000000 := ⟨j_b n h0, by have := zi7 h; omega⟩
theorem zyK {l L : List HI} {F : List Int} {w v n : Int} (h : zdc ⟨L, F⟩ = true) (h1 : (zaT l ⟨L, F⟩ w v).2 = 0) (h0 : ¬ ((L.map HI.pv).length : Int) = 0) : (0 <= j12 L n /\ j12 L n < F.length) /\ F.length <= 1000000 := ⟨zrx h1 h0, by have := zi7 h; omega⟩
theorem zl0 {L : List HI} {F : List Int} (h : zdc ⟨L, F⟩ = true) : L.length <= 1000000 /\ F.length <= 1000000 := by have := zi7 h; omega
theorem zBi {l L : List HI} {F : List Int} {w v : Int} (h : zdc ⟨L, F⟩ = true) (h1 : (zaT l ⟨L, F⟩ w v).2 = 0) (h0 : ¬ ((L.map HI.pv).length : Int) = 0) : F ≠ [] /\ F.length <= 1000000 := by
 have := zro h1
 have := zrE h0
 refine ⟨fun e => ?_, by have := zi7 h; omega⟩
 have q : F.length = 0 := by rw [e]; rfl
 omega
abbrev zdP (L : List HI) (n : Int) : List HI := zev L (j12 L n) (nth L (j12 L n))
abbrev zd4 (L : List HI) (F : List Int) (n : Int) : List Int := zev F (j12 L n) (-1)
theorem zv8 {L : List HI} {n : Int} (h0 : ¬ ((L.map HI.pv).length : Int) = 0) : (zdP L n).length = L.length + 1 := zeJ (j_b n h0)
theorem zv7 {l L : List HI} {F : List Int} {w v n : Int} (h1 : (zaT l ⟨L, F⟩ w v).2 = 0) (h0 : ¬ ((L.map HI.pv).length : Int) = 0) : (zd4 L F n).length = F.length + 1 := zeJ (zrx h1 h0)
theorem zol {l L : List HI} {F : List Int} {w v n : Int} (h : zdc ⟨L, F⟩ = true) (h1 : (zaT l ⟨L, F⟩ w v).2 = 0) (h0 : ¬ ((L.map HI.pv).length : Int) = 0) : (zdP L n).length <= 1000000 /\ (zd4 L F n).length <= 1000000 := by
 rw [zv8 h0, zv7 h1 h0]; have := zi7 h; omega
noncomputable def zlI (l L : List HI) (F : List Int) (n : Int) : SFn
 | [_, .agg [.rd _, _], .int .i64 w, .int .i64 v], q => .req (L.length <= 1000000 /\ F.length <= 1000000) (q (L24 l ⟨L, F⟩ w v))
 | [_, .agg [.slc _ _ _, _], .int .i64 w, .int .i64 v], q => .req ((zdP L n).length <= 1000000 /\ (zd4 L F n).length <= 1000000) (q (L24 l ⟨zdP L n, zd4 L F n⟩ w v))
 | _, _ => .fail
theorem zxN (l L : List HI) (F : List Int) (n : Int) : FnS Tryz.prog GG 24 (zlI l L F n) := by
 intro args k' gt go R v' os n' h
 unfold zlI at h
 split at h
 . obtain ⟨hp, _, h⟩ := zaz h
   exact ⟨_, _, s24 _ _ _ _ hp.1 hp.2, h⟩
 . obtain ⟨hp, _, h⟩ := zaz h
   exact ⟨_, _, s24 _ _ _ _ hp.1 hp.2, h⟩
 . cases h
noncomputable def zlJ (L : List HI) (F : List Int) (n : Int) : SFn
 | [.agg [.rd _, _]], q => .req (L.length <= 1000000) (q (L26 ⟨L, F⟩))
 | [.agg [.slc _ _ _, _]], q => .req ((zdP L n).length <= 1000000) (q (L26 ⟨zdP L n, zd4 L F n⟩))
 | _, _ => .fail
theorem zxO (L : List HI) (F : List Int) (n : Int) : FnS Tryz.prog GG 26 (zlJ L F n) := by
 intro args k' gt go R v' os n' h
 unfold zlJ at h
 split at h
 . obtain ⟨hp, _, h⟩ := zaz h
   exact ⟨_, _, s26 _ hp, h⟩
 . obtain ⟨hp, _, h⟩ := zaz h
   exact ⟨_, _, s26 _ hp, h⟩
 . cases h
noncomputable def zoO (L : List HI) : SFn
 | _, q => .req (L.length <= 1000000) (q (L31 L))
theorem zxP (L : List HI) : FnS Tryz.prog GG 31 (zoO L) := by
 intro args k' gt go R v' os n' h
 obtain ⟨hp, _, h⟩ := zaz h
 exact ⟨_, _, zDS _ hp, h⟩
noncomputable def zoR (F : List Int) : SFn
 | _, q => .req (F ≠ [] /\ F.length <= 1000000) (q (L42 F))
theorem zxS (F : List Int) : FnS Tryz.prog GG 42 (zoR F) := by
 intro args k' gt go R v' os n' h
 obtain ⟨hp, _, h⟩ := zaz h
 exact ⟨_, _, s42 _ hp, h⟩
noncomputable def zoP (L : List HI) (n : Int) : SFn
 | _, q => .req ((0 <= j12 L n /\ j12 L n < L.length) /\ L.length <= 1000000) (q (LIn HI.pv 15 L (nth L (j12 L n)) (j12 L n)))
theorem zxQ (L : List HI) (n : Int) : FnS Tryz.prog GG 40 (zoP L n) := by
 intro args k' gt go R v' os n' h
 obtain ⟨hp, _, h⟩ := zaz h
 exact ⟨_, _, s40 _ _ _ hp.1 hp.2, h⟩
noncomputable def zoQ (L : List HI) (F : List Int) (n : Int) : SFn
 | _, q => .req ((0 <= j12 L n /\ j12 L n < F.length) /\ F.length <= 1000000) (q (LIn ipv 1 F (-1) (j12 L n)))
theorem zxR (L : List HI) (F : List Int) (n : Int) : FnS Tryz.prog GG 41 (zoQ L F n) := by
 intro args k' gt go R v' os n' h
 obtain ⟨hp, _, h⟩ := zaz h
 exact ⟨_, _, s41 _ _ _ hp.1 hp.2, h⟩
theorem zCY {L : List HI} {n : Int} (h0 : ¬ ((L.map HI.pv).length : Int) = 0) : PV.sl 15 ((zdP L n).map HI.pv) = PV.sl 15 (List.take (L.length + 1) (List.drop 0 ((zdP L n).map HI.pv))) /\ 0 + (L.length + 1) <= ((zdP L n).map HI.pv).length := by
 have := zv8 (n := n) h0
 rw [<- this, List.drop_zero, List.length_map]
 refine ⟨?_, by omega⟩
 rw [List.take_of_length_le (by rw [List.length_map]; omega)]
theorem zCX {l L : List HI} {F : List Int} {w v n : Int} (h1 : (zaT l ⟨L, F⟩ w v).2 = 0) (h0 : ¬ ((L.map HI.pv).length : Int) = 0) : PV.sl 1 ((zd4 L F n).map ipv) = PV.sl 1 (List.take (F.length + 1) (List.drop 0 ((zd4 L F n).map ipv))) /\ 0 + (F.length + 1) <= ((zd4 L F n).map ipv).length := by
 have := zv7 (n := n) h1 h0
 rw [<- this, List.drop_zero, List.length_map]
 refine ⟨?_, by omega⟩
 rw [List.take_of_length_le (by rw [List.length_map]; omega)]
abbrev cA (L : List HI) (F : List Int) : Int × Int × Int := zbt (AL.mk L F).L (AL.mk L F).fr (0, 0, 0)
theorem sm1 {L : List HI} {F : List Int} (h : L.length <= 1000000) : (ULift.up ((cA L F).1 + (cA L F).2.1) : ULift.{1} Int).down = IntKind.i64.wrap ((cA L F).1 + (cA L F).2.1) := by
 have := zjm L F (0, 0, 0)
 exact i64_in (by dsimp only [cA] at *; omega) (by dsimp only [cA] at *; omega)
theorem sm2 {L : List HI} {F : List Int} (h : L.length <= 1000000) : (ULift.up ((cA L F).1 + (cA L F).2.1 + (cA L F).2.2) : ULift.{1} Int).down = IntKind.i64.wrap ((cA L F).1 + (cA L F).2.1 + (cA L F).2.2) := by
 have := zjm L F (0, 0, 0)
 exact i64_in (by dsimp only [cA] at *; omega) (by dsimp only [cA] at *; omega)
theorem sm3 {L : List HI} {F : List Int} (h : L.length <= 1000000) : (ULift.up ((cA L F).1 + (cA L F).2.1 + (cA L F).2.2 + 1) : ULift.{1} Int).down = IntKind.i64.wrap ((cA L F).1 + (cA L F).2.1 + (cA L F).2.2 + 1) := by
 have := zjm L F (0, 0, 0)
 exact i64_in (by dsimp only [cA] at *; omega) (by dsimp only [cA] at *; omega)
theorem zz9 {l L : List HI} {F : List Int} {w v n : Int} (h1 : (zaT l ⟨L, F⟩ w v).2 = 0) (h0 : ¬ ((L.map HI.pv).length : Int) = 0) (hf : nth F (j12 L n) = -1) : (zaT l ⟨zdP L n, zd4 L F n⟩ w v).2 = 0 := by
 have h := (zkB h1 (j_b n h0) hf).1
 rw [show zaT l ⟨zdP L n, zd4 L F n⟩ w v = (0, 0) from h]
theorem zE0 {l L : List HI} {F : List Int} {w v n : Int} (h1 : (zaT l ⟨L, F⟩ w v).2 = 0) (h0 : ¬ ((L.map HI.pv).length : Int) = 0) (hf : nth F (j12 L n) = -1) :
 (cA (zdP L n) (zd4 L F n)).1 + (cA (zdP L n) (zd4 L F n)).2.1 + (cA (zdP L n) (zd4 L F n)).2.2 = (cA L F).1 + (cA L F).2.1 + (cA L F).2.2 + 1 := zpK h1 (j_b n h0) hf
noncomputable def L12 (l L : List HI) (F : List Int) (w v n : Int) : zaa := ⟨[hiS l, .agg [hiS L, inS F], kz w, kz v, kz n], [], [], [], .tt⟩
set_option maxHeartbeats 8000000 in
theorem s12 (l L : List HI) (F : List Int) (w v n : Int) : zaa.ok Tryz.prog GG 12 (L12 l L F w v n) := by
 refine zad mix k12 _ rfl rfl (Tab.ok (l := [(14, fun _ q => q L14), (23, S23), (24, zlI l L F n), (26, zlJ L F n), (31, zoO L), (42, zoR F), (40, zoP L n), (41, zoQ L F n)]) ⟨zhI s14, t23, zxN l L F n, zxO L F n, zxP L, zxS F, zxQ L n, zxR L F n, trivial⟩) noL noJ ?_
 repeat' ((conv => whnf); first
  | exact trivial
  | with_reducible first | refine aj ?_ | refine ai rfl ?_ | refine ai ⟨rfl, rfl⟩ ?_
  | ((with_reducible refine ai ?_ ?_); focus exact w3)
  | with_reducible first | refine exI (zCJ (nf (by with_reducible assumption))) ?_ | refine exI (zCE _ (nf (by with_reducible assumption)) (by with_reducible assumption)) ?_
  | refine exI (x := ULift.up (ipv (nth F (j12 L n)))) (zy2 (zrx (Classical.not_not.1 (by with_reducible assumption)) (by with_reducible assumption))) ?_
  | refine exI (x := ULift.up (HI.pv (nth L (j12 L n)))) (zy3 (j_b n (by with_reducible assumption))) ?_
  | with_reducible first | refine exI (sm1 (L := L) (F := F) (zl0 (nf (by with_reducible assumption))).1) ?_ | refine exI (sm2 (L := L) (F := F) (zl0 (nf (by with_reducible assumption))).1) ?_ | refine exI (sm3 (L := L) (F := F) (zl0 (nf (by with_reducible assumption))).1) ?_ | refine exI (sm1 (L := zdP L n) (F := zd4 L F n) (zol (nf (by with_reducible assumption)) (Classical.not_not.1 (by with_reducible assumption)) (by with_reducible assumption)).1) ?_ | refine exI (sm2 (L := zdP L n) (F := zd4 L F n) (zol (nf (by with_reducible assumption)) (Classical.not_not.1 (by with_reducible assumption)) (by with_reducible assumption)).1) ?_
  | ((with_reducible intro h); exact False.elim (absurd (zz9 (Classical.not_not.1 (by with_reducible assumption)) (by with_reducible assumption) (Classical.not_not.1 (by with_reducible assumption))) h))
  | with_reducible first | refine And.intro ?_ ?_ | refine zae ?_ | refine exI (i64_in (by omega) (by omega)) ?_
  | refine exI (x := ULift.up _) (Eq.refl _) ?_
  | refine exI (x := ULift.up _) ⟨rfl, by omega, Eq.refl _⟩ ?_
  | exact nx
  | ((with_reducible intro h); try dsimp only at h))
 all_goals first
  | exact Sd.mk rfl
  | exact Sd.mk (zl0 (nf ‹_›))
  | exact Sd.mk (zl0 (nf ‹_›)).1
  | exact (absurd (zCQ (l := l) (L := L) (F := F) (w := w) (v := v) (Classical.not_not.1 ‹_›)) ‹_›)
  | exact Sd.mk (zrE ‹_›)
  | exact Sd.mk (zBI (nf ‹_›) ‹_›)
  | exact Sd.mk (zBi (nf ‹_›) (Classical.not_not.1 ‹_›) ‹_›)
  | exact Sd.mk (zyK (nf ‹_›) (Classical.not_not.1 ‹_›) ‹_›)
  | exact Sd.mk (zol (nf ‹_›) (Classical.not_not.1 ‹_›) ‹_›)
  | exact Sd.mk (zol (l := l) (F := F) (w := w) (v := v) (nf ‹_›) (Classical.not_not.1 ‹_›) ‹_›).1
  | exact Sd.mk (zCY ‹_›)
  | exact Sd.mk (zCX (l := l) (w := w) (v := v) (Classical.not_not.1 ‹_›) ‹_›)
  | exact Sd.mk (zE0 (l := l) (w := w) (v := v) (Classical.not_not.1 ‹_›) ‹_› (Classical.not_not.1 ‹_›))
  | (refine Sd.mk ?_; simp only [L24, L26, zaa.flat, SV.flat, zc2, zhx, zeI, trp, and_true, true_and]; done)
end
end Go.Proofs.YtlahifihaeafbaaGreatDoor
namespace Go.Proofs.YtlahifihaeafbaaGreatDoor
open Go Go.Sx Go.ChangeShapes
section
variable {H : Type} {enc : TypeId × Value -> H} {P : Program} {W : World} {sp : Nat -> Bool} {held : Bool}
abbrev zeF (W : World) : Nat -> Prop := fun b => b < W.heap.size
theorem zh2 {b o n : Nat} : (Addr.add ⟨b, o, none⟩ n) = ⟨b, o + n, none⟩ := by
 unfold Addr.add; split
 . next h => subst h; rfl
 . rfl
theorem zqX {b o : Nat} {v : Value} (h : W.cell? ⟨b, o, none⟩ = some v) : ∃ arr T fz, W.heap[b]? = some (.cells arr T fz) /\ arr[o]? = some v := by
 unfold World.cell? at h
 split at h
 . next c T fz e => exact ⟨c, T, fz, e, by simpa using h⟩
 . cases h
theorem zoX {b o s : Nat} {cs : List Value} {arr : Array Value} {T : TypeId} {fz : Nat × Nat} (hh : W.heap[b]? = some (.cells arr T fz)) (h : W.cells? 0 ⟨b, o, none⟩ s = some cs) : ∃ r, arr.toList.drop o = cs ++ r := by
 obtain ⟨_, hl, he⟩ := World.cells?_some h
 refine ⟨(arr.toList.drop o).drop s, ?_⟩
 have e : cs = (arr.toList.drop o).take s := by
  apply List.ext_getElem?
  intro i
  by_cases hi : i < s
  . have := he i hi
    rw [zh2] at this
    rw [List.getElem?_take_of_lt hi, List.getElem?_drop, <- this]
    unfold World.cell?
    rw [hh]
    simp
  . rw [List.getElem?_eq_none (by omega), List.getElem?_eq_none (by rw [List.length_take]; omega)]
 rw [e]; exact (List.take_append_drop s _).symm
theorem ziV {S : Nat -> Prop} {s : Nat} : ∀ {L : List (List PV)} {vs : List Value}, (∀ i e, L[i]? = some e -> e.length = s /\ zaE W S e (vs.drop (i * s))) -> zaq W S s L vs
 | [], _, _ => by simp [zaq]
 | e :: L, vs, h => by
   simp only [zaq]
   have h0 := h 0 e rfl
   rw [Nat.zero_mul, List.drop_zero] at h0
   refine ⟨h0.1, h0.2, ziV fun i e' he => ?_⟩
   have h1 := h (i + 1) e' (by simpa using he)
   rw [List.drop_drop]
   rw [show s + i * s = (i + 1) * s by rw [Nat.add_mul, Nat.one_mul, Nat.add_comm]]
   exact h1
theorem zk4 {α : Type} [Inhabited α] {pv : α -> List PV} {t e : TypeId} {s fuel : Nat} {cs : List Value} {x : DataW H × List MemPlace} (ht : P.underlying t = some (.slice e)) (hc : P.cellsOf e = s) (hs : 0 < s) (hp : ∀ a, (pv a).length = s)
 (hd : ∀ n cs y, DataW.trod enc P W 0 sp held n e cs = some y -> ∃ a, ∀ r, zaE W (zeF W) (pv a) (cs ++ r))
 (h : DataW.trod enc P W 0 sp held fuel t cs = some x) : ∃ L : List α, ∃ v, cs = [v] /\ zaR W (zeF W) (.sl s (L.map pv)) v := by
  rcases DataW.trod_slice ht h with ⟨h0, _⟩ | ⟨a, len, cap, elems, rest, n, _, rfl, rfl, hb, hl, hm, hlen, hel, _, _⟩
  . subst h0
    refine ⟨[], _, rfl, ?_⟩
    simp only [zaR, List.map_nil]
    exact ⟨none, 0, rfl, Nat.le_refl _, fun q => absurd rfl q, fun _ => rfl⟩
  rw [hc] at hel
  have each : ∀ i, i < len -> ∃ cs' y, W.cells? 0 (a.add (i * s)) s = some cs' /\ DataW.trod enc P W 0 sp held n e cs' = some y := by
   intro i hi
   have := hel i hi
   rw [List.getElem?_eq_getElem (by omega)] at this
   obtain ⟨cs', h1, h2⟩ := Option.bind_eq_some_iff.1 this
   exact ⟨cs', _, h1, h2⟩
  by_cases h0 : len = 0
  . subst h0
    refine ⟨[], _, rfl, ?_⟩
    simp only [zaR, List.map_nil]
    exact ⟨some a, cap, rfl, Nat.zero_le _, fun q => absurd rfl q, fun e => by cases e⟩
  obtain ⟨b, off, spot⟩ := a
  obtain ⟨cs0, y0, e0, _⟩ := each 0 (by omega)
  have hc0 := (World.cells?_some e0).2.2 0 hs
  rw [Nat.zero_mul] at hc0
  have hlen0 : 0 < cs0.length := by rw [(World.cells?_some e0).2.1]; exact hs
  rw [List.getElem?_eq_getElem hlen0] at hc0
  have hspot : spot = none := by simpa [Addr.add] using World.cell?_spot hc0
  subst hspot
  rw [zh2, zh2] at hc0
  obtain ⟨arr, T, fz, hh, _⟩ := zqX hc0
  have each2 : ∀ i, ∃ p : α, i < len -> zaE W (zeF W) (pv p) (arr.toList.drop (off + i * s)) := by
   intro i
   by_cases hi : i < len
   . obtain ⟨cs', y, h1, h2⟩ := each i hi
     obtain ⟨p, hp⟩ := hd _ _ _ h2
     rw [zh2] at h1
     obtain ⟨r, hr⟩ := zoX hh h1
     exact ⟨p, fun _ => by rw [hr]; exact hp r⟩
   . exact ⟨default, fun q => absurd q hi⟩
  have hf := Classical.axiomOfChoice each2
  obtain ⟨f, hf⟩ := hf
  refine ⟨(List.range len).map f, _, rfl, ?_⟩
  simp only [zaR, List.length_map, List.length_range]
  refine ⟨_, cap, rfl, hl, fun _ => ⟨b, off, arr, T, fz, rfl, ?_, hh, ?_⟩, fun e => by cases e⟩
  . exact (Array.getElem?_eq_some_iff.1 hh).1
  . refine ziV fun i e he => ?_
    rw [List.getElem?_map, List.getElem?_map] at he
    by_cases hi : i < len
    . rw [List.getElem?_range hi] at he
      simp only [Option.map_some, Option.some.injEq] at he
      subst he
      refine ⟨hp _, ?_⟩
      rw [List.drop_drop]
      exact hf i hi
    . rw [List.getElem?_eq_none (by simp; omega)] at he
      cases he
end
theorem zth {H : Type} {enc : TypeId × Value -> H} {W : World} {sp : Nat -> Bool} {held : Bool} (n : Nat) (cs : List Value) (y : DataW H × List MemPlace) (h : DataW.trod enc Tryz.prog W 0 sp held n 3 cs = some y) : ∃ a, ∀ r, zaE W (zeF W) (ipv a) (cs ++ r) := by
 obtain ⟨k, rfl, _, _⟩ := DataW.trod_int Tryz.underlying3 h
 exact ⟨k, fun r => by simp [ipv, zaE, zaR]⟩
theorem c15 {cs : List Value} (h : cs.length = 15) : ∃ a0 a1 a2 a3 a4 a5 a6 a7 a8 a9 a10 a11 a12 a13 a14, cs = [a0, a1, a2, a3, a4, a5, a6, a7, a8, a9, a10, a11, a12, a13, a14] := by
 match cs, h with
 | [a0, a1, a2, a3, a4, a5, a6, a7, a8, a9, a10, a11, a12, a13, a14], _ => exact ⟨_, _, _, _, _, _, _, _, _, _, _, _, _, _, _, rfl⟩
theorem zc1 {H : Type} {enc : TypeId × Value -> H} {W : World} {sp : Nat -> Bool} {held : Bool} {n : Nat} {t : TypeId} {k : IntKind} (ht : Tryz.prog.underlying t = some (.int k)) {v : Value} {o : Option (DataW H × List MemPlace)} (ho : o.isSome = true) (h : DataW.trod enc Tryz.prog W 0 sp held n t [v] = o) : ∃ m, v = .int k m := by
 obtain ⟨y, rfl⟩ := Option.isSome_iff_exists.1 ho
 obtain ⟨m, e, _, _⟩ := DataW.trod_int ht h
 cases e
 exact ⟨m, rfl⟩
theorem zvK : Tryz.prog.cellsOf 63 = 15 := by kernel_rfl
theorem zBm : Tryz.prog.cellsOf 61 = 4 := by kernel_rfl
theorem zvJ : Tryz.prog.cellsOf 59 = 1 := by kernel_rfl
theorem co3 : Tryz.prog.cellsOf 3 = 1 := by kernel_rfl
theorem zBl : Tryz.prog.cellsOf 38 = 2 := by kernel_rfl
theorem zBj : Tryz.prog.cellsOf 22 = 1 := by kernel_rfl
theorem zBk : Tryz.prog.cellsOf 36 = 1 := by kernel_rfl
theorem zvM {H : Type} {enc : TypeId × Value -> H} {W : World} {sp : Nat -> Bool} {held : Bool} (n : Nat) (cs : List Value) (y : DataW H × List MemPlace) (h : DataW.trod enc Tryz.prog W 0 sp held n 63 cs = some y) : ∃ a, ∀ r, zaE W (zeF W) (HI.pv a) (cs ++ r) := by
 obtain ⟨xs, m, rfl, _, hl, hx, hf⟩ := DataW.trod_struct Tryz.underlying63 h
 rw [zvK] at hl
 obtain ⟨a0, a1, a2, a3, a4, a5, a6, a7, a8, a9, a10, a11, a12, a13, a14, rfl⟩ := c15 hl
 have hx : xs.length = 12 := hx
 have is : ∀ i, i < 12 -> (xs[i]?).isSome = true := fun i hi => by rw [List.getElem?_eq_getElem (by omega)]; rfl
 have f0 := hf 0 { name := "Op", type := 3, offset := 0, embedded := false, tag := "", pkgPath := "", byteOffset := 0 } rfl
 have f1 := hf 1 { name := "Sub", type := 3, offset := 1, embedded := false, tag := "", pkgPath := "", byteOffset := 8 } rfl
 have f2 := hf 2 { name := "From", type := 3, offset := 2, embedded := false, tag := "", pkgPath := "", byteOffset := 16 } rfl
 have f3 := hf 3 { name := "Ty", type := 3, offset := 3, embedded := false, tag := "", pkgPath := "", byteOffset := 24 } rfl
 have f4 := hf 4 { name := "D", type := 3, offset := 4, embedded := false, tag := "", pkgPath := "", byteOffset := 32 } rfl
 have f5 := hf 5 { name := "A", type := 3, offset := 5, embedded := false, tag := "", pkgPath := "", byteOffset := 40 } rfl
 have f6 := hf 6 { name := "B", type := 3, offset := 6, embedded := false, tag := "", pkgPath := "", byteOffset := 48 } rfl
 have f7 := hf 7 { name := "C", type := 3, offset := 7, embedded := false, tag := "", pkgPath := "", byteOffset := 56 } rfl
 have f8 := hf 8 { name := "K", type := 3, offset := 8, embedded := false, tag := "", pkgPath := "", byteOffset := 64 } rfl
 have f9 := hf 9 { name := "I", type := 59, offset := 9, embedded := false, tag := "", pkgPath := "", byteOffset := 72 } rfl
 have f10 := hf 10 { name := "Chain", type := 59, offset := 10, embedded := false, tag := "", pkgPath := "", byteOffset := 76 } rfl
 have f11 := hf 11 { name := "V", type := 61, offset := 11, embedded := false, tag := "", pkgPath := "", byteOffset := 80 } rfl
 simp only [co3, zvJ, zBm, List.drop_zero, List.drop_succ_cons, List.take_succ_cons, List.take_zero] at f0 f1 f2 f3 f4 f5 f6 f7 f8 f9 f10 f11
 obtain ⟨m0, rfl⟩ := zc1 Tryz.underlying3 (is 0 (by decide)) f0
 obtain ⟨m1, rfl⟩ := zc1 Tryz.underlying3 (is 1 (by decide)) f1
 obtain ⟨m2, rfl⟩ := zc1 Tryz.underlying3 (is 2 (by decide)) f2
 obtain ⟨m3, rfl⟩ := zc1 Tryz.underlying3 (is 3 (by decide)) f3
 obtain ⟨m4, rfl⟩ := zc1 Tryz.underlying3 (is 4 (by decide)) f4
 obtain ⟨m5, rfl⟩ := zc1 Tryz.underlying3 (is 5 (by decide)) f5
 obtain ⟨m6, rfl⟩ := zc1 Tryz.underlying3 (is 6 (by decide)) f6
 obtain ⟨m7, rfl⟩ := zc1 Tryz.underlying3 (is 7 (by decide)) f7
 obtain ⟨m8, rfl⟩ := zc1 Tryz.underlying3 (is 8 (by decide)) f8
 obtain ⟨m9, rfl⟩ := zc1 Tryz.underlying59 (is 9 (by decide)) f9
 obtain ⟨m10, rfl⟩ := zc1 Tryz.underlying59 (is 10 (by decide)) f10
 obtain ⟨z, hz⟩ := Option.isSome_iff_exists.1 (is 11 (by decide))
 rw [hz] at f11
 obtain ⟨ys, q, _, _, _, hy, hg⟩ := DataW.trod_array Tryz.underlying61 f11
 have is2 : ∀ i, i < 4 -> (ys[i]?).isSome = true := fun i hi => by rw [List.getElem?_eq_getElem (by omega)]; rfl
 have g0 := hg 0 (by decide)
 have g1 := hg 1 (by decide)
 have g2 := hg 2 (by decide)
 have g3 := hg 3 (by decide)
 simp only [zvJ, Nat.zero_mul, Nat.mul_one, List.drop_zero, List.drop_succ_cons, List.take_succ_cons, List.take_zero] at g0 g1 g2 g3
 obtain ⟨m11, rfl⟩ := zc1 Tryz.underlying59 (is2 0 (by decide)) g0
 obtain ⟨m12, rfl⟩ := zc1 Tryz.underlying59 (is2 1 (by decide)) g1
 obtain ⟨m13, rfl⟩ := zc1 Tryz.underlying59 (is2 2 (by decide)) g2
 obtain ⟨m14, rfl⟩ := zc1 Tryz.underlying59 (is2 3 (by decide)) g3
 exact ⟨⟨m0, m1, m2, m3, m4, m5, m6, m7, m8, m9, m10, m11, m12, m13, m14⟩, fun r => by
  simp only [HI.pv, zaE, zaR, List.cons_append]
  exact ⟨_, _, rfl, rfl, ⟨_, _, rfl, rfl, ⟨_, _, rfl, rfl, ⟨_, _, rfl, rfl, ⟨_, _, rfl, rfl, ⟨_, _, rfl, rfl, ⟨_, _, rfl, rfl, ⟨_, _, rfl, rfl, ⟨_, _, rfl, rfl, ⟨_, _, rfl, rfl, ⟨_, _, rfl, rfl, ⟨_, _, rfl, rfl, ⟨_, _, rfl, rfl, ⟨_, _, rfl, rfl, ⟨_, _, rfl, rfl, trivial⟩⟩⟩⟩⟩⟩⟩⟩⟩⟩⟩⟩⟩⟩⟩⟩
instance : Inhabited HI := ⟨⟨0, 0, 0, 0, 0, 0, 0, 0, 0, 0, 0, 0, 0, 0, 0⟩⟩
section
variable {H : Type} {enc : TypeId × Value -> H} {W : World} {sp : Nat -> Bool} {held : Bool} {fuel : Nat} {cs : List Value} {x : DataW H × List MemPlace}
theorem zms (h : DataW.trod enc Tryz.prog W 0 sp held fuel 22 cs = some x) : ∃ l : List HI, ∃ v, cs = [v] /\ rel (fun _ => none) W (zeF W) (hiS l) v := by
 obtain ⟨l, v, e, hr⟩ := zk4 (pv := HI.pv) Tryz.underlying22 zvK (by decide) (fun a => rfl) zvM h
 exact ⟨l, v, e, by simpa only [rel] using hr⟩
theorem zt2 (h : DataW.trod enc Tryz.prog W 0 sp held fuel 36 cs = some x) : ∃ l : List Int, ∃ v, cs = [v] /\ rel (fun _ => none) W (zeF W) (inS l) v := by
 obtain ⟨l, v, e, hr⟩ := zk4 (pv := ipv) Tryz.underlying36 co3 (by decide) (fun a => rfl) zth h
 exact ⟨l, v, e, by simpa only [rel] using hr⟩
theorem zt1 (h : DataW.trod enc Tryz.prog W 0 sp held fuel 38 cs = some x) : ∃ a : AL, ∃ v1 v2, cs = [v1, v2] /\ zam (fun _ => none) W (zeF W) a.cells [v1, v2] := by
 obtain ⟨xs, m, rfl, _, hl, hx, hf⟩ := DataW.trod_struct Tryz.underlying38 h
 rw [zBl] at hl
 match cs, hl with
 | [v1, v2], _ =>
   have hx : xs.length = 2 := hx
   have is : ∀ i, i < 2 -> (xs[i]?).isSome = true := fun i hi => by rw [List.getElem?_eq_getElem (by omega)]; rfl
   have f0 := hf 0 { name := "L", type := 22, offset := 0, embedded := false, tag := "", pkgPath := "", byteOffset := 0 } rfl
   have f1 := hf 1 { name := "From", type := 36, offset := 1, embedded := false, tag := "", pkgPath := "", byteOffset := 24 } rfl
   simp only [zBj, zBk, List.drop_zero, List.drop_succ_cons, List.take_succ_cons, List.take_zero] at f0 f1
   obtain ⟨y0, h0⟩ := Option.isSome_iff_exists.1 (is 0 (by decide))
   obtain ⟨y1, h1⟩ := Option.isSome_iff_exists.1 (is 1 (by decide))
   rw [h0] at f0; rw [h1] at f1
   obtain ⟨l, w1, e1, r1⟩ := zms f0
   obtain ⟨f, w2, e2, r2⟩ := zt2 f1
   cases e1; cases e2
   exact ⟨⟨l, f⟩, _, _, rfl, by simp only [AL.cells, zam]; exact ⟨_, _, rfl, r1, _, _, rfl, r2, rfl⟩⟩
end
end Go.Proofs.YtlahifihaeafbaaGreatDoor
namespace Go.Proofs.YtlahifihaeafbaaGreatDoor
open Go Go.Sx Go.ChangeShapes
def fmD : FM -> DataW Unit
 | ⟨n, a, b⟩ => .agg [.lit (.string n.data.toList), .lit (.int .i64 a), .lit (.int .i64 b)]
def fmP : FM -> List PV
 | ⟨n, a, b⟩ => [.str n, .int .i64 a, .int .i64 b]
theorem ztp {f g : FM} (h : fmD f = fmD g) : f = g := by
 obtain ⟨⟨⟨n⟩⟩, a, b⟩ := f
 obtain ⟨⟨⟨m⟩⟩, c, d⟩ := g
 simp only [fmD, DataW.agg.injEq, List.cons.injEq, DataW.lit.injEq, Lit.string.injEq, Lit.int.injEq, true_and, and_true] at h
 obtain ⟨h1, h2, h3⟩ := h
 subst h1; subst h2; subst h3; rfl
theorem zy0 : (Rows.laid_candling_host_forms : DataW Unit) = .agg (zc3.map fmD) := by rfl
theorem zpd : Tryz.prog.globalNamed "candling/host.forms" = some 0 := by kernel_rfl
theorem zx5 : (Tryz.prog.globals[0]?).map (·.type) = some 189 := by kernel_rfl
theorem co9 : Tryz.prog.cellsOf 9 = 1 := by kernel_rfl
theorem zsq : Tryz.prog.cellsOf 130 = 3 := by kernel_rfl
theorem zyC : Tryz.prog.cellsOf 189 = 138 := by kernel_rfl
theorem zvL {W : World} (n : Nat) (cs : List Value) (y : DataW Unit × List MemPlace) (h : DataW.trod (fun _ => ()) Tryz.prog W 0 (fun _ => true) false n 130 cs = some y) : ∃ f : FM, y.1 = fmD f /\ ∀ r, zaE W (zeF W) (fmP f) (cs ++ r) := by
 obtain ⟨xs, m, rfl, hy, hl, hx, hf⟩ := DataW.trod_struct Tryz.underlying130 h
 rw [zsq] at hl
 match cs, hl with
 | [a0, a1, a2], _ =>
   have hx : xs.length = 3 := hx
   match xs, hx with
   | [x0, x1, x2], _ =>
     have f0 := hf 0 { name := "name", type := 9, offset := 0, embedded := false, tag := "", pkgPath := "candling/host", byteOffset := 0 } rfl
     have f1 := hf 1 { name := "fields", type := 3, offset := 1, embedded := false, tag := "", pkgPath := "candling/host", byteOffset := 16 } rfl
     have f2 := hf 2 { name := "rule", type := 3, offset := 2, embedded := false, tag := "", pkgPath := "candling/host", byteOffset := 24 } rfl
     simp only [co3, co9, List.drop_zero, List.drop_succ_cons, List.take_succ_cons, List.take_zero] at f0 f1 f2
     obtain ⟨s, e0, g0, _⟩ := DataW.trod_string Tryz.underlying9 f0
     obtain ⟨k1, e1, g1, _⟩ := DataW.trod_int Tryz.underlying3 f1
     obtain ⟨k2, e2, g2, _⟩ := DataW.trod_int Tryz.underlying3 f2
     cases e0; cases e1; cases e2
     subst g0; subst g1; subst g2
     refine ⟨⟨s, k1, k2⟩, by rw [hy]; rfl, fun r => ?_⟩
     simp only [fmP, zaE, zaR, List.cons_append]
     exact ⟨_, _, rfl, rfl, _, _, rfl, rfl, _, _, rfl, rfl, trivial⟩
theorem zoj {W : World} (h : laidMetH Tryz.prog [("candling/host.forms", Rows.laid_candling_host_forms)] W) (g : Nat) (s : SV) (hs : GG g = some s) : rel (fun _ => none) W (zeF W) s (.pointer (some ⟨g, 0, none⟩)) := by
 match g, hs with
 | 0, hs =>
   cases hs
   rw [MakeChecks.laidMetH_plain _ _ _ (by kernel_rfl)] at h
   obtain ⟨ps, ⟨g0, t0, cs0, f0, p0, q0, hg0, ht0, hv0, hd0, _, _⟩, _, _⟩ := h
   obtain rfl := Option.some.inj (zpd.symm.trans hg0)
   obtain rfl := Option.some.inj (zx5.symm.trans ht0)
   rw [zy0] at hd0
   obtain ⟨xs, m, rfl, hx, hl, hn, hel⟩ := DataW.trod_array Tryz.underlying189 hd0
   rw [zyC] at hl
   simp only [Prod.mk.injEq, DataW.agg.injEq] at hx
   have hx := hx.1
   have hh : ∃ T fz, W.heap[0]? = some (.cells cs0 T fz) := by
    simp only [World.var?, zpd, Option.bind_some] at hv0
    split at hv0
    . next cs T fz e => cases hv0; exact ⟨T, fz, e⟩
    . cases hv0
   obtain ⟨T, fz, hh⟩ := hh
   simp only [rel]
   refine ⟨0, 0, cs0, T, fz, rfl, (Array.getElem?_eq_some_iff.1 hh).1, hh, ?_⟩
   rw [List.drop_zero]
   refine ziV fun i e he => ?_
   have hi : i < 46 := by
    have := (List.getElem?_eq_some_iff.1 he).1
    rw [List.length_map] at this
    exact this
   have h1 := hel i hi
   rw [zsq, List.getElem?_eq_getElem (by omega)] at h1
   obtain ⟨f, e1, e2⟩ := zvL _ _ _ h1
   have h3 : (xs.map (·.1))[i]? = some (fmD f) := by rw [List.getElem?_map, List.getElem?_eq_getElem (by omega), Option.map_some, e1]
   rw [<- hx, List.getElem?_map] at h3
   rw [List.getElem?_map] at he
   cases hq : zc3[i]? with
   | none => rw [hq] at he; cases he
   | some f' =>
     rw [hq] at he h3
     have : f' = f := ztp (by simpa using h3)
     subst this
     have he : fmP f' = e := Option.some.inj he
     subst he
     refine ⟨rfl, ?_⟩
     have := e2 ((cs0.toList.drop (i * 3)).drop 3)
     rw [List.take_append_drop] at this
     exact this
end Go.Proofs.YtlahifihaeafbaaGreatDoor
