/- Part 9 of 11 of a proof of the law AllocLive: what the last part leans on. -/
import Derived.Test.YtlahifihaeafbaaGreatDoorZh
set_option linter.all false
set_option maxRecDepth 100000
namespace Go.Proofs.YtlahifihaeafbaaGreatDoor
open Go Go.Sx
section
def zI4 : MC := .seq (.reg [oo 8 (.mv kf)]) (.seq (.reg [om 13 1,oo 14 (ac .add 13 1),om 9 14]) (.seq (.seq (.reg [oo 10 (.mv (ki 0))]) (.blk 0 (.loop 0 (.seq (.seq (.reg [om 15 10,oo 16 (cc .lss 15 5)]) (.cond (.t 16) (.skip) (.exit 0))) (.seq (.blk 1 (.seq (.blk 2 (.loop 1 (.seq (.seq (.drw [om 19 9,om 20 2,oo 21 (ct .lss 19 20),sm 22 21,mt 22 23 3,mt 22 24 0,mt 22 25 9,gt_ 22 26 (ia 2 24 25),gt_ 22 27 (ls 2 26),mt 22 28 0,mt 22 29 9,gt_ 22 30 (ac .sub 29 1),gt_ 22 31 (ia 2 28 30),gt_ 22 32 (ls 2 31),gt_ 22 33 (.call (.t 23) [(.t 27),(.t 32)]),gt_ 22 34 (cc .lss 33 0),gt_ 22 35 (.not (.t 34)),oo 36 (pf 22 35)] [[],[],[0,1],[2],[3],[3],[3],[5,6,3],[7,3],[3],[3],[10,3],[9,11,3],[12,3],[4,8,13,3,3],[14,3],[15,3],[3,16]]) (.cond (.t 36) (.skip) (.exit 2))) (.blk 3 (.reg [om 37 9,oo 38 (ac .add 37 1),om 9 38]))))) (.seq (.seq (.reg [om 39 9,om 40 2,oo 41 (ct .eql 39 40)]) (.cond (.t 41) (.seq (.reg [oo 8 (.mv kt)]) (.ret)) (.skip))) (.seq (.seq (.reg [om 42 2,om 43 1,oo 44 (at_ .sub 42 43),oo 45 (cc .lss 44 50)]) (.cond (.t 45) (.seq (.reg [oo 8 (.mv kf)]) (.ret)) (.skip))) (.seq (.drw [om 46 0,om 47 9,om 48 0,om 49 9,oo 50 (ac .sub 49 1),om 51 0,om 52 9,oo 53 (ac .sub 52 1),oo 54 (ia 2 51 53),oo 55 (ls 2 54),om 56 0,om 57 9,oo 58 (ia 2 56 57),oo 59 (ls 2 58),oo 60 (ia 2 46 47),o none (.st (some 2) (.t 60) (.t 55)),oo 61 (ia 2 48 50),o none (.st (some 2) (.t 61) (.t 59))] [[],[],[],[],[3],[],[],[6],[5,7],[8],[],[],[10,11],[12],[0,1,0,1,5,6,7,8,9,13],[14,9,0,1,5,6,7,8,9,13],[2,4,0,1,2,3,4,5,6,7,8,9,10,11,12,13,14,15],[16,13,15,0,1,2,3,4,5,6,7,8,9,10,11,12,13,14,15]]) (.seq (.seq (.reg [om 62 9,om 63 1,oo 64 (at_ .sub 62 63),oo 65 (cc .geq 64 2)]) (.cond (.t 65) (.seq (.reg [om 66 9,oo 67 (ac .sub 66 1),om 11 67]) (.blk 4 (.loop 2 (.seq (.seq (.reg [om 68 11,oo 69 (cc .geq 68 1)]) (.cond (.t 69) (.skip) (.exit 4))) (.seq (.blk 5 (.seq (.seq (.drw [om 72 3,om 73 0,om 74 11,oo 75 (ia 2 73 74),oo 76 (ls 2 75),om 77 0,om 78 11,oo 79 (ac .sub 78 1),oo 80 (ia 2 77 79),oo 81 (ls 2 80),oo 82 (.call (.t 72) [(.t 76),(.t 81)]),oo 83 (cc .lss 82 0),oo 84 (.not (.t 83))] [[],[],[],[1,2],[3],[],[],[6],[5,7],[8],[0,4,9],[10],[11]]) (.cond (.t 84) (.exit 4) (.skip))) (.drw [om 85 0,om 86 11,om 87 0,om 88 11,oo 89 (ac .sub 88 1),om 90 0,om 91 11,oo 92 (ac .sub 91 1),oo 93 (ia 2 90 92),oo 94 (ls 2 93),om 95 0,om 96 11,oo 97 (ia 2 95 96),oo 98 (ls 2 97),oo 99 (ia 2 85 86),o none (.st (some 2) (.t 99) (.t 94)),oo 100 (ia 2 87 89),o none (.st (some 2) (.t 100) (.t 98))] [[],[],[],[],[3],[],[],[6],[5,7],[8],[],[],[10,11],[12],[0,1,0,1,5,6,7,8,9,13],[14,9,0,1,5,6,7,8,9,13],[2,4,0,1,2,3,4,5,6,7,8,9,10,11,12,13,14,15],[16,13,15,0,1,2,3,4,5,6,7,8,9,10,11,12,13,14,15]]))) (.reg [om 70 11,oo 71 (ac .sub 70 1),om 11 71])))))) (.skip))) (.seq (.reg [om 101 2,om 102 9,oo 103 (at_ .sub 101 102),oo 104 (cc .geq 103 2)]) (.cond (.t 104) (.seq (.reg [om 105 9,oo 106 (ac .add 105 1),om 12 106]) (.blk 6 (.loop 3 (.seq (.seq (.reg [om 107 12,om 108 2,oo 109 (ct .lss 107 108)]) (.cond (.t 109) (.skip) (.exit 6)))
 (.seq (.blk 7 (.seq (.seq (.drw [om 112 3,om 113 0,om 114 12,oo 115 (ia 2 113 114),oo 116 (ls 2 115),om 117 0,om 118 12,oo 119 (ac .sub 118 1),oo 120 (ia 2 117 119),oo 121 (ls 2 120),oo 122 (.call (.t 112) [(.t 116),(.t 121)]),oo 123 (cc .lss 122 0),oo 124 (.not (.t 123))] [[],[],[],[1,2],[3],[],[],[6],[5,7],[8],[0,4,9],[10],[11]]) (.cond (.t 124) (.exit 6) (.skip))) (.drw [om 125 0,om 126 12,om 127 0,om 128 12,oo 129 (ac .sub 128 1),om 130 0,om 131 12,oo 132 (ac .sub 131 1),oo 133 (ia 2 130 132),oo 134 (ls 2 133),om 135 0,om 136 12,oo 137 (ia 2 135 136),oo 138 (ls 2 137),oo 139 (ia 2 125 126),o none (.st (some 2) (.t 139) (.t 134)),oo 140 (ia 2 127 129),o none (.st (some 2) (.t 140) (.t 138))] [[],[],[],[],[3],[],[],[6],[5,7],[8],[],[],[10,11],[12],[0,1,0,1,5,6,7,8,9,13],[14,9,0,1,5,6,7,8,9,13],[2,4,0,1,2,3,4,5,6,7,8,9,10,11,12,13,14,15],[16,13,15,0,1,2,3,4,5,6,7,8,9,10,11,12,13,14,15]]))) (.reg [om 110 12,oo 111 (ac .add 110 1),om 12 111])))))) (.skip))))))))) (.reg [om 17 10,oo 18 (ac .add 17 1),om 10 18])))))) (.seq (.reg [oo 8 (.mv kf)]) (.ret))))
theorem zFP : zan Tryz.prog 186 141 zI4 [.t 8] := fk Tryz.func186 ⟨tv,⟨tv,⟨⟨tv,⟨⟨tv,⟨tv,tv⟩⟩,⟨⟨⟨⟨tv,⟨tv,tv⟩⟩,tv⟩,⟨⟨tv,⟨⟨tv,tv⟩,tv⟩⟩,⟨⟨tv,⟨⟨tv,tv⟩,tv⟩⟩,⟨tv,⟨⟨tv,⟨⟨tv,⟨⟨tv,⟨tv,tv⟩⟩,⟨⟨⟨tv,⟨tv,tv⟩⟩,tv⟩,tv⟩⟩⟩,tv⟩⟩,⟨tv,⟨⟨tv,⟨⟨tv,⟨tv,tv⟩⟩,⟨⟨⟨tv,⟨tv,tv⟩⟩,tv⟩,tv⟩⟩⟩,tv⟩⟩⟩⟩⟩⟩⟩,tv⟩⟩⟩,⟨tv,tv⟩⟩⟩⟩
def zmj (M : List HR) (b : Int) : Nat -> Int -> Int
 | 0, i => i
 | n + 1, i => if i < b then (if zaI (nth M i) (nth M (i - 1)) < 0 then i else zmj M b n (i + 1)) else i
def zbj (M : List HR) (b i : Int) : Int := zmj M b (b - i).toNat i
theorem zpY {M b i} (h : i < b) (e : ¬ zaI (nth M i) (nth M (i - 1)) < 0) : zbj M b i = zbj M b (i + 1) := by
 unfold zbj
 obtain ⟨n, hn⟩ : ∃ n, (b - i).toNat = n + 1 := ⟨(b - i).toNat - 1, by omega⟩
 rw [hn, zmj, if_pos h, if_neg e, show (b - (i + 1)).toNat = n by omega]
theorem zm1 {M b i} (h : ¬ i < b \/ zaI (nth M i) (nth M (i - 1)) < 0) : zbj M b i = i := by
 unfold zbj
 cases hn : (b - i).toNat with
 | zero => rfl
 | succ n =>
   rw [zmj]
   by_cases c : i < b
   . rw [if_pos c, if_pos (h.resolve_left (fun k => k c))]
   . rw [if_neg c]
def zpD : Nat -> List HR -> Int -> List HR
 | 0, M, _ => M
 | n + 1, M, j => if zaI (nth M j) (nth M (j - 1)) < 0 then zpD n (swq M j (j - 1)) (j - 1) else M
def zfZ (M : List HR) (j : Int) : List HR := zpD j.toNat M j
theorem zuf {M j} (h : 1 <= j) (e : zaI (nth M j) (nth M (j - 1)) < 0) : zfZ M j = zfZ (swq M j (j - 1)) (j - 1) := by
 unfold zfZ
 obtain ⟨n, hn⟩ : ∃ n, j.toNat = n + 1 := ⟨j.toNat - 1, by omega⟩
 rw [hn, zpD, if_pos e, show (j - 1).toNat = n by omega]
theorem zo9 {M j} (h : ¬ 1 <= j \/ ¬ zaI (nth M j) (nth M (j - 1)) < 0) : zfZ M j = M := by
 unfold zfZ
 cases hn : j.toNat with
 | zero => rfl
 | succ n => rw [zpD, if_neg (h.resolve_left (by omega))]
def zpQ (b : Int) : Nat -> List HR -> Int -> List HR
 | 0, M, _ => M
 | n + 1, M, j => if zaI (nth M j) (nth M (j - 1)) < 0 then zpQ b n (swq M j (j - 1)) (j + 1) else M
def zgz (M : List HR) (b j : Int) : List HR := zpQ b (b - j).toNat M j
theorem ztK {M b j} (h : j < b) (e : zaI (nth M j) (nth M (j - 1)) < 0) : zgz M b j = zgz (swq M j (j - 1)) b (j + 1) := by
 unfold zgz
 obtain ⟨n, hn⟩ : ∃ n, (b - j).toNat = n + 1 := ⟨(b - j).toNat - 1, by omega⟩
 rw [hn, zpQ, if_pos e, show (b - (j + 1)).toNat = n by omega]
theorem zo5 {M b j} (h : ¬ j < b \/ ¬ zaI (nth M j) (nth M (j - 1)) < 0) : zgz M b j = M := by
 unfold zgz
 cases hn : (b - j).toNat with
 | zero => rfl
 | succ n => rw [zpQ, if_neg (h.resolve_left (by omega))]
def zef (a : Int) (M : List HR) (i : Int) : List HR := if 2 <= i - a then zfZ M (i - 1) else M
def zgx (b : Int) (M : List HR) (i : Int) : List HR := if 2 <= b - i then zgz M b (i + 1) else M
def zb1 (a b : Int) : Nat -> List HR -> Int -> Bool × List HR
 | 0, M, _ => (false, M)
 | n + 1, M, i => if zbj M b i = b then (true, M) else if b - a < 50 then (false, M) else zb1 a b n (zgx b (zef a (swq M (zbj M b i) (zbj M b i - 1)) (zbj M b i)) (zbj M b i)) (zbj M b i)
def zfs (L : List HR) (a b : Int) : Prop := Pre a b L /\ 12 < b - a
abbrev znF := Unit × Int × Int × List HR
abbrev zkY := Int × Int × List HR
abbrev zjP := Int × Int × Int × List HR
abbrev ziD := Int × Int × Int × List HR × Unit
def zut (L : List HR) (a b : Int) : znF -> St
 | (_, k, i, M) => ⟨[(10, kz k), (9, kz i), (3, .fn (.func 52) [] []), (2, kz b), (1, kz a), (0, .slc 0 0 L.length)], [(0, some (.vec 2 (M.map HR.pv)))], 1⟩
def zuP (L : List HR) (a b : Int) : zkY -> St
 | (k, i, M) => ⟨[(10, kz k), (9, kz i), (3, .fn (.func 52) [] []), (2, kz b), (1, kz a), (0, .slc 0 0 L.length)], [(0, some (.vec 2 (M.map HR.pv)))], 1⟩
def zus (L : List HR) (a b : Int) : zjP -> St
 | (k, i, j, M) => ⟨[(11, kz j), (10, kz k), (9, kz i), (3, .fn (.func 52) [] []), (2, kz b), (1, kz a), (0, .slc 0 0 L.length)], [(0, some (.vec 2 (M.map HR.pv)))], 1⟩
def zvo (L : List HR) (a b : Int) : ziD -> St
 | (k, i, j, M, _) => ⟨[(12, kz j), (10, kz k), (9, kz i), (3, .fn (.func 52) [] []), (2, kz b), (1, kz a), (0, .slc 0 0 L.length)], [(0, some (.vec 2 (M.map HR.pv)))], 1⟩
def zbF (L : List HR) (a b : Int) : znF -> Prop
 | (_, k, i, M) => Pre a b L /\ 12 < b - a /\ 0 <= k /\ k <= 5 /\ a + 1 <= i /\ i <= b /\ M.length = L.length /\ zb1 a b (5 - k).toNat M i = zb1 a b 5 L (a + 1)
def zbw (L : List HR) (a b : Int) (c0 : zkY) : zkY -> Prop
 | (k, i, M) => k = c0.1 /\ M = c0.2.2 /\ Pre a b L /\ 0 <= k /\ k < 5 /\ a + 1 <= i /\ i <= b /\ M.length = L.length /\ zbj M b c0.2.1 = zbj M b i
def zcf (L : List HR) (a b : Int) (c0 : zjP) : zjP -> Prop
 | (k, i, j, M) => k = c0.1 /\ i = c0.2.1 /\ Pre a b L /\ 0 <= j /\ j < i /\ i < b /\ M.length = L.length /\ zfZ c0.2.2.2 c0.2.2.1 = zfZ M j
def zch (L : List HR) (a b : Int) (c0 : ziD) : ziD -> Prop
 | (k, i, j, M, _) => k = c0.1 /\ i = c0.2.1 /\ Pre a b L /\ a + 1 <= i /\ i < j /\ j <= b /\ M.length = L.length /\ zgz c0.2.2.2.1 b c0.2.2.1 = zgz M b j
def zBn (L : List HR) (a b : Int) : Nat -> zbO
 | 0 => .inv znF (fun _ => zbF L a b) (zut L a b) (fun c => (5 - c.2.1).toNat)
 | 1 => .inv zkY (zbw L a b) (zuP L a b) (fun c => (b - c.2.1).toNat)
 | 2 => .inv zjP (zcf L a b) (zus L a b) (fun c => c.2.2.1.toNat)
 | _ => .inv ziD (zch L a b) (zvo L a b) (fun c => (b - c.2.2.1).toNat)
theorem zuI {L a b} {Q : znF -> Prop} (h : ∀ k i M, zbF L a b ((), k, i, M) -> Q ((), k, i, M)) : ∀ c, zbF L a b c -> Q c := fun ⟨_, k, i, M⟩ hI => h _ _ _ hI
theorem zvV {L a b k i0 M} {Q : zkY -> Prop} (h : ∀ i, zbw L a b (k, i0, M) (k, i, M) -> Q (k, i, M)) : ∀ c, zbw L a b (k, i0, M) c -> Q c := fun ⟨k', i, M'⟩ hI => by
 have h1 := hI.1; have h2 := hI.2.1
 dsimp only at h1 h2
 subst h1; subst h2
 exact h _ hI
theorem zvN {L a b k i j0 M0} {Q : zjP -> Prop} (h : ∀ j M, zcf L a b (k, i, j0, M0) (k, i, j, M) -> Q (k, i, j, M)) : ∀ c, zcf L a b (k, i, j0, M0) c -> Q c := fun ⟨k', i', j, M⟩ hI => by
 have h1 := hI.1; have h2 := hI.2.1
 dsimp only at h1 h2
 subst h1; subst h2
 exact h _ _ hI
theorem zvc {L a b k i j0 M0} {Q : ziD -> Prop} (h : ∀ j M, zch L a b (k, i, j0, M0, ()) (k, i, j, M, ()) -> Q (k, i, j, M, ())) : ∀ c, zch L a b (k, i, j0, M0, ()) c -> Q c := fun ⟨k', i', j, M, _⟩ hI => by
 have h1 := hI.1; have h2 := hI.2.1
 dsimp only at h1 h2
 subst h1; subst h2
 exact h _ _ hI
theorem zvj {L a b c0 k i j M} (_ : zcf L a b c0 (k, i, j, M)) {p q : zjP -> Prop} (h : p (k, i, j - 1, swq M j (j - 1))) (g : q (k, i, j - 1, swq M j (j - 1))) : ∃ c, p c /\ q c := ⟨_, h, g⟩
theorem zyY {L a b c0 k i M} (_ : zbw L a b c0 (k, i, M)) {p q : zjP -> Prop} (h : p (k, i, i - 1, swq M i (i - 1))) (g : q (k, i, i - 1, swq M i (i - 1))) : ∃ c, p c /\ q c := ⟨_, h, g⟩
theorem zvw {L a b c0 k i j M} (_ : zch L a b c0 (k, i, j, M, ())) {p q : ziD -> Prop} (h : p (k, i, j + 1, swq M j (j - 1), ())) (g : q (k, i, j + 1, swq M j (j - 1), ())) : ∃ c, p c /\ q c := ⟨_, h, g⟩
theorem zwH {L a b c0 k i M} (_ : zbw L a b c0 (k, i, M)) (_ : ¬ 2 <= i - a) {p q : ziD -> Prop} (h : p (k, i, i + 1, swq M i (i - 1), ())) (g : q (k, i, i + 1, swq M i (i - 1), ())) : ∃ c, p c /\ q c := ⟨_, h, g⟩
theorem zEO {L a b} (h : zfs L a b) : zbF L a b ((), 0, a + 1, L) := ⟨h.1, h.2, by omega, by omega, by omega, by have := h.2; omega, rfl, rfl⟩
theorem zJ6 {L a b k i M} (h : zbF L a b ((), k, i, M)) (hk : k < 5) : zbw L a b (k, i, M) (k, i, M) := ⟨rfl, rfl, h.1, h.2.2.1, hk, h.2.2.2.2.1, h.2.2.2.2.2.1, h.2.2.2.2.2.2.1, rfl⟩
theorem zCT {L a b c0 k i M} (h : zbw L a b c0 (k, i, M)) (hi : i < b) (e : ¬ zaI (nth M i) (nth M (i - 1)) < 0) : zbw L a b c0 (k, i + 1, M) /\ (b - (i + 1)).toNat < (b - i).toNat := by
 obtain ⟨h1, h2, h3, h4, h5, h6, h7, h8, h9⟩ := h
 exact ⟨⟨h1, h2, h3, h4, h5, by omega, by omega, h8, h9.trans (zpY hi e)⟩, by omega⟩
theorem zJa {L a b c0 k i M} (h : zbw L a b c0 (k, i, M)) (hi : i < b) (ha : 2 <= i - a) : zcf L a b (k, i, i - 1, swq M i (i - 1)) (k, i, i - 1, swq M i (i - 1)) := by
 obtain ⟨h1, h2, h3, h4, h5, h6, h7, h8, h9⟩ := h
 have hp := h3
 unfold Pre at hp
 exact ⟨rfl, rfl, h3, by omega, by omega, hi, zbr.trans h8, rfl⟩
theorem zDl {L a b c0 k i j M} (h : zcf L a b c0 (k, i, j, M)) (hj : 1 <= j) (e : ¬ ¬ zaI (nth M j) (nth M (j - 1)) < 0) : zcf L a b c0 (k, i, j - 1, swq M j (j - 1)) /\ (j - 1).toNat < j.toNat := by
 obtain ⟨h1, h2, h3, h4, h5, h6, h7, h8⟩ := h
 exact ⟨⟨h1, h2, h3, by omega, by omega, h6, zbr.trans h7, h8.trans (zuf hj (Classical.not_not.1 e))⟩, by omega⟩
theorem zCn {L a b c0 k i M} (h : zbw L a b c0 (k, i, M)) (hb : 2 <= b - i) : zch L a b (k, i, i + 1, swq M i (i - 1), ()) (k, i, i + 1, swq M i (i - 1), ()) := by
 obtain ⟨h1, h2, h3, h4, h5, h6, h7, h8, h9⟩ := h
 exact ⟨rfl, rfl, h3, h6, by omega, by omega, zbr.trans h8, rfl⟩
theorem zDc {L a b c0 d0 k i j M N} (h0 : zbw L a b d0 (k, i, N)) (h : zcf L a b c0 (k, i, j, M)) (hb : 2 <= b - i) : zch L a b (k, i, i + 1, M, ()) (k, i, i + 1, M, ()) :=
 ⟨rfl, rfl, h.2.2.1, h0.2.2.2.2.2.1, by omega, by omega, h.2.2.2.2.2.2.1, rfl⟩
theorem zBs {L a b c0 k i j M} (h : zch L a b c0 (k, i, j, M, ())) (hj : j < b) (e : ¬ ¬ zaI (nth M j) (nth M (j - 1)) < 0) : zch L a b c0 (k, i, j + 1, swq M j (j - 1), ()) /\ (b - (j + 1)).toNat < (b - j).toNat := by
 obtain ⟨h1, h2, h3, h4, h5, h6, h7, h8⟩ := h
 exact ⟨⟨h1, h2, h3, h4, by omega, by omega, zbr.trans h7, h8.trans (ztK hj (Classical.not_not.1 e))⟩, by omega⟩
theorem zk0 {a b k i : Int} {M} (h0 : 0 <= k) (hk : k < 5) : zb1 a b (5 - k).toNat M i = if zbj M b i = b then (true, M) else if b - a < 50 then (false, M) else zb1 a b (5 - (k + 1)).toNat (zgx b (zef a (swq M (zbj M b i) (zbj M b i - 1)) (zbj M b i)) (zbj M b i)) (zbj M b i) := by
 obtain ⟨n, hn⟩ : ∃ n, (5 - k).toNat = n + 1 := ⟨(5 - k).toNat - 1, by omega⟩
 rw [hn, show (5 - (k + 1)).toNat = n by omega]; rfl
theorem zo2 {L a b k i0 i M} (h : zbw L a b (k, i0, M) (k, i, M)) (e : ¬ i < b \/ ¬ ¬ zaI (nth M i) (nth M (i - 1)) < 0) : zbj M b i0 = i := by
 have h9 := h.2.2.2.2.2.2.2.2
 dsimp only at h9
 rw [h9]
 exact zm1 (e.imp id Classical.not_not.1)
theorem zyN {L a b k i0 i M} (h0 : zbF L a b ((), k, i0, M)) (h : zbw L a b (k, i0, M) (k, i, M)) (e : ¬ i < b \/ ¬ ¬ zaI (nth M i) (nth M (i - 1)) < 0) (hb : i = b) : zb1 a b 5 L (a + 1) = (true, M) := by
 rw [<- h0.2.2.2.2.2.2.2, zk0 h.2.2.2.1 h.2.2.2.2.1, zo2 h e, if_pos hb]
theorem zwq {L a b k i0 i M} (h0 : zbF L a b ((), k, i0, M)) (h : zbw L a b (k, i0, M) (k, i, M)) (e : ¬ i < b \/ ¬ ¬ zaI (nth M i) (nth M (i - 1)) < 0) (hb : ¬ i = b) (h5 : b - a < 50) : zb1 a b 5 L (a + 1) = (false, M) := by
 rw [<- h0.2.2.2.2.2.2.2, zk0 h.2.2.2.1 h.2.2.2.2.1, zo2 h e, if_neg hb, if_pos h5]
theorem zIv {L a b k i M} (h0 : zbF L a b ((), k, i, M)) (hk : ¬ k < 5) : zb1 a b 5 L (a + 1) = (false, M) := by
 have h4 := h0.2.2.2.1
 rw [<- h0.2.2.2.2.2.2.2, show (5 - k).toNat = 0 by omega]; rfl
theorem zoV {L a b k i0 i M N} (h0 : zbF L a b ((), k, i0, M)) (h : zbw L a b (k, i0, M) (k, i, M)) (e : ¬ i < b \/ ¬ ¬ zaI (nth M i) (nth M (i - 1)) < 0) (hb : ¬ i = b) (h5 : ¬ b - a < 50) (hN : N.length = L.length) (g : zgx b (zef a (swq M i (i - 1)) i) i = N) :
 zbF L a b ((), k + 1, i, N) /\ (5 - (k + 1)).toNat < (5 - k).toNat := by
  have h1 := h.2.2.2.1
  have h2 := h.2.2.2.2.1
  refine ⟨⟨h0.1, h0.2.1, by omega, by omega, h.2.2.2.2.2.1, h.2.2.2.2.2.2.1, hN, ?_⟩, by omega⟩
  rw [<- h0.2.2.2.2.2.2.2, zk0 h1 h2, zo2 h e, if_neg hb, if_neg h5, g]
abbrev zoT (M : List HR) (b i : Int) : Prop := ¬ i < b \/ ¬ ¬ zaI (nth M i) (nth M (i - 1)) < 0
theorem zty {L a b k i j M N} (h : zcf L a b (k, i, i - 1, N) (k, i, j, M)) (ha : 2 <= i - a) (e : ¬ 1 <= j \/ ¬ zaI (nth M j) (nth M (j - 1)) < 0) : zef a N i = M := by
 unfold zef
 rw [if_pos ha]
 exact (h.2.2.2.2.2.2.2).trans (zo9 e)
theorem zuo {L a b k i j M N} (h : zch L a b (k, i, i + 1, N, ()) (k, i, j, M, ())) (hb : 2 <= b - i) (e : ¬ j < b \/ ¬ zaI (nth M j) (nth M (j - 1)) < 0) : zgx b N i = M := by
 unfold zgx
 rw [if_pos hb]
 exact (h.2.2.2.2.2.2.2).trans (zo5 e)
theorem zmb {L a b k i0 i M j N} (h0 : zbF L a b ((), k, i0, M)) (h : zbw L a b (k, i0, M) (k, i, M)) (e : zoT M b i) (hb : ¬ i = b) (h5 : ¬ b - a < 50) (ha : 2 <= i - a) (hz : zcf L a b (k, i, i - 1, swq M i (i - 1)) (k, i, j, N)) (ez : ¬ 1 <= j \/ ¬ zaI (nth N j) (nth N (j - 1)) < 0) (hr : ¬ 2 <= b - i) :
 zbF L a b ((), k + 1, i, N) /\ (5 - (k + 1)).toNat < (5 - k).toNat :=
  zoV h0 h e hb h5 hz.2.2.2.2.2.2.1 (by rw [zty hz ha ez]; unfold zgx; rw [if_neg hr])
theorem zgj {L a b k i0 i M j N j2 N2} (h0 : zbF L a b ((), k, i0, M)) (h : zbw L a b (k, i0, M) (k, i, M)) (e : zoT M b i) (hb : ¬ i = b) (h5 : ¬ b - a < 50) (ha : 2 <= i - a) (hz : zcf L a b (k, i, i - 1, swq M i (i - 1)) (k, i, j, N)) (ez : ¬ 1 <= j \/ ¬ zaI (nth N j) (nth N (j - 1)) < 0) (hr : 2 <= b - i)
 (hz2 : zch L a b (k, i, i + 1, N, ()) (k, i, j2, N2, ())) (er : ¬ j2 < b \/ ¬ zaI (nth N2 j2) (nth N2 (j2 - 1)) < 0) : zbF L a b ((), k + 1, i, N2) /\ (5 - (k + 1)).toNat < (5 - k).toNat :=
  zoV h0 h e hb h5 hz2.2.2.2.2.2.2.1 (by rw [zty hz ha ez, zuo hz2 hr er])
theorem zmm {L a b k i0 i M j2 N2} (h0 : zbF L a b ((), k, i0, M)) (h : zbw L a b (k, i0, M) (k, i, M)) (e : zoT M b i) (hb : ¬ i = b) (h5 : ¬ b - a < 50) (ha : ¬ 2 <= i - a) (hr : 2 <= b - i)
 (hz2 : zch L a b (k, i, i + 1, swq M i (i - 1), ()) (k, i, j2, N2, ())) (er : ¬ j2 < b \/ ¬ zaI (nth N2 j2) (nth N2 (j2 - 1)) < 0) : zbF L a b ((), k + 1, i, N2) /\ (5 - (k + 1)).toNat < (5 - k).toNat :=
  zoV h0 h e hb h5 hz2.2.2.2.2.2.2.1 (by
   have e1 : zef a (swq M i (i - 1)) i = swq M i (i - 1) := by unfold zef; rw [if_neg ha]
   rw [e1, zuo hz2 hr er])
attribute [local irreducible] zb1 zbj zfZ zgz
noncomputable def zAb (L : List HR) (a : Int) (b : Int) : zaa := ⟨[.slc 0 0 L.length, kz a, kz b, .fn (.func 52) [] []], [.vec 2 (L.map HR.pv)], [some (.vec 2 ((zb1 a b 5 L (a + 1)).2.map HR.pv))], [], .bool (zb1 a b 5 L (a + 1)).1⟩
set_option maxHeartbeats 8000000 in
theorem zGr (L : List HR) (a : Int) (b : Int) (hp : zfs L a b) : zaa.ok Tryz.prog GG 186 (zAb L a b) := by
 refine zac mix zFP _ rfl rfl (Tab.ok (l := [(52, S52)]) ⟨t52, trivial⟩) (zBn L a b) noJ ?_
 repeat' ((conv => whnf); first
  | exact trivial
  | with_reducible first | refine aj ?_ | refine ai rfl ?_ | refine ai ⟨rfl, rfl⟩ ?_
  | ((with_reducible refine ai ?_ ?_); focus exact w3)
  | with_reducible first | refine zuI ?_ | refine zvV ?_ | refine zvN ?_ | refine zvc ?_
  | ((with_reducible intro h); exfalso; simp only [zbF, zbw, zcf, zch, zfs, Pre] at *; omega)
  | with_reducible first | refine zvj (by with_reducible assumption) ?_ ?_ | refine zyY (by with_reducible assumption) ?_ ?_ | refine zvw (by with_reducible assumption) ?_ ?_ | refine zwH (by with_reducible assumption) (by with_reducible assumption) ?_ ?_ | apply exW (γ := ziD) (c := (_, _, _, _, ())) | apply exW (γ := zkY) (c := (_, _, _)) | apply exW (γ := znF) (c := ((), _, _, _)) | refine exI (i64_in (by simp only [zbF, zbw, zcf, zch, zfs, Pre, List.length_map] at *; omega) (by simp only [zbF, zbw, zcf, zch, zfs, Pre, List.length_map] at *; omega)) ?_
  | refine exI (x := ULift.up _) (za8 _ _ _ (by simp only [zbF, zbw, zcf, zch, zfs, Pre, List.length_map] at *; omega)) ?_
  | refine exI (x := ULift.up _) ⟨rfl, (by simp only [zbF, zbw, zcf, zch, zfs, Pre, List.length_map] at *; omega), zbc _ _ _ (by simp only [zbF, zbw, zcf, zch, zfs, Pre, List.length_map] at *; omega)⟩ ?_
  | refine exI (x := ULift.up _) (pgq (by simp only [zbF, zbw, zcf, zch, zfs, Pre, List.length_map] at *; omega)) ?_
  | with_reducible first | refine And.intro (Sd.mk (p := (_ : Int) <= _ /\ _) (by simp only [zbF, zbw, zcf, zch, zfs, Pre, List.length_map] at *; omega)) ?_ | refine And.intro ?_ ?_ | refine zae ?_ | refine exI (i64_in (by omega) (by omega)) ?_
  | refine exI (x := ULift.up _) (Eq.refl _) ?_
  | refine exI (x := ULift.up _) ⟨rfl, by omega, Eq.refl _⟩ ?_
  | exact nx
  | ((with_reducible intro h); try dsimp only at h))
 all_goals (refine Sd.mk ?_)
 all_goals (try simp only [HR.eta, true_and] at *)
 all_goals first
  | exact zfF
  | exact zEO hp
  | exact zJ6 ‹_› ‹_›
  | exact zCT ‹_› ‹_› ‹_›
  | exact zJa ‹_› (by omega) ‹_›
  | exact zDl ‹_› ‹_› ‹_›
  | exact zCn ‹_› ‹_›
  | exact zDc ‹_› ‹_› ‹_›
  | exact zBs ‹_› ‹_› ‹_›
  | (rw [zyN ‹_› ‹_› (.inl ‹_›) ‹_›]; done)
  | (rw [zwq ‹_› ‹_› (.inl ‹_›) ‹_› ‹_›]; done)
  | (rw [zyN ‹_› ‹_› (.inr ‹_›) ‹_›]; done)
  | (rw [zwq ‹_› ‹_› (.inr ‹_›) ‹_› ‹_›]; done)
  | (rw [zIv ‹_› ‹_›]; done)
  | exact zmb ‹_› ‹_› (.inl ‹_›) ‹_› ‹_› ‹_› ‹_› (.inl ‹_›) ‹_›
  | exact zmb ‹_› ‹_› (.inl ‹_›) ‹_› ‹_› ‹_› ‹_› (.inr ‹_›) ‹_›
  | exact zmb ‹_› ‹_› (.inr ‹_›) ‹_› ‹_› ‹_› ‹_› (.inl ‹_›) ‹_›
  | exact zmb ‹_› ‹_› (.inr ‹_›) ‹_› ‹_› ‹_› ‹_› (.inr ‹_›) ‹_›
  | exact zgj ‹_› ‹_› (.inl ‹_›) ‹_› ‹_› ‹_› ‹_› (.inl ‹_›) ‹_› ‹_› (.inl ‹_›)
  | exact zgj ‹_› ‹_› (.inl ‹_›) ‹_› ‹_› ‹_› ‹_› (.inl ‹_›) ‹_› ‹_› (.inr ‹_›)
  | exact zgj ‹_› ‹_› (.inl ‹_›) ‹_› ‹_› ‹_› ‹_› (.inr ‹_›) ‹_› ‹_› (.inl ‹_›)
  | exact zgj ‹_› ‹_› (.inl ‹_›) ‹_› ‹_› ‹_› ‹_› (.inr ‹_›) ‹_› ‹_› (.inr ‹_›)
  | exact zgj ‹_› ‹_› (.inr ‹_›) ‹_› ‹_› ‹_› ‹_› (.inl ‹_›) ‹_› ‹_› (.inl ‹_›)
  | exact zgj ‹_› ‹_› (.inr ‹_›) ‹_› ‹_› ‹_› ‹_› (.inl ‹_›) ‹_› ‹_› (.inr ‹_›)
  | exact zgj ‹_› ‹_› (.inr ‹_›) ‹_› ‹_› ‹_› ‹_› (.inr ‹_›) ‹_› ‹_› (.inl ‹_›)
  | exact zgj ‹_› ‹_› (.inr ‹_›) ‹_› ‹_› ‹_› ‹_› (.inr ‹_›) ‹_› ‹_› (.inr ‹_›)
  | exact zmm ‹_› ‹_› (.inl ‹_›) ‹_› ‹_› ‹_› ‹_› ‹_› (.inl ‹_›)
  | exact zmm ‹_› ‹_› (.inl ‹_›) ‹_› ‹_› ‹_› ‹_› ‹_› (.inr ‹_›)
  | exact zmm ‹_› ‹_› (.inr ‹_›) ‹_› ‹_› ‹_› ‹_› ‹_› (.inl ‹_›)
  | exact zmm ‹_› ‹_› (.inr ‹_›) ‹_› ‹_› ‹_› ‹_› ‹_› (.inr ‹_›)
noncomputable def zrF : SFn
 | [.slc p 0 _, .int .i64 a, .int .i64 b, .fn (.func 52) [] []], k => .rO p fun o => match o with
   | some (.vec 2 LL) => asL HR.pv LL fun L => .req (zfs L a b) (k (zAb L a b))
   | _ => .fail
 | _, _ => .fail
theorem zG9 : FnS Tryz.prog GG 186 zrF := by
 intro args k gt go R v os n h
 unfold zrF at h
 split at h
 . cases h with
   | rO h =>
     dsimp only at h
     split at h
     . obtain ⟨L, _, h⟩ := zaN h
       obtain ⟨hp, _, h⟩ := zar h
       exact ⟨_, _, zGr L _ _ hp, h⟩
     . cases h
 . cases h
end
section
theorem zsE {M : List HR} {a b : Int} (hn : M.Nodup) (h0 : 0 <= a) (hb : b <= M.length) : ∀ (n : Nat) (i : Int), (b - i).toNat = n -> a + 1 <= i -> i <= b -> Srt a i M →
 i <= zbj M b i /\ zbj M b i <= b /\ Srt a (zbj M b i) M /\ (zbj M b i < b -> ltR (nth M (zbj M b i)) (nth M (zbj M b i - 1))) := by
  intro n
  induction n with
  | zero =>
    intro i hi h1 h2 hs
    rw [zm1 (.inl (by omega))]
    exact ⟨by omega, h2, hs, fun k => by omega⟩
  | succ n ih =>
    intro i hi h1 h2 hs
    by_cases e : zaI (nth M i) (nth M (i - 1)) < 0
    . rw [zm1 (.inr e)]
      exact ⟨by omega, h2, hs, fun _ => e⟩
    . rw [zpY (by omega) e]
      have e2 := zid hn (i := i) (j := i - 1) (by omega) (by omega) (by omega) e
      obtain ⟨g1, g2, g3, g4⟩ := ih (i + 1) (by omega) (by omega) (by omega) (fun p q q1 q2 q3 => by
       by_cases c : q = i
       . rw [c]
         by_cases c2 : p = i - 1
         . rw [c2]; exact e2
         . exact zbW (hs p (i - 1) q1 (by omega) (by omega)) e2
       . exact hs p q q1 q2 (by omega))
      exact ⟨by omega, g2, g3, g4⟩
theorem zAl {a i : Int} (h0 : 0 <= a) : ∀ (n : Nat) (M : List HR) (j : Int), j.toNat = n -> M.Nodup -> i <= M.length -> Lo a i M -> a <= j -> j < i -> (∀ p q, a <= p -> p < q -> q < i -> q ≠ j -> ltR (nth M p) (nth M q)) -> Seg a i M (zfZ M j) /\ Srt a i (zfZ M j) := by
 intro n
 induction n with
 | zero =>
   intro M j hj hn hl hlo h1 h2 hs
   rw [zo9 (.inl (by omega))]
   exact ⟨.rfl, fun p q q1 q2 q3 => hs p q q1 q2 q3 (by omega)⟩
 | succ n ih =>
   intro M j hj hn hl hlo h1 h2 hs
   by_cases e : zaI (nth M j) (nth M (j - 1)) < 0
   . have hja : a < j := by
      by_cases c : j = a
      . have := hlo (by omega) j h1 h2
        rw [<- c] at this
        exact absurd (zbW this e) (zcC _)
      . omega
     rw [zuf (by omega) e]
     have hg : Seg a i M (swq M j (j - 1)) := Seg.rfl.swq h0 hl (by omega) (by omega)
     obtain ⟨k1, k2⟩ := ih (swq M j (j - 1)) (j - 1) (by omega) (hg.nd hn) (by rw [zbr]; exact hl) (hlo.seg hg hn h0 hl) (by omega) (by omega) (fun p q q1 q2 q3 q4 => by
      rw [za9 (by omega) (by omega) (by omega), za9 (by omega) (by omega) (by omega), if_neg q4]
      by_cases c1 : q = j
      . rw [if_pos c1]
        by_cases c2 : p = j - 1
        . rw [if_pos c2]; exact e
        . rw [if_neg c2, if_neg (by omega)]; exact hs p (j - 1) q1 (by omega) (by omega) (by omega)
      . rw [if_neg c1]
        by_cases c2 : p = j - 1
        . rw [if_pos c2]; exact hs j q h1 (by omega) q3 c1
        . rw [if_neg c2]
          by_cases c3 : p = j
          . rw [if_pos c3]; exact hs (j - 1) q (by omega) (by omega) q3 c1
          . rw [if_neg c3]; exact hs p q q1 q2 q3 c1)
     exact ⟨hg.trans k1, k2⟩
   . rw [zo9 (.inr e)]
     refine ⟨.rfl, fun p q q1 q2 q3 => ?_⟩
     by_cases c : q = j
     . rw [c]
       rw [c] at q2
       have e2 := zid hn (i := j) (j := j - 1) (by omega) (by omega) (by omega) e
       by_cases c2 : p = j - 1
       . rw [c2]; exact e2
       . exact zbW (hs p (j - 1) q1 (by omega) (by omega) (by omega)) e2
     . exact hs p q q1 q2 q3 c
theorem zze {i b : Int} (h0 : 0 <= i) : ∀ (n : Nat) (M : List HR) (j : Int), (b - j).toNat = n -> b <= M.length -> i + 1 <= j -> Seg i b M (zgz M b j) := by
 intro n
 induction n with
 | zero =>
   intro M j hj hl h1
   rw [zo5 (.inl (by omega))]; exact .rfl
 | succ n ih =>
   intro M j hj hl h1
   by_cases e : zaI (nth M j) (nth M (j - 1)) < 0
   . rw [ztK (by omega) e]
     have hg : Seg i b M (swq M j (j - 1)) := Seg.rfl.swq h0 hl (by omega) (by omega)
     exact hg.trans (ih _ (j + 1) (by omega) (by rw [zbr]; exact hl) (by omega))
   . rw [zo5 (.inr e)]; exact .rfl
theorem zux {a b : Int} (h0 : 0 <= a) : ∀ (n : Nat) (M : List HR) (i : Int), b <= M.length -> M.Nodup -> Lo a b M -> a + 1 <= i -> i <= b -> Srt a i M -> Seg a b M (zb1 a b n M i).2 /\ ((zb1 a b n M i).1 = true -> Srt a b (zb1 a b n M i).2) := by
 intro n
 induction n with
 | zero => intro M i _ _ _ _ _ _; exact ⟨.rfl, fun k => by cases k⟩
 | succ n ih =>
   intro M i hl hn hlo h1 h2 hs
   obtain ⟨g1, g2, g3, g4⟩ := zsE hn h0 hl _ i rfl h1 h2 hs
   rw [zb1]
   by_cases c : zbj M b i = b
   . rw [if_pos c]
     rw [c] at g3
     exact ⟨.rfl, fun _ => g3⟩
   . rw [if_neg c]
     by_cases c5 : b - a < 50
     . rw [if_pos c5]; exact ⟨.rfl, fun k => by cases k⟩
     . rw [if_neg c5]
       generalize zbj M b i = r at g1 g2 g3 g4 c ⊢
       have g4 := g4 (by omega)
       have s1 : Seg a b M (swq M r (r - 1)) := Seg.rfl.swq h0 hl (by omega) (by omega)
       have n1 := s1.nd hn
       have l1 : b <= (swq M r (r - 1)).length := by rw [zbr]; exact hl
       have lo1 := hlo.seg s1 hn h0 hl
       have s2 : Seg a b (swq M r (r - 1)) (zef a (swq M r (r - 1)) r) /\ Srt a r (zef a (swq M r (r - 1)) r) := by
        unfold zef
        by_cases c2 : 2 <= r - a
        . rw [if_pos c2]
          obtain ⟨k1, k2⟩ := zAl (i := r) h0 _ (swq M r (r - 1)) (r - 1) rfl n1 (by omega) (fun ha k q1 q2 => lo1 ha k q1 (by omega)) (by omega) (by omega) (fun p q q1 q2 q3 q4 => by
           rw [za9 (by omega) (by omega) (by omega), za9 (by omega) (by omega) (by omega), if_neg (by omega), if_neg (by omega), if_neg q4, if_neg (by omega)]
           exact g3 p q q1 q2 q3)
          exact ⟨k1.mono (by omega) (by omega), k2⟩
        . rw [if_neg c2]
          exact ⟨.rfl, fun p q q1 q2 q3 => by omega⟩
       have l2 : b <= (zef a (swq M r (r - 1)) r).length := by rw [s2.1.len]; exact l1
       have s3 : Seg r b (zef a (swq M r (r - 1)) r) (zgx b (zef a (swq M r (r - 1)) r) r) := by
        unfold zgx
        by_cases c2 : 2 <= b - r
        . rw [if_pos c2]; exact zze (by omega) _ _ (r + 1) rfl l2 (by omega)
        . rw [if_neg c2]; exact .rfl
       have s4 : Seg a b M (zgx b (zef a (swq M r (r - 1)) r) r) := (s1.trans s2.1).trans (s3.mono (by omega) (by omega))
       obtain ⟨k1, k2⟩ := ih (zgx b (zef a (swq M r (r - 1)) r) r) r (by rw [s4.len]; exact hl) (s4.nd hn) (hlo.seg s4 hn h0 hl) (by omega) g2 (fun p q q1 q2 q3 => by
        rw [s3.out p (by omega) (by omega) (.inl (by omega)), s3.out q (by omega) (by omega) (.inl (by omega))]
        exact s2.2 p q q1 q2 q3)
       exact ⟨s4.trans k1, k2⟩
end
section
def zBt : MC := .seq (.reg [oo 10 (.mv kt)]) (.seq (.reg [oo 11 (.mv kt)]) (.blk 0 (.loop 0 (.blk 1 (.seq (.reg [om 21 2,om 22 1,oo 23 (at_ .sub 21 22),om 12 23]) (.gh (.opt 10) (.seq (.seq (.reg [om 24 12,oo 25 (cc .leq 24 12)]) (.cond (.t 25) (.seq (.reg [om 26 0,om 27 1,om 28 2,om 29 4,oo 30 (fc 181 [(.t 26),(.t 27),(.t 28),(.t 29)])]) (.ret)) (.skip))) (.seq (.seq (.reg [om 31 3,oo 32 (cc .eql 31 0)]) (.cond (.t 32) (.seq (.reg [om 33 0,om 34 1,om 35 2,om 36 4,oo 37 (fc 182 [(.t 33),(.t 34),(.t 35),(.t 36)])]) (.ret)) (.skip))) (.join 9 (.seq (.reg [om 38 10,oo 39 (.not (.t 38))]) (.cond (.t 39) (.seq (.reg [om 40 0,om 41 1,om 42 2,om 43 4,oo 44 (fc 183 [(.t 40),(.t 41),(.t 42),(.t 43)])]) (.gh (.opn 0) (.reg [om 45 3,oo 46 (ac .sub 45 1),om 3 46]))) (.skip))) (.seq (.reg [om 48 0,om 49 1,om 50 2,om 51 4,oo 52 (fc 184 [(.t 48),(.t 49),(.t 50),(.t 51)]),om 47 52,oo 53 (ex_ 0 47),oo 54 (ex_ 1 47),om 13 53,om 14 54]) (.gh (.opt 14) (.gh (.opt 13) (.join 13 (.seq (.reg [om 55 14,oo 56 (cc .eql 55 2)]) (.cond (.t 56) (.seq (.reg [om 57 0,om 58 1,om 59 2,om 60 4,oo 61 (fc 185 [(.t 57),(.t 58),(.t 59),(.t 60)])]) (.gh (.opn 0) (.seq (.reg [om 62 2,oo 63 (ac .sub 62 1),om 64 13,om 65 1,oo 66 (at_ .sub 64 65),oo 67 (at_ .sub 63 66),om 13 67]) (.reg [oo 14 (.mv (ki 1))])))) (.skip))) (.gh (.opt 11) (.gh (.opt 10) (.join 17 (.seq (.reg [om 68 10,sm 69 68,mt 69 70 11,oo 71 (pf 69 70),sm 72 71,mt 72 73 14,gt_ 72 74 (cc .eql 73 1),oo 75 (pf 72 74)]) (.cond (.t 75) (.seq (.reg [om 76 0,om 77 1,om 78 2,om 79 4,oo 80 (fc 186 [(.t 76),(.t 77),(.t 78),(.t 79)])]) (.cond (.t 80) (.ret) (.skip))) (.skip))) (.join 20 (.seq (.drw [om 81 1,oo 82 (cc .gtr 81 0),sm 83 82,mt 83 84 4,mt 83 85 0,mt 83 86 1,gt_ 83 87 (ac .sub 86 1),gt_ 83 88 (ia 2 85 87),gt_ 83 89 (ls 2 88),mt 83 90 0,mt 83 91 13,gt_ 83 92 (ia 2 90 91),gt_ 83 93 (ls 2 92),gt_ 83 94 (.call (.t 84) [(.t 89),(.t 93)]),gt_ 83 95 (cc .lss 94 0),gt_ 83 96 (.not (.t 95)),oo 97 (pf 83 96)] [[],[0],[1],[2],[2],[2],[5,2],[4,6,2],[7,2],[2],[2],[9,10,2],[11,2],[3,8,12,2,2],[13,2],[14,2],[2,15]]) (.cond (.t 97) (.seq (.reg [om 98 0,om 99 1,om 100 2,om 101 13,om 102 4,oo 103 (fc 187 [(.t 98),(.t 99),(.t 100),(.t 101),(.t 102)]),om 15 103]) (.seq (.reg [om 104 15,om 1 104]) (.exit 1))) (.skip))) (.seq (.reg [om 106 0,om 107 1,om 108 2,om 109 13,om 110 4,oo 111 (fc 188 [(.t 106),(.t 107),(.t 108),(.t 109),(.t 110)]),om 105 111,oo 112 (ex_ 0 105),oo 113 (ex_ 1 105),om 16 112,om 17 113]) (.gh (.opn 0) (.seq (.reg [om 114 17,om 11 114]) (.seq (.reg [om 115 16,om 116 1,oo 117 (at_ .sub 115 116),om 118 2,om 119 16,oo 120 (at_ .sub 118 119),om 18 117,om 19 120]) (.seq (.reg [om 121 12,oo 122 (ac .quo 121 8),om 20 122]) (.seq (.reg [om 123 18,om 124 19,oo 125 (ct .lss 123 124)]) (.cond (.t 125) (.seq (.reg [om 126 18,om 127 20,oo 128 (ct .geq 126 127),om 10 128]) (.seq (.reg [om 129 0,om 130 1,om 131 16,om 132 3,om 133 4,oo 134 (fc 169 [(.t 129),(.t 130),(.t 131),(.t 132),(.t 133)])]) (.gh (.opn 0) (.reg [om 135 16,oo 136 (ac .add 135 1),om 1 136])))) (.seq (.reg [om 137 19,om 138 20,oo 139 (ct .geq 137 138),om 10 139])
 (.seq (.reg [om 140 0,om 141 16,oo 142 (ac .add 141 1),om 143 2,om 144 3,om 145 4,oo 146 (fc 169 [(.t 140),(.t 142),(.t 143),(.t 144),(.t 145)])]) (.gh (.opn 0) (.reg [om 147 16,om 2 147]))))))))))))))))))))))))))))
theorem zCI : zan Tryz.prog 169 148 zBt [] := fk Tryz.func169 ⟨tv,⟨tv,⟨tv,⟨⟨tv,⟨⟨tv,tv⟩,tv⟩⟩,⟨⟨tv,⟨⟨tv,tv⟩,tv⟩⟩,⟨⟨tv,⟨⟨tv,tv⟩,tv⟩⟩,⟨tv,⟨⟨tv,⟨⟨tv,⟨tv,tv⟩⟩,tv⟩⟩,⟨⟨tv,⟨⟨tv,⟨tv,tv⟩⟩,tv⟩⟩,⟨⟨tv,⟨⟨tv,⟨tv,tv⟩⟩,tv⟩⟩,⟨tv,⟨tv,⟨tv,⟨tv,⟨tv,⟨⟨tv,⟨tv,tv⟩⟩,⟨tv,⟨tv,tv⟩⟩⟩⟩⟩⟩⟩⟩⟩⟩⟩⟩⟩⟩⟩⟩⟩⟩
def zDh : MC := .seq (.reg [om 5 0,oo 6 (.lenS (.t 5)),om 4 6]) (.reg [om 7 0,om 8 4,om 9 4,oo 10 (.cv .u64 (.t 9)),oo 11 (fc 170 [(.t 10)]),om 12 1,oo 13 (fc 169 [(.t 7),(ki 0),(.t 8),(.t 11),(.t 12)])])
theorem zBA : zan Tryz.prog 139 14 zDh [] := fk Tryz.func139 ⟨tv,tv⟩
def zgb (L : List HR) (a b lim : Int) : Prop := Pre a b L /\ L.Nodup /\ Lo a b L /\ 0 <= lim /\ lim <= 100
def zhQ (L : List HR) (a b lim : Int) : zaa := ⟨[.slc 0 0 L.length, kz a, kz b, kz lim, .fn (.func 52) [] []], [.vec 2 (L.map HR.pv)], [some (.vex 2 (VX fun M => Seg a b L M /\ Srt a b M))], [], .tup []⟩
noncomputable def zoI (n : Nat) : SFn
 | [.slc p 0 _, .int .i64 a, .int .i64 b, .int .i64 lim, .fn (.func 52) [] []], k => .rO p fun o => match o with
   | some (.vec 2 LL) => asL HR.pv LL fun L => .req (zgb L a b lim /\ b - a < n) (k (zhQ L a b lim))
   | _ => .fail
 | _, _ => .fail
theorem zBr (n : Nat) (ih : ∀ L a b lim, zgb L a b lim -> b - a < n -> zaa.ok Tryz.prog GG 169 (zhQ L a b lim)) : FnS Tryz.prog GG 169 (zoI n) := by
 intro args k gt go R v os m h
 unfold zoI at h
 split at h
 . cases h with
   | rO h =>
     dsimp only at h
     split at h
     . obtain ⟨L, _, h⟩ := zaN h
       obtain ⟨hp, _, h⟩ := zar h
       exact ⟨_, _, ih L _ _ _ hp.1 hp.2, h⟩
     . cases h
 . cases h
def zFt (a b x y : Int) (M : List HR) : Prop := ∀ N, Seg x y M N -> Srt x y N -> Srt a b N
structure I_ (L : List HR) (a b x y lim : Int) (M : List HR) : Prop where
 pre : Pre a b L
 nd : L.Nodup
 ax : a <= x
 xy : x <= y
 yb : y <= b
 l0 : 0 <= lim
 l1 : lim <= 100
 len : M.length = L.length
 sg : Seg a b L M
 lo : Lo x y M
 fi : zFt a b x y M
theorem I_.seg {L a b x y lim M N} (h : I_ L a b x y lim M) (g : Seg x y M N) : I_ L a b x y lim N := by
 have hp := h.pre
 unfold Pre at hp
 have hl := h.len
 have h1 := h.ax
 have h2 := h.yb
 exact ⟨h.pre, h.nd, h.ax, h.xy, h.yb, h.l0, h.l1, g.len.trans h.len, h.sg.trans (g.mono h.ax h.yb), h.lo.seg g (h.sg.nd h.nd) (by omega) (by omega), fun K k1 k2 => h.fi K (g.trans k1) k2⟩
theorem I_.lim {L a b x y lim lim' M} (h : I_ L a b x y lim M) (h0 : 0 <= lim') (h1 : lim' <= 100) : I_ L a b x y lim' M := ⟨h.pre, h.nd, h.ax, h.xy, h.yb, h0, h1, h.len, h.sg, h.lo, h.fi⟩
theorem I_.pr {L a b x y lim M} (h : I_ L a b x y lim M) : Pre x y M := by
 have hp := h.pre
 unfold Pre at hp ⊢
 have hl := h.len
 have h1 := h.ax
 have h2 := h.yb
 have h3 := h.xy
 omega
theorem I_.bd {L a b x y lim M} (h : I_ L a b x y lim M) : 0 <= x /\ x <= y /\ y <= L.length /\ L.length <= 1000000 /\ M.length = L.length /\ 0 <= lim /\ lim <= 100 := by
 have hp := h.pr
 unfold Pre at hp
 have hl := h.len
 exact ⟨hp.1, hp.2.1, by omega, by omega, hl, h.l0, h.l1⟩
abbrev znv := Unit × Int × Int × Int × List HR
abbrev G9 := Int × Int × Int × List HR
abbrev G13 := Int × Int × Int × Int × Int × List HR
abbrev G17 := Int × Int × Int × Int × List HR
def zyj (L : List HR) : znv -> St
 | (_, x, y, lim, M) => ⟨[(11, .fex zhe), (10, .fex zhe), (4, .fn (.func 52) [] []), (3, kz lim), (2, kz y), (1, kz x), (0, .slc 0 0 L.length)], [(0, some (.vec 2 (M.map HR.pv)))], 1⟩
def zD1 (L : List HR) : G9 -> St
 | (x, y, lim, M) => ⟨[(12, kz (y - x)), (11, .fex zhe), (10, .fex zhe), (4, .fn (.func 52) [] []), (3, kz lim), (2, kz y), (1, kz x), (0, .slc 0 0 L.length)], [(0, some (.vec 2 (M.map HR.pv)))], 1⟩
def zCk (L : List HR) : G13 -> St
 | (x, y, lim, p, h, M) => ⟨[(14, kz h), (13, kz p), (12, kz (y - x)), (11, .fex zhe), (10, .fex zhe), (4, .fn (.func 52) [] []), (3, kz lim), (2, kz y), (1, kz x), (0, .slc 0 0 L.length)], [(0, some (.vec 2 (M.map HR.pv)))], 1⟩
def zCa (L : List HR) : G17 -> St
 | (x, y, lim, p, M) => ⟨[(13, kz p), (12, kz (y - x)), (4, .fn (.func 52) [] []), (3, kz lim), (2, kz y), (1, kz x), (0, .slc 0 0 L.length)], [(0, some (.vec 2 (M.map HR.pv)))], 1⟩
def zzm (L : List HR) (a b : Int) : znv -> Prop
 | (_, x, y, lim, M) => I_ L a b x y lim M
def K9 (L : List HR) (a b : Int) (s : St) : G9 -> Prop
 | (x, y, lim, M) => Sx.zao 1 s.t = some (kz x) /\ Sx.zao 2 s.t = some (kz y) /\ I_ L a b x y lim M /\ 12 < y - x
def K13 (L : List HR) (a b : Int) (s : St) : G13 -> Prop
 | (x, y, lim, p, _, M) => Sx.zao 1 s.t = some (kz x) /\ Sx.zao 2 s.t = some (kz y) /\ I_ L a b x y lim M /\ 12 < y - x /\ x <= p /\ p < y
def K17 (L : List HR) (a b : Int) (s : St) : G17 -> Prop
 | (x, y, lim, p, M) => Sx.zao 1 s.t = some (kz x) /\ Sx.zao 2 s.t = some (kz y) /\ I_ L a b x y lim M /\ 12 < y - x /\ x <= p /\ p < y
def zBN (L : List HR) (a b : Int) : Nat -> zbO := fun _ => .inv znv (fun _ => zzm L a b) (zyj L) (fun c => (c.2.2.1 - c.2.1).toNat)
def zDs (L : List HR) (a b : Int) : Nat -> zfk
 | 9 => .cutr G9 (K9 L a b) (zD1 L)
 | 13 => .cutr G13 (K13 L a b) (zCk L)
 | _ => .cutr G17 (K17 L a b) (zCa L)
structure Big (L : List HR) (a b x y lim : Int) (M : List HR) : Prop where
 i : I_ L a b x y lim M
 big : 12 < y - x
structure Piv (L : List HR) (a b x y lim p : Int) (M : List HR) : Prop where
 i : I_ L a b x y lim M
 big : 12 < y - x
 p0 : x <= p
 p1 : p < y
theorem zz8 {L a b} {Q : znv -> Prop} (h : ∀ x y lim M, I_ L a b x y lim M -> Q ((), x, y, lim, M)) : ∀ c, zzm L a b c -> Q c := fun ⟨_, x, y, lim, M⟩ hI => h _ _ _ _ hI
theorem zHK {L a b s x y} {Q : G9 -> Prop} (e1 : Sx.zao 1 s.t = some (kz x)) (e2 : Sx.zao 2 s.t = some (kz y)) (h : ∀ lim M, Big L a b x y lim M -> Q (x, y, lim, M)) : ∀ c, K9 L a b s c -> Q c := fun ⟨x', y', lim, M⟩ ⟨h1, h2, h3, h4⟩ => by
 have q1 : x' = x := by have := h1.symm.trans e1; cases this; rfl
 have q2 : y' = y := by have := h2.symm.trans e2; cases this; rfl
 subst q1; subst q2
 exact h _ _ ⟨h3, h4⟩
theorem zCt {L a b s x y} {Q : G13 -> Prop} (e1 : Sx.zao 1 s.t = some (kz x)) (e2 : Sx.zao 2 s.t = some (kz y)) (h : ∀ lim p hh M, Piv L a b x y lim p M -> Q (x, y, lim, p, hh, M)) : ∀ c, K13 L a b s c -> Q c := fun ⟨x', y', lim, p, hh, M⟩ ⟨h1, h2, h3, h4, h5, h6⟩ => by
 have q1 : x' = x := by have := h1.symm.trans e1; cases this; rfl
 have q2 : y' = y := by have := h2.symm.trans e2; cases this; rfl
 subst q1; subst q2
 exact h _ _ _ _ ⟨h3, h4, h5, h6⟩
theorem zDm {L a b s x y} {Q : G17 -> Prop} (e1 : Sx.zao 1 s.t = some (kz x)) (e2 : Sx.zao 2 s.t = some (kz y)) (h : ∀ lim p M, Piv L a b x y lim p M -> Q (x, y, lim, p, M)) : ∀ c, K17 L a b s c -> Q c := fun ⟨x', y', lim, p, M⟩ ⟨h1, h2, h3, h4, h5, h6⟩ => by
 have q1 : x' = x := by have := h1.symm.trans e1; cases this; rfl
 have q2 : y' = y := by have := h2.symm.trans e2; cases this; rfl
 subst q1; subst q2
 exact h _ _ _ ⟨h3, h4, h5, h6⟩
theorem zCD {Q : PV -> Prop} (h : ∀ b : Bool, Q (.bool b)) : ∀ x, zhe x -> Q x := fun x ⟨b, e⟩ => by subst e; exact h b
theorem zC1 {Q : PV -> Prop} (h : ∀ n : Int, Q (.int .i64 n)) : ∀ x, zr0 x -> Q x := fun x ⟨b, e⟩ => by subst e; exact h b
theorem zDA {a b : Int} {Q : PV -> Prop} (h : ∀ n : Int, Sg a b n -> Q (.int .i64 n)) : ∀ x, zsj a b x -> Q x := fun x ⟨n, e, h1, h2⟩ => by subst e; exact h n ⟨h1, h2⟩
theorem zHU {L a b lim} (h : zgb L a b lim) : I_ L a b a b lim L := ⟨h.1, h.2.1, Int.le_refl _, h.1.2.1, Int.le_refl _, h.2.2.2.1, h.2.2.2.2, rfl, .rfl, h.2.2.1, fun _ _ k => k⟩
theorem zIg {L a b x y lim M} (h : I_ L a b x y lim M) : Pre x y M /\ M.Nodup := ⟨h.pr, h.sg.nd h.nd⟩
theorem zDV {L a b x y lim M} (h : I_ L a b x y lim M) (k : ¬ y - x <= 12) : zeI x y M := ⟨h.pr, h.sg.nd h.nd, by omega⟩
theorem zJN {L a b x y lim M} (h : I_ L a b x y lim M) (k : ¬ y - x <= 12) : zbv x y M := ⟨h.pr, by omega⟩
theorem zGB {L a b x y lim M} (h : Big L a b x y lim M) : zbv x y M := ⟨h.i.pr, h.big⟩
theorem zHY {L a b x y lim M} (h : Big L a b x y lim M) : Pre x y M := h.i.pr
theorem zGT {L a b x y lim p M} (h : Piv L a b x y lim p M) : zfs M x y := ⟨h.i.pr, h.big⟩
theorem zI0 {L a b x y lim p M} (h : Piv L a b x y lim p M) : ze0 M x y p := ⟨h.i.pr, h.i.sg.nd h.i.nd, h.p0, h.p1⟩
theorem zqm {L a b x y lim M} (h : I_ L a b x y lim M) : ∀ R, VX (fun N => Seg x y M N /\ Srt x y N) R -> VX (fun N => Seg a b L N /\ Srt a b N) R := fun R ⟨N, ⟨h1, h2⟩, e⟩ => ⟨N, ⟨h.sg.trans (h1.mono h.ax h.yb), h.fi N h1 h2⟩, e⟩
theorem znk {M : List HR} {x y : Int} (h : Pre x y M) (hn : M.Nodup) (hl : Lo x y M) (k : 12 < y - x) : Seg x y M (zb1 x y 5 M (x + 1)).2 /\ ((zb1 x y 5 M (x + 1)).1 = true -> Srt x y (zb1 x y 5 M (x + 1)).2) :=
 zux h.1 5 M (x + 1) h.2.2.1 hn hl (by omega) (by omega) (fun p q _ _ _ => by omega)
theorem zHm {L a b x y lim p M} (h : Piv L a b x y lim p M) (e : (zb1 x y 5 M (x + 1)).1 = true) : VX (fun N => Seg a b L N /\ Srt a b N) (List.map HR.pv (zb1 x y 5 M (x + 1)).2) := by
 have g := znk h.i.pr (h.i.sg.nd h.i.nd) h.i.lo h.big
 exact zqm h.i _ (vx ⟨g.1, g.2 e⟩)
theorem zBm {L a b x y lim p M} (h : Piv L a b x y lim p M) (k : 0 < x) : zaI (nth M (x - 1)) (nth M p) < 0 := h.i.lo k p h.p0 h.p1
theorem zDo {L a b x y lim M} {s : St} (e1 : Sx.zao 1 s.t = some (kz x)) (e2 : Sx.zao 2 s.t = some (kz y)) (h : I_ L a b x y lim M) (k : ¬ y - x <= 12) : K9 L a b s (x, y, lim, M) := ⟨e1, e2, h, by omega⟩
theorem zDK {L a b x y lim M N} {s : St} (e1 : Sx.zao 1 s.t = some (kz x)) (e2 : Sx.zao 2 s.t = some (kz y)) (h : I_ L a b x y lim M) (k : ¬ y - x <= 12) (k0 : ¬ lim = 0) (g : Seg x y M N) : K9 L a b s (x, y, lim - 1, N) := by
 have h0 := h.l0
 have h1 := h.l1
 exact ⟨e1, e2, (h.seg g).lim (by omega) (by omega), by omega⟩
theorem zyo {L a b x y lim M p hh} {s : St} (e1 : Sx.zao 1 s.t = some (kz x)) (e2 : Sx.zao 2 s.t = some (kz y)) (h : Big L a b x y lim M) (k : Sg x y p) : K13 L a b s (x, y, lim, p, hh, M) := ⟨e1, e2, h.i, h.big, k.1, k.2⟩
theorem zws {L a b x y lim M N p hh} {s : St} (e1 : Sx.zao 1 s.t = some (kz x)) (e2 : Sx.zao 2 s.t = some (kz y)) (h : Big L a b x y lim M) (k : Sg x y p) (g : Seg x y M N) : K13 L a b s (x, y, lim, y - 1 - (p - x), hh, N) := ⟨e1, e2, h.i.seg g, h.big, by have := k.2; omega, by have := k.1; omega⟩
theorem zwK {L a b x y lim M p} {s : St} (e1 : Sx.zao 1 s.t = some (kz x)) (e2 : Sx.zao 2 s.t = some (kz y)) (h : Piv L a b x y lim p M) : K17 L a b s (x, y, lim, p, M) := ⟨e1, e2, h.i, h.big, h.p0, h.p1⟩
theorem zxz {L a b x y lim M p} {s : St} (e1 : Sx.zao 1 s.t = some (kz x)) (e2 : Sx.zao 2 s.t = some (kz y)) (h : Piv L a b x y lim p M) : K17 L a b s (x, y, lim, p, (zb1 x y 5 M (x + 1)).2) :=
 ⟨e1, e2, h.i.seg (znk h.i.pr (h.i.sg.nd h.i.nd) h.i.lo h.big).1, h.big, h.p0, h.p1⟩
abbrev mid (M : List HR) (x y p : Int) : Int := x + rnk M x y (nth M p)
theorem zfC {M N x y p} (g : zfo M x y p N) : x <= mid M x y p /\ mid M x y p < y := ⟨g.2.2.2.2.1, g.2.2.2.2.2⟩
theorem ztw {M N x y p} (g : zfo M x y p N) : ∀ k, x <= k -> k < mid M x y p -> ltR (nth N k) (nth N (mid M x y p)) := fun k k1 k2 => by rw [g.2.2.2.1]; exact g.2.1 k k1 k2
theorem zoM {M N x y p} (hn : N.Nodup) (h0 : 0 <= x) (hy : y <= N.length) (g : zfo M x y p N) : ∀ k, mid M x y p < k -> k < y -> ltR (nth N (mid M x y p)) (nth N k) := fun k k1 k2 => by
 have := zfC g
 exact zid hn (i := k) (j := mid M x y p) (by omega) (by omega) (by omega) (by rw [g.2.2.2.1]; exact g.2.2.1 k (show mid M x y p <= k by omega) k2)
theorem zEl {L a b x y lim p M N n} (h : Piv L a b x y lim p M) (g : zfo M x y p N) (hn : b - a < (n + 1 : Nat)) : zgb N x (mid M x y p) lim /\ mid M x y p - x < n := by
 have h1 := h.i.seg g.1
 have hb := h1.bd
 have hm := zfC g
 have := h.i.ax
 have := h.i.yb
 exact ⟨⟨⟨by omega, by omega, by omega, by omega⟩, h1.sg.nd h1.nd, fun k q q1 q2 => h1.lo k q q1 (by omega), h1.l0, h1.l1⟩, by omega⟩
theorem zDy {L a b x y lim p M N n} (h : Piv L a b x y lim p M) (g : zfo M x y p N) (hn : b - a < (n + 1 : Nat)) : zgb N (mid M x y p + 1) y lim /\ y - (mid M x y p + 1) < n := by
 have h1 := h.i.seg g.1
 have hb := h1.bd
 have hm := zfC g
 have := h.i.ax
 have := h.i.yb
 refine ⟨⟨⟨by omega, by omega, by omega, by omega⟩, h1.sg.nd h1.nd, fun k q q1 q2 => ?_, h1.l0, h1.l1⟩, by omega⟩
 rw [Int.add_sub_cancel]
 exact zoM (h1.sg.nd h1.nd) (by omega) (by omega) g q (by omega) q2
theorem zzC {x m y : Int} {N : List HR} (h1 : Srt x m N) (h2 : Srt (m + 1) y N) (h3 : ∀ k, x <= k -> k < m -> ltR (nth N k) (nth N m)) (h4 : ∀ k, m < k -> k < y -> ltR (nth N m) (nth N k)) : Srt x y N := fun p q q1 q2 q3 => by
 by_cases c1 : q < m
 . exact h1 p q q1 q2 c1
 . by_cases c2 : q = m
   . rw [c2]; exact h3 p q1 (by omega)
   . by_cases c3 : p < m
     . exact zbW (h3 p q1 c3) (h4 q (by omega) q3)
     . by_cases c4 : p = m
       . rw [c4]; exact h4 q (by omega) q3
       . exact h2 p q (by omega) q2 q3
theorem zBH {L a b x y lim p M N N2} (h : Piv L a b x y lim p M) (g : zfo M x y p N) (g2 : Seg x (mid M x y p) N N2 /\ Srt x (mid M x y p) N2) : I_ L a b (mid M x y p + 1) y lim N2 /\ (y - (mid M x y p + 1)).toNat < (y - x).toNat := by
 have h1 := h.i.seg g.1
 have hb := h1.bd
 have hm := zfC g
 have hax := h.i.ax
 have hyb := h.i.yb
 have hnN := h1.sg.nd h1.nd
 obtain ⟨s1, s2⟩ := g2
 have hl2 : N2.length = L.length := s1.len.trans h1.len
 have hn2 := s1.nd hnN
 have em : nth N2 (mid M x y p) = nth N (mid M x y p) := s1.out _ (by omega) (by omega) (.inr (by omega))
 have gt2 : ∀ k, mid M x y p < k -> k < y -> ltR (nth N2 (mid M x y p)) (nth N2 k) := fun k k1 k2 => by
  rw [em, s1.out k (by omega) (by omega) (.inr (by omega))]
  exact zoM hnN (by omega) (by omega) g k k1 k2
 have lt2 : ∀ k, x <= k -> k < mid M x y p -> ltR (nth N2 k) (nth N2 (mid M x y p)) := fun k k1 k2 => by
  obtain ⟨k', r1, r2⟩ := s1.at_ hnN (by omega) (by omega) ⟨k1, k2⟩
  rw [em, r2]; exact ztw g k' r1.1 r1.2
 refine ⟨⟨h1.pre, h1.nd, by omega, by omega, hyb, h1.l0, h1.l1, hl2, h1.sg.trans (s1.mono hax (by omega)), fun _ k k1 k2 => ?_, fun K k1 k2 => ?_⟩, by omega⟩
 . rw [Int.add_sub_cancel]; exact gt2 k (by omega) k2
 . refine h1.fi K ((s1.mono (by omega) (by omega)).trans (k1.mono (by omega) (by omega))) (zzC (m := mid M x y p) (fun u v v1 v2 v3 => ?_) k2 (fun k q1 q2 => ?_) (fun k q1 q2 => ?_))
   . rw [k1.out u (by omega) (by omega) (.inl (by omega)), k1.out v (by omega) (by omega) (.inl (by omega))]
     exact s2 u v v1 v2 v3
   . rw [k1.out k (by omega) (by omega) (.inl (by omega)), k1.out (mid M x y p) (by omega) (by omega) (.inl (by omega))]
     exact lt2 k q1 q2
   . obtain ⟨k', r1, r2⟩ := k1.at_ hn2 (by omega) (by omega) ⟨by omega, q2⟩ (k := k)
     rw [k1.out (mid M x y p) (by omega) (by omega) (.inl (by omega)), r2]
     exact gt2 k' (by omega) r1.2
theorem zCG {L a b x y lim p M N N2} (h : Piv L a b x y lim p M) (g : zfo M x y p N) (g2 : Seg (mid M x y p + 1) y N N2 /\ Srt (mid M x y p + 1) y N2) : I_ L a b x (mid M x y p) lim N2 /\ (mid M x y p - x).toNat < (y - x).toNat := by
 have h1 := h.i.seg g.1
 have hb := h1.bd
 have hm := zfC g
 have hax := h.i.ax
 have hyb := h.i.yb
 have hnN := h1.sg.nd h1.nd
 obtain ⟨s1, s2⟩ := g2
 have hl2 : N2.length = L.length := s1.len.trans h1.len
 have hn2 := s1.nd hnN
 have em : nth N2 (mid M x y p) = nth N (mid M x y p) := s1.out _ (by omega) (by omega) (.inl (by omega))
 have gt2 : ∀ k, mid M x y p < k -> k < y -> ltR (nth N2 (mid M x y p)) (nth N2 k) := fun k k1 k2 => by
  obtain ⟨k', r1, r2⟩ := s1.at_ hnN (by omega) (by omega) ⟨by omega, k2⟩
  rw [em, r2]
  exact zoM hnN (by omega) (by omega) g k' (by omega) r1.2
 have lt2 : ∀ k, x <= k -> k < mid M x y p -> ltR (nth N2 k) (nth N2 (mid M x y p)) := fun k k1 k2 => by
  rw [em, s1.out k (by omega) (by omega) (.inl (by omega))]; exact ztw g k k1 k2
 refine ⟨⟨h1.pre, h1.nd, hax, by omega, by omega, h1.l0, h1.l1, hl2, h1.sg.trans (s1.mono (by omega) hyb), fun k0 k k1 k2 => ?_, fun K k1 k2 => ?_⟩, by omega⟩
 . rw [s1.out (x - 1) (by omega) (by omega) (.inl (by omega)), s1.out k (by omega) (by omega) (.inl (by omega))]
   exact h1.lo k0 k k1 (by omega)
 . refine h1.fi K ((s1.mono (by omega) (by omega)).trans (k1.mono (by omega) (by omega))) (zzC (m := mid M x y p) k2 (fun u v v1 v2 v3 => ?_) (fun k q1 q2 => ?_) (fun k q1 q2 => ?_))
   . rw [k1.out u (by omega) (by omega) (.inr (by omega)), k1.out v (by omega) (by omega) (.inr (by omega))]
     exact s2 u v v1 v2 v3
   . obtain ⟨k', r1, r2⟩ := k1.at_ hn2 (by omega) (by omega) ⟨q1, q2⟩ (k := k)
     rw [k1.out (mid M x y p) (by omega) (by omega) (.inr (by omega)), r2]
     exact lt2 k' r1.1 r1.2
   . rw [k1.out k (by omega) (by omega) (.inr (by omega)), k1.out (mid M x y p) (by omega) (by omega) (.inr (by omega))]
     exact gt2 k q1 q2
theorem zE8 {L a b x y lim p M} (h : Piv L a b x y lim p M) : (ULift.up ((y - x) / 8) : ULift.{1} Int).down = IntKind.i64.wrap ((y - x).tdiv 8) := by
 have h1 := h.i.bd
 have h2 := h.big
 rw [Int.tdiv_eq_ediv_of_nonneg (by omega)]
 exact i64_in (by omega) (by omega)
theorem zyf {L a b x y lim p M N} (h : Piv L a b x y lim p M) (g : zfo M x y p N) : N.length = L.length := g.1.len.trans h.i.len
theorem zoZ {L a b x y lim M} (h : I_ L a b x y lim M) : M.length = L.length := h.len
set_option maxHeartbeats 16000000 in
theorem zB6 (n : Nat) (ih : ∀ L a b lim, zgb L a b lim -> b - a < n -> zaa.ok Tryz.prog GG 169 (zhQ L a b lim)) (L : List HR) (a b lim : Int) (hp : zgb L a b lim) (hn : b - a < (n + 1 : Nat)) : zaa.ok Tryz.prog GG 169 (zhQ L a b lim) := by
 refine zac mix zCI _ rfl rfl (Tab.ok (l := [(181, zoJ), (182, zsb), (183, zsy), (184, zsV), (185, zrd), (186, zrF), (188, zso), (52, S52), (169, zoI n)]) ⟨zDb, zI1, zKb, zEz, zFd, zG9, zFl, t52, zBr n ih, trivial⟩) (zBN L a b) (zDs L a b) ?_
 repeat' ((conv => whnf); first
  | exact trivial
  | with_reducible first | refine aj ?_ | refine ai rfl ?_ | refine ai ⟨rfl, rfl⟩ ?_
  | ((with_reducible refine ai ?_ ?_); focus exact w3)
  | with_reducible refine zz8 ?_
  | refine zHK (by rfl) (by rfl) ?_
  | refine zCt (by rfl) (by rfl) ?_
  | refine zDm (by rfl) (by rfl) ?_
  | with_reducible first | refine zun ?_ | refine zCD ?_ | refine zC1 ?_ | refine zDA ?_ | apply exW (γ := znv) (c := ((), _, _, _, _)) | apply exW (γ := G9) (c := (_, _, _, _)) | apply exW (γ := G13) (c := (_, _, _, _, _, _)) | apply exW (γ := G17) (c := (_, _, _, _, _))
  | ((with_reducible intro h); exact absurd (zBm (by with_reducible assumption) (by with_reducible assumption)) h)
  | with_reducible first | refine ai (zIg (by with_reducible assumption)) ?_ | refine ai (zDV (by with_reducible assumption) (by with_reducible assumption)) ?_ | refine ai (zJN (by with_reducible assumption) (by with_reducible assumption)) ?_ | refine ai (zGB (by with_reducible assumption)) ?_ | refine ai (zGT (by with_reducible assumption)) ?_ | refine ai (zI0 (by with_reducible assumption)) ?_ | refine ai (zEl (by with_reducible assumption) (by with_reducible assumption) hn) ?_ | refine ai (zDy (by with_reducible assumption) (by with_reducible assumption) hn) ?_ | refine And.intro (Sd.mk (p := Pre _ _ _) (zHY (by with_reducible assumption))) ?_ | refine exI (zE8 (by with_reducible assumption)) ?_ | refine exI (i64_in (by first | (have h1 := Piv.i ‹_›; have h2 := Piv.big ‹_›; have h3 := Piv.p0 ‹_›; have h4 := Piv.p1 ‹_›; have hb := h1.bd; have hm := zfC ‹_›; dsimp only [mid] at hm; omega) | (have h1 := Piv.i ‹_›; have h2 := Piv.big ‹_›; have h3 := Piv.p0 ‹_›; have h4 := Piv.p1 ‹_›; have hb := h1.bd; (try simp only [List.length_map]); omega) | (have h1 := Big.i ‹_›; have h2 := Big.big ‹_›; have hb := h1.bd; (try simp only [Sg] at *); omega) | (have hb := I_.bd ‹_›; omega)) (by first | (have h1 := Piv.i ‹_›; have h2 := Piv.big ‹_›; have h3 := Piv.p0 ‹_›; have h4 := Piv.p1 ‹_›; have hb := h1.bd; have hm := zfC ‹_›; dsimp only [mid] at hm; omega) | (have h1 := Piv.i ‹_›; have h2 := Piv.big ‹_›; have h3 := Piv.p0 ‹_›; have h4 := Piv.p1 ‹_›; have hb := h1.bd; (try simp only [List.length_map]); omega) | (have h1 := Big.i ‹_›; have h2 := Big.big ‹_›; have hb := h1.bd; (try simp only [Sg] at *); omega) | (have hb := I_.bd ‹_›; omega))) ?_
  | refine exI (x := ULift.up _) (za8 _ _ _ (by first | (have h1 := Piv.i ‹_›; have h2 := Piv.big ‹_›; have h3 := Piv.p0 ‹_›; have h4 := Piv.p1 ‹_›; have hb := h1.bd; have hm := zfC ‹_›; dsimp only [mid] at hm; omega) | (have h1 := Piv.i ‹_›; have h2 := Piv.big ‹_›; have h3 := Piv.p0 ‹_›; have h4 := Piv.p1 ‹_›; have hb := h1.bd; (try simp only [List.length_map]); omega) | (have h1 := Big.i ‹_›; have h2 := Big.big ‹_›; have hb := h1.bd; (try simp only [Sg] at *); omega) | (have hb := I_.bd ‹_›; omega))) ?_
  | with_reducible first | refine And.intro (Sd.mk (p := (_ : Int) <= _ /\ _) (by first | (have h1 := Piv.i ‹_›; have h2 := Piv.big ‹_›; have h3 := Piv.p0 ‹_›; have h4 := Piv.p1 ‹_›; have hb := h1.bd; have hm := zfC ‹_›; dsimp only [mid] at hm; omega) | (have h1 := Piv.i ‹_›; have h2 := Piv.big ‹_›; have h3 := Piv.p0 ‹_›; have h4 := Piv.p1 ‹_›; have hb := h1.bd; (try simp only [List.length_map]); omega) | (have h1 := Big.i ‹_›; have h2 := Big.big ‹_›; have hb := h1.bd; (try simp only [Sg] at *); omega) | (have hb := I_.bd ‹_›; omega))) ?_ | refine And.intro ?_ ?_ | refine zae ?_ | refine exI (i64_in (by omega) (by omega)) ?_
  | refine exI (x := ULift.up _) (Eq.refl _) ?_
  | refine exI (x := ULift.up _) ⟨rfl, by omega, Eq.refl _⟩ ?_
  | exact nx
  | ((with_reducible intro h); try dsimp only at h))
 all_goals (refine Sd.mk ?_)
 all_goals (try simp only [HR.eta, true_and] at *)
 all_goals first
  | exact zHU hp
  | exact zoZ ‹_›
  | exact zoZ (Big.i ‹_›)
  | exact zoZ (Piv.i ‹_›)
  | exact zyf ‹_› ‹_›
  | exact zw8
  | exact fun _ _ => ⟨_, rfl⟩
  | exact fun _ h => h
  | exact zqm ‹_›
  | exact zHm ‹_› ‹_›
  | exact zDo rfl rfl ‹_› ‹_›
  | exact zDK rfl rfl ‹_› ‹_› ‹_› ‹_›
  | exact zyo rfl rfl ‹_› ‹_›
  | exact zws rfl rfl ‹_› ‹_› ‹_›
  | exact zwK rfl rfl ‹_›
  | exact zxz rfl rfl ‹_›
  | exact zBH ‹_› ‹_› ‹_›
  | exact zCG ‹_› ‹_› ‹_›
end
section
theorem zBO (L : List HR) (a b lim : Int) (hp : zgb L a b lim) : zaa.ok Tryz.prog GG 169 (zhQ L a b lim) := by
 have key : ∀ n : Nat, ∀ L a b lim, zgb L a b lim -> b - a < n -> zaa.ok Tryz.prog GG 169 (zhQ L a b lim) := by
  intro n
  induction n with
  | zero =>
    intro L a b lim hp h
    have := hp.1.2.1
    omega
  | succ n ih => intro L a b lim hp h; exact zB6 n ih L a b lim hp h
 exact key ((b - a).toNat + 1) L a b lim hp (by omega)
noncomputable def zo0 : SFn
 | [.slc p 0 _, .int .i64 a, .int .i64 b, .int .i64 lim, .fn (.func 52) [] []], k => .rO p fun o => match o with
   | some (.vec 2 LL) => asL HR.pv LL fun L => .req (zgb L a b lim) (k (zhQ L a b lim))
   | _ => .fail
 | _, _ => .fail
theorem zCM : FnS Tryz.prog GG 169 zo0 := by
 intro args k gt go R v os m h
 unfold zo0 at h
 split at h
 . cases h with
   | rO h =>
     dsimp only at h
     split at h
     . obtain ⟨L, _, h⟩ := zaN h
       obtain ⟨hp, _, h⟩ := zar h
       exact ⟨_, _, zBO L _ _ _ hp, h⟩
     . cases h
 . cases h
theorem zDX {L : List HR} (h : L.Nodup) (hl : L.length <= 1000000) : zgb L 0 L.length (zbu L.length) := by
 have := zkB (x := (L.length : Int)) (by omega)
 exact ⟨⟨by omega, by omega, by omega, hl⟩, h, fun k => by omega, by omega, by omega⟩
theorem zqU {L : List HR} : ∀ R, VX (fun M => Seg 0 L.length L M /\ Srt 0 L.length M) R -> R = List.map HR.pv (zbE L) := fun R ⟨M, ⟨h1, h2⟩, e⟩ => by rw [e, zuM h1 h2]
attribute [local irreducible] zbE zbu
noncomputable def ztS (L : List HR) : zaa := ⟨[.slc 0 0 L.length, .fn (.func 52) [] []], [.vec 2 (L.map HR.pv)], [some (.vex 2 (fun R => R = List.map HR.pv (zbE L)))], [], .tup []⟩
set_option maxHeartbeats 4000000 in
theorem zBa (L : List HR) (hp : L.Nodup /\ L.length <= 1000000) : zaa.ok Tryz.prog GG 139 (ztS L) := by
 refine zac mix zBA _ rfl rfl (Tab.ok (l := [(169, zo0), (170, zmg)]) ⟨zCM, ztt, trivial⟩) noL noJ ?_
 repeat' ((conv => whnf); first
  | exact trivial
  | with_reducible first | refine aj ?_ | refine ai rfl ?_ | refine ai ⟨rfl, rfl⟩ ?_
  | ((with_reducible refine ai ?_ ?_); focus exact w3)
  | with_reducible refine And.intro (Sd.mk (p := Bn _) ⟨by omega, by have := hp.2; omega⟩) ?_
  | refine exI (zfh (by have := hp.2; (try simp only [List.length_map]); omega) (by have := hp.2; (try simp only [List.length_map]); omega)) ?_
  | with_reducible first | refine ai (zDX hp.1 hp.2) ?_ | refine And.intro ?_ ?_ | refine zae ?_ | refine exI (i64_in (by omega) (by omega)) ?_
  | refine exI (x := ULift.up _) (Eq.refl _) ?_
  | refine exI (x := ULift.up _) ⟨rfl, by omega, Eq.refl _⟩ ?_
  | exact nx
  | ((with_reducible intro h); try dsimp only at h))
 all_goals (refine Sd.mk ?_)
 all_goals first
  | exact zqU
  | exact ⟨rfl, zqU⟩
noncomputable def zpz : SFn
 | [.slc p 0 _, .fn (.func 52) [] []], k => .rO p fun o => match o with
   | some (.vec 2 LL) => asL HR.pv LL fun L => .req (L.Nodup /\ L.length <= 1000000) (k (ztS L ))
   | _ => .fail
 | _, _ => .fail
theorem zCe : FnS Tryz.prog GG 139 zpz := by
 intro args k gt go R v os n h
 unfold zpz at h
 split at h
 . cases h with
   | rO h =>
     dsimp only at h
     split at h
     . obtain ⟨L, _, h⟩ := zaN h
       obtain ⟨hp, _, h⟩ := zar h
       exact ⟨_, _, zBa L  hp, h⟩
     . cases h
 . cases h
end
section
def zJC : MC := .seq (.reg [oo 4 (.mv (.k (.val (.slice none 0 0))))]) (.seq (.reg [om 6 0,oo 7 (fc 138 [(.t 6)]),om 5 7]) (.gh (.opn 2) (.seq (.reg [om 8 5,om 9 1,oo 10 (fc 139 [(.t 8),(.t 9)])]) (.gh (.opn 2) (.seq (.reg [om 11 5,om 4 11]) (.ret))))))
theorem zFs : zan Tryz.prog 94 12 zJC [.t 4] := fk Tryz.func94 ⟨tv,⟨tv,⟨tv,⟨tv,tv⟩⟩⟩⟩
theorem zxC {K : List HR} {Q : List (List PV) -> Prop} (h : ∀ M : List HR, M.Perm K -> Q (M.map HR.pv)) : ∀ L, prm K L -> Q L := fun L ⟨M, h1, h2⟩ => by subst h2; exact h M h1
theorem zBp {X : List (List PV)} {Q : List (List PV) -> Prop} (h : Q X) : ∀ R, R = X -> Q R := fun R e => by rw [e]; exact h
theorem ndP {K M : List HR} (h : M.Perm K) (hn : K.Nodup) : M.Nodup := h.nodup_iff.2 hn
theorem zF9 {es : TM} {M : List HR} (h : M.Perm (K1 es)) (hn : (K1 es).Nodup) (hl : es.length <= 1000000) : M.Nodup /\ M.length <= 1000000 := ⟨ndP h hn, by rw [zyb h]; exact hl⟩
attribute [local irreducible] zbE
noncomputable def zyP (es : TM) : zaa := ⟨[.fn (.func 140) [] [.ptr 0 0 0], .fn (.func 52) [] []], [.row [.mp 1], .map MTS es none], [some (.row [.mp 1]), some (.map MTS es none)], [.vec 2 ((zbE (K1 es)).map HR.pv)], .slc 2 0 es.length⟩
theorem zIP (es : TM) (hn : (K1 es).Nodup) (hl : es.length <= 1000000) : zaa.ok Tryz.prog GG 94 (zyP es) := by
 refine zac mix zFs _ rfl rfl (Tab.ok (l := [(138, zsm), (139, zpz)]) ⟨zGH, zCe, trivial⟩) noL noJ ?_
 repeat' ((conv => whnf); first
  | exact trivial
  | with_reducible first | refine aj ?_ | refine ai rfl ?_ | refine ai ⟨rfl, rfl⟩ ?_
  | ((with_reducible refine ai ?_ ?_); focus exact w3)
  | with_reducible first | refine zxC ?_ | refine zBp ?_ | refine ai (zF9 (by with_reducible assumption) hn hl) ?_ | refine ai (zBY (by with_reducible assumption)) ?_ | refine And.intro (Sd.mk (p := List.Nodup _ /\ List.length (α := _ × _) _ <= 1000000) ⟨hn, hl⟩) ?_ | refine And.intro ?_ ?_ | refine zae ?_ | refine exI (i64_in (by omega) (by omega)) ?_
  | refine exI (x := ULift.up _) (Eq.refl _) ?_
  | refine exI (x := ULift.up _) ⟨rfl, by omega, Eq.refl _⟩ ?_
  | exact ny
  | ((with_reducible intro h); try dsimp only at h))
 all_goals (refine Sd.mk ?_)
 all_goals first
  | exact zBL ‹_›
noncomputable def zrU : SFn
 | [.fn (.func 140) [] [.ptr p _ _], .fn (.func 52) [] []], k => zbk p fun rp => match rp with
   | .agg [.mp m] => zbl MTS m fun es => .req ((K1 es).Nodup /\ es.length <= 1000000) (k (zyP es))
   | _ => .fail
 | _, _ => .fail
theorem zIN : FnS Tryz.prog GG 94 zrU := by
 intro args k gt go R v os n h
 unfold zrU at h
 split at h
 . obtain ⟨_, _, h⟩ := zaR h
   split at h
   . obtain ⟨es, _, h⟩ := zaS h
     obtain ⟨hp, _, h⟩ := zar h
     exact ⟨_, _, zIP es hp.1 hp.2, h⟩
   . cases h
 . cases h
noncomputable def zyi (es : TM) : zaa := ⟨[.mp 0, .fn (.func 52) [] []], [.map MTS es none], [some (.map MTS es none)], [.vec 2 ((zbE (K1 es)).map HR.pv)], .slc 1 0 es.length⟩
theorem zGm (es : TM) (hn : (K1 es).Nodup) (hl : es.length <= 1000000) : zaa.ok Tryz.prog GG 51 (zyi es) := by
 refine zac mix k51 _ rfl rfl (Tab.ok (l := [(95, S95), (94, zrU)]) ⟨t95, zIN, trivial⟩) noL noJ ?_
 repeat' ((conv => whnf); first
  | exact trivial
  | with_reducible first | refine aj ?_ | refine ai rfl ?_ | refine ai ⟨rfl, rfl⟩ ?_
  | ((with_reducible refine ai ?_ ?_); focus exact w3)
  | with_reducible first | refine And.intro (Sd.mk (p := List.Nodup _ /\ List.length (α := _ × _) _ <= 1000000) ⟨hn, hl⟩) ?_ | refine And.intro ?_ ?_ | refine zae ?_ | refine exI (i64_in (by omega) (by omega)) ?_
  | refine exI (x := ULift.up _) (Eq.refl _) ?_
  | refine exI (x := ULift.up _) ⟨rfl, by omega, Eq.refl _⟩ ?_
  | exact ny
  | ((with_reducible intro h); try dsimp only at h))
 all_goals (refine Sd.mk ?_)
noncomputable def zrq : SFn
 | [.mp p, .fn (.func 52) [] []], k => zbl MTS p fun es => .req ((K1 es).Nodup /\ es.length <= 1000000) (k (zyi es))
 | _, _ => .fail
theorem zJW : FnS Tryz.prog GG 51 zrq := by
 intro args k gt go R v os n h
 unfold zrq at h
 split at h
 . obtain ⟨es, _, h⟩ := zaS h
   obtain ⟨hp, _, h⟩ := zar h
   exact ⟨_, _, zGm es hp.1 hp.2, h⟩
 . cases h
end
section
theorem zoe {M : zaj} {k : M.κ} {v : M.ν} : ∀ {es : List (M.κ × M.ν)}, (zam M k v es).length <= es.length + 1
 | [] => by simp [zam]
 | (y, u) :: es => by
   simp only [zam]
   cases M.deq y k with
   | isTrue h => simp
   | isFalse h =>
     have := zoe (M := M) (k := k) (v := v) (es := es)
     simp only [List.length_cons]; omega
theorem zrG {i : Int} {es : TM} {r : HR} : (zb3 i es r).length <= es.length + 1 := by
 unfold zb3; split
 . exact zoe
 . omega
theorem zlR {i : Int} : ∀ (us : List HR) (es : TM), (us.foldl (zb3 i) es).length <= es.length + us.length
 | [], es => by simp
 | r :: us, es => by
   have h1 := zlR (i := i) us (zb3 i es r)
   have h2 := zrG (i := i) (es := es) (r := r)
   simp only [List.foldl_cons, List.length_cons]; omega
theorem zgD : ∀ (l : List HI) (i : Int) (us ds : TM), (zbM l i us ds).1.length <= us.length + 3 * l.length
 | [], _, us, ds => by simp [zbM]
 | x :: l, i, us, ds => by
   have h1 := zgD l (i + 1) ((zaf x).foldl (zb3 i) us) (zeb i ds x)
   have h2 := zlR (i := i) (zaf x) us
   have h3 : (zaf x).length <= 3 := by have := zbA x; omega
   simp only [zbM, List.length_cons]; omega
theorem zy3 {l : List HI} (h : ¬ ¬ zaT l = 0) : (zav l).1.length <= 1000000 := by
 have h1 := zgD l 0 [] []
 have h2 := lc h
 unfold zav
 simp only [List.length_nil] at h1; omega
theorem zzz {l : List HI} (h : ¬ ¬ zaT l = 0) : (zgN l).length <= 1000000 := by rw [zjB]; exact zy3 h
attribute [local irreducible] zaT zav zbE zcr zgI
noncomputable def zpC (l : List HI) (i : Int) : zaa := ⟨[.rd (.sl 15 (l.map HI.pv)), kz i], [], [], [.vec 2 ((zby l i).map HR.pv)], .tup [.slc 0 0 (zaQ l i).length, kz (zcG l i)]⟩
set_option maxHeartbeats 4000000 in
theorem ztb (l : List HI) (i : Int) : zaa.ok Tryz.prog GG 16 (zpC l i) := by
 refine zac mix k16 _ rfl rfl (Tab.ok (l := [(18, S18), (50, S50), (51, zrq), (53, S53)]) ⟨t18, t50, zJW, t53, trivial⟩) noL noJ ?_
 repeat' ((conv => whnf); first
  | exact trivial
  | with_reducible first | refine aj ?_ | refine ai rfl ?_ | refine ai ⟨rfl, rfl⟩ ?_
  | ((with_reducible refine ai ?_ ?_); focus exact w3)
  | refine exI (x := MTS) trivial ?_
  | with_reducible first | refine And.intro (Sd.mk (p := _ <= 4000) (lc ‹_›)) ?_ | refine And.intro (Sd.mk (p := List.Nodup _ /\ _) ⟨zJD _, zy3 ‹_›⟩) ?_ | refine And.intro (Sd.mk (p := zjw _ _) (ztL ‹_›)) ?_ | refine And.intro (Sd.mk (p := _ <= 1000000) (zzz ‹_›)) ?_ | refine And.intro (Sd.mk zIt) ?_ | refine And.intro ?_ ?_ | refine zae ?_ | refine exI (i64_in (by omega) (by omega)) ?_
  | refine exI (x := ULift.up _) (Eq.refl _) ?_
  | refine exI (x := ULift.up _) ⟨rfl, by omega, Eq.refl _⟩ ?_
  | exact nx
  | ((with_reducible intro h); try dsimp only at h))
 all_goals (refine Sd.mk ?_)
 all_goals first
  | exact zzz ‹_›
  | exact zre ‹_›
  | exact zkQ ‹_› (.inl ‹_›)
  | exact zkQ ‹_› (.inr (by rw [List.length_map] at *; assumption))
  | exact zmO ‹_› ‹_› (by rw [List.length_map] at *; assumption)
  | exact ⟨rfl, zrJ (zre ‹_›) (by decide), rfl⟩
  | exact ⟨rfl, zrJ (zkQ ‹_› (.inl ‹_›)) (by decide), rfl⟩
  | exact ⟨rfl, zrJ (zkQ ‹_› (.inr (by rw [List.length_map] at *; assumption))) (by decide), rfl⟩
  | exact zr5 (zre ‹_›) (by decide)
  | exact zr5 (zkQ ‹_› (.inl ‹_›)) (by decide)
  | exact zr5 (zkQ ‹_› (.inr (by rw [List.length_map] at *; assumption))) (by decide)
  | exact ⟨rfl, zJI (zmO ‹_› ‹_› (by rw [List.length_map] at *; assumption))⟩
  | exact ⟨rfl, zEb (zmO ‹_› ‹_› (by rw [List.length_map] at *; assumption))⟩
noncomputable def ztm : SFn
 | [a0, a1], k => zcu a0 fun L_l => asL HI.pv L_l fun l => asI a1 fun i => k (zpC l i)
 | _, _ => .fail
theorem zFw : FnS Tryz.prog GG 16 ztm := by
 intro args k gt go R v os n h
 unfold ztm at h
 split at h
 . obtain ⟨L_l, _, h⟩ := zbn h
   obtain ⟨l, _, h⟩ := zaN h
   obtain ⟨i, _, h⟩ := zaU h
   exact ⟨_, _, ztb l i, h⟩
 . cases h
end
section
def zIs : MC := .seq (.reg [oo 4 (.box (.t 1)),oo 5 (.box (.t 2))]) (.seq (.drw [om 9 0,oo 10 (.nchk (.t 9)),oo 11 (fl 3 10),oo 12 (ln 11),oo 13 (ls 2 5),oo 14 (.lkp true false [.int .i64,.int .i64] false [.bool false,.int .i64 0,.int .i64 0] (.t 12) (.t 13)),om 8 14,oo 15 (ex_ 0 8),oo 16 (ex_ 1 8),oo 6 (.alloc [.ff,(kz 0),(kz 0)]),o none (.st (some 3) (.t 6) (.t 15)),om 7 16] [[],[0],[1],[2],[],[3,4],[5],[6],[6],[],[9,7,0,1,2,3,4,5,6,7,9],[8,10,0,1,2,3,4,5,6,7,8,9,10]]) (.seq (.seq (.reg [om 17 7,oo 18 (.not (.t 17)),sm 19 18,gf 19 20 (fl 0 5),gf 19 21 (ln 20),gf 19 22 (cc .eql 21 2),ogs 19 false (some 23) (.mv (.t 22)),gt_ 23 24 (fl 2 6),gt_ 23 25 (ln 24),gt_ 23 26 (cc .neq 25 0),gf 19 27 (pf 23 26),oo 28 (pt 19 27)]) (.cond (.t 28) (.seq (.drw [om 29 0,oo 30 (.nchk (.t 29)),oo 31 (fl 3 30),oo 32 (ln 31),oo 33 (ls 2 4),o none (.mdel false [.int .i64,.int .i64] (.t 32) (.t 33))] [[],[0],[1],[2],[],[3,4]]) (.ret)) (.skip))) (.drw [om 34 0,oo 35 (.nchk (.t 34)),oo 36 (fl 3 35),oo 37 (ln 36),oo 38 (ls 2 4),oo 39 (ls 3 6),o none (.mup false [.int .i64,.int .i64] (.t 37) (.t 38) (.t 39))] [[],[0],[1],[2],[],[],[3,4,5,0,1,2,3,4,5]])))
theorem zGP : zan Tryz.prog 150 40 zIs [] := fk Tryz.func150 ⟨tv,⟨tv,⟨⟨tv,⟨⟨tv,tv⟩,tv⟩⟩,tv⟩⟩⟩
def zFQ : MC := .seq (.reg [oo 1 (.box (.t 0)),oo 2 (.alloc [(kz 0),(kz 0)])]) (.seq (.seq (.reg [oo 3 (fl 0 1),oo 4 (ln 3)]) (.cond (.t 4) (.seq (.reg [oo 5 (fl 1 1),oo 6 (ln 5),oo 7 (.bld [(kz 0),(kz 0)] [(0,1,(ki 1)),(1,1,(.t 6))]),o none (.st (some 2) (.t 2) (.t 7))]) (.ret)) (.skip))) (.seq (.reg [oo 8 (fl 1 1),oo 9 (ln 8),oo 10 (.bld [(kz 0),(kz 0)] [(0,1,(ki 0)),(1,1,(.t 9))]),o none (.st (some 2) (.t 2) (.t 10))]) (.ret)))
theorem zFo : zan Tryz.prog 151 11 zFQ [.c 2 (some 2)] := fk Tryz.func151 ⟨tv,⟨⟨tv,⟨⟨tv,tv⟩,tv⟩⟩,⟨tv,tv⟩⟩⟩
def zJ9 : MC := .seq (.reg [oo 3 (.alloc [(kz 0),(kz 0)])]) (.seq (.reg [oo 4 (fl 8 1),oo 5 (ln 4),om 6 0,oo 7 (at_ .add 5 6),oo 8 (.bld [(kz 0),(kz 0)] [(0,1,(ki 2)),(1,1,(.t 7))]),o none (.st (some 2) (.t 3) (.t 8))]) (.ret))
theorem zEk : zan Tryz.prog 149 9 zJ9 [.c 3 (some 2)] := fk Tryz.func149 ⟨tv,⟨tv,tv⟩⟩
def zGe : MC := .seq (.reg [oo 3 (.box (.t 0)),oo 6 (.mv kf)]) (.seq (.reg [oo 12 (ls 15 3),oo 13 (fc 34 [(.t 12)]),om 7 13]) (.seq (.seq (.reg [oo 15 (ls 15 3),oo 16 (fc 33 [(.t 15)]),om 14 16,oo 17 (ex_ 0 14),oo 18 (ex_ 1 14),oo 8 (.alloc [.ff,(kz 0)]),o none (.st (some 2) (.t 8) (.t 17)),om 9 18]) (.seq (.reg [om 19 9]) (.cond (.t 19) (.reg [om 20 7,oo 21 (ls 2 8),oo 22 (.bsl 2 1 [.ff,(kz 0)] [(0,(.t 21))]),oo 23 (.app 2 16 (.t 20) (.t 22)),om 7 23]) (.skip)))) (.seq (.seq (.reg [om 24 7,oo 25 (.lenS (.t 24)),oo 26 (.mv (ki 0))]) (.blk 0 (.loop 0 (.seq (.reg [oo 27 (ct .lss 26 25)]) (.seq (.cond (.t 27) (.skip) (.exit 0)) (.seq (.blk 1 (.seq (.reg [oo 28 (ia 2 24 26),oo 29 (ls 2 28),oo 11 (.alloc [.ff,(kz 0)]),o none (.st (some 2) (.t 11) (.t 29))]) (.seq (.reg [oo 30 (fl 0 11),oo 31 (ln 30),sm 32 31,gt_ 32 33 (fl 1 11),gt_ 32 34 (ln 33),mt 32 35 2,gt_ 32 36 (ct .geq 34 35),oo 37 (pf 32 36),sm 38 37,gf 38 39 (fl 0 11),gf 38 40 (ln 39),gf 38 41 (.not (.t 40)),ogs 38 false (some 42) (.mv (.t 41)),gt_ 42 43 (fl 1 11),gt_ 42 44 (ln 43),mt 42 45 1,gt_ 42 46 (ct .geq 44 45),gf 38 47 (pf 42 46),oo 48 (pt 38 47)]) (.cond (.t 48) (.seq (.reg [oo 6 (.mv kf)]) (.ret)) (.skip))))) (.reg [oo 49 (ac .add 26 1),om 26 49]))))))) (.seq (.reg [oo 6 (.mv kt)]) (.ret)))))
theorem zHb : zan Tryz.prog 111 50 zGe [.t 6] := fk Tryz.func111 ⟨tv,⟨tv,⟨⟨tv,⟨tv,⟨tv,tv⟩⟩⟩,⟨⟨tv,⟨tv,⟨⟨tv,tv⟩,⟨⟨tv,⟨tv,⟨⟨tv,tv⟩,tv⟩⟩⟩,tv⟩⟩⟩⟩,⟨tv,tv⟩⟩⟩⟩⟩
attribute [local irreducible] Go.Sx.zak Go.Sx.zay
def zcA (es : HM) (t f : PL) : HM := if (zay MPC f es).isSome = false \/ (f.kind = 2 /\ (zak MPC f es : CT).part ≠ 0) then za3 MPC t es else zam MPC t (zak MPC f es) es
abbrev ctG (f : PL) (es : HM) : CT := zak MPC f es
abbrev MPS (es : HM) : SO := .map MPC es none
theorem zuG {es : HM} {t f : PL} (h : (!(zay MPC f es).isSome) = true) : MPS (zcA es t f) = MPS (za3 MPC t es) := by
 unfold zcA; rw [if_pos (.inl (nt h))]
theorem zrL {es : HM} {t f : PL} (h1 : f.kind = 2) (h2 : ¬ (ctG f es).part = 0) : MPS (zcA es t f) = MPS (za3 MPC t es) := by
 unfold zcA; rw [if_pos (.inr ⟨h1, h2⟩)]
theorem zne {es : HM} {t f : PL} (h : (!(zay MPC f es).isSome) = false) (h1 : ¬ f.kind = 2 \/ ¬ ¬ (ctG f es).part = 0) : MPS (zcA es t f) = MPS (zam MPC t (CT.mk (ctG f es).r (ctG f es).part) es) := by
 unfold zcA; rw [if_neg]
 . rw [nf h]; rintro (h2 | ⟨h2, h3⟩)
   . cases h2
   . rcases h1 with h1 | h1
     . exact h1 h2
     . exact h1 h3
noncomputable def zzl (v : VL) (es : HM) (t : PL) (f : PL) : zaa := ⟨[.ptr 0 0 0, .agg t.cells, .agg f.cells], [v.row, .map MPC es none], [some v.row, some (.map MPC (zcA es t f) none)], [], .tup []⟩
set_option maxHeartbeats 2000000 in
theorem zHe (v : VL) (es : HM) (t : PL) (f : PL) : zaa.ok Tryz.prog GG 150 (zzl v es t f) := by
 refine zac mix zGP _ rfl rfl (Tab.ok (l := []) trivial) noL noJ ?_
 repeat' ((conv => whnf); first
  | exact trivial
  | with_reducible first | refine aj ?_ | refine ai rfl ?_ | refine ai ⟨rfl, rfl⟩ ?_
  | ((with_reducible refine ai ?_ ?_); focus exact w3)
  | refine And.intro (Sd.mk (p := zaj.one MPC = _ /\ _) ⟨rfl, rfl⟩) ?_
  | refine And.intro (Sd.mk (p := zaj.vone MPC = _ /\ _) ⟨rfl, rfl⟩) ?_
  | apply exI (x := ULift.up (PL.mk _ _)) trivial
  | apply exI (x := ULift.up (CT.mk (HR.mk _ _) _)) trivial
  | with_reducible first | refine And.intro ?_ ?_ | refine zae ?_ | refine exI (i64_in (by omega) (by omega)) ?_
  | refine exI (x := ULift.up _) (Eq.refl _) ?_
  | refine exI (x := ULift.up _) ⟨rfl, by omega, Eq.refl _⟩ ?_
  | exact ny
  | ((with_reducible intro h); try dsimp only at h))
 all_goals (refine Sd.mk ?_; (try simp only [HR.eta, PL.eta] at *))
 all_goals first
  | exact zuG ‹_›
  | exact zrL ‹_› ‹_›
  | exact zne ‹_› (.inl ‹_›)
  | exact zne ‹_› (.inr ‹_›)
noncomputable def ztd : SFn
 | [.ptr p _ _, a1, a2], k => zgr p fun v es => zpd a1 fun t => zpd a2 fun f => k (zzl v es t f)
 | _, _ => .fail
theorem zD0 : FnS Tryz.prog GG 150 ztd := by
 intro args k gt go R v os n h
 unfold ztd at h
 split at h
 . obtain ⟨v, es, _, h⟩ := zeo h
   obtain ⟨t, _, h⟩ := znu h
   obtain ⟨f, _, h⟩ := znu h
   exact ⟨_, _, zHe v es t f, h⟩
 . cases h
def ofF (r : HR) : PL := if r.vec = true then ⟨1, r.n⟩ else ⟨0, r.n⟩
noncomputable def zwp (r : HR) : zaa := ⟨[.agg r.cells], [], [], [], .agg (ofF r).cells⟩
theorem zGO (r : HR) : zaa.ok Tryz.prog GG 151 (zwp r) := by
 refine zac mix zFo _ rfl rfl (Tab.ok (l := []) trivial) noL noJ ?_
 repeat' ((conv => whnf); first
  | exact trivial
  | with_reducible first | refine aj ?_ | refine ai rfl ?_ | refine ai ⟨rfl, rfl⟩ ?_
  | ((with_reducible refine ai ?_ ?_); focus exact w3)
  | with_reducible first | refine And.intro ?_ ?_ | refine zae ?_ | refine exI (i64_in (by omega) (by omega)) ?_
  | refine exI (x := ULift.up _) (Eq.refl _) ?_
  | refine exI (x := ULift.up _) ⟨rfl, by omega, Eq.refl _⟩ ?_
  | exact ny
  | ((with_reducible intro h); try dsimp only at h))
 all_goals (refine Sd.mk ?_; simp_all [ofF, PL.cells])
noncomputable def zrs : SFn
 | [a0], k => zf0 a0 fun r => k (zwp r)
 | _, _ => .fail
theorem zHE : FnS Tryz.prog GG 151 zrs := by
 intro args k gt go R v os n h
 unfold zrs at h
 split at h
 . obtain ⟨r, _, h⟩ := zdd h
   exact ⟨_, _, zGO r, h⟩
 . cases h
noncomputable def zyu (x : HI) (k : Int) : zaa := ⟨[kz k, .rp (HI.pv x) 0], [], [], [], .agg (PL.cells ⟨2, x.k + k⟩)⟩
theorem zED (x : HI) (k : Int) (hp : (0 <= k /\ k <= 3) /\ -1000000 <= x.k /\ x.k <= 1000000) : zaa.ok Tryz.prog GG 149 (zyu x k) := by
 refine zac mix zEk _ rfl rfl (Tab.ok (l := []) trivial) noL noJ ?_
 repeat' ((conv => whnf); first
  | exact trivial
  | with_reducible first | refine aj ?_ | refine ai rfl ?_ | refine ai ⟨rfl, rfl⟩ ?_
  | ((with_reducible refine ai ?_ ?_); focus exact w3)
  | with_reducible first | refine And.intro ?_ ?_ | refine zae ?_ | refine exI (i64_in (by omega) (by omega)) ?_
  | refine exI (x := ULift.up _) (Eq.refl _) ?_
  | refine exI (x := ULift.up _) ⟨rfl, by omega, Eq.refl _⟩ ?_
  | exact ny
  | ((with_reducible intro h); try dsimp only at h))
noncomputable def zrh : SFn
 | [.int .i64 j, .ptr p _ _], k => zbk p fun r => zdp r fun x => .req ((0 <= j /\ j <= 3) /\ -1000000 <= x.k /\ x.k <= 1000000) (k (zyu x j))
 | _, _ => .fail
theorem zFV : FnS Tryz.prog GG 149 zrh := by
 intro args k gt go R v os n h
 unfold zrh at h
 split at h
 . obtain ⟨r, _, h⟩ := zaR h
   obtain ⟨x, _, h⟩ := zbt h
   obtain ⟨hp, _, h⟩ := zar h
   exact ⟨_, _, zED x _ hp, h⟩
 . cases h
def zh4 (w v : Int) (r : HR) : Bool := if r.vec = true then decide (r.n < v) else decide (r.n < w)
def zb7 (x : HI) (w v : Int) : Bool := (zaL x).all (zh4 w v)
def zAu (x : HI) (w v : Int) (i : Int) : St := ⟨[(26, kz i), (25, kz (zaL x).length), (24, .slc 0 0 (zaL x).length), (2, kz v), (1, kz w)], [(0, some (.vec 2 ((zaL x).map HR.pv)))], 1⟩
def zhy (x : HI) (w v : Int) (i : Int) : Prop := 0 <= i /\ i <= (zaL x).length /\ (zaL x).length <= 4 /\ ((zaL x).drop i.toNat).all (zh4 w v) = (zaL x).all (zh4 w v)
theorem zqi {x : HI} {w v i : Int} (hI : zhy x w v i) (h : i < (zaL x).length) (hb : zh4 w v (nth (zaL x) i) = false) : zb7 x w v = false := by
 obtain ⟨h1, h2, h3, h4⟩ := hI
 rw [zaF _ _ ⟨h1, h⟩] at h4
 rw [zb7, <- h4]; simp [hb]
theorem zwU {x : HI} {w v i : Int} (hI : zhy x w v i) (h : i < (zaL x).length) (hb : zh4 w v (nth (zaL x) i) = true) : zhy x w v (i + 1) /\ ((zaL x).length - (i + 1)).toNat < ((zaL x).length - i).toNat := by
 obtain ⟨h1, h2, h3, h4⟩ := hI
 rw [zaF _ _ ⟨h1, h⟩] at h4
 refine ⟨⟨by omega, by omega, h3, ?_⟩, by omega⟩
 rw [<- h4]; simp [hb]
theorem zn5 {x : HI} {w v i : Int} (hI : zhy x w v i) (h : ¬ i < (zaL x).length) : zb7 x w v = true := by
 obtain ⟨h1, h2, h3, h4⟩ := hI
 have : (zaL x).drop i.toNat = [] := List.drop_eq_nil_of_le (by omega)
 rw [zb7, <- h4, this]; rfl
noncomputable def zxt (x : HI) (w : Int) (v : Int) : zaa := ⟨[.agg x.cells, kz w, kz v], [], [], [], .bool (zb7 x w v)⟩
set_option maxHeartbeats 4000000 in
theorem zIx (x : HI) (w : Int) (v : Int) : zaa.ok Tryz.prog GG 111 (zxt x w v) := by
 refine zac mix zHb _ rfl rfl (Tab.ok (l := [(34, S34), (33, S33)]) ⟨t34, t33, trivial⟩) (fun _ => .inv Int (fun _ => zhy x w v) (zAu x w v) (fun i => ((zaL x).length - i).toNat)) noJ ?_
 repeat' ((conv => whnf); first
  | exact trivial
  | with_reducible first | refine aj ?_ | refine ai rfl ?_ | refine ai ⟨rfl, rfl⟩ ?_
  | ((with_reducible refine ai ?_ ?_); focus exact w3)
  | with_reducible first | apply exW (c := _) | refine exI (i64_in (by simp only [zhy, List.length_map] at *; omega) (by simp only [zhy, List.length_map] at *; omega)) ?_
  | refine exI (x := ULift.up _) (za8 _ _ _ (by simp only [zhy, List.length_map] at *; omega)) ?_
  | with_reducible first | refine ai (by simp only [zhy, List.length_map] at *; omega) ?_ | refine And.intro ?_ ?_ | refine zae ?_ | refine exI (i64_in (by omega) (by omega)) ?_
  | refine exI (x := ULift.up _) (Eq.refl _) ?_
  | refine exI (x := ULift.up _) ⟨rfl, by omega, Eq.refl _⟩ ?_
  | exact ny
  | ((with_reducible intro h); try dsimp only at h))
 all_goals (refine Sd.mk ?_; have hl := zlM x; have hu := zbA x; (try simp only [HI.eta, HR.eta, List.length_map] at *))
 all_goals first
  | exact (zn5 ‹_› ‹_›).symm
  | exact zn5 ‹_› ‹_›
  | exact ⟨by omega, by omega, hl, rfl⟩
  | (refine zqi ‹_› ‹_› ?_; simp only [zh4]; grind)
  | (refine (zqi ‹_› ‹_› ?_).symm; simp only [zh4]; grind)
  | (refine zwU ‹_› ‹_› ?_; simp only [zh4]; grind)
  | (simp_all [zaL, zai.len, HR.pv]; done)
  | (simp_all [zaL, zai.len, HR.pv]; omega)
noncomputable def zpB : SFn
 | [a0, a1, a2], k => zdp a0 fun x => asI a1 fun w => asI a2 fun v => k (zxt x w v)
 | _, _ => .fail
theorem zzO : FnS Tryz.prog GG 111 zpB := by
 intro args k gt go R v os n h
 unfold zpB at h
 split at h
 . obtain ⟨x, _, h⟩ := zbt h
   obtain ⟨w, _, h⟩ := zaU h
   obtain ⟨v, _, h⟩ := zaU h
   exact ⟨_, _, zIx x w v, h⟩
 . cases h
end
section
def zI9 : MC := .seq (.reg [oo 3 (.box (.t 1)),oo 4 (.mv kf)]) (.seq (.reg [oo 12 (.mkf (.func 149) [] [(.t 3)]),om 5 12]) (.seq (.seq (.reg [oo 13 (fl 0 3),oo 14 (ln 13)]) (.blk 0 (.seq (.reg [oo 16 (cc .eql 14 2),om 15 16]) (.cond (.t 15) (.reg [om 17 0,oo 18 (fl 4 3),oo 19 (ln 18),oo 20 (.bld [(kz 0),(kz 0)] [(0,1,(ki 0)),(1,1,(.t 19))]),oo 21 (fl 5 3),oo 22 (ln 21),oo 23 (.bld [(kz 0),(kz 0)] [(0,1,(ki 0)),(1,1,(.t 22))]),oo 24 (fc 150 [(.t 17),(.t 20),(.t 23)])]) (.seq (.reg [oo 26 (cc .eql 14 8),om 25 26]) (.cond (.t 25) (.reg [om 27 0,oo 28 (fl 4 3),oo 29 (ln 28),oo 30 (.bld [(kz 0),(kz 0)] [(0,1,(ki 1)),(1,1,(.t 29))]),oo 31 (fl 5 3),oo 32 (ln 31),oo 33 (.bld [(kz 0),(kz 0)] [(0,1,(ki 1)),(1,1,(.t 32))]),oo 34 (fc 150 [(.t 27),(.t 30),(.t 33)])]) (.seq (.reg [oo 36 (cc .eql 14 42),om 35 36]) (.cond (.t 35) (.drw [om 37 0,om 38 5,oo 39 (.call (.t 38) [(ki 0)]),oo 40 (fl 5 3),oo 41 (ln 40),oo 42 (.bld [(kz 0),(kz 0)] [(0,1,(ki 0)),(1,1,(.t 41))]),oo 43 (fc 150 [(.t 37),(.t 39),(.t 42)])] [[],[],[1],[],[3],[4],[0,2,5,2]]) (.seq (.reg [oo 45 (cc .eql 14 43),om 44 45]) (.cond (.t 44) (.drw [om 46 0,oo 47 (fl 4 3),oo 48 (ln 47),oo 49 (.bld [(kz 0),(kz 0)] [(0,1,(ki 0)),(1,1,(.t 48))]),om 50 5,oo 51 (.call (.t 50) [(ki 0)]),oo 52 (fc 150 [(.t 46),(.t 49),(.t 51)])] [[],[],[1],[2],[],[4],[0,3,5,5]]) (.seq (.reg [oo 54 (cc .eql 14 44),om 53 54]) (.cond (.t 53) (.seq (.drw [om 56 0,oo 57 (.nchk (.t 56)),oo 58 (fl 3 57),oo 59 (ln 58),oo 60 (fl 5 3),oo 61 (ln 60),oo 62 (.bld [(kz 0),(kz 0)] [(0,1,(ki 1)),(1,1,(.t 61))]),oo 63 (.lkp true false [.int .i64,.int .i64] false [.bool false,.int .i64 0,.int .i64 0] (.t 59) (.t 62)),om 55 63,oo 64 (ex_ 0 55),oo 65 (ex_ 1 55),oo 6 (.alloc [.ff,(kz 0),(kz 0)]),o none (.st (some 3) (.t 6) (.t 64)),om 7 65] [[],[0],[1],[2],[],[4],[5],[3,6],[7],[8],[8],[],[11,9,0,1,2,3,4,5,6,7,8,9,11],[10,12,0,1,2,3,4,5,6,7,8,9,10,11,12]]) (.seq (.reg [oo 66 (.mv (ki 0))]) (.blk 1 (.loop 0 (.seq (.reg [oo 67 (.cmpl .lss (.t 66) (ki 4))]) (.seq (.cond (.t 67) (.skip) (.exit 1)) (.seq (.blk 2 (.seq (.reg [om 68 66,om 8 68]) (.seq (.drw [om 69 0,oo 70 (.nchk (.t 69)),oo 71 (fl 3 70),oo 72 (ln 71),om 73 5,om 74 8,oo 75 (.call (.t 73) [(.t 74)]),o none (.mdel false [.int .i64,.int .i64] (.t 72) (.t 75))] [[],[0],[1],[2],[],[],[4,5],[3,6,6]]) (.seq (.reg [om 76 7]) (.cond (.t 76) (.drw [om 77 0,oo 78 (.nchk (.t 77)),oo 79 (fl 3 78),oo 80 (ln 79),om 81 5,om 82 8,oo 83 (.call (.t 81) [(.t 82)]),oo 84 (fl 0 6),oo 85 (ls 2 84),om 86 8,oo 87 (.arl .add (.t 86) (ki 1)),oo 88 (.bld [.ff,(kz 0),(kz 0)] [(0,2,(.t 85)),(2,1,(.t 87))]),o none (.mup false [.int .i64,.int .i64] (.t 80) (.t 83) (.t 88))] [[],[0],[1],[2],[],[],[4,5],[],[7],[],[9],[8,10],[3,6,11,6,0,1,2,3,4,5,6,7,8,9,10,11]]) (.skip)))))) (.reg [oo 89 (.arl .add (.t 66) (ki 1)),om 66 89])))))))) (.seq (.reg [oo 91 (cc .eql 14 45),om 90 91]) (.cond (.t 90) (.seq (.drw [om 93 0,oo 94 (.nchk (.t 93)),oo 95 (fl 3 94),oo 96 (ln 95),om 97 5,oo 98 (.call (.t 97) [(ki 0)]),oo 99 (.lkp true false [.int .i64,.int .i64] false [.bool false,.int .i64 0,.int .i64 0] (.t 96) (.t 98)),om 92 99,oo 100 (ex_ 0 92),oo 101 (ex_ 1 92),oo 9 (.alloc [.ff,(kz 0),(kz 0)]),o none (.st (some 3) (.t 9) (.t 100)),om 10 101] [[],[0],[1],[2],[],[4],[3,5],[6],[7],[7],[],[10,8,5,0,1,2,3,4,5,6,7,8,10],[9,11,0,1,2,3,4,5,6,7,8,9,10,11]])
 (.seq (.seq (.reg [oo 102 (.mv (ki 0))]) (.blk 3 (.loop 1 (.seq (.reg [oo 103 (.cmpl .lss (.t 102) (ki 4))]) (.seq (.cond (.t 103) (.skip) (.exit 3)) (.seq (.blk 4 (.seq (.reg [om 104 102,om 11 104]) (.drw [om 105 10,sm 106 105,mt 106 107 0,gt_ 106 108 (.nchk (.t 107)),gt_ 106 109 (fl 3 108),gt_ 106 110 (ln 109),mt 106 111 5,mt 106 112 11,gt_ 106 113 (.call (.t 111) [(.t 112)]),gt_ 106 114 (.lkp false false [.int .i64,.int .i64] false [.bool false,.int .i64 0,.int .i64 0] (.t 110) (.t 113)),gt_ 106 115 (fl 0 9),gt_ 106 116 (ls 2 115),mt 106 117 11,gt_ 106 118 (.arl .add (.t 117) (ki 1)),gt_ 106 119 (.bld [.ff,(kz 0),(kz 0)] [(0,2,(.t 116)),(2,1,(.t 118))]),gt_ 106 120 (.eqs [.bool,.int .i64,.int .i64] false (.t 114) (.t 119)),oo 121 (pf 106 120),om 10 121] [[],[0],[1],[2,1],[3,1],[4,1],[1],[1],[6,7,1,1],[5,8,1],[1],[10,1],[1],[12,1],[11,13,1],[9,14,1],[1,15],[16,8,0,1,2,3,4,5,6,7,8,9,10,11,12,13,14,15,16]]))) (.reg [oo 122 (.arl .add (.t 102) (ki 1)),om 102 122]))))))) (.seq (.drw [om 123 0,oo 124 (.nchk (.t 123)),oo 125 (fl 3 124),oo 126 (ln 125),oo 127 (fl 4 3),oo 128 (ln 127),oo 129 (.bld [(kz 0),(kz 0)] [(0,1,(ki 1)),(1,1,(.t 128))]),o none (.mdel false [.int .i64,.int .i64] (.t 126) (.t 129))] [[],[0],[1],[2],[],[4],[5],[3,6]]) (.seq (.reg [om 130 10]) (.cond (.t 130) (.drw [om 131 0,oo 132 (.nchk (.t 131)),oo 133 (fl 3 132),oo 134 (ln 133),oo 135 (fl 4 3),oo 136 (ln 135),oo 137 (.bld [(kz 0),(kz 0)] [(0,1,(ki 1)),(1,1,(.t 136))]),oo 138 (fl 0 9),oo 139 (ls 2 138),oo 140 (.bld [.ff,(kz 0),(kz 0)] [(0,2,(.t 139))]),o none (.mup false [.int .i64,.int .i64] (.t 134) (.t 137) (.t 140))] [[],[0],[1],[2],[],[4],[5],[],[7],[8],[3,6,9,0,1,2,3,4,5,6,7,8,9]]) (.skip)))))) (.seq (.reg [oo 4 (.mv kf)]) (.ret)))))))))))))))) (.seq (.reg [oo 4 (.mv kt)]) (.ret))))
theorem zJh : zan Tryz.prog 112 141 zI9 [.t 4] := fk Tryz.func112 ⟨tv,⟨tv,⟨⟨tv,⟨tv,⟨tv,⟨tv,⟨tv,⟨tv,⟨tv,⟨tv,⟨tv,⟨tv,⟨⟨tv,⟨tv,⟨tv,⟨⟨tv,tv⟩,⟨⟨tv,⟨tv,⟨tv,⟨tv,tv⟩⟩⟩⟩,tv⟩⟩⟩⟩⟩,⟨tv,⟨⟨tv,⟨⟨tv,⟨tv,⟨⟨tv,tv⟩,⟨⟨tv,tv⟩,tv⟩⟩⟩⟩,⟨tv,⟨tv,⟨tv,tv⟩⟩⟩⟩⟩,⟨tv,tv⟩⟩⟩⟩⟩⟩⟩⟩⟩⟩⟩⟩⟩⟩,⟨tv,tv⟩⟩⟩⟩
attribute [local irreducible] Go.Sx.zak Go.Sx.zay
abbrev zaP (x : HI) (k : Int) : PL := ⟨2, x.k + k⟩
def zet (x : HI) (y : HR) (is : Bool) (es : HM) (k : Int) : HM := if is = true then zam MPC (zaP x k) (CT.mk y (k + 1)) (za3 MPC (zaP x k) es) else za3 MPC (zaP x k) es
def zfM (es : HM) (x : HI) : HM :=
 let is := (zay MPC (PL.mk 1 x.a) es).isSome
 let y := (ctG ⟨1, x.a⟩ es).r
 zet x y is (zet x y is (zet x y is (zet x y is es 0) 1) 2) 3
def eqC (c : CT) (y : HR) (p : Int) : Prop := (c.r.vec = true ↔ y.vec = true) /\ c.r.n = y.n /\ c.part = p /\ True
instance (c y p) : Decidable (eqC c y p) := inferInstanceAs (Decidable (_ /\ _ /\ _ /\ _))
abbrev zBB (es : HM) (x : HI) : Prop := (zay MPC (zaP x 0) es).isSome = true /\ eqC (ctG (zaP x 0) es) (ctG (zaP x 0) es).r 1 /\ eqC (ctG (zaP x 1) es) (ctG (zaP x 0) es).r 2 /\ eqC (ctG (zaP x 2) es) (ctG (zaP x 0) es).r 3 /\ eqC (ctG (zaP x 3) es) (ctG (zaP x 0) es).r 4
def zdN (es : HM) (x : HI) : HM := if zBB es x then zam MPC (PL.mk 1 x.d) (CT.mk (ctG (zaP x 0) es).r 0) (za3 MPC (PL.mk 1 x.d) es) else za3 MPC (PL.mk 1 x.d) es
def zce (es : HM) (x : HI) : HM × Bool :=
 if x.op = 2 then (zcA es ⟨0, x.d⟩ ⟨0, x.a⟩, true)
 else if x.op = 8 then (zcA es ⟨1, x.d⟩ ⟨1, x.a⟩, true)
 else if x.op = 42 then (zcA es (zaP x 0) ⟨0, x.a⟩, true)
 else if x.op = 43 then (zcA es ⟨0, x.d⟩ (zaP x 0), true)
 else if x.op = 44 then (zfM es x, true)
 else if x.op = 45 then (zdN es x, true)
 else (es, false)
theorem ztP {es : HM} {x : HI} (h : x.op = 2) : zce es x = (zcA es ⟨0, x.d⟩ ⟨0, x.a⟩, true) := by simp [zce, h]
theorem ztY {es : HM} {x : HI} (h : x.op = 8) : zce es x = (zcA es ⟨1, x.d⟩ ⟨1, x.a⟩, true) := by simp [zce, h]
theorem zqS {es : HM} {x : HI} (h : x.op = 42) : zce es x = (zcA es (zaP x 0) ⟨0, x.a⟩, true) := by simp [zce, h]
theorem zqz {es : HM} {x : HI} (h : x.op = 43) : zce es x = (zcA es ⟨0, x.d⟩ (zaP x 0), true) := by simp [zce, h]
theorem zm7 {es : HM} {x : HI} (h : x.op = 44) : zce es x = (zfM es x, true) := by simp [zce, h]
theorem zgg {es : HM} {x : HI} (h : x.op = 45) : zce es x = (zdN es x, true) := by simp [zce, h]
theorem zqK {es : HM} {x : HI} (h1 : ¬ x.op = 2) (h2 : ¬ x.op = 8) (h3 : ¬ x.op = 42) (h4 : ¬ x.op = 43) (h5 : ¬ x.op = 44) (h6 : ¬ x.op = 45) : zce es x = (es, false) := by simp [zce, h1, h2, h3, h4, h5, h6]
theorem zCR {es : HM} {x : HI} (h : (zay MPC (PL.mk 1 x.a) es).isSome = true) : zfM es x =
 zam MPC (zaP x 3) (CT.mk (ctG ⟨1, x.a⟩ es).r 4) (za3 MPC (zaP x 3) (zam MPC (zaP x 2) (CT.mk (ctG ⟨1, x.a⟩ es).r 3) (za3 MPC (zaP x 2) (zam MPC (zaP x 1) (CT.mk (ctG ⟨1, x.a⟩ es).r 2) (za3 MPC (zaP x 1) (zam MPC (zaP x 0) (CT.mk (ctG ⟨1, x.a⟩ es).r 1) (za3 MPC (zaP x 0) es))))))) := by
  simp only [zfM, zet, h, if_true]; rfl
theorem zBF {es : HM} {x : HI} (h : (zay MPC (PL.mk 1 x.a) es).isSome = false) : zfM es x = za3 MPC (zaP x 3) (za3 MPC (zaP x 2) (za3 MPC (zaP x 1) (za3 MPC (zaP x 0) es))) := by
 simp only [zfM, zet, h]; rfl
theorem zDu {es : HM} {x : HI} (h : (zay MPC (zaP x 0) es).isSome = true) (h0 : eqC (ctG (zaP x 0) es) (ctG (zaP x 0) es).r 1) (h1 : eqC (ctG (zaP x 1) es) (ctG (zaP x 0) es).r 2) (h2 : eqC (ctG (zaP x 2) es) (ctG (zaP x 0) es).r 3)
 (h3 : eqC (ctG (zaP x 3) es) (ctG (zaP x 0) es).r 4) : zdN es x = zam MPC (PL.mk 1 x.d) (CT.mk (ctG (zaP x 0) es).r 0) (za3 MPC (PL.mk 1 x.d) es) := by
  unfold zdN; rw [if_pos ⟨h, h0, h1, h2, h3⟩]
theorem zku {es : HM} {x : HI} (h : (zay MPC (zaP x 0) es).isSome = false \/ ¬ eqC (ctG (zaP x 0) es) (ctG (zaP x 0) es).r 1 \/ ¬ eqC (ctG (zaP x 1) es) (ctG (zaP x 0) es).r 2 \/ ¬ eqC (ctG (zaP x 2) es) (ctG (zaP x 0) es).r 3 \/ ¬ eqC (ctG (zaP x 3) es) (ctG (zaP x 0) es).r 4) :
 zdN es x = za3 MPC (PL.mk 1 x.d) es := by
  unfold zdN; rw [if_neg]
  rintro ⟨a, b, c, d, e⟩
  rcases h with h | h | h | h | h
  . rw [h] at a; cases a
  . exact h b
  . exact h c
  . exact h d
  . exact h e
theorem bdk {x : HI} {e : Int} (hp : 42 <= x.op -> x.op <= 45 -> 0 <= x.k /\ x.k <= 1000) (n : Int) (h : x.op = n) (h1 : 42 <= n) (h2 : n <= 45) (he : 0 <= e /\ e <= 3) : (0 <= e /\ e <= 3) /\ -1000000 <= x.k /\ x.k <= 1000000 := by
 have := hp (by omega) (by omega)
 exact ⟨he, by omega, by omega⟩
theorem mpe {a b : HM} (h : a = b) : MPS a = MPS b := by rw [h]
theorem i1 {p : HM × Bool} {a : HM} {b : Bool} (h : p = (a, b)) : p.1 = a := by rw [h]
theorem i2 {p : HM × Bool} {a : HM} {b : Bool} (h : p = (a, b)) : p.2 = b := by rw [h]
noncomputable def zAL (v : VL) (es : HM) (x : HI) : zaa := ⟨[.ptr 0 0 0, .agg x.cells], [v.row, .map MPC es none], [some v.row, some (.map MPC (zce es x).1 none)], [], .bool (zce es x).2⟩
set_option maxHeartbeats 4000000 in
theorem zD9 (v : VL) (es : HM) (x : HI) (hp : 42 <= x.op -> x.op <= 45 -> 0 <= x.k /\ x.k <= 1000) : zaa.ok Tryz.prog GG 112 (zAL v es x) := by
 refine zac mix zJh _ rfl rfl (Tab.ok (l := [(149, zrh), (150, ztd)]) ⟨zFV, zD0, trivial⟩) (fun _ => .rounds 6) noJ ?_
 repeat' ((conv => whnf); first
  | exact trivial
  | with_reducible first | refine aj ?_ | refine ai rfl ?_ | refine ai ⟨rfl, rfl⟩ ?_
  | ((with_reducible refine ai ?_ ?_); focus exact w3)
  | refine And.intro (Sd.mk (p := zaj.one MPC = _ /\ _) ⟨rfl, rfl⟩) ?_
  | refine And.intro (Sd.mk (p := zaj.vone MPC = _ /\ _) ⟨rfl, rfl⟩) ?_
  | apply exI (x := ULift.up (PL.mk _ _)) trivial
  | apply exI (x := ULift.up (CT.mk (HR.mk _ _) _)) trivial
  | with_reducible first | refine And.intro ?_ ?_ | refine zae ?_ | refine exI (i64_in (by omega) (by omega)) ?_
  | refine exI (x := ULift.up _) (Eq.refl _) ?_
  | refine exI (x := ULift.up _) ⟨rfl, by omega, Eq.refl _⟩ ?_
  | exact nx
  | ((with_reducible intro h); try dsimp only at h))
 all_goals (refine Sd.mk ?_)
 all_goals first
  | exact i2 (ztP ‹_›)
  | exact i2 (ztY ‹_›)
  | exact i2 (zqS ‹_›)
  | exact i2 (zqz ‹_›)
  | exact i2 (zm7 ‹_›)
  | exact i2 (zgg ‹_›)
  | exact i2 (zqK ‹_› ‹_› ‹_› ‹_› ‹_› ‹_›)
  | exact mpe (i1 (ztP ‹_›))
  | exact mpe (i1 (ztY ‹_›))
  | exact mpe (i1 (zqS ‹_›))
  | exact mpe (i1 (zqz ‹_›))
  | exact mpe (i1 (zqK ‹_› ‹_› ‹_› ‹_› ‹_› ‹_›))
  | exact mpe ((i1 (zm7 ‹_›)).trans (zCR ‹_›))
  | exact mpe ((i1 (zm7 ‹_›)).trans (zBF ‹_›))
  | exact mpe ((i1 (zgg ‹_›)).trans (zDu ‹_› ‹_› ‹_› ‹_› ‹_›))
  | exact mpe ((i1 (zgg ‹_›)).trans (zku (.inl ‹_›)))
  | exact mpe ((i1 (zgg ‹_›)).trans (zku (.inr (.inl ‹_›))))
  | exact mpe ((i1 (zgg ‹_›)).trans (zku (.inr (.inr (.inl ‹_›)))))
  | exact mpe ((i1 (zgg ‹_›)).trans (zku (.inr (.inr (.inr (.inl ‹_›))))))
  | exact mpe ((i1 (zgg ‹_›)).trans (zku (.inr (.inr (.inr (.inr ‹_›))))))
  | exact bdk hp 42 ‹_› (by decide) (by decide) (by decide)
  | exact bdk hp 43 ‹_› (by decide) (by decide) (by decide)
  | exact bdk hp 44 ‹_› (by decide) (by decide) (by decide)
  | exact bdk hp 45 ‹_› (by decide) (by decide) (by decide)
  | exact ⟨⟨trivial, trivial, trivial⟩, trivial, trivial⟩
noncomputable def zpg : SFn
 | [.ptr p _ _, a1], k => zgr p fun v es => zdp a1 fun x => .req (42 <= x.op -> x.op <= 45 -> 0 <= x.k /\ x.k <= 1000) (k (zAL v es x))
 | _, _ => .fail
theorem zAF : FnS Tryz.prog GG 112 zpg := by
 intro args k gt go R v os n h
 unfold zpg at h
 split at h
 . obtain ⟨v, es, _, h⟩ := zeo h
   obtain ⟨x, _, h⟩ := zbt h
   obtain ⟨hp, _, h⟩ := zar h
   exact ⟨_, _, zD9 v es x hp, h⟩
 . cases h
end
section
def zdA (es : HM) : List HR -> List HR -> Bool
 | r :: rs, u :: us => (zay MPC (ofF r) es).isSome && decide (eqC (ctG (ofF r) es) u 0) && zdA es rs us
 | _, _ => true
def zkC (es : HM) (r : HR) : HM := es.filter fun e => decide (e.2.r ≠ r)
def zit (x : HI) : Int := if (zag x).2 = true then (zag x).1.n else 0
def eqH (a b : HI) : Prop := a.op = b.op /\ a.sub = b.sub /\ a.frm = b.frm /\ a.ty = b.ty /\ a.d = b.d /\ a.a = b.a /\ a.b = b.b /\ a.c = b.c /\ a.k = b.k /\ a.i = b.i /\ a.ch = b.ch /\ a.v0 = b.v0 /\ a.v1 = b.v1 /\ a.v2 = b.v2 /\ a.v3 = b.v3 /\ True
theorem zoi (a b : HI) : eqH a b ↔ a = b := by
 constructor
 . intro h
   obtain ⟨h0, h1, h2, h3, h4, h5, h6, h7, h8, h9, h10, h11, h12, h13, h14, _⟩ := h
   cases a; cases b
   dsimp only at *
   subst h0; subst h1; subst h2; subst h3; subst h4; subst h5; subst h6; subst h7; subst h8; subst h9; subst h10; subst h11; subst h12; subst h13; subst h14
   rfl
 . rintro rfl
   exact ⟨rfl, rfl, rfl, rfl, rfl, rfl, rfl, rfl, rfl, rfl, rfl, rfl, rfl, rfl, rfl, trivial⟩
def eqR (a b : HR) : Prop := (a.vec = true ↔ b.vec = true) /\ a.n = b.n /\ True
theorem ziQ (a b : HR) : eqR a b ↔ a = b := by
 cases a; cases b
 simp only [eqR, HR.mk.injEq, and_true]
 rw [<- Bool.eq_iff_iff]
def ze9 (x old : HI) : Bool := decide ((zdh x (zit old) ((zaf old).map HR.n)).2 = 0 /\ (zdh x (zit old) ((zaf old).map HR.n)).1 = old)
def zbh (es : HM) (code : List HI) (x : HI) (i : Int) : HM × Bool :=
 if i < 0 \/ code.length <= i then (es, false)
 else if ze9 x (nth code i) = false then (es, false)
 else if zdA es (zaf x) (zaf (nth code i)) = false then (es, false)
 else if (zag x).2 = true /\ (zag (nth code i)).2 = true then (zam MPC (ofF (zag x).1) (CT.mk (zag (nth code i)).1 0) (zkC es (zag (nth code i)).1), true)
 else (es, true)
theorem zlp (es : HM) (rs us : List HR) (j : Int) (h : 0 <= j /\ j < rs.length) (h2 : j < us.length) :
 zdA es (rs.drop j.toNat) (us.drop j.toNat) = ((zay MPC (ofF (nth rs j)) es).isSome && decide (eqC (ctG (ofF (nth rs j)) es) (nth us j) 0) && zdA es (rs.drop (j + 1).toNat) (us.drop (j + 1).toNat)) := by
  rw [zaF rs j h, zaF us j ⟨h.1, h2⟩, zdA]
theorem zpV (es : HM) (rs us : List HR) (j : Int) (h : ¬ j < rs.length) : zdA es (rs.drop j.toNat) (us.drop j.toNat) = true := by
 rw [List.drop_eq_nil_of_le (by omega), zdA]
 intros; contradiction
def zbI (es : HM) (left : List PL) (r : HR) : HM := es.filter fun e => decide (e.1 ∈ left \/ e.2.r ≠ r)
def ndk (es : HM) : Prop := (es.map (·.1)).Nodup
theorem zhx {M : zaj} {k : M.κ} : ∀ {l : List M.κ}, k ∈ l -> (zaB M k l).length < l.length
 | j :: l, h => by
   have le : ∀ (l : List M.κ), (zaB M k l).length <= l.length := by
    intro l
    induction l with
    | nil => simp [zaB]
    | cons a l ih => simp only [zaB]; split <;> simp <;> omega
   simp only [zaB]
   split
   . have := le l; simp; omega
   . rename_i hne _
     rcases List.mem_cons.1 h with rfl | h
     . exact absurd rfl hne
     . have := zhx h; simp; omega
theorem zgG {k : PL} : ∀ {es : HM}, ndk es -> za3 MPC k es = es.filter fun e => decide (e.1 ≠ k)
 | [], _ => rfl
 | (j, u) :: r, h => by
   simp only [ndk, List.map_cons, List.nodup_cons] at h
   simp only [za3]
   split
   . rename_i e _
     subst e
     rw [List.filter_cons_of_neg (by simp), List.filter_eq_self.2]
     intro a ha
     simp only [decide_eq_true_eq]
     intro e
     exact h.1 (List.mem_map.2 ⟨a, ha, e⟩)
   . rename_i e _
     rw [List.filter_cons_of_pos (by simpa using e), zgG (es := r) h.2]
theorem zoE (es : HM) (r : HR) : zbI es (es.map Prod.fst) r = es := by
 unfold zbI; rw [List.filter_eq_self]
 intro a ha
 simp only [decide_eq_true_eq]
 exact .inl (List.mem_map.2 ⟨a, ha, rfl⟩)
theorem zjA {es : HM} {left : List PL} {r : HR} {e : PL × CT} : e ∈ zbI es left r ↔ e ∈ es /\ (e.1 ∈ left \/ e.2.r ≠ r) := by
 unfold zbI; rw [List.mem_filter]; simp only [decide_eq_true_eq]
theorem zpX {es : HM} (h : ndk es) {a b : PL × CT} (ha : a ∈ es) (hb : b ∈ es) (e : a.1 = b.1) : a = b := by
 induction es with
 | nil => cases ha
 | cons c es ih =>
   simp only [ndk, List.map_cons, List.nodup_cons] at h
   rcases List.mem_cons.1 ha with h1 | h1 <;> rcases List.mem_cons.1 hb with h2 | h2
   . rw [h1, h2]
   . rw [h1] at e; exact absurd (List.mem_map.2 ⟨b, h2, e.symm⟩) h.1
   . rw [h2] at e; exact absurd (List.mem_map.2 ⟨a, h1, e⟩) h.1
   . exact ih h.2 h1 h2
theorem zqx {es : HM} {left : List PL} {r : HR} {k : PL} {c : CT} (hn : ndk es) (hm : (k, c) ∈ zbI es left r) (hc : c.r ≠ r) : zbI es (zaB MPC k left) r = zbI es left r := by
 have hk := (zjA.1 hm).1
 unfold zbI
 apply List.filter_congr
 intro a ha
 rw [Bool.eq_iff_iff]
 simp only [decide_eq_true_eq]
 rw [show (a.1 ∈ zaB MPC k left ↔ a.1 ∈ left /\ a.1 ≠ k) from zbX]
 constructor
 . rintro (h | h)
   . exact .inl h.1
   . exact .inr h
 . rintro (h | h)
   . by_cases e : a.1 = k
     . have := zpX hn ha hk e
       subst this
       exact .inr hc
     . exact .inl ⟨h, e⟩
   . exact .inr h
theorem zeQ {es : HM} (h : ndk es) (p : PL × CT -> Bool) : ndk (es.filter p) := by
 unfold ndk at *
 exact (List.Sublist.map _ List.filter_sublist).nodup h
theorem zq6 {es : HM} {left : List PL} {r : HR} {k : PL} {c : CT} (hn : ndk es) (hm : (k, c) ∈ zbI es left r) (hc : c.r = r) : za3 MPC k (zbI es left r) = zbI es (zaB MPC k (zaB MPC k left)) r := by
 have hk := (zjA.1 hm).1
 unfold zbI
 rw [zgG (zeQ hn _), List.filter_filter]
 apply List.filter_congr
 intro a ha
 rw [Bool.eq_iff_iff]
 simp only [Bool.and_eq_true, decide_eq_true_eq]
 rw [show (a.1 ∈ zaB MPC k (zaB MPC k left) ↔ a.1 ∈ zaB MPC k left /\ a.1 ≠ k) from zbX, show (a.1 ∈ zaB MPC k left ↔ a.1 ∈ left /\ a.1 ≠ k) from zbX]
 constructor
 . rintro ⟨h1, h2 | h2⟩
   . exact .inl ⟨⟨h2, h1⟩, h1⟩
   . exact .inr h2
 . rintro (⟨⟨h1, h2⟩, _⟩ | h2)
   . exact ⟨h2, .inl h1⟩
   . refine ⟨fun e => ?_, .inr h2⟩
     have := zpX hn ha hk e
     subst this
     exact h2 hc
theorem zsF {es : HM} {left : List PL} {r : HR} (h : ∀ p ∈ zbI es left r, p.1 ∉ left) : zbI es left r = zkC es r := by
 unfold zbI zkC
 apply List.filter_congr
 intro a ha
 rw [Bool.eq_iff_iff]
 simp only [decide_eq_true_eq]
 constructor
 . rintro (h1 | h1)
   . intro e
     exact h a (zjA.2 ⟨ha, .inl h1⟩) h1
   . exact h1
 . exact .inr
theorem ziS {es : HM} {k : PL} {c : CT} (h : ndk es) : ndk (zam MPC k c es) := by
 have key : ∀ (es : HM), (∀ x, x ∈ (zam MPC k c es).map (·.1) ↔ x = k \/ x ∈ es.map (·.1)) := by
  intro es x
  induction es with
  | nil => simp [zam]
  | cons a es ih =>
    obtain ⟨j, u⟩ := a
    simp only [zam]
    split
    . rename_i e _; subst e; simp
    . simp only [List.map_cons, List.mem_cons, ih]
      constructor
      . rintro (h | h | h)
        . exact .inr (.inl h)
        . exact .inl h
        . exact .inr (.inr h)
      . rintro (h | h | h)
        . exact .inr (.inl h)
        . exact .inl h
        . exact .inr (.inr h)
 unfold ndk at *
 induction es with
 | nil => simp [zam]
 | cons a es ih =>
   obtain ⟨j, u⟩ := a
   simp only [List.map_cons, List.nodup_cons] at h
   simp only [zam]
   split
   . rename_i e _; simp only [List.map_cons, List.nodup_cons]; exact h
   . rename_i e _
     simp only [List.map_cons, List.nodup_cons]
     refine ⟨fun hm => ?_, ih h.2⟩
     rcases (key es j).1 hm with hm | hm
     . exact e hm
     . exact h.1 hm
theorem zg1 {es : HM} {k : PL} (h : ndk es) : ndk (za3 MPC k es) := by
 rw [zgG h]; exact zeQ h _
theorem zc1 {k : PL} {c : CT} : ∀ {es : HM}, ndk es -> (k, c) ∈ es -> zay MPC k es = some c
 | (j, u) :: r, h, hm => by
   simp only [ndk, List.map_cons, List.nodup_cons] at h
   rw [zay]
   split
   . rename_i e _
     subst e
     rcases List.mem_cons.1 hm with h1 | h1
     . cases h1; rfl
     . exact absurd (List.mem_map.2 ⟨(j, c), h1, rfl⟩) h.1
   . rename_i e _
     rcases List.mem_cons.1 hm with h1 | h1
     . cases h1; exact absurd rfl e
     . exact zc1 h.2 h1
theorem zkd {k : PL} {c : CT} {es : HM} (h : ndk es) (hm : (k, c) ∈ es) : ctG k es = c := by
 unfold ctG; rw [zak, zc1 h hm]; rfl
end
section
def zId : MC := .seq (.reg [oo 4 (.box (.t 1)),oo 6 (.mv kf)]) (.seq (.seq (.reg [om 25 2,oo 26 (cc .lss 25 0),sm 27 26,mf 27 28 2,mf 27 29 0,gf 27 30 (.nchk (.t 29)),gf 27 31 (fl 2 30),gf 27 32 (ln 31),gf 27 33 (.lenS (.t 32)),gf 27 34 (ct .geq 28 33),oo 35 (pt 27 34)]) (.cond (.t 35) (.seq (.reg [oo 6 (.mv kf)]) (.ret)) (.skip))) (.seq (.reg [om 36 0,oo 37 (.nchk (.t 36)),oo 38 (fl 2 37),oo 39 (ln 38),om 40 2,oo 41 (ia 15 39 40),oo 42 (ls 15 41),oo 7 (.alloc zI),o none (.st (some 15) (.t 7) (.t 42))]) (.seq (.reg [oo 43 (ls 15 7),oo 44 (fc 34 [(.t 43)]),om 8 44,oo 9 (.mv (ki 0))]) (.seq (.reg [oo 46 (ls 15 7),oo 47 (fc 33 [(.t 46)]),om 45 47,oo 48 (ex_ 0 45),oo 49 (ex_ 1 45),oo 10 (.alloc [.ff,(kz 0)]),o none (.st (some 2) (.t 10) (.t 48)),om 11 49]) (.seq (.seq (.reg [om 50 11]) (.cond (.t 50) (.reg [oo 51 (fl 1 10),oo 52 (ln 51),om 9 52]) (.skip))) (.seq (.reg [oo 12 (.mv (.k (.val (.slice none 0 0))))]) (.seq (.seq (.reg [om 53 8,oo 54 (.lenS (.t 53)),oo 55 (.mv (ki 0))]) (.blk 0 (.loop 0 (.seq (.reg [oo 56 (ct .lss 55 54)]) (.seq (.cond (.t 56) (.skip) (.exit 0)) (.seq (.blk 1 (.seq (.reg [oo 57 (ia 2 53 55),oo 58 (ls 2 57),oo 14 (.alloc [.ff,(kz 0)]),o none (.st (some 2) (.t 14) (.t 58))]) (.reg [om 59 12,oo 60 (fl 1 14),oo 61 (ln 60),oo 62 (.bsl 1 1 [(kz 0)] [(0,(.t 61))]),oo 63 (.app 1 8 (.t 59) (.t 62)),om 12 63]))) (.reg [oo 64 (ac .add 55 1),om 55 64]))))))) (.seq (.reg [oo 66 (ls 15 4),om 67 9,om 68 12,oo 69 (fc 38 [(.t 66),(.t 67),(.t 68)]),om 65 69,oo 70 (ex_ 0 65),oo 71 (ex_ 1 65),oo 15 (.alloc zI),o none (.st (some 15) (.t 15) (.t 70)),om 16 71]) (.seq (.seq (.reg [om 72 16,oo 73 (cc .neq 72 0),sm 74 73,gf 74 75 (ls 15 15),gf 74 76 (ls 15 7),gf 74 77 (.eqs [.int .i64,.int .i64,.int .i64,.int .i64,.int .i64,.int .i64,.int .i64,.int .i64,.int .i64,.int .u32,.int .u32,.int .u32,.int .u32,.int .u32,.int .u32] true (.t 75) (.t 76)),oo 78 (pt 74 77)]) (.cond (.t 78) (.seq (.reg [oo 6 (.mv kf)]) (.ret)) (.skip))) (.seq (.seq (.reg [oo 79 (ls 15 4),oo 80 (fc 34 [(.t 79)]),oo 81 (.lenS (.t 80)),oo 82 (.mv (ki 0))]) (.blk 2 (.loop 1 (.seq (.reg [oo 83 (ct .lss 82 81)]) (.seq (.cond (.t 83) (.skip) (.exit 2)) (.seq (.blk 3 (.seq (.reg [om 84 82,oo 85 (ia 2 80 82),oo 86 (ls 2 85),oo 18 (.alloc [.ff,(kz 0)]),om 17 84,o none (.st (some 2) (.t 18) (.t 86))]) (.seq (.drw [om 88 0,oo 89 (.nchk (.t 88)),oo 90 (fl 3 89),oo 91 (ln 90),oo 92 (ls 2 18),oo 93 (fc 151 [(.t 92)]),oo 94 (.lkp true false [.int .i64,.int .i64] false [.bool false,.int .i64 0,.int .i64 0] (.t 91) (.t 93)),om 87 94,oo 95 (ex_ 0 87),oo 96 (ex_ 1 87),oo 19 (.alloc [.ff,(kz 0),(kz 0)]),o none (.st (some 3) (.t 19) (.t 95)),om 20 96] [[],[0],[1],[2],[],[4],[3,5],[6],[7],[7],[],[10,8,5,0,1,2,3,4,5,6,7,8,10],[9,11,0,1,2,3,4,5,6,7,8,9,10,11]]) (.seq (.drw [om 97 20,oo 98 (.not (.t 97)),sm 99 98,gf 99 100 (ls 3 19),mf 99 101 8,mf 99 102 17,gf 99 103 (ia 2 101 102),gf 99 104 (ls 2 103),gf 99 105 (.bld [.ff,(kz 0),(kz 0)] [(0,2,(.t 104))]),gf 99 106 (.eqs [.bool,.int .i64,.int .i64] true (.t 100) (.t 105)),oo 107 (pt 99 106)] [[],[0],[1],[2],[2],[2],[4,5,2],[6,2],[7,2],[3,8,2],[2,9]])
 (.cond (.t 107) (.seq (.reg [oo 6 (.mv kf)]) (.ret)) (.skip)))))) (.reg [oo 108 (ac .add 82 1),om 82 108]))))))) (.seq (.seq (.reg [oo 110 (ls 15 4),oo 111 (fc 33 [(.t 110)]),om 109 111,oo 112 (ex_ 0 109),oo 113 (ex_ 1 109),oo 21 (.alloc [.ff,(kz 0)]),o none (.st (some 2) (.t 21) (.t 112)),om 22 113]) (.seq (.reg [om 114 22,sm 115 114,mt 115 116 11,oo 117 (pf 115 116)]) (.cond (.t 117) (.seq (.seq (.reg [om 118 0,oo 119 (.nchk (.t 118)),oo 120 (fl 3 119),oo 121 (ln 120),oo 122 (.rngm (.t 121))]) (.blk 4 (.loop 2 (.seq (.reg [oo 123 (.nxt (.t 122)),oo 124 (ex_ 0 123)]) (.seq (.cond (.t 124) (.skip) (.exit 4)) (.blk 5 (.seq (.reg [oo 125 (.ent (.t 122)),oo 126 (ex_ 0 125),oo 127 (ex_ 1 125),oo 23 (.alloc [(kz 0),(kz 0)]),oo 24 (.alloc [.ff,(kz 0),(kz 0)]),o none (.st (some 2) (.t 23) (.t 126)),o none (.st (some 3) (.t 24) (.t 127))]) (.seq (.reg [oo 128 (fl 0 24),oo 129 (ls 2 128),oo 130 (ls 2 10),oo 131 (.eqs [.bool,.int .i64] false (.t 129) (.t 130))]) (.cond (.t 131) (.drw [om 132 0,oo 133 (.nchk (.t 132)),oo 134 (fl 3 133),oo 135 (ln 134),oo 136 (ls 2 23),o none (.mdel false [.int .i64,.int .i64] (.t 135) (.t 136))] [[],[0],[1],[2],[],[3,4]]) (.skip)))))))))) (.drw [om 137 0,oo 138 (.nchk (.t 137)),oo 139 (fl 3 138),oo 140 (ln 139),oo 141 (ls 2 21),oo 142 (fc 151 [(.t 141)]),oo 143 (ls 2 10),oo 144 (.bld [.ff,(kz 0),(kz 0)] [(0,2,(.t 143))]),o none (.mup false [.int .i64,.int .i64] (.t 140) (.t 142) (.t 144))] [[],[0],[1],[2],[],[4],[],[6],[3,5,7,5,0,1,2,3,4,5,6,7]])) (.skip)))) (.seq (.reg [oo 6 (.mv kt)]) (.ret)))))))))))))
theorem zF3 : zan Tryz.prog 113 145 zId [.t 6] := fk Tryz.func113 ⟨tv,⟨⟨tv,⟨⟨tv,tv⟩,tv⟩⟩,⟨tv,⟨tv,⟨tv,⟨⟨tv,⟨tv,tv⟩⟩,⟨tv,⟨⟨tv,⟨tv,⟨⟨tv,tv⟩,⟨⟨tv,tv⟩,tv⟩⟩⟩⟩,⟨tv,⟨⟨tv,⟨⟨tv,tv⟩,tv⟩⟩,⟨⟨tv,⟨tv,⟨⟨tv,tv⟩,⟨⟨tv,⟨tv,⟨tv,⟨⟨tv,tv⟩,tv⟩⟩⟩⟩,tv⟩⟩⟩⟩,⟨⟨tv,⟨tv,⟨⟨⟨tv,⟨tv,⟨⟨tv,tv⟩,⟨tv,⟨tv,⟨tv,tv⟩⟩⟩⟩⟩⟩,tv⟩,tv⟩⟩⟩,⟨tv,tv⟩⟩⟩⟩⟩⟩⟩⟩⟩⟩⟩⟩⟩
attribute [local irreducible] Go.Sx.zak Go.Sx.zay ofF zdh
abbrev old (v : VL) (i : Int) : HI := nth v.code i
def npv (r : HR) : List PV := ipv r.n
def zuD (v : VL) (es : HM) (x : HI) (i : Int) (j : Int) : St :=
 ⟨[(55, kz j), (54, kz (zaf (old v i)).length), (53, .slc 4 0 (zaf (old v i)).length), (12, .slc 6 0 j.toNat), (11, .bool (zag (old v i)).2), (10, .ptr 5 0 0), (9, kz (zit (old v i))), (8, .slc 4 0 (zaf (old v i)).length), (7, .ptr 3 0 0), (4, .ptr 2 0 0), (0, .ptr 0 0 0)],
  [(0, some v.row), (1, some (.map MPC es none)), (2, some (.row x.cells)), (3, some (.row (old v i).cells)), (4, some (.vec 2 ((zaf (old v i)).map HR.pv))), (5, some (.row (zag (old v i)).1.cells)), (6, some (.vec 1 (((zaf (old v i)).take j.toNat).map npv)))], 7⟩
def zda (v : VL) (i j : Int) : Prop := 0 <= j /\ j <= (zaf (old v i)).length /\ (zaf (old v i)).length <= 3
def zuK (v : VL) (es : HM) (x : HI) (i : Int) (j : Int) : St :=
 ⟨[(82, kz j), (81, kz (zaf x).length), (80, .slc 5 0 (zaf x).length), (11, .bool (zag (old v i)).2), (10, .ptr 4 0 0), (8, .slc 3 0 (zaf (old v i)).length), (4, .ptr 2 0 0), (0, .ptr 0 0 0)],
  [(0, some v.row), (1, some (.map MPC es none)), (2, some (.row x.cells)), (3, some (.vec 2 ((zaf (old v i)).map HR.pv))), (4, some (.row (zag (old v i)).1.cells)), (5, some (.vec 2 ((zaf x).map HR.pv)))], 6⟩
def zdf (v : VL) (es : HM) (x : HI) (i j : Int) : Prop := 0 <= j /\ j <= (zaf x).length /\ (zaf x).length <= 3 /\ (zaf x).length = (zaf (old v i)).length /\ (0 <= i /\ i < v.code.length) /\ ze9 x (old v i) = true ∧
 zdA es ((zaf x).drop j.toNat) ((zaf (old v i)).drop j.toNat) = zdA es (zaf x) (zaf (old v i))
abbrev znD := List PL × Option PL × HM
def zvb (v : VL) (x : HI) (i : Int) : znD -> St
 | (left, cur, es') => ⟨[(122, .ptr 4 0 0), (21, .ptr 3 0 0), (10, .ptr 2 0 0), (0, .ptr 0 0 0)],
  [(0, some v.row), (1, some (.map MPC es' (some (4, left, cur)))), (2, some (.row (zag (old v i)).1.cells)), (3, some (.row (zag x).1.cells)), (4, some (.itr 1))], 5⟩
def zkx (v : VL) (es : HM) (i : Int) (c : znD) : Prop := c.2.2 = zbI es c.1 (zag (old v i)).1
def zBT (v : VL) (es : HM) (x : HI) (i : Int) : Nat -> zbO
 | 0 => .inv Int (fun _ => zda v i) (zuD v es x i) (fun j => ((zaf (old v i)).length - j).toNat)
 | 1 => .inv Int (fun _ => zdf v es x i) (zuK v es x i) (fun j => ((zaf x).length - j).toNat)
 | _ => .inv znD (fun _ => zkx v es i) (zvb v x i) (fun c => c.1.length)
theorem zIl {v : VL} {es : HM} {i : Int} {Q : znD -> Prop} (h : ∀ left cur es', es' = zbI es left (zag (old v i)).1 -> Q (left, cur, es')) : ∀ c, zkx v es i c -> Q c := fun ⟨left, cur, es'⟩ hI => h _ _ _ hI
theorem znf (us : List HR) (j : Int) (h : 0 <= j) (h2 : ¬ j < us.length) : List.take j.toNat (List.drop 0 (List.map npv (List.take j.toNat us))) = (us.map HR.n).map ipv := by
 rw [List.drop_zero, List.take_of_length_le (by simp; omega), List.take_of_length_le (l := us) (by omega), List.map_map]; rfl
abbrev zlj (v : VL) (x : HI) (i : Int) : HI × Int := zdh x (zit (old v i)) ((zaf (old v i)).map HR.n)
theorem zwj {v x i} (h1 : ¬ ¬ (zlj v x i).2 = 0) (h2 : ¬ ¬ eqH (zlj v x i).1 (old v i)) : ze9 x (old v i) = true := by
 unfold ze9; rw [decide_eq_true_eq]
 exact ⟨Classical.not_not.1 h1, (zoi _ _).1 (Classical.not_not.1 h2)⟩
theorem zn0 {v x i} (h1 : ¬ (zlj v x i).2 = 0) : ze9 x (old v i) = false := by
 unfold ze9; rw [decide_eq_false_iff_not]
 exact fun h => h1 h.1
theorem zn1 {v x i} (h2 : ¬ eqH (zlj v x i).1 (old v i)) : ze9 x (old v i) = false := by
 unfold ze9; rw [decide_eq_false_iff_not]
 exact fun h => h2 ((zoi _ _).2 h.2)
theorem zrV {x : HI} {d : Int} {us : List Int} (h : (zdh x d us).2 = 0) : us.length = (zaf x).length := by
 unfold zdh at h
 split at h
 . cases h
 . split at h
   . cases h
   . rename_i h1; exact Classical.not_not.1 fun h2 => h1 (.inl h2)
theorem zpR {v : VL} {es x i} (h : i < 0 \/ (v.code.length : Int) <= i) : zbh es v.code x i = (es, false) := by unfold zbh; rw [if_pos h]
theorem ziW {v : VL} {es x i} (h : ze9 x (old v i) = false) : zbh es v.code x i = (es, false) := by
 unfold zbh; split
 . rfl
 . rfl
theorem zhr {v : VL} {es x i j} (hI : zdf v es x i j) (hj : j < (zaf x).length) (h : (zay MPC (ofF (nth (zaf x) j)) es).isSome = false \/ ¬ eqC (ctG (ofF (nth (zaf x) j)) es) (nth (zaf (old v i)) j) 0) : zbh es v.code x i = (es, false) := by
 obtain ⟨h1, h2, h3, h4, h5, h6, h7⟩ := hI
 rw [zlp es _ _ j ⟨h1, hj⟩ (by omega)] at h7
 have h8 : zdA es (zaf x) (zaf (old v i)) = false := by
  rw [<- h7]
  rcases h with h | h
  . rw [h]; rfl
  . rw [decide_eq_false h]; simp
 unfold zbh
 rw [if_neg (by omega), if_neg (by rw [h6]; decide), if_pos h8]
theorem zxG {v : VL} {es x i j} (hI : zdf v es x i j) (hj : ¬ j < (zaf x).length) : zbh es v.code x i = if (zag x).2 = true /\ (zag (old v i)).2 = true then (zam MPC (ofF (zag x).1) (CT.mk (zag (old v i)).1 0) (zkC es (zag (old v i)).1), true) else (es, true) := by
 obtain ⟨h1, h2, h3, h4, h5, h6, h7⟩ := hI
 rw [zpV es _ _ j hj] at h7
 unfold zbh
 rw [if_neg (by omega), if_neg (by rw [h6]; decide), if_neg (by rw [<- h7]; decide)]
theorem zl6 {v : VL} {es x i j} (hI : zdf v es x i j) (hj : ¬ j < (zaf x).length) (h : (zag x).2 = false \/ (zag (old v i)).2 = false) : zbh es v.code x i = (es, true) := by
 rw [zxG hI hj, if_neg]
 rintro ⟨a, b⟩
 rcases h with h | h
 . rw [h] at a; cases a
 . rw [h] at b; cases b
theorem zqR {v : VL} {es x i j left es'} (hI : zdf v es x i j) (hj : ¬ j < (zaf x).length) (h1 : (zag x).2 = true) (h2 : (zag (old v i)).2 = true) (he : es' = zbI es left (zag (old v i)).1) (ha : ∀ p ∈ es', p.1 ∉ left) :
 zbh es v.code x i = (zam MPC (ofF (zag x).1) (CT.mk (zag (old v i)).1 0) es', true) := by
  rw [zxG hI hj, if_pos ⟨h1, h2⟩]
  subst he
  rw [zsF ha]
theorem zIG {v : VL} {i j} (hI : zda v i j) (hj : j < (zaf (old v i)).length) : zda v i (j + 1) /\ ((zaf (old v i)).length - (j + 1)).toNat < ((zaf (old v i)).length - j).toNat := by
 obtain ⟨h1, h2, h3⟩ := hI
 exact ⟨⟨by omega, by omega, h3⟩, by omega⟩
theorem b_0 {v : VL} {es x i} (h1 : ¬ i < 0) (h2 : ¬ (v.code.length : Int) <= i) (h3 : ¬ ¬ (zlj v x i).2 = 0) (h4 : ¬ ¬ eqH (zlj v x i).1 (old v i)) : zdf v es x i 0 := by
 have h5 := zrV (Classical.not_not.1 h3)
 rw [List.length_map] at h5
 exact ⟨by omega, by omega, zbA _, h5.symm, by omega, zwj h3 h4, rfl⟩
theorem zJi {v : VL} {es x i j} (hI : zdf v es x i j) (hj : j < (zaf x).length) (h1 : (!(zay MPC (ofF (nth (zaf x) j)) es).isSome) = false) (h2 : ¬ ¬ eqC (ctG (ofF (nth (zaf x) j)) es) (nth (zaf (old v i)) j) 0) :
 zdf v es x i (j + 1) /\ ((zaf x).length - (j + 1)).toNat < ((zaf x).length - j).toNat := by
  obtain ⟨k1, k2, k3, k4, k5, k6, k7⟩ := hI
  rw [zlp es _ _ j ⟨k1, hj⟩ (by omega)] at k7
  rw [nf h1, decide_eq_true (Classical.not_not.1 h2)] at k7
  exact ⟨⟨by omega, by omega, k3, k4, k5, k6, by simpa using k7⟩, by omega⟩
theorem c_0 {v : VL} {es i} : zkx v es i (List.map Prod.fst es, none, es) := (zoE es _).symm
theorem zCZ {v : VL} {es i left es' k c} (hn : ndk es) (he : es' = zbI es left (zag (old v i)).1) (hm : (k, c) ∈ es') (hl : k ∈ left) (h : eqR (ctG k es').r (zag (old v i)).1) :
 zkx v es i (zaB MPC k (zaB MPC k left), none, za3 MPC k es') /\ (zaB MPC k (zaB MPC k left)).length < left.length := by
  subst he
  rw [zkd (es := zbI _ _ _) (zeQ hn _) hm] at h
  refine ⟨zq6 hn hm ((ziQ _ _).1 h), ?_⟩
  have h1 := zhx (M := MPC) hl
  by_cases h2 : k ∈ zaB MPC k left
  . exact absurd rfl (zbX.1 h2).2
  . have h3 : ∀ (l : List PL), (zaB MPC k l).length <= l.length := by
     intro l
     induction l with
     | nil => simp [zaB]
     | cons a l ih => simp only [zaB]; split <;> simp <;> omega
    have := h3 (zaB MPC k left)
    omega
theorem zwm {v : VL} {es i left es' k c} (hn : ndk es) (he : es' = zbI es left (zag (old v i)).1) (hm : (k, c) ∈ es') (hl : k ∈ left) (h : ¬ eqR (ctG k es').r (zag (old v i)).1) :
 zkx v es i (zaB MPC k left, some k, es') /\ (zaB MPC k left).length < left.length := by
  subst he
  rw [zkd (es := zbI _ _ _) (zeQ hn _) hm] at h
  exact ⟨(zqx hn hm (fun e => h ((ziQ _ _).2 e))).symm, zhx (M := MPC) hl⟩
theorem zJG {x : HI} (h : (zag x).2 = true) : zit x = (zag x).1.n := by unfold zit; rw [if_pos h]
theorem zEn {x : HI} (h : (zag x).2 = false) : zit x = 0 := by unfold zit; rw [if_neg (by rw [h]; decide)]
theorem zvG (x : HI) : zdw x.cells := ⟨trivial, trivial, trivial, trivial, trivial, trivial, trivial, trivial, trivial, trivial, trivial, trivial, trivial, trivial, trivial, trivial⟩
theorem ztH {v : VL} {i j} (h : zda v i j) : 0 = 0 /\ j.toNat = (List.map npv (List.take j.toNat (zaf (old v i)))).length := by
 obtain ⟨h1, h2, h3⟩ := h
 refine ⟨rfl, ?_⟩
 rw [List.length_map, List.length_take]; omega
theorem zC3 {v : VL} {i j} {X : List (List SV)} (h : zda v i j) (hX : X.length = 1) : (zai.len (Sum.inr (List.map npv (List.take j.toNat (zaf (old v i))))) + zai.len (Sum.inl X)) * 8 <= 2 ^ 46 := by
 obtain ⟨h1, h2, h3⟩ := h
 simp only [zai.len, List.length_map, List.length_take, hX]; omega
theorem zCY {v : VL} {i j} {X : List (List SV)} (h : zda v i j) (hj : j < (zaf (old v i)).length) (hX : X.length = 1) : 0 = 0 /\ (j + 1).toNat = zai.len (Sum.inr (List.map npv (List.take j.toNat (zaf (old v i))))) + zai.len (Sum.inl X) := by
 obtain ⟨h1, h2, h3⟩ := h
 simp only [zai.len, List.length_map, List.length_take, hX, true_and]; omega
theorem zDt {v : VL} {i j} (h : zda v i j) (hj : j < (zaf (old v i)).length) : 1 = 1 /\ List.map npv (List.take (j + 1).toNat (zaf (old v i))) = List.map npv (List.take j.toNat (zaf (old v i))) ++ [[PV.int IntKind.i64 (nth (zaf (old v i)) j).n]] := by
 refine ⟨rfl, ?_⟩
 rw [zdL _ j ⟨h.1, hj⟩, List.map_append]; rfl
theorem zDL {v : VL} {i j} (h : zda v i j) (hj : ¬ j < (zaf (old v i)).length) : PV.sl 1 (List.map ipv (List.map HR.n (zaf (old v i)))) = PV.sl 1 (List.take j.toNat (List.drop 0 (List.map npv (List.take j.toNat (zaf (old v i)))))) /\ 0 + j.toNat <= (List.map npv (List.take j.toNat (zaf (old v i)))).length := by
 refine ⟨by rw [znf _ _ h.1 hj], ?_⟩
 rw [(ztH h).2.symm]; omega
attribute [local irreducible] zaf zag zb2 ze9 zbh zkC zbI zdA
noncomputable def zAC (v : VL) (es : HM) (x : HI) (i : Int) : zaa := ⟨[.ptr 0 0 0, .agg x.cells, kz i], [v.row, .map MPC es none], [some v.row, some (.map MPC (zbh es v.code x i).1 none)], [], .bool (zbh es v.code x i).2⟩
set_option maxHeartbeats 4000000 in
theorem zFr (v : VL) (es : HM) (x : HI) (i : Int) (hn : ndk es) : zaa.ok Tryz.prog GG 113 (zAC v es x i) := by
 refine zac mix zF3 _ rfl rfl (Tab.ok (l := [(34, S34), (33, S33), (38, S38), (151, zrs)]) ⟨t34, t33, t38, zHE, trivial⟩) (zBT v es x i) noJ ?_
 repeat' ((conv => whnf); first
  | exact trivial
  | with_reducible first | refine aj ?_ | refine ai rfl ?_ | refine ai ⟨rfl, rfl⟩ ?_
  | ((with_reducible refine ai ?_ ?_); focus exact w3)
  | with_reducible first | refine zIl ?_ | apply exW (γ := znD) (c := (_, _, _)) | apply exW (γ := Int) (c := _) | refine exI (i64_in (by simp only [zda, zdf, List.length_map] at *; omega) (by simp only [zda, zdf, List.length_map] at *; omega)) ?_
  | refine exI (x := ULift.up _) (za8 _ _ _ (by simp only [zda, zdf, List.length_map] at *; omega)) ?_
  | refine exI (x := ULift.up _) ⟨rfl, (by simp only [zda, zdf, List.length_map] at *; omega), zbc _ _ _ (by simp only [zda, zdf, List.length_map] at *; omega)⟩ ?_
  | refine exI (x := ULift.up (List.map HR.n (zaf _))) (znf _ _ (by simp only [zda, zdf, List.length_map] at *; omega) (by with_reducible assumption)) ?_
  | with_reducible refine And.intro (Sd.mk (p := (_ : Int) <= _ /\ _) (by simp only [zda, zdf, List.length_map] at *; omega)) ?_
  | refine And.intro (Sd.mk (p := zaj.one MPC = _ /\ _) ⟨rfl, rfl⟩) ?_
  | refine And.intro (Sd.mk (p := zaj.vone MPC = _ /\ _) ⟨rfl, rfl⟩) ?_
  | apply exI (x := ULift.up (PL.mk _ _)) trivial
  | apply exI (x := ULift.up (CT.mk (HR.mk _ _) _)) trivial
  | with_reducible first | refine And.intro ?_ ?_ | refine zae ?_ | refine exI (i64_in (by omega) (by omega)) ?_
  | refine exI (x := ULift.up _) (Eq.refl _) ?_
  | refine exI (x := ULift.up _) ⟨rfl, by omega, Eq.refl _⟩ ?_
  | exact nx
  | ((with_reducible intro h); try dsimp only at h))
 all_goals (refine Sd.mk ?_)
 all_goals try first
  | exact ztH ‹_›
  | exact zC3 ‹_› rfl
  | exact zCY ‹_› ‹_› rfl
  | exact zDt ‹_› ‹_›
  | exact zDL ‹_› ‹_›
  | exact ⟨⟨zvG _, trivial, trivial⟩, trivial, trivial⟩
 all_goals (try simp only [HI.eta, HR.eta, PL.eta, List.length_map] at *)
 all_goals first
  | exact zJG ‹_›
  | exact zEn ‹_›
  | exact ⟨by omega, by omega, zbA _⟩
  | exact zIG ‹_› ‹_›
  | exact ⟨⟨by decide, trivial, trivial⟩, trivial, trivial⟩
  | exact b_0 ‹_› ‹_› ‹_› ‹_›
  | exact zJi ‹_› ‹_› ‹_› ‹_›
  | exact c_0
  | exact zCZ hn ‹_› ‹_› ‹_› ‹_›
  | exact zwm hn ‹_› ‹_› ‹_› ‹_›
  | exact i2 (zpR (.inl ‹_›))
  | exact i2 (zpR (.inr ‹_›))
  | exact i2 (ziW (zn0 ‹_›))
  | exact i2 (ziW (zn1 ‹_›))
  | exact i2 (zhr ‹_› ‹_› (.inl (nt ‹_›)))
  | exact i2 (zhr ‹_› ‹_› (.inr ‹_›))
  | exact i2 (zl6 ‹_› ‹_› (.inl ‹_›))
  | exact i2 (zl6 ‹_› ‹_› (.inr ‹_›))
  | exact i2 (zqR ‹_› ‹_› ‹_› ‹_› ‹_› ‹_›)
  | exact mpe (i1 (zpR (.inl ‹_›)))
  | exact mpe (i1 (zpR (.inr ‹_›)))
  | exact mpe (i1 (ziW (zn0 ‹_›)))
  | exact mpe (i1 (ziW (zn1 ‹_›)))
  | exact mpe (i1 (zhr ‹_› ‹_› (.inl (nt ‹_›))))
  | exact mpe (i1 (zhr ‹_› ‹_› (.inr ‹_›)))
  | exact mpe (i1 (zl6 ‹_› ‹_› (.inl ‹_›)))
  | exact mpe (i1 (zl6 ‹_› ‹_› (.inr ‹_›)))
  | exact mpe (i1 (zqR ‹_› ‹_› ‹_› ‹_› ‹_› ‹_›))
noncomputable def zoO : SFn
 | [.ptr p _ _, a1, .int .i64 i], k => zgr p fun v es => zdp a1 fun x => .req (ndk es) (k (zAC v es x i))
 | _, _ => .fail
theorem zyp : FnS Tryz.prog GG 113 zoO := by
 intro args k gt go R v os n h
 unfold zoO at h
 split at h
 . obtain ⟨v, es, _, h⟩ := zeo h
   obtain ⟨x, _, h⟩ := zbt h
   obtain ⟨hp, _, h⟩ := zar h
   exact ⟨_, _, zFr v es x _ hp, h⟩
 . cases h
end
section
theorem zpv (n : Int) (h1 : 42 <= n) (h2 : n <= 45) : (zbd n).1.rule = 18 \/ (zbd n).1.rule = 19 := by
 have : n = 42 \/ n = 43 \/ n = 44 \/ n = 45 := by omega
 rcases this with rfl | rfl | rfl | rfl <;> decide
theorem zmx {x : HI} (h : zbJ x = 0) : 42 <= x.op -> x.op <= 45 -> 0 <= x.k /\ x.k <= 1000 := by
 intro h1 h2
 have hv : zb2 x = true := by
  unfold zbJ at h
  split at h
  . next h3 => exact h3.1
  . cases h
 have ho : zgV (zbd x.op).1.rule x = true := by
  unfold zb2 at hv
  simp only [Bool.and_eq_true] at hv
  exact hv.2
 rcases zpv x.op h1 h2 with e | e
 . rw [e] at ho
   simp [zgV, zbx] at ho
   omega
 . rw [e] at ho
   simp [zgV, zbx] at ho
   omega
def zbY (code : List HI) (w vv : Int) (es : HM) (x : HI) (f : Int) : HM × Bool :=
 if zbJ x = 0 /\ zb7 x w vv = true then (if f = -1 then zce es x else zbh es code x f) else (es, false)
def zb4 (code : List HI) (w vv : Int) : List HI -> List Int -> HM -> Int -> Int ⊕ HM
 | x :: L, f :: F, es, k => if (zbY code w vv es x f).2 = true then zb4 code w vv L F (zbY code w vv es x f).1 (k + 1) else .inl k
 | _, _, es, _ => .inr es
theorem e_1 {code w vv es x f} (h : ¬ zbJ x = 0) : zbY code w vv es x f = (es, false) := by
 unfold zbY; rw [if_neg (fun e => h e.1)]
theorem e_2 {code w vv es x f} (h : zb7 x w vv = false) : zbY code w vv es x f = (es, false) := by
 unfold zbY; rw [if_neg (fun e => by rw [h] at e; cases e.2)]
theorem e_3 {code w vv es x f} (h : zbJ x = 0) (h2 : zb7 x w vv = true) (h3 : f = -1) : zbY code w vv es x f = zce es x := by
 unfold zbY; rw [if_pos ⟨h, h2⟩, if_pos h3]
theorem e_4 {code w vv es x f} (h : zbJ x = 0) (h2 : zb7 x w vv = true) (h3 : ¬ f = -1) : zbY code w vv es x f = zbh es code x f := by
 unfold zbY; rw [if_pos ⟨h, h2⟩, if_neg h3]
theorem zhh {es : HM} {t f : PL} (h : ndk es) : ndk (zcA es t f) := by
 unfold zcA; split
 . exact zg1 h
 . exact ziS h
theorem ze8 {es : HM} {x y b k} (h : ndk es) : ndk (zet x y b es k) := by
 unfold zet; split
 . exact ziS (zg1 h)
 . exact zg1 h
theorem zvK {es : HM} {x : HI} (h : ndk es) : ndk (zce es x).1 := by
 unfold zce
 split
 . exact zhh h
 . split
   . exact zhh h
   . split
     . exact zhh h
     . split
       . exact zhh h
       . split
         . exact ze8 (ze8 (ze8 (ze8 h)))
         . split
           . show ndk (zdN es x)
             unfold zdN; split
             . exact ziS (zg1 h)
             . exact zg1 h
           . exact h
theorem zpy {es : HM} {code x i} (h : ndk es) : ndk (zbh es code x i).1 := by
 unfold zbh
 split
 . exact h
 . split
   . exact h
   . split
     . exact h
     . split
       . exact ziS (zeQ h _)
       . exact h
theorem ztg {code w vv es x f} (h : ndk es) : ndk (zbY code w vv es x f).1 := by
 unfold zbY
 split
 . split
   . exact zvK h
   . exact zpy h
 . exact h
abbrev C64 := Int × HM
def I64 (v : VL) (w vv : Int) (T : Int ⊕ HM) (c : C64) : Prop := 0 <= c.1 /\ c.1 <= v.L.length /\ c.1 <= v.fr.length /\ v.L.length <= 1000000 /\ ndk c.2 /\ zb4 v.code w vv (v.L.drop c.1.toNat) (v.fr.drop c.1.toNat) c.2 c.1 = T
theorem zol {v : VL} {w vv T k es} (hI : I64 v w vv T (k, es)) (h : k < min (v.L.length : Int) v.fr.length) :
 (if (zbY v.code w vv es (nth v.L k) (nth v.fr k)).2 = true then zb4 v.code w vv (v.L.drop (k + 1).toNat) (v.fr.drop (k + 1).toNat) (zbY v.code w vv es (nth v.L k) (nth v.fr k)).1 (k + 1) else .inl k) = T := by
  obtain ⟨h1, h2, h3, h4, h5, h6⟩ := hI
  dsimp only at *
  rw [zaF v.L k ⟨h1, by omega⟩, zaF v.fr k ⟨h1, by omega⟩, zb4] at h6
  exact h6
theorem zew {v : VL} {w vv T k es a} (hI : I64 v w vv T (k, es)) (h : k < min (v.L.length : Int) v.fr.length) (e : zbY v.code w vv es (nth v.L k) (nth v.fr k) = (a, false)) : T = .inl k := by
 have := zol hI h
 rw [e] at this
 exact this.symm
theorem zkp {v : VL} {w vv T k es es'} (hI : I64 v w vv T (k, es)) (h : k < min (v.L.length : Int) v.fr.length) (e2 : (zbY v.code w vv es (nth v.L k) (nth v.fr k)).2 = true) (e1 : (zbY v.code w vv es (nth v.L k) (nth v.fr k)).1 = es') :
 I64 v w vv T (k + 1, es') /\ (min (v.L.length : Int) v.fr.length - (k + 1)).toNat < (min (v.L.length : Int) v.fr.length - k).toNat := by
  have h8 := zol hI h
  obtain ⟨h1, h2, h3, h4, h5, h6⟩ := hI
  dsimp only at *
  rw [if_pos e2, e1] at h8
  refine ⟨⟨by dsimp only; omega, by dsimp only; omega, by dsimp only; omega, h4, ?_, h8⟩, by omega⟩
  rw [<- e1]; exact ztg h5
theorem znh {v : VL} {w vv T k es} (hI : I64 v w vv T (k, es)) (h : ¬ k < min (v.L.length : Int) v.fr.length) : T = .inr es := by
 obtain ⟨h1, h2, h3, h4, h5, h6⟩ := hI
 dsimp only at *
 rw [<- h6]
 rcases Int.lt_or_le k v.L.length with h7 | h7
 . have : v.fr.drop k.toNat = [] := List.drop_eq_nil_of_le (by omega)
   rw [this]; cases v.L.drop k.toNat <;> rfl
 . have : v.L.drop k.toNat = [] := List.drop_eq_nil_of_le (by omega)
   rw [this]; rfl
def zeB : List Int -> Int -> Option Int
 | [], n => some n
 | f :: F, n => if f = -1 then zeB F n else if f = n then zeB F (n + 1) else none
def zcF (v : VL) : Bool := match zeB v.fr 0 with
 | none => false
 | some n => decide (v.L.length = v.fr.length /\ n = v.code.length /\ 0 < v.fr.length /\ nth v.fr (v.fr.length - 1) ≠ -1)
abbrev C65 := Int × Int
def I65 (v : VL) (c : C65) : Prop := 0 <= c.1 /\ c.1 <= v.fr.length /\ v.fr.length <= 1000000 /\ 0 <= c.2 /\ c.2 <= c.1 /\ zeB (v.fr.drop c.1.toNat) c.2 = zeB v.fr 0
theorem zu6 {v : VL} {i n} (hI : I65 v (i, n)) (h : i < v.fr.length) (e : nth v.fr i = -1) : I65 v (i + 1, n) /\ (v.fr.length - (i + 1)).toNat < (v.fr.length - i).toNat := by
 obtain ⟨h1, h2, h3, h4, h5, h6⟩ := hI
 dsimp only at *
 rw [zaF v.fr i ⟨h1, h⟩, zeB, if_pos e] at h6
 exact ⟨⟨by dsimp only; omega, by dsimp only; omega, h3, h4, by dsimp only; omega, h6⟩, by omega⟩
theorem zvu {v : VL} {i n} (hI : I65 v (i, n)) (h : i < v.fr.length) (e : ¬ nth v.fr i = -1) (e2 : ¬ ¬ nth v.fr i = n) : I65 v (i + 1, n + 1) /\ (v.fr.length - (i + 1)).toNat < (v.fr.length - i).toNat := by
 obtain ⟨h1, h2, h3, h4, h5, h6⟩ := hI
 dsimp only at *
 rw [zaF v.fr i ⟨h1, h⟩, zeB, if_neg e, if_pos (Classical.not_not.1 e2)] at h6
 exact ⟨⟨by dsimp only; omega, by dsimp only; omega, h3, by dsimp only; omega, by dsimp only; omega, h6⟩, by omega⟩
theorem zwe {v : VL} {i n} (hI : I65 v (i, n)) (h : i < v.fr.length) (e : ¬ nth v.fr i = -1) (e2 : ¬ nth v.fr i = n) : zcF v = false := by
 obtain ⟨h1, h2, h3, h4, h5, h6⟩ := hI
 dsimp only at *
 rw [zaF v.fr i ⟨h1, h⟩, zeB, if_neg e, if_neg e2] at h6
 unfold zcF; rw [<- h6]
theorem zvd {v : VL} {i n} (hI : I65 v (i, n)) (h : ¬ i < v.fr.length) : zcF v = decide (v.L.length = v.fr.length /\ n = v.code.length /\ 0 < v.fr.length /\ nth v.fr (v.fr.length - 1) ≠ -1) := by
 obtain ⟨h1, h2, h3, h4, h5, h6⟩ := hI
 dsimp only at *
 rw [List.drop_eq_nil_of_le (by omega), zeB] at h6
 unfold zcF; rw [<- h6]
end
section
def c64 : MC := .seq (.drw [om 9 0,oo 10 (.nchk (.t 9)),oo 11 (fl 0 10),oo 12 (fl 0 11),oo 13 (ln 12),oo 14 (.lenS (.t 13)),om 15 0,oo 16 (.nchk (.t 15)),oo 17 (fl 0 16),oo 18 (fl 1 17),oo 19 (ln 18),oo 20 (.lenS (.t 19)),oo 21 (.mm false (.t 14) [(.t 20)]),oo 22 (.mv (ki 0))] [[],[0],[1],[2],[3],[4],[],[6],[7],[8],[9],[10],[5,11],[]]) (.blk 0 (.loop 0 (.seq (.reg [oo 23 (ct .lss 22 21)]) (.seq (.cond (.t 23) (.skip) (.exit 0)) (.seq (.blk 1 (.seq (.reg [om 24 22,om 6 24]) (.seq (.reg [om 25 0,oo 26 (.nchk (.t 25)),oo 27 (fl 0 26),oo 28 (fl 0 27),oo 29 (ln 28),om 30 6,oo 31 (ia 15 29 30),oo 32 (ls 15 31),oo 7 (.alloc zI),o none (.st (some 15) (.t 7) (.t 32))]) (.seq (.reg [oo 33 (ls 15 7),oo 34 (fc 37 [(.t 33)]),oo 35 (cc .eql 34 0),sm 36 35,gt_ 36 37 (ls 15 7),mt 36 38 1,mt 36 39 2,gt_ 36 40 (fc 111 [(.t 37),(.t 38),(.t 39)]),oo 41 (pf 36 40),om 8 41]) (.seq (.seq (.reg [om 42 8,sm 43 42,mt 43 44 0,gt_ 43 45 (.nchk (.t 44)),gt_ 43 46 (fl 0 45),gt_ 43 47 (fl 1 46),gt_ 43 48 (ln 47),mt 43 49 6,gt_ 43 50 (ia 1 48 49),gt_ 43 51 (ln 50),gt_ 43 52 (.cmp .eql (.t 51) (ki (-1))),oo 53 (pf 43 52)]) (.cond (.t 53) (.reg [om 54 0,oo 55 (ls 15 7),oo 56 (fc 112 [(.t 54),(.t 55)]),om 8 56]) (.seq (.reg [om 57 8]) (.cond (.t 57) (.drw [om 58 0,oo 59 (ls 15 7),om 60 0,oo 61 (.nchk (.t 60)),oo 62 (fl 0 61),oo 63 (fl 1 62),oo 64 (ln 63),om 65 6,oo 66 (ia 1 64 65),oo 67 (ln 66),oo 68 (fc 113 [(.t 58),(.t 59),(.t 67)]),om 8 68] [[],[],[],[2],[3],[4],[5],[],[6,7],[8],[0,1,9],[10,10,0,1,2,3,4,5,6,7,8,9,10]]) (.skip))))) (.seq (.reg [om 69 8,oo 70 (.not (.t 69))]) (.cond (.t 70) (.reg [om 71 6,oo 72 (.bld [(kz 0)] [(0,1,(.t 71))]),oo 73 (.mki 109 (.t 72)),o none (.pnc (.t 73))]) (.skip)))))))) (.reg [oo 74 (ac .add 22 1),om 22 74]))))))
theorem k64 : zan Tryz.prog 64 75 c64 [] := fk Tryz.func64 ⟨tv,⟨tv,⟨⟨tv,tv⟩,⟨⟨tv,⟨tv,⟨tv,⟨⟨tv,⟨tv,⟨tv,⟨tv,tv⟩⟩⟩⟩,⟨tv,⟨tv,tv⟩⟩⟩⟩⟩⟩,tv⟩⟩⟩⟩
def c65 : MC := .seq (.reg [oo 2 (.mv kf)]) (.seq (.reg [oo 3 (.mv (ki 0))]) (.seq (.seq (.reg [om 7 0,oo 8 (.nchk (.t 7)),oo 9 (fl 0 8),oo 10 (fl 1 9),oo 11 (ln 10),oo 12 (.lenS (.t 11)),oo 13 (.mv (ki 0))]) (.blk 0 (.loop 0 (.seq (.reg [oo 14 (ct .lss 13 12)]) (.seq (.cond (.t 14) (.skip) (.exit 0)) (.seq (.blk 1 (.seq (.reg [oo 15 (ia 1 11 13),oo 16 (ln 15),om 5 16]) (.seq (.seq (.reg [om 17 5,oo 18 (.cmp .eql (.t 17) (ki (-1)))]) (.cond (.t 18) (.exit 1) (.skip))) (.seq (.seq (.reg [om 19 5,om 20 3,oo 21 (ct .neq 19 20)]) (.cond (.t 21) (.seq (.reg [oo 2 (.mv kf)]) (.ret)) (.skip))) (.reg [om 22 3,oo 23 (ac .add 22 1),om 3 23]))))) (.reg [oo 24 (ac .add 13 1),om 13 24]))))))) (.seq (.reg [om 25 0,oo 26 (.nchk (.t 25)),oo 27 (fl 0 26),oo 28 (fl 1 27),oo 29 (ln 28),oo 30 (.lenS (.t 29)),om 6 30]) (.seq (.reg [om 31 0,oo 32 (.nchk (.t 31)),oo 33 (fl 0 32),oo 34 (fl 0 33),oo 35 (ln 34),oo 36 (.lenS (.t 35)),om 37 6,oo 38 (ct .eql 36 37),sm 39 38,mt 39 40 3,mt 39 41 0,gt_ 39 42 (.nchk (.t 41)),gt_ 39 43 (fl 2 42),gt_ 39 44 (ln 43),gt_ 39 45 (.lenS (.t 44)),gt_ 39 46 (ct .eql 40 45),oo 47 (pf 39 46),sm 48 47,mt 48 49 6,gt_ 48 50 (cc .gtr 49 0),oo 51 (pf 48 50),sm 52 51,mt 52 53 0,gt_ 52 54 (.nchk (.t 53)),gt_ 52 55 (fl 0 54),gt_ 52 56 (fl 1 55),gt_ 52 57 (ln 56),mt 52 58 6,gt_ 52 59 (ac .sub 58 1),gt_ 52 60 (ia 1 57 59),gt_ 52 61 (ln 60),gt_ 52 62 (.cmp .neq (.t 61) (ki (-1))),oo 63 (pf 52 62),om 2 63]) (.ret)))))
theorem k65 : zan Tryz.prog 65 64 c65 [.t 2] := fk Tryz.func65 ⟨tv,⟨tv,⟨⟨tv,⟨tv,⟨⟨tv,tv⟩,⟨⟨tv,⟨⟨tv,⟨tv,tv⟩⟩,⟨⟨tv,⟨⟨tv,tv⟩,tv⟩⟩,tv⟩⟩⟩,tv⟩⟩⟩⟩,⟨tv,⟨tv,tv⟩⟩⟩⟩⟩
attribute [local irreducible] Go.Sx.zak Go.Sx.zay zaf zag zb2 zdh zce zbh zbJ zb7 zb4 zcF zeB
def zt6 (v : VL) (w vv : Int) : C64 -> St
 | (k, es) => ⟨[(22, kz k), (21, kz (min (v.L.length : Int) v.fr.length)), (2, kz vv), (1, kz w), (0, .ptr 0 0 0)], [(0, some v.row), (1, some (.map MPC es none))], 2⟩
def zBj (v : VL) (es : HM) : C65 -> St
 | (i, n) => ⟨[(13, kz i), (12, kz v.fr.length), (11, inS v.fr), (3, kz n), (0, .ptr 0 0 0)], [(0, some v.row), (1, some (.map MPC es none))], 2⟩
theorem ztZ {v w vv T} {Q : C64 -> Prop} (h : ∀ k es, I64 v w vv T (k, es) -> Q (k, es)) : ∀ c, I64 v w vv T c -> Q c := fun ⟨k, es⟩ hI => h k es hI
theorem zCp {v} {Q : C65 -> Prop} (h : ∀ i n, I65 v (i, n) -> Q (i, n)) : ∀ c, I65 v c -> Q c := fun ⟨i, n⟩ hI => h i n hI
theorem zkt {T : Int ⊕ HM} {a : HM} {k : Int} (h : T = .inr a) (h2 : T = .inl k) : False := by rw [h] at h2; cases h2
theorem zzZ {code w vv es x f} (h : zbJ x = 0) (h2 : zb7 x w vv = true) (h3 : f = -1) (hb : (!(zce es x).2) = true) : zbY code w vv es x f = ((zce es x).1, false) := by
 rw [e_3 h h2 h3]; exact Prod.ext rfl (nt hb)
theorem zAS {code w vv es x f} (h : zbJ x = 0) (h2 : zb7 x w vv = true) (h3 : ¬ f = -1) (hb : (!(zbh es code x f).2) = true) : zbY code w vv es x f = ((zbh es code x f).1, false) := by
 rw [e_4 h h2 h3]; exact Prod.ext rfl (nt hb)
theorem zzr {code w vv es x f} (h : zbJ x = 0) (h2 : zb7 x w vv = true) (h3 : f = -1) (hb : (!(zce es x).2) = false) : (zbY code w vv es x f).2 = true := by
 rw [e_3 h h2 h3]; exact nf hb
theorem zAA {code w vv es x f} (h : zbJ x = 0) (h2 : zb7 x w vv = true) (h3 : ¬ f = -1) (hb : (!(zbh es code x f).2) = false) : (zbY code w vv es x f).2 = true := by
 rw [e_4 h h2 h3]; exact nf hb
theorem zzP {T : Int ⊕ HM} {a b : HM} (h : T = .inr a) (h2 : T = .inr b) : MPS a = MPS b := by rw [h] at h2; cases h2; rfl
theorem zjZ {T : Int ⊕ HM} {a b : Int} (h : T = .inl a) (h2 : T = .inl b) : [kz a] = [kz b] := by rw [h] at h2; cases h2; rfl
noncomputable def L64 (v : VL) (es : HM) (w : Int) (vv : Int) (es1 : HM) : zaa := ⟨[.ptr 0 0 0, kz w, kz vv], [v.row, .map MPC es none], [some v.row, some (.map MPC es1 none)], [], .tup []⟩
set_option maxHeartbeats 4000000 in
theorem s64 (v : VL) (es : HM) (w : Int) (vv : Int) (es1 : HM) (hn : ndk es) (hl : v.L.length <= 1000000) (hT : zb4 v.code w vv v.L v.fr es 0 = .inr es1) : zaa.ok Tryz.prog GG 64 (L64 v es w vv es1) := by
 refine zac mix k64 _ rfl rfl (Tab.ok (l := [(37, S37), (111, zpB), (112, zpg), (113, zoO)]) ⟨t37, zzO, zAF, zyp, trivial⟩) (fun _ => .inv C64 (fun _ => I64 v w vv (zb4 v.code w vv v.L v.fr es 0)) (zt6 v w vv) (fun c => (min (v.L.length : Int) v.fr.length - c.1).toNat)) noJ ?_
 repeat' ((conv => whnf); first
  | exact trivial
  | with_reducible first | refine aj ?_ | refine ai rfl ?_ | refine ai ⟨rfl, rfl⟩ ?_
  | ((with_reducible refine ai ?_ ?_); focus exact w3)
  | with_reducible first | refine ztZ ?_ | apply exW (γ := C64) (c := (_, _)) | refine exI (i64_in (by simp only [I64, I65, List.length_map] at *; omega) (by simp only [I64, I65, List.length_map] at *; omega)) ?_
  | refine exI (x := ULift.up _) ⟨rfl, (by simp only [I64, I65, List.length_map] at *; omega), zbc _ _ _ (by simp only [I64, I65, List.length_map] at *; omega)⟩ ?_
  | with_reducible first | refine And.intro (Sd.mk (p := ndk _) (by simp only [I64] at *; simp_all)) ?_ | refine And.intro (Sd.mk (p := (42 : Int) <= _ -> _) (zmx (by with_reducible assumption))) ?_ | refine And.intro ?_ ?_ | refine zae ?_ | refine exI (i64_in (by omega) (by omega)) ?_
  | refine exI (x := ULift.up _) (Eq.refl _) ?_
  | refine exI (x := ULift.up _) ⟨rfl, by omega, Eq.refl _⟩ ?_
  | exact nx
  | ((with_reducible intro h); try dsimp only at h))
 all_goals (try (refine Sd.mk ?_)); all_goals (try simp only [HI.eta, HR.eta, List.length_map] at *)
 all_goals first
  | exact zkt hT (zew ‹_› ‹_› (e_1 ‹_›))
  | exact zkt hT (zew ‹_› ‹_› (e_2 ‹_›))
  | exact zkt hT (zew ‹_› ‹_› (zzZ ‹_› ‹_› ‹_› ‹_›))
  | exact zkt hT (zew ‹_› ‹_› (zAS ‹_› ‹_› ‹_› ‹_›))
  | exact zzP hT (znh ‹_› ‹_›)
  | exact zkp ‹_› ‹_› (zzr ‹_› ‹_› ‹_› ‹_›) (congrArg Prod.fst (e_3 ‹_› ‹_› ‹_›))
  | exact zkp ‹_› ‹_› (zAA ‹_› ‹_› ‹_› ‹_›) (congrArg Prod.fst (e_4 ‹_› ‹_› ‹_›))
  | exact ⟨by dsimp only; omega, by dsimp only; omega, by dsimp only; omega, hl, hn, rfl⟩
noncomputable def zzL (v : VL) (es : HM) (w : Int) (vv : Int) (k1 : Int) : zaa := ⟨[.ptr 0 0 0, kz w, kz vv], [v.row, .map MPC es none], [none, none], [], .ifc 109 (.agg [kz k1])⟩
set_option maxHeartbeats 4000000 in
theorem zKr (v : VL) (es : HM) (w : Int) (vv : Int) (k1 : Int) (hn : ndk es) (hl : v.L.length <= 1000000) (hT : zb4 v.code w vv v.L v.fr es 0 = .inl k1) : zaa.okE panicked Tryz.prog GG 64 (zzL v es w vv k1) := by
 refine zv7 mix k64 _ rfl rfl (Tab.ok (l := [(37, S37), (111, zpB), (112, zpg), (113, zoO)]) ⟨t37, zzO, zAF, zyp, trivial⟩) (fun _ => .inv C64 (fun _ => I64 v w vv (zb4 v.code w vv v.L v.fr es 0)) (zt6 v w vv) (fun c => (min (v.L.length : Int) v.fr.length - c.1).toNat)) noJ ?_
 repeat' ((conv => whnf); first
  | exact trivial
  | with_reducible first | refine aj ?_ | refine ai rfl ?_ | refine ai ⟨rfl, rfl⟩ ?_
  | ((with_reducible refine ai ?_ ?_); focus exact w3)
  | with_reducible first | refine ztZ ?_ | apply exW (γ := C64) (c := (_, _)) | refine exI (i64_in (by simp only [I64, I65, List.length_map] at *; omega) (by simp only [I64, I65, List.length_map] at *; omega)) ?_
  | refine exI (x := ULift.up _) ⟨rfl, (by simp only [I64, I65, List.length_map] at *; omega), zbc _ _ _ (by simp only [I64, I65, List.length_map] at *; omega)⟩ ?_
  | with_reducible first | refine And.intro (Sd.mk (p := ndk _) (by simp only [I64] at *; simp_all)) ?_ | refine And.intro (Sd.mk (p := (42 : Int) <= _ -> _) (zmx (by with_reducible assumption))) ?_ | refine And.intro ?_ ?_ | refine zae ?_ | refine exI (i64_in (by omega) (by omega)) ?_
  | refine exI (x := ULift.up _) (Eq.refl _) ?_
  | refine exI (x := ULift.up _) ⟨rfl, by omega, Eq.refl _⟩ ?_
  | exact nx
  | ((with_reducible intro h); try dsimp only at h))
 all_goals (try (refine Sd.mk ?_)); all_goals (try simp only [HI.eta, HR.eta, List.length_map] at *)
 all_goals first
  | exact zjZ hT (zew ‹_› ‹_› (e_1 ‹_›))
  | exact zjZ hT (zew ‹_› ‹_› (e_2 ‹_›))
  | exact zjZ hT (zew ‹_› ‹_› (zzZ ‹_› ‹_› ‹_› ‹_›))
  | exact zjZ hT (zew ‹_› ‹_› (zAS ‹_› ‹_› ‹_› ‹_›))
  | exact zkt (znh ‹_› ‹_›) hT
  | exact zkp ‹_› ‹_› (zzr ‹_› ‹_› ‹_› ‹_›) (congrArg Prod.fst (e_3 ‹_› ‹_› ‹_›))
  | exact zkp ‹_› ‹_› (zAA ‹_› ‹_› ‹_› ‹_›) (congrArg Prod.fst (e_4 ‹_› ‹_› ‹_›))
  | exact ⟨by dsimp only; omega, by dsimp only; omega, by dsimp only; omega, hl, hn, rfl⟩
noncomputable def S64 : SFn
 | [.ptr p _ _, .int .i64 w, .int .i64 vv], k => zgr p fun v es => .req (ndk es /\ v.L.length <= 1000000) (.ex (fun es1 : ULift.{1} HM => zb4 v.code w vv v.L v.fr es 0 = .inr es1.down) fun es1 => match es1 with | ⟨es1⟩ => k (L64 v es w vv es1))
 | _, _ => .fail
theorem t64 : FnS Tryz.prog GG 64 S64 := by
 intro args k gt go R v os n h
 unfold S64 at h
 split at h
 . obtain ⟨v, es, _, h⟩ := zeo h
   obtain ⟨hp, _, h⟩ := zar h
   cases h with
   | ex x hx h => exact ⟨_, _, s64 v es _ _ _ hp.1 hp.2 hx, h⟩
 . cases h
noncomputable def zsx : SFn
 | [.ptr p _ _, .int .i64 w, .int .i64 vv], k => zgr p fun v es => .req (ndk es /\ v.L.length <= 1000000) (.ex (fun k1 : ULift.{1} Int => zb4 v.code w vv v.L v.fr es 0 = .inl k1.down) fun k1 => match k1 with | ⟨k1⟩ => k (zzL v es w vv k1))
 | _, _ => .fail
theorem zHD : ∀ args k gt go R v os n, (zsx args k).Runs gt go R v os n -> ∃ L R', zaa.okE panicked Tryz.prog GG 64 L /\ (k L).Runs gt go R' v os n := by
 intro args k gt go R v os n h
 unfold zsx at h
 split at h
 . obtain ⟨v, es, _, h⟩ := zeo h
   obtain ⟨hp, _, h⟩ := zar h
   cases h with
   | ex x hx h => exact ⟨_, _, zKr v es _ _ _ hp.1 hp.2 hx, h⟩
 . cases h
noncomputable def L65 (v : VL) (es : HM) : zaa := ⟨[.ptr 0 0 0], [v.row, .map MPC es none], [some (v.row), some (.map MPC es none)], [], .bool (zcF v)⟩
set_option maxHeartbeats 4000000 in
theorem s65 (v : VL) (es : HM) (hl : v.fr.length <= 1000000) : zaa.ok Tryz.prog GG 65 (L65 v es) := by
 refine zac mix k65 _ rfl rfl (Tab.ok (l := []) trivial) (fun _ => .inv C65 (fun _ => I65 v) (zBj v es) (fun c => (v.fr.length - c.1).toNat)) noJ ?_
 repeat' ((conv => whnf); first
  | exact trivial
  | with_reducible first | refine aj ?_ | refine ai rfl ?_ | refine ai ⟨rfl, rfl⟩ ?_
  | ((with_reducible refine ai ?_ ?_); focus exact w3)
  | with_reducible first | refine zCp ?_ | apply exW (γ := C65) (c := (_, _)) | refine exI (i64_in (by simp only [I64, I65, List.length_map] at *; omega) (by simp only [I64, I65, List.length_map] at *; omega)) ?_
  | refine exI (x := ULift.up _) ⟨rfl, (by simp only [I64, I65, List.length_map] at *; omega), zbc _ _ _ (by simp only [I64, I65, List.length_map] at *; omega)⟩ ?_
  | with_reducible first | refine And.intro ?_ ?_ | refine zae ?_ | refine exI (i64_in (by omega) (by omega)) ?_
  | refine exI (x := ULift.up _) (Eq.refl _) ?_
  | refine exI (x := ULift.up _) ⟨rfl, by omega, Eq.refl _⟩ ?_
  | exact nx
  | ((with_reducible intro h); try dsimp only at h))
 all_goals (try (refine Sd.mk ?_)); all_goals (try simp only [HI.eta, HR.eta, List.length_map] at *)
 all_goals first
  | exact ⟨by dsimp only; omega, by dsimp only; omega, hl, by dsimp only; omega, by dsimp only; omega, rfl⟩
  | exact zu6 ‹_› ‹_› ‹_›
  | exact zvu ‹_› ‹_› ‹_› ‹_›
  | exact zwe ‹_› ‹_› ‹_› ‹_›
  | (rw [zvd ‹_› ‹_›]; simp only [decide_eq_true_eq, decide_eq_false_iff_not]; omega)
noncomputable def S65 : SFn
 | [.ptr p _ _], k => zgr p fun v es => .req (v.fr.length <= 1000000) (k (L65 v es))
 | _, _ => .fail
theorem t65 : FnS Tryz.prog GG 65 S65 := by
 intro args k gt go R v os n h
 unfold S65 at h
 split at h
 . obtain ⟨v, es, _, h⟩ := zeo h
   obtain ⟨hp, _, h⟩ := zar h
   exact ⟨_, _, s65 v es hp, h⟩
 . cases h
end
end Go.Proofs.YtlahifihaeafbaaGreatDoor
