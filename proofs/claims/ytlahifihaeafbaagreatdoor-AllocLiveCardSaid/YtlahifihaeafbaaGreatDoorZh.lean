/- Part 8 of 11 of a proof of the law AllocLive: what the last part leans on. -/
import Derived.Test.YtlahifihaeafbaaGreatDoorZg
set_option linter.all false
set_option maxRecDepth 100000
namespace Go.Proofs.YtlahifihaeafbaaGreatDoor
open Go Go.Sx
section
def c62 : MC := .seq (.reg [oo 6 (.mv (ki 0))]) (.seq (.seq (.reg [om 7 0,oo 8 (fc 18 [(.t 7)]),oo 9 (cc .neq 8 0)]) (.cond (.t 9) (.seq (.reg [oo 6 (.mv (ki 190))]) (.ret)) (.skip))) (.seq (.seq (.reg [om 10 1,oo 11 (cc .lss 10 3),sm 12 11,mf 12 13 1,gf 12 14 (cc .gtr 13 12),oo 15 (pt 12 14),sm 16 15,mf 16 17 2,gf 16 18 (cc .lss 17 2),oo 19 (pt 16 18),sm 20 19,mf 20 21 2,gf 20 22 (cc .gtr 21 6),oo 23 (pt 20 22)]) (.cond (.t 23) (.seq (.reg [oo 6 (.mv (ki 1))]) (.ret)) (.skip))) (.seq (.reg [oo 6 (.mv (ki 0))]) (.ret))))
theorem k62 : zan Tryz.prog 62 24 c62 [.t 6] := fk Tryz.func62 ⟨tv,⟨⟨tv,⟨⟨tv,tv⟩,tv⟩⟩,⟨⟨tv,⟨⟨tv,tv⟩,tv⟩⟩,⟨tv,tv⟩⟩⟩⟩
def c26 : MC := .seq (.reg [oo 1 (.box (.t 0)),oo 2 (.mv (ki 0)),oo 3 (.mv (ki 0)),oo 4 (.mv (ki 0))]) (.seq (.seq (.reg [oo 6 (fl 0 1),oo 7 (ln 6),oo 8 (.lenS (.t 7)),oo 9 (fl 1 1),oo 10 (ln 9),oo 11 (.lenS (.t 10)),oo 12 (.mm false (.t 8) [(.t 11)]),oo 13 (.mv (ki 0))]) (.blk 0 (.loop 0 (.seq (.reg [oo 14 (ct .lss 13 12)]) (.seq (.cond (.t 14) (.skip) (.exit 0)) (.seq (.blk 1 (.seq (.reg [om 15 13,om 5 15]) (.seq (.seq (.reg [oo 16 (fl 1 1),oo 17 (ln 16),om 18 5,oo 19 (ia 1 17 18),oo 20 (ln 19),oo 21 (.cmp .neq (.t 20) (ki (-1)))]) (.cond (.t 21) (.exit 1) (.skip))) (.seq (.reg [oo 22 (fl 0 1),oo 23 (ln 22),om 24 5,oo 25 (ia 15 23 24),oo 26 (fl 0 25),oo 27 (ln 26)]) (.blk 2 (.seq (.seq (.reg [oo 29 (cc .eql 27 2),om 28 29]) (.cond (.t 28) (.skip) (.reg [oo 30 (cc .eql 27 8),om 28 30]))) (.cond (.t 28) (.reg [om 31 2,oo 32 (ac .add 31 1),om 2 32]) (.seq (.seq (.reg [oo 34 (cc .eql 27 42),om 33 34]) (.cond (.t 33) (.skip) (.reg [oo 35 (cc .eql 27 44),om 33 35]))) (.cond (.t 33) (.reg [om 36 3,oo 37 (ac .add 36 1),om 3 37]) (.seq (.seq (.reg [oo 39 (cc .eql 27 43),om 38 39]) (.cond (.t 38) (.skip) (.reg [oo 40 (cc .eql 27 45),om 38 40]))) (.cond (.t 38) (.reg [om 41 4,oo 42 (ac .add 41 1),om 4 42]) (.skip)))))))))))) (.reg [oo 43 (ac .add 13 1),om 13 43]))))))) (.seq (.reg [om 44 2,om 45 3,om 46 4,om 2 44,om 3 45,om 4 46]) (.ret)))
theorem k26 : zan Tryz.prog 26 47 c26 [.t 2,.t 3,.t 4] := fk Tryz.func26 ⟨tv,⟨⟨tv,⟨tv,⟨⟨tv,tv⟩,⟨⟨tv,⟨⟨tv,⟨tv,tv⟩⟩,⟨tv,⟨⟨tv,⟨tv,tv⟩⟩,⟨tv,⟨⟨tv,⟨tv,tv⟩⟩,⟨tv,⟨⟨tv,⟨tv,tv⟩⟩,⟨tv,tv⟩⟩⟩⟩⟩⟩⟩⟩⟩,tv⟩⟩⟩⟩,⟨tv,tv⟩⟩⟩
def zbZ (l : List HI) (w v : Int) : Int := if zaT l ≠ 0 then 190 else if w < 3 \/ 12 < w \/ v < 2 \/ 6 < v then 1 else 0
noncomputable def L62 (l : List HI) (w : Int) (v : Int) : zaa := ⟨[.rd (.sl 15 (l.map HI.pv)), kz w, kz v], [], [], [], kz (zbZ l w v)⟩
theorem s62 (l : List HI) (w : Int) (v : Int) : zaa.ok Tryz.prog GG 62 (L62 l w v) := by
 refine zac mix k62 _ rfl rfl (Tab.ok (l := [(18, S18)]) ⟨t18, trivial⟩) noL noJ ?_
 repeat' ((conv => whnf); first
  | exact trivial
  | with_reducible first | refine aj ?_ | refine ai rfl ?_ | refine ai ⟨rfl, rfl⟩ ?_
  | ((with_reducible refine ai ?_ ?_); focus exact w3)
  | with_reducible first | refine And.intro ?_ ?_ | refine zae ?_ | refine exI (i64_in (by omega) (by omega)) ?_
  | refine exI (x := ULift.up _) (Eq.refl _) ?_
  | refine exI (x := ULift.up _) ⟨rfl, by omega, Eq.refl _⟩ ?_
  | exact ny
  | ((with_reducible intro h); try dsimp only at h))
 all_goals (refine Sd.mk ?_; simp only [zbZ]; grind)
noncomputable def S62 : SFn
 | [a0, a1, a2], k => zcu a0 fun L_l => asL HI.pv L_l fun l => asI a1 fun w => asI a2 fun v => k (L62 l w v)
 | _, _ => .fail
theorem t62 : FnS Tryz.prog GG 62 S62 := by
 intro args k gt go R v os n h
 unfold S62 at h
 split at h
 . obtain ⟨L_l, _, h⟩ := zbn h
   obtain ⟨l, _, h⟩ := zaN h
   obtain ⟨w, _, h⟩ := zaU h
   obtain ⟨v, _, h⟩ := zaU h
   exact ⟨_, _, s62 l w v, h⟩
 . cases h
def zgA (c : Int × Int × Int) (x : HI) (f : Int) : Int × Int × Int :=
 if f ≠ -1 then c else if x.op = 2 \/ x.op = 8 then (c.1 + 1, c.2.1, c.2.2) else if x.op = 42 \/ x.op = 44 then (c.1, c.2.1 + 1, c.2.2)
 else if x.op = 43 \/ x.op = 45 then (c.1, c.2.1, c.2.2 + 1) else c
def zjq : List HI -> List Int -> Int × Int × Int -> Int × Int × Int
 | x :: L, f :: F, c => zjq L F (zgA c x f)
 | _, _, c => c
theorem zvS (c : Int × Int × Int) (x : HI) (f : Int) : c.1 <= (zgA c x f).1 /\ (zgA c x f).1 <= c.1 + 1 /\ c.2.1 <= (zgA c x f).2.1 /\ (zgA c x f).2.1 <= c.2.1 + 1 /\ c.2.2 <= (zgA c x f).2.2 /\ (zgA c x f).2.2 <= c.2.2 + 1 := by
 unfold zgA; split
 . omega
 . split
   . dsimp only; omega
   . split
     . dsimp only; omega
     . split
       . dsimp only; omega
       . omega
abbrev C26 := Int × Int × Int × Int
def zBw (a : AL) : C26 -> St
 | (i, m, s, u) => ⟨[(13, kz i), (12, kz (min (a.L.length : Int) a.fr.length)), (4, kz u), (3, kz s), (2, kz m), (1, .ptr 0 0 0)], [(0, some (.row a.cells))], 1⟩
def I26 (a : AL) (c : C26) : Prop := 0 <= c.1 /\ c.1 <= a.L.length /\ c.1 <= a.fr.length /\ a.L.length <= 1000000 /\ 0 <= c.2.1 /\ c.2.1 <= c.1 /\ 0 <= c.2.2.1 /\ c.2.2.1 <= c.1 /\ 0 <= c.2.2.2 /\ c.2.2.2 <= c.1 ∧
 zjq (a.L.drop c.1.toNat) (a.fr.drop c.1.toNat) c.2 = zjq a.L a.fr (0, 0, 0)
theorem zv8 {a : AL} {c : C26} {c' : Int × Int × Int} (hI : I26 a c) (h : c.1 < min (a.L.length : Int) a.fr.length) (e : zgA c.2 (nth a.L c.1) (nth a.fr c.1) = c') :
 I26 a (c.1 + 1, c') /\ (min (a.L.length : Int) a.fr.length - (c.1 + 1)).toNat < (min (a.L.length : Int) a.fr.length - c.1).toNat := by
  obtain ⟨h1, h2, h3, h4, h5, h6, h7, h8, h9, h10, h11⟩ := hI
  have hb := zvS c.2 (nth a.L c.1) (nth a.fr c.1)
  rw [e] at hb
  rw [zaF a.L c.1 ⟨h1, by omega⟩, zaF a.fr c.1 ⟨h1, by omega⟩, zjq, e] at h11
  refine ⟨⟨by dsimp only; omega, by dsimp only; omega, by dsimp only; omega, h4, by dsimp only; omega, by dsimp only; omega, by dsimp only; omega, by dsimp only; omega, by dsimp only; omega, by dsimp only; omega, h11⟩, by omega⟩
theorem zuV {a : AL} {c : C26} (hI : I26 a c) (h : ¬ c.1 < min (a.L.length : Int) a.fr.length) : zjq a.L a.fr (0, 0, 0) = c.2 := by
 obtain ⟨h1, h2, h3, h4, h5, h6, h7, h8, h9, h10, h11⟩ := hI
 rw [<- h11]
 rcases Int.lt_or_le c.1 a.L.length with h12 | h12
 . have : a.fr.drop c.1.toNat = [] := List.drop_eq_nil_of_le (by omega)
   rw [this]; cases a.L.drop c.1.toNat <;> rfl
 . have : a.L.drop c.1.toNat = [] := List.drop_eq_nil_of_le (by omega)
   rw [this]; rfl
def trp (c : Int × Int × Int) : List SV := [kz c.1, kz c.2.1, kz c.2.2]
noncomputable def L26 (a : AL) : zaa := ⟨[.agg a.cells], [], [], [], .tup (trp (zjq a.L a.fr (0, 0, 0)))⟩
set_option maxHeartbeats 4000000 in
theorem s26 (a : AL) (hp : a.L.length <= 1000000) : zaa.ok Tryz.prog GG 26 (L26 a) := by
 refine zac mix k26 _ rfl rfl (Tab.ok (l := []) trivial) (fun _ => .inv C26 (fun _ => I26 a) (zBw a) (fun c => (min (a.L.length : Int) a.fr.length - c.1).toNat)) noJ ?_
 repeat' ((conv => whnf); first
  | exact trivial
  | with_reducible first | refine aj ?_ | refine ai rfl ?_ | refine ai ⟨rfl, rfl⟩ ?_
  | ((with_reducible refine ai ?_ ?_); focus exact w3)
  | with_reducible first | refine zIi ?_ | apply exW (c := (_, _, _, _)) | refine exI (i64_in (by simp only [I26, List.length_map] at *; omega) (by simp only [I26, List.length_map] at *; omega)) ?_
  | refine exI (x := ULift.up _) ⟨rfl, (by simp only [I26, List.length_map] at *; omega), zbc _ _ _ (by simp only [I26, List.length_map] at *; omega)⟩ ?_
  | with_reducible first | refine And.intro ?_ ?_ | refine zae ?_ | refine exI (i64_in (by omega) (by omega)) ?_
  | refine exI (x := ULift.up _) (Eq.refl _) ?_
  | refine exI (x := ULift.up _) ⟨rfl, by omega, Eq.refl _⟩ ?_
  | exact ny
  | ((with_reducible intro h); try dsimp only at h))
 all_goals (refine Sd.mk ?_; (try simp only [HI.eta, HR.eta, List.length_map, Classical.not_not] at *))
 all_goals first
  | exact zv8 (c := (_, _, _, _)) ‹_› ‹_› (by simp only [zgA]; grind)
  | (have h := zuV (c := (_, _, _, _)) ‹_› ‹_›; simp only at h; grind)
  | (simp only [I26]; grind)
end
section
def zDZ : MC := .seq (.reg [oo 1 (.box (.t 0)),oo 2 (.mv (ki 0))]) (.seq (.seq (.reg [oo 3 (fl 0 1),oo 4 (ln 3)]) (.cond (.t 4) (.seq (.reg [oo 2 (.mv (ki 1))]) (.ret)) (.skip))) (.seq (.reg [oo 2 (.mv (ki 0))]) (.ret)))
theorem zz2 : zan Tryz.prog 108 5 zDZ [.t 2] := fk Tryz.func108 ⟨tv,⟨⟨tv,⟨⟨tv,tv⟩,tv⟩⟩,⟨tv,tv⟩⟩⟩
def zIJ : MC := .drw [om 6 1,om 7 1,oo 8 (.ixr 2 1 (.t 2) (.t 7)),oo 9 (ln 8),om 10 1,oo 11 (.ixr 2 1 (.t 3) (.t 10)),oo 12 (ln 11),om 13 0,oo 14 (at_ .add 12 13),oo 15 (.mm true (.t 9) [(.t 14)]),oo 16 (.ixr 2 1 (.t 2) (.t 6)),o none (.st (some 1) (.t 16) (.t 15))] [[],[],[1],[2],[],[4],[5],[],[6,7],[3,8],[0,0,1,2,3,4,5,6,7,8,9],[10,9,0,1,2,3,4,5,6,7,8,9]]
theorem zxB : zan Tryz.prog 109 17 zIJ [] := fk Tryz.func109 tv
def zIX : MC := .seq (.reg [oo 1 (.box (.t 0)),oo 2 (.mv (.k (.val .nilFunc)))]) (.seq (.reg [oo 3 (.mkf (.func 148) [] [(.t 1)]),om 2 3]) (.ret))
theorem zHy : zan Tryz.prog 110 4 zIX [.t 2] := fk Tryz.func110 ⟨tv,⟨tv,tv⟩⟩
noncomputable def zpn (r : HR) : zaa := ⟨[.agg r.cells], [], [], [], kz 1⟩
noncomputable def zpS (r : HR) : zaa := ⟨[.agg r.cells], [], [], [], kz 0⟩
theorem ztI (r : HR) (h : r.vec = true) : zaa.ok Tryz.prog GG 108 (zpn r) := by
 refine zac mix zz2 _ rfl rfl (Tab.ok (l := []) trivial) noL noJ ?_
 repeat' ((conv => whnf); first
  | exact trivial
  | with_reducible first | refine aj ?_ | refine ai rfl ?_ | refine ai ⟨rfl, rfl⟩ ?_
  | ((with_reducible refine ai ?_ ?_); focus exact w3)
  | with_reducible first | refine And.intro ?_ ?_ | refine zae ?_ | refine exI (i64_in (by omega) (by omega)) ?_
  | refine exI (x := ULift.up _) (Eq.refl _) ?_
  | refine exI (x := ULift.up _) ⟨rfl, by omega, Eq.refl _⟩ ?_
  | exact ny
  | ((with_reducible intro h); try dsimp only at h))
 all_goals (refine Sd.mk ?_; simp_all)
theorem ztF (r : HR) (h : ¬ r.vec = true) : zaa.ok Tryz.prog GG 108 (zpS r) := by
 refine zac mix zz2 _ rfl rfl (Tab.ok (l := []) trivial) noL noJ ?_
 repeat' ((conv => whnf); first
  | exact trivial
  | with_reducible first | refine aj ?_ | refine ai rfl ?_ | refine ai ⟨rfl, rfl⟩ ?_
  | ((with_reducible refine ai ?_ ?_); focus exact w3)
  | with_reducible first | refine And.intro ?_ ?_ | refine zae ?_ | refine exI (i64_in (by omega) (by omega)) ?_
  | refine exI (x := ULift.up _) (Eq.refl _) ?_
  | refine exI (x := ULift.up _) ⟨rfl, by omega, Eq.refl _⟩ ?_
  | exact ny
  | ((with_reducible intro h); try dsimp only at h))
 all_goals (refine Sd.mk ?_; simp_all)
noncomputable def zsH : SFn
 | [.agg [b, .int .i64 n]], k => match b with
   | .tt => k (zpn ⟨true, n⟩)
   | .ff => k (zpS ⟨false, n⟩)
   | .bool b => .split (b = true) (k (zpn ⟨b, n⟩)) (k (zpS ⟨b, n⟩))
   | _ => .fail
 | _, _ => .fail
theorem zJ5 : FnS Tryz.prog GG 108 zsH := by
 intro args k gt go R v os n h
 unfold zsH at h
 split at h
 . split at h
   . exact ⟨_, _, ztI _ rfl, h⟩
   . exact ⟨_, _, ztF _ (by simp), h⟩
   . rcases zqG h with ⟨hp, h⟩ | ⟨hp, h⟩
     . exact ⟨_, _, ztI _ hp, h⟩
     . exact ⟨_, _, ztF _ hp, h⟩
   . cases h
 . cases h
noncomputable def ztU (e : Int) (n0 : Int) (n1 : Int) (m0 : Int) (m1 : Int) : zaa := ⟨[kz e, kz 0, .ptr 0 0 0, .ptr 1 0 0], [.row [kz n0, kz n1], .row [kz m0, kz m1]], [some (.row [kz (max n0 (m0 + e)), kz n1]), some (.row [kz m0, kz m1])], [], .tup []⟩
theorem zBU (e : Int) (n0 : Int) (n1 : Int) (m0 : Int) (m1 : Int) (hp : (0 <= e /\ e <= 1) /\ -1000000 <= m0 /\ m0 <= 1000000) : zaa.ok Tryz.prog GG 109 (ztU e n0 n1 m0 m1) := by
 refine zac mix zxB _ rfl rfl (Tab.ok (l := []) trivial) noL noJ ?_
 repeat' ((conv => whnf); first
  | exact trivial
  | with_reducible first | refine aj ?_ | refine ai rfl ?_ | refine ai ⟨rfl, rfl⟩ ?_
  | ((with_reducible refine ai ?_ ?_); focus exact w3)
  | with_reducible first | refine And.intro ?_ ?_ | refine zae ?_ | refine exI (i64_in (by omega) (by omega)) ?_
  | refine exI (x := ULift.up _) (Eq.refl _) ?_
  | refine exI (x := ULift.up _) ⟨rfl, by omega, Eq.refl _⟩ ?_
  | exact ny
  | ((with_reducible intro h); try dsimp only at h))
noncomputable def zuk (e : Int) (n0 : Int) (n1 : Int) (m0 : Int) (m1 : Int) : zaa := ⟨[kz e, kz 1, .ptr 0 0 0, .ptr 1 0 0], [.row [kz n0, kz n1], .row [kz m0, kz m1]], [some (.row [kz n0, kz (max n1 (m1 + e))]), some (.row [kz m0, kz m1])], [], .tup []⟩
theorem zBq (e : Int) (n0 : Int) (n1 : Int) (m0 : Int) (m1 : Int) (hp : (0 <= e /\ e <= 1) /\ -1000000 <= m1 /\ m1 <= 1000000) : zaa.ok Tryz.prog GG 109 (zuk e n0 n1 m0 m1) := by
 refine zac mix zxB _ rfl rfl (Tab.ok (l := []) trivial) noL noJ ?_
 repeat' ((conv => whnf); first
  | exact trivial
  | with_reducible first | refine aj ?_ | refine ai rfl ?_ | refine ai ⟨rfl, rfl⟩ ?_
  | ((with_reducible refine ai ?_ ?_); focus exact w3)
  | with_reducible first | refine And.intro ?_ ?_ | refine zae ?_ | refine exI (i64_in (by omega) (by omega)) ?_
  | refine exI (x := ULift.up _) (Eq.refl _) ?_
  | refine exI (x := ULift.up _) ⟨rfl, by omega, Eq.refl _⟩ ?_
  | exact ny
  | ((with_reducible intro h); try dsimp only at h))
noncomputable def zrx : SFn
 | [.int .i64 e, .int .i64 j, .ptr p _ _, .ptr q _ _], k => zoH p fun n0 n1 => zoH q fun m0 m1 => match j with
   | .ofNat 0 => .req ((0 <= e /\ e <= 1) /\ -1000000 <= m0 /\ m0 <= 1000000) (k (ztU e n0 n1 m0 m1))
   | .ofNat 1 => .req ((0 <= e /\ e <= 1) /\ -1000000 <= m1 /\ m1 <= 1000000) (k (zuk e n0 n1 m0 m1))
   | _ => .fail
 | _, _ => .fail
theorem zHx : FnS Tryz.prog GG 109 zrx := by
 intro args k gt go R v os n h
 unfold zrx at h
 split at h
 . obtain ⟨n0, n1, _, h⟩ := zns h
   obtain ⟨m0, m1, _, h⟩ := zns h
   split at h
   . obtain ⟨hp, _, h⟩ := zar h
     exact ⟨_, _, zBU _ _ _ _ _ hp, h⟩
   . obtain ⟨hp, _, h⟩ := zar h
     exact ⟨_, _, zBq _ _ _ _ _ hp, h⟩
   . cases h
 . cases h
noncomputable def zzG (l : List HI) : zaa := ⟨[.rd (.sl 15 (l.map HI.pv))], [], [], [.row [hiS l]], .fn (.func 148) [] [.ptr 0 0 0]⟩
theorem zHC (l : List HI) : zaa.ok Tryz.prog GG 110 (zzG l) := by
 refine zac mix zHy _ rfl rfl (Tab.ok (l := []) trivial) noL noJ ?_
 repeat' ((conv => whnf); first
  | exact trivial
  | with_reducible first | refine aj ?_ | refine ai rfl ?_ | refine ai ⟨rfl, rfl⟩ ?_
  | ((with_reducible refine ai ?_ ?_); focus exact w3)
  | with_reducible first | refine And.intro ?_ ?_ | refine zae ?_ | refine exI (i64_in (by omega) (by omega)) ?_
  | refine exI (x := ULift.up _) (Eq.refl _) ?_
  | refine exI (x := ULift.up _) ⟨rfl, by omega, Eq.refl _⟩ ?_
  | exact ny
  | ((with_reducible intro h); try dsimp only at h))
noncomputable def zr3 : SFn
 | [a0], k => zcu a0 fun L_l => asL HI.pv L_l fun l => k (zzG l)
 | _, _ => .fail
theorem zD3 : FnS Tryz.prog GG 110 zr3 := by
 intro args k gt go R v os n h
 unfold zr3 at h
 split at h
 . obtain ⟨L_l, _, h⟩ := zbn h
   obtain ⟨l, _, h⟩ := zaN h
   exact ⟨_, _, zHC l, h⟩
 . cases h
end
section
def zA8 : MC := .seq (.reg [oo 4 (ln 1),oo 5 (.lenS (.t 4)),oo 6 (ac .sub 5 1),om 3 6]) (.blk 0 (.loop 0 (.seq (.seq (.reg [om 7 3,oo 8 (cc .geq 7 0)]) (.cond (.t 8) (.skip) (.exit 0))) (.seq (.blk 1 (.seq (.reg [om 11 0,om 12 3,oo 13 (ln 1),om 14 3,oo 15 (ia 15 13 14),oo 16 (ls 15 15),oo 17 (.call (.t 11) [(.t 12),(.t 16)]),oo 18 (.not (.t 17))]) (.cond (.t 18) (.ret) (.skip)))) (.reg [om 9 3,oo 10 (ac .sub 9 1),om 3 10])))))
theorem zzj : zan Tryz.prog 148 19 zA8 [] := fk Tryz.func148 ⟨tv,⟨⟨tv,⟨tv,tv⟩⟩,⟨⟨tv,⟨tv,tv⟩⟩,tv⟩⟩⟩
def c60 : MC := .seq (.reg [oo 2 (.alloc [(kz 0),(kz 0)]),oo 3 (.alloc [(kz 0),(kz 0)])]) (.seq (.reg [oo 15 (.mkm),oo 4 (.alloc [(.val (.map none))]),o none (.st (some 1) (.t 4) (.t 15))]) (.seq (.reg [oo 5 (.alloc [(kz 0),(kz 0)])]) (.seq (.reg [oo 6 (.alloc [(.val .nilFunc)]),o none (.st (some 1) (.t 6) (.k (.fn (.func 108) [] [])))]) (.seq (.reg [oo 16 (.mkf (.func 109) [] [(.t 2),(.t 5)]),oo 7 (.alloc [(.val .nilFunc)]),o none (.st (some 1) (.t 7) (.t 16))]) (.seq (.seq (.reg [om 17 0,oo 18 (fc 110 [(.t 17)])]) (.blk 0 (.rng (.t 18) [19,20] (.reg [oo 9 (.alloc zI),o none (.st (some 15) (.t 9) (.t 20))]) (.blk 1 (.seq (.reg [oo 22 (ls 15 9),oo 23 (fc 33 [(.t 22)]),om 21 23,oo 24 (ex_ 0 21),oo 25 (ex_ 1 21),oo 10 (.alloc [.ff,(kz 0)]),o none (.st (some 2) (.t 10) (.t 24)),om 11 25]) (.seq (.seq (.reg [om 26 11,sm 27 26,gt_ 27 28 (ln 4),gt_ 27 29 (ls 2 10),gt_ 27 30 (.lkp false false [.bool,.int .i64] true [.bool false] (.t 28) (.t 29)),gt_ 27 31 (.not (.t 30)),oo 32 (pf 27 31)]) (.cond (.t 32) (.drw [oo 33 (ln 7),oo 34 (ln 6),oo 35 (ls 2 10),oo 36 (.call (.t 34) [(.t 35)]),oo 37 (.call (.t 33) [(ki 1),(.t 36)])] [[],[],[],[1,2],[0,3,3]]) (.skip))) (.seq (.seq (.reg [om 38 11,sm 39 38,gt_ 39 40 (ln 4),gt_ 39 41 (ls 2 10),gt_ 39 42 (.lkp false false [.bool,.int .i64] true [.bool false] (.t 40) (.t 41)),oo 43 (pf 39 42)]) (.cond (.t 43) (.seq (.reg [oo 44 (ln 4),oo 45 (ls 2 10),o none (.mdel false [.bool,.int .i64] (.t 44) (.t 45))]) (.reg [oo 46 (ln 6),oo 47 (ls 2 10),oo 48 (.call (.t 46) [(.t 47)]),oo 49 (.ixr 2 1 (.t 5) (.t 48)),oo 50 (ln 49),oo 51 (ac .sub 50 1),oo 52 (.ixr 2 1 (.t 5) (.t 48)),o none (.st (some 1) (.t 52) (.t 51))])) (.skip))) (.seq (.seq (.reg [oo 53 (ls 15 9),oo 54 (fc 34 [(.t 53)]),oo 55 (.lenS (.t 54)),oo 56 (.mv (ki 0))]) (.blk 2 (.loop 0 (.seq (.reg [oo 57 (ct .lss 56 55)]) (.seq (.cond (.t 57) (.skip) (.exit 2)) (.seq (.blk 3 (.seq (.reg [oo 58 (ia 2 54 56),oo 59 (ls 2 58),oo 13 (.alloc [.ff,(kz 0)]),o none (.st (some 2) (.t 13) (.t 59))]) (.seq (.reg [oo 60 (ln 4),oo 61 (ls 2 13),oo 62 (.lkp false false [.bool,.int .i64] true [.bool false] (.t 60) (.t 61)),oo 63 (.not (.t 62))]) (.cond (.t 63) (.seq (.reg [oo 64 (ln 4),oo 65 (ls 2 13),o none (.mup false [.bool,.int .i64] (.t 64) (.t 65) kt)]) (.reg [oo 66 (ln 6),oo 67 (ls 2 13),oo 68 (.call (.t 66) [(.t 67)]),oo 69 (.ixr 2 1 (.t 5) (.t 68)),oo 70 (ln 69),oo 71 (ac .add 70 1),oo 72 (.ixr 2 1 (.t 5) (.t 68)),o none (.st (some 1) (.t 72) (.t 71))])) (.skip))))) (.reg [oo 73 (ac .add 56 1),om 56 73]))))))) (.seq (.reg [oo 74 (.mv (ki 0))]) (.blk 4 (.loop 1 (.seq (.reg [oo 75 (.cmpl .lss (.t 74) (ki 2))]) (.seq (.cond (.t 75) (.skip) (.exit 4)) (.seq (.blk 5 (.seq (.reg [om 76 74,om 14 76]) (.seq (.reg [oo 77 (ln 7),om 78 14,oo 79 (.call (.t 77) [(ki 0),(.t 78)])]) (.drw [om 80 14,om 81 14,oo 82 (.ixr 2 1 (.t 3) (.t 81)),oo 83 (ln 82),om 84 14,oo 85 (.ixr 2 1 (.t 5) (.t 84)),oo 86 (ln 85),oo 87 (.mm true (.t 83) [(.t 86)]),oo 88 (.ixr 2 1 (.t 3) (.t 80)),o none (.st (some 1) (.t 88) (.t 87))] [[],[],[1],[2],[],[4],[5],[3,6],[0,0,1,2,3,4,5,6,7],[8,7,0,1,2,3,4,5,6,7]]))))
 (.reg [oo 89 (.arl .add (.t 74) (ki 1)),om 74 89])))))))))))) 148 19 zA8))) (.seq (.drw [oo 90 (ls 2 2),oo 91 (ls 2 3),o none (.st (some 2) (.t 2) (.t 90)),o none (.st (some 2) (.t 3) (.t 91))] [[],[],[0,0],[1,2,0,1,2]]) (.ret)))))))
theorem k60 : zan Tryz.prog 60 92 c60 [.c 2 (some 2),.c 3 (some 2)] := .of Tryz.func60 (by kernel_rfl) (by kernel_rfl) (by kernel_rfl) (by kernel_rfl) ⟨trivial, ⟨trivial, ⟨trivial, ⟨trivial, ⟨trivial, ⟨⟨trivial, ⟨trivial, ⟨trivial, ⟨⟨trivial, ⟨trivial, trivial⟩⟩, ⟨⟨trivial, ⟨⟨trivial, trivial⟩, trivial⟩⟩, ⟨⟨trivial, ⟨trivial, ⟨⟨trivial, trivial⟩, ⟨⟨trivial, ⟨trivial, ⟨⟨trivial, trivial⟩, trivial⟩⟩⟩, trivial⟩⟩⟩⟩, ⟨trivial, ⟨trivial, ⟨⟨trivial, trivial⟩, ⟨⟨trivial, ⟨trivial, trivial⟩⟩, trivial⟩⟩⟩⟩⟩⟩⟩⟩, zzj.it, zzj.its⟩⟩, ⟨trivial, trivial⟩⟩⟩⟩⟩⟩⟩
attribute [local irreducible] Go.Sx.zak Go.Sx.zay
structure ND where
 now : RB
 m0 : Int
 m1 : Int
 n0 : Int
 n1 : Int
 v0 : Int
 v1 : Int
def zfp (s : ND) (r : HR) : ND := if inA s.now r = true then s else if r.vec = true then { s with now := zam MHB r true s.now, m1 := s.m1 + 1 } else { s with now := zam MHB r true s.now, m0 := s.m0 + 1 }
def zd8 (s : ND) (x : HI) : ND :=
 if (zag x).2 = true then
  (if inA s.now (zag x).1 = true then (if (zag x).1.vec = true then { s with now := za3 MHB (zag x).1 s.now, m1 := s.m1 - 1 } else { s with now := za3 MHB (zag x).1 s.now, m0 := s.m0 - 1 })
  else (if (zag x).1.vec = true then { s with n1 := max s.n1 (s.m1 + 1) } else { s with n0 := max s.n0 (s.m0 + 1) })) else s
def zrB (s : ND) : ND := ⟨s.now, s.m0, s.m1, max s.n0 (s.m0 + 0), max s.n1 (s.m1 + 0), max s.v0 s.m0, max s.v1 s.m1⟩
def zo3 (s : ND) (x : HI) : ND := zrB ((zaf x).foldl zfp (zd8 s x))
def nd0 : ND := ⟨[], 0, 0, 0, 0, 0, 0⟩
def zcb (l : List HI) : ND := l.reverse.foldl zo3 nd0
def zA5 (l : List HI) (lp : Nat) (r : Go.Loop) (e : LSt) : ND -> List (Nat × Option SO)
 | ⟨now, m0, m1, n0, n1, v0, v1⟩ => [(0, some (.row [kz n0, kz n1])), (1, some (.row [kz v0, kz v1])), (2, some (.map MHB now none)), (3, some (.row [.mp 2])), (4, some (.row [kz m0, kz m1])),
   (5, some (.row [.fn (.func 108) [] []])), (6, some (.row [.fn (.func 109) [] [.ptr 0 0 0, .ptr 4 0 0]])), (7, some (.row [hiS l])), (8, some (.lrec lp r e))]
abbrev zm5 := Nat × Go.Loop × Int × ND
abbrev znn := Nat × Go.Loop × List HR × Int × ND
def zyK (l : List HI) : zm5 -> St
 | (lp, r, i, s) => ⟨[(3, kz i), (1, .ptr 7 0 0), (0, .fn (.yield lp) [] [])], zA5 l lp r .ready s, 9⟩
def zzn (l : List HI) : znn -> St
 | (lp, r, us, j, s) => ⟨[(56, kz j), (55, kz us.length), (54, .slc 9 0 us.length), (7, .ptr 6 0 0), (6, .ptr 5 0 0), (5, .ptr 4 0 0), (4, .ptr 3 0 0), (3, .ptr 1 0 0)], zA5 l lp r .busy s ++ [(9, some (.vec 2 (us.map HR.pv)))], 10⟩
def bdN (c : Int) (s : ND) : Prop := -c <= s.m0 /\ s.m0 <= c /\ -c <= s.m1 /\ s.m1 <= c
def zek (l : List HI) (c0 c : zm5) : Prop := c.1 = c0.1 /\ c.2.1 = c0.2.1 /\ -1 <= c.2.2.1 /\ c.2.2.1 < l.length /\ l.length <= 4000 /\ bdN (5 * (l.length - 1 - c.2.2.1)) c.2.2.2 /\ (l.take (c.2.2.1 + 1).toNat).reverse.foldl zo3 c.2.2.2 = zcb l
def zeK (c0 c : znn) : Prop := c.1 = c0.1 /\ c.2.1 = c0.2.1 /\ c.2.2.1 = c0.2.2.1 /\ 0 <= c.2.2.2.1 /\ c.2.2.2.1 <= c.2.2.1.length /\ c.2.2.1.length <= 3 ∧
 (∀ b : Int, bdN b c0.2.2.2.2 -> bdN (b + c.2.2.2.1) c.2.2.2.2) /\ bdN (30000 + c.2.2.2.1) c.2.2.2.2 /\ (c.2.2.1.drop c.2.2.2.1.toNat).foldl zfp c.2.2.2.2 = c0.2.2.1.foldl zfp c0.2.2.2.2
def zET (l : List HI) : Nat -> zbO
 | 0 => .inv znn zeK (zzn l) (fun c => (c.2.2.1.length - c.2.2.2.1).toNat)
 | 1 => .rounds 3
 | _ => .inv zm5 (zek l) (zyK l) (fun c => (c.2.2.1 + 1).toNat)
theorem zC4 {s : ND} {r : HR} (h : (!zak MHB r s.now) = false) : zfp s r = s := by
 have h : inA s.now r = true := nf h
 unfold zfp; rw [if_pos h]
theorem zB7 {s : ND} {r : HR} (h : (!zak MHB r s.now) = true) (h2 : r.vec = true) : zfp s r = { s with now := zam MHB r true s.now, m1 := s.m1 + 1 } := by
 have h : inA s.now r = false := nt h
 unfold zfp; rw [if_neg (by rw [h]; decide), if_pos h2]
theorem zC0 {s : ND} {r : HR} (h : (!zak MHB r s.now) = true) (h2 : ¬ r.vec = true) : zfp s r = { s with now := zam MHB r true s.now, m0 := s.m0 + 1 } := by
 have h : inA s.now r = false := nt h
 unfold zfp; rw [if_neg (by rw [h]; decide), if_neg h2]
theorem zt1 {s : ND} {x : HI} (h : (zag x).2 = false) : zd8 s x = s := by unfold zd8; rw [if_neg (by rw [h]; decide)]
theorem ztq {s : ND} {x : HI} (h : (zag x).2 = true) (h1 : zak MHB (zag x).1 s.now = true) (h2 : (zag x).1.vec = true) : zd8 s x = { s with now := za3 MHB (zag x).1 s.now, m1 := s.m1 - 1 } := by
 have h1 : inA s.now (zag x).1 = true := h1
 unfold zd8; rw [if_pos h, if_pos h1, if_pos h2]
theorem zt9 {s : ND} {x : HI} (h : (zag x).2 = true) (h1 : zak MHB (zag x).1 s.now = true) (h2 : ¬ (zag x).1.vec = true) : zd8 s x = { s with now := za3 MHB (zag x).1 s.now, m0 := s.m0 - 1 } := by
 have h1 : inA s.now (zag x).1 = true := h1
 unfold zd8; rw [if_pos h, if_pos h1, if_neg h2]
theorem zuh {s : ND} {x : HI} (h : (zag x).2 = true) (h1 : (!zak MHB (zag x).1 s.now) = true) (h2 : (zag x).1.vec = true) : zd8 s x = { s with n1 := max s.n1 (s.m1 + 1) } := by
 have h1 : inA s.now (zag x).1 = false := nt h1
 unfold zd8; rw [if_pos h, if_neg (by rw [h1]; decide), if_pos h2]
theorem zto {s : ND} {x : HI} (h : (zag x).2 = true) (h1 : (!zak MHB (zag x).1 s.now) = true) (h2 : ¬ (zag x).1.vec = true) : zd8 s x = { s with n0 := max s.n0 (s.m0 + 1) } := by
 have h1 : inA s.now (zag x).1 = false := nt h1
 unfold zd8; rw [if_pos h, if_neg (by rw [h1]; decide), if_neg h2]
theorem zqc {s : ND} {r : HR} {b : Int} (h : bdN b s) : bdN (b + 1) (zfp s r) := by
 unfold zfp; simp only [bdN] at *; split
 . omega
 . split <;> (dsimp only; omega)
theorem zp2 {s : ND} {x : HI} {b : Int} (h : bdN b s) : bdN (b + 1) (zd8 s x) := by
 unfold zd8; simp only [bdN] at *; split
 . split <;> split <;> (dsimp only; omega)
 . omega
theorem zju {lp r us j s s' c0} (hI : zeK c0 (lp, r, us, j, s)) (hj : j < us.length) (e : zfp s (nth us j) = s') : zeK c0 (lp, r, us, j + 1, s') /\ ((us.length : Int) - (j + 1)).toNat < ((us.length : Int) - j).toNat := by
 obtain ⟨h1, h2, h3, h4, h5, h6, h7, h8, h9⟩ := hI
 dsimp only at *
 subst e
 refine ⟨⟨h1, h2, h3, by dsimp only; omega, by dsimp only; omega, h6, fun b hb => ?_, ?_, ?_⟩, by omega⟩
 . have := zqc (r := nth us j) (h7 b hb)
   rw [Int.add_assoc] at this; exact this
 . have := zqc (r := nth us j) h8
   rw [Int.add_assoc] at this; exact this
 . rw [zaF _ _ ⟨h4, hj⟩] at h9
   exact h9
theorem zgX {l : List HI} {lp r i s s1 us j s' c00} (hI : zek l c00 (lp, r, i, s)) (hi : 0 <= i) (hi2 : zeK (lp, r, zaf (nth l i), 0, s1) (lp, r, us, j, s')) (hj : ¬ j < us.length) (e : zd8 s (nth l i) = s1) :
 zek l c00 (lp, r, i - 1, zrB s') /\ (i - 1 + 1).toNat < (i + 1).toNat := by
  obtain ⟨h1, h2, h3, h4, h5, h6, h7⟩ := hI
  obtain ⟨k1, k2, k3, k4, k5, k6, k7, k8, k9⟩ := hi2
  dsimp only at *
  subst e; subst k3
  have h8 := k7 _ (zp2 (x := nth l i) h6)
  rw [List.drop_eq_nil_of_le (by omega)] at k9
  refine ⟨⟨h1, h2, by dsimp only; omega, by dsimp only; omega, h5, ?_, ?_⟩, by omega⟩
  . simp only [bdN, zrB] at *; omega
  . rw [zdL l i ⟨hi, h4⟩, List.reverse_append] at h7
    dsimp only
    rw [<- h7, Int.sub_add_cancel]
    simp only [List.reverse_cons, List.reverse_nil, List.nil_append, List.cons_append, List.foldl_cons, zo3]
    rw [<- k9]; rfl
theorem zsU {l : List HI} {lp r i s c00} (hI : zek l c00 (lp, r, i, s)) (hi : ¬ 0 <= i) : zcb l = s := by
 obtain ⟨h1, h2, h3, h4, h5, h6, h7⟩ := hI
 dsimp only at *
 have : (i + 1).toNat = 0 := by omega
 rw [this] at h7
 rw [<- h7]; rfl
theorem zxa {l : List HI} {lp r} (h : l.length <= 4000) : zek l (lp, r, l.length - 1, nd0) (lp, r, l.length - 1, nd0) := by
 refine ⟨rfl, rfl, by dsimp only; omega, by dsimp only; omega, h, ?_, ?_⟩
 . simp only [bdN, nd0]; omega
 . dsimp only
   rw [List.take_of_length_le (by omega)]; rfl
theorem zic {l : List HI} {lp r i s s1 c00} (hI : zek l c00 (lp, r, i, s)) (e : zd8 s (nth l i) = s1) : zeK (lp, r, zaf (nth l i), 0, s1) (lp, r, zaf (nth l i), 0, s1) := by
 obtain ⟨h1, h2, h3, h4, h5, h6, h7⟩ := hI
 dsimp only at *
 subst e
 refine ⟨rfl, rfl, rfl, by dsimp only; omega, by dsimp only; omega, zbA _, fun b hb => by dsimp only; rw [Int.add_zero]; exact hb, ?_, rfl⟩
 have := zp2 (x := nth l i) h6
 simp only [bdN] at *; omega
theorem zGS {l : List HI} {lp : Nat} {r : Go.Loop} {x : Int × ND} {Q : zm5 -> Prop} (h : ∀ i now m0 m1 n0 n1 v0 v1, zek l (lp, r, x) (lp, r, i, ⟨now, m0, m1, n0, n1, v0, v1⟩) -> Q (lp, r, i, ⟨now, m0, m1, n0, n1, v0, v1⟩)) :
 ∀ c, zek l (lp, r, x) c -> Q c := fun ⟨lp', r', i, ⟨now, m0, m1, n0, n1, v0, v1⟩⟩ hI => by
  have h1 := hI.1
  have h2 := hI.2.1
  dsimp only at h1 h2
  subst h1; subst h2
  exact h _ _ _ _ _ _ _ _ hI
theorem zHV {lp : Nat} {r : Go.Loop} {us : List HR} {x : Int × ND} {Q : znn -> Prop} (h : ∀ j now m0 m1 n0 n1 v0 v1, zeK (lp, r, us, x) (lp, r, us, j, ⟨now, m0, m1, n0, n1, v0, v1⟩) -> Q (lp, r, us, j, ⟨now, m0, m1, n0, n1, v0, v1⟩)) :
 ∀ c, zeK (lp, r, us, x) c -> Q c := fun ⟨lp', r', us', i, ⟨now, m0, m1, n0, n1, v0, v1⟩⟩ hI => by
  have h1 := hI.1
  have h2 := hI.2.1
  have h3 := hI.2.2.1
  dsimp only at h1 h2 h3
  subst h1; subst h2; subst h3
  exact h _ _ _ _ _ _ _ _ hI
noncomputable def L60 (l : List HI) : zaa := ⟨[.rd (.sl 15 (l.map HI.pv))], [], [], [], .tup [.agg [kz (zcb l).n0, kz (zcb l).n1], .agg [kz (zcb l).v0, kz (zcb l).v1]]⟩
set_option maxHeartbeats 8000000 in
theorem s60 (l : List HI) (hp : l.length <= 4000) : zaa.ok Tryz.prog GG 60 (L60 l) := by
 refine zac mix k60 _ rfl rfl (Tab.ok (l := [(33, S33), (34, S34), (108, zsH), (109, zrx), (110, zr3)]) ⟨t33, t34, zJ5, zHx, zD3, trivial⟩) (zET l) noJ ?_
 repeat' ((conv => whnf); first
  | exact trivial
  | with_reducible first | refine aj ?_ | refine ai rfl ?_ | refine ai ⟨rfl, rfl⟩ ?_
  | ((with_reducible refine ai ?_ ?_); focus exact w3)
  | with_reducible first | refine ai ⟨rfl, rfl, rfl⟩ ?_ | refine zGS ?_ | refine zHV ?_ | apply exW (γ := zm5) (c := (_, _, _, ⟨_, _, _, _, _, _, _⟩)) | apply exW (γ := znn) (c := (_, _, _, _, ⟨_, _, _, _, _, _, _⟩)) | refine exI (i64_in (by simp only [zek, zeK, bdN, List.length_map] at *; omega) (by simp only [zek, zeK, bdN, List.length_map] at *; omega)) ?_
  | refine exI (x := ULift.up _) (za8 _ _ _ (by simp only [zek, zeK, bdN, List.length_map] at *; omega)) ?_
  | refine exI (x := ULift.up _) ⟨rfl, (by simp only [zek, zeK, bdN, List.length_map] at *; omega), zbc _ _ _ (by simp only [zek, zeK, bdN, List.length_map] at *; omega)⟩ ?_
  | with_reducible first | refine And.intro (Sd.mk (p := (_ : Int) <= _ /\ _) (by simp only [zek, zeK, bdN, List.length_map] at *; omega)) ?_ | refine And.intro (Sd.mk (p := ((_ : Int) <= _ /\ _) /\ _) (by simp only [zek, zeK, bdN, List.length_map] at *; omega)) ?_
  | refine And.intro (Sd.mk (p := zaj.one MHB = _ /\ _) ⟨rfl, rfl⟩) ?_
  | refine And.intro (Sd.mk (p := zaj.vone MHB = _ /\ _) ⟨rfl, rfl⟩) ?_
  | refine exI (x := MHB) trivial ?_
  | refine exI (x := ULift.up true) trivial ?_
  | apply exI (x := ULift.up (HR.mk _ _)) trivial
  | with_reducible first | refine And.intro ?_ ?_ | refine zae ?_ | refine exI (i64_in (by omega) (by omega)) ?_
  | refine exI (x := ULift.up _) (Eq.refl _) ?_
  | refine exI (x := ULift.up _) ⟨rfl, by omega, Eq.refl _⟩ ?_
  | exact nx
  | ((with_reducible intro h); try dsimp only at h))
 all_goals (refine Sd.mk ?_; (try simp only [HI.eta, HR.eta, List.length_map] at *))
 all_goals first
  | exact zxa hp
  | exact zju (s := ⟨_, _, _, _, _, _, _⟩) ‹_› ‹_› (zC4 ‹_›)
  | exact zju (s := ⟨_, _, _, _, _, _, _⟩) ‹_› ‹_› (zB7 ‹_› ‹_›)
  | exact zju (s := ⟨_, _, _, _, _, _, _⟩) ‹_› ‹_› (zC0 ‹_› ‹_›)
  | exact zic (s := ⟨_, _, _, _, _, _, _⟩) ‹_› (zt1 ‹_›)
  | exact zic (s := ⟨_, _, _, _, _, _, _⟩) ‹_› (ztq ‹_› ‹_› ‹_›)
  | exact zic (s := ⟨_, _, _, _, _, _, _⟩) ‹_› (zt9 ‹_› ‹_› ‹_›)
  | exact zic (s := ⟨_, _, _, _, _, _, _⟩) ‹_› (zuh ‹_› ‹_› ‹_›)
  | exact zic (s := ⟨_, _, _, _, _, _, _⟩) ‹_› (zto ‹_› ‹_› ‹_›)
  | exact zgX (s := ⟨_, _, _, _, _, _, _⟩) ‹_› ‹_› ‹_› ‹_› (zt1 ‹_›)
  | exact zgX (s := ⟨_, _, _, _, _, _, _⟩) ‹_› ‹_› ‹_› ‹_› (ztq ‹_› ‹_› ‹_›)
  | exact zgX (s := ⟨_, _, _, _, _, _, _⟩) ‹_› ‹_› ‹_› ‹_› (zt9 ‹_› ‹_› ‹_›)
  | exact zgX (s := ⟨_, _, _, _, _, _, _⟩) ‹_› ‹_› ‹_› ‹_› (zuh ‹_› ‹_› ‹_›)
  | exact zgX (s := ⟨_, _, _, _, _, _, _⟩) ‹_› ‹_› ‹_› ‹_› (zto ‹_› ‹_› ‹_›)
  | (have h := zsU (s := ⟨_, _, _, _, _, _, _⟩) ‹_› ‹_›; rw [h])
noncomputable def S60 : SFn
 | [a0], k => zcu a0 fun L_l => asL HI.pv L_l fun l => .req (l.length <= 4000) (k (L60 l))
 | _, _ => .fail
theorem t60 : FnS Tryz.prog GG 60 S60 := by
 intro args k gt go R v os n h
 unfold S60 at h
 split at h
 . obtain ⟨L_l, _, h⟩ := zbn h
   obtain ⟨l, _, h⟩ := zaN h
   obtain ⟨hp, _, h⟩ := zar h
   exact ⟨_, _, s60 l hp, h⟩
 . cases h
end
section
def c28 : MC := .seq (.reg [oo 6 (.alloc [(.val (.slice none 0 0)),(.val (.slice none 0 0))]),oo 7 (.mv (ki 0))]) (.seq (.seq (.reg [om 13 0,om 14 1,om 15 2,oo 16 (fc 62 [(.t 13),(.t 14),(.t 15)]),om 8 16]) (.seq (.reg [om 17 8,oo 18 (cc .neq 17 0)]) (.cond (.t 18) (.seq (.reg [oo 19 (.bld [(.val (.slice none 0 0)),(.val (.slice none 0 0))] []),om 20 8,o none (.st (some 2) (.t 6) (.t 19)),om 7 20]) (.ret)) (.skip)))) (.seq (.seq (.reg [om 22 0,oo 23 (fc 60 [(.t 22)]),om 21 23,oo 24 (ex_ 0 21),oo 25 (ex_ 1 21),oo 9 (.alloc [(kz 0),(kz 0)]),oo 10 (.alloc [(kz 0),(kz 0)]),o none (.st (some 2) (.t 9) (.t 24)),o none (.st (some 2) (.t 10) (.t 25))]) (.seq (.reg [oo 26 (.ixr 2 1 (.t 10) (ki 0)),oo 27 (ln 26),oo 28 (cc .gtr 27 200),sm 29 28,gf 29 30 (.ixr 2 1 (.t 10) (ki 1)),gf 29 31 (ln 30),gf 29 32 (cc .gtr 31 75),oo 33 (pt 29 32)]) (.cond (.t 33) (.seq (.reg [oo 34 (.bld [(.val (.slice none 0 0)),(.val (.slice none 0 0))] []),o none (.st (some 2) (.t 6) (.t 34)),oo 7 (.mv (ki 2))]) (.ret)) (.skip)))) (.seq (.reg [om 35 0,oo 36 (fc 50 [(.t 35)]),om 37 0,om 38 1,oo 39 (fc 73 [kf,(.t 38)]),om 40 2,oo 41 (fc 73 [kt,(.t 40)]),oo 42 (.bld [(.val (.map none)),(.val (.map none)),(.val (.slice none 0 0)),(.val (.slice none 0 0)),(.val (.slice none 0 0)),(.val (.pointer none)),(.val (.pointer none))] [(0,2,(.t 36)),(2,1,(.t 37)),(5,1,(.t 39)),(6,1,(.t 41))]),oo 43 (.box (.t 42)),om 11 43]) (.seq (.seq (.reg [om 44 0,oo 45 (.lenS (.t 44)),oo 46 (.mv (ki 0))]) (.blk 0 (.loop 0 (.seq (.reg [oo 47 (ct .lss 46 45)]) (.seq (.cond (.t 47) (.skip) (.exit 0)) (.seq (.blk 1 (.seq (.reg [om 48 46,om 12 48]) (.reg [om 49 11,om 50 12,oo 51 (fc 74 [(.t 49),(.t 50)])]))) (.reg [oo 52 (ac .add 46 1),om 46 52]))))))) (.seq (.reg [om 53 11,oo 54 (.nchk (.t 53)),oo 55 (fl 3 54),oo 56 (ls 2 55),o none (.st (some 2) (.t 6) (.t 56)),oo 7 (.mv (ki 0))]) (.ret))))))
theorem k28 : zan Tryz.prog 28 57 c28 [.c 6 (some 2),.t 7] := fk Tryz.func28 ⟨tv,⟨⟨tv,⟨tv,⟨⟨tv,tv⟩,tv⟩⟩⟩,⟨⟨tv,⟨tv,⟨⟨tv,tv⟩,tv⟩⟩⟩,⟨tv,⟨⟨tv,⟨tv,⟨⟨tv,tv⟩,⟨⟨tv,tv⟩,tv⟩⟩⟩⟩,⟨tv,tv⟩⟩⟩⟩⟩⟩
attribute [local irreducible] zaT zav zcb zdq zbm
def zdX (l : List HI) (w v : Int) : Int := if zbZ l w v ≠ 0 then zbZ l w v else if 200 < (zcb l).v0 \/ 75 < (zcb l).v1 then 2 else 0
def s0A (l : List HI) (w v : Int) : AS := ⟨(zav l).1, (zav l).2, l, [], [], zdq false w, zdq true v⟩
def stN (l : List HI) (w v : Int) : Nat -> AS
 | 0 => s0A l w v
 | k + 1 => zbm (stN l w v k) k
def zfw (l : List HI) (w v : Int) : List HI := if zdX l w v = 0 then (stN l w v l.length).L else []
def zgs (l : List HI) (w v : Int) : List Int := if zdX l w v = 0 then (stN l w v l.length).fr else []
def zr9 (l : List HI) (w v : Int) : Prop := zdX l w v = 0 -> ∀ i : Int, 0 <= i -> i < l.length -> zfc (stN l w v i.toNat) i
abbrev zF0 (s : AS) : List (Nat × Option SO) := [(0, some (.row [.mp 1, .mp 2, .rd (.sl 15 (List.map HI.pv (s).code)), .slc 3 0 (s).L.length, .slc 4 0 (s).fr.length, .ptr 5 0 0, .ptr 6 0 0])), (1, some (.map MTS (s).us none)), (2, some (.map MTS (s).ds none)), (3, some (.vec 15 (List.map HI.pv (s).L))), (4, some (.vec 1 (List.map ipv (s).fr))), (5, some (.row [.bool (s).w.vec, .mp 7, .mp 8, .mp 9, .mp 10, .mp 11])), (6, some (.row [.bool (s).v.vec, .mp 12, .mp 13, .mp 14, .mp 15, .mp 16])), (7, some (.map MIB (s).w.free none)), (8, some (.map MII (s).w.holds none)), (9, some (.map MII (s).w.at_ none)), (10, some (.map MII (s).w.slot none)), (11, some (.map MIB (s).w.slots none)), (12, some (.map MIB (s).v.free none)), (13, some (.map MII (s).v.holds none)), (14, some (.map MII (s).v.at_ none)), (15, some (.map MII (s).v.slot none)), (16, some (.map MIB (s).v.slots none))]
def zCQ (l : List HI) (w v : Int) (i : Int) : St := ⟨[(46, kz i), (45, kz l.length), (11, .ptr 0 0 0), (6, .ptr 17 0 0)], zF0 (stN l w v i.toNat) ++ [(17, some (.row [.val (.slice none 0 0), .val (.slice none 0 0)]))], 18⟩
def I28 (l : List HI) (i : Int) : Prop := 0 <= i /\ i <= l.length /\ l.length <= 4000
theorem zrf {l : List HI} {w v i : Int} (h : 0 <= i) : stN l w v (i + 1).toNat = zbm (stN l w v i.toNat) i := by
 have e : (i + 1).toNat = i.toNat + 1 := by omega
 have e2 : ((i.toNat : Nat) : Int) = i := by omega
 rw [e, stN, e2]
theorem znr {l : List HI} {w v : Int} (h : ¬ zbZ l w v = 0) : zdX l w v = zbZ l w v := by unfold zdX; rw [if_pos h]
theorem zgH {l : List HI} {w v : Int} (h : ¬ ¬ zbZ l w v = 0) (h2 : 200 < (zcb l).v0 \/ 75 < (zcb l).v1) : zdX l w v = 2 := by unfold zdX; rw [if_neg h, if_pos h2]
theorem zpo {l : List HI} {w v : Int} (h : ¬ ¬ zbZ l w v = 0) (h2 : ¬ 200 < (zcb l).v0) (h3 : ¬ 75 < (zcb l).v1) : zdX l w v = 0 := by unfold zdX; rw [if_neg h, if_neg (by omega)]
theorem zkV {l : List HI} {w v e : Int} (h : zdX l w v = e) (he : e ≠ 0) : zfw l w v = [] := by unfold zfw; rw [if_neg (by rw [h]; exact he)]
theorem zkO {l : List HI} {w v e : Int} (h : zdX l w v = e) (he : e ≠ 0) : zgs l w v = [] := by unfold zgs; rw [if_neg (by rw [h]; exact he)]
theorem zxV {l : List HI} {w v : Int} (h : ¬ ¬ zbZ l w v = 0) : l.length <= 4000 := by
 unfold zbZ at h
 split at h
 . next q => exact absurd (by decide) h
 . next q => exact lc q
theorem zrH {l : List HI} {w v : Int} (h : ¬ ¬ zbZ l w v = 0) : 0 <= w /\ w <= 1000 /\ 0 <= v /\ v <= 1000 := by
 unfold zbZ at h
 split at h
 . next q => exact absurd (by decide) h
 . split at h
   . exact absurd (by decide) h
   . omega
theorem zFN {l : List HI} {w v i : Int} (h0 : zdX l w v = 0) (h : I28 l i) (hi : ¬ i < l.length) : zfw l w v = (stN l w v i.toNat).L := by
 obtain ⟨h1, h2, _⟩ := h
 have : i.toNat = l.length := by omega
 unfold zfw; rw [if_pos h0, this]
theorem zHp {l : List HI} {w v i : Int} (h0 : zdX l w v = 0) (h : I28 l i) (hi : ¬ i < l.length) : zgs l w v = (stN l w v i.toNat).fr := by
 obtain ⟨h1, h2, _⟩ := h
 have : i.toNat = l.length := by omega
 unfold zgs; rw [if_pos h0, this]
theorem zCx {l : List HI} {w v : Int} (h : ¬ ¬ zbZ l w v = 0) : I28 l 0 := ⟨by omega, by omega, zxV h⟩
theorem zzw {l : List HI} {i : Int} (h : I28 l i) (hi : i < l.length) : I28 l (i + 1) /\ ((l.length : Int) - (i + 1)).toNat < ((l.length : Int) - i).toNat := ⟨⟨by have := h.1; omega, by omega, h.2.2⟩, by have := h.1; omega⟩
noncomputable def L28 (l : List HI) (w : Int) (v : Int) : zaa := ⟨[.rd (.sl 15 (l.map HI.pv)), kz w, kz v], [], [], [.vec 15 (List.map HI.pv (zfw l w v)), .vec 1 (List.map ipv (zgs l w v))], .tup [.agg [.slc 0 0 (zfw l w v).length, .slc 1 0 (zgs l w v).length], kz (zdX l w v)]⟩
set_option maxHeartbeats 20000000 in
theorem s28 (l : List HI) (w : Int) (v : Int) (ho : zr9 l w v) : zaa.ok Tryz.prog GG 28 (L28 l w v) := by
 refine zac mix k28 _ rfl rfl (Tab.ok (l := [(62, S62), (60, S60), (50, S50), (73, S73), (74, S74)]) ⟨t62, t60, t50, t73, t74, trivial⟩) (fun _ => .inv Int (fun _ => I28 l) (zCQ l w v) (fun i => ((l.length : Int) - i).toNat)) noJ ?_
 repeat' ((conv => whnf); first
  | exact trivial
  | with_reducible first | refine aj ?_ | refine ai rfl ?_ | refine ai ⟨rfl, rfl⟩ ?_
  | ((with_reducible refine ai ?_ ?_); focus exact w3)
  | with_reducible first | apply exW (γ := Int) (c := _) | refine exI (i64_in (by simp only [I28, List.length_map] at *; omega) (by simp only [I28, List.length_map] at *; omega)) ?_ | refine And.intro (Sd.mk (p := _ <= 4000) (zxV ‹_›)) ?_ | refine And.intro (Sd.mk (p := 0 <= w /\ w <= 1000) ⟨(zrH ‹_›).1, (zrH ‹_›).2.1⟩) ?_ | refine And.intro (Sd.mk (p := 0 <= v /\ v <= 1000) (zrH ‹_›).2.2) ?_
  | refine And.intro (Sd.mk (p := zfc _ _) (ho (zpo ‹_› ‹_› ‹_›) _ (by simp only [I28, List.length_map] at *; omega) (by simp only [I28, List.length_map] at *; omega))) ?_
  | with_reducible first | refine And.intro ?_ ?_ | refine zae ?_ | refine exI (i64_in (by omega) (by omega)) ?_
  | refine exI (x := ULift.up _) (Eq.refl _) ?_
  | refine exI (x := ULift.up _) ⟨rfl, by omega, Eq.refl _⟩ ?_
  | exact nx
  | ((with_reducible intro h); try dsimp only at h))
 all_goals (refine Sd.mk ?_)
 all_goals first
  | exact zCx ‹_›
  | exact zzw ‹_› ‹_›
  | exact (znr ‹_›)
  | exact ⟨rfl, by rw [zkV (znr ‹_›) ‹_›]; rfl, rfl⟩
  | exact ⟨rfl, by rw [zkO (znr ‹_›) ‹_›]; rfl, rfl⟩
  | (rw [zkV (znr ‹_›) ‹_›]; rfl)
  | (rw [zkO (znr ‹_›) ‹_›]; rfl)
  | exact (zgH ‹_› (.inl ‹_›))
  | exact ⟨rfl, by rw [zkV (zgH ‹_› (.inl ‹_›)) (by decide)]; rfl, rfl⟩
  | exact ⟨rfl, by rw [zkO (zgH ‹_› (.inl ‹_›)) (by decide)]; rfl, rfl⟩
  | (rw [zkV (zgH ‹_› (.inl ‹_›)) (by decide)]; rfl)
  | (rw [zkO (zgH ‹_› (.inl ‹_›)) (by decide)]; rfl)
  | exact (zgH ‹_› (.inr ‹_›))
  | exact ⟨rfl, by rw [zkV (zgH ‹_› (.inr ‹_›)) (by decide)]; rfl, rfl⟩
  | exact ⟨rfl, by rw [zkO (zgH ‹_› (.inr ‹_›)) (by decide)]; rfl, rfl⟩
  | (rw [zkV (zgH ‹_› (.inr ‹_›)) (by decide)]; rfl)
  | (rw [zkO (zgH ‹_› (.inr ‹_›)) (by decide)]; rfl)
  | exact (zpo ‹_› ‹_› ‹_›)
  | exact ⟨rfl, rfl, rfl⟩
  | exact ⟨rfl, by rw [zFN (zpo ‹_› ‹_› ‹_›) ‹_› ‹_›]⟩
  | exact ⟨rfl, by rw [zHp (zpo ‹_› ‹_› ‹_›) ‹_› ‹_›]⟩
  | (rw [zrf] <;> first | rfl | exact ⟨rfl, rfl⟩ | (simp only [I28] at *; omega))
end
section
theorem zcp {M : List HR} {i : Int} (h : 0 <= i /\ i < M.length) : nth M i = M[i.toNat]'(by omega) := by
 have e := zbN M i h
 rw [List.getElem?_eq_getElem (by omega)] at e
 exact (Option.some.inj e).symm
theorem zob {M : List HR} {i k : Int} {x : HR} (hi : 0 <= i) (hk : 0 <= k /\ k < M.length) : nth (M.set i.toNat x) k = if k = i then x else nth M k := by
 rw [zcp (M := M.set i.toNat x) (by rw [List.length_set]; exact hk), List.getElem_set]
 by_cases h : k = i
 . rw [if_pos h, if_pos (by omega)]
 . rw [if_neg h, if_neg (by omega), zcp hk]
def swq (M : List HR) (i j : Int) : List HR := (M.set i.toNat (nth M j)).set j.toNat (nth M i)
theorem zbr {M : List HR} {i j : Int} : (swq M i j).length = M.length := by unfold swq; rw [List.length_set, List.length_set]
theorem za9 {M : List HR} {i j k : Int} (hi : 0 <= i) (hj : 0 <= j) (hk : 0 <= k /\ k < M.length) : nth (swq M i j) k = if k = j then nth M i else if k = i then nth M j else nth M k := by
 unfold swq
 rw [zob hj (by rw [List.length_set]; exact hk), zob hi hk]
theorem zrT {M : List HR} {i j : Int} (hi : 0 <= i /\ i < M.length) (hj : 0 <= j /\ j < M.length) : (swq M i j).Perm M := by
 unfold swq
 rw [zcp hi, zcp hj]
 exact List.set_set_perm _ _
abbrev ltR (x y : HR) : Prop := zaI x y < 0
structure Seg (a b : Int) (L M : List HR) : Prop where
 len : M.length = L.length
 pm : M.Perm L
 out : ∀ k : Int, 0 <= k -> k < L.length -> (k < a \/ b <= k) -> nth M k = nth L k
theorem Seg.rfl {a b L} : Seg a b L L := ⟨_root_.rfl, .refl _, fun _ _ _ _ => _root_.rfl⟩
theorem Seg.trans {a b L M N} (h : Seg a b L M) (g : Seg a b M N) : Seg a b L N :=
 ⟨g.len.trans h.len, g.pm.trans h.pm, fun k h0 h1 h2 => (g.out k h0 (by rw [h.len]; exact h1) h2).trans (h.out k h0 h1 h2)⟩
theorem Seg.mono {a b a' b' L M} (h : Seg a b L M) (ha : a' <= a) (hb : b <= b') : Seg a' b' L M :=
 ⟨h.len, h.pm, fun k h0 h1 h2 => h.out k h0 h1 (by omega)⟩
theorem Seg.swq {a b L M} (h : Seg a b L M) {i j : Int} (h0 : 0 <= a) (hb : b <= L.length) (hi : a <= i /\ i < b) (hj : a <= j /\ j < b) : Seg a b L (swq M i j) := by
 have hl := h.len
 refine ⟨zbr.trans hl, (zrT (by omega) (by omega)).trans h.pm, fun k g0 g1 g2 => ?_⟩
 rw [za9 (by omega) (by omega) (by omega), if_neg (by omega), if_neg (by omega)]
 exact h.out k g0 g1 g2
theorem zoo {M : List HR} (hn : M.Nodup) {i j : Int} (hi : 0 <= i /\ i < M.length) (hj : 0 <= j /\ j < M.length) (h : nth M i = nth M j) : i = j := by
 rw [zcp hi, zcp hj, List.getElem_inj hn] at h
 omega
theorem Seg.nd {a b L M} (h : Seg a b L M) (hn : L.Nodup) : M.Nodup := h.pm.nodup_iff.2 hn
theorem Seg.at_ {a b L M} (h : Seg a b L M) (hn : L.Nodup) (h0 : 0 <= a) (hb : b <= L.length) {k : Int} (hk : a <= k /\ k < b) : ∃ k', (a <= k' /\ k' < b) /\ nth M k = nth L k' := by
 have hl := h.len
 have hm : nth M k ∈ L := by
  rw [zcp (by omega)]
  exact h.pm.subset (List.getElem_mem _)
 obtain ⟨i, hi, e⟩ := List.mem_iff_getElem.1 hm
 have e2 : nth L (i : Int) = nth M k := by rw [zcp (by omega)]; exact e
 refine ⟨i, ?_, e2.symm⟩
 by_cases c : (i : Int) < a \/ b <= i
 . have e3 := h.out i (by omega) (by omega) c
   have := zoo (h.nd hn) (i := (i : Int)) (j := k) (by omega) (by omega) (e3.trans e2)
   omega
 . omega
theorem zid {M : List HR} (hn : M.Nodup) {i j : Int} (hi : 0 <= i /\ i < M.length) (hj : 0 <= j /\ j < M.length) (hij : i ≠ j) (h : ¬ ltR (nth M i) (nth M j)) : ltR (nth M j) (nth M i) := by
 rcases zhE (nth M i) (nth M j) with c | c | c
 . exact absurd c h
 . exact c
 . exact absurd (zoo hn hi hj c) hij
def Lo (a b : Int) (L : List HR) : Prop := 0 < a -> ∀ k, a <= k -> k < b -> ltR (nth L (a - 1)) (nth L k)
theorem Lo.seg {a b L M} (h : Lo a b L) (g : Seg a b L M) (hn : L.Nodup) (h0 : 0 <= a) (hb : b <= L.length) : Lo a b M := by
 intro ha k h1 h2
 obtain ⟨k', h3, e⟩ := g.at_ hn h0 hb ⟨h1, h2⟩
 rw [e, g.out (a - 1) (by omega) (by omega) (by omega)]
 exact h ha k' h3.1 h3.2
def Srt (a b : Int) (M : List HR) : Prop := ∀ p q, a <= p -> p < q -> q < b -> ltR (nth M p) (nth M q)
theorem zuM {L M : List HR} (h : Seg 0 L.length L M) (hs : Srt 0 L.length M) : zbE L = M := by
 have hl := h.len
 have e1 : (zbE M).Pairwise (fun a b => geR b a) := by
  unfold zbE
  rw [List.pairwise_reverse]
  exact zk8 M [] .nil
 have e2 : M.Pairwise (fun a b => geR b a) := by
  rw [List.pairwise_iff_getElem]
  intro i j hi hj hij
  have := hs i j (by omega) (by omega) (by omega)
  rw [zcp (by omega), zcp (by omega)] at this
  exact fun k => zcC _ (zbW this k)
 rw [znd h.pm.symm]
 refine List.Perm.eq_of_pairwise (fun a b _ _ h1 h2 => ?_) e1 e2 (zhc M)
 rcases zhE a b with e | e | e
 . exact absurd e h2
 . exact absurd e h1
 . exact e
def rnk (L : List HR) (a b : Int) (x : HR) : Int := (((L.take b.toNat).drop a.toNat).countP (fun y => decide (zaI y x < 0)) : Nat)
theorem zuv {L M : List HR} (hl : M.length = L.length) {a : Int} (h : ∀ k : Int, 0 <= k -> k < L.length -> k < a -> nth M k = nth L k) : M.take a.toNat = L.take a.toNat := by
 refine List.ext_getElem (by rw [List.length_take, List.length_take, hl]) fun i h1 h2 => ?_
 rw [List.length_take] at h1
 rw [List.getElem_take, List.getElem_take]
 have := h (i : Int) (by omega) (by omega) (by omega)
 rw [zcp (by omega), zcp (by omega)] at this
 exact this
theorem zuq {L M : List HR} (hl : M.length = L.length) {b : Int} (h0 : 0 <= b) (h : ∀ k : Int, 0 <= k -> k < L.length -> b <= k -> nth M k = nth L k) : M.drop b.toNat = L.drop b.toNat := by
 refine List.ext_getElem (by rw [List.length_drop, List.length_drop, hl]) fun i h1 h2 => ?_
 rw [List.length_drop] at h1
 rw [List.getElem_drop, List.getElem_drop]
 have := h ((b.toNat + i : Nat) : Int) (by omega) (by omega) (by omega)
 rw [zcp (by omega), zcp (by omega)] at this
 exact this
theorem zwx {L : List HR} {a b : Int} (h0 : 0 <= a) (h : a <= b) : L = L.take a.toNat ++ ((L.take b.toNat).drop a.toNat ++ L.drop b.toNat) := by
 have e : L.take a.toNat = (L.take b.toNat).take a.toNat := by rw [List.take_take, Nat.min_eq_left (by omega)]
 rw [<- List.append_assoc, e, List.take_append_drop, List.take_append_drop]
theorem Seg.mid {a b L M} (h : Seg a b L M) (h0 : 0 <= a) (hab : a <= b) : ((M.take b.toNat).drop a.toNat).Perm ((L.take b.toNat).drop a.toNat) := by
 have hp := h.pm
 rw [zwx (L := M) h0 hab, zwx (L := L) h0 hab, zuv h.len (fun k g0 g1 g2 => h.out k g0 g1 (.inl g2)), zuq h.len (by omega) (fun k g0 g1 g2 => h.out k g0 g1 (.inr g2))] at hp
 exact (List.perm_append_right_iff _).1 ((List.perm_append_left_iff _).1 hp)
theorem zoq {M : List HR} {a b : Int} (h0 : 0 <= a) {x : HR} (h : x ∈ (M.take b.toNat).drop a.toNat) : ∃ k : Int, a <= k /\ k < b /\ k < M.length /\ nth M k = x := by
 obtain ⟨i, hi, e⟩ := List.mem_iff_getElem.1 h
 rw [List.length_drop, List.length_take] at hi
 rw [List.getElem_drop, List.getElem_take] at e
 refine ⟨((a.toNat + i : Nat) : Int), by omega, by omega, by omega, ?_⟩
 rw [zcp (by omega)]; exact e
theorem zAi {L M : List HR} {a b j : Int} {x : HR} (h : Seg a b L M) (h0 : 0 <= a) (hb : b <= L.length) (haj : a <= j) (hjb : j <= b) (h1 : ∀ k, a <= k -> k < j -> ltR (nth M k) x) (h2 : ∀ k, j <= k -> k < b -> ¬ ltR (nth M k) x) : a + rnk L a b x = j := by
 have hl := h.len
 unfold rnk
 rw [<- (h.mid h0 (by omega)).countP_eq]
 have e : (M.take b.toNat).drop a.toNat = (M.take j.toNat).drop a.toNat ++ (M.take b.toNat).drop j.toNat := by
  have e1 : M.take j.toNat = (M.take b.toNat).take j.toNat := by rw [List.take_take, Nat.min_eq_left (by omega)]
  conv => lhs; rw [<- List.take_append_drop j.toNat (M.take b.toNat), <- e1]
  rw [List.drop_append_of_le_length (by rw [List.length_take]; omega)]
 rw [e, List.countP_append, List.countP_eq_length.2, List.countP_eq_zero.2]
 . rw [List.length_drop, List.length_take]; omega
 . intro y hy
   obtain ⟨k, g1, g2, g3, rfl⟩ := zoq (by omega) hy
   simpa using h2 k g1 g2
 . intro y hy
   obtain ⟨k, g1, g2, g3, rfl⟩ := zoq (by omega) hy
   simpa using h1 k g1 g2
end
section
def zIq : MC := .seq (.reg [om 10 1,om 8 10]) (.seq (.reg [om 11 2,oo 12 (ac .sub 11 1),om 9 12]) (.blk 0 (.loop 0 (.seq (.seq (.reg [om 13 8,om 14 9,oo 15 (ct .lss 13 14)]) (.cond (.t 15) (.skip) (.exit 0))) (.blk 1 (.seq (.drw [om 16 0,om 17 8,om 18 0,om 19 9,om 20 0,om 21 9,oo 22 (ia 2 20 21),oo 23 (ls 2 22),om 24 0,om 25 8,oo 26 (ia 2 24 25),oo 27 (ls 2 26),oo 28 (ia 2 16 17),o none (.st (some 2) (.t 28) (.t 23)),oo 29 (ia 2 18 19),o none (.st (some 2) (.t 29) (.t 27))] [[],[],[],[],[],[],[4,5],[6],[],[],[8,9],[10],[0,1,0,1,4,5,6,7,11],[12,7,0,1,4,5,6,7,11],[2,3,0,1,2,3,4,5,6,7,8,9,10,11,12,13],[14,11,13,0,1,2,3,4,5,6,7,8,9,10,11,12,13]]) (.seq (.reg [om 30 8,oo 31 (ac .add 30 1),om 8 31]) (.reg [om 32 9,oo 33 (ac .sub 32 1),om 9 33]))))))))
theorem zEV : zan Tryz.prog 185 34 zIq [] := fk Tryz.func185 ⟨tv,⟨tv,⟨⟨tv,⟨tv,tv⟩⟩,⟨tv,⟨tv,tv⟩⟩⟩⟩⟩
def VX (P : List HR -> Prop) (R : List (List PV)) : Prop := ∃ M : List HR, P M /\ R = M.map HR.pv
theorem zun {P : List HR -> Prop} {Q : List (List PV) -> Prop} (h : ∀ M : List HR, P M -> Q (M.map HR.pv)) : ∀ R, VX P R -> Q R := fun R ⟨M, h1, h2⟩ => by subst h2; exact h M h1
theorem vx {P : List HR -> Prop} {M : List HR} (h : P M) : VX P (List.map HR.pv M) := ⟨M, h, rfl⟩
theorem zfF {M : List HR} {i j : Int} : List.map HR.pv (swq M i j) = ((List.map HR.pv M).set (0 + i.toNat) [PV.bool (nth M j).vec, PV.int IntKind.i64 (nth M j).n]).set (0 + j.toNat) [PV.bool (nth M i).vec, PV.int IntKind.i64 (nth M i).n] := by
 unfold swq; rw [List.map_set, List.map_set, Nat.zero_add, Nat.zero_add]; rfl
theorem pgq {M : List HR} {y : HR} {a k : Int} (h : 0 <= k /\ k < M.length) : (List.set (List.map HR.pv M) (0 + a.toNat) (HR.pv y))[0 + k.toNat]? = some (HR.pv (nth (M.set (0 + a.toNat) y) k)) := by
 rw [<- List.map_set, za8 _ _ _ (by rw [List.length_set]; exact h)]
def Pre (a b : Int) (L : List HR) : Prop := 0 <= a /\ a <= b /\ b <= L.length /\ L.length <= 1000000
abbrev zkK := Int × Int × List HR
def zyT (L : List HR) : zkK -> St
 | (i, j, M) => ⟨[(9, kz j), (8, kz i), (0, .slc 0 0 L.length)], [(0, some (.vec 2 (M.map HR.pv)))], 1⟩
def zd9 (a b : Int) (L : List HR) : zkK -> Prop
 | (i, j, M) => Pre a b L /\ a <= i /\ i <= b /\ a - 1 <= j /\ j < b /\ M.length = L.length /\ Seg a b L M
def zCB (a b : Int) (L : List HR) : Nat -> zbO := fun _ => .inv zkK (fun _ => zd9 a b L) (zyT L) (fun c => (c.2.1 - c.1).toNat)
theorem zy5 {a b : Int} {L : List HR} {Q : zkK -> Prop} (h : ∀ i j M, zd9 a b L (i, j, M) -> Q (i, j, M)) : ∀ c, zd9 a b L c -> Q c := fun ⟨i, j, M⟩ hI => h _ _ _ hI
theorem zCO {a b : Int} {L : List HR} {i j : Int} {M : List HR} (_ : zd9 a b L (i, j, M)) {p q : zkK -> Prop} (h : p (i + 1, j - 1, swq M i j)) (k : q (i + 1, j - 1, swq M i j)) : ∃ c, p c /\ q c := ⟨_, h, k⟩
theorem zFe {a b : Int} {L : List HR} (h : Pre a b L) : zd9 a b L (a, b - 1, L) := ⟨h, by omega, h.2.1, by have := h.2.1; omega, by omega, rfl, .rfl⟩
theorem zCJ {a b : Int} {L : List HR} {i j : Int} {M : List HR} (h : zd9 a b L (i, j, M)) (hij : i < j) : zd9 a b L (i + 1, j - 1, swq M i j) /\ (j - 1 - (i + 1)).toNat < (j - i).toNat := by
 obtain ⟨h1, h2, h3, h4, h5, h6, h7⟩ := h
 exact ⟨⟨h1, by omega, by omega, by omega, by omega, zbr.trans h6, h7.swq h1.1 h1.2.2.1 (by omega) (by omega)⟩, by omega⟩
theorem zFL {a b : Int} {L : List HR} {i j : Int} {M : List HR} (h : zd9 a b L (i, j, M)) : Seg a b L M := h.2.2.2.2.2.2
abbrev O1g := Int × List HR
abbrev C1g := Int × Int × List HR
def zyJ (L : List HR) (a b : Int) : O1g -> St
 | (i, M) => ⟨[(8, kz i), (3, .fn (.func 52) [] []), (2, kz b), (1, kz a), (0, .slc 0 0 L.length)], [(0, some (.vec 2 (M.map HR.pv)))], 1⟩
def zyc (L : List HR) (a b : Int) : C1g -> St
 | (i, j, M) => ⟨[(9, kz j), (8, kz i), (3, .fn (.func 52) [] []), (2, kz b), (1, kz a), (0, .slc 0 0 L.length)], [(0, some (.vec 2 (M.map HR.pv)))], 1⟩
def zeC (L : List HR) (a b : Int) : O1g -> Prop
 | (i, M) => Pre a b L /\ L.Nodup /\ a + 1 <= i /\ (i <= b \/ i = a + 1) /\ M.length = L.length /\ Seg a b L M /\ Srt a i M
def zeg (L : List HR) (a b : Int) (c0 : C1g) : C1g -> Prop
 | (i, j, M) => i = c0.1 /\ Pre a b L /\ L.Nodup /\ a <= j /\ j <= i /\ a + 1 <= i /\ i < b /\ M.length = L.length /\ Seg a b L M /\ ∀ p q, a <= p -> p < q -> q <= i -> q ≠ j -> ltR (nth M p) (nth M q)
def zFO (L : List HR) (a b : Int) : Nat -> zbO
 | 0 => .inv O1g (fun _ => zeC L a b) (zyJ L a b) (fun c => (L.length + 1 - c.1).toNat)
 | _ => .inv C1g (zeg L a b) (zyc L a b) (fun c => (c.2.1 - a).toNat)
theorem zwd {L : List HR} {a b : Int} {Q : O1g -> Prop} (h : ∀ i M, zeC L a b (i, M) -> Q (i, M)) : ∀ c, zeC L a b c -> Q c := fun ⟨i, M⟩ hI => h _ _ hI
theorem zxk {L : List HR} {a b : Int} {i x} {Q : C1g -> Prop} (h : ∀ j M, zeg L a b (i, x) (i, j, M) -> Q (i, j, M)) : ∀ c, zeg L a b (i, x) c -> Q c := fun ⟨i', j, M⟩ hI => by
 have h1 := hI.1
 dsimp only at h1
 subst h1
 exact h _ _ hI
theorem zCH {L : List HR} {a b : Int} {c0 : C1g} {i j : Int} {M : List HR} (_ : zeg L a b c0 (i, j, M)) {p q : C1g -> Prop} (h : p (i, j - 1, swq M j (j - 1))) (k : q (i, j - 1, swq M j (j - 1))) : ∃ c, p c /\ q c := ⟨_, h, k⟩
theorem zGF {L : List HR} {a b : Int} (h : Pre a b L) (hn : L.Nodup) : zeC L a b (a + 1, L) := ⟨h, hn, by omega, .inr rfl, rfl, .rfl, fun p q _ _ _ => by omega⟩
theorem zKf {L : List HR} {a b i : Int} {M : List HR} (h : zeC L a b (i, M)) (hi : i < b) : zeg L a b (i, i, M) (i, i, M) := by
 obtain ⟨h1, h2, h3, h4, h5, h6, h7⟩ := h
 exact ⟨rfl, h1, h2, by omega, by omega, h3, hi, h5, h6, fun p q g1 g2 g3 g4 => h7 p q g1 g2 (by omega)⟩
theorem zCc {L : List HR} {a b : Int} {c0 : C1g} {i j : Int} {M : List HR} (h : zeg L a b c0 (i, j, M)) (hj : a < j) (e : zaI (nth M j) (nth M (j - 1)) < 0) : zeg L a b c0 (i, j - 1, swq M j (j - 1)) /\ (j - 1 - a).toNat < (j - a).toNat := by
 obtain ⟨h1, h2, h3, h4, h5, h6, h7, h8, h9, hs⟩ := h
 have hp := h2
 unfold Pre at hp
 refine ⟨⟨h1, h2, h3, by omega, by omega, h6, h7, zbr.trans h8, h9.swq hp.1 hp.2.2.1 (by omega) (by omega), fun p q g1 g2 g3 g4 => ?_⟩, by omega⟩
 rw [za9 (by omega) (by omega) (by omega), za9 (by omega) (by omega) (by omega), if_neg g4]
 by_cases c1 : q = j
 . rw [if_pos c1]
   by_cases c2 : p = j - 1
   . rw [if_pos c2]; exact e
   . rw [if_neg c2, if_neg (by omega)]; exact hs p (j - 1) g1 (by omega) (by omega) (by omega)
 . rw [if_neg c1]
   by_cases c2 : p = j - 1
   . rw [if_pos c2]; exact hs j q h4 (by omega) g3 c1
   . rw [if_neg c2]
     by_cases c3 : p = j
     . rw [if_pos c3]; exact hs (j - 1) q (by omega) (by omega) g3 c1
     . rw [if_neg c3]; exact hs p q g1 g2 g3 c1
theorem zqV {L : List HR} {a b : Int} {c0 : C1g} {i j : Int} {M : List HR} (h : zeg L a b c0 (i, j, M)) (e : ¬ a < j \/ ¬ zaI (nth M j) (nth M (j - 1)) < 0) : zeC L a b (i + 1, M) /\ ((L.length : Int) + 1 - (i + 1)).toNat < ((L.length : Int) + 1 - i).toNat := by
 obtain ⟨h1, h2, h3, h4, h5, h6, h7, h8, h9, hs⟩ := h
 have hp := h2
 unfold Pre at hp
 refine ⟨⟨h2, h3, by omega, .inl (by omega), h8, h9, fun p q g1 g2 g3 => ?_⟩, by omega⟩
 by_cases c : q = j
 . subst c
   have e : ¬ zaI (nth M q) (nth M (q - 1)) < 0 := by
    rcases e with e | e
    . omega
    . exact e
   have e2 := zid (h9.nd h3) (i := q) (j := q - 1) (by omega) (by omega) (by omega) e
   by_cases c2 : p = q - 1
   . rw [c2]; exact e2
   . exact zbW (hs p (q - 1) g1 (by omega) (by omega) (by omega)) e2
 . exact hs p q g1 g2 (by omega) c
theorem zDP {L : List HR} {a b i : Int} {M : List HR} (h : zeC L a b (i, M)) (hi : ¬ i < b) : Seg a b L M /\ Srt a b M := by
 obtain ⟨h1, h2, h3, h4, h5, h6, h7⟩ := h
 exact ⟨h6, fun p q g1 g2 g3 => h7 p q g1 g2 (by omega)⟩
noncomputable def zA9 (L : List HR) (a : Int) (b : Int) : zaa := ⟨[.slc 0 0 L.length, kz a, kz b, .fn (.func 52) [] []], [.vec 2 (L.map HR.pv)], [some (.vex 2 (VX (Seg a b L)))], [], .tup []⟩
set_option maxHeartbeats 4000000 in
theorem zHo (L : List HR) (a : Int) (b : Int) (hp : Pre a b L) : zaa.ok Tryz.prog GG 185 (zA9 L a b) := by
 refine zac mix zEV _ rfl rfl (Tab.ok (l := []) trivial) (zCB a b L) noJ ?_
 repeat' ((conv => whnf); first
  | exact trivial
  | with_reducible first | refine aj ?_ | refine ai rfl ?_ | refine ai ⟨rfl, rfl⟩ ?_
  | ((with_reducible refine ai ?_ ?_); focus exact w3)
  | with_reducible first | refine zy5 ?_ | refine zCO (by with_reducible assumption) ?_ ?_ | apply exW (γ := zkK) (c := (_, _, _)) | refine exI (i64_in (by simp only [zd9, Pre, List.length_map] at *; omega) (by simp only [zd9, Pre, List.length_map] at *; omega)) ?_
  | refine exI (x := ULift.up _) (za8 _ _ _ (by simp only [zd9, Pre, List.length_map] at *; omega)) ?_
  | refine exI (x := ULift.up _) ⟨rfl, (by simp only [zd9, Pre, List.length_map] at *; omega), zbc _ _ _ (by simp only [zd9, Pre, List.length_map] at *; omega)⟩ ?_
  | refine exI (x := ULift.up _) (pgq (by simp only [zd9, Pre, List.length_map] at *; omega)) ?_
  | with_reducible first | refine And.intro (Sd.mk (p := (_ : Int) <= _ /\ _) (by simp only [zd9, Pre, List.length_map] at *; omega)) ?_ | refine And.intro ?_ ?_ | refine zae ?_ | refine exI (i64_in (by omega) (by omega)) ?_
  | refine exI (x := ULift.up _) (Eq.refl _) ?_
  | refine exI (x := ULift.up _) ⟨rfl, by omega, Eq.refl _⟩ ?_
  | exact nx
  | ((with_reducible intro h); try dsimp only at h))
 all_goals (refine Sd.mk ?_)
 all_goals (try simp only [HR.eta, true_and] at *)
 all_goals first
  | exact zfF
  | exact zFe hp
  | exact zCJ ‹_› ‹_›
  | exact vx (zFL ‹_›)
noncomputable def zrd : SFn
 | [.slc p 0 _, .int .i64 a, .int .i64 b, .fn (.func 52) [] []], k => .rO p fun o => match o with
   | some (.vec 2 LL) => asL HR.pv LL fun L => .req (Pre a b L) (k (zA9 L a b))
   | _ => .fail
 | _, _ => .fail
theorem zFd : FnS Tryz.prog GG 185 zrd := by
 intro args k gt go R v os n h
 unfold zrd at h
 split at h
 . cases h with
   | rO h =>
     dsimp only at h
     split at h
     . obtain ⟨L, _, h⟩ := zaN h
       obtain ⟨hp, _, h⟩ := zar h
       exact ⟨_, _, zHo L _ _ hp, h⟩
     . cases h
 . cases h
noncomputable def zue (L : List HR) (a : Int) (b : Int) : zaa := ⟨[.slc 0 0 L.length, kz a, kz b, .fn (.func 52) [] []], [.vec 2 (L.map HR.pv)], [some (.vex 2 (VX fun M => Seg a b L M /\ Srt a b M))], [], .tup []⟩
set_option maxHeartbeats 4000000 in
theorem zCK (L : List HR) (a : Int) (b : Int) (hp : Pre a b L /\ L.Nodup) : zaa.ok Tryz.prog GG 181 (zue L a b) := by
 refine zac mix zKd _ rfl rfl (Tab.ok (l := [(52, S52)]) ⟨t52, trivial⟩) (zFO L a b) noJ ?_
 repeat' ((conv => whnf); first
  | exact trivial
  | with_reducible first | refine aj ?_ | refine ai rfl ?_ | refine ai ⟨rfl, rfl⟩ ?_
  | ((with_reducible refine ai ?_ ?_); focus exact w3)
  | with_reducible first | refine zwd ?_ | refine zxk ?_ | refine zCH (by with_reducible assumption) ?_ ?_ | apply exW (γ := C1g) (c := (_, _, _)) | apply exW (γ := O1g) (c := (_, _)) | refine exI (i64_in (by simp only [zeC, zeg, Pre, List.length_map] at *; omega) (by simp only [zeC, zeg, Pre, List.length_map] at *; omega)) ?_
  | refine exI (x := ULift.up _) (za8 _ _ _ (by simp only [zeC, zeg, Pre, List.length_map] at *; omega)) ?_
  | refine exI (x := ULift.up _) ⟨rfl, (by simp only [zeC, zeg, Pre, List.length_map] at *; omega), zbc _ _ _ (by simp only [zeC, zeg, Pre, List.length_map] at *; omega)⟩ ?_
  | refine exI (x := ULift.up _) (pgq (by simp only [zeC, zeg, Pre, List.length_map] at *; omega)) ?_
  | with_reducible first | refine And.intro (Sd.mk (p := (_ : Int) <= _ /\ _) (by simp only [zeC, zeg, Pre, List.length_map] at *; omega)) ?_ | refine And.intro ?_ ?_ | refine zae ?_ | refine exI (i64_in (by omega) (by omega)) ?_
  | refine exI (x := ULift.up _) (Eq.refl _) ?_
  | refine exI (x := ULift.up _) ⟨rfl, by omega, Eq.refl _⟩ ?_
  | exact nx
  | ((with_reducible intro h); try dsimp only at h))
 all_goals (refine Sd.mk ?_)
 all_goals (try simp only [HR.eta, true_and] at *)
 all_goals first
  | exact zfF
  | exact zGF hp.1 hp.2
  | exact zKf ‹_› ‹_›
  | exact zCc ‹_› ‹_› ‹_›
  | exact zqV ‹_› (.inl ‹_›)
  | exact zqV ‹_› (.inr ‹_›)
  | exact vx (zDP ‹_› ‹_›)
noncomputable def zoJ : SFn
 | [.slc p 0 _, .int .i64 a, .int .i64 b, .fn (.func 52) [] []], k => .rO p fun o => match o with
   | some (.vec 2 LL) => asL HR.pv LL fun L => .req (Pre a b L /\ L.Nodup) (k (zue L a b))
   | _ => .fail
 | _, _ => .fail
theorem zDb : FnS Tryz.prog GG 181 zoJ := by
 intro args k gt go R v os n h
 unfold zoJ at h
 split at h
 . cases h with
   | rO h =>
     dsimp only at h
     split at h
     . obtain ⟨L, _, h⟩ := zaN h
       obtain ⟨hp, _, h⟩ := zar h
       exact ⟨_, _, zCK L _ _ hp, h⟩
     . cases h
 . cases h
end
section
def zFF : MC := .seq (.reg [oo 10 (.mv (ki 0)),oo 11 (.mv (ki 0))]) (.seq (.seq (.drw [om 12 4,om 13 0,om 14 2,oo 15 (ia 2 13 14),oo 16 (ls 2 15),om 17 0,om 18 1,oo 19 (ia 2 17 18),oo 20 (ls 2 19),oo 21 (.call (.t 12) [(.t 16),(.t 20)]),oo 22 (cc .lss 21 0)] [[],[],[],[1,2],[3],[],[],[5,6],[7],[0,4,8],[9]]) (.cond (.t 22) (.seq (.reg [om 23 3,oo 24 (.nchk (.t 23)),oo 25 (ln 24),oo 26 (ac .add 25 1),oo 27 (.nchk (.t 23)),o none (.st (some 1) (.t 27) (.t 26))]) (.seq (.reg [om 28 2,om 29 1,om 10 28,om 11 29]) (.ret))) (.skip))) (.seq (.reg [om 30 1,om 31 2,om 10 30,om 11 31]) (.ret)))
theorem zEG : zan Tryz.prog 224 32 zFF [.t 10,.t 11] := fk Tryz.func224 ⟨tv,⟨⟨tv,⟨⟨tv,⟨tv,tv⟩⟩,tv⟩⟩,⟨tv,tv⟩⟩⟩
def zFJ : MC := .seq (.reg [oo 12 (.mv (ki 0))]) (.seq (.reg [om 14 0,om 15 1,om 16 2,om 17 4,om 18 5,oo 19 (fc 224 [(.t 14),(.t 15),(.t 16),(.t 17),(.t 18)]),om 13 19,oo 20 (ex_ 0 13),oo 21 (ex_ 1 13),om 1 20,om 2 21]) (.seq (.reg [om 23 0,om 24 2,om 25 3,om 26 4,om 27 5,oo 28 (fc 224 [(.t 23),(.t 24),(.t 25),(.t 26),(.t 27)]),om 22 28,oo 29 (ex_ 0 22),oo 30 (ex_ 1 22),om 2 29,om 3 30]) (.seq (.reg [om 32 0,om 33 1,om 34 2,om 35 4,om 36 5,oo 37 (fc 224 [(.t 32),(.t 33),(.t 34),(.t 35),(.t 36)]),om 31 37,oo 38 (ex_ 0 31),oo 39 (ex_ 1 31),om 1 38,om 2 39]) (.seq (.reg [om 40 2,om 12 40]) (.ret)))))
theorem zJ7 : zan Tryz.prog 214 41 zFJ [.t 12] := fk Tryz.func214 ⟨tv,⟨tv,⟨tv,⟨tv,⟨tv,tv⟩⟩⟩⟩⟩
def zFu : MC := .seq (.reg [oo 8 (.mv (ki 0))]) (.seq (.reg [om 9 0,om 10 1,oo 11 (ac .sub 10 1),om 12 1,om 13 1,oo 14 (ac .add 13 1),om 15 2,om 16 3,oo 17 (fc 214 [(.t 9),(.t 11),(.t 12),(.t 14),(.t 15),(.t 16)]),om 8 17]) (.ret))
theorem zD7 : zan Tryz.prog 213 18 zFu [.t 8] := fk Tryz.func213 ⟨tv,⟨tv,tv⟩⟩
def zER : MC := .seq (.reg [oo 8 (.mv (ki 0)),oo 9 (.mv (ki 0))]) (.seq (.reg [om 15 2,om 16 1,oo 17 (at_ .sub 15 16),om 10 17]) (.seq (.reg [oo 11 (.alloc [(kz 0)])]) (.seq (.reg [om 18 1,om 19 10,oo 20 (ac .quo 19 4),oo 21 (ac .mul 20 1),oo 22 (at_ .add 18 21),om 12 22]) (.seq (.reg [om 23 1,om 24 10,oo 25 (ac .quo 24 4),oo 26 (ac .mul 25 2),oo 27 (at_ .add 23 26),om 13 27]) (.seq (.reg [om 28 1,om 29 10,oo 30 (ac .quo 29 4),oo 31 (ac .mul 30 3),oo 32 (at_ .add 28 31),om 14 32]) (.seq (.seq (.reg [om 33 10,oo 34 (cc .geq 33 8)]) (.cond (.t 34) (.seq (.seq (.reg [om 35 10,oo 36 (cc .geq 35 50)]) (.cond (.t 36) (.seq (.reg [om 37 0,om 38 12,om 39 3,oo 40 (fc 213 [(.t 37),(.t 38),(.t 11),(.t 39)]),om 12 40]) (.seq (.reg [om 41 0,om 42 13,om 43 3,oo 44 (fc 213 [(.t 41),(.t 42),(.t 11),(.t 43)]),om 13 44]) (.reg [om 45 0,om 46 14,om 47 3,oo 48 (fc 213 [(.t 45),(.t 46),(.t 11),(.t 47)]),om 14 48]))) (.skip))) (.reg [om 49 0,om 50 12,om 51 13,om 52 14,om 53 3,oo 54 (fc 214 [(.t 49),(.t 50),(.t 51),(.t 52),(.t 11),(.t 53)]),om 13 54])) (.skip))) (.seq (.reg [oo 55 (ln 11)]) (.blk 0 (.seq (.reg [oo 58 (cc .eql 55 0),om 57 58]) (.cond (.t 57) (.seq (.reg [om 59 13,om 8 59,oo 9 (.mv (ki 1))]) (.ret)) (.seq (.reg [oo 61 (cc .eql 55 12),om 60 61]) (.cond (.t 60) (.seq (.reg [om 62 13,om 8 62,oo 9 (.mv (ki 2))]) (.ret)) (.seq (.reg [om 56 13,om 8 56,oo 9 (.mv (ki 0))]) (.ret))))))))))))))
theorem zG5 : zan Tryz.prog 184 63 zER [.t 8,.t 9] := fk Tryz.func184 ⟨tv,⟨tv,⟨tv,⟨tv,⟨tv,⟨tv,⟨⟨tv,⟨⟨⟨tv,⟨⟨tv,⟨tv,tv⟩⟩,tv⟩⟩,tv⟩,tv⟩⟩,⟨tv,⟨tv,⟨⟨tv,tv⟩,⟨tv,⟨⟨tv,tv⟩,⟨tv,tv⟩⟩⟩⟩⟩⟩⟩⟩⟩⟩⟩⟩⟩
def InL (L : List HR) (a : Int) : Prop := 0 <= a /\ a < L.length
def InS (s : Int) : Prop := 0 <= s /\ s <= 1000
def o2 (L : List HR) (a b s : Int) : Int × Int × Int := if zaI (nth L b) (nth L a) < 0 then (b, a, s + 1) else (a, b, s)
theorem zGq {L : List HR} {a b s : Int} (h : zaI (nth L b) (nth L a) < 0) : o2 L a b s = (b, a, s + 1) := if_pos h
theorem zGf {L : List HR} {a b s : Int} (h : ¬ zaI (nth L b) (nth L a) < 0) : o2 L a b s = (a, b, s) := if_neg h
theorem zk3 {P : Int -> Prop} {L : List HR} {a b s : Int} (ha : P a) (hb : P b) : P (o2 L a b s).1 /\ P (o2 L a b s).2.1 /\ s <= (o2 L a b s).2.2 /\ (o2 L a b s).2.2 <= s + 1 := by
 unfold o2; split
 . exact ⟨hb, ha, by dsimp only; omega, by dsimp only; omega⟩
 . exact ⟨ha, hb, by dsimp only; omega, by dsimp only; omega⟩
def md2 (L : List HR) (a b c s : Int) := o2 L (o2 L a b s).2.1 c (o2 L a b s).2.2
def md3 (L : List HR) (a b c s : Int) := o2 L (o2 L a b s).1 (md2 L a b c s).1 (md2 L a b c s).2.2
def zf2 (L : List HR) (a b c s : Int) : Int × Int := ((md3 L a b c s).2.1, (md3 L a b c s).2.2)
theorem zug {P : Int -> Prop} {L : List HR} {a b c s : Int} (ha : P a) (hb : P b) (hc : P c) : P (md2 L a b c s).1 /\ P (md2 L a b c s).2.1 /\ s <= (md2 L a b c s).2.2 /\ (md2 L a b c s).2.2 <= s + 2 := by
 have h1 := zk3 (P := P) (L := L) (a := a) (b := b) (s := s) ha hb
 have h2 := zk3 (P := P) (L := L) (a := (o2 L a b s).2.1) (b := c) (s := (o2 L a b s).2.2) h1.2.1 hc
 exact ⟨h2.1, h2.2.1, by unfold md2; omega, by unfold md2; omega⟩
theorem zCA {P : Int -> Prop} {L : List HR} {a b c s : Int} (ha : P a) (hb : P b) (hc : P c) : P (md3 L a b c s).2.1 /\ s <= (md3 L a b c s).2.2 /\ (md3 L a b c s).2.2 <= s + 3 := by
 have h1 := zk3 (P := P) (L := L) (a := a) (b := b) (s := s) ha hb
 have h2 := zug (P := P) (L := L) (a := a) (b := b) (c := c) (s := s) ha hb hc
 have h3 := zk3 (P := P) (L := L) (a := (o2 L a b s).1) (b := (md2 L a b c s).1) (s := (md2 L a b c s).2.2) h1.1 h2.1
 exact ⟨h3.2.1, by unfold md3; omega, by unfold md3; omega⟩
theorem zo4 {P : Int -> Prop} {L : List HR} {a b c s : Int} (ha : P a) (hb : P b) (hc : P c) : P (zf2 L a b c s).1 /\ s <= (zf2 L a b c s).2 /\ (zf2 L a b c s).2 <= s + 3 := zCA ha hb hc
def zfq (L : List HR) (a b s : Int) : Prop := InL L a /\ InL L b /\ InS s /\ L.length <= 1000000
def ziE (L : List HR) (a b c s : Int) : Prop := InL L a /\ InL L b /\ InL L c /\ 0 <= s /\ s <= 900 /\ L.length <= 1000000
def zhI (L : List HR) (a s : Int) : Prop := 1 <= a /\ a + 1 < L.length /\ 0 <= s /\ s <= 900 /\ L.length <= 1000000
def zbv (a b : Int) (L : List HR) : Prop := Pre a b L /\ 12 < b - a
def zsj (a b : Int) (x : PV) : Prop := ∃ n : Int, x = .int .i64 n /\ a <= n /\ n < b
def zr0 (x : PV) : Prop := ∃ n : Int, x = .int .i64 n
theorem zEf {n : Int} : zr0 (.int .i64 n) := ⟨n, rfl⟩
theorem zCv {L a b c s} (h : ziE L a b c s) : zfq L a b s := ⟨h.1, h.2.1, ⟨h.2.2.2.1, by have := h.2.2.2.2.1; omega⟩, h.2.2.2.2.2⟩
theorem zBu {L a b c s} (h : ziE L a b c s) : zfq L (o2 L a b s).2.1 c (o2 L a b s).2.2 := by
 obtain ⟨h1, h2, h3, h4, h5, h6⟩ := h
 have := zk3 (P := InL L) (L := L) (s := s) h1 h2
 exact ⟨this.2.1, h3, ⟨by omega, by omega⟩, h6⟩
theorem zDa {L a b c s} (h : ziE L a b c s) : zfq L (o2 L a b s).1 (md2 L a b c s).1 (md2 L a b c s).2.2 := by
 obtain ⟨h1, h2, h3, h4, h5, h6⟩ := h
 have h7 := zk3 (P := InL L) (L := L) (s := s) h1 h2
 have h8 := zug (P := InL L) (L := L) (s := s) h1 h2 h3
 exact ⟨h7.1, h8.1, ⟨by omega, by omega⟩, h6⟩
theorem zGk {L a s} (h : zhI L a s) : ziE L (a - 1) a (a + 1) s := by
 obtain ⟨h1, h2, h3, h4, h5⟩ := h
 exact ⟨⟨by omega, by omega⟩, ⟨by omega, by omega⟩, ⟨by omega, by omega⟩, h3, h4, h5⟩
noncomputable def zyB (L : List HR) (a : Int) (b : Int) (s : Int) : zaa := ⟨[.slc 0 0 L.length, kz a, kz b, .ptr 1 0 0, .fn (.func 52) [] []], [.vec 2 (L.map HR.pv), .row [kz s]], [some (.vec 2 (L.map HR.pv)), some (.row [kz (o2 L a b s).2.2])], [], .tup [kz (o2 L a b s).1, kz (o2 L a b s).2.1]⟩
set_option maxHeartbeats 4000000 in
theorem zGK (L : List HR) (a : Int) (b : Int) (s : Int) (hp : zfq L a b s) : zaa.ok Tryz.prog GG 224 (zyB L a b s) := by
 refine zac mix zEG _ rfl rfl (Tab.ok (l := [(52, S52)]) ⟨t52, trivial⟩) noL noJ ?_
 repeat' ((conv => whnf); first
  | exact trivial
  | with_reducible first | refine aj ?_ | refine ai rfl ?_ | refine ai ⟨rfl, rfl⟩ ?_
  | ((with_reducible refine ai ?_ ?_); focus exact w3)
  | with_reducible refine exI (i64_in (by simp only [zfq, InL, InS, Pre, List.length_map] at *; omega) (by simp only [zfq, InL, InS, Pre, List.length_map] at *; omega)) ?_
  | refine exI (x := ULift.up _) (za8 _ _ _ (by simp only [zfq, InL, InS, Pre, List.length_map] at *; omega)) ?_
  | refine exI (x := ULift.up _) ⟨rfl, (by simp only [zfq, InL, InS, Pre, List.length_map] at *; omega), zbc _ _ _ (by simp only [zfq, InL, InS, Pre, List.length_map] at *; omega)⟩ ?_
  | refine exI (x := ULift.up _) (pgq (by simp only [zfq, InL, InS, Pre, List.length_map] at *; omega)) ?_
  | with_reducible first | refine And.intro (Sd.mk (p := (_ : Int) <= _ /\ _) (by simp only [zfq, InL, InS, Pre, List.length_map] at *; omega)) ?_ | refine And.intro ?_ ?_ | refine zae ?_ | refine exI (i64_in (by omega) (by omega)) ?_
  | refine exI (x := ULift.up _) (Eq.refl _) ?_
  | refine exI (x := ULift.up _) ⟨rfl, by omega, Eq.refl _⟩ ?_
  | exact nx
  | ((with_reducible intro h); try dsimp only at h))
 all_goals (refine Sd.mk ?_)
 all_goals (try simp only [HR.eta, true_and] at *)
 all_goals first
  | (rw [zGq ‹_›]; done)
  | (rw [zGf ‹_›]; done)
noncomputable def zrK : SFn
 | [.slc p 0 _, .int .i64 a, .int .i64 b, .ptr q 0 0, .fn (.func 52) [] []], k => .rO p fun o => match o with
   | some (.vec 2 LL) => asL HR.pv LL fun L => zbk q fun rq => match rq with
     | .agg [.int .i64 s] => .req (zfq L a b s) (k (zyB L a b s))
     | _ => .fail
   | _ => .fail
 | _, _ => .fail
theorem zIo : FnS Tryz.prog GG 224 zrK := by
 intro args k gt go R v os n h
 unfold zrK at h
 split at h
 . cases h with
   | rO h =>
     dsimp only at h
     split at h
     . obtain ⟨L, _, h⟩ := zaN h
       obtain ⟨_, _, h⟩ := zaR h
       split at h
       . obtain ⟨hp, _, h⟩ := zar h
         exact ⟨_, _, zGK L _ _ _ hp, h⟩
       . cases h
     . cases h
 . cases h
attribute [local irreducible] o2
noncomputable def zye (L : List HR) (a : Int) (b : Int) (c : Int) (s : Int) : zaa := ⟨[.slc 0 0 L.length, kz a, kz b, kz c, .ptr 1 0 0, .fn (.func 52) [] []], [.vec 2 (L.map HR.pv), .row [kz s]], [some (.vec 2 (L.map HR.pv)), some (.row [kz (zf2 L a b c s).2])], [], kz (zf2 L a b c s).1⟩
set_option maxHeartbeats 4000000 in
theorem zJU (L : List HR) (a : Int) (b : Int) (c : Int) (s : Int) (hp : ziE L a b c s) : zaa.ok Tryz.prog GG 214 (zye L a b c s) := by
 refine zac mix zJ7 _ rfl rfl (Tab.ok (l := [(224, zrK)]) ⟨zIo, trivial⟩) noL noJ ?_
 repeat' ((conv => whnf); first
  | exact trivial
  | with_reducible first | refine aj ?_ | refine ai rfl ?_ | refine ai ⟨rfl, rfl⟩ ?_
  | ((with_reducible refine ai ?_ ?_); focus exact w3)
  | with_reducible refine ai (zCv hp) ?_
  | refine And.intro (Sd.mk (zBu hp)) ?_
  | refine And.intro (Sd.mk (zDa hp)) ?_
  | with_reducible first | refine And.intro ?_ ?_ | refine zae ?_ | refine exI (i64_in (by omega) (by omega)) ?_
  | refine exI (x := ULift.up _) (Eq.refl _) ?_
  | refine exI (x := ULift.up _) ⟨rfl, by omega, Eq.refl _⟩ ?_
  | exact nx
  | ((with_reducible intro h); try dsimp only at h))
 all_goals (refine Sd.mk ?_)
 all_goals first
  | rfl
noncomputable def zpj : SFn
 | [.slc p 0 _, .int .i64 a, .int .i64 b, .int .i64 c, .ptr q 0 0, .fn (.func 52) [] []], k => .rO p fun o => match o with
   | some (.vec 2 LL) => asL HR.pv LL fun L => zbk q fun rq => match rq with
     | .agg [.int .i64 s] => .req (ziE L a b c s) (k (zye L a b c s))
     | _ => .fail
   | _ => .fail
 | _, _ => .fail
theorem zw6 : FnS Tryz.prog GG 214 zpj := by
 intro args k gt go R v os n h
 unfold zpj at h
 split at h
 . cases h with
   | rO h =>
     dsimp only at h
     split at h
     . obtain ⟨L, _, h⟩ := zaN h
       obtain ⟨_, _, h⟩ := zaR h
       split at h
       . obtain ⟨hp, _, h⟩ := zar h
         exact ⟨_, _, zJU L _ _ _ _ hp, h⟩
       . cases h
     . cases h
 . cases h
noncomputable def zxU (L : List HR) (a : Int) (s : Int) : zaa := ⟨[.slc 0 0 L.length, kz a, .ptr 1 0 0, .fn (.func 52) [] []], [.vec 2 (L.map HR.pv), .row [kz s]], [some (.vec 2 (L.map HR.pv)), some (.row [kz (zf2 L (a - 1) a (a + 1) s).2])], [], kz (zf2 L (a - 1) a (a + 1) s).1⟩
set_option maxHeartbeats 4000000 in
theorem zIS (L : List HR) (a : Int) (s : Int) (hp : zhI L a s) : zaa.ok Tryz.prog GG 213 (zxU L a s) := by
 refine zac mix zD7 _ rfl rfl (Tab.ok (l := [(214, zpj)]) ⟨zw6, trivial⟩) noL noJ ?_
 repeat' ((conv => whnf); first
  | exact trivial
  | with_reducible first | refine aj ?_ | refine ai rfl ?_ | refine ai ⟨rfl, rfl⟩ ?_
  | ((with_reducible refine ai ?_ ?_); focus exact w3)
  | with_reducible first | refine ai (zGk hp) ?_ | refine exI (i64_in (by unfold zhI at hp; omega) (by unfold zhI at hp; omega)) ?_ | refine And.intro ?_ ?_ | refine zae ?_ | refine exI (i64_in (by omega) (by omega)) ?_
  | refine exI (x := ULift.up _) (Eq.refl _) ?_
  | refine exI (x := ULift.up _) ⟨rfl, by omega, Eq.refl _⟩ ?_
  | exact nx
  | ((with_reducible intro h); try dsimp only at h))
 all_goals (refine Sd.mk ?_)
 all_goals first
  | rfl
noncomputable def zst : SFn
 | [.slc p 0 _, .int .i64 a, .ptr q 0 0, .fn (.func 52) [] []], k => .rO p fun o => match o with
   | some (.vec 2 LL) => asL HR.pv LL fun L => zbk q fun rq => match rq with
     | .agg [.int .i64 s] => .req (zhI L a s) (k (zxU L a s))
     | _ => .fail
   | _ => .fail
 | _, _ => .fail
theorem zEp : FnS Tryz.prog GG 213 zst := by
 intro args k gt go R v os n h
 unfold zst at h
 split at h
 . cases h with
   | rO h =>
     dsimp only at h
     split at h
     . obtain ⟨L, _, h⟩ := zaN h
       obtain ⟨_, _, h⟩ := zaR h
       split at h
       . obtain ⟨hp, _, h⟩ := zar h
         exact ⟨_, _, zIS L _ _ hp, h⟩
       . cases h
     . cases h
 . cases h
attribute [local irreducible] zf2
theorem zAV {a b : Int} {L : List HR} (h : zbv a b L) : (ULift.up ((b - a) / 4) : ULift.{1} Int).down = IntKind.i64.wrap ((b - a).tdiv 4) := by
 have h1 := h.1
 have h2 := h.2
 unfold Pre at h1
 rw [Int.tdiv_eq_ediv_of_nonneg (by omega)]
 exact i64_in (by omega) (by omega)
abbrev qi (a b : Int) : Int := a + (b - a) / 4 * 1
abbrev qj (a b : Int) : Int := a + (b - a) / 4 * 2
abbrev qk (a b : Int) : Int := a + (b - a) / 4 * 3
abbrev adj (L : List HR) (x s : Int) := zf2 L (x - 1) x (x + 1) s
abbrev Sg (a b n : Int) : Prop := a <= n /\ n < b
theorem ziT {a b n : Int} {L : List HR} (h : zbv a b L) (g : Sg a b n) : InL L n := by
 have h1 := h.1
 unfold Pre at h1
 exact ⟨by omega, by omega⟩
theorem zJx {a b : Int} {L : List HR} (h : zbv a b L) : Sg a b (qi a b) /\ Sg a b (qj a b) /\ Sg a b (qk a b) := by
 have h1 := h.1
 have h2 := h.2
 unfold Pre at h1
 refine ⟨⟨?_, ?_⟩, ⟨?_, ?_⟩, ⟨?_, ?_⟩⟩ <;> simp only [qi, qj, qk] <;> omega
theorem zhC {a b : Int} {L : List HR} (h : zbv a b L) (g : 50 <= b - a) {x s : Int} (hx : x = qi a b \/ x = qj a b \/ x = qk a b) (h0 : 0 <= s) (h9 : s <= 900) : zhI L x s /\ Sg a b (adj L x s).1 /\ s <= (adj L x s).2 /\ (adj L x s).2 <= s + 3 := by
 have h1 := h.1
 unfold Pre at h1
 have h3 : a + 1 <= x /\ x + 1 < b := by rcases hx with e | e | e <;> subst e <;> simp only [qi, qj, qk] <;> (constructor <;> omega)
 have := zo4 (P := Sg a b) (L := L) (a := x - 1) (b := x) (c := x + 1) (s := s) ⟨by omega, by omega⟩ ⟨by omega, by omega⟩ ⟨by omega, by omega⟩
 exact ⟨⟨by omega, by omega, h0, h9, by omega⟩, this⟩
theorem zIu {a b : Int} {L : List HR} (h : zbv a b L) (g : 50 <= b - a) : zhI L (qi a b) 0 := (zhC h g (.inl rfl) (by omega) (by omega)).1
theorem zHi {a b : Int} {L : List HR} (h : zbv a b L) (g : 50 <= b - a) : zhI L (qj a b) (adj L (qi a b) 0).2 := by
 have h1 := (zhC h g (x := qi a b) (s := 0) (.inl rfl) (by omega) (by omega)).2
 exact (zhC h g (.inr (.inl rfl)) (by omega) (by omega)).1
theorem zHQ {a b : Int} {L : List HR} (h : zbv a b L) (g : 50 <= b - a) : zhI L (qk a b) (adj L (qj a b) (adj L (qi a b) 0).2).2 := by
 have h1 := (zhC h g (x := qi a b) (s := 0) (.inl rfl) (by omega) (by omega)).2
 have h2 := (zhC h g (x := qj a b) (s := (adj L (qi a b) 0).2) (.inr (.inl rfl)) (by omega) (by omega)).2
 exact (zhC h g (.inr (.inr rfl)) (by omega) (by omega)).1
theorem zyR {a b : Int} {L : List HR} (h : zbv a b L) (g : 50 <= b - a) : ziE L (adj L (qi a b) 0).1 (adj L (qj a b) (adj L (qi a b) 0).2).1 (adj L (qk a b) (adj L (qj a b) (adj L (qi a b) 0).2).2).1 (adj L (qk a b) (adj L (qj a b) (adj L (qi a b) 0).2).2).2 ∧
 Sg a b (zf2 L (adj L (qi a b) 0).1 (adj L (qj a b) (adj L (qi a b) 0).2).1 (adj L (qk a b) (adj L (qj a b) (adj L (qi a b) 0).2).2).1 (adj L (qk a b) (adj L (qj a b) (adj L (qi a b) 0).2).2).2).1 := by
  have h1 := (zhC h g (x := qi a b) (s := 0) (.inl rfl) (by omega) (by omega)).2
  have h2 := (zhC h g (x := qj a b) (s := (adj L (qi a b) 0).2) (.inr (.inl rfl)) (by omega) (by omega)).2
  have h3 := (zhC h g (x := qk a b) (s := (adj L (qj a b) (adj L (qi a b) 0).2).2) (.inr (.inr rfl)) (by omega) (by omega)).2
  have hl := h.1.2.2.2
  exact ⟨⟨ziT h h1.1, ziT h h2.1, ziT h h3.1, by omega, by omega, hl⟩, (zo4 (P := Sg a b) h1.1 h2.1 h3.1).1⟩
theorem zyD {a b : Int} {L : List HR} (h : zbv a b L) : ziE L (qi a b) (qj a b) (qk a b) 0 /\ Sg a b (zf2 L (qi a b) (qj a b) (qk a b) 0).1 := by
 obtain ⟨h1, h2, h3⟩ := zJx h
 exact ⟨⟨ziT h h1, ziT h h2, ziT h h3, by omega, by omega, h.1.2.2.2⟩, (zo4 (P := Sg a b) h1 h2 h3).1⟩
theorem piv {a b n : Int} (h : Sg a b n) : zsj a b (.int .i64 n) := ⟨n, rfl, h.1, h.2⟩
noncomputable def zw4 (L : List HR) (a : Int) (b : Int) : zaa := ⟨[.slc 0 0 L.length, kz a, kz b, .fn (.func 52) [] []], [.vec 2 (L.map HR.pv)], [some (.vec 2 (L.map HR.pv))], [], .tup [.fex (zsj a b), .fex zr0]⟩
set_option maxHeartbeats 4000000 in
theorem zJd (L : List HR) (a : Int) (b : Int) (hp : zbv a b L) : zaa.ok Tryz.prog GG 184 (zw4 L a b) := by
 refine zac mix zG5 _ rfl rfl (Tab.ok (l := [(213, zst), (214, zpj)]) ⟨zEp, zw6, trivial⟩) noL noJ ?_
 repeat' ((conv => whnf); first
  | exact trivial
  | with_reducible first | refine aj ?_ | refine ai rfl ?_ | refine ai ⟨rfl, rfl⟩ ?_
  | ((with_reducible refine ai ?_ ?_); focus exact w3)
  | ((with_reducible intro h); exfalso; unfold zbv Pre at hp; omega)
  | with_reducible first | refine exI (zAV hp) ?_ | refine exI (i64_in (by unfold zbv Pre at hp; omega) (by unfold zbv Pre at hp; omega)) ?_ | refine ai (zIu hp ‹_›) ?_ | refine ai (zHi hp ‹_›) ?_ | refine ai (zHQ hp ‹_›) ?_ | refine And.intro (Sd.mk (zyR hp ‹_›).1) ?_ | refine And.intro (Sd.mk (zyD hp).1) ?_ | refine And.intro ?_ ?_ | refine zae ?_ | refine exI (i64_in (by omega) (by omega)) ?_
  | refine exI (x := ULift.up _) (Eq.refl _) ?_
  | refine exI (x := ULift.up _) ⟨rfl, by omega, Eq.refl _⟩ ?_
  | exact nx
  | ((with_reducible intro h); try dsimp only at h))
 all_goals (refine Sd.mk ?_)
 all_goals first
  | exact zEf
  | exact piv (zyR hp ‹_›).2
  | exact piv (zyD hp).2
noncomputable def zsV : SFn
 | [.slc p 0 _, .int .i64 a, .int .i64 b, .fn (.func 52) [] []], k => .rO p fun o => match o with
   | some (.vec 2 LL) => asL HR.pv LL fun L => .req (zbv a b L) (k (zw4 L a b))
   | _ => .fail
 | _, _ => .fail
theorem zEz : FnS Tryz.prog GG 184 zsV := by
 intro args k gt go R v os n h
 unfold zsV at h
 split at h
 . cases h with
   | rO h =>
     dsimp only at h
     split at h
     . obtain ⟨L, _, h⟩ := zaN h
       obtain ⟨hp, _, h⟩ := zar h
       exact ⟨_, _, zJd L _ _ hp, h⟩
     . cases h
 . cases h
end
section
def zF7 : MC := .seq (.reg [oo 2 (.mv (.k (.int .u64 0)))]) (.seq (.reg [om 3 0,oo 4 (.cv .u64 (.t 3)),oo 5 (fc 170 [(.t 4)]),oo 6 (.ar .shl (.k (.int .u64 1)) (.t 5)),om 2 6]) (.ret))
theorem zHj : zan Tryz.prog 211 7 zF7 [.t 2] := fk Tryz.func211 ⟨tv,⟨tv,tv⟩⟩
def zFI : MC := .seq (.reg [oo 2 (.mv (.k (.int .u64 0)))]) (.seq (.drw [om 3 0,oo 4 (.nchk (.t 3)),oo 5 (ln 4),om 6 0,oo 7 (.nchk (.t 6)),oo 8 (ln 7),oo 9 (.ar .shl (.t 8) (.k (.int .u64 13))),oo 10 (at_ .xor 5 9),oo 11 (.nchk (.t 3)),o none (.st (some 1) (.t 11) (.t 10))] [[],[0],[1],[],[3],[4],[5],[2,6],[0,0,1,2,3,4,5,6,7],[8,7,0,1,2,3,4,5,6,7]]) (.seq (.drw [om 12 0,oo 13 (.nchk (.t 12)),oo 14 (ln 13),om 15 0,oo 16 (.nchk (.t 15)),oo 17 (ln 16),oo 18 (.ar .shr (.t 17) (.k (.int .u64 7))),oo 19 (at_ .xor 14 18),oo 20 (.nchk (.t 12)),o none (.st (some 1) (.t 20) (.t 19))] [[],[0],[1],[],[3],[4],[5],[2,6],[0,0,1,2,3,4,5,6,7],[8,7,0,1,2,3,4,5,6,7]]) (.seq (.drw [om 21 0,oo 22 (.nchk (.t 21)),oo 23 (ln 22),om 24 0,oo 25 (.nchk (.t 24)),oo 26 (ln 25),oo 27 (.ar .shl (.t 26) (.k (.int .u64 17))),oo 28 (at_ .xor 23 27),oo 29 (.nchk (.t 21)),o none (.st (some 1) (.t 29) (.t 28))] [[],[0],[1],[],[3],[4],[5],[2,6],[0,0,1,2,3,4,5,6,7],[8,7,0,1,2,3,4,5,6,7]]) (.seq (.reg [om 30 0,oo 31 (.nchk (.t 30)),oo 32 (ln 31),om 2 32]) (.ret)))))
theorem zGg : zan Tryz.prog 212 33 zFI [.t 2] := fk Tryz.func212 ⟨tv,⟨tv,⟨tv,⟨tv,⟨tv,tv⟩⟩⟩⟩⟩
def zKg : MC := .seq (.reg [om 13 2,om 14 1,oo 15 (at_ .sub 13 14),om 8 15]) (.seq (.reg [om 16 8,oo 17 (cc .geq 16 8)]) (.cond (.t 17) (.seq (.reg [om 18 8,oo 19 (.cv .u64 (.t 18)),oo 9 (.alloc [(.int .u64 0)]),o none (.st (some 1) (.t 9) (.t 19))]) (.seq (.reg [om 20 8,oo 21 (fc 211 [(.t 20)]),om 10 21]) (.seq (.reg [om 22 1,om 23 8,oo 24 (ac .quo 23 4),oo 25 (ac .mul 24 2),oo 26 (at_ .add 22 25),oo 27 (ac .sub 26 1),om 11 27]) (.blk 0 (.loop 0 (.seq (.seq (.reg [om 28 11,om 29 1,om 30 8,oo 31 (ac .quo 30 4),oo 32 (ac .mul 31 2),oo 33 (at_ .add 29 32),oo 34 (ac .add 33 1),oo 35 (ct .leq 28 34)]) (.cond (.t 35) (.skip) (.exit 0))) (.seq (.blk 1 (.seq (.reg [oo 38 (fc 212 [(.t 9)]),om 39 10,oo 40 (.ar .sub (.t 39) (.k (.int .u64 1))),oo 41 (at_ .and 38 40),oo 42 (.cv .i64 (.t 41)),om 12 42]) (.seq (.seq (.reg [om 43 12,om 44 8,oo 45 (ct .geq 43 44)]) (.cond (.t 45) (.reg [om 46 12,om 47 8,oo 48 (at_ .sub 46 47),om 12 48]) (.skip))) (.drw [om 49 0,om 50 11,om 51 0,om 52 1,om 53 12,oo 54 (at_ .add 52 53),om 55 0,om 56 1,om 57 12,oo 58 (at_ .add 56 57),oo 59 (ia 2 55 58),oo 60 (ls 2 59),om 61 0,om 62 11,oo 63 (ia 2 61 62),oo 64 (ls 2 63),oo 65 (ia 2 49 50),o none (.st (some 2) (.t 65) (.t 60)),oo 66 (ia 2 51 54),o none (.st (some 2) (.t 66) (.t 64))] [[],[],[],[],[],[3,4],[],[],[],[7,8],[6,9],[10],[],[],[12,13],[14],[0,1,0,1,6,7,8,9,10,11,15],[16,11,0,1,6,7,8,9,10,11,15],[2,5,0,1,2,3,4,5,6,7,8,9,10,11,12,13,14,15,16,17],[18,15,17,0,1,2,3,4,5,6,7,8,9,10,11,12,13,14,15,16,17]])))) (.reg [om 36 11,oo 37 (ac .add 36 1),om 11 37])))))))) (.skip)))
theorem zGz : zan Tryz.prog 183 67 zKg [] := fk Tryz.func183 ⟨tv,⟨tv,⟨⟨tv,⟨tv,⟨tv,⟨⟨tv,⟨tv,tv⟩⟩,⟨⟨tv,⟨⟨tv,⟨tv,tv⟩⟩,tv⟩⟩,tv⟩⟩⟩⟩⟩,tv⟩⟩⟩
def zgF (k : Nat) : Nat := if k = 0 then 0 else Nat.log2 k + 1
abbrev zoQ : ByteArray := ⟨#[0,1,2,2,3,3,3,3,4,4,4,4,4,4,4,4,5,5,5,5,5,5,5,5,5,5,5,5,5,5,5,5,6,6,6,6,6,6,6,6,6,6,6,6,6,6,6,6,6,6,6,6,6,6,6,6,6,6,6,6,6,6,6,6,7,7,7,7,7,7,7,7,7,7,7,7,7,7,7,7,7,7,7,7,7,7,7,7,7,7,7,7,7,7,7,7,7,7,7,7,7,7,7,7,7,7,7,7,7,7,7,7,7,7,7,7,7,7,7,7,7,7,7,7,7,7,7,7,8,8,8,8,8,8,8,8,8,8,8,8,8,8,8,8,8,8,8,8,8,8,8,8,8,8,8,8,8,8,8,8,8,8,8,8,8,8,8,8,8,8,8,8,8,8,8,8,8,8,8,8,8,8,8,8,8,8,8,8,8,8,8,8,8,8,8,8,8,8,8,8,8,8,8,8,8,8,8,8,8,8,8,8,8,8,8,8,8,8,8,8,8,8,8,8,8,8,8,8,8,8,8,8,8,8,8,8,8,8,8,8,8,8,8,8,8,8,8,8,8,8,8,8,8,8,8,8]⟩
theorem zDw : ((List.range 256).all fun k => Nat.beq (((zoQ[k]?).getD 0).toNat) (zgF k)) = true := by kernel_rfl
theorem zDj : Nat.beq zoQ.size 256 = true := by kernel_rfl
def zbu (x : Int) : Int := (zgF x.toNat : Nat)
abbrev m8 (n : Int) : Int := n.fdiv (2 ^ min (Int.toNat 8) IntKind.u64.bits)
abbrev m16 (n : Int) : Int := n.fdiv (2 ^ min (Int.toNat 16) IntKind.u64.bits)
theorem zt4 {n : Int} : m8 n = n / 256 := Int.fdiv_eq_ediv_of_nonneg _ (by decide)
theorem zqB {n : Int} : m16 n = n / 65536 := Int.fdiv_eq_ediv_of_nonneg _ (by decide)
abbrev Bn (n : Int) : Prop := 0 <= n /\ n <= 1000000
abbrev By (n : Int) : Prop := 0 <= n /\ n < 256
theorem by0 {n : Int} (hp : Bn n) (h : ¬ 256 <= n) : By n := ⟨hp.1, by omega⟩
theorem by8 {n : Int} (hp : Bn n) (h : ¬ 65536 <= n) : By (m8 n) := by rw [zt4]; exact ⟨by omega, by omega⟩
theorem zsq {n : Int} (hp : Bn n) : By (m16 n) := by rw [zqB]; exact ⟨by omega, by omega⟩
theorem zwV {n : Int} (hp : Bn n) (h : 256 <= m16 n) : False := by have := zsq hp; omega
theorem zsL {m : Int} (h : By m) : (ULift.up (zbu m) : ULift.{1} Int).down = IntKind.i64.wrap ((((zoQ[(m % 2 ^ IntKind.u8.bits).toNat]?).getD 0).toNat : Nat) : Int) := by
 have e : m % 2 ^ IntKind.u8.bits = m := Int.emod_eq_of_lt h.1 h.2
 rw [e]
 have := List.all_eq_true.1 zDw m.toNat (List.mem_range.2 (by omega))
 rw [Nat.eq_of_beq_eq_true this]
 have hb : zgF m.toNat <= 256 := by
  unfold zgF; split
  . omega
  . next c =>
    have := Nat.log2_lt (n := m.toNat) (k := 8) c
    have := this.2 (by omega)
    omega
 have e2 : zbu m = (zgF m.toNat : Nat) := rfl
 exact i64_in (by omega) (by omega)
theorem ixB {S : ByteArray} (hS : Nat.beq S.size 256 = true) {m : Int} : 0 <= m % 2 ^ IntKind.u8.bits /\ m % 2 ^ IntKind.u8.bits < (S.size : Int) := by
 rw [Nat.eq_of_beq_eq_true hS]
 exact ⟨Int.emod_nonneg _ (by decide), Int.emod_lt_of_pos _ (by decide)⟩
theorem zkB {x : Int} (h : x <= 1000000) : 0 <= zbu x /\ zbu x <= 20 := by
 unfold zbu zgF
 split
 . omega
 . next c =>
   have := (Nat.log2_lt (n := x.toNat) (k := 20) c).2 (by omega)
   omega
theorem lnA {c m : Int} (hc : 0 <= c /\ c <= 100) (h : By m) : (ULift.up (c + zbu m) : ULift.{1} Int).down = IntKind.i64.wrap (c + zbu m) := by
 have := zkB (x := m) (by omega)
 exact i64_in (by omega) (by omega)
theorem zqs {k e n : Nat} (hk : k = n / 2 ^ e) (h : 2 ^ e <= n) : zgF n = e + zgF k := by
 have hp : 0 < 2 ^ e := Nat.two_pow_pos e
 have hk0 : k ≠ 0 := by
  have := (Nat.le_div_iff_mul_le hp (x := 1) (y := n)).2 (by omega)
  omega
 have hn0 : n ≠ 0 := by omega
 unfold zgF
 rw [if_neg hn0, if_neg hk0]
 have h1 := (Nat.log2_eq_iff (n := k) (k := k.log2) hk0).1 rfl
 have e1 : n.log2 = e + k.log2 := by
  rw [Nat.log2_eq_iff hn0]
  rw [hk] at h1 ⊢
  constructor
  . have := (Nat.le_div_iff_mul_le hp).1 h1.1
    rw [Nat.pow_add, Nat.mul_comm]; exact this
  . have := (Nat.div_lt_iff_lt_mul hp).1 h1.2
    rw [Nat.add_assoc, Nat.pow_add, Nat.mul_comm]; exact this
 omega
theorem ln8 {n : Int} (hp : Bn n) (h : 256 <= n) : zbu n = 0 + 8 + zbu (m8 n) := by
 rw [zt4]
 unfold zbu
 have := zqs (k := (n / 256).toNat) (e := 8) (n := n.toNat) (by omega) (by omega)
 omega
theorem zIF {n : Int} (hp : Bn n) (h : 65536 <= n) : zbu n = 0 + 16 + zbu (m16 n) := by
 rw [zqB]
 unfold zbu
 have := zqs (k := (n / 65536).toNat) (e := 16) (n := n.toNat) (by omega) (by omega)
 omega
noncomputable def zts (n : Int) : zaa := ⟨[.int .u64 n], [], [], [], kz (zbu n)⟩
set_option maxHeartbeats 4000000 in
theorem zBi (n : Int) (hp : Bn n) : zaa.ok Tryz.prog GG 190 (zts n) := by
 refine zac mix zwG _ rfl rfl (Tab.ok (l := []) trivial) noL noJ ?_
 repeat' ((conv => whnf); first
  | exact trivial
  | with_reducible first | refine aj ?_ | refine ai rfl ?_ | refine ai ⟨rfl, rfl⟩ ?_
  | ((with_reducible refine ai ?_ ?_); focus exact w3)
  | ((with_reducible intro h); first | (exfalso; omega) | exact (zwV hp h).elim)
  | with_reducible first | refine exI (x := ULift.up (zbu n)) (zsL (by0 hp (by with_reducible assumption))) ?_ | refine exI (x := ULift.up (zbu (m8 n))) (zsL (by8 hp (by with_reducible assumption))) ?_ | refine exI (x := ULift.up (zbu (m16 n))) (zsL (zsq hp)) ?_ | refine exI (lnA ⟨by decide, by decide⟩ (by0 hp (by with_reducible assumption))) ?_ | refine exI (lnA ⟨by decide, by decide⟩ (by8 hp (by with_reducible assumption))) ?_ | refine exI (lnA ⟨by decide, by decide⟩ (zsq hp)) ?_ | refine And.intro ?_ ?_ | refine zae ?_ | refine exI (i64_in (by omega) (by omega)) ?_
  | refine exI (x := ULift.up _) (Eq.refl _) ?_
  | refine exI (x := ULift.up _) ⟨rfl, by omega, Eq.refl _⟩ ?_
  | exact nx
  | ((with_reducible intro h); try dsimp only at h))
 all_goals (refine Sd.mk ?_)
 all_goals first
  | exact ixB (S := zoQ) zDj
  | exact ln0
  | exact ln8 hp ‹_›
  | exact zIF hp ‹_›
noncomputable def zpN : SFn
 | [.int .u64 n], k => .req (Bn n) (k (zts n))
 | _, _ => .fail
theorem zCq : FnS Tryz.prog GG 190 zpN := by
 intro args k gt go R v os n h
 unfold zpN at h
 split at h
 . obtain ⟨hp, _, h⟩ := zar h
   exact ⟨_, _, zBi _ hp, h⟩
 . cases h
noncomputable def ztE (n : Int) : zaa := ⟨[.int .u64 n], [], [], [], kz (zbu n)⟩
theorem zB4 (n : Int) (hp : Bn n) : zaa.ok Tryz.prog GG 170 (ztE n) := by
 refine zac mix zAG _ rfl rfl (Tab.ok (l := [(190, zpN)]) ⟨zCq, trivial⟩) noL noJ ?_
 repeat' ((conv => whnf); first
  | exact trivial
  | with_reducible first | refine aj ?_ | refine ai rfl ?_ | refine ai ⟨rfl, rfl⟩ ?_
  | ((with_reducible refine ai ?_ ?_); focus exact w3)
  | with_reducible first | refine And.intro (Sd.mk (p := _ /\ _ <= 1000000) hp) ?_ | refine And.intro ?_ ?_ | refine zae ?_ | refine exI (i64_in (by omega) (by omega)) ?_
  | refine exI (x := ULift.up _) (Eq.refl _) ?_
  | refine exI (x := ULift.up _) ⟨rfl, by omega, Eq.refl _⟩ ?_
  | exact nx
  | ((with_reducible intro h); try dsimp only at h))
 all_goals (refine Sd.mk ?_)
 all_goals first | rfl | trace_state
noncomputable def zmg : SFn
 | [.int .u64 n], k => .req (Bn n) (k (ztE n))
 | _, _ => .fail
theorem ztt : FnS Tryz.prog GG 170 zmg := by
 intro args k gt go R v os n h
 unfold zmg at h
 split at h
 . obtain ⟨hp, _, h⟩ := zar h
   exact ⟨_, _, zB4 _ hp, h⟩
 . cases h
theorem mdl {n : Int} (h : 1 <= n) (hp : n <= 1000000) : n < 2 ^ (zbu n).toNat /\ (2 : Int) ^ (zbu n).toNat <= 2 * n := by
 have h0 : n.toNat ≠ 0 := by omega
 have h1 := (Nat.log2_eq_iff (n := n.toNat) (k := n.toNat.log2) h0).1 rfl
 have e : (zbu n).toNat = n.toNat.log2 + 1 := by unfold zbu zgF; rw [if_neg h0]; omega
 rw [e]
 have e2 : ((2 ^ (n.toNat.log2 + 1) : Nat) : Int) = (2 : Int) ^ (n.toNat.log2 + 1) := by rw [Int.natCast_pow]; rfl
 rw [<- e2]
 have h2 := h1.1
 have e3 : 2 ^ (n.toNat.log2 + 1) = 2 * 2 ^ n.toNat.log2 := by rw [Nat.pow_succ]; omega
 omega
theorem shw {n : Int} (h : 1 <= n) (hp : n <= 1000000) : (ULift.up ((2 : Int) ^ (zbu n).toNat) : ULift.{1} Int).down = IntKind.u64.wrap (1 * 2 ^ (min (zbu n).toNat IntKind.u64.bits)) := by
 have h1 := mdl h hp
 have h2 := zkB (x := n) hp
 have e : min (zbu n).toNat IntKind.u64.bits = (zbu n).toNat := Nat.min_eq_left (by show (zbu n).toNat <= 64; omega)
 rw [e, Int.one_mul]
 exact zfh (by omega) (by omega)
noncomputable def zyl (n : Int) : zaa := ⟨[kz n], [], [], [], .int .u64 (2 ^ (zbu n).toNat)⟩
theorem zGZ (n : Int) (hp : 1 <= n /\ n <= 1000000) : zaa.ok Tryz.prog GG 211 (zyl n) := by
 refine zac mix zHj _ rfl rfl (Tab.ok (l := [(170, zmg)]) ⟨ztt, trivial⟩) noL noJ ?_
 repeat' ((conv => whnf); first
  | exact trivial
  | with_reducible first | refine aj ?_ | refine ai rfl ?_ | refine ai ⟨rfl, rfl⟩ ?_
  | ((with_reducible refine ai ?_ ?_); focus exact w3)
  | with_reducible first | refine exI (zfh (by omega) (by omega)) ?_ | refine exI (shw hp.1 hp.2) ?_ | refine And.intro (Sd.mk (p := 0 <= zbu n) (zkB hp.2).1) ?_ | refine And.intro (Sd.mk (p := _ /\ _ <= 1000000) ⟨by omega, by omega⟩) ?_ | refine And.intro ?_ ?_ | refine zae ?_ | refine exI (i64_in (by omega) (by omega)) ?_
  | refine exI (x := ULift.up _) (Eq.refl _) ?_
  | refine exI (x := ULift.up _) ⟨rfl, by omega, Eq.refl _⟩ ?_
  | exact nx
  | ((with_reducible intro h); try dsimp only at h))
 all_goals (refine Sd.mk ?_)
 all_goals first | rfl | trace_state
noncomputable def zsR : SFn
 | [a0], k => asI a0 fun n => .req (1 <= n /\ n <= 1000000) (k (zyl n))
 | _, _ => .fail
theorem zHL : FnS Tryz.prog GG 211 zsR := by
 intro args k gt go R v os n h
 unfold zsR at h
 split at h
 . obtain ⟨n, _, h⟩ := zaU h
   obtain ⟨hp, _, h⟩ := zar h
   exact ⟨_, _, zGZ n hp, h⟩
 . cases h
def nx1 (x : Int) : Int := zbf .xor .u64 x (IntKind.u64.wrap (x * 2 ^ (min (13 : Int).toNat IntKind.u64.bits)))
def nx2 (x : Int) : Int := zbf .xor .u64 (nx1 x) ((nx1 x).fdiv (2 ^ (min (7 : Int).toNat IntKind.u64.bits)))
def zb9 (x : Int) : Int := zbf .xor .u64 (nx2 x) (IntKind.u64.wrap (nx2 x * 2 ^ (min (17 : Int).toNat IntKind.u64.bits)))
noncomputable def zzY (x : Int) : zaa := ⟨[.ptr 0 0 0], [.row [.int .u64 x]], [some (.row [.int .u64 (zb9 x)])], [], .int .u64 (zb9 x)⟩
theorem zGw (x : Int) : zaa.ok Tryz.prog GG 212 (zzY x) := by
 refine zac mix zGg _ rfl rfl (Tab.ok (l := []) trivial) noL noJ ?_
 repeat' ((conv => whnf); first
  | exact trivial
  | with_reducible first | refine aj ?_ | refine ai rfl ?_ | refine ai ⟨rfl, rfl⟩ ?_
  | ((with_reducible refine ai ?_ ?_); focus exact w3)
  | with_reducible first | refine And.intro ?_ ?_ | refine zae ?_ | refine exI (i64_in (by omega) (by omega)) ?_
  | refine exI (x := ULift.up _) (Eq.refl _) ?_
  | refine exI (x := ULift.up _) ⟨rfl, by omega, Eq.refl _⟩ ?_
  | exact nx
  | ((with_reducible intro h); try dsimp only at h))
 all_goals (refine Sd.mk ?_)
 all_goals first | rfl | trace_state
noncomputable def zsT : SFn
 | [.ptr p 0 0], k => zbk p fun rp => match rp with
   | .agg [.int .u64 x] => k (zzY x)
   | _ => .fail
 | _, _ => .fail
theorem zGl : FnS Tryz.prog GG 212 zsT := by
 intro args k gt go R v os n h
 unfold zsT at h
 split at h
 . obtain ⟨_, _, h⟩ := zaR h
   split at h
   . exact ⟨_, _, zGw _, h⟩
   . cases h
 . cases h
attribute [local irreducible] zb9 zbu
def md (a b : Int) : Int := 2 ^ (zbu (b - a)).toNat
theorem zxb {a b : Int} {L : List HR} (h : zbv a b L) : b - a < md a b /\ md a b <= 2 * (b - a) := by
 have h1 := h.1
 have h2 := h.2
 unfold Pre at h1
 exact mdl (by omega) (by omega)
theorem zBx {x y : Int} (h : 0 <= y) (h2 : y < 9223372036854775808) : 0 <= zbf .and .u64 x y /\ zbf .and .u64 x y <= y := by
 have e : zbf .and .u64 x y = (((BitVec.ofInt 64 x &&& BitVec.ofInt 64 y).toNat : Nat) : Int) % 18446744073709551616 := rfl
 have h3 : (BitVec.ofInt 64 x &&& BitVec.ofInt 64 y).toNat <= (BitVec.ofInt 64 y).toNat := by rw [BitVec.toNat_and]; exact Nat.and_le_right
 have h4 : ((BitVec.ofInt 64 y).toNat : Int) = y := by
  rw [BitVec.toNat_ofInt]
  show (((y % 18446744073709551616).toNat : Nat) : Int) = y
  omega
 rw [e]; omega
theorem zAy {r a b : Int} {L : List HR} (h : zbv a b L) : 0 <= zbf .and .u64 (zb9 r) (md a b - 1) /\ zbf .and .u64 (zb9 r) (md a b - 1) < 2 * (b - a) := by
 have h1 := zxb h
 have h2 := h.1
 have h3 := h.2
 unfold Pre at h2
 have := zBx (x := zb9 r) (y := md a b - 1) (by omega) (by omega)
 exact ⟨this.1, by omega⟩
theorem mdw {a b : Int} {L : List HR} (h : zbv a b L) : (ULift.up (md a b - 1) : ULift.{1} Int).down = IntKind.u64.wrap (md a b - 1) := by
 have h1 := zxb h
 have h2 := h.1
 have h3 := h.2
 unfold Pre at h2
 exact zfh (by omega) (by omega)
abbrev zjz := Int × Int × List HR
def zw7 (L : List HR) (a b : Int) : zjz -> St
 | (i, r, M) => ⟨[(11, kz i), (10, .int .u64 (md a b)), (9, .ptr 1 0 0), (8, kz (b - a)), (1, kz a), (0, .slc 0 0 L.length)], [(0, some (.vec 2 (M.map HR.pv))), (1, some (.row [.int .u64 r]))], 2⟩
def zcd (L : List HR) (a b : Int) : zjz -> Prop
 | (i, r, M) => Pre a b L /\ 12 < b - a /\ a + (b - a) / 4 * 2 - 1 <= i /\ i <= a + (b - a) / 4 * 2 + 2 /\ M.length = L.length /\ Seg a b L M /\ 0 <= zbf .and .u64 (zb9 r) (md a b - 1) /\ zbf .and .u64 (zb9 r) (md a b - 1) < 2 * (b - a)
def zCo (L : List HR) (a b : Int) : Nat -> zbO := fun _ => .inv zjz (fun _ => zcd L a b) (zw7 L a b) (fun c => (a + (b - a) / 4 * 2 + 2 - c.1).toNat)
theorem zwL {L : List HR} {a b : Int} {Q : zjz -> Prop} (h : ∀ i r M, zcd L a b (i, r, M) -> Q (i, r, M)) : ∀ c, zcd L a b c -> Q c := fun ⟨i, r, M⟩ hI => h _ _ _ hI
theorem zxe {L : List HR} {a b : Int} {i r M} (_ : zcd L a b (i, r, M)) (_ : ¬ b - a <= zbf .and .u64 (zb9 r) (md a b - 1)) {p q : zjz -> Prop} (h : p (i + 1, zb9 r, swq M i (a + zbf .and .u64 (zb9 r) (md a b - 1)))) (k : q (i + 1, zb9 r, swq M i (a + zbf .and .u64 (zb9 r) (md a b - 1)))) : ∃ c, p c /\ q c := ⟨_, h, k⟩
theorem zAP {L : List HR} {a b : Int} {i r M} (_ : zcd L a b (i, r, M)) (_ : b - a <= zbf .and .u64 (zb9 r) (md a b - 1)) {p q : zjz -> Prop} (h : p (i + 1, zb9 r, swq M i (a + (zbf .and .u64 (zb9 r) (md a b - 1) - (b - a))))) (k : q (i + 1, zb9 r, swq M i (a + (zbf .and .u64 (zb9 r) (md a b - 1) - (b - a))))) : ∃ c, p c /\ q c := ⟨_, h, k⟩
theorem zD5 {L : List HR} {a b r : Int} (h : zbv a b L) : zcd L a b (a + (b - a) / 4 * 2 - 1, r, L) := by
 have h1 := h.1
 unfold Pre at h1
 exact ⟨h.1, h.2, by omega, by omega, rfl, .rfl, zAy h⟩
theorem zwl {L : List HR} {a b i r o : Int} {M} (h : zcd L a b (i, r, M)) (hi : i <= a + (b - a) / 4 * 2 + 1) (ho : 0 <= o /\ o < b - a) : zcd L a b (i + 1, zb9 r, swq M i (a + o)) /\ (a + (b - a) / 4 * 2 + 2 - (i + 1)).toNat < (a + (b - a) / 4 * 2 + 2 - i).toNat := by
 obtain ⟨h1, h2, h3, h4, h5, h6, h7⟩ := h
 have hp := h1
 unfold Pre at hp
 exact ⟨⟨h1, h2, by omega, by omega, zbr.trans h5, h6.swq hp.1 hp.2.2.1 (by omega) (by omega), zAy ⟨h1, h2⟩⟩, by omega⟩
theorem zJH {L : List HR} {a b i r : Int} {M} (h : zcd L a b (i, r, M)) (hi : i <= a + (b - a) / 4 * 2 + 1) (ho : ¬ b - a <= zbf .and .u64 (zb9 r) (md a b - 1)) : zcd L a b (i + 1, zb9 r, swq M i (a + zbf .and .u64 (zb9 r) (md a b - 1))) /\ (a + (b - a) / 4 * 2 + 2 - (i + 1)).toNat < (a + (b - a) / 4 * 2 + 2 - i).toNat :=
 zwl h hi ⟨h.2.2.2.2.2.2.1, by omega⟩
theorem zHX {L : List HR} {a b i r : Int} {M} (h : zcd L a b (i, r, M)) (hi : i <= a + (b - a) / 4 * 2 + 1) (ho : b - a <= zbf .and .u64 (zb9 r) (md a b - 1)) : zcd L a b (i + 1, zb9 r, swq M i (a + (zbf .and .u64 (zb9 r) (md a b - 1) - (b - a)))) /\ (a + (b - a) / 4 * 2 + 2 - (i + 1)).toNat < (a + (b - a) / 4 * 2 + 2 - i).toNat :=
 zwl h hi (by have := h.2.2.2.2.2.2.2; exact ⟨by omega, by omega⟩)
theorem zE5 {L : List HR} {a b i r : Int} {M} (h : zcd L a b (i, r, M)) : Seg a b L M := h.2.2.2.2.2.1
noncomputable def zzh (L : List HR) (a : Int) (b : Int) : zaa := ⟨[.slc 0 0 L.length, kz a, kz b, .fn (.func 52) [] []], [.vec 2 (L.map HR.pv)], [some (.vex 2 (VX (Seg a b L)))], [], .tup []⟩
set_option maxHeartbeats 4000000 in
theorem zFy (L : List HR) (a : Int) (b : Int) (hp : zbv a b L) : zaa.ok Tryz.prog GG 183 (zzh L a b) := by
 refine zac mix zGz _ rfl rfl (Tab.ok (l := [(211, zsR), (212, zsT)]) ⟨zHL, zGl, trivial⟩) (zCo L a b) noJ ?_
 repeat' ((conv => whnf); first
  | exact trivial
  | with_reducible first | refine aj ?_ | refine ai rfl ?_ | refine ai ⟨rfl, rfl⟩ ?_
  | ((with_reducible refine ai ?_ ?_); focus exact w3)
  | with_reducible first | refine zwL ?_ | refine zxe (by with_reducible assumption) (by with_reducible assumption) ?_ ?_ | refine zAP (by with_reducible assumption) (by with_reducible assumption) ?_ ?_ | apply exW (γ := zjz) (c := (_, _, _))
  | ((with_reducible intro h); exfalso; simp only [zcd, Pre, zbv] at *; omega)
  | with_reducible first | refine exI (zAV hp) ?_ | refine exI (mdw hp) ?_
  | refine exI (zfh (by simp only [zcd, Pre, zbv, List.length_map] at *; omega) (by simp only [zcd, Pre, zbv, List.length_map] at *; omega)) ?_
  | with_reducible first | refine And.intro (Sd.mk (p := 1 <= _ /\ _ <= 1000000) (by simp only [zcd, Pre, zbv, List.length_map] at *; omega)) ?_ | refine exI (i64_in (by simp only [zcd, zbv, Pre, List.length_map] at *; omega) (by simp only [zcd, zbv, Pre, List.length_map] at *; omega)) ?_
  | refine exI (x := ULift.up _) (za8 _ _ _ (by simp only [zcd, zbv, Pre, List.length_map] at *; omega)) ?_
  | refine exI (x := ULift.up _) ⟨rfl, (by simp only [zcd, zbv, Pre, List.length_map] at *; omega), zbc _ _ _ (by simp only [zcd, zbv, Pre, List.length_map] at *; omega)⟩ ?_
  | refine exI (x := ULift.up _) (pgq (by simp only [zcd, zbv, Pre, List.length_map] at *; omega)) ?_
  | with_reducible first | refine And.intro (Sd.mk (p := (_ : Int) <= _ /\ _) (by simp only [zcd, zbv, Pre, List.length_map] at *; omega)) ?_ | refine And.intro ?_ ?_ | refine zae ?_ | refine exI (i64_in (by omega) (by omega)) ?_
  | refine exI (x := ULift.up _) (Eq.refl _) ?_
  | refine exI (x := ULift.up _) ⟨rfl, by omega, Eq.refl _⟩ ?_
  | exact nx
  | ((with_reducible intro h); try dsimp only at h))
 all_goals (refine Sd.mk ?_)
 all_goals (try simp only [HR.eta, true_and] at *)
 all_goals first
  | exact zfF
  | exact zD5 hp
  | exact zJH ‹_› ‹_› ‹_›
  | exact zHX ‹_› ‹_› ‹_›
  | exact vx (zE5 ‹_›)
noncomputable def zsy : SFn
 | [.slc p 0 _, .int .i64 a, .int .i64 b, .fn (.func 52) [] []], k => .rO p fun o => match o with
   | some (.vec 2 LL) => asL HR.pv LL fun L => .req (zbv a b L) (k (zzh L a b))
   | _ => .fail
 | _, _ => .fail
theorem zKb : FnS Tryz.prog GG 183 zsy := by
 intro args k gt go R v os n h
 unfold zsy at h
 split at h
 . cases h with
   | rO h =>
     dsimp only at h
     split at h
     . obtain ⟨L, _, h⟩ := zaN h
       obtain ⟨hp, _, h⟩ := zar h
       exact ⟨_, _, zFy L _ _ hp, h⟩
     . cases h
 . cases h
end
section
def zG6 : MC := .seq (.reg [oo 10 (.mv (ki 0)),oo 11 (.mv kf)]) (.seq (.drw [om 14 0,om 15 1,om 16 0,om 17 3,om 18 0,om 19 3,oo 20 (ia 2 18 19),oo 21 (ls 2 20),om 22 0,om 23 1,oo 24 (ia 2 22 23),oo 25 (ls 2 24),oo 26 (ia 2 14 15),o none (.st (some 2) (.t 26) (.t 21)),oo 27 (ia 2 16 17),o none (.st (some 2) (.t 27) (.t 25))] [[],[],[],[],[],[],[4,5],[6],[],[],[8,9],[10],[0,1,0,1,4,5,6,7,11],[12,7,0,1,4,5,6,7,11],[2,3,0,1,2,3,4,5,6,7,8,9,10,11,12,13],[14,11,13,0,1,2,3,4,5,6,7,8,9,10,11,12,13]]) (.seq (.reg [om 28 1,oo 29 (ac .add 28 1),om 30 2,oo 31 (ac .sub 30 1),om 12 29,om 13 31]) (.join 3 (.blk 0 (.loop 0 (.seq (.seq (.drw [om 32 12,om 33 13,oo 34 (ct .leq 32 33),sm 35 34,mt 35 36 4,mt 35 37 0,mt 35 38 12,gt_ 35 39 (ia 2 37 38),gt_ 35 40 (ls 2 39),mt 35 41 0,mt 35 42 1,gt_ 35 43 (ia 2 41 42),gt_ 35 44 (ls 2 43),gt_ 35 45 (.call (.t 36) [(.t 40),(.t 44)]),gt_ 35 46 (cc .lss 45 0),oo 47 (pf 35 46)] [[],[],[0,1],[2],[3],[3],[3],[5,6,3],[7,3],[3],[3],[9,10,3],[11,3],[4,8,12,3,3],[13,3],[3,14]]) (.cond (.t 47) (.skip) (.exit 0))) (.blk 1 (.reg [om 48 12,oo 49 (ac .add 48 1),om 12 49]))))) (.join 6 (.blk 2 (.loop 1 (.seq (.seq (.drw [om 50 12,om 51 13,oo 52 (ct .leq 50 51),sm 53 52,mt 53 54 4,mt 53 55 0,mt 53 56 13,gt_ 53 57 (ia 2 55 56),gt_ 53 58 (ls 2 57),mt 53 59 0,mt 53 60 1,gt_ 53 61 (ia 2 59 60),gt_ 53 62 (ls 2 61),gt_ 53 63 (.call (.t 54) [(.t 58),(.t 62)]),gt_ 53 64 (cc .lss 63 0),gt_ 53 65 (.not (.t 64)),oo 66 (pf 53 65)] [[],[],[0,1],[2],[3],[3],[3],[5,6,3],[7,3],[3],[3],[9,10,3],[11,3],[4,8,12,3,3],[13,3],[14,3],[3,15]]) (.cond (.t 66) (.skip) (.exit 2))) (.blk 3 (.reg [om 67 13,oo 68 (ac .sub 67 1),om 13 68]))))) (.seq (.seq (.reg [om 69 12,om 70 13,oo 71 (ct .gtr 69 70)]) (.cond (.t 71) (.seq (.drw [om 72 0,om 73 13,om 74 0,om 75 1,om 76 0,om 77 1,oo 78 (ia 2 76 77),oo 79 (ls 2 78),om 80 0,om 81 13,oo 82 (ia 2 80 81),oo 83 (ls 2 82),oo 84 (ia 2 72 73),o none (.st (some 2) (.t 84) (.t 79)),oo 85 (ia 2 74 75),o none (.st (some 2) (.t 85) (.t 83))] [[],[],[],[],[],[],[4,5],[6],[],[],[8,9],[10],[0,1,0,1,4,5,6,7,11],[12,7,0,1,4,5,6,7,11],[2,3,0,1,2,3,4,5,6,7,8,9,10,11,12,13],[14,11,13,0,1,2,3,4,5,6,7,8,9,10,11,12,13]]) (.seq (.reg [om 86 13,om 10 86,oo 11 (.mv kt)]) (.ret))) (.skip))) (.seq (.drw [om 87 0,om 88 12,om 89 0,om 90 13,om 91 0,om 92 13,oo 93 (ia 2 91 92),oo 94 (ls 2 93),om 95 0,om 96 12,oo 97 (ia 2 95 96),oo 98 (ls 2 97),oo 99 (ia 2 87 88),o none (.st (some 2) (.t 99) (.t 94)),oo 100 (ia 2 89 90),o none (.st (some 2) (.t 100) (.t 98))] [[],[],[],[],[],[],[4,5],[6],[],[],[8,9],[10],[0,1,0,1,4,5,6,7,11],[12,7,0,1,4,5,6,7,11],[2,3,0,1,2,3,4,5,6,7,8,9,10,11,12,13],[14,11,13,0,1,2,3,4,5,6,7,8,9,10,11,12,13]]) (.seq (.reg [om 101 12,oo 102 (ac .add 101 1),om 12 102]) (.seq (.reg [om 103 13,oo 104 (ac .sub 103 1),om 13 104]) (.seq (.blk 4 (.loop 2 (.blk 5 (.seq (.blk 6 (.loop 3 (.seq (.seq (.drw [om 105 12,om 106 13,oo 107 (ct .leq 105 106),sm 108 107,mt 108 109 4,mt 108 110 0,mt 108 111 12,gt_ 108 112 (ia 2 110 111),gt_ 108 113 (ls 2 112),mt 108 114 0,mt 108 115 1,gt_ 108 116 (ia 2 114 115),gt_ 108 117 (ls 2 116),gt_ 108 118 (.call (.t 109) [(.t 113),(.t 117)]),gt_ 108 119 (cc .lss 118 0),oo 120 (pf 108 119)] [[],[],[0,1],[2],[3],[3],[3],[5,6,3],[7,3],[3],[3],[9,10,3],[11,3],[4,8,12,3,3],[13,3],[3,14]])
 (.cond (.t 120) (.skip) (.exit 6))) (.blk 7 (.reg [om 121 12,oo 122 (ac .add 121 1),om 12 122]))))) (.seq (.blk 8 (.loop 4 (.seq (.seq (.drw [om 123 12,om 124 13,oo 125 (ct .leq 123 124),sm 126 125,mt 126 127 4,mt 126 128 0,mt 126 129 13,gt_ 126 130 (ia 2 128 129),gt_ 126 131 (ls 2 130),mt 126 132 0,mt 126 133 1,gt_ 126 134 (ia 2 132 133),gt_ 126 135 (ls 2 134),gt_ 126 136 (.call (.t 127) [(.t 131),(.t 135)]),gt_ 126 137 (cc .lss 136 0),gt_ 126 138 (.not (.t 137)),oo 139 (pf 126 138)] [[],[],[0,1],[2],[3],[3],[3],[5,6,3],[7,3],[3],[3],[9,10,3],[11,3],[4,8,12,3,3],[13,3],[14,3],[3,15]]) (.cond (.t 139) (.skip) (.exit 8))) (.blk 9 (.reg [om 140 13,oo 141 (ac .sub 140 1),om 13 141]))))) (.seq (.seq (.reg [om 142 12,om 143 13,oo 144 (ct .gtr 142 143)]) (.cond (.t 144) (.exit 4) (.skip))) (.seq (.drw [om 145 0,om 146 12,om 147 0,om 148 13,om 149 0,om 150 13,oo 151 (ia 2 149 150),oo 152 (ls 2 151),om 153 0,om 154 12,oo 155 (ia 2 153 154),oo 156 (ls 2 155),oo 157 (ia 2 145 146),o none (.st (some 2) (.t 157) (.t 152)),oo 158 (ia 2 147 148),o none (.st (some 2) (.t 158) (.t 156))] [[],[],[],[],[],[],[4,5],[6],[],[],[8,9],[10],[0,1,0,1,4,5,6,7,11],[12,7,0,1,4,5,6,7,11],[2,3,0,1,2,3,4,5,6,7,8,9,10,11,12,13],[14,11,13,0,1,2,3,4,5,6,7,8,9,10,11,12,13]]) (.seq (.reg [om 159 12,oo 160 (ac .add 159 1),om 12 160]) (.reg [om 161 13,oo 162 (ac .sub 161 1),om 13 162]))))))))) (.seq (.drw [om 163 0,om 164 13,om 165 0,om 166 1,om 167 0,om 168 1,oo 169 (ia 2 167 168),oo 170 (ls 2 169),om 171 0,om 172 13,oo 173 (ia 2 171 172),oo 174 (ls 2 173),oo 175 (ia 2 163 164),o none (.st (some 2) (.t 175) (.t 170)),oo 176 (ia 2 165 166),o none (.st (some 2) (.t 176) (.t 174))] [[],[],[],[],[],[],[4,5],[6],[],[],[8,9],[10],[0,1,0,1,4,5,6,7,11],[12,7,0,1,4,5,6,7,11],[2,3,0,1,2,3,4,5,6,7,8,9,10,11,12,13],[14,11,13,0,1,2,3,4,5,6,7,8,9,10,11,12,13]]) (.seq (.reg [om 177 13,om 10 177,oo 11 (.mv kf)]) (.ret))))))))))))
theorem zF5 : zan Tryz.prog 188 178 zG6 [.t 10,.t 11] := fk Tryz.func188 ⟨tv,⟨tv,⟨tv,⟨⟨⟨tv,⟨tv,tv⟩⟩,tv⟩,⟨⟨⟨tv,⟨tv,tv⟩⟩,tv⟩,⟨⟨tv,⟨⟨tv,⟨tv,tv⟩⟩,tv⟩⟩,⟨tv,⟨tv,⟨tv,⟨⟨⟨⟨tv,⟨tv,tv⟩⟩,tv⟩,⟨⟨⟨tv,⟨tv,tv⟩⟩,tv⟩,⟨⟨tv,⟨tv,tv⟩⟩,⟨tv,⟨tv,tv⟩⟩⟩⟩⟩,⟨tv,⟨tv,tv⟩⟩⟩⟩⟩⟩⟩⟩⟩⟩⟩⟩
def zhe (x : PV) : Prop := ∃ b : Bool, x = .bool b
theorem vxs {P : List HR -> Prop} {M : List HR} {i j : Int} (h : P (swq M i j)) : VX P (((List.map HR.pv M).set (0 + i.toNat) [PV.bool (nth M j).vec, PV.int IntKind.i64 (nth M j).n]).set (0 + j.toNat) [PV.bool (nth M i).vec, PV.int IntKind.i64 (nth M i).n]) := by
 rw [<- zfF]; exact vx h
abbrev zjy := Int × Int × List HR × Unit
abbrev zdR := Int × Int × List HR
abbrev zla := Unit × Int × Int × List HR
def zoL (L : List HR) (a i j : Int) (M : List HR) : St := ⟨[(13, kz j), (12, kz i), (4, .fn (.func 52) [] []), (1, kz a), (0, .slc 0 0 L.length)], [(0, some (.vec 2 (M.map HR.pv)))], 1⟩
def zvW (L : List HR) (a : Int) : zjy -> St
 | (i, j, M, _) => zoL L a i j M
def ziv (L : List HR) (a : Int) : zdR -> St
 | (i, j, M) => zoL L a i j M
def zuL (L : List HR) (a : Int) : zla -> St
 | (_, i, j, M) => zoL L a i j M
def ze0 (L : List HR) (a b p : Int) : Prop := Pre a b L /\ L.Nodup /\ a <= p /\ p < b
def zcg (L : List HR) (a b p i j : Int) (M : List HR) : Prop :=
 ze0 L a b p /\ a + 1 <= i /\ i <= b /\ a <= j /\ j < b /\ M.length = L.length /\ Seg a b L M /\ nth M a = nth L p /\ (∀ k, a < k -> k < i -> ltR (nth M k) (nth L p)) /\ (∀ k, j < k -> k < b -> ¬ ltR (nth M k) (nth L p))
def zcM (L : List HR) (a b p : Int) (c0 : zjy) : zjy -> Prop
 | (i, j, M, _) => zcg L a b p i j M /\ j = c0.2.1 /\ M = c0.2.2.1
def zc7 (L : List HR) (a b p : Int) (c0 : zdR) : zdR -> Prop
 | (i, j, M) => zcg L a b p i j M /\ j = c0.2.1 /\ M = c0.2.2 /\ c0.1 <= i
def zbR (L : List HR) (a b p : Int) (c0 : zdR) : zdR -> Prop
 | (i, j, M) => zcg L a b p i j M /\ i = c0.1 /\ M = c0.2.2 /\ j <= c0.2.1
def zdv (L : List HR) (a b p : Int) : zla -> Prop
 | (_, i, j, M) => zcg L a b p i j M
def zBQ (L : List HR) (a b p : Int) : Nat -> zbO
 | 0 => .inv zjy (zcM L a b p) (zvW L a) (fun c => (b - c.1).toNat)
 | 1 => .inv zdR (zbR L a b p) (ziv L a) (fun c => (c.2.1 + 1 - a).toNat)
 | 2 => .inv zla (fun _ => zdv L a b p) (zuL L a) (fun c => (c.2.2.1 + 2 - c.2.1).toNat)
 | 3 => .inv zdR (zc7 L a b p) (ziv L a) (fun c => (b - c.1).toNat)
 | _ => .inv zdR (zbR L a b p) (ziv L a) (fun c => (c.2.1 + 1 - a).toNat)
theorem zuF {L a b p i0 j M} {Q : zjy -> Prop} (h : ∀ i, zcM L a b p (i0, j, M, ()) (i, j, M, ()) -> Q (i, j, M, ())) : ∀ c, zcM L a b p (i0, j, M, ()) c -> Q c := fun ⟨i, j', M', _⟩ hI => by
 have h1 := hI.2.1; have h2 := hI.2.2
 dsimp only at h1 h2
 subst h1; subst h2
 exact h _ hI
theorem zu3 {L a b p i0 j M} {Q : zdR -> Prop} (h : ∀ i, zc7 L a b p (i0, j, M) (i, j, M) -> Q (i, j, M)) : ∀ c, zc7 L a b p (i0, j, M) c -> Q c := fun ⟨i, j', M'⟩ hI => by
 have h1 := hI.2.1; have h2 := hI.2.2.1
 dsimp only at h1 h2
 subst h1; subst h2
 exact h _ hI
theorem zuN {L a b p i j0 M} {Q : zdR -> Prop} (h : ∀ j, zbR L a b p (i, j0, M) (i, j, M) -> Q (i, j, M)) : ∀ c, zbR L a b p (i, j0, M) c -> Q c := fun ⟨i', j, M'⟩ hI => by
 have h1 := hI.2.1; have h2 := hI.2.2.1
 dsimp only at h1 h2
 subst h1; subst h2
 exact h _ hI
theorem zu8 {L a b p} {Q : zla -> Prop} (h : ∀ i j M, zdv L a b p ((), i, j, M) -> Q ((), i, j, M)) : ∀ c, zdv L a b p c -> Q c := fun ⟨_, i, j, M⟩ hI => h _ _ _ hI
theorem zA0 {L a b p c0 i j M} (_ : zcM L a b p c0 (i, j, M, ())) {q r : zjy -> Prop} (h : q (i + 1, j, M, ())) (k : r (i + 1, j, M, ())) : ∃ c, q c /\ r c := ⟨_, h, k⟩
theorem zxm {L a b p} (_ : ze0 L a b p) {q r : zjy -> Prop} (h : q (a + 1, b - 1, swq L a p, ())) (k : r (a + 1, b - 1, swq L a p, ())) : ∃ c, q c /\ r c := ⟨_, h, k⟩
def zdr (L : List HR) (a b p : Int) : zdR -> Prop
 | (i, j, M) => zcg L a b p i j M /\ (¬ i <= j \/ ¬ zaI (nth M i) (nth M a) < 0)
def zcL (L : List HR) (a b p : Int) : zdR -> Prop
 | (i, j, M) => zcg L a b p i j M /\ (j < i \/ (¬ zaI (nth M i) (nth M a) < 0 /\ zaI (nth M j) (nth M a) < 0))
def zDg (L : List HR) (a b p : Int) : Nat -> zfk
 | 3 => .cut zdR (zdr L a b p) (ziv L a)
 | _ => .cut zdR (zcL L a b p) (ziv L a)
theorem ztj {L a b p} {Q : zdR -> Prop} (h : ∀ i j M, zdr L a b p (i, j, M) -> Q (i, j, M)) : ∀ c, zdr L a b p c -> Q c := fun ⟨i, j, M⟩ hI => h _ _ _ hI
theorem zsG {L a b p} {Q : zdR -> Prop} (h : ∀ i j M, zcL L a b p (i, j, M) -> Q (i, j, M)) : ∀ c, zcL L a b p c -> Q c := fun ⟨i, j, M⟩ hI => h _ _ _ hI
theorem zy6 {L a b p i j M} (_ : zcL L a b p (i, j, M)) {q r : zla -> Prop} (h : q ((), i + 1, j - 1, swq M i j)) (k : r ((), i + 1, j - 1, swq M i j)) : ∃ c, q c /\ r c := ⟨_, h, k⟩
theorem zAk {L a b p c0 i j M} (_ : zbR L a b p c0 (i, j, M)) {q r : zla -> Prop} (h : q ((), i + 1, j - 1, swq M i j)) (k : r ((), i + 1, j - 1, swq M i j)) : ∃ c, q c /\ r c := ⟨_, h, k⟩
theorem zJX {L a b p} (h : ze0 L a b p) : zcM L a b p (a + 1, b - 1, swq L a p, ()) (a + 1, b - 1, swq L a p, ()) := by
 obtain ⟨h1, h2, h3, h4⟩ := h
 have hp := h1
 unfold Pre at hp
 refine ⟨⟨⟨h1, h2, h3, h4⟩, by omega, by omega, by omega, by omega, zbr, Seg.rfl.swq hp.1 hp.2.2.1 (by omega) (by omega), ?_, fun k _ _ => by omega, fun k _ _ => by omega⟩, rfl, rfl⟩
 rw [za9 (by omega) (by omega) (by omega)]
 by_cases c : a = p
 . rw [if_pos c, c]
 . rw [if_neg c, if_pos rfl]
theorem zcg.i {L a b p i j M} (h : zcg L a b p i j M) (hij : i <= j) (e : zaI (nth M i) (nth M a) < 0) : zcg L a b p (i + 1) j M := by
 obtain ⟨h1, h2, h3, h4, h5, h6, h7, h8, h9, h10⟩ := h
 refine ⟨h1, by omega, by omega, h4, h5, h6, h7, h8, fun k g1 g2 => ?_, h10⟩
 by_cases c : k = i
 . rw [c, <- h8]; exact e
 . exact h9 k g1 (by omega)
theorem zcg.j {L a b p i j M} (h : zcg L a b p i j M) (hij : i <= j) (e : ¬ zaI (nth M j) (nth M a) < 0) : zcg L a b p i (j - 1) M := by
 obtain ⟨h1, h2, h3, h4, h5, h6, h7, h8, h9, h10⟩ := h
 refine ⟨h1, h2, h3, by omega, by omega, h6, h7, h8, h9, fun k g1 g2 => ?_⟩
 by_cases c : k = j
 . rw [c, <- h8]; exact e
 . exact h10 k (by omega) g2
theorem zJF {L a b p c0 i j M} (h : zcM L a b p c0 (i, j, M, ())) (hij : i <= j) (e : zaI (nth M i) (nth M a) < 0) : zcM L a b p c0 (i + 1, j, M, ()) /\ (b - (i + 1)).toNat < (b - i).toNat := by
 have := h.1.2.2.2.2.1
 exact ⟨⟨h.1.i hij e, h.2⟩, by omega⟩
theorem zE0 {L a b p c0 i j M} (h : zc7 L a b p c0 (i, j, M)) (hij : i <= j) (e : zaI (nth M i) (nth M a) < 0) : zc7 L a b p c0 (i + 1, j, M) /\ (b - (i + 1)).toNat < (b - i).toNat := by
 have := h.1.2.2.2.2.1
 have := h.2.2.2
 exact ⟨⟨h.1.i hij e, h.2.1, h.2.2.1, by omega⟩, by omega⟩
theorem zIZ {L a b p c0 i j M} (h : zbR L a b p c0 (i, j, M)) (hij : i <= j) (e : ¬ zaI (nth M j) (nth M a) < 0) : zbR L a b p c0 (i, j - 1, M) /\ (j - 1 + 1 - a).toNat < (j + 1 - a).toNat := by
 have := h.1.2.2.2.1
 have := h.2.2.2
 exact ⟨⟨h.1.j hij e, h.2.1, h.2.2.1, by omega⟩, by omega⟩
theorem zBG {L a b p c0 i j M} (h : zc7 L a b p c0 (i, j, M)) : zbR L a b p (i, j, M) (i, j, M) := ⟨h.1, rfl, rfl, Int.le_refl _⟩
theorem zBE {L a b p i j M} (h : zdv L a b p ((), i, j, M)) : zc7 L a b p (i, j, M) (i, j, M) := ⟨h, rfl, rfl, Int.le_refl _⟩
theorem zcg.sw {L a b p i j M} (h : zcg L a b p i j M) (hij : i <= j) (e : zaI (nth M j) (nth M a) < 0) (e2 : ¬ zaI (nth M i) (nth M a) < 0) : zcg L a b p (i + 1) (j - 1) (swq M i j) := by
 obtain ⟨h1, h2, h3, h4, h5, h6, h7, h8, h9, h10⟩ := h
 have hp := h1.1
 unfold Pre at hp
 refine ⟨h1, by omega, by omega, by omega, by omega, zbr.trans h6, h7.swq hp.1 hp.2.2.1 (by omega) (by omega), ?_, fun k g1 g2 => ?_, fun k g1 g2 => ?_⟩
 . rw [za9 (by omega) (by omega) (by omega), if_neg (by omega), if_neg (by omega)]; exact h8
 . rw [za9 (by omega) (by omega) (by omega)]
   by_cases c : k = j
   . rw [c] at g2
     have : i = j := by omega
     rw [this] at e2
     exact absurd e e2
   . rw [if_neg c]
     by_cases c2 : k = i
     . rw [if_pos c2, <- h8]; exact e
     . rw [if_neg c2]; exact h9 k g1 (by omega)
 . rw [za9 (by omega) (by omega) (by omega)]
   by_cases c : k = j
   . rw [if_pos c, <- h8]; exact e2
   . rw [if_neg c]
     by_cases c2 : k = i
     . omega
     . rw [if_neg c2]; exact h10 k (by omega) g2
theorem zCS {L a b p i j0 j M} (h : zbR L a b p (i, j0, M) (i, j, M)) (hij : ¬ j < i) (e : ¬ i <= j \/ ¬ ¬ zaI (nth M j) (nth M a) < 0) (e2 : ¬ i <= j0 \/ ¬ zaI (nth M i) (nth M a) < 0) : zcg L a b p (i + 1) (j - 1) (swq M i j) := by
 have := h.2.2.2
 dsimp only at this
 exact h.1.sw (by omega) (by omega) (by omega)
theorem zIY {L a b p i j M} (h : zcL L a b p (i, j, M)) (hij : ¬ j < i) : zdv L a b p ((), i + 1, j - 1, swq M i j) := by
 rcases h.2 with c | ⟨c1, c2⟩
 . exact absurd c hij
 . exact h.1.sw (by omega) c2 c1
theorem zAj {L a b p c0 i j M} (h : zcM L a b p c0 (i, j, M, ())) (e : ¬ i <= j) : zdr L a b p (i, j, M) := ⟨h.1, .inl e⟩
theorem zAa {L a b p c0 i j M} (h : zcM L a b p c0 (i, j, M, ())) (e : ¬ zaI (nth M i) (nth M a) < 0) : zdr L a b p (i, j, M) := ⟨h.1, .inr e⟩
theorem zCU {L a b p i j M} (h : zdr L a b p (i, j, M)) : zbR L a b p (i, j, M) (i, j, M) := ⟨h.1, rfl, rfl, Int.le_refl _⟩
theorem zxl {L a b p c0 i j M} (h : zbR L a b p c0 (i, j, M)) (e : ¬ i <= j) : zcL L a b p (i, j, M) := ⟨h.1, .inl (by omega)⟩
theorem zxH {L a b p i j0 j M} (h0 : zdr L a b p (i, j0, M)) (h : zbR L a b p (i, j0, M) (i, j, M)) (hij : i <= j) (e : ¬ ¬ zaI (nth M j) (nth M a) < 0) : zcL L a b p (i, j, M) := by
 have := h.2.2.2
 dsimp only at this
 refine ⟨h.1, .inr ⟨?_, Classical.not_not.1 e⟩⟩
 rcases h0.2 with c | c
 . omega
 . exact c
theorem zl9 {L a b p i j0 j M i0 jj MM} (_ : zdv L a b p ((), i0, jj, MM)) (hi : zc7 L a b p (i0, j0, M) (i, j0, M)) (hjj : j0 = jj) (h : zbR L a b p (i, j0, M) (i, j, M)) (hij : ¬ j < i) (e : ¬ i <= j \/ ¬ ¬ zaI (nth M j) (nth M a) < 0) (e2 : ¬ i <= j0 \/ ¬ zaI (nth M i) (nth M a) < 0) :
 zdv L a b p ((), i + 1, j - 1, swq M i j) /\ (j - 1 + 2 - (i + 1)).toNat < (jj + 2 - i0).toNat := by
  have h3 := hi.2.2.2
  have h4 := h.2.2.2
  dsimp only at h3 h4
  exact ⟨zCS h hij e e2, by omega⟩
def zfo (L : List HR) (a b p : Int) (M : List HR) : Prop := Seg a b L M /\ (∀ k, a <= k -> k < a + rnk L a b (nth L p) -> ltR (nth M k) (nth L p)) /\ (∀ k, a + rnk L a b (nth L p) <= k -> k < b -> ¬ ltR (nth M k) (nth L p)) /\ nth M (a + rnk L a b (nth L p)) = nth L p /\ a <= a + rnk L a b (nth L p) /\ a + rnk L a b (nth L p) < b
theorem zkf {L a b p i j M} (h : zcg L a b p i j M) (hij : j < i) : a + rnk L a b (nth L p) = j /\ zfo L a b p (swq M j a) := by
 obtain ⟨h1, h2, h3, h4, h5, h6, h7, h8, h9, h10⟩ := h
 have hp := h1.1
 unfold Pre at hp
 have hs : Seg a b L (swq M j a) := h7.swq hp.1 hp.2.2.1 (by omega) (by omega)
 have g1 : ∀ k, a <= k -> k < j -> ltR (nth (swq M j a) k) (nth L p) := fun k q1 q2 => by
  rw [za9 (by omega) (by omega) (by omega)]
  by_cases c : k = a
  . rw [if_pos c]; exact h9 j (by omega) hij
  . rw [if_neg c, if_neg (by omega)]; exact h9 k (by omega) (by omega)
 have g3 : nth (swq M j a) j = nth L p := by
  rw [za9 (by omega) (by omega) (by omega)]
  by_cases c : j = a
  . rw [if_pos c, c]; exact h8
  . rw [if_neg c, if_pos rfl]; exact h8
 have g2 : ∀ k, j <= k -> k < b -> ¬ ltR (nth (swq M j a) k) (nth L p) := fun k q1 q2 => by
  by_cases c : k = j
  . rw [c, g3]; exact zcC _
  . rw [za9 (by omega) (by omega) (by omega), if_neg (by omega), if_neg c]
    exact h10 k (by omega) q2
 have e := zAi hs hp.1 hp.2.2.1 h4 (by omega) g1 g2
 refine ⟨e, hs, ?_, ?_, ?_, ?_, ?_⟩ <;> rw [e]
 . exact g1
 . exact g2
 . exact g3
 . exact h4
 . exact h5
theorem zIr {L a b p c0 i j M} (h : zbR L a b p c0 (i, j, M)) (hij : j < i) : a + rnk L a b (nth L p) = j := (zkf h.1 hij).1
theorem zEs {L a b p c0 i j M} (h : zbR L a b p c0 (i, j, M)) (hij : j < i) : zfo L a b p (swq M j a) := (zkf h.1 hij).2
theorem zBD {L a b p i j M} (h : zcL L a b p (i, j, M)) (hij : j < i) : a + rnk L a b (nth L p) = j := (zkf h.1 hij).1
theorem zDE {L a b p i j M} (h : zcL L a b p (i, j, M)) (hij : j < i) : zfo L a b p (swq M j a) := (zkf h.1 hij).2
theorem zw8 {b : Bool} : zhe (.bool b) := ⟨b, rfl⟩
noncomputable def zAx (L : List HR) (a : Int) (b : Int) (p : Int) : zaa := ⟨[.slc 0 0 L.length, kz a, kz b, kz p, .fn (.func 52) [] []], [.vec 2 (L.map HR.pv)], [some (.vex 2 (VX (zfo L a b p)))], [], .tup [kz (a + rnk L a b (nth L p)), .fex zhe]⟩
set_option maxHeartbeats 8000000 in
theorem zIO (L : List HR) (a : Int) (b : Int) (p : Int) (hp : ze0 L a b p) : zaa.ok Tryz.prog GG 188 (zAx L a b p) := by
 refine zac mix zF5 _ rfl rfl (Tab.ok (l := [(52, S52)]) ⟨t52, trivial⟩) (zBQ L a b p) (zDg L a b p) ?_
 repeat' ((conv => whnf); first
  | exact trivial
  | with_reducible first | refine aj ?_ | refine ai rfl ?_ | refine ai ⟨rfl, rfl⟩ ?_
  | ((with_reducible refine ai ?_ ?_); focus exact w3)
  | with_reducible first | refine zuF ?_ | refine zu3 ?_ | refine zuN ?_ | refine zu8 ?_ | refine ztj ?_ | refine zsG ?_
  | ((with_reducible intro h); exfalso; omega)
  | with_reducible first | refine zA0 (by with_reducible assumption) ?_ ?_ | refine zxm hp ?_ ?_ | refine zAk (by with_reducible assumption) ?_ ?_ | refine zy6 (by with_reducible assumption) ?_ ?_ | apply exW (γ := zdR) (c := (_, _, _)) | refine exI (i64_in (by simp only [zcM, zc7, zbR, zdv, zdr, zcL, zcg, ze0, Pre, List.length_map] at *; omega) (by simp only [zcM, zc7, zbR, zdv, zdr, zcL, zcg, ze0, Pre, List.length_map] at *; omega)) ?_
  | refine exI (x := ULift.up _) (za8 _ _ _ (by simp only [zcM, zc7, zbR, zdv, zdr, zcL, zcg, ze0, Pre, List.length_map] at *; omega)) ?_
  | refine exI (x := ULift.up _) ⟨rfl, (by simp only [zcM, zc7, zbR, zdv, zdr, zcL, zcg, ze0, Pre, List.length_map] at *; omega), zbc _ _ _ (by simp only [zcM, zc7, zbR, zdv, zdr, zcL, zcg, ze0, Pre, List.length_map] at *; omega)⟩ ?_
  | refine exI (x := ULift.up _) (pgq (by simp only [zcM, zc7, zbR, zdv, zdr, zcL, zcg, ze0, Pre, List.length_map] at *; omega)) ?_
  | with_reducible first | refine And.intro (Sd.mk (p := (_ : Int) <= _ /\ _) (by simp only [zcM, zc7, zbR, zdv, zdr, zcL, zcg, ze0, Pre, List.length_map] at *; omega)) ?_ | refine And.intro ?_ ?_ | refine zae ?_ | refine exI (i64_in (by omega) (by omega)) ?_
  | refine exI (x := ULift.up _) (Eq.refl _) ?_
  | refine exI (x := ULift.up _) ⟨rfl, by omega, Eq.refl _⟩ ?_
  | exact nx
  | ((with_reducible intro h); try dsimp only at h))
 all_goals (refine Sd.mk ?_)
 all_goals (try simp only [HR.eta, true_and] at *)
 all_goals first
  | exact zfF
  | exact zJX hp
  | exact zJF ‹_› ‹_› ‹_›
  | exact pt_zj ‹_›
  | exact zBG ‹_›
  | exact zBE ‹_›
  | exact zE0 ‹_› ‹_› ‹_›
  | exact zIZ ‹_› ‹_› ‹_›
  | exact zIY ‹_› ‹_›
  | exact zAj ‹_› ‹_›
  | exact zAa ‹_› ‹_›
  | exact zCU ‹_›
  | exact zxl ‹_› ‹_›
  | exact zxH ‹_› ‹_› ‹_› ‹_›
  | exact zBD ‹_› ‹_›
  | exact vxs (zDE ‹_› ‹_›)
  | exact zl9 ‹_› ‹_› rfl ‹_› ‹_› (.inl ‹_›) (.inl ‹_›)
  | exact zl9 ‹_› ‹_› rfl ‹_› ‹_› (.inl ‹_›) (.inr ‹_›)
  | exact zl9 ‹_› ‹_› rfl ‹_› ‹_› (.inr ‹_›) (.inl ‹_›)
  | exact zl9 ‹_› ‹_› rfl ‹_› ‹_› (.inr ‹_›) (.inr ‹_›)
  | exact zIr ‹_› ‹_›
  | exact vxs (zEs ‹_› ‹_›)
  | exact zw8
noncomputable def zso : SFn
 | [.slc p 0 _, .int .i64 a, .int .i64 b, .int .i64 pp, .fn (.func 52) [] []], k => .rO p fun o => match o with
   | some (.vec 2 LL) => asL HR.pv LL fun L => .req (ze0 L a b pp) (k (zAx L a b pp))
   | _ => .fail
 | _, _ => .fail
theorem zFl : FnS Tryz.prog GG 188 zso := by
 intro args k gt go R v os n h
 unfold zso at h
 split at h
 . cases h with
   | rO h =>
     dsimp only at h
     split at h
     . obtain ⟨L, _, h⟩ := zaN h
       obtain ⟨hp, _, h⟩ := zar h
       exact ⟨_, _, zIO L _ _ _ hp, h⟩
     . cases h
 . cases h
end
section
def zGc : MC := .seq (.reg [om 12 1,om 10 12]) (.blk 0 (.loop 0 (.blk 1 (.seq (.reg [om 13 10,oo 14 (.ar .mul (ki 2) (.t 13)),oo 15 (ac .add 14 1),om 11 15]) (.seq (.seq (.reg [om 16 11,om 17 2,oo 18 (ct .geq 16 17)]) (.cond (.t 18) (.exit 0) (.skip))) (.seq (.seq (.drw [om 19 11,oo 20 (ac .add 19 1),om 21 2,oo 22 (ct .lss 20 21),sm 23 22,mt 23 24 4,mt 23 25 0,mt 23 26 3,mt 23 27 11,gt_ 23 28 (at_ .add 26 27),gt_ 23 29 (ia 2 25 28),gt_ 23 30 (ls 2 29),mt 23 31 0,mt 23 32 3,mt 23 33 11,gt_ 23 34 (at_ .add 32 33),gt_ 23 35 (ac .add 34 1),gt_ 23 36 (ia 2 31 35),gt_ 23 37 (ls 2 36),gt_ 23 38 (.call (.t 24) [(.t 30),(.t 37)]),gt_ 23 39 (cc .lss 38 0),oo 40 (pf 23 39)] [[],[0],[],[1,2],[3],[4],[4],[4],[4],[7,8,4],[6,9,4],[10,4],[4],[4],[4],[13,14,4],[15,4],[12,16,4],[17,4],[5,11,18,4,4],[19,4],[4,20]]) (.cond (.t 40) (.reg [om 41 11,oo 42 (ac .add 41 1),om 11 42]) (.skip))) (.seq (.seq (.drw [om 43 4,om 44 0,om 45 3,om 46 10,oo 47 (at_ .add 45 46),oo 48 (ia 2 44 47),oo 49 (ls 2 48),om 50 0,om 51 3,om 52 11,oo 53 (at_ .add 51 52),oo 54 (ia 2 50 53),oo 55 (ls 2 54),oo 56 (.call (.t 43) [(.t 49),(.t 55)]),oo 57 (cc .lss 56 0),oo 58 (.not (.t 57))] [[],[],[],[],[2,3],[1,4],[5],[],[],[],[8,9],[7,10],[11],[0,6,12],[13],[14]]) (.cond (.t 58) (.ret) (.skip))) (.seq (.drw [om 59 0,om 60 3,om 61 10,oo 62 (at_ .add 60 61),om 63 0,om 64 3,om 65 11,oo 66 (at_ .add 64 65),om 67 0,om 68 3,om 69 11,oo 70 (at_ .add 68 69),oo 71 (ia 2 67 70),oo 72 (ls 2 71),om 73 0,om 74 3,om 75 10,oo 76 (at_ .add 74 75),oo 77 (ia 2 73 76),oo 78 (ls 2 77),oo 79 (ia 2 59 62),o none (.st (some 2) (.t 79) (.t 72)),oo 80 (ia 2 63 66),o none (.st (some 2) (.t 80) (.t 78))] [[],[],[],[1,2],[],[],[],[5,6],[],[],[],[9,10],[8,11],[12],[],[],[],[15,16],[14,17],[18],[0,3,0,1,2,3,8,9,10,11,12,13,19],[20,13,0,1,2,3,8,9,10,11,12,13,19],[4,7,0,1,2,3,4,5,6,7,8,9,10,11,12,13,14,15,16,17,18,19,20,21],[22,19,21,0,1,2,3,4,5,6,7,8,9,10,11,12,13,14,15,16,17,18,19,20,21]]) (.reg [om 81 11,om 10 81])))))))))
theorem zGo : zan Tryz.prog 210 82 zGc [] := fk Tryz.func210 ⟨tv,⟨tv,⟨⟨tv,⟨tv,tv⟩⟩,⟨⟨tv,⟨tv,tv⟩⟩,⟨⟨tv,⟨tv,tv⟩⟩,⟨tv,tv⟩⟩⟩⟩⟩⟩
def zJe : MC := .seq (.reg [om 13 1,om 8 13]) (.seq (.reg [oo 9 (.mv (ki 0))]) (.seq (.reg [om 14 2,om 15 1,oo 16 (at_ .sub 14 15),om 10 16]) (.seq (.seq (.reg [om 17 10,oo 18 (ac .sub 17 1),oo 19 (ac .quo 18 2),om 11 19]) (.blk 0 (.loop 0 (.seq (.seq (.reg [om 20 11,oo 21 (cc .geq 20 0)]) (.cond (.t 21) (.skip) (.exit 0))) (.seq (.blk 1 (.reg [om 24 0,om 25 11,om 26 10,om 27 8,om 28 3,oo 29 (fc 210 [(.t 24),(.t 25),(.t 26),(.t 27),(.t 28)])])) (.gh (.opn 0) (.reg [om 22 11,oo 23 (ac .sub 22 1),om 11 23]))))))) (.seq (.reg [om 30 10,oo 31 (ac .sub 30 1),om 12 31]) (.blk 2 (.loop 1 (.seq (.seq (.reg [om 32 12,oo 33 (cc .geq 32 0)]) (.cond (.t 33) (.skip) (.exit 2))) (.seq (.blk 3 (.seq (.drw [om 36 0,om 37 8,om 38 0,om 39 8,om 40 12,oo 41 (at_ .add 39 40),om 42 0,om 43 8,om 44 12,oo 45 (at_ .add 43 44),oo 46 (ia 2 42 45),oo 47 (ls 2 46),om 48 0,om 49 8,oo 50 (ia 2 48 49),oo 51 (ls 2 50),oo 52 (ia 2 36 37),o none (.st (some 2) (.t 52) (.t 47)),oo 53 (ia 2 38 41),o none (.st (some 2) (.t 53) (.t 51))] [[],[],[],[],[],[3,4],[],[],[],[7,8],[6,9],[10],[],[],[12,13],[14],[0,1,0,1,6,7,8,9,10,11,15],[16,11,0,1,6,7,8,9,10,11,15],[2,5,0,1,2,3,4,5,6,7,8,9,10,11,12,13,14,15,16,17],[18,15,17,0,1,2,3,4,5,6,7,8,9,10,11,12,13,14,15,16,17]]) (.reg [om 54 0,om 55 9,om 56 12,om 57 8,om 58 3,oo 59 (fc 210 [(.t 54),(.t 55),(.t 56),(.t 57),(.t 58)])]))) (.gh (.opn 0) (.reg [om 34 12,oo 35 (ac .sub 34 1),om 12 35]))))))))))
theorem zJv : zan Tryz.prog 182 60 zJe [] := fk Tryz.func182 ⟨tv,⟨tv,⟨tv,⟨⟨tv,⟨⟨tv,⟨tv,tv⟩⟩,⟨tv,tv⟩⟩⟩,⟨tv,⟨⟨tv,⟨tv,tv⟩⟩,⟨⟨tv,tv⟩,tv⟩⟩⟩⟩⟩⟩⟩
def HpE (f lo hi x : Int) (M : List HR) : Prop := ∀ c, 1 <= c -> c < hi -> lo <= (c - 1) / 2 -> (c - 1) / 2 ≠ x -> ¬ ltR (nth M (f + (c - 1) / 2)) (nth M (f + c))
def zeF (L : List HR) (lo hi f : Int) : Prop := 0 <= lo /\ lo <= hi /\ 0 <= f /\ f + hi <= L.length /\ L.length <= 1000000 /\ L.Nodup /\ HpE f (lo + 1) hi (-1) L
def znK (L : List HR) (lo hi f : Int) (M : List HR) : Prop := Seg (f + lo) (f + hi) L M /\ HpE f lo hi (-1) M
abbrev zk1 := Int × List HR
def zxO (L : List HR) (hi f : Int) : zk1 -> St
 | (r, M) => ⟨[(10, kz r), (4, .fn (.func 52) [] []), (3, kz f), (2, kz hi), (0, .slc 0 0 L.length)], [(0, some (.vec 2 (M.map HR.pv)))], 1⟩
def zdO (L : List HR) (lo hi f : Int) : zk1 -> Prop
 | (r, M) => zeF L lo hi f /\ lo <= r /\ (r < hi \/ r = lo) /\ M.length = L.length /\ Seg (f + lo) (f + hi) L M /\ HpE f lo hi r M /\ (r ≠ lo -> lo <= (r - 1) / 2 /\ ∀ c, 1 <= c -> c < hi -> (c - 1) / 2 = r -> ¬ ltR (nth M (f + (r - 1) / 2)) (nth M (f + c)))
def zC2 (L : List HR) (lo hi f : Int) : Nat -> zbO := fun _ => .inv zk1 (fun _ => zdO L lo hi f) (zxO L hi f) (fun c => (hi - c.1).toNat)
theorem zz3 {L lo hi f} {Q : zk1 -> Prop} (h : ∀ r M, zdO L lo hi f (r, M) -> Q (r, M)) : ∀ c, zdO L lo hi f c -> Q c := fun ⟨r, M⟩ hI => h _ _ hI
def Mx (f hi r c : Int) (M : List HR) : Prop := 1 <= c /\ c < hi /\ (c - 1) / 2 = r /\ ∀ d, 1 <= d -> d < hi -> (d - 1) / 2 = r -> ¬ ltR (nth M (f + c)) (nth M (f + d))
theorem zy8 {f hi r : Int} {M} (h0 : 0 <= r) (h : ¬ hi <= 2 * r + 1) (h2 : ¬ 2 * r + 1 + 1 < hi) : Mx f hi r (2 * r + 1) M := ⟨by omega, by omega, by omega, fun d g1 g2 g3 => by
 have : d = 2 * r + 1 := by omega
 rw [this]; exact zcC _⟩
theorem zAr {f hi r : Int} {M} (h0 : 0 <= r) (h : ¬ hi <= 2 * r + 1) (h2 : 2 * r + 1 + 1 < hi) (e : ¬ zaI (nth M (f + (2 * r + 1))) (nth M (f + (2 * r + 1) + 1)) < 0) : Mx f hi r (2 * r + 1) M := ⟨by omega, by omega, by omega, fun d g1 g2 g3 => by
 have : d = 2 * r + 1 \/ d = 2 * r + 1 + 1 := by omega
 rcases this with c | c <;> rw [c]
 . exact zcC _
 . rw [<- Int.add_assoc f (2 * r + 1) 1]; exact e⟩
theorem zAn {f hi r : Int} {M} (h0 : 0 <= r) (h2 : 2 * r + 1 + 1 < hi) (e : zaI (nth M (f + (2 * r + 1))) (nth M (f + (2 * r + 1) + 1)) < 0) : Mx f hi r (2 * r + 1 + 1) M := ⟨by omega, by omega, by omega, fun d g1 g2 g3 => by
 have : d = 2 * r + 1 \/ d = 2 * r + 1 + 1 := by omega
 rcases this with c | c <;> rw [c]
 . rw [<- Int.add_assoc f (2 * r + 1) 1]; exact fun k => zcC _ (zbW e k)
 . exact zcC _⟩
theorem zB3 {L lo hi f} (h : zeF L lo hi f) : zdO L lo hi f (lo, L) :=
 ⟨h, by omega, .inr rfl, rfl, .rfl, fun c g1 g2 g3 g4 => h.2.2.2.2.2.2 c g1 g2 (by omega) (by omega), fun k => absurd rfl k⟩
theorem zzU {L lo hi f r M} (h : zdO L lo hi f (r, M)) (e : hi <= 2 * r + 1) : znK L lo hi f M := by
 obtain ⟨h1, h2, h3, h4, h5, h6, h7⟩ := h
 exact ⟨h5, fun c g1 g2 g3 g4 => h6 c g1 g2 g3 (by omega)⟩
theorem zmW {L lo hi f r M c} (h : zdO L lo hi f (r, M)) (hc : Mx f hi r c M) (e : ¬ zaI (nth M (f + r)) (nth M (f + c)) < 0) : znK L lo hi f M := by
 obtain ⟨h1, h2, h3, h4, h5, h6, h7⟩ := h
 refine ⟨h5, fun d g1 g2 g3 g4 => ?_⟩
 by_cases k : (d - 1) / 2 = r
 . rw [k]
   exact zh9 e (hc.2.2.2 d g1 g2 k)
 . exact h6 d g1 g2 g3 k
theorem zll {L lo hi f r M c} (h : zdO L lo hi f (r, M)) (hc : Mx f hi r c M) (e : zaI (nth M (f + r)) (nth M (f + c)) < 0) : zdO L lo hi f (c, swq M (f + r) (f + c)) /\ (hi - c).toNat < (hi - r).toNat := by
 obtain ⟨h1, h2, h3, h4, h5, h6, h7⟩ := h
 obtain ⟨c1, c2, c3, c4⟩ := hc
 have hp := h1
 unfold zeF at hp
 have a1 := hp.1
 have a2 := hp.2.2.1
 have a3 := hp.2.2.2.1
 refine ⟨⟨h1, by omega, .inl c2, zbr.trans h4, h5.swq (by omega) (by omega) (by omega) (by omega), fun d g1 g2 g3 g4 => ?_, fun _ => ⟨by omega, fun d g1 g2 g3 => ?_⟩⟩, by omega⟩
 . rw [za9 (by omega) (by omega) (by omega), za9 (by omega) (by omega) (by omega)]
   rw [if_neg (show ¬ f + (d - 1) / 2 = f + c by omega)]
   by_cases k : (d - 1) / 2 = r
   . rw [if_pos (show f + (d - 1) / 2 = f + r by omega)]
     by_cases k2 : d = c
     . rw [if_pos (by omega)]; exact fun q => zcC _ (zbW e q)
     . rw [if_neg (by omega), if_neg (by omega)]; exact c4 d g1 g2 k
   . rw [if_neg (show ¬ f + (d - 1) / 2 = f + r by omega)]
     by_cases k2 : d = c
     . omega
     . rw [if_neg (show ¬ f + d = f + c by omega)]
       by_cases k3 : d = r
       . rw [if_pos (by omega)]
         have := (h7 (by omega)).2 c c1 c2 c3
         rw [k3]; exact this
       . rw [if_neg (by omega)]; exact h6 d g1 g2 g3 k
 . rw [za9 (by omega) (by omega) (by omega), za9 (by omega) (by omega) (by omega)]
   rw [if_neg (by omega), if_pos (by omega), if_neg (by omega), if_neg (by omega)]
   have := h6 d g1 g2 (by omega) (by omega)
   rw [g3] at this
   exact this
theorem zDd {L lo hi f r M} (_ : zdO L lo hi f (r, M)) {c : Int} (_ : zaI (nth M (f + r)) (nth M (f + c)) < 0) {p q : zk1 -> Prop} (h : p (c, swq M (f + r) (f + c))) (k : q (c, swq M (f + r) (f + c))) : ∃ c, p c /\ q c := ⟨_, h, k⟩
theorem zk4 {L lo hi f r M} (h : zdO L lo hi f (r, M)) : 0 <= r := by
 have h1 := h.1.1
 have h2 := h.2.1
 omega
noncomputable def zwh (L : List HR) (lo : Int) (hi : Int) (f : Int) : zaa := ⟨[.slc 0 0 L.length, kz lo, kz hi, kz f, .fn (.func 52) [] []], [.vec 2 (L.map HR.pv)], [some (.vex 2 (VX (znK L lo hi f)))], [], .tup []⟩
set_option maxHeartbeats 8000000 in
theorem zHA (L : List HR) (lo : Int) (hi : Int) (f : Int) (hp : zeF L lo hi f) : zaa.ok Tryz.prog GG 210 (zwh L lo hi f) := by
 refine zac mix zGo _ rfl rfl (Tab.ok (l := [(52, S52)]) ⟨t52, trivial⟩) (zC2 L lo hi f) noJ ?_
 repeat' ((conv => whnf); first
  | exact trivial
  | with_reducible first | refine aj ?_ | refine ai rfl ?_ | refine ai ⟨rfl, rfl⟩ ?_
  | ((with_reducible refine ai ?_ ?_); focus exact w3)
  | with_reducible refine zz3 ?_
  | refine zDd (by with_reducible assumption) (Classical.not_not.1 (by with_reducible assumption)) ?_ ?_
  | with_reducible first | apply exW (γ := zk1) (c := (_, _)) | refine exI (i64_in (by simp only [zdO, zeF, Pre, List.length_map] at *; omega) (by simp only [zdO, zeF, Pre, List.length_map] at *; omega)) ?_
  | refine exI (x := ULift.up _) (za8 _ _ _ (by simp only [zdO, zeF, Pre, List.length_map] at *; omega)) ?_
  | refine exI (x := ULift.up _) ⟨rfl, (by simp only [zdO, zeF, Pre, List.length_map] at *; omega), zbc _ _ _ (by simp only [zdO, zeF, Pre, List.length_map] at *; omega)⟩ ?_
  | refine exI (x := ULift.up _) (pgq (by simp only [zdO, zeF, Pre, List.length_map] at *; omega)) ?_
  | with_reducible first | refine And.intro (Sd.mk (p := (_ : Int) <= _ /\ _) (by simp only [zdO, zeF, Pre, List.length_map] at *; omega)) ?_ | refine And.intro ?_ ?_ | refine zae ?_ | refine exI (i64_in (by omega) (by omega)) ?_
  | refine exI (x := ULift.up _) (Eq.refl _) ?_
  | refine exI (x := ULift.up _) ⟨rfl, by omega, Eq.refl _⟩ ?_
  | exact nx
  | ((with_reducible intro h); try dsimp only at h))
 all_goals (refine Sd.mk ?_)
 all_goals (try simp only [HR.eta, true_and] at *)
 all_goals first
  | exact zfF
  | exact zB3 hp
  | exact vx (zzU ‹_› ‹_›)
  | exact vx (zmW ‹_› (zy8 (zk4 ‹_›) ‹_› ‹_›) ‹_›)
  | exact vx (zmW ‹_› (zAr (zk4 ‹_›) ‹_› ‹_› ‹_›) ‹_›)
  | exact vx (zmW ‹_› (zAn (zk4 ‹_›) ‹_› ‹_›) ‹_›)
  | exact zll ‹_› (zy8 (zk4 ‹_›) ‹_› ‹_›) (Classical.not_not.1 ‹_›)
  | exact zll ‹_› (zAr (zk4 ‹_›) ‹_› ‹_› ‹_›) (Classical.not_not.1 ‹_›)
  | exact zll ‹_› (zAn (zk4 ‹_›) ‹_› ‹_›) (Classical.not_not.1 ‹_›)
noncomputable def zsr : SFn
 | [.slc p 0 _, .int .i64 lo, .int .i64 hi, .int .i64 f, .fn (.func 52) [] []], k => .rO p fun o => match o with
   | some (.vec 2 LL) => asL HR.pv LL fun L => .req (zeF L lo hi f) (k (zwh L lo hi f))
   | _ => .fail
 | _, _ => .fail
theorem zKe : FnS Tryz.prog GG 210 zsr := by
 intro args k gt go R v os n h
 unfold zsr at h
 split at h
 . cases h with
   | rO h =>
     dsimp only at h
     split at h
     . obtain ⟨L, _, h⟩ := zaN h
       obtain ⟨hp, _, h⟩ := zar h
       exact ⟨_, _, zHA L _ _ _ hp, h⟩
     . cases h
 . cases h
theorem zwQ {f hi : Int} {M : List HR} (h : HpE f 0 hi (-1) M) : ∀ (n : Nat) (k : Int), k.toNat = n -> 0 <= k -> k < hi -> ¬ ltR (nth M f) (nth M (f + k)) := by
 intro n
 induction n using Nat.strongRecOn with
 | ind n ih =>
   intro k hk h0 h1
   by_cases c : k = 0
   . rw [c, Int.add_zero]; exact zcC _
   . exact zh9 (ih ((k - 1) / 2).toNat (by omega) ((k - 1) / 2) rfl (by omega) (by omega)) (h k (by omega) h1 (by omega) (by omega))
abbrev zmN := Int × List HR
abbrev zmM := Unit × Int × List HR
def zuZ (L : List HR) (a b : Int) : zmN -> St
 | (i, M) => ⟨[(11, kz i), (10, kz (b - a)), (9, kz 0), (8, kz a), (3, .fn (.func 52) [] []), (0, .slc 0 0 L.length)], [(0, some (.vec 2 (M.map HR.pv)))], 1⟩
def zu0 (L : List HR) (a : Int) : zmM -> St
 | (_, i, M) => ⟨[(12, kz i), (9, kz 0), (8, kz a), (3, .fn (.func 52) [] []), (0, .slc 0 0 L.length)], [(0, some (.vec 2 (M.map HR.pv)))], 1⟩
def zeI (a b : Int) (L : List HR) : Prop := Pre a b L /\ L.Nodup /\ 12 < b - a
def zcK (L : List HR) (a b : Int) : zmN -> Prop
 | (i, M) => zeI a b L /\ -1 <= i /\ i <= (b - a - 1) / 2 /\ M.length = L.length /\ Seg a b L M /\ HpE a (i + 1) (b - a) (-1) M
def zcJ (L : List HR) (a b : Int) : zmM -> Prop
 | (_, i, M) => zeI a b L /\ -1 <= i /\ i < b - a /\ M.length = L.length /\ Seg a b L M /\ HpE a 0 (i + 1) (-1) M /\ (∀ p q, a <= p -> p <= a + i -> a + i < q -> q < b -> ltR (nth M p) (nth M q)) /\ Srt (a + i + 1) b M
def zDJ (L : List HR) (a b : Int) : Nat -> zbO
 | 0 => .inv zmN (fun _ => zcK L a b) (zuZ L a b) (fun c => (c.1 + 1).toNat)
 | _ => .inv zmM (fun _ => zcJ L a b) (zu0 L a) (fun c => (c.2.1 + 1).toNat)
theorem zvk {L a b} {Q : zmN -> Prop} (h : ∀ i M, zcK L a b (i, M) -> Q (i, M)) : ∀ c, zcK L a b c -> Q c := fun ⟨i, M⟩ hI => h _ _ hI
theorem zur {L a b} {Q : zmM -> Prop} (h : ∀ i M, zcJ L a b ((), i, M) -> Q ((), i, M)) : ∀ c, zcJ L a b c -> Q c := fun ⟨_, i, M⟩ hI => h _ _ hI
theorem zvF {a b : Int} {L : List HR} (h : zeI a b L) : (ULift.up ((b - a - 1) / 2) : ULift.{1} Int).down = IntKind.i64.wrap ((b - a - 1).tdiv 2) := by
 have h1 := h.1
 have h2 := h.2.2
 unfold Pre at h1
 rw [Int.tdiv_eq_ediv_of_nonneg (by omega)]
 exact i64_in (by omega) (by omega)
theorem zGy {L a b} (h : zeI a b L) : zcK L a b ((b - a - 1) / 2, L) := by
 have h1 := h.1
 have h2 := h.2.2
 unfold Pre at h1
 exact ⟨h, by omega, by omega, rfl, .rfl, fun c g1 g2 g3 g4 => by omega⟩
theorem zEu {L a b i M} (h : zcK L a b (i, M)) (hi : 0 <= i) : zeF M i (b - a) a := by
 obtain ⟨h1, h2, h3, h4, h5, h6⟩ := h
 have hp := h1.1
 have hq := h1.2.2
 unfold Pre at hp
 exact ⟨hi, by omega, by omega, by omega, by omega, h5.nd h1.2.1, h6⟩
theorem zG4 {L a b i M N} (h : zcK L a b (i, M)) (hi : 0 <= i) (g : znK M i (b - a) a N) : zcK L a b (i - 1, N) /\ (i - 1 + 1).toNat < (i + 1).toNat := by
 obtain ⟨h1, h2, h3, h4, h5, h6⟩ := h
 obtain ⟨g1, g2⟩ := g
 refine ⟨⟨h1, by omega, by omega, g1.len.trans h4, h5.trans (g1.mono (by omega) (by omega)), ?_⟩, by omega⟩
 rw [Int.sub_add_cancel]; exact g2
theorem zDT {L a b i M} (h : zcK L a b (i, M)) (hi : ¬ 0 <= i) : zcJ L a b ((), b - a - 1, M) := by
 obtain ⟨h1, h2, h3, h4, h5, h6⟩ := h
 have hp := h1.1
 have hq := h1.2.2
 unfold Pre at hp
 refine ⟨h1, by omega, by omega, h4, h5, ?_, fun p q g1 g2 g3 g4 => by omega, fun p q g1 g2 g3 => by omega⟩
 have e : i = -1 := by omega
 rw [e] at h6
 rw [Int.sub_add_cancel]; exact h6
theorem zHR {L a b i M} (h : zcJ L a b ((), i, M)) (hi : 0 <= i) : zeF (swq M a (a + i)) 0 i a := by
 obtain ⟨h1, h2, h3, h4, h5, h6, h7, h8⟩ := h
 have hp := h1.1
 have hq := h1.2.2
 unfold Pre at hp
 have hs : Seg a b L (swq M a (a + i)) := h5.swq hp.1 hp.2.2.1 (by omega) (by omega)
 refine ⟨Int.le_refl _, hi, hp.1, by rw [zbr]; omega, by rw [zbr]; omega, hs.nd h1.2.1, fun c g1 g2 g3 g4 => ?_⟩
 rw [za9 (by omega) (by omega) (by omega), za9 (by omega) (by omega) (by omega), if_neg (by omega), if_neg (by omega), if_neg (by omega), if_neg (by omega)]
 exact h6 c g1 (by omega) (by omega) g4
theorem zHh {L a b i M N} (h : zcJ L a b ((), i, M)) (hi : 0 <= i) (g : znK (swq M a (a + i)) 0 i a N) : zcJ L a b ((), i - 1, N) /\ (i - 1 + 1).toNat < (i + 1).toNat := by
 obtain ⟨h1, h2, h3, h4, h5, h6, h7, h8⟩ := h
 obtain ⟨g1, g2⟩ := g
 have hp := h1.1
 have hq := h1.2.2
 unfold Pre at hp
 have hs : Seg a b L (swq M a (a + i)) := h5.swq hp.1 hp.2.2.1 (by omega) (by omega)
 have hn := h5.nd h1.2.1
 have hns := hs.nd h1.2.1
 have hN : N.length = L.length := by rw [g1.len, zbr]; exact h4
 have kl : (swq M a (a + i)).length = M.length := zbr
 have e1 : nth N (a + i) = nth M a := by
  rw [g1.out (a + i) (by omega) (by omega) (by omega), za9 (by omega) (by omega) (by omega), if_pos rfl]
 have e2 : ∀ p, a <= p -> p < a + i -> ltR (nth N p) (nth M a) := fun p q1 q2 => by
  obtain ⟨p', r1, r2⟩ := g1.at_ hns (by omega) (by omega) ⟨by omega, by omega⟩ (k := p)
  rw [r2, za9 (by omega) (by omega) (by omega), if_neg (by omega)]
  have key : ∀ k, 0 < k -> k <= i -> ltR (nth M (a + k)) (nth M a) := fun k s1 s2 => by
   have := zwQ h6 k.toNat k rfl (by omega) (by omega)
   exact zid hn (by omega) (by omega) (by omega) this
  by_cases c : p' = a
  . rw [if_pos c]
    exact key i (by omega) (by omega)
  . rw [if_neg c]
    have := key (p' - a) (by omega) (by omega)
    rw [show a + (p' - a) = p' by omega] at this
    exact this
 have e3 : ∀ q, a + i < q -> q < b -> nth N q = nth M q := fun q q1 q2 => by
  rw [g1.out q (by omega) (by omega) (by omega), za9 (by omega) (by omega) (by omega), if_neg (by omega), if_neg (by omega)]
 have e4 : ∀ p, a <= p -> p <= a + i -> ∃ p', a <= p' /\ p' <= a + i /\ nth N p = nth M p' := fun p q1 q2 => by
  by_cases c : p = a + i
  . rw [c]; exact ⟨a, by omega, by omega, e1⟩
  . obtain ⟨p', r1, r2⟩ := g1.at_ hns (by omega) (by omega) ⟨by omega, by omega⟩ (k := p)
    rw [za9 (by omega) (by omega) (by omega), if_neg (by omega)] at r2
    by_cases c2 : p' = a
    . rw [if_pos c2] at r2; exact ⟨a + i, by omega, by omega, r2⟩
    . rw [if_neg c2] at r2; exact ⟨p', by omega, by omega, r2⟩
 refine ⟨⟨h1, by omega, by omega, hN, hs.trans (g1.mono (by omega) (by omega)), ?_, fun p q q1 q2 q3 q4 => ?_, fun p q q1 q2 q3 => ?_⟩, by omega⟩
 . rw [Int.sub_add_cancel]; exact g2
 . by_cases c : q = a + i
   . rw [c, e1]; exact e2 p q1 (by omega)
   . rw [e3 q (by omega) q4]
     obtain ⟨p', r1, r2, r3⟩ := e4 p q1 (by omega)
     rw [r3]; exact h7 p' q r1 r2 (by omega) q4
 . by_cases c : p = a + i
   . rw [c, e1, e3 q (by omega) q3]; exact h7 a q (by omega) (by omega) (by omega) q3
   . rw [e3 p (by omega) (by omega), e3 q (by omega) q3]; exact h8 p q (by omega) q2 q3
theorem zJo {L a b i M} (h : zcJ L a b ((), i, M)) (hi : ¬ 0 <= i) : Seg a b L M /\ Srt a b M := by
 obtain ⟨h1, h2, h3, h4, h5, h6, h7, h8⟩ := h
 refine ⟨h5, fun p q q1 q2 q3 => h8 p q (by omega) q2 q3⟩
theorem zKa {L a b i M} (h : zcJ L a b ((), i, M)) : (swq M a (a + i)).length = L.length := zbr.trans h.2.2.2.1
theorem zzW {M : List HR} {i j : Int} {q : ULift.{1} (List HR) -> Prop} (h : q ⟨swq M i j⟩) : ∃ x : ULift.{1} (List HR), ((List.map HR.pv M).set (0 + i.toNat) [PV.bool (nth M j).vec, PV.int IntKind.i64 (nth M j).n]).set (0 + j.toNat) [PV.bool (nth M i).vec, PV.int IntKind.i64 (nth M i).n] = x.down.map HR.pv /\ q x := ⟨⟨swq M i j⟩, zfF.symm, h⟩
theorem zDx {L a b i M} (h : zcK L a b (i, M)) : M.length = L.length := h.2.2.2.1
noncomputable def zAT (L : List HR) (a : Int) (b : Int) : zaa := ⟨[.slc 0 0 L.length, kz a, kz b, .fn (.func 52) [] []], [.vec 2 (L.map HR.pv)], [some (.vex 2 (VX fun M => Seg a b L M /\ Srt a b M))], [], .tup []⟩
set_option maxHeartbeats 8000000 in
theorem zFz (L : List HR) (a : Int) (b : Int) (hp : zeI a b L) : zaa.ok Tryz.prog GG 182 (zAT L a b) := by
 refine zac mix zJv _ rfl rfl (Tab.ok (l := [(210, zsr)]) ⟨zKe, trivial⟩) (zDJ L a b) noJ ?_
 repeat' ((conv => whnf); first
  | exact trivial
  | with_reducible first | refine aj ?_ | refine ai rfl ?_ | refine ai ⟨rfl, rfl⟩ ?_
  | ((with_reducible refine ai ?_ ?_); focus exact w3)
  | with_reducible first | refine zvk ?_ | refine zur ?_ | refine zun ?_
  | refine zzW ?_
  | with_reducible first | apply exW (γ := zmN) (c := (_, _)) | apply exW (γ := zmM) (c := ((), _, _)) | refine exI (zvF hp) ?_ | refine ai (zEu (by with_reducible assumption) (by with_reducible assumption)) ?_ | refine ai (zHR (by with_reducible assumption) (by with_reducible assumption)) ?_ | refine exI (i64_in (by simp only [zcK, zcJ, zeI, Pre, List.length_map] at *; omega) (by simp only [zcK, zcJ, zeI, Pre, List.length_map] at *; omega)) ?_
  | refine exI (x := ULift.up _) (za8 _ _ _ (by simp only [zcK, zcJ, zeI, Pre, List.length_map] at *; omega)) ?_
  | refine exI (x := ULift.up _) ⟨rfl, (by simp only [zcK, zcJ, zeI, Pre, List.length_map] at *; omega), zbc _ _ _ (by simp only [zcK, zcJ, zeI, Pre, List.length_map] at *; omega)⟩ ?_
  | refine exI (x := ULift.up _) (pgq (by simp only [zcK, zcJ, zeI, Pre, List.length_map] at *; omega)) ?_
  | with_reducible first | refine And.intro (Sd.mk (p := (_ : Int) <= _ /\ _) (by simp only [zcK, zcJ, zeI, Pre, List.length_map] at *; omega)) ?_ | refine And.intro ?_ ?_ | refine zae ?_ | refine exI (i64_in (by omega) (by omega)) ?_
  | refine exI (x := ULift.up _) (Eq.refl _) ?_
  | refine exI (x := ULift.up _) ⟨rfl, by omega, Eq.refl _⟩ ?_
  | exact nx
  | ((with_reducible intro h); try dsimp only at h))
 all_goals (refine Sd.mk ?_)
 all_goals (try simp only [HR.eta, true_and] at *)
 all_goals first
  | exact zfF
  | exact zGy hp
  | exact zDx ‹_›
  | exact zKa ‹_›
  | exact zG4 ‹_› ‹_› ‹_›
  | exact zDT ‹_› ‹_›
  | exact zHh ‹_› ‹_› ‹_›
  | exact vx (zJo ‹_› ‹_›)
noncomputable def zsb : SFn
 | [.slc p 0 _, .int .i64 a, .int .i64 b, .fn (.func 52) [] []], k => .rO p fun o => match o with
   | some (.vec 2 LL) => asL HR.pv LL fun L => .req (zeI a b L) (k (zAT L a b))
   | _ => .fail
 | _, _ => .fail
theorem zI1 : FnS Tryz.prog GG 182 zsb := by
 intro args k gt go R v os n h
 unfold zsb at h
 split at h
 . cases h with
   | rO h =>
     dsimp only at h
     split at h
     . obtain ⟨L, _, h⟩ := zaN h
       obtain ⟨hp, _, h⟩ := zar h
       exact ⟨_, _, zFz L _ _ hp, h⟩
     . cases h
 . cases h
end
end Go.Proofs.YtlahifihaeafbaaGreatDoor
