/- Part 6 of 11 of a proof of the law AllocLive: what the last part leans on. -/
import Derived.Test.YtlahifihaeafbaaGreatDoorZe
set_option linter.all false
set_option maxRecDepth 100000
namespace Go.Proofs.YtlahifihaeafbaaGreatDoor
open Go Go.Sx
section
def c31 : MC := .seq (.reg [oo 2 (.mv (.k (.val (.slice none 0 0))))]) (.seq (.seq (.reg [om 3 0,oo 4 (.nils false (.t 3))]) (.cond (.t 4) (.seq (.reg [oo 2 (.mv (.k (.val (.slice none 0 0))))]) (.ret)) (.skip))) (.seq (.reg [oo 5 (.bsl 15 0 zI []),om 6 0,oo 7 (.app 15 96 (.t 5) (.t 6)),om 2 7]) (.ret)))
theorem k31 : zan Tryz.prog 31 8 c31 [.t 2] := fk Tryz.func31 ⟨tv,⟨⟨tv,⟨⟨tv,tv⟩,tv⟩⟩,⟨tv,tv⟩⟩⟩
def zGI : MC := .seq (.reg [oo 2 (.mv kf)]) (.seq (.reg [om 3 0,om 4 0,oo 5 (ct .neq 3 4),om 2 5]) (.ret))
theorem zJ0 : zan Tryz.prog 141 6 zGI [.t 2] := fk Tryz.func141 ⟨tv,⟨tv,tv⟩⟩
def zFb : MC := .seq (.reg [oo 2 (.mv kf)]) (.seq (.reg [om 3 0,om 4 0,oo 5 (ct .neq 3 4),om 2 5]) (.ret))
theorem zGL : zan Tryz.prog 172 6 zFb [.t 2] := fk Tryz.func172 ⟨tv,⟨tv,tv⟩⟩
def zKi : MC := .seq (.reg [oo 4 (.mv kf)]) (.seq (.reg [om 5 0,oo 6 (fc 141 [(.t 5)]),sm 7 6,mt 7 8 1,gt_ 7 9 (fc 141 [(.t 8)]),gt_ 7 10 (.not (.t 9)),oo 11 (pf 7 10),sm 12 11,mf 12 13 0,mf 12 14 1,gf 12 15 (ct .lss 13 14),oo 16 (pt 12 15),om 4 16]) (.ret))
theorem zFK : zan Tryz.prog 171 17 zKi [.t 4] := fk Tryz.func171 ⟨tv,⟨tv,tv⟩⟩
def zJy : MC := .seq (.reg [oo 4 (.mv (ki 0)),oo 5 (.mv kf)]) (.seq (.reg [om 10 0,oo 11 (.lenS (.t 10)),om 6 11]) (.seq (.reg [om 12 6,oo 7 (.mv (ki 0)),om 8 12]) (.seq (.blk 0 (.loop 0 (.seq (.seq (.reg [om 13 7,om 14 8,oo 15 (ct .lss 13 14)]) (.cond (.t 15) (.skip) (.exit 0))) (.blk 1 (.seq (.reg [om 16 7,om 17 8,oo 18 (at_ .add 16 17),oo 19 (.cv .u64 (.t 18)),oo 20 (.ar .shr (.t 19) (.k (.int .u64 1))),oo 21 (.cv .i64 (.t 20)),om 9 21]) (.seq (.reg [om 22 0,om 23 9,oo 24 (ia 1 22 23),oo 25 (ln 24),om 26 1,oo 27 (fc 171 [(.t 25),(.t 26)])]) (.cond (.t 27) (.reg [om 28 9,oo 29 (ac .add 28 1),om 7 29]) (.reg [om 30 9,om 8 30])))))))) (.seq (.reg [om 31 7,om 32 7,om 33 6,oo 34 (ct .lss 32 33),sm 35 34,mt 35 36 0,mt 35 37 7,gt_ 35 38 (ia 1 36 37),gt_ 35 39 (ln 38),mt 35 40 1,gt_ 35 41 (ct .eql 39 40),ogs 35 true (some 42) (.mv (.t 41)),mf 42 43 0,mf 42 44 7,gf 42 45 (ia 1 43 44),gf 42 46 (ln 45),gf 42 47 (fc 172 [(.t 46)]),ogs 42 false (some 48) (.mv (.t 47)),mt 48 49 1,gt_ 48 50 (fc 172 [(.t 49)]),gf 42 51 (pf 48 50),gt_ 35 52 (pt 42 51),oo 53 (pf 35 52),om 4 31,om 5 53]) (.ret)))))
theorem zHu : zan Tryz.prog 142 54 zJy [.t 4,.t 5] := fk Tryz.func142 ⟨tv,⟨tv,⟨tv,⟨⟨⟨tv,⟨tv,tv⟩⟩,⟨tv,⟨tv,⟨tv,tv⟩⟩⟩⟩,⟨tv,tv⟩⟩⟩⟩⟩
def c98 : MC := .seq (.reg [oo 4 (.mv (ki 0))]) (.seq (.reg [om 8 0,om 9 1,oo 10 (fc 142 [(.t 8),(.t 9)]),om 7 10,oo 11 (ex_ 0 7),oo 12 (ex_ 1 7),om 5 11,om 6 12]) (.seq (.seq (.reg [om 13 5,om 14 0,oo 15 (.lenS (.t 14)),oo 16 (ct .eql 13 15)]) (.cond (.t 16) (.seq (.reg [oo 4 (.mv (ki (-1)))]) (.ret)) (.skip))) (.seq (.reg [om 17 0,om 18 5,oo 19 (ia 1 17 18),oo 20 (ln 19),om 4 20]) (.ret))))
theorem k98 : zan Tryz.prog 98 21 c98 [.t 4] := fk Tryz.func98 ⟨tv,⟨tv,⟨⟨tv,⟨⟨tv,tv⟩,tv⟩⟩,⟨tv,tv⟩⟩⟩⟩
theorem zBM {α : Type} {f : α -> List PV} {L : List α} (h : L ≠ []) : List.map f L ≠ [] := by simpa using h
noncomputable def L31 (l : List HI) : zaa := ⟨[.rd (.sl 15 (l.map HI.pv))], [], [], [.vec 15 (l.map HI.pv)], .slc 0 0 l.length⟩
theorem s31 (l : List HI) (hp : l ≠ [] /\ l.length <= 1000000) : zaa.ok Tryz.prog GG 31 (L31 l) := by
 refine zac mix k31 _ rfl rfl (Tab.ok (l := []) trivial) noL noJ ?_
 repeat' ((conv => whnf); first
  | exact trivial
  | with_reducible first | refine aj ?_ | refine ai rfl ?_ | refine ai ⟨rfl, rfl⟩ ?_
  | ((with_reducible refine ai ?_ ?_); focus exact w3)
  | with_reducible first | refine And.intro (Sd.mk (p := _ ≠ _) (zBM hp.1)) ?_ | refine And.intro ?_ ?_ | refine zae ?_ | refine exI (i64_in (by omega) (by omega)) ?_
  | refine exI (x := ULift.up _) (Eq.refl _) ?_
  | refine exI (x := ULift.up _) ⟨rfl, by omega, Eq.refl _⟩ ?_
  | exact ny
  | ((with_reducible intro h); try dsimp only at h))
 all_goals (refine Sd.mk ?_)
 all_goals first
  | (simp [zai.len]; omega)
  | (simp [zai.len]; done)
noncomputable def S31 : SFn
 | [a0], k => zcu a0 fun L_l => asL HI.pv L_l fun l => .req (l ≠ [] /\ l.length <= 1000000) (k (L31 l))
 | _, _ => .fail
def srt (L : List Int) : Prop := L.Pairwise (· < ·)
def ltN (L : List Int) (x : Int) : Int := ((L.filter (fun y => decide (y < x))).length : Nat)
def zjS (L : List Int) (x : Int) : Bool := if ltN L x < L.length then decide (nth L (ltN L x) = x) else false
theorem zqE {L : List Int} (h : srt L) {i j : Int} (hi : 0 <= i) (hij : i < j) (hj : j < L.length) : nth L i < nth L j := by
 have e1 := zbN L i ⟨hi, by omega⟩
 have e2 := zbN L j ⟨by omega, hj⟩
 rw [List.getElem?_eq_getElem (by omega)] at e1 e2
 have := List.pairwise_iff_getElem.1 h i.toNat j.toNat (by omega) (by omega) (by omega)
 rw [Option.some.inj e1, Option.some.inj e2] at this
 exact this
theorem zAZ {L : List Int} {x lo : Int} (h0 : 0 <= lo) (h1 : lo <= L.length) (ha : ∀ m, 0 <= m -> m < lo -> nth L m < x) (hb : ∀ m, lo <= m -> m < L.length -> x <= nth L m) : ltN L x = lo := by
 unfold ltN
 have e : L.filter (fun y => decide (y < x)) = L.take lo.toNat := by
  conv => lhs; rw [<- List.take_append_drop lo.toNat L]
  rw [List.filter_append]
  have e1 : (L.take lo.toNat).filter (fun y => decide (y < x)) = L.take lo.toNat := by
   rw [List.filter_eq_self]
   intro y hy
   obtain ⟨i, hi, rfl⟩ := List.mem_iff_getElem.1 hy
   rw [List.length_take] at hi
   have e1 := zbN L i ⟨by omega, by omega⟩
   rw [List.getElem?_eq_getElem (by omega)] at e1
   rw [List.getElem_take]
   have := ha i (by omega) (by omega)
   rw [<- Option.some.inj e1] at this
   simpa using this
  have e2 : (L.drop lo.toNat).filter (fun y => decide (y < x)) = [] := by
   rw [List.filter_eq_nil_iff]
   intro y hy
   obtain ⟨i, hi, rfl⟩ := List.mem_iff_getElem.1 hy
   rw [List.length_drop] at hi
   have e1 := zbN L ((lo.toNat + i : Nat) : Int) ⟨by omega, by omega⟩
   rw [List.getElem?_eq_getElem (by omega)] at e1
   rw [List.getElem_drop]
   have := hb ((lo.toNat + i : Nat) : Int) (by omega) (by omega)
   rw [<- Option.some.inj e1] at this
   simp only [Int.toNat_natCast] at this
   simpa using this
  rw [e1, e2, List.append_nil]
 rw [e, List.length_take]; omega
def zyE (L : List Int) (x : Int) : Int × Int -> St
 | (lo, hi) => ⟨[(8, kz hi), (7, kz lo), (6, kz L.length), (1, kz x), (0, .rd (.sl 1 (L.map ipv)))], [], 0⟩
def zcW (L : List Int) (x : Int) (c : Int × Int) : Prop := 0 <= c.1 /\ c.1 <= c.2 /\ c.2 <= L.length /\ L.length <= 1000000 /\ (∀ m, 0 <= m -> m < c.1 -> nth L m < x) /\ (∀ m, c.2 <= m -> m < L.length -> x <= nth L m)
theorem zH7 {L : List Int} {x : Int} (h : L.length <= 1000000) : zcW L x (0, L.length) := ⟨by dsimp only; omega, by dsimp only; omega, by dsimp only; omega, h, fun m h1 h2 => by dsimp only at *; omega, fun m h1 h2 => by dsimp only at *; omega⟩
theorem zCi {L : List Int} {x lo hi : Int} (hs : srt L) (hI : zcW L x (lo, hi)) (h : lo < hi) (e : decide (nth L ((lo + hi) / 2) < x) = true) : zcW L x ((lo + hi) / 2 + 1, hi) /\ (hi - ((lo + hi) / 2 + 1)).toNat < (hi - lo).toNat := by
 obtain ⟨h1, h2, h3, h4, h5, h6⟩ := hI
 have e := of_decide_eq_true e
 dsimp only at *
 refine ⟨⟨by dsimp only; omega, by dsimp only; omega, h3, h4, fun m g1 g2 => ?_, h6⟩, by omega⟩
 dsimp only at g2
 by_cases g3 : m = (lo + hi) / 2
 . rw [g3]; exact e
 . exact Int.lt_trans (zqE hs g1 (by omega) (by omega)) e
theorem zB2 {L : List Int} {x lo hi : Int} (hs : srt L) (hI : zcW L x (lo, hi)) (h : lo < hi) (e : decide (nth L ((lo + hi) / 2) < x) = false) : zcW L x (lo, (lo + hi) / 2) /\ ((lo + hi) / 2 - lo).toNat < (hi - lo).toNat := by
 obtain ⟨h1, h2, h3, h4, h5, h6⟩ := hI
 have e := of_decide_eq_false e
 dsimp only at *
 refine ⟨⟨h1, by dsimp only; omega, by dsimp only; omega, h4, h5, fun m g1 g2 => ?_⟩, by omega⟩
 dsimp only at g1
 by_cases g3 : m = (lo + hi) / 2
 . rw [g3]; omega
 . have := zqE hs (i := (lo + hi) / 2) (j := m) (by omega) (by omega) g2
   omega
theorem zkD {L : List Int} {x lo hi : Int} (hI : zcW L x (lo, hi)) (h : ¬ lo < hi) : ltN L x = lo := by
 obtain ⟨h1, h2, h3, h4, h5, h6⟩ := hI
 dsimp only at *
 exact zAZ h1 (by omega) h5 (fun m g1 g2 => h6 m (by omega) g2)
theorem zIj {L : List Int} {x lo hi : Int} (hI : zcW L x (lo, hi)) (h : ¬ lo < hi) (g : lo < L.length) (e : nth L lo = x) : zjS L x = true := by
 unfold zjS; rw [zkD hI h, if_pos g, e]; simp
theorem zHS {L : List Int} {x lo hi : Int} (hI : zcW L x (lo, hi)) (h : ¬ lo < hi) (e : ¬ nth L lo = x) : zjS L x = false := by
 unfold zjS; rw [zkD hI h]; split
 . simpa using e
 . rfl
theorem zJJ {L : List Int} {x lo hi : Int} (hI : zcW L x (lo, hi)) (h : ¬ lo < hi) (g : ¬ lo < L.length) : zjS L x = false := by
 unfold zjS; rw [zkD hI h, if_neg g]
theorem zqN {L : List Int} {x : Int} : 0 <= ltN L x /\ ltN L x <= L.length := by
 have := List.length_filter_le (fun y => decide (y < x)) L
 unfold ltN; omega
def zdi (L : List Int) (x : Int) : Int := if ltN L x = L.length then -1 else nth L (ltN L x)
theorem zy9 {L : List Int} {x : Int} {Q : Int × Int -> Prop} (h : ∀ lo hi, zcW L x (lo, hi) -> Q (lo, hi)) : ∀ c, zcW L x c -> Q c := fun ⟨lo, hi⟩ hI => h _ _ hI
theorem zfh {n : Int} (h1 : 0 <= n) (h2 : n < 9223372036854775808) : (ULift.up n).down = IntKind.u64.wrap n := by
 show n = n % 18446744073709551616
 omega
theorem zuS {n : Int} (h1 : 0 <= n) (h2 : n < 9223372036854775808) : (ULift.up (n / 2)).down = IntKind.i64.wrap (n.fdiv (2 ^ (min (1 : Int).toNat IntKind.u64.bits))) := by
 have h : n.fdiv (2 ^ (min (1 : Int).toNat IntKind.u64.bits)) = n / 2 := Int.fdiv_eq_ediv_of_nonneg _ (by decide)
 rw [h]
 exact i64_in (by omega) (by omega)
noncomputable def zwM (x : Int) : zaa := ⟨[kz x], [], [], [], .ff⟩
theorem zJb (x : Int) : zaa.ok Tryz.prog GG 141 (zwM x) := by
 refine zac mix zJ0 _ rfl rfl (Tab.ok (l := []) trivial) noL noJ ?_
 repeat' ((conv => whnf); first
  | exact trivial
  | with_reducible first | refine aj ?_ | refine ai rfl ?_ | refine ai ⟨rfl, rfl⟩ ?_
  | ((with_reducible refine ai ?_ ?_); focus exact w3)
  | with_reducible first | refine And.intro ?_ ?_ | refine zae ?_ | refine exI (i64_in (by omega) (by omega)) ?_
  | refine exI (x := ULift.up _) (Eq.refl _) ?_
  | refine exI (x := ULift.up _) ⟨rfl, by omega, Eq.refl _⟩ ?_
  | exact ny
  | ((with_reducible intro h); try dsimp only at h))
 all_goals (refine Sd.mk ?_; simp_all)
noncomputable def zoS : SFn
 | [a0], k => asI a0 fun x => k (zwM x)
 | _, _ => .fail
theorem zzt : FnS Tryz.prog GG 141 zoS := by
 intro args k gt go R v os n h
 unfold zoS at h
 split at h
 . obtain ⟨x, _, h⟩ := zaU h
   exact ⟨_, _, zJb x, h⟩
 . cases h
noncomputable def zya (x : Int) : zaa := ⟨[kz x], [], [], [], .ff⟩
theorem zH3 (x : Int) : zaa.ok Tryz.prog GG 172 (zya x) := by
 refine zac mix zGL _ rfl rfl (Tab.ok (l := []) trivial) noL noJ ?_
 repeat' ((conv => whnf); first
  | exact trivial
  | with_reducible first | refine aj ?_ | refine ai rfl ?_ | refine ai ⟨rfl, rfl⟩ ?_
  | ((with_reducible refine ai ?_ ?_); focus exact w3)
  | with_reducible first | refine And.intro ?_ ?_ | refine zae ?_ | refine exI (i64_in (by omega) (by omega)) ?_
  | refine exI (x := ULift.up _) (Eq.refl _) ?_
  | refine exI (x := ULift.up _) ⟨rfl, by omega, Eq.refl _⟩ ?_
  | exact ny
  | ((with_reducible intro h); try dsimp only at h))
 all_goals (refine Sd.mk ?_; simp_all)
noncomputable def zr8 : SFn
 | [a0], k => asI a0 fun x => k (zya x)
 | _, _ => .fail
theorem zHr : FnS Tryz.prog GG 172 zr8 := by
 intro args k gt go R v os n h
 unfold zr8 at h
 split at h
 . obtain ⟨x, _, h⟩ := zaU h
   exact ⟨_, _, zH3 x, h⟩
 . cases h
noncomputable def zAH (x : Int) (y : Int) : zaa := ⟨[kz x, kz y], [], [], [], .bool (decide (x < y))⟩
theorem zGv (x : Int) (y : Int) : zaa.ok Tryz.prog GG 171 (zAH x y) := by
 refine zac mix zFK _ rfl rfl (Tab.ok (l := [(141, zoS)]) ⟨zzt, trivial⟩) noL noJ ?_
 repeat' ((conv => whnf); first
  | exact trivial
  | with_reducible first | refine aj ?_ | refine ai rfl ?_ | refine ai ⟨rfl, rfl⟩ ?_
  | ((with_reducible refine ai ?_ ?_); focus exact w3)
  | with_reducible first | refine And.intro ?_ ?_ | refine zae ?_ | refine exI (i64_in (by omega) (by omega)) ?_
  | refine exI (x := ULift.up _) (Eq.refl _) ?_
  | refine exI (x := ULift.up _) ⟨rfl, by omega, Eq.refl _⟩ ?_
  | exact ny
  | ((with_reducible intro h); try dsimp only at h))
 all_goals (refine Sd.mk ?_; simp_all)
noncomputable def zrw : SFn
 | [a0, a1], k => asI a0 fun x => asI a1 fun y => k (zAH x y)
 | _, _ => .fail
theorem zEH : FnS Tryz.prog GG 171 zrw := by
 intro args k gt go R v os n h
 unfold zrw at h
 split at h
 . obtain ⟨x, _, h⟩ := zaU h
   obtain ⟨y, _, h⟩ := zaU h
   exact ⟨_, _, zGv x y, h⟩
 . cases h
noncomputable def zxx (L : List Int) (x : Int) : zaa := ⟨[.rd (.sl 1 (L.map ipv)), kz x], [], [], [], .tup [kz (ltN L x), .bool (zjS L x)]⟩
set_option maxHeartbeats 4000000 in
theorem zJM (L : List Int) (x : Int) (hp : srt L /\ L.length <= 1000000) : zaa.ok Tryz.prog GG 142 (zxx L x) := by
 refine zac mix zHu _ rfl rfl (Tab.ok (l := [(171, zrw), (172, zr8)]) ⟨zEH, zHr, trivial⟩) (fun _ => .inv (Int × Int) (fun _ => zcW L x) (zyE L x) (fun c => (c.2 - c.1).toNat)) noJ ?_
 repeat' ((conv => whnf); first
  | exact trivial
  | with_reducible first | refine aj ?_ | refine ai rfl ?_ | refine ai ⟨rfl, rfl⟩ ?_
  | ((with_reducible refine ai ?_ ?_); focus exact w3)
  | with_reducible first | refine zy9 ?_ | apply exW (γ := Int × Int) (c := (_, _)) | refine exI (i64_in (by simp only [zcW, List.length_map] at *; omega) (by simp only [zcW, List.length_map] at *; omega)) ?_
  | refine exI (zfh (by simp only [zcW, List.length_map] at *; omega) (by simp only [zcW, List.length_map] at *; omega)) ?_
  | refine exI (zuS (by simp only [zcW, List.length_map] at *; omega) (by simp only [zcW, List.length_map] at *; omega)) ?_
  | refine exI (x := ULift.up _) ⟨rfl, (by simp only [zcW, List.length_map] at *; omega), zbc _ _ _ (by simp only [zcW, List.length_map] at *; omega)⟩ ?_
  | with_reducible first | refine And.intro ?_ ?_ | refine zae ?_ | refine exI (i64_in (by omega) (by omega)) ?_
  | refine exI (x := ULift.up _) (Eq.refl _) ?_
  | refine exI (x := ULift.up _) ⟨rfl, by omega, Eq.refl _⟩ ?_
  | exact nx
  | ((with_reducible intro h); try dsimp only at h))
 all_goals (refine Sd.mk ?_; (try simp only [List.length_map] at *))
 all_goals first
  | exact zH7 hp.2
  | exact zCi hp.1 ‹_› ‹_› ‹_›
  | exact zB2 hp.1 ‹_› ‹_› ‹_›
  | exact zkD ‹_› ‹_›
  | exact zIj ‹_› ‹_› ‹_› ‹_›
  | exact zHS ‹_› ‹_› ‹_›
  | exact zJJ ‹_› ‹_› ‹_›
noncomputable def zri : SFn
 | [a0, a1], k => zcu a0 fun L_L => asL ipv L_L fun L => asI a1 fun x => .req (srt L /\ L.length <= 1000000) (k (zxx L x))
 | _, _ => .fail
theorem zG3 : FnS Tryz.prog GG 142 zri := by
 intro args k gt go R v os n h
 unfold zri at h
 split at h
 . obtain ⟨L_L, _, h⟩ := zbn h
   obtain ⟨L, _, h⟩ := zaN h
   obtain ⟨x, _, h⟩ := zaU h
   obtain ⟨hp, _, h⟩ := zar h
   exact ⟨_, _, zJM L x hp, h⟩
 . cases h
noncomputable def L98 (L : List Int) (x : Int) : zaa := ⟨[.rd (.sl 1 (L.map ipv)), kz x], [], [], [], kz (zdi L x)⟩
theorem s98 (L : List Int) (x : Int) (hp : srt L /\ L.length <= 1000000) : zaa.ok Tryz.prog GG 98 (L98 L x) := by
 refine zac mix k98 _ rfl rfl (Tab.ok (l := [(142, zri)]) ⟨zG3, trivial⟩) noL noJ ?_
 repeat' ((conv => whnf); first
  | exact trivial
  | with_reducible first | refine aj ?_ | refine ai rfl ?_ | refine ai ⟨rfl, rfl⟩ ?_
  | ((with_reducible refine ai ?_ ?_); focus exact w3)
  | with_reducible refine And.intro (Sd.mk (p := _ /\ _ <= 1000000) hp) ?_
  | refine exI (x := ULift.up _) ⟨rfl, (by have := @zqN L x; (try simp only [List.length_map] at *); omega), zbc _ _ _ (by have := @zqN L x; (try simp only [List.length_map] at *); omega)⟩ ?_
  | with_reducible first | refine And.intro ?_ ?_ | refine zae ?_ | refine exI (i64_in (by omega) (by omega)) ?_
  | refine exI (x := ULift.up _) (Eq.refl _) ?_
  | refine exI (x := ULift.up _) ⟨rfl, by omega, Eq.refl _⟩ ?_
  | exact ny
  | ((with_reducible intro h); try dsimp only at h))
 all_goals (refine Sd.mk ?_; (try simp only [List.length_map] at *))
 all_goals first
  | (unfold zdi; rw [if_pos ‹_›])
  | (unfold zdi; rw [if_neg ‹_›])
noncomputable def S98 : SFn
 | [a0, a1], k => zcu a0 fun L_L => asL ipv L_L fun L => asI a1 fun x => .req (srt L /\ L.length <= 1000000) (k (L98 L x))
 | _, _ => .fail
theorem t98 : FnS Tryz.prog GG 98 S98 := by
 intro args k gt go R v os n h
 unfold S98 at h
 split at h
 . obtain ⟨L_L, _, h⟩ := zbn h
   obtain ⟨L, _, h⟩ := zaN h
   obtain ⟨x, _, h⟩ := zaU h
   obtain ⟨hp, _, h⟩ := zar h
   exact ⟨_, _, s98 L x hp, h⟩
 . cases h
end
section
def c96 : MC := .seq (.reg [oo 4 (.mv (ki 0))]) (.seq (.reg [om 7 0,oo 8 (fc 141 [(.t 7)]),om 5 8]) (.seq (.reg [om 9 1,oo 10 (fc 141 [(.t 9)]),om 6 10]) (.seq (.seq (.reg [om 11 5]) (.cond (.t 11) (.seq (.seq (.reg [om 12 6]) (.cond (.t 12) (.seq (.reg [oo 4 (.mv (ki 0))]) (.ret)) (.skip))) (.seq (.reg [oo 4 (.mv (ki (-1)))]) (.ret))) (.skip))) (.seq (.seq (.reg [om 13 6]) (.cond (.t 13) (.seq (.reg [oo 4 (.mv (ki 1))]) (.ret)) (.skip))) (.seq (.seq (.reg [om 14 0,om 15 1,oo 16 (ct .lss 14 15)]) (.cond (.t 16) (.seq (.reg [oo 4 (.mv (ki (-1)))]) (.ret)) (.skip))) (.seq (.seq (.reg [om 17 0,om 18 1,oo 19 (ct .gtr 17 18)]) (.cond (.t 19) (.seq (.reg [oo 4 (.mv (ki 1))]) (.ret)) (.skip))) (.seq (.reg [oo 4 (.mv (ki 0))]) (.ret))))))))
theorem k96 : zan Tryz.prog 96 20 c96 [.t 4] := fk Tryz.func96 ⟨tv,⟨tv,⟨tv,⟨⟨tv,⟨⟨⟨tv,⟨⟨tv,tv⟩,tv⟩⟩,⟨tv,tv⟩⟩,tv⟩⟩,⟨⟨tv,⟨⟨tv,tv⟩,tv⟩⟩,⟨⟨tv,⟨⟨tv,tv⟩,tv⟩⟩,⟨⟨tv,⟨⟨tv,tv⟩,tv⟩⟩,⟨tv,tv⟩⟩⟩⟩⟩⟩⟩⟩
def c52 : MC := .seq (.reg [oo 2 (.box (.t 0)),oo 3 (.box (.t 1)),oo 4 (.mv (ki 0))]) (.seq (.seq (.reg [oo 5 (fl 0 2),oo 6 (ln 5),oo 7 (fl 0 3),oo 8 (ln 7),oo 9 (.eqb true (.t 6) (.t 8))]) (.cond (.t 9) (.seq (.seq (.reg [oo 10 (fl 0 3),oo 11 (ln 10)]) (.cond (.t 11) (.seq (.reg [oo 4 (.mv (ki (-1)))]) (.ret)) (.skip))) (.seq (.reg [oo 4 (.mv (ki 1))]) (.ret))) (.skip))) (.seq (.reg [oo 12 (fl 1 2),oo 13 (ln 12),oo 14 (fl 1 3),oo 15 (ln 14),oo 16 (fc 96 [(.t 13),(.t 15)]),om 4 16]) (.ret)))
theorem k52 : zan Tryz.prog 52 17 c52 [.t 4] := fk Tryz.func52 ⟨tv,⟨⟨tv,⟨⟨⟨tv,⟨⟨tv,tv⟩,tv⟩⟩,⟨tv,tv⟩⟩,tv⟩⟩,⟨tv,tv⟩⟩⟩
def zc3 (x y : Int) : Int := if x < y then -1 else if y < x then 1 else 0
def zaI (a b : HR) : Int := if a.vec ≠ b.vec then (if b.vec = true then -1 else 1) else zc3 a.n b.n
noncomputable def L96 (x : Int) (y : Int) : zaa := ⟨[kz x, kz y], [], [], [], kz (zc3 x y)⟩
theorem s96 (x : Int) (y : Int) : zaa.ok Tryz.prog GG 96 (L96 x y) := by
 refine zac mix k96 _ rfl rfl (Tab.ok (l := [(141, zoS)]) ⟨zzt, trivial⟩) noL noJ ?_
 repeat' ((conv => whnf); first
  | exact trivial
  | with_reducible first | refine aj ?_ | refine ai rfl ?_ | refine ai ⟨rfl, rfl⟩ ?_
  | ((with_reducible refine ai ?_ ?_); focus exact w3)
  | with_reducible first | refine And.intro ?_ ?_ | refine zae ?_ | refine exI (i64_in (by omega) (by omega)) ?_
  | refine exI (x := ULift.up _) (Eq.refl _) ?_
  | refine exI (x := ULift.up _) ⟨rfl, by omega, Eq.refl _⟩ ?_
  | exact ny
  | ((with_reducible intro h); try dsimp only at h))
 all_goals (refine Sd.mk ?_; unfold zc3; (repeat' split)) <;> first | rfl | omega | simp_all
noncomputable def S96 : SFn
 | [a0, a1], k => asI a0 fun x => asI a1 fun y => k (L96 x y)
 | _, _ => .fail
theorem t96 : FnS Tryz.prog GG 96 S96 := by
 intro args k gt go R v os n h
 unfold S96 at h
 split at h
 . obtain ⟨x, _, h⟩ := zaU h
   obtain ⟨y, _, h⟩ := zaU h
   exact ⟨_, _, s96 x y, h⟩
 . cases h
noncomputable def L52 (a : HR) (b : HR) : zaa := ⟨[.agg a.cells, .agg b.cells], [], [], [], kz (zaI a b)⟩
theorem s52 (a : HR) (b : HR) : zaa.ok Tryz.prog GG 52 (L52 a b) := by
 refine zac mix k52 _ rfl rfl (Tab.ok (l := [(96, S96)]) ⟨t96, trivial⟩) noL noJ ?_
 repeat' ((conv => whnf); first
  | exact trivial
  | with_reducible first | refine aj ?_ | refine ai rfl ?_ | refine ai ⟨rfl, rfl⟩ ?_
  | ((with_reducible refine ai ?_ ?_); focus exact w3)
  | with_reducible first | refine And.intro ?_ ?_ | refine zae ?_ | refine exI (i64_in (by omega) (by omega)) ?_
  | refine exI (x := ULift.up _) (Eq.refl _) ?_
  | refine exI (x := ULift.up _) ⟨rfl, by omega, Eq.refl _⟩ ?_
  | exact nx
  | ((with_reducible intro h); try dsimp only at h))
 all_goals (refine Sd.mk ?_; unfold zaI; simp_all)
noncomputable def S52 : SFn
 | [a0, a1], k => zf0 a0 fun a => zf0 a1 fun b => k (L52 a b)
 | _, _ => .fail
theorem t52 : FnS Tryz.prog GG 52 S52 := by
 intro args k gt go R v os n h
 unfold S52 at h
 split at h
 . obtain ⟨a, _, h⟩ := zdd h
   obtain ⟨b, _, h⟩ := zdd h
   exact ⟨_, _, s52 a b, h⟩
 . cases h
end
section
def zIQ : MC := .seq (.reg [om 10 1,oo 11 (ac .add 10 1),om 8 11]) (.blk 0 (.loop 0 (.seq (.seq (.reg [om 12 8,om 13 2,oo 14 (ct .lss 12 13)]) (.cond (.t 14) (.skip) (.exit 0))) (.seq (.blk 1 (.seq (.reg [om 17 8,om 9 17]) (.blk 2 (.loop 1 (.seq (.seq (.drw [om 18 9,om 19 1,oo 20 (ct .gtr 18 19),sm 21 20,mt 21 22 3,mt 21 23 0,mt 21 24 9,gt_ 21 25 (ia 1 23 24),gt_ 21 26 (ln 25),mt 21 27 0,mt 21 28 9,gt_ 21 29 (ac .sub 28 1),gt_ 21 30 (ia 1 27 29),gt_ 21 31 (ln 30),gt_ 21 32 (.call (.t 22) [(.t 26),(.t 31)]),gt_ 21 33 (cc .lss 32 0),oo 34 (pf 21 33)] [[],[],[0,1],[2],[3],[3],[3],[5,6,3],[7,3],[3],[3],[10,3],[9,11,3],[12,3],[4,8,13,3,3],[14,3],[3,15]]) (.cond (.t 34) (.skip) (.exit 2))) (.seq (.blk 3 (.drw [om 37 0,om 38 9,om 39 0,om 40 9,oo 41 (ac .sub 40 1),om 42 0,om 43 9,oo 44 (ac .sub 43 1),oo 45 (ia 1 42 44),oo 46 (ln 45),om 47 0,om 48 9,oo 49 (ia 1 47 48),oo 50 (ln 49),oo 51 (ia 1 37 38),o none (.st (some 1) (.t 51) (.t 46)),oo 52 (ia 1 39 41),o none (.st (some 1) (.t 52) (.t 50))] [[],[],[],[],[3],[],[],[6],[5,7],[8],[],[],[10,11],[12],[0,1,0,1,5,6,7,8,9,13],[14,9,0,1,5,6,7,8,9,13],[2,4,0,1,2,3,4,5,6,7,8,9,10,11,12,13,14,15],[16,13,15,0,1,2,3,4,5,6,7,8,9,10,11,12,13,14,15]])) (.reg [om 35 9,oo 36 (ac .sub 35 1),om 9 36]))))))) (.reg [om 15 8,oo 16 (ac .add 15 1),om 8 16])))))
theorem zEM : zan Tryz.prog 225 53 zIQ [] := fk Tryz.func225 ⟨tv,⟨⟨tv,⟨tv,tv⟩⟩,⟨⟨tv,⟨⟨tv,⟨tv,tv⟩⟩,⟨tv,tv⟩⟩⟩,tv⟩⟩⟩
def zc4 : List Int -> Int -> List Int
 | [], x => [x]
 | y :: r, x => if zc3 x y < 0 then y :: zc4 r x else x :: y :: r
def zbQ (L : List Int) : List Int := (L.foldl zc4 []).reverse
def ziB (M : List Int) (j : Int) : List Int := (M.set (0 + j.toNat) (nth M (j - 1))).set (0 + (j - 1).toNat) (nth M j)
abbrev zmD := Int × List Int
abbrev zgB := Int × Int × List Int
def zvp (L : List Int) : zmD -> St
 | (i, M) => ⟨[(8, kz i), (3, .fn (.func 96) [] []), (2, kz L.length), (1, kz 0), (0, .slc 0 0 L.length)], [(0, some (.vec 1 (M.map ipv)))], 1⟩
def zv1 (L : List Int) : zgB -> St
 | (i, j, M) => ⟨[(9, kz j), (8, kz i), (3, .fn (.func 96) [] []), (2, kz L.length), (1, kz 0), (0, .slc 0 0 L.length)], [(0, some (.vec 1 (M.map ipv)))], 1⟩
def zde (L : List Int) : zmD -> Prop
 | (i, M) => 1 <= i /\ (i <= L.length \/ i = 1) /\ L.length <= 1000000 /\ M.length = L.length /\ M = (((L.take i.toNat).foldl zc4 []).reverse ++ L.drop i.toNat)
def zKs (L : List Int) (i j : Int) (M : List Int) : Prop := ∃ A B : List Int, A.length = j.toNat /\ M = A.reverse ++ nth L i :: (B.reverse ++ L.drop (i + 1).toNat) /\ (L.take (i + 1).toNat).foldl zc4 [] = B ++ zc4 A (nth L i)
def zdc (L : List Int) (c0 : zgB) : zgB -> Prop
 | (i, j, M) => i = c0.1 /\ 0 <= j /\ j <= i /\ i < L.length /\ L.length <= 1000000 /\ M.length = L.length /\ zKs L i j M
def zCl (L : List Int) : Nat -> zbO
 | 0 => .inv zmD (fun _ => zde L) (zvp L) (fun c => (L.length - c.1).toNat)
 | _ => .inv zgB (zdc L) (zv1 L) (fun c => c.2.1.toNat)
theorem zuO {L : List Int} {Q : zmD -> Prop} (h : ∀ i M, zde L (i, M) -> Q (i, M)) : ∀ c, zde L c -> Q c := fun ⟨i, M⟩ hI => h _ _ hI
theorem zvM {L : List Int} {i x} {Q : zgB -> Prop} (h : ∀ j M, zdc L (i, x) (i, j, M) -> Q (i, j, M)) : ∀ c, zdc L (i, x) c -> Q c := fun ⟨i', j, M⟩ hI => by
 have h1 := hI.1
 dsimp only at h1
 subst h1
 exact h _ _ hI
theorem zEU {L : List Int} {c0 : zgB} {i j : Int} {M : List Int} (_ : zdc L c0 (i, j, M)) {p q : zgB -> Prop} (h : p (i, j - 1, ziB M j)) (k : q (i, j - 1, ziB M j)) : ∃ c, p c /\ q c := ⟨_, h, k⟩
theorem zD6 {M : List Int} {y : Int} {a k : Int} (h : 0 <= k /\ k < M.length) : (List.set (List.map ipv M) (0 + a.toNat) (ipv y))[0 + k.toNat]? = some (ipv (nth (M.set (0 + a.toNat) y) k)) := by
 rw [<- List.map_set, za8 _ _ _ (by rw [List.length_set]; exact h)]
theorem zfH {P R : List Int} {x : Int} {j : Int} (h0 : 0 <= j) (h : P.length = j.toNat) : nth (P ++ x :: R) j = x := by
 have e := zbN (P ++ x :: R) j ⟨h0, by rw [List.length_append, List.length_cons]; omega⟩
 rw [<- h, List.getElem?_append_right (Nat.le_refl _), Nat.sub_self] at e
 exact (Option.some.inj e).symm
theorem zsY (A : List Int) (x : Int) : (zc4 A x).length = A.length + 1 := by
 induction A with
 | nil => rfl
 | cons y r ih =>
   unfold zc4; split
   . rw [List.length_cons, ih, List.length_cons]
   . rfl
theorem zpZ (l : List Int) : ∀ A : List Int, (l.foldl zc4 A).length = A.length + l.length := by
 induction l with
 | nil => intro A; rfl
 | cons x r ih => intro A; rw [List.foldl_cons, ih, zsY, List.length_cons]; omega
theorem zHF {L : List Int} (hp : L.length <= 1000000) : zde L (0 + 1, L) := by
 refine ⟨by omega, .inr rfl, hp, rfl, ?_⟩
 cases L with
 | nil => rfl
 | cons a t => rfl
theorem zEF {L : List Int} {i : Int} {M : List Int} (hI : zde L (i, M)) (h : i < L.length) : zdc L (i, i, M) (i, i, M) := by
 obtain ⟨h1, h2, h3, h4, h5⟩ := hI
 refine ⟨rfl, by omega, by omega, h, h3, h4, (L.take i.toNat).foldl zc4 [], [], ?_, ?_, ?_⟩
 . rw [zpZ, List.length_take, List.length_nil]; omega
 . rw [h5, zaF L i ⟨by omega, h⟩]; rfl
 . rw [zdL L i ⟨by omega, h⟩, List.foldl_append]; rfl
theorem zww {M : List Int} {j : Int} : List.map ipv (ziB M j) = ((List.map ipv M).set (0 + j.toNat) [PV.int IntKind.i64 (nth M (j - 1))]).set (0 + (j - 1).toNat) [PV.int IntKind.i64 (nth M j)] := by
 unfold ziB; rw [List.map_set, List.map_set]; rfl
theorem zuH {P R : List Int} {x y : Int} {j : Int} (h0 : 0 < j) (h : P.length = (j - 1).toNat) : ziB (P ++ y :: x :: R) j = P ++ x :: y :: R := by
 have e1 : nth (P ++ y :: x :: R) (j - 1) = y := zfH (by omega) h
 have e2 : nth (P ++ y :: x :: R) j = x := by
  have : P ++ y :: x :: R = (P ++ [y]) ++ x :: R := by rw [List.append_assoc]; rfl
  rw [this]
  exact zfH (by omega) (by rw [List.length_append, List.length_singleton]; omega)
 unfold ziB
 rw [e1, e2, List.set_append, if_neg (by omega)]
 have e3 : 0 + j.toNat - P.length = 1 := by omega
 rw [e3]
 show (P ++ y :: y :: R).set _ x = _
 rw [List.set_append, if_neg (by omega)]
 have e4 : 0 + (j - 1).toNat - P.length = 0 := by omega
 rw [e4]; rfl
theorem zBJ {L : List Int} {c0 : zgB} {i j : Int} {M : List Int} (hI : zdc L c0 (i, j, M)) (h : 0 < j) (e : zc3 (nth M j) (nth M (j - 1)) < 0) : zdc L c0 (i, j - 1, ziB M j) /\ (j - 1).toNat < j.toNat := by
 obtain ⟨h1, h2, h3, h4, h5, h6, A, B, h7, h8, h9⟩ := hI
 refine ⟨⟨h1, by omega, by omega, h4, h5, by unfold ziB; rw [List.length_set, List.length_set]; exact h6, ?_⟩, by omega⟩
 cases A with
 | nil => rw [List.length_nil] at h7; omega
 | cons y A =>
   rw [List.length_cons] at h7
   rw [List.reverse_cons, List.append_assoc] at h8
   have hl : A.reverse.length = (j - 1).toNat := by rw [List.length_reverse]; omega
   have e1 : nth M (j - 1) = y := by rw [h8]; exact zfH (by omega) hl
   have e2 : nth M j = nth L i := by
    rw [h8, <- List.append_assoc]
    exact zfH (by omega) (by rw [List.length_append, List.length_singleton]; omega)
   refine ⟨A, B ++ [y], by omega, ?_, ?_⟩
   . rw [h8]
     have := zuH (P := A.reverse) (R := B.reverse ++ L.drop (i + 1).toNat) (x := nth L i) (y := y) h hl
     rw [List.reverse_append]
     exact this
   . rw [e1, e2] at e
     rw [h9, zc4, if_pos e, List.append_assoc]; rfl
theorem zqW {L : List Int} {c0 : zgB} {i j : Int} {M : List Int} (hi : 1 <= i) (hI : zdc L c0 (i, j, M)) (e : ¬ 0 < j \/ ¬ zc3 (nth M j) (nth M (j - 1)) < 0) : zde L (i + 1, M) /\ ((L.length : Int) - (i + 1)).toNat < ((L.length : Int) - i).toNat := by
 obtain ⟨h1, h2, h3, h4, h5, h6, A, B, h7, h8, h9⟩ := hI
 refine ⟨⟨by omega, .inl (by omega), h5, h6, ?_⟩, by omega⟩
 have h10 : zc4 A (nth L i) = nth L i :: A := by
  cases A with
  | nil => rfl
  | cons y A =>
    rw [List.length_cons] at h7
    rw [List.reverse_cons, List.append_assoc] at h8
    have hl : A.reverse.length = (j - 1).toNat := by rw [List.length_reverse]; omega
    have e1 : nth M (j - 1) = y := by rw [h8]; exact zfH (by omega) hl
    have e2 : nth M j = nth L i := by
     rw [h8, <- List.append_assoc]
     exact zfH (by omega) (by rw [List.length_append, List.length_singleton]; omega)
    rw [e1, e2] at e
    rw [zc4, if_neg]
    rcases e with e | e
    . omega
    . exact e
 rw [h9, h10, h8, List.reverse_append, List.reverse_cons, List.append_assoc, List.append_assoc]; rfl
theorem zqo {L : List Int} {i : Int} {M : List Int} (hI : zde L (i, M)) : 1 <= i := hI.1
theorem zxq {L : List Int} {i : Int} {M : List Int} (hI : zde L (i, M)) (h : ¬ i < L.length) : List.map ipv (zbQ L) = List.map ipv M := by
 obtain ⟨h1, h2, h3, h4, h5⟩ := hI
 rw [h5, List.take_of_length_le (by omega), List.drop_eq_nil_of_le (by omega), List.append_nil]; rfl
noncomputable def zz1 (L : List Int) : zaa := ⟨[.slc 0 0 L.length, kz 0, kz L.length, .fn (.func 96) [] []], [.vec 1 (L.map ipv)], [some (.vec 1 ((zbQ L).map ipv))], [], .tup []⟩
set_option maxHeartbeats 4000000 in
theorem zEK (L : List Int) (hp : L.length <= 1000000) : zaa.ok Tryz.prog GG 225 (zz1 L) := by
 refine zac mix zEM _ rfl rfl (Tab.ok (l := [(96, S96)]) ⟨t96, trivial⟩) (zCl L) noJ ?_
 repeat' ((conv => whnf); first
  | exact trivial
  | with_reducible first | refine aj ?_ | refine ai rfl ?_ | refine ai ⟨rfl, rfl⟩ ?_
  | ((with_reducible refine ai ?_ ?_); focus exact w3)
  | with_reducible first | refine zuO ?_ | refine zvM ?_ | refine zEU (by with_reducible assumption) ?_ ?_ | apply exW (γ := zgB) (c := (_, _, _)) | apply exW (γ := zmD) (c := (_, _)) | refine exI (i64_in (by simp only [zde, zdc, List.length_map] at *; omega) (by simp only [zde, zdc, List.length_map] at *; omega)) ?_
  | refine exI (x := ULift.up _) (za8 _ _ _ (by simp only [zde, zdc, List.length_map] at *; omega)) ?_
  | refine exI (x := ULift.up _) ⟨rfl, (by simp only [zde, zdc, List.length_map] at *; omega), zbc _ _ _ (by simp only [zde, zdc, List.length_map] at *; omega)⟩ ?_
  | refine exI (x := ULift.up _) (zD6 (by simp only [zde, zdc, List.length_map] at *; omega)) ?_
  | with_reducible first | refine And.intro (Sd.mk (p := (_ : Int) <= _ /\ _) (by simp only [zde, zdc, List.length_map] at *; omega)) ?_ | refine And.intro ?_ ?_ | refine zae ?_ | refine exI (i64_in (by omega) (by omega)) ?_
  | refine exI (x := ULift.up _) (Eq.refl _) ?_
  | refine exI (x := ULift.up _) ⟨rfl, by omega, Eq.refl _⟩ ?_
  | exact nx
  | ((with_reducible intro h); try dsimp only at h))
 all_goals (refine Sd.mk ?_)
 all_goals (try simp only [true_and] at *)
 all_goals first
  | exact zHF hp
  | exact zEF ‹_› ‹_›
  | exact zww
  | exact zBJ ‹_› ‹_› ‹_›
  | exact zqW (zqo ‹_›) ‹_› (.inl ‹_›)
  | exact zqW (zqo ‹_›) ‹_› (.inr ‹_›)
  | exact zxq ‹_› ‹_›
noncomputable def zrS : SFn
 | [.slc p 0 _, .int .i64 0, .int .i64 _, .fn (.func 96) [] []], k => .rO p fun o => match o with
   | some (.vec 1 LL) => asL ipv LL fun L => .req (L.length <= 1000000) (k (zz1 L))
   | _ => .fail
 | _, _ => .fail
theorem zEW : FnS Tryz.prog GG 225 zrS := by
 intro args k gt go R v os n h
 unfold zrS at h
 split at h
 . cases h with
   | rO h =>
     dsimp only at h
     split at h
     . obtain ⟨L, _, h⟩ := zaN h
       obtain ⟨hp, _, h⟩ := zar h
       exact ⟨_, _, zEK L hp, h⟩
     . cases h
 . cases h
end
section
def zEc : MC := .seq (.reg [om 10 1,oo 11 (ac .add 10 1),om 8 11]) (.blk 0 (.loop 0 (.seq (.seq (.reg [om 12 8,om 13 2,oo 14 (ct .lss 12 13)]) (.cond (.t 14) (.skip) (.exit 0))) (.seq (.blk 1 (.seq (.reg [om 17 8,om 9 17]) (.blk 2 (.loop 1 (.seq (.seq (.drw [om 18 9,om 19 1,oo 20 (ct .gtr 18 19),sm 21 20,mt 21 22 3,mt 21 23 0,mt 21 24 9,gt_ 21 25 (ia 2 23 24),gt_ 21 26 (ls 2 25),mt 21 27 0,mt 21 28 9,gt_ 21 29 (ac .sub 28 1),gt_ 21 30 (ia 2 27 29),gt_ 21 31 (ls 2 30),gt_ 21 32 (.call (.t 22) [(.t 26),(.t 31)]),gt_ 21 33 (cc .lss 32 0),oo 34 (pf 21 33)] [[],[],[0,1],[2],[3],[3],[3],[5,6,3],[7,3],[3],[3],[10,3],[9,11,3],[12,3],[4,8,13,3,3],[14,3],[3,15]]) (.cond (.t 34) (.skip) (.exit 2))) (.seq (.blk 3 (.drw [om 37 0,om 38 9,om 39 0,om 40 9,oo 41 (ac .sub 40 1),om 42 0,om 43 9,oo 44 (ac .sub 43 1),oo 45 (ia 2 42 44),oo 46 (ls 2 45),om 47 0,om 48 9,oo 49 (ia 2 47 48),oo 50 (ls 2 49),oo 51 (ia 2 37 38),o none (.st (some 2) (.t 51) (.t 46)),oo 52 (ia 2 39 41),o none (.st (some 2) (.t 52) (.t 50))] [[],[],[],[],[3],[],[],[6],[5,7],[8],[],[],[10,11],[12],[0,1,0,1,5,6,7,8,9,13],[14,9,0,1,5,6,7,8,9,13],[2,4,0,1,2,3,4,5,6,7,8,9,10,11,12,13,14,15],[16,13,15,0,1,2,3,4,5,6,7,8,9,10,11,12,13,14,15]])) (.reg [om 35 9,oo 36 (ac .sub 35 1),om 9 36]))))))) (.reg [om 15 8,oo 16 (ac .add 15 1),om 8 16])))))
theorem zKd : zan Tryz.prog 181 53 zEc [] := fk Tryz.func181 ⟨tv,⟨⟨tv,⟨tv,tv⟩⟩,⟨⟨tv,⟨⟨tv,⟨tv,tv⟩⟩,⟨tv,tv⟩⟩⟩,tv⟩⟩⟩
def zhi : List HR -> HR -> List HR
 | [], x => [x]
 | y :: r, x => if zaI x y < 0 then y :: zhi r x else x :: y :: r
def zbE (L : List HR) : List HR := (L.foldl zhi []).reverse
end
section
def zIH : MC := .seq (.reg [oo 2 (.mv (ki 0))]) (.seq (.seq (.reg [om 3 0,oo 4 (.cmp .geq (.t 3) (.k (.int .u64 4294967296)))]) (.cond (.t 4) (.seq (.reg [om 5 0,oo 6 (.ar .shr (.t 5) (.k (.int .u64 32))),om 0 6]) (.reg [oo 2 (.mv (ki 32))])) (.skip))) (.seq (.seq (.reg [om 7 0,oo 8 (.cmp .geq (.t 7) (.k (.int .u64 65536)))]) (.cond (.t 8) (.seq (.reg [om 9 0,oo 10 (.ar .shr (.t 9) (.k (.int .u64 16))),om 0 10]) (.reg [om 11 2,oo 12 (ac .add 11 16),om 2 12])) (.skip))) (.seq (.seq (.reg [om 13 0,oo 14 (.cmp .geq (.t 13) (.k (.int .u64 256)))]) (.cond (.t 14) (.seq (.reg [om 15 0,oo 16 (.ar .shr (.t 15) (.k (.int .u64 8))),om 0 16]) (.reg [om 17 2,oo 18 (ac .add 17 8),om 2 18])) (.skip))) (.seq (.reg [om 19 2,om 20 0,oo 21 (.cv .u8 (.t 20)),oo 22 (.ixs (.k (.str ⟨#[0,1,2,2,3,3,3,3,4,4,4,4,4,4,4,4,5,5,5,5,5,5,5,5,5,5,5,5,5,5,5,5,6,6,6,6,6,6,6,6,6,6,6,6,6,6,6,6,6,6,6,6,6,6,6,6,6,6,6,6,6,6,6,6,7,7,7,7,7,7,7,7,7,7,7,7,7,7,7,7,7,7,7,7,7,7,7,7,7,7,7,7,7,7,7,7,7,7,7,7,7,7,7,7,7,7,7,7,7,7,7,7,7,7,7,7,7,7,7,7,7,7,7,7,7,7,7,7,8,8,8,8,8,8,8,8,8,8,8,8,8,8,8,8,8,8,8,8,8,8,8,8,8,8,8,8,8,8,8,8,8,8,8,8,8,8,8,8,8,8,8,8,8,8,8,8,8,8,8,8,8,8,8,8,8,8,8,8,8,8,8,8,8,8,8,8,8,8,8,8,8,8,8,8,8,8,8,8,8,8,8,8,8,8,8,8,8,8,8,8,8,8,8,8,8,8,8,8,8,8,8,8,8,8,8,8,8,8,8,8,8,8,8,8,8,8,8,8,8,8,8,8,8,8,8,8]⟩)) (.t 21)),oo 23 (.cv .i64 (.t 22)),oo 24 (at_ .add 19 23),om 2 24]) (.ret)))))
theorem zwG : zan Tryz.prog 190 25 zIH [.t 2] := fk Tryz.func190 ⟨tv,⟨⟨tv,⟨⟨tv,tv⟩,tv⟩⟩,⟨⟨tv,⟨⟨tv,tv⟩,tv⟩⟩,⟨⟨tv,⟨⟨tv,tv⟩,tv⟩⟩,⟨tv,tv⟩⟩⟩⟩⟩
def zGN : MC := .seq (.reg [oo 2 (.mv (ki 0))]) (.seq (.cond kf (.seq (.reg [om 3 0,oo 4 (.cv .u32 (.t 3)),oo 5 (fc 189 [(.t 4)]),om 2 5]) (.ret)) (.skip)) (.seq (.reg [om 6 0,oo 7 (fc 190 [(.t 6)]),om 2 7]) (.ret)))
theorem zAG : zan Tryz.prog 170 8 zGN [.t 2] := fk Tryz.func170 ⟨tv,⟨⟨⟨tv,tv⟩,tv⟩,⟨tv,tv⟩⟩⟩
def lenT (n : Int) : Int := if n = 0 then 0 else if n < 2 then 1 else if n < 4 then 2 else if n < 8 then 3 else 4
noncomputable def zyA (n : Int) : zaa := ⟨[.int .u64 n], [], [], [], kz (lenT n)⟩
theorem zFX (n : Int) (hp : 0 <= n /\ n <= 12) : zaa.ok Tryz.prog GG 190 (zyA n) := by
 refine zac mix zwG _ rfl rfl (Tab.ok (l := []) trivial) noL noJ ?_
 repeat' ((conv => whnf); first
  | exact trivial
  | with_reducible first | refine aj ?_ | refine ai rfl ?_ | refine ai ⟨rfl, rfl⟩ ?_
  | ((with_reducible refine ai ?_ ?_); focus exact w3)
  | with_reducible first | refine And.intro ?_ ?_ | refine zae ?_ | refine exI (i64_in (by omega) (by omega)) ?_
  | refine exI (x := ULift.up _) (Eq.refl _) ?_
  | refine exI (x := ULift.up _) ⟨rfl, by omega, Eq.refl _⟩ ?_
  | exact nx
  | ((with_reducible intro h); try dsimp only at h))
 all_goals (refine Sd.mk ?_)
 all_goals (have hn : n = 0 \/ n = 1 \/ n = 2 \/ n = 3 \/ n = 4 \/ n = 5 \/ n = 6 \/ n = 7 \/ n = 8 \/ n = 9 \/ n = 10 \/ n = 11 \/ n = 12 := by omega)
 all_goals (clear hp)
 all_goals (rcases hn with hn | hn | hn | hn | hn | hn | hn | hn | hn | hn | hn | hn | hn)
 all_goals (rw [hn])
 all_goals first
  | decide
  | rfl
  | kernel_rfl
noncomputable def zrn : SFn
 | [.int .u64 n], k => .req (0 <= n /\ n <= 12) (k (zyA n))
 | _, _ => .fail
theorem zHM : FnS Tryz.prog GG 190 zrn := by
 intro args k gt go R v os n h
 unfold zrn at h
 split at h
 . obtain ⟨hp, _, h⟩ := zar h
   exact ⟨_, _, zFX _ hp, h⟩
 . cases h
noncomputable def zwD (n : Int) : zaa := ⟨[.int .u64 n], [], [], [], kz (lenT n)⟩
theorem zIL (n : Int) (hp : 0 <= n /\ n <= 12) : zaa.ok Tryz.prog GG 170 (zwD n) := by
 refine zac mix zAG _ rfl rfl (Tab.ok (l := [(190, zrn)]) ⟨zHM, trivial⟩) noL noJ ?_
 repeat' ((conv => whnf); first
  | exact trivial
  | with_reducible first | refine aj ?_ | refine ai rfl ?_ | refine ai ⟨rfl, rfl⟩ ?_
  | ((with_reducible refine ai ?_ ?_); focus exact w3)
  | with_reducible first | refine And.intro (Sd.mk (p := _ /\ _ <= 12) hp) ?_ | refine And.intro ?_ ?_ | refine zae ?_ | refine exI (i64_in (by omega) (by omega)) ?_
  | refine exI (x := ULift.up _) (Eq.refl _) ?_
  | refine exI (x := ULift.up _) ⟨rfl, by omega, Eq.refl _⟩ ?_
  | exact nx
  | ((with_reducible intro h); try dsimp only at h))
 all_goals (refine Sd.mk ?_)
 all_goals first | rfl | trace_state
noncomputable def zs0 : SFn
 | [.int .u64 n], k => .req (0 <= n /\ n <= 12) (k (zwD n))
 | _, _ => .fail
theorem zKn : FnS Tryz.prog GG 170 zs0 := by
 intro args k gt go R v os n h
 unfold zs0 at h
 split at h
 . obtain ⟨hp, _, h⟩ := zar h
   exact ⟨_, _, zIL _ hp, h⟩
 . cases h
end
section
def zHT : MC := .seq (.reg [oo 10 (.mv kt)]) (.seq (.reg [oo 11 (.mv kt)]) (.blk 0 (.loop 0 (.blk 1 (.seq (.reg [om 21 2,om 22 1,oo 23 (at_ .sub 21 22),om 12 23]) (.seq (.seq (.reg [om 24 12,oo 25 (cc .leq 24 12)]) (.cond (.t 25) (.seq (.reg [om 26 0,om 27 1,om 28 2,om 29 4,oo 30 (fc 225 [(.t 26),(.t 27),(.t 28),(.t 29)])]) (.ret)) (.skip))) (.seq (.seq (.reg [om 31 3,oo 32 (cc .eql 31 0)]) (.cond (.t 32) (.seq (.reg [om 33 0,om 34 1,om 35 2,om 36 4,oo 37 (fc 226 [(.t 33),(.t 34),(.t 35),(.t 36)])]) (.ret)) (.skip))) (.seq (.seq (.reg [om 38 10,oo 39 (.not (.t 38))]) (.cond (.t 39) (.seq (.reg [om 40 0,om 41 1,om 42 2,om 43 4,oo 44 (fc 227 [(.t 40),(.t 41),(.t 42),(.t 43)])]) (.reg [om 45 3,oo 46 (ac .sub 45 1),om 3 46])) (.skip))) (.seq (.reg [om 48 0,om 49 1,om 50 2,om 51 4,oo 52 (fc 228 [(.t 48),(.t 49),(.t 50),(.t 51)]),om 47 52,oo 53 (ex_ 0 47),oo 54 (ex_ 1 47),om 13 53,om 14 54]) (.seq (.seq (.reg [om 55 14,oo 56 (cc .eql 55 2)]) (.cond (.t 56) (.seq (.reg [om 57 0,om 58 1,om 59 2,om 60 4,oo 61 (fc 229 [(.t 57),(.t 58),(.t 59),(.t 60)])]) (.seq (.reg [om 62 2,oo 63 (ac .sub 62 1),om 64 13,om 65 1,oo 66 (at_ .sub 64 65),oo 67 (at_ .sub 63 66),om 13 67]) (.reg [oo 14 (.mv (ki 1))]))) (.skip))) (.seq (.seq (.reg [om 68 10,sm 69 68,mt 69 70 11,oo 71 (pf 69 70),sm 72 71,mt 72 73 14,gt_ 72 74 (cc .eql 73 1),oo 75 (pf 72 74)]) (.cond (.t 75) (.seq (.reg [om 76 0,om 77 1,om 78 2,om 79 4,oo 80 (fc 230 [(.t 76),(.t 77),(.t 78),(.t 79)])]) (.cond (.t 80) (.ret) (.skip))) (.skip))) (.seq (.seq (.drw [om 81 1,oo 82 (cc .gtr 81 0),sm 83 82,mt 83 84 4,mt 83 85 0,mt 83 86 1,gt_ 83 87 (ac .sub 86 1),gt_ 83 88 (ia 1 85 87),gt_ 83 89 (ln 88),mt 83 90 0,mt 83 91 13,gt_ 83 92 (ia 1 90 91),gt_ 83 93 (ln 92),gt_ 83 94 (.call (.t 84) [(.t 89),(.t 93)]),gt_ 83 95 (cc .lss 94 0),gt_ 83 96 (.not (.t 95)),oo 97 (pf 83 96)] [[],[0],[1],[2],[2],[2],[5,2],[4,6,2],[7,2],[2],[2],[9,10,2],[11,2],[3,8,12,2,2],[13,2],[14,2],[2,15]]) (.cond (.t 97) (.seq (.reg [om 98 0,om 99 1,om 100 2,om 101 13,om 102 4,oo 103 (fc 231 [(.t 98),(.t 99),(.t 100),(.t 101),(.t 102)]),om 15 103]) (.seq (.reg [om 104 15,om 1 104]) (.exit 1))) (.skip))) (.seq (.reg [om 106 0,om 107 1,om 108 2,om 109 13,om 110 4,oo 111 (fc 232 [(.t 106),(.t 107),(.t 108),(.t 109),(.t 110)]),om 105 111,oo 112 (ex_ 0 105),oo 113 (ex_ 1 105),om 16 112,om 17 113]) (.seq (.reg [om 114 17,om 11 114]) (.seq (.reg [om 115 16,om 116 1,oo 117 (at_ .sub 115 116),om 118 2,om 119 16,oo 120 (at_ .sub 118 119),om 18 117,om 19 120]) (.seq (.reg [om 121 12,oo 122 (ac .quo 121 8),om 20 122]) (.seq (.reg [om 123 18,om 124 19,oo 125 (ct .lss 123 124)]) (.cond (.t 125) (.seq (.reg [om 126 18,om 127 20,oo 128 (ct .geq 126 127),om 10 128]) (.seq (.reg [om 129 0,om 130 1,om 131 16,om 132 3,om 133 4,oo 134 (fc 222 [(.t 129),(.t 130),(.t 131),(.t 132),(.t 133)])]) (.reg [om 135 16,oo 136 (ac .add 135 1),om 1 136]))) (.seq (.reg [om 137 19,om 138 20,oo 139 (ct .geq 137 138),om 10 139]) (.seq (.reg [om 140 0,om 141 16,oo 142 (ac .add 141 1),om 143 2,om 144 3,om 145 4,oo 146 (fc 222 [(.t 140),(.t 142),(.t 143),(.t 144),(.t 145)])])
 (.reg [om 147 16,om 2 147])))))))))))))))))))))
theorem zGM : zan Tryz.prog 222 148 zHT [] := fk Tryz.func222 ⟨tv,⟨tv,⟨tv,⟨⟨tv,⟨⟨tv,tv⟩,tv⟩⟩,⟨⟨tv,⟨⟨tv,tv⟩,tv⟩⟩,⟨⟨tv,⟨⟨tv,tv⟩,tv⟩⟩,⟨tv,⟨⟨tv,⟨⟨tv,⟨tv,tv⟩⟩,tv⟩⟩,⟨⟨tv,⟨⟨tv,⟨tv,tv⟩⟩,tv⟩⟩,⟨⟨tv,⟨⟨tv,⟨tv,tv⟩⟩,tv⟩⟩,⟨tv,⟨tv,⟨tv,⟨tv,⟨tv,⟨⟨tv,⟨tv,tv⟩⟩,⟨tv,⟨tv,tv⟩⟩⟩⟩⟩⟩⟩⟩⟩⟩⟩⟩⟩⟩⟩⟩⟩⟩
def zEv : MC := .seq (.reg [om 5 0,oo 6 (.lenS (.t 5)),om 4 6]) (.reg [om 7 0,om 8 4,om 9 4,oo 10 (.cv .u64 (.t 9)),oo 11 (fc 170 [(.t 10)]),om 12 1,oo 13 (fc 222 [(.t 7),(ki 0),(.t 8),(.t 11),(.t 12)])])
theorem zE2 : zan Tryz.prog 201 14 zEv [] := fk Tryz.func201 ⟨tv,tv⟩
attribute [local irreducible] zbQ
noncomputable def zzi (L : List Int) (m : Int) : zaa := ⟨[.slc 0 0 L.length, kz 0, kz L.length, kz m, .fn (.func 96) [] []], [.vec 1 (L.map ipv)], [some (.vec 1 ((zbQ L).map ipv))], [], .tup []⟩
set_option maxHeartbeats 4000000 in
theorem zJ8 (L : List Int) (m : Int) (hp : L.length <= 12) : zaa.ok Tryz.prog GG 222 (zzi L m) := by
 refine zac mix zGM _ rfl rfl (Tab.ok (l := [(225, zrS)]) ⟨zEW, trivial⟩) (fun _ => .rounds 1) noJ ?_
 repeat' ((conv => whnf); first
  | exact trivial
  | with_reducible first | refine aj ?_ | refine ai rfl ?_ | refine ai ⟨rfl, rfl⟩ ?_
  | ((with_reducible refine ai ?_ ?_); focus exact w3)
  | ((with_reducible intro h); exfalso; omega)
  | with_reducible first | refine And.intro (Sd.mk (p := _ <= 1000000) (by omega)) ?_ | refine And.intro (Sd.mk (p := _ <= 12) hp) ?_ | refine And.intro (Sd.mk (p := 0 <= _ /\ _ <= 12) (by omega)) ?_
  | refine exI (zfh (by omega) (by omega)) ?_
  | with_reducible first | refine And.intro ?_ ?_ | refine zae ?_ | refine exI (i64_in (by omega) (by omega)) ?_
  | refine exI (x := ULift.up _) (Eq.refl _) ?_
  | refine exI (x := ULift.up _) ⟨rfl, by omega, Eq.refl _⟩ ?_
  | exact nx
  | ((with_reducible intro h); try dsimp only at h))
 all_goals (refine Sd.mk ?_)
noncomputable def zrv : SFn
 | [.slc p 0 _, .int .i64 0, .int .i64 _, .int .i64 m, .fn (.func 96) [] []], k => .rO p fun o => match o with
   | some (.vec 1 LL) => asL ipv LL fun L => .req (L.length <= 12) (k (zzi L m))
   | _ => .fail
 | _, _ => .fail
theorem zEm : FnS Tryz.prog GG 222 zrv := by
 intro args k gt go R v os n h
 unfold zrv at h
 split at h
 . cases h with
   | rO h =>
     dsimp only at h
     split at h
     . obtain ⟨L, _, h⟩ := zaN h
       obtain ⟨hp, _, h⟩ := zar h
       exact ⟨_, _, zJ8 L _ hp, h⟩
     . cases h
 . cases h
noncomputable def zzT (L : List Int) : zaa := ⟨[.slc 0 0 L.length, .fn (.func 96) [] []], [.vec 1 (L.map ipv)], [some (.vec 1 ((zbQ L).map ipv))], [], .tup []⟩
set_option maxHeartbeats 4000000 in
theorem zKm (L : List Int) (hp : L.length <= 12) : zaa.ok Tryz.prog GG 201 (zzT L) := by
 refine zac mix zE2 _ rfl rfl (Tab.ok (l := [(222, zrv), (170, zs0)]) ⟨zEm, zKn, trivial⟩) noL noJ ?_
 repeat' ((conv => whnf); first
  | exact trivial
  | with_reducible first | refine aj ?_ | refine ai rfl ?_ | refine ai ⟨rfl, rfl⟩ ?_
  | ((with_reducible refine ai ?_ ?_); focus exact w3)
  | ((with_reducible intro h); exfalso; omega)
  | with_reducible first | refine And.intro (Sd.mk (p := _ <= 1000000) (by omega)) ?_ | refine And.intro (Sd.mk (p := _ <= 12) hp) ?_ | refine And.intro (Sd.mk (p := 0 <= _ /\ _ <= 12) (by omega)) ?_
  | refine exI (zfh (by omega) (by omega)) ?_
  | with_reducible first | refine And.intro ?_ ?_ | refine zae ?_ | refine exI (i64_in (by omega) (by omega)) ?_
  | refine exI (x := ULift.up _) (Eq.refl _) ?_
  | refine exI (x := ULift.up _) ⟨rfl, by omega, Eq.refl _⟩ ?_
  | exact nx
  | ((with_reducible intro h); try dsimp only at h))
 all_goals (refine Sd.mk ?_)
noncomputable def zsp : SFn
 | [.slc p 0 _, .fn (.func 96) [] []], k => .rO p fun o => match o with
   | some (.vec 1 LL) => asL ipv LL fun L => .req (L.length <= 12) (k (zzT L))
   | _ => .fail
 | _, _ => .fail
theorem zE3 : FnS Tryz.prog GG 201 zsp := by
 intro args k gt go R v os n h
 unfold zsp at h
 split at h
 . cases h with
   | rO h =>
     dsimp only at h
     split at h
     . obtain ⟨L, _, h⟩ := zaN h
       obtain ⟨hp, _, h⟩ := zar h
       exact ⟨_, _, zKm L hp, h⟩
     . cases h
 . cases h
end
section
theorem znj (a b : Int) : zc3 a b < 0 \/ zc3 b a < 0 \/ a = b := by
 unfold zc3; (repeat' split) <;> omega
theorem zrI (a : Int) : ¬ zc3 a a < 0 := by
 unfold zc3; (repeat' split) <;> omega
theorem zka {a b c : Int} (h : zc3 a b < 0) (g : zc3 b c < 0) : zc3 a c < 0 := by
 revert h g
 unfold zc3; (repeat' split) <;> omega
abbrev geI (a b : Int) : Prop := ¬ zc3 a b < 0
theorem zqb {a b c : Int} (h : geI a b) (g : geI b c) : geI a c := by
 intro k
 rcases znj a b with e | e | e
 . exact h e
 . exact g (zka e k)
 . subst e; exact g k
theorem zlL (A : List Int) (x : Int) : (zc4 A x).Perm (x :: A) := by
 induction A with
 | nil => exact .refl _
 | cons y r ih =>
   unfold zc4; split
   . exact (ih.cons y).trans (.swap x y r)
   . exact .refl _
theorem zv6 (A : List Int) (x : Int) (h : A.Pairwise geI) : (zc4 A x).Pairwise geI := by
 induction A with
 | nil => exact List.pairwise_singleton _ _
 | cons y r ih =>
   rw [List.pairwise_cons] at h
   unfold zc4; split
   . next hc =>
     rw [List.pairwise_cons]
     refine ⟨fun z hz => ?_, ih h.2⟩
     rcases List.mem_cons.1 ((zlL r x).mem_iff.1 hz) with e | e
     . subst e; exact fun k => zrI _ (zka hc k)
     . exact h.1 z e
   . next hc =>
     rw [List.pairwise_cons]
     refine ⟨fun z hz => ?_, List.pairwise_cons.2 h⟩
     rcases List.mem_cons.1 hz with e | e
     . subst e; exact hc
     . exact zqb hc (h.1 z e)
theorem zhH (L : List Int) : ∀ A, (L.foldl zc4 A).Perm (L ++ A) := by
 induction L with
 | nil => intro A; exact .refl _
 | cons x r ih => intro A; exact (ih (zc4 A x)).trans (((zlL A x).append_left r).trans List.perm_middle)
theorem zmG (L : List Int) : ∀ A, A.Pairwise geI -> (L.foldl zc4 A).Pairwise geI := by
 induction L with
 | nil => intro A h; exact h
 | cons x r ih => intro A h; exact ih _ (zv6 A x h)
theorem zpe (L : List Int) : (zbQ L).Perm L := by
 unfold zbQ
 exact (List.reverse_perm _).trans (by simpa using zhH L [])
theorem zrD {L M : List Int} (h : L.Perm M) : zbQ L = zbQ M := by
 unfold zbQ
 congr 1
 refine List.Perm.eq_of_pairwise (le := geI) ?_ (zmG L [] List.Pairwise.nil) (zmG M [] List.Pairwise.nil) ?_
 . intro a b _ _ h1 h2
   rcases znj a b with e | e | e
   . exact absurd e h1
   . exact absurd e h2
   . exact e
 . exact (zhH L []).trans (((h.append_right [])).trans (zhH M []).symm)
end
section
def zAz : MC := .seq (.reg [oo 4 (ln 1),oo 5 (.rngm (.t 4))]) (.blk 0 (.loop 0 (.seq (.reg [oo 6 (.nxt (.t 5)),oo 7 (ex_ 0 6)]) (.seq (.cond (.t 7) (.skip) (.exit 0)) (.blk 1 (.seq (.reg [oo 8 (.ent (.t 5)),oo 9 (ex_ 0 8),om 3 9]) (.seq (.reg [om 10 0,om 11 3,oo 12 (.call (.t 10) [(.t 11)]),oo 13 (.not (.t 12))]) (.cond (.t 13) (.ret) (.skip)))))))))
theorem zxy : zan Tryz.prog 202 14 zAz [] := fk Tryz.func202 ⟨tv,⟨tv,⟨⟨tv,tv⟩,⟨tv,⟨tv,⟨tv,tv⟩⟩⟩⟩⟩⟩
def zIK : MC := .seq (.reg [oo 2 (.box (.t 0)),oo 4 (.mv (.k (.val (.slice none 0 0))))]) (.seq (.seq (.reg [om 6 1]) (.blk 0 (.rng (.t 6) [7] (.reg [om 5 7]) (.blk 1 (.reg [oo 8 (ln 2),om 9 5,oo 10 (.bsl 1 1 [(kz 0)] [(0,(.t 9))]),oo 11 (.app 1 8 (.t 8) (.t 10)),o none (.st (some 1) (.t 2) (.t 11))])) 202 14 zAz))) (.seq (.reg [oo 12 (ln 2),om 4 12]) (.ret)))
theorem zEy : zan Tryz.prog 221 13 zIK [.t 4] := .of Tryz.func221 (by kernel_rfl) (by kernel_rfl) (by kernel_rfl) (by kernel_rfl) ⟨trivial, ⟨⟨trivial, ⟨trivial, trivial, zxy.it, zxy.its⟩⟩, ⟨trivial, trivial⟩⟩⟩
def zEB : MC := .seq (.reg [oo 2 (.mv (.k (.val (.slice none 0 0))))]) (.seq (.reg [om 3 0,oo 4 (fc 221 [(.k (.val (.slice none 0 0))),(.t 3)]),om 2 4]) (.ret))
theorem zJA : zan Tryz.prog 200 5 zEB [.t 2] := fk Tryz.func200 ⟨tv,⟨tv,tv⟩⟩
def zHO : MC := .seq (.reg [oo 4 (.mv (.k (.val (.slice none 0 0))))]) (.seq (.reg [om 6 0,oo 7 (fc 200 [(.t 6)]),om 5 7]) (.gh (.opn 2) (.seq (.reg [om 8 5,om 9 1,oo 10 (fc 201 [(.t 8),(.t 9)])]) (.seq (.reg [om 11 5,om 4 11]) (.ret)))))
theorem zJq : zan Tryz.prog 176 12 zHO [.t 4] := fk Tryz.func176 ⟨tv,⟨tv,⟨tv,⟨tv,tv⟩⟩⟩⟩
def zKq : MC := .seq (.reg [oo 1 (.box (.t 0)),oo 2 (.mv (.k (.val .nilFunc)))]) (.seq (.reg [oo 3 (.mkf (.func 202) [] [(.t 1)]),om 2 3]) (.ret))
theorem zFT : zan Tryz.prog 177 4 zKq [.t 2] := fk Tryz.func177 ⟨tv,⟨tv,tv⟩⟩
def zIM : MC := .seq (.reg [oo 4 (.mv (.k (.val (.slice none 0 0))))]) (.seq (.reg [om 5 0,oo 6 (fc 177 [(.t 5)]),om 7 1,oo 8 (fc 176 [(.t 6),(.t 7)]),om 4 8]) (.ret))
theorem zEd : zan Tryz.prog 155 9 zIM [.t 4] := fk Tryz.func155 ⟨tv,⟨tv,tv⟩⟩
abbrev K1I (es : BM) : List Int := es.map Prod.fst
def zpp (K : List Int) (L : List (List PV)) : Prop := ∃ M : List Int, M.Perm K /\ L = M.map ipv
abbrev zjM := Nat × Go.Loop × List Int × Option Int × List Int
def zx9 (es : BM) : zjM -> St
 | (lp, r, left, cur, acc) => ⟨[(5, .ptr 4 0 0), (0, .fn (.yield lp) [] [])],
    [(0, some (.row [.mp 1])), (1, some (.map MIB es (some (4, left, cur)))), (2, some (.row [.slc 5 0 acc.length])), (3, some (.lrec lp r .ready)), (4, some (.itr 1)), (5, some (.vec 1 (acc.map ipv)))], 6⟩
def zfl (es : BM) : zjM -> zjM -> Prop
 | (lp0, r0, _), (lp, r, left, _, acc) => lp = lp0 /\ r = r0 /\ (acc ++ left).Perm (K1I es) /\ (K1I es).Nodup /\ es.length <= 1000000
def zB9 (es : BM) : Nat -> zbO := fun _ => .inv zjM (zfl es) (zx9 es) (fun c => c.2.2.1.length)
theorem zwa {es : BM} {lp r x} {Q : zjM -> Prop} (h : ∀ left cur acc, zfl es (lp, r, x) (lp, r, left, cur, acc) -> Q (lp, r, left, cur, acc)) : ∀ c, zfl es (lp, r, x) c -> Q c := fun ⟨lp', r', left, cur, acc⟩ hI => by
 obtain ⟨h1, h2, h3⟩ := hI
 subst h1; subst h2
 exact h _ _ _ ⟨rfl, rfl, h3⟩
theorem zz0 {es : BM} {lp r x left cur acc} (_ : zfl es (lp, r, x) (lp, r, left, cur, acc)) {k : Int} (_ : k ∈ left) {p q : zjM -> Prop} (h : p (lp, r, zaB MIB k left, some k, acc ++ [k])) (h2 : q (lp, r, zaB MIB k left, some k, acc ++ [k])) : ∃ c, p c /\ q c := ⟨_, h, h2⟩
theorem zmC {k : Int} : ∀ {l : List Int}, k ∈ l -> l.Nodup -> l.Perm (k :: zaB MIB k l) /\ (zaB MIB k l).length < l.length
 | [], h, _ => by cases h
 | j :: l, h, hn => by
   rw [List.nodup_cons] at hn
   have he : ∀ (l : List Int), k ∉ l -> zaB MIB k l = l := by
    intro l
    induction l with
    | nil => intro _; simp [zaB]
    | cons a l ih =>
      intro hk
      simp only [List.mem_cons, not_or] at hk
      simp only [zaB]
      split
      . next e _ => exact absurd e.symm hk.1
      . rw [ih hk.2]
   simp only [zaB]
   split
   . next e _ =>
     subst e
     rw [he l hn.1]
     exact ⟨.refl _, by simp⟩
   . next e _ =>
     have hk : k ∈ l := by
      rcases List.mem_cons.1 h with h | h
      . exact absurd h.symm e
      . exact h
     obtain ⟨h1, h2⟩ := zmC hk hn.2
     exact ⟨(h1.cons j).trans (.swap _ _ _), by simpa using h2⟩
attribute [local irreducible] zbQ Go.Sx.zaB
theorem zGA {es : BM} {lp r} (h : (K1I es).Nodup) (h2 : es.length <= 1000000) : zfl es (lp, r, K1I es, none, []) (lp, r, K1I es, none, []) := ⟨rfl, rfl, .refl _, h, h2⟩
theorem zDC {es : BM} {lp r x left cur acc} {k : Int} (h : zfl es (lp, r, x) (lp, r, left, cur, acc)) (hk : k ∈ left) : zfl es (lp, r, x) (lp, r, zaB MIB k left, some k, acc ++ [k]) /\ (zaB MIB k left).length < left.length := by
 obtain ⟨_, _, h3, h4, h5⟩ := h
 have hn : left.Nodup := (List.nodup_append.1 (h3.nodup_iff.2 h4)).2.1
 obtain ⟨e1, e2⟩ := zmC hk hn
 refine ⟨⟨rfl, rfl, ?_, h4, h5⟩, e2⟩
 rw [List.append_assoc]
 exact (e1.symm.append_left acc).trans h3
theorem zqC {es : BM} {lp r x left cur acc} (h : zfl es (lp, r, x) (lp, r, left, cur, acc)) (hk : ∀ p, p ∈ es -> p.1 ∉ left) : acc.Perm (K1I es) := by
 obtain ⟨_, _, h3, h4, h5⟩ := h
 have : left = [] := by
  cases left with
  | nil => rfl
  | cons a l =>
    have ha : a ∈ K1I es := h3.subset (by simp)
    obtain ⟨p, hp, e⟩ := List.mem_map.1 ha
    exact absurd (by rw [<- e] at *; simp) (hk p hp)
 subst this
 simpa using h3
theorem zyk {es : BM} {lp r x left cur acc} (h : zfl es (lp, r, x) (lp, r, left, cur, acc)) (hk : ∀ p, p ∈ es -> p.1 ∉ left) : es.length = acc.length := by
 have := (zqC h hk).length_eq
 simpa using this.symm
theorem zKh {es : BM} {lp r x left cur acc} {X : List (List SV)} (h : zfl es (lp, r, x) (lp, r, left, cur, acc)) (hX : X.length = 1) : (zai.len (Sum.inr (List.map ipv acc)) + zai.len (Sum.inl X)) * 8 <= 2 ^ 46 := by
 obtain ⟨_, _, h3, h4, h5⟩ := h
 have := h3.length_eq
 simp only [zai.len, List.length_map, List.length_append, hX] at *; omega
theorem zI3 {acc : List Int} {k : Int} : 1 = 1 /\ List.map ipv (acc ++ [k]) = List.map ipv acc ++ [[PV.int IntKind.i64 k]] := ⟨rfl, by rw [List.map_append]; rfl⟩
theorem zI6 {es : BM} {lp r x left cur acc} (h : zfl es (lp, r, x) (lp, r, left, cur, acc)) (hk : ∀ p, p ∈ es -> p.1 ∉ left) : 1 = 1 /\ zpp (K1I es) (List.map ipv acc) := ⟨rfl, acc, zqC h hk, rfl⟩
theorem zEX {es : BM} {lp r x left cur acc} (h : zfl es (lp, r, x) (lp, r, left, cur, acc)) (hk : ∀ p, p ∈ es -> p.1 ∉ left) : 0 = 0 /\ es.length = acc.length := ⟨rfl, zyk h hk⟩
noncomputable def zyS (es : BM) : zaa := ⟨[.val (.slice none 0 0), .fn (.func 202) [] [.ptr 0 0 0]], [.row [.mp 1], .map MIB es none], [some (.row [.mp 1]), some (.map MIB es none)], [.vex 1 (zpp (K1I es))], .slc 2 0 es.length⟩
set_option maxHeartbeats 2000000 in
theorem zJ3 (es : BM) (hn : (K1I es).Nodup) (hl : es.length <= 1000000) : zaa.ok Tryz.prog GG 221 (zyS es) := by
 refine zac mix zEy _ rfl rfl (Tab.ok (l := []) trivial) (zB9 es) noJ ?_
 repeat' ((conv => whnf); first
  | exact trivial
  | with_reducible first | refine aj ?_ | refine ai rfl ?_ | refine ai ⟨rfl, rfl⟩ ?_
  | ((with_reducible refine ai ?_ ?_); focus exact w3)
  | with_reducible first | refine zwa ?_ | refine zz0 (by with_reducible assumption) (by with_reducible assumption) ?_ ?_ | apply exW (γ := zjM) (c := (_, _, K1I es, none, [])) | refine ai ⟨rfl, rfl, rfl⟩ ?_ | refine And.intro ?_ ?_ | refine zae ?_ | refine exI (i64_in (by omega) (by omega)) ?_
  | refine exI (x := ULift.up _) (Eq.refl _) ?_
  | refine exI (x := ULift.up _) ⟨rfl, by omega, Eq.refl _⟩ ?_
  | exact nx
  | ((with_reducible intro h); try dsimp only at h))
 all_goals (refine Sd.mk ?_)
 all_goals first
  | exact zGA hn hl
  | exact zDC ‹_› ‹_›
  | exact kf_a ‹_›
  | exact zKh ‹_› rfl
  | exact kf_c rfl
  | exact zI3
  | exact zI6 ‹_› ‹_›
  | exact zEX ‹_› ‹_›
noncomputable def zq4 : SFn
 | [.val _, .fn (.func 202) [] [.ptr p _ _]], k => zbk p fun rp => match rp with
   | .agg [.mp m] => zbl MIB m fun es => .req ((K1I es).Nodup /\ es.length <= 1000000) (k (zyS es))
   | _ => .fail
 | _, _ => .fail
theorem zHW : FnS Tryz.prog GG 221 zq4 := by
 intro args k gt go R v os n h
 unfold zq4 at h
 split at h
 . obtain ⟨_, _, h⟩ := zaR h
   split at h
   . obtain ⟨es, _, h⟩ := zaS h
     obtain ⟨hp, _, h⟩ := zar h
     exact ⟨_, _, zJ3 es hp.1 hp.2, h⟩
   . cases h
 . cases h
noncomputable def zwc (es : BM) : zaa := ⟨[.fn (.func 202) [] [.ptr 0 0 0]], [.row [.mp 1], .map MIB es none], [some (.row [.mp 1]), some (.map MIB es none)], [.vex 1 (zpp (K1I es))], .slc 2 0 es.length⟩
theorem zG7 (es : BM) (hn : (K1I es).Nodup) (hl : es.length <= 1000000) : zaa.ok Tryz.prog GG 200 (zwc es) := by
 refine zac mix zJA _ rfl rfl (Tab.ok (l := [(221, zq4)]) ⟨zHW, trivial⟩) noL noJ ?_
 repeat' ((conv => whnf); first
  | exact trivial
  | with_reducible first | refine aj ?_ | refine ai rfl ?_ | refine ai ⟨rfl, rfl⟩ ?_
  | ((with_reducible refine ai ?_ ?_); focus exact w3)
  | with_reducible first | refine And.intro (Sd.mk (p := List.Nodup _ /\ _) ⟨hn, by omega⟩) ?_ | refine And.intro ?_ ?_ | refine zae ?_ | refine exI (i64_in (by omega) (by omega)) ?_
  | refine exI (x := ULift.up _) (Eq.refl _) ?_
  | refine exI (x := ULift.up _) ⟨rfl, by omega, Eq.refl _⟩ ?_
  | exact ny
  | ((with_reducible intro h); try dsimp only at h))
 all_goals (refine Sd.mk ?_)
 all_goals first
  | exact ⟨rfl, fun _ h => h⟩
noncomputable def zrX : SFn
 | [.fn (.func 202) [] [.ptr p _ _]], k => zbk p fun rp => match rp with
   | .agg [.mp m] => zbl MIB m fun es => .req ((K1I es).Nodup /\ es.length <= 1000000) (k (zwc es))
   | _ => .fail
 | _, _ => .fail
theorem zIm : FnS Tryz.prog GG 200 zrX := by
 intro args k gt go R v os n h
 unfold zrX at h
 split at h
 . obtain ⟨_, _, h⟩ := zaR h
   split at h
   . obtain ⟨es, _, h⟩ := zaS h
     obtain ⟨hp, _, h⟩ := zar h
     exact ⟨_, _, zG7 es hp.1 hp.2, h⟩
   . cases h
 . cases h
theorem zwo {K : List Int} {Q : List (List PV) -> Prop} (h : ∀ M : List Int, M.Perm K -> Q (M.map ipv)) : ∀ L, zpp K L -> Q L := fun L ⟨M, h1, h2⟩ => by subst h2; exact h M h1
theorem zCW {es : BM} {M : List Int} (h : M.Perm (K1I es)) : zbQ (K1I es) = zbQ M := (zrD h).symm
theorem zxX {es : BM} {M : List Int} (h : M.Perm (K1I es)) : M.length = es.length := by simpa using h.length_eq
theorem zDB {es : BM} {M : List Int} (h : M.Perm (K1I es)) (h2 : es.length <= 12) : M.length <= 12 := by rw [zxX h]; exact h2
theorem zBe {es : BM} {M : List Int} (h : M.Perm (K1I es)) : 0 = 0 /\ M.length = es.length := ⟨rfl, zxX h⟩
theorem zB8 {es : BM} {M : List Int} (h : M.Perm (K1I es)) : 1 = 1 /\ List.map ipv (zbQ (K1I es)) = List.map ipv (zbQ M) := by rw [zCW h]; exact ⟨rfl, rfl⟩
noncomputable def zys (es : BM) : zaa := ⟨[.fn (.func 202) [] [.ptr 0 0 0], .fn (.func 96) [] []], [.row [.mp 1], .map MIB es none], [some (.row [.mp 1]), some (.map MIB es none)], [.vec 1 ((zbQ (K1I es)).map ipv)], .slc 2 0 es.length⟩
theorem zI8 (es : BM) (hn : (K1I es).Nodup) (hl : es.length <= 12) : zaa.ok Tryz.prog GG 176 (zys es) := by
 refine zac mix zJq _ rfl rfl (Tab.ok (l := [(200, zrX), (201, zsp)]) ⟨zIm, zE3, trivial⟩) noL noJ ?_
 repeat' ((conv => whnf); first
  | exact trivial
  | with_reducible first | refine aj ?_ | refine ai rfl ?_ | refine ai ⟨rfl, rfl⟩ ?_
  | ((with_reducible refine ai ?_ ?_); focus exact w3)
  | with_reducible first | refine And.intro (Sd.mk (p := List.Nodup _ /\ _) ⟨hn, by omega⟩) ?_ | refine zwo ?_ | refine And.intro (Sd.mk (p := _ <= 12) (zDB ‹_› hl)) ?_ | refine ai (zBe ‹_›) ?_ | refine And.intro ?_ ?_ | refine zae ?_ | refine exI (i64_in (by omega) (by omega)) ?_
  | refine exI (x := ULift.up _) (Eq.refl _) ?_
  | refine exI (x := ULift.up _) ⟨rfl, by omega, Eq.refl _⟩ ?_
  | exact ny
  | ((with_reducible intro h); try dsimp only at h))
 all_goals (refine Sd.mk ?_)
 all_goals first
  | exact zB8 ‹_›
noncomputable def zrR : SFn
 | [.fn (.func 202) [] [.ptr p _ _], .fn (.func 96) [] []], k => zbk p fun rp => match rp with
   | .agg [.mp m] => zbl MIB m fun es => .req ((K1I es).Nodup /\ es.length <= 12) (k (zys es))
   | _ => .fail
 | _, _ => .fail
theorem zJp : FnS Tryz.prog GG 176 zrR := by
 intro args k gt go R v os n h
 unfold zrR at h
 split at h
 . obtain ⟨_, _, h⟩ := zaR h
   split at h
   . obtain ⟨es, _, h⟩ := zaS h
     obtain ⟨hp, _, h⟩ := zar h
     exact ⟨_, _, zI8 es hp.1 hp.2, h⟩
   . cases h
 . cases h
noncomputable def zwZ (es : BM) : zaa := ⟨[.mp 0], [.map MIB es none], [some (.map MIB es none)], [.row [.mp 0]], .fn (.func 202) [] [.ptr 1 0 0]⟩
theorem zHl (es : BM) : zaa.ok Tryz.prog GG 177 (zwZ es) := by
 refine zac mix zFT _ rfl rfl (Tab.ok (l := []) trivial) noL noJ ?_
 repeat' ((conv => whnf); first
  | exact trivial
  | with_reducible first | refine aj ?_ | refine ai rfl ?_ | refine ai ⟨rfl, rfl⟩ ?_
  | ((with_reducible refine ai ?_ ?_); focus exact w3)
  | refine exI (x := MIB) trivial ?_
  | with_reducible first | refine And.intro ?_ ?_ | refine zae ?_ | refine exI (i64_in (by omega) (by omega)) ?_
  | refine exI (x := ULift.up _) (Eq.refl _) ?_
  | refine exI (x := ULift.up _) ⟨rfl, by omega, Eq.refl _⟩ ?_
  | exact ny
  | ((with_reducible intro h); try dsimp only at h))
 all_goals (refine Sd.mk ?_)
noncomputable def zq2 : SFn
 | [.mp p], k => zbl MIB p fun es => k (zwZ es)
 | _, _ => .fail
theorem zEY : FnS Tryz.prog GG 177 zq2 := by
 intro args k gt go R v os n h
 unfold zq2 at h
 split at h
 . obtain ⟨es, _, h⟩ := zaS h
   exact ⟨_, _, zHl es, h⟩
 . cases h
noncomputable def zzv (es : BM) : zaa := ⟨[.mp 0, .fn (.func 96) [] []], [.map MIB es none], [some (.map MIB es none)], [.vec 1 ((zbQ (K1I es)).map ipv)], .slc 1 0 es.length⟩
theorem zIh (es : BM) (hn : (K1I es).Nodup) (hl : es.length <= 12) : zaa.ok Tryz.prog GG 155 (zzv es) := by
 refine zac mix zEd _ rfl rfl (Tab.ok (l := [(177, zq2), (176, zrR)]) ⟨zEY, zJp, trivial⟩) noL noJ ?_
 repeat' ((conv => whnf); first
  | exact trivial
  | with_reducible first | refine aj ?_ | refine ai rfl ?_ | refine ai ⟨rfl, rfl⟩ ?_
  | ((with_reducible refine ai ?_ ?_); focus exact w3)
  | with_reducible first | refine And.intro (Sd.mk (p := List.Nodup _ /\ _) ⟨hn, by omega⟩) ?_ | refine And.intro ?_ ?_ | refine zae ?_ | refine exI (i64_in (by omega) (by omega)) ?_
  | refine exI (x := ULift.up _) (Eq.refl _) ?_
  | refine exI (x := ULift.up _) ⟨rfl, by omega, Eq.refl _⟩ ?_
  | exact ny
  | ((with_reducible intro h); try dsimp only at h))
 all_goals (refine Sd.mk ?_)
noncomputable def zsS : SFn
 | [.mp p, .fn (.func 96) [] []], k => zbl MIB p fun es => .req ((K1I es).Nodup /\ es.length <= 12) (k (zzv es))
 | _, _ => .fail
theorem zEP : FnS Tryz.prog GG 155 zsS := by
 intro args k gt go R v os n h
 unfold zsS at h
 split at h
 . obtain ⟨es, _, h⟩ := zaS h
   obtain ⟨hp, _, h⟩ := zar h
   exact ⟨_, _, zIh es hp.1 hp.2, h⟩
 . cases h
end
section
attribute [local irreducible] zbE
end
section
def c55 : MC := .seq (.reg [oo 3 (.box (.t 0)),oo 4 (.box (.t 1)),oo 6 (.mv (ki 0))]) (.seq (.drw [oo 9 (fl 0 3),oo 10 (ln 9),oo 11 (ls 2 4),oo 12 (.lkp false false [.bool,.int .i64] true [.sl 1 []] (.t 10) (.t 11)),om 13 2,oo 14 (fc 98 [(.t 12),(.t 13)]),oo 15 (fl 1 3),oo 16 (ln 15),oo 17 (ls 2 4),oo 18 (.lkp false false [.bool,.int .i64] true [.sl 1 []] (.t 16) (.t 17)),om 19 2,oo 20 (fc 98 [(.t 18),(.t 19)]),om 7 14,om 8 20] [[],[0],[],[1,2],[],[3,4],[],[6],[],[7,8],[],[9,10,5],[5,11,0,1,2,3,4,5],[11,12,0,1,2,3,4,5,6,7,8,9,10,11,12]]) (.seq (.seq (.reg [om 21 7,oo 22 (cc .lss 21 0),sm 23 22,mf 23 24 8,gf 23 25 (cc .geq 24 0),ogs 23 false (some 26) (.mv (.t 25)),mt 26 27 8,mt 26 28 7,gt_ 26 29 (ct .lss 27 28),gf 23 30 (pf 26 29),oo 31 (pt 23 30)]) (.cond (.t 31) (.seq (.reg [oo 6 (.mv (ki (-1)))]) (.ret)) (.skip))) (.seq (.reg [om 32 7,om 6 32]) (.ret))))
theorem k55 : zan Tryz.prog 55 33 c55 [.t 6] := fk Tryz.func55 ⟨tv,⟨tv,⟨⟨tv,⟨⟨tv,tv⟩,tv⟩⟩,⟨tv,tv⟩⟩⟩⟩
def c54 : MC := .seq (.reg [oo 3 (.box (.t 0)),oo 4 (.mv kf)]) (.seq (.reg [oo 5 (ls 2 1),oo 6 (ls 2 3),oo 7 (ln 2),oo 8 (fc 55 [(.t 5),(.t 6),(.t 7)]),oo 9 (cc .lss 8 0),om 4 9]) (.ret))
theorem k54 : zan Tryz.prog 54 10 c54 [.t 4] := fk Tryz.func54 ⟨tv,⟨tv,tv⟩⟩
attribute [local irreducible] Go.Sx.zak Go.Sx.zay zdi
abbrev MTS : zaj := ⟨HR, List Int, inferInstance, false, [.bool, .int .i64], HR.pv, fun ⟨_, _⟩ => rfl, fun ⟨a, b⟩ ⟨c, d⟩ h => by simp only [HR.pv, List.cons.injEq, PV.bool.injEq, PV.int.injEq] at h; simp [h.1, h.2.1.2], true, fun l => [.sl 1 (l.map ipv)], []⟩
abbrev TM := List (HR × List Int)
def okT (r : HR) (es : TM) : Prop := srt (zak MTS r es) /\ List.length (zak MTS r es) <= 1000000
abbrev aft (es : TM) (r : HR) (i : Int) : Int := zdi (zak MTS r es) i
def zbq (us ds : TM) (r : HR) (i : Int) : Int := if aft us r i < 0 then -1 else if 0 <= aft ds r i /\ aft ds r i < aft us r i then -1 else aft us r i
theorem zIn {us ds : TM} {r : HR} {i : Int} (h : aft us r i < 0) : zbq us ds r i = -1 := by unfold zbq; rw [if_pos h]
theorem zJY {us ds : TM} {r : HR} {i : Int} (h : ¬ aft us r i < 0) (h2 : 0 <= aft ds r i) (h3 : aft ds r i < aft us r i) : zbq us ds r i = -1 := by unfold zbq; rw [if_neg h, if_pos ⟨h2, h3⟩]
theorem zw1 {us ds : TM} {r : HR} {i : Int} (h : ¬ aft us r i < 0) (h2 : ¬ (0 <= aft ds r i /\ aft ds r i < aft us r i)) : zbq us ds r i = aft us r i := by unfold zbq; rw [if_neg h, if_neg h2]
noncomputable def L55 (us : TM) (ds : TM) (r : HR) (i : Int) : zaa := ⟨[.agg [.mp 0, .mp 1], .agg r.cells, kz i], [.map MTS us none, .map MTS ds none], [some (.map MTS us none), some (.map MTS ds none)], [], kz (zbq us ds r i)⟩
set_option maxHeartbeats 2000000 in
theorem s55 (us : TM) (ds : TM) (r : HR) (i : Int) (hp : okT r us /\ okT r ds) : zaa.ok Tryz.prog GG 55 (L55 us ds r i) := by
 refine zac mix k55 _ rfl rfl (Tab.ok (l := [(98, S98)]) ⟨t98, trivial⟩) noL noJ ?_
 repeat' ((conv => whnf); first
  | exact trivial
  | with_reducible first | refine aj ?_ | refine ai rfl ?_ | refine ai ⟨rfl, rfl⟩ ?_
  | ((with_reducible refine ai ?_ ?_); focus exact w3)
  | refine And.intro (Sd.mk (p := zaj.one MTS = _ /\ _) ⟨rfl, rfl⟩) ?_
  | refine And.intro (Sd.mk (p := zaj.vone MTS = _ /\ _) ⟨rfl, rfl⟩) ?_
  | refine exI (x := MTS) trivial ?_
  | apply exI (x := ULift.up (HR.mk _ _)) trivial
  | with_reducible first | refine And.intro (Sd.mk (p := srt _ /\ _ <= 1000000) hp.1) ?_ | refine And.intro (Sd.mk (p := srt _ /\ _ <= 1000000) hp.2) ?_ | refine And.intro ?_ ?_ | refine zae ?_ | refine exI (i64_in (by omega) (by omega)) ?_
  | refine exI (x := ULift.up _) (Eq.refl _) ?_
  | refine exI (x := ULift.up _) ⟨rfl, by omega, Eq.refl _⟩ ?_
  | exact nx
  | ((with_reducible intro h); try dsimp only at h))
 all_goals (refine Sd.mk ?_)
 all_goals (try simp only [HR.eta] at *)
 all_goals first
  | exact hp.1
  | exact hp.2
  | exact zIn ‹_›
  | exact zJY ‹_› ‹_› ‹_›
  | exact zw1 ‹_› (fun ⟨_, h⟩ => absurd h ‹_›)
  | exact zw1 ‹_› (fun ⟨h, _⟩ => absurd h ‹_›)
noncomputable def S55 : SFn
 | [.agg [.mp p, .mp q], a1, .int .i64 i], k => zbl MTS p fun us => zbl MTS q fun ds => zf0 a1 fun r => .req (okT r us /\ okT r ds) (k (L55 us ds r i))
 | _, _ => .fail
theorem t55 : FnS Tryz.prog GG 55 S55 := by
 intro args k gt go R v os n h
 unfold S55 at h
 split at h
 . obtain ⟨us, _, h⟩ := zaS h
   obtain ⟨ds, _, h⟩ := zaS h
   obtain ⟨r, _, h⟩ := zdd h
   obtain ⟨hp, _, h⟩ := zar h
   exact ⟨_, _, s55 us ds r _ hp, h⟩
 . cases h
noncomputable def L54 (us : TM) (ds : TM) (r : HR) (i : Int) : zaa := ⟨[.agg r.cells, .ptr 0 0 0, .ptr 1 0 0], [.row [.mp 2, .mp 3], .row [kz i], .map MTS us none, .map MTS ds none], [some (.row [.mp 2, .mp 3]), some (.row [kz i]), some (.map MTS us none), some (.map MTS ds none)], [], .bool (decide (zbq us ds r i < 0))⟩
set_option maxHeartbeats 2000000 in
theorem s54 (us : TM) (ds : TM) (r : HR) (i : Int) (hp : okT r us /\ okT r ds) : zaa.ok Tryz.prog GG 54 (L54 us ds r i) := by
 refine zac mix k54 _ rfl rfl (Tab.ok (l := [(55, S55)]) ⟨t55, trivial⟩) noL noJ ?_
 repeat' ((conv => whnf); first
  | exact trivial
  | with_reducible first | refine aj ?_ | refine ai rfl ?_ | refine ai ⟨rfl, rfl⟩ ?_
  | ((with_reducible refine ai ?_ ?_); focus exact w3)
  | refine And.intro (Sd.mk (p := zaj.one MTS = _ /\ _) ⟨rfl, rfl⟩) ?_
  | refine And.intro (Sd.mk (p := zaj.vone MTS = _ /\ _) ⟨rfl, rfl⟩) ?_
  | refine exI (x := MTS) trivial ?_
  | apply exI (x := ULift.up (HR.mk _ _)) trivial
  | with_reducible first | refine And.intro (Sd.mk (p := srt _ /\ _ <= 1000000) hp.1) ?_ | refine And.intro (Sd.mk (p := srt _ /\ _ <= 1000000) hp.2) ?_ | refine And.intro (Sd.mk (p := okT _ _ /\ okT _ _) hp) ?_ | refine And.intro ?_ ?_ | refine zae ?_ | refine exI (i64_in (by omega) (by omega)) ?_
  | refine exI (x := ULift.up _) (Eq.refl _) ?_
  | refine exI (x := ULift.up _) ⟨rfl, by omega, Eq.refl _⟩ ?_
  | exact nx
  | ((with_reducible intro h); try dsimp only at h))
 all_goals (refine Sd.mk ?_)
 all_goals (try simp only [HR.eta] at *)
 all_goals first
  | exact hp
noncomputable def S54 : SFn
 | [a0, .ptr p _ _, .ptr q _ _], k => zf0 a0 fun r => zbk p fun rp => zbk q fun rq => match rp, rq with
   | .agg [.mp u, .mp d], .agg [.int .i64 i] => zbl MTS u fun us => zbl MTS d fun ds => .req (okT r us /\ okT r ds) (k (L54 us ds r i))
   | _, _ => .fail
 | _, _ => .fail
theorem t54 : FnS Tryz.prog GG 54 S54 := by
 intro args k gt go R v os n h
 unfold S54 at h
 split at h
 . obtain ⟨r, _, h⟩ := zdd h
   obtain ⟨_, _, h⟩ := zaR h
   obtain ⟨_, _, h⟩ := zaR h
   split at h
   . obtain ⟨us, _, h⟩ := zaS h
     obtain ⟨ds, _, h⟩ := zaS h
     obtain ⟨hp, _, h⟩ := zar h
     exact ⟨_, _, s54 us ds r _ hp, h⟩
   . cases h
 . cases h
end
section
set_option maxHeartbeats 8000000 in
theorem zyy (nm : ByteArray) (ru : Int) (fl : Int) (x : HI) (h : fl ∈ [0, 9, 24, 31, 57, 120, 136, 140, 144, 148, 264, 281, 284, 308, 377, 384, 388, 400, 432, 896, 912, 2072, 2184, 2328, 3080, 4120, 4240, 4248, 6168, 6169, 6328, 8496, 12345, 14393, 26744]) : zaa.ok Tryz.prog GG 106 (zr6 ⟨nm, fl, ru⟩ x) := by
 simp only [List.mem_cons, List.not_mem_nil, or_false] at h
 rcases h with rfl | rfl | rfl | rfl | rfl | rfl | rfl | rfl | rfl | rfl | rfl | rfl | rfl | rfl | rfl | rfl | rfl | rfl | rfl | rfl | rfl | rfl | rfl | rfl | rfl | rfl | rfl | rfl | rfl | rfl | rfl | rfl | rfl | rfl | rfl
 all_goals
  refine zac mix zEj _ rfl rfl (Tab.ok (l := [(81, zsM), (135, zs8)]) ⟨zGu, zKo, trivial⟩) (fun _ => .rounds 9) noJ ?_
  repeat' ((conv => whnf); first
   | exact trivial
   | with_reducible refine And.intro (Sd.mk (by with_reducible rfl)) ?_
   | with_reducible refine And.intro (Sd.mk ⟨by with_reducible rfl, by with_reducible rfl⟩) ?_
   | with_reducible refine And.intro (Sd.mk (show zbH _ _ = true by kernel_rfl)) ?_
   | with_reducible refine And.intro (Sd.mk rfl) ?_
   | with_reducible refine And.intro (Sd.mk ⟨rfl, rfl⟩) ?_
   | with_reducible refine And.intro (Sd.mk (by decide)) ?_
   | with_reducible refine And.intro (Sd.mk (by omega)) ?_
   | with_reducible refine And.intro ?_ ?_
   | with_reducible refine zae ?_
   | with_reducible intro _)
  all_goals exact ⟨by kernel_rfl⟩
theorem zm9 (op : Int) : (zbd op).1.fields ∈ [0, 9, 24, 31, 57, 120, 136, 140, 144, 148, 264, 281, 284, 308, 377, 384, 388, 400, 432, 896, 912, 2072, 2184, 2328, 3080, 4120, 4240, 4248, 6168, 6169, 6328, 8496, 12345, 14393, 26744] := by
 unfold zbd
 split
 . decide
 . have : op.toNat < 46 := by omega
   have h : ∀ n < 46, (zc8.getD n ⟨⟨#[]⟩, 0, 0⟩).fields ∈ [0, 9, 24, 31, 57, 120, 136, 140, 144, 148, 264, 281, 284, 308, 377, 384, 388, 400, 432, 896, 912, 2072, 2184, 2328, 3080, 4120, 4240, 4248, 6168, 6169, 6328, 8496, 12345, 14393, 26744] := by decide
   exact h _ this
theorem zHq (op : Int) (x : HI) : zaa.ok Tryz.prog GG 106 (zr6 (zbd op).1 x) := zyy _ _ _ x (zm9 op)
noncomputable def zr4 : SFn
 | [a0, a1], k => zjv a0 fun f => zdp a1 fun x => .req (∃ op, f = (zbd op).1) (k (zr6 f x))
 | _, _ => .fail
theorem zEZ : FnS Tryz.prog GG 106 zr4 := by
 intro args k gt go R v os n h
 unfold zr4 at h
 split at h
 . obtain ⟨f, _, h⟩ := zfS h
   obtain ⟨x, _, h⟩ := zbt h
   obtain ⟨⟨op, rfl⟩, _, h⟩ := zar h
   exact ⟨_, _, zHq op x, h⟩
 . cases h
end
section
def zJZ : MC := .seq (.reg [oo 2 (.mv (ki 0))]) (.seq (.seq (.reg [om 3 0]) (.blk 0 (.seq (.seq (.reg [oo 5 (cc .eql 3 1),om 4 5]) (.cond (.t 4) (.skip) (.reg [oo 6 (cc .eql 3 8),om 4 6]))) (.cond (.t 4) (.seq (.reg [oo 2 (.mv (ki 1))]) (.ret)) (.seq (.reg [oo 8 (cc .eql 3 16),om 7 8]) (.cond (.t 7) (.seq (.reg [oo 2 (.mv (ki 2))]) (.ret)) (.seq (.reg [oo 10 (cc .eql 3 32),om 9 10]) (.cond (.t 9) (.seq (.reg [oo 2 (.mv (ki 4))]) (.ret)) (.seq (.reg [oo 12 (cc .eql 3 128),om 11 12]) (.cond (.t 11) (.seq (.reg [oo 2 (.mv (ki 16))]) (.ret)) (.skip))))))))))) (.seq (.reg [oo 2 (.mv (ki 0))]) (.ret)))
theorem zJn : zan Tryz.prog 219 13 zJZ [.t 2] := fk Tryz.func219 ⟨tv,⟨⟨tv,⟨⟨tv,⟨tv,tv⟩⟩,⟨⟨tv,tv⟩,⟨tv,⟨⟨tv,tv⟩,⟨tv,⟨⟨tv,tv⟩,⟨tv,⟨⟨tv,tv⟩,tv⟩⟩⟩⟩⟩⟩⟩⟩⟩,⟨tv,tv⟩⟩⟩
def zHN : MC := .seq (.reg [oo 2 (.mv kf)]) (.seq (.reg [om 3 0,oo 4 (cc .neq 3 1),sm 5 4,mt 5 6 0,gt_ 5 7 (fc 219 [(.t 6)]),gt_ 5 8 (cc .gtr 7 0),oo 9 (pf 5 8),om 2 9]) (.ret))
theorem zF6 : zan Tryz.prog 197 10 zHN [.t 2] := fk Tryz.func197 ⟨tv,⟨tv,tv⟩⟩
def zGD : MC := .seq (.reg [oo 4 (.mv kf)]) (.seq (.reg [om 6 1,oo 7 (fc 219 [(.t 6)]),om 5 7]) (.seq (.reg [om 8 1,oo 9 (fc 197 [(.t 8)]),sm 10 9,mt 10 11 0,gt_ 10 12 (cc .geq 11 0),oo 13 (pf 10 12),sm 14 13,mt 14 15 0,mt 14 16 5,gt_ 14 17 (at_ .rem 15 16),gt_ 14 18 (cc .eql 17 0),oo 19 (pf 14 18),sm 20 19,mt 20 21 0,mt 20 22 5,gt_ 20 23 (.ar .sub (ki 672) (.t 22)),gt_ 20 24 (ct .leq 21 23),oo 25 (pf 20 24),om 4 25]) (.ret)))
theorem zJO : zan Tryz.prog 194 26 zGD [.t 4] := fk Tryz.func194 ⟨tv,⟨tv,⟨tv,tv⟩⟩⟩
def zH2 : MC := .seq (.reg [oo 4 (.mv (ki 0))]) (.seq (.seq (.reg [om 5 0,oo 6 (.not (.t 5)),sm 7 6,mf 7 8 1,gf 7 9 (fc 219 [(.t 8)]),gf 7 10 (cc .eql 9 0),oo 11 (pt 7 10)]) (.cond (.t 11) (.seq (.reg [oo 4 (.mv (ki 0))]) (.ret)) (.skip))) (.seq (.reg [om 12 1,om 4 12]) (.ret)))
theorem zIa : zan Tryz.prog 193 13 zH2 [.t 4] := fk Tryz.func193 ⟨tv,⟨⟨tv,⟨⟨tv,tv⟩,tv⟩⟩,⟨tv,tv⟩⟩⟩
def zd0 (ty : Int) : Int := if ty = 1 \/ ty = 8 then 1 else if ty = 16 then 2 else if ty = 32 then 4 else if ty = 128 then 16 else 0
def zjc (ty : Int) : Bool := decide (ty ≠ 1 /\ 0 < zd0 ty)
def zkw (off ty : Int) : Bool := decide (zjc ty = true /\ 0 <= off /\ off.tmod (zd0 ty) = 0 /\ off <= 672 - zd0 ty)
def ziV (is : Bool) (ty : Int) : Int := if is = true /\ zd0 ty ≠ 0 then ty else 0
theorem zjj (ty : Int) : 0 <= zd0 ty /\ zd0 ty <= 16 := by
 unfold zd0; repeat' split
 all_goals omega
def zxo (ty : Int) : zaa := ⟨[kz ty], [], [], [], kz (zd0 ty)⟩
theorem zF8 (ty : Int) : zaa.ok Tryz.prog GG 219 (zxo ty) := by
 refine zac mix zJn _ rfl rfl (Tab.ok (l := []) trivial) noL noJ ?_
 repeat' ((conv => whnf); first
  | exact trivial
  | with_reducible first | refine ai (by with_reducible rfl) ?_ | refine ai ⟨by with_reducible rfl, by with_reducible rfl⟩ ?_ | refine ai (show zbH _ _ = true by kernel_rfl) ?_ | refine ai rfl ?_ | refine ai ⟨rfl, rfl⟩ ?_ | refine ai (by decide) ?_ | refine ai (by omega) ?_ | refine And.intro ?_ ?_ | refine zae ?_ | refine exI (i64_in (by omega) (by omega)) ?_
  | (with_reducible intro h; exact absurd h (by decide))
  | with_reducible intro _)
 all_goals (refine Sd.mk ?_; unfold zd0; grind)
noncomputable def zlb : SFn
 | [a0], k => asI a0 fun ty => k (zxo ty)
 | _, _ => .fail
theorem zpP : FnS Tryz.prog GG 219 zlb := by
 intro args k gt go R v os n h
 unfold zlb at h
 split at h
 . obtain ⟨ty, _, h⟩ := zaU h
   exact ⟨_, _, zF8 ty, h⟩
 . cases h
def zxD (ty : Int) : zaa := ⟨[kz ty], [], [], [], .bool (zjc ty)⟩
theorem zKc (ty : Int) : zaa.ok Tryz.prog GG 197 (zxD ty) := by
 refine zac mix zF6 _ rfl rfl (Tab.ok (l := [(219, zlb)]) ⟨zpP, trivial⟩) noL noJ ?_
 repeat' ((conv => whnf); first
  | exact trivial
  | with_reducible first | refine ai (by with_reducible rfl) ?_ | refine ai ⟨by with_reducible rfl, by with_reducible rfl⟩ ?_ | refine ai (show zbH _ _ = true by kernel_rfl) ?_ | refine ai rfl ?_ | refine ai ⟨rfl, rfl⟩ ?_ | refine ai (by decide) ?_ | refine ai (by omega) ?_ | refine And.intro ?_ ?_ | refine zae ?_ | refine exI (i64_in (by omega) (by omega)) ?_
  | (with_reducible intro h; exact absurd h (by decide))
  | with_reducible intro _)
 all_goals (refine Sd.mk ?_; unfold zjc; grind)
noncomputable def zoX : SFn
 | [a0], k => asI a0 fun ty => k (zxD ty)
 | _, _ => .fail
theorem zyW : FnS Tryz.prog GG 197 zoX := by
 intro args k gt go R v os n h
 unfold zoX at h
 split at h
 . obtain ⟨ty, _, h⟩ := zaU h
   exact ⟨_, _, zKc ty, h⟩
 . cases h
def zwv (off : Int) (ty : Int) : zaa := ⟨[kz off, kz ty], [], [], [], .bool (zkw off ty)⟩
theorem zFY (off : Int) (ty : Int) : zaa.ok Tryz.prog GG 194 (zwv off ty) := by
 refine zac mix zJO _ rfl rfl (Tab.ok (l := [(219, zlb), (197, zoX)]) ⟨zpP, zyW, trivial⟩) noL noJ ?_
 repeat' ((conv => whnf); first
  | exact trivial
  | with_reducible first | refine ai (by with_reducible rfl) ?_ | refine ai ⟨by with_reducible rfl, by with_reducible rfl⟩ ?_ | refine ai (show zbH _ _ = true by kernel_rfl) ?_ | refine ai rfl ?_ | refine ai ⟨rfl, rfl⟩ ?_ | refine ai (by decide) ?_ | refine ai (by omega) ?_ | refine And.intro ?_ ?_ | refine zae ?_ | refine exI (i64_in (by omega) (by omega)) ?_
  | (with_reducible intro h; exact absurd h (by decide))
  | with_reducible first | refine ai (by simp only [zjc] at *; grind) ?_ | refine exI (i64_in (by have := zjj ty; omega) (by have := zjj ty; omega)) ?_
  | with_reducible intro _)
 all_goals (refine Sd.mk ?_; simp only [zkw, zjc] at *; grind)
noncomputable def zoU : SFn
 | [a0, a1], k => asI a0 fun off => asI a1 fun ty => k (zwv off ty)
 | _, _ => .fail
theorem zyM : FnS Tryz.prog GG 194 zoU := by
 intro args k gt go R v os n h
 unfold zoU at h
 split at h
 . obtain ⟨off, _, h⟩ := zaU h
   obtain ⟨ty, _, h⟩ := zaU h
   exact ⟨_, _, zFY off ty, h⟩
 . cases h
def zyO (is : Bool) (ty : Int) : zaa := ⟨[.bool is, kz ty], [], [], [], kz (ziV is ty)⟩
theorem zEL (is : Bool) (ty : Int) : zaa.ok Tryz.prog GG 193 (zyO is ty) := by
 refine zac mix zIa _ rfl rfl (Tab.ok (l := [(219, zlb)]) ⟨zpP, trivial⟩) noL noJ ?_
 repeat' ((conv => whnf); first
  | exact trivial
  | with_reducible first | refine ai (by with_reducible rfl) ?_ | refine ai ⟨by with_reducible rfl, by with_reducible rfl⟩ ?_ | refine ai (show zbH _ _ = true by kernel_rfl) ?_ | refine ai rfl ?_ | refine ai ⟨rfl, rfl⟩ ?_ | refine ai (by decide) ?_ | refine ai (by omega) ?_ | refine And.intro ?_ ?_ | refine zae ?_ | refine exI (i64_in (by omega) (by omega)) ?_
  | (with_reducible intro h; exact absurd h (by decide))
  | with_reducible intro _)
 all_goals (refine Sd.mk ?_; unfold ziV; grind)
noncomputable def zng : SFn
 | [a0, a1], k => asB a0 fun is => asI a1 fun ty => k (zyO is ty)
 | _, _ => .fail
theorem zrb : FnS Tryz.prog GG 193 zng := by
 intro args k gt go R v os n h
 unfold zng at h
 split at h
 . obtain ⟨is, _, h⟩ := ziJ h
   obtain ⟨ty, _, h⟩ := zaU h
   exact ⟨_, _, zEL is ty, h⟩
 . cases h
end
section
def zE6 : MC := .seq (.reg [oo 2 (.box (.t 0)),oo 4 (.mv (ki 0))]) (.seq (.reg [oo 5 (.mv kf)]) (.seq (.seq (.reg [oo 6 (fl 2 2),oo 7 (ln 6)]) (.blk 0 (.seq (.reg [oo 9 (cc .eql 7 1),om 8 9]) (.cond (.t 8) (.reg [oo 10 (fl 1 2),oo 11 (ln 10),om 12 1,oo 13 (ct .eql 11 12),om 5 13]) (.seq (.seq (.reg [oo 15 (cc .eql 7 2),om 14 15]) (.cond (.t 14) (.skip) (.reg [oo 16 (cc .eql 7 3),om 14 16]))) (.cond (.t 14) (.reg [oo 17 (fl 1 2),oo 18 (ln 17),oo 19 (cc .eql 18 32),sm 20 19,mt 20 21 1,gt_ 20 22 (cc .lss 21 32),oo 23 (pf 20 22),om 5 23]) (.seq (.reg [oo 25 (cc .eql 7 4),om 24 25]) (.cond (.t 24) (.reg [om 26 1,oo 27 (cc .eql 26 32),sm 28 27,gt_ 28 29 (fl 1 2),gt_ 28 30 (ln 29),gt_ 28 31 (cc .eql 30 8),ogs 28 true (some 32) (.mv (.t 31)),gf 32 33 (fl 1 2),gf 32 34 (ln 33),gf 32 35 (cc .eql 34 16),gt_ 28 36 (pt 32 35),oo 37 (pf 28 36),om 5 37]) (.seq (.reg [oo 39 (cc .eql 7 5),om 38 39]) (.cond (.t 38) (.reg [oo 40 (fl 1 2),oo 41 (ln 40),oo 42 (cc .eql 41 1),om 5 42]) (.seq (.reg [oo 44 (cc .eql 7 6),om 43 44]) (.cond (.t 43) (.reg [om 45 1,oo 46 (cc .eql 45 1),sm 47 46,gt_ 47 48 (fl 1 2),gt_ 47 49 (ln 48),gt_ 47 50 (fc 197 [(.t 49)]),oo 51 (pf 47 50),om 5 51]) (.seq (.reg [oo 53 (cc .eql 7 7),om 52 53]) (.cond (.t 52) (.reg [om 54 1,oo 55 (cc .eql 54 32),sm 56 55,gt_ 56 57 (fl 1 2),gt_ 56 58 (ln 57),gt_ 56 59 (cc .eql 58 32),oo 60 (pf 56 59),om 5 60]) (.seq (.seq (.reg [oo 62 (cc .eql 7 8),om 61 62]) (.cond (.t 61) (.skip) (.seq (.reg [oo 63 (cc .eql 7 9),om 61 63]) (.cond (.t 61) (.skip) (.reg [oo 64 (cc .eql 7 10),om 61 64]))))) (.cond (.t 61) (.reg [om 65 1,oo 66 (cc .eql 65 128),sm 67 66,gt_ 67 68 (fl 1 2),gt_ 67 69 (ln 68),gt_ 67 70 (cc .eql 69 128),oo 71 (pf 67 70),om 5 71]) (.seq (.reg [oo 73 (cc .eql 7 11),om 72 73]) (.cond (.t 72) (.reg [om 74 1,oo 75 (cc .eql 74 32),sm 76 75,gt_ 76 77 (fl 1 2),gt_ 76 78 (ln 77),gt_ 76 79 (cc .eql 78 128),oo 80 (pf 76 79),om 5 80]) (.seq (.reg [oo 82 (cc .eql 7 12),om 81 82]) (.cond (.t 81) (.seq (.reg [oo 83 (fl 3 2),oo 84 (ln 83),oo 85 (cc .geq 84 0),sm 86 85,gt_ 86 87 (fl 3 2),gt_ 86 88 (ln 87),gt_ 86 89 (cc .lss 88 4),oo 90 (pf 86 89),sm 91 90,mt 91 92 1,gt_ 91 93 (cc .eql 92 128),oo 94 (pf 91 93),sm 95 94,gt_ 95 96 (fl 1 2),gt_ 95 97 (ln 96),gt_ 95 98 (cc .eql 97 32),oo 99 (pf 95 98),oo 100 (fl 1 2),oo 101 (ln 100),oo 102 (fc 193 [(.t 99),(.t 101)]),om 4 102]) (.ret)) (.seq (.reg [oo 104 (cc .eql 7 13),om 103 104]) (.cond (.t 103) (.reg [om 105 1,oo 106 (cc .eql 105 128),sm 107 106,gt_ 107 108 (fl 1 2),gt_ 107 109 (ln 108),gt_ 107 110 (cc .eql 109 32),oo 111 (pf 107 110),om 5 111]) (.skip))))))))))))))))))))))) (.seq (.reg [om 112 5,sm 113 112,gt_ 113 114 (fl 3 2),gt_ 113 115 (ln 114),gt_ 113 116 (cc .eql 115 0),oo 117 (pf 113 116),oo 118 (fl 1 2),oo 119 (ln 118),oo 120 (fc 193 [(.t 117),(.t 119)]),om 4 120]) (.ret))))
theorem zG8 : zan Tryz.prog 195 121 zE6 [.t 4] := fk Tryz.func195 ⟨tv,⟨tv,⟨⟨tv,⟨tv,⟨tv,⟨⟨tv,⟨tv,tv⟩⟩,⟨tv,⟨tv,⟨tv,⟨tv,⟨tv,⟨tv,⟨tv,⟨tv,⟨tv,⟨⟨tv,⟨tv,⟨tv,⟨tv,tv⟩⟩⟩⟩,⟨tv,⟨tv,⟨tv,⟨tv,⟨⟨tv,tv⟩,⟨tv,⟨tv,tv⟩⟩⟩⟩⟩⟩⟩⟩⟩⟩⟩⟩⟩⟩⟩⟩⟩⟩⟩⟩⟩,⟨tv,tv⟩⟩⟩⟩
def zHt : MC := .seq (.reg [oo 3 (.box (.t 1)),oo 4 (.mv (ki 0))]) (.seq (.seq (.reg [oo 5 (fl 0 3),oo 6 (ln 5),oo 7 (cc .geq 6 0)]) (.cond (.t 7) (.seq (.seq (.reg [oo 8 (fl 0 3),oo 9 (ln 8),om 10 0,oo 11 (.lenS (.t 10)),oo 12 (ct .geq 9 11),sm 13 12,gf 13 14 (fl 1 3),gf 13 15 (ln 14),gf 13 16 (cc .neq 15 0),oo 17 (pt 13 16),sm 18 17,gf 18 19 (fl 2 3),gf 18 20 (ls 4 19),gf 18 21 (.bld [(.int .u32 0),(.int .u32 0),(.int .u32 0),(.int .u32 0)] []),gf 18 22 (.eqs [.int .u32,.int .u32,.int .u32,.int .u32] true (.t 20) (.t 21)),oo 23 (pt 18 22),sm 24 23,mf 24 25 0,gf 24 26 (fl 0 3),gf 24 27 (ln 26),gf 24 28 (ia 1 25 27),gf 24 29 (ln 28),gf 24 30 (fc 219 [(.t 29)]),gf 24 31 (cc .eql 30 0),oo 32 (pt 24 31)]) (.cond (.t 32) (.seq (.reg [oo 4 (.mv (ki 0))]) (.ret)) (.skip))) (.seq (.reg [om 33 0,oo 34 (fl 0 3),oo 35 (ln 34),oo 36 (ia 1 33 35),oo 37 (ln 36),om 4 37]) (.ret))) (.skip))) (.seq (.seq (.reg [oo 38 (fl 0 3),oo 39 (ln 38),oo 40 (.cmp .neq (.t 39) (ki (-1))),sm 41 40,gf 41 42 (fl 1 3),gf 41 43 (ln 42),gf 41 44 (fc 219 [(.t 43)]),gf 41 45 (cc .eql 44 0),oo 46 (pt 41 45),sm 47 46,gf 47 48 (fl 1 3),gf 47 49 (ln 48),gf 47 50 (cc .lss 49 128),ogs 47 false (some 51) (.mv (.t 50)),gt_ 51 52 (fl 2 3),gt_ 51 53 (.ixr 4 1 (.t 52) (ki 1)),gt_ 51 54 (ln 53),gt_ 51 55 (.cmp .neq (.t 54) (.k (.int .u32 0))),ogs 51 true (some 56) (.mv (.t 55)),gf 56 57 (fl 2 3),gf 56 58 (.ixr 4 1 (.t 57) (ki 2)),gf 56 59 (ln 58),gf 56 60 (.cmp .neq (.t 59) (.k (.int .u32 0))),gt_ 51 61 (pt 56 60),ogs 51 true (some 62) (.mv (.t 61)),gf 62 63 (fl 2 3),gf 62 64 (.ixr 4 1 (.t 63) (ki 3)),gf 62 65 (ln 64),gf 62 66 (.cmp .neq (.t 65) (.k (.int .u32 0))),gt_ 51 67 (pt 62 66),ogs 51 true (some 68) (.mv (.t 67)),gf 68 69 (fl 2 3),gf 68 70 (.ixr 4 1 (.t 69) (ki 0)),gf 68 71 (ln 70),gf 68 72 (.cv .u64 (.t 71)),gf 68 73 (fl 1 3),gf 68 74 (ln 73),gf 68 75 (at_ .shr 72 74),gf 68 76 (.cmp .neq (.t 75) (.k (.int .u64 0))),gt_ 51 77 (pt 68 76),gf 47 78 (pf 51 77),oo 79 (pt 47 78)]) (.cond (.t 79) (.seq (.reg [oo 4 (.mv (ki 0))]) (.ret)) (.skip))) (.seq (.reg [oo 80 (fl 1 3),oo 81 (ln 80),om 4 81]) (.ret))))
theorem zES : zan Tryz.prog 217 82 zHt [.t 4] := fk Tryz.func217 ⟨tv,⟨⟨tv,⟨⟨⟨tv,⟨⟨tv,tv⟩,tv⟩⟩,⟨tv,tv⟩⟩,tv⟩⟩,⟨⟨tv,⟨⟨tv,tv⟩,tv⟩⟩,⟨tv,tv⟩⟩⟩⟩
def zHH : MC := .seq (.reg [oo 2 (.box (.t 0)),oo 3 (.mv (ki 0))]) (.seq (.reg [oo 4 (ln 1),oo 5 (ls 6 2),oo 6 (fc 217 [(.t 4),(.t 5)]),om 3 6]) (.ret))
theorem zGR : zan Tryz.prog 216 7 zHH [.t 3] := fk Tryz.func216 ⟨tv,⟨tv,tv⟩⟩
def zym (op frm ty : Int) : Bool := decide ((op = 1 /\ ty = frm) \/ ((op = 2 \/ op = 3) /\ ty = 32 /\ frm < 32) \/ (op = 4 /\ frm = 32 /\ (ty = 8 \/ ty = 16)) \/ (op = 5 /\ ty = 1) \/ (op = 6 /\ frm = 1 /\ zjc ty = true) ∨
 (op = 7 /\ frm = 32 /\ ty = 32) \/ ((op = 8 \/ op = 9 \/ op = 10) /\ frm = 128 /\ ty = 128) \/ (op = 11 /\ frm = 32 /\ ty = 128) \/ (op = 12 /\ frm = 128 /\ ty = 32) \/ (op = 13 /\ frm = 128 /\ ty = 32))
def unF (op frm ty : Int) : Int := ziV (zym op frm ty) ty
def tyF (frm : Int) : Int := if zd0 frm = 0 then 0 else frm
def zuc : List SV := [kz 0, kz 0, ku 0, ku 0, ku 0, ku 0]
def znI : List PV := [.int .i64 0, .int .i64 0, .int .u32 0, .int .u32 0, .int .u32 0, .int .u32 0]
def zxj (op : Int) (frm : Int) (ty : Int) : zaa := ⟨[.agg [kz 3, kz ty, kz op, kz 0, .any], kz frm], [], [], [], kz (unF op frm ty)⟩
set_option maxHeartbeats 40000000 in
theorem zHn (op : Int) (frm : Int) (ty : Int) : zaa.ok Tryz.prog GG 195 (zxj op frm ty) := by
 refine zac mix zG8 _ rfl rfl (Tab.ok (l := [(193, zng), (197, zoX)]) ⟨zrb, zyW, trivial⟩) noL noJ ?_
 repeat' ((conv => whnf); first
  | exact trivial
  | with_reducible first | refine ai (by with_reducible rfl) ?_ | refine ai ⟨by with_reducible rfl, by with_reducible rfl⟩ ?_ | refine ai (show zbH _ _ = true by kernel_rfl) ?_ | refine ai rfl ?_ | refine ai ⟨rfl, rfl⟩ ?_ | refine ai (by decide) ?_ | refine ai (by omega) ?_ | refine And.intro ?_ ?_ | refine zae ?_ | refine exI (i64_in (by omega) (by omega)) ?_
  | (with_reducible intro h; exact absurd h (by decide))
  | with_reducible intro _)
 all_goals (refine Sd.mk ?_; (try simp only [unF, ziV, zym] at *); grind)
noncomputable def zps : SFn
 | [.agg [a, b, c, d, _], e], k => asI b fun ty => asI c fun op => asI e fun frm => k (zxj op frm ty)
 | _, _ => .fail
theorem zwy : FnS Tryz.prog GG 195 zps := by
 intro args k gt go R v os n h
 unfold zps at h
 split at h
 . obtain ⟨ty, _, h⟩ := zaU h
   obtain ⟨op, _, h⟩ := zaU h
   obtain ⟨frm, _, h⟩ := zaU h
   exact ⟨_, _, zHn op frm ty, h⟩
 . cases h
def zwf (frm : Int) : zaa := ⟨[.rd (.sl 1 [ipv frm]), .agg zuc], [], [], [], kz (tyF frm)⟩
theorem zH9 (frm : Int) : zaa.ok Tryz.prog GG 217 (zwf frm) := by
 refine zac mix zES _ rfl rfl (Tab.ok (l := [(219, zlb)]) ⟨zpP, trivial⟩) noL noJ ?_
 repeat' ((conv => whnf); first
  | exact trivial
  | with_reducible first | refine ai (by with_reducible rfl) ?_ | refine ai ⟨by with_reducible rfl, by with_reducible rfl⟩ ?_ | refine ai (show zbH _ _ = true by kernel_rfl) ?_ | refine ai rfl ?_ | refine ai ⟨rfl, rfl⟩ ?_ | refine ai (by decide) ?_ | refine ai (by omega) ?_ | refine And.intro ?_ ?_ | refine zae ?_ | refine exI (i64_in (by omega) (by omega)) ?_
  | (with_reducible intro h; exact absurd h (by decide))
  | with_reducible refine exI (x := ULift.up _) ⟨rfl, by omega, rfl⟩ ?_
  | with_reducible intro _)
 all_goals (refine Sd.mk ?_; (try simp only [tyF] at *); grind)
noncomputable def zsW : SFn
 | [.rd (.sl _ [[.int .i64 frm]]), _], k => k (zwf frm)
 | _, _ => .fail
theorem zFj : FnS Tryz.prog GG 217 zsW := by
 intro args k gt go R v os n h
 unfold zsW at h
 split at h
 . exact ⟨_, _, zH9 _, h⟩
 . cases h
def zyI (frm : Int) : zaa := ⟨[.agg zuc, .ptr 0 0 0], [.row [.rd (.sl 1 [ipv frm])]], [some (.row [.rd (.sl 1 [ipv frm])])], [], kz (tyF frm)⟩
theorem zF1 (frm : Int) : zaa.ok Tryz.prog GG 216 (zyI frm) := by
 refine zac mix zGR _ rfl rfl (Tab.ok (l := [(217, zsW)]) ⟨zFj, trivial⟩) noL noJ ?_
 repeat' ((conv => whnf); first
  | exact trivial
  | with_reducible first | refine ai (by with_reducible rfl) ?_ | refine ai ⟨by with_reducible rfl, by with_reducible rfl⟩ ?_ | refine ai (show zbH _ _ = true by kernel_rfl) ?_ | refine ai rfl ?_ | refine ai ⟨rfl, rfl⟩ ?_ | refine ai (by decide) ?_ | refine ai (by omega) ?_ | refine And.intro ?_ ?_ | refine zae ?_ | refine exI (i64_in (by omega) (by omega)) ?_
  | (with_reducible intro h; exact absurd h (by decide))
  | with_reducible intro _)
noncomputable def zpx : SFn
 | [_, .ptr a _ _], k => zbk a fun r => match r with
   | .agg [.rd (.sl _ [[.int .i64 frm]])] => k (zyI frm)
   | _ => .fail
 | _, _ => .fail
theorem zzu : FnS Tryz.prog GG 216 zpx := by
 intro args k gt go R v os n h
 unfold zpx at h
 split at h
 . obtain ⟨r, _, h⟩ := zaR h
   split at h
   . exact ⟨_, _, zF1 _, h⟩
   . cases h
 . cases h
end
section
def zGh : MC := .seq (.reg [oo 4 (.mv (.k (.val (.slice none 0 0))))]) (.seq (.reg [oo 5 (.mv (.k (.val (.slice none 0 0))))]) (.seq (.seq (.reg [om 8 0,oo 9 (.lenS (.t 8)),oo 10 (.mv (ki 0))]) (.blk 0 (.loop 0 (.seq (.reg [oo 11 (ct .lss 10 9)]) (.seq (.cond (.t 11) (.skip) (.exit 0)) (.seq (.blk 1 (.seq (.reg [oo 12 (ia 6 8 10),oo 13 (ls 6 12),oo 7 (.alloc [(kz 0),(kz 0),(.int .u32 0),(.int .u32 0),(.int .u32 0),(.int .u32 0)]),o none (.st (some 6) (.t 7) (.t 13))]) (.reg [om 14 5,om 15 1,oo 16 (ls 6 7),oo 17 (.call (.t 15) [(.t 16)]),oo 18 (.bsl 1 1 [(kz 0)] [(0,(.t 17))]),oo 19 (.app 1 8 (.t 14) (.t 18)),om 5 19]))) (.reg [oo 20 (ac .add 10 1),om 10 20]))))))) (.seq (.reg [om 21 5,om 4 21]) (.ret))))
theorem zw9 : zan Tryz.prog 215 22 zGh [.t 4] := fk Tryz.func215 ⟨tv,⟨tv,⟨⟨tv,⟨tv,⟨⟨tv,tv⟩,⟨⟨tv,tv⟩,tv⟩⟩⟩⟩,⟨tv,tv⟩⟩⟩⟩
def zEq : MC := .seq (.reg [oo 2 (.box (.t 0)),oo 4 (.mv (.k (.val (.slice none 0 0))))]) (.seq (.reg [om 5 1,oo 6 (.mkf (.func 216) [] [(.t 2)]),oo 7 (fc 215 [(.t 5),(.t 6)]),om 4 7]) (.ret))
theorem zxn : zan Tryz.prog 191 8 zEq [.t 4] := fk Tryz.func191 ⟨tv,⟨tv,tv⟩⟩
def zG0 : MC := .seq (.reg [oo 4 (.mv (ki 0))]) (.seq (.seq (.reg [om 6 0,oo 7 (.lenS (.t 6)),oo 8 (.mv (ki 0))]) (.blk 0 (.loop 0 (.seq (.reg [oo 9 (ct .lss 8 7)]) (.seq (.cond (.t 9) (.skip) (.exit 0)) (.seq (.blk 1 (.seq (.reg [om 10 8,om 5 10]) (.seq (.reg [om 11 1,om 12 0,om 13 5,oo 14 (ia 1 12 13),oo 15 (ln 14),oo 16 (ct .eql 11 15)]) (.cond (.t 16) (.seq (.reg [om 17 5,om 4 17]) (.ret)) (.skip))))) (.reg [oo 18 (ac .add 8 1),om 8 18]))))))) (.seq (.reg [oo 4 (.mv (ki (-1)))]) (.ret)))
theorem zwR : zan Tryz.prog 218 19 zG0 [.t 4] := fk Tryz.func218 ⟨tv,⟨⟨tv,⟨tv,⟨⟨tv,tv⟩,⟨⟨tv,⟨tv,⟨⟨tv,tv⟩,tv⟩⟩⟩,tv⟩⟩⟩⟩,⟨tv,tv⟩⟩⟩
def zHd : MC := .seq (.reg [oo 4 (.mv kf)]) (.seq (.reg [om 5 0,om 6 1,oo 7 (fc 218 [(.t 5),(.t 6)]),oo 8 (cc .geq 7 0),om 4 8]) (.ret))
theorem zx8 : zan Tryz.prog 192 9 zHd [.t 4] := fk Tryz.func192 ⟨tv,⟨tv,tv⟩⟩
def zGU : MC := .seq (.reg [oo 3 (.box (.t 1)),oo 4 (.mv (ki 0))]) (.seq (.reg [om 9 0,oo 10 (fl 4 3),oo 11 (ln 10),oo 12 (fc 191 [(.t 9),(.t 11)]),om 5 12]) (.seq (.seq (.reg [om 13 5,oo 14 (fc 192 [(.t 13),(ki 0)])]) (.cond (.t 14) (.seq (.reg [oo 4 (.mv (ki 0))]) (.ret)) (.skip))) (.seq (.reg [oo 15 (fl 2 3),oo 16 (ln 15),oo 17 (cc .eql 16 0),sm 18 17,gt_ 18 19 (fl 3 3),gt_ 18 20 (ln 19),gt_ 18 21 (cc .eql 20 0),oo 22 (pf 18 21),om 6 22]) (.seq (.blk 0 (.seq (.reg [oo 24 (fl 0 3),oo 25 (ln 24),oo 26 (cc .eql 25 1),sm 27 26,mt 27 28 5,gt_ 27 29 (.lenS (.t 28)),gt_ 27 30 (cc .eql 29 1),oo 31 (pf 27 30),om 23 31]) (.cond (.t 23) (.seq (.drw [om 32 6,sm 33 32,gt_ 33 34 (fl 1 3),gt_ 33 35 (ln 34),mt 33 36 5,gt_ 33 37 (.ixa 1 (.t 36) (ki 0)),gt_ 33 38 (ln 37),gt_ 33 39 (ct .eql 35 38),oo 40 (pf 33 39),oo 41 (fl 1 3),oo 42 (ln 41),oo 43 (fc 193 [(.t 40),(.t 42)]),om 4 43] [[],[0],[1],[2,1],[1],[4,1],[5,1],[3,6,1],[1,7],[],[9],[8,10,1],[11,11,0,1,2,3,4,5,6,7,8,9,10,11]]) (.ret)) (.seq (.reg [oo 45 (fl 0 3),oo 46 (ln 45),oo 47 (cc .eql 46 2),sm 48 47,mt 48 49 5,gt_ 48 50 (.lenS (.t 49)),gt_ 48 51 (cc .eql 50 0),oo 52 (pf 48 51),om 44 52]) (.cond (.t 44) (.seq (.drw [oo 53 (fl 2 3),oo 54 (ln 53),oo 55 (cc .eql 54 0),sm 56 55,gt_ 56 57 (fl 3 3),gt_ 56 58 (ln 57),gt_ 56 59 (fl 1 3),gt_ 56 60 (ln 59),gt_ 56 61 (fc 194 [(.t 58),(.t 60)]),oo 62 (pf 56 61),oo 63 (fl 1 3),oo 64 (ln 63),oo 65 (fc 193 [(.t 62),(.t 64)]),om 4 65] [[],[0],[1],[2],[3],[4,3],[3],[6,3],[5,7,3,3],[3,8],[],[10],[9,11,8],[12,12,0,1,2,3,4,5,6,7,8,9,10,11,12]]) (.ret)) (.seq (.reg [oo 67 (fl 0 3),oo 68 (ln 67),oo 69 (cc .eql 68 3),sm 70 69,mt 70 71 5,gt_ 70 72 (.lenS (.t 71)),gt_ 70 73 (cc .eql 72 1),oo 74 (pf 70 73),om 66 74]) (.cond (.t 66) (.seq (.drw [oo 75 (ls 5 3),om 76 5,oo 77 (.ixa 1 (.t 76) (ki 0)),oo 78 (ln 77),oo 79 (fc 195 [(.t 75),(.t 78)]),om 4 79] [[],[],[1],[2],[0,3],[4,4,0,1,2,3,4]]) (.ret)) (.seq (.reg [oo 81 (fl 0 3),oo 82 (ln 81),oo 83 (cc .eql 82 4),sm 84 83,mt 84 85 5,gt_ 84 86 (.lenS (.t 85)),gt_ 84 87 (cc .eql 86 2),oo 88 (pf 84 87),om 80 88]) (.cond (.t 80) (.seq (.drw [oo 89 (ls 5 3),om 90 5,oo 91 (.ixa 1 (.t 90) (ki 0)),oo 92 (ln 91),om 93 5,oo 94 (.ixa 1 (.t 93) (ki 1)),oo 95 (ln 94),oo 96 (fc 196 [(.t 89),(.t 92),(.t 95)]),om 4 96] [[],[],[1],[2],[],[4],[5],[0,3,6],[7,7,0,1,2,3,4,5,6,7]]) (.ret)) (.seq (.reg [oo 98 (fl 0 3),oo 99 (ln 98),oo 100 (cc .eql 99 5),sm 101 100,gf 101 102 (fl 0 3),gf 101 103 (ln 102),gf 101 104 (cc .eql 103 6),oo 105 (pt 101 104),sm 106 105,mt 106 107 5,gt_ 106 108 (.lenS (.t 107)),gt_ 106 109 (cc .eql 108 1),oo 110 (pf 106 109),om 97 110]) (.cond (.t 97) (.seq (.drw [om 111 6,sm 112 111,mt 112 113 5,gt_ 112 114 (.ixa 1 (.t 113) (ki 0)),gt_ 112 115 (ln 114),gt_ 112 116 (cc .eql 115 32),oo 117 (pf 112 116),sm 118 117,gt_ 118 119 (fl 1 3),gt_ 118 120 (ln 119),gt_ 118 121 (fc 197 [(.t 120)]),oo 122 (pf 118 121),oo 123 (fl 1 3),oo 124 (ln 123),oo 125 (fc 193 [(.t 122),(.t 124)]),om 4 125] [[],[0],[1],[2,1],[3,1],[4,1],[1,5],[6,1],[7],[8,7],[9,7,7],[7,10],[],[12],[11,13,10],[14,14,0,1,2,3,4,5,6,7,8,9,10,11,12,13,14]])
 (.ret)) (.seq (.reg [oo 127 (fl 0 3),oo 128 (ln 127),oo 129 (cc .eql 128 9),sm 130 129,mt 130 131 5,gt_ 130 132 (.lenS (.t 131)),gt_ 130 133 (cc .eql 132 1),oo 134 (pf 130 133),om 126 134]) (.cond (.t 126) (.seq (.reg [om 135 6,sm 136 135,mt 136 137 5,gt_ 136 138 (.ixa 1 (.t 137) (ki 0)),gt_ 136 139 (ln 138),gt_ 136 140 (cc .eql 139 32),oo 141 (pf 136 140),sm 142 141,gt_ 142 143 (fl 1 3),gt_ 142 144 (ln 143),gt_ 142 145 (fc 197 [(.t 144)]),oo 146 (pf 142 145),oo 147 (fc 193 [(.t 146),(ki 32)]),om 4 147]) (.ret)) (.seq (.reg [oo 149 (fl 0 3),oo 150 (ln 149),oo 151 (cc .eql 150 7),sm 152 151,mt 152 153 5,gt_ 152 154 (.lenS (.t 153)),gt_ 152 155 (cc .eql 154 3),oo 156 (pf 152 155),om 148 156]) (.cond (.t 148) (.seq (.drw [om 157 6,sm 158 157,mt 158 159 5,gt_ 158 160 (.ixa 1 (.t 159) (ki 0)),gt_ 158 161 (ln 160),gt_ 158 162 (cc .eql 161 1),oo 163 (pf 158 162),sm 164 163,mt 164 165 5,gt_ 164 166 (.ixa 1 (.t 165) (ki 1)),gt_ 164 167 (ln 166),mt 164 168 5,gt_ 164 169 (.ixa 1 (.t 168) (ki 2)),gt_ 164 170 (ln 169),gt_ 164 171 (ct .eql 167 170),oo 172 (pf 164 171),sm 173 172,gt_ 173 174 (fl 1 3),gt_ 173 175 (ln 174),mt 173 176 5,gt_ 173 177 (.ixa 1 (.t 176) (ki 1)),gt_ 173 178 (ln 177),gt_ 173 179 (ct .eql 175 178),oo 180 (pf 173 179),oo 181 (fl 1 3),oo 182 (ln 181),oo 183 (fc 193 [(.t 180),(.t 182)]),om 4 183] [[],[0],[1],[2,1],[3,1],[4,1],[1,5],[6,1],[7],[8,7],[9,7],[7],[11,7],[12,7],[10,13,7],[7,14],[15,7],[16],[17,16],[16],[19,16],[20,16],[18,21,16],[16,22],[],[24],[23,25,16],[26,26,0,1,2,3,4,5,6,7,8,9,10,11,12,13,14,15,16,17,18,19,20,21,22,23,24,25,26]]) (.ret)) (.seq (.reg [oo 185 (fl 0 3),oo 186 (ln 185),oo 187 (cc .eql 186 8),om 184 187]) (.cond (.t 184) (.seq (.reg [oo 188 (.mkm),o none (.mup true [.int .i64] (.t 188) (ki 1) (ki 4)),o none (.mup true [.int .i64] (.t 188) (ki 2) (ki 5)),om 189 188,oo 190 (fl 2 3),oo 191 (ln 190),oo 192 (.lkp false true [.int .i64] true [.int .i64 0] (.t 189) (.t 191)),om 7 192]) (.seq (.reg [om 193 5,oo 194 (fc 77 [(.t 193),(.k (.fn (.func 198) [] []))]),oo 195 (.not (.t 194)),om 8 195]) (.seq (.reg [om 196 7,oo 197 (cc .gtr 196 0),sm 198 197,mt 198 199 5,gt_ 198 200 (.lenS (.t 199)),mt 198 201 7,gt_ 198 202 (ct .eql 200 201),oo 203 (pf 198 202),sm 204 203,mt 204 205 8,oo 206 (pf 204 205),sm 207 206,gt_ 207 208 (fl 3 3),gt_ 207 209 (ln 208),gt_ 207 210 (cc .eql 209 0),oo 211 (pf 207 210),sm 212 211,gt_ 212 213 (fl 1 3),gt_ 212 214 (ln 213),gt_ 212 215 (cc .eql 214 32),oo 216 (pf 212 215),oo 217 (fl 1 3),oo 218 (ln 217),oo 219 (fc 193 [(.t 216),(.t 218)]),om 4 219]) (.ret)))) (.skip)))))))))))))))))) (.seq (.reg [oo 4 (.mv (ki 0))]) (.ret))))))
theorem zwS : zan Tryz.prog 173 220 zGU [.t 4] := fk Tryz.func173 ⟨tv,⟨tv,⟨⟨tv,⟨⟨tv,tv⟩,tv⟩⟩,⟨tv,⟨⟨tv,⟨⟨tv,tv⟩,⟨tv,⟨⟨tv,tv⟩,⟨tv,⟨⟨tv,tv⟩,⟨tv,⟨⟨tv,tv⟩,⟨tv,⟨⟨tv,tv⟩,⟨tv,⟨⟨tv,tv⟩,⟨tv,⟨⟨tv,tv⟩,⟨tv,⟨⟨tv,⟨tv,⟨tv,tv⟩⟩⟩,tv⟩⟩⟩⟩⟩⟩⟩⟩⟩⟩⟩⟩⟩⟩⟩⟩,⟨tv,tv⟩⟩⟩⟩⟩⟩
def zxL (frm : Int) : zaa := ⟨[.rd (.sl 6 [znI]), .fn (.func 216) [] [.ptr 0 0 0]], [.row [.rd (.sl 1 [ipv frm])]], [some (.row [.rd (.sl 1 [ipv frm])])], [.vec 1 [ipv (tyF frm)]], .slc 1 0 1⟩
theorem zHs (frm : Int) : zaa.ok Tryz.prog GG 215 (zxL frm) := by
 refine zac mix zw9 _ rfl rfl (Tab.ok (l := [(216, zpx)]) ⟨zzu, trivial⟩) (fun _ => .rounds 3) noJ ?_
 repeat' ((conv => whnf); first
  | exact trivial
  | with_reducible first | refine aj ?_ | refine ai rfl ?_ | refine ai ⟨rfl, rfl⟩ ?_
  | ((with_reducible refine ai ?_ ?_); first | focus (exact ⟨trivial, trivial, trivial⟩) | focus (simp [zai.len]; done))
  | with_reducible first | refine And.intro ?_ ?_ | refine zae ?_ | refine exI (i64_in (by omega) (by omega)) ?_
  | refine exI (x := ULift.up _) (Eq.refl _) ?_
  | refine exI (x := ULift.up _) ⟨rfl, by omega, Eq.refl _⟩ ?_
  | ((with_reducible intro h); first | exact absurd h (by decide) | (exfalso; revert h; simp; done))
  | with_reducible refine exI (x := ULift.up _) ⟨rfl, by omega, rfl⟩ ?_
  | with_reducible intro _)
def ztJ  : zaa := ⟨[.val (.slice none 0 0), .fn (.func 216) [] [.ptr 0 0 0]], [.row [.val (.slice none 0 0)]], [some (.row [.val (.slice none 0 0)])], [], .val (.slice none 0 0)⟩
theorem zBb  : zaa.ok Tryz.prog GG 215 (ztJ ) := by
 refine zac mix zw9 _ rfl rfl (Tab.ok (l := [(216, zpx)]) ⟨zzu, trivial⟩) (fun _ => .rounds 3) noJ ?_
 repeat' ((conv => whnf); first
  | exact trivial
  | with_reducible first | refine aj ?_ | refine ai rfl ?_ | refine ai ⟨rfl, rfl⟩ ?_
  | ((with_reducible refine ai ?_ ?_); first | focus (exact ⟨trivial, trivial, trivial⟩) | focus (simp [zai.len]; done))
  | with_reducible first | refine And.intro ?_ ?_ | refine zae ?_ | refine exI (i64_in (by omega) (by omega)) ?_
  | refine exI (x := ULift.up _) (Eq.refl _) ?_
  | refine exI (x := ULift.up _) ⟨rfl, by omega, Eq.refl _⟩ ?_
  | ((with_reducible intro h); first | exact absurd h (by decide) | (exfalso; revert h; simp; done))
  | with_reducible intro _)
noncomputable def zoN : SFn
 | [a0, .fn _ _ [.ptr p _ _]], k => zcu a0 fun l => match l with
   | [] => k ztJ
   | _ => zbk p fun r => match r with
     | .agg [.rd (.sl _ [[.int .i64 frm]])] => k (zxL frm)
     | _ => .fail
 | _, _ => .fail
theorem zxw : FnS Tryz.prog GG 215 zoN := by
 intro args k gt go R v os n h
 unfold zoN at h
 split at h
 . obtain ⟨l, _, h⟩ := zbn h
   split at h
   . exact ⟨_, _, zBb, h⟩
   . obtain ⟨r, _, h⟩ := zaR h
     split at h
     . exact ⟨_, _, zHs _, h⟩
     . cases h
 . cases h
def zxE (frm : Int) : zaa := ⟨[.rd (.sl 1 [ipv frm]), .rd (.sl 6 [znI])], [], [], [.vec 1 [ipv (tyF frm)]], .slc 0 0 1⟩
theorem zFk (frm : Int) : zaa.ok Tryz.prog GG 191 (zxE frm) := by
 refine zac mix zxn _ rfl rfl (Tab.ok (l := [(215, zoN)]) ⟨zxw, trivial⟩) noL noJ ?_
 repeat' ((conv => whnf); first
  | exact trivial
  | with_reducible first | refine aj ?_ | refine ai rfl ?_ | refine ai ⟨rfl, rfl⟩ ?_
  | ((with_reducible refine ai ?_ ?_); first | focus (exact ⟨trivial, trivial, trivial⟩) | focus (simp [zai.len]; done))
  | with_reducible first | refine And.intro ?_ ?_ | refine zae ?_ | refine exI (i64_in (by omega) (by omega)) ?_
  | refine exI (x := ULift.up _) (Eq.refl _) ?_
  | refine exI (x := ULift.up _) ⟨rfl, by omega, Eq.refl _⟩ ?_
  | ((with_reducible intro h); first | exact absurd h (by decide) | (exfalso; revert h; simp; done))
  | with_reducible intro _)
def zt5  : zaa := ⟨[.val (.slice none 0 0), .val (.slice none 0 0)], [], [], [], .val (.slice none 0 0)⟩
theorem zBI  : zaa.ok Tryz.prog GG 191 (zt5 ) := by
 refine zac mix zxn _ rfl rfl (Tab.ok (l := [(215, zoN)]) ⟨zxw, trivial⟩) noL noJ ?_
 repeat' ((conv => whnf); first
  | exact trivial
  | with_reducible first | refine aj ?_ | refine ai rfl ?_ | refine ai ⟨rfl, rfl⟩ ?_
  | ((with_reducible refine ai ?_ ?_); first | focus (exact ⟨trivial, trivial, trivial⟩) | focus (simp [zai.len]; done))
  | with_reducible first | refine And.intro ?_ ?_ | refine zae ?_ | refine exI (i64_in (by omega) (by omega)) ?_
  | refine exI (x := ULift.up _) (Eq.refl _) ?_
  | refine exI (x := ULift.up _) ⟨rfl, by omega, Eq.refl _⟩ ?_
  | ((with_reducible intro h); first | exact absurd h (by decide) | (exfalso; revert h; simp; done))
  | with_reducible intro _)
noncomputable def zo7 : SFn
 | [a0, a1], k => zcu a0 fun l => match l with
   | [] => k zt5
   | [[.int .i64 frm]] => k (zxE frm)
   | _ => .fail
 | _, _ => .fail
theorem zAX : FnS Tryz.prog GG 191 zo7 := by
 intro args k gt go R v os n h
 unfold zo7 at h
 split at h
 . obtain ⟨l, _, h⟩ := zbn h
   split at h
   . exact ⟨_, _, zBI, h⟩
   . exact ⟨_, _, zFk _, h⟩
   . cases h
 . cases h
def zzk (a : Int) : zaa := ⟨[.rd (.sl 1 [ipv a]), kz 0], [], [], [], kz (if a = 0 then 0 else -1)⟩
theorem zIR (a : Int) : zaa.ok Tryz.prog GG 218 (zzk a) := by
 refine zac mix zwR _ rfl rfl (Tab.ok (l := []) trivial) (fun _ => .rounds 3) noJ ?_
 repeat' ((conv => whnf); first
  | exact trivial
  | with_reducible first | refine aj ?_ | refine ai rfl ?_ | refine ai ⟨rfl, rfl⟩ ?_
  | ((with_reducible refine ai ?_ ?_); first | focus (exact ⟨trivial, trivial, trivial⟩) | focus (simp [zai.len]; done))
  | with_reducible first | refine And.intro ?_ ?_ | refine zae ?_ | refine exI (i64_in (by omega) (by omega)) ?_
  | refine exI (x := ULift.up _) (Eq.refl _) ?_
  | refine exI (x := ULift.up _) ⟨rfl, by omega, Eq.refl _⟩ ?_
  | ((with_reducible intro h); first | exact absurd h (by decide) | (exfalso; revert h; simp; done))
  | with_reducible refine exI (x := ULift.up _) ⟨rfl, by omega, rfl⟩ ?_
  | with_reducible intro _)
 all_goals (refine Sd.mk ?_; grind)
def ztR  : zaa := ⟨[.val (.slice none 0 0), kz 0], [], [], [], kz (-1)⟩
theorem zBv  : zaa.ok Tryz.prog GG 218 (ztR ) := by
 refine zac mix zwR _ rfl rfl (Tab.ok (l := []) trivial) (fun _ => .rounds 3) noJ ?_
 repeat' ((conv => whnf); first
  | exact trivial
  | with_reducible first | refine aj ?_ | refine ai rfl ?_ | refine ai ⟨rfl, rfl⟩ ?_
  | ((with_reducible refine ai ?_ ?_); first | focus (exact ⟨trivial, trivial, trivial⟩) | focus (simp [zai.len]; done))
  | with_reducible first | refine And.intro ?_ ?_ | refine zae ?_ | refine exI (i64_in (by omega) (by omega)) ?_
  | refine exI (x := ULift.up _) (Eq.refl _) ?_
  | refine exI (x := ULift.up _) ⟨rfl, by omega, Eq.refl _⟩ ?_
  | ((with_reducible intro h); first | exact absurd h (by decide) | (exfalso; revert h; simp; done))
  | with_reducible intro _)
noncomputable def zoR : SFn
 | [a0, a1], k => zcu a0 fun l => match l with
   | [] => k ztR
   | [[.int .i64 frm]] => k (zzk frm)
   | _ => .fail
 | _, _ => .fail
theorem zwi : FnS Tryz.prog GG 218 zoR := by
 intro args k gt go R v os n h
 unfold zoR at h
 split at h
 . obtain ⟨l, _, h⟩ := zbn h
   split at h
   . exact ⟨_, _, zBv, h⟩
   . exact ⟨_, _, zIR _, h⟩
   . cases h
 . cases h
def zza (a : Int) : zaa := ⟨[.rd (.sl 1 [ipv a]), kz 0], [], [], [], .bool (decide (a = 0))⟩
theorem zEA (a : Int) : zaa.ok Tryz.prog GG 192 (zza a) := by
 refine zac mix zx8 _ rfl rfl (Tab.ok (l := [(218, zoR)]) ⟨zwi, trivial⟩) noL noJ ?_
 repeat' ((conv => whnf); first
  | exact trivial
  | with_reducible first | refine aj ?_ | refine ai rfl ?_ | refine ai ⟨rfl, rfl⟩ ?_
  | ((with_reducible refine ai ?_ ?_); first | focus (exact ⟨trivial, trivial, trivial⟩) | focus (simp [zai.len]; done))
  | with_reducible first | refine And.intro ?_ ?_ | refine zae ?_ | refine exI (i64_in (by omega) (by omega)) ?_
  | refine exI (x := ULift.up _) (Eq.refl _) ?_
  | refine exI (x := ULift.up _) ⟨rfl, by omega, Eq.refl _⟩ ?_
  | ((with_reducible intro h); first | exact absurd h (by decide) | (exfalso; revert h; simp; done))
  | with_reducible intro _)
 all_goals (refine Sd.mk ?_; grind)
def zum  : zaa := ⟨[.val (.slice none 0 0), kz 0], [], [], [], .ff⟩
theorem zC6  : zaa.ok Tryz.prog GG 192 (zum ) := by
 refine zac mix zx8 _ rfl rfl (Tab.ok (l := [(218, zoR)]) ⟨zwi, trivial⟩) noL noJ ?_
 repeat' ((conv => whnf); first
  | exact trivial
  | with_reducible first | refine aj ?_ | refine ai rfl ?_ | refine ai ⟨rfl, rfl⟩ ?_
  | ((with_reducible refine ai ?_ ?_); first | focus (exact ⟨trivial, trivial, trivial⟩) | focus (simp [zai.len]; done))
  | with_reducible first | refine And.intro ?_ ?_ | refine zae ?_ | refine exI (i64_in (by omega) (by omega)) ?_
  | refine exI (x := ULift.up _) (Eq.refl _) ?_
  | refine exI (x := ULift.up _) ⟨rfl, by omega, Eq.refl _⟩ ?_
  | ((with_reducible intro h); first | exact absurd h (by decide) | (exfalso; revert h; simp; done))
  | with_reducible intro _)
noncomputable def zpE : SFn
 | [a0, a1], k => zcu a0 fun l => match l with
   | [] => k zum
   | [[.int .i64 frm]] => k (zza frm)
   | _ => .fail
 | _, _ => .fail
theorem zAN : FnS Tryz.prog GG 192 zpE := by
 intro args k gt go R v os n h
 unfold zpE at h
 split at h
 . obtain ⟨l, _, h⟩ := zbn h
   split at h
   . exact ⟨_, _, zC6, h⟩
   . exact ⟨_, _, zEA _, h⟩
   . cases h
 . cases h
def zs7 (op frm ty : Int) : Int := if tyF frm = 0 then 0 else unF op (tyF frm) ty
def zAM (op : Int) (frm : Int) (ty : Int) : zaa := ⟨[.rd (.sl 1 [ipv frm]), .agg [kz 3, kz ty, kz op, kz 0, .rd (.sl 6 [znI])]], [], [], [], kz (zs7 op frm ty)⟩
set_option maxHeartbeats 40000000 in
theorem zDQ (op : Int) (frm : Int) (ty : Int) : zaa.ok Tryz.prog GG 173 (zAM op frm ty) := by
 refine zac mix zwS _ rfl rfl (Tab.ok (l := [(191, zo7), (192, zpE), (193, zng), (194, zoU), (195, zps)]) ⟨zAX, zAN, zrb, zyM, zwy, trivial⟩) noL noJ ?_
 repeat' ((conv => whnf); first
  | exact trivial
  | with_reducible first | refine aj ?_ | refine ai rfl ?_ | refine ai ⟨rfl, rfl⟩ ?_
  | ((with_reducible refine ai ?_ ?_); first | focus (exact ⟨trivial, trivial, trivial⟩) | focus (simp [zai.len]; done))
  | with_reducible first | refine And.intro ?_ ?_ | refine zae ?_ | refine exI (i64_in (by omega) (by omega)) ?_
  | refine exI (x := ULift.up _) (Eq.refl _) ?_
  | refine exI (x := ULift.up _) ⟨rfl, by omega, Eq.refl _⟩ ?_
  | ((with_reducible intro h); first | exact absurd h (by decide) | (exfalso; revert h; simp; done))
  | with_reducible refine exI (x := ULift.up _) ⟨rfl, by omega, rfl⟩ ?_
  | with_reducible intro _)
 all_goals (refine Sd.mk ?_; (try simp only [zs7]); grind)
def zuj (off : Int) (ty : Int) : zaa := ⟨[.val (.slice none 0 0), .agg [kz 2, kz ty, kz 0, kz off, .val (.slice none 0 0)]], [], [], [], kz (ziV (zkw off ty) ty)⟩
set_option maxHeartbeats 40000000 in
theorem zCm (off : Int) (ty : Int) : zaa.ok Tryz.prog GG 173 (zuj off ty) := by
 refine zac mix zwS _ rfl rfl (Tab.ok (l := [(191, zo7), (192, zpE), (193, zng), (194, zoU), (195, zps)]) ⟨zAX, zAN, zrb, zyM, zwy, trivial⟩) noL noJ ?_
 repeat' ((conv => whnf); first
  | exact trivial
  | with_reducible first | refine aj ?_ | refine ai rfl ?_ | refine ai ⟨rfl, rfl⟩ ?_
  | ((with_reducible refine ai ?_ ?_); first | focus (exact ⟨trivial, trivial, trivial⟩) | focus (simp [zai.len]; done))
  | with_reducible first | refine And.intro ?_ ?_ | refine zae ?_ | refine exI (i64_in (by omega) (by omega)) ?_
  | refine exI (x := ULift.up _) (Eq.refl _) ?_
  | refine exI (x := ULift.up _) ⟨rfl, by omega, Eq.refl _⟩ ?_
  | ((with_reducible intro h); first | exact absurd h (by decide) | (exfalso; revert h; simp; done))
  | with_reducible intro _)
 all_goals (refine Sd.mk ?_; grind)
noncomputable def zpJ : SFn
 | [a0, .agg [_, .int .i64 ty, .int .i64 op, .int .i64 off, _]], k => zcu a0 fun l => match l with
   | [] => k (zuj off ty)
   | [[.int .i64 frm]] => k (zAM op frm ty)
   | _ => .fail
 | _, _ => .fail
theorem zzV : FnS Tryz.prog GG 173 zpJ := by
 intro args k gt go R v os n h
 unfold zpJ at h
 split at h
 . obtain ⟨l, _, h⟩ := zbn h
   split at h
   . exact ⟨_, _, zCm _ _, h⟩
   . exact ⟨_, _, zDQ _ _ _, h⟩
   . cases h
 . cases h
end
section
def zDO : MC := .seq (.reg [oo 4 (.mv kf)]) (.seq (.reg [om 5 0,om 6 1,oo 7 (.bld [(kz 0),(kz 0),(kz 0),(kz 0),(.val (.slice none 0 0))] [(0,1,(ki 2)),(1,1,(.t 5)),(3,1,(.t 6))]),oo 8 (fc 173 [(.k (.val (.slice none 0 0))),(.t 7)]),om 9 0,oo 10 (ct .eql 8 9),sm 11 10,mt 11 12 0,gt_ 11 13 (cc .neq 12 0),oo 14 (pf 11 13),om 4 14]) (.ret))
theorem zGE : zan Tryz.prog 147 15 zDO [.t 4] := fk Tryz.func147 ⟨tv,⟨tv,tv⟩⟩
def zGb : MC := .seq (.reg [oo 1 (.box (.t 0)),oo 2 (.mv kf)]) (.seq (.seq (.reg [oo 3 (fl 1 1),oo 4 (ln 3),oo 5 (fc 144 [(.t 4),(ki 1),(ki 7)]),oo 6 (.not (.t 5)),sm 7 6,gf 7 8 (fl 2 1),gf 7 9 (ln 8),gf 7 10 (cc .eql 9 128),oo 11 (pt 7 10),sm 12 11,gf 12 13 (fl 3 1),gf 12 14 (ln 13),gf 12 15 (cc .eql 14 128),oo 16 (pt 12 15)]) (.cond (.t 16) (.seq (.reg [oo 2 (.mv kf)]) (.ret)) (.skip))) (.seq (.reg [oo 17 (fl 2 1),oo 18 (ln 17),oo 19 (.bsl 1 1 [(kz 0)] [(0,(.t 18))]),oo 20 (fl 1 1),oo 21 (ln 20),oo 22 (fl 3 1),oo 23 (ln 22),oo 24 (.bld [(kz 0),(kz 0),(.int .u32 0),(.int .u32 0),(.int .u32 0),(.int .u32 0)] []),oo 25 (.bsl 6 1 [(kz 0),(kz 0),(.int .u32 0),(.int .u32 0),(.int .u32 0),(.int .u32 0)] [(0,(.t 24))]),oo 26 (.bld [(kz 0),(kz 0),(kz 0),(kz 0),(.val (.slice none 0 0))] [(0,1,(ki 3)),(2,1,(.t 21)),(1,1,(.t 23)),(4,1,(.t 25))]),oo 27 (fc 173 [(.t 19),(.t 26)]),oo 28 (cc .neq 27 0),om 2 28]) (.ret)))
theorem zFR : zan Tryz.prog 145 29 zGb [.t 2] := fk Tryz.func145 ⟨tv,⟨⟨tv,⟨⟨tv,tv⟩,tv⟩⟩,⟨tv,tv⟩⟩⟩
def zIU : MC := .seq (.reg [oo 2 (.box (.t 0)),oo 3 (.box (.t 1)),oo 4 (.mv kf)]) (.seq (.seq (.reg [oo 5 (fl 2 2),oo 6 (ln 5)]) (.blk 0 (.seq (.reg [oo 8 (cc .eql 6 1),om 7 8]) (.cond (.t 7) (.seq (.reg [oo 9 (fl 1 3),oo 10 (ln 9),oo 11 (fc 144 [(.t 10),(ki 1),(ki 19)]),om 4 11]) (.ret)) (.seq (.reg [oo 13 (cc .eql 6 2),om 12 13]) (.cond (.t 12) (.seq (.reg [oo 14 (ls 15 3),oo 15 (fc 145 [(.t 14)]),om 4 15]) (.ret)) (.seq (.reg [oo 17 (cc .eql 6 3),om 16 17]) (.cond (.t 16) (.seq (.reg [oo 18 (fl 1 3),oo 19 (ln 18),oo 20 (fc 144 [(.t 19),(ki 8),(ki 10)]),sm 21 20,gf 21 22 (fl 1 3),gf 21 23 (ln 22),gf 21 24 (fc 144 [(.t 23),(ki 20),(ki 29)]),oo 25 (pt 21 24),om 4 25]) (.ret)) (.seq (.reg [oo 27 (cc .eql 6 4),om 26 27]) (.cond (.t 26) (.seq (.reg [oo 28 (fl 1 3),oo 29 (ln 28),oo 30 (cc .eql 29 1),sm 31 30,gf 31 32 (fl 1 3),gf 31 33 (ln 32),gf 31 34 (fc 144 [(.t 33),(ki 8),(ki 10)]),oo 35 (pt 31 34),om 4 35]) (.ret)) (.seq (.reg [oo 37 (cc .eql 6 5),om 36 37]) (.cond (.t 36) (.seq (.reg [oo 38 (fl 1 3),oo 39 (ln 38),oo 40 (cc .eql 39 14),sm 41 40,gf 41 42 (fl 1 3),gf 41 43 (ln 42),gf 41 44 (cc .eql 43 15),oo 45 (pt 41 44),om 4 45]) (.ret)) (.seq (.reg [oo 47 (cc .eql 6 6),om 46 47]) (.cond (.t 46) (.seq (.reg [oo 48 (fl 8 3),oo 49 (ln 48),oo 50 (fc 144 [(.t 49),(ki 0),(ki 3)]),om 4 50]) (.ret)) (.seq (.reg [oo 52 (cc .eql 6 7),om 51 52]) (.cond (.t 51) (.seq (.reg [oo 53 (fl 3 3),oo 54 (ln 53),oo 55 (fc 146 [(.t 54)]),sm 56 55,gt_ 56 57 (fl 3 3),gt_ 56 58 (ln 57),gt_ 56 59 (fl 8 3),gt_ 56 60 (ln 59),gt_ 56 61 (fc 147 [(.t 58),(.t 60)]),oo 62 (pf 56 61),om 4 62]) (.ret)) (.seq (.reg [oo 64 (cc .eql 6 8),om 63 64]) (.cond (.t 63) (.seq (.reg [oo 65 (fl 8 3),oo 66 (ln 65),oo 67 (fc 147 [(ki 128),(.t 66)]),om 4 67]) (.ret)) (.seq (.reg [oo 69 (cc .eql 6 9),om 68 69]) (.cond (.t 68) (.seq (.reg [oo 70 (fl 3 3),oo 71 (ln 70),oo 72 (fc 146 [(.t 71)]),om 4 72]) (.ret)) (.seq (.reg [oo 74 (cc .eql 6 10),om 73 74]) (.cond (.t 73) (.seq (.reg [oo 75 (fl 3 3),oo 76 (ln 75),oo 77 (fc 146 [(.t 76)]),sm 78 77,gf 78 79 (fl 3 3),gf 78 80 (ln 79),gf 78 81 (cc .eql 80 128),oo 82 (pt 78 81),om 4 82]) (.ret)) (.seq (.reg [oo 84 (cc .eql 6 11),om 83 84]) (.cond (.t 83) (.seq (.reg [oo 85 (fl 8 3),oo 86 (ln 85),oo 87 (fc 144 [(.t 86),(ki 1),(ki 16)]),om 4 87]) (.ret)) (.seq (.reg [oo 89 (cc .eql 6 12),om 88 89]) (.cond (.t 88) (.seq (.reg [oo 90 (fl 1 3),oo 91 (ln 90),oo 92 (fc 144 [(.t 91),(ki 0),(ki 2)]),sm 93 92,gt_ 93 94 (fl 1 3),gt_ 93 95 (ln 94),gt_ 93 96 (cc .eql 95 0),ogs 93 true (some 97) (.mv (.t 96)),gf 97 98 (fl 7 3),gf 97 99 (ln 98),gf 97 100 (cc .eql 99 0),gt_ 93 101 (pt 97 100),oo 102 (pf 93 101),om 4 102]) (.ret)) (.seq (.reg [oo 104 (cc .eql 6 13),om 103 104]) (.cond (.t 103) (.seq (.reg [oo 105 (fl 8 3),oo 106 (ln 105),oo 107 (fc 144 [(.t 106),(ki 0),(ki 7)]),om 4 107]) (.ret)) (.seq (.reg [oo 109 (cc .eql 6 14),om 108 109]) (.cond (.t 108) (.seq (.reg [oo 110 (fl 1 3),oo 111 (ln 110),oo 112 (fc 144 [(.t 111),(ki 1),(ki 2)]),om 4 112]) (.ret)) (.seq (.reg [oo 114 (cc .eql 6 15),om 113 114])
 (.cond (.t 113) (.seq (.reg [oo 115 (fl 8 3),oo 116 (ln 115),oo 117 (fc 144 [(.t 116),(ki 0),(ki 8)]),sm 118 117,gt_ 118 119 (fl 9 3),gt_ 118 120 (ln 119),gt_ 118 121 (.cmp .leq (.t 120) (.k (.int .u32 1000000))),oo 122 (pf 118 121),om 4 122]) (.ret)) (.seq (.reg [oo 124 (cc .eql 6 16),om 123 124]) (.cond (.t 123) (.seq (.reg [oo 125 (fl 8 3),oo 126 (ln 125),oo 127 (cc .eql 126 4),sm 128 127,gf 128 129 (fl 8 3),gf 128 130 (ln 129),gf 128 131 (cc .eql 130 8),oo 132 (pt 128 131),om 4 132]) (.ret)) (.seq (.reg [oo 134 (cc .eql 6 17),om 133 134]) (.cond (.t 133) (.seq (.reg [oo 135 (fl 8 3),oo 136 (ln 135),oo 137 (fc 144 [(.t 136),(ki 1),(ki 9)]),om 4 137]) (.ret)) (.seq (.reg [oo 139 (cc .eql 6 18),om 138 139]) (.cond (.t 138) (.seq (.reg [oo 140 (fl 8 3),oo 141 (ln 140),oo 142 (fc 144 [(.t 141),(ki 0),(ki 511)]),om 4 142]) (.ret)) (.seq (.reg [oo 144 (cc .eql 6 19),om 143 144]) (.cond (.t 143) (.seq (.reg [oo 145 (fl 8 3),oo 146 (ln 145),oo 147 (fc 144 [(.t 146),(ki 0),(ki 508)]),sm 148 147,gt_ 148 149 (fl 8 3),gt_ 148 150 (ln 149),gt_ 148 151 (ac .rem 150 4),gt_ 148 152 (cc .eql 151 0),oo 153 (pf 148 152),om 4 153]) (.ret)) (.skip))))))))))))))))))))))))))))))))))))))))) (.seq (.reg [oo 4 (.mv kt)]) (.ret)))
theorem zHP : zan Tryz.prog 107 154 zIU [.t 4] := fk Tryz.func107 ⟨tv,⟨⟨tv,⟨tv,⟨⟨tv,tv⟩,⟨tv,⟨⟨tv,tv⟩,⟨tv,⟨⟨tv,tv⟩,⟨tv,⟨⟨tv,tv⟩,⟨tv,⟨⟨tv,tv⟩,⟨tv,⟨⟨tv,tv⟩,⟨tv,⟨⟨tv,tv⟩,⟨tv,⟨⟨tv,tv⟩,⟨tv,⟨⟨tv,tv⟩,⟨tv,⟨⟨tv,tv⟩,⟨tv,⟨⟨tv,tv⟩,⟨tv,⟨⟨tv,tv⟩,⟨tv,⟨⟨tv,tv⟩,⟨tv,⟨⟨tv,tv⟩,⟨tv,⟨⟨tv,tv⟩,⟨tv,⟨⟨tv,tv⟩,⟨tv,⟨⟨tv,tv⟩,⟨tv,⟨⟨tv,tv⟩,⟨tv,⟨⟨tv,tv⟩,tv⟩⟩⟩⟩⟩⟩⟩⟩⟩⟩⟩⟩⟩⟩⟩⟩⟩⟩⟩⟩⟩⟩⟩⟩⟩⟩⟩⟩⟩⟩⟩⟩⟩⟩⟩⟩⟩⟩⟩,⟨tv,tv⟩⟩⟩
def zj6 (ty off : Int) : Bool := decide (ziV (zkw off ty) ty = ty /\ ty ≠ 0)
def znG (sub frm ty : Int) : Bool := zbx sub 1 7 && decide (frm ≠ 128) && decide (ty ≠ 128) && decide (zs7 sub frm ty ≠ 0)
def zgV (rule : Int) (x : HI) : Bool :=
 if rule = 1 then zbx x.sub 1 19
 else if rule = 2 then znG x.sub x.frm x.ty
 else if rule = 3 then zbx x.sub 8 10 || zbx x.sub 20 29
 else if rule = 4 then decide (x.sub = 1) || zbx x.sub 8 10
 else if rule = 5 then decide (x.sub = 14 \/ x.sub = 15)
 else if rule = 6 then zbx x.k 0 3
 else if rule = 7 then zkc x.ty && zj6 x.ty x.k
 else if rule = 8 then zj6 128 x.k
 else if rule = 9 then zkc x.ty
 else if rule = 10 then zkc x.ty || decide (x.ty = 128)
 else if rule = 11 then zbx x.k 1 16
 else if rule = 12 then zbx x.sub 0 2 && decide (x.sub = 0 \/ x.c = 0)
 else if rule = 13 then zbx x.k 0 7
 else if rule = 14 then zbx x.sub 1 2
 else if rule = 15 then zbx x.k 0 8 && decide (x.i <= 1000000)
 else if rule = 16 then decide (x.k = 4 \/ x.k = 8)
 else if rule = 17 then zbx x.k 1 9
 else if rule = 18 then zbx x.k 0 511
 else if rule = 19 then zbx x.k 0 508 && decide (x.k.tmod 4 = 0)
 else true
def zAp (ty : Int) (off : Int) : zaa := ⟨[kz ty, kz off], [], [], [], .bool (zj6 ty off)⟩
theorem zIz (ty : Int) (off : Int) : zaa.ok Tryz.prog GG 147 (zAp ty off) := by
 refine zac mix zGE _ rfl rfl (Tab.ok (l := [(173, zpJ)]) ⟨zzV, trivial⟩) noL noJ ?_
 repeat' ((conv => whnf); first
  | exact trivial
  | with_reducible first | refine aj ?_ | refine ai rfl ?_ | refine ai ⟨rfl, rfl⟩ ?_
  | ((with_reducible refine ai ?_ ?_); focus exact w3)
  | with_reducible first | refine And.intro ?_ ?_ | refine zae ?_ | refine exI (i64_in (by omega) (by omega)) ?_
  | refine exI (x := ULift.up _) (Eq.refl _) ?_
  | refine exI (x := ULift.up _) ⟨rfl, by omega, Eq.refl _⟩ ?_
  | ((with_reducible intro h); first | exact absurd h (by decide) | (exfalso; revert h; simp; done))
  | with_reducible intro _)
 all_goals (refine Sd.mk ?_; (try simp only [zj6]); grind)
noncomputable def zrc : SFn
 | [a0, a1], k => asI a0 fun ty => asI a1 fun off => k (zAp ty off)
 | _, _ => .fail
theorem zH5 : FnS Tryz.prog GG 147 zrc := by
 intro args k gt go R v os n h
 unfold zrc at h
 split at h
 . obtain ⟨ty, _, h⟩ := zaU h
   obtain ⟨off, _, h⟩ := zaU h
   exact ⟨_, _, zIz ty off, h⟩
 . cases h
def zxK (x : HI) : zaa := ⟨[.agg x.cells], [], [], [], .bool (znG x.sub x.frm x.ty)⟩
theorem zEQ (x : HI) : zaa.ok Tryz.prog GG 145 (zxK x) := by
 refine zac mix zFR _ rfl rfl (Tab.ok (l := [(144, zpl), (173, zpJ)]) ⟨zx7, zzV, trivial⟩) noL noJ ?_
 repeat' ((conv => whnf); first
  | exact trivial
  | with_reducible first | refine aj ?_ | refine ai rfl ?_ | refine ai ⟨rfl, rfl⟩ ?_
  | ((with_reducible refine ai ?_ ?_); focus exact w3)
  | with_reducible first | refine And.intro ?_ ?_ | refine zae ?_ | refine exI (i64_in (by omega) (by omega)) ?_
  | refine exI (x := ULift.up _) (Eq.refl _) ?_
  | refine exI (x := ULift.up _) ⟨rfl, by omega, Eq.refl _⟩ ?_
  | ((with_reducible intro h); first | exact absurd h (by decide) | (exfalso; revert h; simp; done))
  | with_reducible intro _)
 all_goals (refine Sd.mk ?_; (try simp only [znG]); grind)
noncomputable def zsN : SFn
 | [a0], k => zdp a0 fun x => k (zxK x)
 | _, _ => .fail
theorem zE4 : FnS Tryz.prog GG 145 zsN := by
 intro args k gt go R v os n h
 unfold zsN at h
 split at h
 . obtain ⟨x, _, h⟩ := zbt h
   exact ⟨_, _, zEQ x, h⟩
 . cases h
def zA1 (f : FM) (x : HI) : zaa := ⟨[.agg f.cells, .agg x.cells], [], [], [], .bool (zgV f.rule x)⟩
set_option maxHeartbeats 40000000 in
theorem zIw (f : FM) (x : HI) : zaa.ok Tryz.prog GG 107 (zA1 f x) := by
 refine zac mix zHP _ rfl rfl (Tab.ok (l := [(144, zpl), (145, zsN), (146, zs1), (147, zrc)]) ⟨zx7, zE4, zIe, zH5, trivial⟩) noL noJ ?_
 repeat' ((conv => whnf); first
  | exact trivial
  | with_reducible first | refine aj ?_ | refine ai rfl ?_ | refine ai ⟨rfl, rfl⟩ ?_
  | ((with_reducible refine ai ?_ ?_); focus exact w3)
  | with_reducible first | refine And.intro ?_ ?_ | refine zae ?_ | refine exI (i64_in (by omega) (by omega)) ?_
  | refine exI (x := ULift.up _) (Eq.refl _) ?_
  | refine exI (x := ULift.up _) ⟨rfl, by omega, Eq.refl _⟩ ?_
  | ((with_reducible intro h); first | exact absurd h (by decide) | (exfalso; revert h; simp; done))
  | with_reducible intro _)
 all_goals (refine Sd.mk ?_; (try simp only [zgV]); grind)
noncomputable def zte : SFn
 | [a0, a1], k => zjv a0 fun f => zdp a1 fun x => k (zA1 f x)
 | _, _ => .fail
theorem zGC : FnS Tryz.prog GG 107 zte := by
 intro args k gt go R v os n h
 unfold zte at h
 split at h
 . obtain ⟨f, _, h⟩ := zfS h
   obtain ⟨x, _, h⟩ := zbt h
   exact ⟨_, _, zIw f x, h⟩
 . cases h
end
section
def c58 : MC := .seq (.reg [oo 1 (.box (.t 0)),oo 2 (.mv kf)]) (.seq (.reg [oo 6 (fl 0 1),oo 7 (ln 6),oo 8 (fc 80 [(.t 7)]),om 5 8,oo 9 (ex_ 0 5),oo 10 (ex_ 1 5),oo 3 (.alloc [(.str ⟨#[]⟩),(kz 0),(kz 0)]),o none (.st (some 3) (.t 3) (.t 9)),om 4 10]) (.seq (.drw [om 11 4,sm 12 11,gt_ 12 13 (ls 3 3),gt_ 12 14 (ls 15 1),gt_ 12 15 (fc 106 [(.t 13),(.t 14)]),gt_ 12 16 (ls 15 1),gt_ 12 17 (.eqs [.int .i64,.int .i64,.int .i64,.int .i64,.int .i64,.int .i64,.int .i64,.int .i64,.int .i64,.int .u32,.int .u32,.int .u32,.int .u32,.int .u32,.int .u32] false (.t 15) (.t 16)),oo 18 (pf 12 17),sm 19 18,gt_ 19 20 (fl 4 1),gt_ 19 21 (ln 20),gt_ 19 22 (cc .geq 21 0),oo 23 (pf 19 22),sm 24 23,gt_ 24 25 (fl 5 1),gt_ 24 26 (ln 25),gt_ 24 27 (cc .geq 26 0),oo 28 (pf 24 27),sm 29 28,gt_ 29 30 (fl 6 1),gt_ 29 31 (ln 30),gt_ 29 32 (cc .geq 31 0),oo 33 (pf 29 32),sm 34 33,gt_ 34 35 (fl 7 1),gt_ 34 36 (ln 35),gt_ 34 37 (cc .geq 36 0),oo 38 (pf 34 37),sm 39 38,gt_ 39 40 (ls 3 3),gt_ 39 41 (ls 15 1),gt_ 39 42 (fc 107 [(.t 40),(.t 41)]),oo 43 (pf 39 42),om 2 43] [[],[0],[1],[1],[2,3,1,1],[1],[4,5,1],[1,6],[7,4],[8],[9,8],[10,8],[8,11],[12,8],[13],[14,13],[15,13],[13,16],[17,13],[18],[19,18],[20,18],[18,21],[22,18],[23],[24,23],[25,23],[23,26],[27,23],[28],[28],[29,30,28,28],[28,31],[32,31,0,1,2,3,4,5,6,7,8,9,10,11,12,13,14,15,16,17,18,19,20,21,22,23,24,25,26,27,28,29,30,31,32]]) (.ret)))
theorem k58 : zan Tryz.prog 58 44 c58 [.t 2] := fk Tryz.func58 ⟨tv,⟨tv,⟨tv,tv⟩⟩⟩
theorem HI.eq_iff (x y : HI) : x = y ↔ x.op = y.op /\ x.sub = y.sub /\ x.frm = y.frm /\ x.ty = y.ty /\ x.d = y.d /\ x.a = y.a /\ x.b = y.b /\ x.c = y.c /\ x.k = y.k /\ x.i = y.i /\ x.ch = y.ch /\ x.v0 = y.v0 /\ x.v1 = y.v1 /\ x.v2 = y.v2 /\ x.v3 = y.v3 := by
 cases x; cases y; simp
theorem HI.eta (x : HI) : HI.mk x.op x.sub x.frm x.ty x.d x.a x.b x.c x.k x.i x.ch x.v0 x.v1 x.v2 x.v3 = x := rfl
theorem FM.eta (x : FM) : FM.mk x.name x.fields x.rule = x := rfl
def znH (x : HI) : Bool := decide (zcs (zbd x.op).1 x = x)
def zb2 (x : HI) : Bool := (zbd x.op).2 && znH x && decide (0 <= x.d) && decide (0 <= x.a) && decide (0 <= x.b) && decide (0 <= x.c) && zgV (zbd x.op).1.rule x
theorem zpH (x : HI) : znH x = true ↔ (zcs (zbd x.op).1 x).op = x.op /\ (zcs (zbd x.op).1 x).sub = x.sub /\ (zcs (zbd x.op).1 x).frm = x.frm /\ (zcs (zbd x.op).1 x).ty = x.ty /\ (zcs (zbd x.op).1 x).d = x.d /\ (zcs (zbd x.op).1 x).a = x.a /\ (zcs (zbd x.op).1 x).b = x.b /\ (zcs (zbd x.op).1 x).c = x.c /\ (zcs (zbd x.op).1 x).k = x.k /\ (zcs (zbd x.op).1 x).i = x.i /\ (zcs (zbd x.op).1 x).ch = x.ch /\ (zcs (zbd x.op).1 x).v0 = x.v0 /\ (zcs (zbd x.op).1 x).v1 = x.v1 /\ (zcs (zbd x.op).1 x).v2 = x.v2 /\ (zcs (zbd x.op).1 x).v3 = x.v3 /\ True := by
 unfold znH
 rw [decide_eq_true_iff, HI.eq_iff]
 simp only [and_true]
def L58 (x : HI) : zaa := ⟨[.agg x.cells], [], [], [], .bool (zb2 x)⟩
set_option maxHeartbeats 40000000 in
theorem s58 (x : HI) : zaa.ok Tryz.prog GG 58 (L58 x) := by
 refine zac mix k58 _ rfl rfl (Tab.ok (l := [(80, S80), (106, zr4), (107, zte)]) ⟨t80, zEZ, zGC, trivial⟩) noL noJ ?_
 repeat' ((conv => whnf); first
  | exact trivial
  | with_reducible first | refine aj ?_ | refine ai rfl ?_ | refine ai ⟨rfl, rfl⟩ ?_
  | ((with_reducible refine ai ?_ ?_); focus exact w3)
  | with_reducible first | refine And.intro ?_ ?_ | refine zae ?_ | refine exI (i64_in (by omega) (by omega)) ?_
  | refine exI (x := ULift.up _) (Eq.refl _) ?_
  | refine exI (x := ULift.up _) ⟨rfl, by omega, Eq.refl _⟩ ?_
  | ((with_reducible intro h); first | exact absurd h (by decide) | (exfalso; revert h; simp; done))
  | ((with_reducible refine ai ?_ ?_); first | focus (exact ⟨_, rfl⟩))
  | with_reducible intro _)
 all_goals (refine Sd.mk ?_; have hb := zpH x; simp only [zcs] at hb; (try simp only [HI.eta, FM.eta] at *); (try simp only [zb2]); grind)
noncomputable def S58 : SFn
 | [a0], k => zdp a0 fun x => k (L58 x)
 | _, _ => .fail
theorem t58 : FnS Tryz.prog GG 58 S58 := by
 intro args k gt go R v os n h
 unfold S58 at h
 split at h
 . obtain ⟨x, _, h⟩ := zbt h
   exact ⟨_, _, s58 x, h⟩
 . cases h
end
section
def c33 : MC := .seq (.reg [oo 1 (.box (.t 0)),oo 2 (.alloc [.ff,(kz 0)]),oo 3 (.mv kf)]) (.seq (.reg [oo 7 (fl 0 1),oo 8 (ln 7),oo 9 (fc 80 [(.t 8)]),om 6 9,oo 10 (ex_ 0 6),oo 11 (ex_ 1 6),oo 4 (.alloc [(.str ⟨#[]⟩),(kz 0),(kz 0)]),o none (.st (some 3) (.t 4) (.t 10)),om 5 11]) (.seq (.seq (.reg [oo 12 (ls 15 1),oo 13 (fc 58 [(.t 12)]),oo 14 (.not (.t 13)),sm 15 14,gf 15 16 (ls 3 4),gf 15 17 (fc 81 [(.t 16),(ki 8)]),gf 15 18 (.not (.t 17)),oo 19 (pt 15 18)]) (.cond (.t 19) (.seq (.reg [oo 20 (.bld [.ff,(kz 0)] []),o none (.st (some 2) (.t 2) (.t 20)),oo 3 (.mv kf)]) (.ret)) (.skip))) (.seq (.drw [oo 21 (ls 3 4),oo 22 (fc 81 [(.t 21),(ki 2048)]),oo 23 (fl 4 1),oo 24 (ln 23),oo 25 (.bld [.ff,(kz 0)] [(0,1,(.t 22)),(1,1,(.t 24))]),o none (.st (some 2) (.t 2) (.t 25)),oo 3 (.mv kt)] [[],[0],[],[2],[1,3],[4,1,0,1,2,3,4],[5,0,1,2,3,4,5]]) (.ret))))
theorem k33 : zan Tryz.prog 33 26 c33 [.c 2 (some 2),.t 3] := fk Tryz.func33 ⟨tv,⟨tv,⟨⟨tv,⟨⟨tv,tv⟩,tv⟩⟩,⟨tv,tv⟩⟩⟩⟩
def c82 : MC := .seq (.reg [oo 2 (.box (.t 0)),oo 4 (.mv (.k (.val (.slice none 0 0))))]) (.seq (.reg [oo 5 (.mv (.k (.val (.slice none 0 0))))]) (.seq (.seq (.reg [oo 6 (ls 3 2),oo 7 (fc 81 [(.t 6),(ki 16)])]) (.cond (.t 7) (.drw [om 8 5,om 9 1,oo 10 (.nchk (.t 9)),oo 11 (fl 5 10),oo 12 (ls 3 2),oo 13 (fc 81 [(.t 12),(ki 4096)]),oo 14 (.bld [(.val (.pointer none)),.ff] [(0,1,(.t 11)),(1,1,(.t 13))]),oo 15 (.bsl 2 1 [(.val (.pointer none)),.ff] [(0,(.t 14))]),oo 16 (.app 2 16 (.t 8) (.t 15)),om 5 16] [[],[],[1],[2],[],[4],[3,5],[6],[0,7,5],[8,8,0,1,2,3,4,5,6,7,8]]) (.skip))) (.seq (.seq (.reg [oo 17 (ls 3 2),oo 18 (fc 81 [(.t 17),(ki 32)])]) (.cond (.t 18) (.drw [om 19 5,om 20 1,oo 21 (.nchk (.t 20)),oo 22 (fl 6 21),oo 23 (ls 3 2),oo 24 (fc 81 [(.t 23),(ki 8192)]),oo 25 (.bld [(.val (.pointer none)),.ff] [(0,1,(.t 22)),(1,1,(.t 24))]),oo 26 (.bsl 2 1 [(.val (.pointer none)),.ff] [(0,(.t 25))]),oo 27 (.app 2 16 (.t 19) (.t 26)),om 5 27] [[],[],[1],[2],[],[4],[3,5],[6],[0,7,5],[8,8,0,1,2,3,4,5,6,7,8]]) (.skip))) (.seq (.seq (.reg [oo 28 (ls 3 2),oo 29 (fc 81 [(.t 28),(ki 64)]),sm 30 29,gt_ 30 31 (fl 2 2),gt_ 30 32 (ln 31),gt_ 30 33 (cc .neq 32 12),ogs 30 true (some 34) (.mv (.t 33)),mf 34 35 1,gf 34 36 (.nchk (.t 35)),gf 34 37 (fl 1 36),gf 34 38 (ln 37),gf 34 39 (cc .eql 38 0),gt_ 30 40 (pt 34 39),oo 41 (pf 30 40)]) (.cond (.t 41) (.drw [om 42 5,om 43 1,oo 44 (.nchk (.t 43)),oo 45 (fl 7 44),oo 46 (ls 3 2),oo 47 (fc 81 [(.t 46),(ki 16384)]),oo 48 (.bld [(.val (.pointer none)),.ff] [(0,1,(.t 45)),(1,1,(.t 47))]),oo 49 (.bsl 2 1 [(.val (.pointer none)),.ff] [(0,(.t 48))]),oo 50 (.app 2 16 (.t 42) (.t 49)),om 5 50] [[],[],[1],[2],[],[4],[3,5],[6],[0,7,5],[8,8,0,1,2,3,4,5,6,7,8]]) (.skip))) (.seq (.reg [om 51 5,om 4 51]) (.ret))))))
theorem k82 : zan Tryz.prog 82 52 c82 [.t 4] := fk Tryz.func82 ⟨tv,⟨tv,⟨⟨tv,⟨tv,tv⟩⟩,⟨⟨tv,⟨tv,tv⟩⟩,⟨⟨tv,⟨tv,tv⟩⟩,⟨tv,tv⟩⟩⟩⟩⟩⟩
def ff (x : HI) (b : Int) : Bool := zcH (zbd x.op).1.fields b
def zag (x : HI) : HR × Bool := if zb2 x = true /\ ff x 8 = true then (⟨ff x 2048, x.d⟩, true) else (⟨false, 0⟩, false)
def L33 (x : HI) : zaa := ⟨[.agg x.cells], [], [], [], .tup [.agg (zag x).1.cells, .bool (zag x).2]⟩
set_option maxHeartbeats 40000000 in
theorem s33 (x : HI) : zaa.ok Tryz.prog GG 33 (L33 x) := by
 refine zac mix k33 _ rfl rfl (Tab.ok (l := [(80, S80), (58, S58), (81, S81)]) ⟨t80, t58, t81, trivial⟩) noL noJ ?_
 repeat' ((conv => whnf); first
  | exact trivial
  | with_reducible first | refine aj ?_ | refine ai rfl ?_ | refine ai ⟨rfl, rfl⟩ ?_
  | ((with_reducible refine ai ?_ ?_); focus exact w3)
  | with_reducible first | refine And.intro ?_ ?_ | refine zae ?_ | refine exI (i64_in (by omega) (by omega)) ?_
  | refine exI (x := ULift.up _) (Eq.refl _) ?_
  | refine exI (x := ULift.up _) ⟨rfl, by omega, Eq.refl _⟩ ?_
  | ((with_reducible intro h); first | exact absurd h (by decide) | (exfalso; revert h; simp; done))
  | with_reducible intro _)
 all_goals (refine Sd.mk ?_; (try simp only [HI.eta, FM.eta] at *); (try simp only [zag, ff]); grind)
noncomputable def S33 : SFn
 | [a0], k => zdp a0 fun x => k (L33 x)
 | _, _ => .fail
theorem t33 : FnS Tryz.prog GG 33 S33 := by
 intro args k gt go R v os n h
 unfold S33 at h
 split at h
 . obtain ⟨x, _, h⟩ := zbt h
   exact ⟨_, _, s33 x, h⟩
 . cases h
def rdA (x : HI) : List SV := [.ptr 0 0 5, .bool (ff x 4096)]
def rdB (x : HI) : List SV := [.ptr 0 0 6, .bool (ff x 8192)]
def rdC (x : HI) : List SV := [.ptr 0 0 7, .bool (ff x 16384)]
def ffC (x : HI) : Bool := ff x 64 && (decide ((zbd x.op).1.rule ≠ 12) || decide (x.sub = 0))
def rdL (x : HI) : Bool -> Bool -> Bool -> List (List SV)
 | false, false, false => []
 | true, false, false => [rdA x]
 | false, true, false => [rdB x]
 | true, true, false => [rdA x, rdB x]
 | false, false, true => [rdC x]
 | true, false, true => [rdA x, rdC x]
 | false, true, true => [rdB x, rdC x]
 | true, true, true => [rdA x, rdB x, rdC x]
def rdN : Bool -> Bool -> Bool -> Nat
 | false, false, false => 0
 | true, false, false => 1
 | false, true, false => 1
 | true, true, false => 2
 | false, false, true => 1
 | true, false, true => 2
 | false, true, true => 2
 | true, true, true => 3
def L82 (x : HI) (ha hb hc : Bool) : zaa := ⟨[.agg (zbd x.op).1.cells, .ptr 0 0 0], [.row x.cells], [some (.row x.cells)], [.arr 2 (rdL x ha hb hc)], .slc 1 0 (rdN ha hb hc)⟩
set_option maxHeartbeats 40000000 in
theorem s82 (x : HI) (ha hb hc : Bool) (h1 : ff x 16 = ha) (h2 : ff x 32 = hb) (h3 : ffC x = hc) : zaa.ok Tryz.prog GG 82 (L82 x ha hb hc) := by
 cases ha <;> cases hb <;> cases hc
 all_goals
  refine zac mix k82 _ rfl rfl (Tab.ok (l := [(81, S81)]) ⟨t81, trivial⟩) noL noJ ?_
  repeat' ((conv => whnf); first
   | exact trivial
   | with_reducible refine And.intro (Sd.mk (by with_reducible rfl)) ?_
   | with_reducible refine And.intro (Sd.mk ⟨by with_reducible rfl, by with_reducible rfl⟩) ?_
   | with_reducible refine And.intro (Sd.mk (show zbH _ _ = true by kernel_rfl)) ?_
   | with_reducible refine And.intro (Sd.mk rfl) ?_
   | with_reducible refine And.intro (Sd.mk ⟨rfl, rfl⟩) ?_
   | with_reducible refine And.intro (Sd.mk (by decide)) ?_
   | with_reducible refine And.intro (Sd.mk (by omega)) ?_
   | ((with_reducible refine And.intro (Sd.mk ?_) ?_); focus (exact ⟨trivial, trivial, trivial⟩))
   | ((with_reducible refine And.intro (Sd.mk ?_) ?_); focus (refine ⟨rfl, ?_⟩; simp; done))
   | ((with_reducible refine And.intro (Sd.mk ?_) ?_); focus (simp [zai.len]; done))
   | with_reducible refine And.intro ?_ ?_
   | with_reducible refine zae ?_
   | with_reducible refine exI (i64_in (by omega) (by omega)) ?_
   | refine exI (x := ULift.up _) (Eq.refl _) ?_
   | refine exI (x := ULift.up _) ⟨rfl, by omega, Eq.refl _⟩ ?_
   | ((with_reducible intro h); exact absurd h (by decide))
   | ((with_reducible intro h); exfalso; revert h; simp; done)
   | ((with_reducible intro h); exact Bool.noConfusion (h.symm.trans h1))
   | ((with_reducible intro h); exact Bool.noConfusion (h.symm.trans h2))
   | with_reducible intro _)
  all_goals first
   | exact Sd.mk ⟨rfl, rfl, rfl⟩
   | (refine Sd.mk ?_; (try simp only [HI.eta, FM.eta] at *); (try simp only [ff, ffC] at *); grind)
   | (exfalso; (try simp only [HI.eta, FM.eta] at *); (try simp only [ff, ffC] at *); grind)
noncomputable def S82 : SFn
 | [a0, .ptr a _ _], k => zjv a0 fun f => zbk a fun r => zdp r fun x => .req (f = (zbd x.op).1)
  (.split (ff x 16 = true) (.split (ff x 32 = true) (.split (ffC x = true) (k (L82 x true true true)) (k (L82 x true true false))) (.split (ffC x = true) (k (L82 x true false true)) (k (L82 x true false false))))
   (.split (ff x 32 = true) (.split (ffC x = true) (k (L82 x false true true)) (k (L82 x false true false))) (.split (ffC x = true) (k (L82 x false false true)) (k (L82 x false false false)))))
 | _, _ => .fail
theorem t82 : FnS Tryz.prog GG 82 S82 := by
 intro args k gt go R v os n h
 unfold S82 at h
 split at h
 . obtain ⟨f, _, h⟩ := zfS h
   obtain ⟨r, _, h⟩ := zaR h
   obtain ⟨x, _, h⟩ := zbt h
   obtain ⟨hf, _, h⟩ := zar h
   cases h with
   | left h1 h => cases h with
     | left h2 h => cases h with
       | left h3 h => exact ⟨_, _, s82 x _ _ _ h1 h2 h3, h⟩
       | right h3 h => exact ⟨_, _, s82 x _ _ _ h1 h2 (by simpa using h3), h⟩
     | right h2 h => cases h with
       | left h3 h => exact ⟨_, _, s82 x _ _ _ h1 (by simpa using h2) h3, h⟩
       | right h3 h => exact ⟨_, _, s82 x _ _ _ h1 (by simpa using h2) (by simpa using h3), h⟩
   | right h1 h => cases h with
     | left h2 h => cases h with
       | left h3 h => exact ⟨_, _, s82 x _ _ _ (by simpa using h1) h2 h3, h⟩
       | right h3 h => exact ⟨_, _, s82 x _ _ _ (by simpa using h1) h2 (by simpa using h3), h⟩
     | right h2 h => cases h with
       | left h3 h => exact ⟨_, _, s82 x _ _ _ (by simpa using h1) (by simpa using h2) h3, h⟩
       | right h3 h => exact ⟨_, _, s82 x _ _ _ (by simpa using h1) (by simpa using h2) (by simpa using h3), h⟩
 . cases h
end
section
def c34 : MC := .seq (.reg [oo 1 (.box (.t 0)),oo 2 (.mv (.k (.val (.slice none 0 0))))]) (.seq (.reg [oo 3 (.mv (.k (.val (.slice none 0 0))))]) (.seq (.seq (.reg [oo 8 (ls 15 1),oo 9 (fc 58 [(.t 8)]),oo 10 (.not (.t 9))]) (.cond (.t 10) (.seq (.reg [oo 2 (.mv (.k (.val (.slice none 0 0))))]) (.ret)) (.skip))) (.seq (.reg [oo 12 (fl 0 1),oo 13 (ln 12),oo 14 (fc 80 [(.t 13)]),om 11 14,oo 15 (ex_ 0 11),oo 16 (ex_ 1 11),oo 4 (.alloc [(.str ⟨#[]⟩),(kz 0),(kz 0)]),o none (.st (some 3) (.t 4) (.t 15)),om 5 16]) (.seq (.seq (.reg [oo 17 (ls 3 4),oo 18 (fc 82 [(.t 17),(.t 1)]),oo 19 (.lenS (.t 18)),oo 20 (.mv (ki 0))]) (.blk 0 (.loop 0 (.seq (.reg [oo 21 (ct .lss 20 19)]) (.seq (.cond (.t 21) (.skip) (.exit 0)) (.seq (.blk 1 (.seq (.reg [oo 22 (ia 2 18 20),oo 23 (ls 2 22),oo 7 (.alloc [(.val (.pointer none)),.ff]),o none (.st (some 2) (.t 7) (.t 23))]) (.drw [om 24 3,oo 25 (fl 1 7),oo 26 (ln 25),oo 27 (fl 0 7),oo 28 (ln 27),oo 29 (.nchk (.t 28)),oo 30 (ln 29),oo 31 (.bld [.ff,(kz 0)] [(0,1,(.t 26)),(1,1,(.t 30))]),oo 32 (.bsl 2 1 [.ff,(kz 0)] [(0,(.t 31))]),oo 33 (.app 2 16 (.t 24) (.t 32)),om 3 33] [[],[],[1],[],[3],[4],[5],[2,6],[7],[0,8],[9,9,0,1,2,3,4,5,6,7,8,9]]))) (.reg [oo 34 (ac .add 20 1),om 20 34]))))))) (.seq (.reg [om 35 3,om 2 35]) (.ret))))))
theorem k34 : zan Tryz.prog 34 36 c34 [.t 2] := fk Tryz.func34 ⟨tv,⟨tv,⟨⟨tv,⟨⟨tv,tv⟩,tv⟩⟩,⟨tv,⟨⟨tv,⟨tv,⟨⟨tv,tv⟩,⟨⟨tv,tv⟩,tv⟩⟩⟩⟩,⟨tv,tv⟩⟩⟩⟩⟩⟩
def zaf (x : HI) : List HR :=
 if zb2 x = true then (if ff x 16 = true then [⟨ff x 4096, x.a⟩] else []) ++ (if ff x 32 = true then [⟨ff x 8192, x.b⟩] else []) ++ (if ffC x = true then [⟨ff x 16384, x.c⟩] else []) else []
def L34 (x : HI) : zaa := ⟨[.agg x.cells], [], [], [.vec 2 ((zaf x).map HR.pv)], .slc 0 0 (zaf x).length⟩
set_option maxHeartbeats 40000000 in
theorem s34 (x : HI) : zaa.ok Tryz.prog GG 34 (L34 x) := by
 refine zac mix k34 _ rfl rfl (Tab.ok (l := [(58, S58), (80, S80), (82, S82)]) ⟨t58, t80, t82, trivial⟩) (fun _ => .rounds 5) noJ ?_
 repeat' ((conv => whnf); first
  | exact trivial
  | with_reducible first | refine aj ?_ | refine ai rfl ?_ | refine ai ⟨rfl, rfl⟩ ?_
  | ((with_reducible refine ai ?_ ?_); focus exact w3)
  | with_reducible first | refine And.intro ?_ ?_ | refine zae ?_ | refine exI (i64_in (by omega) (by omega)) ?_
  | refine exI (x := ULift.up _) (Eq.refl _) ?_
  | refine exI (x := ULift.up _) ⟨rfl, by omega, Eq.refl _⟩ ?_
  | ((with_reducible intro h); first | exact absurd h (by decide) | (exfalso; revert h; simp; done))
  | with_reducible intro _)
 all_goals first
  | exact Sd.mk ⟨rfl, rfl, rfl⟩
  | (refine Sd.mk ?_; (try simp only [HI.eta, FM.eta] at *); simp_all [zaf, HR.pv, rdN, zai.len]; done)
  | (refine Sd.mk ?_; (try simp only [HI.eta, FM.eta] at *); simp only [zaf]; grind)
noncomputable def S34 : SFn
 | [a0], k => zdp a0 fun x => k (L34 x)
 | _, _ => .fail
theorem t34 : FnS Tryz.prog GG 34 S34 := by
 intro args k gt go R v os n h
 unfold S34 at h
 split at h
 . obtain ⟨x, _, h⟩ := zbt h
   exact ⟨_, _, s34 x, h⟩
 . cases h
end
section
abbrev zk7 : List Int -> Sub := fun v => .vec 1 (v.map ipv)
abbrev ag (r : HR) (es : TM) : List Int := zak MTS r es
def zdx (X : List Int) : Int := nth X (X.length - 1)
def zb3 (i : Int) (es : TM) (r : HR) : TM := if ag r es = [] \/ zdx (ag r es) ≠ i then zam MTS r (ag r es ++ [i]) es else es
def zeb (i : Int) (es : TM) (x : HI) : TM := if (zag x).2 = true then zam MTS (zag x).1 (ag (zag x).1 es ++ [i]) es else es
def zbM : List HI -> Int -> TM -> TM -> TM × TM
 | [], _, us, ds => (us, ds)
 | x :: l, i, us, ds => zbM l (i + 1) ((zaf x).foldl (zb3 i) us) (zeb i ds x)
def zav (l : List HI) : TM × TM := zbM l 0 [] []
abbrev KT (es : TM) : List HR := es.map (·.1)
section
variable {M : zaj} {k k' : M.κ} {v u : M.ν}
theorem zd6 : ∀ {es : List (M.κ × M.ν)}, zay M k (zam M k v es) = some v
 | [] => by
   simp only [zam, zay]
   cases h : M.deq k k with
   | isTrue e => rfl
   | isFalse e => exact absurd rfl e
 | (j, x) :: es => by
   simp only [zam]
   cases h : M.deq j k with
   | isTrue e => simp only [zay, h]
   | isFalse e => simp only [zay, h]; exact zd6
theorem zeW (hk : k' ≠ k) : ∀ {es : List (M.κ × M.ν)}, zay M k' (zam M k v es) = zay M k' es
 | [] => by
   simp only [zam, zay]
   cases h : M.deq k k' with
   | isTrue e => exact absurd e.symm hk
   | isFalse e => rfl
 | (j, x) :: es => by
   simp only [zam]
   cases h : M.deq j k with
   | isTrue e =>
     subst e
     simp only [zay]
     cases h' : M.deq j k' with
     | isTrue e => exact absurd e.symm hk
     | isFalse e => rfl
   | isFalse e =>
     simp only [zay]
     cases h' : M.deq j k' with
     | isTrue e' => rfl
     | isFalse e' => exact zeW hk
theorem zhP : ∀ {es : List (M.κ × M.ν)}, zam M k v (zam M k u es) = zam M k v es
 | [] => by
   simp only [zam]
   cases h : M.deq k k with
   | isTrue e => rfl
   | isFalse e => exact absurd rfl e
 | (j, x) :: es => by
   simp only [zam]
   cases h : M.deq j k with
   | isTrue e => simp only [zam, h]
   | isFalse e => simp only [zam, h]; rw [zhP]
end
theorem znJ {r r' : HR} {X : List Int} {es : TM} : ag r' (zam MTS r X es) = if r' = r then X else ag r' es := by
 unfold ag zak
 split
 . next h => subst h; rw [zd6]; rfl
 . next h => rw [zeW h]
theorem zqQ {r : HR} {X Y : List Int} {es : TM} : zam MTS r Y (zam MTS r X es) = zam MTS r Y es := zhP
theorem zql {r : HR} {X : List Int} {es : TM} : (zay MTS r (zam MTS r X es)).isSome = true := by rw [zd6]; rfl
theorem zrP {r : HR} {es : TM} : (zay MTS r es).isSome = true \/ (List.map ipv (zak MTS r es) = [] /\ [PV.sl 1 []] = [PV.sl 1 []]) := by
 cases h : zay MTS r es with
 | none => exact .inr ⟨by rw [zak, h]; rfl, rfl⟩
 | some v => exact .inl rfl
theorem zqg {r : HR} {X : List Int} {es : TM} (h : (KT es).Nodup) : (KT (zam MTS r X es)).Nodup := Sx.zeJ (M := MTS) h
def wfT (i : Int) (es : TM) : Prop := ∀ r, srt (ag r es) /\ ∀ x ∈ ag r es, 0 <= x /\ x < i
theorem zon : ∀ {L : List Int} {a i : Int}, srt L -> (∀ x ∈ L, a <= x /\ x < i) -> a <= i -> (L.length : Int) <= i - a
 | [], a, i, _, _, h => by simp; omega
 | x :: L, a, i, hs, hb, h => by
   rw [srt, List.pairwise_cons] at hs
   have h1 := hb x (by simp)
   have := zon (L := L) (a := x + 1) (i := i) hs.2 (fun y hy => ⟨by have := hs.1 y hy; omega, (hb y (by simp [hy])).2⟩) (by omega)
   simp only [List.length_cons]
   omega
theorem ziR {i : Int} {es : TM} (h : wfT i es) (hi : 0 <= i) (r : HR) : ((ag r es).length : Int) <= i := by
 have := zon (h r).1 (h r).2 hi
 omega
theorem zcy {i : Int} : wfT i [] := fun r => by
 have : ag r [] = [] := rfl
 rw [this]
 exact ⟨List.Pairwise.nil, fun x hx => by cases hx⟩
theorem ze2 {i j : Int} {es : TM} (h : wfT i es) (hij : i <= j) : wfT j es := fun r => ⟨(h r).1, fun x hx => by have := (h r).2 x hx; omega⟩
theorem zjx {X : List Int} (h : X ≠ []) : X = X.dropLast ++ [zdx X] := by
 have hl : X.getLast h = zdx X := by
  have h0 := List.length_pos_iff.2 h
  have := zbN X (X.length - 1) ⟨by omega, by omega⟩
  have e : ((X.length : Int) - 1).toNat = X.length - 1 := by omega
  rw [e] at this
  rw [List.getLast_eq_getElem]
  rw [List.getElem?_eq_getElem (by omega)] at this
  exact Option.some.inj this
 rw [<- hl]
 exact (List.dropLast_concat_getLast h).symm
theorem zij {X : List Int} (h : X ≠ []) : zdx X ∈ X := by
 have e := zjx h
 have : zdx X ∈ X.dropLast ++ [zdx X] := by simp
 rwa [<- e] at this
theorem zuA {X : List Int} {i : Int} (h : srt X) (hb : ∀ x ∈ X, x < i) : srt (X ++ [i]) := by
 rw [srt, List.pairwise_append]
 exact ⟨h, by simp, fun a ha b hb' => by simp at hb'; subst hb'; exact hb a ha⟩
theorem zqr {i : Int} {es : TM} {r : HR} (h : wfT (i + 1) es) (hi : 0 <= i) (hl : ag r es = [] \/ zdx (ag r es) ≠ i) : wfT (i + 1) (zam MTS r (ag r es ++ [i]) es) := by
 intro r'
 rw [znJ]
 split
 . have hb : ∀ x ∈ ag r es, x < i := by
    rcases hl with hl | hl
    . rw [hl]; intro x hx; cases hx
    . by_cases he : ag r es = []
      . rw [he]; intro x hx; cases hx
      . have e := zjx he
        have hs := (h r).1
        rw [e, srt, List.pairwise_append] at hs
        have hlast := (h r).2 (zdx (ag r es)) (zij he)
        intro x hx
        rw [e] at hx
        rcases List.mem_append.1 hx with hx | hx
        . have := hs.2.2 x hx _ (List.mem_singleton.2 rfl)
          omega
        . simp at hx; omega
   refine ⟨zuA (h r).1 hb, fun x hx => ?_⟩
   rcases List.mem_append.1 hx with hx | hx
   . exact (h r).2 x hx
   . simp at hx; omega
 . exact h r'
theorem zmt {i : Int} {es : TM} {r : HR} (h : wfT (i + 1) es) (hi : 0 <= i) : wfT (i + 1) (zb3 i es r) := by
 unfold zb3
 split
 . next hl => exact zqr h hi hl
 . exact h
theorem zmV {i : Int} {es : TM} {x : HI} (h : wfT i es) (hi : 0 <= i) : wfT (i + 1) (zeb i es x) := by
 unfold zeb
 split
 . refine zqr (ze2 h (by omega)) hi ?_
   by_cases he : ag (zag x).1 es = []
   . exact .inl he
   . right
     have e := zjx he
     have := (h (zag x).1).2 (zdx (ag (zag x).1 es)) (zij he)
     omega
 . exact ze2 h (by omega)
theorem zxg {i : Int} {es : TM} {r : HR} (h : (KT es).Nodup) : (KT (zb3 i es r)).Nodup := by
 unfold zb3
 split
 . exact zqg h
 . exact h
theorem zxh {i : Int} {es : TM} {x : HI} (h : (KT es).Nodup) : (KT (zeb i es x)).Nodup := by
 unfold zeb
 split
 . exact zqg h
 . exact h
theorem zkT {i : Int} (hi : 0 <= i) : ∀ (us : List HR) {es : TM}, wfT (i + 1) es -> wfT (i + 1) (us.foldl (zb3 i) es)
 | [], _, h => h
 | r :: us, _, h => zkT hi us (zmt h hi)
theorem znX {i : Int} : ∀ (us : List HR) {es : TM}, (KT es).Nodup -> (KT (us.foldl (zb3 i) es)).Nodup
 | [], _, h => h
 | r :: us, _, h => znX us (zxg h)
theorem zhM : ∀ (l : List HI) {i : Int} {us ds : TM}, 0 <= i -> wfT i us -> wfT i ds -> (KT us).Nodup -> (KT ds).Nodup →
 wfT (i + l.length) (zbM l i us ds).1 /\ wfT (i + l.length) (zbM l i us ds).2 /\ (KT (zbM l i us ds).1).Nodup /\ (KT (zbM l i us ds).2).Nodup
  | [], i, us, ds, _, h1, h2, h3, h4 => by simpa [zbM] using ⟨h1, h2, h3, h4⟩
  | x :: l, i, us, ds, hi, h1, h2, h3, h4 => by
    have := zhM l (i := i + 1) (us := (zaf x).foldl (zb3 i) us) (ds := zeb i ds x) (by omega) (zkT hi _ (ze2 h1 (by omega))) (zmV h2 hi) (znX _ h3) (zxh h4)
    simp only [zbM, List.length_cons]
    have e : i + ((l.length + 1 : Nat) : Int) = i + 1 + l.length := by omega
    rw [e]
    exact this
end
section
structure BK where
 vec : Bool
 free : BM
 holds : IM
 at_ : IM
 slot : IM
 slots : BM
def BK.row (b : BK) (n : Nat) : SO := .row [.bool b.vec, .mp n, .mp (n + 1), .mp (n + 2), .mp (n + 3), .mp (n + 4)]
def BK.leave (b : BK) (r : Int) : BK := { b with at_ := za3 MII (zak MII r b.holds) b.at_, holds := za3 MII r b.holds, free := zam MIB r true b.free }
def BK.free1 (b : BK) (v : Int) : BK := if (zay MII v b.at_).isSome = true then b.leave (zak MII v b.at_) else b
def BK.free2 (b : BK) (v : Int) : BK := if (zay MII v b.slot).isSome = true then { b with slot := za3 MII v b.slot, slots := zam MIB (zak MII v b.slot) true b.slots } else b
def BK.forget (b : BK) (v : Int) : BK := (b.free1 v).free2 v
def BK.put (b : BK) (r v : Int) : BK := { b with free := za3 MIB r b.free, holds := zam MII r v b.holds, at_ := zam MII v r b.at_ }
noncomputable def ziz (p : Nat) (f : BK -> RT) : RT := zbk p fun r => match r with
 | .agg [v, .mp a, .mp b, .mp c, .mp d, .mp e] => asB v fun v => zbl MIB a fun a => zbl MII b fun b => zbl MII c fun c => zbl MII d fun d => zbl MIB e fun e => f ⟨v, a, b, c, d, e⟩
 | _ => .fail
section
variable {gt : GT} {go : GO} {R : List Sx.Loc} {v : Option SV} {os : List (Nat × Option SO)} {k : Nat}
theorem zeY {p : Nat} {f : BK -> RT} (h : (ziz p f).Runs gt go R v os k) : ∃ x R', (f x).Runs gt go R' v os k := by
 unfold ziz at h
 obtain ⟨_, _, h⟩ := zaR h
 split at h
 . obtain ⟨_, _, h⟩ := ziJ h
   obtain ⟨_, _, h⟩ := zaS h
   obtain ⟨_, _, h⟩ := zaS h
   obtain ⟨_, _, h⟩ := zaS h
   obtain ⟨_, _, h⟩ := zaS h
   obtain ⟨_, _, h⟩ := zaS h
   exact ⟨_, _, h⟩
 . cases h
end
end
end Go.Proofs.YtlahifihaeafbaaGreatDoor
