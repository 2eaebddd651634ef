/- Part 6 of 11 of a proof of the law AllocTwice: what the last part leans on. -/
import Derived.Test.YtlahifihaeafbaaGreatDoorZe
import Derived.Test.YtlahifihaeafbaaGreatDoorProg
set_option linter.all false
set_option maxRecDepth 100000
namespace Go.Sx
open Go
def zkt (P : Program) (t : TypeId) : Option (Option Nat) :=
 match P.underlying t with
 | none => none
 | some d => match d.isRow with
   | false => some none
   | true => match P.info? t with | some i => some (some i.size) | none => none
theorem zij {P : Program} {t : TypeId} {n : Option Nat} (h : zkt P t = some n) : zhk P t n := by
 unfold zkt at h
 split at h
 . cases h
 . rename_i d hd
   split at h
   . rename_i hr; cases h; exact ⟨d, hd, hr⟩
   . rename_i hr
     split at h
     . rename_i i hi; cases h; exact ⟨d, hd, hr, by rw [hi]; rfl⟩
     . cases h
def zrp (P : Program) (t : TypeId) (f : Nat) : Option Nat :=
 match P.underlying t with
 | some (.struct fs) => match fs[f]? with
   | some fd => match P.info? fd.type with
     | some i => match i.size with | 0 => none | _ + 1 => some fd.offset
     | none => none
   | none => none
 | _ => none
theorem zto {P : Program} {t : TypeId} {f off : Nat} (h : zrp P t f = some off) : znK P t f off := by
 unfold zrp at h
 split at h
 . rename_i fs hu
   split at h
   . rename_i fd hf
     split at h
     . rename_i i hi
       split at h
       . cases h
       . rename_i n hn
         cases h
         exact ⟨fs, fd, i, hu, hf, rfl, hi, by omega⟩
     . cases h
   . cases h
 . cases h
def zdV (P : Program) (t : TypeId) : Option Nat := match P.info? t with | some i => some i.size | none => none
theorem zdD {P : Program} {t : TypeId} {n : Nat} (h : zdV P t = some n) : ∃ i, P.info? t = some i /\ i.size = n := by
 unfold zdV at h
 split at h
 . rename_i i hi; cases h; exact ⟨i, hi, rfl⟩
 . cases h
def zeU (P : Program) (t : TypeId) : Option Value := match P.info? t with | some i => i.zero | none => none
theorem zhe {P : Program} {t : TypeId} {z : Value} (h : zeU P t = some z) : ∃ i, P.info? t = some i /\ i.zero = some z := by
 unfold zeU at h
 split at h
 . rename_i i hi; exact ⟨i, hi, h⟩
 . cases h
def zlV (pl : Nat -> Option (Nat × Nat)) : List (Nat × Operand) -> Option (List (Nat × Nat × X))
 | [] => some []
 | (i, x) :: r => match pl i with
   | some (off, n) => match zlV pl r with | some l => some ((off, n, cX x) :: l) | none => none
   | none => none
theorem zm7 {pl : Nat -> Option (Nat × Nat)} : ∀ {l : List (Nat × Operand)} {ps : List (Nat × Nat × X)}, zlV pl l = some ps -> zgJ pl l ps
 | [], ps, h => by simp [zlV] at h; simp [zgJ, h]
 | (i, x) :: r, ps, h => by
   simp only [zlV] at h
   split at h
   . rename_i off n hp
     split at h
     . rename_i l hl
       cases h
       exact ⟨off, n, l, rfl, hp, zm7 hl⟩
     . cases h
   . cases h
def zcC : Value -> Option PV
 | .int k n => some (.int k n)
 | .bool b => some (.bool b)
 | .string s => some (.str s)
 | .map r => (match r with | none => some (.val (.map none)) | some _ => none)
 | _ => none
def zcD : List Value -> Option (List PV)
 | [] => some []
 | v :: l => match zcC v with | some p => (match zcD l with | some r => some (p :: r) | none => none) | none => none
def zgB (P : Program) (t : TypeId) : Option (Bool × List PV) :=
 match P.underlying t, zeU P t with
 | some (.slice e), some (.slice none 0 0) => (match zdV P e with | some s => some (true, [.sl s []]) | none => none)
 | _, some (.agg cs) => (match zcD cs.toList with | some l => some (false, l) | none => none)
 | _, some v => (match zcC v with | some p => some (true, [p]) | none => none)
 | _, none => none
theorem zkI {v : Value} {p : PV} (h : zcC v = some p) (β w S) : rel β w S p.sv v := by
 cases v
 case map r =>
  cases r with
  | none => simp [zcC] at h; subst h; simp [PV.sv, rel]
  | some _ => simp [zcC] at h
 all_goals (simp [zcC] at h <;> subst h <;> simp [PV.sv, rel])
theorem zkJ {v : Value} {s : Nat} {L : List (List PV)} : zcC v ≠ some (.sl s L) := by
 cases v
 case map r => cases r <;> simp [zcC]
 all_goals simp [zcC]
theorem zji : ∀ {l : List Value} {ps : List PV}, zcD l = some ps -> ∀ (β w S), zam β w S (ps.map PV.sv) l
 | [], ps, h, β, w, S => by simp [zcD] at h; subst h; simp [zam]
 | v :: l, ps, h, β, w, S => by
   simp only [zcD] at h
   split at h
   . rename_i p hp
     split at h
     . rename_i r hr
       cases h
       simp only [List.map, zam]
       exact ⟨v, l, rfl, zkI hp β w S, zji hr β w S⟩
     . cases h
   . cases h
theorem zlk {P : Program} {t : TypeId} {zo : Bool} {z : List PV} (h : zgB P t = some (zo, z)) : ∃ i zv, P.info? t = some i /\ i.zero = some zv /\ ∀ (β : Nat -> Option zay) (w : World) (S : Nat -> Prop), rel β w S (zaS zo z) zv := by
 unfold zgB at h
 cases hz : zeU P t with
 | none => rw [hz] at h; split at h <;> first | (cases h; done) | simp_all
 | some v =>
   obtain ⟨i, hi, hz'⟩ := zhe hz
   rw [hz] at h
   refine ⟨i, v, hi, hz', ?_⟩
   split at h
   . rename_i e _ hv
     cases hv
     split at h
     . cases h
       intro β w S
       simp only [zaS, PV.sv, rel, zaR]
       exact ⟨none, 0, rfl, Nat.le_refl _, fun h => absurd rfl h, fun _ => rfl⟩
     . cases h
   . rename_i cs heq
     cases heq
     split at h
     . rename_i l hl
       cases h
       intro β w S
       simp only [zaS, rel]
       exact ⟨_, rfl, zji hl β w S⟩
     . cases h
   . rename_i v' _ heq _
     cases heq
     split at h
     . rename_i p hp
       cases h
       exact fun β w S => zkI hp β w S
     . cases h
   . rename_i hv; cases hv
theorem zll {P : Program} {t : TypeId} {zo : Bool} {s : Nat} (h : zgB P t = some (zo, [.sl s []])) : ∃ i, P.info? t = some i /\ i.zero = some (.slice none 0 0) := by
 unfold zgB at h
 cases hz : zeU P t with
 | none => rw [hz] at h; split at h <;> first | (cases h; done) | simp_all
 | some v =>
   obtain ⟨i, hi, hz'⟩ := zhe hz
   rw [hz] at h
   split at h
   . rename_i e _ hv
     cases hv
     exact ⟨i, hi, hz'⟩
   . rename_i cs heq
     cases heq
     split at h
     . rename_i l hl
       simp only [Option.some.injEq, Prod.mk.injEq] at h
       obtain ⟨_, rfl⟩ := h
       exfalso
       match cs.toList, hl with
       | [], hl => simp [zcD] at hl
       | v :: l, hl =>
         simp only [zcD] at hl
         split at hl
         . rename_i p hp
           split at hl
           . simp only [Option.some.injEq, List.cons.injEq] at hl
             rw [hl.1] at hp
             exact zkJ hp
           . cases hl
         . cases hl
     . cases h
   . rename_i v' _ heq _
     cases heq
     split at h
     . rename_i p hp
       simp only [Option.some.injEq, Prod.mk.injEq, List.cons.injEq] at h
       rw [h.2.1] at hp
       exact absurd hp zkJ
     . cases h
   . rename_i hv; cases hv
def zgQ : List Value -> Bool
 | [] => true
 | v :: l => match v with
   | .int _ _ => zgQ l
   | .bool _ => zgQ l
   | .string _ => zgQ l
   | .slice none 0 0 => zgQ l
   | _ => false
def zpY (P : Program) (e : TypeId) : Option (List PV) :=
 match P.underlying e, zeU P e with
 | some (.slice f), some (.slice none 0 0) => (match zdV P f with | some s => some [.sl s []] | none => none)
 | _, some v => zcD v.cells.toList
 | _, none => none
def zT (P : Program) (t : TypeId) : Option (Nat × Nat × List PV) :=
 match P.underlying t with
 | some (.slice e) => match P.info? e, zpY P e with
   | some i, some z => (match i.zero with
     | some zv => (match Nat.beq zv.cells.size i.size, Nat.beq z.length i.size, Nat.blt 0 i.size, Nat.blt 0 i.bytes, zgQ zv.cells.toList with
       | true, true, true, true, true => some (i.size, i.bytes, z)
       | _, _, _, _, _ => none)
     | none => none)
   | _, _ => none
 | _ => none
theorem zlW : ∀ {l : List Value}, zgQ l = true -> ∀ y ∈ l, y.oneCell' = true
 | [], _, y, h => by cases h
 | v :: l, h, y, hy => by
   simp only [zgQ] at h
   have hy2 := List.mem_cons.1 hy
   rcases hy2 with e | hy2
   . subst e
     split at h <;> first | (cases h; done) | simp [Value.oneCell']
   . split at h <;> first | (cases h; done) | exact zlW h y hy2
theorem zqW {v : Value} {p : PV} (h : zcC v = some p) (w S) : zaR w S p v := by
 cases v
 case map r =>
  cases r with
  | none => simp [zcC] at h; subst h; simp [zaR, Value.oneCell']
  | some _ => simp [zcC] at h
 all_goals (simp [zcC] at h <;> subst h <;> simp [zaR])
theorem zkK : ∀ {l : List Value} {ps : List PV}, zcD l = some ps -> ∀ (w S), zaE w S ps l
 | [], ps, h, w, S => by simp [zcD] at h; subst h; simp [zaE]
 | v :: l, ps, h, w, S => by
   simp only [zcD] at h
   split at h
   . rename_i p hp
     split at h
     . rename_i r hr
       cases h
       simp only [zaE]
       exact ⟨v, l, rfl, zqW hp w S, zkK hr w S⟩
     . cases h
   . cases h
theorem zsY {P : Program} {t : TypeId} {s b : Nat} {z : List PV} (h : zT P t = some (s, b, z)) : ZOk P t s b z := by
 unfold zT at h
 split at h
 . rename_i e hu
   split at h
   . rename_i i z' hi hz
     split at h
     . rename_i zv hzv
       split at h
       . rename_i h1 h2 h3 h4 h5
         cases h
         refine ⟨e, i, zv, hu, hi, rfl, rfl, hzv, Nat.eq_of_beq_eq_true h1, by rwa [Nat.blt_eq] at h3, by rwa [Nat.blt_eq] at h4, Nat.eq_of_beq_eq_true h2, zlW h5, fun w S => ?_⟩
         have hzt : zeU P e = some zv := by simp [zeU, hi, hzv]
         unfold zpY at hz
         rw [hzt] at hz
         split at hz
         . rename_i f _ hv
           cases hv
           split at hz
           . cases hz
             simp only [Value.cells, zaE, zaR]
             exact ⟨_, [], rfl, ⟨none, 0, rfl, Nat.le_refl _, fun h => absurd rfl h, fun _ => rfl⟩, trivial⟩
           . cases hz
         . rename_i v' heq _
           cases heq
           exact zkK hz w S
         . rename_i heq; cases heq
       . cases h
     . cases h
   . cases h
 . cases h
def zmh : Operand -> Bool
 | .const (.slice none 0 0) => true
 | _ => false
theorem zpn {x : Operand} (h : zmh x = true) : x = .const (.slice none 0 0) := by
 unfold zmh at h
 split at h
 . rfl
 . cases h
def zyX : BinOp -> Bool
 | .eql => true | .neq => true | .lss => true | .leq => true | .gtr => true | .geq => true
 | _ => false
def zeK (P : Program) (t : TypeId) : Option (TypeId × TypeId × Bool × List SK) :=
 match P.underlying t with
 | some (.map K E) => match za5 P 20 K with | some ks => some (K, E, !zbb P K, ks) | none => none
 | _ => none
theorem zez {P : Program} {t K E : TypeId} {one : Bool} {ks : List SK} (h : zeK P t = some (K, E, one, ks)) : P.underlying t = some (.map K E) /\ zcj P K one ks := by
 unfold zeK at h
 split at h
 . rename_i K' E' hu
   split at h
   . rename_i ks' hk
     cases h
     exact ⟨hu, ⟨20, by omega, hk⟩, rfl⟩
   . cases h
 . cases h
def zlT (P : Program) (op : BinOp) (t : TypeId) (x y : Operand) : Option MO :=
 match P.underlying t with
 | some (.int _) => (match zyX op with | true => some (.cmp op (cX x) (cX y)) | false => some (.ar op (cX x) (cX y)))
 | some .bool => (match op with | .eql => some (.eqb false (cX x) (cX y)) | .neq => some (.eqb true (cX x) (cX y)) | _ => none)
 | some .string => (match op with | .eql => some (.eqt false (cX x) (cX y)) | .neq => some (.eqt true (cX x) (cX y)) | _ => none)
 | some (.slice _) => (match zmh y with
   | true => (match op with | .eql => some (.nils false (cX x)) | .neq => some (.nils true (cX x)) | _ => none)
   | false => none)
 | _ => (match za5 P 20 t, zbb P t, P.eqGuardType P.depth t with
   | some ks, true, false => (match op with | .eql => some (.eqs ks false (cX x) (cX y)) | .neq => some (.eqs ks true (cX x) (cX y)) | _ => none)
   | _, _, _ => none)
def zwO : TypeDesc -> Bool
 | .int _ => false
 | _ => true
def zqN (P : Program) (sT xT : TypeId) : Option (Nat × Nat) :=
 match P.underlying sT, P.underlying xT with
 | some (.slice e), some d => match P.info? e with
   | some i => match i.zero with
     | some z => match zwO d, Nat.beq z.cells.size i.size, Nat.blt 0 i.size, Nat.blt 0 i.bytes, Nat.ble i.bytes (2 ^ 20) with
       | true, true, true, true, true => some (i.size, i.bytes)
       | _, _, _, _, _ => none
     | none => none
   | none => none
 | _, _ => none
theorem zs3 {P : Program} {sT xT : TypeId} {s b : Nat} (h : zqN P sT xT = some (s, b)) : zgC P sT xT s b := by
 unfold zqN at h
 split at h
 . rename_i e d hu hx
   split at h
   . rename_i i hi
     split at h
     . rename_i z hz
       split at h
       . rename_i h1 h2 h3 h4 h5
         cases h
         exact ⟨e, i, z, d, hu, hi, rfl, rfl, hz, Nat.eq_of_beq_eq_true h2, by rwa [Nat.blt_eq] at h3, by rwa [Nat.blt_eq] at h4, by simpa using h5, hx, fun k e => by subst e; cases h1⟩
       . cases h
     . cases h
   . cases h
 . cases h
def zn7 (P : Program) (sT xT : TypeId) : Option (Nat × Nat) :=
 match P.underlying sT, P.underlying xT with
 | some (.slice e), some (.int _) => match P.info? e with
   | some i => match i.zero with
     | some z => match Nat.beq z.cells.size i.size, Nat.blt 0 i.size, Nat.blt 0 i.bytes, Nat.ble i.bytes (2 ^ 20) with
       | true, true, true, true => some (i.size, i.bytes)
       | _, _, _, _ => none
     | none => none
   | none => none
 | _, _ => none
theorem zqO {P : Program} {sT xT : TypeId} {s b : Nat} (h : zn7 P sT xT = some (s, b)) : zpZ P sT xT s b := by
 unfold zn7 at h
 split at h
 . rename_i e k hu hx
   split at h
   . rename_i i hi
     split at h
     . rename_i z hz
       split at h
       . rename_i h2 h3 h4 h5
         cases h
         exact ⟨e, i, z, k, hu, hi, rfl, rfl, hz, Nat.eq_of_beq_eq_true h2, by rwa [Nat.blt_eq] at h3, by rwa [Nat.blt_eq] at h4, by simpa using h5, hx⟩
       . cases h
     . cases h
   . cases h
 . cases h
def zjh (P : Program) (c : Call) : Option MO :=
 match c.callee with
 | .value f => some (.call (cX f) (c.args.toList.map cX))
 | .invoke _ _ => none
 | .builtin b => match b, c.args.toList, c.argTypes.toList with
   | .len, [x], [t] => (match P.underlying t with
     | some (.slice _) => some (.lenS (cX x))
     | some .string => some (.lenT (cX x))
     | some (.map _ _) => some (.lenM (cX x))
     | _ => none)
   | .cap, [x], [t] => (match P.underlying t with
     | some (.slice _) => some (.capN (cX x))
     | _ => none)
   | .append, [x, y], [sT, xT] => (match zqN P sT xT with
     | some (s, b) => some (.app s b (cX x) (cX y))
     | none => (match zn7 P sT xT with | some (s, b) => some (.appz s b (cX x) (cX y)) | none => none))
   | .min, x :: ys, _ => some (.mm false (cX x) (ys.map cX))
   | .max, x :: ys, _ => some (.mm true (cX x) (ys.map cX))
   | .clear, [x], [t] => (match zT P t with | some (s, _, z) => some (.clr s z (cX x)) | none => none)
   | .delete, [x, y], [t, _] => (match zeK P t with | some (_, _, one, ks) => some (.mdel one ks (cX x) (cX y)) | none => none)
   | .copy, [x, y], [dT, _] => (match P.underlying dT with
     | some (.slice e) => (match zdV P e with | some s => some (.cpy s (cX x) (cX y)) | none => none)
     | _ => none)
   | _, _, _ => none
def cOp (P : Program) (o : Oper) : Option MO :=
 match o.op with
 | .move x => some (.mv (cX x))
 | .assign x => some (.mv (cX x))
 | .pick c a b => some (.pick (cX c) (cX a) (cX b))
 | .box _ x => some (.box (cX x))
 | .alloc t => (match zeU P t with | some z => some (.alloc (z.cells.toList.map cV1)) | none => none)
 | .load t x => (match zkt P t with | some n => some (.ld n (cX x)) | none => none)
 | .store t x y => (match zdV P t, o.dst with | some n, none => some (.st (some n) (cX x) (cX y)) | _, _ => none)
 | .nilCheck x => some (.nchk (cX x))
 | .fieldAddr t x f => (match zrp P t f with | some off => some (.fld off (cX x)) | none => none)
 | .field t x f => (match P.underlying t with
   | some (.struct fs) => (match fs[f]? with
     | some fd => (match zkt P fd.type with | some n => some (.fldv fd.offset n (cX x)) | none => none)
     | none => none)
   | _ => none)
 | .indexAddr t x y => (match P.underlying t with
   | some (.slice e) => (match zdV P e with | some s => some (.ixa s (cX x) (cX y)) | none => none)
   | some (.array len e) => (match zdV P e with | some s => some (.ixr len s (cX x) (cX y)) | none => none)
   | _ => none)
 | .index t x y => (match P.underlying t with
   | some (.array len e) => (match zdV P e, zkt P e with | some s, some n => some (.ixv len s n (cX x) (cX y)) | _, _ => none)
   | some .string => some (.ixs (cX x) (cX y))
   | _ => none)
 | .binOp op t x y _ => zlT P op t x y
 | .unOp op _ x => (match op with | .not => some (.not (cX x)) | op => some (.un op (cX x)))
 | .convert s t x => (match P.underlying s, P.underlying t with | some _, some (.int k) => some (.cv k (cX x)) | _, _ => none)
 | .build t parts => (match zh5 P t with
   | some (pl, z) => (match zlV pl parts.toList with | some ps => some (.bld (z.cells.toList.map cV1) ps) | none => none)
   | none => none)
 | .buildSlice t len parts => (match P.underlying t with
   | some (.slice e) => (match zdV P e, zeU P e with
     | some s, some z => (match Nat.blt 0 s, Nat.ble (len * s) (2 ^ 24), Nat.beq z.cells.size s with
       | true, true, true => some (.bsl s len (z.cells.toList.map cV1) (parts.toList.map fun p => (p.1, cX p.2)))
       | _, _, _ => none)
     | _, _ => none)
   | _ => none)
 | .slice t x lo hi none => (match P.underlying t with
   | some (.slice e) => (match zdV P e with | some s => some (.sls s (cX x) (oX lo) (oX hi)) | none => none)
   | _ => none)
 | .extract x i => some (.ext i (cX x))
 | .makeFunc f a c => some (.mkf f (a.toList.map cX) (c.toList.map cX))
 | .makeInterface t x => (match P.underlying t with
   | some (.interface _) => none
   | some _ => some (.mki t (cX x))
   | none => none)
 | .makeMap _ none => some .mkm
 | .lookup t x y ok => (match zeK P t with
   | some (_, E, one, ks) => (match zgB P E with | some (zo, z) => some (.lkp ok one ks zo z (cX x) (cX y)) | none => none)
   | none => none)
 | .mapUpdate t x y z => (match zeK P t, o.dst with | some (_, _, one, ks), none => some (.mup one ks (cX x) (cX y) (cX z)) | _, _ => none)
 | .insert t x y z => (match zeK P t, o.dst with | some (_, _, one, ks), none => some (.mup one ks (cX x) (cX y) (cX z)) | _, _ => none)
 | .call c => zjh P c
 | .makeSlice t x y => (match zT P t with | some (s, b, z) => some (.mks s b z (cX x) (cX y)) | none => none)
 | .range t x => (match P.underlying t with | some (.map _ _) => some (.rngm (cX x)) | _ => none)
 | .next x isS => (match isS with | false => some (.nxt (cX x)) | true => none)
 | .panic x => some (.pnc (cX x))
 | .entry x => some (.ent (cX x))
 | .slice t x none (some hi) (some mx) => (match P.underlying t with
   | some (.slice e) => (match zdV P e with | some s => some (.sls3 s (cX x) (cX hi) (cX mx)) | none => none)
   | _ => none)
 | .mapEntry t x y => (match zeK P t with
   | some (_, E, one, ks) => (match zgB P E with | some (zo, z) => some (.ment one ks zo z (cX x) (cX y)) | none => none)
   | none => none)
 | .entryStore _ x y z => (match o.dst with | none => some (.mest (cX x) (cX y) (cX z)) | some _ => none)
 | _ => none
theorem zob {P : Program} {o : Oper} {op : BinOp} {t ty : TypeId} {x y : Operand} {m : MO} (ho : o.op = .binOp op t x y ty) (h : zlT P op t x y = some m) : zlo o m := by
 unfold zlT at h
 refine ⟨fun f xs e => ?_, fun f xs e => ?_, fun z e => ?_, fun z e => ?_, fun op' a b e => ?_, fun op' a b e => ?_⟩ <;> subst e <;> (repeat' (split at h)) <;> first | (cases h; done) | (cases h; exact ⟨_, _, _, _, ho, rfl, rfl⟩)
theorem zmV {P : Program} {o : Oper} {c : Call} {m : MO} (ho : o.op = .call c) (h : zjh P c = some m) : zlo o m := by
 obtain ⟨callee, args, ats⟩ := c
 unfold zjh at h
 refine ⟨fun f xs e => ?_, fun f xs e => ?_, fun z e => ?_, fun z e => ?_, fun op' a b e => ?_, fun op' a b e => ?_⟩ <;> subst e
 . split at h
   . rename_i fx hf
     simp only at hf
     subst hf
     cases h
     exact ⟨fx, args, ats, ho, rfl, rfl⟩
   . cases h
   . (repeat' (split at h)) <;> cases h
 all_goals ((repeat' (split at h)) <;> cases h)
theorem zoW {P : Program} {o : Oper} {m : MO} (h : cOp P o = some m) : zlo o m := by
 unfold cOp at h
 split at h
 case h_13 op t x y ty ho => exact zob ho h
 case h_26 c ho => exact zmV ho h
 case h_29 x isS ho =>
  split at h
  . cases h
    exact ⟨fun _ _ e => (by cases e), fun _ _ e => (by cases e), fun _ e => (by cases e; exact ⟨x, ho, rfl⟩), fun _ e => (by cases e), fun _ _ _ e => (by cases e), fun _ _ _ e => (by cases e)⟩
  . cases h
 case h_30 x ho =>
  cases h
  exact ⟨fun _ _ e => (by cases e), fun _ _ e => (by cases e), fun _ e => (by cases e), fun _ e => (by cases e; exact ⟨x, ho, rfl⟩), fun _ _ _ e => (by cases e), fun _ _ _ e => (by cases e)⟩
 all_goals
  refine ⟨fun f xs e => ?_, fun f xs e => ?_, fun z e => ?_, fun z e => ?_, fun _ _ _ e => ?_, fun _ _ _ e => ?_⟩ <;> subst e <;> (repeat' (split at h)) <;> cases h
section
variable {C : Ctx} {gt : GT} {go : GO} {o : Oper} {fresh : Nat} {R : List Loc} {v : Option SV} {os : List (Nat × Option SO)} {k : Nat}
theorem zs6 {op : BinOp} {t ty : TypeId} {x y : Operand} {m : MO} (ho : o.op = .binOp op t x y ty) (hm : zlT C.P op t x y = some m) (h : (m.rt C.toEnv fresh).Runs gt go R v os k) (hd : zau C o.dst v) : zaD C o fresh gt go v os k := by
 unfold zlT at hm
 split at hm
 . split at hm
   . cases hm; exact zwX ho h hd
   . cases hm; exact zzf ho h hd
 . rename_i hu
   split at hm
   . cases hm; exact zpv (neg := false) (by simpa using ho) hu h hd
   . cases hm; exact zpv (neg := true) (by simpa using ho) hu h hd
   . cases hm
 . split at hm
   . cases hm; exact zpx (neg := false) (by simpa using ho) h hd
   . cases hm; exact zpx (neg := true) (by simpa using ho) h hd
   . cases hm
 . rename_i e hu
   split at hm
   . rename_i hn
     have hn := zpn hn
     subst hn
     split at hm
     . cases hm; exact znv (neg := false) (by simpa using ho) hu h hd
     . cases hm; exact znv (neg := true) (by simpa using ho) hu h hd
     . cases hm
   . cases hm
 . split at hm
   . rename_i ks h1 h2 h3
     split at hm
     . cases hm; exact zpw (neg := false) (by simpa using ho) ⟨⟨20, by omega, h1⟩, h2, h3⟩ h hd
     . cases hm; exact zpw (neg := true) (by simpa using ho) ⟨⟨20, by omega, h1⟩, h2, h3⟩ h hd
     . cases hm
   . cases hm
theorem zqU {c : Call} {m : MO} (ho : o.op = .call c) (hm : zjh C.P c = some m) (h : (m.rt C.toEnv fresh).Runs gt go R v os k) (hd : zau C o.dst v) : zaD C o fresh gt go v os k := by
 obtain ⟨callee, args, ats⟩ := c
 unfold zjh at hm
 split at hm
 . rename_i f hf
   simp only at hf hm
   subst hf
   cases hm
   exact znt ho h hd
 . cases hm
 . rename_i b hb
   simp only at hb hm
   subst hb
   split at hm
   . rename_i x t h1 h2
     have h1 : args = #[x] := by rw [<- h1]
     have h2 : ats = #[t] := by rw [<- h2]
     subst h1; subst h2
     split at hm
     . rename_i e hu; cases hm; exact ztO ho ⟨e, hu⟩ h hd
     . rename_i hu; cases hm; exact ztP ho hu h hd
     . rename_i a b hu; cases hm; exact ztN ho ⟨a, b, hu⟩ h hd
     . cases hm
   . rename_i x t h1 h2
     have h1 : args = #[x] := by rw [<- h1]
     have h2 : ats = #[t] := by rw [<- h2]
     subst h1; subst h2
     split at hm
     . rename_i e hu; cases hm; exact ztK ho ⟨e, hu⟩ h hd
     . cases hm
   . rename_i x y sT xT h1 h2
     have h1 : args = #[x, y] := by rw [<- h1]
     have h2 : ats = #[sT, xT] := by rw [<- h2]
     subst h1; subst h2
     split at hm
     . rename_i s b hs; cases hm; exact zwR ho (zs3 hs) h hd
     . split at hm
       . rename_i s b hs; cases hm; exact ztJ ho (zqO hs) h hd
       . cases hm
   . rename_i x ys h1
     have h1 : args = (x :: ys).toArray := by rw [<- h1]
     subst h1
     cases hm; exact zsM (mx := false) (by simpa using ho) h hd
   . rename_i x ys h1
     have h1 : args = (x :: ys).toArray := by rw [<- h1]
     subst h1
     cases hm; exact zsM (mx := true) (by simpa using ho) h hd
   . rename_i x t h1 h2
     have h1 : args = #[x] := by rw [<- h1]
     have h2 : ats = #[t] := by rw [<- h2]
     subst h1; subst h2
     split at hm
     . rename_i hs; cases hm; exact zwW ho (zsY hs) h hd
     . cases hm
   . rename_i x y sT xT h1 h2
     have h1 : args = #[x, y] := by rw [<- h1]
     have h2 : ats = #[sT, xT] := by rw [<- h2]
     subst h1; subst h2
     split at hm
     . rename_i hs; cases hm; exact ztR ho ⟨_, _, zez hs⟩ h hd
     . cases hm
   . rename_i x y dT sT h1 h2
     have h1 : args = #[x, y] := by rw [<- h1]
     have h2 : ats = #[dT, sT] := by rw [<- h2]
     subst h1; subst h2
     split at hm
     . rename_i e hu
       split at hm
       . rename_i s hs
         obtain ⟨i, hi, hs⟩ := zdD hs
         cases hm; exact zwY ho ⟨e, i, hu, hi, hs⟩ h hd
       . cases hm
     . cases hm
   . cases hm
theorem zvF {m : MO} (hm : cOp C.P o = some m) (h : (m.rt C.toEnv fresh).Runs gt go R v os k) (hd : zau C o.dst v) : zaD C o fresh gt go v os k := by
 unfold cOp at hm
 split at hm
 case h_1 x ho => cases hm; exact zsN (.inl ho) h hd
 case h_2 x ho => cases hm; exact zsN (.inr ho) h hd
 case h_3 c a b ho => cases hm; exact ztX ho h hd
 case h_4 t x ho => cases hm; exact zwU ho h hd
 case h_5 t ho =>
  split at hm
  . rename_i z hz
    obtain ⟨i, hi, hz⟩ := zhe hz
    cases hm; exact zrH ho hi hz h hd
  . cases hm
 case h_6 t x ho =>
  split at hm
  . rename_i n hn; cases hm; exact zzh ho (zij hn) h hd
  . cases hm
 case h_7 t x y ho =>
  split at hm
  . rename_i n hn hdst
    obtain ⟨i, hi, hs⟩ := zdD hn
    cases hm; exact zzj ho (by simp [zvf, hi, hs]) hdst h
  . cases hm
 case h_8 x ho => cases hm; exact ztW ho h hd
 case h_9 t x f ho =>
  split at hm
  . rename_i off hf; cases hm; exact zw1 ho (zto hf) h hd
  . cases hm
 case h_10 t x f ho =>
  split at hm
  . rename_i fs hu
    split at hm
    . rename_i fd hf
      split at hm
      . rename_i n hn; cases hm; exact ztM ho ⟨fs, fd, hu, hf, rfl, zij hn⟩ h hd
      . cases hm
    . cases hm
  . cases hm
 case h_11 t x y ho =>
  split at hm
  . rename_i e hu
    split at hm
    . rename_i s hs
      obtain ⟨i, hi, hs⟩ := zdD hs
      cases hm; exact zw2 ho ⟨e, i, hu, hi, hs⟩ h hd
    . cases hm
  . rename_i len e hu
    split at hm
    . rename_i s hs
      obtain ⟨i, hi, hs⟩ := zdD hs
      cases hm; exact zw3 ho ⟨e, i, hu, hi, hs⟩ h hd
    . cases hm
  . cases hm
 case h_12 t x y ho =>
  split at hm
  . rename_i len e hu
    split at hm
    . rename_i s n hs hn
      obtain ⟨i, hi, hs⟩ := zdD hs
      cases hm; exact zw5 ho ⟨e, i, hu, hi, hs, zij hn⟩ h hd
    . cases hm
  . rename_i hu; cases hm; exact zw4 ho hu h hd
  . cases hm
 case h_13 op t x y ty ho => exact zs6 ho hm h hd
 case h_14 op t x ho =>
  split at hm
  . cases hm; exact zxb ho h hd
  . cases hm; exact zzk ho h hd
 case h_15 s t x ho =>
  split at hm
  . rename_i d kd h1 h2; cases hm; exact zzg ho ⟨d, h1⟩ h2 h hd
  . cases hm
 case h_16 t parts ho =>
  split at hm
  . rename_i pl z hb
    split at hm
    . rename_i ps hp; cases hm; exact zwT ho hb (zm7 hp) h hd
    . cases hm
  . cases hm
 case h_17 t len parts ho =>
  split at hm
  . rename_i e hu
    split at hm
    . rename_i s z hs hz
      split at hm
      . rename_i h1 h2 h3
        obtain ⟨i, hi, hs⟩ := zdD hs
        obtain ⟨i', hi', hz⟩ := zhe hz
        rw [hi] at hi'; cases hi'
        cases hm
        exact zwV ho ⟨e, i, hu, hi, hs, by rwa [Nat.blt_eq] at h1, by simpa using h2, hz, Nat.eq_of_beq_eq_true h3⟩ h hd
      . cases hm
    . cases hm
  . cases hm
 case h_18 t x lo hi ho =>
  split at hm
  . rename_i e hu
    split at hm
    . rename_i s hs
      obtain ⟨i, hi', hs⟩ := zdD hs
      cases hm; exact zxc ho ⟨e, i, hu, hi', hs⟩ h hd
    . cases hm
  . cases hm
 case h_19 x i ho => cases hm; exact zw0 ho h hd
 case h_20 f a c ho => cases hm; exact zw7 ho h hd
 case h_21 t x ho =>
  split at hm
  . cases hm
  . rename_i d hn hu
    cases hm; exact zw8 ho ⟨d, hu, hn⟩ h hd
  . cases hm
 case h_22 t ho => cases hm; exact zw9 ho h hd
 case h_23 t x y ok ho =>
  split at hm
  . rename_i K E one ks hk
    split at hm
    . rename_i zo z hz
      obtain ⟨hT, hK⟩ := zez hk
      obtain ⟨i, zv, h1, h2, h3⟩ := zlk hz
      cases hm; exact zw6 ho ⟨_, _, i, zv, hT, hK, h1, h2, h3, fun s e => by subst e; obtain ⟨i', q1, q2⟩ := zll hz; rw [h1] at q1; cases q1; rw [h2] at q2; exact Option.some.inj q2⟩ h hd
    . cases hm
  . cases hm
 case h_24 t x y z ho =>
  split at hm
  . rename_i K E one ks hk hdst
    cases hm; exact zpy (.inl ho) ⟨_, _, zez hk⟩ hdst h
  . cases hm
 case h_25 t x y z ho =>
  split at hm
  . rename_i K E one ks hk hdst
    cases hm; exact zpy (.inr ho) ⟨_, _, zez hk⟩ hdst h
  . cases hm
 case h_26 c ho => exact zqU ho hm h hd
 case h_27 t x y ho =>
  split at hm
  . rename_i s b z hs; cases hm; exact zxa ho (zsY hs) h hd
  . cases hm
 case h_28 t x ho =>
  split at hm
  . rename_i a b hu; cases hm; exact ztZ ho ⟨a, b, hu⟩ h hd
  . cases hm
 case h_29 x isS ho =>
  split at hm
  . cases hm; simp only [MO.rt] at h; cases h
  . cases hm
 case h_30 x ho => cases hm; simp only [MO.rt] at h; cases h
 case h_31 x ho => cases hm; exact zwZ ho h hd
 case h_32 t x hi mx ho =>
  split at hm
  . rename_i e hu
    split at hm
    . rename_i s hs
      obtain ⟨i, hi', hs⟩ := zdD hs
      cases hm; exact zt0 ho ⟨e, i, hu, hi', hs⟩ h hd
    . cases hm
  . cases hm
 case h_33 t x y ho =>
  split at hm
  . rename_i K E one ks hk
    split at hm
    . rename_i zo z hz
      obtain ⟨hT, hK⟩ := zez hk
      obtain ⟨i, zv, h1, h2, h3⟩ := zlk hz
      cases hm; exact ztS ho ⟨_, _, i, zv, hT, hK, h1, h2, h3, fun s e => by subst e; obtain ⟨i', q1, q2⟩ := zll hz; rw [h1] at q1; cases q1; rw [h2] at q2; exact Option.some.inj q2⟩ h hd
    . cases hm
  . cases hm
 case h_34 t x y z ho =>
  split at hm
  . rename_i hdst
    cases hm; exact ztT ho hdst h
  . cases hm
 case h_35 => cases hm
end
def zkf (i : Nat) : List Oper -> Bool
 | [] => false
 | o :: l => match o.guard with
   | some (j, _) => (match Nat.beq j i with | true => true | false => zkf i l)
   | none => zkf i l
def zoV (all : Array Oper) (o : Oper) : Option (Option (Nat × Bool)) :=
 match o.guard with
 | none => some none
 | some (j, want) => match all[j]? with
   | some oj => match oj.dst with | some t => some (some (t, want)) | none => none
   | none => none
def zlU (P : Program) (all : Array Oper) : List Oper -> Nat -> Option (List MOp)
 | [], _ => some []
 | o :: l, i => match cOp P o, zoV all o with
   | some m, some g => (match zlU P all l (i + 1) with
     | some r => some (⟨o.dst, m, g, zkf i all.toList⟩ :: r)
     | none => none)
   | _, _ => none
theorem zm6 {C : Ctx} {all : Array Oper} : ∀ {l : List Oper} {i : Nat} {ms : List MOp}, zlU C.P all l i = some ms -> l.length = ms.length /\ ∀ t (h : t < l.length) (h' : t < ms.length), zdi C all l[t] ms[t]
 | [], i, ms, h => by simp [zlU] at h; subst h; exact ⟨rfl, fun t h => by simp at h⟩
 | o :: l, i, ms, h => by
   simp only [zlU] at h
   split at h
   . rename_i m g hm hg
     split at h
     . rename_i r hr
       cases h
       obtain ⟨h1, h2⟩ := zm6 hr
       refine ⟨by simp [h1], fun t ht ht' => ?_⟩
       cases t with
       | zero =>
         simp only [List.getElem_cons_zero]
         refine ⟨zoW hm, rfl, ?_, fun h hd => zvF hm h hd⟩
         unfold zoV at hg
         cases e : o.guard with
         | none => rw [e] at hg; simp at hg; subst hg; rfl
         | some p =>
           obtain ⟨j, want⟩ := p
           rw [e] at hg
           simp only at hg ⊢
           split at hg
           . rename_i oj hj
             split at hg
             . rename_i t ht
               simp at hg
               subst hg
               exact ⟨oj, t, hj, ht, rfl⟩
             . cases hg
           . cases hg
       | succ t => simpa using h2 t (by simpa using ht) (by simpa using ht')
     . cases h
   . cases h
def zfl : List Edge -> List Nat
 | [] => []
 | e :: l => match Region.binds .any e with | true => e.on :: zfl l | false => zfl l
theorem zhE : ∀ {l : List Edge} {p : Nat}, p ∈ zfl l ↔ ∃ e ∈ l, Region.binds .any e = true /\ e.on = p
 | [], p => by simp [zfl]
 | e :: l, p => by
   simp only [zfl]
   cases h : Region.binds .any e with
   | true =>
     simp only [List.mem_cons, zhE (l := l)]
     constructor
     . rintro (rfl | ⟨e', h1, h2⟩)
       . exact ⟨e, .inl rfl, h, rfl⟩
       . exact ⟨e', .inr h1, h2⟩
     . rintro ⟨e', rfl | h1, h2, h3⟩
       . exact .inl h3.symm
       . exact .inr ⟨e', h1, h2, h3⟩
   | false =>
     simp only [zhE (l := l), List.mem_cons]
     constructor
     . rintro ⟨e', h1, h2⟩; exact ⟨e', .inr h1, h2⟩
     . rintro ⟨e', rfl | h1, h2⟩
       . rw [h] at h2; cases h2.1
       . exact ⟨e', h1, h2⟩
def zlq (i : Nat) : List Nat -> Bool
 | [] => true
 | p :: l => match Nat.blt p i with | true => zlq i l | false => false
def zj6 : List Oper -> Nat -> Option (List (List Nat))
 | [], _ => some []
 | o :: l, i => match zlq i (zfl o.after.toList) with
   | true => (match zj6 l (i + 1) with | some r => some (zfl o.after.toList :: r) | none => none)
   | false => none
theorem zkC {i : Nat} : ∀ {l : List Nat}, zlq i l = true -> ∀ p ∈ l, p < i
 | [], _, p, h => by cases h
 | q :: l, h, p, hp => by
   simp only [zlq] at h
   split at h
   . rename_i hq
     rw [Nat.blt_eq] at hq
     rcases List.mem_cons.1 hp with rfl | hp
     . exact hq
     . exact zkC h p hp
   . cases h
theorem zm8 : ∀ {l : List Oper} {i : Nat} {pre : List (List Nat)}, zj6 l i = some pre -> (∀ (j : Nat) (o : Oper), l[j]? = some o -> pre.getD j [] = zfl o.after.toList /\ ∀ p ∈ zfl o.after.toList, p < i + j) /\ ∀ j, l.length <= j -> pre.getD j [] = []
 | [], i, pre, h => by simp [zj6] at h; subst h; exact ⟨fun j o h => by simp at h, fun j _ => by simp⟩
 | o :: l, i, pre, h => by
   simp only [zj6] at h
   split at h
   . rename_i hlt
     split at h
     . rename_i r hr
       cases h
       obtain ⟨h1, h2⟩ := zm8 hr
       refine ⟨fun j o' hj => ?_, fun j hj => ?_⟩
       . cases j with
         | zero => simp at hj; subst hj; exact ⟨by simp, zkC hlt⟩
         | succ j =>
           obtain ⟨q1, q2⟩ := h1 j o' (by simpa using hj)
           exact ⟨by simpa using q1, fun p hp => by have := q2 p hp; omega⟩
       . cases j with
         | zero => simp at hj
         | succ j => simpa using h2 j (by simpa using hj)
     . cases h
   . cases h
theorem zqV {ops : Array Oper} {pre : List (List Nat)} (h : zj6 ops.toList 0 = some pre) : zr8 ops pre := by
 obtain ⟨h1, h2⟩ := zm8 h
 refine ⟨fun j o hj p => ?_, fun j p hp => ?_⟩
 . obtain ⟨q1, _⟩ := h1 j o (by simpa using hj)
   rw [q1, zhE]
   simp
 . by_cases hj : j < ops.size
   . obtain ⟨q1, q2⟩ := h1 j ops[j] (by simp [hj])
     rw [q1] at hp
     have := q2 p hp
     omega
   . rw [h2 j (by simp; omega)] at hp; cases hp
def comp (P : Program) : Code -> Option MC
 | .skip => some .skip
 | .region _ ops drawn => match zlU P ops ops.toList 0 with
   | some ms => (match drawn with
     | false => some (.reg ms)
     | true => match zj6 ops.toList 0 with | some pre => some (.drw ms pre) | none => none)
   | none => none
 | .seq a b => match comp P a, comp P b with | some a, some b => some (.seq a b) | _, _ => none
 | .cond x a b => match comp P a, comp P b with | some a, some b => some (.cond (cX x) a b) | _, _ => none
 | .block id a => match comp P a with | some a => some (.blk id a) | none => none
 | .loop a => match comp P a with | some a => some (.loop 0 a) | none => none
 | .exit id => some (.exit id)
 | .ret => some .ret
 | .rangeFunc f ps a b => match comp P a, comp P b with | some a, some b => some (.rng (cX f) ps.toList a b 0 0 .skip) | _, _ => none
 | _ => none
def zmP : MO -> MO
 | .arl op x y => .ar op x y
 | .cmpl op x y => .cmp op x y
 | .pcall f xs => .call f xs
 | m => m
def zcw : List MOp -> List MOp
 | [] => []
 | m :: l => { m with m := zmP m.m } :: zcw l
theorem zfP : ∀ (l : List MOp), (zcw l).length = l.length
 | [] => rfl
 | m :: l => by simp [zcw, zfP l]
theorem zhX : ∀ (l : List MOp) (t : Nat) (h : t < l.length) (h' : t < (zcw l).length), (zcw l)[t] = { l[t] with m := zmP l[t].m }
 | [], t, h, _ => by simp at h
 | m :: l, 0, _, _ => rfl
 | m :: l, t + 1, h, h' => by
   simp only [zcw, List.getElem_cons_succ]
   exact zhX l t (by simpa using h) (by simpa [zcw] using h')
theorem zdi.lit {C : Ctx} {ops : Array Oper} {o : Oper} {m : MOp} (h : zdi C ops o { m with m := zmP m.m }) : zdi C ops o m := by
 obtain ⟨d, mm, g, sp⟩ := m
 cases mm
 case arl op x y =>
  obtain ⟨t, ox, oy, ty, ho, rfl, rfl⟩ := h.sh.ar _ _ _ rfl
  exact ⟨⟨fun _ _ e => (by cases e), fun _ _ e => (by cases e), fun _ e => (by cases e), fun _ e => (by cases e), fun _ _ _ e => (by cases e), fun _ _ _ e => (by cases e)⟩, h.d, h.g, fun hr hd => zwS ho hr hd⟩
 case cmpl op x y =>
  obtain ⟨t, ox, oy, ty, ho, rfl, rfl⟩ := h.sh.cmp _ _ _ rfl
  exact ⟨⟨fun _ _ e => (by cases e), fun _ _ e => (by cases e), fun _ e => (by cases e), fun _ e => (by cases e), fun _ _ _ e => (by cases e), fun _ _ _ e => (by cases e)⟩, h.d, h.g, fun hr hd => ztL ho hr hd⟩
 case pcall f xs =>
  obtain ⟨fx, ax, ats, ho, rfl, rfl⟩ := h.sh.call _ _ rfl
  exact ⟨⟨fun _ _ e => (by cases e), fun _ _ e => (by cases e; exact ⟨fx, ax, ats, ho, rfl, rfl⟩), fun _ e => (by cases e), fun _ e => (by cases e), fun _ _ _ e => (by cases e), fun _ _ _ e => (by cases e)⟩, h.d, h.g, fun hr hd => by simp only [MO.rt] at hr; cases hr⟩
 all_goals exact h
theorem zh1.lit {C : Ctx} {ops : Array Oper} {l : List MOp} (h : zh1 C ops (zcw l)) : zh1 C ops l := by
 refine ⟨by rw [h.len, zfP], fun t ht ht' => ?_⟩
 obtain ⟨o, h1, h2⟩ := h.ok t ht (by rw [zfP]; exact ht')
 rw [zhX l t ht'] at h2
 exact ⟨o, h1, h2.lit⟩
def za7 : MC -> MC
 | .seq a b => .seq (za7 a) (za7 b)
 | .join _ a b => .seq (za7 a) (za7 b)
 | .cond x a b => .cond x (za7 a) (za7 b)
 | .blk id a => .blk id (za7 a)
 | .loop _ a => .loop 0 (za7 a)
 | .rng f ps a b _ _ _ => .rng f ps (za7 a) (za7 b) 0 0 .skip
 | .gh _ a => za7 a
 | .skip => .skip
 | .reg l => .reg (zcw l)
 | .drw l p => .drw (zcw l) p
 | .exit i => .exit i
 | .ret => .ret
structure zul (P : Program) (n N : Nat) (it : MC) : Prop where
 ok : ∃ fn code, P.funcs[n]? = some fn /\ fn.body = some code /\ fn.ntmps = N /\ comp P code = some (za7 it) /\ fn.results = #[]
 ent : zcp P n
def Its (P : Program) : MC -> Prop
 | .seq a b => Its P a /\ Its P b
 | .join _ a b => Its P a /\ Its P b
 | .cond _ a b => Its P a /\ Its P b
 | .blk _ a => Its P a
 | .loop _ a => Its P a
 | .rng _ _ a b n N it => Its P a /\ Its P b /\ zul P n N it /\ Its P it
 | .gh _ a => Its P a
 | _ => True
theorem ziu {P : Program} {id : Nat} {ops : Array Oper} {drawn : Bool} {mc : MC} (h : comp P (.region id ops drawn) = some mc) : zbk P (.region id ops drawn) mc := by
 simp only [comp] at h
 split at h
 . rename_i ms hms
   have hr : ∀ C : Ctx, C.P = P -> zh1 C ops ms := fun C hP => by
    subst hP
    obtain ⟨h1, h2⟩ := zm6 hms
    exact ⟨by simpa using h1, fun t ht ht' => ⟨ops[t], by simp [ht], by have := h2 t (by simpa using ht) ht'; simpa using this⟩⟩
   split at h
   . cases h; exact .reg hr
   . split at h
     . rename_i pre hp; cases h; exact .drw hr (zqV hp)
     . cases h
 . cases h
theorem zgl {P : Program} : ∀ {mc : MC} {code : Code}, comp P code = some (za7 mc) -> Its P mc -> zbk P code mc := by
 intro mc
 induction mc with
 | gh g a ih => intro code h hi; exact .gh (ih h hi)
 | skip => intro code h _; cases code <;> simp only [comp, za7] at h <;> (try (repeat' (split at h)) <;> cases h) <;> exact .skip
 | reg l =>
   intro code h _
   cases code
   case region id ops drawn =>
    simp only [za7] at h
    have := ziu h
    cases this with
    | reg hr => exact .reg fun C hC => (hr C hC).lit
   all_goals (simp only [comp, za7] at h; (repeat' (split at h)) <;> cases h)
 | drw l p =>
   intro code h _
   cases code
   case region id ops drawn =>
    simp only [za7] at h
    have := ziu h
    cases this with
    | drw hr hd => exact .drw (fun C hC => (hr C hC).lit) hd
   all_goals (simp only [comp, za7] at h; (repeat' (split at h)) <;> cases h)
 | seq a b ih1 ih2 =>
   intro code h hi
   cases code
   case seq x y =>
    simp only [comp, za7] at h
    split at h
    . rename_i a' b' h1 h2; cases h; exact .seq (ih1 h1 hi.1) (ih2 h2 hi.2)
    . cases h
   all_goals (simp only [comp, za7] at h; (repeat' (split at h)) <;> cases h)
 | join n a b ih1 ih2 =>
   intro code h hi
   cases code
   case seq x y =>
    simp only [comp, za7] at h
    split at h
    . rename_i a' b' h1 h2; cases h; exact .join (ih1 h1 hi.1) (ih2 h2 hi.2)
    . cases h
   all_goals (simp only [comp, za7] at h; (repeat' (split at h)) <;> cases h)
 | cond x a b ih1 ih2 =>
   intro code h hi
   cases code
   case cond c y z =>
    simp only [comp, za7] at h
    split at h
    . rename_i a' b' h1 h2; cases h; exact .cond (ih1 h1 hi.1) (ih2 h2 hi.2)
    . cases h
   all_goals (simp only [comp, za7] at h; (repeat' (split at h)) <;> cases h)
 | blk id a ih =>
   intro code h hi
   cases code
   case block i y =>
    simp only [comp, za7] at h
    split at h
    . rename_i a' h1; cases h; exact .blk (ih h1 hi)
    . cases h
   all_goals (simp only [comp, za7] at h; (repeat' (split at h)) <;> cases h)
 | loop n a ih =>
   intro code h hi
   cases code
   case loop y =>
    simp only [comp, za7] at h
    split at h
    . rename_i a' h1; cases h; exact .loop (ih h1 hi)
    . cases h
   all_goals (simp only [comp, za7] at h; (repeat' (split at h)) <;> cases h)
 | exit i => intro code h _; cases code <;> simp only [comp, za7] at h <;> (try (repeat' (split at h)) <;> cases h) <;> exact .exit
 | ret => intro code h _; cases code <;> simp only [comp, za7] at h <;> (try (repeat' (split at h)) <;> cases h) <;> exact .ret
 | rng f ps a b n N it ih1 ih2 ih3 =>
   intro code h hi
   cases code
   case rangeFunc g qs x y =>
    simp only [comp, za7] at h
    split at h
    . rename_i a' b' h1 h2
      cases h
      obtain ⟨i1, i2, i3, i4⟩ := hi
      obtain ⟨fn, code, e1, e2, e3, e4, e5⟩ := i3.ok
      exact .rng (ih1 h1 i1) (ih2 h2 i2) e1 e2 e3 e5 i3.ent (ih3 e4 i4)
    . cases h
   all_goals (simp only [comp, za7] at h; (repeat' (split at h)) <;> cases h)
def cRV (P : Program) : ResultVar -> Option RV
 | .tmp t => some (.t t)
 | .cell a t => match zkt P t with | some n => some (.c a n) | none => none
def zhr (P : Program) : List ResultVar -> Option (List RV)
 | [] => some []
 | r :: l => match cRV P r, zhr P l with | some v, some vs => some (v :: vs) | _, _ => none
theorem zj7 {P : Program} : ∀ {l : List ResultVar} {vs : List RV}, zhr P l = some vs -> zfc P l vs
 | [], vs, h => by simp [zhr] at h; simp [zfc, h]
 | r :: l, vs, h => by
   simp only [zhr] at h
   split at h
   . rename_i v vs' h1 h2
     cases h
     refine ⟨v, vs', rfl, ⟨?_⟩, zj7 h2⟩
     cases r with
     | tmp t => simp [cRV] at h1; subst h1; rfl
     | cell a t =>
       simp only [cRV] at h1
       split at h1
       . rename_i n hn; cases h1; exact ⟨rfl, zij hn⟩
       . cases h1
   . cases h
structure zar (P : Program) (f : FuncId) (N : Nat) (mc : MC) (rs : List RV) : Prop where
 ok : ∃ fn code, P.funcs[f]? = some fn /\ fn.body = some code /\ fn.ntmps = N /\ comp P code = some (za7 mc) /\ zhr P fn.results.toList = some rs
 its : Its P mc
 ent : zcp P f
def zrG : zct := fun _ _ _ => .fail
theorem zns (E : Value -> Ending) (P : Program) (G : Nat -> Option SV) : zf7 E P G zrG := fun _ _ _ _ _ _ _ _ _ h => by cases h
theorem zad {P : Program} {G : Nat -> Option SV} {f : FuncId} {N : Nat} {mc : MC} {rs : List RV} (hmix : P.follows .mixedOrders = true) (hf : zar P f N mc rs) (L : zaa) (hN : Nat.ble L.args.length N = true) (hout : Nat.beq L.out.length L.foot.length = true)
 {S : zct} (hS : SOk P G S) (LA : Nat -> zcA) (JA : Nat -> zf6)
 (h : fTs (zbm L.args 0) fun t => fOs (zbm (zdX L.foot) 0) fun o => zb5 L.foot.length fun nx => run ⟨P, G, N, none, nx, none, S, LA, JA, zrG⟩ mc ⟨t, o, nx⟩ (zxl rs L)) : zaa.ok P G f L := by
  rw [zjq, zfA, zbf] at h
  obtain ⟨fn, code, h1, h2, rfl, h4, h5⟩ := hf.ok
  exact zue hmix h1 h2 hf.ent (zgl h4 hf.its) (zj7 h5) (by simpa using hN) (Nat.eq_of_beq_eq_true hout) hS LA JA (zns _ _ _) h
theorem zeY {P : Program} {f : FuncId} {fn : Func} {c : Code} (hf : P.funcs[f]? = some fn) (hname : (fn.name == "runtime.NumGoroutine") = false) (hb : fn.body = some c) : zcp P f := by
 intro args w
 have h1 : fn.name ≠ "runtime.NumGoroutine" := by simpa using hname
 simp [callFunc, hf, h1, hb, mark]
theorem zar.of {P : Program} {f : FuncId} {fn : Func} {N : Nat} {mc : MC} {rs : List RV} (hf : P.funcs[f]? = some fn) (hname : (fn.name == "runtime.NumGoroutine") = false) (hN : fn.ntmps = N)
 (hc : (match fn.body with | some c => comp P c | none => none) = some (za7 mc)) (hr : zhr P fn.results.toList = some rs) (hi : Its P mc) : zar P f N mc rs := by
  cases hb : fn.body with
  | none => rw [hb] at hc; cases hc
  | some c =>
    rw [hb] at hc
    exact ⟨⟨fn, c, hf, hb, hN, hc, hr⟩, hi, zeY hf hname hb⟩
theorem zar.it {P : Program} {f : FuncId} {N : Nat} {mc : MC} (h : zar P f N mc []) : zul P f N mc := by
 obtain ⟨fn, code, h1, h2, h3, h4, h5⟩ := h.ok
 refine ⟨⟨fn, code, h1, h2, h3, h4, ?_⟩, h.ent⟩
 cases hl : fn.results.toList with
 | nil => simpa using hl
 | cons x l =>
   rw [hl] at h5
   simp only [zhr] at h5
   (repeat' (split at h5)) <;> cases h5
theorem i64_in {n : Int} (h1 : -9223372036854775808 <= n) (h2 : n < 9223372036854775808) : (ULift.up n).down = IntKind.i64.wrap n := by
 show n = IntKind.i64.wrap n
 exact (IntWalk.i64_in n ⟨h1, by omega⟩).symm
theorem exI {α : Sort _} {p q : α -> Prop} {x : α} (h : p x) (k : q x) : ∃ x, p x /\ q x := ⟨x, h, k⟩
abbrev SFn := List SV -> (zaa -> RT) -> RT
def FnS (P : Program) (G : Nat -> Option SV) (f : FuncId) (sf : SFn) : Prop := ∀ args k gt go R v os n, (sf args k).Runs gt go R v os n -> ∃ L R', zaa.ok P G f L /\ (k L).Runs gt go R' v os n
def zoI (l : List (FuncId × SFn)) : zct := fun f args k => match zav f l with | some sf => sf args k | none => .fail
def Tab (P : Program) (G : Nat -> Option SV) : List (FuncId × SFn) -> Prop
 | [] => True
 | (f, sf) :: l => FnS P G f sf /\ Tab P G l
theorem Tab.ok {P : Program} {G : Nat -> Option SV} : ∀ {l : List (FuncId × SFn)}, Tab P G l -> SOk P G (zoI l) := by
 intro l h f args k gt go R v os n hr
 unfold zoI at hr
 split at hr
 . rename_i sf hs
   have : ∀ (l : List (FuncId × SFn)), Tab P G l -> zav f l = some sf -> FnS P G f sf := by
    intro l
    induction l with
    | nil => intro _ h; simp [zav] at h
    | cons p l ih =>
      obtain ⟨g, sg⟩ := p
      intro h1 h2
      rw [zaI] at h2
      by_cases e : g = f
      . subst e; rw [if_pos rfl] at h2; cases h2; exact h1.1
      . rw [if_neg e] at h2; exact ih h1.2 h2
   exact this l h hs args k gt go R v os n hr
 . cases hr
theorem aj {p q : Prop} (k : q) (h : p := by first | with_reducible rfl | exact ⟨by with_reducible rfl, by with_reducible rfl⟩ | exact (show zbH _ _ = true by kernel_rfl) | exact rfl | exact ⟨rfl, rfl⟩ | decide | omega) : Sd p /\ q := ⟨⟨h⟩, k⟩
theorem w3 {p : Prop} (h : p := by first | exact ⟨trivial, trivial, trivial⟩ | (refine ⟨rfl, ?_⟩; simp; first | done | fail) | (simp [zai.len]; first | done | fail)) : p := h
theorem nx {p q : Prop} (h : p -> False := by (with_reducible intro h); first | exact (zvz h (by with_reducible assumption)).elim | exact (zvz (by with_reducible assumption) h).elim | exact (zsl h (by with_reducible assumption)).elim | exact (zsl (by with_reducible assumption) h).elim | exact (zsm h (by with_reducible assumption)).elim | exact (zsm (by with_reducible assumption) h).elim | exact absurd (by with_reducible assumption) h | exact absurd h (by with_reducible assumption) | exact absurd h (by decide) | (revert h; simp; first | done | fail)) : p -> q := fun a => (h a).elim
theorem ny {p q : Prop} (h : p -> False := by (with_reducible intro h); first | exact absurd h (by decide) | (revert h; simp; first | done | fail)) : p -> q := fun a => (h a).elim
abbrev mt (g d s : Nat) : MOp := ⟨some d, .mv (.t s), some (g, true), false⟩
abbrev mf (g d s : Nat) : MOp := ⟨some d, .mv (.t s), some (g, false), false⟩
abbrev gt_ (g d : Nat) (m : MO) : MOp := ⟨some d, m, some (g, true), false⟩
abbrev gf (g d : Nat) (m : MO) : MOp := ⟨some d, m, some (g, false), false⟩
abbrev sm (d s : Nat) : MOp := ⟨some d, .mv (.t s), none, true⟩
abbrev fc (n : Nat) (l : List X) : MO := .call (.k (.fn (.func n) [] [])) l
abbrev zI : List SV := [.int .i64 0, .int .i64 0, .int .i64 0, .int .i64 0, .int .i64 0, .int .i64 0, .int .i64 0, .int .i64 0, .int .i64 0, .int .u32 0, .int .u32 0, .int .u32 0, .int .u32 0, .int .u32 0, .int .u32 0]
abbrev ia (s a b : Nat) : MO := .ixa s (.t a) (.t b)
abbrev ls (n a : Nat) : MO := .ld (some n) (.t a)
abbrev ln (a : Nat) : MO := .ld none (.t a)
abbrev pf (a b : Nat) : MO := .pick (.t a) (.t b) (.k .ff)
abbrev pt (a b : Nat) : MO := .pick (.t a) (.k .tt) (.t b)
abbrev fl (n a : Nat) : MO := .fld n (.t a)
abbrev ex_ (n a : Nat) : MO := .ext n (.t a)
abbrev cc (op : BinOp) (a : Nat) (k : Int) : MO := .cmp op (.t a) (.k (.int .i64 k))
abbrev ct (op : BinOp) (a b : Nat) : MO := .cmp op (.t a) (.t b)
abbrev ac (op : BinOp) (a : Nat) (k : Int) : MO := .ar op (.t a) (.k (.int .i64 k))
abbrev at_ (op : BinOp) (a b : Nat) : MO := .ar op (.t a) (.t b)
abbrev oo (d : Nat) (m : MO) : MOp := ⟨some d, m, none, false⟩
abbrev om (d s : Nat) : MOp := ⟨some d, .mv (.t s), none, false⟩
theorem ai {p q : Prop} (h : p) (k : q) : Sd p /\ q := And.intro (Sd.mk h) k
theorem tv : True := trivial
theorem fk {P : Program} {f : FuncId} {fn : Func} {N : Nat} {mc : MC} {rs : List RV} (hf : P.funcs[f]? = some fn) (hi : Its P mc) (h1 : (fn.name == "runtime.NumGoroutine") = false := by kernel_rfl) (h2 : fn.ntmps = N := by kernel_rfl) (h3 : (match fn.body with | some c => comp P c | none => none) = some (za7 mc) := by kernel_rfl) (h4 : zhr P fn.results.toList = some rs := by kernel_rfl) : zar P f N mc rs := .of hf h1 h2 h3 h4 hi
abbrev o (d : Option Nat) (m : MO) : MOp := ⟨d, m, none, false⟩
abbrev os (d : Option Nat) (m : MO) : MOp := ⟨d, m, none, true⟩
abbrev og (t : Nat) (b : Bool) (d : Option Nat) (m : MO) : MOp := ⟨d, m, some (t, b), false⟩
abbrev ogs (t : Nat) (b : Bool) (d : Option Nat) (m : MO) : MOp := ⟨d, m, some (t, b), true⟩
abbrev ki (n : Int) : X := .k (.int .i64 n)
abbrev kt : X := .k .tt
abbrev kf : X := .k .ff
abbrev kz (n : Int) : SV := .int .i64 n
end Go.Sx
namespace Go.Sx
open Go
open Classical
def zsO (v : SV) (L : zaa) : RT :=
 mSV ⟨ze2 L.out 0, []⟩ L.res v fun ρ => zfX ρ (zby L.out 0 ++ zbm L.new L.foot.length) fun ρ => zjo L.foot.length (L.foot.length + L.new.length) ρ
def zxg (L : zaa) : Ex -> St -> Prop
 | .pan v, s => (zsO v L).vc (zaM s.t) (zax s.o) [] fun _ _ _ _ => True
 | _, _ => False
theorem zmk {F : Fence} {n : Nat} {P : Program} {fn : Func} {tmps : Array Value} {R : Ending -> World -> Prop} {ch : List PanicEntry} : ∀ (ds : List Deferred) (w : World), ds.Nodup -> (∀ d ∈ ds, ∃ D, d = { target := .collected D, args := #[] } /\ w.heap[D]? = some (.deferred (some []))) →
 (∀ w' : World, w'.heap.size = w.heap.size -> w'.os = w.os -> w'.tape = w.tape -> w'.output = w.output -> (∀ b, { target := .collected b, args := #[] } ∉ ds -> w'.heap[b]? = w.heap[b]?) →
  R (.panicked ch) w') -> LeavesInM F n P fn tmps R ds (.panicking ch) w
  | [], w, _, _, h => h w rfl rfl rfl rfl (fun _ _ => rfl)
  | d :: ds, w, hnd, hd, h => by
    obtain ⟨D, rfl, hD⟩ := hd d (by simp)
    have hnd' := List.nodup_cons.1 hnd
    have hput : ∀ b, b ≠ D -> (w.putObj D (.deferred none)).heap[b]? = w.heap[b]? := fun b hb => World.putObj_heap_other hb
    refine ⟨by simp, .inl ⟨D, _, rfl, run_takeDeferred hD, zmk ds _ hnd'.2 (fun d' hd' => ?_) (fun w' h1 h2 h3 h4 h5 => ?_)⟩⟩
    . obtain ⟨D', rfl, hD'⟩ := hd d' (by simp [hd'])
      refine ⟨D', rfl, (hput D' (fun e => ?_)).trans hD'⟩
      subst e
      exact hnd'.1 hd'
    . refine h w' (h1.trans (by simp [World.putObj])) h2 h3 h4 (fun b hb => ?_)
      simp only [List.mem_cons, not_or] at hb
      exact (h5 b hb.2).trans (hput b (fun e => hb.1 (by rw [e])))
theorem zrZ {P : Program} {G : Nat -> Option SV} {f : FuncId} {fn : Func} {code : Code} {mc : MC} {L : zaa} (hmix : P.follows .mixedOrders = true) (hf : P.funcs[f]? = some fn) (hb : fn.body = some code)
 (hent : zcp P f) (hmc : zbk P code mc) (hN : L.args.length <= fn.ntmps) (hout : L.out.length = L.foot.length)
 {S : zct} (hS : SOk P G S) (LA : Nat -> zcA) (JA : Nat -> zf6) {PS : zct} (hPS : zf7 panicked P G PS) (h : run ⟨P, G, fn.ntmps, none, L.foot.length, none, S, LA, JA, PS⟩ mc (entry L) (zxg L)) : zaa.okE panicked P G f L := by
  refine ⟨hent, hout, fun β own S0 w vs hβ hmem hargs hgl => ?_⟩
  have hlen := zaL _ _ hargs
  simp at hlen
  let C : Ctx := { P := P, G := G, N := fn.ntmps, rnd := none, m0 := L.foot.length, Y := none, S := S, L := LA, J := JA, PS := PS, sok := hS, psok := hPS, w0 := w, X0 := za9 L.go0 own, S0 := S0, β0 := β }
  have hgo : zax (zbm (zdX L.foot) 0) = L.go0 := funext fun i => by rw [zgV]; simp [zaa.go0]
  have H0 : zaA C (entry L) β own S0 { tmps := vs ++ Array.replicate (fn.ntmps - vs.size) undef, defers := [] } w := by
   refine ⟨⟨fun t s e => ?_, by simp only [entry]; rw [hgo]; exact hmem, Fr.refl _ _, fun id b h1 h2 => ?_, fun _ e => e, fun _ e => .inl e, ?_, ⟨⟨by simp [mks], fun d hd => by simp [mks] at hd⟩, rfl⟩, hgl⟩, hβ, Nat.le_refl _, fun i B _ e => e⟩
   . simp only [entry, zaM, zcb, Nat.zero_le, if_true, Nat.sub_zero] at e
     rw [zbx] at e
     obtain ⟨y, h1, h2⟩ := zd6 (i := t) _ _ _ hargs e
     have ht : t < vs.size := by
      have := (List.getElem?_eq_some_iff.1 h1).1
      simpa using this
     have : (vs ++ Array.replicate (fn.ntmps - vs.size) undef).getD t undef = y := by
      rw [Array.getD_eq_getD_getElem?, Array.getElem?_append_left ht]
      simp at h1
      rw [h1]; rfl
     simp only [this]
     exact h2
   . left
     simp only [entry] at h1
     rw [hgo] at h1
     exact ⟨id, h1, h2⟩
   . show (vs ++ Array.replicate (fn.ntmps - vs.size) undef).size = fn.ntmps
     simp; omega
  have hwp := zhU (C := C) hmix hmc rfl (fun y e => by cases e) h H0
  refine callsIn_wide.1 (callsIn_of_wp_marks (F := Fence.wide) (n := 0) hf hb trivial (wpIn_mono (F := Fence.wide) hwp ?_) rfl)
  have fin : ∀ s' β1 own1 S1 a' w' v x, ((zsO v L).vc (zaM s'.t) (zax s'.o) [] fun _ _ _ _ => True) -> zaA C s' β1 own1 S1 a' w' -> rel β1 w' S1 v x →
   LeavesInM Fence.wide 0 P fn a'.tmps (fun e w' => ∃ v β' own' S', e = panicked v /\ zgI L.foot.length β w S0 β' w' S' /\ (∀ id, L.foot.length + L.new.length <= id -> β' id = none) ∧
    rel β' w' S' L.res v /\ zaw β' own' S' L.go1 w' /\ Fr (za9 L.go0 own) w w' /\ (∀ id b, (L.go1 id).isSome -> own' id b -> za9 L.go0 own b \/ w.heap.size <= b) ∧
    (∀ b, S' b -> S0 b \/ za9 L.go0 own b \/ w.heap.size <= b)) a'.defers (.panicking [{ v := x, recovered := false }]) w' := by
    intro s' β1 own1 S1 a' w' v x hk H hx
    obtain ⟨hdf, hms⟩ := H.h.df
    rw [zgg hms] at hdf
    refine zmk a'.defers w' hdf.nd (fun d hd => ?_) (fun w2 h1 h2 h3 h4 h5 => ?_)
    . obtain ⟨D, e1, _, e3, _⟩ := hdf.at_ d hd
      exact ⟨D, e1, e3⟩
    . have H2 := H.h.undf h1 h2 h3 h4 hdf h5
      have hx2 : rel β1 w2 S1 v x := zaH ⟨fun _ _ e => e, fun _ e => e, fun b hb => h5 b (fun e => by
       obtain ⟨D, e1, _, _, e4, _⟩ := hdf.at_ _ e
       injection e1 with e1
       injection e1 with e1
       subst e1
       exact e4 hb)⟩ _ _ hx
      obtain ⟨R, v', os, k, hk, _⟩ := RT.runs_of_vc _ _ _ hk
      obtain ⟨ρ1, R2, hk, l1, i1, m1⟩ := zdJ _ hk
      obtain ⟨ρ2, R3, hk, l2, i2, m2⟩ := zdv _ hk
      obtain ⟨e1, e2, e3⟩ := zfU hk
      have hinj : ρ2.inj := i2 (i1 (fun i i' j q q' => by
       have := zca _ _ _ _ q
       have := zca _ _ _ _ q'
       simp_all))
      obtain ⟨hm, ho, hl⟩ := zid H2 hinj _ m2 e1
      have hgo1 : ∀ i, zav i (zby L.out 0 ++ zbm L.new L.foot.length) = L.go1 i := fun i => by
       rw [zdd, zdu, zcb]
       simp only [Nat.zero_le, if_true, Nat.sub_zero, zaa.go1]
       by_cases c : i < L.foot.length
       . rw [if_pos c, if_neg (by omega)]
         cases zaQ L.out i with
         | none => rfl
         | some q => cases q <;> rfl
       . rw [if_neg c, if_pos (by omega)]
         have : zaQ L.out i = none := by rw [zbx]; simp; omega
         rw [this]; rfl
      have hgo1' : (fun i => zav i (zby L.out 0 ++ zbm L.new L.foot.length)) = L.go1 := funext hgo1
      rw [hgo1'] at hm
      refine ⟨_, bOf ρ2 β1 (zky (zby L.out 0 ++ zbm L.new L.foot.length)), zb8 ρ2 own1, _, rfl, ⟨fun i B hi e => ?_, fun b hb => .inl (H2.s0 b hb), fun b hb => ?_⟩, fun i hi => by simp [bOf, zdG e2 i hi],
       m1 ρ2 l2 (zet H2.mem) _ _ hx2, hm, H2.fr, fun id b hi hb => ?_, fun b hb => ?_⟩
      . simp only [bOf] at e
        split at e
        . rename_i j hj
          have := zb9 e3 i _ hi hj
          cases this
          exact H.b0 i B hi e
        . rename_i hj
          have := zb9 e3 i _ hi hj
          cases this
        . cases e
      . exact H2.fr.block b (hmem.sz b hb) (fun ⟨i, q1, q2⟩ => hmem.st i b q1 q2 hb)
      . obtain ⟨j, q1, q2⟩ := ho id b (by rw [hgo1]; exact hi) hb
        exact H2.own0 j b q1 q2
      . rcases hb with hb | hb
        . exact H2.s1 b hb
        . obtain ⟨j, q1, q2⟩ := hl b hb
          exact .inr (H2.own0 j b q1 q2)
  intro e a' w' hp
  cases e with
  | normal => obtain ⟨s', β1, own1, S1, hk, H⟩ := hp; exact hk.elim
  | ret => obtain ⟨s', β1, own1, S1, hk, H⟩ := hp; exact hk.elim
  | exit i => obtain ⟨s', β1, own1, S1, hk, H⟩ := hp; exact hk.elim
  | goto l => exact hp.elim
  | panic c => obtain ⟨s', β1, own1, S1, v, x, rfl, hk, H, hx⟩ := hp; exact fin s' β1 own1 S1 a' w' v x hk H hx
  | outgrown => exact hp.elim
theorem zv3 {P : Program} {G : Nat -> Option SV} {f : FuncId} {N : Nat} {mc : MC} {rs : List RV} (hmix : P.follows .mixedOrders = true) (hf : zar P f N mc rs) (L : zaa) (hN : Nat.ble L.args.length N = true) (hout : Nat.beq L.out.length L.foot.length = true)
 {S : zct} (hS : SOk P G S) (LA : Nat -> zcA) (JA : Nat -> zf6)
 (h : fTs (zbm L.args 0) fun t => fOs (zbm (zdX L.foot) 0) fun o => zb5 L.foot.length fun nx => run ⟨P, G, N, none, nx, none, S, LA, JA, zrG⟩ mc ⟨t, o, nx⟩ (zxg L)) : zaa.okE panicked P G f L := by
  rw [zjq, zfA, zbf] at h
  obtain ⟨fn, code, h1, h2, rfl, h4, h5⟩ := hf.ok
  exact zrZ hmix h1 h2 hf.ent (zgl h4 hf.its) (by simpa using hN) (Nat.eq_of_beq_eq_true hout) hS LA JA (zns _ _ _) h
end Go.Sx
namespace Go.Proofs.YtlahifihaeafbaaGreatDoor
open Go Go.Sx
section
theorem mix : Tryz.prog.follows .mixedOrders = true := by kernel_rfl
def noL : Nat -> zcA := fun _ => .rounds 0
def noJ : Nat -> zf6 := fun _ => .plain
structure HI where
 op : Int
 sub : Int
 frm : Int
 ty : Int
 d : Int
 a : Int
 b : Int
 c : Int
 k : Int
 i : Int
 ch : Int
 v0 : Int
 v1 : Int
 v2 : Int
 v3 : Int
 deriving DecidableEq, Inhabited
structure HR where
 vec : Bool
 n : Int
 deriving DecidableEq, Inhabited
structure FM where
 name : ByteArray
 fields : Int
 rule : Int
abbrev ku (n : Int) : SV := .int .u32 n
def HI.cells : HI -> List SV
 | ⟨op, sub, frm, ty, d, a, b, c, k, i, ch, v0, v1, v2, v3⟩ => [kz op, kz sub, kz frm, kz ty, kz d, kz a, kz b, kz c, kz k, ku i, ku ch, ku v0, ku v1, ku v2, ku v3]
def HI.pv : HI -> List PV
 | ⟨op, sub, frm, ty, d, a, b, c, k, i, ch, v0, v1, v2, v3⟩ => [.int .i64 op, .int .i64 sub, .int .i64 frm, .int .i64 ty, .int .i64 d, .int .i64 a, .int .i64 b, .int .i64 c, .int .i64 k, .int .u32 i, .int .u32 ch, .int .u32 v0, .int .u32 v1, .int .u32 v2, .int .u32 v3]
def HR.cells : HR -> List SV
 | ⟨b, n⟩ => [.bool b, kz n]
def HR.pv : HR -> List PV
 | ⟨b, n⟩ => [.bool b, .int .i64 n]
def FM.cells : FM -> List SV
 | ⟨n, f, r⟩ => [.str n, kz f, kz r]
def ipv (n : Int) : List PV := [.int .i64 n]
section
variable {gt : GT} {go : GO} {R : List Sx.Loc} {v : Option SV} {os : List (Nat × Option SO)} {k : Nat}
def asI : SV -> (Int -> RT) -> RT
 | .int .i64 n, f => f n
 | _, _ => .fail
theorem zaU {s : SV} {f : Int -> RT} (h : (asI s f).Runs gt go R v os k) : ∃ x R', (f x).Runs gt go R' v os k := by
 unfold asI at h
 split at h
 . exact ⟨_, _, h⟩
 . cases h
def asU : SV -> (Int -> RT) -> RT
 | .int .u32 n, f => f n
 | _, _ => .fail
open Classical in
noncomputable def asB : SV -> (Bool -> RT) -> RT
 | .tt, f => f true
 | .ff, f => f false
 | .bool b, f => f b
 | .pr p, f => f (decide p)
 | _, _ => .fail
theorem zh4 {s : SV} {f : Bool -> RT} (h : (asB s f).Runs gt go R v os k) : ∃ x R', (f x).Runs gt go R' v os k := by
 unfold asB at h
 split at h
 . exact ⟨_, _, h⟩
 . exact ⟨_, _, h⟩
 . exact ⟨_, _, h⟩
 . exact ⟨_, _, h⟩
 . cases h
def zdh : SV -> (HI -> RT) -> RT
 | .agg [.int .i64 op, .int .i64 sub, .int .i64 frm, .int .i64 ty, .int .i64 d, .int .i64 a, .int .i64 b, .int .i64 c, .int .i64 k, .int .u32 i, .int .u32 ch, .int .u32 v0, .int .u32 v1, .int .u32 v2, .int .u32 v3], f => f ⟨op, sub, frm, ty, d, a, b, c, k, i, ch, v0, v1, v2, v3⟩
 | _, _ => .fail
theorem zbp {s : SV} {f : HI -> RT} (h : (zdh s f).Runs gt go R v os k) : ∃ x R', (f x).Runs gt go R' v os k := by
 unfold zdh at h
 split at h
 . exact ⟨_, _, h⟩
 . cases h
noncomputable def zgO : SV -> (HR -> RT) -> RT
 | .agg [b, .int .i64 n], f => asB b fun b => f ⟨b, n⟩
 | _, _ => .fail
theorem zd0 {s : SV} {f : HR -> RT} (h : (zgO s f).Runs gt go R v os k) : ∃ x R', (f x).Runs gt go R' v os k := by
 unfold zgO at h
 split at h
 . obtain ⟨x, R', h⟩ := zh4 h; exact ⟨_, _, h⟩
 . cases h
def ziH : SV -> (FM -> RT) -> RT
 | .agg [.str n, .int .i64 f, .int .i64 r], g => g ⟨n, f, r⟩
 | _, _ => .fail
theorem zfv {s : SV} {f : FM -> RT} (h : (ziH s f).Runs gt go R v os k) : ∃ x R', (f x).Runs gt go R' v os k := by
 unfold ziH at h
 split at h
 . exact ⟨_, _, h⟩
 . cases h
def zbz (id : Nat) (f : SV -> RT) : RT := .rO id fun o => match o with | some (.row cs) => f (.agg cs) | _ => .fail
theorem zaX {id : Nat} {f : SV -> RT} (h : (zbz id f).Runs gt go R v os k) : ∃ x R', (f x).Runs gt go R' v os k := by
 unfold zbz at h
 cases h with
 | rO h =>
   dsimp only at h
   split at h
   . exact ⟨_, _, h⟩
   . cases h
def zcX : SV -> (List (List PV) -> RT) -> RT
 | .rd (.sl _ L), f => f L
 | .slc id st len, f => .rO id fun o => match o with
   | some (.vec _ L) => f ((L.drop st).take len)
   | some (.arr _ L) => (match ze7 L with | some L => f ((L.drop st).take len) | none => .fail)
   | _ => .fail
 | .val _, f => f []
 | _, _ => .fail
theorem zbq {s : SV} {f : List (List PV) -> RT} (h : (zcX s f).Runs gt go R v os k) : ∃ x R', (f x).Runs gt go R' v os k := by
 unfold zcX at h
 split at h
 . exact ⟨_, _, h⟩
 . cases h with
   | rO h =>
     dsimp only at h
     split at h
     . exact ⟨_, _, h⟩
     . split at h
       . exact ⟨_, _, h⟩
       . cases h
     . cases h
 . exact ⟨_, _, h⟩
 . cases h
def asL {α : Type} (pv : α -> List PV) (L : List (List PV)) (f : List α -> RT) : RT := .ex (fun (xs : ULift.{1} (List α)) => L = xs.down.map pv) fun xs => match xs with | ⟨xs⟩ => f xs
theorem zbc {α : Type} {pv : α -> List PV} {L : List (List PV)} {f : List α -> RT} (h : (asL pv L f).Runs gt go R v os k) : ∃ x R', (f x).Runs gt go R' v os k := by
 unfold asL at h
 cases h with
 | ex xs _ h => exact ⟨_, _, h⟩
theorem zaz {p : Prop} {r : RT} (h : (RT.req p r).Runs gt go R v os k) : p /\ ∃ R', r.Runs gt go R' v os k := by
 cases h with
 | req hp h => exact ⟨hp, _, h⟩
end
theorem zae {α : Type} {pv : α -> List PV} {xs : List α} {q : ULift.{1} (List α) -> Prop} (h : q ⟨xs⟩) : ∃ x : ULift.{1} (List α), xs.map pv = x.down.map pv /\ q x := ⟨⟨xs⟩, rfl, h⟩
def bsv : Bool -> SV
 | true => .tt
 | false => .ff
end
section
@[irreducible] def nth {α : Type} [Inhabited α] (L : List α) (i : Int) : α := L.getD i.toNat default
theorem zb0 {α : Type} [Inhabited α] (L : List α) (i : Int) (h : 0 <= i /\ i < L.length) : L[i.toNat]? = some (nth L i) := by
 have h1 : i.toNat < L.length := by omega
 unfold nth
 simp [List.getElem?_eq_getElem h1]
theorem zki {α : Type} [Inhabited α] (L : List α) (i : Int) (h : 0 <= i /\ i < L.length) : nth L i ∈ L := List.mem_of_getElem? (zb0 L i h)
theorem zbI {α : Type} [Inhabited α] (pv : α -> List PV) (L : List α) (n : Int) (h : 0 <= n /\ n < L.length) : (L.map pv)[n.toNat]? = some (pv (nth L n)) := by
 rw [List.getElem?_map, zb0 L n h]; rfl
theorem zbS {α : Type} [Inhabited α] (pv : α -> List PV) (L : List α) (n : Int) (h : 0 <= n /\ n < L.length) : (L.map pv)[0 + n.toNat]? = some (pv (nth L n)) := by
 rw [Nat.zero_add]; exact zbI pv L n h
theorem zcP {α : Type} [Inhabited α] (L : List α) (i : Int) (h : 0 <= i /\ i < L.length) : L.take (i + 1).toNat = L.take i.toNat ++ [nth L i] := by
 have h2 : (i + 1).toNat = i.toNat + 1 := by omega
 rw [h2, List.take_add_one, zb0 L i h]; rfl
theorem zr3 {α : Type} (L : List α) (i : Int) (h : ¬ i < L.length) : L.take i.toNat = L := List.take_of_length_le (by omega)
theorem zqL {α : Type} [Inhabited α] (p : α -> Bool) (L : List α) (i : Int) (h : 0 <= i /\ i < L.length) : (L.take (i + 1).toNat).all p = ((L.take i.toNat).all p && p (nth L i)) := by
 rw [zcP L i h]; simp [List.all_append]
theorem zm2 {α : Type} [Inhabited α] {p : α -> Bool} {L : List α} {i : Int} (h : L.all p = true) (h1 : 0 <= i /\ i < L.length) : p (nth L i) = true := by
 rw [List.all_eq_true] at h
 exact h _ (zki L i h1)
theorem zaG {α : Type} [Inhabited α] (L : List α) (i : Int) (h : 0 <= i /\ i < L.length) : L.drop i.toNat = nth L i :: L.drop (i + 1).toNat := by
 have h1 : i.toNat < L.length := by omega
 have h2 : (i + 1).toNat = i.toNat + 1 := by omega
 have h3 := zb0 L i h
 rw [List.getElem?_eq_getElem h1] at h3
 rw [h2, List.drop_eq_getElem_cons h1, Option.some.inj h3]
abbrev MHB : zaj := ⟨HR, Bool, inferInstance, false, [.bool, .int .i64], HR.pv, fun ⟨_, _⟩ => rfl, fun ⟨a, b⟩ ⟨c, d⟩ h => by simp only [HR.pv, List.cons.injEq, PV.bool.injEq, PV.int.injEq] at h; simp [h.1, h.2.1.2], true, fun b => [.bool b], false⟩
theorem nf {b : Bool} (h : (!b) = false) : b = true := by cases b <;> simp_all
theorem nt {b : Bool} (h : (!b) = true) : b = false := by cases b <;> simp_all
theorem HR.eta (r : HR) : HR.mk r.vec r.n = r := rfl
theorem exW {γ : Type} {p q : γ -> Prop} {c : γ} (h : p c) (k : q c) : ∃ c, p c /\ q c := ⟨c, h, k⟩
end
section
theorem zAd {A B C D : Type} {p : A × B × C × D -> Prop} (h : ∀ a b c d, p (a, b, c, d)) : ∀ c, p c := fun ⟨a, b, c, d⟩ => h a b c d
theorem zvz {b : Bool} (h : b = true) (h' : b = false) : False := by rw [h] at h'; cases h'
theorem zsl {b : Bool} (h : b = true) (h' : (!b) = true) : False := by rw [h] at h'; cases h'
theorem zsm {b : Bool} (h : b = false) (h' : (!b) = false) : False := by rw [h] at h'; cases h'
structure AL where
 L : List HI
 fr : List Int
abbrev hiS (l : List HI) : SV := .rd (.sl 15 (l.map HI.pv))
abbrev inS (l : List Int) : SV := .rd (.sl 1 (l.map ipv))
def AL.cells : AL -> List SV
 | ⟨l, f⟩ => [hiS l, inS f]
section
variable {gt : GT} {go : GO} {R : List Sx.Loc} {v : Option SV} {os : List (Nat × Option SO)} {k : Nat}
def zqP : SV -> (AL -> RT) -> RT
 | .agg [a, b], f => zcX a fun L => asL HI.pv L fun l => zcX b fun F => asL ipv F fun fr => f ⟨l, fr⟩
 | _, _ => .fail
theorem zqQ {s : SV} {f : AL -> RT} (h : (zqP s f).Runs gt go R v os k) : ∃ x R', (f x).Runs gt go R' v os k := by
 unfold zqP at h
 split at h
 . obtain ⟨_, _, h⟩ := zbq h
   obtain ⟨_, _, h⟩ := zbc h
   obtain ⟨_, _, h⟩ := zbq h
   obtain ⟨_, _, h⟩ := zbc h
   exact ⟨_, _, h⟩
 . cases h
def zn8 (id : Nat) (f : Int -> Int -> RT) : RT := zbz id fun r => match r with | .agg [.int .i64 a, .int .i64 b] => f a b | _ => .fail
theorem zlP {id : Nat} {f : Int -> Int -> RT} (h : (zn8 id f).Runs gt go R v os k) : ∃ a b R', (f a b).Runs gt go R' v os k := by
 unfold zn8 at h
 obtain ⟨r, _, h⟩ := zaX h
 split at h
 . exact ⟨_, _, _, h⟩
 . cases h
theorem zpH {p : Prop} {r1 r2 : RT} (h : (RT.split p r1 r2).Runs gt go R v os k) : (p /\ r1.Runs gt go R v os k) \/ (¬ p /\ r2.Runs gt go R v os k) := by
 cases h with
 | left hp h => exact .inl ⟨hp, h⟩
 | right hp h => exact .inr ⟨hp, h⟩
end
structure PL where
 kind : Int
 n : Int
 deriving DecidableEq, Inhabited
structure CT where
 r : HR
 part : Int
 deriving DecidableEq, Inhabited
def PL.cells : PL -> List SV
 | ⟨k, n⟩ => [kz k, kz n]
def PL.pv : PL -> List PV
 | ⟨k, n⟩ => [.int .i64 k, .int .i64 n]
def CT.cells : CT -> List SV
 | ⟨⟨b, n⟩, p⟩ => [.bool b, kz n, kz p]
def CT.pv : CT -> List PV
 | ⟨⟨b, n⟩, p⟩ => [.bool b, .int .i64 n, .int .i64 p]
theorem PL.eta (r : PL) : PL.mk r.kind r.n = r := rfl
theorem CT.eta (r : CT) : CT.mk r.r r.part = r := rfl
abbrev MPC : zaj := ⟨PL, CT, inferInstance, false, [.int .i64, .int .i64], PL.pv, fun ⟨_, _⟩ => rfl, fun ⟨a, b⟩ ⟨c, d⟩ h => by simp only [PL.pv, List.cons.injEq, PV.int.injEq] at h; simp [h.1.2, h.2.1.2], false, CT.pv, ⟨⟨false, 0⟩, 0⟩⟩
abbrev HM := List (PL × CT)
structure VL where
 L : List HI
 fr : List Int
 code : List HI
abbrev VL.row (v : VL) : SO := .row [hiS v.L, inS v.fr, hiS v.code, .mp 1]
section
variable {gt : GT} {go : GO} {R : List Sx.Loc} {v : Option SV} {os : List (Nat × Option SO)} {k : Nat}
def zbh (M : zaj) (id : Nat) (f : List (M.κ × M.ν) -> RT) : RT :=
 .rO id fun o => .ex (fun (es : ULift.{1} (List (M.κ × M.ν))) => o = some (.map M es.down none)) fun es => match es with | ⟨es⟩ => f es
theorem zaP {M : zaj} {id : Nat} {f : List (M.κ × M.ν) -> RT} (h : (zbh M id f).Runs gt go R v os k) : ∃ es R', (f es).Runs gt go R' v os k := by
 unfold zbh at h
 cases h with
 | rO h => cases h with | ex x _ h => exact ⟨_, _, h⟩
def zfS (p : Nat) (f : VL -> HM -> RT) : RT := zbz p fun r => match r with
 | .agg [.rd (.sl _ L), .rd (.sl _ F), .rd (.sl _ C), .mp q] => asL HI.pv L fun L => asL ipv F fun F => asL HI.pv C fun C => zbh MPC q fun es => f ⟨L, F, C⟩ es
 | _ => .fail
theorem zea {p : Nat} {f : VL -> HM -> RT} (h : (zfS p f).Runs gt go R v os k) : ∃ x es R', (f x es).Runs gt go R' v os k := by
 unfold zfS at h
 obtain ⟨r, _, h⟩ := zaX h
 split at h
 . obtain ⟨_, _, h⟩ := zbc h
   obtain ⟨_, _, h⟩ := zbc h
   obtain ⟨_, _, h⟩ := zbc h
   obtain ⟨_, _, h⟩ := zaP h
   exact ⟨_, _, _, h⟩
 . cases h
def zn9 : SV -> (PL -> RT) -> RT
 | .agg [.int .i64 a, .int .i64 b], f => f ⟨a, b⟩
 | _, _ => .fail
theorem zlQ {s : SV} {f : PL -> RT} (h : (zn9 s f).Runs gt go R v os k) : ∃ x R', (f x).Runs gt go R' v os k := by
 unfold zn9 at h
 split at h
 . exact ⟨_, _, h⟩
 . cases h
end
end
section
abbrev MIB : zaj := ⟨Int, Bool, inferInstance, true, [.int .i64], ipv, fun _ => rfl, fun a b h => by simpa [ipv] using h, true, fun b => [.bool b], false⟩
abbrev MII : zaj := ⟨Int, Int, inferInstance, true, [.int .i64], ipv, fun _ => rfl, fun a b h => by simpa [ipv] using h, true, fun b => [.int .i64 b], 0⟩
abbrev BM := List (Int × Bool)
abbrev IM := List (Int × Int)
end
section
def c81 : MC := .seq (.reg [oo 2 (.box (.t 0)),oo 4 (.mv kf)]) (.seq (.reg [oo 5 (fl 1 2),oo 6 (ln 5),om 7 1,oo 8 (at_ .and 6 7),oo 9 (cc .neq 8 0),om 4 9]) (.ret))
theorem k81 : zar Tryz.prog 81 10 c81 [.t 4] := fk Tryz.func81 ⟨tv,⟨tv,tv⟩⟩
def zAE : MC := .seq (.reg [oo 2 (.box (.t 0)),oo 3 (.box (.t 1)),oo 4 (.mv (.k (.val .nilFunc)))]) (.seq (.reg [oo 5 (.mkf (.func 166) [] [(.t 2),(.t 3)]),om 4 5]) (.ret))
theorem zBV : zar Tryz.prog 135 6 zAE [.t 4] := fk Tryz.func135 ⟨tv,⟨tv,tv⟩⟩
def zvD : MC := .seq (.drw [oo 6 (ln 1),oo 7 (.nchk (.t 6)),oo 8 (fl 1 7),oo 9 (ln 2),oo 10 (.nchk (.t 9)),oo 11 (fl 1 10),oo 12 (.bld [(kz 0),(.val (.pointer none)),(.val (.pointer none))] [(0,1,(ki 1)),(1,1,(.t 8)),(2,1,(.t 11))]),oo 13 (ln 1),oo 14 (.nchk (.t 13)),oo 15 (fl 2 14),oo 16 (ln 2),oo 17 (.nchk (.t 16)),oo 18 (fl 2 17),oo 19 (.bld [(kz 0),(.val (.pointer none)),(.val (.pointer none))] [(0,1,(ki 2)),(1,1,(.t 15)),(2,1,(.t 18))]),oo 20 (ln 1),oo 21 (.nchk (.t 20)),oo 22 (fl 3 21),oo 23 (ln 2),oo 24 (.nchk (.t 23)),oo 25 (fl 3 24),oo 26 (.bld [(kz 0),(.val (.pointer none)),(.val (.pointer none))] [(0,1,(ki 4)),(1,1,(.t 22)),(2,1,(.t 25))]),oo 27 (ln 1),oo 28 (.nchk (.t 27)),oo 29 (fl 4 28),oo 30 (ln 2),oo 31 (.nchk (.t 30)),oo 32 (fl 4 31),oo 33 (.bld [(kz 0),(.val (.pointer none)),(.val (.pointer none))] [(0,1,(ki 8)),(1,1,(.t 29)),(2,1,(.t 32))]),oo 34 (ln 1),oo 35 (.nchk (.t 34)),oo 36 (fl 5 35),oo 37 (ln 2),oo 38 (.nchk (.t 37)),oo 39 (fl 5 38),oo 40 (.bld [(kz 0),(.val (.pointer none)),(.val (.pointer none))] [(0,1,(ki 16)),(1,1,(.t 36)),(2,1,(.t 39))]),oo 41 (ln 1),oo 42 (.nchk (.t 41)),oo 43 (fl 6 42),oo 44 (ln 2),oo 45 (.nchk (.t 44)),oo 46 (fl 6 45),oo 47 (.bld [(kz 0),(.val (.pointer none)),(.val (.pointer none))] [(0,1,(ki 32)),(1,1,(.t 43)),(2,1,(.t 46))]),oo 48 (ln 1),oo 49 (.nchk (.t 48)),oo 50 (fl 7 49),oo 51 (ln 2),oo 52 (.nchk (.t 51)),oo 53 (fl 7 52),oo 54 (.bld [(kz 0),(.val (.pointer none)),(.val (.pointer none))] [(0,1,(ki 64)),(1,1,(.t 50)),(2,1,(.t 53))]),oo 55 (ln 1),oo 56 (.nchk (.t 55)),oo 57 (fl 8 56),oo 58 (ln 2),oo 59 (.nchk (.t 58)),oo 60 (fl 8 59),oo 61 (.bld [(kz 0),(.val (.pointer none)),(.val (.pointer none))] [(0,1,(ki 128)),(1,1,(.t 57)),(2,1,(.t 60))]),oo 62 (.bsl 3 8 [(kz 0),(.val (.pointer none)),(.val (.pointer none))] [(0,(.t 12)),(1,(.t 19)),(2,(.t 26)),(3,(.t 33)),(4,(.t 40)),(5,(.t 47)),(6,(.t 54)),(7,(.t 61))]),oo 63 (.lenS (.t 62)),oo 64 (.mv (ki 0))] [[],[0],[1],[],[3],[4],[2,5],[],[7],[8],[],[10],[11],[9,12],[],[14],[15],[],[17],[18],[16,19],[],[21],[22],[],[24],[25],[23,26],[],[28],[29],[],[31],[32],[30,33],[],[35],[36],[],[38],[39],[37,40],[],[42],[43],[],[45],[46],[44,47],[],[49],[50],[],[52],[53],[51,54],[6,13,20,27,34,41,48,55],[56],[]]) (.blk 0 (.loop 0 (.seq (.reg [oo 65 (.cmpl .lss (.t 64) (.t 63))]) (.seq (.cond (.t 65) (.skip) (.exit 0)) (.seq (.blk 1 (.seq (.reg [oo 66 (ia 3 62 64),oo 67 (ls 3 66),oo 5 (.alloc [(kz 0),(.val (.pointer none)),(.val (.pointer none))]),o none (.st (some 3) (.t 5) (.t 67))]) (.seq (.reg [om 68 0,oo 69 (ls 3 5),oo 70 (.call (.t 68) [(.t 69)]),oo 71 (.not (.t 70))]) (.cond (.t 71) (.ret) (.skip))))) (.reg [oo 72 (.arl .add (.t 64) (ki 1)),om 64 72]))))))
theorem zwC : zar Tryz.prog 166 73 zvD [] := fk Tryz.func166 ⟨tv,⟨tv,⟨⟨tv,tv⟩,⟨⟨tv,⟨tv,⟨tv,tv⟩⟩⟩,tv⟩⟩⟩⟩
def zAq : MC := .seq (.reg [oo 2 (.box (.t 0)),oo 3 (.box (.t 1)),oo 4 (.alloc zI)]) (.seq (.reg [oo 7 (fl 0 3),oo 8 (ln 7),oo 9 (.bld zI [(0,1,(.t 8))]),oo 5 (.alloc zI),o none (.st (some 15) (.t 5) (.t 9))]) (.seq (.seq (.reg [oo 10 (fc 135 [(.t 3),(.t 5)])]) (.blk 0 (.rng (.t 10) [11] (.reg [oo 6 (.alloc [(kz 0),(.val (.pointer none)),(.val (.pointer none))]),o none (.st (some 3) (.t 6) (.t 11))]) (.blk 1 (.seq (.reg [oo 12 (ls 3 2),oo 13 (fl 0 6),oo 14 (ln 13),oo 15 (fc 81 [(.t 12),(.t 14)])]) (.cond (.t 15) (.drw [oo 16 (fl 2 6),oo 17 (ln 16),oo 18 (fl 1 6),oo 19 (ln 18),oo 20 (.nchk (.t 19)),oo 21 (ln 20),oo 22 (.nchk (.t 17)),o none (.st (some 1) (.t 22) (.t 21))] [[],[0],[],[2],[3],[4],[1,0,1,2,3,4,5],[6,5,0,1,2,3,4,5]]) (.skip)))) 166 73 zvD))) (.seq (.seq (.reg [oo 23 (ls 3 2),oo 24 (fc 81 [(.t 23),(ki 256)])]) (.cond (.t 24) (.reg [oo 25 (fl 9 3),oo 26 (ln 25),oo 27 (fl 9 5),o none (.st (some 1) (.t 27) (.t 26))]) (.skip))) (.seq (.seq (.reg [oo 28 (ls 3 2),oo 29 (fc 81 [(.t 28),(ki 512)])]) (.cond (.t 29) (.reg [oo 30 (fl 10 3),oo 31 (ln 30),oo 32 (fl 10 5),o none (.st (some 1) (.t 32) (.t 31))]) (.skip))) (.seq (.seq (.reg [oo 33 (ls 3 2),oo 34 (fc 81 [(.t 33),(ki 1024)])]) (.cond (.t 34) (.reg [oo 35 (fl 11 3),oo 36 (ls 4 35),oo 37 (fl 11 5),o none (.st (some 4) (.t 37) (.t 36))]) (.skip))) (.seq (.reg [oo 38 (ls 15 5),o none (.st (some 15) (.t 4) (.t 38))]) (.ret)))))))
theorem zBK : zar Tryz.prog 106 39 zAq [.c 4 (some 15)] := .of Tryz.func106 (by kernel_rfl) (by kernel_rfl) (by kernel_rfl) (by kernel_rfl) ⟨trivial, ⟨trivial, ⟨⟨trivial, ⟨trivial, ⟨trivial, ⟨trivial, trivial⟩⟩, zwC.it, zwC.its⟩⟩, ⟨⟨trivial, ⟨trivial, trivial⟩⟩, ⟨⟨trivial, ⟨trivial, trivial⟩⟩, ⟨⟨trivial, ⟨trivial, trivial⟩⟩, ⟨trivial, trivial⟩⟩⟩⟩⟩⟩⟩
def c80 : MC := .seq (.reg [oo 2 (.alloc [(.str ⟨#[]⟩),(kz 0),(kz 0)]),oo 3 (.mv kf)]) (.seq (.seq (.reg [om 4 0,oo 5 (cc .lss 4 1),sm 6 5,mf 6 7 0,gf 6 8 (cc .geq 7 46),oo 9 (pt 6 8)]) (.cond (.t 9) (.seq (.reg [oo 10 (.bld [(.str ⟨#[]⟩),(kz 0),(kz 0)] []),o none (.st (some 3) (.t 2) (.t 10)),oo 3 (.mv kf)]) (.ret)) (.skip))) (.seq (.reg [om 11 0,oo 12 (.ixr 46 3 (.g 0) (.t 11)),oo 13 (ls 3 12),o none (.st (some 3) (.t 2) (.t 13)),oo 3 (.mv kt)]) (.ret)))
theorem k80 : zar Tryz.prog 80 14 c80 [.c 2 (some 3),.t 3] := fk Tryz.func80 ⟨tv,⟨⟨tv,⟨⟨tv,tv⟩,tv⟩⟩,⟨tv,tv⟩⟩⟩
def zAJ : MC := .seq (.reg [oo 6 (.mv kf)]) (.seq (.reg [om 7 1,om 8 0,oo 9 (ct .leq 7 8),sm 10 9,mt 10 11 0,mt 10 12 2,gt_ 10 13 (ct .leq 11 12),oo 14 (pf 10 13),om 6 14]) (.ret))
theorem zB0 : zar Tryz.prog 144 15 zAJ [.t 6] := fk Tryz.func144 ⟨tv,⟨tv,tv⟩⟩
def zAL : MC := .seq (.reg [oo 2 (.mv kf)]) (.seq (.reg [om 3 0,oo 4 (cc .eql 3 8),sm 5 4,mf 5 6 0,gf 5 7 (cc .eql 6 16),oo 8 (pt 5 7),sm 9 8,mf 9 10 0,gf 9 11 (cc .eql 10 32),oo 12 (pt 9 11),om 2 12]) (.ret))
theorem zB2 : zar Tryz.prog 146 13 zAL [.t 2] := fk Tryz.func146 ⟨tv,⟨tv,tv⟩⟩
def zcu (fl fd : Int) : Bool := decide (zer .and .i64 fl fd ≠ 0)
def zc3 : List FM := [⟨⟨#[]⟩, 0, 0⟩, ⟨⟨#[115, 101, 116]⟩, 264, 0⟩, ⟨⟨#[109, 111, 118]⟩, 24, 0⟩, ⟨⟨#[98, 105, 110]⟩, 57, 1⟩, ⟨⟨#[98, 105, 110, 105]⟩, 281, 1⟩, ⟨⟨#[117, 110]⟩, 31, 2⟩, ⟨⟨#[109, 117, 120]⟩, 120, 0⟩, ⟨⟨#[118, 115, 101, 116]⟩, 3080, 0⟩, ⟨⟨#[118, 109, 111, 118]⟩, 6168, 0⟩, ⟨⟨#[118, 98, 105, 110]⟩, 14393, 3⟩, ⟨⟨#[118, 117, 110]⟩, 6169, 4⟩, ⟨⟨#[118, 99, 109, 112]⟩, 12345, 5⟩, ⟨⟨#[118, 110, 122]⟩, 4120, 0⟩, ⟨⟨#[118, 102, 105, 108, 108]⟩, 2072, 0⟩, ⟨⟨#[118, 115, 112, 108, 97, 116]⟩, 2072, 0⟩, ⟨⟨#[118, 119, 111, 114, 100]⟩, 4248, 6⟩, ⟨⟨#[118, 112, 117, 116]⟩, 6328, 6⟩, ⟨⟨#[118, 109, 97, 115, 107]⟩, 4120, 0⟩, ⟨⟨#[118, 109, 117, 120]⟩, 26744, 0⟩, ⟨⟨#[103, 101, 116]⟩, 140, 7⟩, ⟨⟨#[112, 117, 116]⟩, 148, 7⟩, ⟨⟨#[112, 117, 116, 105]⟩, 388, 7⟩, ⟨⟨#[118, 103, 101, 116]⟩, 2184, 8⟩, ⟨⟨#[118, 112, 117, 116, 115]⟩, 4240, 8⟩, ⟨⟨#[108, 111, 97, 100]⟩, 284, 9⟩, ⟨⟨#[115, 116, 111, 114, 101]⟩, 308, 9⟩, ⟨⟨#[118, 108, 111, 97, 100]⟩, 2328, 0⟩, ⟨⟨#[118, 115, 116, 111, 114, 101]⟩, 8496, 0⟩, ⟨⟨#[115, 104, 108, 111, 97, 100]⟩, 284, 9⟩, ⟨⟨#[115, 104, 115, 116, 111, 114, 101]⟩, 308, 9⟩, ⟨⟨#[118, 115, 104, 108, 111, 97, 100]⟩, 2328, 0⟩, ⟨⟨#[118, 115, 104, 115, 116, 111, 114, 101]⟩, 8496, 0⟩, ⟨⟨#[111, 114, 105, 103, 105, 110]⟩, 284, 10⟩, ⟨⟨#[115, 101, 116, 111, 114, 105, 103, 105, 110]⟩, 432, 11⟩, ⟨⟨#[99, 97, 115]⟩, 377, 12⟩, ⟨⟨#[97, 114, 103]⟩, 144, 13⟩, ⟨⟨#[99, 97, 108, 108]⟩, 9, 14⟩, ⟨⟨#[110, 111, 116, 101]⟩, 400, 15⟩, ⟨⟨#[109, 97, 114, 107]⟩, 384, 16⟩, ⟨⟨#[101, 120, 105, 116]⟩, 912, 17⟩, ⟨⟨#[101, 110, 100]⟩, 896, 17⟩, ⟨⟨#[101, 110, 100, 114]⟩, 144, 17⟩, ⟨⟨#[115, 112, 105, 108, 108]⟩, 144, 18⟩, ⟨⟨#[102, 105, 108, 108]⟩, 136, 18⟩, ⟨⟨#[118, 115, 112, 105, 108, 108]⟩, 4240, 19⟩, ⟨⟨#[118, 117, 110, 115, 112, 105, 108, 108]⟩, 2184, 19⟩]
def GG : Nat -> Option SV
 | 0 => some (.ra 3 (zc3.map fun f => match f with | ⟨n, a, b⟩ => [.str n, .int .i64 a, .int .i64 b]))
 | _ => none
def zbr (n a b : Int) : Bool := decide (a <= n /\ n <= b)
def zjZ (ty : Int) : Bool := decide (ty = 8 \/ ty = 16 \/ ty = 32)
def zbd (op : Int) : FM × Bool := if op < 1 \/ 46 <= op then (⟨⟨#[]⟩, 0, 0⟩, false) else (zc3.getD op.toNat ⟨⟨#[]⟩, 0, 0⟩, true)
def L81 (f : FM) (fd : Int) : zaa := ⟨[.agg f.cells, kz fd], [], [], [], .bool (zcu f.fields fd)⟩
theorem s81 (f : FM) (fd : Int) : zaa.ok Tryz.prog GG 81 (L81 f fd) := by
 refine zad mix k81 _ rfl rfl (Tab.ok (l := []) trivial) noL noJ ?_
 repeat' ((conv => whnf); first
  | exact trivial
  | with_reducible first | refine ai (by with_reducible rfl) ?_ | refine ai ⟨by with_reducible rfl, by with_reducible rfl⟩ ?_ | refine ai (show zbH _ _ = true by kernel_rfl) ?_ | refine ai rfl ?_ | refine ai ⟨rfl, rfl⟩ ?_ | refine ai (by decide) ?_ | refine ai (by omega) ?_ | refine And.intro ?_ ?_ | refine zae ?_
  | with_reducible intro _)
 all_goals exact ⟨by simp [zcu]⟩
noncomputable def S81 : SFn
 | [a0, a1], k => ziH a0 fun f => asI a1 fun fd => k (L81 f fd)
 | _, _ => .fail
theorem t81 : FnS Tryz.prog GG 81 S81 := by
 intro args k gt go R v os n h
 unfold S81 at h
 split at h
 . obtain ⟨f, _, h⟩ := zfv h
   obtain ⟨fd, _, h⟩ := zaU h
   exact ⟨_, _, s81 f fd, h⟩
 . cases h
def zvd : FM -> Int -> zaa
 | ⟨n, fl, ru⟩, fd => ⟨[.agg (FM.cells ⟨n, fl, ru⟩), kz fd], [], [], [], bsv (zcu fl fd)⟩
theorem zDV (f : FM) (fd : Int) : zaa.ok Tryz.prog GG 81 (zvd f fd) := by
 obtain ⟨n, fl, ru⟩ := f
 show zaa.ok _ _ _ ⟨[.agg (FM.cells ⟨n, fl, ru⟩), kz fd], [], [], [], bsv (zcu fl fd)⟩
 cases h : zcu fl fd
 all_goals
  simp [zcu] at h
  refine zad mix k81 _ rfl rfl (Tab.ok (l := []) trivial) noL noJ ?_
  repeat' ((conv => whnf); first
   | exact trivial
   | with_reducible refine And.intro (Sd.mk (by with_reducible rfl)) ?_
   | with_reducible refine And.intro (Sd.mk ⟨by with_reducible rfl, by with_reducible rfl⟩) ?_
   | with_reducible refine And.intro (Sd.mk (show zbH _ _ = true by kernel_rfl)) ?_
   | with_reducible refine And.intro (Sd.mk rfl) ?_
   | with_reducible refine And.intro (Sd.mk ⟨rfl, rfl⟩) ?_
   | with_reducible refine And.intro (Sd.mk (by decide)) ?_
   | with_reducible refine And.intro (Sd.mk (by omega)) ?_
   | with_reducible refine And.intro ?_ ?_
   | with_reducible refine zae ?_
   | with_reducible intro _)
  all_goals exact ⟨by simp [h]⟩
def zqA : SFn
 | [a0, a1], k => ziH a0 fun f => asI a1 fun fd => k (zvd f fd)
 | _, _ => .fail
theorem zEJ : FnS Tryz.prog GG 81 zqA := by
 intro args k gt go R v os n h
 unfold zqA at h
 split at h
 . obtain ⟨f, _, h⟩ := zfv h
   obtain ⟨fd, _, h⟩ := zaU h
   exact ⟨_, _, zDV f fd, h⟩
 . cases h
def zuD (n : Int) (a : Int) (b : Int) : zaa := ⟨[kz n, kz a, kz b], [], [], [], .bool (zbr n a b)⟩
theorem zDi (n : Int) (a : Int) (b : Int) : zaa.ok Tryz.prog GG 144 (zuD n a b) := by
 refine zad mix zB0 _ rfl rfl (Tab.ok (l := []) trivial) noL noJ ?_
 repeat' ((conv => whnf); first
  | exact trivial
  | with_reducible first | refine ai (by with_reducible rfl) ?_ | refine ai ⟨by with_reducible rfl, by with_reducible rfl⟩ ?_ | refine ai (show zbH _ _ = true by kernel_rfl) ?_ | refine ai rfl ?_ | refine ai ⟨rfl, rfl⟩ ?_ | refine ai (by decide) ?_ | refine ai (by omega) ?_ | refine And.intro ?_ ?_ | refine zae ?_
  | with_reducible intro _)
 all_goals exact ⟨by unfold zbr; grind⟩
noncomputable def znW : SFn
 | [a0, a1, a2], k => asI a0 fun n => asI a1 fun a => asI a2 fun b => k (zuD n a b)
 | _, _ => .fail
theorem zxU : FnS Tryz.prog GG 144 znW := by
 intro args k gt go R v os n h
 unfold znW at h
 split at h
 . obtain ⟨n, _, h⟩ := zaU h
   obtain ⟨a, _, h⟩ := zaU h
   obtain ⟨b, _, h⟩ := zaU h
   exact ⟨_, _, zDi n a b, h⟩
 . cases h
def zuF (ty : Int) : zaa := ⟨[kz ty], [], [], [], .bool (zjZ ty)⟩
theorem zDk (ty : Int) : zaa.ok Tryz.prog GG 146 (zuF ty) := by
 refine zad mix zB2 _ rfl rfl (Tab.ok (l := []) trivial) noL noJ ?_
 repeat' ((conv => whnf); first
  | exact trivial
  | with_reducible first | refine ai (by with_reducible rfl) ?_ | refine ai ⟨by with_reducible rfl, by with_reducible rfl⟩ ?_ | refine ai (show zbH _ _ = true by kernel_rfl) ?_ | refine ai rfl ?_ | refine ai ⟨rfl, rfl⟩ ?_ | refine ai (by decide) ?_ | refine ai (by omega) ?_ | refine And.intro ?_ ?_ | refine zae ?_
  | with_reducible intro _)
 all_goals exact ⟨by unfold zjZ; grind⟩
noncomputable def zqe : SFn
 | [a0], k => asI a0 fun ty => k (zuF ty)
 | _, _ => .fail
theorem zEn : FnS Tryz.prog GG 146 zqe := by
 intro args k gt go R v os n h
 unfold zqe at h
 split at h
 . obtain ⟨ty, _, h⟩ := zaU h
   exact ⟨_, _, zDk ty, h⟩
 . cases h
theorem zpc (op : Int) (h1 : ¬ op < 1) (h2 : ¬ 46 <= op) : ((zc3.map fun f => match f with | ⟨n, a, b⟩ => [PV.str n, .int .i64 a, .int .i64 b]))[op.toNat]? = some (match (zc3.getD op.toNat ⟨⟨#[]⟩, 0, 0⟩) with | ⟨n, a, b⟩ => [PV.str n, .int .i64 a, .int .i64 b]) := by
 have : op.toNat < 46 := by omega
 have hl : zc3.length = 46 := rfl
 rw [List.getElem?_map, List.getElem?_eq_getElem (by omega)]
 simp [List.getD_eq_getElem?_getD, List.getElem?_eq_getElem (show op.toNat < zc3.length by omega)]
def L80 (op : Int) : zaa := ⟨[kz op], [], [], [], .tup [.agg (zbd op).1.cells, .bool (zbd op).2]⟩
theorem s80 (op : Int) : zaa.ok Tryz.prog GG 80 (L80 op) := by
 refine zad mix k80 _ rfl rfl (Tab.ok (l := []) trivial) noL noJ ?_
 repeat' ((conv => whnf); first
  | exact trivial
  | with_reducible first | refine ai (by with_reducible rfl) ?_ | refine ai ⟨by with_reducible rfl, by with_reducible rfl⟩ ?_ | refine ai (show zbH _ _ = true by kernel_rfl) ?_ | refine ai rfl ?_ | refine ai ⟨rfl, rfl⟩ ?_ | refine ai (by decide) ?_ | refine ai (by omega) ?_ | refine And.intro ?_ ?_ | refine zae ?_ | refine exI (x := ULift.up _) ⟨rfl, by omega, by omega, zpc _ ‹_› ‹_›⟩ ?_
  | with_reducible intro _)
 all_goals (refine Sd.mk ?_; unfold zbd; split <;> first | rfl | (exfalso; omega))
noncomputable def S80 : SFn
 | [a0], k => asI a0 fun op => k (L80 op)
 | _, _ => .fail
theorem t80 : FnS Tryz.prog GG 80 S80 := by
 intro args k gt go R v os n h
 unfold S80 at h
 split at h
 . obtain ⟨op, _, h⟩ := zaU h
   exact ⟨_, _, s80 op, h⟩
 . cases h
def zuy (x y : HI) : zaa := ⟨[.ptr 0 0 0, .ptr 1 0 0], [.row x.cells, .row y.cells], [some (.row x.cells), some (.row y.cells)], [.row [.ptr 0 0 0], .row [.ptr 1 0 0]], .fn (.func 166) [] [.ptr 2 0 0, .ptr 3 0 0]⟩
theorem zDd (x y : HI) : zaa.ok Tryz.prog GG 135 (zuy x y) := by
 refine zad mix zBV _ rfl rfl (Tab.ok (l := []) trivial) noL noJ ?_
 repeat' ((conv => whnf); first
  | exact trivial
  | with_reducible first | refine ai (by with_reducible rfl) ?_ | refine ai ⟨by with_reducible rfl, by with_reducible rfl⟩ ?_ | refine ai (show zbH _ _ = true by kernel_rfl) ?_ | refine ai rfl ?_ | refine ai ⟨rfl, rfl⟩ ?_ | refine ai (by decide) ?_ | refine ai (by omega) ?_ | refine And.intro ?_ ?_ | refine zae ?_
  | with_reducible intro _)
def zp9 : SFn
 | [.ptr a 0 0, .ptr b 0 0], k => zbz a fun ca => zdh ca fun x => zbz b fun cb => zdh cb fun y => k (zuy x y)
 | _, _ => .fail
theorem zEi : FnS Tryz.prog GG 135 zp9 := by
 intro args k gt go R v os n h
 unfold zp9 at h
 split at h
 . obtain ⟨ca, _, h⟩ := zaX h
   obtain ⟨x, _, h⟩ := zbp h
   obtain ⟨cb, _, h⟩ := zaX h
   obtain ⟨y, _, h⟩ := zbp h
   exact ⟨_, _, zDd _ _, h⟩
 . cases h
def zck (f : FM) (x : HI) : HI :=
 { op := x.op
   sub := if zcu f.fields 1 then x.sub else 0
   frm := if zcu f.fields 2 then x.frm else 0
   ty := if zcu f.fields 4 then x.ty else 0
   d := if zcu f.fields 8 then x.d else 0
   a := if zcu f.fields 16 then x.a else 0
   b := if zcu f.fields 32 then x.b else 0
   c := if zcu f.fields 64 then x.c else 0
   k := if zcu f.fields 128 then x.k else 0
   i := if zcu f.fields 256 then x.i else 0
   ch := if zcu f.fields 512 then x.ch else 0
   v0 := if zcu f.fields 1024 then x.v0 else 0
   v1 := if zcu f.fields 1024 then x.v1 else 0
   v2 := if zcu f.fields 1024 then x.v2 else 0
   v3 := if zcu f.fields 1024 then x.v3 else 0 }
def zp0 (f : FM) (x : HI) : zaa := ⟨[.agg f.cells, .agg x.cells], [], [], [], .agg (zck f x).cells⟩
end
section
def c31 : MC := .seq (.reg [oo 2 (.mv (.k (.val (.slice none 0 0))))]) (.seq (.seq (.reg [om 3 0,oo 4 (.nils false (.t 3))]) (.cond (.t 4) (.seq (.reg [oo 2 (.mv (.k (.val (.slice none 0 0))))]) (.ret)) (.skip))) (.seq (.reg [oo 5 (.bsl 15 0 zI []),om 6 0,oo 7 (.app 15 96 (.t 5) (.t 6)),om 2 7]) (.ret)))
theorem k31 : zar Tryz.prog 31 8 c31 [.t 2] := fk Tryz.func31 ⟨tv,⟨⟨tv,⟨⟨tv,tv⟩,tv⟩⟩,⟨tv,tv⟩⟩⟩
def c42 : MC := .seq (.reg [oo 2 (.mv (.k (.val (.slice none 0 0))))]) (.seq (.seq (.reg [om 3 0,oo 4 (.nils false (.t 3))]) (.cond (.t 4) (.seq (.reg [oo 2 (.mv (.k (.val (.slice none 0 0))))]) (.ret)) (.skip))) (.seq (.reg [oo 5 (.bsl 1 0 [(kz 0)] []),om 6 0,oo 7 (.app 1 8 (.t 5) (.t 6)),om 2 7]) (.ret)))
theorem k42 : zar Tryz.prog 42 8 c42 [.t 2] := fk Tryz.func42 ⟨tv,⟨⟨tv,⟨⟨tv,tv⟩,tv⟩⟩,⟨tv,tv⟩⟩⟩
def zAH : MC := .seq (.reg [oo 2 (.mv kf)]) (.seq (.reg [om 3 0,om 4 0,oo 5 (ct .neq 3 4),om 2 5]) (.ret))
theorem zBY : zar Tryz.prog 141 6 zAH [.t 2] := fk Tryz.func141 ⟨tv,⟨tv,tv⟩⟩
def zAW : MC := .seq (.reg [oo 2 (.mv kf)]) (.seq (.reg [om 3 0,om 4 0,oo 5 (ct .neq 3 4),om 2 5]) (.ret))
theorem zCd : zar Tryz.prog 172 6 zAW [.t 2] := fk Tryz.func172 ⟨tv,⟨tv,tv⟩⟩
def zAV : MC := .seq (.reg [oo 4 (.mv kf)]) (.seq (.reg [om 5 0,oo 6 (fc 141 [(.t 5)]),sm 7 6,mt 7 8 1,gt_ 7 9 (fc 141 [(.t 8)]),gt_ 7 10 (.not (.t 9)),oo 11 (pf 7 10),sm 12 11,mf 12 13 0,mf 12 14 1,gf 12 15 (ct .lss 13 14),oo 16 (pt 12 15),om 4 16]) (.ret))
theorem zCc : zar Tryz.prog 171 17 zAV [.t 4] := fk Tryz.func171 ⟨tv,⟨tv,tv⟩⟩
def zAI : MC := .seq (.reg [oo 4 (.mv (ki 0)),oo 5 (.mv kf)]) (.seq (.reg [om 10 0,oo 11 (.lenS (.t 10)),om 6 11]) (.seq (.reg [om 12 6,oo 7 (.mv (ki 0)),om 8 12]) (.seq (.blk 0 (.loop 0 (.seq (.seq (.reg [om 13 7,om 14 8,oo 15 (ct .lss 13 14)]) (.cond (.t 15) (.skip) (.exit 0))) (.blk 1 (.seq (.reg [om 16 7,om 17 8,oo 18 (at_ .add 16 17),oo 19 (.cv .u64 (.t 18)),oo 20 (.ar .shr (.t 19) (.k (.int .u64 1))),oo 21 (.cv .i64 (.t 20)),om 9 21]) (.seq (.reg [om 22 0,om 23 9,oo 24 (ia 1 22 23),oo 25 (ln 24),om 26 1,oo 27 (fc 171 [(.t 25),(.t 26)])]) (.cond (.t 27) (.reg [om 28 9,oo 29 (ac .add 28 1),om 7 29]) (.reg [om 30 9,om 8 30])))))))) (.seq (.reg [om 31 7,om 32 7,om 33 6,oo 34 (ct .lss 32 33),sm 35 34,mt 35 36 0,mt 35 37 7,gt_ 35 38 (ia 1 36 37),gt_ 35 39 (ln 38),mt 35 40 1,gt_ 35 41 (ct .eql 39 40),ogs 35 true (some 42) (.mv (.t 41)),mf 42 43 0,mf 42 44 7,gf 42 45 (ia 1 43 44),gf 42 46 (ln 45),gf 42 47 (fc 172 [(.t 46)]),ogs 42 false (some 48) (.mv (.t 47)),mt 48 49 1,gt_ 48 50 (fc 172 [(.t 49)]),gf 42 51 (pf 48 50),gt_ 35 52 (pt 42 51),oo 53 (pf 35 52),om 4 31,om 5 53]) (.ret)))))
theorem zBZ : zar Tryz.prog 142 54 zAI [.t 4,.t 5] := fk Tryz.func142 ⟨tv,⟨tv,⟨tv,⟨⟨⟨tv,⟨tv,tv⟩⟩,⟨tv,⟨tv,⟨tv,tv⟩⟩⟩⟩,⟨tv,tv⟩⟩⟩⟩⟩
def c98 : MC := .seq (.reg [oo 4 (.mv (ki 0))]) (.seq (.reg [om 8 0,om 9 1,oo 10 (fc 142 [(.t 8),(.t 9)]),om 7 10,oo 11 (ex_ 0 7),oo 12 (ex_ 1 7),om 5 11,om 6 12]) (.seq (.seq (.reg [om 13 5,om 14 0,oo 15 (.lenS (.t 14)),oo 16 (ct .eql 13 15)]) (.cond (.t 16) (.seq (.reg [oo 4 (.mv (ki (-1)))]) (.ret)) (.skip))) (.seq (.reg [om 17 0,om 18 5,oo 19 (ia 1 17 18),oo 20 (ln 19),om 4 20]) (.ret))))
theorem k98 : zar Tryz.prog 98 21 c98 [.t 4] := fk Tryz.func98 ⟨tv,⟨tv,⟨⟨tv,⟨⟨tv,tv⟩,tv⟩⟩,⟨tv,tv⟩⟩⟩⟩
theorem zso {α : Type} {f : α -> List PV} {L : List α} (h : L ≠ []) : List.map f L ≠ [] := by simpa using h
noncomputable def L31 (l : List HI) : zaa := ⟨[.rd (.sl 15 (l.map HI.pv))], [], [], [.vec 15 (l.map HI.pv)], .slc 0 0 l.length⟩
theorem s31 (l : List HI) (hp : l ≠ [] /\ l.length <= 1000000) : zaa.ok Tryz.prog GG 31 (L31 l) := by
 refine zad mix k31 _ rfl rfl (Tab.ok (l := []) trivial) noL noJ ?_
 repeat' ((conv => whnf); first
  | exact trivial
  | with_reducible first | refine aj ?_ | refine ai rfl ?_ | refine ai ⟨rfl, rfl⟩ ?_
  | ((with_reducible refine ai ?_ ?_); focus exact w3)
  | with_reducible first | refine And.intro (Sd.mk (p := _ ≠ _) (zso hp.1)) ?_ | refine And.intro ?_ ?_ | refine zae ?_ | refine exI (i64_in (by omega) (by omega)) ?_
  | refine exI (x := ULift.up _) (Eq.refl _) ?_
  | refine exI (x := ULift.up _) ⟨rfl, by omega, Eq.refl _⟩ ?_
  | exact ny
  | ((with_reducible intro h); try dsimp only at h))
 all_goals (refine Sd.mk ?_)
 all_goals first
  | (simp [zai.len]; omega)
  | (simp [zai.len]; done)
noncomputable def S31 : SFn
 | [a0], k => zcX a0 fun L_l => asL HI.pv L_l fun l => .req (l ≠ [] /\ l.length <= 1000000) (k (L31 l))
 | _, _ => .fail
noncomputable def L42 (l : List Int) : zaa := ⟨[.rd (.sl 1 (l.map ipv))], [], [], [.vec 1 (l.map ipv)], .slc 0 0 l.length⟩
theorem s42 (l : List Int) (hp : l ≠ [] /\ l.length <= 1000000) : zaa.ok Tryz.prog GG 42 (L42 l) := by
 refine zad mix k42 _ rfl rfl (Tab.ok (l := []) trivial) noL noJ ?_
 repeat' ((conv => whnf); first
  | exact trivial
  | with_reducible first | refine aj ?_ | refine ai rfl ?_ | refine ai ⟨rfl, rfl⟩ ?_
  | ((with_reducible refine ai ?_ ?_); focus exact w3)
  | with_reducible first | refine And.intro (Sd.mk (p := _ ≠ _) (zso hp.1)) ?_ | refine And.intro ?_ ?_ | refine zae ?_ | refine exI (i64_in (by omega) (by omega)) ?_
  | refine exI (x := ULift.up _) (Eq.refl _) ?_
  | refine exI (x := ULift.up _) ⟨rfl, by omega, Eq.refl _⟩ ?_
  | exact ny
  | ((with_reducible intro h); try dsimp only at h))
 all_goals (refine Sd.mk ?_)
 all_goals first
  | (simp [zai.len]; omega)
  | (simp [zai.len]; done)
def srt (L : List Int) : Prop := L.Pairwise (· < ·)
def ltN (L : List Int) (x : Int) : Int := ((L.filter (fun y => decide (y < x))).length : Nat)
def ziK (L : List Int) (x : Int) : Bool := if ltN L x < L.length then decide (nth L (ltN L x) = x) else false
theorem zpI {L : List Int} (h : srt L) {i j : Int} (hi : 0 <= i) (hij : i < j) (hj : j < L.length) : nth L i < nth L j := by
 have e1 := zb0 L i ⟨hi, by omega⟩
 have e2 := zb0 L j ⟨by omega, hj⟩
 rw [List.getElem?_eq_getElem (by omega)] at e1 e2
 have := List.pairwise_iff_getElem.1 h i.toNat j.toNat (by omega) (by omega) (by omega)
 rw [Option.some.inj e1, Option.some.inj e2] at this
 exact this
theorem zwM {L : List Int} {x lo : Int} (h0 : 0 <= lo) (h1 : lo <= L.length) (ha : ∀ m, 0 <= m -> m < lo -> nth L m < x) (hb : ∀ m, lo <= m -> m < L.length -> x <= nth L m) : ltN L x = lo := by
 unfold ltN
 have e : L.filter (fun y => decide (y < x)) = L.take lo.toNat := by
  conv => lhs; rw [<- List.take_append_drop lo.toNat L]
  rw [List.filter_append]
  have e1 : (L.take lo.toNat).filter (fun y => decide (y < x)) = L.take lo.toNat := by
   rw [List.filter_eq_self]
   intro y hy
   obtain ⟨i, hi, rfl⟩ := List.mem_iff_getElem.1 hy
   rw [List.length_take] at hi
   have e1 := zb0 L i ⟨by omega, by omega⟩
   rw [List.getElem?_eq_getElem (by omega)] at e1
   rw [List.getElem_take]
   have := ha i (by omega) (by omega)
   rw [<- Option.some.inj e1] at this
   simpa using this
  have e2 : (L.drop lo.toNat).filter (fun y => decide (y < x)) = [] := by
   rw [List.filter_eq_nil_iff]
   intro y hy
   obtain ⟨i, hi, rfl⟩ := List.mem_iff_getElem.1 hy
   rw [List.length_drop] at hi
   have e1 := zb0 L ((lo.toNat + i : Nat) : Int) ⟨by omega, by omega⟩
   rw [List.getElem?_eq_getElem (by omega)] at e1
   rw [List.getElem_drop]
   have := hb ((lo.toNat + i : Nat) : Int) (by omega) (by omega)
   rw [<- Option.some.inj e1] at this
   simp only [Int.toNat_natCast] at this
   simpa using this
  rw [e1, e2, List.append_nil]
 rw [e, List.length_take]; omega
def zwg (L : List Int) (x : Int) : Int × Int -> St
 | (lo, hi) => ⟨[(8, kz hi), (7, kz lo), (6, kz L.length), (1, kz x), (0, .rd (.sl 1 (L.map ipv)))], [], 0⟩
def zcx (L : List Int) (x : Int) (c : Int × Int) : Prop := 0 <= c.1 /\ c.1 <= c.2 /\ c.2 <= L.length /\ L.length <= 1000000 /\ (∀ m, 0 <= m -> m < c.1 -> nth L m < x) /\ (∀ m, c.2 <= m -> m < L.length -> x <= nth L m)
theorem zAm {L : List Int} {x : Int} (h : L.length <= 1000000) : zcx L x (0, L.length) := ⟨by dsimp only; omega, by dsimp only; omega, by dsimp only; omega, h, fun m h1 h2 => by dsimp only at *; omega, fun m h1 h2 => by dsimp only at *; omega⟩
theorem zyx {L : List Int} {x lo hi : Int} (hs : srt L) (hI : zcx L x (lo, hi)) (h : lo < hi) (e : decide (nth L ((lo + hi) / 2) < x) = true) : zcx L x ((lo + hi) / 2 + 1, hi) /\ (hi - ((lo + hi) / 2 + 1)).toNat < (hi - lo).toNat := by
 obtain ⟨h1, h2, h3, h4, h5, h6⟩ := hI
 have e := of_decide_eq_true e
 dsimp only at *
 refine ⟨⟨by dsimp only; omega, by dsimp only; omega, h3, h4, fun m g1 g2 => ?_, h6⟩, by omega⟩
 dsimp only at g2
 by_cases g3 : m = (lo + hi) / 2
 . rw [g3]; exact e
 . exact Int.lt_trans (zpI hs g1 (by omega) (by omega)) e
theorem zyw {L : List Int} {x lo hi : Int} (hs : srt L) (hI : zcx L x (lo, hi)) (h : lo < hi) (e : decide (nth L ((lo + hi) / 2) < x) = false) : zcx L x (lo, (lo + hi) / 2) /\ ((lo + hi) / 2 - lo).toNat < (hi - lo).toNat := by
 obtain ⟨h1, h2, h3, h4, h5, h6⟩ := hI
 have e := of_decide_eq_false e
 dsimp only at *
 refine ⟨⟨h1, by dsimp only; omega, by dsimp only; omega, h4, h5, fun m g1 g2 => ?_⟩, by omega⟩
 dsimp only at g1
 by_cases g3 : m = (lo + hi) / 2
 . rw [g3]; omega
 . have := zpI hs (i := (lo + hi) / 2) (j := m) (by omega) (by omega) g2
   omega
theorem zjg {L : List Int} {x lo hi : Int} (hI : zcx L x (lo, hi)) (h : ¬ lo < hi) : ltN L x = lo := by
 obtain ⟨h1, h2, h3, h4, h5, h6⟩ := hI
 dsimp only at *
 exact zwM h1 (by omega) h5 (fun m g1 g2 => h6 m (by omega) g2)
theorem zAp {L : List Int} {x lo hi : Int} (hI : zcx L x (lo, hi)) (h : ¬ lo < hi) (g : lo < L.length) (e : nth L lo = x) : ziK L x = true := by
 unfold ziK; rw [zjg hI h, if_pos g, e]; simp
theorem zAn {L : List Int} {x lo hi : Int} (hI : zcx L x (lo, hi)) (h : ¬ lo < hi) (e : ¬ nth L lo = x) : ziK L x = false := by
 unfold ziK; rw [zjg hI h]; split
 . simpa using e
 . rfl
theorem zAo {L : List Int} {x lo hi : Int} (hI : zcx L x (lo, hi)) (h : ¬ lo < hi) (g : ¬ lo < L.length) : ziK L x = false := by
 unfold ziK; rw [zjg hI h, if_neg g]
theorem zpu {L : List Int} {x : Int} : 0 <= ltN L x /\ ltN L x <= L.length := by
 have := List.length_filter_le (fun y => decide (y < x)) L
 unfold ltN; omega
def zlM (L : List Int) (x : Int) : Int := if ltN L x = L.length then -1 else nth L (ltN L x)
theorem zvm {L : List Int} {x : Int} {Q : Int × Int -> Prop} (h : ∀ lo hi, zcx L x (lo, hi) -> Q (lo, hi)) : ∀ c, zcx L x c -> Q c := fun ⟨lo, hi⟩ hI => h _ _ hI
theorem zgz {n : Int} (h1 : 0 <= n) (h2 : n < 9223372036854775808) : (ULift.up n).down = IntKind.u64.wrap n := by
 show n = n % 18446744073709551616
 omega
theorem ztq {n : Int} (h1 : 0 <= n) (h2 : n < 9223372036854775808) : (ULift.up (n / 2)).down = IntKind.i64.wrap (n.fdiv (2 ^ (min (1 : Int).toNat IntKind.u64.bits))) := by
 have h : n.fdiv (2 ^ (min (1 : Int).toNat IntKind.u64.bits)) = n / 2 := Int.fdiv_eq_ediv_of_nonneg _ (by decide)
 rw [h]
 exact i64_in (by omega) (by omega)
noncomputable def zuB (x : Int) : zaa := ⟨[kz x], [], [], [], .ff⟩
theorem zDg (x : Int) : zaa.ok Tryz.prog GG 141 (zuB x) := by
 refine zad mix zBY _ rfl rfl (Tab.ok (l := []) trivial) noL noJ ?_
 repeat' ((conv => whnf); first
  | exact trivial
  | with_reducible first | refine aj ?_ | refine ai rfl ?_ | refine ai ⟨rfl, rfl⟩ ?_
  | ((with_reducible refine ai ?_ ?_); focus exact w3)
  | with_reducible first | refine And.intro ?_ ?_ | refine zae ?_ | refine exI (i64_in (by omega) (by omega)) ?_
  | refine exI (x := ULift.up _) (Eq.refl _) ?_
  | refine exI (x := ULift.up _) ⟨rfl, by omega, Eq.refl _⟩ ?_
  | exact ny
  | ((with_reducible intro h); try dsimp only at h))
 all_goals (refine Sd.mk ?_; simp_all)
noncomputable def znV : SFn
 | [a0], k => asI a0 fun x => k (zuB x)
 | _, _ => .fail
theorem zxT : FnS Tryz.prog GG 141 znV := by
 intro args k gt go R v os n h
 unfold znV at h
 split at h
 . obtain ⟨x, _, h⟩ := zaU h
   exact ⟨_, _, zDg x, h⟩
 . cases h
noncomputable def zuQ (x : Int) : zaa := ⟨[kz x], [], [], [], .ff⟩
theorem zDv (x : Int) : zaa.ok Tryz.prog GG 172 (zuQ x) := by
 refine zad mix zCd _ rfl rfl (Tab.ok (l := []) trivial) noL noJ ?_
 repeat' ((conv => whnf); first
  | exact trivial
  | with_reducible first | refine aj ?_ | refine ai rfl ?_ | refine ai ⟨rfl, rfl⟩ ?_
  | ((with_reducible refine ai ?_ ?_); focus exact w3)
  | with_reducible first | refine And.intro ?_ ?_ | refine zae ?_ | refine exI (i64_in (by omega) (by omega)) ?_
  | refine exI (x := ULift.up _) (Eq.refl _) ?_
  | refine exI (x := ULift.up _) ⟨rfl, by omega, Eq.refl _⟩ ?_
  | exact ny
  | ((with_reducible intro h); try dsimp only at h))
 all_goals (refine Sd.mk ?_; simp_all)
noncomputable def zqo : SFn
 | [a0], k => asI a0 fun x => k (zuQ x)
 | _, _ => .fail
theorem zEx : FnS Tryz.prog GG 172 zqo := by
 intro args k gt go R v os n h
 unfold zqo at h
 split at h
 . obtain ⟨x, _, h⟩ := zaU h
   exact ⟨_, _, zDv x, h⟩
 . cases h
noncomputable def zuP (x : Int) (y : Int) : zaa := ⟨[kz x, kz y], [], [], [], .bool (decide (x < y))⟩
theorem zDu (x : Int) (y : Int) : zaa.ok Tryz.prog GG 171 (zuP x y) := by
 refine zad mix zCc _ rfl rfl (Tab.ok (l := [(141, znV)]) ⟨zxT, trivial⟩) noL noJ ?_
 repeat' ((conv => whnf); first
  | exact trivial
  | with_reducible first | refine aj ?_ | refine ai rfl ?_ | refine ai ⟨rfl, rfl⟩ ?_
  | ((with_reducible refine ai ?_ ?_); focus exact w3)
  | with_reducible first | refine And.intro ?_ ?_ | refine zae ?_ | refine exI (i64_in (by omega) (by omega)) ?_
  | refine exI (x := ULift.up _) (Eq.refl _) ?_
  | refine exI (x := ULift.up _) ⟨rfl, by omega, Eq.refl _⟩ ?_
  | exact ny
  | ((with_reducible intro h); try dsimp only at h))
 all_goals (refine Sd.mk ?_; simp_all)
noncomputable def zqn : SFn
 | [a0, a1], k => asI a0 fun x => asI a1 fun y => k (zuP x y)
 | _, _ => .fail
theorem zEw : FnS Tryz.prog GG 171 zqn := by
 intro args k gt go R v os n h
 unfold zqn at h
 split at h
 . obtain ⟨x, _, h⟩ := zaU h
   obtain ⟨y, _, h⟩ := zaU h
   exact ⟨_, _, zDu x y, h⟩
 . cases h
noncomputable def zuC (L : List Int) (x : Int) : zaa := ⟨[.rd (.sl 1 (L.map ipv)), kz x], [], [], [], .tup [kz (ltN L x), .bool (ziK L x)]⟩
set_option maxHeartbeats 4000000 in
theorem zDh (L : List Int) (x : Int) (hp : srt L /\ L.length <= 1000000) : zaa.ok Tryz.prog GG 142 (zuC L x) := by
 refine zad mix zBZ _ rfl rfl (Tab.ok (l := [(171, zqn), (172, zqo)]) ⟨zEw, zEx, trivial⟩) (fun _ => .inv (Int × Int) (fun _ => zcx L x) (zwg L x) (fun c => (c.2 - c.1).toNat)) noJ ?_
 repeat' ((conv => whnf); first
  | exact trivial
  | with_reducible first | refine aj ?_ | refine ai rfl ?_ | refine ai ⟨rfl, rfl⟩ ?_
  | ((with_reducible refine ai ?_ ?_); focus exact w3)
  | with_reducible first | refine zvm ?_ | apply exW (γ := Int × Int) (c := (_, _)) | refine exI (i64_in (by simp only [zcx, List.length_map] at *; omega) (by simp only [zcx, List.length_map] at *; omega)) ?_
  | refine exI (zgz (by simp only [zcx, List.length_map] at *; omega) (by simp only [zcx, List.length_map] at *; omega)) ?_
  | refine exI (ztq (by simp only [zcx, List.length_map] at *; omega) (by simp only [zcx, List.length_map] at *; omega)) ?_
  | refine exI (x := ULift.up _) ⟨rfl, (by simp only [zcx, List.length_map] at *; omega), zbI _ _ _ (by simp only [zcx, List.length_map] at *; omega)⟩ ?_
  | with_reducible first | refine And.intro ?_ ?_ | refine zae ?_ | refine exI (i64_in (by omega) (by omega)) ?_
  | refine exI (x := ULift.up _) (Eq.refl _) ?_
  | refine exI (x := ULift.up _) ⟨rfl, by omega, Eq.refl _⟩ ?_
  | exact nx
  | ((with_reducible intro h); try dsimp only at h))
 all_goals (refine Sd.mk ?_; (try simp only [List.length_map] at *))
 all_goals first
  | exact zAm hp.2
  | exact zyx hp.1 ‹_› ‹_› ‹_›
  | exact zyw hp.1 ‹_› ‹_› ‹_›
  | exact zjg ‹_› ‹_›
  | exact zAp ‹_› ‹_› ‹_› ‹_›
  | exact zAn ‹_› ‹_› ‹_›
  | exact zAo ‹_› ‹_› ‹_›
noncomputable def zqc : SFn
 | [a0, a1], k => zcX a0 fun L_L => asL ipv L_L fun L => asI a1 fun x => .req (srt L /\ L.length <= 1000000) (k (zuC L x))
 | _, _ => .fail
theorem zEl : FnS Tryz.prog GG 142 zqc := by
 intro args k gt go R v os n h
 unfold zqc at h
 split at h
 . obtain ⟨L_L, _, h⟩ := zbq h
   obtain ⟨L, _, h⟩ := zbc h
   obtain ⟨x, _, h⟩ := zaU h
   obtain ⟨hp, _, h⟩ := zaz h
   exact ⟨_, _, zDh L x hp, h⟩
 . cases h
noncomputable def L98 (L : List Int) (x : Int) : zaa := ⟨[.rd (.sl 1 (L.map ipv)), kz x], [], [], [], kz (zlM L x)⟩
theorem s98 (L : List Int) (x : Int) (hp : srt L /\ L.length <= 1000000) : zaa.ok Tryz.prog GG 98 (L98 L x) := by
 refine zad mix k98 _ rfl rfl (Tab.ok (l := [(142, zqc)]) ⟨zEl, trivial⟩) noL noJ ?_
 repeat' ((conv => whnf); first
  | exact trivial
  | with_reducible first | refine aj ?_ | refine ai rfl ?_ | refine ai ⟨rfl, rfl⟩ ?_
  | ((with_reducible refine ai ?_ ?_); focus exact w3)
  | with_reducible refine And.intro (Sd.mk (p := _ /\ _ <= 1000000) hp) ?_
  | refine exI (x := ULift.up _) ⟨rfl, (by have := @zpu L x; (try simp only [List.length_map] at *); omega), zbI _ _ _ (by have := @zpu L x; (try simp only [List.length_map] at *); omega)⟩ ?_
  | with_reducible first | refine And.intro ?_ ?_ | refine zae ?_ | refine exI (i64_in (by omega) (by omega)) ?_
  | refine exI (x := ULift.up _) (Eq.refl _) ?_
  | refine exI (x := ULift.up _) ⟨rfl, by omega, Eq.refl _⟩ ?_
  | exact ny
  | ((with_reducible intro h); try dsimp only at h))
 all_goals (refine Sd.mk ?_; (try simp only [List.length_map] at *))
 all_goals first
  | (unfold zlM; rw [if_pos ‹_›])
  | (unfold zlM; rw [if_neg ‹_›])
noncomputable def S98 : SFn
 | [a0, a1], k => zcX a0 fun L_L => asL ipv L_L fun L => asI a1 fun x => .req (srt L /\ L.length <= 1000000) (k (L98 L x))
 | _, _ => .fail
theorem t98 : FnS Tryz.prog GG 98 S98 := by
 intro args k gt go R v os n h
 unfold S98 at h
 split at h
 . obtain ⟨L_L, _, h⟩ := zbq h
   obtain ⟨L, _, h⟩ := zbc h
   obtain ⟨x, _, h⟩ := zaU h
   obtain ⟨hp, _, h⟩ := zaz h
   exact ⟨_, _, s98 L x hp, h⟩
 . cases h
end
section
def c96 : MC := .seq (.reg [oo 4 (.mv (ki 0))]) (.seq (.reg [om 7 0,oo 8 (fc 141 [(.t 7)]),om 5 8]) (.seq (.reg [om 9 1,oo 10 (fc 141 [(.t 9)]),om 6 10]) (.seq (.seq (.reg [om 11 5]) (.cond (.t 11) (.seq (.seq (.reg [om 12 6]) (.cond (.t 12) (.seq (.reg [oo 4 (.mv (ki 0))]) (.ret)) (.skip))) (.seq (.reg [oo 4 (.mv (ki (-1)))]) (.ret))) (.skip))) (.seq (.seq (.reg [om 13 6]) (.cond (.t 13) (.seq (.reg [oo 4 (.mv (ki 1))]) (.ret)) (.skip))) (.seq (.seq (.reg [om 14 0,om 15 1,oo 16 (ct .lss 14 15)]) (.cond (.t 16) (.seq (.reg [oo 4 (.mv (ki (-1)))]) (.ret)) (.skip))) (.seq (.seq (.reg [om 17 0,om 18 1,oo 19 (ct .gtr 17 18)]) (.cond (.t 19) (.seq (.reg [oo 4 (.mv (ki 1))]) (.ret)) (.skip))) (.seq (.reg [oo 4 (.mv (ki 0))]) (.ret))))))))
theorem k96 : zar Tryz.prog 96 20 c96 [.t 4] := fk Tryz.func96 ⟨tv,⟨tv,⟨tv,⟨⟨tv,⟨⟨⟨tv,⟨⟨tv,tv⟩,tv⟩⟩,⟨tv,tv⟩⟩,tv⟩⟩,⟨⟨tv,⟨⟨tv,tv⟩,tv⟩⟩,⟨⟨tv,⟨⟨tv,tv⟩,tv⟩⟩,⟨⟨tv,⟨⟨tv,tv⟩,tv⟩⟩,⟨tv,tv⟩⟩⟩⟩⟩⟩⟩⟩
def c52 : MC := .seq (.reg [oo 2 (.box (.t 0)),oo 3 (.box (.t 1)),oo 4 (.mv (ki 0))]) (.seq (.seq (.reg [oo 5 (fl 0 2),oo 6 (ln 5),oo 7 (fl 0 3),oo 8 (ln 7),oo 9 (.eqb true (.t 6) (.t 8))]) (.cond (.t 9) (.seq (.seq (.reg [oo 10 (fl 0 3),oo 11 (ln 10)]) (.cond (.t 11) (.seq (.reg [oo 4 (.mv (ki (-1)))]) (.ret)) (.skip))) (.seq (.reg [oo 4 (.mv (ki 1))]) (.ret))) (.skip))) (.seq (.reg [oo 12 (fl 1 2),oo 13 (ln 12),oo 14 (fl 1 3),oo 15 (ln 14),oo 16 (fc 96 [(.t 13),(.t 15)]),om 4 16]) (.ret)))
theorem k52 : zar Tryz.prog 52 17 c52 [.t 4] := fk Tryz.func52 ⟨tv,⟨⟨tv,⟨⟨⟨tv,⟨⟨tv,tv⟩,tv⟩⟩,⟨tv,tv⟩⟩,tv⟩⟩,⟨tv,tv⟩⟩⟩
def zcZ (x y : Int) : Int := if x < y then -1 else if y < x then 1 else 0
def zd1 (a b : HR) : Int := if a.vec ≠ b.vec then (if b.vec = true then -1 else 1) else zcZ a.n b.n
noncomputable def L96 (x : Int) (y : Int) : zaa := ⟨[kz x, kz y], [], [], [], kz (zcZ x y)⟩
theorem s96 (x : Int) (y : Int) : zaa.ok Tryz.prog GG 96 (L96 x y) := by
 refine zad mix k96 _ rfl rfl (Tab.ok (l := [(141, znV)]) ⟨zxT, trivial⟩) noL noJ ?_
 repeat' ((conv => whnf); first
  | exact trivial
  | with_reducible first | refine aj ?_ | refine ai rfl ?_ | refine ai ⟨rfl, rfl⟩ ?_
  | ((with_reducible refine ai ?_ ?_); focus exact w3)
  | with_reducible first | refine And.intro ?_ ?_ | refine zae ?_ | refine exI (i64_in (by omega) (by omega)) ?_
  | refine exI (x := ULift.up _) (Eq.refl _) ?_
  | refine exI (x := ULift.up _) ⟨rfl, by omega, Eq.refl _⟩ ?_
  | exact ny
  | ((with_reducible intro h); try dsimp only at h))
 all_goals (refine Sd.mk ?_; unfold zcZ; (repeat' split)) <;> first | rfl | omega | simp_all
noncomputable def S96 : SFn
 | [a0, a1], k => asI a0 fun x => asI a1 fun y => k (L96 x y)
 | _, _ => .fail
theorem t96 : FnS Tryz.prog GG 96 S96 := by
 intro args k gt go R v os n h
 unfold S96 at h
 split at h
 . obtain ⟨x, _, h⟩ := zaU h
   obtain ⟨y, _, h⟩ := zaU h
   exact ⟨_, _, s96 x y, h⟩
 . cases h
noncomputable def L52 (a : HR) (b : HR) : zaa := ⟨[.agg a.cells, .agg b.cells], [], [], [], kz (zd1 a b)⟩
theorem s52 (a : HR) (b : HR) : zaa.ok Tryz.prog GG 52 (L52 a b) := by
 refine zad mix k52 _ rfl rfl (Tab.ok (l := [(96, S96)]) ⟨t96, trivial⟩) noL noJ ?_
 repeat' ((conv => whnf); first
  | exact trivial
  | with_reducible first | refine aj ?_ | refine ai rfl ?_ | refine ai ⟨rfl, rfl⟩ ?_
  | ((with_reducible refine ai ?_ ?_); focus exact w3)
  | with_reducible first | refine And.intro ?_ ?_ | refine zae ?_ | refine exI (i64_in (by omega) (by omega)) ?_
  | refine exI (x := ULift.up _) (Eq.refl _) ?_
  | refine exI (x := ULift.up _) ⟨rfl, by omega, Eq.refl _⟩ ?_
  | exact nx
  | ((with_reducible intro h); try dsimp only at h))
 all_goals (refine Sd.mk ?_; unfold zd1; simp_all)
noncomputable def S52 : SFn
 | [a0, a1], k => zgO a0 fun a => zgO a1 fun b => k (L52 a b)
 | _, _ => .fail
theorem t52 : FnS Tryz.prog GG 52 S52 := by
 intro args k gt go R v os n h
 unfold S52 at h
 split at h
 . obtain ⟨a, _, h⟩ := zd0 h
   obtain ⟨b, _, h⟩ := zd0 h
   exact ⟨_, _, s52 a b, h⟩
 . cases h
end
section
def zBh : MC := .seq (.reg [om 10 1,oo 11 (ac .add 10 1),om 8 11]) (.blk 0 (.loop 0 (.seq (.seq (.reg [om 12 8,om 13 2,oo 14 (ct .lss 12 13)]) (.cond (.t 14) (.skip) (.exit 0))) (.seq (.blk 1 (.seq (.reg [om 17 8,om 9 17]) (.blk 2 (.loop 1 (.seq (.seq (.drw [om 18 9,om 19 1,oo 20 (ct .gtr 18 19),sm 21 20,mt 21 22 3,mt 21 23 0,mt 21 24 9,gt_ 21 25 (ia 1 23 24),gt_ 21 26 (ln 25),mt 21 27 0,mt 21 28 9,gt_ 21 29 (ac .sub 28 1),gt_ 21 30 (ia 1 27 29),gt_ 21 31 (ln 30),gt_ 21 32 (.call (.t 22) [(.t 26),(.t 31)]),gt_ 21 33 (cc .lss 32 0),oo 34 (pf 21 33)] [[],[],[0,1],[2],[3],[3],[3],[5,6,3],[7,3],[3],[3],[10,3],[9,11,3],[12,3],[4,8,13,3,3],[14,3],[3,15]]) (.cond (.t 34) (.skip) (.exit 2))) (.seq (.blk 3 (.drw [om 37 0,om 38 9,om 39 0,om 40 9,oo 41 (ac .sub 40 1),om 42 0,om 43 9,oo 44 (ac .sub 43 1),oo 45 (ia 1 42 44),oo 46 (ln 45),om 47 0,om 48 9,oo 49 (ia 1 47 48),oo 50 (ln 49),oo 51 (ia 1 37 38),o none (.st (some 1) (.t 51) (.t 46)),oo 52 (ia 1 39 41),o none (.st (some 1) (.t 52) (.t 50))] [[],[],[],[],[3],[],[],[6],[5,7],[8],[],[],[10,11],[12],[0,1,0,1,5,6,7,8,9,13],[14,9,0,1,5,6,7,8,9,13],[2,4,0,1,2,3,4,5,6,7,8,9,10,11,12,13,14,15],[16,13,15,0,1,2,3,4,5,6,7,8,9,10,11,12,13,14,15]])) (.reg [om 35 9,oo 36 (ac .sub 35 1),om 9 36]))))))) (.reg [om 15 8,oo 16 (ac .add 15 1),om 8 16])))))
theorem zCt : zar Tryz.prog 225 53 zBh [] := fk Tryz.func225 ⟨tv,⟨⟨tv,⟨tv,tv⟩⟩,⟨⟨tv,⟨⟨tv,⟨tv,tv⟩⟩,⟨tv,tv⟩⟩⟩,tv⟩⟩⟩
def zc4 : List Int -> Int -> List Int
 | [], x => [x]
 | y :: r, x => if zcZ x y < 0 then y :: zc4 r x else x :: y :: r
def zbO (L : List Int) : List Int := (L.foldl zc4 []).reverse
def zhY (M : List Int) (j : Int) : List Int := (M.set (0 + j.toNat) (nth M (j - 1))).set (0 + (j - 1).toNat) (nth M j)
abbrev zlH := Int × List Int
abbrev zf5 := Int × Int × List Int
def ztD (L : List Int) : zlH -> St
 | (i, M) => ⟨[(8, kz i), (3, .fn (.func 96) [] []), (2, kz L.length), (1, kz 0), (0, .slc 0 0 L.length)], [(0, some (.vec 1 (M.map ipv)))], 1⟩
def ztC (L : List Int) : zf5 -> St
 | (i, j, M) => ⟨[(9, kz j), (8, kz i), (3, .fn (.func 96) [] []), (2, kz L.length), (1, kz 0), (0, .slc 0 0 L.length)], [(0, some (.vec 1 (M.map ipv)))], 1⟩
def zcV (L : List Int) : zlH -> Prop
 | (i, M) => 1 <= i /\ (i <= L.length \/ i = 1) /\ L.length <= 1000000 /\ M.length = L.length /\ M = (((L.take i.toNat).foldl zc4 []).reverse ++ L.drop i.toNat)
def zz0 (L : List Int) (i j : Int) (M : List Int) : Prop := ∃ A B : List Int, A.length = j.toNat /\ M = A.reverse ++ nth L i :: (B.reverse ++ L.drop (i + 1).toNat) /\ (L.take (i + 1).toNat).foldl zc4 [] = B ++ zc4 A (nth L i)
def zcU (L : List Int) (c0 : zf5) : zf5 -> Prop
 | (i, j, M) => i = c0.1 /\ 0 <= j /\ j <= i /\ i < L.length /\ L.length <= 1000000 /\ M.length = L.length /\ zz0 L i j M
def zys (L : List Int) : Nat -> zcA
 | 0 => .inv zlH (fun _ => zcV L) (ztD L) (fun c => (L.length - c.1).toNat)
 | _ => .inv zf5 (zcU L) (ztC L) (fun c => c.2.1.toNat)
theorem zs2 {L : List Int} {Q : zlH -> Prop} (h : ∀ i M, zcV L (i, M) -> Q (i, M)) : ∀ c, zcV L c -> Q c := fun ⟨i, M⟩ hI => h _ _ hI
theorem zs0 {L : List Int} {i x} {Q : zf5 -> Prop} (h : ∀ j M, zcU L (i, x) (i, j, M) -> Q (i, j, M)) : ∀ c, zcU L (i, x) c -> Q c := fun ⟨i', j, M⟩ hI => by
 have h1 := hI.1
 dsimp only at h1
 subst h1
 exact h _ _ hI
theorem zBH {L : List Int} {c0 : zf5} {i j : Int} {M : List Int} (_ : zcU L c0 (i, j, M)) {p q : zf5 -> Prop} (h : p (i, j - 1, zhY M j)) (k : q (i, j - 1, zhY M j)) : ∃ c, p c /\ q c := ⟨_, h, k⟩
theorem zCZ {M : List Int} {y : Int} {a k : Int} (h : 0 <= k /\ k < M.length) : (List.set (List.map ipv M) (0 + a.toNat) (ipv y))[0 + k.toNat]? = some (ipv (nth (M.set (0 + a.toNat) y) k)) := by
 rw [<- List.map_set, zbS _ _ _ (by rw [List.length_set]; exact h)]
theorem zfq {P R : List Int} {x : Int} {j : Int} (h0 : 0 <= j) (h : P.length = j.toNat) : nth (P ++ x :: R) j = x := by
 have e := zb0 (P ++ x :: R) j ⟨h0, by rw [List.length_append, List.length_cons]; omega⟩
 rw [<- h, List.getElem?_append_right (Nat.le_refl _), Nat.sub_self] at e
 exact (Option.some.inj e).symm
theorem zru (A : List Int) (x : Int) : (zc4 A x).length = A.length + 1 := by
 induction A with
 | nil => rfl
 | cons y r ih =>
   unfold zc4; split
   . rw [List.length_cons, ih, List.length_cons]
   . rfl
theorem zpb (l : List Int) : ∀ A : List Int, (l.foldl zc4 A).length = A.length + l.length := by
 induction l with
 | nil => intro A; rfl
 | cons x r ih => intro A; rw [List.foldl_cons, ih, zru, List.length_cons]; omega
theorem zD0 {L : List Int} (hp : L.length <= 1000000) : zcV L (0 + 1, L) := by
 refine ⟨by omega, .inr rfl, hp, rfl, ?_⟩
 cases L with
 | nil => rfl
 | cons a t => rfl
theorem zD1 {L : List Int} {i : Int} {M : List Int} (hI : zcV L (i, M)) (h : i < L.length) : zcU L (i, i, M) (i, i, M) := by
 obtain ⟨h1, h2, h3, h4, h5⟩ := hI
 refine ⟨rfl, by omega, by omega, h, h3, h4, (L.take i.toNat).foldl zc4 [], [], ?_, ?_, ?_⟩
 . rw [zpb, List.length_take, List.length_nil]; omega
 . rw [h5, zaG L i ⟨by omega, h⟩]; rfl
 . rw [zcP L i ⟨by omega, h⟩, List.foldl_append]; rfl
theorem zxv {M : List Int} {j : Int} : List.map ipv (zhY M j) = ((List.map ipv M).set (0 + j.toNat) [PV.int IntKind.i64 (nth M (j - 1))]).set (0 + (j - 1).toNat) [PV.int IntKind.i64 (nth M j)] := by
 unfold zhY; rw [List.map_set, List.map_set]; rfl
theorem zui {P R : List Int} {x y : Int} {j : Int} (h0 : 0 < j) (h : P.length = (j - 1).toNat) : zhY (P ++ y :: x :: R) j = P ++ x :: y :: R := by
 have e1 : nth (P ++ y :: x :: R) (j - 1) = y := zfq (by omega) h
 have e2 : nth (P ++ y :: x :: R) j = x := by
  have : P ++ y :: x :: R = (P ++ [y]) ++ x :: R := by rw [List.append_assoc]; rfl
  rw [this]
  exact zfq (by omega) (by rw [List.length_append, List.length_singleton]; omega)
 unfold zhY
 rw [e1, e2, List.set_append, if_neg (by omega)]
 have e3 : 0 + j.toNat - P.length = 1 := by omega
 rw [e3]
 show (P ++ y :: y :: R).set _ x = _
 rw [List.set_append, if_neg (by omega)]
 have e4 : 0 + (j - 1).toNat - P.length = 0 := by omega
 rw [e4]; rfl
theorem zzx {L : List Int} {c0 : zf5} {i j : Int} {M : List Int} (hI : zcU L c0 (i, j, M)) (h : 0 < j) (e : zcZ (nth M j) (nth M (j - 1)) < 0) : zcU L c0 (i, j - 1, zhY M j) /\ (j - 1).toNat < j.toNat := by
 obtain ⟨h1, h2, h3, h4, h5, h6, A, B, h7, h8, h9⟩ := hI
 refine ⟨⟨h1, by omega, by omega, h4, h5, by unfold zhY; rw [List.length_set, List.length_set]; exact h6, ?_⟩, by omega⟩
 cases A with
 | nil => rw [List.length_nil] at h7; omega
 | cons y A =>
   rw [List.length_cons] at h7
   rw [List.reverse_cons, List.append_assoc] at h8
   have hl : A.reverse.length = (j - 1).toNat := by rw [List.length_reverse]; omega
   have e1 : nth M (j - 1) = y := by rw [h8]; exact zfq (by omega) hl
   have e2 : nth M j = nth L i := by
    rw [h8, <- List.append_assoc]
    exact zfq (by omega) (by rw [List.length_append, List.length_singleton]; omega)
   refine ⟨A, B ++ [y], by omega, ?_, ?_⟩
   . rw [h8]
     have := zui (P := A.reverse) (R := B.reverse ++ L.drop (i + 1).toNat) (x := nth L i) (y := y) h hl
     rw [List.reverse_append]
     exact this
   . rw [e1, e2] at e
     rw [h9, zc4, if_pos e, List.append_assoc]; rfl
theorem zpE {L : List Int} {c0 : zf5} {i j : Int} {M : List Int} (hi : 1 <= i) (hI : zcU L c0 (i, j, M)) (e : ¬ 0 < j \/ ¬ zcZ (nth M j) (nth M (j - 1)) < 0) : zcV L (i + 1, M) /\ ((L.length : Int) - (i + 1)).toNat < ((L.length : Int) - i).toNat := by
 obtain ⟨h1, h2, h3, h4, h5, h6, A, B, h7, h8, h9⟩ := hI
 refine ⟨⟨by omega, .inl (by omega), h5, h6, ?_⟩, by omega⟩
 have h10 : zc4 A (nth L i) = nth L i :: A := by
  cases A with
  | nil => rfl
  | cons y A =>
    rw [List.length_cons] at h7
    rw [List.reverse_cons, List.append_assoc] at h8
    have hl : A.reverse.length = (j - 1).toNat := by rw [List.length_reverse]; omega
    have e1 : nth M (j - 1) = y := by rw [h8]; exact zfq (by omega) hl
    have e2 : nth M j = nth L i := by
     rw [h8, <- List.append_assoc]
     exact zfq (by omega) (by rw [List.length_append, List.length_singleton]; omega)
    rw [e1, e2] at e
    rw [zc4, if_neg]
    rcases e with e | e
    . omega
    . exact e
 rw [h9, h10, h8, List.reverse_append, List.reverse_cons, List.append_assoc, List.append_assoc]; rfl
theorem zpi {L : List Int} {i : Int} {M : List Int} (hI : zcV L (i, M)) : 1 <= i := hI.1
theorem zxu {L : List Int} {i : Int} {M : List Int} (hI : zcV L (i, M)) (h : ¬ i < L.length) : List.map ipv (zbO L) = List.map ipv M := by
 obtain ⟨h1, h2, h3, h4, h5⟩ := hI
 rw [h5, List.take_of_length_le (by omega), List.drop_eq_nil_of_le (by omega), List.append_nil]; rfl
noncomputable def zvb (L : List Int) : zaa := ⟨[.slc 0 0 L.length, kz 0, kz L.length, .fn (.func 96) [] []], [.vec 1 (L.map ipv)], [some (.vec 1 ((zbO L).map ipv))], [], .tup []⟩
set_option maxHeartbeats 4000000 in
theorem zDQ (L : List Int) (hp : L.length <= 1000000) : zaa.ok Tryz.prog GG 225 (zvb L) := by
 refine zad mix zCt _ rfl rfl (Tab.ok (l := [(96, S96)]) ⟨t96, trivial⟩) (zys L) noJ ?_
 repeat' ((conv => whnf); first
  | exact trivial
  | with_reducible first | refine aj ?_ | refine ai rfl ?_ | refine ai ⟨rfl, rfl⟩ ?_
  | ((with_reducible refine ai ?_ ?_); focus exact w3)
  | with_reducible first | refine zs2 ?_ | refine zs0 ?_ | refine zBH (by with_reducible assumption) ?_ ?_ | apply exW (γ := zf5) (c := (_, _, _)) | apply exW (γ := zlH) (c := (_, _)) | refine exI (i64_in (by simp only [zcV, zcU, List.length_map] at *; omega) (by simp only [zcV, zcU, List.length_map] at *; omega)) ?_
  | refine exI (x := ULift.up _) (zbS _ _ _ (by simp only [zcV, zcU, List.length_map] at *; omega)) ?_
  | refine exI (x := ULift.up _) ⟨rfl, (by simp only [zcV, zcU, List.length_map] at *; omega), zbI _ _ _ (by simp only [zcV, zcU, List.length_map] at *; omega)⟩ ?_
  | refine exI (x := ULift.up _) (zCZ (by simp only [zcV, zcU, List.length_map] at *; omega)) ?_
  | with_reducible first | refine And.intro (Sd.mk (p := (_ : Int) <= _ /\ _) (by simp only [zcV, zcU, List.length_map] at *; omega)) ?_ | refine And.intro ?_ ?_ | refine zae ?_ | refine exI (i64_in (by omega) (by omega)) ?_
  | refine exI (x := ULift.up _) (Eq.refl _) ?_
  | refine exI (x := ULift.up _) ⟨rfl, by omega, Eq.refl _⟩ ?_
  | exact nx
  | ((with_reducible intro h); try dsimp only at h))
 all_goals (refine Sd.mk ?_)
 all_goals (try simp only [true_and] at *)
 all_goals first
  | exact zD0 hp
  | exact zD1 ‹_› ‹_›
  | exact zxv
  | exact zzx ‹_› ‹_› ‹_›
  | exact zpE (zpi ‹_›) ‹_› (.inl ‹_›)
  | exact zpE (zpi ‹_›) ‹_› (.inr ‹_›)
  | exact zxu ‹_› ‹_›
noncomputable def zqy : SFn
 | [.slc p 0 _, .int .i64 0, .int .i64 _, .fn (.func 96) [] []], k => .rO p fun o => match o with
   | some (.vec 1 LL) => asL ipv LL fun L => .req (L.length <= 1000000) (k (zvb L))
   | _ => .fail
 | _, _ => .fail
theorem zEH : FnS Tryz.prog GG 225 zqy := by
 intro args k gt go R v os n h
 unfold zqy at h
 split at h
 . cases h with
   | rO h =>
     dsimp only at h
     split at h
     . obtain ⟨L, _, h⟩ := zbc h
       obtain ⟨hp, _, h⟩ := zaz h
       exact ⟨_, _, zDQ L hp, h⟩
     . cases h
 . cases h
end
section
def zA0 : MC := .seq (.reg [om 10 1,oo 11 (ac .add 10 1),om 8 11]) (.blk 0 (.loop 0 (.seq (.seq (.reg [om 12 8,om 13 2,oo 14 (ct .lss 12 13)]) (.cond (.t 14) (.skip) (.exit 0))) (.seq (.blk 1 (.seq (.reg [om 17 8,om 9 17]) (.blk 2 (.loop 1 (.seq (.seq (.drw [om 18 9,om 19 1,oo 20 (ct .gtr 18 19),sm 21 20,mt 21 22 3,mt 21 23 0,mt 21 24 9,gt_ 21 25 (ia 2 23 24),gt_ 21 26 (ls 2 25),mt 21 27 0,mt 21 28 9,gt_ 21 29 (ac .sub 28 1),gt_ 21 30 (ia 2 27 29),gt_ 21 31 (ls 2 30),gt_ 21 32 (.call (.t 22) [(.t 26),(.t 31)]),gt_ 21 33 (cc .lss 32 0),oo 34 (pf 21 33)] [[],[],[0,1],[2],[3],[3],[3],[5,6,3],[7,3],[3],[3],[10,3],[9,11,3],[12,3],[4,8,13,3,3],[14,3],[3,15]]) (.cond (.t 34) (.skip) (.exit 2))) (.seq (.blk 3 (.drw [om 37 0,om 38 9,om 39 0,om 40 9,oo 41 (ac .sub 40 1),om 42 0,om 43 9,oo 44 (ac .sub 43 1),oo 45 (ia 2 42 44),oo 46 (ls 2 45),om 47 0,om 48 9,oo 49 (ia 2 47 48),oo 50 (ls 2 49),oo 51 (ia 2 37 38),o none (.st (some 2) (.t 51) (.t 46)),oo 52 (ia 2 39 41),o none (.st (some 2) (.t 52) (.t 50))] [[],[],[],[],[3],[],[],[6],[5,7],[8],[],[],[10,11],[12],[0,1,0,1,5,6,7,8,9,13],[14,9,0,1,5,6,7,8,9,13],[2,4,0,1,2,3,4,5,6,7,8,9,10,11,12,13,14,15],[16,13,15,0,1,2,3,4,5,6,7,8,9,10,11,12,13,14,15]])) (.reg [om 35 9,oo 36 (ac .sub 35 1),om 9 36]))))))) (.reg [om 15 8,oo 16 (ac .add 15 1),om 8 16])))))
theorem zCg : zar Tryz.prog 181 53 zA0 [] := fk Tryz.func181 ⟨tv,⟨⟨tv,⟨tv,tv⟩⟩,⟨⟨tv,⟨⟨tv,⟨tv,tv⟩⟩,⟨tv,tv⟩⟩⟩,tv⟩⟩⟩
def zc5 : List HR -> HR -> List HR
 | [], x => [x]
 | y :: r, x => if zd1 x y < 0 then y :: zc5 r x else x :: y :: r
def zb2 (L : List HR) : List HR := (L.foldl zc5 []).reverse
def swp (M : List HR) (j : Int) : List HR := (M.set (0 + j.toNat) (nth M (j - 1))).set (0 + (j - 1).toNat) (nth M j)
abbrev zlG := Int × List HR
abbrev zf4 := Int × Int × List HR
def ztB (L : List HR) : zlG -> St
 | (i, M) => ⟨[(8, kz i), (3, .fn (.func 52) [] []), (2, kz L.length), (1, kz 0), (0, .slc 0 0 L.length)], [(0, some (.vec 2 (M.map HR.pv)))], 1⟩
def ztA (L : List HR) : zf4 -> St
 | (i, j, M) => ⟨[(9, kz j), (8, kz i), (3, .fn (.func 52) [] []), (2, kz L.length), (1, kz 0), (0, .slc 0 0 L.length)], [(0, some (.vec 2 (M.map HR.pv)))], 1⟩
def zcT (L : List HR) : zlG -> Prop
 | (i, M) => 1 <= i /\ (i <= L.length \/ i = 1) /\ L.length <= 1000000 /\ M.length = L.length /\ M = (((L.take i.toNat).foldl zc5 []).reverse ++ L.drop i.toNat)
def zzZ (L : List HR) (i j : Int) (M : List HR) : Prop := ∃ A B : List HR, A.length = j.toNat /\ M = A.reverse ++ nth L i :: (B.reverse ++ L.drop (i + 1).toNat) /\ (L.take (i + 1).toNat).foldl zc5 [] = B ++ zc5 A (nth L i)
def zcS (L : List HR) (c0 : zf4) : zf4 -> Prop
 | (i, j, M) => i = c0.1 /\ 0 <= j /\ j <= i /\ i < L.length /\ L.length <= 1000000 /\ M.length = L.length /\ zzZ L i j M
def zyq (L : List HR) : Nat -> zcA
 | 0 => .inv zlG (fun _ => zcT L) (ztB L) (fun c => (L.length - c.1).toNat)
 | _ => .inv zf4 (zcS L) (ztA L) (fun c => c.2.1.toNat)
theorem zs1 {L : List HR} {Q : zlG -> Prop} (h : ∀ i M, zcT L (i, M) -> Q (i, M)) : ∀ c, zcT L c -> Q c := fun ⟨i, M⟩ hI => h _ _ hI
theorem zsZ {L : List HR} {i x} {Q : zf4 -> Prop} (h : ∀ j M, zcS L (i, x) (i, j, M) -> Q (i, j, M)) : ∀ c, zcS L (i, x) c -> Q c := fun ⟨i', j, M⟩ hI => by
 have h1 := hI.1
 dsimp only at h1
 subst h1
 exact h _ _ hI
theorem exS {L : List HR} {c0 : zf4} {i j : Int} {M : List HR} (_ : zcS L c0 (i, j, M)) {p q : zf4 -> Prop} (h : p (i, j - 1, swp M j)) (k : q (i, j - 1, swp M j)) : ∃ c, p c /\ q c := ⟨_, h, k⟩
theorem pg2 {M : List HR} {y : HR} {a k : Int} (h : 0 <= k /\ k < M.length) : (List.set (List.map HR.pv M) (0 + a.toNat) (HR.pv y))[0 + k.toNat]? = some (HR.pv (nth (M.set (0 + a.toNat) y) k)) := by
 rw [<- List.map_set, zbS _ _ _ (by rw [List.length_set]; exact h)]
theorem zgt {P R : List HR} {x : HR} {j : Int} (h0 : 0 <= j) (h : P.length = j.toNat) : nth (P ++ x :: R) j = x := by
 have e := zb0 (P ++ x :: R) j ⟨h0, by rw [List.length_append, List.length_cons]; omega⟩
 rw [<- h, List.getElem?_append_right (Nat.le_refl _), Nat.sub_self] at e
 exact (Option.some.inj e).symm
theorem zrv (A : List HR) (x : HR) : (zc5 A x).length = A.length + 1 := by
 induction A with
 | nil => rfl
 | cons y r ih =>
   unfold zc5; split
   . rw [List.length_cons, ih, List.length_cons]
   . rfl
theorem zrq (l : List HR) : ∀ A : List HR, (l.foldl zc5 A).length = A.length + l.length := by
 induction l with
 | nil => intro A; rfl
 | cons x r ih => intro A; rw [List.foldl_cons, ih, zrv, List.length_cons]; omega
theorem zD7 {L : List HR} (hp : L.length <= 1000000) : zcT L (0 + 1, L) := by
 refine ⟨by omega, .inr rfl, hp, rfl, ?_⟩
 cases L with
 | nil => rfl
 | cons a t => rfl
theorem zD8 {L : List HR} {i : Int} {M : List HR} (hI : zcT L (i, M)) (h : i < L.length) : zcS L (i, i, M) (i, i, M) := by
 obtain ⟨h1, h2, h3, h4, h5⟩ := hI
 refine ⟨rfl, by omega, by omega, h, h3, h4, (L.take i.toNat).foldl zc5 [], [], ?_, ?_, ?_⟩
 . rw [zrq, List.length_take, List.length_nil]; omega
 . rw [h5, zaG L i ⟨by omega, h⟩]; rfl
 . rw [zcP L i ⟨by omega, h⟩, List.foldl_append]; rfl
theorem zxB {M : List HR} {j : Int} : List.map HR.pv (swp M j) = ((List.map HR.pv M).set (0 + j.toNat) [PV.bool (nth M (j - 1)).vec, PV.int IntKind.i64 (nth M (j - 1)).n]).set (0 + (j - 1).toNat) [PV.bool (nth M j).vec, PV.int IntKind.i64 (nth M j).n] := by
 unfold swp; rw [List.map_set, List.map_set]; rfl
theorem zxF {P R : List HR} {x y : HR} {j : Int} (h0 : 0 < j) (h : P.length = (j - 1).toNat) : swp (P ++ y :: x :: R) j = P ++ x :: y :: R := by
 have e1 : nth (P ++ y :: x :: R) (j - 1) = y := zgt (by omega) h
 have e2 : nth (P ++ y :: x :: R) j = x := by
  have : P ++ y :: x :: R = (P ++ [y]) ++ x :: R := by rw [List.append_assoc]; rfl
  rw [this]
  exact zgt (by omega) (by rw [List.length_append, List.length_singleton]; omega)
 unfold swp
 rw [e1, e2, List.set_append, if_neg (by omega)]
 have e3 : 0 + j.toNat - P.length = 1 := by omega
 rw [e3]
 show (P ++ y :: y :: R).set _ x = _
 rw [List.set_append, if_neg (by omega)]
 have e4 : 0 + (j - 1).toNat - P.length = 0 := by omega
 rw [e4]; rfl
theorem zzE {L : List HR} {c0 : zf4} {i j : Int} {M : List HR} (hI : zcS L c0 (i, j, M)) (h : 0 < j) (e : zd1 (nth M j) (nth M (j - 1)) < 0) : zcS L c0 (i, j - 1, swp M j) /\ (j - 1).toNat < j.toNat := by
 obtain ⟨h1, h2, h3, h4, h5, h6, A, B, h7, h8, h9⟩ := hI
 refine ⟨⟨h1, by omega, by omega, h4, h5, by unfold swp; rw [List.length_set, List.length_set]; exact h6, ?_⟩, by omega⟩
 cases A with
 | nil => rw [List.length_nil] at h7; omega
 | cons y A =>
   rw [List.length_cons] at h7
   rw [List.reverse_cons, List.append_assoc] at h8
   have hl : A.reverse.length = (j - 1).toNat := by rw [List.length_reverse]; omega
   have e1 : nth M (j - 1) = y := by rw [h8]; exact zgt (by omega) hl
   have e2 : nth M j = nth L i := by
    rw [h8, <- List.append_assoc]
    exact zgt (by omega) (by rw [List.length_append, List.length_singleton]; omega)
   refine ⟨A, B ++ [y], by omega, ?_, ?_⟩
   . rw [h8]
     have := zxF (P := A.reverse) (R := B.reverse ++ L.drop (i + 1).toNat) (x := nth L i) (y := y) h hl
     rw [List.reverse_append]
     exact this
   . rw [e1, e2] at e
     rw [h9, zc5, if_pos e, List.append_assoc]; rfl
theorem zpG {L : List HR} {c0 : zf4} {i j : Int} {M : List HR} (hi : 1 <= i) (hI : zcS L c0 (i, j, M)) (e : ¬ 0 < j \/ ¬ zd1 (nth M j) (nth M (j - 1)) < 0) : zcT L (i + 1, M) /\ ((L.length : Int) - (i + 1)).toNat < ((L.length : Int) - i).toNat := by
 obtain ⟨h1, h2, h3, h4, h5, h6, A, B, h7, h8, h9⟩ := hI
 refine ⟨⟨by omega, .inl (by omega), h5, h6, ?_⟩, by omega⟩
 have h10 : zc5 A (nth L i) = nth L i :: A := by
  cases A with
  | nil => rfl
  | cons y A =>
    rw [List.length_cons] at h7
    rw [List.reverse_cons, List.append_assoc] at h8
    have hl : A.reverse.length = (j - 1).toNat := by rw [List.length_reverse]; omega
    have e1 : nth M (j - 1) = y := by rw [h8]; exact zgt (by omega) hl
    have e2 : nth M j = nth L i := by
     rw [h8, <- List.append_assoc]
     exact zgt (by omega) (by rw [List.length_append, List.length_singleton]; omega)
    rw [e1, e2] at e
    rw [zc5, if_neg]
    rcases e with e | e
    . omega
    . exact e
 rw [h9, h10, h8, List.reverse_append, List.reverse_cons, List.append_assoc, List.append_assoc]; rfl
theorem zsC {L : List HR} {i : Int} {M : List HR} (hI : zcT L (i, M)) : 1 <= i := hI.1
theorem zxz {L : List HR} {i : Int} {M : List HR} (hI : zcT L (i, M)) (h : ¬ i < L.length) : List.map HR.pv (zb2 L) = List.map HR.pv M := by
 obtain ⟨h1, h2, h3, h4, h5⟩ := hI
 rw [h5, List.take_of_length_le (by omega), List.drop_eq_nil_of_le (by omega), List.append_nil]; rfl
noncomputable def zuU (L : List HR) : zaa := ⟨[.slc 0 0 L.length, kz 0, kz L.length, .fn (.func 52) [] []], [.vec 2 (L.map HR.pv)], [some (.vec 2 ((zb2 L).map HR.pv))], [], .tup []⟩
set_option maxHeartbeats 4000000 in
theorem zDz (L : List HR) (hp : L.length <= 1000000) : zaa.ok Tryz.prog GG 181 (zuU L) := by
 refine zad mix zCg _ rfl rfl (Tab.ok (l := [(52, S52)]) ⟨t52, trivial⟩) (zyq L) noJ ?_
 repeat' ((conv => whnf); first
  | exact trivial
  | with_reducible first | refine aj ?_ | refine ai rfl ?_ | refine ai ⟨rfl, rfl⟩ ?_
  | ((with_reducible refine ai ?_ ?_); focus exact w3)
  | with_reducible first | refine zs1 ?_ | refine zsZ ?_ | refine exS (by with_reducible assumption) ?_ ?_ | apply exW (γ := zf4) (c := (_, _, _)) | apply exW (γ := zlG) (c := (_, _)) | refine exI (i64_in (by simp only [zcT, zcS, List.length_map] at *; omega) (by simp only [zcT, zcS, List.length_map] at *; omega)) ?_
  | refine exI (x := ULift.up _) (zbS _ _ _ (by simp only [zcT, zcS, List.length_map] at *; omega)) ?_
  | refine exI (x := ULift.up _) ⟨rfl, (by simp only [zcT, zcS, List.length_map] at *; omega), zbI _ _ _ (by simp only [zcT, zcS, List.length_map] at *; omega)⟩ ?_
  | refine exI (x := ULift.up _) (pg2 (by simp only [zcT, zcS, List.length_map] at *; omega)) ?_
  | with_reducible first | refine And.intro (Sd.mk (p := (_ : Int) <= _ /\ _) (by simp only [zcT, zcS, List.length_map] at *; omega)) ?_ | refine And.intro ?_ ?_ | refine zae ?_ | refine exI (i64_in (by omega) (by omega)) ?_
  | refine exI (x := ULift.up _) (Eq.refl _) ?_
  | refine exI (x := ULift.up _) ⟨rfl, by omega, Eq.refl _⟩ ?_
  | exact nx
  | ((with_reducible intro h); try dsimp only at h))
 all_goals (refine Sd.mk ?_)
 all_goals (try simp only [HR.eta, true_and] at *)
 all_goals first
  | exact zD7 hp
  | exact zD8 ‹_› ‹_›
  | exact zxB
  | exact zzE ‹_› ‹_› ‹_›
  | exact zpG (zsC ‹_›) ‹_› (.inl ‹_›)
  | exact zpG (zsC ‹_›) ‹_› (.inr ‹_›)
  | exact zxz ‹_› ‹_›
noncomputable def zqr : SFn
 | [.slc p 0 _, .int .i64 0, .int .i64 _, .fn (.func 52) [] []], k => .rO p fun o => match o with
   | some (.vec 2 LL) => asL HR.pv LL fun L => .req (L.length <= 1000000) (k (zuU L))
   | _ => .fail
 | _, _ => .fail
theorem zEA : FnS Tryz.prog GG 181 zqr := by
 intro args k gt go R v os n h
 unfold zqr at h
 split at h
 . cases h with
   | rO h =>
     dsimp only at h
     split at h
     . obtain ⟨L, _, h⟩ := zbc h
       obtain ⟨hp, _, h⟩ := zaz h
       exact ⟨_, _, zDz L hp, h⟩
     . cases h
 . cases h
end
section
def zA1 : MC := .seq (.reg [oo 2 (.mv (ki 0))]) (.seq (.seq (.reg [om 3 0,oo 4 (.cmp .geq (.t 3) (.k (.int .u64 4294967296)))]) (.cond (.t 4) (.seq (.reg [om 5 0,oo 6 (.ar .shr (.t 5) (.k (.int .u64 32))),om 0 6]) (.reg [oo 2 (.mv (ki 32))])) (.skip))) (.seq (.seq (.reg [om 7 0,oo 8 (.cmp .geq (.t 7) (.k (.int .u64 65536)))]) (.cond (.t 8) (.seq (.reg [om 9 0,oo 10 (.ar .shr (.t 9) (.k (.int .u64 16))),om 0 10]) (.reg [om 11 2,oo 12 (ac .add 11 16),om 2 12])) (.skip))) (.seq (.seq (.reg [om 13 0,oo 14 (.cmp .geq (.t 13) (.k (.int .u64 256)))]) (.cond (.t 14) (.seq (.reg [om 15 0,oo 16 (.ar .shr (.t 15) (.k (.int .u64 8))),om 0 16]) (.reg [om 17 2,oo 18 (ac .add 17 8),om 2 18])) (.skip))) (.seq (.reg [om 19 2,om 20 0,oo 21 (.cv .u8 (.t 20)),oo 22 (.ixs (.k (.str ⟨#[0,1,2,2,3,3,3,3,4,4,4,4,4,4,4,4,5,5,5,5,5,5,5,5,5,5,5,5,5,5,5,5,6,6,6,6,6,6,6,6,6,6,6,6,6,6,6,6,6,6,6,6,6,6,6,6,6,6,6,6,6,6,6,6,7,7,7,7,7,7,7,7,7,7,7,7,7,7,7,7,7,7,7,7,7,7,7,7,7,7,7,7,7,7,7,7,7,7,7,7,7,7,7,7,7,7,7,7,7,7,7,7,7,7,7,7,7,7,7,7,7,7,7,7,7,7,7,7,8,8,8,8,8,8,8,8,8,8,8,8,8,8,8,8,8,8,8,8,8,8,8,8,8,8,8,8,8,8,8,8,8,8,8,8,8,8,8,8,8,8,8,8,8,8,8,8,8,8,8,8,8,8,8,8,8,8,8,8,8,8,8,8,8,8,8,8,8,8,8,8,8,8,8,8,8,8,8,8,8,8,8,8,8,8,8,8,8,8,8,8,8,8,8,8,8,8,8,8,8,8,8,8,8,8,8,8,8,8,8,8,8,8,8,8,8,8,8,8,8,8,8,8,8,8,8,8]⟩)) (.t 21)),oo 23 (.cv .i64 (.t 22)),oo 24 (at_ .add 19 23),om 2 24]) (.ret)))))
theorem zCh : zar Tryz.prog 190 25 zA1 [.t 2] := fk Tryz.func190 ⟨tv,⟨⟨tv,⟨⟨tv,tv⟩,tv⟩⟩,⟨⟨tv,⟨⟨tv,tv⟩,tv⟩⟩,⟨⟨tv,⟨⟨tv,tv⟩,tv⟩⟩,⟨tv,tv⟩⟩⟩⟩⟩
def zAU : MC := .seq (.reg [oo 2 (.mv (ki 0))]) (.seq (.cond kf (.seq (.reg [om 3 0,oo 4 (.cv .u32 (.t 3)),oo 5 (fc 189 [(.t 4)]),om 2 5]) (.ret)) (.skip)) (.seq (.reg [om 6 0,oo 7 (fc 190 [(.t 6)]),om 2 7]) (.ret)))
theorem zCb : zar Tryz.prog 170 8 zAU [.t 2] := fk Tryz.func170 ⟨tv,⟨⟨⟨tv,tv⟩,tv⟩,⟨tv,tv⟩⟩⟩
def lenT (n : Int) : Int := if n = 0 then 0 else if n < 2 then 1 else if n < 4 then 2 else if n < 8 then 3 else 4
noncomputable def zuV (n : Int) : zaa := ⟨[.int .u64 n], [], [], [], kz (lenT n)⟩
theorem zDA (n : Int) (hp : 0 <= n /\ n <= 12) : zaa.ok Tryz.prog GG 190 (zuV n) := by
 refine zad mix zCh _ rfl rfl (Tab.ok (l := []) trivial) noL noJ ?_
 repeat' ((conv => whnf); first
  | exact trivial
  | with_reducible first | refine aj ?_ | refine ai rfl ?_ | refine ai ⟨rfl, rfl⟩ ?_
  | ((with_reducible refine ai ?_ ?_); focus exact w3)
  | with_reducible first | refine And.intro ?_ ?_ | refine zae ?_ | refine exI (i64_in (by omega) (by omega)) ?_
  | refine exI (x := ULift.up _) (Eq.refl _) ?_
  | refine exI (x := ULift.up _) ⟨rfl, by omega, Eq.refl _⟩ ?_
  | exact nx
  | ((with_reducible intro h); try dsimp only at h))
 all_goals (refine Sd.mk ?_)
 all_goals (have hn : n = 0 \/ n = 1 \/ n = 2 \/ n = 3 \/ n = 4 \/ n = 5 \/ n = 6 \/ n = 7 \/ n = 8 \/ n = 9 \/ n = 10 \/ n = 11 \/ n = 12 := by omega)
 all_goals (clear hp)
 all_goals (rcases hn with hn | hn | hn | hn | hn | hn | hn | hn | hn | hn | hn | hn | hn)
 all_goals (rw [hn])
 all_goals first
  | decide
  | rfl
  | kernel_rfl
noncomputable def zqs : SFn
 | [.int .u64 n], k => .req (0 <= n /\ n <= 12) (k (zuV n))
 | _, _ => .fail
theorem zEB : FnS Tryz.prog GG 190 zqs := by
 intro args k gt go R v os n h
 unfold zqs at h
 split at h
 . obtain ⟨hp, _, h⟩ := zaz h
   exact ⟨_, _, zDA _ hp, h⟩
 . cases h
noncomputable def zuO (n : Int) : zaa := ⟨[.int .u64 n], [], [], [], kz (lenT n)⟩
theorem zDt (n : Int) (hp : 0 <= n /\ n <= 12) : zaa.ok Tryz.prog GG 170 (zuO n) := by
 refine zad mix zCb _ rfl rfl (Tab.ok (l := [(190, zqs)]) ⟨zEB, trivial⟩) noL noJ ?_
 repeat' ((conv => whnf); first
  | exact trivial
  | with_reducible first | refine aj ?_ | refine ai rfl ?_ | refine ai ⟨rfl, rfl⟩ ?_
  | ((with_reducible refine ai ?_ ?_); focus exact w3)
  | with_reducible first | refine And.intro (Sd.mk (p := _ /\ _ <= 12) hp) ?_ | refine And.intro ?_ ?_ | refine zae ?_ | refine exI (i64_in (by omega) (by omega)) ?_
  | refine exI (x := ULift.up _) (Eq.refl _) ?_
  | refine exI (x := ULift.up _) ⟨rfl, by omega, Eq.refl _⟩ ?_
  | exact nx
  | ((with_reducible intro h); try dsimp only at h))
 all_goals (refine Sd.mk ?_)
 all_goals first | rfl | trace_state
noncomputable def znX : SFn
 | [.int .u64 n], k => .req (0 <= n /\ n <= 12) (k (zuO n))
 | _, _ => .fail
theorem zxV : FnS Tryz.prog GG 170 znX := by
 intro args k gt go R v os n h
 unfold znX at h
 split at h
 . obtain ⟨hp, _, h⟩ := zaz h
   exact ⟨_, _, zDt _ hp, h⟩
 . cases h
end
section
def zBg : MC := .seq (.reg [oo 10 (.mv kt)]) (.seq (.reg [oo 11 (.mv kt)]) (.blk 0 (.loop 0 (.blk 1 (.seq (.reg [om 21 2,om 22 1,oo 23 (at_ .sub 21 22),om 12 23]) (.seq (.seq (.reg [om 24 12,oo 25 (cc .leq 24 12)]) (.cond (.t 25) (.seq (.reg [om 26 0,om 27 1,om 28 2,om 29 4,oo 30 (fc 225 [(.t 26),(.t 27),(.t 28),(.t 29)])]) (.ret)) (.skip))) (.seq (.seq (.reg [om 31 3,oo 32 (cc .eql 31 0)]) (.cond (.t 32) (.seq (.reg [om 33 0,om 34 1,om 35 2,om 36 4,oo 37 (fc 226 [(.t 33),(.t 34),(.t 35),(.t 36)])]) (.ret)) (.skip))) (.seq (.seq (.reg [om 38 10,oo 39 (.not (.t 38))]) (.cond (.t 39) (.seq (.reg [om 40 0,om 41 1,om 42 2,om 43 4,oo 44 (fc 227 [(.t 40),(.t 41),(.t 42),(.t 43)])]) (.reg [om 45 3,oo 46 (ac .sub 45 1),om 3 46])) (.skip))) (.seq (.reg [om 48 0,om 49 1,om 50 2,om 51 4,oo 52 (fc 228 [(.t 48),(.t 49),(.t 50),(.t 51)]),om 47 52,oo 53 (ex_ 0 47),oo 54 (ex_ 1 47),om 13 53,om 14 54]) (.seq (.seq (.reg [om 55 14,oo 56 (cc .eql 55 2)]) (.cond (.t 56) (.seq (.reg [om 57 0,om 58 1,om 59 2,om 60 4,oo 61 (fc 229 [(.t 57),(.t 58),(.t 59),(.t 60)])]) (.seq (.reg [om 62 2,oo 63 (ac .sub 62 1),om 64 13,om 65 1,oo 66 (at_ .sub 64 65),oo 67 (at_ .sub 63 66),om 13 67]) (.reg [oo 14 (.mv (ki 1))]))) (.skip))) (.seq (.seq (.reg [om 68 10,sm 69 68,mt 69 70 11,oo 71 (pf 69 70),sm 72 71,mt 72 73 14,gt_ 72 74 (cc .eql 73 1),oo 75 (pf 72 74)]) (.cond (.t 75) (.seq (.reg [om 76 0,om 77 1,om 78 2,om 79 4,oo 80 (fc 230 [(.t 76),(.t 77),(.t 78),(.t 79)])]) (.cond (.t 80) (.ret) (.skip))) (.skip))) (.seq (.seq (.drw [om 81 1,oo 82 (cc .gtr 81 0),sm 83 82,mt 83 84 4,mt 83 85 0,mt 83 86 1,gt_ 83 87 (ac .sub 86 1),gt_ 83 88 (ia 1 85 87),gt_ 83 89 (ln 88),mt 83 90 0,mt 83 91 13,gt_ 83 92 (ia 1 90 91),gt_ 83 93 (ln 92),gt_ 83 94 (.call (.t 84) [(.t 89),(.t 93)]),gt_ 83 95 (cc .lss 94 0),gt_ 83 96 (.not (.t 95)),oo 97 (pf 83 96)] [[],[0],[1],[2],[2],[2],[5,2],[4,6,2],[7,2],[2],[2],[9,10,2],[11,2],[3,8,12,2,2],[13,2],[14,2],[2,15]]) (.cond (.t 97) (.seq (.reg [om 98 0,om 99 1,om 100 2,om 101 13,om 102 4,oo 103 (fc 231 [(.t 98),(.t 99),(.t 100),(.t 101),(.t 102)]),om 15 103]) (.seq (.reg [om 104 15,om 1 104]) (.exit 1))) (.skip))) (.seq (.reg [om 106 0,om 107 1,om 108 2,om 109 13,om 110 4,oo 111 (fc 232 [(.t 106),(.t 107),(.t 108),(.t 109),(.t 110)]),om 105 111,oo 112 (ex_ 0 105),oo 113 (ex_ 1 105),om 16 112,om 17 113]) (.seq (.reg [om 114 17,om 11 114]) (.seq (.reg [om 115 16,om 116 1,oo 117 (at_ .sub 115 116),om 118 2,om 119 16,oo 120 (at_ .sub 118 119),om 18 117,om 19 120]) (.seq (.reg [om 121 12,oo 122 (ac .quo 121 8),om 20 122]) (.seq (.reg [om 123 18,om 124 19,oo 125 (ct .lss 123 124)]) (.cond (.t 125) (.seq (.reg [om 126 18,om 127 20,oo 128 (ct .geq 126 127),om 10 128]) (.seq (.reg [om 129 0,om 130 1,om 131 16,om 132 3,om 133 4,oo 134 (fc 222 [(.t 129),(.t 130),(.t 131),(.t 132),(.t 133)])]) (.reg [om 135 16,oo 136 (ac .add 135 1),om 1 136]))) (.seq (.reg [om 137 19,om 138 20,oo 139 (ct .geq 137 138),om 10 139]) (.seq (.reg [om 140 0,om 141 16,oo 142 (ac .add 141 1),om 143 2,om 144 3,om 145 4,oo 146 (fc 222 [(.t 140),(.t 142),(.t 143),(.t 144),(.t 145)])])
 (.reg [om 147 16,om 2 147])))))))))))))))))))))
theorem zCs : zar Tryz.prog 222 148 zBg [] := fk Tryz.func222 ⟨tv,⟨tv,⟨tv,⟨⟨tv,⟨⟨tv,tv⟩,tv⟩⟩,⟨⟨tv,⟨⟨tv,tv⟩,tv⟩⟩,⟨⟨tv,⟨⟨tv,tv⟩,tv⟩⟩,⟨tv,⟨⟨tv,⟨⟨tv,⟨tv,tv⟩⟩,tv⟩⟩,⟨⟨tv,⟨⟨tv,⟨tv,tv⟩⟩,tv⟩⟩,⟨⟨tv,⟨⟨tv,⟨tv,tv⟩⟩,tv⟩⟩,⟨tv,⟨tv,⟨tv,⟨tv,⟨tv,⟨⟨tv,⟨tv,tv⟩⟩,⟨tv,⟨tv,tv⟩⟩⟩⟩⟩⟩⟩⟩⟩⟩⟩⟩⟩⟩⟩⟩⟩⟩
def zA9 : MC := .seq (.reg [om 5 0,oo 6 (.lenS (.t 5)),om 4 6]) (.reg [om 7 0,om 8 4,om 9 4,oo 10 (.cv .u64 (.t 9)),oo 11 (fc 170 [(.t 10)]),om 12 1,oo 13 (fc 222 [(.t 7),(ki 0),(.t 8),(.t 11),(.t 12)])])
theorem zCn : zar Tryz.prog 201 14 zA9 [] := fk Tryz.func201 ⟨tv,tv⟩
attribute [local irreducible] zbO
noncomputable def zva (L : List Int) (m : Int) : zaa := ⟨[.slc 0 0 L.length, kz 0, kz L.length, kz m, .fn (.func 96) [] []], [.vec 1 (L.map ipv)], [some (.vec 1 ((zbO L).map ipv))], [], .tup []⟩
set_option maxHeartbeats 4000000 in
theorem zDP (L : List Int) (m : Int) (hp : L.length <= 12) : zaa.ok Tryz.prog GG 222 (zva L m) := by
 refine zad mix zCs _ rfl rfl (Tab.ok (l := [(225, zqy)]) ⟨zEH, trivial⟩) (fun _ => .rounds 1) noJ ?_
 repeat' ((conv => whnf); first
  | exact trivial
  | with_reducible first | refine aj ?_ | refine ai rfl ?_ | refine ai ⟨rfl, rfl⟩ ?_
  | ((with_reducible refine ai ?_ ?_); focus exact w3)
  | ((with_reducible intro h); exfalso; omega)
  | with_reducible first | refine And.intro (Sd.mk (p := _ <= 1000000) (by omega)) ?_ | refine And.intro (Sd.mk (p := _ <= 12) hp) ?_ | refine And.intro (Sd.mk (p := 0 <= _ /\ _ <= 12) (by omega)) ?_
  | refine exI (zgz (by omega) (by omega)) ?_
  | with_reducible first | refine And.intro ?_ ?_ | refine zae ?_ | refine exI (i64_in (by omega) (by omega)) ?_
  | refine exI (x := ULift.up _) (Eq.refl _) ?_
  | refine exI (x := ULift.up _) ⟨rfl, by omega, Eq.refl _⟩ ?_
  | exact nx
  | ((with_reducible intro h); try dsimp only at h))
 all_goals (refine Sd.mk ?_)
noncomputable def zqx : SFn
 | [.slc p 0 _, .int .i64 0, .int .i64 _, .int .i64 m, .fn (.func 96) [] []], k => .rO p fun o => match o with
   | some (.vec 1 LL) => asL ipv LL fun L => .req (L.length <= 12) (k (zva L m))
   | _ => .fail
 | _, _ => .fail
theorem zEG : FnS Tryz.prog GG 222 zqx := by
 intro args k gt go R v os n h
 unfold zqx at h
 split at h
 . cases h with
   | rO h =>
     dsimp only at h
     split at h
     . obtain ⟨L, _, h⟩ := zbc h
       obtain ⟨hp, _, h⟩ := zaz h
       exact ⟨_, _, zDP L _ hp, h⟩
     . cases h
 . cases h
noncomputable def zu3 (L : List Int) : zaa := ⟨[.slc 0 0 L.length, .fn (.func 96) [] []], [.vec 1 (L.map ipv)], [some (.vec 1 ((zbO L).map ipv))], [], .tup []⟩
set_option maxHeartbeats 4000000 in
theorem zDI (L : List Int) (hp : L.length <= 12) : zaa.ok Tryz.prog GG 201 (zu3 L) := by
 refine zad mix zCn _ rfl rfl (Tab.ok (l := [(222, zqx), (170, znX)]) ⟨zEG, zxV, trivial⟩) noL noJ ?_
 repeat' ((conv => whnf); first
  | exact trivial
  | with_reducible first | refine aj ?_ | refine ai rfl ?_ | refine ai ⟨rfl, rfl⟩ ?_
  | ((with_reducible refine ai ?_ ?_); focus exact w3)
  | ((with_reducible intro h); exfalso; omega)
  | with_reducible first | refine And.intro (Sd.mk (p := _ <= 1000000) (by omega)) ?_ | refine And.intro (Sd.mk (p := _ <= 12) hp) ?_ | refine And.intro (Sd.mk (p := 0 <= _ /\ _ <= 12) (by omega)) ?_
  | refine exI (zgz (by omega) (by omega)) ?_
  | with_reducible first | refine And.intro ?_ ?_ | refine zae ?_ | refine exI (i64_in (by omega) (by omega)) ?_
  | refine exI (x := ULift.up _) (Eq.refl _) ?_
  | refine exI (x := ULift.up _) ⟨rfl, by omega, Eq.refl _⟩ ?_
  | exact nx
  | ((with_reducible intro h); try dsimp only at h))
 all_goals (refine Sd.mk ?_)
noncomputable def zqu : SFn
 | [.slc p 0 _, .fn (.func 96) [] []], k => .rO p fun o => match o with
   | some (.vec 1 LL) => asL ipv LL fun L => .req (L.length <= 12) (k (zu3 L))
   | _ => .fail
 | _, _ => .fail
theorem zED : FnS Tryz.prog GG 201 zqu := by
 intro args k gt go R v os n h
 unfold zqu at h
 split at h
 . cases h with
   | rO h =>
     dsimp only at h
     split at h
     . obtain ⟨L, _, h⟩ := zbc h
       obtain ⟨hp, _, h⟩ := zaz h
       exact ⟨_, _, zDI L hp, h⟩
     . cases h
 . cases h
end
section
theorem zl1 (a b : Int) : zcZ a b < 0 \/ zcZ b a < 0 \/ a = b := by
 unfold zcZ; (repeat' split) <;> omega
theorem zq2 (a : Int) : ¬ zcZ a a < 0 := by
 unfold zcZ; (repeat' split) <;> omega
theorem zjk {a b c : Int} (h : zcZ a b < 0) (g : zcZ b c < 0) : zcZ a c < 0 := by
 revert h g
 unfold zcZ; (repeat' split) <;> omega
abbrev geI (a b : Int) : Prop := ¬ zcZ a b < 0
theorem zpe {a b c : Int} (h : geI a b) (g : geI b c) : geI a c := by
 intro k
 rcases zl1 a b with e | e | e
 . exact h e
 . exact g (zjk e k)
 . subst e; exact g k
theorem zkT (A : List Int) (x : Int) : (zc4 A x).Perm (x :: A) := by
 induction A with
 | nil => exact .refl _
 | cons y r ih =>
   unfold zc4; split
   . exact (ih.cons y).trans (.swap x y r)
   . exact .refl _
theorem ztv (A : List Int) (x : Int) (h : A.Pairwise geI) : (zc4 A x).Pairwise geI := by
 induction A with
 | nil => exact List.pairwise_singleton _ _
 | cons y r ih =>
   rw [List.pairwise_cons] at h
   unfold zc4; split
   . next hc =>
     rw [List.pairwise_cons]
     refine ⟨fun z hz => ?_, ih h.2⟩
     rcases List.mem_cons.1 ((zkT r x).mem_iff.1 hz) with e | e
     . subst e; exact fun k => zq2 _ (zjk hc k)
     . exact h.1 z e
   . next hc =>
     rw [List.pairwise_cons]
     refine ⟨fun z hz => ?_, List.pairwise_cons.2 h⟩
     rcases List.mem_cons.1 hz with e | e
     . subst e; exact hc
     . exact zpe hc (h.1 z e)
theorem zgT (L : List Int) : ∀ A, (L.foldl zc4 A).Perm (L ++ A) := by
 induction L with
 | nil => intro A; exact .refl _
 | cons x r ih => intro A; exact (ih (zc4 A x)).trans (((zkT A x).append_left r).trans List.perm_middle)
theorem zmd (L : List Int) : ∀ A, A.Pairwise geI -> (L.foldl zc4 A).Pairwise geI := by
 induction L with
 | nil => intro A h; exact h
 | cons x r ih => intro A h; exact ih _ (ztv A x h)
theorem zoD (L : List Int) : (zbO L).Perm L := by
 unfold zbO
 exact (List.reverse_perm _).trans (by simpa using zgT L [])
theorem zrW {L M : List Int} (h : L.Perm M) : zbO L = zbO M := by
 unfold zbO
 congr 1
 refine List.Perm.eq_of_pairwise (le := geI) ?_ (zmd L [] List.Pairwise.nil) (zmd M [] List.Pairwise.nil) ?_
 . intro a b _ _ h1 h2
   rcases zl1 a b with e | e | e
   . exact absurd e h1
   . exact absurd e h2
   . exact e
 . exact (zgT L []).trans (((h.append_right [])).trans (zgT M []).symm)
end
end Go.Proofs.YtlahifihaeafbaaGreatDoor
