/- Part 1 of 11 of a proof of the law AllocTwice: what the last part leans on. -/
import Derived.CallsIn
import Derived.ControlIn
import Derived.Laws.CopyRow
import Derived.Deep.MidRow
import Derived.RowKit3
set_option linter.all false
set_option maxRecDepth 100000
namespace Go.Sx
open Go
inductive PV where
 | int (k : IntKind) (n : Int)
 | bool (b : Bool)
 | str (s : ByteArray)
 | val (v : Value)
 | sl (s : Nat) (L : List (List PV))
 | pt (cs : List PV)
 deriving Inhabited
inductive SV where
 | any
 | int (k : IntKind) (n : Int)
 | bool (b : Bool)
 | pr (p : Prop)
 | tt
 | ff
 | str (s : ByteArray)
 | val (v : Value)
 | rd (p : PV)
 | rp (cs : List PV) (sub : Nat)
 | ra (s : Nat) (L : List (List PV))
 | ptr (id idx sub : Nat)
 | slc (id st len : Nat)
 | slx (id st len : Nat)
 | gn (id : Nat)
 | fex (p : PV -> Prop)
 | mp (id : Nat)
 | fn (f : Fn) (a c : List SV)
 | ifc (t : TypeId) (x : SV)
 | agg (cs : List SV)
 | tup (vs : List SV)
instance : Inhabited SV := ⟨.any⟩
structure zay where
 blk : Option Nat
 str : Nat
 cap : Nat
def PV.sv : PV -> SV
 | .int k n => .int k n
 | .bool b => .bool b
 | .str s => .str s
 | .val v => .val v
 | .sl s L => .rd (.sl s L)
 | .pt cs => .rp cs 0
section rels
variable (w : World) (S : Nat -> Prop)
mutual
def zaR : PV -> Value -> Prop
 | .int k n, v => v = .int k n
 | .bool b, v => v = .bool b
 | .str s, v => v = .string s
 | .val x, v => v = x /\ x.oneCell' = true
 | .sl s L, v => ∃ a cap, v = .slice a L.length cap /\ L.length <= cap ∧
  (L ≠ [] -> ∃ b off arr T fz, a = some ⟨b, off, none⟩ /\ S b /\ w.heap[b]? = some (.cells arr T fz) /\ zaq s L (arr.toList.drop off)) /\ (a = none -> cap = 0)
 | .pt cs, v => ∃ b off arr T fz, v = .pointer (some ⟨b, off, none⟩) /\ S b /\ w.heap[b]? = some (.cells arr T fz) /\ zaE cs (arr.toList.drop off)
def zaE : List PV -> List Value -> Prop
 | [], _ => True
 | p :: ps, vs => ∃ v r, vs = v :: r /\ zaR p v /\ zaE ps r
def zaq (s : Nat) : List (List PV) -> List Value -> Prop
 | [], _ => True
 | e :: L, vs => e.length = s /\ zaE e vs /\ zaq s L (vs.drop s)
end
end rels
def zaV (B : zay) (st len : Nat) (v : Value) : Prop :=
 match B.blk with
 | none => v = .slice none 0 0 /\ st = 0 /\ len = 0
 | some b => ∃ off cap, v = .slice (some ⟨b, off, none⟩) len cap /\ len <= cap /\ st + cap <= B.cap /\ (cap = 0 \/ off = st * B.str)
section rel
variable (β : Nat -> Option zay) (w : World) (S : Nat -> Prop)
mutual
def rel : SV -> Value -> Prop
 | .any, _ => True
 | .int k n, v => v = .int k n
 | .bool b, v => v = .bool b
 | .pr p, v => ∃ b, v = .bool b /\ (b = true ↔ p)
 | .tt, v => v = .bool true
 | .ff, v => v = .bool false
 | .str s, v => v = .string s
 | .val x, v => v = x
 | .rd p, v => zaR w S p v
 | .rp cs sub, v => ∃ b off arr T fz, v = .pointer (some ⟨b, off + sub, none⟩) /\ S b /\ w.heap[b]? = some (.cells arr T fz) /\ zaE w S cs (arr.toList.drop off)
 | .ra s L, v => ∃ b off arr T fz, v = .pointer (some ⟨b, off, none⟩) /\ S b /\ w.heap[b]? = some (.cells arr T fz) /\ zaq w S s L (arr.toList.drop off)
 | .ptr id idx sub, v => ∃ B b, β id = some B /\ B.blk = some b /\ v = .pointer (some ⟨b, idx * B.str + sub, none⟩)
 | .slc id st len, v => ∃ B, β id = some B /\ zaV B st len v
 | .slx id st len, v => ∃ B b, β id = some B /\ B.blk = some b /\ v = .slice (some ⟨b, st * B.str, none⟩) len len /\ st + len <= B.cap
 | .gn id, v => ∃ B, β id = some B /\ v = .int .i64 B.str
 | .fex p, v => ∃ x : PV, (∀ w' S', zaR w' S' x v) /\ p x
 | .mp id, v => ∃ B b, β id = some B /\ B.blk = some b /\ v = .map (some b)
 | .fn f a c, v => ∃ xs ys, v = .func f xs ys /\ zam a xs.toList /\ zam c ys.toList
 | .ifc t x, v => ∃ y, v = .iface t y /\ rel x y
 | .agg cs, v => ∃ xs, v = .agg xs /\ zam cs xs.toList
 | .tup vs, v => ∃ xs, v = .tuple xs /\ zam vs xs.toList
def zam : List SV -> List Value -> Prop
 | [], vs => vs = []
 | c :: cs, vs => ∃ x xs, vs = x :: xs /\ rel c x /\ zam cs xs
end
def zaY (s : Nat) : List (List SV) -> List Value -> Prop
 | [], _ => True
 | e :: L, vs => e.length = s /\ zam β w S e (vs.take s) /\ zaY s L (vs.drop s)
end rel
structure Ext (β : Nat -> Option zay) (w : World) (S : Nat -> Prop) (β' : Nat -> Option zay) (w' : World) (S' : Nat -> Prop) : Prop where
 ids : ∀ id B, β id = some B -> β' id = some B
 st : ∀ b, S b -> S' b
 heap : ∀ b, S b -> w'.heap[b]? = w.heap[b]?
theorem Ext.refl (β w S) : Ext β w S β w S := ⟨fun _ _ h => h, fun _ h => h, fun _ _ => rfl⟩
theorem Ext.trans {β w S β' w' S' β'' w'' S''} (h : Ext β w S β' w' S') (k : Ext β' w' S' β'' w'' S'') : Ext β w S β'' w'' S'' :=
 ⟨fun i B e => k.ids i B (h.ids i B e), fun b e => k.st b (h.st b e), fun b e => (k.heap b (h.st b e)).trans (h.heap b e)⟩
mutual
theorem zha {w S w' S'} (hs : ∀ b, S b -> S' b) (hh : ∀ b, S b -> w'.heap[b]? = w.heap[b]?) : ∀ (p : PV) (v : Value), zaR w S p v -> zaR w' S' p v
 | .int _ _, _, h => by simpa [zaR] using h
 | .bool _, _, h => by simpa [zaR] using h
 | .str _, _, h => by simpa [zaR] using h
 | .val _, _, h => by simpa [zaR] using h
 | .sl s L, v, h => by
   simp only [zaR] at h ⊢
   obtain ⟨a, cap, h1, h2, h3, h4⟩ := h
   refine ⟨a, cap, h1, h2, fun hne => ?_, h4⟩
   obtain ⟨b, off, arr, T, fz, ha, hb, hw, hr⟩ := h3 hne
   exact ⟨b, off, arr, T, fz, ha, hs b hb, (hh b hb).trans hw, za6 hs hh s L _ hr⟩
 | .pt cs, v, h => by
   simp only [zaR] at h ⊢
   obtain ⟨b, off, arr, T, fz, ha, hb, hw, hr⟩ := h
   exact ⟨b, off, arr, T, fz, ha, hs b hb, (hh b hb).trans hw, zcM hs hh cs _ hr⟩
theorem zcM {w S w' S'} (hs : ∀ b, S b -> S' b) (hh : ∀ b, S b -> w'.heap[b]? = w.heap[b]?) : ∀ (ps : List PV) (vs : List Value), zaE w S ps vs -> zaE w' S' ps vs
 | [], _, _ => by simp [zaE]
 | p :: ps, vs, h => by
   simp only [zaE] at h ⊢
   obtain ⟨v, r, h1, h2, h3⟩ := h
   exact ⟨v, r, h1, zha hs hh p v h2, zcM hs hh ps r h3⟩
theorem za6 {w S w' S'} (hs : ∀ b, S b -> S' b) (hh : ∀ b, S b -> w'.heap[b]? = w.heap[b]?) (s : Nat) : ∀ (L : List (List PV)) (vs : List Value), zaq w S s L vs -> zaq w' S' s L vs
 | [], _, _ => by simp [zaq]
 | e :: L, vs, h => by
   simp only [zaq] at h ⊢
   obtain ⟨h1, h2, h3⟩ := h
   exact ⟨h1, zcM hs hh e vs h2, za6 hs hh s L _ h3⟩
end
mutual
theorem zaH {β w S β' w' S'} (x : Ext β w S β' w' S') : ∀ (s : SV) (v : Value), rel β w S s v -> rel β' w' S' s v
 | .any, _, h => by simp [rel]
 | .int _ _, _, h => by simpa [rel] using h
 | .bool _, _, h => by simpa [rel] using h
 | .pr _, _, h => by simpa [rel] using h
 | .tt, _, h => by simpa [rel] using h
 | .ff, _, h => by simpa [rel] using h
 | .str _, _, h => by simpa [rel] using h
 | .val _, _, h => by simpa [rel] using h
 | .rd p, v, h => by simp only [rel] at h ⊢; exact zha x.st x.heap p v h
 | .rp cs sub, v, h => by
   simp only [rel] at h ⊢
   obtain ⟨b, off, arr, T, fz, ha, hb, hw, hr⟩ := h
   exact ⟨b, off, arr, T, fz, ha, x.st b hb, (x.heap b hb).trans hw, zcM x.st x.heap cs _ hr⟩
 | .ra s L, v, h => by
   simp only [rel] at h ⊢
   obtain ⟨b, off, arr, T, fz, ha, hb, hw, hr⟩ := h
   exact ⟨b, off, arr, T, fz, ha, x.st b hb, (x.heap b hb).trans hw, za6 x.st x.heap s L _ hr⟩
 | .ptr id idx sub, v, h => by
   simp only [rel] at h ⊢
   obtain ⟨B, b, h1, h2, h3⟩ := h
   exact ⟨B, b, x.ids _ _ h1, h2, h3⟩
 | .slc id st len, v, h => by
   simp only [rel] at h ⊢
   obtain ⟨B, h1, h2⟩ := h
   exact ⟨B, x.ids _ _ h1, h2⟩
 | .slx id st len, v, h => by
   simp only [rel] at h ⊢
   obtain ⟨B, b, h1, h2⟩ := h
   exact ⟨B, b, x.ids _ _ h1, h2⟩
 | .fex _, _, h => by simpa [rel] using h
 | .gn id, v, h => by
   simp only [rel] at h ⊢
   obtain ⟨B, h1, h2⟩ := h
   exact ⟨B, x.ids _ _ h1, h2⟩
 | .mp id, v, h => by
   simp only [rel] at h ⊢
   obtain ⟨B, b, h1, h2, h3⟩ := h
   exact ⟨B, b, x.ids _ _ h1, h2, h3⟩
 | .fn f a c, v, h => by
   simp only [rel] at h ⊢
   obtain ⟨xs, ys, h1, h2, h3⟩ := h
   exact ⟨xs, ys, h1, zbK x a _ h2, zbK x c _ h3⟩
 | .ifc t s, v, h => by
   simp only [rel] at h ⊢
   obtain ⟨y, h1, h2⟩ := h
   exact ⟨y, h1, zaH x s y h2⟩
 | .agg cs, v, h => by
   simp only [rel] at h ⊢
   obtain ⟨xs, h1, h2⟩ := h
   exact ⟨xs, h1, zbK x cs _ h2⟩
 | .tup vs, v, h => by
   simp only [rel] at h ⊢
   obtain ⟨xs, h1, h2⟩ := h
   exact ⟨xs, h1, zbK x vs _ h2⟩
theorem zbK {β w S β' w' S'} (x : Ext β w S β' w' S') : ∀ (ss : List SV) (vs : List Value), zam β w S ss vs -> zam β' w' S' ss vs
 | [], _, h => by simpa [zam] using h
 | s :: ss, vs, h => by
   simp only [zam] at h ⊢
   obtain ⟨v, r, h1, h2, h3⟩ := h
   exact ⟨v, r, h1, zaH x s v h2, zbK x ss r h3⟩
end
theorem zfJ {β w S β' w' S'} (x : Ext β w S β' w' S') (s : Nat) : ∀ (L : List (List SV)) (vs : List Value), zaY β w S s L vs -> zaY β' w' S' s L vs
 | [], _, _ => by simp [zaY]
 | e :: L, vs, h => by
   simp only [zaY] at h ⊢
   exact ⟨h.1, zbK x e _ h.2.1, zfJ x s L _ h.2.2⟩
theorem zaL {β w S} : ∀ (ss : List SV) (vs : List Value), zam β w S ss vs -> vs.length = ss.length
 | [], _, h => by simp [zam] at h; simp [h]
 | s :: ss, vs, h => by
   simp only [zam] at h
   obtain ⟨v, r, rfl, _, h3⟩ := h
   simp [zaL ss r h3]
end Go.Sx
namespace Go.Sx
open Go
inductive SK where
 | int (k : IntKind) | bool | str
 deriving DecidableEq
def PV.kind : PV -> Option SK
 | .int k _ => some (.int k)
 | .bool _ => some .bool
 | .str _ => some .str
 | _ => none
structure zaj where
 κ : Type
 ν : Type
 deq : DecidableEq κ
 one : Bool
 ks : List SK
 ek : κ -> List PV
 ekk : ∀ k, (ek k).map PV.kind = ks.map some
 inj : ∀ k k', ek k = ek k' -> k = k'
 vone : Bool
 ev : ν -> List PV
 d : ν
def zaS (one : Bool) (l : List PV) : SV :=
 match one with
 | true => (match l with | p :: _ => p.sv | [] => .any)
 | false => .agg (l.map PV.sv)
inductive Ex where
 | nrm | exit (id : Nat) | ret | pan (v : SV)
inductive LSt where
 | ready | busy | done (j : Code) | over (p : Option Code)
inductive Sub : Type 1 where
 | vec (s : Nat) (L : List (List PV))
 | map (M : zaj) (es : List (M.κ × M.ν))
inductive SO : Type 1 where
 | row (cs : List SV)
 | vec (s : Nat) (L : List (List PV))
 | arr (s : Nat) (L : List (List SV))
 | map (M : zaj) (es : List (M.κ × M.ν)) (it : Option (Nat × List M.κ × Option M.κ))
 | itr (id : Nat)
 | lrec (l : Nat) (r : _root_.Go.Loop) (e : LSt)
 | vex (s : Nat) (p : List (List PV) -> Prop)
 | mapE (M : zaj) (es : List (M.κ × M.ν)) (k : M.κ) (g : Nat)
 | fam (M : zaj) (sub : M.ν -> Sub) (es : List (M.κ × M.ν)) (h : Option (M.κ × Nat × Option Nat))
def zbP (r : _root_.Go.Loop) : LSt -> _root_.Go.Loop
 | .ready => { r with state := .ready, pending := none }
 | .busy => { r with state := .busy, pending := none }
 | .done j => { r with state := .done, pending := some j }
 | .over p => { r with state := .exhausted, pending := p }
def zci (b : Nat) : Nat -> Prop := fun x => x = b
def za1 (β : Nat -> Option zay) (w : World) (S : Nat -> Prop) (M : zaj) : List (M.κ × M.ν) -> List MapEntry -> Prop
 | [], l => l = []
 | (k, v) :: es, l => ∃ m r, l = m :: r /\ rel β w S (zaS M.one (M.ek k)) m.key /\ rel β w S (zaS M.vone (M.ev v)) m.val /\ za1 β w S M es r
def zmi (β : Nat -> Option zay) (w : World) (F : Nat -> Prop) (b clock : Nat) (ents : List MapEntry) (M : zaj) (es : List (M.κ × M.ν)) : Option (Nat × List M.κ × Option M.κ) -> Prop
 | none => True
 | some (rid, left, cur) => ∃ B' r seen, β rid = some B' /\ B'.blk = some r /\ F r /\ r ≠ b /\ w.heap[r]? = some (.mapIter (some b) clock seen clock) ∧
  (∀ (i : Nat) m k v, ents[i]? = some m -> es[i]? = some (k, v) -> (m.born ∈ seen ↔ k ∉ left)) ∧
  ∀ k, cur = some k -> ∃ (i : Nat) (m : MapEntry) (v : M.ν), ents[i]? = some m /\ es[i]? = some (k, v) /\ seen.back? = some m.born
def Sub.so : Sub -> SO
 | .vec s L => .vec s L
 | .map M es => .map M es none
def zeN (w : World) (S : Nat -> Prop) (B : zay) (F : Nat -> Prop) : Sub -> Prop
 | .vec s L => (B.blk = none /\ L = [] /\ B.cap = 0 /\ B.str = s /\ F = fun _ => False) ∨
  ∃ b arr T, B.blk = some b /\ B.str = s /\ F = zci b /\ w.heap[b]? = some (.cells arr T (0, 0)) /\ arr.size = B.cap * s /\ L.length <= B.cap /\ zaq w S s L arr.toList
 | .map M es => ∃ b ents clock, B.blk = some b /\ (F b /\ ∀ x, F x -> (w.heap[x]?).isSome = true) /\ w.heap[b]? = some (.map ents clock) /\ za1 (fun _ => none) w S M es ents.toList ∧
  ((es.map (·.1)).Nodup /\ (ents.toList.map (·.born)).Pairwise (· < ·) /\ (∀ m ∈ ents.toList, m.born < clock))
def Hnd (B : zay) : Sub -> Value -> Prop
 | .vec _ L, v => zaV B 0 L.length v
 | .map _ _, v => ∃ b, B.blk = some b /\ v = .map (some b)
def zcg (β : Nat -> Option zay) (w : World) (S : Nat -> Prop) (M : zaj) (sub : M.ν -> Sub) (G : M.κ -> zay × (Nat -> Prop)) (F : Nat -> Prop) (b : Nat) (h : Option (M.κ × Nat × Option Nat)) (k : M.κ) (v : M.ν) (m : MapEntry) : Prop :=
 (∀ j g, h = some (k, j, g) -> (∃ B, β j = some B /\ Hnd B (sub v) m.val) /\ ∀ i, g = some i -> ∃ B, β i = some B /\ B.str = m.born) ∧
 ((∀ j g, h ≠ some (k, j, g)) -> Hnd (G k).1 (sub v) m.val /\ zeN w S (G k).1 (G k).2 (sub v) /\ ∀ x, (G k).2 x -> F x /\ x ≠ b)
def zbv (β : Nat -> Option zay) (w : World) (S : Nat -> Prop) (M : zaj) (V : M.κ -> M.ν -> MapEntry -> Prop) : List (M.κ × M.ν) -> List MapEntry -> Prop
 | [], l => l = []
 | (k, v) :: es, l => ∃ m r, l = m :: r /\ rel β w S (zaS M.one (M.ek k)) m.key /\ V k v m /\ zbv β w S M V es r
def za3 (β : Nat -> Option zay) (w : World) (S : Nat -> Prop) (B : zay) (F : Nat -> Prop) : SO -> Prop
 | .row cs => ∃ b arr T, B.blk = some b /\ B.str = cs.length /\ B.cap = 1 /\ F = zci b /\ w.heap[b]? = some (.cells arr T (0, 0)) /\ zam β w S cs arr.toList
 | .vec s L => (B.blk = none /\ L = [] /\ B.cap = 0 /\ B.str = s /\ F = fun _ => False) ∨
  ∃ b arr T, B.blk = some b /\ B.str = s /\ F = zci b /\ w.heap[b]? = some (.cells arr T (0, 0)) /\ arr.size = B.cap * s /\ L.length <= B.cap /\ zaq w S s L arr.toList
 | .arr s L => (B.blk = none /\ L = [] /\ B.cap = 0 /\ B.str = s /\ F = fun _ => False) ∨
  ∃ b arr T, B.blk = some b /\ B.str = s /\ F = zci b /\ w.heap[b]? = some (.cells arr T (0, 0)) /\ arr.size = B.cap * s /\ L.length <= B.cap /\ zaY β w S s L arr.toList
 | .map M es it => ∃ b ents clock, B.blk = some b /\ (F b /\ ∀ x, F x -> (w.heap[x]?).isSome = true) /\ w.heap[b]? = some (.map ents clock) /\ za1 β w S M es ents.toList ∧
  ((es.map (·.1)).Nodup /\ (ents.toList.map (·.born)).Pairwise (· < ·) /\ (∀ m ∈ ents.toList, m.born < clock)) /\ zmi β w F b clock ents.toList M es it
 | .itr id => (∃ r, B.blk = some r /\ F = fun _ => False) /\ ∃ Bi, β id = some Bi
 | .lrec l r e => B.blk = some l /\ F = zci l /\ w.heap[l]? = some (.loop (zbP r e))
 | .vex s p => ∃ L, p L /\ zeN w S B F (.vec s L)
 | .mapE M es k g => ∃ b ents clock, B.blk = some b /\ (F b /\ ∀ x, F x -> (w.heap[x]?).isSome = true) /\ w.heap[b]? = some (.map ents clock) /\ za1 β w S M es ents.toList ∧
  ((es.map (·.1)).Nodup /\ (ents.toList.map (·.born)).Pairwise (· < ·) /\ (∀ m ∈ ents.toList, m.born < clock)) ∧
  ∃ (i : Nat) (m : MapEntry) (v : M.ν) (Bg : zay), ents.toList[i]? = some m /\ es[i]? = some (k, v) /\ β g = some Bg /\ Bg.str = m.born
 | .fam M sub es h => ∃ b ents clock, B.blk = some b /\ (F b /\ ∀ x, F x -> (w.heap[x]?).isSome = true) /\ w.heap[b]? = some (.map ents clock) ∧
  ((es.map (·.1)).Nodup /\ (ents.toList.map (·.born)).Pairwise (· < ·) /\ (∀ m ∈ ents.toList, m.born < clock)) ∧
  ∃ G : M.κ -> zay × (Nat -> Prop), zbv β w S M (zcg β w S M sub G F b h) es ents.toList ∧
   ∀ k k', k ∈ es.map (·.1) -> k' ∈ es.map (·.1) -> k ≠ k' -> (∀ j g, h ≠ some (k, j, g)) -> (∀ j g, h ≠ some (k', j, g)) -> ∀ x, (G k).2 x -> ¬ (G k').2 x
structure zaw (β : Nat -> Option zay) (own : Nat -> Nat -> Prop) (S : Nat -> Prop) (go : Nat -> Option SO) (w : World) : Prop where
 obj : ∀ id o, go id = some o -> ∃ B, β id = some B /\ za3 β w S B (own id) o
 sep : ∀ id id' b, id ≠ id' -> (go id).isSome -> (go id').isSome -> own id b -> ¬ own id' b
 st : ∀ id b, (go id).isSome -> own id b -> ¬ S b
 sz : ∀ b, S b -> b < w.heap.size
structure Fr (X : Nat -> Prop) (w w' : World) : Prop where
 os : w'.os = w.os
 tape : w'.tape = w.tape
 output : w'.output = w.output
 size : w.heap.size <= w'.heap.size
 block : ∀ k, k < w.heap.size -> ¬ X k -> w'.heap[k]? = w.heap[k]?
theorem Fr.refl (X w) : Fr X w w := ⟨rfl, rfl, rfl, Nat.le_refl _, fun _ _ _ => rfl⟩
theorem zbJ {β w S β' w' S'} (x : Ext β w S β' w' S') (M : zaj) : ∀ (es : List (M.κ × M.ν)) (l : List MapEntry), za1 β w S M es l -> za1 β' w' S' M es l
 | [], _, h => by simpa [za1] using h
 | (k, v) :: es, l, h => by
   simp only [za1] at h ⊢
   obtain ⟨m, r, h1, h2, h3, h4⟩ := h
   exact ⟨m, r, h1, zaH x _ _ h2, zaH x _ _ h3, zbJ x M es r h4⟩
theorem zde {w : World} {b : Nat} (h : (w.heap[b]?).isSome = true) : b < w.heap.size := by
 rw [Option.isSome_iff_exists] at h
 obtain ⟨x, hx⟩ := h
 exact (Array.getElem?_eq_some_iff.1 hx).1
theorem zeN.lt {w S B F o} (h : zeN w S B F o) : ∀ b, F b -> b < w.heap.size := by
 intro b hb
 cases o with
 | vec s L =>
   rcases h with ⟨_, _, _, _, rfl⟩ | ⟨b', arr, T, _, _, rfl, hw, _⟩
   . exact hb.elim
   . cases hb; exact (Array.getElem?_eq_some_iff.1 hw).1
 | map M es =>
   obtain ⟨b', ents, clock, _, ⟨_, hF⟩, _⟩ := h
   exact zde (hF b hb)
theorem zeN.ext {w w' : World} {S S' : Nat -> Prop} {B F o} (hs : ∀ b, S b -> S' b) (hh : ∀ b, S b -> w'.heap[b]? = w.heap[b]?) (hF : ∀ b, F b -> w'.heap[b]? = w.heap[b]?) (h : zeN w S B F o) : zeN w' S' B F o := by
 cases o with
 | vec s L =>
   rcases h with h | ⟨b, arr, T, h1, h2, h3, hw, h5, h6, hr⟩
   . exact .inl h
   . exact .inr ⟨b, arr, T, h1, h2, h3, (hF b (by rw [h3]; rfl)).trans hw, h5, h6, za6 hs hh s L _ hr⟩
 | map M es =>
   obtain ⟨b, ents, clock, h1, ⟨h3, h3'⟩, hw, hr, h4⟩ := h
   exact ⟨b, ents, clock, h1, ⟨h3, fun y hy => by rw [hF y hy]; exact h3' y hy⟩, (hF b h3).trans hw, zbJ ⟨fun _ _ e => e, hs, hh⟩ M _ _ hr, h4⟩
theorem ze4 {β w S β' w' S'} (x : Ext β w S β' w' S') (M : zaj) {V V' : M.κ -> M.ν -> MapEntry -> Prop} : ∀ (es : List (M.κ × M.ν)) (_ : ∀ k v m, (k, v) ∈ es -> V k v m -> V' k v m) (l : List MapEntry), zbv β w S M V es l -> zbv β' w' S' M V' es l
 | [], _, _, h => by simpa [zbv] using h
 | (k, v) :: es, hV, l, h => by
   simp only [zbv] at h ⊢
   obtain ⟨m, r, h1, h2, h3, h4⟩ := h
   exact ⟨m, r, h1, zaH x _ _ h2, hV k v m (by simp) h3, ze4 x M es (fun k v m hm => hV k v m (by simp [hm])) r h4⟩
theorem zrm {β w S β' w' S'} (x : Ext β w S β' w' S') {M : zaj} {sub : M.ν -> Sub} {G : M.κ -> zay × (Nat -> Prop)} {F : Nat -> Prop} {b : Nat} {h : Option (M.κ × Nat × Option Nat)} (hF : ∀ y, F y -> w'.heap[y]? = w.heap[y]?) {k v m}
 (hv : zcg β w S M sub G F b h k v m) : zcg β' w' S' M sub G F b h k v m := by
  obtain ⟨h1, h2⟩ := hv
  refine ⟨fun j g e => ?_, fun e => ?_⟩
  . obtain ⟨⟨B, q1, q2⟩, q3⟩ := h1 j g e
    exact ⟨⟨B, x.ids _ _ q1, q2⟩, fun i e' => let ⟨B', q4, q5⟩ := q3 i e'; ⟨B', x.ids _ _ q4, q5⟩⟩
  . obtain ⟨q1, q2, q3⟩ := h2 e
    exact ⟨q1, q2.ext x.st x.heap (fun y hy => hF y (q3 y hy).1), q3⟩
theorem za3.lt {β w S B F o} (h : za3 β w S B F o) : ∀ b, F b -> b < w.heap.size := by
 intro b hb
 cases o with
 | row cs => obtain ⟨b', arr, T, _, _, _, rfl, hw, _⟩ := h; cases hb; exact (Array.getElem?_eq_some_iff.1 hw).1
 | vec s L =>
   rcases h with ⟨_, _, _, _, rfl⟩ | ⟨b', arr, T, _, _, rfl, hw, _⟩
   . exact hb.elim
   . cases hb; exact (Array.getElem?_eq_some_iff.1 hw).1
 | arr s L =>
   rcases h with ⟨_, _, _, _, rfl⟩ | ⟨b', arr, T, _, _, rfl, hw, _⟩
   . exact hb.elim
   . cases hb; exact (Array.getElem?_eq_some_iff.1 hw).1
 | map M es it =>
   obtain ⟨b', ents, clock, _, ⟨_, hF⟩, _⟩ := h
   have := hF b hb
   rw [Option.isSome_iff_exists] at this
   obtain ⟨x, hx⟩ := this
   exact (Array.getElem?_eq_some_iff.1 hx).1
 | itr id => obtain ⟨⟨r, _, rfl⟩, _⟩ := h; exact hb.elim
 | lrec l r e => obtain ⟨_, rfl, hw⟩ := h; cases hb; exact (Array.getElem?_eq_some_iff.1 hw).1
 | vex s p => obtain ⟨L, _, h⟩ := h; exact h.lt b hb
 | mapE M es k g =>
   obtain ⟨b', ents, clock, _, ⟨_, hF⟩, _⟩ := h
   exact zde (hF b hb)
 | fam M sub es hh =>
   obtain ⟨b', ents, clock, _, ⟨_, hF⟩, _⟩ := h
   exact zde (hF b hb)
theorem za3.ext {β w S β' w' S' B F o} (x : Ext β w S β' w' S') (hF : ∀ b, F b -> w'.heap[b]? = w.heap[b]?) (h : za3 β w S B F o) : za3 β' w' S' B F o := by
 cases o with
 | row cs =>
   obtain ⟨b, arr, T, h1, h2, h2', h3, hw, hr⟩ := h
   exact ⟨b, arr, T, h1, h2, h2', h3, (hF b (by rw [h3]; rfl)).trans hw, zbK x _ _ hr⟩
 | vec s L =>
   rcases h with h | ⟨b, arr, T, h1, h2, h3, hw, h5, h6, hr⟩
   . exact .inl h
   . exact .inr ⟨b, arr, T, h1, h2, h3, (hF b (by rw [h3]; rfl)).trans hw, h5, h6, za6 x.st x.heap s L _ hr⟩
 | arr s L =>
   rcases h with h | ⟨b, arr, T, h1, h2, h3, hw, h5, h6, hr⟩
   . exact .inl h
   . exact .inr ⟨b, arr, T, h1, h2, h3, (hF b (by rw [h3]; rfl)).trans hw, h5, h6, zfJ x s L _ hr⟩
 | map M es it =>
   obtain ⟨b, ents, clock, h1, ⟨h3, h3'⟩, hw, hr, h4, h5⟩ := h
   refine ⟨b, ents, clock, h1, ⟨h3, fun y hy => by rw [hF y hy]; exact h3' y hy⟩, (hF b h3).trans hw, zbJ x M es _ hr, h4, ?_⟩
   cases it with
   | none => trivial
   | some p =>
     obtain ⟨rid, left, cur⟩ := p
     obtain ⟨B', r, seen, q1, q2, q3, q4, q5, q6⟩ := h5
     exact ⟨B', r, seen, x.ids _ _ q1, q2, q3, q4, (hF r q3).trans q5, q6⟩
 | itr id => obtain ⟨h1, Bi, h2⟩ := h; exact ⟨h1, Bi, x.ids _ _ h2⟩
 | lrec l r e => obtain ⟨h1, h2, h3⟩ := h; exact ⟨h1, h2, (hF l (by rw [h2]; rfl)).trans h3⟩
 | vex s p => obtain ⟨L, h1, h2⟩ := h; exact ⟨L, h1, h2.ext x.st x.heap hF⟩
 | mapE M es k g =>
   obtain ⟨b, ents, clock, h1, ⟨h3, h3'⟩, hw, hr, h4, i, m, v, Bg, h5, h6, h7, h8⟩ := h
   exact ⟨b, ents, clock, h1, ⟨h3, fun y hy => by rw [hF y hy]; exact h3' y hy⟩, (hF b h3).trans hw, zbJ x M _ _ hr, h4, i, m, v, Bg, h5, h6, x.ids _ _ h7, h8⟩
 | fam M sub es hh =>
   obtain ⟨b, ents, clock, h1, ⟨h3, h3'⟩, hw, h4, G, hr, h5⟩ := h
   exact ⟨b, ents, clock, h1, ⟨h3, fun y hy => by rw [hF y hy]; exact h3' y hy⟩, (hF b h3).trans hw, h4, G, ze4 x M _ (fun k v m _ hv => zrm x hF hv) _ hr, h5⟩
def upd {α : Type _} (g : Nat -> α) (i : Nat) (x : α) : Nat -> α := fun j => if j = i then x else g j
@[simp] theorem zac {α : Type _} (g : Nat -> α) (i : Nat) (x : α) : upd g i x i = x := by simp [upd]
theorem zab {α : Type _} (g : Nat -> α) {i j : Nat} (x : α) (h : j ≠ i) : upd g i x j = g j := by simp [upd, h]
section mem
variable {β : Nat -> Option zay} {own : Nat -> Nat -> Prop} {S : Nat -> Prop} {go : Nat -> Option SO} {w : World}
theorem zaw.heapEq (h : zaw β own S go w) {w' : World} (hw : w'.heap = w.heap) : zaw β own S go w' := by
 have x : Ext β w S β w' S := ⟨fun _ _ e => e, fun _ e => e, fun b _ => by rw [hw]⟩
 refine ⟨fun id o e => ?_, h.sep, h.st, fun b hb => by rw [hw]; exact h.sz b hb⟩
 obtain ⟨B, h1, h2⟩ := h.obj id o e
 exact ⟨B, h1, h2.ext x (fun b _ => by rw [hw])⟩
theorem zaw.drop (h : zaw β own S go w) (id : Nat) : zaw β own S (upd go id none) w := by
 refine ⟨fun j o e => ?_, fun i j b hne hi hj => ?_, fun i b hi => ?_, h.sz⟩
 . by_cases hj : j = id
   . subst hj; simp at e
   . rw [zab _ _ hj] at e; exact h.obj j o e
 . have h1 : (go i).isSome := by
    by_cases e : i = id
    . subst e; simp at hi
    . rwa [zab _ _ e] at hi
   have h2 : (go j).isSome := by
    by_cases e : j = id
    . subst e; simp at hj
    . rwa [zab _ _ e] at hj
   exact h.sep i j b hne h1 h2
 . have h1 : (go i).isSome := by
    by_cases e : i = id
    . subst e; simp at hi
    . rwa [zab _ _ e] at hi
   exact h.st i b h1
theorem zaw.new (h : zaw β own S go w) {id : Nat} (hβ : β id = none) {w' : World} {ob : Obj} (hw : w'.heap = w.heap.push ob) {B : zay} {o : SO}
 (ho : za3 (upd β id (some B)) w' S B (zci w.heap.size) o) :
 zaw (upd β id (some B)) (upd own id (zci w.heap.size)) S (upd go id (some o)) w' /\ Ext β w S (upd β id (some B)) w' S := by
  have hlt : ∀ b, b < w.heap.size -> w'.heap[b]? = w.heap[b]? := fun b hb => by
   rw [hw, Array.getElem?_push, if_neg (by omega)]
  have x : Ext β w S (upd β id (some B)) w' S := ⟨fun i B' e => by
   by_cases hi : i = id
   . subst hi; rw [hβ] at e; cases e
   . rw [zab _ _ hi]; exact e, fun _ e => e, fun b hb => hlt b (h.sz b hb)⟩
  have hgo : ∀ i, i ≠ id -> upd go id (some o) i = go i := fun i hi => zab _ _ hi
  have old : ∀ i, i ≠ id -> (upd go id (some o) i).isSome -> ∀ b, own i b -> b < w.heap.size := fun i hi hs b hb => by
   rw [hgo i hi] at hs
   obtain ⟨o', ho'⟩ := Option.isSome_iff_exists.1 hs
   obtain ⟨B', _, h2⟩ := h.obj i o' ho'
   exact h2.lt b hb
  refine ⟨⟨fun j o' e => ?_, fun i j b hne hi hj => ?_, fun i b hi => ?_, fun b hb => ?_⟩, x⟩
  . by_cases hj : j = id
    . subst hj
      simp only [zac, Option.some.injEq] at e ⊢
      subst e
      exact ⟨B, rfl, ho⟩
    . rw [hgo j hj] at e
      obtain ⟨B', h1, h2⟩ := h.obj j o' e
      exact ⟨B', x.ids _ _ h1, by rw [zab _ _ hj]; exact h2.ext x (fun b hb => hlt b (h2.lt b hb))⟩
  . by_cases h1 : i = id
    . subst h1
      have h2 : j ≠ i := fun e => hne e.symm
      rw [zac, zab _ _ h2]
      intro e e'
      have := old j h2 hj b e'
      cases e; omega
    . rw [zab own _ h1]
      by_cases h2 : j = id
      . subst h2
        rw [zac]
        intro e e'
        have := old i h1 hi b e
        cases e'; omega
      . rw [zab own _ h2]
        rw [hgo i h1] at hi
        rw [hgo j h2] at hj
        exact h.sep i j b hne hi hj
  . by_cases h1 : i = id
    . subst h1
      rw [zac]
      intro e hs
      have := h.sz b hs
      cases e; omega
    . rw [zab own _ h1]
      rw [hgo i h1] at hi
      exact h.st i b hi
  . have := h.sz b hb
    rw [hw]; simp; omega
theorem zaw.set (h : zaw β own S go w) {id : Nat} {o0 o : SO} (hg : go id = some o0) {w' : World} {B : zay} (hB : β id = some B)
 (hsz : w'.heap.size = w.heap.size) (hw : ∀ b, ¬ own id b -> w'.heap[b]? = w.heap[b]?)
 (ho : za3 β w' S B (own id) o) : zaw β own S (upd go id (some o)) w' /\ Ext β w S β w' S := by
  have hsome : (go id).isSome := by simp [hg]
  have x : Ext β w S β w' S := ⟨fun _ _ e => e, fun _ e => e, fun b hb => hw b (fun e => h.st id b hsome e hb)⟩
  have hgo : ∀ i, (upd go id (some o) i).isSome -> (go i).isSome := fun i hi => by
   by_cases e : i = id
   . subst e; exact hsome
   . rwa [zab _ _ e] at hi
  refine ⟨⟨fun j o' e => ?_, fun i j b hne hi hj => h.sep i j b hne (hgo i hi) (hgo j hj), fun i b hi => h.st i b (hgo i hi), fun b hb => by rw [hsz]; exact h.sz b hb⟩, x⟩
  by_cases hj : j = id
  . subst hj
    simp only [zac, Option.some.injEq] at e
    subst e
    exact ⟨B, hB, ho⟩
  . rw [zab _ _ hj] at e
    obtain ⟨B', h1, h2⟩ := h.obj j o' e
    refine ⟨B', h1, h2.ext x (fun b hb => hw b (fun e' => ?_))⟩
    exact h.sep id j b (fun q => hj q.symm) hsome (by simp [e]) e' hb
theorem zaw.move (h : zaw β own S go w) {id id' : Nat} {o : SO} (hg : go id = some o) (hβ : β id' = none) {B : zay} (hB : β id = some B)
 (ho : za3 (upd β id' (some B)) w S B (own id) o) :
 zaw (upd β id' (some B)) (upd own id' (own id)) S (upd (upd go id none) id' (some o)) w /\ Ext β w S (upd β id' (some B)) w S := by
  have hne : id ≠ id' := fun e => by subst e; rw [hβ] at hB; cases hB
  have hsome : (go id).isSome := by simp [hg]
  have x : Ext β w S (upd β id' (some B)) w S := ⟨fun i B' e => by
   by_cases hi : i = id'
   . subst hi; rw [hβ] at e; cases e
   . rw [zab _ _ hi]; exact e, fun _ e => e, fun _ _ => rfl⟩
  have hgo : ∀ i, i ≠ id' -> (upd (upd go id none) id' (some o) i).isSome -> i ≠ id /\ (go i).isSome := fun i hi hs => by
   rw [zab _ _ hi] at hs
   by_cases e : i = id
   . subst e; simp at hs
   . rw [zab _ _ e] at hs; exact ⟨e, hs⟩
  refine ⟨⟨fun j o' e => ?_, fun i j b hij hi hj => ?_, fun i b hi => ?_, h.sz⟩, x⟩
  . by_cases hj : j = id'
    . subst hj
      simp only [zac, Option.some.injEq] at e ⊢
      subst e
      exact ⟨B, rfl, ho⟩
    . rw [zab _ _ hj] at e
      by_cases hj2 : j = id
      . subst hj2; simp at e
      . rw [zab _ _ hj2] at e
        obtain ⟨B', h1, h2⟩ := h.obj j o' e
        exact ⟨B', x.ids _ _ h1, by rw [zab _ _ hj]; exact h2.ext x (fun _ _ => rfl)⟩
  . by_cases h1 : i = id'
    . subst h1
      have hj1 : j ≠ i := fun e => hij e.symm
      obtain ⟨h3, h4⟩ := hgo j hj1 hj
      rw [zac, zab _ _ hj1]
      exact h.sep id j b (fun q => h3 q.symm) hsome h4
    . obtain ⟨h3, h4⟩ := hgo i h1 hi
      rw [zab own _ h1]
      by_cases h2 : j = id'
      . subst h2
        rw [zac]
        exact h.sep i id b h3 h4 hsome
      . obtain ⟨h5, h6⟩ := hgo j h2 hj
        rw [zab own _ h2]
        exact h.sep i j b hij h4 h6
  . by_cases h1 : i = id'
    . subst h1
      rw [zac]
      exact h.st id b hsome
    . obtain ⟨h3, h4⟩ := hgo i h1 hi
      rw [zab own _ h1]
      exact h.st i b h4
end mem
end Go.Sx
namespace Go.Sx
open Go
inductive Loc where
 | t (n : Nat) | o (id : Nat)
 deriving DecidableEq
inductive RT : Type 2 where
 | fail
 | done (v : Option SV) (os : List (Nat × Option SO)) (k : Nat)
 | rT (n : Nat) (f : Option SV -> RT)
 | rO (id : Nat) (f : Option SO -> RT)
 | req (p : Prop) (r : RT)
 | split (p : Prop) (r1 r2 : RT)
 | ex {α : Type 1} (p : α -> Prop) (f : α -> RT)
abbrev GT := Nat -> Option SV
abbrev GO := Nat -> Option SO
inductive RT.Runs (gt : GT) (go : GO) : RT -> List Loc -> Option SV -> List (Nat × Option SO) -> Nat -> Prop
 | done {v os k} : Runs gt go (.done v os k) [] v os k
 | rT {n f R v os k} (h : Runs gt go (f (gt n)) R v os k) : Runs gt go (.rT n f) (.t n :: R) v os k
 | rO {id f R v os k} (h : Runs gt go (f (go id)) R v os k) : Runs gt go (.rO id f) (.o id :: R) v os k
 | req {p r R v os k} (hp : p) (h : Runs gt go r R v os k) : Runs gt go (.req p r) R v os k
 | left {p r1 r2 R v os k} (hp : p) (h : Runs gt go r1 R v os k) : Runs gt go (.split p r1 r2) R v os k
 | right {p r1 r2 R v os k} (hp : ¬ p) (h : Runs gt go r2 R v os k) : Runs gt go (.split p r1 r2) R v os k
 | ex {α : Type 1} {p : α -> Prop} {f : α -> RT} {R v os k} (x : α) (hp : p x) (h : Runs gt go (f x) R v os k) : Runs gt go (.ex p f) R v os k
def zaQ {α : Type _} : List α -> Nat -> Option α
 | [], _ => none
 | a :: _, 0 => some a
 | _ :: l, n + 1 => zaQ l n
structure zaa : Type 1 where
 args : List SV
 foot : List SO
 out : List (Option SO)
 new : List SO
 res : SV
structure St : Type 1 where
 t : List (Nat × SV)
 o : List (Nat × Option SO)
 nx : Nat
inductive zcA : Type 1 where
 | inv (γ : Type) (I : γ -> γ -> Prop) (inv : γ -> St) (μ : γ -> Nat)
 | rounds (k : Nat)
inductive zf6 : Type 1 where
 | plain
 | cut (γ : Type) (I : γ -> Prop) (inv : γ -> St)
 | cutr (γ : Type) (I : St -> γ -> Prop) (inv : γ -> St)
def zaa.go0 (S : zaa) : GO := fun i => zaQ S.foot i
def zaa.go1 (S : zaa) : GO := fun i =>
 if i < S.foot.length then (match zaQ S.out i with | some (some o) => some o | _ => none) else zaQ S.new (i - S.foot.length)
def za9 (go : GO) (own : Nat -> Nat -> Prop) : Nat -> Prop := fun b => ∃ id, (go id).isSome /\ own id b
def zcp (P : Program) (f : FuncId) : Prop := ∀ (args : Array Value) (w : World), (callFunc f args).run P w = .ok (.enter f args) w
structure zgI (m : Nat) (β : Nat -> Option zay) (w : World) (S : Nat -> Prop) (β' : Nat -> Option zay) (w' : World) (S' : Nat -> Prop) : Prop where
 ids : ∀ i B, i < m -> β' i = some B -> β i = some B
 st : ∀ b, S b -> S' b
 heap : ∀ b, S b -> w'.heap[b]? = w.heap[b]?
def zaa.okE (E : Value -> Ending) (P : Program) (G : Nat -> Option SV) (f : FuncId) (L : zaa) : Prop :=
 zcp P f /\ L.out.length = L.foot.length /\ ∀ (β : Nat -> Option zay) (own : Nat -> Nat -> Prop) (S : Nat -> Prop) (w : World) (vs : Array Value),
  (∀ id, L.foot.length <= id -> β id = none) -> zaw β own S L.go0 w -> zam β w S L.args vs.toList →
  (∀ g s, G g = some s -> rel (fun _ => none) w S s (.pointer (some ⟨g, 0, none⟩))) →
  Calls P f vs w fun e w' => ∃ v β' own' S', e = E v /\ zgI L.foot.length β w S β' w' S' /\ (∀ id, L.foot.length + L.new.length <= id -> β' id = none) ∧
   rel β' w' S' L.res v /\ zaw β' own' S' L.go1 w' /\ Fr (za9 L.go0 own) w w' ∧
   (∀ id b, (L.go1 id).isSome -> own' id b -> za9 L.go0 own b \/ w.heap.size <= b) ∧
   (∀ b, S' b -> S b \/ za9 L.go0 own b \/ w.heap.size <= b)
def zaa.ok (P : Program) (G : Nat -> Option SV) (f : FuncId) (L : zaa) : Prop := zaa.okE .returned P G f L
abbrev panicked (v : Value) : Ending := .panicked [{ v := v, recovered := false }]
abbrev zct := FuncId -> List SV -> (zaa -> RT) -> RT
def zf7 (E : Value -> Ending) (P : Program) (G : Nat -> Option SV) (S : zct) : Prop := ∀ f args k gt go R v os n, (S f args k).Runs gt go R v os n -> ∃ L R', zaa.okE E P G f L /\ (k L).Runs gt go R' v os n
def SOk (P : Program) (G : Nat -> Option SV) (S : zct) : Prop := zf7 .returned P G S
structure YRn : Type 1 where
 l : Nat
 run : List SV -> List (Nat × Option SO) -> Nat -> (Bool -> List (Nat × Option SO) -> Nat -> Prop) -> Prop
structure Env where
 P : Program
 G : Nat -> Option SV
 N : Nat
 rnd : Option Nat
 m0 : Nat
 Y : Option YRn
 S : zct
 L : Nat -> zcA
 J : Nat -> zf6
 PS : zct
structure Ctx extends Env where
 sok : SOk P G S
 psok : zf7 panicked P G PS
 w0 : World
 X0 : Nat -> Prop
 S0 : Nat -> Prop
 β0 : Nat -> Option zay
 dt : List Deferred := []
structure zlF (n : Nat) (go : Nat -> Option SO) (own : Nat -> Nat -> Prop) (S : Nat -> Prop) (ds : List Deferred) (w : World) : Prop where
 nd : ds.Nodup
 at_ : ∀ d ∈ ds, ∃ D, d = { target := .collected D, args := #[] } /\ n <= D /\ w.heap[D]? = some (.deferred (some [])) /\ ¬ S D /\ ∀ id, (go id).isSome -> ¬ own id D
def ziM (d : Deferred) : Bool := match d.target with | .collected _ => true | _ => false
def mks (ds : List Deferred) : List Deferred := ds.filter ziM
def nmk (ds : List Deferred) : List Deferred := ds.filter fun d => !ziM d
theorem zgg {ds : List Deferred} (h : nmk ds = []) : mks ds = ds := by
 unfold mks; rw [List.filter_eq_self]
 intro d hd
 have := List.filter_eq_nil_iff.1 h d hd
 simpa using this
theorem znp (ds : List Deferred) : mks (nmk ds) = [] := by
 unfold mks nmk; rw [List.filter_filter, List.filter_eq_nil_iff]
 intro d _; cases ziM d <;> simp
theorem ztI (ds : List Deferred) : nmk (nmk ds) = nmk ds := by
 unfold nmk; rw [List.filter_filter]; congr 1; funext d; simp
structure zah (C : Ctx) (gt : Nat -> Option SV) (go : Nat -> Option SO) (β : Nat -> Option zay) (own : Nat -> Nat -> Prop) (S : Nat -> Prop) (a : Act) (w : World) : Prop where
 tm : ∀ t s, gt t = some s -> rel β w S s (a.tmps.getD t undef)
 mem : zaw β own S go w
 fr : Fr C.X0 C.w0 w
 own0 : ∀ id b, (go id).isSome -> own id b -> C.X0 b \/ C.w0.heap.size <= b
 s0 : ∀ b, C.S0 b -> S b
 s1 : ∀ b, S b -> C.S0 b \/ C.X0 b \/ C.w0.heap.size <= b
 n : a.tmps.size = C.N
 df : zlF C.w0.heap.size go own S (mks a.defers) w /\ nmk a.defers = C.dt
 gl : ∀ g s, C.G g = some s -> rel (fun _ => none) w S s (.pointer (some ⟨g, 0, none⟩))
section
variable {C : Ctx} {gt : Nat -> Option SV} {go : Nat -> Option SO} {β : Nat -> Option zay} {own : Nat -> Nat -> Prop} {S : Nat -> Prop} {a : Act} {w : World}
theorem zgU {a : Act} {d : Nat} (hd : d < a.tmps.size) (v : Value) (t : Nat) :
 (a.put (some d) v).tmps.getD t undef = if t = d then v else a.tmps.getD t undef := by
  simp only [Act.put, Array.getD_eq_getD_getElem?]
  by_cases h : t = d
  . subst h; simp [hd]
  . rw [if_neg h, Array.getElem?_setIfInBounds]
    rw [if_neg (fun e => h e.symm)]
theorem zmx (a : Act) (d : Option Nat) (v : Value) : (a.put d v).tmps.size = a.tmps.size := by cases d <;> simp [Act.put]
theorem zoy (a : Act) (d : Option Nat) (v : Value) : (a.put d v).defers = a.defers := by cases d <;> simp [Act.put]
def zbe (gt : Nat -> Option SV) : Option (Nat × SV) -> Nat -> Option SV
 | none => gt
 | some (d, s) => upd gt d (some s)
theorem zah.step (h : zah C gt go β own S a w) {β' own' S' go' w'} (x : Ext β w S β' w' S') (hm : zaw β' own' S' go' w')
 (hf : Fr (fun b => ∃ id, (go id).isSome /\ own id b) w w') (ho : ∀ id b, (go' id).isSome -> own' id b -> (∃ id, (go id).isSome /\ own id b) \/ w.heap.size <= b)
 (hs : ∀ b, S' b -> S b \/ (∃ id, (go id).isSome /\ own id b) \/ w.heap.size <= b)
 (dst : Option Nat) (v : Value) (wr : Option (Nat × SV))
 (hd : ∀ d s, wr = some (d, s) -> dst = some d /\ d < C.N /\ rel β' w' S' s v)
 (hn : wr = none -> dst = none \/ ∃ d, dst = some d /\ gt d = none) :
 zah C (zbe gt wr) go' β' own' S' (a.put dst v) w' := by
  have frs : w.heap.size <= w'.heap.size := hf.size
  have key : ∀ b, (∃ id, (go id).isSome /\ own id b) -> C.X0 b \/ C.w0.heap.size <= b := fun b ⟨i, h1, h2⟩ => h.own0 i b h1 h2
  refine ⟨fun t s ht => ?_, hm, ?_, fun id b h1 h2 => ?_, fun b hb => x.st b (h.s0 b hb), fun b hb => ?_, by rw [zmx]; exact h.n, ?_,
   fun g s e => zaH ⟨fun _ _ e => (by cases e), x.st, x.heap⟩ _ _ (h.gl g s e)⟩
  . cases wr with
    | none =>
      simp only [zbe] at ht
      rcases hn rfl with rfl | ⟨d, rfl, hg⟩
      . exact zaH x _ _ (h.tm t s ht)
      . have htd : t ≠ d := fun e => by subst e; rw [hg] at ht; cases ht
        by_cases hlt : d < a.tmps.size
        . rw [zgU hlt, if_neg htd]; exact zaH x _ _ (h.tm t s ht)
        . have : a.put (some d) v = a := by
           simp only [Act.put]; rw [Array.setIfInBounds]; simp [hlt]
          rw [this]; exact zaH x _ _ (h.tm t s ht)
    | some p =>
      obtain ⟨d, s'⟩ := p
      obtain ⟨rfl, hlt, hr⟩ := hd d s' rfl
      simp only [zbe] at ht
      rw [zgU (by rw [h.n]; exact hlt)]
      by_cases e : t = d
      . subst e
        simp only [zac, Option.some.injEq] at ht
        subst ht
        simpa using hr
      . rw [zab _ _ e] at ht
        rw [if_neg e]
        exact zaH x _ _ (h.tm t s ht)
  . refine ⟨hf.os.trans h.fr.os, hf.tape.trans h.fr.tape, hf.output.trans h.fr.output, Nat.le_trans h.fr.size frs, fun k hk hx => ?_⟩
    rw [hf.block k (Nat.lt_of_lt_of_le hk h.fr.size) (fun e => by rcases key k e with e | e; exact hx e; omega)]
    exact h.fr.block k hk hx
  . rcases ho id b h1 h2 with e | e
    . exact key b e
    . exact .inr (Nat.le_trans h.fr.size e)
  . rcases hs b hb with e | e | e
    . exact h.s1 b e
    . rcases key b e with e | e
      . exact .inr (.inl e)
      . exact .inr (.inr e)
    . exact .inr (.inr (Nat.le_trans h.fr.size e))
  . rw [zoy]
    obtain ⟨hdf, hms⟩ := h.df
    refine ⟨⟨hdf.nd, fun d hd => ?_⟩, hms⟩
    obtain ⟨D, e1, e2, e3, e4, e5⟩ := hdf.at_ d hd
    have hlt : D < w.heap.size := (Array.getElem?_eq_some_iff.1 e3).1
    have hno : ¬ ∃ id, (go id).isSome /\ own id D := fun ⟨i, h1, h2⟩ => e5 i h1 h2
    refine ⟨D, e1, e2, (hf.block D hlt hno).trans e3, fun e => ?_, fun id h1 h2 => ?_⟩
    . rcases hs D e with e | e | e
      . exact e4 e
      . exact hno e
      . omega
    . rcases ho id D h1 h2 with e | e
      . exact hno e
      . omega
theorem zah.pure (h : zah C gt go β own S a w) {w' : World} (hw : w'.heap = w.heap) (h1 : w'.os = w.os) (h2 : w'.tape = w.tape) (h3 : w'.output = w.output)
 (dst : Option Nat) (v : Value) (wr : Option (Nat × SV)) (hd : ∀ d s, wr = some (d, s) -> dst = some d /\ d < C.N /\ rel β w S s v)
 (hn : wr = none -> dst = none \/ ∃ d, dst = some d /\ gt d = none) :
 zah C (zbe gt wr) go β own S (a.put dst v) w' := by
  have x : Ext β w S β w' S := ⟨fun _ _ e => e, fun _ e => e, fun b _ => by rw [hw]⟩
  exact h.step x (h.mem.heapEq hw) ⟨h1, h2, h3, by rw [hw]; exact Nat.le_refl _, fun k _ _ => by rw [hw]⟩ (fun id b e1 e2 => .inl ⟨id, e1, e2⟩) (fun b e => .inl e) dst v wr
   (fun d s e => let ⟨p, q, r⟩ := hd d s e; ⟨p, q, zaH x _ _ r⟩) hn
theorem zah.new (h : zah C gt go β own S a w) {id : Nat} (hβ : β id = none) {w' : World} {ob : Obj} (hw : w'.heap = w.heap.push ob)
 (h1 : w'.os = w.os) (h2 : w'.tape = w.tape) (h3 : w'.output = w.output) {B : zay} {o : SO}
 (ho : Ext β w S (upd β id (some B)) w' S -> za3 (upd β id (some B)) w' S B (zci w.heap.size) o)
 (dst : Option Nat) (v : Value) (wr : Option (Nat × SV)) (hd : ∀ d s, wr = some (d, s) -> dst = some d /\ d < C.N /\ rel (upd β id (some B)) w' S s v)
 (hn : wr = none -> dst = none \/ ∃ d, dst = some d /\ gt d = none) :
 zah C (zbe gt wr) (upd go id (some o)) (upd β id (some B)) (upd own id (zci w.heap.size)) S (a.put dst v) w' := by
  have hlt : ∀ b, b < w.heap.size -> w'.heap[b]? = w.heap[b]? := fun b hb => by
   rw [hw, Array.getElem?_push, if_neg (by omega)]
  have x : Ext β w S (upd β id (some B)) w' S := ⟨fun i B' e => by
   by_cases hi : i = id
   . subst hi; rw [hβ] at e; cases e
   . rw [zab _ _ hi]; exact e, fun _ e => e, fun b hb => hlt b (h.mem.sz b hb)⟩
  obtain ⟨hm, _⟩ := h.mem.new hβ hw (ho x)
  refine h.step x hm ⟨h1, h2, h3, by rw [hw]; simp, fun k hk _ => hlt k hk⟩ (fun i b e1 e2 => ?_) (fun b e => .inl e) dst v wr hd hn
  by_cases e : i = id
  . subst e
    rw [zac] at e2
    right; cases e2; exact Nat.le_refl _
  . rw [zab _ _ e] at e1
    rw [zab _ _ e] at e2
    exact .inl ⟨i, e1, e2⟩
theorem zah.set (h : zah C gt go β own S a w) {id : Nat} {o0 o : SO} (hg : go id = some o0) {w' : World} {B : zay} (hB : β id = some B)
 (hsz : w'.heap.size = w.heap.size) (hw : ∀ b, ¬ own id b -> w'.heap[b]? = w.heap[b]?)
 (h1 : w'.os = w.os) (h2 : w'.tape = w.tape) (h3 : w'.output = w.output) (ho : Ext β w S β w' S -> za3 β w' S B (own id) o)
 (dst : Option Nat) (v : Value) (wr : Option (Nat × SV)) (hd : ∀ d s, wr = some (d, s) -> dst = some d /\ d < C.N /\ rel β w' S s v)
 (hn : wr = none -> dst = none \/ ∃ d, dst = some d /\ gt d = none) :
 zah C (zbe gt wr) (upd go id (some o)) β own S (a.put dst v) w' := by
  have hsome : (go id).isSome := by simp [hg]
  have x : Ext β w S β w' S := ⟨fun _ _ e => e, fun _ e => e, fun b hb => hw b (fun e => h.mem.st id b hsome e hb)⟩
  obtain ⟨hm, _⟩ := h.mem.set hg hB hsz hw (ho x)
  refine h.step x hm ⟨h1, h2, h3, by rw [hsz]; exact Nat.le_refl _, fun k _ hx => hw k (fun e => hx ⟨id, hsome, e⟩)⟩ (fun i b e1 e2 => ?_) (fun b e => .inl e) dst v wr hd hn
  left
  by_cases e : i = id
  . subst e; exact ⟨i, hsome, e2⟩
  . rw [zab _ _ e] at e1; exact ⟨i, e1, e2⟩
end
end Go.Sx
namespace Go.Sx
open Go
inductive X where
 | t (n : Nat)
 | k (s : SV)
 | g (n : Nat)
inductive MO where
 | mv (x : X)
 | pick (c a b : X)
 | box (x : X)
 | alloc (z : List SV)
 | ld (n : Option Nat) (x : X)
 | st (n : Option Nat) (a x : X)
 | nchk (x : X)
 | fld (off : Nat) (x : X)
 | fldv (off : Nat) (n : Option Nat) (x : X)
 | ixa (s : Nat) (x i : X)
 | ixr (len s : Nat) (x i : X)
 | ixv (len s : Nat) (n : Option Nat) (x i : X)
 | ar (op : BinOp) (x y : X)
 | arl (op : BinOp) (x y : X)
 | cmpl (op : BinOp) (x y : X)
 | cmp (op : BinOp) (x y : X)
 | eqb (neg : Bool) (x y : X)
 | eqs (ks : List SK) (neg : Bool) (x y : X)
 | not (x : X)
 | un (op : UnOp) (x : X)
 | cv (k : IntKind) (x : X)
 | bld (z : List SV) (ps : List (Nat × Nat × X))
 | bsl (s len : Nat) (z : List SV) (ps : List (Nat × X))
 | lenS (x : X)
 | lenT (x : X)
 | lenM (x : X)
 | app (s by_ : Nat) (x y : X)
 | appz (s by_ : Nat) (x y : X)
 | capN (x : X)
 | cpy (s : Nat) (x y : X)
 | sls (s : Nat) (x : X) (lo hi : Option X)
 | ext (i : Nat) (x : X)
 | mkf (f : Fn) (a c : List X)
 | mki (t : TypeId) (x : X)
 | call (f : X) (xs : List X)
 | mkm
 | lkp (ok one : Bool) (ks : List SK) (zo : Bool) (z : List PV) (m k : X)
 | mup (one : Bool) (ks : List SK) (m k v : X)
 | mdel (one : Bool) (ks : List SK) (m k : X)
 | mm (mx : Bool) (x : X) (ys : List X)
 | mks (s by_ : Nat) (z : List PV) (n c : X)
 | clr (s : Nat) (z : List PV) (x : X)
 | ixs (x i : X)
 | eqt (neg : Bool) (x y : X)
 | nils (neg : Bool) (x : X)
 | rngm (x : X)
 | ent (x : X)
 | nxt (x : X)
 | pnc (x : X)
 | pcall (f : X) (xs : List X)
 | sls3 (s : Nat) (x hi mx : X)
 | ment (one : Bool) (ks : List SK) (zo : Bool) (z : List PV) (m k : X)
 | mest (m st v : X)
structure MOp where
 d : Option Nat
 m : MO
 g : Option (Nat × Bool)
 sp : Bool
inductive Gh where
 | toFam (id : Nat)
 | toMap (id : Nat)
 | putb (id : Nat)
 | putc (id : Nat)
 | opn (id : Nat)
 | opt (n : Nat)
inductive MC where
 | skip
 | reg (l : List MOp)
 | drw (l : List MOp) (pre : List (List Nat))
 | seq (a b : MC)
 | join (n : Nat) (a b : MC)
 | cond (x : X) (a b : MC)
 | blk (id : Nat) (a : MC)
 | loop (n : Nat) (a : MC)
 | exit (id : Nat)
 | ret
 | rng (f : X) (ps : List Nat) (a b : MC) (n N : Nat) (it : MC)
 | gh (g : Gh) (a : MC)
structure Sd (p : Prop) : Prop where
 h : p
def RT.vc (gt : GT) (go : GO) : RT -> List Loc -> (List Loc -> Option SV -> List (Nat × Option SO) -> Nat -> Prop) -> Prop
 | .fail, _, _ => False
 | .done v os k, R, K => K R v os k
 | .rT n f, R, K => (f (gt n)).vc gt go (.t n :: R) K
 | .rO id f, R, K => (f (go id)).vc gt go (.o id :: R) K
 | .req p r, R, K => Sd p /\ r.vc gt go R K
 | .split p r1 r2, R, K => (p -> r1.vc gt go R K) /\ (¬ p -> r2.vc gt go R K)
 | .ex p f, R, K => ∃ x, p x /\ (f x).vc gt go R K
theorem RT.runs_of_vc {gt go} : ∀ (r : RT) (R0 : List Loc) (K), r.vc gt go R0 K -> ∃ R v os k, r.Runs gt go R v os k /\ K (R.reverse ++ R0) v os k
 | .fail, _, _, h => h.elim
 | .done v os k, R0, K, h => ⟨[], v, os, k, .done, h⟩
 | .rT n f, R0, K, h => by
   obtain ⟨R, v, os, k, h1, h2⟩ := runs_of_vc (f (gt n)) _ _ h
   exact ⟨_, v, os, k, .rT h1, by simpa using h2⟩
 | .rO id f, R0, K, h => by
   obtain ⟨R, v, os, k, h1, h2⟩ := runs_of_vc (f (go id)) _ _ h
   exact ⟨_, v, os, k, .rO h1, by simpa using h2⟩
 | .req p r, R0, K, h => by
   obtain ⟨R, v, os, k, h1, h2⟩ := runs_of_vc r _ _ h.2
   exact ⟨_, v, os, k, .req h.1.h h1, h2⟩
 | .split p r1 r2, R0, K, h => by
   by_cases hp : p
   . obtain ⟨R, v, os, k, h1, h2⟩ := runs_of_vc r1 _ _ (h.1 hp)
     exact ⟨_, v, os, k, .left hp h1, h2⟩
   . obtain ⟨R, v, os, k, h1, h2⟩ := runs_of_vc r2 _ _ (h.2 hp)
     exact ⟨_, v, os, k, .right hp h1, h2⟩
 | .ex p f, R0, K, h => by
   obtain ⟨x, hp, h⟩ := h
   obtain ⟨R, v, os, k, h1, h2⟩ := runs_of_vc (f x) _ _ h
   exact ⟨_, v, os, k, .ex x hp h1, h2⟩
theorem RT.Runs.local {gt go gt' go'} {r : RT} {R v os k} (h : r.Runs gt go R v os k)
 (ht : ∀ n, .t n ∈ R -> gt' n = gt n) (ho : ∀ i, .o i ∈ R -> go' i = go i) : r.Runs gt' go' R v os k := by
  induction h with
  | done => exact .done
  | rT h ih =>
    refine .rT ?_
    rw [ht _ (by simp)]
    exact ih (fun n hn => ht n (by simp [hn])) (fun n hn => ho n (by simp [hn]))
  | rO h ih =>
    refine .rO ?_
    rw [ho _ (by simp)]
    exact ih (fun n hn => ht n (by simp [hn])) (fun n hn => ho n (by simp [hn]))
  | req hp _ ih => exact .req hp (ih ht ho)
  | left hp _ ih => exact .left hp (ih ht ho)
  | right hp _ ih => exact .right hp (ih ht ho)
  | ex x hp _ ih => exact .ex x hp (ih ht ho)
def zi6 {α : Type _} : List α -> Nat -> α -> List α
 | [], _, _ => []
 | _ :: l, 0, b => b :: l
 | a :: l, n + 1, b => a :: zi6 l n b
def zdA {α : Type _} : List α -> Nat -> List α -> Option (List α)
 | l, _, [] => some l
 | [], _, _ :: _ => none
 | _ :: l, 0, v :: vs => match zdA l 0 vs with | some r => some (v :: r) | none => none
 | a :: l, n + 1, v :: vs => match zdA l n (v :: vs) with | some r => some (a :: r) | none => none
def zf8 {α : Type _} : List α -> Nat -> Nat -> Option (List α)
 | _, 0, 0 => some []
 | [], _, _ => none
 | a :: l, 0, n + 1 => match zf8 l 0 n with | some r => some (a :: r) | none => none
 | _ :: l, i + 1, n => zf8 l i n
def zav {α : Type _} (k : Nat) : List (Nat × α) -> Option α
 | [] => none
 | (j, v) :: r => match Nat.beq j k with | true => some v | false => zav k r
def SV.pv : SV -> Option PV
 | .int k n => some (.int k n)
 | .bool b => some (.bool b)
 | .tt => some (.bool true)
 | .ff => some (.bool false)
 | .str s => some (.str s)
 | .val v => match v with | .agg _ => none | .tuple _ => none | v => some (.val v)
 | .rd p => some p
 | .rp cs 0 => some (.pt cs)
 | _ => none
def pvs : List SV -> Option (List PV)
 | [] => some []
 | s :: l => match s.pv with | none => none | some p => match pvs l with | none => none | some r => some (p :: r)
def ze7 : List (List SV) -> Option (List (List PV))
 | [] => some []
 | s :: l => match pvs s with | none => none | some p => match ze7 l with | none => none | some r => some (p :: r)
def SV.one : SV -> Bool
 | .any => false
 | .agg _ => false
 | .tup _ => false
 | .val v => match v with | .agg _ => false | .tuple _ => false | _ => true
 | .rd p => match p with | .val v => (match v with | .agg _ => false | .tuple _ => false | _ => true) | _ => true
 | _ => true
def zmr : List SV -> Bool
 | [] => true
 | s :: l => match s.one with | true => zmr l | false => false
def zlw : List (List SV) -> Bool
 | [] => true
 | s :: l => match zmr s with | true => zlw l | false => false
def SV.cells : SV -> Option (List SV)
 | .agg cs => match zmr cs with | true => some cs | false => none
 | s => match s.one with | true => some [s] | false => none
def SV.prop : SV -> Option Prop
 | .tt => some True
 | .ff => some False
 | .bool b => some (b = true)
 | .pr p => some p
 | _ => none
structure Ren where
 m : List (Nat × Option Nat)
 bor : List Nat
def Ren.bind (ρ : Ren) (i : Nat) (j : Option Nat) (f : Ren -> RT) : RT :=
 match zav i ρ.m with
 | none => (match j with
   | none => f { ρ with m := (i, none) :: ρ.m }
   | some j => match ρ.m.all (fun p => match p.2 with | none => true | some q => !Nat.beq q j) with
     | true => f { ρ with m := (i, some j) :: ρ.m }
     | false => .fail)
 | some none => match j with | none => f ρ | some _ => .fail
 | some (some q) => match j with | none => .fail | some j => match Nat.beq q j with | true => f ρ | false => .fail
def zey : IntKind -> IntKind -> Bool
 | .i8, k => (match k with | .i8 => true | _ => false)
 | .i16, k => (match k with | .i16 => true | _ => false)
 | .i32, k => (match k with | .i32 => true | _ => false)
 | .i64, k => (match k with | .i64 => true | _ => false)
 | .u8, k => (match k with | .u8 => true | _ => false)
 | .u16, k => (match k with | .u16 => true | _ => false)
 | .u32, k => (match k with | .u32 => true | _ => false)
 | .u64, k => (match k with | .u64 => true | _ => false)
def eqN (a b : Nat) (r : RT) : RT := match Nat.beq a b with | true => r | false => .fail
def zia : List SV -> Bool
 | [] => true
 | s :: l => match s with | .int _ _ => zia l | .str _ => zia l | _ => false
mutual
def mSV (ρ : Ren) : SV -> SV -> (Ren -> RT) -> RT
 | .any, _, f => f ρ
 | .int k n, c, f => match c with
   | .int k' n' => (match zey k k' with | true => .req (n = n') (f ρ) | false => .fail)
   | _ => .fail
 | .bool b, c, f => match c with
   | .bool b' => .req (b = b') (f ρ)
   | .tt => .req (b = true) (f ρ)
   | .ff => .req (b = false) (f ρ)
   | .pr p => .req (b = true ↔ p) (f ρ)
   | _ => .fail
 | .pr p, c, f => match c with
   | .bool b' => .req (p ↔ b' = true) (f ρ)
   | .tt => .req p (f ρ)
   | .ff => .req (¬ p) (f ρ)
   | .pr q => .req (p ↔ q) (f ρ)
   | _ => .fail
 | .tt, c, f => match c with
   | .tt => f ρ
   | .bool b => .req (b = true) (f ρ)
   | .pr p => .req p (f ρ)
   | _ => .fail
 | .ff, c, f => match c with
   | .ff => f ρ
   | .bool b => .req (b = false) (f ρ)
   | .pr p => .req (¬ p) (f ρ)
   | _ => .fail
 | .str s, c, f => match c with
   | .str s' => .req (s = s') (f ρ)
   | _ => .fail
 | .val v, c, f => match c with
   | .val v' => .req (v = v') (f ρ)
   | _ => .fail
 | .rd p, c, f => match c with
   | .rd p' => .req (p = p') (f ρ)
   | .slc j st len => .rO j fun o => match o with
     | some (.vec s L) => .req (p = .sl s ((L.drop st).take len) /\ st + len <= L.length) (f { ρ with bor := j :: ρ.bor })
     | some (.arr s L) => (match ze7 L with
       | some L => .req (p = .sl s ((L.drop st).take len) /\ st + len <= L.length) (f { ρ with bor := j :: ρ.bor })
       | none => .fail)
     | _ => .fail
   | .ptr j idx sub => .rO j fun o => match o with
     | some (.row cs) => (match idx, sub, pvs cs with
       | 0, 0, some cs => .req (p = .pt cs) (f { ρ with bor := j :: ρ.bor })
       | _, _, _ => .fail)
     | _ => .fail
   | .rp cs sub => (match sub with | 0 => .req (p = .pt cs) (f ρ) | _ => .fail)
   | .val v => (match p with
     | .sl _ L => .req (L = [] /\ v = .slice none 0 0) (f ρ)
     | _ => .fail)
   | _ => .fail
 | .rp cs sub, c, f => match c with
   | .rp cs' sub' => .req (cs = cs') (eqN sub sub' (f ρ))
   | .ptr j idx sub' => .rO j fun o => match o with
     | some (.row cs') => (match idx, pvs cs' with
       | 0, some cs' => .req (cs = cs') (eqN sub sub' (f { ρ with bor := j :: ρ.bor }))
       | _, _ => .fail)
     | _ => .fail
   | _ => .fail
 | .ra s L, c, f => match c with
   | .ra s' L' => .req (s = s' /\ L = L') (f ρ)
   | _ => .fail
 | .ptr i idx sub, c, f => match c with
   | .ptr j idx' sub' => ρ.bind i (some j) fun ρ => .req (idx = idx' /\ sub = sub') (f ρ)
   | _ => .fail
 | .slc i st len, c, f => match c with
   | .slc j st' len' => ρ.bind i (some j) fun ρ => .req (st = st' /\ len = len') (f ρ)
   | .val v => ρ.bind i none fun ρ => .req (st = 0 /\ len = 0 /\ v = .slice none 0 0) (f ρ)
   | _ => .fail
 | .slx i st len, c, f => match c with
   | .slx j st' len' => ρ.bind i (some j) fun ρ => .req (st = st' /\ len = len') (f ρ)
   | _ => .fail
 | .fex p, c, f => match c with
   | .int k n => .req (p (.int k n)) (f ρ)
   | .bool b => .req (p (.bool b)) (f ρ)
   | .tt => .req (p (.bool true)) (f ρ)
   | .ff => .req (p (.bool false)) (f ρ)
   | .pr q => .req (∀ b : Bool, (b = true ↔ q) -> p (.bool b)) (f ρ)
   | .fex q => .req (∀ x, q x -> p x) (f ρ)
   | _ => .fail
 | .gn i, c, f => match c with
   | .gn j => ρ.bind i (some j) f
   | _ => .fail
 | .mp i, c, f => match c with
   | .mp j => ρ.bind i (some j) f
   | _ => .fail
 | .fn g a b, c, f => match c with
   | .fn g' a' b' => .req (g = g') (zfG ρ a a' fun ρ => zfG ρ b b' f)
   | _ => .fail
 | .ifc t x, c, f => match c with
   | .ifc t' x' => .req (t = t') (mSV ρ x x' f)
   | _ => .fail
 | .agg cs, c, f => match c with
   | .agg cs' => (match zia cs with | true => .req (cs = cs') (f ρ) | false => zfG ρ cs cs' f)
   | _ => .fail
 | .tup cs, c, f => match c with
   | .tup cs' => zfG ρ cs cs' f
   | _ => .fail
def zfG (ρ : Ren) : List SV -> List SV -> (Ren -> RT) -> RT
 | [], l, f => match l with | [] => f ρ | _ => .fail
 | p :: ps, l, f => match l with | [] => .fail | c :: cs => mSV ρ p c fun ρ => zfG ρ ps cs f
end
def zjG (ρ : Ren) : List (List SV) -> List (List SV) -> (Ren -> RT) -> RT
 | [], l, f => match l with | [] => f ρ | _ => .fail
 | p :: ps, l, f => match l with | [] => .fail | c :: cs => zfG ρ p c fun ρ => zjG ρ ps cs f
def mSO (ρ : Ren) : SO -> SO -> (Ren -> RT) -> RT
 | .row ps, c, f => match c with
   | .row cs => (match zia ps with | true => .req (ps = cs) (f ρ) | false => zfG ρ ps cs f)
   | _ => .fail
 | .vec s L, c, f => match c with
   | .vec s' L' => .req (s = s' /\ L = L') (f ρ)
   | .arr s' L' => (match ze7 L' with
     | some L' => .req (s = s' /\ L = L') (f ρ)
     | none => .fail)
   | _ => .fail
 | .arr s L, c, f => match c with
   | .arr s' L' => .req (s = s') (zjG ρ L L' f)
   | _ => .fail
 | .map M es it, c, f => match c with
   | .map M' es' it' => (match it with
     | none => .req (SO.map M es none = SO.map M' es' none) (f ρ)
     | some (rid, left, cur) => match it' with
       | none => .fail
       | some (rid', left', cur') => ρ.bind rid (some rid') fun ρ => .req (SO.map M es (some (rid', left, cur)) = SO.map M' es' (some (rid', left', cur'))) (f ρ))
   | _ => .fail
 | .itr i, c, f => match c with
   | .itr j => ρ.bind i (some j) f
   | _ => .fail
 | .lrec l r e, c, f => match c with
   | .lrec l' r' e' => .req (l = l' /\ r = r' /\ e = e') (f ρ)
   | _ => .fail
 | .vex s p, c, f => match c with
   | .vec s' L' => .req (s = s' /\ p L') (f ρ)
   | .arr s' L' => (match ze7 L' with
     | some L' => .req (s = s' /\ p L') (f ρ)
     | none => .fail)
   | .vex s' q => .req (s = s' /\ ∀ L, q L -> p L) (f ρ)
   | _ => .fail
 | .mapE _ _ _ _, _, _ => .fail
 | .fam M sub es h, c, f => match h with
   | none => (match c with
     | .fam M' sub' es' none => .req (SO.fam M sub es none = SO.fam M' sub' es' none) (f ρ)
     | _ => .fail)
   | some _ => .fail
def zjH : SO -> RT -> RT
 | .vec _ L, r => .req (L = []) r
 | .arr _ L, r => match L with | [] => r | _ => .fail
 | _, _ => .fail
def zfX (ρ : Ren) : List (Nat × SO) -> (Ren -> RT) -> RT
 | [], f => f ρ
 | (i, p) :: r, f => match zav i ρ.m with
   | none => .fail
   | some none => zjH p (zfX ρ r f)
   | some (some j) => .rO j fun o => match o with
     | some c => mSO ρ p c fun ρ => zfX ρ r f
     | none => .fail
mutual
def SV.ren (ρ : Nat -> Nat) : SV -> SV
 | .ptr i a b => .ptr (ρ i) a b
 | .slc i a b => .slc (ρ i) a b
 | .slx i a b => .slx (ρ i) a b
 | .gn i => .gn (ρ i)
 | .fex p => .fex p
 | .mp i => .mp (ρ i)
 | .fn f a c => .fn f (ze8 ρ a) (ze8 ρ c)
 | .ifc t x => .ifc t (x.ren ρ)
 | .agg cs => .agg (ze8 ρ cs)
 | .tup cs => .tup (ze8 ρ cs)
 | .any => .any
 | .int k n => .int k n
 | .bool b => .bool b
 | .pr p => .pr p
 | .tt => .tt
 | .ff => .ff
 | .str s => .str s
 | .val v => .val v
 | .rd p => .rd p
 | .rp cs sub => .rp cs sub
 | .ra s L => .ra s L
def ze8 (ρ : Nat -> Nat) : List SV -> List SV
 | [] => []
 | s :: l => s.ren ρ :: ze8 ρ l
end
def zhb (ρ : Nat -> Nat) : List (List SV) -> List (List SV)
 | [] => []
 | s :: l => ze8 ρ s :: zhb ρ l
def SO.ren (ρ : Nat -> Nat) : SO -> SO
 | .row cs => .row (ze8 ρ cs)
 | .vec s L => .vec s L
 | .arr s L => .arr s (zhb ρ L)
 | .map M es it => .map M es (match it with | none => none | some (rid, left, cur) => some (ρ rid, left, cur))
 | .itr i => .itr (ρ i)
 | .lrec l r e => .lrec l r e
 | .vex s p => .vex s p
 | .mapE M es k g => .mapE M es k (ρ g)
 | .fam M sub es h => .fam M sub es (match h with | none => none | some (k, j, g) => some (k, ρ j, match g with | none => none | some g => some (ρ g)))
end Go.Sx
namespace Go.Sx
open Go
def PV.flat : PV -> Prop
 | .sl _ _ => False
 | .pt _ => False
 | _ => True
mutual
def SV.flat : SV -> Prop
 | .rd p => p.flat
 | .rp _ _ => False
 | .ra _ _ => False
 | .fn _ a c => zc2 a /\ zc2 c
 | .ifc _ x => x.flat
 | .agg cs => zc2 cs
 | .tup cs => zc2 cs
 | .any => True
 | .int _ _ => True
 | .bool _ => True
 | .pr _ => True
 | .tt => True
 | .ff => True
 | .str _ => True
 | .val _ => True
 | .ptr _ _ _ => True
 | .slc _ _ _ => True
 | .slx _ _ _ => True
 | .gn _ => True
 | .fex _ => True
 | .mp _ => True
def zc2 : List SV -> Prop
 | [] => True
 | s :: l => s.flat /\ zc2 l
end
def zjv : List (List SV) -> Prop
 | [] => True
 | s :: l => zc2 s /\ zjv l
def SO.flat : SO -> Prop
 | .row cs => zc2 cs
 | .vec _ L => ∀ e ∈ L, ∀ p ∈ e, PV.flat p
 | .arr _ L => zjv L
 | .map M es _ => ∀ x ∈ es, (∀ p ∈ M.ev x.2, PV.flat p)
 | .itr _ => True
 | .lrec _ _ _ => True
 | .vex _ p => ∀ L, p L -> ∀ e ∈ L, ∀ p ∈ e, PV.flat p
 | .mapE _ _ _ _ => False
 | .fam _ _ _ _ => False
def zhx : List SO -> Prop
 | [] => True
 | o :: l => o.flat /\ zhx l
def zeI : List (Option SO) -> Prop
 | [] => True
 | some o :: l => o.flat /\ zeI l
 | none :: l => zeI l
def zaa.flat (L : zaa) : Prop := L.res.flat /\ zhx L.new /\ zeI L.out
section rt
variable (E : Env)
def X.rd (x : X) (f : SV -> RT) : RT :=
 match x with
 | .t n => .rT n fun o => match o with | some v => f v | none => .fail
 | .k s => f s
 | .g n => match E.G n with | some s => f s | none => .fail
def Xs.rd : List X -> (List SV -> RT) -> RT
 | [], f => f []
 | x :: xs, f => x.rd E fun v => Xs.rd xs fun vs => f (v :: vs)
def zaC (s : SV) : RT := .done (some s) [] 0
def zb1 (cs : List SV) (sub : Nat) : Option Nat -> RT
 | none => match zaQ cs sub with | some c => zaC c | none => .fail
 | some n => match zf8 cs sub n with | some l => zaC (.agg l) | none => .fail
def zkp : List PV -> List SV
 | [] => []
 | p :: l => p.sv :: zkp l
def zpt (n : Option Nat) : SV -> RT
 | .ptr id idx sub => .rO id fun o => match o with
   | some (.row cs) => (match idx with | 0 => zb1 cs sub n | _ => .fail)
   | some (.arr _ L) => (match zaQ L idx with | some cs => zb1 cs sub n | none => .fail)
   | some (.vec _ L) => .ex (fun (e : ULift (List PV)) => L[idx]? = some e.down) fun e => zb1 (zkp e.down) sub n
   | _ => .fail
 | .rp cs sub => zb1 (zkp cs) sub n
 | _ => .fail
def znG (n : Option Nat) (p v : SV) : RT :=
 match v.cells with
 | none => .fail
 | some [] => .fail
 | some (v0 :: vs0) => let vs := v0 :: vs0; match (match n with | none => Nat.beq vs.length 1 | some n => Nat.beq vs.length n) with
   | false => .fail
   | true => match p with
     | .ptr id idx sub => .rO id fun o => match o with
       | some (.row cs) => (match idx with
         | 0 => (match zdA cs sub vs with | some r => .done none [(id, some (.row r))] 0 | none => .fail)
         | _ => .fail)
       | some (.arr s L) => (match zaQ L idx with
         | some cs => (match zdA cs sub vs with | some r => .done none [(id, some (.arr s (zi6 L idx r)))] 0 | none => .fail)
         | none => .fail)
       | some (.vec s L) => (match pvs vs with
         | none => .fail
         | some ps => .ex (fun (e : ULift (List PV)) => L[idx]? = some e.down) fun e =>
           match zdA e.down sub ps with | some r => .done none [(id, some (.vec s (L.set idx r)))] 0 | none => .fail)
       | _ => .fail
     | _ => .fail
def zgi : SV -> Option (List SV)
 | .agg l => some l
 | s => match s.one with | true => some [s] | false => none
def zer (op : BinOp) (k : IntKind) (x y : Int) : Int :=
 let a := BitVec.ofInt k.bits x
 let b := BitVec.ofInt k.bits y
 match op with
 | .and => k.wrap ((a &&& b).toNat : Int)
 | .or => k.wrap ((a ||| b).toNat : Int)
 | .xor => k.wrap ((a ^^^ b).toNat : Int)
 | _ => k.wrap ((a &&& ~~~b).toNat : Int)
def zeG (k : IntKind) (n : Int) : RT := .ex (fun (z : ULift Int) => z.down = k.wrap n) fun z => match z with | ⟨n⟩ => zaC (.int k n)
def zvx (op : BinOp) (k k' : IntKind) (x y : Int) : RT :=
 match op with
 | .shl => .req (0 <= y) (zeG k (x * 2 ^ (min y.toNat k.bits)))
 | .shr => .req (0 <= y) (zaC (.int k (x.fdiv (2 ^ (min y.toNat k.bits)))))
 | op => match zey k k' with
   | false => .fail
   | true => match op with
     | .add => zeG k (x + y)
     | .sub => zeG k (x - y)
     | .mul => zeG k (x * y)
     | .quo => .req (y ≠ 0) (zeG k (x.tdiv y))
     | .rem => .req (y ≠ 0) (zaC (.int k (x.tmod y)))
     | .and => zaC (.int k (zer .and k x y))
     | .or => zaC (.int k (zer .or k x y))
     | .xor => zaC (.int k (zer .xor k x y))
     | .andNot => zaC (.int k (zer .andNot k x y))
     | _ => .fail
def zsp (op : BinOp) (x y : Int) : RT :=
 match op with
 | .eql => zaC (.pr (x = y))
 | .neq => zaC (.pr (¬ x = y))
 | .lss => zaC (.pr (x < y))
 | .leq => zaC (.pr (x <= y))
 | .gtr => zaC (.pr (y < x))
 | .geq => zaC (.pr (y <= x))
 | _ => .fail
def zl9 (n : Int) (f : Int -> RT) : RT := match n with | .ofNat 0 => f 0 | .ofNat (m + 1) => f (.ofNat (m + 1)) | .negSucc m => f (.negSucc m)
def zsG (op : BinOp) (x y : Int) : RT :=
 match op with
 | .add => zl9 (IntKind.i64.wrap (x + y)) fun n => zaC (.int .i64 n)
 | .sub => zl9 (IntKind.i64.wrap (x - y)) fun n => zaC (.int .i64 n)
 | .mul => zl9 (IntKind.i64.wrap (x * y)) fun n => zaC (.int .i64 n)
 | _ => .fail
def zgR (b : Bool) : RT := match b with | true => zaC .tt | false => zaC .ff
def zo3 (op : BinOp) (x y : Int) : RT :=
 match op with
 | .eql => zgR (decide (x = y))
 | .neq => zgR (decide (¬ x = y))
 | .lss => zgR (decide (x < y))
 | .leq => zgR (decide (x <= y))
 | .gtr => zgR (decide (y < x))
 | .geq => zgR (decide (y <= x))
 | _ => .fail
def zjJ : SV -> Option SV
 | .tt => some .ff
 | .ff => some .tt
 | .bool b => some (.bool (!b))
 | .pr p => some (.pr (¬ p))
 | _ => none
def zsy (neg : Bool) (a b : SV) : Option SV :=
 match a, b with
 | .tt, b => (match neg with | false => (match b.prop with | some _ => some b | none => none) | true => zjJ b)
 | .ff, b => (match neg with | true => (match b.prop with | some _ => some b | none => none) | false => zjJ b)
 | a, b => match a.prop, b.prop with
   | some p, some q => (match neg with | false => some (.pr (p ↔ q)) | true => some (.pr (¬ (p ↔ q))))
   | _, _ => none
def zgm : List SK -> List SV -> List SV -> Option Prop
 | [], x, y => (match x, y with | [], [] => some True | _, _ => none)
 | k :: ks, x, y => match x, y with
   | a :: xs, b :: ys => match zgm ks xs ys with
     | none => none
     | some r => match k with
       | .int k => (match a, b with
         | .int k1 n, .int k2 m => (match zey k k1 with | false => none | true => match zey k k2 with | false => none | true => some (n = m /\ r))
         | _, _ => none)
       | .bool => (match a.prop, b.prop with | some p, some q => some ((p ↔ q) /\ r) | _, _ => none)
       | .str => (match a, b with | .str s, .str t => some (s = t /\ r) | _, _ => none)
   | _, _ => none
def zhv (cs : List SV) : List (Nat × Nat × SV) -> Option (List SV)
 | [] => some cs
 | (off, n, v) :: r => match zgi v with
   | none => none
   | some [] => none
   | some (l0 :: ls) => let l := l0 :: ls; match Nat.beq l.length n with
     | false => none
     | true => match zdA cs off l with | none => none | some cs => zhv cs r
def Ps.rd : List (Nat × Nat × X) -> (List (Nat × Nat × SV) -> RT) -> RT
 | [], f => f []
 | (a, b, x) :: xs, f => x.rd E fun v => Ps.rd xs fun vs => f ((a, b, v) :: vs)
def zfM (z : List SV) : Nat -> List (List SV)
 | 0 => []
 | n + 1 => z :: zfM z n
def zfB (s : Nat) (L : List (List SV)) : List (Nat × Nat × SV) -> Option (List (List SV))
 | [] => some L
 | (i, _, v) :: r => match v.cells with
   | none => none
   | some [] => none
   | some (l0 :: ls) => let l := l0 :: ls; match Nat.beq l.length s with
     | false => none
     | true => match zaQ L i with | none => none | some _ => zfB s (zi6 L i l) r
abbrev zai := List (List SV) ⊕ List (List PV)
def zai.len : zai -> Nat
 | .inl L => L.length
 | .inr L => L.length
def zai.so (s : Nat) : zai -> SO
 | .inl L => .arr s L
 | .inr L => .vec s L
def zcB : zai -> zai -> Option zai
 | .inr L, .inr M => some (.inr (L ++ M))
 | .inr L, .inl M => (match ze7 M with
   | some M => some (.inr (L ++ M))
   | none => (match L with | [] => some (.inl M) | _ => none))
 | .inl L, .inl M => some (.inl (L ++ M))
 | .inl [], .inr M => some (.inr M)
 | _, _ => none
def zlN (s : Nat) (y : SV) (f : zai -> RT) : RT :=
 match y with
 | .slc id st len => .rO id fun o => match o with
   | some (.arr s' L) => (match zlw L with | true => eqN s s' (.req (st = 0 /\ len = L.length) (f (.inl L))) | false => .fail)
   | some (.vec s' L) => eqN s s' (.req (st + len <= L.length) (f (.inr ((L.drop st).take len))))
   | _ => .fail
 | .rd (.sl s' L) => .req (s = s') (f (.inr L))
 | .val (.slice (some _) n _) => .req (n = 0) (f (.inr []))
 | .val v => .req (v = .slice none 0 0) (f (.inr []))
 | _ => .fail
def zh3 (s by_ fresh : Nat) (os : List (Nat × Option SO)) (old new : zai) : RT :=
 match zcB old new with
 | some r => .req ((old.len + new.len) * by_ <= 2 ^ 46) (.done (some (.slc fresh 0 (old.len + new.len))) (os ++ [(fresh, some (r.so s))]) 1)
 | none => .fail
def zsk (s by_ fresh : Nat) (x y : SV) : RT :=
 zlN s y fun new => match x with
  | .slc id st len => .rO id fun o => match o with
    | some (.vec s' L) => eqN s s' (.req (st = 0 /\ len = L.length) (zh3 s by_ fresh [(id, none)] (.inr L) new))
    | some (.arr s' L) => eqN s s' (.req (st = 0 /\ len = L.length) (zh3 s by_ fresh [(id, none)] (.inl L) new))
    | _ => .fail
  | .slx id st len => .rO id fun o => match o with
    | some (.vec s' L) => eqN s s' (.req (st + len <= L.length /\ 0 < new.len) (zh3 s by_ fresh [] (.inr ((L.drop st).take len)) new))
    | _ => .fail
  | .val v => .req (v = .slice none 0 0) (zh3 s by_ fresh [] (.inr []) new)
  | _ => .fail
def zcm (x : Option SV) (d : Int) (f : Int -> RT) : RT :=
 match x with
 | none => f d
 | some (.int _ n) => f n
 | some _ => .fail
def zsT (s : Nat) (x : SV) (lo hi : Option SV) : RT :=
 match x with
 | .slc id b0 ln => .rO id fun o => match o with
   | some (.vec s' _) => eqN s s' (zcm lo 0 fun l => zcm hi ln fun h => .req (0 <= l /\ l <= h /\ h <= ln) (zaC (.slc id (b0 + l.toNat) (h.toNat - l.toNat))))
   | some (.arr s' _) => eqN s s' (zcm lo 0 fun l => zcm hi ln fun h => .req (0 <= l /\ l <= h /\ h <= ln) (zaC (.slc id (b0 + l.toNat) (h.toNat - l.toNat))))
   | _ => .fail
 | .rd (.sl s' L) => zcm lo 0 fun l => zcm hi L.length fun h => .req (s = s' /\ 0 <= l /\ l <= h /\ h <= L.length) (zaC (.rd (.sl s ((L.drop l.toNat).take (h.toNat - l.toNat)))))
 | .val v => zcm lo 0 fun l => zcm hi ((0 : Nat) : Int) fun h => .req (v = .slice none 0 0 /\ l = 0 /\ h = 0) (zaC (.val (.slice none 0 0)))
 | _ => .fail
def Ren.toF (ρ : Ren) (m fresh : Nat) (i : Nat) : Nat :=
 match Nat.blt i m with
 | true => (match zav i ρ.m with | some (some j) => j | _ => 0)
 | false => fresh + (i - m)
def zgP (ρ : Ren) : Nat -> Bool
 | 0 => true
 | i + 1 => match zav i ρ.m with | some (some _) => zgP ρ i | _ => false
def zc7 (σ : Nat -> Nat) : List (Option SO) -> Nat -> List (Nat × Option SO)
 | [], _ => []
 | none :: l, i => (σ i, none) :: zc7 σ l (i + 1)
 | some o :: l, i => (σ i, some (o.ren σ)) :: zc7 σ l (i + 1)
def zeB (σ : Nat -> Nat) : List SO -> Nat -> List (Nat × Option SO)
 | [], _ => []
 | o :: l, i => (σ i, some (o.ren σ)) :: zeB σ l (i + 1)
def zbm {α : Type _} : List α -> Nat -> List (Nat × α)
 | [], _ => []
 | a :: l, i => (i, a) :: zbm l (i + 1)
def zfH (ρ : Ren) : List Nat -> Bool
 | [] => true
 | j :: l => match ρ.m.all (fun p => match p.2 with | none => true | some q => !Nat.beq q j) with | true => zfH ρ l | false => false
def zgq (m : Nat) : List (Nat × Option Nat) -> Bool
 | [] => true
 | (i, _) :: l => match Nat.blt i m with | true => zgq m l | false => false
def zh6 (S : zct) (f : FuncId) (args : List SV) (fresh : Nat) : RT :=
 S f args fun L => zfG ⟨[], []⟩ L.args args fun ρ => zfX ρ (zbm L.foot 0) fun ρ =>
  match zgP ρ L.foot.length, zfH ρ ρ.bor, zgq L.foot.length ρ.m with
  | true, true, true =>
    let σ := ρ.toF L.foot.length fresh
    let fin : RT := .done (some (L.res.ren σ)) (zc7 σ L.out 0 ++ zeB σ L.new L.foot.length) L.new.length
    (match ρ.bor with | [] => fin | _ => .req L.flat fin)
  | _, _, _ => .fail
def zvH (f : FuncId) (args : List SV) (fresh : Nat) : RT := zh6 E.S f args fresh
def zls (S : zct) (f : X) (xs : List X) (fresh : Nat) : RT := f.rd E fun f => Xs.rd E xs fun vs => match f with
 | .fn (.func n) a c => zh6 S n (a ++ vs ++ c) fresh
 | _ => .fail
def zdj (M : zaj) (one : Bool) (ks : List SK) (k : SV) (f : M.κ -> RT) : RT :=
 .req (M.one = one /\ M.ks = ks) (.ex (fun (_ : ULift M.κ) => True) fun key => match key with | ⟨key⟩ => mSV ⟨[], []⟩ (zaS M.one (M.ek key)) k fun _ => f key)
def zas (M : zaj) (k : M.κ) : List (M.κ × M.ν) -> Option M.ν
 | [] => none
 | (j, v) :: r => match M.deq j k with | isTrue _ => some v | isFalse _ => zas M k r
def zan (M : zaj) (k : M.κ) (v : M.ν) : List (M.κ × M.ν) -> List (M.κ × M.ν)
 | [] => [(k, v)]
 | (j, u) :: r => match M.deq j k with | isTrue _ => (j, v) :: r | isFalse _ => (j, u) :: zan M k v r
def zaO (M : zaj) (k : M.κ) : List (M.κ × M.ν) -> List (M.κ × M.ν)
 | [] => []
 | (j, u) :: r => match M.deq j k with | isTrue _ => r | isFalse _ => (j, u) :: zaO M k r
def zaB (M : zaj) (k : M.κ) : List M.κ -> List M.κ
 | [] => []
 | j :: r => match M.deq j k with | isTrue _ => zaB M k r | isFalse _ => j :: zaB M k r
def zom (M : zaj) (k : M.κ) : Option (Nat × List M.κ × Option M.κ) -> Option (Nat × List M.κ × Option M.κ)
 | none => none
 | some (r, l, _) => some (r, zaB M k l, none)
def zaf (M : zaj) (k : M.κ) (es : List (M.κ × M.ν)) : M.ν := (zas M k es).getD M.d
def ze1 {κ : Type} (h : Option (κ × Nat × Option Nat)) (key : κ) : Prop := ∀ k j g, h = some (k, j, g) -> k = key
def zdb (id : Nat) (M : zaj) (sub : M.ν -> Sub) (es : List (M.κ × M.ν)) (key : M.κ) (v : SV) : RT :=
 match v with
 | .slc j st n => .rO j fun o => match o with
   | some (.vec s L) => .ex (fun (_ : ULift M.ν) => True) fun x => match x with | ⟨x⟩ => .req (sub x = .vec s L /\ st = 0 /\ n = L.length) (.done none [(id, some (.fam M sub (zan M key x es) none)), (j, none)] 0)
   | _ => .fail
 | .mp j => .rO j fun o => match o with
   | some (.map M' es' it) => (match it with
     | none => .ex (fun (_ : ULift M.ν) => True) fun x => match x with | ⟨x⟩ => .req (sub x = .map M' es') (.done none [(id, some (.fam M sub (zan M key x es) none)), (j, none)] 0)
     | some _ => .fail)
   | _ => .fail
 | _ => .fail
def zoq {α β : Type} (v : SV) (es : List α) (it : Option β) (id : Nat) : Bool :=
 match v with
 | .mp j => (match es with
   | [] => (match it with
     | none => (match Nat.beq j id with | true => false | false => true)
     | some _ => false)
   | _ :: _ => false)
 | _ => false
def zjw (mx : Bool) (k : IntKind) (a : Int) : List SV -> RT
 | [] => zaC (.int k a)
 | v :: l => match v with
   | .int _ b => zjw mx k (match mx with | true => max a b | false => min a b) l
   | _ => .fail
def zl4 (s : Nat) (y : SV) (f : List (List PV) -> RT) : RT :=
 match y with
 | .slc id st len => .rO id fun o => match o with
   | some (.vec s' L) => eqN s s' (.req (st + len <= L.length) (f ((L.drop st).take len)))
   | _ => .fail
 | .rd (.sl s' L) => .req (s = s') (f L)
 | _ => .fail
def MO.rt (fresh : Nat) : MO -> RT
 | .mm mx x ys => x.rd E fun a => Xs.rd E ys fun l => match a with
   | .int k a => zjw mx k a l
   | _ => .fail
 | .mks s by_ z n c => n.rd E fun n => c.rd E fun c => match n, c with
   | .int _ n, .int _ c => .req (n = c /\ 0 <= n /\ n * by_ <= 2 ^ 46) (.done (some (.slc fresh 0 n.toNat)) [(fresh, some (.vec s (List.replicate n.toNat z)))] 1)
   | _, _ => .fail
 | .clr s z x => x.rd E fun v => match v with
   | .slc id b0 ln => .rO id fun o => match o with
     | some (.vec s' L) => eqN s s' (.req (b0 + ln <= L.length) (.done (some (.tup [])) [(id, some (.vec s' (L.take b0 ++ List.replicate ln z ++ L.drop (b0 + ln))))] 0))
     | _ => .fail
   | _ => .fail
 | .ixs x i => x.rd E fun v => i.rd E fun i => match v, i with
   | .str s, .int _ i => .req (0 <= i /\ i < s.size) (zaC (.int .u8 ((s[i.toNat]?).getD 0).toNat))
   | _, _ => .fail
 | .eqt neg x y => x.rd E fun a => y.rd E fun b => match a, b with
   | .str a, .str b => (match neg with | false => zaC (.pr (a = b)) | true => zaC (.pr (¬ a = b)))
   | _, _ => .fail
 | .nils neg x => x.rd E fun a => match a with
   | .slc _ _ n => .req (n ≠ 0) (zaC (match neg with | false => .ff | true => .tt))
   | .rd (.sl _ L) => .req (L ≠ []) (zaC (match neg with | false => .ff | true => .tt))
   | .val (.slice (some _) _ _) => zaC (match neg with | false => .ff | true => .tt)
   | .val v => .req (v = .slice none 0 0) (zaC (match neg with | false => .tt | true => .ff))
   | _ => .fail
 | .mv x => x.rd E zaC
 | .pick c a b => c.rd E fun c => match c with
   | .tt => a.rd E zaC
   | .ff => b.rd E zaC
   | .bool q => .split (q = true) (a.rd E zaC) (b.rd E zaC)
   | .pr p => .split p (a.rd E zaC) (b.rd E zaC)
   | _ => .fail
 | .box x => x.rd E fun v => match zgi v with
   | some l => .done (some (.ptr fresh 0 0)) [(fresh, some (.row l))] 1
   | none => .fail
 | .alloc z => .done (some (.ptr fresh 0 0)) [(fresh, some (.row z))] 1
 | .ld n x => x.rd E (zpt n)
 | .st n a x => a.rd E fun p => x.rd E fun v => znG n p v
 | .nchk x => x.rd E fun v => match v with
   | .ptr _ _ _ => zaC v
   | .rp _ _ => zaC v
   | .ra _ _ => zaC v
   | .fn (.func f) a c => zaC (.fn (.func f) a c)
   | .fn (.yield f) a c => zaC (.fn (.yield f) a c)
   | _ => .fail
 | .fld off x => x.rd E fun v => match v with
   | .ptr id idx sub => zaC (.ptr id idx (sub + off))
   | .rp cs sub => zaC (.rp cs (sub + off))
   | _ => .fail
 | .fldv off n x => x.rd E fun v => match v with
   | .agg cs => zb1 cs off n
   | _ => .fail
 | .ixa s x i => x.rd E fun v => i.rd E fun i => match i with
   | .int _ i => (match v with
     | .slc id b0 ln => .rO id fun o => match o with
       | some (.vec s' _) => eqN s s' (.req (0 <= i /\ i < ln) (zaC (.ptr id (b0 + i.toNat) 0)))
       | some (.arr s' _) => eqN s s' (.req (0 <= i /\ i < ln) (zaC (.ptr id (b0 + i.toNat) 0)))
       | _ => .fail
     | .rd (.sl s' L) => .ex (fun (e : ULift (List PV)) => s = s' /\ 0 <= i /\ L[i.toNat]? = some e.down) fun e => zaC (.rp e.down 0)
     | _ => .fail)
   | _ => .fail
 | .ixr ln s x i => x.rd E fun v => i.rd E fun i => match i with
   | .int _ i => (match v with
     | .ptr id idx sub => .req (0 <= i /\ i < ln) (zaC (.ptr id idx (sub + i.toNat * s)))
     | .rp cs sub => .req (0 <= i /\ i < ln) (zaC (.rp cs (sub + i.toNat * s)))
     | .ra s' L => .ex (fun (e : ULift (List PV)) => s = s' /\ 0 <= i /\ i < ln /\ L[i.toNat]? = some e.down) fun e => zaC (.rp e.down 0)
     | _ => .fail)
   | _ => .fail
 | .ixv ln s n x i => x.rd E fun v => i.rd E fun i => match i with
   | .int _ i => (match v with
     | .agg cs => .req (0 <= i /\ i < ln) (zb1 cs (i.toNat * s) n)
     | _ => .fail)
   | _ => .fail
 | .ar op x y => x.rd E fun a => y.rd E fun b => match a, b with
   | .int k a, .int k' b => zvx op k k' a b
   | _, _ => .fail
 | .arl op x y => x.rd E fun a => y.rd E fun b => match a, b with
   | .int .i64 a, .int .i64 b => zsG op a b
   | _, _ => .fail
 | .cmpl op x y => x.rd E fun a => y.rd E fun b => match a, b with
   | .int k a, .int k' b => (match zey k k' with | true => zo3 op a b | false => .fail)
   | _, _ => .fail
 | .cmp op x y => x.rd E fun a => y.rd E fun b => match a, b with
   | .int k a, .int k' b => (match zey k k' with | true => zsp op a b | false => .fail)
   | _, _ => .fail
 | .eqb neg x y => x.rd E fun a => y.rd E fun b => match zsy neg a b with
   | some s => zaC s
   | none => .fail
 | .eqs ks neg x y => x.rd E fun a => y.rd E fun b => match a, b with
   | .agg xs, .agg ys => (match zgm ks xs ys with
     | some p => (match neg with | false => zaC (.pr p) | true => zaC (.pr (¬ p)))
     | none => .fail)
   | _, _ => .fail
 | .not x => x.rd E fun a => match zjJ a with
   | some s => zaC s
   | none => .fail
 | .un op x => x.rd E fun a => match a with
   | .int k n => (match op with
     | .neg => zeG k (0 - n)
     | .xor => zaC (.int k (zer .xor k (if k.signed then -1 else k.max) n))
     | _ => .fail)
   | _ => .fail
 | .cv k x => x.rd E fun a => match a with
   | .int _ n => zeG k n
   | _ => .fail
 | .bld z ps => Ps.rd E ps fun vs => match zhv z vs with
   | some cs => zaC (.agg cs)
   | none => .fail
 | .bsl s ln z ps => Ps.rd E (ps.map fun p => (p.1, 0, p.2)) fun vs => match zfB s (zfM z ln) vs with
   | some L => .done (some (.slc fresh 0 ln)) [(fresh, some (.arr s L))] 1
   | none => .fail
 | .appz s by_ x y => x.rd E fun a => y.rd E fun b => match a, b with
   | .val v, .int _ n => .req (v = .slice none 0 0 /\ 0 < n /\ n * by_ <= 2 ^ 46) (.done (some (.slc fresh 0 n.toNat)) [(fresh, some (.vec s []))] 1)
   | _, _ => .fail
 | .cpy s x y => x.rd E fun a => y.rd E fun b => zl4 s b fun M => match a with
   | .slc id b0 ln => .rO id fun o => match o with
     | some (.vec s' L) => eqN s s' (.req (b0 + min ln M.length <= L.length) (.done (some (.int .i64 ((min ln M.length : Nat) : Int))) [(id, some (.vec s' (L.take b0 ++ M.take ln ++ L.drop (b0 + min ln M.length))))] 0))
     | _ => .fail
   | _ => .fail
 | .capN x => x.rd E fun a => match a with
   | .val v => .req (v = .slice none 0 0) (zaC (.int .i64 0))
   | _ => .fail
 | .lenS x => x.rd E fun a => match a with
   | .slc _ _ n => zaC (.int .i64 n)
   | .rd (.sl _ L) => zaC (.int .i64 L.length)
   | .val v => .req (v = .slice none 0 0) (zaC (.int .i64 0))
   | _ => .fail
 | .lenT x => x.rd E fun a => match a with
   | .str s => zaC (.int .i64 s.size)
   | _ => .fail
 | .lenM x => x.rd E fun a => match a with
   | .mp id => .rO id fun o => match o with
     | some (.map _ es _) => zaC (.int .i64 es.length)
     | _ => .fail
   | _ => .fail
 | .app s by_ x y => x.rd E fun a => y.rd E fun b => zsk s by_ fresh a b
 | .sls s x lo hi => x.rd E fun v =>
   (match lo with | none => fun (f : Option SV -> RT) => f none | some lo => fun f => lo.rd E fun l => f (some l)) fun lo =>
   (match hi with | none => fun (f : Option SV -> RT) => f none | some hi => fun f => hi.rd E fun l => f (some l)) fun hi => zsT s v lo hi
 | .ext i x => x.rd E fun v => match v with
   | .tup vs => (match zaQ vs i with | some s => zaC s | none => .fail)
   | _ => .fail
 | .mkf f a c => Xs.rd E a fun a => Xs.rd E c fun c => zaC (.fn f a c)
 | .mki t x => x.rd E fun v => zaC (.ifc t v)
 | .call f xs => f.rd E fun f => Xs.rd E xs fun vs => match f with
   | .fn (.func n) a c => zvH E n (a ++ vs ++ c) fresh
   | _ => .fail
 | .mkm => .ex (fun (_ : zaj) => True) fun M => .done (some (.mp fresh)) [(fresh, some (.map M [] none))] 1
 | .lkp ok one ks zo z m k => m.rd E fun m => k.rd E fun k => match m with
   | .mp id => .rO id fun o => match o with
     | some (.map M es _) => zdj M one ks k fun key => .req (M.vone = zo /\ M.ev M.d = z)
      (match ok with
      | false => zaC (zaS M.vone (M.ev (zaf M key es)))
      | true => zaC (.tup [zaS M.vone (M.ev (zaf M key es)), .bool (zas M key es).isSome]))
     | some (.fam M sub es h) => (match h, ok with
       | none, false => zdj M one ks k fun key => (match sub (zaf M key es) with
         | .vec s L => .req ((zas M key es).isSome = true \/ (L = [] /\ z = [.sl s []])) (.done (some (.slc fresh 0 L.length)) [(id, some (.fam M sub es (some (key, fresh, none)))), (fresh, some (.vec s L))] 1)
         | .map M' es' => .req ((zas M key es).isSome = true) (.done (some (.mp fresh)) [(id, some (.fam M sub es (some (key, fresh, none)))), (fresh, some (.map M' es' none))] 1))
       | _, _ => .fail)
     | _ => .fail
   | _ => .fail
 | .mup one ks m k v => m.rd E fun m => k.rd E fun k => v.rd E fun v => match m with
   | .mp id => .rO id fun o => match o with
     | some (.map M es it) => (match zoq v es it id with
       | true => zdj M one ks k fun key => .ex (fun (_ : M.ν -> Sub) => True) fun sub => zdb id M sub [] key v
       | false => zdj M one ks k fun key => .ex (fun (_ : ULift M.ν) => True) fun x => match x with | ⟨x⟩ => mSV ⟨[], []⟩ (zaS M.vone (M.ev x)) v fun ρ =>
       (match ρ.bor with | [] => .done none [(id, some (.map M (zan M key x es) none))] 0 | _ => .fail))
     | some (.fam M sub es h) => zdj M one ks k fun key => .req (ze1 h key) (zdb id M sub es key v)
     | _ => .fail
   | _ => .fail
 | .ment one ks zo z m k => m.rd E fun m => k.rd E fun k => match m with
   | .mp id => .rO id fun o => match o with
     | some (.map M es _) => zdj M one ks k fun key => .req (M.vone = zo /\ M.ev M.d = z)
      (.done (some (.tup [zaS M.vone (M.ev (zaf M key es)), .gn fresh])) [(id, some (.mapE M (zan M key (zaf M key es) es) key fresh))] 1)
     | some (.fam M sub es h) => (match h with
       | none => zdj M one ks k fun key => (match sub (zaf M key es) with
         | .vec s L => .req ((zas M key es).isSome = true \/ (L = [] /\ z = [.sl s []]))
          (.done (some (.tup [.slc fresh 0 L.length, .gn (fresh + 1)])) [(id, some (.fam M sub (zan M key (zaf M key es) es) (some (key, fresh, some (fresh + 1))))), (fresh, some (.vec s L))] 2)
         | .map _ _ => .fail)
       | some _ => .fail)
     | _ => .fail
   | _ => .fail
 | .mest m g0 v => m.rd E fun m => g0.rd E fun g0 => v.rd E fun v => match m, g0 with
   | .mp id, .gn g => .rO id fun o => match o with
     | some (.mapE M es key g') => eqN g g' (.ex (fun (_ : ULift M.ν) => True) fun x => match x with | ⟨x⟩ => mSV ⟨[], []⟩ (zaS M.vone (M.ev x)) v fun ρ =>
       (match ρ.bor with | [] => .done none [(id, some (.map M (zan M key x es) none))] 0 | _ => .fail))
     | some (.fam M sub es h) => (match h with
       | some (key, _, some g') => eqN g g' (.req ((zas M key es).isSome = true) (zdb id M sub es key v))
       | _ => .fail)
     | _ => .fail
   | _, _ => .fail
 | .sls3 s x hi mx => x.rd E fun v => hi.rd E fun h => mx.rd E fun m => match v with
   | .slc id b0 ln => (match h with
     | .int _ h => (match m with
       | .int _ m => .rO id fun o => (match o with
         | some (.vec s' _) => eqN s s' (.req (h = m /\ 0 < h /\ h <= ln) (zaC (.slx id b0 h.toNat)))
         | _ => .fail)
       | _ => .fail)
     | _ => .fail)
   | _ => .fail
 | .mdel one ks m k => m.rd E fun m => k.rd E fun k => match m with
   | .mp id => .rO id fun o => match o with
     | some (.map M es it) => zdj M one ks k fun key => .done (some (.tup [])) [(id, some (.map M (zaO M key es) (zom M key it)))] 0
     | _ => .fail
   | _ => .fail
 | .rngm x => x.rd E fun v => match v with
   | .mp id => .rO id fun o => match o with
     | some (.map M es _) => .done (some (.ptr fresh 0 0)) [(id, some (.map M es (some (fresh, es.map Prod.fst, none)))), (fresh, some (.itr id))] 1
     | _ => .fail
   | _ => .fail
 | .ent x => x.rd E fun v => match v with
   | .ptr rid idx sub => .rO rid fun o => match o with
     | some (.itr id) => .rO id fun o => match o with
       | some (.map M es it) => (match it with
         | some (rid', _, cur) => (match cur with
           | some k => eqN rid rid' (.req (idx = 0 /\ sub = 0) (zaC (.tup [zaS M.one (M.ek k), zaS M.vone (M.ev (zaf M k es))])))
           | none => .fail)
         | none => .fail)
       | _ => .fail
     | _ => .fail
   | _ => .fail
 | .nxt _ => .fail
 | .pnc _ => .fail
 | .pcall _ _ => .fail
end rt
def zb5 (n : Nat) (K : Nat -> Prop) : Prop := match n with | 0 => K 0 | m + 1 => K (m + 1)
mutual
def fSV : SV -> (SV -> Prop) -> Prop
 | .ptr i a b, K => zb5 i fun i => zb5 b fun b => K (.ptr i a b)
 | .slc i a n, K => zb5 i fun i => K (.slc i a n)
 | .slx i a n, K => zb5 i fun i => K (.slx i a n)
 | .gn i, K => zb5 i fun i => K (.gn i)
 | .fex p, K => K (.fex p)
 | .mp i, K => zb5 i fun i => K (.mp i)
 | .fn f a c, K => zga a fun a => zga c fun c => K (.fn f a c)
 | .ifc t x, K => fSV x fun x => K (.ifc t x)
 | .agg cs, K => zga cs fun cs => K (.agg cs)
 | .tup cs, K => zga cs fun cs => K (.tup cs)
 | .any, K => K .any
 | .int k n, K => K (.int k n)
 | .bool b, K => K (.bool b)
 | .pr p, K => K (.pr p)
 | .tt, K => K .tt
 | .ff, K => K .ff
 | .str s, K => K (.str s)
 | .val v, K => K (.val v)
 | .rd p, K => K (.rd p)
 | .rp cs sub, K => zb5 sub fun sub => K (.rp cs sub)
 | .ra s L, K => K (.ra s L)
def zga : List SV -> (List SV -> Prop) -> Prop
 | [], K => K []
 | s :: l, K => fSV s fun s => zga l fun l => K (s :: l)
end
def zlt : List (List SV) -> (List (List SV) -> Prop) -> Prop
 | [], K => K []
 | s :: l, K => zga s fun s => zlt l fun l => K (s :: l)
def fSO : SO -> (SO -> Prop) -> Prop
 | .row cs, K => zga cs fun cs => K (.row cs)
 | .vec s L, K => K (.vec s L)
 | .arr s L, K => zlt L fun L => K (.arr s L)
 | .map M es it, K => match it with | none => K (.map M es none) | some (r, l, c) => zb5 r fun r => match c with | none => K (.map M es (some (r, l, none))) | some c => K (.map M es (some (r, l, some c)))
 | .itr i, K => zb5 i fun i => K (.itr i)
 | .lrec l r e, K => match e with | .ready => K (.lrec l r .ready) | .busy => K (.lrec l r .busy) | .done j => K (.lrec l r (.done j)) | .over p => K (.lrec l r (.over p))
 | .vex s p, K => K (.vex s p)
 | .mapE M es k g, K => zb5 g fun g => K (.mapE M es k g)
 | .fam M sub es h, K => match h with | none => K (.fam M sub es none) | some (k, j, g) => zb5 j fun j => match g with | none => K (.fam M sub es (some (k, j, none))) | some g => zb5 g fun g => K (.fam M sub es (some (k, j, some g)))
def fOs : List (Nat × Option SO) -> (List (Nat × Option SO) -> Prop) -> Prop
 | [], K => K []
 | (i, none) :: l, K => zb5 i fun i => fOs l fun l => K ((i, none) :: l)
 | (i, some o) :: l, K => zb5 i fun i => fSO o fun o => fOs l fun l => K ((i, some o) :: l)
def zaM (l : List (Nat × SV)) : GT := fun n => zav n l
def zax (l : List (Nat × Option SO)) : GO := fun n => match zav n l with | some o => o | none => none
def zeR (l : List (Nat × Option SO)) : List (Nat × Option SO) -> List (Nat × Option SO)
 | [] => l
 | p :: r => zeR (p :: l) r
def zrl {α : Type _} (l : List α) (K : List α -> Prop) : Prop := match l with | [] => K [] | a :: r => K (a :: r)
def zht (N : Nat) (op : MOp) (s : St) (v : Option SV) (os : List (Nat × Option SO)) (k : Nat) (K : St -> Prop) : Prop :=
 match s with
 | ⟨t, o, nx⟩ => fOs os fun os => zrl (zeR o os) fun o => zb5 (nx + k) fun nx =>
   match op.d, v with
   | none, _ => K ⟨t, o, nx⟩
   | some _, none => False
   | some d, some v => match Nat.blt d N with
     | false => False
     | true => fSV v fun v => match op.sp with
       | false => K ⟨(d, v) :: t, o, nx⟩
       | true => match v with
         | .bool b => (b = true -> K ⟨(d, .tt) :: t, o, nx⟩) /\ (b = false -> K ⟨(d, .ff) :: t, o, nx⟩)
         | .pr p => (p -> K ⟨(d, .tt) :: t, o, nx⟩) /\ (¬ p -> K ⟨(d, .ff) :: t, o, nx⟩)
         | v => K ⟨(d, v) :: t, o, nx⟩
def zhW (N : Nat) (op : MOp) (s : St) (K : St -> Prop) : Prop :=
 match s with
 | ⟨t, o, nx⟩ => match op.d with
   | none => K ⟨t, o, nx⟩
   | some d => match Nat.blt d N with | true => K ⟨(d, .val undef) :: t, o, nx⟩ | false => False
def zkm (E : Env) (op : MOp) (s : St) (K : St -> Prop) : Prop :=
 match s with
 | ⟨t, o, nx⟩ => match op.g with
   | none => (op.m.rt E nx).vc (zaM t) (zax o) [] fun _ v os k => zht E.N op ⟨t, o, nx⟩ v os k K
   | some (g, want) => match zav g t with
     | some .tt => (match want with | true => (op.m.rt E nx).vc (zaM t) (zax o) [] fun _ v os k => zht E.N op ⟨t, o, nx⟩ v os k K | false => zhW E.N op ⟨t, o, nx⟩ K)
     | some .ff => (match want with | false => (op.m.rt E nx).vc (zaM t) (zax o) [] fun _ v os k => zht E.N op ⟨t, o, nx⟩ v os k K | true => zhW E.N op ⟨t, o, nx⟩ K)
     | some (.val v) => (match v with | .tuple _ => zhW E.N op ⟨t, o, nx⟩ K | _ => False)
     | _ => False
def fTs : List (Nat × SV) -> (List (Nat × SV) -> Prop) -> Prop
 | [], K => K []
 | (i, v) :: l, K => zb5 i fun i => fSV v fun v => fTs l fun l => K ((i, v) :: l)
end Go.Sx
namespace Go.Sx
open Go
def Wf (r : Option Nat) : Fence := { Fence.wide with round := r }
def cV1 : Value -> SV
 | .bool true => .tt
 | .bool false => .ff
 | .int k n => .int k n
 | .string s => .str s
 | v => .val v
def cV : Value -> SV
 | .agg cs => .agg (cs.toList.map cV1)
 | .func f a c => .fn f (a.toList.map cV1) (c.toList.map cV1)
 | v => cV1 v
def cX : Operand -> X
 | .tmp t => .t t
 | .const v => .k (cV v)
 | .global g => .g g
 | .func f => .k (.fn (.func f) [] [])
theorem znA {β w S} (v : Value) : rel β w S (cV1 v) v := by
 unfold cV1
 split <;> simp [rel]
theorem zd7 {β w S} : ∀ (l : List Value), zam β w S (l.map cV1) l
 | [] => by simp [zam]
 | v :: l => by simp only [List.map, zam]; exact ⟨v, l, rfl, znA v, zd7 l⟩
theorem zpD {β w S} (v : Value) : rel β w S (cV v) v := by
 unfold cV
 split
 . simp only [rel]; exact ⟨_, rfl, zd7 _⟩
 . simp only [rel]; exact ⟨_, _, rfl, zd7 _, zd7 _⟩
 . exact znA _
section
variable {C : Ctx} {gt : GT} {go : GO} {β : Nat -> Option zay} {own : Nat -> Nat -> Prop} {S : Nat -> Prop} {a : Act} {w : World}
theorem zap {x : Operand} {f : SV -> RT} {R v os k} (h : ((cX x).rd C.toEnv f).Runs gt go R v os k) :
 ∃ s R', (f s).Runs gt go R' v os k /\ ∀ {β own S a w}, zah C gt go β own S a w -> rel β w S s (a.eval x) := by
  cases x with
  | tmp t =>
    simp only [cX, X.rd] at h
    cases h with
    | rT h =>
      cases e : gt t with
      | none => rw [e] at h; cases h
      | some s => rw [e] at h; exact ⟨s, _, h, fun H => H.tm t s e⟩
  | const c =>
    simp only [cX, X.rd] at h
    exact ⟨_, _, h, fun _ => zpD c⟩
  | global g =>
    simp only [cX, X.rd] at h
    cases e : C.G g with
    | none => rw [e] at h; cases h
    | some s => rw [e] at h; exact ⟨s, _, h, fun H => zaH ⟨fun _ _ e => (by cases e), fun _ e => e, fun _ _ => rfl⟩ _ _ (H.gl g s e)⟩
  | func f =>
    simp only [cX, X.rd] at h
    exact ⟨_, _, h, fun _ => by simp [rel, zam, Act.eval]⟩
theorem zgv : ∀ {xs : List Operand} {f : List SV -> RT} {R v os k}, (Xs.rd C.toEnv (xs.map cX) f).Runs gt go R v os k →
 ∃ s R', (f s).Runs gt go R' v os k /\ ∀ {β own S a w}, zah C gt go β own S a w -> zam β w S s (xs.map a.eval)
  | [], f, R, v, os, k, h => ⟨[], _, h, fun _ => by simp [zam]⟩
  | x :: xs, f, R, v, os, k, h => by
    simp only [List.map, Xs.rd] at h
    obtain ⟨s, R1, h1, hr⟩ := zap h
    obtain ⟨ss, R2, h2, hrs⟩ := zgv h1
    exact ⟨s :: ss, R2, h2, fun H => by simp only [List.map, zam]; exact ⟨_, _, rfl, hr H, hrs H⟩⟩
def zfz (d : Option Nat) (v : Option SV) : Option (Nat × SV) :=
 match d, v with
 | some d, some v => some (d, v)
 | _, _ => none
def za0 (go : GO) : List (Nat × Option SO) -> GO
 | [] => go
 | (i, o) :: r => za0 (upd go i o) r
def zaD (C : Ctx) (o : Oper) (fresh : Nat) (gt : GT) (go : GO) (v : Option SV) (os : List (Nat × Option SO)) (k : Nat) : Prop :=
 ∀ β own S a w, zah C gt go β own S a w -> (∀ i, fresh <= i -> i < fresh + k -> β i = none) →
  ∀ (next : Act -> World -> Prop) (Q : Exit -> Act -> World -> Prop),
   (∀ β' own' S' x w', (∀ i, ¬ (fresh <= i /\ i < fresh + k) -> β' i = β i) -> zah C (zbe gt (zfz o.dst v)) (za0 go os) β' own' S' (a.put o.dst x) w' -> next (a.put o.dst x) w') →
   o.wpIn (Wf C.rnd) 0 C.P a w next Q
def zau (C : Ctx) (d : Option Nat) (v : Option SV) : Prop := ∀ t, d = some t -> t < C.N /\ v.isSome
theorem zbU {r : Option Nat} {P : Program} {o : Oper} {a : Act} {w w' : World} {next : Act -> World -> Prop} {Q : Exit -> Act -> World -> Prop} {x : Value}
 (hd : ∀ c, o.op ≠ .defer c) (hr : (execOp a.eval o).run P w = .ok (.value x) w') (h : next (a.put o.dst x) w') : o.wpIn (Wf r) 0 P a w next Q := by
  refine ⟨fun _ _ => trivial, ?_⟩
  rw [Oper.semAt_eq _ _ _ hd, hr]
  exact h
theorem zh0 {r : Option Nat} {P : Program} {o : Oper} {a : Act} {w w' : World} {next : Act -> World -> Prop} {Q : Exit -> Act -> World -> Prop}
 (hd : ∀ c, o.op ≠ .defer c) (hr : (execOp a.eval o).run P w = .ok .skip w') (h : next (a.put o.dst undef) w') : o.wpIn (Wf r) 0 P a w next Q := by
  refine ⟨fun _ _ => trivial, ?_⟩
  rw [Oper.semAt_eq _ _ _ hd, hr]
  exact h
theorem zcd {C : Ctx} {d : Option Nat} {v : Option SV} (hd : zau C d v) {β w S} {x : Value} (hv : ∀ s, v = some s -> rel β w S s x) :
 ∀ t s, zfz d v = some (t, s) -> d = some t /\ t < C.N /\ rel β w S s x := by
  intro t s e
  cases d with
  | none => simp [zfz] at e
  | some t' =>
    cases v with
    | none => simp [zfz] at e
    | some s' =>
      simp only [zfz, Option.some.injEq, Prod.mk.injEq] at e
      obtain ⟨rfl, rfl⟩ := e
      exact ⟨rfl, (hd _ rfl).1, hv _ rfl⟩
theorem zbw {C : Ctx} {d : Option Nat} {v : Option SV} (hd : zau C d v) (gt : GT) : zfz d v = none -> d = none \/ ∃ t, d = some t /\ gt t = none := by
 intro e
 cases d with
 | none => exact .inl rfl
 | some t =>
   have := (hd t rfl).2
   cases v with
   | none => simp at this
   | some s => simp [zfz] at e
theorem ztY {o : Oper} {fresh : Nat} {gt : GT} {go : GO} {s : SV} (hop : ∀ c, o.op ≠ .defer c) (hd : zau C o.dst (some s))
 (h : ∀ {β own S a w}, zah C gt go β own S a w -> ∃ x w', (execOp a.eval o).run C.P w = .ok (.value x) w' /\ rel β w S s x ∧
  w'.heap = w.heap /\ w'.os = w.os /\ w'.tape = w.tape /\ w'.output = w.output) : zaD C o fresh gt go (some s) [] 0 := by
  intro β own S a w H hβ next Q hn
  obtain ⟨x, w', hr, hx, h1, h2, h3, h4⟩ := h H
  refine zbU hop hr (hn β own S x w' (fun _ _ => rfl) ?_)
  exact H.pure h1 h2 h3 h4 o.dst x _ (zcd hd (fun s' e => by cases e; exact hx)) (zbw hd gt)
theorem zaJ {o : Oper} {fresh : Nat} {gt : GT} {go : GO} {s : SV} (hop : ∀ c, o.op ≠ .defer c) (hd : zau C o.dst (some s))
 (h : ∀ {β own S a w}, zah C gt go β own S a w -> ∃ x, (execOp a.eval o).run C.P w = .ok (.value x) w /\ rel β w S s x) : zaD C o fresh gt go (some s) [] 0 :=
  ztY hop hd fun H => let ⟨x, h1, h2⟩ := h H; ⟨x, _, h1, h2, rfl, rfl, rfl, rfl⟩
theorem ze3 {o : Oper} {fresh : Nat} {gt : GT} {go : GO} {s : SV} {so : SO} (hop : ∀ c, o.op ≠ .defer c) (hd : zau C o.dst (some s))
 (h : ∀ {β own S a w}, zah C gt go β own S a w -> ∃ x w' ob B, (execOp a.eval o).run C.P w = .ok (.value x) w' /\ w'.heap = w.heap.push ob /\ w'.os = w.os /\ w'.tape = w.tape /\ w'.output = w.output ∧
  (Ext β w S (upd β fresh (some B)) w' S -> za3 (upd β fresh (some B)) w' S B (zci w.heap.size) so /\ rel (upd β fresh (some B)) w' S s x)) :
 zaD C o fresh gt go (some s) [(fresh, some so)] 1 := by
  intro β own S a w H hβ next Q hn
  obtain ⟨x, w', ob, B, hr, h1, h2, h3, h4, h5⟩ := h H
  have hb : β fresh = none := hβ fresh (Nat.le_refl _) (by omega)
  have x0 : Ext β w S (upd β fresh (some B)) w' S := ⟨fun i B' e => by
   by_cases hi : i = fresh
   . subst hi; rw [hb] at e; cases e
   . rw [zab _ _ hi]; exact e, fun _ e => e, fun b hb => by
     have := H.mem.sz b hb
     rw [h1, Array.getElem?_push, if_neg (by omega)]⟩
  refine zbU hop hr (hn (upd β fresh (some B)) (upd own fresh (zci w.heap.size)) S x w' (fun i hi => zab _ _ (fun e => hi (by omega))) ?_)
  exact H.new hb h1 h2 h3 h4 (fun e => (h5 e).1) o.dst x _ (zcd hd (fun s' e => by cases e; exact (h5 x0).2)) (zbw hd gt)
end
end Go.Sx
namespace Go.Sx
open Go
section
variable {C : Ctx} {gt : GT} {go : GO} {o : Oper} {fresh : Nat} {R : List Loc} {v : Option SV} {os : List (Nat × Option SO)} {k : Nat}
theorem zat {s : SV} (h : (zaC s).Runs gt go R v os k) : v = some s /\ os = [] /\ k = 0 := by
 cases h; exact ⟨rfl, rfl, rfl⟩
theorem zsN {x : Operand} (ho : o.op = .move x \/ o.op = .assign x) (h : (MO.rt C.toEnv fresh (.mv (cX x))).Runs gt go R v os k) (hd : zau C o.dst v) : zaD C o fresh gt go v os k := by
 simp only [MO.rt] at h
 obtain ⟨s, R', h, hx⟩ := zap h
 obtain ⟨rfl, rfl, rfl⟩ := zat h
 refine zaJ (by rcases ho with ho | ho <;> simp [ho]) hd fun H => ⟨_, ?_, hx H⟩
 rcases ho with ho | ho <;> simp [execOp, ho]
theorem ztX {c x y : Operand} (ho : o.op = .pick c x y) (h : (MO.rt C.toEnv fresh (.pick (cX c) (cX x) (cX y))).Runs gt go R v os k) (hd : zau C o.dst v) : zaD C o fresh gt go v os k := by
 simp only [MO.rt] at h
 obtain ⟨s, R', h, hc⟩ := zap h
 have key : ∀ (b : Bool) (z : Operand) (R v os k), (∀ {β own S a w}, zah C gt go β own S a w -> a.eval c = .bool b) -> (if b then x else y) = z →
  ((cX z).rd C.toEnv zaC).Runs gt go R v os k -> zau C o.dst v -> zaD C o fresh gt go v os k := by
   intro b z R v os k hb hz h hd
   obtain ⟨s, R', h, hx⟩ := zap h
   obtain ⟨rfl, rfl, rfl⟩ := zat h
   refine zaJ (by simp [ho]) hd fun H => ⟨_, ?_, hx H⟩
   have h1 := hb H
   subst hz
   cases b <;> simp [execOp, ho, h1, asBool]
 cases s <;> simp only at h
 case tt => exact key true x _ _ _ _ (fun H => by have := hc H; simpa [rel] using this) rfl h hd
 case ff => exact key false y _ _ _ _ (fun H => by have := hc H; simpa [rel] using this) rfl h hd
 case bool q =>
  cases h with
  | left hp h => exact key true x _ _ _ _ (fun H => by have := hc H; simp [rel, hp] at this; exact this) rfl h hd
  | right hp h => exact key false y _ _ _ _ (fun H => by have := hc H; simp only [Bool.not_eq_true] at hp; simp [rel, hp] at this; exact this) rfl h hd
 case pr p =>
  cases h with
  | left hp h => exact key true x _ _ _ _ (fun H => by have := hc H; simp only [rel] at this; obtain ⟨b, h1, h2⟩ := this; rw [h1, h2.2 hp]) rfl h hd
  | right hp h =>
    exact key false y _ _ _ _ (fun H => by
     have := hc H; simp only [rel] at this; obtain ⟨b, h1, h2⟩ := this
     cases b with
     | true => exact absurd (h2.1 rfl) hp
     | false => exact h1) rfl h hd
 all_goals cases h
theorem zjS {P : Program} {w : World} (t : TypeId) (x : Value) : (newVar t x).run P w = .ok ⟨w.heap.size, 0, none⟩ { w with heap := w.heap.push (.cells x.cells t) } := by
 simp [newVar, newRow, newObj, Sem.run]
theorem zgd {s : SV} (h : s.one = true) {β w S} {x : Value} (hx : rel β w S s x) : x.oneCell' = true /\ x.cells = #[x] := by
 cases s <;> simp only [SV.one, Bool.false_eq_true] at h <;> simp only [rel] at hx
 case int => subst hx; exact ⟨rfl, rfl⟩
 case bool => subst hx; exact ⟨rfl, rfl⟩
 case pr => obtain ⟨b, rfl, _⟩ := hx; exact ⟨rfl, rfl⟩
 case tt => subst hx; exact ⟨rfl, rfl⟩
 case ff => subst hx; exact ⟨rfl, rfl⟩
 case str => subst hx; exact ⟨rfl, rfl⟩
 case val v => subst hx; cases x <;> simp_all [Value.oneCell', Value.cells]
 case rd p =>
  cases p <;> simp only [zaR] at hx
  case int => subst hx; exact ⟨rfl, rfl⟩
  case bool => subst hx; exact ⟨rfl, rfl⟩
  case str => subst hx; exact ⟨rfl, rfl⟩
  case val v => obtain ⟨rfl, hx⟩ := hx; cases x <;> simp_all [Value.oneCell', Value.cells]
  case sl => obtain ⟨a, cap, rfl, _⟩ := hx; exact ⟨rfl, rfl⟩
  case pt => obtain ⟨b, off, arr, T, fz, rfl, _⟩ := hx; exact ⟨rfl, rfl⟩
 case rp => obtain ⟨b, off, arr, T, fz, rfl, _⟩ := hx; exact ⟨rfl, rfl⟩
 case ra => obtain ⟨b, off, arr, T, fz, rfl, _⟩ := hx; exact ⟨rfl, rfl⟩
 case ptr => obtain ⟨B, b, _, _, rfl⟩ := hx; exact ⟨rfl, rfl⟩
 case slc =>
  obtain ⟨B, _, hs⟩ := hx
  unfold zaV at hs
  cases hb : B.blk with
  | none => rw [hb] at hs; obtain ⟨rfl, _⟩ := hs; exact ⟨rfl, rfl⟩
  | some b => rw [hb] at hs; obtain ⟨off, cap, rfl, _⟩ := hs; exact ⟨rfl, rfl⟩
 case mp => obtain ⟨B, b, _, _, rfl⟩ := hx; exact ⟨rfl, rfl⟩
 case slx => obtain ⟨B, b, _, _, rfl, _⟩ := hx; exact ⟨rfl, rfl⟩
 case gn => obtain ⟨B, _, rfl⟩ := hx; exact ⟨rfl, rfl⟩
 case fex =>
  obtain ⟨p, hx, _⟩ := hx
  have hx := hx w S
  cases p <;> simp only [zaR] at hx
  case int => subst hx; exact ⟨rfl, rfl⟩
  case bool => subst hx; exact ⟨rfl, rfl⟩
  case str => subst hx; exact ⟨rfl, rfl⟩
  case val v => obtain ⟨rfl, hx⟩ := hx; cases x <;> simp_all [Value.oneCell', Value.cells]
  case sl => obtain ⟨a, cap, rfl, _⟩ := hx; exact ⟨rfl, rfl⟩
  case pt => obtain ⟨b, off, arr, T, fz, rfl, _⟩ := hx; exact ⟨rfl, rfl⟩
 case fn => obtain ⟨xs, ys, rfl, _⟩ := hx; exact ⟨rfl, rfl⟩
 case ifc => obtain ⟨y, rfl, _⟩ := hx; exact ⟨rfl, rfl⟩
theorem zoU {s : SV} {l : List SV} (h : zgi s = some l) {β w S} {x : Value} (hx : rel β w S s x) : zam β w S l x.cells.toList := by
 by_cases ha : ∃ l', s = .agg l'
 . obtain ⟨l', rfl⟩ := ha
   simp only [zgi, Option.some.injEq] at h
   subst h
   simp only [rel] at hx
   obtain ⟨xs, rfl, hx⟩ := hx
   exact hx
 . have hl : s.one = true /\ l = [s] := by
    cases s <;> first | (exact absurd ⟨_, rfl⟩ ha) | (simp only [zgi] at h; split at h <;> simp_all)
   obtain ⟨h1, rfl⟩ := hl
   rw [(zgd h1 hx).2]
   simp only [zam]
   exact ⟨x, [], rfl, hx, rfl⟩
theorem zwU {x : Operand} {t : TypeId} (ho : o.op = .box t x) (h : (MO.rt C.toEnv fresh (.box (cX x))).Runs gt go R v os k) (hd : zau C o.dst v) : zaD C o fresh gt go v os k := by
 simp only [MO.rt] at h
 obtain ⟨s, R', h, hx⟩ := zap h
 split at h
 . rename_i l hl
   cases h
   refine ze3 (by simp [ho]) hd fun {β own S a w} H => ?_
   have h1 : (execOp a.eval o).run C.P w = .ok (.value (.pointer (some ⟨w.heap.size, 0, none⟩))) { w with heap := w.heap.push (.cells (a.eval x).cells t) } := by
    simp [execOp, ho, Instr.box, zjS]
   refine ⟨_, _, _, ⟨some w.heap.size, l.length, 1⟩, h1, rfl, rfl, rfl, rfl, fun e => ⟨?_, ?_⟩⟩
   . exact ⟨w.heap.size, (a.eval x).cells, t, rfl, rfl, rfl, rfl, by simp, zbK e _ _ (zoU hl (hx H))⟩
   . simp only [rel, zac]
     exact ⟨_, _, rfl, rfl, by simp⟩
 . cases h
theorem zrH {t : TypeId} {i : TypeInfo} {z : Value} (ho : o.op = .alloc t) (hi : C.P.info? t = some i) (hz : i.zero = some z)
 (h : (MO.rt C.toEnv fresh (.alloc (z.cells.toList.map cV1))).Runs gt go R v os k) (hd : zau C o.dst v) : zaD C o fresh gt go v os k := by
  simp only [MO.rt] at h
  cases h
  refine ze3 (by simp [ho]) hd fun {β own S a w} H => ?_
  have h1 : (execOp a.eval o).run C.P w = .ok (.value (.pointer (some ⟨w.heap.size, 0, none⟩))) { w with heap := w.heap.push (.cells z.cells t) } := by
   simp [execOp, ho, Instr.alloc, zjS, zeroValue, typeInfo, hi, hz]
  refine ⟨_, _, _, ⟨some w.heap.size, (z.cells.toList.map cV1).length, 1⟩, h1, rfl, rfl, rfl, rfl, fun e => ⟨?_, ?_⟩⟩
  . exact ⟨w.heap.size, z.cells, t, rfl, rfl, rfl, rfl, by simp, zd7 _⟩
  . simp only [rel, zac]
    exact ⟨_, _, rfl, rfl, by simp⟩
theorem zw0 {x : Operand} {i : Nat} (ho : o.op = .extract x i) (h : (MO.rt C.toEnv fresh (.ext i (cX x))).Runs gt go R v os k) (hd : zau C o.dst v) : zaD C o fresh gt go v os k := by
 simp only [MO.rt] at h
 obtain ⟨s, R', h, hx⟩ := zap h
 cases s <;> simp only at h <;> try (cases h; done)
 rename_i vs
 split at h
 . rename_i s hs
   obtain ⟨rfl, rfl, rfl⟩ := zat h
   refine zaJ (by simp [ho]) hd fun {β own S a w} H => ?_
   have hr := hx H
   simp only [rel] at hr
   obtain ⟨xs, e, hr⟩ := hr
   have : ∀ (l : List SV) (ys : List Value) (i : Nat), zam β w S l ys -> zaQ l i = some s -> ∃ y, ys[i]? = some y /\ rel β w S s y := by
    intro l
    induction l with
    | nil => intro ys i _ h; simp [zaQ] at h
    | cons c l ih =>
      intro ys i hr h
      simp only [zam] at hr
      obtain ⟨y, ys', rfl, h1, h2⟩ := hr
      cases i with
      | zero => simp only [zaQ, Option.some.injEq] at h; subst h; exact ⟨y, rfl, h1⟩
      | succ i => simp only [zaQ] at h; simpa using ih ys' i h2 h
   obtain ⟨y, h1, h2⟩ := this vs xs.toList i hr hs
   refine ⟨y, ?_, h2⟩
   have h3 : xs[i]? = some y := by simpa using h1
   simp [execOp, ho, e, Instr.extract, h3]
 . cases h
end
end Go.Sx
namespace Go.Sx
open Go
theorem zbx {α : Type _} : ∀ (l : List α) (i : Nat), zaQ l i = l[i]?
 | [], i => by simp [zaQ]
 | a :: l, 0 => by simp [zaQ]
 | a :: l, i + 1 => by simp [zaQ, zbx l i]
theorem zgx {α : Type _} : ∀ (l : List α) (i : Nat) (x : α), zi6 l i x = l.set i x
 | [], i, x => by simp [zi6]
 | a :: l, 0, x => by simp [zi6]
 | a :: l, i + 1, x => by simp [zi6, zgx l i x]
theorem zh8 {α : Type _} : ∀ (l : List α) (i n : Nat) (r : List α), zf8 l i n = some r -> r = (l.drop i).take n /\ r.length = n
 | l, 0, 0, r, h => by simp [zf8] at h; subst h; simp
 | [], 0, n + 1, r, h => by simp [zf8] at h
 | [], i + 1, n, r, h => by simp [zf8] at h
 | a :: l, 0, n + 1, r, h => by
   simp only [zf8] at h
   split at h
   . rename_i r' hr
     simp only [Option.some.injEq] at h
     obtain ⟨h1, h2⟩ := zh8 l 0 n r' hr
     subst h
     simp at h1
     exact ⟨by simp [h1], by simp [h2]⟩
   . cases h
 | a :: l, i + 1, n, r, h => by
   simp only [zf8] at h
   obtain ⟨h1, h2⟩ := zh8 l i n r h
   exact ⟨by simpa using h1, h2⟩
theorem zfr {α : Type _} : ∀ (l : List α) (i : Nat) (vs r : List α), zdA l i vs = some r -> r = l.take i ++ vs ++ l.drop (i + vs.length) /\ (vs = [] \/ i + vs.length <= l.length)
 | l, i, [], r, h => by cases l <;> cases i <;> simp [zdA] at h <;> subst h <;> simp
 | [], i, v :: vs, r, h => by cases i <;> simp [zdA] at h
 | a :: l, 0, v :: vs, r, h => by
   simp only [zdA] at h
   split at h
   . rename_i r' hr
     simp only [Option.some.injEq] at h
     obtain ⟨h1, h2⟩ := zfr l 0 vs r' hr
     subst h
     refine ⟨by simp at h1; simp [h1], .inr ?_⟩
     rcases h2 with rfl | h2
     . simp
     . simp at h2 ⊢; omega
   . cases h
 | a :: l, i + 1, v :: vs, r, h => by
   simp only [zdA] at h
   split at h
   . rename_i r' hr
     simp only [Option.some.injEq] at h
     obtain ⟨h1, h2⟩ := zfr l i (v :: vs) r' hr
     subst h
     rcases h2 with h2 | h2
     . cases h2
     . refine ⟨?_, .inr (by simp at h2 ⊢; omega)⟩
       rw [h1]
       simp only [List.length_cons, show i + 1 + (vs.length + 1) = (i + (vs.length + 1)) + 1 by omega, List.drop_succ_cons]
       simp
   . cases h
section
variable {β : Nat -> Option zay} {w : World} {S : Nat -> Prop}
theorem zeh : ∀ (l : List SV) (ys : List Value) (i : Nat), zam β w S l ys -> zam β w S (l.drop i) (ys.drop i)
 | l, ys, 0, h => by simpa using h
 | [], ys, i + 1, h => by simp [zam] at h; subst h; simp [zam]
 | c :: l, ys, i + 1, h => by
   simp only [zam] at h
   obtain ⟨y, r, rfl, _, h2⟩ := h
   simpa using zeh l r i h2
theorem zei : ∀ (l : List SV) (ys : List Value) (n : Nat), zam β w S l ys -> zam β w S (l.take n) (ys.take n)
 | l, ys, 0, h => by simp [zam]
 | [], ys, n + 1, h => by simp [zam] at h; subst h; simp [zam]
 | c :: l, ys, n + 1, h => by
   simp only [zam] at h
   obtain ⟨y, r, rfl, h1, h2⟩ := h
   simp only [List.take_succ_cons, zam]
   exact ⟨y, _, rfl, h1, zei l r n h2⟩
theorem zd6 : ∀ (l : List SV) (ys : List Value) (i : Nat) (s : SV), zam β w S l ys -> l[i]? = some s -> ∃ y, ys[i]? = some y /\ rel β w S s y
 | [], ys, i, s, _, h => by simp at h
 | c :: l, ys, i, s, hr, h => by
   simp only [zam] at hr
   obtain ⟨y, ys', rfl, h1, h2⟩ := hr
   cases i with
   | zero => simp at h; subst h; exact ⟨y, rfl, h1⟩
   | succ i => simp at h; simpa using zd6 l ys' i s h2 h
theorem zbC : ∀ (l : List SV) (ys : List Value) (l' : List SV) (ys' : List Value), zam β w S l ys -> zam β w S l' ys' -> zam β w S (l ++ l') (ys ++ ys')
 | [], ys, l', ys', h, h' => by simp [zam] at h; subst h; simpa using h'
 | c :: l, ys, l', ys', h, h' => by
   simp only [zam] at h
   obtain ⟨y, r, rfl, h1, h2⟩ := h
   simp only [List.cons_append, zam]
   exact ⟨y, _, rfl, h1, zbC l r l' ys' h2 h'⟩
theorem znz {p : PV} {v : Value} (h : zaR w S p v) : rel β w S p.sv v := by
 cases p <;> simp only [zaR] at h <;> simp only [PV.sv, rel]
 case int => exact h
 case bool => exact h
 case str => exact h
 case val => exact h.1
 case sl => simp only [zaR]; exact h
 case pt =>
  obtain ⟨b, off, arr, T, fz, h1, h2⟩ := h
  exact ⟨b, off, arr, T, fz, by simpa using h1, h2⟩
theorem ziU : ∀ (ps : List PV) (vs : List Value), zaE w S ps vs -> zam β w S (zkp ps) (vs.take ps.length) /\ ps.length <= vs.length
 | [], vs, _ => by simp [zkp, zam]
 | p :: ps, vs, h => by
   simp only [zaE] at h
   obtain ⟨v, r, rfl, h1, h2⟩ := h
   obtain ⟨h3, h4⟩ := ziU ps r h2
   refine ⟨?_, by simp; omega⟩
   simp only [zkp, List.length_cons, List.take_succ_cons, zam]
   exact ⟨v, _, rfl, znz h1, h3⟩
theorem zxk {s : SV} {p : PV} (h : s.pv = some p) {v : Value} (hr : rel β w S s v) : zaR w S p v := by
 cases s <;> simp only [SV.pv, Option.some.injEq, reduceCtorEq] at h <;> simp only [rel] at hr
 case int => subst h; simpa [zaR] using hr
 case bool => subst h; simpa [zaR] using hr
 case tt => subst h; simpa [zaR] using hr
 case ff => subst h; simpa [zaR] using hr
 case str => subst h; simpa [zaR] using hr
 case val x =>
  subst hr
  split at h <;> simp only [Option.some.injEq, reduceCtorEq] at h
  subst h
  refine ⟨rfl, ?_⟩
  rename_i h1 h2
  cases v <;> first | rfl | exact absurd rfl (h1 _) | exact absurd rfl (h2 _)
 case rd => subst h; exact hr
 case rp cs sub =>
  cases sub with
  | zero =>
    simp only [Option.some.injEq] at h
    subst h
    obtain ⟨b, off, arr, T, fz, h1, h2⟩ := hr
    simp only [zaR]
    exact ⟨b, off, arr, T, fz, by simpa using h1, h2⟩
  | succ n => cases h
theorem zii : ∀ {l : List SV} {ps : List PV}, pvs l = some ps -> ∀ {vs : List Value}, zam β w S l vs -> zaE w S ps vs /\ ps.length = l.length
 | [], ps, h, vs, hr => by simp [pvs] at h; subst h; simp [zaE]
 | s :: l, ps, h, vs, hr => by
   simp only [pvs] at h
   split at h
   . cases h
   . rename_i p hp
     split at h
     . cases h
     . rename_i r hl
       simp only [Option.some.injEq] at h
       subst h
       simp only [zam] at hr
       obtain ⟨v, r', rfl, h1, h2⟩ := hr
       obtain ⟨h3, h4⟩ := zii hl h2
       simp only [zaE]
       exact ⟨⟨v, r', rfl, zxk hp h1, h3⟩, by simp [h4]⟩
theorem zf1 : ∀ (s : Nat) (L : List (List PV)) (vs : List Value) (i : Nat) (e : List PV), zaq w S s L vs -> L[i]? = some e →
 e.length = s /\ zaE w S e (vs.drop (i * s))
  | s, [], vs, i, e, _, h => by simp at h
  | s, e0 :: L, vs, i, e, hr, h => by
    simp only [zaq] at hr
    obtain ⟨h1, h2, h3⟩ := hr
    cases i with
    | zero => simp at h; subst h; exact ⟨h1, by simpa using h2⟩
    | succ i =>
      simp at h
      obtain ⟨h4, h5⟩ := zf1 s L _ i e h3 h
      refine ⟨h4, ?_⟩
      rw [List.drop_drop] at h5
      rw [show (i + 1) * s = s + i * s by rw [Nat.add_mul]; omega]
      exact h5
theorem ziW : ∀ (s : Nat) (L : List (List SV)) (vs : List Value) (i : Nat) (e : List SV), zaY β w S s L vs -> L[i]? = some e →
 e.length = s /\ zam β w S e ((vs.drop (i * s)).take s)
  | s, [], vs, i, e, _, h => by simp at h
  | s, e0 :: L, vs, i, e, hr, h => by
    simp only [zaY] at hr
    obtain ⟨h1, h2, h3⟩ := hr
    cases i with
    | zero => simp at h; subst h; exact ⟨h1, by simpa using h2⟩
    | succ i =>
      simp at h
      obtain ⟨h4, h5⟩ := ziW s L _ i e h3 h
      refine ⟨h4, ?_⟩
      rw [List.drop_drop] at h5
      rw [show (i + 1) * s = s + i * s by rw [Nat.add_mul]; omega]
      exact h5
theorem zhs {b o : Nat} {arr : Array Value} {T : TypeId} {fz : Nat × Nat} (h : w.heap[b]? = some (.cells arr T fz)) : w.cell? ⟨b, o, none⟩ = arr[o]? := by
 simp [World.cell?, h]
end
theorem zkw {P : Program} {w : World} {t : TypeId} {d : TypeDesc} (hu : P.underlying t = some d) (hd : d.isRow = false) {b off : Nat} {y : Value}
 (hc : w.cell? ⟨b, off, none⟩ = some y) : (Instr.loadAt t (.pointer (some ⟨b, off, none⟩))).run P w = .ok y w := by
  have hagg : (isAgg t).run P w = .ok false w := by
   unfold isAgg
   rw [Sem.run_bind, run_underlying hu w]
   cases d <;> simp_all
  simp [Instr.loadAt, Instr.sureAddr, loadVar, Sem.run_bind, hagg, load, Sem.run, hc]
structure zhk (P : Program) (t : TypeId) (n : Option Nat) : Prop where
 ok : ∃ d, P.underlying t = some d /\ match n with
  | none => d.isRow = false
  | some n => d.isRow = true /\ (P.info? t).map (·.size) = some n
theorem zeE {P : Program} {w : World} {t : TypeId} {n : Option Nat} (hl : zhk P t n) {β S} {b off : Nat} {cs : List SV} {sub : Nat} {arr : Array Value} {T : TypeId} {fz : Nat × Nat}
 (hw : w.heap[b]? = some (.cells arr T fz)) {m : Nat} (hr : zam β w S cs ((arr.toList.drop off).take m)) {gt go R v os k}
 (h : (zb1 cs sub n).Runs gt go R v os k) : ∃ s, v = some s /\ os = [] /\ k = 0 /\ ∃ y, (Instr.loadAt t (.pointer (some ⟨b, off + sub, none⟩))).run P w = .ok y w /\ rel β w S s y := by
  obtain ⟨d, hu, hd⟩ := hl.ok
  cases n with
  | none =>
    simp only [zb1] at h
    split at h
    . rename_i c hc
      obtain ⟨rfl, rfl, rfl⟩ := zat h
      rw [zbx] at hc
      obtain ⟨y, h1, h2⟩ := zd6 _ _ _ _ hr hc
      refine ⟨c, rfl, rfl, rfl, y, zkw hu hd ?_, h2⟩
      rw [List.getElem?_take] at h1
      split at h1
      . rw [List.getElem?_drop] at h1
        rw [zhs hw]; simpa using h1
      . cases h1
    . cases h
  | some n =>
    simp only [zb1] at h
    split at h
    . rename_i c hc
      obtain ⟨rfl, rfl, rfl⟩ := zat h
      obtain ⟨h1, h2⟩ := zh8 _ _ _ _ hc
      have h3 := zei _ _ n (zeh _ _ sub hr)
      rw [<- h1] at h3
      have h4 := zaL _ _ h3
      refine ⟨.agg c, rfl, rfl, rfl, .agg (((arr.toList.drop off).take m).drop sub |>.take n).toArray, ?_, by simp only [rel]; exact ⟨_, rfl, by simpa using h3⟩⟩
      refine run_loadAt_mid w b (off + sub) t _ d (fun j v hv => ?_) hu hd.1 (by rw [hd.2, h4, h2])
      rw [List.getElem?_take] at hv
      split at hv
      . rw [List.getElem?_drop, List.getElem?_take] at hv
        split at hv
        . rw [List.getElem?_drop] at hv
          rw [zhs hw]; simpa [Nat.add_assoc] using hv
        . cases hv
      . cases hv
    . cases h
section
variable {C : Ctx} {gt : GT} {go : GO} {o : Oper} {fresh : Nat} {R : List Loc} {v : Option SV} {os : List (Nat × Option SO)} {k : Nat}
theorem zzh {t : TypeId} {x : Operand} {n : Option Nat} (ho : o.op = .load t x) (hl : zhk C.P t n)
 (h : (MO.rt C.toEnv fresh (.ld n (cX x))).Runs gt go R v os k) (hd : zau C o.dst v) : zaD C o fresh gt go v os k := by
  simp only [MO.rt] at h
  obtain ⟨s, R', h, hx⟩ := zap h
  have fin : ∀ {v os k} (hd : zau C o.dst v), (∃ s, v = some s /\ os = [] /\ k = 0 /\ ∀ {β own S a w}, zah C gt go β own S a w -> ∃ y, (Instr.loadAt t (a.eval x)).run C.P w = .ok y w /\ rel β w S s y) -> zaD C o fresh gt go v os k := by
   rintro v os k hd ⟨s, rfl, rfl, rfl, h⟩
   refine zaJ (by simp [ho]) hd fun H => ?_
   obtain ⟨y, h1, h2⟩ := h H
   exact ⟨y, by simp [execOp, ho, h1], h2⟩
  have uni : ∀ {cs sub} {R v os k}, (zb1 cs sub n).Runs gt go R v os k -> ∃ s, v = some s /\ os = [] /\ k = 0 := by
   intro cs sub R v os k h
   cases n <;> simp only [zb1] at h <;> split at h <;> first | (cases h; done) | (obtain ⟨rfl, rfl, rfl⟩ := zat h; exact ⟨_, rfl, rfl, rfl⟩)
  cases s <;> simp only [zpt] at h <;> try (cases h; done)
  case rp cs sub =>
   obtain ⟨s, rfl, rfl, rfl⟩ := uni h
   refine fin hd ⟨s, rfl, rfl, rfl, fun {β own S a w} H => ?_⟩
   have hr := hx H
   simp only [rel] at hr
   obtain ⟨b, off, arr, T, fz, h1, h2, h3, h4⟩ := hr
   obtain ⟨h5, h6⟩ := ziU (β := β) _ _ h4
   obtain ⟨s', e1, _, _, y, h7, h8⟩ := zeE (P := C.P) hl h3 h5 h
   cases e1
   exact ⟨y, by rw [h1]; exact h7, h8⟩
  case ptr id idx sub =>
   cases h with
   | rO h =>
     dsimp only at h
     split at h
     . rename_i cs hgo
       split at h
       . obtain ⟨s, rfl, rfl, rfl⟩ := uni h
         refine fin hd ⟨s, rfl, rfl, rfl, fun {β own S a w} H => ?_⟩
         have hr := hx H
         simp only [rel] at hr
         obtain ⟨B, b, h1, h2, h3⟩ := hr
         obtain ⟨B', h4, b', arr, T, h5, h6, _, h7, h8, h9⟩ := H.mem.obj _ _ hgo
         rw [h1] at h4; cases h4
         rw [h2] at h5; cases h5
         have h10 : zam β w S cs ((arr.toList.drop 0).take arr.size) := by rw [List.drop_zero, <- Array.length_toList, List.take_length]; exact h9
         obtain ⟨s', e1, _, _, y, h11, h12⟩ := zeE (P := C.P) hl h8 h10 h
         cases e1
         exact ⟨y, by rw [h3]; simpa using h11, h12⟩
       . cases h
     . rename_i s0 L hgo
       split at h
       . rename_i cs hcs
         obtain ⟨s, rfl, rfl, rfl⟩ := uni h
         refine fin hd ⟨s, rfl, rfl, rfl, fun {β own S a w} H => ?_⟩
         have hr := hx H
         simp only [rel] at hr
         obtain ⟨B, b, h1, h2, h3⟩ := hr
         obtain ⟨B', h4, h5⟩ := H.mem.obj _ _ hgo
         rw [h1] at h4; cases h4
         rcases h5 with ⟨h5, _⟩ | ⟨b', arr, T, h5, h6, h7, h8, _, _, h9⟩
         . rw [h2] at h5; cases h5
         . rw [h2] at h5; cases h5
           rw [zbx] at hcs
           obtain ⟨_, h10⟩ := ziW _ _ _ _ _ h9 hcs
           obtain ⟨s', e1, _, _, y, h11, h12⟩ := zeE (P := C.P) hl h8 h10 h
           cases e1
           exact ⟨y, by rw [h3, h6]; exact h11, h12⟩
       . cases h
     . rename_i s0 L hgo
       cases h with
       | ex e he h =>
         obtain ⟨s, rfl, rfl, rfl⟩ := uni h
         refine fin hd ⟨s, rfl, rfl, rfl, fun {β own S a w} H => ?_⟩
         have hr := hx H
         simp only [rel] at hr
         obtain ⟨B, b, h1, h2, h3⟩ := hr
         obtain ⟨B', h4, h5⟩ := H.mem.obj _ _ hgo
         rw [h1] at h4; cases h4
         rcases h5 with ⟨h5, _⟩ | ⟨b', arr, T, h5, h6, h7, h8, _, _, h9⟩
         . rw [h2] at h5; cases h5
         . rw [h2] at h5; cases h5
           obtain ⟨_, h10⟩ := zf1 _ _ _ _ _ h9 he
           obtain ⟨h13, _⟩ := ziU (β := β) _ _ h10
           obtain ⟨s', e1, _, _, y, h11, h12⟩ := zeE (P := C.P) hl h8 h13 h
           cases e1
           exact ⟨y, by rw [h3, h6]; exact h11, h12⟩
     . cases h
end
end Go.Sx
namespace Go.Sx
open Go
section
variable {β : Nat -> Option zay} {w : World} {S : Nat -> Prop}
theorem zej : ∀ (e : List PV) (vs : List Value), zaE w S e vs -> e.length <= vs.length
 | [], _, _ => by simp
 | p :: e, vs, h => by
   simp only [zaE] at h
   obtain ⟨v, r, rfl, _, h2⟩ := h
   have := zej e r h2
   simp; omega
theorem zdT : ∀ (e : List PV) (vs vs' : List Value), zaE w S e vs -> vs.take e.length = vs'.take e.length -> zaE w S e vs'
 | [], _, _, _, _ => by simp [zaE]
 | p :: e, vs, vs', h, ht => by
   simp only [zaE] at h ⊢
   obtain ⟨v, r, rfl, h1, h2⟩ := h
   cases vs' with
   | nil => simp at ht
   | cons v' r' =>
     simp at ht
     exact ⟨v', r', rfl, ht.1 ▸ h1, zdT e r r' h2 ht.2⟩
theorem zhO : ∀ (e : List PV) (vs : List Value) (e' : List PV) (vs' : List Value), zaE w S e vs -> vs.length = e.length -> zaE w S e' vs' -> zaE w S (e ++ e') (vs ++ vs')
 | [], vs, e', vs', _, hl, h => by
   have : vs = [] := by simpa using hl
   subst this; simpa using h
 | p :: e, vs, e', vs', h, hl, h' => by
   simp only [zaE] at h
   obtain ⟨v, r, rfl, h1, h2⟩ := h
   simp only [List.cons_append, zaE]
   exact ⟨v, _, rfl, h1, zhO e r e' vs' h2 (by simpa using hl) h'⟩
theorem zg8 : ∀ (e : List PV) (vs : List Value) (n : Nat), zaE w S e vs -> zaE w S (e.take n) (vs.take n)
 | _, _, 0, _ => by simp [zaE]
 | [], _, n + 1, _ => by simp [zaE]
 | p :: e, vs, n + 1, h => by
   simp only [zaE] at h
   obtain ⟨v, r, rfl, h1, h2⟩ := h
   simp only [List.take_succ_cons, zaE]
   exact ⟨v, _, rfl, h1, zg8 e r n h2⟩
theorem zjN : ∀ (e : List PV) (vs : List Value) (n : Nat), zaE w S e vs -> zaE w S (e.drop n) (vs.drop n)
 | _, _, 0, h => by simpa using h
 | [], _, n + 1, _ => by simp [zaE]
 | p :: e, vs, n + 1, h => by
   simp only [zaE] at h
   obtain ⟨v, r, rfl, h1, h2⟩ := h
   simpa using zjN e r n h2
theorem zmy {α : Type _} (vs ys : List α) (o n : Nat) (h : n <= o) (hl : o <= vs.length) : (vs.take o ++ ys ++ vs.drop (o + ys.length)).take n = vs.take n := by
 rw [List.append_assoc, List.take_append_of_le_length (by simp; omega), List.take_take, Nat.min_eq_left h]
theorem zmv {α : Type _} (vs ys : List α) (o n : Nat) (h : o + ys.length <= n) (hl : o + ys.length <= vs.length) : (vs.take o ++ ys ++ vs.drop (o + ys.length)).drop n = vs.drop n := by
 rw [List.drop_append, List.drop_of_length_le (by simp; omega)]
 simp only [List.length_append, List.length_take, List.nil_append, List.drop_drop]
 congr 1
 omega
theorem zny {α : Type _} (vs ys : List α) (o n : Nat) (hl : n + (o + ys.length) <= vs.length) :
 (vs.take (n + o) ++ ys ++ vs.drop (n + o + ys.length)).drop n = (vs.drop n).take o ++ ys ++ (vs.drop n).drop (o + ys.length) := by
  rw [List.append_assoc, List.drop_append_of_le_length (by simp; omega), List.drop_take, List.drop_drop, <- List.append_assoc]
  congr 2
  . congr 1; omega
  . omega
theorem zld : ∀ (s : Nat) (L : List (List PV)) (vs : List Value) (i : Nat) (e : List PV) (sub : Nat) (ps r : List PV) (ys : List Value), zaq w S s L vs -> L[i]? = some e →
 zdA e sub ps = some r -> ps ≠ [] -> zaE w S ps ys -> ys.length = ps.length →
 zaq w S s (L.set i r) (vs.take (i * s + sub) ++ ys ++ vs.drop (i * s + sub + ys.length)) /\ i * s + sub + ys.length <= vs.length
  | s, [], vs, i, e, sub, ps, r, ys, _, h, _, _, _, _ => by simp at h
  | s, e0 :: L, vs, i, e, sub, ps, r, ys, hr, h, hp, hne, hy, hl => by
    have hr0 := hr
    simp only [zaq] at hr
    obtain ⟨h1, h2, h3⟩ := hr
    obtain ⟨hp1, hp2⟩ := zfr _ _ _ _ hp
    have hp3 : sub + ps.length <= e.length := hp2.resolve_left hne
    cases i with
    | zero =>
      simp at h
      subst h
      have hlen := zej _ _ h2
      have hb : sub + ys.length <= vs.length := by omega
      refine ⟨?_, by omega⟩
      simp only [List.set_cons_zero, zaq, Nat.zero_mul, Nat.zero_add]
      refine ⟨by rw [hp1]; simp; omega, ?_, by rw [zmv _ _ _ _ (by omega) hb]; exact h3⟩
      rw [hp1, <- hl]
      exact zhO _ _ _ _ (zhO _ _ _ _ (zg8 _ _ _ h2) (by simp; omega) hy) (by simp; omega) (zjN _ _ _ h2)
    | succ i =>
      simp at h
      have hlen := zej _ _ h2
      obtain ⟨ih1, ih2⟩ := zld s L (vs.drop s) i e sub ps r ys h3 h hp hne hy hl
      simp at ih2
      have he : s <= vs.length := by omega
      have hb : (i + 1) * s + sub + ys.length <= vs.length := by rw [Nat.add_mul]; omega
      refine ⟨?_, hb⟩
      simp only [List.set_cons_succ, zaq]
      have e1 : (i + 1) * s + sub = s + (i * s + sub) := by rw [Nat.add_mul]; omega
      refine ⟨h1, zdT _ _ _ h2 ?_, ?_⟩
      . rw [h1, zmy _ _ _ _ (by rw [e1]; omega) (by omega)]
      . rw [e1, zny _ _ _ _ (by omega)]; exact ih1
theorem ziY : ∀ (s : Nat) (L : List (List SV)) (vs : List Value) (i : Nat) (e : List SV) (sub : Nat) (ps r : List SV) (ys : List Value), zaY β w S s L vs -> L[i]? = some e →
 zdA e sub ps = some r -> ps ≠ [] -> zam β w S ps ys →
 zaY β w S s (L.set i r) (vs.take (i * s + sub) ++ ys ++ vs.drop (i * s + sub + ys.length)) /\ i * s + sub + ys.length <= vs.length
  | s, [], vs, i, e, sub, ps, r, ys, _, h, _, _, _ => by simp at h
  | s, e0 :: L, vs, i, e, sub, ps, r, ys, hr, h, hp, hne, hy => by
    simp only [zaY] at hr
    obtain ⟨h1, h2, h3⟩ := hr
    obtain ⟨hp1, hp2⟩ := zfr _ _ _ _ hp
    have hp3 : sub + ps.length <= e.length := hp2.resolve_left hne
    have hl := zaL _ _ hy
    have hlen := zaL _ _ h2
    simp at hlen
    cases i with
    | zero =>
      simp at h
      subst h
      have hb : sub + ys.length <= vs.length := by omega
      refine ⟨?_, by omega⟩
      simp only [List.set_cons_zero, zaY, Nat.zero_mul, Nat.zero_add]
      refine ⟨by rw [hp1]; simp; omega, ?_, by rw [zmv _ _ _ _ (by omega) hb]; exact h3⟩
      have e1 : (vs.take sub ++ ys ++ vs.drop (sub + ys.length)).take s = (vs.take s).take sub ++ ys ++ (vs.take s).drop (sub + ys.length) := by
       rw [List.take_append, List.take_of_length_le (by simp; omega), List.take_take, Nat.min_eq_left (by omega), List.drop_take]
       congr 1
       congr 1
       simp
       omega
      rw [e1, hp1, <- hl]
      exact zbC _ _ _ _ (zbC _ _ _ _ (zei _ _ _ h2) hy) (zeh _ _ _ h2)
    | succ i =>
      simp at h
      obtain ⟨ih1, ih2⟩ := ziY s L (vs.drop s) i e sub ps r ys h3 h hp hne hy
      simp at ih2
      have he : s <= vs.length := by
       have : 0 < ps.length := by cases ps <;> simp_all
       omega
      have hb : (i + 1) * s + sub + ys.length <= vs.length := by rw [Nat.add_mul]; omega
      refine ⟨?_, hb⟩
      simp only [List.set_cons_succ, zaY]
      have e1 : (i + 1) * s + sub = s + (i * s + sub) := by rw [Nat.add_mul]; omega
      refine ⟨h1, ?_, ?_⟩
      . rw [zmy _ _ _ _ (by rw [e1]; omega) (by omega)]; exact h2
      . rw [e1, zny _ _ _ _ (by omega)]; exact ih1
end
theorem ziS {β w S} : ∀ {l : List SV}, zmr l = true -> ∀ {vs : List Value}, zam β w S l vs -> ∀ x ∈ vs, x.oneCell' = true
 | [], _, vs, h => by simp [zam] at h; subst h; simp
 | s :: l, ho, vs, h => by
   simp only [zmr] at ho
   split at ho
   . rename_i h1
     simp only [zam] at h
     obtain ⟨v, r, rfl, h2, h3⟩ := h
     intro x hx
     rcases List.mem_cons.1 hx with rfl | hx
     . exact (zgd h1 h2).1
     . exact ziS ho h3 x hx
   . cases ho
theorem zeX {β w S} {s : SV} {l : List SV} (h : s.cells = some l) {x : Value} (hx : rel β w S s x) : zam β w S l x.cells.toList /\ ∀ y ∈ x.cells.toList, y.oneCell' = true := by
 by_cases ha : ∃ l', s = .agg l'
 . obtain ⟨l', rfl⟩ := ha
   simp only [SV.cells] at h
   split at h
   . rename_i h1
     simp only [Option.some.injEq] at h
     subst h
     simp only [rel] at hx
     obtain ⟨xs, rfl, hx⟩ := hx
     exact ⟨hx, ziS h1 hx⟩
   . cases h
 . have hl : s.one = true /\ l = [s] := by
    cases s <;> first | (exact absurd ⟨_, rfl⟩ ha) | (simp only [SV.cells] at h; split at h <;> simp_all)
   obtain ⟨h1, rfl⟩ := hl
   obtain ⟨h2, h3⟩ := zgd h1 hx
   rw [h3]
   simp only [zam]
   exact ⟨⟨x, [], rfl, hx, rfl⟩, by simp [h2]⟩
def zvf (P : Program) (t : TypeId) (n : Option Nat) : Prop := (P.info? t).map (·.size) = some (n.getD 1)
theorem zmZ {P : Program} {w : World} {t : TypeId} {b off : Nat} {arr : Array Value} {T : TypeId} (hw : w.heap[b]? = some (.cells arr T (0, 0))) {x : Value}
 (hs : (P.info? t).map (·.size) = some x.cells.size) (h1 : ∀ y ∈ x.cells.toList, y.oneCell' = true) (hl : off + x.cells.toList.length <= arr.size) :
 (Instr.storeAt t (.pointer (some ⟨b, off, none⟩)) x).run P w = .ok () (w.setRow b (arr.toList.take off ++ x.cells.toList ++ arr.toList.drop (off + x.cells.toList.length)).toArray) := by
  have := run_storeCells_at P b off T x.cells.toList 0 arr w hw (by simpa using hl) h1
  cases hq : P.info? t with
  | none => simp [hq] at hs
  | some i =>
    have hs' : x.cells.size = i.size := by simp [hq] at hs; omega
    simp only [Nat.add_zero] at this
    simp [Instr.storeAt, Instr.sureAddr, storeVar, sizeOf, typeInfo, hq, hs', this]
theorem zbL {w : World} {g : Nat} {cs : Array Value} {b : Nat} (h : b ≠ g) : (w.setRow g cs).heap[b]? = w.heap[b]? := by
 simp only [World.setRow, Array.getElem?_modify]
 rw [if_neg (fun e => h e.symm)]
theorem zbX {w : World} {g : Nat} {cs : Array Value} : (w.setRow g cs).heap.size = w.heap.size := by simp [World.setRow]
section
variable {C : Ctx} {gt : GT} {go : GO} {o : Oper} {fresh : Nat} {R : List Loc} {v : Option SV} {os : List (Nat × Option SO)} {k : Nat}
theorem zhH {id : Nat} {o0 so : SO} (hop : ∀ c, o.op ≠ .defer c) (hd : o.dst = none) (hg : go id = some o0)
 (h : ∀ {β own S a w}, zah C gt go β own S a w -> ∃ w' B, (execOp a.eval o).run C.P w = .ok .skip w' /\ β id = some B /\ w'.heap.size = w.heap.size /\ (∀ b, ¬ own id b -> w'.heap[b]? = w.heap[b]?) ∧
  w'.os = w.os /\ w'.tape = w.tape /\ w'.output = w.output /\ (Ext β w S β w' S -> za3 β w' S B (own id) so)) :
 zaD C o fresh gt go none [(id, some so)] 0 := by
  intro β own S a w H hβ next Q hn
  obtain ⟨w', B, hr, h1, h2, h3, h4, h5, h6, h7⟩ := h H
  refine zh0 hop hr (hn β own S undef w' (fun i hi => rfl) ?_)
  exact H.set hg h1 h2 h3 h4 h5 h6 h7 o.dst undef _ (fun d s e => by simp [zfz, hd] at e) (fun _ => .inl hd)
theorem zzj {t : TypeId} {x y : Operand} {n : Option Nat} (ho : o.op = .store t x y) (hl : zvf C.P t n) (hd : o.dst = none)
 (h : (MO.rt C.toEnv fresh (.st n (cX x) (cX y))).Runs gt go R v os k) : zaD C o fresh gt go v os k := by
  simp only [MO.rt] at h
  obtain ⟨p, R1, h, hp⟩ := zap h
  obtain ⟨s, R2, h, hs⟩ := zap h
  simp only [znG] at h
  split at h
  . cases h
  . cases h
  rename_i v0 vs0 hvs
  have hne : v0 :: vs0 ≠ [] := by simp
  generalize v0 :: vs0 = vs at h hvs hne
  split at h
  . cases h
  rename_i hn
  have hn' : vs.length = n.getD 1 := by
   cases n <;> simpa using hn
  have fin : ∀ {β own S a w}, zah C gt go β own S a w -> ∀ {b off : Nat} {arr : Array Value} {T : TypeId}, w.heap[b]? = some (.cells arr T (0, 0)) -> a.eval x = .pointer (some ⟨b, off, none⟩) →
   (off + (a.eval y).cells.toList.length <= arr.size) -> (execOp a.eval o).run C.P w = .ok .skip (w.setRow b (arr.toList.take off ++ (a.eval y).cells.toList ++ arr.toList.drop (off + (a.eval y).cells.toList.length)).toArray) := by
    intro β own S a w H b off arr T hw hx hle
    obtain ⟨h1, h2⟩ := zeX hvs (hs H)
    have h3 := zaL _ _ h1
    have h4 := zmZ (P := C.P) (t := t) hw (x := a.eval y) (by rw [hl, <- hn', <- h3]; simp) h2 hle
    simp [execOp, ho, hx, h4]
  rcases p with _ | _ | _ | _ | _ | _ | _ | _ | _ | _ | _ | ⟨id, idx, sub⟩ | _ | _ | _ | _ | _ | _ <;> simp only at h <;> try (cases h; done)
  cases h with
  | rO h =>
    dsimp only at h
    split at h
    . rename_i cs hgo
      split at h
      . split at h
        . rename_i r hr
          cases h
          refine zhH (by simp [ho]) hd hgo fun {β own S a w} H => ?_
          have hpr := hp H
          simp only [rel] at hpr
          obtain ⟨B, b, h1, h2, h3⟩ := hpr
          obtain ⟨B', h4, b', arr, T, h5, h6, h6', h7, h8, h9⟩ := H.mem.obj _ _ hgo
          rw [h1] at h4; cases h4
          rw [h2] at h5; cases h5
          obtain ⟨hy1, hy2⟩ := zeX hvs (hs H)
          have hlen := zaL _ _ hy1
          obtain ⟨hp1, hp2⟩ := zfr _ _ _ _ hr
          have hp3 := hp2.resolve_left hne
          have hcl := zaL _ _ h9
          have hle : sub + (a.eval y).cells.toList.length <= arr.size := by rw [hlen]; simp at hcl; omega
          simp only [Nat.zero_mul, Nat.zero_add] at h3
          refine ⟨_, B, fin H h8 h3 hle, h1, zbX, fun c hc => zbL (fun e => hc (by rw [h7, e]; rfl)), rfl, rfl, rfl, fun e => ?_⟩
          refine ⟨b, _, T, h2, ?_, h6', h7, setRow_heap _ _ _ _ _ _ h8, ?_⟩
          . rw [h6, hp1]; simp; omega
          . rw [List.toList_toArray, hp1, <- hlen]
            exact zbC _ _ _ _ (zbC _ _ _ _ (zei _ _ _ (zbK e _ _ h9)) (zbK e _ _ hy1)) (zeh _ _ _ (zbK e _ _ h9))
        . cases h
      . cases h
    . rename_i s0 L hgo
      split at h
      . rename_i cs hcs
        split at h
        . rename_i r hr
          cases h
          refine zhH (by simp [ho]) hd hgo fun {β own S a w} H => ?_
          have hpr := hp H
          simp only [rel] at hpr
          obtain ⟨B, b, h1, h2, h3⟩ := hpr
          obtain ⟨B', h4, h5⟩ := H.mem.obj _ _ hgo
          rw [h1] at h4; cases h4
          rcases h5 with ⟨h5, _⟩ | ⟨b', arr, T, h5, h6, h7, h8, h8', h8'', h9⟩
          . rw [h2] at h5; cases h5
          rw [h2] at h5; cases h5
          obtain ⟨hy1, hy2⟩ := zeX hvs (hs H)
          rw [zbx] at hcs
          obtain ⟨hq1, hq2⟩ := ziY _ _ _ _ _ _ _ _ _ h9 hcs hr hne hy1
          rw [h6] at h3
          refine ⟨_, B, fin H h8 h3 (by simpa using hq2), h1, zbX, fun c hc => zbL (fun e => hc (by rw [h7, e]; rfl)), rfl, rfl, rfl, fun e => ?_⟩
          refine .inr ⟨b, _, T, h2, h6, h7, setRow_heap _ _ _ _ _ _ h8, ?_, by rw [zgx]; simpa using h8'', ?_⟩
          . simp at hq2 ⊢; omega
          . rw [List.toList_toArray, zgx]; exact zfJ e _ _ _ hq1
        . cases h
      . cases h
    . rename_i s0 L hgo
      split at h
      . cases h
      rename_i ps hps
      cases h with
      | ex e he h =>
        dsimp only at h
        split at h
        . rename_i r hr
          cases h
          refine zhH (by simp [ho]) hd hgo fun {β own S a w} H => ?_
          have hpr := hp H
          simp only [rel] at hpr
          obtain ⟨B, b, h1, h2, h3⟩ := hpr
          obtain ⟨B', h4, h5⟩ := H.mem.obj _ _ hgo
          rw [h1] at h4; cases h4
          rcases h5 with ⟨h5, _⟩ | ⟨b', arr, T, h5, h6, h7, h8, h8', h8'', h9⟩
          . rw [h2] at h5; cases h5
          rw [h2] at h5; cases h5
          obtain ⟨hy1, hy2⟩ := zeX hvs (hs H)
          have hlen := zaL _ _ hy1
          obtain ⟨hy3, hy4⟩ := zii hps hy1
          obtain ⟨hq1, hq2⟩ := zld _ _ _ _ _ _ _ _ _ h9 he hr (by intro e; subst e; apply hne; exact List.length_eq_zero_iff.1 (by simpa using hy4.symm)) hy3 (by rw [hlen, hy4])
          rw [h6] at h3
          refine ⟨_, B, fin H h8 h3 (by simpa using hq2), h1, zbX, fun c hc => zbL (fun e => hc (by rw [h7, e]; rfl)), rfl, rfl, rfl, fun e => ?_⟩
          refine .inr ⟨b, _, T, h2, h6, h7, setRow_heap _ _ _ _ _ _ h8, ?_, by simpa using h8'', ?_⟩
          . simp at hq2 ⊢; omega
          . rw [List.toList_toArray]; exact za6 e.st e.heap _ _ _ hq1
        . cases h
    . cases h
end
end Go.Sx
namespace Go.Sx
open Go
section
variable {C : Ctx} {gt : GT} {go : GO} {o : Oper} {fresh : Nat} {R : List Loc} {v : Option SV} {os : List (Nat × Option SO)} {k : Nat}
theorem ztW {x : Operand} (ho : o.op = .nilCheck x) (h : (MO.rt C.toEnv fresh (.nchk (cX x))).Runs gt go R v os k) (hd : zau C o.dst v) : zaD C o fresh gt go v os k := by
 simp only [MO.rt] at h
 replace h := zap h
 obtain ⟨s, R', h, hx⟩ := h
 have fin : ∀ {v os k}, (zaC s).Runs gt go R' v os k -> zau C o.dst v -> (∀ {β own S a w}, zah C gt go β own S a w -> ((∃ p, a.eval x = .pointer (some p)) \/ (∃ f y z, a.eval x = .func (.func f) y z) \/ ∃ f y z, a.eval x = .func (.yield f) y z)) -> zaD C o fresh gt go v os k := by
  intro v os k h hd hv
  obtain ⟨rfl, rfl, rfl⟩ := zat h
  refine zaJ (by simp [ho]) hd fun {β own S a w} H => ⟨a.eval x, ?_, hx H⟩
  rcases hv H with ⟨p, e⟩ | ⟨f, y, z, e⟩ | ⟨f, y, z, e⟩ <;> simp [execOp, ho, e]
 split at h
 . exact fin h hd fun H => by have := hx H; simp only [rel] at this; obtain ⟨B, b, _, _, e⟩ := this; exact .inl ⟨_, e⟩
 . exact fin h hd fun H => by have := hx H; simp only [rel] at this; obtain ⟨b, off, arr, T, fz, e, _⟩ := this; exact .inl ⟨_, e⟩
 . exact fin h hd fun H => by have := hx H; simp only [rel] at this; obtain ⟨b, off, arr, T, fz, e, _⟩ := this; exact .inl ⟨_, e⟩
 . exact fin h hd fun H => by have := hx H; simp only [rel] at this; obtain ⟨y, z, e, _⟩ := this; exact .inr (.inl ⟨_, y, z, e⟩)
 . exact fin h hd fun H => by have := hx H; simp only [rel] at this; obtain ⟨y, z, e, _⟩ := this; exact .inr (.inr ⟨_, y, z, e⟩)
 . cases h
def znK (P : Program) (t : TypeId) (f off : Nat) : Prop := ∃ fs fd i, P.underlying t = some (.struct fs) /\ fs[f]? = some fd /\ fd.offset = off /\ P.info? fd.type = some i /\ i.size ≠ 0
theorem ziz {P : Program} {t : TypeId} {f off : Nat} (h : znK P t f off) {b o : Nat} {w : World} :
 (Instr.fieldAt t (.pointer (some ⟨b, o, none⟩)) f).run P w = .ok (.pointer (some ⟨b, o + off, none⟩)) w := by
  obtain ⟨fs, fd, i, h1, h2, h3, h4, h5⟩ := h
  simp [Instr.fieldAt, run_underlying h1, h2, Instr.sureAddr, fieldPlace, sizeOf, typeInfo, h4, h5, Addr.add_mid, h3]
theorem zw1 {x : Operand} {t : TypeId} {f off : Nat} (ho : o.op = .fieldAddr t x f) (hf : znK C.P t f off) (h : (MO.rt C.toEnv fresh (.fld off (cX x))).Runs gt go R v os k) (hd : zau C o.dst v) : zaD C o fresh gt go v os k := by
 simp only [MO.rt] at h
 replace h := zap h
 obtain ⟨s, R', h, hx⟩ := h
 split at h
 . obtain ⟨rfl, rfl, rfl⟩ := zat h
   refine zaJ (by simp [ho]) hd fun {β own S a w} H => ?_
   have := hx H
   simp only [rel] at this
   obtain ⟨B, b, h1, h2, e⟩ := this
   refine ⟨_, (by simp [execOp, ho, e, ziz hf]; rfl), ?_⟩
   simp only [rel]
   exact ⟨B, b, h1, h2, by simp [Nat.add_assoc]⟩
 . obtain ⟨rfl, rfl, rfl⟩ := zat h
   refine zaJ (by simp [ho]) hd fun {β own S a w} H => ?_
   have := hx H
   simp only [rel] at this
   obtain ⟨b, off', arr, T, fz, e, h1⟩ := this
   refine ⟨_, (by simp [execOp, ho, e, ziz hf]; rfl), ?_⟩
   simp only [rel]
   exact ⟨b, off', arr, T, fz, by simp [Nat.add_assoc], h1⟩
 . cases h
theorem zmM {P : Program} {w : World} {t : TypeId} {n : Option Nat} (hl : zhk P t n) {β S} {cs : List SV} {xs : Array Value} (hr : zam β w S cs xs.toList) {off : Nat} {gt go R v os k}
 (h : (zb1 cs off n).Runs gt go R v os k) : ∃ s, v = some s /\ os = [] /\ k = 0 /\ ∃ y, (part t xs off).run P w = .ok y w /\ rel β w S s y := by
  obtain ⟨d, hu, hd⟩ := hl.ok
  cases n with
  | none =>
    simp only [zb1] at h
    split at h
    . rename_i c hc
      obtain ⟨rfl, rfl, rfl⟩ := zat h
      rw [zbx] at hc
      obtain ⟨y, h1, h2⟩ := zd6 _ _ _ _ hr hc
      refine ⟨c, rfl, rfl, rfl, y, ?_, h2⟩
      have hagg : (isAgg t).run P w = .ok false w := by
       unfold isAgg
       rw [Sem.run_bind, run_underlying hu w]
       cases d <;> simp_all
      have h3 : xs[off]? = some y := by simpa using h1
      simp [part, hagg, h3]
    . cases h
  | some n =>
    simp only [zb1] at h
    split at h
    . rename_i c hc
      obtain ⟨rfl, rfl, rfl⟩ := zat h
      obtain ⟨h1, h2⟩ := zh8 _ _ _ _ hc
      have h3 := zei _ _ n (zeh _ _ off hr)
      rw [<- h1] at h3
      have hagg : (isAgg t).run P w = .ok true w := by
       unfold isAgg
       rw [Sem.run_bind, run_underlying hu w]
       cases d <;> simp_all
      have hs := hd.2
      cases hq : P.info? t with
      | none => simp [hq] at hs
      | some i =>
        have hs' : i.size = n := by simpa [hq] using hs
        refine ⟨.agg c, rfl, rfl, rfl, .agg (xs.extract off (off + n)), by simp [part, hagg, sizeOf, typeInfo, hq, hs'], ?_⟩
        simp only [rel]
        refine ⟨_, rfl, ?_⟩
        rw [Array.toList_extract]
        have : off + n - off = n := by omega
        simpa [List.extract, this] using h3
    . cases h
theorem zk5 {cs : List SV} {sub : Nat} {n : Option Nat} {R v os k} (h : (zb1 cs sub n).Runs gt go R v os k) : ∃ s, v = some s /\ os = [] /\ k = 0 := by
 cases n <;> simp only [zb1] at h <;> split at h <;> first | (cases h; done) | (obtain ⟨rfl, rfl, rfl⟩ := zat h; exact ⟨_, rfl, rfl, rfl⟩)
def zuk (P : Program) (t : TypeId) (f off : Nat) (n : Option Nat) : Prop := ∃ fs fd, P.underlying t = some (.struct fs) /\ fs[f]? = some fd /\ fd.offset = off /\ zhk P fd.type n
theorem ztM {x : Operand} {t : TypeId} {f off : Nat} {n : Option Nat} (ho : o.op = .field t x f) (hf : zuk C.P t f off n) (h : (MO.rt C.toEnv fresh (.fldv off n (cX x))).Runs gt go R v os k) (hd : zau C o.dst v) : zaD C o fresh gt go v os k := by
 simp only [MO.rt] at h
 replace h := zap h
 obtain ⟨s, R', h, hx⟩ := h
 split at h
 . rename_i cs
   obtain ⟨s, rfl, rfl, rfl⟩ := zk5 h
   obtain ⟨fs, fd, h1, h2, h3, h4⟩ := hf
   refine zaJ (by simp [ho]) hd fun {β own S a w} H => ?_
   have := hx H
   simp only [rel] at this
   obtain ⟨xs, e, hr⟩ := this
   obtain ⟨s', e1, _, _, y, h5, h6⟩ := zmM (P := C.P) h4 hr h
   cases e1
   exact ⟨y, by simp [execOp, ho, e, Instr.field, run_underlying h1, h2, asAgg, h3, h5], h6⟩
 . cases h
def zlm (P : Program) (t : TypeId) (s : Nat) : Prop := ∃ e i, P.underlying t = some (.slice e) /\ P.info? e = some i /\ i.size = s
def zr9 (P : Program) (t : TypeId) (len s : Nat) : Prop := ∃ e i, P.underlying t = some (.array len e) /\ P.info? e = some i /\ i.size = s
theorem zpF {B : zay} {st len : Nat} {x : Value} (h : zaV B st len x) {i : Nat} (hi : i < len) : ∃ b cap, B.blk = some b /\ x = .slice (some ⟨b, st * B.str, none⟩) len cap /\ len <= cap /\ st + cap <= B.cap := by
 unfold zaV at h
 cases hb : B.blk with
 | none => rw [hb] at h; obtain ⟨_, _, rfl⟩ := h; omega
 | some b =>
   rw [hb] at h
   obtain ⟨off, cap, rfl, h1, h2, h3⟩ := h
   rcases h3 with h3 | h3
   . omega
   . subst h3; exact ⟨b, cap, rfl, rfl, h1, h2⟩
theorem zfb {P : Program} {t : TypeId} {s : Nat} (h : zlm P t s) {b o : Nat} {k : IntKind} {i : Int} {len cap : Nat} (h0 : 0 <= i) (h1 : i < len) {w : World} :
 (Instr.indexAt t (.slice (some ⟨b, o, none⟩) len cap) (.int k i)).run P w = .ok (.pointer (some ⟨b, o + i.toNat * s, none⟩)) w := by
  obtain ⟨e, i', h2, h3, h4⟩ := h
  simp [Instr.indexAt, asIntOf, run_underlying h2, h0, h1, sizeOf, typeInfo, h3, h4, Addr.add_mid]
theorem zw2 {x y : Operand} {t : TypeId} {s : Nat} (ho : o.op = .indexAddr t x y) (hi : zlm C.P t s) (h : (MO.rt C.toEnv fresh (.ixa s (cX x) (cX y))).Runs gt go R v os k) (hd : zau C o.dst v) : zaD C o fresh gt go v os k := by
 simp only [MO.rt] at h
 replace h := zap h
 obtain ⟨sx, R1, h, hx⟩ := h
 replace h := zap h
 obtain ⟨sy, R2, h, hy⟩ := h
 split at h
 . rename_i ki i
   have slcCase : ∀ {id b0 ln} {v os k R}, (∀ {β own S a w}, zah C gt go β own S a w -> rel β w S (.slc id b0 ln) (a.eval x)) -> (∀ {β own S a w}, zah C gt go β own S a w -> ∀ B, β id = some B -> B.blk.isSome -> B.str = s) →
    (RT.req (0 <= i /\ i < ln) (zaC (.ptr id (b0 + i.toNat) 0))).Runs gt go R v os k -> zau C o.dst v -> zaD C o fresh gt go v os k := by
     intro id b0 ln v os k R hx hs h hd
     cases h with
     | req hp h =>
       obtain ⟨rfl, rfl, rfl⟩ := zat h
       refine zaJ (by simp [ho]) hd fun {β own S a w} H => ?_
       have h1 := hx H
       have h2 := hy H
       simp only [rel] at h1 h2
       obtain ⟨B, hB, h1⟩ := h1
       obtain ⟨b, cap, hb, e, hlc, hcap⟩ := zpF h1 (i := i.toNat) (by omega)
       have hstr := hs H B hB (by simp [hb])
       refine ⟨_, (by simp [execOp, ho, e, h2, zfb hi hp.1 hp.2]; rfl), ?_⟩
       simp only [rel]
       refine ⟨B, b, hB, hb, ?_⟩
       rw [hstr, Nat.add_mul, Nat.add_zero]
   split at h
   . cases h with
     | rO h =>
       dsimp only at h
       split at h
       . rename_i s' L hgo
         simp only [eqN] at h
         split at h
         . rename_i hs
           have hs := Nat.eq_of_beq_eq_true hs
           exact slcCase hx (fun {β own S a w} H B hB hb => by
            obtain ⟨B', h4, h5⟩ := H.mem.obj _ _ hgo
            rw [hB] at h4; cases h4
            rcases h5 with ⟨h5, _⟩ | ⟨b', arr, T, h5, h6, _⟩
            . rw [h5] at hb; cases hb
            . rw [h6, hs]) h hd
         . cases h
       . rename_i s' L hgo
         simp only [eqN] at h
         split at h
         . rename_i hs
           have hs := Nat.eq_of_beq_eq_true hs
           exact slcCase hx (fun {β own S a w} H B hB hb => by
            obtain ⟨B', h4, h5⟩ := H.mem.obj _ _ hgo
            rw [hB] at h4; cases h4
            rcases h5 with ⟨h5, _⟩ | ⟨b', arr, T, h5, h6, _⟩
            . rw [h5] at hb; cases hb
            . rw [h6, hs]) h hd
         . cases h
       . cases h
   . rename_i s' L
     cases h with
     | ex e he h =>
       obtain ⟨rfl, h0, hL⟩ := he
       obtain ⟨rfl, rfl, rfl⟩ := zat h
       refine zaJ (by simp [ho]) hd fun {β own S a w} H => ?_
       have h1 := hx H
       have h2 := hy H
       simp only [rel, zaR] at h1 h2
       obtain ⟨ad, cap, e1, hcap, hne, _⟩ := h1
       have hlt : i.toNat < L.length := (List.getElem?_eq_some_iff.1 hL).1
       obtain ⟨b, off, arr, T, fz, rfl, hS, hw, hr⟩ := hne (by intro e; subst e; simp at hlt)
       refine ⟨_, (by simp [execOp, ho, e1, h2, zfb hi h0 (show i < (L.length : Int) by omega)]; rfl), ?_⟩
       simp only [rel]
       obtain ⟨_, h3⟩ := zf1 _ _ _ _ _ hr hL
       rw [List.drop_drop] at h3
       exact ⟨b, off + i.toNat * s, arr, T, fz, by simp, hS, hw, h3⟩
   . cases h
 . cases h
theorem zeD {P : Program} {t : TypeId} {len s : Nat} (h : zr9 P t len s) {b o : Nat} {k : IntKind} {i : Int} (h0 : 0 <= i) (h1 : i < len) {w : World} :
 (Instr.indexAt t (.pointer (some ⟨b, o, none⟩)) (.int k i)).run P w = .ok (.pointer (some ⟨b, o + i.toNat * s, none⟩)) w := by
  obtain ⟨e, i', h2, h3, h4⟩ := h
  simp [Instr.indexAt, asIntOf, run_underlying h2, h0, h1, sizeOf, typeInfo, h3, h4, Addr.add_mid, Instr.sureAddr]
theorem zw3 {x y : Operand} {t : TypeId} {ln s : Nat} (ho : o.op = .indexAddr t x y) (hi : zr9 C.P t ln s) (h : (MO.rt C.toEnv fresh (.ixr ln s (cX x) (cX y))).Runs gt go R v os k) (hd : zau C o.dst v) : zaD C o fresh gt go v os k := by
 simp only [MO.rt] at h
 replace h := zap h
 obtain ⟨sx, R1, h, hx⟩ := h
 replace h := zap h
 obtain ⟨sy, R2, h, hy⟩ := h
 split at h
 . rename_i ki i
   split at h
   . cases h with
     | req hp h =>
       obtain ⟨rfl, rfl, rfl⟩ := zat h
       refine zaJ (by simp [ho]) hd fun {β own S a w} H => ?_
       have h1 := hx H
       have h2 := hy H
       simp only [rel] at h1 h2
       obtain ⟨B, b, hB, hb, e⟩ := h1
       refine ⟨_, (by simp [execOp, ho, e, h2, zeD hi hp.1 hp.2]; rfl), ?_⟩
       simp only [rel]
       exact ⟨B, b, hB, hb, by simp [Nat.add_assoc]⟩
   . cases h with
     | req hp h =>
       obtain ⟨rfl, rfl, rfl⟩ := zat h
       refine zaJ (by simp [ho]) hd fun {β own S a w} H => ?_
       have h1 := hx H
       have h2 := hy H
       simp only [rel] at h1 h2
       obtain ⟨b, off, arr, T, fz, e, h1⟩ := h1
       refine ⟨_, (by simp [execOp, ho, e, h2, zeD hi hp.1 hp.2]; rfl), ?_⟩
       simp only [rel]
       exact ⟨b, off, arr, T, fz, by simp [Nat.add_assoc], h1⟩
   . rename_i s' L
     cases h with
     | ex e he h =>
       obtain ⟨rfl, h0, hlt, hL⟩ := he
       obtain ⟨rfl, rfl, rfl⟩ := zat h
       refine zaJ (by simp [ho]) hd fun {β own S a w} H => ?_
       have h1 := hx H
       have h2 := hy H
       simp only [rel] at h1 h2
       obtain ⟨b, off, arr, T, fz, e1, hS, hw, hr⟩ := h1
       refine ⟨_, (by simp [execOp, ho, e1, h2, zeD hi h0 hlt]; rfl), ?_⟩
       simp only [rel]
       obtain ⟨_, h3⟩ := zf1 _ _ _ _ _ hr hL
       rw [List.drop_drop] at h3
       exact ⟨b, off + i.toNat * s, arr, T, fz, by simp, hS, hw, h3⟩
   . cases h
 . cases h
def zyn (P : Program) (t : TypeId) (len s : Nat) (n : Option Nat) : Prop := ∃ e i, P.underlying t = some (.array len e) /\ P.info? e = some i /\ i.size = s /\ zhk P e n
theorem zw5 {x y : Operand} {t : TypeId} {ln s : Nat} {n : Option Nat} (ho : o.op = .index t x y) (hi : zyn C.P t ln s n) (h : (MO.rt C.toEnv fresh (.ixv ln s n (cX x) (cX y))).Runs gt go R v os k) (hd : zau C o.dst v) : zaD C o fresh gt go v os k := by
 simp only [MO.rt] at h
 replace h := zap h
 obtain ⟨sx, R1, h, hx⟩ := h
 replace h := zap h
 obtain ⟨sy, R2, h, hy⟩ := h
 split at h
 . rename_i ki i
   split at h
   . cases h with
     | req hp h =>
       obtain ⟨s', rfl, rfl, rfl⟩ := zk5 h
       obtain ⟨e, i', h5, h6, h7, h8⟩ := hi
       refine zaJ (by simp [ho]) hd fun {β own S a w} H => ?_
       have h1 := hx H
       have h2 := hy H
       simp only [rel] at h1 h2
       obtain ⟨xs, e1, hr⟩ := h1
       obtain ⟨s'', e2, _, _, y', h9, h10⟩ := zmM (P := C.P) h8 hr h
       cases e2
       refine ⟨y', ?_, h10⟩
       simp [execOp, ho, e1, h2, Instr.index, asIntOf, run_underlying h5, hp.1, hp.2, sizeOf, typeInfo, h6, h7, h9]
   . cases h
 . cases h
end
end Go.Sx
