/- Part 2 of 11 of a proof of the law AllocTwice: what the last part leans on. -/
import Derived.Test.YtlahifihaeafbaaGreatDoorZa
import Derived.RangeFuncCalls
set_option linter.all false
set_option maxRecDepth 100000
namespace Go.Sx
open Go
theorem zdH {k k' : IntKind} (h : zey k k' = true) : k = k' := by
 cases k <;> cases k' <;> first | rfl | (simp [zey] at h)
theorem zeL {β w S} {s : SV} {p : Prop} (h : s.prop = some p) {x : Value} (hx : rel β w S s x) : ∃ b, x = .bool b /\ (b = true ↔ p) := by
 cases s <;> simp only [SV.prop, Option.some.injEq, reduceCtorEq] at h <;> simp only [rel] at hx
 case bool => subst h; exact ⟨_, hx, Iff.rfl⟩
 case pr => subst h; exact hx
 case tt => subst h; exact ⟨true, hx, by simp⟩
 case ff => subst h; exact ⟨false, hx, by simp⟩
theorem zkh {β w S} {s s' : SV} (h : zjJ s = some s') {x : Value} (hx : rel β w S s x) : ∃ b, x = .bool b /\ rel β w S s' (.bool !b) := by
 cases s <;> simp only [zjJ, Option.some.injEq, reduceCtorEq] at h <;> simp only [rel] at hx
 case bool b => subst h; exact ⟨b, hx, by simp [rel]⟩
 case pr p =>
  subst h
  obtain ⟨b, rfl, hb⟩ := hx
  refine ⟨b, rfl, ?_⟩
  simp only [rel]
  exact ⟨!b, rfl, by cases b <;> simp_all⟩
 case tt => subst h; exact ⟨true, hx, by simp [rel]⟩
 case ff => subst h; exact ⟨false, hx, by simp [rel]⟩
theorem zgw {β w S} {p : Prop} {b : Bool} (h : b = true ↔ p) : rel β w S (.pr p) (.bool b) := by simp only [rel]; exact ⟨b, rfl, h⟩
section
variable {C : Ctx} {gt : GT} {go : GO} {o : Oper} {fresh : Nat} {R : List Loc} {v : Option SV} {os : List (Nat × Option SO)} {k : Nat}
theorem zkd {op : BinOp} {t : TypeId} {x y : Operand} {a b : Value} {P : Program} {w : World} (h : (∀ xs ys, ¬ (a = .agg xs /\ b = .agg ys))) (h' : a ≠ .nilIface) :
 (eqGuard op t x y a b).run P w = .ok () w := by
  unfold eqGuard
  cases op <;> simp <;> cases a <;> simp_all <;> cases b <;> simp_all
theorem zcO {op : BinOp} {t : TypeId} {x y : Operand} {ty : TypeId} {a : Act} {P : Program} {w : World} (ho : o.op = .binOp op t x y ty)
 (h : (∀ xs ys, ¬ (a.eval x = .agg xs /\ a.eval y = .agg ys))) (h' : a.eval x ≠ .nilIface) {z : Value} (hr : (binOp op t (a.eval x) (a.eval y)).run P w = .ok z w) :
 (execOp a.eval o).run P w = .ok (.value z) w := by
  simp [execOp, ho, zkd h h', hr]
theorem zdS {k1 k2 : IntKind} {r : RT} {R v os k} (h : ((match zey k1 k2 with | false => RT.fail | true => r) : RT).Runs gt go R v os k) : k1 = k2 /\ r.Runs gt go R v os k := by
 split at h
 . cases h
 . exact ⟨zdH ‹_›, h⟩
theorem zi5 {P : Program} {w : World} {t : TypeId} (hu : P.underlying t = some .bool) (a b : Bool) (d : Nat) : (Op.equalIn (d + 1) t (.bool a) (.bool b)).run P w = .ok (a == b) w := by
 simp only [Op.equalIn, Sem.run_bind, run_underlying hu, Result.andThen_ok, Sem.run_pure]
theorem zmL {P : Program} {w : World} {t : TypeId} (hu : P.underlying t = some .bool) (a b : Bool) : (Op.equal t (.bool a) (.bool b)).run P w = .ok (a == b) w :=
 zi5 hu a b 9999
theorem zd9 {kd : IntKind} {n : Int} (h : (zeG kd n).Runs gt go R v os k) : ∃ R', (zaC (.int kd (kd.wrap n))).Runs gt go R' v os k := by
 unfold zeG at h
 cases h with
 | ex z hz h => dsimp only at h hz; rw [hz] at h; exact ⟨_, h⟩
theorem zzf {op : BinOp} {t ty : TypeId} {x y : Operand} (ho : o.op = .binOp op t x y ty) (h : (MO.rt C.toEnv fresh (.ar op (cX x) (cX y))).Runs gt go R v os k) (hd : zau C o.dst v) : zaD C o fresh gt go v os k := by
 simp only [MO.rt] at h
 replace h := zap h
 obtain ⟨sx, R1, h, hx⟩ := h
 replace h := zap h
 obtain ⟨sy, R2, h, hy⟩ := h
 split at h
 . rename_i k1 n k2 m
   have ev : ∀ {β own S a w}, zah C gt go β own S a w -> a.eval x = .int k1 n /\ a.eval y = .int k2 m := fun H => by
    have h1 := hx H; have h2 := hy H
    simp only [rel] at h1 h2
    exact ⟨h1, h2⟩
   have fin : ∀ {R v os k r}, (zaC (.int k1 r)).Runs gt go R v os k -> zau C o.dst v -> (∀ {w}, (binOp op t (.int k1 n) (.int k2 m)).run C.P w = .ok (.int k1 r) w) -> zaD C o fresh gt go v os k := by
    intro R v os k r h hd hr
    obtain ⟨rfl, rfl, rfl⟩ := zat h
    refine zaJ (by simp [ho]) hd fun {β own S a w} H => ?_
    obtain ⟨h1, h2⟩ := ev H
    refine ⟨_, zcO ho (by simp [h1]) (by simp [h1]) (by rw [h1, h2]; exact hr), by simp [rel]⟩
   cases op <;> simp only [zvx] at h
   case shl =>
    cases h with
    | req hp h => obtain ⟨R', h⟩ := zd9 h; exact fin h hd (fun {w} => by have : ¬ m < 0 := (by omega); simp [binOp, Op.shift, this])
   case shr =>
    cases h with
    | req hp h => exact fin h hd (fun {w} => by have : ¬ m < 0 := (by omega); simp [binOp, Op.shift, this])
   case add => obtain ⟨hk, h'⟩ := zdS h; subst hk; obtain ⟨R', h'⟩ := zd9 h'; exact fin h' hd (fun {w} => by simp [binOp, Op.intArith])
   case sub => obtain ⟨hk, h'⟩ := zdS h; subst hk; obtain ⟨R', h'⟩ := zd9 h'; exact fin h' hd (fun {w} => by simp [binOp, Op.intArith])
   case mul => obtain ⟨hk, h'⟩ := zdS h; subst hk; obtain ⟨R', h'⟩ := zd9 h'; exact fin h' hd (fun {w} => by simp [binOp, Op.intArith])
   case quo =>
    obtain ⟨hk, h'⟩ := zdS h; subst hk
    cases h' with
    | req hp h => obtain ⟨R', h⟩ := zd9 h; exact fin h hd (fun {w} => by simp [binOp, Op.intDiv, hp])
   case rem =>
    obtain ⟨hk, h'⟩ := zdS h; subst hk
    cases h' with
    | req hp h => exact fin h hd (fun {w} => by simp [binOp, Op.intDiv, hp])
   case and => obtain ⟨hk, h'⟩ := zdS h; subst hk; exact fin h' hd (fun {w} => by simp [binOp, Op.intBits, zer])
   case or => obtain ⟨hk, h'⟩ := zdS h; subst hk; exact fin h' hd (fun {w} => by simp [binOp, Op.intBits, zer])
   case xor => obtain ⟨hk, h'⟩ := zdS h; subst hk; exact fin h' hd (fun {w} => by simp [binOp, Op.intBits, zer])
   case andNot => obtain ⟨hk, h'⟩ := zdS h; subst hk; exact fin h' hd (fun {w} => by simp [binOp, Op.intBits, zer])
   all_goals (obtain ⟨hk, h'⟩ := zdS h; cases h')
 . cases h
theorem zwX {op : BinOp} {t ty : TypeId} {x y : Operand} (ho : o.op = .binOp op t x y ty) (h : (MO.rt C.toEnv fresh (.cmp op (cX x) (cX y))).Runs gt go R v os k) (hd : zau C o.dst v) : zaD C o fresh gt go v os k := by
 simp only [MO.rt] at h
 replace h := zap h
 obtain ⟨sx, R1, h, hx⟩ := h
 replace h := zap h
 obtain ⟨sy, R2, h, hy⟩ := h
 split at h
 . rename_i k1 n k2 m
   split at h
   . rename_i hk
     have hk := zdH hk
     subst hk
     have ev : ∀ {β own S a w}, zah C gt go β own S a w -> a.eval x = .int k1 n /\ a.eval y = .int k1 m := fun H => by
      have h1 := hx H; have h2 := hy H
      simp only [rel] at h1 h2
      exact ⟨h1, h2⟩
     have fin : ∀ {R v os k} {p : Prop} {b : Bool}, (zaC (.pr p)).Runs gt go R v os k -> zau C o.dst v -> (b = true ↔ p) -> (∀ {w}, (binOp op t (.int k1 n) (.int k1 m)).run C.P w = .ok (.bool b) w) -> zaD C o fresh gt go v os k := by
      intro R v os k p b h hd hb hr
      obtain ⟨rfl, rfl, rfl⟩ := zat h
      refine zaJ (by simp [ho]) hd fun {β own S a w} H => ?_
      obtain ⟨h1, h2⟩ := ev H
      exact ⟨_, zcO ho (by simp [h1]) (by simp [h1]) (by rw [h1, h2]; exact hr), zgw hb⟩
     cases op <;> simp only [zsp] at h
     case eql => exact fin (b := n == m) h hd (by simp) (fun {w} => by simp [binOp, Op.intCmp])
     case neq => exact fin (b := n != m) h hd (by simp) (fun {w} => by simp [binOp, Op.intCmp])
     case lss => exact fin (b := decide (n < m)) h hd (by simp) (fun {w} => by simp [binOp, Op.intCmp])
     case leq => exact fin (b := decide (n <= m)) h hd (by simp) (fun {w} => by simp [binOp, Op.intCmp])
     case gtr => exact fin (b := decide (m < n)) h hd (by simp) (fun {w} => by simp [binOp, Op.intCmp])
     case geq => exact fin (b := decide (m <= n)) h hd (by simp) (fun {w} => by simp [binOp, Op.intCmp])
     all_goals cases h
   . cases h
 . cases h
theorem zpv {neg : Bool} {t ty : TypeId} {x y : Operand} (ho : o.op = .binOp (if neg then .neq else .eql) t x y ty) (hu : C.P.underlying t = some .bool)
 (h : (MO.rt C.toEnv fresh (.eqb neg (cX x) (cX y))).Runs gt go R v os k) (hd : zau C o.dst v) : zaD C o fresh gt go v os k := by
  simp only [MO.rt] at h
  replace h := zap h
  obtain ⟨sx, R1, h, hx⟩ := h
  replace h := zap h
  obtain ⟨sy, R2, h, hy⟩ := h
  split at h
  . rename_i s hs
    obtain ⟨rfl, rfl, rfl⟩ := zat h
    refine zaJ (by simp [ho]) hd fun {β own S a w} H => ?_
    have key : ∃ b1 b2, a.eval x = .bool b1 /\ a.eval y = .bool b2 /\ rel β w S s (.bool (if neg then b1 != b2 else b1 == b2)) := by
     have h1 := hx H; have h2 := hy H
     unfold zsy at hs
     split at hs
     . simp only [rel] at h1
       cases neg
       . simp only at hs
         split at hs
         . rename_i q hq
           simp only [Option.some.injEq] at hs
           subst hs
           obtain ⟨b, e, _⟩ := zeL hq h2
           exact ⟨true, b, h1, e, by rw [e] at h2; simpa using h2⟩
         . cases hs
       . obtain ⟨b, e, hr⟩ := zkh hs h2
         exact ⟨true, b, h1, e, by simpa using hr⟩
     . simp only [rel] at h1
       cases neg
       . obtain ⟨b, e, hr⟩ := zkh hs h2
         exact ⟨false, b, h1, e, by simpa using hr⟩
       . simp only at hs
         split at hs
         . rename_i q hq
           simp only [Option.some.injEq] at hs
           subst hs
           obtain ⟨b, e, _⟩ := zeL hq h2
           exact ⟨false, b, h1, e, by rw [e] at h2; simpa using h2⟩
         . cases hs
     . split at hs
       . rename_i p q hp hq
         obtain ⟨b1, e1, i1⟩ := zeL hp h1
         obtain ⟨b2, e2, i2⟩ := zeL hq h2
         refine ⟨b1, b2, e1, e2, ?_⟩
         cases neg <;> simp only [Option.some.injEq] at hs <;> subst hs <;> refine zgw ?_ <;> rw [<- i1, <- i2] <;> cases b1 <;> cases b2 <;> simp
       . cases hs
    obtain ⟨b1, b2, e1, e2, hr⟩ := key
    refine ⟨_, zcO ho (by simp [e1]) (by simp [e1]) ?_, hr⟩
    rw [e1, e2]
    cases neg <;> simp only [binOp, Bool.false_eq_true, if_false, if_true] <;> simp [zmL hu] <;> cases b1 <;> cases b2 <;> rfl
  . cases h
theorem zxb {t : TypeId} {x : Operand} (ho : o.op = .unOp .not t x) (h : (MO.rt C.toEnv fresh (.not (cX x))).Runs gt go R v os k) (hd : zau C o.dst v) : zaD C o fresh gt go v os k := by
 simp only [MO.rt] at h
 replace h := zap h
 obtain ⟨sx, R1, h, hx⟩ := h
 split at h
 . rename_i s hs
   obtain ⟨rfl, rfl, rfl⟩ := zat h
   refine zaJ (by simp [ho]) hd fun {β own S a w} H => ?_
   obtain ⟨b, e, hr⟩ := zkh hs (hx H)
   exact ⟨.bool (!b), by simp [execOp, ho, e, Op.unary], hr⟩
 . cases h
theorem zzk {op : UnOp} {t : TypeId} {x : Operand} (ho : o.op = .unOp op t x) (h : (MO.rt C.toEnv fresh (.un op (cX x))).Runs gt go R v os k) (hd : zau C o.dst v) : zaD C o fresh gt go v os k := by
 simp only [MO.rt] at h
 replace h := zap h
 obtain ⟨sx, R1, h, hx⟩ := h
 split at h
 . rename_i k1 n
   cases op <;> simp only at h
   case neg =>
    obtain ⟨R', h⟩ := zd9 h
    obtain ⟨rfl, rfl, rfl⟩ := zat h
    refine zaJ (by simp [ho]) hd fun {β own S a w} H => ?_
    have h1 := hx H
    simp only [rel] at h1
    exact ⟨_, by simp [execOp, ho, h1, Op.unary, Op.intArith]; rfl, by simp [rel]⟩
   case xor =>
    obtain ⟨rfl, rfl, rfl⟩ := zat h
    refine zaJ (by simp [ho]) hd fun {β own S a w} H => ?_
    have h1 := hx H
    simp only [rel] at h1
    exact ⟨_, by simp [execOp, ho, h1, Op.unary, Op.intBits]; rfl, by simp [rel, zer]⟩
   all_goals cases h
 . cases h
theorem zrk {n : Int} {f : Int -> RT} (h : (zl9 n f).Runs gt go R v os k) : (f n).Runs gt go R v os k := by
 unfold zl9 at h
 split at h <;> exact h
theorem zwS {op : BinOp} {t ty : TypeId} {x y : Operand} (ho : o.op = .binOp op t x y ty) (h : (MO.rt C.toEnv fresh (.arl op (cX x) (cX y))).Runs gt go R v os k) (hd : zau C o.dst v) : zaD C o fresh gt go v os k := by
 simp only [MO.rt] at h
 replace h := zap h
 obtain ⟨sx, R1, h, hx⟩ := h
 replace h := zap h
 obtain ⟨sy, R2, h, hy⟩ := h
 split at h
 case h_2 => cases h
 rename_i n m
 have fin : ∀ {R v os k r}, (zaC (.int .i64 r)).Runs gt go R v os k -> zau C o.dst v -> (∀ {w}, (binOp op t (.int .i64 n) (.int .i64 m)).run C.P w = .ok (.int .i64 r) w) -> zaD C o fresh gt go v os k := by
  intro R v os k r h hd hr
  obtain ⟨rfl, rfl, rfl⟩ := zat h
  refine zaJ (by simp [ho]) hd fun {β own S a w} H => ?_
  have h1 := hx H; have h2 := hy H
  simp only [rel] at h1 h2
  refine ⟨_, zcO ho (by simp [h1]) (by simp [h1]) (by rw [h1, h2]; exact hr), by simp [rel]⟩
 cases op <;> simp only [zsG] at h <;> first | (cases h; done) | exact fin (zrk h) hd (fun {w} => by simp [binOp, Op.intArith])
theorem ztL {op : BinOp} {t ty : TypeId} {x y : Operand} (ho : o.op = .binOp op t x y ty) (h : (MO.rt C.toEnv fresh (.cmpl op (cX x) (cX y))).Runs gt go R v os k) (hd : zau C o.dst v) : zaD C o fresh gt go v os k := by
 simp only [MO.rt] at h
 replace h := zap h
 obtain ⟨sx, R1, h, hx⟩ := h
 replace h := zap h
 obtain ⟨sy, R2, h, hy⟩ := h
 split at h
 case h_2 => cases h
 rename_i k1 n k2 m
 split at h
 case h_2 => cases h
 rename_i hk
 have hk := zdH hk
 subst hk
 have fin : ∀ {R v os k} {b : Bool}, (zgR b).Runs gt go R v os k -> zau C o.dst v -> (∀ {w}, (binOp op t (.int k1 n) (.int k1 m)).run C.P w = .ok (.bool b) w) -> zaD C o fresh gt go v os k := by
  intro R v os k b h hd hr
  cases b with
  | true =>
    obtain ⟨rfl, rfl, rfl⟩ := zat h
    refine zaJ (by simp [ho]) hd fun {β own S a w} H => ?_
    have h1 := hx H; have h2 := hy H
    simp only [rel] at h1 h2
    refine ⟨_, zcO ho (by simp [h1]) (by simp [h1]) (by rw [h1, h2]; exact hr), by simp [rel]⟩
  | false =>
    obtain ⟨rfl, rfl, rfl⟩ := zat h
    refine zaJ (by simp [ho]) hd fun {β own S a w} H => ?_
    have h1 := hx H; have h2 := hy H
    simp only [rel] at h1 h2
    refine ⟨_, zcO ho (by simp [h1]) (by simp [h1]) (by rw [h1, h2]; exact hr), by simp [rel]⟩
 cases op <;> simp only [zo3] at h
 case eql => exact fin h hd (fun {w} => by simp [binOp, Op.intCmp]; rfl)
 case neq => exact fin h hd (fun {w} => by simp [binOp, Op.intCmp, bne]; congr)
 case lss => exact fin h hd (fun {w} => by simp [binOp, Op.intCmp])
 case leq => exact fin h hd (fun {w} => by simp [binOp, Op.intCmp])
 case gtr => exact fin h hd (fun {w} => by simp [binOp, Op.intCmp])
 case geq => exact fin h hd (fun {w} => by simp [binOp, Op.intCmp])
 all_goals cases h
theorem zzg {s t : TypeId} {kd : IntKind} {x : Operand} (ho : o.op = .convert s t x) (hs : ∃ d, C.P.underlying s = some d) (hu : C.P.underlying t = some (.int kd)) (h : (MO.rt C.toEnv fresh (.cv kd (cX x))).Runs gt go R v os k) (hd : zau C o.dst v) : zaD C o fresh gt go v os k := by
 simp only [MO.rt] at h
 replace h := zap h
 obtain ⟨sx, R1, h, hx⟩ := h
 obtain ⟨d, hs⟩ := hs
 split at h
 . rename_i k1 n
   obtain ⟨R', h⟩ := zd9 h
   obtain ⟨rfl, rfl, rfl⟩ := zat h
   refine zaJ (by simp [ho]) hd fun {β own S a w} H => ?_
   have h1 := hx H
   simp only [rel] at h1
   refine ⟨.int kd (kd.wrap n), ?_, by simp [rel]⟩
   simp [execOp, ho, h1, convert, run_underlying hs, run_underlying hu, Conv.intToInt]
 . cases h
theorem zw7 {f : Fn} {x y : Array Operand} (ho : o.op = .makeFunc f x y) (h : (MO.rt C.toEnv fresh (.mkf f (x.toList.map cX) (y.toList.map cX))).Runs gt go R v os k) (hd : zau C o.dst v) : zaD C o fresh gt go v os k := by
 simp only [MO.rt] at h
 replace h := zgv h
 obtain ⟨sx, R1, h, hx⟩ := h
 replace h := zgv h
 obtain ⟨sy, R2, h, hy⟩ := h
 obtain ⟨rfl, rfl, rfl⟩ := zat h
 refine zaJ (by simp [ho]) hd fun {β own S a w} H => ?_
 refine ⟨.func f (x.map a.eval) (y.map a.eval), by simp [execOp, ho, Instr.makeFunc], ?_⟩
 simp only [rel]
 exact ⟨_, _, rfl, by simpa using hx H, by simpa using hy H⟩
theorem zw8 {t : TypeId} {x : Operand} (ho : o.op = .makeInterface t x) (hu : ∃ d, C.P.underlying t = some d /\ ∀ ms, d ≠ .interface ms) (h : (MO.rt C.toEnv fresh (.mki t (cX x))).Runs gt go R v os k) (hd : zau C o.dst v) : zaD C o fresh gt go v os k := by
 simp only [MO.rt] at h
 replace h := zap h
 obtain ⟨sx, R1, h, hx⟩ := h
 obtain ⟨rfl, rfl, rfl⟩ := zat h
 obtain ⟨d, hu, hd'⟩ := hu
 refine zaJ (by simp [ho]) hd fun {β own S a w} H => ?_
 refine ⟨.iface t (a.eval x), ?_, ?_⟩
 . cases d <;> first | (simp [execOp, ho, Instr.makeInterface, run_underlying hu]; done) | exact absurd rfl (hd' _)
 . simp only [rel]; exact ⟨_, rfl, hx H⟩
theorem zkv {t : TypeId} {x : Operand} (ho : o.op = .call { callee := .builtin .len, args := #[x], argTypes := #[t] }) {a : Act} {w : World} {P : Program} {z : Value}
 (hz : (Builtin.len_ #[t] o.type #[a.eval x]).run P w = .ok z w) : (execOp a.eval o).run P w = .ok (.value z) w := by
  simp [execOp, ho, resolve, invoke, builtin, hz]
theorem ztO {t : TypeId} {x : Operand} (ho : o.op = .call { callee := .builtin .len, args := #[x], argTypes := #[t] }) (hl : ∃ e, C.P.underlying t = some (.slice e))
 (h : (MO.rt C.toEnv fresh (.lenS (cX x))).Runs gt go R v os k) (hd : zau C o.dst v) : zaD C o fresh gt go v os k := by
  simp only [MO.rt] at h
  replace h := zap h
  obtain ⟨sx, R1, h, hx⟩ := h
  obtain ⟨e, hl⟩ := hl
  have fin : ∀ {R v os k} {n : Nat}, (zaC (.int .i64 n)).Runs gt go R v os k -> zau C o.dst v -> (∀ {β own S a w}, zah C gt go β own S a w -> ∃ b c, a.eval x = .slice b n c) -> zaD C o fresh gt go v os k := by
   intro R v os k n h hd hv
   obtain ⟨rfl, rfl, rfl⟩ := zat h
   refine zaJ (by simp [ho]) hd fun {β own S a w} H => ?_
   obtain ⟨b, c, e1⟩ := hv H
   exact ⟨_, zkv ho (by rw [e1]; simp [Builtin.len_, run_underlying hl, goInt]; rfl), by simp [rel]⟩
  split at h
  . exact fin h hd fun H => by
     have h1 := hx H
     simp only [rel] at h1
     obtain ⟨B, _, h1⟩ := h1
     unfold zaV at h1
     split at h1
     . obtain ⟨e1, _, rfl⟩ := h1; exact ⟨_, _, e1⟩
     . obtain ⟨off, cap, e1, _⟩ := h1; exact ⟨_, _, e1⟩
  . exact fin h hd fun H => by
     have h1 := hx H
     simp only [rel, zaR] at h1
     obtain ⟨ad, cap, e1, _⟩ := h1
     exact ⟨_, _, e1⟩
  . cases h with
    | req hp h =>
      subst hp
      exact fin (n := 0) h hd fun H => by
       have h1 := hx H
       simp only [rel] at h1
       exact ⟨_, _, h1⟩
  . cases h
theorem ztP {t : TypeId} {x : Operand} (ho : o.op = .call { callee := .builtin .len, args := #[x], argTypes := #[t] }) (hl : C.P.underlying t = some .string)
 (h : (MO.rt C.toEnv fresh (.lenT (cX x))).Runs gt go R v os k) (hd : zau C o.dst v) : zaD C o fresh gt go v os k := by
  simp only [MO.rt] at h
  replace h := zap h
  obtain ⟨sx, R1, h, hx⟩ := h
  split at h
  . obtain ⟨rfl, rfl, rfl⟩ := zat h
    refine zaJ (by simp [ho]) hd fun {β own S a w} H => ?_
    have h1 := hx H
    simp only [rel] at h1
    exact ⟨_, zkv ho (by rw [h1]; simp [Builtin.len_, run_underlying hl, goInt]; rfl), by simp [rel]⟩
  . cases h
theorem zge {β w S} {M : zaj} : ∀ {es : List (M.κ × M.ν)} {l : List MapEntry}, za1 β w S M es l -> l.length = es.length
 | [], l, h => by simp [za1] at h; simp [h]
 | (k, v) :: es, l, h => by
   simp only [za1] at h
   obtain ⟨m, r, rfl, _, _, h⟩ := h
   simp [zge h]
theorem ztN {t : TypeId} {x : Operand} (ho : o.op = .call { callee := .builtin .len, args := #[x], argTypes := #[t] }) (hl : ∃ a b, C.P.underlying t = some (.map a b))
 (h : (MO.rt C.toEnv fresh (.lenM (cX x))).Runs gt go R v os k) (hd : zau C o.dst v) : zaD C o fresh gt go v os k := by
  simp only [MO.rt] at h
  replace h := zap h
  obtain ⟨sx, R1, h, hx⟩ := h
  obtain ⟨ka, kb, hl⟩ := hl
  split at h
  . cases h with
    | rO h =>
      dsimp only at h
      split at h
      . rename_i M es hgo
        obtain ⟨rfl, rfl, rfl⟩ := zat h
        refine zaJ (by simp [ho]) hd fun {β own S a w} H => ?_
        have h1 := hx H
        simp only [rel] at h1
        obtain ⟨B, b, hB, hb, e1⟩ := h1
        obtain ⟨B', h4, b', ents, clock, h5, _, hw, hr, _⟩ := H.mem.obj _ _ hgo
        rw [hB] at h4; cases h4
        rw [hb] at h5; cases h5
        have := zge hr
        simp at this
        exact ⟨_, zkv ho (by rw [e1]; simp [Builtin.len_, run_underlying hl, goInt, getObj, Sem.run, hw]; rfl), by simp [rel, this]⟩
      . cases h
  . cases h
end
end Go.Sx
namespace Go.Sx
open Go
def zh5 (P : Program) (t : TypeId) : Option ((Nat -> Option (Nat × Nat)) × Value) :=
 match P.info? t, P.underlying t with
 | some it, some (.array _ e) =>
   match it.zero, P.info? e with
   | some z, some ie => some (fun i => some (i * ie.size, ie.size), z)
   | _, _ => none
 | some it, some (.struct fields) =>
   match it.zero, fields.toList.mapM (fun f => (P.info? f.type).map fun i => (f.offset, i.size)) with
   | some z, some places => some ((places[·]?), z)
   | _, _ => none
 | _, _ => none
theorem zqT {P : Program} {t : TypeId} {pl z} (h : zh5 P t = some (pl, z)) (parts : List (Nat × Value)) : P.built t parts = Instr.fill pl z.cells parts := by
 unfold zh5 at h
 unfold Program.built
 split at h
 . rename_i it n e h1 h2
   split at h
   . rename_i z' ie h3 h4
     cases h
     simp [h1, h2, h3, h4]
   . cases h
 . rename_i it fields h1 h2
   split at h
   . rename_i z' places h3 h4
     cases h
     simp [h1, h2, h3, h4]
   . cases h
 . cases h
theorem zkO (vs : List Value) : ∀ (cells : Array Value) (off : Nat), off + vs.length <= cells.size →
 (vs.zipIdx.foldl (fun cs (c, j) => cs.setIfInBounds (off + j) c) cells).toList = cells.toList.take off ++ vs ++ cells.toList.drop (off + vs.length) := by
  have key : ∀ (vs : List Value) (cells : Array Value) (off st : Nat), off + st + vs.length <= cells.size →
   ((vs.zipIdx st).foldl (fun cs (c, j) => cs.setIfInBounds (off + j) c) cells).toList = cells.toList.take (off + st) ++ vs ++ cells.toList.drop (off + st + vs.length) := by
    intro vs
    induction vs with
    | nil => intro cells off st _; simp
    | cons v vs ih =>
      intro cells off st hl
      simp at hl
      rw [List.zipIdx_cons, List.foldl_cons]
      rw [ih (cells.setIfInBounds (off + st) v) off (st + 1) (by simp; omega)]
      have h1 : (cells.setIfInBounds (off + st) v).toList = cells.toList.set (off + st) v := by simp
      rw [h1]
      apply List.ext_getElem?
      intro i
      simp only [List.getElem?_append, List.getElem?_take, List.getElem?_drop, List.length_append, List.length_take, List.length_set, Array.length_toList, List.getElem?_set, List.length_cons]
      have e1 : min (off + (st + 1)) cells.size = off + (st + 1) := by omega
      have e2 : min (off + st) cells.size = off + st := by omega
      rw [e1, e2]
      by_cases c1 : i < off + st
      . have : i < off + (st + 1) := by omega
        have c3 : i < off + (st + 1) + vs.length := by omega
        have c4 : i < off + st + (vs.length + 1) := by omega
        have c5 : ¬ off + st = i := by omega
        simp [c1, this, c3, c4, c5]
      . by_cases c2 : i = off + st
        . subst c2
          have c3 : off + st < off + (st + 1) + vs.length := by omega
          have c4 : off + st < off + (st + 1) := by omega
          have c5 : off + st < off + st + (vs.length + 1) := by omega
          have c6 : off + st < cells.size := by omega
          simp [c3, c4, c5, c6]
        . by_cases c3 : i < off + st + (vs.length + 1)
          . have c4 : i < off + (st + 1) + vs.length := by omega
            have c5 : ¬ i < off + (st + 1) := by omega
            have c6 : i - (off + st) = (i - (off + (st + 1))) + 1 := by omega
            simp [c1, c3, c4, c5, c6]
          . have c4 : ¬ i < off + (st + 1) + vs.length := by omega
            have c5 : ¬ off + st = off + (st + 1) + vs.length + (i - (off + (st + 1) + vs.length)) := by omega
            have c6 : off + (st + 1) + vs.length + (i - (off + (st + 1) + vs.length)) = off + st + (vs.length + 1) + (i - (off + st + (vs.length + 1))) := by omega
            simp only [c3, c4, if_false, c5]
            rw [c6]
  intro cells off hl
  simpa using key vs cells off 0 (by simpa using hl)
theorem zmb {β w S} {pl : Nat -> Option (Nat × Nat)} : ∀ {ps : List (Nat × Nat × SV)} {cs cs' : List SV} {cells : Array Value} {vs : List (Nat × Value)},
 zhv cs ps = some cs' -> zam β w S cs cells.toList -> ps.length = vs.length →
 (∀ i (h : i < ps.length) (h' : i < vs.length), pl (vs[i]).1 = some ((ps[i]).1, (ps[i]).2.1) /\ rel β w S (ps[i]).2.2 (vs[i]).2) →
 ∃ cells', Instr.fill pl cells vs = some cells' /\ zam β w S cs' cells'.toList
  | [], cs, cs', cells, vs, h, hr, hl, _ => by
    simp [zhv] at h
    subst h
    have : vs = [] := by simpa using hl.symm
    subst this
    exact ⟨cells, rfl, hr⟩
  | (off, n, s) :: ps, cs, cs', cells, vs, h, hr, hl, hp => by
    cases vs with
    | nil => simp at hl
    | cons v vs =>
      obtain ⟨i, v⟩ := v
      obtain ⟨h1, h2⟩ := hp 0 (by simp) (by simp)
      simp at h1 h2
      simp only [zhv] at h
      split at h
      . cases h
      . cases h
      rename_i l0 ls hbx
      split at h
      . cases h
      rename_i hn
      have hn := Nat.eq_of_beq_eq_true hn
      split at h
      . cases h
      rename_i cs1 hput
      have hv := zoU hbx h2
      have hlv := zaL _ _ hv
      obtain ⟨p1, p2⟩ := zfr _ _ _ _ hput
      have p3 := p2.resolve_left (by simp)
      have hlc := zaL _ _ hr
      have hsz : v.cells.size = n := by simp at hlv hn; omega
      have hb : off + v.cells.toList.length <= cells.size := by simp at hlv hlc p3 ⊢; omega
      have hfold : (v.cells.zipIdx.foldl (fun cs (c, j) => cs.setIfInBounds (off + j) c) cells).toList = cells.toList.take off ++ v.cells.toList ++ cells.toList.drop (off + v.cells.toList.length) := by
       rw [<- Array.foldl_toList, Array.toList_zipIdx]
       exact zkO v.cells.toList cells off hb
      have hr1 : zam β w S cs1 (v.cells.zipIdx.foldl (fun cs (c, j) => cs.setIfInBounds (off + j) c) cells).toList := by
       rw [hfold, p1, <- hlv]
       exact zbC _ _ _ _ (zbC _ _ _ _ (zei _ _ _ hr) hv) (zeh _ _ _ hr)
      obtain ⟨cells', h3, h4⟩ := zmb h hr1 (by simpa using hl) (fun j hj hj' => by
       have := hp (j + 1) (by simpa using hj) (by simpa using hj')
       simpa using this)
      refine ⟨cells', ?_, h4⟩
      simp only [Instr.fill, h1]
      rw [if_neg (by simp [hsz]; simp at hb; omega)]
      exact h3
def zgJ (pl : Nat -> Option (Nat × Nat)) : List (Nat × Operand) -> List (Nat × Nat × X) -> Prop
 | [], l => l = []
 | (i, x) :: r, l => ∃ off n l', l = (off, n, cX x) :: l' /\ pl i = some (off, n) /\ zgJ pl r l'
section
variable {C : Ctx} {gt : GT} {go : GO} {o : Oper} {fresh : Nat} {R : List Loc} {v : Option SV} {os : List (Nat × Option SO)} {k : Nat}
theorem zpB {pl : Nat -> Option (Nat × Nat)} : ∀ {parts : List (Nat × Operand)} {ps : List (Nat × Nat × X)} {f : List (Nat × Nat × SV) -> RT} {R v os k}, zgJ pl parts ps →
 (Ps.rd C.toEnv ps f).Runs gt go R v os k -> ∃ vs R', (f vs).Runs gt go R' v os k /\ vs.length = parts.length /\ ∀ {β own S a w}, zah C gt go β own S a w →
  ∀ i (h : i < vs.length) (h' : i < parts.length), pl (parts[i]).1 = some ((vs[i]).1, (vs[i]).2.1) /\ rel β w S (vs[i]).2.2 (a.eval (parts[i]).2)
  | [], ps, f, R, v, os, k, hp, h => by
    simp only [zgJ] at hp
    subst hp
    exact ⟨[], _, h, rfl, fun _ i hi => by simp at hi⟩
  | (i, x) :: parts, ps, f, R, v, os, k, hp, h => by
    simp only [zgJ] at hp
    obtain ⟨off, n, ps', rfl, h1, h2⟩ := hp
    simp only [Ps.rd] at h
    replace h := zap h
    obtain ⟨s, R1, h, hs⟩ := h
    obtain ⟨vs, R2, h3, h4, h5⟩ := zpB h2 h
    refine ⟨(off, n, s) :: vs, R2, h3, by simp [h4], fun H j hj hj' => ?_⟩
    cases j with
    | zero => exact ⟨h1, hs H⟩
    | succ j => simpa using h5 H j (by simpa using hj) (by simpa using hj')
theorem zwT {t : TypeId} {parts : Array (Nat × Operand)} {pl : Nat -> Option (Nat × Nat)} {z : Value} {ps : List (Nat × Nat × X)} (ho : o.op = .build t parts) (hb : zh5 C.P t = some (pl, z)) (hp : zgJ pl parts.toList ps)
 (h : (MO.rt C.toEnv fresh (.bld (z.cells.toList.map cV1) ps)).Runs gt go R v os k) (hd : zau C o.dst v) : zaD C o fresh gt go v os k := by
  simp only [MO.rt] at h
  obtain ⟨vs, R1, h1, h2, h3⟩ := zpB hp h
  split at h1
  . rename_i cs hcs
    obtain ⟨rfl, rfl, rfl⟩ := zat h1
    refine zaJ (by simp [ho]) hd fun {β own S a w} H => ?_
    obtain ⟨cells', h4, h5⟩ := zmb (vs := parts.toList.map fun p => (p.1, a.eval p.2)) hcs (zd7 (β := β) (w := w) (S := S) z.cells.toList) (by simp [h2]) (fun i hi hi' => by
     have := h3 H i hi (by simpa using hi')
     simpa using this)
    refine ⟨.agg cells', ?_, by simp only [rel]; exact ⟨_, rfl, h5⟩⟩
    have h6 := run_build (P := C.P) w t (parts.map fun p => (p.1, a.eval p.2)) cells' (by rw [zqT hb]; simpa using h4)
    simp [execOp, ho, h6]
  . cases h1
end
end Go.Sx
namespace Go.Sx
open Go
theorem zlg {β w S} (s : Nat) (z : List SV) (zs : List Value) (hz : zam β w S z zs) (hs : z.length = s) (hs0 : 0 < s) : ∀ (n : Nat),
 zaY β w S s (zfM z n) ((List.range (n * s)).map fun i => zs[i % s]!)
  | 0 => by simp [zfM, zaY]
  | n + 1 => by
    have hl := zaL _ _ hz
    simp only [zfM, zaY]
    refine ⟨hs, ?_, ?_⟩
    . have : ((List.range ((n + 1) * s)).map fun i => zs[i % s]!).take s = zs := by
       apply List.ext_getElem?
       intro i
       rw [List.getElem?_take]
       split
       . rename_i hi
         have h1 : i < (n + 1) * s := by rw [Nat.add_mul]; omega
         simp [h1, Nat.mod_eq_of_lt hi]
         rw [List.getElem?_eq_getElem (by omega)]
         simp [getElem!_def]
       . rw [List.getElem?_eq_none (by omega)]
      rw [this]; exact hz
    . have : ((List.range ((n + 1) * s)).map fun i => zs[i % s]!).drop s = ((List.range (n * s)).map fun i => zs[i % s]!) := by
       apply List.ext_getElem?
       intro i
       rw [List.getElem?_drop]
       have e : (n + 1) * s = n * s + s := by rw [Nat.add_mul]; omega
       by_cases hi : i < n * s
       . have h1 : s + i < (n + 1) * s := by omega
         simp [h1, hi]
       . have h1 : ¬ s + i < (n + 1) * s := by omega
         simp [h1, hi]
      rw [this]; exact zlg s z zs hz hs hs0 n
theorem zhw {β w S} {s : Nat} (hs0 : 0 < s) {N : Nat} : ∀ {ps : List (Nat × Nat × SV)} {L L' : List (List SV)} {cells : Array Value} {vs : List (Nat × Value)},
 zfB s L ps = some L' -> zaY β w S s L cells.toList -> cells.size = N -> L.length * s = N -> ps.length = vs.length →
 (∀ i (h : i < ps.length) (h' : i < vs.length), (vs[i]).1 = (ps[i]).1 /\ rel β w S (ps[i]).2.2 (vs[i]).2) →
 ∃ cells', Instr.fill (fun i => some (i * s, s)) cells vs = some cells' /\ zaY β w S s L' cells'.toList /\ cells'.size = N /\ L'.length * s = N
  | [], L, L', cells, vs, h, hr, hN, hL, hl, _ => by
    simp [zfB] at h
    subst h
    have : vs = [] := by simpa using hl.symm
    subst this
    exact ⟨cells, rfl, hr, hN, hL⟩
  | (i, n, sv) :: ps, L, L', cells, vs, h, hr, hN, hL, hl, hp => by
    cases vs with
    | nil => simp at hl
    | cons v vs =>
      obtain ⟨i', v⟩ := v
      obtain ⟨h1, h2⟩ := hp 0 (by simp) (by simp)
      simp at h1 h2
      subst h1
      simp only [zfB] at h
      split at h
      . cases h
      . cases h
      rename_i l0 ls hbx
      split at h
      . cases h
      rename_i hn
      have hn := Nat.eq_of_beq_eq_true hn
      split at h
      . cases h
      rename_i e he
      rw [zbx] at he
      obtain ⟨hv, hv1⟩ := zeX hbx h2
      have hlv := zaL _ _ hv
      obtain ⟨he1, _⟩ := ziW _ _ _ _ _ hr he
      have hput : zdA e 0 (l0 :: ls) = some (l0 :: ls) := by
       have : ∀ (e l : List SV), e.length = l.length -> zdA e 0 l = some l := by
        intro e
        induction e with
        | nil => intro l h; cases l <;> simp_all [zdA]
        | cons a e ih =>
          intro l h
          cases l with
          | nil => simp at h
          | cons b l => simp [zdA, ih l (by simpa using h)]
       exact this _ _ (by omega)
      obtain ⟨q1, q2⟩ := ziY _ _ _ _ _ _ _ _ _ hr he hput (by simp) hv
      simp only [Nat.add_zero] at q1 q2
      have hil : i' < L.length := (List.getElem?_eq_some_iff.1 he).1
      have hsz : v.cells.size = s := by simp at hlv hn; omega
      have hb : i' * s + v.cells.toList.length <= cells.size := by simpa using q2
      have hfold : (v.cells.zipIdx.foldl (fun cs (c, j) => cs.setIfInBounds (i' * s + j) c) cells).toList = cells.toList.take (i' * s) ++ v.cells.toList ++ cells.toList.drop (i' * s + v.cells.toList.length) := by
       rw [<- Array.foldl_toList, Array.toList_zipIdx]
       exact zkO v.cells.toList cells _ hb
      have hfs : (v.cells.zipIdx.foldl (fun cs (c, j) => cs.setIfInBounds (i' * s + j) c) cells).size = N := by
       rw [<- Array.length_toList, hfold]; simp at hb ⊢; omega
      obtain ⟨cells', h3, h4⟩ := zhw hs0 h (by rw [hfold, zgx]; exact q1) hfs (by rw [zgx]; simpa using hL) (by simpa using hl) (fun j hj hj' => by
       have := hp (j + 1) (by simpa using hj) (by simpa using hj')
       simpa using this)
      refine ⟨cells', ?_, h4⟩
      simp only [Instr.fill]
      rw [if_neg (by simp [hsz]; simp at hb; omega)]
      exact h3
section
variable {C : Ctx} {gt : GT} {go : GO} {o : Oper} {fresh : Nat} {R : List Loc} {v : Option SV} {os : List (Nat × Option SO)} {k : Nat}
def zyk (P : Program) (t : TypeId) (s ln : Nat) (z : Value) : Prop :=
 ∃ e i, P.underlying t = some (.slice e) /\ P.info? e = some i /\ i.size = s /\ 0 < s /\ ln * s <= 2 ^ 24 /\ i.zero = some z /\ z.cells.size = s
theorem znx : ∀ {parts : List (Nat × Operand)} {f : List (Nat × Nat × SV) -> RT} {R v os k},
 (Ps.rd C.toEnv ((parts.map fun p => (p.1, cX p.2)).map fun p => (p.1, 0, p.2)) f).Runs gt go R v os k -> ∃ vs R', (f vs).Runs gt go R' v os k /\ vs.length = parts.length /\ ∀ {β own S a w}, zah C gt go β own S a w →
  ∀ i (h : i < vs.length) (h' : i < parts.length), (parts[i]).1 = (vs[i]).1 /\ rel β w S (vs[i]).2.2 (a.eval (parts[i]).2)
  | [], f, R, v, os, k, h => ⟨[], _, h, rfl, fun _ i hi => by simp at hi⟩
  | (i, x) :: parts, f, R, v, os, k, h => by
    simp only [List.map, Ps.rd] at h
    replace h := zap h
    obtain ⟨s, R1, h, hs⟩ := h
    obtain ⟨vs, R2, h3, h4, h5⟩ := znx h
    refine ⟨(i, 0, s) :: vs, R2, h3, by simp [h4], fun H j hj hj' => ?_⟩
    cases j with
    | zero => exact ⟨rfl, hs H⟩
    | succ j => simpa using h5 H j (by simpa using hj) (by simpa using hj')
theorem zwV {t : TypeId} {parts : Array (Nat × Operand)} {s ln : Nat} {z : Value} (ho : o.op = .buildSlice t ln parts) (hb : zyk C.P t s ln z)
 (h : (MO.rt C.toEnv fresh (.bsl s ln (z.cells.toList.map cV1) (parts.toList.map fun p => (p.1, cX p.2)))).Runs gt go R v os k) (hd : zau C o.dst v) : zaD C o fresh gt go v os k := by
  simp only [MO.rt] at h
  obtain ⟨vs, R1, h1, h2, h3⟩ := znx h
  obtain ⟨e, i, b1, b2, b3, b4, b5, b6, b7⟩ := hb
  split at h1
  . rename_i L hL
    cases h1
    refine ze3 (by simp [ho]) hd fun {β own S a w} H => ?_
    have hrows := zlg (β := β) (w := w) (S := S) s (z.cells.toList.map cV1) z.cells.toList (zd7 _) (by simpa using b7) b4 ln
    have hlenrows : ∀ n, (zfM (z.cells.toList.map cV1) n).length = n := fun n => by induction n <;> simp_all [zfM]
    obtain ⟨cells', h4, h5, h6, h7⟩ := zhw (vs := parts.toList.map fun p => (p.1, a.eval p.2)) (cells := (Array.range (ln * s)).map (fun i => z.cells[i % z.cells.size]!)) b4 hL
     (by
      have : ((Array.range (ln * s)).map (fun i => z.cells[i % z.cells.size]!)).toList = (List.range (ln * s)).map fun i => z.cells.toList[i % s]! := by
       simp [b7]
       intro j _
       simp [getElem!_def]
       cases z.cells[j % s]? <;> rfl
      rw [this]; exact hrows) (N := ln * s) (by simp) (by rw [hlenrows]) (by simp [h2]) (fun j hj hj' => by
      have := h3 H j hj (by simpa using hj')
      simpa using this)
    have h8 : (execOp a.eval o).run C.P w = .ok (.value (.slice (some ⟨w.heap.size, 0, none⟩) ln ln)) { w with heap := w.heap.push (.cells cells' e) } := by
     have hz : (zeroValue e).run C.P w = .ok z w := by simp [zeroValue, typeInfo, b2, b6]
     have hfin : (Instr.buildSlice t ln (parts.map fun p => (p.1, a.eval p.2))).run C.P w = .ok (.slice (some ⟨w.heap.size, 0, none⟩) ln ln) { w with heap := w.heap.push (.cells cells' e) } := by
      have hs : (sizeOf e).run C.P w = .ok s w := by simp [sizeOf, typeInfo, b2, b3]
      unfold Instr.buildSlice
      simp only [Sem.run_bind, run_underlying b1, Result.andThen_ok, hs]
      rw [if_neg (by omega)]
      by_cases hc : ln * s = 0
      . rw [if_pos hc]
        have e0 : (Array.map (fun x => (#[] : Array Value)[x % (#[] : Array Value).size]!) (Array.range (ln * s))) = (Array.range (ln * s)).map (fun i => z.cells[i % z.cells.size]!) := by rw [hc]; simp
        simp only [Sem.run_bind, Sem.run_pure, Result.andThen_ok, Array.toList_map, e0]
        rw [h4]
        simp [newRow, newObj, Sem.run]
      . rw [if_neg hc]
        simp only [Sem.run_bind, hz, Sem.run_pure, Result.andThen_ok, Array.toList_map]
        rw [h4]
        simp [newRow, newObj, Sem.run]
     simp only [execOp, ho, Sem.run_bind, Sem.run_pure]
     have e1 : (parts.map fun x => (x.1, a.eval x.2)) = (parts.map fun p => (p.1, a.eval p.2)) := rfl
     first | rw [hfin] | (erw [hfin])
     rfl
    have h9 : L.length = ln := Nat.eq_of_mul_eq_mul_right b4 h7
    refine ⟨_, _, _, ⟨some w.heap.size, s, ln⟩, h8, rfl, rfl, rfl, rfl, fun ex => ⟨?_, ?_⟩⟩
    . exact .inr ⟨w.heap.size, cells', e, rfl, rfl, rfl, by simp, h6, by simp [h9], zfJ ex _ _ _ h5⟩
    . simp only [rel, zac]
      exact ⟨_, rfl, 0, ln, rfl, Nat.le_refl _, by simp, .inr (by simp)⟩
  . cases h1
end
end Go.Sx
namespace Go.Sx
open Go
section
variable {C : Ctx} {gt : GT} {go : GO} {o : Oper} {fresh : Nat} {R : List Loc} {v : Option SV} {os : List (Nat × Option SO)} {k : Nat}
theorem zjT {P : Program} {w : World} {len cap : Nat} {lo hi : Option Value} {l h : Int} (hl : lo = none /\ l = 0 \/ ∃ k, lo = some (.int k l)) (hh : hi = none /\ h = len \/ ∃ k, hi = some (.int k h))
 (h0 : 0 <= l) (h1 : l <= h) (h2 : h <= len) (h3 : len <= cap) : (Instr.sliceBounds true len cap lo hi none).run P w = .ok (l.toNat, h.toNat, cap) w := by
  have hhi : 0 <= h /\ h <= (cap : Int) := by omega
  unfold Instr.sliceBounds
  have b1 : ∀ (k : IntKind) (x : Int) (y : Nat) (c : BoundsCode), 0 <= x -> x <= y -> (Instr.sliceBound (.int k x) y c).run P w = .ok x.toNat w := by
   intro k x y c hx hy
   simp [Instr.sliceBound, asIntOf, hx, hy]
  rcases hh with ⟨rfl, rfl⟩ | ⟨k2, rfl⟩
  . rcases hl with ⟨rfl, rfl⟩ | ⟨k1, rfl⟩
    . simp
    . simp [b1 k1 l len .sliceB h0 (by omega)]
  . rcases hl with ⟨rfl, rfl⟩ | ⟨k1, rfl⟩
    . simp [b1 k2 h cap .sliceAcap hhi.1 hhi.2]
    . simp [b1 k2 h cap .sliceAcap hhi.1 hhi.2, b1 k1 l h.toNat .sliceB h0 (by omega)]
theorem zdL {w S} : ∀ (s : Nat) (L : List (List PV)) (vs : List Value) (n : Nat), zaq w S s L vs -> zaq w S s (L.drop n) (vs.drop (n * s))
 | s, L, vs, 0, h => by simpa using h
 | s, [], vs, n + 1, _ => by simp [zaq]
 | s, e :: L, vs, n + 1, h => by
   simp only [zaq] at h
   have := zdL s L _ n h.2.2
   rw [List.drop_drop] at this
   rw [show (n + 1) * s = s + n * s by rw [Nat.add_mul]; omega]
   simpa using this
theorem zdM {w S} : ∀ (s : Nat) (L : List (List PV)) (vs : List Value) (n : Nat), zaq w S s L vs -> zaq w S s (L.take n) vs
 | s, L, vs, 0, h => by simp [zaq]
 | s, [], vs, n + 1, _ => by simp [zaq]
 | s, e :: L, vs, n + 1, h => by
   simp only [zaq, List.take_succ_cons] at h ⊢
   exact ⟨h.1, h.2.1, zdM s L _ n h.2.2⟩
def oX : Option Operand -> Option X
 | none => none
 | some x => some (cX x)
theorem znw {lo : Option Operand} {f : Option SV -> RT} {R v os k}
 (h : ((match oX lo with | none => fun (f : Option SV -> RT) => f none | some lo => fun f => lo.rd C.toEnv fun l => f (some l)) f : RT).Runs gt go R v os k) :
 ∃ s R', (f s).Runs gt go R' v os k /\ ∀ {β own S a w}, zah C gt go β own S a w -> (lo = none /\ s = none \/ ∃ x s', lo = some x /\ s = some s' /\ rel β w S s' (a.eval x)) := by
  cases lo with
  | none => exact ⟨none, _, h, fun _ => .inl ⟨rfl, rfl⟩⟩
  | some x =>
    simp only [oX] at h
    obtain ⟨s, R1, h, hs⟩ := zap h
    exact ⟨some s, R1, h, fun H => .inr ⟨x, s, rfl, rfl, hs H⟩⟩
theorem zeb {x : Option SV} {d : Int} {f : Int -> RT} {R v os k} (h : (zcm x d f).Runs gt go R v os k) : ∃ n, (f n).Runs gt go R v os k /\ (x = none /\ n = d \/ ∃ k, x = some (.int k n)) := by
 unfold zcm at h
 split at h
 . exact ⟨d, h, .inl ⟨rfl, rfl⟩⟩
 . rename_i k n
   exact ⟨n, h, .inr ⟨k, rfl⟩⟩
 . cases h
theorem zxc {t : TypeId} {s : Nat} {x : Operand} {lo hi : Option Operand} (ho : o.op = .slice t x lo hi none) (hi' : zlm C.P t s) (h : (MO.rt C.toEnv fresh (.sls s (cX x) (oX lo) (oX hi))).Runs gt go R v os k) (hd : zau C o.dst v) : zaD C o fresh gt go v os k := by
 simp only [MO.rt] at h
 replace h := zap h
 obtain ⟨sx, R1, h, hx⟩ := h
 replace h := znw h
 obtain ⟨slo, R2, h, hlo⟩ := h
 replace h := znw h
 obtain ⟨shi, R3, h, hhi⟩ := h
 obtain ⟨e, ie, hu, hie, hsz⟩ := hi'
 have run : ∀ {a : Act} {w : World} {β own S} (H : zah C gt go β own S a w) {ad : Option Addr} {len cap : Nat} {l h : Int}, a.eval x = .slice ad len cap -> (slo = none /\ l = 0 \/ ∃ k, slo = some (.int k l)) -> (shi = none /\ h = (len : Int) \/ ∃ k, shi = some (.int k h)) →
  0 <= l -> l <= h -> h <= len -> len <= cap -> (execOp a.eval o).run C.P w = .ok (.value (.slice (if cap = l.toNat then ad else ad.map (·.add (l.toNat * s))) (h.toNat - l.toNat) (cap - l.toNat))) w := by
   intro a w β own S H ad len cap l h hx1 h1 h2 h3 h4 h5 h6
   have q1 : (lo.map a.eval = none /\ l = 0) \/ ∃ k, lo.map a.eval = some (.int k l) := by
    rcases hlo H with ⟨rfl, rfl⟩ | ⟨y, s', rfl, rfl, hr⟩
    . rcases h1 with ⟨_, h1⟩ | ⟨k, h1⟩
      . exact .inl ⟨rfl, h1⟩
      . cases h1
    . rcases h1 with ⟨h1, _⟩ | ⟨k, h1⟩
      . cases h1
      . cases h1; simp only [rel] at hr; exact .inr ⟨k, by simp [hr]⟩
   have q2 : (hi.map a.eval = none /\ h = (len : Int)) \/ ∃ k, hi.map a.eval = some (.int k h) := by
    rcases hhi H with ⟨rfl, rfl⟩ | ⟨y, s', rfl, rfl, hr⟩
    . rcases h2 with ⟨_, h2⟩ | ⟨k, h2⟩
      . exact .inl ⟨rfl, h2⟩
      . cases h2
    . rcases h2 with ⟨h2, _⟩ | ⟨k, h2⟩
      . cases h2
      . cases h2; simp only [rel] at hr; exact .inr ⟨k, by simp [hr]⟩
   have hb := zjT (P := C.P) (w := w) q1 q2 h3 h4 h5 h6
   have hs : (sizeOf e).run C.P w = .ok s w := by simp [sizeOf, typeInfo, hie, hsz]
   have : (Instr.sliceAt t (a.eval x) (lo.map a.eval) (hi.map a.eval) none).run C.P w = .ok (.slice (if cap = l.toNat then ad else ad.map (·.add (l.toNat * s))) (h.toNat - l.toNat) (cap - l.toNat)) w := by
    unfold Instr.sliceAt
    simp only [Sem.run_bind, run_underlying hu, Result.andThen_ok]
    unfold Instr.slice
    simp only [Sem.run_bind, run_underlying hu, Result.andThen_ok, hx1, hb, hs, Sem.run_pure]
   simp only [execOp, ho, Option.map_none]
   simp [this]
 unfold zsT at h
 split at h
 . rename_i id b0 ln
   cases h with
   | rO h =>
     dsimp only at h
     have fin : ∀ {R v os k} (hstr : ∀ {β own S a w}, zah C gt go β own S a w -> ∀ B, β id = some B -> B.blk.isSome -> B.str = s), (zcm slo 0 fun l => zcm shi ln fun h => .req (0 <= l /\ l <= h /\ h <= ln) (zaC (.slc id (b0 + l.toNat) (h.toNat - l.toNat)))).Runs gt go R v os k -> zau C o.dst v -> zaD C o fresh gt go v os k := by
      intro R v os k hstr h hd
      obtain ⟨l, h, hl⟩ := zeb h
      obtain ⟨hh, h, hhh⟩ := zeb h
      cases h with
      | req hp h =>
        obtain ⟨rfl, rfl, rfl⟩ := zat h
        refine zaJ (by simp [ho]) hd fun {β own S a w} H => ?_
        have h1 := hx H
        simp only [rel] at h1
        obtain ⟨B, hB, h1⟩ := h1
        have h1' := h1
        unfold zaV at h1
        split at h1
        . rename_i hb
          obtain ⟨e1, rfl, rfl⟩ := h1
          have : l = 0 /\ hh = 0 := by omega
          obtain ⟨rfl, rfl⟩ := this
          refine ⟨_, run H e1 hl hhh (by omega) (by omega) (by omega) (by omega), ?_⟩
          simp only [rel]
          exact ⟨B, hB, by simp [zaV, hb]⟩
        . rename_i b hb
          obtain ⟨off, cap, e1, hc1, hc2, hc3⟩ := h1
          refine ⟨_, run H e1 hl hhh hp.1 hp.2.1 hp.2.2 hc1, ?_⟩
          simp only [rel]
          refine ⟨B, hB, ?_⟩
          simp only [zaV, hb]
          have hB2 := hstr H B hB (by simp [hb])
          by_cases hcl : cap = l.toNat
          . rw [if_pos hcl]
            exact ⟨off, _, rfl, by omega, by omega, .inl (by omega)⟩
          . rw [if_neg hcl]
            rcases hc3 with hc3 | hc3
            . omega
            . refine ⟨off + l.toNat * s, cap - l.toNat, by simp [Addr.add_mid], by omega, by omega, .inr ?_⟩
              rw [hc3, hB2, Nat.add_mul]
     split at h
     . rename_i s' L hgo
       simp only [eqN] at h
       split at h
       . rename_i hs
         have hs := Nat.eq_of_beq_eq_true hs
         exact fin (fun {β own S a w} H B hB hb => by
          obtain ⟨B', h4, h5⟩ := H.mem.obj _ _ hgo
          rw [hB] at h4; cases h4
          rcases h5 with ⟨h5, _⟩ | ⟨b', arr, T, h5, h6, _⟩
          . rw [h5] at hb; cases hb
          . rw [h6, hs]) h hd
       . cases h
     . rename_i s' L hgo
       simp only [eqN] at h
       split at h
       . rename_i hs
         have hs := Nat.eq_of_beq_eq_true hs
         exact fin (fun {β own S a w} H B hB hb => by
          obtain ⟨B', h4, h5⟩ := H.mem.obj _ _ hgo
          rw [hB] at h4; cases h4
          rcases h5 with ⟨h5, _⟩ | ⟨b', arr, T, h5, h6, _⟩
          . rw [h5] at hb; cases hb
          . rw [h6, hs]) h hd
       . cases h
     . cases h
 . rename_i s' L
   replace h := zeb h
   obtain ⟨l, h, hl⟩ := h
   replace h := zeb h
   obtain ⟨hh, h, hhh⟩ := h
   cases h with
   | req hp h' =>
     obtain ⟨rfl, hp1, hp2, hp3⟩ := hp
     replace h := h'
     obtain ⟨rfl, rfl, rfl⟩ := zat h
     refine zaJ (by simp [ho]) hd fun {β own S a w} H => ?_
     have h1 := hx H
     simp only [rel, zaR] at h1
     obtain ⟨ad, cap, e1, hcap, hne, hz⟩ := h1
     refine ⟨_, run H e1 hl hhh hp1 hp2 hp3 hcap, ?_⟩
     simp only [rel, zaR]
     have hlen : ((L.drop l.toNat).take (hh.toNat - l.toNat)).length = hh.toNat - l.toNat := by simp; omega
     rw [hlen]
     refine ⟨_, _, rfl, by omega, fun hne2 => ?_, fun e => ?_⟩
     rotate_left
     . split at e
       . omega
       . have := hz (by cases ad with | none => rfl | some _ => simp at e)
         omega
     have hL : L ≠ [] := by intro e; subst e; simp at hne2
     obtain ⟨b, off, arr, T, fz, rfl, hS, hw, hr⟩ := hne hL
     have hlt : l.toNat < hh.toNat := by
      have : (hh.toNat - l.toNat) ≠ 0 := fun e => hne2 (List.length_eq_zero_iff.1 (hlen.trans e))
      omega
     have hcl : ¬ cap = l.toNat := by omega
     rw [if_neg hcl]
     refine ⟨b, off + l.toNat * s, arr, T, fz, by simp [Addr.add_mid], hS, hw, ?_⟩
     rw [<- List.drop_drop]
     exact zdM _ _ _ _ (zdL _ _ _ _ hr)
 . rename_i v'
   replace h := zeb h
   obtain ⟨l, h, hl⟩ := h
   replace h := zeb h
   obtain ⟨hh, h, hhh⟩ := h
   cases h with
   | req hp h' =>
     obtain ⟨rfl, rfl, rfl⟩ := hp
     obtain ⟨rfl, rfl, rfl⟩ := zat h'
     refine zaJ (by simp [ho]) hd fun {β own S a w} H => ?_
     have h1 := hx H
     simp only [rel] at h1
     refine ⟨_, run H h1 hl hhh (by omega) (by omega) (by omega) (by omega), ?_⟩
     simp [rel]
 . cases h
end
end Go.Sx
namespace Go.Sx
open Go
theorem zrQ {w S} {p : PV} {v : Value} (h : zaR w S p v) : v.oneCell' = true := by
 cases p <;> simp only [zaR] at h
 case int => subst h; rfl
 case bool => subst h; rfl
 case str => subst h; rfl
 case val => exact h.1 ▸ h.2
 case sl => obtain ⟨a, cap, rfl, _⟩ := h; rfl
 case pt => obtain ⟨b, off, arr, T, fz, rfl, _⟩ := h; rfl
theorem zlc {w S} : ∀ (ps : List PV) (vs : List Value), zaE w S ps vs -> ∀ v ∈ vs.take ps.length, v.oneCell' = true
 | [], vs, _ => by simp
 | p :: ps, vs, h => by
   simp only [zaE] at h
   obtain ⟨v, r, rfl, h1, h2⟩ := h
   intro x hx
   simp at hx
   rcases hx with rfl | hx
   . exact zrQ h1
   . exact zlc ps r h2 x hx
theorem zcN {w S} : ∀ (s : Nat) (L : List (List PV)) (vs : List Value), zaq w S s L vs -> (∀ v ∈ vs.take (L.length * s), v.oneCell' = true) /\ L.length * s <= vs.length
 | s, [], vs, _ => by simp
 | s, e :: L, vs, h => by
   simp only [zaq] at h
   obtain ⟨h1, h2, h3⟩ := h
   obtain ⟨h4, h5⟩ := zcN s L _ h3
   have h6 := zej _ _ h2
   simp at h5
   have e1 : (e :: L).length * s = s + L.length * s := by simp [Nat.add_mul]; omega
   refine ⟨fun v hv => ?_, by rw [e1]; omega⟩
   rw [e1, List.take_add] at hv
   rcases List.mem_append.1 hv with hv | hv
   . rw [<- h1] at hv; exact zlc e vs h2 v hv
   . exact h4 v hv
theorem zmF {β w S} : ∀ (s : Nat) (L : List (List SV)) (vs : List Value), zlw L = true -> zaY β w S s L vs -> (∀ v ∈ vs.take (L.length * s), v.oneCell' = true) /\ L.length * s <= vs.length
 | s, [], vs, _, _ => by simp
 | s, e :: L, vs, ho, h => by
   simp only [zaY] at h
   simp only [zlw] at ho
   split at ho
   . rename_i ho1
     obtain ⟨h1, h2, h3⟩ := h
     obtain ⟨h4, h5⟩ := zmF s L _ ho h3
     have h6 := zaL _ _ h2
     simp at h5 h6
     have e1 : (e :: L).length * s = s + L.length * s := by simp [Nat.add_mul]; omega
     refine ⟨fun v hv => ?_, by rw [e1]; omega⟩
     rw [e1, List.take_add] at hv
     rcases List.mem_append.1 hv with hv | hv
     . exact ziS ho1 h2 v hv
     . exact h4 v hv
   . cases ho
theorem zbD {w S} (s : Nat) : ∀ (L : List (List PV)) (vs vs' : List Value), zaq w S s L vs -> vs.take (L.length * s) = vs'.take (L.length * s) -> zaq w S s L vs'
 | [], _, _, _, _ => by simp [zaq]
 | e :: L, vs, vs', h, ht => by
   simp only [zaq] at h ⊢
   obtain ⟨h1, h2, h3⟩ := h
   have e1 : (e :: L).length * s = s + L.length * s := by simp [Nat.add_mul]; omega
   rw [e1, List.take_add, List.take_add] at ht
   have h6 := zej _ _ h2
   obtain ⟨_, h7⟩ := zcN s L _ h3
   have hl : (vs.take s).length = s := by simp; omega
   have hl' : (vs'.take s).length = s := by
    have := congrArg List.length ht
    simp at this h7
    simp
    by_cases hs : s <= vs'.length
    . omega
    . omega
   obtain ⟨t1, t2⟩ := List.append_inj ht (by rw [hl, hl'])
   exact ⟨h1, zdT _ _ _ h2 (by rw [h1]; exact t1), zbD s L _ _ h3 t2⟩
theorem zhP {w S} (s : Nat) : ∀ (L : List (List PV)) (vs : List Value) (M : List (List PV)) (us : List Value), zaq w S s L vs -> vs.length = L.length * s -> zaq w S s M us -> zaq w S s (L ++ M) (vs ++ us)
 | [], vs, M, us, _, hl, h => by
   have : vs = [] := by simpa using hl
   subst this; simpa using h
 | e :: L, vs, M, us, h, hl, h' => by
   simp only [zaq, List.cons_append] at h ⊢
   obtain ⟨h1, h2, h3⟩ := h
   have e1 : (e :: L).length * s = s + L.length * s := by simp [Nat.add_mul]; omega
   have h6 := zej _ _ h2
   have hs : s <= vs.length := by omega
   refine ⟨h1, zdT _ _ _ h2 (by rw [List.take_append_of_le_length (by omega)]), ?_⟩
   rw [List.drop_append_of_le_length hs]
   exact zhP s L _ M us h3 (by simp; omega) h'
theorem zmE {β w S} (s : Nat) : ∀ (L : List (List SV)) (vs : List Value) (M : List (List SV)) (us : List Value), zaY β w S s L vs -> vs.length = L.length * s -> zaY β w S s M us -> zaY β w S s (L ++ M) (vs ++ us)
 | [], vs, M, us, _, hl, h => by
   have : vs = [] := by simpa using hl
   subst this; simpa using h
 | e :: L, vs, M, us, h, hl, h' => by
   simp only [zaY, List.cons_append] at h ⊢
   obtain ⟨h1, h2, h3⟩ := h
   have e1 : (e :: L).length * s = s + L.length * s := by simp [Nat.add_mul]; omega
   have hs : s <= vs.length := by omega
   refine ⟨h1, by rw [List.take_append_of_le_length hs]; exact h2, ?_⟩
   rw [List.drop_append_of_le_length hs]
   exact zmE s L _ M us h3 (by simp; omega) h'
theorem zfI {β w S} (s : Nat) : ∀ {M : List (List SV)} {M' : List (List PV)}, ze7 M = some M' -> ∀ {us : List Value}, zaY β w S s M us -> zaq w S s M' us /\ M'.length = M.length
 | [], M', h, us, _ => by simp [ze7] at h; subst h; simp [zaq]
 | e :: M, M', h, us, hr => by
   simp only [ze7] at h
   split at h
   . cases h
   . rename_i p hp
     split at h
     . cases h
     . rename_i r hM
       simp only [Option.some.injEq] at h
       subst h
       simp only [zaY] at hr
       obtain ⟨h1, h2, h3⟩ := hr
       obtain ⟨h4, h5⟩ := zii hp h2
       obtain ⟨h6, h7⟩ := zfI s hM h3
       have h8 := zaL _ _ h2
       simp only [zaq]
       refine ⟨⟨by omega, zdT _ _ _ h4 ?_, h6⟩, by simp [h7]⟩
       rw [List.take_take, h5, h1, Nat.min_self]
def zbM (β : Nat -> Option zay) (w : World) (S : Nat -> Prop) (s : Nat) : zai -> List Value -> Prop
 | .inl L, vs => zaY β w S s L vs
 | .inr L, vs => zaq w S s L vs
theorem zdr {β w S β' w' S'} (x : Ext β w S β' w' S') {s : Nat} {r : zai} {vs : List Value} (h : zbM β w S s r vs) : zbM β' w' S' s r vs := by
 cases r with
 | inl L => exact zfJ x s L vs h
 | inr L => exact za6 x.st x.heap s L vs h
theorem ziX {β w S} : ∀ (s : Nat) (L : List (List SV)) (vs : List Value), zaY β w S s L vs -> L.length * s <= vs.length
 | s, [], vs, _ => by simp
 | s, e :: L, vs, h => by
   simp only [zaY] at h
   obtain ⟨h1, h2, h3⟩ := h
   have h5 := ziX s L _ h3
   have h6 := zaL _ _ h2
   simp at h5 h6
   have e1 : (e :: L).length * s = s + L.length * s := by simp [Nat.add_mul]; omega
   rw [e1]; omega
theorem zq5 {β w S} {s : Nat} {r : zai} {vs : List Value} (h : zbM β w S s r vs) : r.len * s <= vs.length := by
 cases r with
 | inl L => exact ziX s L vs h
 | inr L => exact (zcN s L vs h).2
theorem zfm {β w S} (s : Nat) : ∀ (L : List (List SV)) (vs vs' : List Value), zaY β w S s L vs -> vs.take (L.length * s) = vs'.take (L.length * s) -> zaY β w S s L vs'
 | [], _, _, _, _ => by simp [zaY]
 | e :: L, vs, vs', h, ht => by
   have h7 := ziX s (e :: L) vs h
   simp only [zaY] at h ⊢
   obtain ⟨h1, h2, h3⟩ := h
   have e1 : (e :: L).length * s = s + L.length * s := by simp [Nat.add_mul]; omega
   rw [e1] at h7
   rw [e1, List.take_add, List.take_add] at ht
   have hl : (vs.take s).length = s := by simp; omega
   have hl' : (vs'.take s).length = s := by
    have := congrArg List.length ht
    simp at this
    simp
    by_cases hs : s <= vs'.length
    . omega
    . omega
   obtain ⟨t1, t2⟩ := List.append_inj ht (by rw [hl, hl'])
   exact ⟨h1, t1 ▸ h2, zfm s L _ _ h3 t2⟩
theorem zkM {β w S} {s : Nat} {r : zai} {vs : List Value} (h : zbM β w S s r vs) : zbM β w S s r (vs.take (r.len * s)) := by
 cases r with
 | inl L => exact zfm s L vs _ h (by simp [zai.len, List.take_take])
 | inr L => exact zbD s L vs _ h (by simp [zai.len, List.take_take])
theorem zfw {β w S} {s : Nat} {r : zai} {vs us : List Value} (h : zbM β w S s r vs) (hl : vs.length = r.len * s) : zbM β w S s r (vs ++ us) := by
 cases r with
 | inl L => exact zfm s L vs _ h (by simp [zai.len] at hl; rw [List.take_append_of_le_length (by omega)])
 | inr L => exact zbD s L vs _ h (by simp [zai.len] at hl; rw [List.take_append_of_le_length (by omega)])
theorem zds {β w S} {s : Nat} {o n r : zai} (h : zcB o n = some r) {vs us : List Value} (ho : zbM β w S s o vs) (hl : vs.length = o.len * s) (hn : zbM β w S s n us) : zbM β w S s r (vs ++ us) /\ r.len = o.len + n.len := by
 cases o with
 | inl L =>
   cases n with
   | inl M => simp only [zcB, Option.some.injEq] at h; subst h; exact ⟨zmE s L vs M us ho hl hn, by simp [zai.len]⟩
   | inr M =>
     cases L with
     | nil =>
       simp only [zcB, Option.some.injEq] at h; subst h
       have hv : vs = [] := List.eq_nil_of_length_eq_zero (by rw [hl]; simp [zai.len])
       subst hv
       exact ⟨hn, by simp [zai.len]⟩
     | cons a L => simp [zcB] at h
 | inr L =>
   cases n with
   | inr M => simp only [zcB, Option.some.injEq] at h; subst h; exact ⟨zhP s L vs M us ho hl hn, by simp [zai.len]⟩
   | inl M =>
     simp only [zcB] at h
     split at h
     . rename_i M' hM
       simp only [Option.some.injEq] at h
       subst h
       obtain ⟨h1, h2⟩ := zfI s hM hn
       exact ⟨zhP s L vs _ us ho hl h1, by simp [zai.len, h2]⟩
     . split at h
       . simp only [Option.some.injEq] at h
         subst h
         have : vs = [] := by simpa [zai.len] using hl
         subst this
         exact ⟨hn, by simp [zai.len]⟩
       . cases h
theorem zeM {β w S} {s : Nat} {r : zai} {B : zay} {F : Nat -> Prop} {b : Nat} {arr : Array Value} {T : TypeId} (h1 : B.blk = some b) (h2 : B.str = s) (h3 : F = zci b) (h4 : w.heap[b]? = some (.cells arr T (0, 0)))
 (h5 : arr.size = B.cap * s) (h6 : r.len <= B.cap) (h7 : zbM β w S s r arr.toList) : za3 β w S B F (r.so s) := by
  cases r with
  | inl L => exact .inr ⟨b, arr, T, h1, h2, h3, h4, h5, h6, h7⟩
  | inr L => exact .inr ⟨b, arr, T, h1, h2, h3, h4, h5, h6, h7⟩
theorem zmI {β w S} {s : Nat} {r : zai} (hr : r.len = 0) : za3 β w S ⟨none, s, 0⟩ (fun _ => False) (r.so s) := by
 cases r with
 | inl L => exact .inl ⟨rfl, List.length_eq_zero_iff.1 hr, rfl, rfl, rfl⟩
 | inr L => exact .inl ⟨rfl, List.length_eq_zero_iff.1 hr, rfl, rfl, rfl⟩
theorem zmo {β w S} {s : Nat} {r : zai} {B : zay} {F : Nat -> Prop} (h : za3 β w S B F (r.so s)) :
 (B.blk = none /\ r.len = 0 /\ B.cap = 0 /\ B.str = s /\ F = fun _ => False) ∨
  ∃ b arr T, B.blk = some b /\ B.str = s /\ F = zci b /\ w.heap[b]? = some (.cells arr T (0, 0)) /\ arr.size = B.cap * s /\ r.len <= B.cap /\ zbM β w S s r arr.toList := by
  cases r with
  | inl L =>
    rcases h with ⟨h1, rfl, h3⟩ | h
    . exact .inl ⟨h1, rfl, h3⟩
    . exact .inr h
  | inr L =>
    rcases h with ⟨h1, rfl, h3⟩ | h
    . exact .inl ⟨h1, rfl, h3⟩
    . exact .inr h
open Builtin in
theorem zkQ (n : Nat) : ∀ (r c : Nat), growBy n r c <= max c (n + (n + 768) / 4)
 | 0, c => by simp [growBy]; omega
 | r + 1, c => by
   simp only [growBy]
   split
   . omega
   . have := zkQ n r (c + (c + 768) / 4)
     omega
open Builtin in
theorem zfY {n c : Nat} (h : c < n) : nextslicecap n c <= 2 * n + 192 := by
 unfold nextslicecap
 split
 . omega
 . split
   . omega
   . have := zkQ n 4 c
     omega
structure zgC (P : Program) (sT xT : TypeId) (s by_ : Nat) : Prop where
 ok : ∃ e i z d, P.underlying sT = some (.slice e) /\ P.info? e = some i /\ i.size = s /\ i.bytes = by_ /\ i.zero = some z /\ z.cells.size = s /\ 0 < s /\ 0 < by_ /\ by_ <= 2 ^ 20 ∧
  P.underlying xT = some d /\ ∀ k, d ≠ .int k
section
variable {P : Program} {w : World} {sT xT ty : TypeId} {s by_ : Nat}
open Builtin
theorem ze9 (ha : zgC P sT xT s by_) {base : Option Addr} {len cap n : Nat} {x : Value} {M : Array Value}
 (h1 : (lenOf x).run P w = .ok n w) (h2 : (firstCells s n x).run P w = .ok M w) (hle : len + n <= cap) {w' : World}
 (h3 : (match base with | some a => storeCells (a.add (len * s)) M.toList | none => pure ()).run P w = .ok () w') :
 (append_ #[sT, xT] ty #[.slice base len cap, x]).run P w = .ok (.slice base (len + n) cap) w' := by
  obtain ⟨e, i, z, d, a1, a2, a3, a4, a5, a6, a7, a8, a9, a10, a11⟩ := ha.ok
  have hs : (sizeOf e).run P w = .ok s w := by simp [sizeOf, typeInfo, a2, a3]
  unfold append_
  cases d <;> first | (exact absurd rfl (a11 _)) | skip
  all_goals
   simp only [List.getElem?_toArray, List.getElem?_cons_zero, List.getElem?_cons_succ, Sem.run_bind, run_underlying a1, run_underlying a10, Result.andThen_ok, hs, Sem.run_pure, h1, Bool.false_eq_true, if_false, Bool.not_false, if_true, hle, h2]
   cases base with
   | none => simp only [Sem.run_pure, Result.ok.injEq, true_and] at h3; subst h3; simp only [Sem.run_pure]
   | some a => simp only at h3; simp only [Sem.run_bind, h3, Result.andThen_ok, Sem.run_pure]
theorem zcG (ha : zgC P sT xT s by_) {base : Option Addr} {len cap n : Nat} {x : Value} {M O : Array Value}
 (h1 : (lenOf x).run P w = .ok n w) (hgt : cap < len + n) (hb : (len + n) * by_ <= 2 ^ 46)
 (h2 : ∀ w' : World, w'.heap = w.heap -> (firstCells s n x).run P w' = .ok M w') (h3 : ∀ w' : World, w'.heap = w.heap -> (firstCells s len (.slice base len cap)).run P w' = .ok O w') :
 ∃ c T w' Z, len + n <= c /\ (append_ #[sT, xT] ty #[.slice base len cap, x]).run P w = .ok (.slice (some ⟨w.heap.size, 0, none⟩) (len + n) c) w' ∧
  w'.heap = w.heap.push (.cells (O ++ M ++ Z) T) /\ w'.os = w.os /\ w'.tape = w.tape /\ w'.output = w.output /\ Z.size = (c - (len + n)) * s := by
  obtain ⟨e, i, z, d, a1, a2, a3, a4, a5, a6, a7, a8, a9, a10, a11⟩ := ha.ok
  have hs : (sizeOf e).run P w = .ok s w := by simp [sizeOf, typeInfo, a2, a3]
  have hti : ∀ w, (typeInfo e).run P w = .ok i w := fun w => by simp [typeInfo, a2]
  have hz : ∀ w, (zeroValue e).run P w = .ok z w := fun w => by simp [zeroValue, typeInfo, a2, a5]
  have hcap : ¬ nextslicecap (len + n) cap * i.bytes > 2 ^ 48 := by
   have h4 := zfY hgt
   have h5 : nextslicecap (len + n) cap * by_ <= (2 * (len + n) + 192) * by_ := Nat.mul_le_mul_right _ h4
   rw [a4]
   have h6 : (2 * (len + n) + 192) * by_ = 2 * ((len + n) * by_) + 192 * by_ := by rw [Nat.add_mul, Nat.mul_assoc]
   omega
  let q : Question := .appendCap (len + n) cap e
  let c := q.cut (w.tape w.drawn q)
  let w1 : World := { w with drawn := w.drawn + 1 }
  have hc : len + n <= c := Nat.le_add_right _ _
  have hch : (choose q).run P w = .ok c w1 := by simp [choose, Sem.run, q, Question.forced, c, w1]
  refine ⟨c, e, { w1 with heap := w.heap.push (.cells (O ++ M ++ zeroCells z.cells (c - (len + n))) e) }, zeroCells z.cells (c - (len + n)), hc, ?_, rfl, rfl, rfl, rfl, by simp [zeroCells, a6]⟩
  have hroom : ∀ m, (askRoom m).run P w1 = .ok () w1 := fun m => by unfold askRoom; split <;> simp [mark, Sem.run]
  have h7 := h2 w1 rfl
  have h8 := h3 w1 rfl
  have hnle : ¬ len + n <= cap := by omega
  have hb0 : ¬ i.bytes = 0 := by omega
  have hrun : (append_ #[sT, xT] ty #[.slice base len cap, x]).run P w = ((newRow e (O ++ M ++ zeroCells z.cells (c - (len + n)))).run P w1).andThen fun a w => .ok (.slice (some a) (len + n) c) w := by
   unfold append_
   cases d <;> first | (exact absurd rfl (a11 _)) | skip
   all_goals
    simp only [List.getElem?_toArray, List.getElem?_cons_zero, List.getElem?_cons_succ, Sem.run_bind, run_underlying a1, run_underlying a10, Result.andThen_ok, hs, Sem.run_pure, h1, Bool.false_eq_true, if_false, Bool.not_false, if_true, hnle, hti, hb0, or_false, and_false, hcap]
    rw [show Question.appendCap (len + n) cap e = q from rfl]
    simp only [hch, Result.andThen_ok, hroom, h8, h7, hz]
  rw [hrun]
  simp [newRow, newObj, Sem.run, w1]
  exact ⟨rfl, rfl, rfl⟩
end
end Go.Sx
namespace Go.Sx
open Go
theorem zaw.nil {β own S go w} (h : zaw β own S go w) {id : Nat} (hβ : β id = none) {s : Nat} {r : zai} (hr : r.len = 0) :
 zaw (upd β id (some ⟨none, s, 0⟩)) (upd own id (fun _ => False)) S (upd go id (some (r.so s))) w /\ Ext β w S (upd β id (some ⟨none, s, 0⟩)) w S := by
  have x : Ext β w S (upd β id (some ⟨none, s, 0⟩)) w S := ⟨fun i B' e => by
   by_cases hi : i = id
   . subst hi; rw [hβ] at e; cases e
   . rw [zab _ _ hi]; exact e, fun _ e => e, fun _ _ => rfl⟩
  refine ⟨⟨fun j o' e => ?_, fun i j b hne hi hj => ?_, fun i b hi => ?_, h.sz⟩, x⟩
  . by_cases hj : j = id
    . subst hj
      simp only [zac, Option.some.injEq] at e ⊢
      subst e
      exact ⟨_, rfl, zmI hr⟩
    . rw [zab _ _ hj] at e
      obtain ⟨B', h1, h2⟩ := h.obj j o' e
      exact ⟨B', x.ids _ _ h1, by rw [zab _ _ hj]; exact h2.ext x (fun b _ => rfl)⟩
  . by_cases h1 : i = id
    . subst h1
      rw [zac]
      exact fun e => e.elim
    . rw [zab own _ h1]
      by_cases h2 : j = id
      . subst h2
        rw [zac]
        exact fun _ e => e
      . rw [zab own _ h2]
        rw [zab go _ h1] at hi
        rw [zab go _ h2] at hj
        exact h.sep i j b hne hi hj
  . by_cases h1 : i = id
    . subst h1
      rw [zac]
      exact fun e => e.elim
    . rw [zab own _ h1]
      rw [zab go _ h1] at hi
      exact h.st i b hi
theorem zio {α : Type _} (g : Nat -> α) (i : Nat) (x y : α) : upd (upd g i x) i y = upd g i y := by
 funext j
 by_cases h : j = i
 . subst h; simp
 . simp [upd, h]
theorem zsz {β own S go} {w w' : World} (h : zaw β own S go w) {ob : Obj} (hw : w'.heap = w.heap.push ob) (h1 : w'.os = w.os) (h2 : w'.tape = w.tape) (h3 : w'.output = w.output) : Fr (za9 go own) w w' :=
 ⟨h1, h2, h3, by rw [hw]; simp, fun k hk _ => by rw [hw, Array.getElem?_push, if_neg (by omega)]⟩
section
variable {C : Ctx} {gt : GT} {go : GO} {o : Oper} {fresh : Nat} {R : List Loc} {v : Option SV} {os : List (Nat × Option SO)} {k : Nat}
theorem zkg : zai.len (.inr []) = 0 := rfl
def zlp (C : Ctx) (gt : GT) (go : GO) (y : Operand) (s : Nat) (new : zai) : Prop :=
 ∀ {β own S a w}, zah C gt go β own S a w -> ∃ M : Array Value, M.size = new.len * s /\ zbM β w S s new M.toList /\ (∀ v ∈ M.toList, v.oneCell' = true) ∧
  (Builtin.lenOf (a.eval y)).run C.P w = .ok new.len w /\ ∀ w', w'.heap = w.heap -> (Builtin.firstCells s new.len (a.eval y)).run C.P w' = .ok M w'
theorem zcf {P : Program} {w : World} {s n : Nat} {b off cap : Nat} {arr : Array Value} {T : TypeId} {fz : Nat × Nat} (hw : w.heap[b]? = some (.cells arr T fz)) (hl : off + n * s <= arr.size) :
 (Builtin.firstCells s n (.slice (some ⟨b, off, none⟩) n cap)).run P w = .ok ((arr.toList.drop off).take (n * s)).toArray w := by
  have h1 : ((arr.toList.drop off).take (n * s)).length = n * s := by simp; omega
  have := run_loadCells_list (P := P) w ⟨b, off, none⟩ ((arr.toList.drop off).take (n * s)) (fun j v hv => by
   rw [Addr.add_mid]
   rw [List.getElem?_take] at hv
   split at hv
   . rw [List.getElem?_drop] at hv
     rw [zhs hw]; simpa using hv
   . cases hv)
  rw [h1] at this
  exact this
theorem zaN {P : Program} {w : World} {s n : Nat} {x : Value} (hx : x = .slice none 0 0 \/ (∃ a cap, x = .slice a 0 cap) /\ n = 0) : (Builtin.firstCells s n x).run P w = .ok #[] w := by
 rcases hx with rfl | ⟨⟨a, cap, rfl⟩, rfl⟩
 . simp [Builtin.firstCells]
 . cases a <;> simp [Builtin.firstCells, loadCells, loadCellsFrom]
theorem zuf {y : Operand} {s : Nat} {sy : SV} {f : zai -> RT} (hs0 : 0 < s) (hy : ∀ {β own S a w}, zah C gt go β own S a w -> rel β w S sy (a.eval y))
 (h : (zlN s sy f).Runs gt go R v os k) : ∃ new R', (f new).Runs gt go R' v os k /\ zlp C gt go y s new := by
  unfold zlN at h
  split at h
  . rename_i id b0 ln
    cases h with
    | rO h =>
      dsimp only at h
      split at h
      . rename_i s' L hgo
        split at h
        . rename_i hone
          simp only [eqN] at h
          split at h
          . rename_i hs
            have hs := Nat.eq_of_beq_eq_true hs
            subst hs
            cases h with
            | req hp h =>
              obtain ⟨rfl, rfl⟩ := hp
              refine ⟨_, _, h, fun {β own S a w} H => ?_⟩
              have h1 := hy H
              simp only [rel] at h1
              obtain ⟨B, hB, h1⟩ := h1
              obtain ⟨B', h4, h5⟩ := H.mem.obj _ _ hgo
              rw [hB] at h4; cases h4
              rcases h5 with ⟨h5, rfl, _⟩ | ⟨b', arr, T, h5, h6, h7, h8, h9, h10, h11⟩
              . simp only [zaV, h5] at h1
                obtain ⟨e1, _, _⟩ := h1
                exact ⟨#[], by simp [zai.len], by simp [zbM, zaY], by simp, by rw [e1]; simp [Builtin.lenOf, zai.len], fun w' _ => by rw [e1]; exact zaN (.inl rfl)⟩
              . simp only [zaV, h5] at h1
                obtain ⟨off, cap, e1, hc1, hc2, hc3⟩ := h1
                obtain ⟨o1, o2⟩ := zmF s L _ hone h11
                by_cases hL : L.length = 0
                . have : L = [] := List.length_eq_zero_iff.1 hL
                  subst this
                  exact ⟨#[], by simp [zai.len], by simp [zbM, zaY], by simp, by rw [e1]; simp [Builtin.lenOf, zai.len], fun w' _ => by rw [e1]; exact zaN (.inr ⟨⟨_, _, rfl⟩, rfl⟩)⟩
                . have hoff : off = 0 := by
                   rcases hc3 with h | h
                   . omega
                   . simpa using h
                  subst hoff
                  simp at o2
                  refine ⟨((arr.toList.drop 0).take (L.length * s)).toArray, by simp [zai.len]; omega, ?_, by simpa using o1, by rw [e1]; simp [Builtin.lenOf, zai.len], fun w' hw' => by rw [e1]; exact zcf (by rw [hw']; exact h8) (by simp [zai.len]; exact o2)⟩
                  exact zfm s L _ _ h11 (by simp [List.take_take])
          . cases h
        . cases h
      . rename_i s' L hgo
        simp only [eqN] at h
        split at h
        . rename_i hs
          have hs := Nat.eq_of_beq_eq_true hs
          subst hs
          cases h with
          | req hp h =>
            refine ⟨_, _, h, fun {β own S a w} H => ?_⟩
            have h1 := hy H
            simp only [rel] at h1
            obtain ⟨B, hB, h1⟩ := h1
            obtain ⟨B', h4, h5⟩ := H.mem.obj _ _ hgo
            rw [hB] at h4; cases h4
            have hlen : ((L.drop b0).take ln).length = ln := by simp; omega
            rcases h5 with ⟨h5, rfl, _⟩ | ⟨b', arr, T, h5, h6, h7, h8, h9, h10, h11⟩
            . simp only [zaV, h5] at h1
              obtain ⟨e1, rfl, rfl⟩ := h1
              exact ⟨#[], by simp [zai.len], by simp [zbM, zaq], by simp, by rw [e1]; simp [Builtin.lenOf, zai.len], fun w' _ => by rw [e1]; exact zaN (.inl rfl)⟩
            . simp only [zaV, h5] at h1
              obtain ⟨off, cap, e1, hc1, hc2, hc3⟩ := h1
              by_cases hL : ln = 0
              . subst hL
                exact ⟨#[], by simp [zai.len], by simp [zbM, zaq], by simp, by rw [e1]; simp [Builtin.lenOf, zai.len], fun w' _ => by rw [e1]; exact zaN (.inr ⟨⟨_, _, rfl⟩, rfl⟩)⟩
              . have hoff : off = b0 * s := by
                 rcases hc3 with h | h
                 . omega
                 . rw [h, h6]
                subst hoff
                have q1 := zdM s _ _ ln (zdL s _ _ b0 h11)
                obtain ⟨o1, o2⟩ := zcN s _ _ q1
                rw [hlen] at o1 o2
                simp at o2
                have hb2 : b0 * s <= arr.size := by
                 by_cases hq : ln * s = 0
                 . rcases Nat.mul_eq_zero.1 hq with h | h <;> omega
                 . omega
                refine ⟨((arr.toList.drop (b0 * s)).take (ln * s)).toArray, by simp [zai.len, hlen]; omega, ?_, by simpa using o1, by rw [e1]; simp [Builtin.lenOf, zai.len, hlen], fun w' hw' => ?_⟩
                . show zaq w S s _ _
                  exact zbD s _ _ _ q1 (by rw [hlen]; simp [List.take_take])
                . rw [e1]
                  have := zcf (P := C.P) (w := w') (s := s) (n := ln) (cap := cap) (by rw [hw']; exact h8) (off := b0 * s) (by omega)
                  simp only [zai.len, hlen]
                  exact this
        . cases h
      . cases h
  . rename_i s' L
    cases h with
    | req hp h' =>
      subst hp
      refine ⟨_, _, h', fun {β own S a w} H => ?_⟩
      have h1 := hy H
      simp only [rel, zaR] at h1
      obtain ⟨ad, cap, e1, hcap, hne, _⟩ := h1
      by_cases hL : L = []
      . subst hL
        exact ⟨#[], by simp [zai.len], by simp [zbM, zaq], by simp, by rw [e1]; simp [Builtin.lenOf, zai.len], fun w' _ => by rw [e1]; exact zaN (.inr ⟨⟨_, _, rfl⟩, rfl⟩)⟩
      . obtain ⟨b, off, arr, T, fz, rfl, hS, hw, hr⟩ := hne hL
        obtain ⟨o1, o2⟩ := zcN s _ _ hr
        simp at o2
        have hpos : 0 < L.length * s := Nat.mul_pos (List.length_pos_iff.2 hL) hs0
        refine ⟨((arr.toList.drop off).take (L.length * s)).toArray, by simp [zai.len]; omega, ?_, by simpa using o1, by rw [e1]; simp [Builtin.lenOf, zai.len], fun w' hw' => by rw [e1]; exact zcf (by rw [hw']; exact hw) (by simp [zai.len]; omega)⟩
        show zaq w S s _ _
        exact zbD s _ _ _ hr (by simp [List.take_take])
  . cases h with
    | req hp h =>
      subst hp
      refine ⟨_, _, h, fun {β own S a w} H => ?_⟩
      have h1 := hy H
      simp only [rel] at h1
      exact ⟨#[], by simp [zai.len], by simp [zbM, zaq], by simp, by rw [h1]; simp [Builtin.lenOf, zai.len], fun w' _ => by rw [h1]; exact zaN (.inr ⟨⟨_, _, rfl⟩, rfl⟩)⟩
  . cases h with
    | req hp h =>
      subst hp
      refine ⟨_, _, h, fun {β own S a w} H => ?_⟩
      have h1 := hy H
      simp only [rel] at h1
      exact ⟨#[], by simp [zai.len], by simp [zbM, zaq], by simp, by rw [h1]; simp [Builtin.lenOf, zai.len], fun w' _ => by rw [h1]; exact zaN (.inl rfl)⟩
  . cases h
theorem zek {sT xT : TypeId} {x y : Operand} (ho : o.op = .call { callee := .builtin .append, args := #[x, y], argTypes := #[sT, xT] }) {a : Act} {w w' : World} {P : Program} {z : Value}
 (hz : (Builtin.append_ #[sT, xT] o.type #[a.eval x, a.eval y]).run P w = .ok z w') : (execOp a.eval o).run P w = .ok (.value z) w' := by
  simp [execOp, ho, resolve, invoke, builtin, hz]
theorem zs4 {sT xT : TypeId} {s by_ : Nat} {x y : Operand} {new : zai} (ho : o.op = .call { callee := .builtin .append, args := #[x, y], argTypes := #[sT, xT] }) (ha : zgC C.P sT xT s by_)
 (hx : ∀ {β own S a w}, zah C gt go β own S a w -> a.eval x = .slice none 0 0) (hn : zlp C gt go y s new) {r : zai} (hj : zcB (.inr []) new = some r) (hb : new.len * by_ <= 2 ^ 46)
 (hd : zau C o.dst (some (.slc fresh 0 new.len))) : zaD C o fresh gt go (some (.slc fresh 0 new.len)) [(fresh, some (r.so s))] 1 := by
  obtain ⟨_, _, _, _, _, _, _, _, _, _, hs0, _⟩ := ha.ok
  intro β own S a w H hβ next Q hnx
  obtain ⟨M, m1, m2, m3, m4, m5⟩ := hn H
  have hb0 : β fresh = none := hβ fresh (Nat.le_refl _) (by omega)
  have hx1 := hx H
  have hfin : ∀ i, ¬ (fresh <= i /\ i < fresh + 1) -> i ≠ fresh := fun i hi e => hi (by omega)
  by_cases h0 : new.len = 0
  . have hM : M = #[] := by
     have : M.size = 0 := by rw [m1, h0]; simp
     exact Array.eq_empty_of_size_eq_zero this
    have hrun := ze9 (ty := o.type) ha (base := none) (len := 0) (cap := 0) m4 (m5 w rfl) (by omega) (w' := w) (by simp)
    have hr0 : r.len = 0 := by
     have := (zds (β := β) (w := w) (S := S) (s := s) hj (vs := []) (us := M.toList) (by simp [zbM, zaq]) (by simp [zai.len]) m2).2
     rw [zkg] at this
     omega
    obtain ⟨hm, hx2⟩ := H.mem.nil hb0 (s := s) hr0
    have hrun' := zek (a := a) (w := w) (P := C.P) ho (by rw [hx1]; exact hrun)
    refine zbU (by simp [ho]) hrun' (hnx (upd β fresh (some ⟨none, s, 0⟩)) (upd own fresh (fun _ => False)) S _ w (fun i hi => zab _ _ (hfin i hi)) ?_)
    refine H.step hx2 hm ⟨rfl, rfl, rfl, Nat.le_refl _, fun _ _ _ => rfl⟩ (fun i b e1 e2 => ?_) (fun b e => .inl e) o.dst _ _ (zcd hd (fun s' e => ?_)) (zbw hd gt)
    . by_cases e : i = fresh
      . subst e; rw [zac] at e2; exact e2.elim
      . rw [zab _ _ e] at e1 e2; exact .inl ⟨i, e1, e2⟩
    . cases e
      simp only [rel, zac]
      exact ⟨_, rfl, by simp [zaV, h0]⟩
  . obtain ⟨c, T, w', Z, q1, q2, q3, q4, q5, q6, q7⟩ := zcG (ty := o.type) ha (base := none) (len := 0) (cap := 0) (O := #[]) m4 (by omega) (by simpa using hb) m5 (fun w' _ => zaN (.inl rfl))
    refine ze3 (so := r.so s) (s := .slc fresh 0 new.len) (by simp [ho]) hd (fun {β own S a w} H => ?_) β own S a w H hβ next Q hnx
    obtain ⟨M, m1, m2, m3, m4, m5⟩ := hn H
    obtain ⟨c, T, w', Z, q1, q2, q3, q4, q5, q6, q7⟩ := zcG (ty := o.type) ha (base := none) (len := 0) (cap := 0) (O := #[]) m4 (by omega) (by simpa using hb) m5 (fun w' _ => zaN (.inl rfl))
    refine ⟨_, w', _, ⟨some w.heap.size, s, c⟩, zek ho (by rw [hx H]; exact q2), q3, q4, q5, q6, fun ex => ⟨?_, ?_⟩⟩
    . obtain ⟨j1, j2⟩ := zds hj (vs := []) (us := M.toList) (by simp [zbM, zaq]) (by simp [zai.len]) (zdr ex m2)
      rw [zkg] at j2
      simp only [Nat.zero_add] at j2 q1 q7
      refine zeM (b := w.heap.size) (arr := #[] ++ M ++ Z) (T := T) rfl rfl rfl (by rw [q3]; simp) ?_ (by rw [j2]; exact q1) ?_
      . simp only [Array.size_append, m1, q7, List.size_toArray, List.length_nil]
        rw [Nat.zero_add, <- Nat.add_mul]
        congr 1
        omega
      . simp only [Array.toList_append, List.nil_append]
        refine zfw (by simpa using j1) ?_
        rw [j2]; simpa using m1
    . simp only [rel, zac]
      exact ⟨_, rfl, 0, c, by simp, by omega, by simp, .inr (by simp)⟩
theorem zm3 {sT xT : TypeId} {s by_ : Nat} {x y : Operand} {old new : zai} {id : Nat} (ho : o.op = .call { callee := .builtin .append, args := #[x, y], argTypes := #[sT, xT] }) (ha : zgC C.P sT xT s by_)
 (hx : ∀ {β own S a w}, zah C gt go β own S a w -> rel β w S (.slc id 0 old.len) (a.eval x)) (hgo : go id = some (old.so s)) (hn : zlp C gt go y s new) {r : zai} (hj : zcB old new = some r) (hb : (old.len + new.len) * by_ <= 2 ^ 46)
 (hd : zau C o.dst (some (.slc fresh 0 (old.len + new.len)))) : zaD C o fresh gt go (some (.slc fresh 0 (old.len + new.len))) [(id, none), (fresh, some (r.so s))] 1 := by
  obtain ⟨_, _, _, _, _, _, _, _, _, _, hs0, _⟩ := ha.ok
  intro β own S a w H hβ next Q hnx
  obtain ⟨M, m1, m2, m3, m4, m5⟩ := hn H
  have hb0 : β fresh = none := hβ fresh (Nat.le_refl _) (by omega)
  have hx1 := hx H
  simp only [rel] at hx1
  obtain ⟨B, hB, hx1⟩ := hx1
  have hid : id ≠ fresh := fun e => by subst e; rw [hb0] at hB; cases hB
  obtain ⟨B', h4, h5⟩ := H.mem.obj _ _ hgo
  rw [hB] at h4; cases h4
  have hsome : (go id).isSome := by simp [hgo]
  have hput : za0 go [(id, none), (fresh, some (r.so s))] = upd (upd go id none) fresh (some (r.so s)) := rfl
  have hfin : ∀ i, ¬ (fresh <= i /\ i < fresh + 1) -> i ≠ fresh := fun i hi e => hi (by omega)
  rcases zmo h5 with ⟨hblk, hl0, hcap0, hstr, hF⟩ | ⟨b, arr, T, hblk, hstr, hF, hw, hsz, hlc, hc⟩
  . simp only [zaV, hblk] at hx1
    obtain ⟨e1, _, _⟩ := hx1
    by_cases h0 : new.len = 0
    . have hrun := ze9 (ty := o.type) ha (base := none) (len := 0) (cap := 0) m4 (m5 w rfl) (by omega) (w' := w) (by simp)
      have hr0 : r.len = 0 := by
       have := (zds (β := β) (w := w) (S := S) (s := s) hj (vs := []) (us := M.toList) (by
        cases old with
        | inl L => have : L = [] := List.length_eq_zero_iff.1 hl0; subst this; simp [zbM, zaY]
        | inr L => have : L = [] := List.length_eq_zero_iff.1 hl0; subst this; simp [zbM, zaq]) (by simp [hl0]) m2).2
       omega
      obtain ⟨hm, hx2⟩ := (H.mem.drop id).nil hb0 (s := s) hr0
      have hrun' := zek (a := a) (w := w) (P := C.P) ho (by rw [e1]; exact hrun)
      refine zbU (by simp [ho]) hrun' (hnx (upd β fresh (some ⟨none, s, 0⟩)) (upd own fresh (fun _ => False)) S _ w (fun i hi => zab _ _ (hfin i hi)) ?_)
      rw [hput]
      refine H.step hx2 hm ⟨rfl, rfl, rfl, Nat.le_refl _, fun _ _ _ => rfl⟩ (fun i b e1 e2 => ?_) (fun b e => .inl e) o.dst _ _ (zcd hd (fun s' e => ?_)) (zbw hd gt)
      . by_cases e : i = fresh
        . subst e; rw [zac] at e2; exact e2.elim
        . rw [zab _ _ e] at e1 e2
          by_cases e3 : i = id
          . subst e3; simp at e1
          . rw [zab _ _ e3] at e1; exact .inl ⟨i, e1, e2⟩
      . cases e
        simp only [rel, zac]
        exact ⟨_, rfl, by simp [zaV, h0, hl0]⟩
    . obtain ⟨c, T, w', Z, q1, q2, q3, q4, q5, q6, q7⟩ := zcG (ty := o.type) ha (base := none) (len := 0) (cap := 0) (O := #[]) m4 (by omega) (by simpa [hl0] using hb) m5 (fun w' _ => zaN (.inl rfl))
      have hd2 := H.mem.drop id
      have hobj : za3 (upd β fresh (some ⟨some w.heap.size, s, c⟩)) w' S ⟨some w.heap.size, s, c⟩ (zci w.heap.size) (r.so s) := by
       have ex : Ext β w S (upd β fresh (some ⟨some w.heap.size, s, c⟩)) w' S := ⟨fun i B' e => by
        by_cases hi : i = fresh
        . subst hi; rw [hb0] at e; cases e
        . rw [zab _ _ hi]; exact e, fun _ e => e, fun b hb => by
          have := H.mem.sz b hb
          rw [q3, Array.getElem?_push, if_neg (by omega)]⟩
       obtain ⟨j1, j2⟩ := zds hj (vs := []) (us := M.toList) (by
        cases old with
        | inl L => have : L = [] := List.length_eq_zero_iff.1 hl0; subst this; simp [zbM, zaY]
        | inr L => have : L = [] := List.length_eq_zero_iff.1 hl0; subst this; simp [zbM, zaq]) (by simp [hl0]) (zdr ex m2)
       simp only [hl0, Nat.zero_add] at j2 q1 q7
       refine zeM (b := w.heap.size) (arr := #[] ++ M ++ Z) (T := T) rfl rfl rfl (by rw [q3]; simp) ?_ (by rw [j2]; exact q1) ?_
       . simp only [Array.size_append, m1, q7, List.size_toArray, List.length_nil]
         rw [Nat.zero_add, <- Nat.add_mul]
         congr 1
         omega
       . simp only [Array.toList_append, List.nil_append]
         refine zfw (by simpa using j1) ?_
         rw [j2]; simpa using m1
      obtain ⟨hm, hx2⟩ := hd2.new (w' := w') hb0 q3 hobj
      have hrun' := zek (a := a) (w := w) (P := C.P) ho (by rw [e1]; exact q2)
      refine zbU (by simp [ho]) hrun' (hnx (upd β fresh (some ⟨some w.heap.size, s, c⟩)) (upd own fresh (zci w.heap.size)) S _ w' (fun i hi => zab _ _ (hfin i hi)) ?_)
      rw [hput]
      refine H.step hx2 hm (zsz H.mem q3 q4 q5 q6) (fun i b e1 e2 => ?_) (fun b e => .inl e) o.dst _ _ (zcd hd (fun s' e => ?_)) (zbw hd gt)
      . by_cases e : i = fresh
        . subst e; rw [zac] at e2; cases e2; exact .inr (Nat.le_refl _)
        . rw [zab _ _ e] at e1 e2
          by_cases e3 : i = id
          . subst e3; simp at e1
          . rw [zab _ _ e3] at e1; exact .inl ⟨i, e1, e2⟩
      . cases e
        simp only [rel, zac, hl0, Nat.zero_add]
        exact ⟨_, rfl, 0, c, by simp, by omega, by simp, .inr (by simp)⟩
  . simp only [zaV, hblk] at hx1
    obtain ⟨off, cap, e1, hc1, hc2, hc3⟩ := hx1
    have hclen := zq5 hc
    simp at hclen
    by_cases hle : old.len + new.len <= cap
    . -- in place
      have hoff : off = 0 \/ (old.len = 0 /\ new.len = 0) := by
       rcases hc3 with h | h
       . right; omega
       . left; simpa using h
      have hval : off * 0 = 0 := by simp
      let arr' : Array Value := (arr.toList.take (old.len * s) ++ M.toList ++ arr.toList.drop (old.len * s + M.toList.length)).toArray
      have hfit : old.len * s + M.toList.length <= arr.size := by
       rw [hsz]
       have : (old.len + new.len) * s <= B.cap * s := Nat.mul_le_mul_right _ (by omega)
       rw [Nat.add_mul] at this
       simp [m1]; omega
      have hst : ∃ w', (storeCells ((⟨b, off, none⟩ : Addr).add (old.len * s)) M.toList).run C.P w = .ok () w' /\ w'.heap.size = w.heap.size /\ (∀ b', b' ≠ b -> w'.heap[b']? = w.heap[b']?) /\ w'.os = w.os /\ w'.tape = w.tape /\ w'.output = w.output ∧
       w'.heap[b]? = some (.cells arr' T (0, 0)) := by
        rcases hoff with rfl | ⟨z1, z2⟩
        . refine ⟨w.setRow b arr', ?_, zbX, fun b' hb' => zbL hb', rfl, rfl, rfl, setRow_heap _ _ _ _ _ _ hw⟩
          have := run_storeCells_at C.P b (old.len * s) T M.toList 0 arr w hw (by simpa using hfit) m3
          rw [Addr.add_mid]
          simpa [arr'] using this
        . have hM : M = #[] := Array.eq_empty_of_size_eq_zero (by rw [m1, z2]; simp)
          refine ⟨w, by rw [hM]; simp [storeCells], rfl, fun _ _ => rfl, rfl, rfl, rfl, ?_⟩
          have : arr' = arr := by
           simp only [arr', hM]
           simp
          rw [this]; exact hw
      obtain ⟨w', s1, s2, s3, s4, s5, s6, s7⟩ := hst
      have hrun := ze9 (ty := o.type) ha (base := some ⟨b, off, none⟩) (len := old.len) (cap := cap) m4 (m5 w rfl) hle (w' := w') s1
      have hext : Ext β w S β w' S := ⟨fun _ _ e => e, fun _ e => e, fun b' hb' => s3 b' (fun e => H.mem.st id b' hsome (by rw [hF, e]; rfl) hb')⟩
      have hjc := zds hj (vs := arr.toList.take (old.len * s)) (us := M.toList) (zdr hext (zkM hc)) (by simp; omega) (zdr hext m2)
      have hobj : za3 β w' S B (own id) (r.so s) := by
       refine zeM (b := b) (arr := arr') (T := T) hblk hstr hF s7 ?_ (by rw [hjc.2]; omega) ?_
       . simp only [arr', List.size_toArray, List.length_append, List.length_take, List.length_drop, Array.length_toList] at hfit ⊢
         omega
       . simp only [arr']
         refine zfw hjc.1 ?_
         rw [hjc.2, List.length_append, List.length_take, Array.length_toList, Array.length_toList, m1, Nat.add_mul, Nat.min_eq_left hclen]
      obtain ⟨hm1, hx1⟩ := H.mem.set (o := r.so s) hgo hB s2 (fun b' hb' => s3 b' (fun e => hb' (by rw [hF, e]; rfl))) hobj
      obtain ⟨hm2, hx2⟩ := hm1.move (id := id) (id' := fresh) (o := r.so s) (by simp) hb0 hB (hobj.ext ⟨fun i B' e => by
       by_cases hi : i = fresh
       . subst hi; rw [hb0] at e; cases e
       . rw [zab _ _ hi]; exact e, fun _ e => e, fun _ _ => rfl⟩ (fun _ _ => rfl))
      rw [zio] at hm2
      have hrun' := zek (a := a) (w := w) (P := C.P) ho (by rw [e1]; exact hrun)
      refine zbU (by simp [ho]) hrun' (hnx (upd β fresh (some B)) (upd own fresh (own id)) S _ w' (fun i hi => zab _ _ (hfin i hi)) ?_)
      rw [hput]
      refine H.step (hx1.trans hx2) hm2 ⟨s4, s5, s6, by rw [s2]; exact Nat.le_refl _, fun k hk hx => s3 k (fun e => hx ⟨id, hsome, by rw [hF, e]; rfl⟩)⟩ (fun i b' e1 e2 => ?_) (fun b e => .inl e) o.dst _ _ (zcd hd (fun s' e => ?_)) (zbw hd gt)
      . left
        by_cases e : i = fresh
        . subst e; rw [zac] at e2; exact ⟨id, hsome, e2⟩
        . rw [zab _ _ e] at e1 e2
          by_cases e3 : i = id
          . subst e3; simp at e1
          . rw [zab _ _ e3] at e1; exact ⟨i, e1, e2⟩
      . cases e
        simp only [rel, zac]
        refine ⟨B, rfl, ?_⟩
        simp only [zaV, hblk]
        exact ⟨off, cap, rfl, hle, hc2, hc3⟩
    . -- a new block
      have hO : ∀ w' : World, w'.heap = w.heap -> (Builtin.firstCells s old.len (.slice (some ⟨b, off, none⟩) old.len cap)).run C.P w' = .ok (arr.toList.take (old.len * s)).toArray w' := by
       intro w' hw'
       by_cases h0 : old.len = 0
       . rw [h0]; simp; exact zaN (.inr ⟨⟨_, _, rfl⟩, rfl⟩)
       . have hoff : off = 0 := by
          rcases hc3 with h | h
          . omega
          . simpa using h
         subst hoff
         have := zcf (P := C.P) (w := w') (s := s) (n := old.len) (cap := cap) (by rw [hw']; exact hw) (off := 0) (by simpa using hclen)
         simpa using this
      obtain ⟨c, T', w', Z, q1, q2, q3, q4, q5, q6, q7⟩ := zcG (ty := o.type) ha (base := some ⟨b, off, none⟩) (len := old.len) (cap := cap) m4 (by omega) hb m5 hO
      have hd2 := H.mem.drop id
      have hobj : za3 (upd β fresh (some ⟨some w.heap.size, s, c⟩)) w' S ⟨some w.heap.size, s, c⟩ (zci w.heap.size) (r.so s) := by
       have ex : Ext β w S (upd β fresh (some ⟨some w.heap.size, s, c⟩)) w' S := ⟨fun i B' e => by
        by_cases hi : i = fresh
        . subst hi; rw [hb0] at e; cases e
        . rw [zab _ _ hi]; exact e, fun _ e => e, fun b hb => by
          have := H.mem.sz b hb
          rw [q3, Array.getElem?_push, if_neg (by omega)]⟩
       obtain ⟨j1, j2⟩ := zds hj (vs := arr.toList.take (old.len * s)) (us := M.toList) (zdr ex (zkM hc)) (by simp; omega) (zdr ex m2)
       refine zeM (b := w.heap.size) (arr := (arr.toList.take (old.len * s)).toArray ++ M ++ Z) (T := T') rfl rfl rfl (by rw [q3]; simp) ?_ (by rw [j2]; exact q1) ?_
       . simp only [Array.size_append, m1, q7, List.size_toArray, List.length_take, Array.length_toList, Nat.min_eq_left hclen]
         rw [<- Nat.add_mul, <- Nat.add_mul]
         congr 1
         omega
       . simp only [Array.toList_append]
         refine zfw (by simpa using j1) ?_
         rw [j2, Nat.add_mul]
         simp [m1]; omega
      obtain ⟨hm, hx2⟩ := hd2.new (w' := w') hb0 q3 hobj
      have hrun' := zek (a := a) (w := w) (P := C.P) ho (by rw [e1]; exact q2)
      refine zbU (by simp [ho]) hrun' (hnx (upd β fresh (some ⟨some w.heap.size, s, c⟩)) (upd own fresh (zci w.heap.size)) S _ w' (fun i hi => zab _ _ (hfin i hi)) ?_)
      rw [hput]
      refine H.step hx2 hm (zsz H.mem q3 q4 q5 q6) (fun i b e1 e2 => ?_) (fun b e => .inl e) o.dst _ _ (zcd hd (fun s' e => ?_)) (zbw hd gt)
      . by_cases e : i = fresh
        . subst e; rw [zac] at e2; cases e2; exact .inr (Nat.le_refl _)
        . rw [zab _ _ e] at e1 e2
          by_cases e3 : i = id
          . subst e3; simp at e1
          . rw [zab _ _ e3] at e1; exact .inl ⟨i, e1, e2⟩
      . cases e
        simp only [rel, zac]
        exact ⟨_, rfl, 0, c, by simp, by omega, by simp, .inr (by simp)⟩
theorem zs5 {sT xT : TypeId} {s by_ : Nat} {x y : Operand} {L : List (List PV)} {new : zai} {id st ln : Nat} (ho : o.op = .call { callee := .builtin .append, args := #[x, y], argTypes := #[sT, xT] }) (ha : zgC C.P sT xT s by_)
 (hx : ∀ {β own S a w}, zah C gt go β own S a w -> rel β w S (.slx id st ln) (a.eval x)) (hgo : go id = some (.vec s L)) (hn : zlp C gt go y s new) (hle : st + ln <= L.length) (h0 : 0 < new.len) {r : zai}
 (hj : zcB (.inr ((L.drop st).take ln)) new = some r) (hb : (zai.len (.inr ((L.drop st).take ln)) + new.len) * by_ <= 2 ^ 46)
 (hd : zau C o.dst (some (.slc fresh 0 (zai.len (.inr ((L.drop st).take ln)) + new.len)))) :
 zaD C o fresh gt go (some (.slc fresh 0 (zai.len (.inr ((L.drop st).take ln)) + new.len))) [(fresh, some (r.so s))] 1 := by
  have hll : zai.len (.inr ((L.drop st).take ln)) = ln := by simp [zai.len]; omega
  refine ze3 (so := r.so s) (by simp [ho]) hd fun {β own S a w} H => ?_
  obtain ⟨M, m1, m2, m3, m4, m5⟩ := hn H
  have hx1 := hx H
  simp only [rel] at hx1
  obtain ⟨B, b, hB, hblk, hx1, hcap⟩ := hx1
  obtain ⟨B', h4, h5⟩ := H.mem.obj _ _ hgo
  rw [hB] at h4; cases h4
  rcases h5 with ⟨q1, _⟩ | ⟨b', arr, T, q1, q2, q3, q4, q5, q6, q7⟩
  . rw [q1] at hblk; cases hblk
  rw [hblk] at q1; cases q1
  have hfit : st * s + ln * s <= arr.size := by
   rw [q5, <- Nat.add_mul]
   exact Nat.mul_le_mul_right _ (by omega)
  have hO : ∀ w' : World, w'.heap = w.heap -> (Builtin.firstCells s ln (.slice (some ⟨b, st * B.str, none⟩) ln ln)).run C.P w' = .ok ((arr.toList.drop (st * s)).take (ln * s)).toArray w' := by
   intro w' hw'
   rw [q2]
   exact zcf (P := C.P) (w := w') (s := s) (n := ln) (cap := ln) (by rw [hw']; exact q4) (off := st * s) hfit
  rw [hll] at hb ⊢
  obtain ⟨c, T', w', Z, p1, p2, p3, p4, p5, p6, p7⟩ := zcG (ty := o.type) ha (base := some ⟨b, st * B.str, none⟩) (len := ln) (cap := ln) m4 (by omega) hb m5 hO
  refine ⟨_, w', _, ⟨some w.heap.size, s, c⟩, zek ho (by rw [hx1]; exact p2), p3, p4, p5, p6, fun ex => ⟨?_, ?_⟩⟩
  . have hlen : ((arr.toList.drop (st * s)).take (ln * s)).length = ln * s := by simp; omega
    obtain ⟨j1, j2⟩ := zds hj (vs := (arr.toList.drop (st * s)).take (ln * s)) (us := M.toList) (zdr ex (show zbM β w S s (.inr ((L.drop st).take ln)) _ from by
     have hq := zdM s _ _ ln (zdL s _ _ st q7)
     have hl : ((L.drop st).take ln).length = ln := by simp; omega
     exact zbD s _ _ _ hq (by rw [hl]; simp [List.take_take]))) (by rw [hlen, hll]) (zdr ex m2)
    rw [hll] at j2
    refine zeM (b := w.heap.size) (arr := ((arr.toList.drop (st * s)).take (ln * s)).toArray ++ M ++ Z) (T := T') rfl rfl rfl (by rw [p3]; simp) ?_ (by rw [j2]; exact p1) ?_
    . simp only [Array.size_append, m1, p7, List.size_toArray, hlen]
      rw [<- Nat.add_mul, <- Nat.add_mul]
      congr 1
      omega
    . simp only [Array.toList_append]
      refine zfw (by simpa using j1) ?_
      rw [j2, Nat.add_mul]
      simp [m1]; omega
  . simp only [rel, zac]
    exact ⟨_, rfl, 0, c, by simp, by omega, by simp, .inr (by simp)⟩
theorem zwR {sT xT : TypeId} {s by_ : Nat} {x y : Operand} (ho : o.op = .call { callee := .builtin .append, args := #[x, y], argTypes := #[sT, xT] }) (ha : zgC C.P sT xT s by_)
 (h : (MO.rt C.toEnv fresh (.app s by_ (cX x) (cX y))).Runs gt go R v os k) (hd : zau C o.dst v) : zaD C o fresh gt go v os k := by
  have hs0 : 0 < s := by obtain ⟨_, _, _, _, _, _, _, _, _, _, hs0, _⟩ := ha.ok; exact hs0
  simp only [MO.rt] at h
  replace h := zap h
  obtain ⟨sx, R1, h, hx⟩ := h
  replace h := zap h
  obtain ⟨sy, R2, h, hy⟩ := h
  unfold zsk at h
  replace h := zuf hs0 hy h
  obtain ⟨new, R3, h, hn⟩ := h
  have mk : ∀ {os0 : List (Nat × Option SO)} {old : zai} {R v os k}, (zh3 s by_ fresh os0 old new).Runs gt go R v os k -> ∃ r, zcB old new = some r /\ (old.len + new.len) * by_ <= 2 ^ 46 /\ v = some (.slc fresh 0 (old.len + new.len)) /\ os = os0 ++ [(fresh, some (r.so s))] /\ k = 1 := by
   intro os0 old R v os k h
   unfold zh3 at h
   split at h
   . rename_i r hr
     cases h with
     | req hp h => cases h; exact ⟨r, hr, hp, rfl, rfl, rfl⟩
   . cases h
  split at h
  . rename_i id b0 ln
    cases h with
    | rO h =>
      dsimp only at h
      split at h
      . rename_i s' L hgo
        simp only [eqN] at h
        split at h
        . rename_i hs
          have hs := Nat.eq_of_beq_eq_true hs
          subst hs
          cases h with
          | req hp h =>
            obtain ⟨rfl, rfl⟩ := hp
            obtain ⟨r, h1, h2, rfl, rfl, rfl⟩ := mk h
            exact zm3 (old := .inr L) ho ha hx hgo hn h1 h2 hd
        . cases h
      . rename_i s' L hgo
        simp only [eqN] at h
        split at h
        . rename_i hs
          have hs := Nat.eq_of_beq_eq_true hs
          subst hs
          cases h with
          | req hp h =>
            obtain ⟨rfl, rfl⟩ := hp
            obtain ⟨r, h1, h2, rfl, rfl, rfl⟩ := mk h
            exact zm3 (old := .inl L) ho ha hx hgo hn h1 h2 hd
        . cases h
      . cases h
  . rename_i id b0 ln
    cases h with
    | rO h =>
      dsimp only at h
      split at h
      . rename_i s' L hgo
        simp only [eqN] at h
        split at h
        . rename_i hs
          have hs := Nat.eq_of_beq_eq_true hs
          subst hs
          cases h with
          | req hp h =>
            obtain ⟨r, h1, h2, rfl, rfl, rfl⟩ := mk h
            exact zs5 ho ha hx hgo hn hp.1 hp.2 h1 h2 hd
        . cases h
      . cases h
  . cases h with
    | req hp h =>
      subst hp
      obtain ⟨r, h1, h2, rfl, rfl, rfl⟩ := mk h
      simp only [zkg, Nat.zero_add] at h2 hd ⊢
      exact zs4 ho ha (fun H => by have := hx H; simpa [rel] using this) hn h1 h2 hd
  . cases h
end
end Go.Sx
namespace Go.Sx
open Go
structure Ren.le (ρ ρ' : Ren) : Prop where
 m : ∀ i q, zav i ρ.m = some q -> zav i ρ'.m = some q
 b : ∀ j, j ∈ ρ.bor -> j ∈ ρ'.bor
theorem Ren.le.refl (ρ : Ren) : ρ.le ρ := ⟨fun _ _ h => h, fun _ h => h⟩
theorem Ren.le.trans {a b c : Ren} (h : a.le b) (k : b.le c) : a.le c := ⟨fun i q e => k.m i q (h.m i q e), fun j e => k.b j (h.b j e)⟩
def Ren.inj (ρ : Ren) : Prop := ∀ i i' j, zav i ρ.m = some (some j) -> zav i' ρ.m = some (some j) -> i = i'
def bOf (ρ : Ren) (β : Nat -> Option zay) (sp : Nat -> Nat) : Nat -> Option zay := fun i =>
 match zav i ρ.m with
 | some (some j) => β j
 | some none => some ⟨none, sp i, 0⟩
 | none => none
def zb8 (ρ : Ren) (own : Nat -> Nat -> Prop) : Nat -> Nat -> Prop := fun i =>
 match zav i ρ.m with
 | some (some j) => own j
 | _ => fun _ => False
structure Fit (go : GO) (ρ : Ren) (β : Nat -> Option zay) (own : Nat -> Nat -> Prop) (S : Nat -> Prop) (w : World) (Sp : Nat -> Prop) : Prop where
 mem : zaw β own S go w
 sub : ∀ b, S b -> Sp b
 bor : ∀ j, j ∈ ρ.bor -> (go j).isSome -> ∀ b, own j b -> Sp b
theorem zaI {α : Type _} {i k : Nat} {x : α} {l : List (Nat × α)} : zav i ((k, x) :: l) = if k = i then some x else zav i l := by
 simp only [zav]
 by_cases h : k = i
 . subst h; simp
 . have : Nat.beq k i = false := by
    cases e : Nat.beq k i with
    | true => exact absurd (Nat.eq_of_beq_eq_true e) h
    | false => rfl
   rw [this, if_neg h]
theorem zch {α : Type _} : ∀ {l : List (Nat × α)} {i : Nat} {x : α}, zav i l = some x -> (i, x) ∈ l
 | [], i, x, h => by simp [zav] at h
 | (k, y) :: l, i, x, h => by
   rw [zaI] at h
   split at h
   . rename_i e; subst e; simp at h; subst h; simp
   . exact List.mem_cons_of_mem _ (zch h)
section
variable {gt : GT} {go : GO} {R : List Loc} {v : Option SV} {os : List (Nat × Option SO)} {k : Nat}
theorem zdq {ρ : Ren} {i : Nat} {j : Option Nat} {f : Ren -> RT} (h : (ρ.bind i j f).Runs gt go R v os k) :
 ∃ ρ' R', (f ρ').Runs gt go R' v os k /\ ρ.le ρ' /\ (ρ.inj -> ρ'.inj) /\ zav i ρ'.m = some j := by
  unfold Ren.bind at h
  split at h
  . rename_i hl
    split at h
    . refine ⟨_, _, h, ⟨fun i' q e => ?_, fun _ e => e⟩, fun hi a b c ha hb => ?_, by rw [zaI]; simp⟩
      . rw [zaI]
        split
        . rename_i e'; subst e'; rw [hl] at e; cases e
        . exact e
      . rw [zaI] at ha hb
        split at ha
        . cases ha
        . split at hb
          . cases hb
          . exact hi a b c ha hb
    . rename_i j'
      split at h
      . rename_i hall
        refine ⟨_, _, h, ⟨fun i' q e => ?_, fun _ e => e⟩, fun hi a b c ha hb => ?_, by rw [zaI]; simp⟩
        . rw [zaI]
          split
          . rename_i e'; subst e'; rw [hl] at e; cases e
          . exact e
        . have hne : ∀ a c, zav a ρ.m = some (some c) -> c ≠ j' := fun a c ha e => by
           have := List.all_eq_true.1 hall _ (zch ha)
           subst e
           simp at this
          rw [zaI] at ha hb
          split at ha
          . rename_i e1
            split at hb
            . rename_i e2; exact e1.symm.trans e2
            . cases ha; exact absurd rfl (hne b _ hb)
          . split at hb
            . cases hb; exact absurd rfl (hne a _ ha)
            . exact hi a b c ha hb
      . cases h
  . rename_i hl
    split at h
    . exact ⟨_, _, h, .refl _, id, hl⟩
    . cases h
  . rename_i q hl
    split at h
    . cases h
    . split at h
      . rename_i e
        have := Nat.eq_of_beq_eq_true e
        subst this
        exact ⟨_, _, h, .refl _, id, hl⟩
      . cases h
theorem zhp {β own S go w} {Sp : Nat -> Prop} (hm : zaw β own S go w) (hsub : ∀ b, S b -> Sp b) {j st len : Nat} {s : Nat} {r : zai} {L : List (List PV)} (hgo : go j = some (r.so s))
 (hbor : ∀ b, own j b -> Sp b) (hL : (∃ M, r = .inl M /\ ze7 M = some L) \/ r = .inr L) {x : Value} (hx : rel β w S (.slc j st len) x) (hle : st + len <= L.length) :
 zaR w Sp (.sl s ((L.drop st).take len)) x := by
  simp only [rel] at hx
  obtain ⟨B, hB, hx⟩ := hx
  obtain ⟨B', h4, h5⟩ := hm.obj _ _ hgo
  rw [hB] at h4; cases h4
  have hlen : ((L.drop st).take len).length = len := by simp; omega
  simp only [zaR]
  rcases zmo h5 with ⟨hblk, hl0, hcap0, hstr, hF⟩ | ⟨b, arr, T, hblk, hstr, hF, hw, hsz, hlc, hc⟩
  . simp only [zaV, hblk] at hx
    obtain ⟨e1, rfl, rfl⟩ := hx
    exact ⟨none, 0, by rw [hlen]; exact e1, by simp, fun hne => absurd (by simp) hne, fun _ => rfl⟩
  . simp only [zaV, hblk] at hx
    obtain ⟨off, cap, e1, hc1, hc2, hc3⟩ := hx
    refine ⟨some ⟨b, off, none⟩, cap, by rw [hlen]; exact e1, by rw [hlen]; exact hc1, fun hne => ?_, fun e => by cases e⟩
    have hpos : len ≠ 0 := fun e => hne (List.length_eq_zero_iff.1 (hlen.trans e))
    have hoff : off = st * s := by
     rcases hc3 with h | h
     . omega
     . rw [h, hstr]
    have hrel : zaq w S s L arr.toList := by
     rcases hL with ⟨M, rfl, hM⟩ | rfl
     . exact (zfI s hM hc).1
     . exact hc
    refine ⟨b, off, arr, T, (0, 0), rfl, hbor b (by rw [hF]; rfl), hw, ?_⟩
    rw [hoff]
    exact za6 hsub (fun _ _ => rfl) _ _ _ (zdM _ _ _ _ (zdL _ _ _ _ hrel))
theorem zjf {β own S go w} {Sp : Nat -> Prop} (hm : zaw β own S go w) (hsub : ∀ b, S b -> Sp b) {j sub : Nat} {cs : List SV} {ps : List PV} (hgo : go j = some (.row cs))
 (hbor : ∀ b, own j b -> Sp b) (hps : pvs cs = some ps) {x : Value} (hx : rel β w S (.ptr j 0 sub) x) :
 ∃ b off arr T fz, x = .pointer (some ⟨b, off + sub, none⟩) /\ off = 0 /\ Sp b /\ w.heap[b]? = some (.cells arr T fz) /\ zaE w Sp ps (arr.toList.drop off) := by
  simp only [rel] at hx
  obtain ⟨B, b, hB, hb, hx⟩ := hx
  obtain ⟨B', h4, b', arr, T, h5, h6, h6', h7, h8, h9⟩ := hm.obj _ _ hgo
  rw [hB] at h4; cases h4
  rw [hb] at h5; cases h5
  refine ⟨b, 0, arr, T, (0, 0), by simpa using hx, rfl, hbor b (by rw [h7]; rfl), h8, ?_⟩
  rw [List.drop_zero]
  exact zcM hsub (fun _ _ => rfl) _ _ (zii hps h9).1
def MOk (go : GO) (ρ ρ' : Ren) (p c : SV) : Prop :=
 ρ.le ρ' /\ (ρ.inj -> ρ'.inj) /\ ∀ ρ2, ρ'.le ρ2 -> ∀ {β own S w Sp}, Fit go ρ2 β own S w Sp -> ∀ sp x, rel β w S c x -> rel (bOf ρ2 β sp) w Sp p x
def zz7 (go : GO) (ρ ρ' : Ren) (ps cs : List SV) : Prop :=
 ρ.le ρ' /\ (ρ.inj -> ρ'.inj) /\ ∀ ρ2, ρ'.le ρ2 -> ∀ {β own S w Sp}, Fit go ρ2 β own S w Sp -> ∀ sp xs, zam β w S cs xs -> zam (bOf ρ2 β sp) w Sp ps xs
theorem zfV {β β' : Nat -> Option zay} {w w' S S'} : ∀ {l : List SV} {xs : List Value}, zia l = true -> zam β w S l xs -> zam β' w' S' l xs
 | [], _, _, h => by simpa [zam] using h
 | s :: l, xs, hf, h => by
   simp only [zia] at hf
   simp only [zam] at h ⊢
   obtain ⟨x, r, e, h1, h2⟩ := h
   split at hf
   . exact ⟨x, r, e, by simpa [rel] using h1, zfV hf h2⟩
   . exact ⟨x, r, e, by simpa [rel] using h1, zfV hf h2⟩
   . cases hf
theorem MOk.same {go ρ} {p c : SV} (h : ∀ {β β' : Nat -> Option zay} {w S Sp x}, (∀ b, S b -> Sp b) -> rel β w S c x -> rel β' w Sp p x) : MOk go ρ ρ p c :=
 ⟨.refl _, id, fun _ _ _ _ _ _ _ F _ _ hx => h F.sub hx⟩
theorem zcY {ρ : Ren} {β sp} {i j : Nat} (h : zav i ρ.m = some (some j)) : bOf ρ β sp i = β j := by simp [bOf, h]
theorem zm5 {ρ : Ren} {β sp} {i : Nat} (h : zav i ρ.m = some none) : bOf ρ β sp i = some ⟨none, sp i, 0⟩ := by simp [bOf, h]
mutual
theorem zdJ : ∀ (p : SV) {ρ : Ren} {c : SV} {f : Ren -> RT} {R v os k}, (mSV ρ p c f).Runs gt go R v os k -> ∃ ρ' R', (f ρ').Runs gt go R' v os k /\ MOk go ρ ρ' p c
 | .any, ρ, c, f, R, v, os, k, h => by
   simp only [mSV] at h
   exact ⟨_, _, h, .same fun _ _ => by simp [rel]⟩
 | .int kd n, ρ, c, f, R, v, os, k, h => by
   simp only [mSV] at h
   split at h
   . split at h
     . rename_i hk
       have hk := zdH hk
       subst hk
       cases h with
       | req hp h => subst hp; exact ⟨_, _, h, .same fun _ hx => by simpa [rel] using hx⟩
     . cases h
   . cases h
 | .bool b, ρ, c, f, R, v, os, k, h => by
   simp only [mSV] at h
   split at h
   . cases h with
     | req hp h => subst hp; exact ⟨_, _, h, .same fun _ hx => by simpa [rel] using hx⟩
   . cases h with
     | req hp h => subst hp; exact ⟨_, _, h, .same fun _ hx => by simpa [rel] using hx⟩
   . cases h with
     | req hp h => subst hp; exact ⟨_, _, h, .same fun _ hx => by simpa [rel] using hx⟩
   . cases h with
     | req hp h => exact ⟨_, _, h, .same fun _ hx => by
      simp only [rel] at hx ⊢
      obtain ⟨b', rfl, hb⟩ := hx
      congr 1
      cases b <;> cases b' <;> simp_all⟩
   . cases h
 | .pr p, ρ, c, f, R, v, os, k, h => by
   simp only [mSV] at h
   split at h
   . cases h with
     | req hp h => exact ⟨_, _, h, .same fun _ hx => by simp only [rel] at hx ⊢; exact ⟨_, hx, hp.symm⟩⟩
   . cases h with
     | req hp h => exact ⟨_, _, h, .same fun _ hx => by simp only [rel] at hx ⊢; exact ⟨_, hx, by simpa using hp⟩⟩
   . cases h with
     | req hp h => exact ⟨_, _, h, .same fun _ hx => by simp only [rel] at hx ⊢; exact ⟨_, hx, by simpa using hp⟩⟩
   . cases h with
     | req hp h => exact ⟨_, _, h, .same fun _ hx => by simp only [rel] at hx ⊢; obtain ⟨b, e, hb⟩ := hx; exact ⟨b, e, hb.trans hp.symm⟩⟩
   . cases h
 | .tt, ρ, c, f, R, v, os, k, h => by
   simp only [mSV] at h
   split at h
   . exact ⟨_, _, h, .same fun _ hx => by simpa [rel] using hx⟩
   . cases h with
     | req hp h => subst hp; exact ⟨_, _, h, .same fun _ hx => by simpa [rel] using hx⟩
   . cases h with
     | req hp h => exact ⟨_, _, h, .same fun _ hx => by simp only [rel] at hx ⊢; obtain ⟨b, e, hb⟩ := hx; rw [e, hb.2 hp]⟩
   . cases h
 | .ff, ρ, c, f, R, v, os, k, h => by
   simp only [mSV] at h
   split at h
   . exact ⟨_, _, h, .same fun _ hx => by simpa [rel] using hx⟩
   . cases h with
     | req hp h => subst hp; exact ⟨_, _, h, .same fun _ hx => by simpa [rel] using hx⟩
   . cases h with
     | req hp h => exact ⟨_, _, h, .same fun _ hx => by
      simp only [rel] at hx ⊢; obtain ⟨b, e, hb⟩ := hx
      cases b with
      | true => exact absurd (hb.1 rfl) hp
      | false => exact e⟩
   . cases h
 | .str s, ρ, c, f, R, v, os, k, h => by
   simp only [mSV] at h
   split at h
   . cases h with
     | req hp h => subst hp; exact ⟨_, _, h, .same fun _ hx => by simpa [rel] using hx⟩
   . cases h
 | .val x, ρ, c, f, R, v, os, k, h => by
   simp only [mSV] at h
   split at h
   . cases h with
     | req hp h => subst hp; exact ⟨_, _, h, .same fun _ hx => by simpa [rel] using hx⟩
   . cases h
 | .rd p, ρ, c, f, R, v, os, k, h => by
   simp only [mSV] at h
   split at h
   . cases h with
     | req hp h => subst hp; exact ⟨_, _, h, .same fun hs hx => by simp only [rel] at hx ⊢; exact zha hs (fun _ _ => rfl) _ _ hx⟩
   . rename_i j st len
     cases h with
     | rO h =>
       dsimp only at h
       split at h
       . rename_i s L hgo
         cases h with
         | req hp h =>
           refine ⟨_, _, h, ⟨fun _ _ e => e, fun _ e => List.mem_cons_of_mem _ e⟩, id, fun ρ2 l2 β own S w Sp F sp x hx => ?_⟩
           obtain ⟨hp, hle⟩ := hp
           subst hp
           simp only [rel] at hx ⊢
           exact zhp F.mem F.sub (r := .inr L) hgo (F.bor j (l2.b _ (by simp)) (by simp [hgo])) (.inr rfl) (by simpa [rel] using hx) hle
       . rename_i s M hgo
         split at h
         . rename_i L hM
           cases h with
           | req hp h =>
             refine ⟨_, _, h, ⟨fun _ _ e => e, fun _ e => List.mem_cons_of_mem _ e⟩, id, fun ρ2 l2 β own S w Sp F sp x hx => ?_⟩
             obtain ⟨hp, hle⟩ := hp
             subst hp
             simp only [rel] at hx ⊢
             exact zhp F.mem F.sub (r := .inl M) hgo (F.bor j (l2.b _ (by simp)) (by simp [hgo])) (.inl ⟨M, rfl, hM⟩) (by simpa [rel] using hx) hle
         . cases h
       . cases h
   . rename_i j idx sub
     cases h with
     | rO h =>
       dsimp only at h
       split at h
       . rename_i cs hgo
         split at h
         . rename_i ps hps
           cases h with
           | req hp h =>
             refine ⟨_, _, h, ⟨fun _ _ e => e, fun _ e => List.mem_cons_of_mem _ e⟩, id, fun ρ2 l2 β own S w Sp F sp x hx => ?_⟩
             subst hp
             obtain ⟨b, off, arr, T, fz, h1, rfl, h2⟩ := zjf F.mem F.sub hgo (F.bor j (l2.b _ (by simp)) (by simp [hgo])) hps hx
             simp only [rel, zaR]
             exact ⟨b, 0, arr, T, fz, h1, h2⟩
         . cases h
       . cases h
   . split at h
     . cases h with
       | req hp h => subst hp; exact ⟨_, _, h, .same fun hs hx => by
        simp only [rel, zaR] at hx ⊢
        obtain ⟨b, off, arr, T, fz, h1, h2, h3, h4⟩ := hx
        exact ⟨b, off, arr, T, fz, by simpa using h1, hs b h2, h3, zcM hs (fun _ _ => rfl) _ _ h4⟩⟩
     . cases h
   . split at h
     . cases h with
       | req hp h =>
         obtain ⟨rfl, rfl⟩ := hp
         exact ⟨_, _, h, .same fun hs hx => by
          simp only [rel, zaR] at hx ⊢
          exact ⟨none, 0, by simpa using hx, by simp, fun hne => absurd rfl hne, fun _ => rfl⟩⟩
     . cases h
   . cases h
 | .rp cs sub, ρ, c, f, R, v, os, k, h => by
   simp only [mSV] at h
   split at h
   . cases h with
     | req hp h =>
       subst hp
       simp only [eqN] at h
       split at h
       . rename_i e
         have := Nat.eq_of_beq_eq_true e
         subst this
         exact ⟨_, _, h, .same fun hs hx => by
          simp only [rel] at hx ⊢
          obtain ⟨b, off, arr, T, fz, h1, h2, h3, h4⟩ := hx
          exact ⟨b, off, arr, T, fz, h1, hs b h2, h3, zcM hs (fun _ _ => rfl) _ _ h4⟩⟩
       . cases h
   . rename_i j idx sub'
     cases h with
     | rO h =>
       dsimp only at h
       split at h
       . rename_i cs' hgo
         split at h
         . rename_i ps hps
           cases h with
           | req hp h =>
             subst hp
             simp only [eqN] at h
             split at h
             . rename_i e
               have := Nat.eq_of_beq_eq_true e
               subst this
               refine ⟨_, _, h, ⟨fun _ _ e => e, fun _ e => List.mem_cons_of_mem _ e⟩, id, fun ρ2 l2 β own S w Sp F sp x hx => ?_⟩
               obtain ⟨b, off, arr, T, fz, h1, _, h2⟩ := zjf F.mem F.sub hgo (F.bor j (l2.b _ (by simp)) (by simp [hgo])) hps hx
               simp only [rel]
               exact ⟨b, off, arr, T, fz, h1, h2⟩
             . cases h
         . cases h
       . cases h
   . cases h
 | .ra s L, ρ, c, f, R, v, os, k, h => by
   simp only [mSV] at h
   split at h
   . cases h with
     | req hp h =>
       obtain ⟨rfl, rfl⟩ := hp
       exact ⟨_, _, h, .same fun hs hx => by
        simp only [rel] at hx ⊢
        obtain ⟨b, off, arr, T, fz, h1, h2, h3, h4⟩ := hx
        exact ⟨b, off, arr, T, fz, h1, hs b h2, h3, za6 hs (fun _ _ => rfl) _ _ _ h4⟩⟩
   . cases h
 | .ptr i idx sub, ρ, c, f, R, v, os, k, h => by
   simp only [mSV] at h
   split at h
   . rename_i j idx' sub'
     obtain ⟨ρ1, R1, h1, l1, i1, e1⟩ := zdq h
     cases h1 with
     | req hp h1 =>
       obtain ⟨rfl, rfl⟩ := hp
       refine ⟨ρ1, _, h1, l1, i1, fun ρ2 l2 β own S w Sp F sp x hx => ?_⟩
       simp only [rel] at hx ⊢
       rw [zcY (l2.m _ _ e1)]
       exact hx
   . cases h
 | .slc i st len, ρ, c, f, R, v, os, k, h => by
   simp only [mSV] at h
   split at h
   . rename_i j st' len'
     obtain ⟨ρ1, R1, h1, l1, i1, e1⟩ := zdq h
     cases h1 with
     | req hp h1 =>
       obtain ⟨rfl, rfl⟩ := hp
       refine ⟨ρ1, _, h1, l1, i1, fun ρ2 l2 β own S w Sp F sp x hx => ?_⟩
       simp only [rel] at hx ⊢
       rw [zcY (l2.m _ _ e1)]
       exact hx
   . obtain ⟨ρ1, R1, h1, l1, i1, e1⟩ := zdq h
     cases h1 with
     | req hp h1 =>
       obtain ⟨rfl, rfl, rfl⟩ := hp
       refine ⟨ρ1, _, h1, l1, i1, fun ρ2 l2 β own S w Sp F sp x hx => ?_⟩
       simp only [rel] at hx ⊢
       rw [zm5 (l2.m _ _ e1)]
       exact ⟨_, rfl, by simp [zaV, hx]⟩
   . cases h
 | .slx i st len, ρ, c, f, R, v, os, k, h => by
   simp only [mSV] at h
   split at h
   . rename_i j st' len'
     obtain ⟨ρ1, R1, h1, l1, i1, e1⟩ := zdq h
     cases h1 with
     | req hp h1 =>
       obtain ⟨rfl, rfl⟩ := hp
       refine ⟨ρ1, _, h1, l1, i1, fun ρ2 l2 β own S w Sp F sp x hx => ?_⟩
       simp only [rel] at hx ⊢
       rw [zcY (l2.m _ _ e1)]
       exact hx
   . cases h
 | .fex p, ρ, c, f, R, v, os, k, h => by
   simp only [mSV] at h
   split at h
   . cases h with
     | req hp h => exact ⟨_, _, h, .same fun _ hx => by
      simp only [rel] at hx ⊢
      exact ⟨_, fun _ _ => by simp only [zaR]; exact hx, hp⟩⟩
   . cases h with
     | req hp h => exact ⟨_, _, h, .same fun _ hx => by
      simp only [rel] at hx ⊢
      exact ⟨_, fun _ _ => by simp only [zaR]; exact hx, hp⟩⟩
   . cases h with
     | req hp h => exact ⟨_, _, h, .same fun _ hx => by
      simp only [rel] at hx ⊢
      exact ⟨_, fun _ _ => by simp only [zaR]; exact hx, hp⟩⟩
   . cases h with
     | req hp h => exact ⟨_, _, h, .same fun _ hx => by
      simp only [rel] at hx ⊢
      exact ⟨_, fun _ _ => by simp only [zaR]; exact hx, hp⟩⟩
   . cases h with
     | req hp h => exact ⟨_, _, h, .same fun _ hx => by
      simp only [rel] at hx ⊢
      obtain ⟨b, hv, hb⟩ := hx
      exact ⟨.bool b, fun _ _ => by simp only [zaR]; exact hv, hp b hb⟩⟩
   . cases h with
     | req hp h => exact ⟨_, _, h, .same fun _ hx => by
      simp only [rel] at hx ⊢
      obtain ⟨y, hv, hy⟩ := hx
      exact ⟨y, hv, hp y hy⟩⟩
   . cases h
 | .gn i, ρ, c, f, R, v, os, k, h => by
   simp only [mSV] at h
   split at h
   . rename_i j
     obtain ⟨ρ1, R1, h1, l1, i1, e1⟩ := zdq h
     refine ⟨ρ1, _, h1, l1, i1, fun ρ2 l2 β own S w Sp F sp x hx => ?_⟩
     simp only [rel] at hx ⊢
     rw [zcY (l2.m _ _ e1)]
     exact hx
   . cases h
 | .mp i, ρ, c, f, R, v, os, k, h => by
   simp only [mSV] at h
   split at h
   . rename_i j
     obtain ⟨ρ1, R1, h1, l1, i1, e1⟩ := zdq h
     refine ⟨ρ1, _, h1, l1, i1, fun ρ2 l2 β own S w Sp F sp x hx => ?_⟩
     simp only [rel] at hx ⊢
     rw [zcY (l2.m _ _ e1)]
     exact hx
   . cases h
 | .fn g a b, ρ, c, f, R, v, os, k, h => by
   simp only [mSV] at h
   split at h
   . cases h with
     | req hp h =>
       subst hp
       obtain ⟨ρ1, R1, h1, l1, i1, m1⟩ := zdw a h
       obtain ⟨ρ2, R2, h2, l2, i2, m2⟩ := zdw b h1
       refine ⟨ρ2, R2, h2, l1.trans l2, fun e => i2 (i1 e), fun ρ3 l3 β own S w Sp F sp x hx => ?_⟩
       simp only [rel] at hx ⊢
       obtain ⟨xs, ys, e, q1, q2⟩ := hx
       exact ⟨xs, ys, e, m1 ρ3 (l2.trans l3) F sp _ q1, m2 ρ3 l3 F sp _ q2⟩
   . cases h
 | .ifc t y, ρ, c, f, R, v, os, k, h => by
   simp only [mSV] at h
   split at h
   . cases h with
     | req hp h =>
       subst hp
       obtain ⟨ρ1, R1, h1, l1, i1, m1⟩ := zdJ y h
       refine ⟨ρ1, R1, h1, l1, i1, fun ρ3 l3 β own S w Sp F sp x hx => ?_⟩
       simp only [rel] at hx ⊢
       obtain ⟨z, e, q1⟩ := hx
       exact ⟨z, e, m1 ρ3 l3 F sp _ q1⟩
   . cases h
 | .agg ps, ρ, c, f, R, v, os, k, h => by
   simp only [mSV] at h
   split at h
   . split at h
     . rename_i hf
       cases h with
       | req hp h =>
         subst hp
         refine ⟨_, _, h, .refl _, id, fun ρ3 l3 β own S w Sp F sp x hx => ?_⟩
         simp only [rel] at hx ⊢
         obtain ⟨xs, e, q1⟩ := hx
         exact ⟨xs, e, zfV hf q1⟩
     . obtain ⟨ρ1, R1, h1, l1, i1, m1⟩ := zdw ps h
       refine ⟨ρ1, R1, h1, l1, i1, fun ρ3 l3 β own S w Sp F sp x hx => ?_⟩
       simp only [rel] at hx ⊢
       obtain ⟨xs, e, q1⟩ := hx
       exact ⟨xs, e, m1 ρ3 l3 F sp _ q1⟩
   . cases h
 | .tup ps, ρ, c, f, R, v, os, k, h => by
   simp only [mSV] at h
   split at h
   . obtain ⟨ρ1, R1, h1, l1, i1, m1⟩ := zdw ps h
     refine ⟨ρ1, R1, h1, l1, i1, fun ρ3 l3 β own S w Sp F sp x hx => ?_⟩
     simp only [rel] at hx ⊢
     obtain ⟨xs, e, q1⟩ := hx
     exact ⟨xs, e, m1 ρ3 l3 F sp _ q1⟩
   . cases h
theorem zdw : ∀ (ps : List SV) {ρ : Ren} {cs : List SV} {f : Ren -> RT} {R v os k}, (zfG ρ ps cs f).Runs gt go R v os k -> ∃ ρ' R', (f ρ').Runs gt go R' v os k /\ zz7 go ρ ρ' ps cs
 | [], ρ, cs, f, R, v, os, k, h => by
   simp only [zfG] at h
   split at h
   . exact ⟨_, _, h, .refl _, id, fun _ _ _ _ _ _ _ _ _ xs hx => by simpa [zam] using hx⟩
   . cases h
 | p :: ps, ρ, cs, f, R, v, os, k, h => by
   simp only [zfG] at h
   split at h
   . cases h
   . obtain ⟨ρ1, R1, h1, l1, i1, m1⟩ := zdJ p h
     obtain ⟨ρ2, R2, h2, l2, i2, m2⟩ := zdw ps h1
     refine ⟨ρ2, R2, h2, l1.trans l2, fun e => i2 (i1 e), fun ρ3 l3 β own S w Sp F sp xs hx => ?_⟩
     simp only [zam] at hx ⊢
     obtain ⟨x, r, e, q1, q2⟩ := hx
     exact ⟨x, r, e, m1 ρ3 (l2.trans l3) F sp _ q1, m2 ρ3 l3 F sp _ q2⟩
end
end
end Go.Sx
namespace Go.Sx
open Go
theorem zmz {β β' : Nat -> Option zay} {w S Sp} (hs : ∀ b, S b -> Sp b) {p : PV} {x : Value} (h : rel β w S p.sv x) : rel β' w Sp p.sv x := by
 cases p <;> simp only [PV.sv, rel] at h ⊢ <;> try exact h
 case sl => exact zha hs (fun _ _ => rfl) _ _ h
 case pt =>
  obtain ⟨b, off, arr, T, fz, h1, h2, h3, h4⟩ := h
  exact ⟨b, off, arr, T, fz, h1, hs b h2, h3, zcM hs (fun _ _ => rfl) _ _ h4⟩
theorem zk6 {β β' : Nat -> Option zay} {w S Sp} (hs : ∀ b, S b -> Sp b) : ∀ {l : List PV} {xs : List Value}, zam β w S (l.map PV.sv) xs -> zam β' w Sp (l.map PV.sv) xs
 | [], xs, h => by simpa [zam] using h
 | p :: l, xs, h => by
   simp only [List.map, zam] at h ⊢
   obtain ⟨x, r, e, h1, h2⟩ := h
   exact ⟨x, r, e, zmz hs h1, zk6 hs h2⟩
theorem zfQ {β β' : Nat -> Option zay} {w S Sp} (hs : ∀ b, S b -> Sp b) {one : Bool} {l : List PV} {x : Value} (h : rel β w S (zaS one l) x) : rel β' w Sp (zaS one l) x := by
 unfold zaS at h ⊢
 cases one with
 | true =>
   cases l with
   | nil => simp [rel]
   | cons p l => exact zmz hs h
 | false =>
   simp only [rel] at h ⊢
   obtain ⟨xs, e, h⟩ := h
   exact ⟨xs, e, zk6 hs h⟩
theorem zd5 {β β' : Nat -> Option zay} {w S Sp} (hs : ∀ b, S b -> Sp b) {M : zaj} : ∀ {es : List (M.κ × M.ν)} {l : List MapEntry}, za1 β w S M es l -> za1 β' w Sp M es l
 | [], l, h => by simpa [za1] using h
 | (k, v) :: es, l, h => by
   simp only [za1] at h ⊢
   obtain ⟨m, r, e, h1, h2, h3⟩ := h
   exact ⟨m, r, e, zfQ hs h1, zfQ hs h2, zd5 hs h3⟩
theorem zhM {β β' : Nat -> Option zay} {w S Sp} (hs : ∀ b, S b -> Sp b) {M : zaj} {V V' : M.κ -> M.ν -> MapEntry -> Prop} (hV : ∀ k v m, V k v m -> V' k v m) : ∀ {es : List (M.κ × M.ν)} {l : List MapEntry}, zbv β w S M V es l -> zbv β' w Sp M V' es l
 | [], l, h => by simpa [zbv] using h
 | (k, v) :: es, l, h => by
   simp only [zbv] at h ⊢
   obtain ⟨m, r, h1, h2, h3, h4⟩ := h
   exact ⟨m, r, h1, zfQ hs h2, hV _ _ _ h3, zhM hs hV h4⟩
theorem zrP {β β' : Nat -> Option zay} {w S Sp} (hs : ∀ b, S b -> Sp b) {M : zaj} {sub : M.ν -> Sub} {G : M.κ -> zay × (Nat -> Prop)} {F : Nat -> Prop} {b : Nat} {es : List (M.κ × M.ν)} {l : List MapEntry}
 (h : zbv β w S M (zcg β w S M sub G F b none) es l) : zbv β' w Sp M (zcg β' w Sp M sub G F b none) es l :=
  zhM hs (fun k v m hv => by
   obtain ⟨_, h2⟩ := hv
   refine ⟨fun j g e => ?_, fun e => ?_⟩
   . cases e
   . obtain ⟨q1, q2, q3⟩ := h2 e
     exact ⟨q1, q2.ext hs (fun _ _ => rfl) (fun _ _ => rfl), q3⟩) h
section
variable {gt : GT} {go : GO} {R : List Loc} {v : Option SV} {os : List (Nat × Option SO)} {k : Nat}
theorem zkY (s : Nat) : ∀ (ps : List (List SV)) {ρ : Ren} {cs : List (List SV)} {f : Ren -> RT} {R v os k}, (zjG ρ ps cs f).Runs gt go R v os k -> ∃ ρ' R', (f ρ').Runs gt go R' v os k /\ ρ.le ρ' /\ (ρ.inj -> ρ'.inj) /\ ps.length = cs.length ∧
 ∀ ρ2, ρ'.le ρ2 -> ∀ {β own S w Sp}, Fit go ρ2 β own S w Sp -> ∀ sp xs, zaY β w S s cs xs -> zaY (bOf ρ2 β sp) w Sp s ps xs
  | [], ρ, cs, f, R, v, os, k, h => by
    simp only [zjG] at h
    split at h
    . exact ⟨_, _, h, .refl _, id, rfl, fun _ _ _ _ _ _ _ _ _ xs hx => by simp [zaY]⟩
    . cases h
  | p :: ps, ρ, cs, f, R, v, os, k, h => by
    simp only [zjG] at h
    split at h
    . cases h
    . rename_i c cs
      obtain ⟨ρ1, R1, h1, l1, i1, m1⟩ := zdw p h
      obtain ⟨ρ2, R2, h2, l2, i2, e2, m2⟩ := zkY s ps h1
      refine ⟨ρ2, R2, h2, l1.trans l2, fun e => i2 (i1 e), by simp [e2], fun ρ3 l3 β own S w Sp F sp xs hx => ?_⟩
      simp only [zaY] at hx ⊢
      obtain ⟨q1, q2, q3⟩ := hx
      have q4 := m1 ρ3 (l2.trans l3) F sp _ q2
      exact ⟨by have := zaL _ _ q2; have := zaL _ _ q4; omega, q4, m2 ρ3 l3 F sp _ q3⟩
def OOk (go : GO) (ρ ρ' : Ren) (p c : SO) : Prop :=
 ρ.le ρ' /\ (ρ.inj -> ρ'.inj) /\ ∀ ρ2, ρ'.le ρ2 -> ∀ {β own S w Sp}, Fit go ρ2 β own S w Sp -> ∀ sp B F, za3 β w S B F c -> za3 (bOf ρ2 β sp) w Sp B F p
theorem ztE {p c : SO} {ρ : Ren} {f : Ren -> RT} (h : (mSO ρ p c f).Runs gt go R v os k) : ∃ ρ' R', (f ρ').Runs gt go R' v os k /\ OOk go ρ ρ' p c := by
 cases p with
 | row ps =>
   simp only [mSO] at h
   split at h
   . split at h
     . rename_i hf
       cases h with
       | req hp h =>
         subst hp
         refine ⟨_, _, h, .refl _, id, fun ρ2 l2 β own S w Sp Ft sp B F ho => ?_⟩
         obtain ⟨b, arr, T, q1, q2, q3, q4, q5, q6⟩ := ho
         exact ⟨b, arr, T, q1, q2, q3, q4, q5, zfV hf q6⟩
     obtain ⟨ρ1, R1, h1, l1, i1, m1⟩ := zdw ps h
     refine ⟨ρ1, R1, h1, l1, i1, fun ρ2 l2 β own S w Sp Ft sp B F ho => ?_⟩
     obtain ⟨b, arr, T, q1, q2, q3, q4, q5, q6⟩ := ho
     have q7 := m1 ρ2 l2 Ft sp _ q6
     exact ⟨b, arr, T, q1, by rw [q2, <- zaL _ _ q6, zaL _ _ q7], q3, q4, q5, q7⟩
   . cases h
 | vec s L =>
   simp only [mSO] at h
   split at h
   . cases h with
     | req hp h =>
       obtain ⟨rfl, rfl⟩ := hp
       refine ⟨_, _, h, .refl _, id, fun ρ2 l2 β own S w Sp Ft sp B F ho => ?_⟩
       rcases ho with ho | ⟨b, arr, T, q1, q2, q3, q4, q5, q6, q7⟩
       . exact .inl ho
       . exact .inr ⟨b, arr, T, q1, q2, q3, q4, q5, q6, za6 Ft.sub (fun _ _ => rfl) _ _ _ q7⟩
   . split at h
     . rename_i s' M L' hM
       cases h with
       | req hp h =>
         obtain ⟨rfl, rfl⟩ := hp
         refine ⟨_, _, h, .refl _, id, fun ρ2 l2 β own S w Sp Ft sp B F ho => ?_⟩
         rcases ho with ⟨q1, rfl, q3, q4, q5⟩ | ⟨b, arr, T, q1, q2, q3, q4, q5, q6, q7⟩
         . simp only [ze7, Option.some.injEq] at hM
           subst hM
           exact .inl ⟨q1, rfl, q3, q4, q5⟩
         . obtain ⟨q8, q9⟩ := zfI s hM q7
           exact .inr ⟨b, arr, T, q1, q2, q3, q4, q5, by omega, za6 Ft.sub (fun _ _ => rfl) _ _ _ q8⟩
     . cases h
   . cases h
 | arr s L =>
   simp only [mSO] at h
   split at h
   . cases h with
     | req hp h =>
       subst hp
       obtain ⟨ρ1, R1, h1, l1, i1, e1, m1⟩ := zkY s L h
       refine ⟨ρ1, R1, h1, l1, i1, fun ρ2 l2 β own S w Sp Ft sp B F ho => ?_⟩
       rcases ho with ⟨q1, rfl, q3, q4, q5⟩ | ⟨b, arr, T, q1, q2, q3, q4, q5, q6, q7⟩
       . exact .inl ⟨q1, List.length_eq_zero_iff.1 e1, q3, q4, q5⟩
       . exact .inr ⟨b, arr, T, q1, q2, q3, q4, q5, by omega, m1 ρ2 l2 Ft sp _ q7⟩
   . cases h
 | map M es it =>
   simp only [mSO] at h
   split at h
   . rename_i M' es' it'
     cases it with
     | none =>
       cases h with
       | req hp h =>
         refine ⟨_, _, h, .refl _, id, fun ρ2 l2 β own S w Sp Ft sp B F ho => ?_⟩
         rw [hp]
         obtain ⟨b, ents, clock, q1, q2, q3, q4, q5, _⟩ := ho
         exact ⟨b, ents, clock, q1, q2, q3, zd5 Ft.sub q4, q5, trivial⟩
     | some p =>
       obtain ⟨rid, left, cur⟩ := p
       cases it' with
       | none => cases h
       | some p' =>
         obtain ⟨rid', left', cur'⟩ := p'
         dsimp only at h
         obtain ⟨ρ1, R1, h, l1, i1, hl⟩ := zdq h
         cases h with
         | req hp h =>
           refine ⟨_, _, h, l1, i1, fun ρ2 l2 β own S w Sp Ft sp B F ho => ?_⟩
           rw [SO.map.injEq] at hp
           obtain ⟨rfl, he, hi⟩ := hp
           have he := eq_of_heq he
           subst he
           have hi := eq_of_heq hi
           simp only [Option.some.injEq, Prod.mk.injEq, true_and] at hi
           obtain ⟨rfl, rfl⟩ := hi
           obtain ⟨b, ents, clock, q1, q2, q3, q4, q5, B', r, seen, e1, e2⟩ := ho
           exact ⟨b, ents, clock, q1, q2, q3, zd5 Ft.sub q4, q5, B', r, seen, by rw [zcY (l2.m _ _ hl)]; exact e1, e2⟩
   . cases h
 | itr i =>
   simp only [mSO] at h
   split at h
   . obtain ⟨ρ1, R1, h, l1, i1, hl⟩ := zdq h
     refine ⟨_, _, h, l1, i1, fun ρ2 l2 β own S w Sp Ft sp B F ho => ?_⟩
     obtain ⟨q1, Bi, q2⟩ := ho
     exact ⟨q1, Bi, by rw [zcY (l2.m _ _ hl)]; exact q2⟩
   . cases h
 | lrec l r e =>
   simp only [mSO] at h
   split at h
   . cases h with
     | req hp h =>
       obtain ⟨rfl, rfl, rfl⟩ := hp
       exact ⟨_, _, h, .refl _, id, fun ρ2 l2 β own S w Sp Ft sp B F ho => ho⟩
   . cases h
 | vex s q =>
   simp only [mSO] at h
   split at h
   . cases h with
     | req hp h =>
       obtain ⟨rfl, hq⟩ := hp
       refine ⟨_, _, h, .refl _, id, fun ρ2 l2 β own S w Sp Ft sp B F ho => ⟨_, hq, ?_⟩⟩
       rcases ho with ho | ⟨b, arr, T, q1, q2, q3, q4, q5, q6, q7⟩
       . exact .inl ho
       . exact .inr ⟨b, arr, T, q1, q2, q3, q4, q5, q6, za6 Ft.sub (fun _ _ => rfl) _ _ _ q7⟩
   . split at h
     . rename_i s' M L' hM
       cases h with
       | req hp h =>
         obtain ⟨rfl, hq⟩ := hp
         refine ⟨_, _, h, .refl _, id, fun ρ2 l2 β own S w Sp Ft sp B F ho => ⟨_, hq, ?_⟩⟩
         rcases ho with ⟨q1, rfl, q3, q4, q5⟩ | ⟨b, arr, T, q1, q2, q3, q4, q5, q6, q7⟩
         . simp only [ze7, Option.some.injEq] at hM
           subst hM
           exact .inl ⟨q1, rfl, q3, q4, q5⟩
         . obtain ⟨q8, q9⟩ := zfI s hM q7
           exact .inr ⟨b, arr, T, q1, q2, q3, q4, q5, by omega, za6 Ft.sub (fun _ _ => rfl) _ _ _ q8⟩
     . cases h
   . cases h with
     | req hp h =>
       obtain ⟨rfl, hq⟩ := hp
       refine ⟨_, _, h, .refl _, id, fun ρ2 l2 β own S w Sp Ft sp B F ho => ?_⟩
       obtain ⟨L, hL, ho⟩ := ho
       exact ⟨L, hq L hL, ho.ext Ft.sub (fun _ _ => rfl) (fun _ _ => rfl)⟩
   . cases h
 | mapE M es k g => simp only [mSO] at h; cases h
 | fam M sub es hh =>
   simp only [mSO] at h
   split at h
   . split at h
     . rename_i M' sub' es'
       cases h with
       | req hp h =>
         refine ⟨_, _, h, .refl _, id, fun ρ2 l2 β own S w Sp Ft sp B F ho => ?_⟩
         rw [hp]
         obtain ⟨b, ents, clock, q1, q2, q3, q4, G, q5, q6⟩ := ho
         exact ⟨b, ents, clock, q1, q2, q3, q4, G, zrP Ft.sub q5, q6⟩
     . cases h
   . cases h
def OIs (go : GO) (ρ : Ren) (i : Nat) (o : SO) : Prop :=
 (∃ j c, zav i ρ.m = some (some j) /\ go j = some c /\ ∀ ρ2, ρ.le ρ2 -> ∀ {β own S w Sp}, Fit go ρ2 β own S w Sp -> ∀ sp B F, za3 β w S B F c -> za3 (bOf ρ2 β sp) w Sp B F o) ∨
 (zav i ρ.m = some none /\ ∃ r s, o = zai.so s r /\ r.len = 0)
theorem OIs.mono {go ρ ρ' i o} (h : OIs go ρ i o) (l : ρ.le ρ') : OIs go ρ' i o := by
 rcases h with ⟨j, c, h1, h2, h3⟩ | ⟨h1, h2⟩
 . exact .inl ⟨j, c, l.m _ _ h1, h2, fun ρ2 l2 => h3 ρ2 (l.trans l2)⟩
 . exact .inr ⟨l.m _ _ h1, h2⟩
theorem zdv : ∀ (l : List (Nat × SO)) {ρ : Ren} {f : Ren -> RT} {R v os k}, (zfX ρ l f).Runs gt go R v os k -> ∃ ρ' R', (f ρ').Runs gt go R' v os k /\ ρ.le ρ' /\ (ρ.inj -> ρ'.inj) /\ ∀ p ∈ l, OIs go ρ' p.1 p.2
 | [], ρ, f, R, v, os, k, h => ⟨ρ, _, h, .refl _, id, fun p hp => by cases hp⟩
 | (i, o) :: l, ρ, f, R, v, os, k, h => by
   simp only [zfX] at h
   split at h
   . cases h
   . rename_i hl
     have key : ∀ {r : RT}, (zjH o r).Runs gt go R v os k -> r.Runs gt go R v os k /\ ∃ q s, o = zai.so s q /\ q.len = 0 := by
      intro r h
      cases o with
      | vec s L => simp only [zjH] at h; cases h with | req hp h => exact ⟨h, .inr L, s, rfl, by simp [zai.len, hp]⟩
      | arr s L =>
        simp only [zjH] at h
        split at h
        . exact ⟨h, .inl [], s, rfl, rfl⟩
        . cases h
      | _ => simp only [zjH] at h; cases h
     obtain ⟨h, hq⟩ := key h
     obtain ⟨ρ1, R1, h1, l1, i1, m1⟩ := zdv l h
     refine ⟨ρ1, R1, h1, l1, i1, fun p hp => ?_⟩
     rcases List.mem_cons.1 hp with rfl | hp
     . exact .inr ⟨l1.m _ _ hl, hq⟩
     . exact m1 p hp
   . rename_i j hl
     cases h with
     | rO h =>
       dsimp only at h
       split at h
       . rename_i c hgo
         obtain ⟨ρ1, R1, h1, l1, i1, m1⟩ := ztE h
         obtain ⟨ρ2, R2, h2, l2, i2, m2⟩ := zdv l h1
         refine ⟨ρ2, R2, h2, l1.trans l2, fun e => i2 (i1 e), fun p hp => ?_⟩
         rcases List.mem_cons.1 hp with rfl | hp
         . exact .inl ⟨j, c, (l1.trans l2).m _ _ hl, hgo, fun ρ3 l3 => m1 ρ3 (l2.trans l3)⟩
         . exact m2 p hp
       . cases h
end
def zgc (go : GO) (ρ : Ren) (own : Nat -> Nat -> Prop) : Nat -> Prop := fun b => ∃ j, j ∈ ρ.bor /\ (go j).isSome /\ own j b
theorem zet {go ρ β own S w} (h : zaw β own S go w) : Fit go ρ β own S w (fun b => S b \/ zgc go ρ own b) :=
 ⟨h, fun _ e => .inl e, fun j hj hs _ hb => .inr ⟨j, hj, hs, hb⟩⟩
theorem zk0 {go : GO} {ρ : Ren} {β own S w} (h : zaw β own S go w) (hinj : ρ.inj) (l : List (Nat × SO)) (hl : ∀ p ∈ l, OIs go ρ p.1 p.2)
 (hb : ∀ i j, zav i ρ.m = some (some j) -> j ∉ ρ.bor) {sp : Nat -> Nat} (hsp : ∀ i o, zav i l = some o -> zav i ρ.m = some none -> ∀ r s, o = zai.so s r -> r.len = 0 -> sp i = s) :
 zaw (bOf ρ β sp) (zb8 ρ own) (fun b => S b \/ zgc go ρ own b) (fun i => zav i l) w := by
  have hown : ∀ i j, zav i ρ.m = some (some j) -> zb8 ρ own i = own j := fun i j e => by simp [zb8, e]
  have hown0 : ∀ i, zav i ρ.m = some none -> zb8 ρ own i = fun _ => False := fun i e => by simp [zb8, e]
  refine ⟨fun i o e => ?_, fun i i' b hne hi hi' => ?_, fun i b hi => ?_, fun b hb => ?_⟩
  . rcases hl _ (zch e) with ⟨j, c, h1, h2, h3⟩ | ⟨h1, r, s, h2, h3⟩
    . obtain ⟨B, hB, ho⟩ := h.obj j c h2
      refine ⟨B, by rw [zcY h1]; exact hB, ?_⟩
      rw [hown i j h1]
      exact h3 ρ (.refl _) (zet h) sp B _ ho
    . refine ⟨_, zm5 h1, ?_⟩
      simp only at h1 h2
      subst h2
      rw [hown0 i h1, hsp i _ e h1 r s rfl h3]
      exact zmI h3
  . obtain ⟨o, ho⟩ := Option.isSome_iff_exists.1 hi
    obtain ⟨o', ho'⟩ := Option.isSome_iff_exists.1 hi'
    rcases hl _ (zch ho) with ⟨j, c, h1, h2, _⟩ | ⟨h1, _⟩
    . rcases hl _ (zch ho') with ⟨j', c', h1', h2', _⟩ | ⟨h1', _⟩
      . rw [hown i j h1, hown i' j' h1']
        exact h.sep j j' b (fun e => by subst e; exact hne (hinj i i' j h1 h1')) (by simp [h2]) (by simp [h2'])
      . rw [hown0 i' h1']; exact fun _ e => e
    . rw [hown0 i h1]; exact fun e => e.elim
  . obtain ⟨o, ho⟩ := Option.isSome_iff_exists.1 hi
    rcases hl _ (zch ho) with ⟨j, c, h1, h2, _⟩ | ⟨h1, _⟩
    . rw [hown i j h1]
      rintro e (e' | ⟨j', hj', hs', e'⟩)
      . exact h.st j b (by simp [h2]) e e'
      . exact h.sep j j' b (fun q => by subst q; exact hb i j h1 hj') (by simp [h2]) hs' e e'
    . rw [hown0 i h1]; exact fun e => e.elim
  . rcases hb with e | ⟨j, _, hs, e⟩
    . exact h.sz b e
    . obtain ⟨c, hc⟩ := Option.isSome_iff_exists.1 hs
      obtain ⟨B, _, ho⟩ := h.obj j c hc
      exact ho.lt b e
mutual
theorem zkq {β β' : Nat -> Option zay} {w S} {σ : Nat -> Nat} (hσ : ∀ i B, β i = some B -> β' (σ i) = some B) : ∀ (s : SV) (x : Value), rel β w S s x -> rel β' w S (s.ren σ) x
 | .any, _, _ => by simp [SV.ren, rel]
 | .int _ _, _, h => by simpa [SV.ren, rel] using h
 | .bool _, _, h => by simpa [SV.ren, rel] using h
 | .pr _, _, h => by simpa [SV.ren, rel] using h
 | .tt, _, h => by simpa [SV.ren, rel] using h
 | .ff, _, h => by simpa [SV.ren, rel] using h
 | .str _, _, h => by simpa [SV.ren, rel] using h
 | .val _, _, h => by simpa [SV.ren, rel] using h
 | .rd _, _, h => by simpa [SV.ren, rel] using h
 | .rp _ _, _, h => by simpa [SV.ren, rel] using h
 | .ra _ _, _, h => by simpa [SV.ren, rel] using h
 | .ptr i a b, x, h => by
   simp only [SV.ren, rel] at h ⊢
   obtain ⟨B, b, h1, h2⟩ := h
   exact ⟨B, b, hσ _ _ h1, h2⟩
 | .slc i a b, x, h => by
   simp only [SV.ren, rel] at h ⊢
   obtain ⟨B, h1, h2⟩ := h
   exact ⟨B, hσ _ _ h1, h2⟩
 | .slx i a b, x, h => by
   simp only [SV.ren, rel] at h ⊢
   obtain ⟨B, b, h1, h2⟩ := h
   exact ⟨B, b, hσ _ _ h1, h2⟩
 | .fex p, x, h => by simpa [SV.ren, rel] using h
 | .gn i, x, h => by
   simp only [SV.ren, rel] at h ⊢
   obtain ⟨B, h1, h2⟩ := h
   exact ⟨B, hσ _ _ h1, h2⟩
 | .mp i, x, h => by
   simp only [SV.ren, rel] at h ⊢
   obtain ⟨B, b, h1, h2⟩ := h
   exact ⟨B, b, hσ _ _ h1, h2⟩
 | .fn f a c, x, h => by
   simp only [SV.ren, rel] at h ⊢
   obtain ⟨xs, ys, e, h1, h2⟩ := h
   exact ⟨xs, ys, e, zd8 hσ a _ h1, zd8 hσ c _ h2⟩
 | .ifc t s, x, h => by
   simp only [SV.ren, rel] at h ⊢
   obtain ⟨y, e, h1⟩ := h
   exact ⟨y, e, zkq hσ s y h1⟩
 | .agg cs, x, h => by
   simp only [SV.ren, rel] at h ⊢
   obtain ⟨xs, e, h1⟩ := h
   exact ⟨xs, e, zd8 hσ cs _ h1⟩
 | .tup cs, x, h => by
   simp only [SV.ren, rel] at h ⊢
   obtain ⟨xs, e, h1⟩ := h
   exact ⟨xs, e, zd8 hσ cs _ h1⟩
theorem zd8 {β β' : Nat -> Option zay} {w S} {σ : Nat -> Nat} (hσ : ∀ i B, β i = some B -> β' (σ i) = some B) : ∀ (l : List SV) (xs : List Value), zam β w S l xs -> zam β' w S (ze8 σ l) xs
 | [], _, h => by simpa [ze8, zam] using h
 | s :: l, xs, h => by
   simp only [ze8, zam] at h ⊢
   obtain ⟨x, r, e, h1, h2⟩ := h
   exact ⟨x, r, e, zkq hσ s x h1, zd8 hσ l r h2⟩
end
theorem zgf (σ : Nat -> Nat) : ∀ (l : List SV), (ze8 σ l).length = l.length
 | [] => rfl
 | _ :: l => by simp [ze8, zgf σ l]
theorem zhR (σ : Nat -> Nat) : ∀ (l : List (List SV)), (zhb σ l).length = l.length
 | [] => rfl
 | _ :: l => by simp [zhb, zhR σ l]
theorem zmG {β β' : Nat -> Option zay} {w S} {σ : Nat -> Nat} (hσ : ∀ i B, β i = some B -> β' (σ i) = some B) (s : Nat) : ∀ (l : List (List SV)) (xs : List Value), zaY β w S s l xs -> zaY β' w S s (zhb σ l) xs
 | [], _, _ => by simp [zhb, zaY]
 | e :: l, xs, h => by
   simp only [zhb, zaY] at h ⊢
   exact ⟨by rw [zgf]; exact h.1, zd8 hσ _ _ h.2.1, zmG hσ s l _ h.2.2⟩
theorem za3.ren {β β' : Nat -> Option zay} {w S} {σ : Nat -> Nat} (hσ : ∀ i B, β i = some B -> β' (σ i) = some B) {B F o} (h : za3 β w S B F o) : za3 β' w S B F (o.ren σ) := by
 cases o with
 | row cs =>
   obtain ⟨b, arr, T, q1, q2, q3, q4, q5, q6⟩ := h
   exact ⟨b, arr, T, q1, by rw [zgf]; exact q2, q3, q4, q5, zd8 hσ _ _ q6⟩
 | vec s L => exact h
 | arr s L =>
   rcases h with ⟨q1, rfl, q3⟩ | ⟨b, arr, T, q1, q2, q3, q4, q5, q6, q7⟩
   . exact .inl ⟨q1, rfl, q3⟩
   . exact .inr ⟨b, arr, T, q1, q2, q3, q4, q5, by rw [zhR]; exact q6, zmG hσ s L _ q7⟩
 | map M es it =>
   obtain ⟨b, ents, clock, q1, q2, q3, q4, q5, q6⟩ := h
   refine ⟨b, ents, clock, q1, q2, q3, zd5 (fun _ e => e) q4, q5, ?_⟩
   cases it with
   | none => trivial
   | some p =>
     obtain ⟨rid, left, cur⟩ := p
     obtain ⟨B', r, seen, e1, e2⟩ := q6
     exact ⟨B', r, seen, hσ _ _ e1, e2⟩
 | itr i => obtain ⟨q1, Bi, q2⟩ := h; exact ⟨q1, Bi, hσ _ _ q2⟩
 | lrec l r e => exact h
 | vex s p => exact h
 | mapE M es k g =>
   obtain ⟨b, ents, clock, q1, q2, q3, q4, q5, i, m, v, Bg, q6, q7, q8, q9⟩ := h
   exact ⟨b, ents, clock, q1, q2, q3, zd5 (fun _ e => e) q4, q5, i, m, v, Bg, q6, q7, hσ _ _ q8, q9⟩
 | fam M sub es hh =>
   obtain ⟨b, ents, clock, q1, q2, q3, q4, G, q5, q6⟩ := h
   have hr : ∀ k, (∀ j g, (match hh with | none => none | some (k, j, g) => some (k, σ j, match g with | none => none | some g => some (σ g))) ≠ some (k, j, g)) -> ∀ j g, hh ≠ some (k, j, g) := by
    intro k h j g e
    subst e
    exact h _ _ rfl
   refine ⟨b, ents, clock, q1, q2, q3, q4, G, zhM (fun _ e => e) (fun k v m hv => ⟨fun j g e => ?_, fun e => hv.2 (hr k e)⟩) q5, fun k k' h1 h2 h3 h4 h5 => q6 k k' h1 h2 h3 (hr k h4) (hr k' h5)⟩
   cases hh with
   | none => cases e
   | some p =>
     obtain ⟨k0, j0, g0⟩ := p
     simp only [Option.some.injEq, Prod.mk.injEq] at e
     obtain ⟨rfl, rfl, rfl⟩ := e
     obtain ⟨⟨B1, r1, r2⟩, r3⟩ := hv.1 _ _ rfl
     refine ⟨⟨B1, hσ _ _ r1, r2⟩, fun i e => ?_⟩
     cases g0 with
     | none => cases e
     | some g0 =>
       cases e
       obtain ⟨B2, r4, r5⟩ := r3 _ rfl
       exact ⟨B2, hσ _ _ r4, r5⟩
theorem zle {w S S'} {p : PV} (hf : p.flat) {x : Value} (h : zaR w S p x) : zaR w S' p x := by
 cases p <;> simp only [PV.flat] at hf <;> simpa only [zaR] using h
theorem zjO {w S S'} : ∀ {ps : List PV} (_ : ∀ p ∈ ps, p.flat) {xs : List Value}, zaE w S ps xs -> zaE w S' ps xs
 | [], _, _, _ => by simp [zaE]
 | p :: ps, hf, xs, h => by
   simp only [zaE] at h ⊢
   obtain ⟨x, r, e, h1, h2⟩ := h
   exact ⟨x, r, e, zle (hf p (by simp)) h1, zjO (fun q hq => hf q (by simp [hq])) h2⟩
theorem zg9 {w S S'} (s : Nat) : ∀ {L : List (List PV)} (_ : ∀ e ∈ L, ∀ p ∈ e, p.flat) {xs : List Value}, zaq w S s L xs -> zaq w S' s L xs
 | [], _, _, _ => by simp [zaq]
 | e :: L, hf, xs, h => by
   simp only [zaq] at h ⊢
   exact ⟨h.1, zjO (hf e (by simp)) h.2.1, zg9 s (fun q hq => hf q (by simp [hq])) h.2.2⟩
mutual
theorem zfK {β : Nat -> Option zay} {w S S'} : ∀ {s : SV} (_ : s.flat) {x : Value}, rel β w S s x -> rel β w S' s x
 | .any, _, _, _ => by simp [rel]
 | .int _ _, _, _, h => by simpa [rel] using h
 | .bool _, _, _, h => by simpa [rel] using h
 | .pr _, _, _, h => by simpa [rel] using h
 | .tt, _, _, h => by simpa [rel] using h
 | .ff, _, _, h => by simpa [rel] using h
 | .str _, _, _, h => by simpa [rel] using h
 | .val _, _, _, h => by simpa [rel] using h
 | .rd p, hf, _, h => by simp only [rel, SV.flat] at *; exact zle hf h
 | .rp _ _, hf, _, _ => by simp [SV.flat] at hf
 | .ra _ _, hf, _, _ => by simp [SV.flat] at hf
 | .ptr _ _ _, _, _, h => by simpa [rel] using h
 | .slc _ _ _, _, _, h => by simpa [rel] using h
 | .slx _ _ _, _, _, h => by simpa [rel] using h
 | .gn _, _, _, h => by simpa [rel] using h
 | .fex _, _, _, h => by simpa [rel] using h
 | .mp _, _, _, h => by simpa [rel] using h
 | .fn f a c, hf, x, h => by
   simp only [rel, SV.flat] at *
   obtain ⟨xs, ys, e, h1, h2⟩ := h
   exact ⟨xs, ys, e, zdB hf.1 h1, zdB hf.2 h2⟩
 | .ifc t s, hf, x, h => by
   simp only [rel, SV.flat] at *
   obtain ⟨y, e, h1⟩ := h
   exact ⟨y, e, zfK hf h1⟩
 | .agg cs, hf, x, h => by
   simp only [rel, SV.flat] at *
   obtain ⟨xs, e, h1⟩ := h
   exact ⟨xs, e, zdB hf h1⟩
 | .tup cs, hf, x, h => by
   simp only [rel, SV.flat] at *
   obtain ⟨xs, e, h1⟩ := h
   exact ⟨xs, e, zdB hf h1⟩
theorem zdB {β : Nat -> Option zay} {w S S'} : ∀ {l : List SV} (_ : zc2 l) {xs : List Value}, zam β w S l xs -> zam β w S' l xs
 | [], _, _, h => by simpa [zam] using h
 | s :: l, hf, xs, h => by
   simp only [zam, zc2] at *
   obtain ⟨x, r, e, h1, h2⟩ := h
   exact ⟨x, r, e, zfK hf.1 h1, zdB hf.2 h2⟩
end
theorem zlf {β : Nat -> Option zay} {w S S'} (s : Nat) : ∀ {L : List (List SV)} (_ : zjv L) {xs : List Value}, zaY β w S s L xs -> zaY β w S' s L xs
 | [], _, _, _ => by simp [zaY]
 | e :: L, hf, xs, h => by
   simp only [zaY, zjv] at *
   exact ⟨h.1, zdB hf.1 h.2.1, zlf s hf.2 h.2.2⟩
theorem zlj {one : Bool} {l : List PV} (h : ∀ p ∈ l, p.flat) : (zaS one l).flat := by
 unfold zaS
 have key : ∀ p : PV, p.flat -> p.sv.flat := fun p hp => by cases p <;> simp_all [PV.sv, SV.flat, PV.flat]
 cases one with
 | true =>
   cases l with
   | nil => simp [SV.flat]
   | cons p l => exact key p (h p (by simp))
 | false =>
   simp only [SV.flat]
   induction l with
   | nil => simp [zc2]
   | cons p l ih => simp only [List.map, zc2]; exact ⟨key p (h p (by simp)), ih fun q hq => h q (by simp [hq])⟩
theorem zps {M : zaj} {k : M.κ} : ∀ p ∈ M.ek k, p.flat := by
 intro p hp
 have h := M.ekk k
 have : p.kind ∈ (M.ek k).map PV.kind := List.mem_map_of_mem hp
 rw [h] at this
 obtain ⟨q, _, e⟩ := List.mem_map.1 this
 cases p <;> simp_all [PV.kind, PV.flat]
theorem zk8 {β : Nat -> Option zay} {w S S'} {M : zaj} : ∀ {es : List (M.κ × M.ν)} (_ : ∀ x ∈ es, ∀ p ∈ M.ev x.2, PV.flat p) {l : List MapEntry}, za1 β w S M es l -> za1 β w S' M es l
 | [], _, l, h => by simpa [za1] using h
 | (k, v) :: es, hf, l, h => by
   simp only [za1] at h ⊢
   obtain ⟨m, r, e, h1, h2, h3⟩ := h
   exact ⟨m, r, e, zfK (zlj zps) h1, zfK (zlj (hf (k, v) (by simp))) h2, zk8 (fun x hx => hf x (by simp [hx])) h3⟩
theorem za3.flat {β : Nat -> Option zay} {w S S'} {B F o} (hf : o.flat) (h : za3 β w S B F o) : za3 β w S' B F o := by
 cases o with
 | row cs =>
   obtain ⟨b, arr, T, q1, q2, q3, q4, q5, q6⟩ := h
   exact ⟨b, arr, T, q1, q2, q3, q4, q5, zdB hf q6⟩
 | vec s L =>
   rcases h with h | ⟨b, arr, T, q1, q2, q3, q4, q5, q6, q7⟩
   . exact .inl h
   . exact .inr ⟨b, arr, T, q1, q2, q3, q4, q5, q6, zg9 s hf q7⟩
 | arr s L =>
   rcases h with h | ⟨b, arr, T, q1, q2, q3, q4, q5, q6, q7⟩
   . exact .inl h
   . exact .inr ⟨b, arr, T, q1, q2, q3, q4, q5, q6, zlf s hf q7⟩
 | map M es it =>
   obtain ⟨b, ents, clock, q1, q2, q3, q4, q5, q6⟩ := h
   refine ⟨b, ents, clock, q1, q2, q3, zk8 hf q4, q5, ?_⟩
   cases it with
   | none => trivial
   | some p => exact q6
 | itr i => exact h
 | lrec l r e => exact h
 | vex s p =>
   obtain ⟨L, hL, h⟩ := h
   refine ⟨L, hL, ?_⟩
   rcases h with h | ⟨b, arr, T, q1, q2, q3, q4, q5, q6, q7⟩
   . exact .inl h
   . exact .inr ⟨b, arr, T, q1, q2, q3, q4, q5, q6, zg9 s (hf L hL) q7⟩
 | mapE M es k g => exact hf.elim
 | fam M sub es hh => exact hf.elim
end Go.Sx
