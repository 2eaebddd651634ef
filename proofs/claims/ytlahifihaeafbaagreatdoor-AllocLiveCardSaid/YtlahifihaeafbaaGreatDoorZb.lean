/- Part 2 of 11 of a proof of the law AllocLive: what the last part leans on. -/
import Derived.Test.YtlahifihaeafbaaGreatDoorZa
import Derived.RangeFuncCalls
set_option linter.all false
set_option maxRecDepth 100000
namespace Go.Sx
open Go
theorem zdU {k k' : IntKind} (h : zeS k k' = true) : k = k' := by
 cases k <;> cases k' <;> first | rfl | (simp [zeS] at h)
theorem zeX {β w S} {s : SV} {p : Prop} (h : s.prop = some p) {x : Value} (hx : rel β w S s x) : ∃ b, x = .bool b /\ (b = true ↔ p) := by
 cases s <;> simp only [SV.prop, Option.some.injEq, reduceCtorEq] at h <;> simp only [rel] at hx
 case bool => subst h; exact ⟨_, hx, Iff.rfl⟩
 case pr => subst h; exact hx
 case tt => subst h; exact ⟨true, hx, by simp⟩
 case ff => subst h; exact ⟨false, hx, by simp⟩
theorem zkM {β w S} {s s' : SV} (h : zky s = some s') {x : Value} (hx : rel β w S s x) : ∃ b, x = .bool b /\ rel β w S s' (.bool !b) := by
 cases s <;> simp only [zky, Option.some.injEq, reduceCtorEq] at h <;> simp only [rel] at hx
 case bool b => subst h; exact ⟨b, hx, by simp [rel]⟩
 case pr p =>
  subst h
  obtain ⟨b, rfl, hb⟩ := hx
  refine ⟨b, rfl, ?_⟩
  simp only [rel]
  exact ⟨!b, rfl, by cases b <;> simp_all⟩
 case tt => subst h; exact ⟨true, hx, by simp [rel]⟩
 case ff => subst h; exact ⟨false, hx, by simp [rel]⟩
theorem zg4 {β w S} {p : Prop} {b : Bool} (h : b = true ↔ p) : rel β w S (.pr p) (.bool b) := by simp only [rel]; exact ⟨b, rfl, h⟩
section
variable {C : Ctx} {gt : GT} {go : GO} {o : Oper} {fresh : Nat} {R : List Loc} {v : Option SV} {os : List (Nat × Option SO)} {k : Nat}
theorem zkN {op : BinOp} {t : TypeId} {x y : Operand} {a b : Value} {P : Program} {w : World} (h : (∀ xs ys, ¬ (a = .agg xs /\ b = .agg ys))) (h' : a ≠ .nilIface) :
 (eqGuard op t x y a b).run P w = .ok () w := by
  unfold eqGuard
  cases op <;> simp <;> cases a <;> simp_all <;> cases b <;> simp_all
theorem zcZ {op : BinOp} {t : TypeId} {x y : Operand} {ty : TypeId} {a : Act} {P : Program} {w : World} (ho : o.op = .binOp op t x y ty)
 (h : (∀ xs ys, ¬ (a.eval x = .agg xs /\ a.eval y = .agg ys))) (h' : a.eval x ≠ .nilIface) {z : Value} (hr : (binOp op t (a.eval x) (a.eval y)).run P w = .ok z w) :
 (execOp a.eval o).run P w = .ok (.value z) w := by
  simp [execOp, ho, zkN h h', hr]
theorem zd3 {k1 k2 : IntKind} {r : RT} {R v os k} (h : ((match zeS k1 k2 with | false => RT.fail | true => r) : RT).Runs gt go R v os k) : k1 = k2 /\ r.Runs gt go R v os k := by
 split at h
 . cases h
 . exact ⟨zdU ‹_›, h⟩
theorem zjD {P : Program} {w : World} {t : TypeId} (hu : P.underlying t = some .bool) (a b : Bool) (d : Nat) : (Op.equalIn (d + 1) t (.bool a) (.bool b)).run P w = .ok (a == b) w := by
 simp only [Op.equalIn, Sem.run_bind, run_underlying hu, Result.andThen_ok, Sem.run_pure]
theorem zmH {P : Program} {w : World} {t : TypeId} (hu : P.underlying t = some .bool) (a b : Bool) : (Op.equal t (.bool a) (.bool b)).run P w = .ok (a == b) w :=
 zjD hu a b 9999
theorem zeh {kd : IntKind} {n : Int} (h : (zeR kd n).Runs gt go R v os k) : ∃ R', (zaC (.int kd (kd.wrap n))).Runs gt go R' v os k := by
 unfold zeR at h
 cases h with
 | ex z hz h => dsimp only at h hz; rw [hz] at h; exact ⟨_, h⟩
theorem zCL {op : BinOp} {t ty : TypeId} {x y : Operand} (ho : o.op = .binOp op t x y ty) (h : (MO.rt C.toEnv fresh (.ar op (cX x) (cX y))).Runs gt go R v os k) (hd : zau C o.dst v) : zaD C o fresh gt go v os k := by
 simp only [MO.rt] at h
 replace h := zaq h
 obtain ⟨sx, R1, h, hx⟩ := h
 replace h := zaq h
 obtain ⟨sy, R2, h, hy⟩ := h
 split at h
 . rename_i k1 n k2 m
   have ev : ∀ {β own S a w}, zah C gt go β own S a w -> a.eval x = .int k1 n /\ a.eval y = .int k2 m := fun H => by
    have h1 := hx H; have h2 := hy H
    simp only [rel] at h1 h2
    exact ⟨h1, h2⟩
   have fin : ∀ {R v os k r}, (zaC (.int k1 r)).Runs gt go R v os k -> zau C o.dst v -> (∀ {w}, (binOp op t (.int k1 n) (.int k2 m)).run C.P w = .ok (.int k1 r) w) -> zaD C o fresh gt go v os k := by
    intro R v os k r h hd hr
    obtain ⟨rfl, rfl, rfl⟩ := zas h
    refine zaK (by simp [ho]) hd fun {β own S a w} H => ?_
    obtain ⟨h1, h2⟩ := ev H
    refine ⟨_, zcZ ho (by simp [h1]) (by simp [h1]) (by rw [h1, h2]; exact hr), by simp [rel]⟩
   cases op <;> simp only [zzM] at h
   case shl =>
    cases h with
    | req hp h => obtain ⟨R', h⟩ := zeh h; exact fin h hd (fun {w} => by have : ¬ m < 0 := (by omega); simp [binOp, Op.shift, this])
   case shr =>
    cases h with
    | req hp h => exact fin h hd (fun {w} => by have : ¬ m < 0 := (by omega); simp [binOp, Op.shift, this])
   case add => obtain ⟨hk, h'⟩ := zd3 h; subst hk; obtain ⟨R', h'⟩ := zeh h'; exact fin h' hd (fun {w} => by simp [binOp, Op.intArith])
   case sub => obtain ⟨hk, h'⟩ := zd3 h; subst hk; obtain ⟨R', h'⟩ := zeh h'; exact fin h' hd (fun {w} => by simp [binOp, Op.intArith])
   case mul => obtain ⟨hk, h'⟩ := zd3 h; subst hk; obtain ⟨R', h'⟩ := zeh h'; exact fin h' hd (fun {w} => by simp [binOp, Op.intArith])
   case quo =>
    obtain ⟨hk, h'⟩ := zd3 h; subst hk
    cases h' with
    | req hp h => obtain ⟨R', h⟩ := zeh h; exact fin h hd (fun {w} => by simp [binOp, Op.intDiv, hp])
   case rem =>
    obtain ⟨hk, h'⟩ := zd3 h; subst hk
    cases h' with
    | req hp h => exact fin h hd (fun {w} => by simp [binOp, Op.intDiv, hp])
   case and => obtain ⟨hk, h'⟩ := zd3 h; subst hk; exact fin h' hd (fun {w} => by simp [binOp, Op.intBits, zbf])
   case or => obtain ⟨hk, h'⟩ := zd3 h; subst hk; exact fin h' hd (fun {w} => by simp [binOp, Op.intBits, zbf])
   case xor => obtain ⟨hk, h'⟩ := zd3 h; subst hk; exact fin h' hd (fun {w} => by simp [binOp, Op.intBits, zbf])
   case andNot => obtain ⟨hk, h'⟩ := zd3 h; subst hk; exact fin h' hd (fun {w} => by simp [binOp, Op.intBits, zbf])
   all_goals (obtain ⟨hk, h'⟩ := zd3 h; cases h')
 . cases h
theorem zzF {op : BinOp} {t ty : TypeId} {x y : Operand} (ho : o.op = .binOp op t x y ty) (h : (MO.rt C.toEnv fresh (.cmp op (cX x) (cX y))).Runs gt go R v os k) (hd : zau C o.dst v) : zaD C o fresh gt go v os k := by
 simp only [MO.rt] at h
 replace h := zaq h
 obtain ⟨sx, R1, h, hx⟩ := h
 replace h := zaq h
 obtain ⟨sy, R2, h, hy⟩ := h
 split at h
 . rename_i k1 n k2 m
   split at h
   . rename_i hk
     have hk := zdU hk
     subst hk
     have ev : ∀ {β own S a w}, zah C gt go β own S a w -> a.eval x = .int k1 n /\ a.eval y = .int k1 m := fun H => by
      have h1 := hx H; have h2 := hy H
      simp only [rel] at h1 h2
      exact ⟨h1, h2⟩
     have fin : ∀ {R v os k} {p : Prop} {b : Bool}, (zaC (.pr p)).Runs gt go R v os k -> zau C o.dst v -> (b = true ↔ p) -> (∀ {w}, (binOp op t (.int k1 n) (.int k1 m)).run C.P w = .ok (.bool b) w) -> zaD C o fresh gt go v os k := by
      intro R v os k p b h hd hb hr
      obtain ⟨rfl, rfl, rfl⟩ := zas h
      refine zaK (by simp [ho]) hd fun {β own S a w} H => ?_
      obtain ⟨h1, h2⟩ := ev H
      exact ⟨_, zcZ ho (by simp [h1]) (by simp [h1]) (by rw [h1, h2]; exact hr), zg4 hb⟩
     cases op <;> simp only [zua] at h
     case eql => exact fin (b := n == m) h hd (by simp) (fun {w} => by simp [binOp, Op.intCmp])
     case neq => exact fin (b := n != m) h hd (by simp) (fun {w} => by simp [binOp, Op.intCmp])
     case lss => exact fin (b := decide (n < m)) h hd (by simp) (fun {w} => by simp [binOp, Op.intCmp])
     case leq => exact fin (b := decide (n <= m)) h hd (by simp) (fun {w} => by simp [binOp, Op.intCmp])
     case gtr => exact fin (b := decide (m < n)) h hd (by simp) (fun {w} => by simp [binOp, Op.intCmp])
     case geq => exact fin (b := decide (m <= n)) h hd (by simp) (fun {w} => by simp [binOp, Op.intCmp])
     all_goals cases h
   . cases h
 . cases h
theorem zpW {neg : Bool} {t ty : TypeId} {x y : Operand} (ho : o.op = .binOp (if neg then .neq else .eql) t x y ty) (hu : C.P.underlying t = some .bool)
 (h : (MO.rt C.toEnv fresh (.eqb neg (cX x) (cX y))).Runs gt go R v os k) (hd : zau C o.dst v) : zaD C o fresh gt go v os k := by
  simp only [MO.rt] at h
  replace h := zaq h
  obtain ⟨sx, R1, h, hx⟩ := h
  replace h := zaq h
  obtain ⟨sy, R2, h, hy⟩ := h
  split at h
  . rename_i s hs
    obtain ⟨rfl, rfl, rfl⟩ := zas h
    refine zaK (by simp [ho]) hd fun {β own S a w} H => ?_
    have key : ∃ b1 b2, a.eval x = .bool b1 /\ a.eval y = .bool b2 /\ rel β w S s (.bool (if neg then b1 != b2 else b1 == b2)) := by
     have h1 := hx H; have h2 := hy H
     unfold ztr at hs
     split at hs
     . simp only [rel] at h1
       cases neg
       . simp only at hs
         split at hs
         . rename_i q hq
           simp only [Option.some.injEq] at hs
           subst hs
           obtain ⟨b, e, _⟩ := zeX hq h2
           exact ⟨true, b, h1, e, by rw [e] at h2; simpa using h2⟩
         . cases hs
       . obtain ⟨b, e, hr⟩ := zkM hs h2
         exact ⟨true, b, h1, e, by simpa using hr⟩
     . simp only [rel] at h1
       cases neg
       . obtain ⟨b, e, hr⟩ := zkM hs h2
         exact ⟨false, b, h1, e, by simpa using hr⟩
       . simp only at hs
         split at hs
         . rename_i q hq
           simp only [Option.some.injEq] at hs
           subst hs
           obtain ⟨b, e, _⟩ := zeX hq h2
           exact ⟨false, b, h1, e, by rw [e] at h2; simpa using h2⟩
         . cases hs
     . split at hs
       . rename_i p q hp hq
         obtain ⟨b1, e1, i1⟩ := zeX hp h1
         obtain ⟨b2, e2, i2⟩ := zeX hq h2
         refine ⟨b1, b2, e1, e2, ?_⟩
         cases neg <;> simp only [Option.some.injEq] at hs <;> subst hs <;> refine zg4 ?_ <;> rw [<- i1, <- i2] <;> cases b1 <;> cases b2 <;> simp
       . cases hs
    obtain ⟨b1, b2, e1, e2, hr⟩ := key
    refine ⟨_, zcZ ho (by simp [e1]) (by simp [e1]) ?_, hr⟩
    rw [e1, e2]
    cases neg <;> simp only [binOp, Bool.false_eq_true, if_false, if_true] <;> simp [zmH hu] <;> cases b1 <;> cases b2 <;> rfl
  . cases h
theorem zyv {t : TypeId} {x : Operand} (ho : o.op = .unOp .not t x) (h : (MO.rt C.toEnv fresh (.not (cX x))).Runs gt go R v os k) (hd : zau C o.dst v) : zaD C o fresh gt go v os k := by
 simp only [MO.rt] at h
 replace h := zaq h
 obtain ⟨sx, R1, h, hx⟩ := h
 split at h
 . rename_i s hs
   obtain ⟨rfl, rfl, rfl⟩ := zas h
   refine zaK (by simp [ho]) hd fun {β own S a w} H => ?_
   obtain ⟨b, e, hr⟩ := zkM hs (hx H)
   exact ⟨.bool (!b), by simp [execOp, ho, e, Op.unary], hr⟩
 . cases h
theorem zBX {op : UnOp} {t : TypeId} {x : Operand} (ho : o.op = .unOp op t x) (h : (MO.rt C.toEnv fresh (.un op (cX x))).Runs gt go R v os k) (hd : zau C o.dst v) : zaD C o fresh gt go v os k := by
 simp only [MO.rt] at h
 replace h := zaq h
 obtain ⟨sx, R1, h, hx⟩ := h
 split at h
 . rename_i k1 n
   cases op <;> simp only at h
   case neg =>
    obtain ⟨R', h⟩ := zeh h
    obtain ⟨rfl, rfl, rfl⟩ := zas h
    refine zaK (by simp [ho]) hd fun {β own S a w} H => ?_
    have h1 := hx H
    simp only [rel] at h1
    exact ⟨_, by simp [execOp, ho, h1, Op.unary, Op.intArith]; rfl, by simp [rel]⟩
   case xor =>
    obtain ⟨rfl, rfl, rfl⟩ := zas h
    refine zaK (by simp [ho]) hd fun {β own S a w} H => ?_
    have h1 := hx H
    simp only [rel] at h1
    exact ⟨_, by simp [execOp, ho, h1, Op.unary, Op.intBits]; rfl, by simp [rel, zbf]⟩
   all_goals cases h
 . cases h
theorem zrC {n : Int} {f : Int -> RT} (h : (zmu n f).Runs gt go R v os k) : (f n).Runs gt go R v os k := by
 unfold zmu at h
 split at h <;> exact h
theorem zxA {op : BinOp} {t ty : TypeId} {x y : Operand} (ho : o.op = .binOp op t x y ty) (h : (MO.rt C.toEnv fresh (.arl op (cX x) (cX y))).Runs gt go R v os k) (hd : zau C o.dst v) : zaD C o fresh gt go v os k := by
 simp only [MO.rt] at h
 replace h := zaq h
 obtain ⟨sx, R1, h, hx⟩ := h
 replace h := zaq h
 obtain ⟨sy, R2, h, hy⟩ := h
 split at h
 case h_2 => cases h
 rename_i n m
 have fin : ∀ {R v os k r}, (zaC (.int .i64 r)).Runs gt go R v os k -> zau C o.dst v -> (∀ {w}, (binOp op t (.int .i64 n) (.int .i64 m)).run C.P w = .ok (.int .i64 r) w) -> zaD C o fresh gt go v os k := by
  intro R v os k r h hd hr
  obtain ⟨rfl, rfl, rfl⟩ := zas h
  refine zaK (by simp [ho]) hd fun {β own S a w} H => ?_
  have h1 := hx H; have h2 := hy H
  simp only [rel] at h1 h2
  refine ⟨_, zcZ ho (by simp [h1]) (by simp [h1]) (by rw [h1, h2]; exact hr), by simp [rel]⟩
 cases op <;> simp only [ztN] at h <;> first | (cases h; done) | exact fin (zrC h) hd (fun {w} => by simp [binOp, Op.intArith])
theorem zvA {op : BinOp} {t ty : TypeId} {x y : Operand} (ho : o.op = .binOp op t x y ty) (h : (MO.rt C.toEnv fresh (.cmpl op (cX x) (cX y))).Runs gt go R v os k) (hd : zau C o.dst v) : zaD C o fresh gt go v os k := by
 simp only [MO.rt] at h
 replace h := zaq h
 obtain ⟨sx, R1, h, hx⟩ := h
 replace h := zaq h
 obtain ⟨sy, R2, h, hy⟩ := h
 split at h
 case h_2 => cases h
 rename_i k1 n k2 m
 split at h
 case h_2 => cases h
 rename_i hk
 have hk := zdU hk
 subst hk
 have fin : ∀ {R v os k} {b : Bool}, (zhs b).Runs gt go R v os k -> zau C o.dst v -> (∀ {w}, (binOp op t (.int k1 n) (.int k1 m)).run C.P w = .ok (.bool b) w) -> zaD C o fresh gt go v os k := by
  intro R v os k b h hd hr
  cases b with
  | true =>
    obtain ⟨rfl, rfl, rfl⟩ := zas h
    refine zaK (by simp [ho]) hd fun {β own S a w} H => ?_
    have h1 := hx H; have h2 := hy H
    simp only [rel] at h1 h2
    refine ⟨_, zcZ ho (by simp [h1]) (by simp [h1]) (by rw [h1, h2]; exact hr), by simp [rel]⟩
  | false =>
    obtain ⟨rfl, rfl, rfl⟩ := zas h
    refine zaK (by simp [ho]) hd fun {β own S a w} H => ?_
    have h1 := hx H; have h2 := hy H
    simp only [rel] at h1 h2
    refine ⟨_, zcZ ho (by simp [h1]) (by simp [h1]) (by rw [h1, h2]; exact hr), by simp [rel]⟩
 cases op <;> simp only [zqu] at h
 case eql => exact fin h hd (fun {w} => by simp [binOp, Op.intCmp]; rfl)
 case neq => exact fin h hd (fun {w} => by simp [binOp, Op.intCmp, bne]; congr)
 case lss => exact fin h hd (fun {w} => by simp [binOp, Op.intCmp])
 case leq => exact fin h hd (fun {w} => by simp [binOp, Op.intCmp])
 case gtr => exact fin h hd (fun {w} => by simp [binOp, Op.intCmp])
 case geq => exact fin h hd (fun {w} => by simp [binOp, Op.intCmp])
 all_goals cases h
theorem zBS {s t : TypeId} {kd : IntKind} {x : Operand} (ho : o.op = .convert s t x) (hs : ∃ d, C.P.underlying s = some d) (hu : C.P.underlying t = some (.int kd)) (h : (MO.rt C.toEnv fresh (.cv kd (cX x))).Runs gt go R v os k) (hd : zau C o.dst v) : zaD C o fresh gt go v os k := by
 simp only [MO.rt] at h
 replace h := zaq h
 obtain ⟨sx, R1, h, hx⟩ := h
 obtain ⟨d, hs⟩ := hs
 split at h
 . rename_i k1 n
   obtain ⟨R', h⟩ := zeh h
   obtain ⟨rfl, rfl, rfl⟩ := zas h
   refine zaK (by simp [ho]) hd fun {β own S a w} H => ?_
   have h1 := hx H
   simp only [rel] at h1
   refine ⟨.int kd (kd.wrap n), ?_, by simp [rel]⟩
   simp [execOp, ho, h1, convert, run_underlying hs, run_underlying hu, Conv.intToInt]
 . cases h
theorem zzo {f : Fn} {x y : Array Operand} (ho : o.op = .makeFunc f x y) (h : (MO.rt C.toEnv fresh (.mkf f (x.toList.map cX) (y.toList.map cX))).Runs gt go R v os k) (hd : zau C o.dst v) : zaD C o fresh gt go v os k := by
 simp only [MO.rt] at h
 replace h := zgS h
 obtain ⟨sx, R1, h, hx⟩ := h
 replace h := zgS h
 obtain ⟨sy, R2, h, hy⟩ := h
 obtain ⟨rfl, rfl, rfl⟩ := zas h
 refine zaK (by simp [ho]) hd fun {β own S a w} H => ?_
 refine ⟨.func f (x.map a.eval) (y.map a.eval), by simp [execOp, ho, Instr.makeFunc], ?_⟩
 simp only [rel]
 exact ⟨_, _, rfl, by simpa using hx H, by simpa using hy H⟩
theorem zwk {t : TypeId} {x : Operand} (ho : o.op = .makeInterface t x) (hu : ∃ d, C.P.underlying t = some d /\ ∀ ms, d ≠ .interface ms) (h : (MO.rt C.toEnv fresh (.mki t (cX x))).Runs gt go R v os k) (hd : zau C o.dst v) : zaD C o fresh gt go v os k := by
 simp only [MO.rt] at h
 replace h := zaq h
 obtain ⟨sx, R1, h, hx⟩ := h
 obtain ⟨rfl, rfl, rfl⟩ := zas h
 obtain ⟨d, hu, hd'⟩ := hu
 refine zaK (by simp [ho]) hd fun {β own S a w} H => ?_
 refine ⟨.iface t (a.eval x), ?_, ?_⟩
 . cases d <;> first | (simp [execOp, ho, Instr.makeInterface, run_underlying hu]; done) | exact absurd rfl (hd' _)
 . simp only [rel]; exact ⟨_, rfl, hx H⟩
theorem zle {t : TypeId} {x : Operand} (ho : o.op = .call { callee := .builtin .len, args := #[x], argTypes := #[t] }) {a : Act} {w : World} {P : Program} {z : Value}
 (hz : (Builtin.len_ #[t] o.type #[a.eval x]).run P w = .ok z w) : (execOp a.eval o).run P w = .ok (.value z) w := by
  simp [execOp, ho, resolve, invoke, builtin, hz]
theorem zu7 {t : TypeId} {x : Operand} (ho : o.op = .call { callee := .builtin .len, args := #[x], argTypes := #[t] }) (hl : ∃ e, C.P.underlying t = some (.slice e))
 (h : (MO.rt C.toEnv fresh (.lenS (cX x))).Runs gt go R v os k) (hd : zau C o.dst v) : zaD C o fresh gt go v os k := by
  simp only [MO.rt] at h
  replace h := zaq h
  obtain ⟨sx, R1, h, hx⟩ := h
  obtain ⟨e, hl⟩ := hl
  have fin : ∀ {R v os k} {n : Nat}, (zaC (.int .i64 n)).Runs gt go R v os k -> zau C o.dst v -> (∀ {β own S a w}, zah C gt go β own S a w -> ∃ b c, a.eval x = .slice b n c) -> zaD C o fresh gt go v os k := by
   intro R v os k n h hd hv
   obtain ⟨rfl, rfl, rfl⟩ := zas h
   refine zaK (by simp [ho]) hd fun {β own S a w} H => ?_
   obtain ⟨b, c, e1⟩ := hv H
   exact ⟨_, zle ho (by rw [e1]; simp [Builtin.len_, run_underlying hl, goInt]; rfl), by simp [rel]⟩
  split at h
  . exact fin h hd fun H => by
     have h1 := hx H
     simp only [rel] at h1
     obtain ⟨B, _, h1⟩ := h1
     unfold zba at h1
     split at h1
     . obtain ⟨e1, _, rfl⟩ := h1; exact ⟨_, _, e1⟩
     . obtain ⟨off, cap, e1, _⟩ := h1; exact ⟨_, _, e1⟩
  . exact fin h hd fun H => by
     have h1 := hx H
     simp only [rel, zaY] at h1
     obtain ⟨ad, cap, e1, _⟩ := h1
     exact ⟨_, _, e1⟩
  . cases h with
    | req hp h =>
      subst hp
      exact fin (n := 0) h hd fun H => by
       have h1 := hx H
       simp only [rel] at h1
       exact ⟨_, _, h1⟩
  . cases h
theorem zuU {t : TypeId} {x : Operand} (ho : o.op = .call { callee := .builtin .len, args := #[x], argTypes := #[t] }) (hl : C.P.underlying t = some .string)
 (h : (MO.rt C.toEnv fresh (.lenT (cX x))).Runs gt go R v os k) (hd : zau C o.dst v) : zaD C o fresh gt go v os k := by
  simp only [MO.rt] at h
  replace h := zaq h
  obtain ⟨sx, R1, h, hx⟩ := h
  split at h
  . obtain ⟨rfl, rfl, rfl⟩ := zas h
    refine zaK (by simp [ho]) hd fun {β own S a w} H => ?_
    have h1 := hx H
    simp only [rel] at h1
    exact ⟨_, zle ho (by rw [h1]; simp [Builtin.len_, run_underlying hl, goInt]; rfl), by simp [rel]⟩
  . cases h
theorem zgE {β w S} {M : zaj} : ∀ {es : List (M.κ × M.ν)} {l : List MapEntry}, za4 β w S M es l -> l.length = es.length
 | [], l, h => by simp [za4] at h; simp [h]
 | (k, v) :: es, l, h => by
   simp only [za4] at h
   obtain ⟨m, r, rfl, _, _, h⟩ := h
   simp [zgE h]
theorem zuR {t : TypeId} {x : Operand} (ho : o.op = .call { callee := .builtin .len, args := #[x], argTypes := #[t] }) (hl : ∃ a b, C.P.underlying t = some (.map a b))
 (h : (MO.rt C.toEnv fresh (.lenM (cX x))).Runs gt go R v os k) (hd : zau C o.dst v) : zaD C o fresh gt go v os k := by
  simp only [MO.rt] at h
  replace h := zaq h
  obtain ⟨sx, R1, h, hx⟩ := h
  obtain ⟨ka, kb, hl⟩ := hl
  split at h
  . cases h with
    | rO h =>
      dsimp only at h
      split at h
      . rename_i M es hgo
        obtain ⟨rfl, rfl, rfl⟩ := zas h
        refine zaK (by simp [ho]) hd fun {β own S a w} H => ?_
        have h1 := hx H
        simp only [rel] at h1
        obtain ⟨B, b, hB, hb, e1⟩ := h1
        obtain ⟨B', h4, b', ents, clock, h5, _, hw, hr, _⟩ := H.mem.obj _ _ hgo
        rw [hB] at h4; cases h4
        rw [hb] at h5; cases h5
        have := zgE hr
        simp at this
        exact ⟨_, zle ho (by rw [e1]; simp [Builtin.len_, run_underlying hl, goInt, getObj, Sem.run, hw]; rfl), by simp [rel, this]⟩
      . cases h
  . cases h
end
end Go.Sx
namespace Go.Sx
open Go
def zjd (P : Program) (t : TypeId) : Option ((Nat -> Option (Nat × Nat)) × Value) :=
 match P.info? t, P.underlying t with
 | some it, some (.array _ e) =>
   match it.zero, P.info? e with
   | some z, some ie => some (fun i => some (i * ie.size, ie.size), z)
   | _, _ => none
 | some it, some (.struct fields) =>
   match it.zero, fields.toList.mapM (fun f => (P.info? f.type).map fun i => (f.offset, i.size)) with
   | some z, some places => some ((places[·]?), z)
   | _, _ => none
 | _, _ => none
theorem zsi {P : Program} {t : TypeId} {pl z} (h : zjd P t = some (pl, z)) (parts : List (Nat × Value)) : P.built t parts = Instr.fill pl z.cells parts := by
 unfold zjd at h
 unfold Program.built
 split at h
 . rename_i it n e h1 h2
   split at h
   . rename_i z' ie h3 h4
     cases h
     simp [h1, h2, h3, h4]
   . cases h
 . rename_i it fields h1 h2
   split at h
   . rename_i z' places h3 h4
     cases h
     simp [h1, h2, h3, h4]
   . cases h
 . cases h
theorem zlX (vs : List Value) : ∀ (cells : Array Value) (off : Nat), off + vs.length <= cells.size →
 (vs.zipIdx.foldl (fun cs (c, j) => cs.setIfInBounds (off + j) c) cells).toList = cells.toList.take off ++ vs ++ cells.toList.drop (off + vs.length) := by
  have key : ∀ (vs : List Value) (cells : Array Value) (off st : Nat), off + st + vs.length <= cells.size →
   ((vs.zipIdx st).foldl (fun cs (c, j) => cs.setIfInBounds (off + j) c) cells).toList = cells.toList.take (off + st) ++ vs ++ cells.toList.drop (off + st + vs.length) := by
    intro vs
    induction vs with
    | nil => intro cells off st _; simp
    | cons v vs ih =>
      intro cells off st hl
      simp at hl
      rw [List.zipIdx_cons, List.foldl_cons]
      rw [ih (cells.setIfInBounds (off + st) v) off (st + 1) (by simp; omega)]
      have h1 : (cells.setIfInBounds (off + st) v).toList = cells.toList.set (off + st) v := by simp
      rw [h1]
      apply List.ext_getElem?
      intro i
      simp only [List.getElem?_append, List.getElem?_take, List.getElem?_drop, List.length_append, List.length_take, List.length_set, Array.length_toList, List.getElem?_set, List.length_cons]
      have e1 : min (off + (st + 1)) cells.size = off + (st + 1) := by omega
      have e2 : min (off + st) cells.size = off + st := by omega
      rw [e1, e2]
      by_cases c1 : i < off + st
      . have : i < off + (st + 1) := by omega
        have c3 : i < off + (st + 1) + vs.length := by omega
        have c4 : i < off + st + (vs.length + 1) := by omega
        have c5 : ¬ off + st = i := by omega
        simp [c1, this, c3, c4, c5]
      . by_cases c2 : i = off + st
        . subst c2
          have c3 : off + st < off + (st + 1) + vs.length := by omega
          have c4 : off + st < off + (st + 1) := by omega
          have c5 : off + st < off + st + (vs.length + 1) := by omega
          have c6 : off + st < cells.size := by omega
          simp [c3, c4, c5, c6]
        . by_cases c3 : i < off + st + (vs.length + 1)
          . have c4 : i < off + (st + 1) + vs.length := by omega
            have c5 : ¬ i < off + (st + 1) := by omega
            have c6 : i - (off + st) = (i - (off + (st + 1))) + 1 := by omega
            simp [c1, c3, c4, c5, c6]
          . have c4 : ¬ i < off + (st + 1) + vs.length := by omega
            have c5 : ¬ off + st = off + (st + 1) + vs.length + (i - (off + (st + 1) + vs.length)) := by omega
            have c6 : off + (st + 1) + vs.length + (i - (off + (st + 1) + vs.length)) = off + st + (vs.length + 1) + (i - (off + st + (vs.length + 1))) := by omega
            simp only [c3, c4, if_false, c5]
            rw [c6]
  intro cells off hl
  simpa using key vs cells off 0 (by simpa using hl)
theorem zno {β w S} {pl : Nat -> Option (Nat × Nat)} : ∀ {ps : List (Nat × Nat × SV)} {cs cs' : List SV} {cells : Array Value} {vs : List (Nat × Value)},
 zix cs ps = some cs' -> zal β w S cs cells.toList -> ps.length = vs.length →
 (∀ i (h : i < ps.length) (h' : i < vs.length), pl (vs[i]).1 = some ((ps[i]).1, (ps[i]).2.1) /\ rel β w S (ps[i]).2.2 (vs[i]).2) →
 ∃ cells', Instr.fill pl cells vs = some cells' /\ zal β w S cs' cells'.toList
  | [], cs, cs', cells, vs, h, hr, hl, _ => by
    simp [zix] at h
    subst h
    have : vs = [] := by simpa using hl.symm
    subst this
    exact ⟨cells, rfl, hr⟩
  | (off, n, s) :: ps, cs, cs', cells, vs, h, hr, hl, hp => by
    cases vs with
    | nil => simp at hl
    | cons v vs =>
      obtain ⟨i, v⟩ := v
      obtain ⟨h1, h2⟩ := hp 0 (by simp) (by simp)
      simp at h1 h2
      simp only [zix] at h
      split at h
      . cases h
      . cases h
      rename_i l0 ls hbx
      split at h
      . cases h
      rename_i hn
      have hn := Nat.eq_of_beq_eq_true hn
      split at h
      . cases h
      rename_i cs1 hput
      have hv := zp3 hbx h2
      have hlv := zaM _ _ hv
      obtain ⟨p1, p2⟩ := zfL _ _ _ _ hput
      have p3 := p2.resolve_left (by simp)
      have hlc := zaM _ _ hr
      have hsz : v.cells.size = n := by simp at hlv hn; omega
      have hb : off + v.cells.toList.length <= cells.size := by simp at hlv hlc p3 ⊢; omega
      have hfold : (v.cells.zipIdx.foldl (fun cs (c, j) => cs.setIfInBounds (off + j) c) cells).toList = cells.toList.take off ++ v.cells.toList ++ cells.toList.drop (off + v.cells.toList.length) := by
       rw [<- Array.foldl_toList, Array.toList_zipIdx]
       exact zlX v.cells.toList cells off hb
      have hr1 : zal β w S cs1 (v.cells.zipIdx.foldl (fun cs (c, j) => cs.setIfInBounds (off + j) c) cells).toList := by
       rw [hfold, p1, <- hlv]
       exact zbG _ _ _ _ (zbG _ _ _ _ (zev _ _ _ hr) hv) (zez _ _ _ hr)
      obtain ⟨cells', h3, h4⟩ := zno h hr1 (by simpa using hl) (fun j hj hj' => by
       have := hp (j + 1) (by simpa using hj) (by simpa using hj')
       simpa using this)
      refine ⟨cells', ?_, h4⟩
      simp only [Instr.fill, h1]
      rw [if_neg (by simp [hsz]; simp at hb; omega)]
      exact h3
def zhF (pl : Nat -> Option (Nat × Nat)) : List (Nat × Operand) -> List (Nat × Nat × X) -> Prop
 | [], l => l = []
 | (i, x) :: r, l => ∃ off n l', l = (off, n, cX x) :: l' /\ pl i = some (off, n) /\ zhF pl r l'
section
variable {C : Ctx} {gt : GT} {go : GO} {o : Oper} {fresh : Nat} {R : List Loc} {v : Option SV} {os : List (Nat × Option SO)} {k : Nat}
theorem zqp {pl : Nat -> Option (Nat × Nat)} : ∀ {parts : List (Nat × Operand)} {ps : List (Nat × Nat × X)} {f : List (Nat × Nat × SV) -> RT} {R v os k}, zhF pl parts ps →
 (Ps.rd C.toEnv ps f).Runs gt go R v os k -> ∃ vs R', (f vs).Runs gt go R' v os k /\ vs.length = parts.length /\ ∀ {β own S a w}, zah C gt go β own S a w →
  ∀ i (h : i < vs.length) (h' : i < parts.length), pl (parts[i]).1 = some ((vs[i]).1, (vs[i]).2.1) /\ rel β w S (vs[i]).2.2 (a.eval (parts[i]).2)
  | [], ps, f, R, v, os, k, hp, h => by
    simp only [zhF] at hp
    subst hp
    exact ⟨[], _, h, rfl, fun _ i hi => by simp at hi⟩
  | (i, x) :: parts, ps, f, R, v, os, k, hp, h => by
    simp only [zhF] at hp
    obtain ⟨off, n, ps', rfl, h1, h2⟩ := hp
    simp only [Ps.rd] at h
    replace h := zaq h
    obtain ⟨s, R1, h, hs⟩ := h
    obtain ⟨vs, R2, h3, h4, h5⟩ := zqp h2 h
    refine ⟨(off, n, s) :: vs, R2, h3, by simp [h4], fun H j hj hj' => ?_⟩
    cases j with
    | zero => exact ⟨h1, hs H⟩
    | succ j => simpa using h5 H j (by simpa using hj) (by simpa using hj')
theorem zA4 {t : TypeId} {parts : Array (Nat × Operand)} {pl : Nat -> Option (Nat × Nat)} {z : Value} {ps : List (Nat × Nat × X)} (ho : o.op = .build t parts) (hb : zjd C.P t = some (pl, z)) (hp : zhF pl parts.toList ps)
 (h : (MO.rt C.toEnv fresh (.bld (z.cells.toList.map cV1) ps)).Runs gt go R v os k) (hd : zau C o.dst v) : zaD C o fresh gt go v os k := by
  simp only [MO.rt] at h
  obtain ⟨vs, R1, h1, h2, h3⟩ := zqp hp h
  split at h1
  . rename_i cs hcs
    obtain ⟨rfl, rfl, rfl⟩ := zas h1
    refine zaK (by simp [ho]) hd fun {β own S a w} H => ?_
    obtain ⟨cells', h4, h5⟩ := zno (vs := parts.toList.map fun p => (p.1, a.eval p.2)) hcs (zei (β := β) (w := w) (S := S) z.cells.toList) (by simp [h2]) (fun i hi hi' => by
     have := h3 H i hi (by simpa using hi')
     simpa using this)
    refine ⟨.agg cells', ?_, by simp only [rel]; exact ⟨_, rfl, h5⟩⟩
    have h6 := run_build (P := C.P) w t (parts.map fun p => (p.1, a.eval p.2)) cells' (by rw [zsi hb]; simpa using h4)
    simp [execOp, ho, h6]
  . cases h1
end
end Go.Sx
namespace Go.Sx
open Go
theorem zl2 {β w S} (s : Nat) (z : List SV) (zs : List Value) (hz : zal β w S z zs) (hs : z.length = s) (hs0 : 0 < s) : ∀ (n : Nat),
 zaZ β w S s (zgf z n) ((List.range (n * s)).map fun i => zs[i % s]!)
  | 0 => by simp [zgf, zaZ]
  | n + 1 => by
    have hl := zaM _ _ hz
    simp only [zgf, zaZ]
    refine ⟨hs, ?_, ?_⟩
    . have : ((List.range ((n + 1) * s)).map fun i => zs[i % s]!).take s = zs := by
       apply List.ext_getElem?
       intro i
       rw [List.getElem?_take]
       split
       . rename_i hi
         have h1 : i < (n + 1) * s := by rw [Nat.add_mul]; omega
         simp [h1, Nat.mod_eq_of_lt hi]
         rw [List.getElem?_eq_getElem (by omega)]
         simp [getElem!_def]
       . rw [List.getElem?_eq_none (by omega)]
      rw [this]; exact hz
    . have : ((List.range ((n + 1) * s)).map fun i => zs[i % s]!).drop s = ((List.range (n * s)).map fun i => zs[i % s]!) := by
       apply List.ext_getElem?
       intro i
       rw [List.getElem?_drop]
       have e : (n + 1) * s = n * s + s := by rw [Nat.add_mul]; omega
       by_cases hi : i < n * s
       . have h1 : s + i < (n + 1) * s := by omega
         simp [h1, hi]
       . have h1 : ¬ s + i < (n + 1) * s := by omega
         simp [h1, hi]
      rw [this]; exact zl2 s z zs hz hs hs0 n
theorem zir {β w S} {s : Nat} (hs0 : 0 < s) {N : Nat} : ∀ {ps : List (Nat × Nat × SV)} {L L' : List (List SV)} {cells : Array Value} {vs : List (Nat × Value)},
 zfT s L ps = some L' -> zaZ β w S s L cells.toList -> cells.size = N -> L.length * s = N -> ps.length = vs.length →
 (∀ i (h : i < ps.length) (h' : i < vs.length), (vs[i]).1 = (ps[i]).1 /\ rel β w S (ps[i]).2.2 (vs[i]).2) →
 ∃ cells', Instr.fill (fun i => some (i * s, s)) cells vs = some cells' /\ zaZ β w S s L' cells'.toList /\ cells'.size = N /\ L'.length * s = N
  | [], L, L', cells, vs, h, hr, hN, hL, hl, _ => by
    simp [zfT] at h
    subst h
    have : vs = [] := by simpa using hl.symm
    subst this
    exact ⟨cells, rfl, hr, hN, hL⟩
  | (i, n, sv) :: ps, L, L', cells, vs, h, hr, hN, hL, hl, hp => by
    cases vs with
    | nil => simp at hl
    | cons v vs =>
      obtain ⟨i', v⟩ := v
      obtain ⟨h1, h2⟩ := hp 0 (by simp) (by simp)
      simp at h1 h2
      subst h1
      simp only [zfT] at h
      split at h
      . cases h
      . cases h
      rename_i l0 ls hbx
      split at h
      . cases h
      rename_i hn
      have hn := Nat.eq_of_beq_eq_true hn
      split at h
      . cases h
      rename_i e he
      rw [zbC] at he
      obtain ⟨hv, hv1⟩ := zfi hbx h2
      have hlv := zaM _ _ hv
      obtain ⟨he1, _⟩ := zjJ _ _ _ _ _ hr he
      have hput : zdI e 0 (l0 :: ls) = some (l0 :: ls) := by
       have : ∀ (e l : List SV), e.length = l.length -> zdI e 0 l = some l := by
        intro e
        induction e with
        | nil => intro l h; cases l <;> simp_all [zdI]
        | cons a e ih =>
          intro l h
          cases l with
          | nil => simp at h
          | cons b l => simp [zdI, ih l (by simpa using h)]
       exact this _ _ (by omega)
      obtain ⟨q1, q2⟩ := zjt _ _ _ _ _ _ _ _ _ hr he hput (by simp) hv
      simp only [Nat.add_zero] at q1 q2
      have hil : i' < L.length := (List.getElem?_eq_some_iff.1 he).1
      have hsz : v.cells.size = s := by simp at hlv hn; omega
      have hb : i' * s + v.cells.toList.length <= cells.size := by simpa using q2
      have hfold : (v.cells.zipIdx.foldl (fun cs (c, j) => cs.setIfInBounds (i' * s + j) c) cells).toList = cells.toList.take (i' * s) ++ v.cells.toList ++ cells.toList.drop (i' * s + v.cells.toList.length) := by
       rw [<- Array.foldl_toList, Array.toList_zipIdx]
       exact zlX v.cells.toList cells _ hb
      have hfs : (v.cells.zipIdx.foldl (fun cs (c, j) => cs.setIfInBounds (i' * s + j) c) cells).size = N := by
       rw [<- Array.length_toList, hfold]; simp at hb ⊢; omega
      obtain ⟨cells', h3, h4⟩ := zir hs0 h (by rw [hfold, zgT]; exact q1) hfs (by rw [zgT]; simpa using hL) (by simpa using hl) (fun j hj hj' => by
       have := hp (j + 1) (by simpa using hj) (by simpa using hj')
       simpa using this)
      refine ⟨cells', ?_, h4⟩
      simp only [Instr.fill]
      rw [if_neg (by simp [hsz]; simp at hb; omega)]
      exact h3
section
variable {C : Ctx} {gt : GT} {go : GO} {o : Oper} {fresh : Nat} {R : List Loc} {v : Option SV} {os : List (Nat × Option SO)} {k : Nat}
def zBg (P : Program) (t : TypeId) (s ln : Nat) (z : Value) : Prop :=
 ∃ e i, P.underlying t = some (.slice e) /\ P.info? e = some i /\ i.size = s /\ 0 < s /\ ln * s <= 2 ^ 24 /\ i.zero = some z /\ z.cells.size = s
theorem zom : ∀ {parts : List (Nat × Operand)} {f : List (Nat × Nat × SV) -> RT} {R v os k},
 (Ps.rd C.toEnv ((parts.map fun p => (p.1, cX p.2)).map fun p => (p.1, 0, p.2)) f).Runs gt go R v os k -> ∃ vs R', (f vs).Runs gt go R' v os k /\ vs.length = parts.length /\ ∀ {β own S a w}, zah C gt go β own S a w →
  ∀ i (h : i < vs.length) (h' : i < parts.length), (parts[i]).1 = (vs[i]).1 /\ rel β w S (vs[i]).2.2 (a.eval (parts[i]).2)
  | [], f, R, v, os, k, h => ⟨[], _, h, rfl, fun _ i hi => by simp at hi⟩
  | (i, x) :: parts, f, R, v, os, k, h => by
    simp only [List.map, Ps.rd] at h
    replace h := zaq h
    obtain ⟨s, R1, h, hs⟩ := h
    obtain ⟨vs, R2, h3, h4, h5⟩ := zom h
    refine ⟨(i, 0, s) :: vs, R2, h3, by simp [h4], fun H j hj hj' => ?_⟩
    cases j with
    | zero => exact ⟨rfl, hs H⟩
    | succ j => simpa using h5 H j (by simpa using hj) (by simpa using hj')
theorem zz9 {t : TypeId} {parts : Array (Nat × Operand)} {s ln : Nat} {z : Value} (ho : o.op = .buildSlice t ln parts) (hb : zBg C.P t s ln z)
 (h : (MO.rt C.toEnv fresh (.bsl s ln (z.cells.toList.map cV1) (parts.toList.map fun p => (p.1, cX p.2)))).Runs gt go R v os k) (hd : zau C o.dst v) : zaD C o fresh gt go v os k := by
  simp only [MO.rt] at h
  obtain ⟨vs, R1, h1, h2, h3⟩ := zom h
  obtain ⟨e, i, b1, b2, b3, b4, b5, b6, b7⟩ := hb
  split at h1
  . rename_i L hL
    cases h1
    refine zfj (by simp [ho]) hd fun {β own S a w} H => ?_
    have hrows := zl2 (β := β) (w := w) (S := S) s (z.cells.toList.map cV1) z.cells.toList (zei _) (by simpa using b7) b4 ln
    have hlenrows : ∀ n, (zgf (z.cells.toList.map cV1) n).length = n := fun n => by induction n <;> simp_all [zgf]
    obtain ⟨cells', h4, h5, h6, h7⟩ := zir (vs := parts.toList.map fun p => (p.1, a.eval p.2)) (cells := (Array.range (ln * s)).map (fun i => z.cells[i % z.cells.size]!)) b4 hL
     (by
      have : ((Array.range (ln * s)).map (fun i => z.cells[i % z.cells.size]!)).toList = (List.range (ln * s)).map fun i => z.cells.toList[i % s]! := by
       simp [b7]
       intro j _
       simp [getElem!_def]
       cases z.cells[j % s]? <;> rfl
      rw [this]; exact hrows) (N := ln * s) (by simp) (by rw [hlenrows]) (by simp [h2]) (fun j hj hj' => by
      have := h3 H j hj (by simpa using hj')
      simpa using this)
    have h8 : (execOp a.eval o).run C.P w = .ok (.value (.slice (some ⟨w.heap.size, 0, none⟩) ln ln)) { w with heap := w.heap.push (.cells cells' e) } := by
     have hz : (zeroValue e).run C.P w = .ok z w := by simp [zeroValue, typeInfo, b2, b6]
     have hfin : (Instr.buildSlice t ln (parts.map fun p => (p.1, a.eval p.2))).run C.P w = .ok (.slice (some ⟨w.heap.size, 0, none⟩) ln ln) { w with heap := w.heap.push (.cells cells' e) } := by
      have hs : (sizeOf e).run C.P w = .ok s w := by simp [sizeOf, typeInfo, b2, b3]
      unfold Instr.buildSlice
      simp only [Sem.run_bind, run_underlying b1, Result.andThen_ok, hs]
      rw [if_neg (by omega)]
      by_cases hc : ln * s = 0
      . rw [if_pos hc]
        have e0 : (Array.map (fun x => (#[] : Array Value)[x % (#[] : Array Value).size]!) (Array.range (ln * s))) = (Array.range (ln * s)).map (fun i => z.cells[i % z.cells.size]!) := by rw [hc]; simp
        simp only [Sem.run_bind, Sem.run_pure, Result.andThen_ok, Array.toList_map, e0]
        rw [h4]
        simp [newRow, newObj, Sem.run]
      . rw [if_neg hc]
        simp only [Sem.run_bind, hz, Sem.run_pure, Result.andThen_ok, Array.toList_map]
        rw [h4]
        simp [newRow, newObj, Sem.run]
     simp only [execOp, ho, Sem.run_bind, Sem.run_pure]
     have e1 : (parts.map fun x => (x.1, a.eval x.2)) = (parts.map fun p => (p.1, a.eval p.2)) := rfl
     first | rw [hfin] | (erw [hfin])
     rfl
    have h9 : L.length = ln := Nat.eq_of_mul_eq_mul_right b4 h7
    refine ⟨_, _, _, ⟨some w.heap.size, s, ln⟩, h8, rfl, rfl, rfl, rfl, fun ex => ⟨?_, ?_⟩⟩
    . exact .inr ⟨w.heap.size, cells', e, rfl, rfl, rfl, by simp, h6, by simp [h9], zgd ex _ _ _ h5⟩
    . simp only [rel, zad]
      exact ⟨_, rfl, 0, ln, rfl, Nat.le_refl _, by simp, .inr (by simp)⟩
  . cases h1
end
end Go.Sx
namespace Go.Sx
open Go
section
variable {C : Ctx} {gt : GT} {go : GO} {o : Oper} {fresh : Nat} {R : List Loc} {v : Option SV} {os : List (Nat × Option SO)} {k : Nat}
theorem zkq {P : Program} {w : World} {len cap : Nat} {lo hi : Option Value} {l h : Int} (hl : lo = none /\ l = 0 \/ ∃ k, lo = some (.int k l)) (hh : hi = none /\ h = len \/ ∃ k, hi = some (.int k h))
 (h0 : 0 <= l) (h1 : l <= h) (h2 : h <= len) (h3 : len <= cap) : (Instr.sliceBounds true len cap lo hi none).run P w = .ok (l.toNat, h.toNat, cap) w := by
  have hhi : 0 <= h /\ h <= (cap : Int) := by omega
  unfold Instr.sliceBounds
  have b1 : ∀ (k : IntKind) (x : Int) (y : Nat) (c : BoundsCode), 0 <= x -> x <= y -> (Instr.sliceBound (.int k x) y c).run P w = .ok x.toNat w := by
   intro k x y c hx hy
   simp [Instr.sliceBound, asIntOf, hx, hy]
  rcases hh with ⟨rfl, rfl⟩ | ⟨k2, rfl⟩
  . rcases hl with ⟨rfl, rfl⟩ | ⟨k1, rfl⟩
    . simp
    . simp [b1 k1 l len .sliceB h0 (by omega)]
  . rcases hl with ⟨rfl, rfl⟩ | ⟨k1, rfl⟩
    . simp [b1 k2 h cap .sliceAcap hhi.1 hhi.2]
    . simp [b1 k2 h cap .sliceAcap hhi.1 hhi.2, b1 k1 l h.toNat .sliceB h0 (by omega)]
theorem zeO {w S} : ∀ (s : Nat) (L : List (List PV)) (vs : List Value) (n : Nat), zat w S s L vs -> zat w S s (L.drop n) (vs.drop (n * s))
 | s, L, vs, 0, h => by simpa using h
 | s, [], vs, n + 1, _ => by simp [zat]
 | s, e :: L, vs, n + 1, h => by
   simp only [zat] at h
   have := zeO s L _ n h.2.2
   rw [List.drop_drop] at this
   rw [show (n + 1) * s = s + n * s by rw [Nat.add_mul]; omega]
   simpa using this
theorem zeP {w S} : ∀ (s : Nat) (L : List (List PV)) (vs : List Value) (n : Nat), zat w S s L vs -> zat w S s (L.take n) vs
 | s, L, vs, 0, h => by simp [zat]
 | s, [], vs, n + 1, _ => by simp [zat]
 | s, e :: L, vs, n + 1, h => by
   simp only [zat, List.take_succ_cons] at h ⊢
   exact ⟨h.1, h.2.1, zeP s L _ n h.2.2⟩
def oX : Option Operand -> Option X
 | none => none
 | some x => some (cX x)
theorem zox {lo : Option Operand} {f : Option SV -> RT} {R v os k}
 (h : ((match oX lo with | none => fun (f : Option SV -> RT) => f none | some lo => fun f => lo.rd C.toEnv fun l => f (some l)) f : RT).Runs gt go R v os k) :
 ∃ s R', (f s).Runs gt go R' v os k /\ ∀ {β own S a w}, zah C gt go β own S a w -> (lo = none /\ s = none \/ ∃ x s', lo = some x /\ s = some s' /\ rel β w S s' (a.eval x)) := by
  cases lo with
  | none => exact ⟨none, _, h, fun _ => .inl ⟨rfl, rfl⟩⟩
  | some x =>
    simp only [oX] at h
    obtain ⟨s, R1, h, hs⟩ := zaq h
    exact ⟨some s, R1, h, fun H => .inr ⟨x, s, rfl, rfl, hs H⟩⟩
theorem zex {x : Option SV} {d : Int} {f : Int -> RT} {R v os k} (h : (zcx x d f).Runs gt go R v os k) : ∃ n, (f n).Runs gt go R v os k /\ (x = none /\ n = d \/ ∃ k, x = some (.int k n)) := by
 unfold zcx at h
 split at h
 . exact ⟨d, h, .inl ⟨rfl, rfl⟩⟩
 . rename_i k n
   exact ⟨n, h, .inr ⟨k, rfl⟩⟩
 . cases h
theorem zw0 {t : TypeId} {s : Nat} {x : Operand} {lo hi : Option Operand} (ho : o.op = .slice t x lo hi none) (hi' : zma C.P t s) (h : (MO.rt C.toEnv fresh (.sls s (cX x) (oX lo) (oX hi))).Runs gt go R v os k) (hd : zau C o.dst v) : zaD C o fresh gt go v os k := by
 simp only [MO.rt] at h
 replace h := zaq h
 obtain ⟨sx, R1, h, hx⟩ := h
 replace h := zox h
 obtain ⟨slo, R2, h, hlo⟩ := h
 replace h := zox h
 obtain ⟨shi, R3, h, hhi⟩ := h
 obtain ⟨e, ie, hu, hie, hsz⟩ := hi'
 have run : ∀ {a : Act} {w : World} {β own S} (H : zah C gt go β own S a w) {ad : Option Addr} {len cap : Nat} {l h : Int}, a.eval x = .slice ad len cap -> (slo = none /\ l = 0 \/ ∃ k, slo = some (.int k l)) -> (shi = none /\ h = (len : Int) \/ ∃ k, shi = some (.int k h)) →
  0 <= l -> l <= h -> h <= len -> len <= cap -> (execOp a.eval o).run C.P w = .ok (.value (.slice (if cap = l.toNat then ad else ad.map (·.add (l.toNat * s))) (h.toNat - l.toNat) (cap - l.toNat))) w := by
   intro a w β own S H ad len cap l h hx1 h1 h2 h3 h4 h5 h6
   have q1 : (lo.map a.eval = none /\ l = 0) \/ ∃ k, lo.map a.eval = some (.int k l) := by
    rcases hlo H with ⟨rfl, rfl⟩ | ⟨y, s', rfl, rfl, hr⟩
    . rcases h1 with ⟨_, h1⟩ | ⟨k, h1⟩
      . exact .inl ⟨rfl, h1⟩
      . cases h1
    . rcases h1 with ⟨h1, _⟩ | ⟨k, h1⟩
      . cases h1
      . cases h1; simp only [rel] at hr; exact .inr ⟨k, by simp [hr]⟩
   have q2 : (hi.map a.eval = none /\ h = (len : Int)) \/ ∃ k, hi.map a.eval = some (.int k h) := by
    rcases hhi H with ⟨rfl, rfl⟩ | ⟨y, s', rfl, rfl, hr⟩
    . rcases h2 with ⟨_, h2⟩ | ⟨k, h2⟩
      . exact .inl ⟨rfl, h2⟩
      . cases h2
    . rcases h2 with ⟨h2, _⟩ | ⟨k, h2⟩
      . cases h2
      . cases h2; simp only [rel] at hr; exact .inr ⟨k, by simp [hr]⟩
   have hb := zkq (P := C.P) (w := w) q1 q2 h3 h4 h5 h6
   have hs : (sizeOf e).run C.P w = .ok s w := by simp [sizeOf, typeInfo, hie, hsz]
   have : (Instr.sliceAt t (a.eval x) (lo.map a.eval) (hi.map a.eval) none).run C.P w = .ok (.slice (if cap = l.toNat then ad else ad.map (·.add (l.toNat * s))) (h.toNat - l.toNat) (cap - l.toNat)) w := by
    unfold Instr.sliceAt
    simp only [Sem.run_bind, run_underlying hu, Result.andThen_ok]
    unfold Instr.slice
    simp only [Sem.run_bind, run_underlying hu, Result.andThen_ok, hx1, hb, hs, Sem.run_pure]
   simp only [execOp, ho, Option.map_none]
   simp [this]
 unfold zub at h
 split at h
 . rename_i id b0 ln
   cases h with
   | rO h =>
     dsimp only at h
     have fin : ∀ {R v os k} (hstr : ∀ {β own S a w}, zah C gt go β own S a w -> ∀ B, β id = some B -> B.blk.isSome -> B.str = s), (zcx slo 0 fun l => zcx shi ln fun h => .req (0 <= l /\ l <= h /\ h <= ln) (zaC (.slc id (b0 + l.toNat) (h.toNat - l.toNat)))).Runs gt go R v os k -> zau C o.dst v -> zaD C o fresh gt go v os k := by
      intro R v os k hstr h hd
      obtain ⟨l, h, hl⟩ := zex h
      obtain ⟨hh, h, hhh⟩ := zex h
      cases h with
      | req hp h =>
        obtain ⟨rfl, rfl, rfl⟩ := zas h
        refine zaK (by simp [ho]) hd fun {β own S a w} H => ?_
        have h1 := hx H
        simp only [rel] at h1
        obtain ⟨B, hB, h1⟩ := h1
        have h1' := h1
        unfold zba at h1
        split at h1
        . rename_i hb
          obtain ⟨e1, rfl, rfl⟩ := h1
          have : l = 0 /\ hh = 0 := by omega
          obtain ⟨rfl, rfl⟩ := this
          refine ⟨_, run H e1 hl hhh (by omega) (by omega) (by omega) (by omega), ?_⟩
          simp only [rel]
          exact ⟨B, hB, by simp [zba, hb]⟩
        . rename_i b hb
          obtain ⟨off, cap, e1, hc1, hc2, hc3⟩ := h1
          refine ⟨_, run H e1 hl hhh hp.1 hp.2.1 hp.2.2 hc1, ?_⟩
          simp only [rel]
          refine ⟨B, hB, ?_⟩
          simp only [zba, hb]
          have hB2 := hstr H B hB (by simp [hb])
          by_cases hcl : cap = l.toNat
          . rw [if_pos hcl]
            exact ⟨off, _, rfl, by omega, by omega, .inl (by omega)⟩
          . rw [if_neg hcl]
            rcases hc3 with hc3 | hc3
            . omega
            . refine ⟨off + l.toNat * s, cap - l.toNat, by simp [Addr.add_mid], by omega, by omega, .inr ?_⟩
              rw [hc3, hB2, Nat.add_mul]
     split at h
     . rename_i s' L hgo
       simp only [eqN] at h
       split at h
       . rename_i hs
         have hs := Nat.eq_of_beq_eq_true hs
         exact fin (fun {β own S a w} H B hB hb => by
          obtain ⟨B', h4, h5⟩ := H.mem.obj _ _ hgo
          rw [hB] at h4; cases h4
          rcases h5 with ⟨h5, _⟩ | ⟨b', arr, T, h5, h6, _⟩
          . rw [h5] at hb; cases hb
          . rw [h6, hs]) h hd
       . cases h
     . rename_i s' L hgo
       simp only [eqN] at h
       split at h
       . rename_i hs
         have hs := Nat.eq_of_beq_eq_true hs
         exact fin (fun {β own S a w} H B hB hb => by
          obtain ⟨B', h4, h5⟩ := H.mem.obj _ _ hgo
          rw [hB] at h4; cases h4
          rcases h5 with ⟨h5, _⟩ | ⟨b', arr, T, h5, h6, _⟩
          . rw [h5] at hb; cases hb
          . rw [h6, hs]) h hd
       . cases h
     . cases h
 . rename_i s' L
   replace h := zex h
   obtain ⟨l, h, hl⟩ := h
   replace h := zex h
   obtain ⟨hh, h, hhh⟩ := h
   cases h with
   | req hp h' =>
     obtain ⟨rfl, hp1, hp2, hp3⟩ := hp
     replace h := h'
     obtain ⟨rfl, rfl, rfl⟩ := zas h
     refine zaK (by simp [ho]) hd fun {β own S a w} H => ?_
     have h1 := hx H
     simp only [rel, zaY] at h1
     obtain ⟨ad, cap, e1, hcap, hne, hz⟩ := h1
     refine ⟨_, run H e1 hl hhh hp1 hp2 hp3 hcap, ?_⟩
     simp only [rel, zaY]
     have hlen : ((L.drop l.toNat).take (hh.toNat - l.toNat)).length = hh.toNat - l.toNat := by simp; omega
     rw [hlen]
     refine ⟨_, _, rfl, by omega, fun hne2 => ?_, fun e => ?_⟩
     rotate_left
     . split at e
       . omega
       . have := hz (by cases ad with | none => rfl | some _ => simp at e)
         omega
     have hL : L ≠ [] := by intro e; subst e; simp at hne2
     obtain ⟨b, off, arr, T, fz, rfl, hS, hw, hr⟩ := hne hL
     have hlt : l.toNat < hh.toNat := by
      have : (hh.toNat - l.toNat) ≠ 0 := fun e => hne2 (List.length_eq_zero_iff.1 (hlen.trans e))
      omega
     have hcl : ¬ cap = l.toNat := by omega
     rw [if_neg hcl]
     refine ⟨b, off + l.toNat * s, arr, T, fz, by simp [Addr.add_mid], hS, hw, ?_⟩
     rw [<- List.drop_drop]
     exact zeP _ _ _ _ (zeO _ _ _ _ hr)
 . rename_i v'
   replace h := zex h
   obtain ⟨l, h, hl⟩ := h
   replace h := zex h
   obtain ⟨hh, h, hhh⟩ := h
   cases h with
   | req hp h' =>
     obtain ⟨rfl, rfl, rfl⟩ := hp
     obtain ⟨rfl, rfl, rfl⟩ := zas h'
     refine zaK (by simp [ho]) hd fun {β own S a w} H => ?_
     have h1 := hx H
     simp only [rel] at h1
     refine ⟨_, run H h1 hl hhh (by omega) (by omega) (by omega) (by omega), ?_⟩
     simp [rel]
 . cases h
end
end Go.Sx
namespace Go.Sx
open Go
theorem zq7 {w S} {p : PV} {v : Value} (h : zaY w S p v) : v.oneCell' = true := by
 cases p <;> simp only [zaY] at h
 case int => subst h; rfl
 case bool => subst h; rfl
 case str => subst h; rfl
 case val => exact h.1 ▸ h.2
 case sl => obtain ⟨a, cap, rfl, _⟩ := h; rfl
 case pt => obtain ⟨b, off, arr, T, fz, rfl, _⟩ := h; rfl
theorem zlU {w S} : ∀ (ps : List PV) (vs : List Value), zaG w S ps vs -> ∀ v ∈ vs.take ps.length, v.oneCell' = true
 | [], vs, _ => by simp
 | p :: ps, vs, h => by
   simp only [zaG] at h
   obtain ⟨v, r, rfl, h1, h2⟩ := h
   intro x hx
   simp at hx
   rcases hx with rfl | hx
   . exact zq7 h1
   . exact zlU ps r h2 x hx
theorem zfb {w S} : ∀ (s : Nat) (L : List (List PV)) (vs : List Value), zat w S s L vs -> (∀ v ∈ vs.take (L.length * s), v.oneCell' = true) /\ L.length * s <= vs.length
 | s, [], vs, _ => by simp
 | s, e :: L, vs, h => by
   simp only [zat] at h
   obtain ⟨h1, h2, h3⟩ := h
   obtain ⟨h4, h5⟩ := zfb s L _ h3
   have h6 := zey _ _ h2
   simp at h5
   have e1 : (e :: L).length * s = s + L.length * s := by simp [Nat.add_mul]; omega
   refine ⟨fun v hv => ?_, by rw [e1]; omega⟩
   rw [e1, List.take_add] at hv
   rcases List.mem_append.1 hv with hv | hv
   . rw [<- h1] at hv; exact zlU e vs h2 v hv
   . exact h4 v hv
theorem znA {β w S} : ∀ (s : Nat) (L : List (List SV)) (vs : List Value), zl7 L = true -> zaZ β w S s L vs -> (∀ v ∈ vs.take (L.length * s), v.oneCell' = true) /\ L.length * s <= vs.length
 | s, [], vs, _, _ => by simp
 | s, e :: L, vs, ho, h => by
   simp only [zaZ] at h
   simp only [zl7] at ho
   split at ho
   . rename_i ho1
     obtain ⟨h1, h2, h3⟩ := h
     obtain ⟨h4, h5⟩ := znA s L _ ho h3
     have h6 := zaM _ _ h2
     simp at h5 h6
     have e1 : (e :: L).length * s = s + L.length * s := by simp [Nat.add_mul]; omega
     refine ⟨fun v hv => ?_, by rw [e1]; omega⟩
     rw [e1, List.take_add] at hv
     rcases List.mem_append.1 hv with hv | hv
     . exact zjT ho1 h2 v hv
     . exact h4 v hv
   . cases ho
theorem zdk {w S} (s : Nat) : ∀ (L : List (List PV)) (vs vs' : List Value), zat w S s L vs -> vs.take (L.length * s) = vs'.take (L.length * s) -> zat w S s L vs'
 | [], _, _, _, _ => by simp [zat]
 | e :: L, vs, vs', h, ht => by
   simp only [zat] at h ⊢
   obtain ⟨h1, h2, h3⟩ := h
   have e1 : (e :: L).length * s = s + L.length * s := by simp [Nat.add_mul]; omega
   rw [e1, List.take_add, List.take_add] at ht
   have h6 := zey _ _ h2
   obtain ⟨_, h7⟩ := zfb s L _ h3
   have hl : (vs.take s).length = s := by simp; omega
   have hl' : (vs'.take s).length = s := by
    have := congrArg List.length ht
    simp at this h7
    simp
    by_cases hs : s <= vs'.length
    . omega
    . omega
   obtain ⟨t1, t2⟩ := List.append_inj ht (by rw [hl, hl'])
   exact ⟨h1, zd5 _ _ _ h2 (by rw [h1]; exact t1), zdk s L _ _ h3 t2⟩
theorem ziI {w S} (s : Nat) : ∀ (L : List (List PV)) (vs : List Value) (M : List (List PV)) (us : List Value), zat w S s L vs -> vs.length = L.length * s -> zat w S s M us -> zat w S s (L ++ M) (vs ++ us)
 | [], vs, M, us, _, hl, h => by
   have : vs = [] := by simpa using hl
   subst this; simpa using h
 | e :: L, vs, M, us, h, hl, h' => by
   simp only [zat, List.cons_append] at h ⊢
   obtain ⟨h1, h2, h3⟩ := h
   have e1 : (e :: L).length * s = s + L.length * s := by simp [Nat.add_mul]; omega
   have h6 := zey _ _ h2
   have hs : s <= vs.length := by omega
   refine ⟨h1, zd5 _ _ _ h2 (by rw [List.take_append_of_le_length (by omega)]), ?_⟩
   rw [List.drop_append_of_le_length hs]
   exact ziI s L _ M us h3 (by simp; omega) h'
theorem znb {β w S} (s : Nat) : ∀ (L : List (List SV)) (vs : List Value) (M : List (List SV)) (us : List Value), zaZ β w S s L vs -> vs.length = L.length * s -> zaZ β w S s M us -> zaZ β w S s (L ++ M) (vs ++ us)
 | [], vs, M, us, _, hl, h => by
   have : vs = [] := by simpa using hl
   subst this; simpa using h
 | e :: L, vs, M, us, h, hl, h' => by
   simp only [zaZ, List.cons_append] at h ⊢
   obtain ⟨h1, h2, h3⟩ := h
   have e1 : (e :: L).length * s = s + L.length * s := by simp [Nat.add_mul]; omega
   have hs : s <= vs.length := by omega
   refine ⟨h1, by rw [List.take_append_of_le_length hs]; exact h2, ?_⟩
   rw [List.drop_append_of_le_length hs]
   exact znb s L _ M us h3 (by simp; omega) h'
theorem zf3 {β w S} (s : Nat) : ∀ {M : List (List SV)} {M' : List (List PV)}, zfr M = some M' -> ∀ {us : List Value}, zaZ β w S s M us -> zat w S s M' us /\ M'.length = M.length
 | [], M', h, us, _ => by simp [zfr] at h; subst h; simp [zat]
 | e :: M, M', h, us, hr => by
   simp only [zfr] at h
   split at h
   . cases h
   . rename_i p hp
     split at h
     . cases h
     . rename_i r hM
       simp only [Option.some.injEq] at h
       subst h
       simp only [zaZ] at hr
       obtain ⟨h1, h2, h3⟩ := hr
       obtain ⟨h4, h5⟩ := ziZ hp h2
       obtain ⟨h6, h7⟩ := zf3 s hM h3
       have h8 := zaM _ _ h2
       simp only [zat]
       refine ⟨⟨by omega, zd5 _ _ _ h4 ?_, h6⟩, by simp [h7]⟩
       rw [List.take_take, h5, h1, Nat.min_self]
def zbP (β : Nat -> Option zaz) (w : World) (S : Nat -> Prop) (s : Nat) : zai -> List Value -> Prop
 | .inl L, vs => zaZ β w S s L vs
 | .inr L, vs => zat w S s L vs
theorem zdM {β w S β' w' S'} (x : Ext β w S β' w' S') {s : Nat} {r : zai} {vs : List Value} (h : zbP β w S s r vs) : zbP β' w' S' s r vs := by
 cases r with
 | inl L => exact zgd x s L vs h
 | inr L => exact zbo x.st x.heap s L vs h
theorem zjN {β w S} : ∀ (s : Nat) (L : List (List SV)) (vs : List Value), zaZ β w S s L vs -> L.length * s <= vs.length
 | s, [], vs, _ => by simp
 | s, e :: L, vs, h => by
   simp only [zaZ] at h
   obtain ⟨h1, h2, h3⟩ := h
   have h5 := zjN s L _ h3
   have h6 := zaM _ _ h2
   simp at h5 h6
   have e1 : (e :: L).length * s = s + L.length * s := by simp [Nat.add_mul]; omega
   rw [e1]; omega
theorem zsa {β w S} {s : Nat} {r : zai} {vs : List Value} (h : zbP β w S s r vs) : r.len * s <= vs.length := by
 cases r with
 | inl L => exact zjN s L vs h
 | inr L => exact (zfb s L vs h).2
theorem zfG {β w S} (s : Nat) : ∀ (L : List (List SV)) (vs vs' : List Value), zaZ β w S s L vs -> vs.take (L.length * s) = vs'.take (L.length * s) -> zaZ β w S s L vs'
 | [], _, _, _, _ => by simp [zaZ]
 | e :: L, vs, vs', h, ht => by
   have h7 := zjN s (e :: L) vs h
   simp only [zaZ] at h ⊢
   obtain ⟨h1, h2, h3⟩ := h
   have e1 : (e :: L).length * s = s + L.length * s := by simp [Nat.add_mul]; omega
   rw [e1] at h7
   rw [e1, List.take_add, List.take_add] at ht
   have hl : (vs.take s).length = s := by simp; omega
   have hl' : (vs'.take s).length = s := by
    have := congrArg List.length ht
    simp at this
    simp
    by_cases hs : s <= vs'.length
    . omega
    . omega
   obtain ⟨t1, t2⟩ := List.append_inj ht (by rw [hl, hl'])
   exact ⟨h1, t1 ▸ h2, zfG s L _ _ h3 t2⟩
theorem zlB {β w S} {s : Nat} {r : zai} {vs : List Value} (h : zbP β w S s r vs) : zbP β w S s r (vs.take (r.len * s)) := by
 cases r with
 | inl L => exact zfG s L vs _ h (by simp [zai.len, List.take_take])
 | inr L => exact zdk s L vs _ h (by simp [zai.len, List.take_take])
theorem zfW {β w S} {s : Nat} {r : zai} {vs us : List Value} (h : zbP β w S s r vs) (hl : vs.length = r.len * s) : zbP β w S s r (vs ++ us) := by
 cases r with
 | inl L => exact zfG s L vs _ h (by simp [zai.len] at hl; rw [List.take_append_of_le_length (by omega)])
 | inr L => exact zdk s L vs _ h (by simp [zai.len] at hl; rw [List.take_append_of_le_length (by omega)])
theorem zdJ {β w S} {s : Nat} {o n r : zai} (h : zcU o n = some r) {vs us : List Value} (ho : zbP β w S s o vs) (hl : vs.length = o.len * s) (hn : zbP β w S s n us) : zbP β w S s r (vs ++ us) /\ r.len = o.len + n.len := by
 cases o with
 | inl L =>
   cases n with
   | inl M => simp only [zcU, Option.some.injEq] at h; subst h; exact ⟨znb s L vs M us ho hl hn, by simp [zai.len]⟩
   | inr M =>
     cases L with
     | nil =>
       simp only [zcU, Option.some.injEq] at h; subst h
       have hv : vs = [] := List.eq_nil_of_length_eq_zero (by rw [hl]; simp [zai.len])
       subst hv
       exact ⟨hn, by simp [zai.len]⟩
     | cons a L => simp [zcU] at h
 | inr L =>
   cases n with
   | inr M => simp only [zcU, Option.some.injEq] at h; subst h; exact ⟨ziI s L vs M us ho hl hn, by simp [zai.len]⟩
   | inl M =>
     simp only [zcU] at h
     split at h
     . rename_i M' hM
       simp only [Option.some.injEq] at h
       subst h
       obtain ⟨h1, h2⟩ := zf3 s hM hn
       exact ⟨ziI s L vs _ us ho hl h1, by simp [zai.len, h2]⟩
     . split at h
       . simp only [Option.some.injEq] at h
         subst h
         have : vs = [] := by simpa [zai.len] using hl
         subst this
         exact ⟨hn, by simp [zai.len]⟩
       . cases h
theorem zeZ {β w S} {s : Nat} {r : zai} {B : zaz} {F : Nat -> Prop} {b : Nat} {arr : Array Value} {T : TypeId} (h1 : B.blk = some b) (h2 : B.str = s) (h3 : F = zcv b) (h4 : w.heap[b]? = some (.cells arr T (0, 0)))
 (h5 : arr.size = B.cap * s) (h6 : r.len <= B.cap) (h7 : zbP β w S s r arr.toList) : za5 β w S B F (r.so s) := by
  cases r with
  | inl L => exact .inr ⟨b, arr, T, h1, h2, h3, h4, h5, h6, h7⟩
  | inr L => exact .inr ⟨b, arr, T, h1, h2, h3, h4, h5, h6, h7⟩
theorem zm8 {β w S} {s : Nat} {r : zai} (hr : r.len = 0) : za5 β w S ⟨none, s, 0⟩ (fun _ => False) (r.so s) := by
 cases r with
 | inl L => exact .inl ⟨rfl, List.length_eq_zero_iff.1 hr, rfl, rfl, rfl⟩
 | inr L => exact .inl ⟨rfl, List.length_eq_zero_iff.1 hr, rfl, rfl, rfl⟩
theorem znC {β w S} {s : Nat} {r : zai} {B : zaz} {F : Nat -> Prop} (h : za5 β w S B F (r.so s)) :
 (B.blk = none /\ r.len = 0 /\ B.cap = 0 /\ B.str = s /\ F = fun _ => False) ∨
  ∃ b arr T, B.blk = some b /\ B.str = s /\ F = zcv b /\ w.heap[b]? = some (.cells arr T (0, 0)) /\ arr.size = B.cap * s /\ r.len <= B.cap /\ zbP β w S s r arr.toList := by
  cases r with
  | inl L =>
    rcases h with ⟨h1, rfl, h3⟩ | h
    . exact .inl ⟨h1, rfl, h3⟩
    . exact .inr h
  | inr L =>
    rcases h with ⟨h1, rfl, h3⟩ | h
    . exact .inl ⟨h1, rfl, h3⟩
    . exact .inr h
open Builtin in
theorem zlo (n : Nat) : ∀ (r c : Nat), growBy n r c <= max c (n + (n + 768) / 4)
 | 0, c => by simp [growBy]; omega
 | r + 1, c => by
   simp only [growBy]
   split
   . omega
   . have := zlo n r (c + (c + 768) / 4)
     omega
open Builtin in
theorem zgp {n c : Nat} (h : c < n) : nextslicecap n c <= 2 * n + 192 := by
 unfold nextslicecap
 split
 . omega
 . split
   . omega
   . have := zlo n 4 c
     omega
structure zhD (P : Program) (sT xT : TypeId) (s by_ : Nat) : Prop where
 ok : ∃ e i z d, P.underlying sT = some (.slice e) /\ P.info? e = some i /\ i.size = s /\ i.bytes = by_ /\ i.zero = some z /\ z.cells.size = s /\ 0 < s /\ 0 < by_ /\ by_ <= 2 ^ 20 ∧
  P.underlying xT = some d /\ ∀ k, d ≠ .int k
section
variable {P : Program} {w : World} {sT xT ty : TypeId} {s by_ : Nat}
open Builtin
theorem zfn (ha : zhD P sT xT s by_) {base : Option Addr} {len cap n : Nat} {x : Value} {M : Array Value}
 (h1 : (lenOf x).run P w = .ok n w) (h2 : (firstCells s n x).run P w = .ok M w) (hle : len + n <= cap) {w' : World}
 (h3 : (match base with | some a => storeCells (a.add (len * s)) M.toList | none => pure ()).run P w = .ok () w') :
 (append_ #[sT, xT] ty #[.slice base len cap, x]).run P w = .ok (.slice base (len + n) cap) w' := by
  obtain ⟨e, i, z, d, a1, a2, a3, a4, a5, a6, a7, a8, a9, a10, a11⟩ := ha.ok
  have hs : (sizeOf e).run P w = .ok s w := by simp [sizeOf, typeInfo, a2, a3]
  unfold append_
  cases d <;> first | (exact absurd rfl (a11 _)) | skip
  all_goals
   simp only [List.getElem?_toArray, List.getElem?_cons_zero, List.getElem?_cons_succ, Sem.run_bind, run_underlying a1, run_underlying a10, Result.andThen_ok, hs, Sem.run_pure, h1, Bool.false_eq_true, if_false, Bool.not_false, if_true, hle, h2]
   cases base with
   | none => simp only [Sem.run_pure, Result.ok.injEq, true_and] at h3; subst h3; simp only [Sem.run_pure]
   | some a => simp only at h3; simp only [Sem.run_bind, h3, Result.andThen_ok, Sem.run_pure]
theorem zcR (ha : zhD P sT xT s by_) {base : Option Addr} {len cap n : Nat} {x : Value} {M O : Array Value}
 (h1 : (lenOf x).run P w = .ok n w) (hgt : cap < len + n) (hb : (len + n) * by_ <= 2 ^ 46)
 (h2 : ∀ w' : World, w'.heap = w.heap -> (firstCells s n x).run P w' = .ok M w') (h3 : ∀ w' : World, w'.heap = w.heap -> (firstCells s len (.slice base len cap)).run P w' = .ok O w') :
 ∃ c T w' Z, len + n <= c /\ (append_ #[sT, xT] ty #[.slice base len cap, x]).run P w = .ok (.slice (some ⟨w.heap.size, 0, none⟩) (len + n) c) w' ∧
  w'.heap = w.heap.push (.cells (O ++ M ++ Z) T) /\ w'.os = w.os /\ w'.tape = w.tape /\ w'.output = w.output /\ Z.size = (c - (len + n)) * s := by
  obtain ⟨e, i, z, d, a1, a2, a3, a4, a5, a6, a7, a8, a9, a10, a11⟩ := ha.ok
  have hs : (sizeOf e).run P w = .ok s w := by simp [sizeOf, typeInfo, a2, a3]
  have hti : ∀ w, (typeInfo e).run P w = .ok i w := fun w => by simp [typeInfo, a2]
  have hz : ∀ w, (zeroValue e).run P w = .ok z w := fun w => by simp [zeroValue, typeInfo, a2, a5]
  have hcap : ¬ nextslicecap (len + n) cap * i.bytes > 2 ^ 48 := by
   have h4 := zgp hgt
   have h5 : nextslicecap (len + n) cap * by_ <= (2 * (len + n) + 192) * by_ := Nat.mul_le_mul_right _ h4
   rw [a4]
   have h6 : (2 * (len + n) + 192) * by_ = 2 * ((len + n) * by_) + 192 * by_ := by rw [Nat.add_mul, Nat.mul_assoc]
   omega
  let q : Question := .appendCap (len + n) cap e
  let c := q.cut (w.tape w.drawn q)
  let w1 : World := { w with drawn := w.drawn + 1 }
  have hc : len + n <= c := Nat.le_add_right _ _
  have hch : (choose q).run P w = .ok c w1 := by simp [choose, Sem.run, q, Question.forced, c, w1]
  refine ⟨c, e, { w1 with heap := w.heap.push (.cells (O ++ M ++ zeroCells z.cells (c - (len + n))) e) }, zeroCells z.cells (c - (len + n)), hc, ?_, rfl, rfl, rfl, rfl, by simp [zeroCells, a6]⟩
  have hroom : ∀ m, (askRoom m).run P w1 = .ok () w1 := fun m => by unfold askRoom; split <;> simp [mark, Sem.run]
  have h7 := h2 w1 rfl
  have h8 := h3 w1 rfl
  have hnle : ¬ len + n <= cap := by omega
  have hb0 : ¬ i.bytes = 0 := by omega
  have hrun : (append_ #[sT, xT] ty #[.slice base len cap, x]).run P w = ((newRow e (O ++ M ++ zeroCells z.cells (c - (len + n)))).run P w1).andThen fun a w => .ok (.slice (some a) (len + n) c) w := by
   unfold append_
   cases d <;> first | (exact absurd rfl (a11 _)) | skip
   all_goals
    simp only [List.getElem?_toArray, List.getElem?_cons_zero, List.getElem?_cons_succ, Sem.run_bind, run_underlying a1, run_underlying a10, Result.andThen_ok, hs, Sem.run_pure, h1, Bool.false_eq_true, if_false, Bool.not_false, if_true, hnle, hti, hb0, or_false, and_false, hcap]
    rw [show Question.appendCap (len + n) cap e = q from rfl]
    simp only [hch, Result.andThen_ok, hroom, h8, h7, hz]
  rw [hrun]
  simp [newRow, newObj, Sem.run, w1]
  exact ⟨rfl, rfl, rfl⟩
end
end Go.Sx
namespace Go.Sx
open Go
theorem zaw.nil {β own S go w} (h : zaw β own S go w) {id : Nat} (hβ : β id = none) {s : Nat} {r : zai} (hr : r.len = 0) :
 zaw (upd β id (some ⟨none, s, 0⟩)) (upd own id (fun _ => False)) S (upd go id (some (r.so s))) w /\ Ext β w S (upd β id (some ⟨none, s, 0⟩)) w S := by
  have x : Ext β w S (upd β id (some ⟨none, s, 0⟩)) w S := ⟨fun i B' e => by
   by_cases hi : i = id
   . subst hi; rw [hβ] at e; cases e
   . rw [zab _ _ hi]; exact e, fun _ e => e, fun _ _ => rfl⟩
  refine ⟨⟨fun j o' e => ?_, fun i j b hne hi hj => ?_, fun i b hi => ?_, h.sz⟩, x⟩
  . by_cases hj : j = id
    . subst hj
      simp only [zad, Option.some.injEq] at e ⊢
      subst e
      exact ⟨_, rfl, zm8 hr⟩
    . rw [zab _ _ hj] at e
      obtain ⟨B', h1, h2⟩ := h.obj j o' e
      exact ⟨B', x.ids _ _ h1, by rw [zab _ _ hj]; exact h2.ext x (fun b _ => rfl)⟩
  . by_cases h1 : i = id
    . subst h1
      rw [zad]
      exact fun e => e.elim
    . rw [zab own _ h1]
      by_cases h2 : j = id
      . subst h2
        rw [zad]
        exact fun _ e => e
      . rw [zab own _ h2]
        rw [zab go _ h1] at hi
        rw [zab go _ h2] at hj
        exact h.sep i j b hne hi hj
  . by_cases h1 : i = id
    . subst h1
      rw [zad]
      exact fun e => e.elim
    . rw [zab own _ h1]
      rw [zab go _ h1] at hi
      exact h.st i b hi
theorem ziM {α : Type _} (g : Nat -> α) (i : Nat) (x y : α) : upd (upd g i x) i y = upd g i y := by
 funext j
 by_cases h : j = i
 . subst h; simp
 . simp [upd, h]
theorem ztO {β own S go} {w w' : World} (h : zaw β own S go w) {ob : Obj} (hw : w'.heap = w.heap.push ob) (h1 : w'.os = w.os) (h2 : w'.tape = w.tape) (h3 : w'.output = w.output) : Fr (zbg go own) w w' :=
 ⟨h1, h2, h3, by rw [hw]; simp, fun k hk _ => by rw [hw, Array.getElem?_push, if_neg (by omega)]⟩
section
variable {C : Ctx} {gt : GT} {go : GO} {o : Oper} {fresh : Nat} {R : List Loc} {v : Option SV} {os : List (Nat × Option SO)} {k : Nat}
theorem zk6 : zai.len (.inr []) = 0 := rfl
def zme (C : Ctx) (gt : GT) (go : GO) (y : Operand) (s : Nat) (new : zai) : Prop :=
 ∀ {β own S a w}, zah C gt go β own S a w -> ∃ M : Array Value, M.size = new.len * s /\ zbP β w S s new M.toList /\ (∀ v ∈ M.toList, v.oneCell' = true) ∧
  (Builtin.lenOf (a.eval y)).run C.P w = .ok new.len w /\ ∀ w', w'.heap = w.heap -> (Builtin.firstCells s new.len (a.eval y)).run C.P w' = .ok M w'
theorem zcP {P : Program} {w : World} {s n : Nat} {b off cap : Nat} {arr : Array Value} {T : TypeId} {fz : Nat × Nat} (hw : w.heap[b]? = some (.cells arr T fz)) (hl : off + n * s <= arr.size) :
 (Builtin.firstCells s n (.slice (some ⟨b, off, none⟩) n cap)).run P w = .ok ((arr.toList.drop off).take (n * s)).toArray w := by
  have h1 : ((arr.toList.drop off).take (n * s)).length = n * s := by simp; omega
  have := run_loadCells_list (P := P) w ⟨b, off, none⟩ ((arr.toList.drop off).take (n * s)) (fun j v hv => by
   rw [Addr.add_mid]
   rw [List.getElem?_take] at hv
   split at hv
   . rw [List.getElem?_drop] at hv
     rw [zh8 hw]; simpa using hv
   . cases hv)
  rw [h1] at this
  exact this
theorem zaW {P : Program} {w : World} {s n : Nat} {x : Value} (hx : x = .slice none 0 0 \/ (∃ a cap, x = .slice a 0 cap) /\ n = 0) : (Builtin.firstCells s n x).run P w = .ok #[] w := by
 rcases hx with rfl | ⟨⟨a, cap, rfl⟩, rfl⟩
 . simp [Builtin.firstCells]
 . cases a <;> simp [Builtin.firstCells, loadCells, loadCellsFrom]
theorem zuY {y : Operand} {s : Nat} {sy : SV} {f : zai -> RT} (hs0 : 0 < s) (hy : ∀ {β own S a w}, zah C gt go β own S a w -> rel β w S sy (a.eval y))
 (h : (zmq s sy f).Runs gt go R v os k) : ∃ new R', (f new).Runs gt go R' v os k /\ zme C gt go y s new := by
  unfold zmq at h
  split at h
  . rename_i id b0 ln
    cases h with
    | rO h =>
      dsimp only at h
      split at h
      . rename_i s' L hgo
        split at h
        . rename_i hone
          simp only [eqN] at h
          split at h
          . rename_i hs
            have hs := Nat.eq_of_beq_eq_true hs
            subst hs
            cases h with
            | req hp h =>
              obtain ⟨rfl, rfl⟩ := hp
              refine ⟨_, _, h, fun {β own S a w} H => ?_⟩
              have h1 := hy H
              simp only [rel] at h1
              obtain ⟨B, hB, h1⟩ := h1
              obtain ⟨B', h4, h5⟩ := H.mem.obj _ _ hgo
              rw [hB] at h4; cases h4
              rcases h5 with ⟨h5, rfl, _⟩ | ⟨b', arr, T, h5, h6, h7, h8, h9, h10, h11⟩
              . simp only [zba, h5] at h1
                obtain ⟨e1, _, _⟩ := h1
                exact ⟨#[], by simp [zai.len], by simp [zbP, zaZ], by simp, by rw [e1]; simp [Builtin.lenOf, zai.len], fun w' _ => by rw [e1]; exact zaW (.inl rfl)⟩
              . simp only [zba, h5] at h1
                obtain ⟨off, cap, e1, hc1, hc2, hc3⟩ := h1
                obtain ⟨o1, o2⟩ := znA s L _ hone h11
                by_cases hL : L.length = 0
                . have : L = [] := List.length_eq_zero_iff.1 hL
                  subst this
                  exact ⟨#[], by simp [zai.len], by simp [zbP, zaZ], by simp, by rw [e1]; simp [Builtin.lenOf, zai.len], fun w' _ => by rw [e1]; exact zaW (.inr ⟨⟨_, _, rfl⟩, rfl⟩)⟩
                . have hoff : off = 0 := by
                   rcases hc3 with h | h
                   . omega
                   . simpa using h
                  subst hoff
                  simp at o2
                  refine ⟨((arr.toList.drop 0).take (L.length * s)).toArray, by simp [zai.len]; omega, ?_, by simpa using o1, by rw [e1]; simp [Builtin.lenOf, zai.len], fun w' hw' => by rw [e1]; exact zcP (by rw [hw']; exact h8) (by simp [zai.len]; exact o2)⟩
                  exact zfG s L _ _ h11 (by simp [List.take_take])
          . cases h
        . cases h
      . rename_i s' L hgo
        simp only [eqN] at h
        split at h
        . rename_i hs
          have hs := Nat.eq_of_beq_eq_true hs
          subst hs
          cases h with
          | req hp h =>
            refine ⟨_, _, h, fun {β own S a w} H => ?_⟩
            have h1 := hy H
            simp only [rel] at h1
            obtain ⟨B, hB, h1⟩ := h1
            obtain ⟨B', h4, h5⟩ := H.mem.obj _ _ hgo
            rw [hB] at h4; cases h4
            have hlen : ((L.drop b0).take ln).length = ln := by simp; omega
            rcases h5 with ⟨h5, rfl, _⟩ | ⟨b', arr, T, h5, h6, h7, h8, h9, h10, h11⟩
            . simp only [zba, h5] at h1
              obtain ⟨e1, rfl, rfl⟩ := h1
              exact ⟨#[], by simp [zai.len], by simp [zbP, zat], by simp, by rw [e1]; simp [Builtin.lenOf, zai.len], fun w' _ => by rw [e1]; exact zaW (.inl rfl)⟩
            . simp only [zba, h5] at h1
              obtain ⟨off, cap, e1, hc1, hc2, hc3⟩ := h1
              by_cases hL : ln = 0
              . subst hL
                exact ⟨#[], by simp [zai.len], by simp [zbP, zat], by simp, by rw [e1]; simp [Builtin.lenOf, zai.len], fun w' _ => by rw [e1]; exact zaW (.inr ⟨⟨_, _, rfl⟩, rfl⟩)⟩
              . have hoff : off = b0 * s := by
                 rcases hc3 with h | h
                 . omega
                 . rw [h, h6]
                subst hoff
                have q1 := zeP s _ _ ln (zeO s _ _ b0 h11)
                obtain ⟨o1, o2⟩ := zfb s _ _ q1
                rw [hlen] at o1 o2
                simp at o2
                have hb2 : b0 * s <= arr.size := by
                 by_cases hq : ln * s = 0
                 . rcases Nat.mul_eq_zero.1 hq with h | h <;> omega
                 . omega
                refine ⟨((arr.toList.drop (b0 * s)).take (ln * s)).toArray, by simp [zai.len, hlen]; omega, ?_, by simpa using o1, by rw [e1]; simp [Builtin.lenOf, zai.len, hlen], fun w' hw' => ?_⟩
                . show zat w S s _ _
                  exact zdk s _ _ _ q1 (by rw [hlen]; simp [List.take_take])
                . rw [e1]
                  have := zcP (P := C.P) (w := w') (s := s) (n := ln) (cap := cap) (by rw [hw']; exact h8) (off := b0 * s) (by omega)
                  simp only [zai.len, hlen]
                  exact this
        . cases h
      . cases h
  . rename_i s' L
    cases h with
    | req hp h' =>
      subst hp
      refine ⟨_, _, h', fun {β own S a w} H => ?_⟩
      have h1 := hy H
      simp only [rel, zaY] at h1
      obtain ⟨ad, cap, e1, hcap, hne, _⟩ := h1
      by_cases hL : L = []
      . subst hL
        exact ⟨#[], by simp [zai.len], by simp [zbP, zat], by simp, by rw [e1]; simp [Builtin.lenOf, zai.len], fun w' _ => by rw [e1]; exact zaW (.inr ⟨⟨_, _, rfl⟩, rfl⟩)⟩
      . obtain ⟨b, off, arr, T, fz, rfl, hS, hw, hr⟩ := hne hL
        obtain ⟨o1, o2⟩ := zfb s _ _ hr
        simp at o2
        have hpos : 0 < L.length * s := Nat.mul_pos (List.length_pos_iff.2 hL) hs0
        refine ⟨((arr.toList.drop off).take (L.length * s)).toArray, by simp [zai.len]; omega, ?_, by simpa using o1, by rw [e1]; simp [Builtin.lenOf, zai.len], fun w' hw' => by rw [e1]; exact zcP (by rw [hw']; exact hw) (by simp [zai.len]; omega)⟩
        show zat w S s _ _
        exact zdk s _ _ _ hr (by simp [List.take_take])
  . cases h with
    | req hp h =>
      subst hp
      refine ⟨_, _, h, fun {β own S a w} H => ?_⟩
      have h1 := hy H
      simp only [rel] at h1
      exact ⟨#[], by simp [zai.len], by simp [zbP, zat], by simp, by rw [h1]; simp [Builtin.lenOf, zai.len], fun w' _ => by rw [h1]; exact zaW (.inr ⟨⟨_, _, rfl⟩, rfl⟩)⟩
  . cases h with
    | req hp h =>
      subst hp
      refine ⟨_, _, h, fun {β own S a w} H => ?_⟩
      have h1 := hy H
      simp only [rel] at h1
      exact ⟨#[], by simp [zai.len], by simp [zbP, zat], by simp, by rw [h1]; simp [Builtin.lenOf, zai.len], fun w' _ => by rw [h1]; exact zaW (.inl rfl)⟩
  . cases h
theorem zen {sT xT : TypeId} {x y : Operand} (ho : o.op = .call { callee := .builtin .append, args := #[x, y], argTypes := #[sT, xT] }) {a : Act} {w w' : World} {P : Program} {z : Value}
 (hz : (Builtin.append_ #[sT, xT] o.type #[a.eval x, a.eval y]).run P w = .ok z w') : (execOp a.eval o).run P w = .ok (.value z) w' := by
  simp [execOp, ho, resolve, invoke, builtin, hz]
theorem zvs {sT xT : TypeId} {s by_ : Nat} {x y : Operand} {new : zai} (ho : o.op = .call { callee := .builtin .append, args := #[x, y], argTypes := #[sT, xT] }) (ha : zhD C.P sT xT s by_)
 (hx : ∀ {β own S a w}, zah C gt go β own S a w -> a.eval x = .slice none 0 0) (hn : zme C gt go y s new) {r : zai} (hj : zcU (.inr []) new = some r) (hb : new.len * by_ <= 2 ^ 46)
 (hd : zau C o.dst (some (.slc fresh 0 new.len))) : zaD C o fresh gt go (some (.slc fresh 0 new.len)) [(fresh, some (r.so s))] 1 := by
  obtain ⟨_, _, _, _, _, _, _, _, _, _, hs0, _⟩ := ha.ok
  intro β own S a w H hβ next Q hnx
  obtain ⟨M, m1, m2, m3, m4, m5⟩ := hn H
  have hb0 : β fresh = none := hβ fresh (Nat.le_refl _) (by omega)
  have hx1 := hx H
  have hfin : ∀ i, ¬ (fresh <= i /\ i < fresh + 1) -> i ≠ fresh := fun i hi e => hi (by omega)
  by_cases h0 : new.len = 0
  . have hM : M = #[] := by
     have : M.size = 0 := by rw [m1, h0]; simp
     exact Array.eq_empty_of_size_eq_zero this
    have hrun := zfn (ty := o.type) ha (base := none) (len := 0) (cap := 0) m4 (m5 w rfl) (by omega) (w' := w) (by simp)
    have hr0 : r.len = 0 := by
     have := (zdJ (β := β) (w := w) (S := S) (s := s) hj (vs := []) (us := M.toList) (by simp [zbP, zat]) (by simp [zai.len]) m2).2
     rw [zk6] at this
     omega
    obtain ⟨hm, hx2⟩ := H.mem.nil hb0 (s := s) hr0
    have hrun' := zen (a := a) (w := w) (P := C.P) ho (by rw [hx1]; exact hrun)
    refine zbT (by simp [ho]) hrun' (hnx (upd β fresh (some ⟨none, s, 0⟩)) (upd own fresh (fun _ => False)) S _ w (fun i hi => zab _ _ (hfin i hi)) ?_)
    refine H.step hx2 hm ⟨rfl, rfl, rfl, Nat.le_refl _, fun _ _ _ => rfl⟩ (fun i b e1 e2 => ?_) (fun b e => .inl e) o.dst _ _ (zcl hd (fun s' e => ?_)) (zbD hd gt)
    . by_cases e : i = fresh
      . subst e; rw [zad] at e2; exact e2.elim
      . rw [zab _ _ e] at e1 e2; exact .inl ⟨i, e1, e2⟩
    . cases e
      simp only [rel, zad]
      exact ⟨_, rfl, by simp [zba, h0]⟩
  . obtain ⟨c, T, w', Z, q1, q2, q3, q4, q5, q6, q7⟩ := zcR (ty := o.type) ha (base := none) (len := 0) (cap := 0) (O := #[]) m4 (by omega) (by simpa using hb) m5 (fun w' _ => zaW (.inl rfl))
    refine zfj (so := r.so s) (s := .slc fresh 0 new.len) (by simp [ho]) hd (fun {β own S a w} H => ?_) β own S a w H hβ next Q hnx
    obtain ⟨M, m1, m2, m3, m4, m5⟩ := hn H
    obtain ⟨c, T, w', Z, q1, q2, q3, q4, q5, q6, q7⟩ := zcR (ty := o.type) ha (base := none) (len := 0) (cap := 0) (O := #[]) m4 (by omega) (by simpa using hb) m5 (fun w' _ => zaW (.inl rfl))
    refine ⟨_, w', _, ⟨some w.heap.size, s, c⟩, zen ho (by rw [hx H]; exact q2), q3, q4, q5, q6, fun ex => ⟨?_, ?_⟩⟩
    . obtain ⟨j1, j2⟩ := zdJ hj (vs := []) (us := M.toList) (by simp [zbP, zat]) (by simp [zai.len]) (zdM ex m2)
      rw [zk6] at j2
      simp only [Nat.zero_add] at j2 q1 q7
      refine zeZ (b := w.heap.size) (arr := #[] ++ M ++ Z) (T := T) rfl rfl rfl (by rw [q3]; simp) ?_ (by rw [j2]; exact q1) ?_
      . simp only [Array.size_append, m1, q7, List.size_toArray, List.length_nil]
        rw [Nat.zero_add, <- Nat.add_mul]
        congr 1
        omega
      . simp only [Array.toList_append, List.nil_append]
        refine zfW (by simpa using j1) ?_
        rw [j2]; simpa using m1
    . simp only [rel, zad]
      exact ⟨_, rfl, 0, c, by simp, by omega, by simp, .inr (by simp)⟩
theorem zn9 {sT xT : TypeId} {s by_ : Nat} {x y : Operand} {old new : zai} {id : Nat} (ho : o.op = .call { callee := .builtin .append, args := #[x, y], argTypes := #[sT, xT] }) (ha : zhD C.P sT xT s by_)
 (hx : ∀ {β own S a w}, zah C gt go β own S a w -> rel β w S (.slc id 0 old.len) (a.eval x)) (hgo : go id = some (old.so s)) (hn : zme C gt go y s new) {r : zai} (hj : zcU old new = some r) (hb : (old.len + new.len) * by_ <= 2 ^ 46)
 (hd : zau C o.dst (some (.slc fresh 0 (old.len + new.len)))) : zaD C o fresh gt go (some (.slc fresh 0 (old.len + new.len))) [(id, none), (fresh, some (r.so s))] 1 := by
  obtain ⟨_, _, _, _, _, _, _, _, _, _, hs0, _⟩ := ha.ok
  intro β own S a w H hβ next Q hnx
  obtain ⟨M, m1, m2, m3, m4, m5⟩ := hn H
  have hb0 : β fresh = none := hβ fresh (Nat.le_refl _) (by omega)
  have hx1 := hx H
  simp only [rel] at hx1
  obtain ⟨B, hB, hx1⟩ := hx1
  have hid : id ≠ fresh := fun e => by subst e; rw [hb0] at hB; cases hB
  obtain ⟨B', h4, h5⟩ := H.mem.obj _ _ hgo
  rw [hB] at h4; cases h4
  have hsome : (go id).isSome := by simp [hgo]
  have hput : za2 go [(id, none), (fresh, some (r.so s))] = upd (upd go id none) fresh (some (r.so s)) := rfl
  have hfin : ∀ i, ¬ (fresh <= i /\ i < fresh + 1) -> i ≠ fresh := fun i hi e => hi (by omega)
  rcases znC h5 with ⟨hblk, hl0, hcap0, hstr, hF⟩ | ⟨b, arr, T, hblk, hstr, hF, hw, hsz, hlc, hc⟩
  . simp only [zba, hblk] at hx1
    obtain ⟨e1, _, _⟩ := hx1
    by_cases h0 : new.len = 0
    . have hrun := zfn (ty := o.type) ha (base := none) (len := 0) (cap := 0) m4 (m5 w rfl) (by omega) (w' := w) (by simp)
      have hr0 : r.len = 0 := by
       have := (zdJ (β := β) (w := w) (S := S) (s := s) hj (vs := []) (us := M.toList) (by
        cases old with
        | inl L => have : L = [] := List.length_eq_zero_iff.1 hl0; subst this; simp [zbP, zaZ]
        | inr L => have : L = [] := List.length_eq_zero_iff.1 hl0; subst this; simp [zbP, zat]) (by simp [hl0]) m2).2
       omega
      obtain ⟨hm, hx2⟩ := (H.mem.drop id).nil hb0 (s := s) hr0
      have hrun' := zen (a := a) (w := w) (P := C.P) ho (by rw [e1]; exact hrun)
      refine zbT (by simp [ho]) hrun' (hnx (upd β fresh (some ⟨none, s, 0⟩)) (upd own fresh (fun _ => False)) S _ w (fun i hi => zab _ _ (hfin i hi)) ?_)
      rw [hput]
      refine H.step hx2 hm ⟨rfl, rfl, rfl, Nat.le_refl _, fun _ _ _ => rfl⟩ (fun i b e1 e2 => ?_) (fun b e => .inl e) o.dst _ _ (zcl hd (fun s' e => ?_)) (zbD hd gt)
      . by_cases e : i = fresh
        . subst e; rw [zad] at e2; exact e2.elim
        . rw [zab _ _ e] at e1 e2
          by_cases e3 : i = id
          . subst e3; simp at e1
          . rw [zab _ _ e3] at e1; exact .inl ⟨i, e1, e2⟩
      . cases e
        simp only [rel, zad]
        exact ⟨_, rfl, by simp [zba, h0, hl0]⟩
    . obtain ⟨c, T, w', Z, q1, q2, q3, q4, q5, q6, q7⟩ := zcR (ty := o.type) ha (base := none) (len := 0) (cap := 0) (O := #[]) m4 (by omega) (by simpa [hl0] using hb) m5 (fun w' _ => zaW (.inl rfl))
      have hd2 := H.mem.drop id
      have hobj : za5 (upd β fresh (some ⟨some w.heap.size, s, c⟩)) w' S ⟨some w.heap.size, s, c⟩ (zcv w.heap.size) (r.so s) := by
       have ex : Ext β w S (upd β fresh (some ⟨some w.heap.size, s, c⟩)) w' S := ⟨fun i B' e => by
        by_cases hi : i = fresh
        . subst hi; rw [hb0] at e; cases e
        . rw [zab _ _ hi]; exact e, fun _ e => e, fun b hb => by
          have := H.mem.sz b hb
          rw [q3, Array.getElem?_push, if_neg (by omega)]⟩
       obtain ⟨j1, j2⟩ := zdJ hj (vs := []) (us := M.toList) (by
        cases old with
        | inl L => have : L = [] := List.length_eq_zero_iff.1 hl0; subst this; simp [zbP, zaZ]
        | inr L => have : L = [] := List.length_eq_zero_iff.1 hl0; subst this; simp [zbP, zat]) (by simp [hl0]) (zdM ex m2)
       simp only [hl0, Nat.zero_add] at j2 q1 q7
       refine zeZ (b := w.heap.size) (arr := #[] ++ M ++ Z) (T := T) rfl rfl rfl (by rw [q3]; simp) ?_ (by rw [j2]; exact q1) ?_
       . simp only [Array.size_append, m1, q7, List.size_toArray, List.length_nil]
         rw [Nat.zero_add, <- Nat.add_mul]
         congr 1
         omega
       . simp only [Array.toList_append, List.nil_append]
         refine zfW (by simpa using j1) ?_
         rw [j2]; simpa using m1
      obtain ⟨hm, hx2⟩ := hd2.new (w' := w') hb0 q3 hobj
      have hrun' := zen (a := a) (w := w) (P := C.P) ho (by rw [e1]; exact q2)
      refine zbT (by simp [ho]) hrun' (hnx (upd β fresh (some ⟨some w.heap.size, s, c⟩)) (upd own fresh (zcv w.heap.size)) S _ w' (fun i hi => zab _ _ (hfin i hi)) ?_)
      rw [hput]
      refine H.step hx2 hm (ztO H.mem q3 q4 q5 q6) (fun i b e1 e2 => ?_) (fun b e => .inl e) o.dst _ _ (zcl hd (fun s' e => ?_)) (zbD hd gt)
      . by_cases e : i = fresh
        . subst e; rw [zad] at e2; cases e2; exact .inr (Nat.le_refl _)
        . rw [zab _ _ e] at e1 e2
          by_cases e3 : i = id
          . subst e3; simp at e1
          . rw [zab _ _ e3] at e1; exact .inl ⟨i, e1, e2⟩
      . cases e
        simp only [rel, zad, hl0, Nat.zero_add]
        exact ⟨_, rfl, 0, c, by simp, by omega, by simp, .inr (by simp)⟩
  . simp only [zba, hblk] at hx1
    obtain ⟨off, cap, e1, hc1, hc2, hc3⟩ := hx1
    have hclen := zsa hc
    simp at hclen
    by_cases hle : old.len + new.len <= cap
    . -- in place
      have hoff : off = 0 \/ (old.len = 0 /\ new.len = 0) := by
       rcases hc3 with h | h
       . right; omega
       . left; simpa using h
      have hval : off * 0 = 0 := by simp
      let arr' : Array Value := (arr.toList.take (old.len * s) ++ M.toList ++ arr.toList.drop (old.len * s + M.toList.length)).toArray
      have hfit : old.len * s + M.toList.length <= arr.size := by
       rw [hsz]
       have : (old.len + new.len) * s <= B.cap * s := Nat.mul_le_mul_right _ (by omega)
       rw [Nat.add_mul] at this
       simp [m1]; omega
      have hst : ∃ w', (storeCells ((⟨b, off, none⟩ : Addr).add (old.len * s)) M.toList).run C.P w = .ok () w' /\ w'.heap.size = w.heap.size /\ (∀ b', b' ≠ b -> w'.heap[b']? = w.heap[b']?) /\ w'.os = w.os /\ w'.tape = w.tape /\ w'.output = w.output ∧
       w'.heap[b]? = some (.cells arr' T (0, 0)) := by
        rcases hoff with rfl | ⟨z1, z2⟩
        . refine ⟨w.setRow b arr', ?_, zd1, fun b' hb' => zdG hb', rfl, rfl, rfl, setRow_heap _ _ _ _ _ _ hw⟩
          have := run_storeCells_at C.P b (old.len * s) T M.toList 0 arr w hw (by simpa using hfit) m3
          rw [Addr.add_mid]
          simpa [arr'] using this
        . have hM : M = #[] := Array.eq_empty_of_size_eq_zero (by rw [m1, z2]; simp)
          refine ⟨w, by rw [hM]; simp [storeCells], rfl, fun _ _ => rfl, rfl, rfl, rfl, ?_⟩
          have : arr' = arr := by
           simp only [arr', hM]
           simp
          rw [this]; exact hw
      obtain ⟨w', s1, s2, s3, s4, s5, s6, s7⟩ := hst
      have hrun := zfn (ty := o.type) ha (base := some ⟨b, off, none⟩) (len := old.len) (cap := cap) m4 (m5 w rfl) hle (w' := w') s1
      have hext : Ext β w S β w' S := ⟨fun _ _ e => e, fun _ e => e, fun b' hb' => s3 b' (fun e => H.mem.st id b' hsome (by rw [hF, e]; rfl) hb')⟩
      have hjc := zdJ hj (vs := arr.toList.take (old.len * s)) (us := M.toList) (zdM hext (zlB hc)) (by simp; omega) (zdM hext m2)
      have hobj : za5 β w' S B (own id) (r.so s) := by
       refine zeZ (b := b) (arr := arr') (T := T) hblk hstr hF s7 ?_ (by rw [hjc.2]; omega) ?_
       . simp only [arr', List.size_toArray, List.length_append, List.length_take, List.length_drop, Array.length_toList] at hfit ⊢
         omega
       . simp only [arr']
         refine zfW hjc.1 ?_
         rw [hjc.2, List.length_append, List.length_take, Array.length_toList, Array.length_toList, m1, Nat.add_mul, Nat.min_eq_left hclen]
      obtain ⟨hm1, hx1⟩ := H.mem.set (o := r.so s) hgo hB s2 (fun b' hb' => s3 b' (fun e => hb' (by rw [hF, e]; rfl))) hobj
      obtain ⟨hm2, hx2⟩ := hm1.move (id := id) (id' := fresh) (o := r.so s) (by simp) hb0 hB (hobj.ext ⟨fun i B' e => by
       by_cases hi : i = fresh
       . subst hi; rw [hb0] at e; cases e
       . rw [zab _ _ hi]; exact e, fun _ e => e, fun _ _ => rfl⟩ (fun _ _ => rfl))
      rw [ziM] at hm2
      have hrun' := zen (a := a) (w := w) (P := C.P) ho (by rw [e1]; exact hrun)
      refine zbT (by simp [ho]) hrun' (hnx (upd β fresh (some B)) (upd own fresh (own id)) S _ w' (fun i hi => zab _ _ (hfin i hi)) ?_)
      rw [hput]
      refine H.step (hx1.trans hx2) hm2 ⟨s4, s5, s6, by rw [s2]; exact Nat.le_refl _, fun k hk hx => s3 k (fun e => hx ⟨id, hsome, by rw [hF, e]; rfl⟩)⟩ (fun i b' e1 e2 => ?_) (fun b e => .inl e) o.dst _ _ (zcl hd (fun s' e => ?_)) (zbD hd gt)
      . left
        by_cases e : i = fresh
        . subst e; rw [zad] at e2; exact ⟨id, hsome, e2⟩
        . rw [zab _ _ e] at e1 e2
          by_cases e3 : i = id
          . subst e3; simp at e1
          . rw [zab _ _ e3] at e1; exact ⟨i, e1, e2⟩
      . cases e
        simp only [rel, zad]
        refine ⟨B, rfl, ?_⟩
        simp only [zba, hblk]
        exact ⟨off, cap, rfl, hle, hc2, hc3⟩
    . -- a new block
      have hO : ∀ w' : World, w'.heap = w.heap -> (Builtin.firstCells s old.len (.slice (some ⟨b, off, none⟩) old.len cap)).run C.P w' = .ok (arr.toList.take (old.len * s)).toArray w' := by
       intro w' hw'
       by_cases h0 : old.len = 0
       . rw [h0]; simp; exact zaW (.inr ⟨⟨_, _, rfl⟩, rfl⟩)
       . have hoff : off = 0 := by
          rcases hc3 with h | h
          . omega
          . simpa using h
         subst hoff
         have := zcP (P := C.P) (w := w') (s := s) (n := old.len) (cap := cap) (by rw [hw']; exact hw) (off := 0) (by simpa using hclen)
         simpa using this
      obtain ⟨c, T', w', Z, q1, q2, q3, q4, q5, q6, q7⟩ := zcR (ty := o.type) ha (base := some ⟨b, off, none⟩) (len := old.len) (cap := cap) m4 (by omega) hb m5 hO
      have hd2 := H.mem.drop id
      have hobj : za5 (upd β fresh (some ⟨some w.heap.size, s, c⟩)) w' S ⟨some w.heap.size, s, c⟩ (zcv w.heap.size) (r.so s) := by
       have ex : Ext β w S (upd β fresh (some ⟨some w.heap.size, s, c⟩)) w' S := ⟨fun i B' e => by
        by_cases hi : i = fresh
        . subst hi; rw [hb0] at e; cases e
        . rw [zab _ _ hi]; exact e, fun _ e => e, fun b hb => by
          have := H.mem.sz b hb
          rw [q3, Array.getElem?_push, if_neg (by omega)]⟩
       obtain ⟨j1, j2⟩ := zdJ hj (vs := arr.toList.take (old.len * s)) (us := M.toList) (zdM ex (zlB hc)) (by simp; omega) (zdM ex m2)
       refine zeZ (b := w.heap.size) (arr := (arr.toList.take (old.len * s)).toArray ++ M ++ Z) (T := T') rfl rfl rfl (by rw [q3]; simp) ?_ (by rw [j2]; exact q1) ?_
       . simp only [Array.size_append, m1, q7, List.size_toArray, List.length_take, Array.length_toList, Nat.min_eq_left hclen]
         rw [<- Nat.add_mul, <- Nat.add_mul]
         congr 1
         omega
       . simp only [Array.toList_append]
         refine zfW (by simpa using j1) ?_
         rw [j2, Nat.add_mul]
         simp [m1]; omega
      obtain ⟨hm, hx2⟩ := hd2.new (w' := w') hb0 q3 hobj
      have hrun' := zen (a := a) (w := w) (P := C.P) ho (by rw [e1]; exact q2)
      refine zbT (by simp [ho]) hrun' (hnx (upd β fresh (some ⟨some w.heap.size, s, c⟩)) (upd own fresh (zcv w.heap.size)) S _ w' (fun i hi => zab _ _ (hfin i hi)) ?_)
      rw [hput]
      refine H.step hx2 hm (ztO H.mem q3 q4 q5 q6) (fun i b e1 e2 => ?_) (fun b e => .inl e) o.dst _ _ (zcl hd (fun s' e => ?_)) (zbD hd gt)
      . by_cases e : i = fresh
        . subst e; rw [zad] at e2; cases e2; exact .inr (Nat.le_refl _)
        . rw [zab _ _ e] at e1 e2
          by_cases e3 : i = id
          . subst e3; simp at e1
          . rw [zab _ _ e3] at e1; exact .inl ⟨i, e1, e2⟩
      . cases e
        simp only [rel, zad]
        exact ⟨_, rfl, 0, c, by simp, by omega, by simp, .inr (by simp)⟩
theorem zvU {sT xT : TypeId} {s by_ : Nat} {x y : Operand} {L : List (List PV)} {new : zai} {id st ln : Nat} (ho : o.op = .call { callee := .builtin .append, args := #[x, y], argTypes := #[sT, xT] }) (ha : zhD C.P sT xT s by_)
 (hx : ∀ {β own S a w}, zah C gt go β own S a w -> rel β w S (.slx id st ln) (a.eval x)) (hgo : go id = some (.vec s L)) (hn : zme C gt go y s new) (hle : st + ln <= L.length) (h0 : 0 < new.len) {r : zai}
 (hj : zcU (.inr ((L.drop st).take ln)) new = some r) (hb : (zai.len (.inr ((L.drop st).take ln)) + new.len) * by_ <= 2 ^ 46)
 (hd : zau C o.dst (some (.slc fresh 0 (zai.len (.inr ((L.drop st).take ln)) + new.len)))) :
 zaD C o fresh gt go (some (.slc fresh 0 (zai.len (.inr ((L.drop st).take ln)) + new.len))) [(fresh, some (r.so s))] 1 := by
  have hll : zai.len (.inr ((L.drop st).take ln)) = ln := by simp [zai.len]; omega
  refine zfj (so := r.so s) (by simp [ho]) hd fun {β own S a w} H => ?_
  obtain ⟨M, m1, m2, m3, m4, m5⟩ := hn H
  have hx1 := hx H
  simp only [rel] at hx1
  obtain ⟨B, b, hB, hblk, hx1, hcap⟩ := hx1
  obtain ⟨B', h4, h5⟩ := H.mem.obj _ _ hgo
  rw [hB] at h4; cases h4
  rcases h5 with ⟨q1, _⟩ | ⟨b', arr, T, q1, q2, q3, q4, q5, q6, q7⟩
  . rw [q1] at hblk; cases hblk
  rw [hblk] at q1; cases q1
  have hfit : st * s + ln * s <= arr.size := by
   rw [q5, <- Nat.add_mul]
   exact Nat.mul_le_mul_right _ (by omega)
  have hO : ∀ w' : World, w'.heap = w.heap -> (Builtin.firstCells s ln (.slice (some ⟨b, st * B.str, none⟩) ln ln)).run C.P w' = .ok ((arr.toList.drop (st * s)).take (ln * s)).toArray w' := by
   intro w' hw'
   rw [q2]
   exact zcP (P := C.P) (w := w') (s := s) (n := ln) (cap := ln) (by rw [hw']; exact q4) (off := st * s) hfit
  rw [hll] at hb ⊢
  obtain ⟨c, T', w', Z, p1, p2, p3, p4, p5, p6, p7⟩ := zcR (ty := o.type) ha (base := some ⟨b, st * B.str, none⟩) (len := ln) (cap := ln) m4 (by omega) hb m5 hO
  refine ⟨_, w', _, ⟨some w.heap.size, s, c⟩, zen ho (by rw [hx1]; exact p2), p3, p4, p5, p6, fun ex => ⟨?_, ?_⟩⟩
  . have hlen : ((arr.toList.drop (st * s)).take (ln * s)).length = ln * s := by simp; omega
    obtain ⟨j1, j2⟩ := zdJ hj (vs := (arr.toList.drop (st * s)).take (ln * s)) (us := M.toList) (zdM ex (show zbP β w S s (.inr ((L.drop st).take ln)) _ from by
     have hq := zeP s _ _ ln (zeO s _ _ st q7)
     have hl : ((L.drop st).take ln).length = ln := by simp; omega
     exact zdk s _ _ _ hq (by rw [hl]; simp [List.take_take]))) (by rw [hlen, hll]) (zdM ex m2)
    rw [hll] at j2
    refine zeZ (b := w.heap.size) (arr := ((arr.toList.drop (st * s)).take (ln * s)).toArray ++ M ++ Z) (T := T') rfl rfl rfl (by rw [p3]; simp) ?_ (by rw [j2]; exact p1) ?_
    . simp only [Array.size_append, m1, p7, List.size_toArray, hlen]
      rw [<- Nat.add_mul, <- Nat.add_mul]
      congr 1
      omega
    . simp only [Array.toList_append]
      refine zfW (by simpa using j1) ?_
      rw [j2, Nat.add_mul]
      simp [m1]; omega
  . simp only [rel, zad]
    exact ⟨_, rfl, 0, c, by simp, by omega, by simp, .inr (by simp)⟩
theorem zA2 {sT xT : TypeId} {s by_ : Nat} {x y : Operand} (ho : o.op = .call { callee := .builtin .append, args := #[x, y], argTypes := #[sT, xT] }) (ha : zhD C.P sT xT s by_)
 (h : (MO.rt C.toEnv fresh (.app s by_ (cX x) (cX y))).Runs gt go R v os k) (hd : zau C o.dst v) : zaD C o fresh gt go v os k := by
  have hs0 : 0 < s := by obtain ⟨_, _, _, _, _, _, _, _, _, _, hs0, _⟩ := ha.ok; exact hs0
  simp only [MO.rt] at h
  replace h := zaq h
  obtain ⟨sx, R1, h, hx⟩ := h
  replace h := zaq h
  obtain ⟨sy, R2, h, hy⟩ := h
  unfold zt7 at h
  replace h := zuY hs0 hy h
  obtain ⟨new, R3, h, hn⟩ := h
  have mk : ∀ {os0 : List (Nat × Option SO)} {old : zai} {R v os k}, (zi7 s by_ fresh os0 old new).Runs gt go R v os k -> ∃ r, zcU old new = some r /\ (old.len + new.len) * by_ <= 2 ^ 46 /\ v = some (.slc fresh 0 (old.len + new.len)) /\ os = os0 ++ [(fresh, some (r.so s))] /\ k = 1 := by
   intro os0 old R v os k h
   unfold zi7 at h
   split at h
   . rename_i r hr
     cases h with
     | req hp h => cases h; exact ⟨r, hr, hp, rfl, rfl, rfl⟩
   . cases h
  split at h
  . rename_i id b0 ln
    cases h with
    | rO h =>
      dsimp only at h
      split at h
      . rename_i s' L hgo
        simp only [eqN] at h
        split at h
        . rename_i hs
          have hs := Nat.eq_of_beq_eq_true hs
          subst hs
          cases h with
          | req hp h =>
            obtain ⟨rfl, rfl⟩ := hp
            obtain ⟨r, h1, h2, rfl, rfl, rfl⟩ := mk h
            exact zn9 (old := .inr L) ho ha hx hgo hn h1 h2 hd
        . cases h
      . rename_i s' L hgo
        simp only [eqN] at h
        split at h
        . rename_i hs
          have hs := Nat.eq_of_beq_eq_true hs
          subst hs
          cases h with
          | req hp h =>
            obtain ⟨rfl, rfl⟩ := hp
            obtain ⟨r, h1, h2, rfl, rfl, rfl⟩ := mk h
            exact zn9 (old := .inl L) ho ha hx hgo hn h1 h2 hd
        . cases h
      . cases h
  . rename_i id b0 ln
    cases h with
    | rO h =>
      dsimp only at h
      split at h
      . rename_i s' L hgo
        simp only [eqN] at h
        split at h
        . rename_i hs
          have hs := Nat.eq_of_beq_eq_true hs
          subst hs
          cases h with
          | req hp h =>
            obtain ⟨r, h1, h2, rfl, rfl, rfl⟩ := mk h
            exact zvU ho ha hx hgo hn hp.1 hp.2 h1 h2 hd
        . cases h
      . cases h
  . cases h with
    | req hp h =>
      subst hp
      obtain ⟨r, h1, h2, rfl, rfl, rfl⟩ := mk h
      simp only [zk6, Nat.zero_add] at h2 hd ⊢
      exact zvs ho ha (fun H => by have := hx H; simpa [rel] using this) hn h1 h2 hd
  . cases h
end
end Go.Sx
namespace Go.Sx
open Go
structure Ren.le (ρ ρ' : Ren) : Prop where
 m : ∀ i q, zao i ρ.m = some q -> zao i ρ'.m = some q
 b : ∀ j, j ∈ ρ.bor -> j ∈ ρ'.bor
theorem Ren.le.refl (ρ : Ren) : ρ.le ρ := ⟨fun _ _ h => h, fun _ h => h⟩
theorem Ren.le.trans {a b c : Ren} (h : a.le b) (k : b.le c) : a.le c := ⟨fun i q e => k.m i q (h.m i q e), fun j e => k.b j (h.b j e)⟩
def Ren.inj (ρ : Ren) : Prop := ∀ i i' j, zao i ρ.m = some (some j) -> zao i' ρ.m = some (some j) -> i = i'
def bOf (ρ : Ren) (β : Nat -> Option zaz) (sp : Nat -> Nat) : Nat -> Option zaz := fun i =>
 match zao i ρ.m with
 | some (some j) => β j
 | some none => some ⟨none, sp i, 0⟩
 | none => none
def zcc (ρ : Ren) (own : Nat -> Nat -> Prop) : Nat -> Nat -> Prop := fun i =>
 match zao i ρ.m with
 | some (some j) => own j
 | _ => fun _ => False
structure Fit (go : GO) (ρ : Ren) (β : Nat -> Option zaz) (own : Nat -> Nat -> Prop) (S : Nat -> Prop) (w : World) (Sp : Nat -> Prop) : Prop where
 mem : zaw β own S go w
 sub : ∀ b, S b -> Sp b
 bor : ∀ j, j ∈ ρ.bor -> (go j).isSome -> ∀ b, own j b -> Sp b
theorem zaJ {α : Type _} {i k : Nat} {x : α} {l : List (Nat × α)} : zao i ((k, x) :: l) = if k = i then some x else zao i l := by
 simp only [zao]
 by_cases h : k = i
 . subst h; simp
 . have : Nat.beq k i = false := by
    cases e : Nat.beq k i with
    | true => exact absurd (Nat.eq_of_beq_eq_true e) h
    | false => rfl
   rw [this, if_neg h]
theorem zcn {α : Type _} : ∀ {l : List (Nat × α)} {i : Nat} {x : α}, zao i l = some x -> (i, x) ∈ l
 | [], i, x, h => by simp [zao] at h
 | (k, y) :: l, i, x, h => by
   rw [zaJ] at h
   split at h
   . rename_i e; subst e; simp at h; subst h; simp
   . exact List.mem_cons_of_mem _ (zcn h)
section
variable {gt : GT} {go : GO} {R : List Loc} {v : Option SV} {os : List (Nat × Option SO)} {k : Nat}
theorem zdB {ρ : Ren} {i : Nat} {j : Option Nat} {f : Ren -> RT} (h : (ρ.bind i j f).Runs gt go R v os k) :
 ∃ ρ' R', (f ρ').Runs gt go R' v os k /\ ρ.le ρ' /\ (ρ.inj -> ρ'.inj) /\ zao i ρ'.m = some j := by
  unfold Ren.bind at h
  split at h
  . rename_i hl
    split at h
    . refine ⟨_, _, h, ⟨fun i' q e => ?_, fun _ e => e⟩, fun hi a b c ha hb => ?_, by rw [zaJ]; simp⟩
      . rw [zaJ]
        split
        . rename_i e'; subst e'; rw [hl] at e; cases e
        . exact e
      . rw [zaJ] at ha hb
        split at ha
        . cases ha
        . split at hb
          . cases hb
          . exact hi a b c ha hb
    . rename_i j'
      split at h
      . rename_i hall
        refine ⟨_, _, h, ⟨fun i' q e => ?_, fun _ e => e⟩, fun hi a b c ha hb => ?_, by rw [zaJ]; simp⟩
        . rw [zaJ]
          split
          . rename_i e'; subst e'; rw [hl] at e; cases e
          . exact e
        . have hne : ∀ a c, zao a ρ.m = some (some c) -> c ≠ j' := fun a c ha e => by
           have := List.all_eq_true.1 hall _ (zcn ha)
           subst e
           simp at this
          rw [zaJ] at ha hb
          split at ha
          . rename_i e1
            split at hb
            . rename_i e2; exact e1.symm.trans e2
            . cases ha; exact absurd rfl (hne b _ hb)
          . split at hb
            . cases hb; exact absurd rfl (hne a _ ha)
            . exact hi a b c ha hb
      . cases h
  . rename_i hl
    split at h
    . exact ⟨_, _, h, .refl _, id, hl⟩
    . cases h
  . rename_i q hl
    split at h
    . cases h
    . split at h
      . rename_i e
        have := Nat.eq_of_beq_eq_true e
        subst this
        exact ⟨_, _, h, .refl _, id, hl⟩
      . cases h
theorem ziC {β own S go w} {Sp : Nat -> Prop} (hm : zaw β own S go w) (hsub : ∀ b, S b -> Sp b) {j st len : Nat} {s : Nat} {r : zai} {L : List (List PV)} (hgo : go j = some (r.so s))
 (hbor : ∀ b, own j b -> Sp b) (hL : (∃ M, r = .inl M /\ zfr M = some L) \/ r = .inr L) {x : Value} (hx : rel β w S (.slc j st len) x) (hle : st + len <= L.length) :
 zaY w Sp (.sl s ((L.drop st).take len)) x := by
  simp only [rel] at hx
  obtain ⟨B, hB, hx⟩ := hx
  obtain ⟨B', h4, h5⟩ := hm.obj _ _ hgo
  rw [hB] at h4; cases h4
  have hlen : ((L.drop st).take len).length = len := by simp; omega
  simp only [zaY]
  rcases znC h5 with ⟨hblk, hl0, hcap0, hstr, hF⟩ | ⟨b, arr, T, hblk, hstr, hF, hw, hsz, hlc, hc⟩
  . simp only [zba, hblk] at hx
    obtain ⟨e1, rfl, rfl⟩ := hx
    exact ⟨none, 0, by rw [hlen]; exact e1, by simp, fun hne => absurd (by simp) hne, fun _ => rfl⟩
  . simp only [zba, hblk] at hx
    obtain ⟨off, cap, e1, hc1, hc2, hc3⟩ := hx
    refine ⟨some ⟨b, off, none⟩, cap, by rw [hlen]; exact e1, by rw [hlen]; exact hc1, fun hne => ?_, fun e => by cases e⟩
    have hpos : len ≠ 0 := fun e => hne (List.length_eq_zero_iff.1 (hlen.trans e))
    have hoff : off = st * s := by
     rcases hc3 with h | h
     . omega
     . rw [h, hstr]
    have hrel : zat w S s L arr.toList := by
     rcases hL with ⟨M, rfl, hM⟩ | rfl
     . exact (zf3 s hM hc).1
     . exact hc
    refine ⟨b, off, arr, T, (0, 0), rfl, hbor b (by rw [hF]; rfl), hw, ?_⟩
    rw [hoff]
    exact zbo hsub (fun _ _ => rfl) _ _ _ (zeP _ _ _ _ (zeO _ _ _ _ hrel))
theorem zjW {β own S go w} {Sp : Nat -> Prop} (hm : zaw β own S go w) (hsub : ∀ b, S b -> Sp b) {j sub : Nat} {cs : List SV} {ps : List PV} (hgo : go j = some (.row cs))
 (hbor : ∀ b, own j b -> Sp b) (hps : pvs cs = some ps) {x : Value} (hx : rel β w S (.ptr j 0 sub) x) :
 ∃ b off arr T fz, x = .pointer (some ⟨b, off + sub, none⟩) /\ off = 0 /\ Sp b /\ w.heap[b]? = some (.cells arr T fz) /\ zaG w Sp ps (arr.toList.drop off) := by
  simp only [rel] at hx
  obtain ⟨B, b, hB, hb, hx⟩ := hx
  obtain ⟨B', h4, b', arr, T, h5, h6, h6', h7, h8, h9⟩ := hm.obj _ _ hgo
  rw [hB] at h4; cases h4
  rw [hb] at h5; cases h5
  refine ⟨b, 0, arr, T, (0, 0), by simpa using hx, rfl, hbor b (by rw [h7]; rfl), h8, ?_⟩
  rw [List.drop_zero]
  exact zcY hsub (fun _ _ => rfl) _ _ (ziZ hps h9).1
def MOk (go : GO) (ρ ρ' : Ren) (p c : SV) : Prop :=
 ρ.le ρ' /\ (ρ.inj -> ρ'.inj) /\ ∀ ρ2, ρ'.le ρ2 -> ∀ {β own S w Sp}, Fit go ρ2 β own S w Sp -> ∀ sp x, rel β w S c x -> rel (bOf ρ2 β sp) w Sp p x
def zDS (go : GO) (ρ ρ' : Ren) (ps cs : List SV) : Prop :=
 ρ.le ρ' /\ (ρ.inj -> ρ'.inj) /\ ∀ ρ2, ρ'.le ρ2 -> ∀ {β own S w Sp}, Fit go ρ2 β own S w Sp -> ∀ sp xs, zal β w S cs xs -> zal (bOf ρ2 β sp) w Sp ps xs
theorem zgu {β β' : Nat -> Option zaz} {w w' S S'} : ∀ {l : List SV} {xs : List Value}, ziL l = true -> zal β w S l xs -> zal β' w' S' l xs
 | [], _, _, h => by simpa [zal] using h
 | s :: l, xs, hf, h => by
   simp only [ziL] at hf
   simp only [zal] at h ⊢
   obtain ⟨x, r, e, h1, h2⟩ := h
   split at hf
   . exact ⟨x, r, e, by simpa [rel] using h1, zgu hf h2⟩
   . exact ⟨x, r, e, by simpa [rel] using h1, zgu hf h2⟩
   . cases hf
theorem MOk.same {go ρ} {p c : SV} (h : ∀ {β β' : Nat -> Option zaz} {w S Sp x}, (∀ b, S b -> Sp b) -> rel β w S c x -> rel β' w Sp p x) : MOk go ρ ρ p c :=
 ⟨.refl _, id, fun _ _ _ _ _ _ _ F _ _ hx => h F.sub hx⟩
theorem zc6 {ρ : Ren} {β sp} {i j : Nat} (h : zao i ρ.m = some (some j)) : bOf ρ β sp i = β j := by simp [bOf, h]
theorem zod {ρ : Ren} {β sp} {i : Nat} (h : zao i ρ.m = some none) : bOf ρ β sp i = some ⟨none, sp i, 0⟩ := by simp [bOf, h]
mutual
theorem zdV : ∀ (p : SV) {ρ : Ren} {c : SV} {f : Ren -> RT} {R v os k}, (mSV ρ p c f).Runs gt go R v os k -> ∃ ρ' R', (f ρ').Runs gt go R' v os k /\ MOk go ρ ρ' p c
 | .any, ρ, c, f, R, v, os, k, h => by
   simp only [mSV] at h
   exact ⟨_, _, h, .same fun _ _ => by simp [rel]⟩
 | .int kd n, ρ, c, f, R, v, os, k, h => by
   simp only [mSV] at h
   split at h
   . split at h
     . rename_i hk
       have hk := zdU hk
       subst hk
       cases h with
       | req hp h => subst hp; exact ⟨_, _, h, .same fun _ hx => by simpa [rel] using hx⟩
     . cases h
   . cases h
 | .bool b, ρ, c, f, R, v, os, k, h => by
   simp only [mSV] at h
   split at h
   . cases h with
     | req hp h => subst hp; exact ⟨_, _, h, .same fun _ hx => by simpa [rel] using hx⟩
   . cases h with
     | req hp h => subst hp; exact ⟨_, _, h, .same fun _ hx => by simpa [rel] using hx⟩
   . cases h with
     | req hp h => subst hp; exact ⟨_, _, h, .same fun _ hx => by simpa [rel] using hx⟩
   . cases h with
     | req hp h => exact ⟨_, _, h, .same fun _ hx => by
      simp only [rel] at hx ⊢
      obtain ⟨b', rfl, hb⟩ := hx
      congr 1
      cases b <;> cases b' <;> simp_all⟩
   . cases h
 | .pr p, ρ, c, f, R, v, os, k, h => by
   simp only [mSV] at h
   split at h
   . cases h with
     | req hp h => exact ⟨_, _, h, .same fun _ hx => by simp only [rel] at hx ⊢; exact ⟨_, hx, hp.symm⟩⟩
   . cases h with
     | req hp h => exact ⟨_, _, h, .same fun _ hx => by simp only [rel] at hx ⊢; exact ⟨_, hx, by simpa using hp⟩⟩
   . cases h with
     | req hp h => exact ⟨_, _, h, .same fun _ hx => by simp only [rel] at hx ⊢; exact ⟨_, hx, by simpa using hp⟩⟩
   . cases h with
     | req hp h => exact ⟨_, _, h, .same fun _ hx => by simp only [rel] at hx ⊢; obtain ⟨b, e, hb⟩ := hx; exact ⟨b, e, hb.trans hp.symm⟩⟩
   . cases h
 | .tt, ρ, c, f, R, v, os, k, h => by
   simp only [mSV] at h
   split at h
   . exact ⟨_, _, h, .same fun _ hx => by simpa [rel] using hx⟩
   . cases h with
     | req hp h => subst hp; exact ⟨_, _, h, .same fun _ hx => by simpa [rel] using hx⟩
   . cases h with
     | req hp h => exact ⟨_, _, h, .same fun _ hx => by simp only [rel] at hx ⊢; obtain ⟨b, e, hb⟩ := hx; rw [e, hb.2 hp]⟩
   . cases h
 | .ff, ρ, c, f, R, v, os, k, h => by
   simp only [mSV] at h
   split at h
   . exact ⟨_, _, h, .same fun _ hx => by simpa [rel] using hx⟩
   . cases h with
     | req hp h => subst hp; exact ⟨_, _, h, .same fun _ hx => by simpa [rel] using hx⟩
   . cases h with
     | req hp h => exact ⟨_, _, h, .same fun _ hx => by
      simp only [rel] at hx ⊢; obtain ⟨b, e, hb⟩ := hx
      cases b with
      | true => exact absurd (hb.1 rfl) hp
      | false => exact e⟩
   . cases h
 | .str s, ρ, c, f, R, v, os, k, h => by
   simp only [mSV] at h
   split at h
   . cases h with
     | req hp h => subst hp; exact ⟨_, _, h, .same fun _ hx => by simpa [rel] using hx⟩
   . cases h
 | .val x, ρ, c, f, R, v, os, k, h => by
   simp only [mSV] at h
   split at h
   . cases h with
     | req hp h => subst hp; exact ⟨_, _, h, .same fun _ hx => by simpa [rel] using hx⟩
   . cases h
 | .rd p, ρ, c, f, R, v, os, k, h => by
   simp only [mSV] at h
   split at h
   . cases h with
     | req hp h => subst hp; exact ⟨_, _, h, .same fun hs hx => by simp only [rel] at hx ⊢; exact zhK hs (fun _ _ => rfl) _ _ hx⟩
   . rename_i j st len
     cases h with
     | rO h =>
       dsimp only at h
       split at h
       . rename_i s L hgo
         cases h with
         | req hp h =>
           refine ⟨_, _, h, ⟨fun _ _ e => e, fun _ e => List.mem_cons_of_mem _ e⟩, id, fun ρ2 l2 β own S w Sp F sp x hx => ?_⟩
           obtain ⟨hp, hle⟩ := hp
           subst hp
           simp only [rel] at hx ⊢
           exact ziC F.mem F.sub (r := .inr L) hgo (F.bor j (l2.b _ (by simp)) (by simp [hgo])) (.inr rfl) (by simpa [rel] using hx) hle
       . rename_i s M hgo
         split at h
         . rename_i L hM
           cases h with
           | req hp h =>
             refine ⟨_, _, h, ⟨fun _ _ e => e, fun _ e => List.mem_cons_of_mem _ e⟩, id, fun ρ2 l2 β own S w Sp F sp x hx => ?_⟩
             obtain ⟨hp, hle⟩ := hp
             subst hp
             simp only [rel] at hx ⊢
             exact ziC F.mem F.sub (r := .inl M) hgo (F.bor j (l2.b _ (by simp)) (by simp [hgo])) (.inl ⟨M, rfl, hM⟩) (by simpa [rel] using hx) hle
         . cases h
       . cases h
   . rename_i j idx sub
     cases h with
     | rO h =>
       dsimp only at h
       split at h
       . rename_i cs hgo
         split at h
         . rename_i ps hps
           cases h with
           | req hp h =>
             refine ⟨_, _, h, ⟨fun _ _ e => e, fun _ e => List.mem_cons_of_mem _ e⟩, id, fun ρ2 l2 β own S w Sp F sp x hx => ?_⟩
             subst hp
             obtain ⟨b, off, arr, T, fz, h1, rfl, h2⟩ := zjW F.mem F.sub hgo (F.bor j (l2.b _ (by simp)) (by simp [hgo])) hps hx
             simp only [rel, zaY]
             exact ⟨b, 0, arr, T, fz, h1, h2⟩
         . cases h
       . cases h
   . split at h
     . cases h with
       | req hp h => subst hp; exact ⟨_, _, h, .same fun hs hx => by
        simp only [rel, zaY] at hx ⊢
        obtain ⟨b, off, arr, T, fz, h1, h2, h3, h4⟩ := hx
        exact ⟨b, off, arr, T, fz, by simpa using h1, hs b h2, h3, zcY hs (fun _ _ => rfl) _ _ h4⟩⟩
     . cases h
   . split at h
     . cases h with
       | req hp h =>
         obtain ⟨rfl, rfl⟩ := hp
         exact ⟨_, _, h, .same fun hs hx => by
          simp only [rel, zaY] at hx ⊢
          exact ⟨none, 0, by simpa using hx, by simp, fun hne => absurd rfl hne, fun _ => rfl⟩⟩
     . cases h
   . cases h
 | .rp cs sub, ρ, c, f, R, v, os, k, h => by
   simp only [mSV] at h
   split at h
   . cases h with
     | req hp h =>
       subst hp
       simp only [eqN] at h
       split at h
       . rename_i e
         have := Nat.eq_of_beq_eq_true e
         subst this
         exact ⟨_, _, h, .same fun hs hx => by
          simp only [rel] at hx ⊢
          obtain ⟨b, off, arr, T, fz, h1, h2, h3, h4⟩ := hx
          exact ⟨b, off, arr, T, fz, h1, hs b h2, h3, zcY hs (fun _ _ => rfl) _ _ h4⟩⟩
       . cases h
   . rename_i j idx sub'
     cases h with
     | rO h =>
       dsimp only at h
       split at h
       . rename_i cs' hgo
         split at h
         . rename_i ps hps
           cases h with
           | req hp h =>
             subst hp
             simp only [eqN] at h
             split at h
             . rename_i e
               have := Nat.eq_of_beq_eq_true e
               subst this
               refine ⟨_, _, h, ⟨fun _ _ e => e, fun _ e => List.mem_cons_of_mem _ e⟩, id, fun ρ2 l2 β own S w Sp F sp x hx => ?_⟩
               obtain ⟨b, off, arr, T, fz, h1, _, h2⟩ := zjW F.mem F.sub hgo (F.bor j (l2.b _ (by simp)) (by simp [hgo])) hps hx
               simp only [rel]
               exact ⟨b, off, arr, T, fz, h1, h2⟩
             . cases h
         . cases h
       . cases h
   . cases h
 | .ra s L, ρ, c, f, R, v, os, k, h => by
   simp only [mSV] at h
   split at h
   . cases h with
     | req hp h =>
       obtain ⟨rfl, rfl⟩ := hp
       exact ⟨_, _, h, .same fun hs hx => by
        simp only [rel] at hx ⊢
        obtain ⟨b, off, arr, T, fz, h1, h2, h3, h4⟩ := hx
        exact ⟨b, off, arr, T, fz, h1, hs b h2, h3, zbo hs (fun _ _ => rfl) _ _ _ h4⟩⟩
   . cases h
 | .ptr i idx sub, ρ, c, f, R, v, os, k, h => by
   simp only [mSV] at h
   split at h
   . rename_i j idx' sub'
     obtain ⟨ρ1, R1, h1, l1, i1, e1⟩ := zdB h
     cases h1 with
     | req hp h1 =>
       obtain ⟨rfl, rfl⟩ := hp
       refine ⟨ρ1, _, h1, l1, i1, fun ρ2 l2 β own S w Sp F sp x hx => ?_⟩
       simp only [rel] at hx ⊢
       rw [zc6 (l2.m _ _ e1)]
       exact hx
   . cases h
 | .slc i st len, ρ, c, f, R, v, os, k, h => by
   simp only [mSV] at h
   split at h
   . rename_i j st' len'
     obtain ⟨ρ1, R1, h1, l1, i1, e1⟩ := zdB h
     cases h1 with
     | req hp h1 =>
       obtain ⟨rfl, rfl⟩ := hp
       refine ⟨ρ1, _, h1, l1, i1, fun ρ2 l2 β own S w Sp F sp x hx => ?_⟩
       simp only [rel] at hx ⊢
       rw [zc6 (l2.m _ _ e1)]
       exact hx
   . obtain ⟨ρ1, R1, h1, l1, i1, e1⟩ := zdB h
     cases h1 with
     | req hp h1 =>
       obtain ⟨rfl, rfl, rfl⟩ := hp
       refine ⟨ρ1, _, h1, l1, i1, fun ρ2 l2 β own S w Sp F sp x hx => ?_⟩
       simp only [rel] at hx ⊢
       rw [zod (l2.m _ _ e1)]
       exact ⟨_, rfl, by simp [zba, hx]⟩
   . cases h
 | .slx i st len, ρ, c, f, R, v, os, k, h => by
   simp only [mSV] at h
   split at h
   . rename_i j st' len'
     obtain ⟨ρ1, R1, h1, l1, i1, e1⟩ := zdB h
     cases h1 with
     | req hp h1 =>
       obtain ⟨rfl, rfl⟩ := hp
       refine ⟨ρ1, _, h1, l1, i1, fun ρ2 l2 β own S w Sp F sp x hx => ?_⟩
       simp only [rel] at hx ⊢
       rw [zc6 (l2.m _ _ e1)]
       exact hx
   . cases h
 | .fex p, ρ, c, f, R, v, os, k, h => by
   simp only [mSV] at h
   split at h
   . cases h with
     | req hp h => exact ⟨_, _, h, .same fun _ hx => by
      simp only [rel] at hx ⊢
      exact ⟨_, fun _ _ => by simp only [zaY]; exact hx, hp⟩⟩
   . cases h with
     | req hp h => exact ⟨_, _, h, .same fun _ hx => by
      simp only [rel] at hx ⊢
      exact ⟨_, fun _ _ => by simp only [zaY]; exact hx, hp⟩⟩
   . cases h with
     | req hp h => exact ⟨_, _, h, .same fun _ hx => by
      simp only [rel] at hx ⊢
      exact ⟨_, fun _ _ => by simp only [zaY]; exact hx, hp⟩⟩
   . cases h with
     | req hp h => exact ⟨_, _, h, .same fun _ hx => by
      simp only [rel] at hx ⊢
      exact ⟨_, fun _ _ => by simp only [zaY]; exact hx, hp⟩⟩
   . cases h with
     | req hp h => exact ⟨_, _, h, .same fun _ hx => by
      simp only [rel] at hx ⊢
      obtain ⟨b, hv, hb⟩ := hx
      exact ⟨.bool b, fun _ _ => by simp only [zaY]; exact hv, hp b hb⟩⟩
   . cases h with
     | req hp h => exact ⟨_, _, h, .same fun _ hx => by
      simp only [rel] at hx ⊢
      obtain ⟨y, hv, hy⟩ := hx
      exact ⟨y, hv, hp y hy⟩⟩
   . cases h
 | .gn i, ρ, c, f, R, v, os, k, h => by
   simp only [mSV] at h
   split at h
   . rename_i j
     obtain ⟨ρ1, R1, h1, l1, i1, e1⟩ := zdB h
     refine ⟨ρ1, _, h1, l1, i1, fun ρ2 l2 β own S w Sp F sp x hx => ?_⟩
     simp only [rel] at hx ⊢
     rw [zc6 (l2.m _ _ e1)]
     exact hx
   . cases h
 | .mp i, ρ, c, f, R, v, os, k, h => by
   simp only [mSV] at h
   split at h
   . rename_i j
     obtain ⟨ρ1, R1, h1, l1, i1, e1⟩ := zdB h
     refine ⟨ρ1, _, h1, l1, i1, fun ρ2 l2 β own S w Sp F sp x hx => ?_⟩
     simp only [rel] at hx ⊢
     rw [zc6 (l2.m _ _ e1)]
     exact hx
   . cases h
 | .fn g a b, ρ, c, f, R, v, os, k, h => by
   simp only [mSV] at h
   split at h
   . cases h with
     | req hp h =>
       subst hp
       obtain ⟨ρ1, R1, h1, l1, i1, m1⟩ := zdC a h
       obtain ⟨ρ2, R2, h2, l2, i2, m2⟩ := zdC b h1
       refine ⟨ρ2, R2, h2, l1.trans l2, fun e => i2 (i1 e), fun ρ3 l3 β own S w Sp F sp x hx => ?_⟩
       simp only [rel] at hx ⊢
       obtain ⟨xs, ys, e, q1, q2⟩ := hx
       exact ⟨xs, ys, e, m1 ρ3 (l2.trans l3) F sp _ q1, m2 ρ3 l3 F sp _ q2⟩
   . cases h
 | .ifc t y, ρ, c, f, R, v, os, k, h => by
   simp only [mSV] at h
   split at h
   . cases h with
     | req hp h =>
       subst hp
       obtain ⟨ρ1, R1, h1, l1, i1, m1⟩ := zdV y h
       refine ⟨ρ1, R1, h1, l1, i1, fun ρ3 l3 β own S w Sp F sp x hx => ?_⟩
       simp only [rel] at hx ⊢
       obtain ⟨z, e, q1⟩ := hx
       exact ⟨z, e, m1 ρ3 l3 F sp _ q1⟩
   . cases h
 | .agg ps, ρ, c, f, R, v, os, k, h => by
   simp only [mSV] at h
   split at h
   . split at h
     . rename_i hf
       cases h with
       | req hp h =>
         subst hp
         refine ⟨_, _, h, .refl _, id, fun ρ3 l3 β own S w Sp F sp x hx => ?_⟩
         simp only [rel] at hx ⊢
         obtain ⟨xs, e, q1⟩ := hx
         exact ⟨xs, e, zgu hf q1⟩
     . obtain ⟨ρ1, R1, h1, l1, i1, m1⟩ := zdC ps h
       refine ⟨ρ1, R1, h1, l1, i1, fun ρ3 l3 β own S w Sp F sp x hx => ?_⟩
       simp only [rel] at hx ⊢
       obtain ⟨xs, e, q1⟩ := hx
       exact ⟨xs, e, m1 ρ3 l3 F sp _ q1⟩
   . cases h
 | .tup ps, ρ, c, f, R, v, os, k, h => by
   simp only [mSV] at h
   split at h
   . obtain ⟨ρ1, R1, h1, l1, i1, m1⟩ := zdC ps h
     refine ⟨ρ1, R1, h1, l1, i1, fun ρ3 l3 β own S w Sp F sp x hx => ?_⟩
     simp only [rel] at hx ⊢
     obtain ⟨xs, e, q1⟩ := hx
     exact ⟨xs, e, m1 ρ3 l3 F sp _ q1⟩
   . cases h
theorem zdC : ∀ (ps : List SV) {ρ : Ren} {cs : List SV} {f : Ren -> RT} {R v os k}, (zfU ρ ps cs f).Runs gt go R v os k -> ∃ ρ' R', (f ρ').Runs gt go R' v os k /\ zDS go ρ ρ' ps cs
 | [], ρ, cs, f, R, v, os, k, h => by
   simp only [zfU] at h
   split at h
   . exact ⟨_, _, h, .refl _, id, fun _ _ _ _ _ _ _ _ _ xs hx => by simpa [zal] using hx⟩
   . cases h
 | p :: ps, ρ, cs, f, R, v, os, k, h => by
   simp only [zfU] at h
   split at h
   . cases h
   . obtain ⟨ρ1, R1, h1, l1, i1, m1⟩ := zdV p h
     obtain ⟨ρ2, R2, h2, l2, i2, m2⟩ := zdC ps h1
     refine ⟨ρ2, R2, h2, l1.trans l2, fun e => i2 (i1 e), fun ρ3 l3 β own S w Sp F sp xs hx => ?_⟩
     simp only [zal] at hx ⊢
     obtain ⟨x, r, e, q1, q2⟩ := hx
     exact ⟨x, r, e, m1 ρ3 (l2.trans l3) F sp _ q1, m2 ρ3 l3 F sp _ q2⟩
end
end
end Go.Sx
namespace Go.Sx
open Go
theorem zny {β β' : Nat -> Option zaz} {w S Sp} (hs : ∀ b, S b -> Sp b) {p : PV} {x : Value} (h : rel β w S p.sv x) : rel β' w Sp p.sv x := by
 cases p <;> simp only [PV.sv, rel] at h ⊢ <;> try exact h
 case sl => exact zhK hs (fun _ _ => rfl) _ _ h
 case pt =>
  obtain ⟨b, off, arr, T, fz, h1, h2, h3, h4⟩ := h
  exact ⟨b, off, arr, T, fz, h1, hs b h2, h3, zcY hs (fun _ _ => rfl) _ _ h4⟩
theorem zlQ {β β' : Nat -> Option zaz} {w S Sp} (hs : ∀ b, S b -> Sp b) : ∀ {l : List PV} {xs : List Value}, zal β w S (l.map PV.sv) xs -> zal β' w Sp (l.map PV.sv) xs
 | [], xs, h => by simpa [zal] using h
 | p :: l, xs, h => by
   simp only [List.map, zal] at h ⊢
   obtain ⟨x, r, e, h1, h2⟩ := h
   exact ⟨x, r, e, zny hs h1, zlQ hs h2⟩
theorem zga {β β' : Nat -> Option zaz} {w S Sp} (hs : ∀ b, S b -> Sp b) {one : Bool} {l : List PV} {x : Value} (h : rel β w S (zaX one l) x) : rel β' w Sp (zaX one l) x := by
 unfold zaX at h ⊢
 cases one with
 | true =>
   cases l with
   | nil => simp [rel]
   | cons p l => exact zny hs h
 | false =>
   simp only [rel] at h ⊢
   obtain ⟨xs, e, h⟩ := h
   exact ⟨xs, e, zlQ hs h⟩
theorem zel {β β' : Nat -> Option zaz} {w S Sp} (hs : ∀ b, S b -> Sp b) {M : zaj} : ∀ {es : List (M.κ × M.ν)} {l : List MapEntry}, za4 β w S M es l -> za4 β' w Sp M es l
 | [], l, h => by simpa [za4] using h
 | (k, v) :: es, l, h => by
   simp only [za4] at h ⊢
   obtain ⟨m, r, e, h1, h2, h3⟩ := h
   exact ⟨m, r, e, zga hs h1, zga hs h2, zel hs h3⟩
theorem zhU {β β' : Nat -> Option zaz} {w S Sp} (hs : ∀ b, S b -> Sp b) {M : zaj} {V V' : M.κ -> M.ν -> MapEntry -> Prop} (hV : ∀ k v m, V k v m -> V' k v m) : ∀ {es : List (M.κ × M.ν)} {l : List MapEntry}, zbz β w S M V es l -> zbz β' w Sp M V' es l
 | [], l, h => by simpa [zbz] using h
 | (k, v) :: es, l, h => by
   simp only [zbz] at h ⊢
   obtain ⟨m, r, h1, h2, h3, h4⟩ := h
   exact ⟨m, r, h1, zga hs h2, hV _ _ _ h3, zhU hs hV h4⟩
theorem zra {β β' : Nat -> Option zaz} {w S Sp} (hs : ∀ b, S b -> Sp b) {M : zaj} {sub : M.ν -> Sub} {G : M.κ -> zaz × (Nat -> Prop)} {F : Nat -> Prop} {b : Nat} {es : List (M.κ × M.ν)} {l : List MapEntry}
 (h : zbz β w S M (zco β w S M sub G F b none) es l) : zbz β' w Sp M (zco β' w Sp M sub G F b none) es l :=
  zhU hs (fun k v m hv => by
   obtain ⟨_, h2⟩ := hv
   refine ⟨fun j g e => ?_, fun e => ?_⟩
   . cases e
   . obtain ⟨q1, q2, q3⟩ := h2 e
     exact ⟨q1, q2.ext hs (fun _ _ => rfl) (fun _ _ => rfl), q3⟩) h
section
variable {gt : GT} {go : GO} {R : List Loc} {v : Option SV} {os : List (Nat × Option SO)} {k : Nat}
theorem zlN (s : Nat) : ∀ (ps : List (List SV)) {ρ : Ren} {cs : List (List SV)} {f : Ren -> RT} {R v os k}, (zkJ ρ ps cs f).Runs gt go R v os k -> ∃ ρ' R', (f ρ').Runs gt go R' v os k /\ ρ.le ρ' /\ (ρ.inj -> ρ'.inj) /\ ps.length = cs.length ∧
 ∀ ρ2, ρ'.le ρ2 -> ∀ {β own S w Sp}, Fit go ρ2 β own S w Sp -> ∀ sp xs, zaZ β w S s cs xs -> zaZ (bOf ρ2 β sp) w Sp s ps xs
  | [], ρ, cs, f, R, v, os, k, h => by
    simp only [zkJ] at h
    split at h
    . exact ⟨_, _, h, .refl _, id, rfl, fun _ _ _ _ _ _ _ _ _ xs hx => by simp [zaZ]⟩
    . cases h
  | p :: ps, ρ, cs, f, R, v, os, k, h => by
    simp only [zkJ] at h
    split at h
    . cases h
    . rename_i c cs
      obtain ⟨ρ1, R1, h1, l1, i1, m1⟩ := zdC p h
      obtain ⟨ρ2, R2, h2, l2, i2, e2, m2⟩ := zlN s ps h1
      refine ⟨ρ2, R2, h2, l1.trans l2, fun e => i2 (i1 e), by simp [e2], fun ρ3 l3 β own S w Sp F sp xs hx => ?_⟩
      simp only [zaZ] at hx ⊢
      obtain ⟨q1, q2, q3⟩ := hx
      have q4 := m1 ρ3 (l2.trans l3) F sp _ q2
      exact ⟨by have := zaM _ _ q2; have := zaM _ _ q4; omega, q4, m2 ρ3 l3 F sp _ q3⟩
def OOk (go : GO) (ρ ρ' : Ren) (p c : SO) : Prop :=
 ρ.le ρ' /\ (ρ.inj -> ρ'.inj) /\ ∀ ρ2, ρ'.le ρ2 -> ∀ {β own S w Sp}, Fit go ρ2 β own S w Sp -> ∀ sp B F, za5 β w S B F c -> za5 (bOf ρ2 β sp) w Sp B F p
theorem zu9 {p c : SO} {ρ : Ren} {f : Ren -> RT} (h : (mSO ρ p c f).Runs gt go R v os k) : ∃ ρ' R', (f ρ').Runs gt go R' v os k /\ OOk go ρ ρ' p c := by
 cases p with
 | row ps =>
   simp only [mSO] at h
   split at h
   . split at h
     . rename_i hf
       cases h with
       | req hp h =>
         subst hp
         refine ⟨_, _, h, .refl _, id, fun ρ2 l2 β own S w Sp Ft sp B F ho => ?_⟩
         obtain ⟨b, arr, T, q1, q2, q3, q4, q5, q6⟩ := ho
         exact ⟨b, arr, T, q1, q2, q3, q4, q5, zgu hf q6⟩
     obtain ⟨ρ1, R1, h1, l1, i1, m1⟩ := zdC ps h
     refine ⟨ρ1, R1, h1, l1, i1, fun ρ2 l2 β own S w Sp Ft sp B F ho => ?_⟩
     obtain ⟨b, arr, T, q1, q2, q3, q4, q5, q6⟩ := ho
     have q7 := m1 ρ2 l2 Ft sp _ q6
     exact ⟨b, arr, T, q1, by rw [q2, <- zaM _ _ q6, zaM _ _ q7], q3, q4, q5, q7⟩
   . cases h
 | vec s L =>
   simp only [mSO] at h
   split at h
   . cases h with
     | req hp h =>
       obtain ⟨rfl, rfl⟩ := hp
       refine ⟨_, _, h, .refl _, id, fun ρ2 l2 β own S w Sp Ft sp B F ho => ?_⟩
       rcases ho with ho | ⟨b, arr, T, q1, q2, q3, q4, q5, q6, q7⟩
       . exact .inl ho
       . exact .inr ⟨b, arr, T, q1, q2, q3, q4, q5, q6, zbo Ft.sub (fun _ _ => rfl) _ _ _ q7⟩
   . split at h
     . rename_i s' M L' hM
       cases h with
       | req hp h =>
         obtain ⟨rfl, rfl⟩ := hp
         refine ⟨_, _, h, .refl _, id, fun ρ2 l2 β own S w Sp Ft sp B F ho => ?_⟩
         rcases ho with ⟨q1, rfl, q3, q4, q5⟩ | ⟨b, arr, T, q1, q2, q3, q4, q5, q6, q7⟩
         . simp only [zfr, Option.some.injEq] at hM
           subst hM
           exact .inl ⟨q1, rfl, q3, q4, q5⟩
         . obtain ⟨q8, q9⟩ := zf3 s hM q7
           exact .inr ⟨b, arr, T, q1, q2, q3, q4, q5, by omega, zbo Ft.sub (fun _ _ => rfl) _ _ _ q8⟩
     . cases h
   . cases h
 | arr s L =>
   simp only [mSO] at h
   split at h
   . cases h with
     | req hp h =>
       subst hp
       obtain ⟨ρ1, R1, h1, l1, i1, e1, m1⟩ := zlN s L h
       refine ⟨ρ1, R1, h1, l1, i1, fun ρ2 l2 β own S w Sp Ft sp B F ho => ?_⟩
       rcases ho with ⟨q1, rfl, q3, q4, q5⟩ | ⟨b, arr, T, q1, q2, q3, q4, q5, q6, q7⟩
       . exact .inl ⟨q1, List.length_eq_zero_iff.1 e1, q3, q4, q5⟩
       . exact .inr ⟨b, arr, T, q1, q2, q3, q4, q5, by omega, m1 ρ2 l2 Ft sp _ q7⟩
   . cases h
 | map M es it =>
   simp only [mSO] at h
   split at h
   . rename_i M' es' it'
     cases it with
     | none =>
       cases h with
       | req hp h =>
         refine ⟨_, _, h, .refl _, id, fun ρ2 l2 β own S w Sp Ft sp B F ho => ?_⟩
         rw [hp]
         obtain ⟨b, ents, clock, q1, q2, q3, q4, q5, _⟩ := ho
         exact ⟨b, ents, clock, q1, q2, q3, zel Ft.sub q4, q5, trivial⟩
     | some p =>
       obtain ⟨rid, left, cur⟩ := p
       cases it' with
       | none => cases h
       | some p' =>
         obtain ⟨rid', left', cur'⟩ := p'
         dsimp only at h
         obtain ⟨ρ1, R1, h, l1, i1, hl⟩ := zdB h
         cases h with
         | req hp h =>
           refine ⟨_, _, h, l1, i1, fun ρ2 l2 β own S w Sp Ft sp B F ho => ?_⟩
           rw [SO.map.injEq] at hp
           obtain ⟨rfl, he, hi⟩ := hp
           have he := eq_of_heq he
           subst he
           have hi := eq_of_heq hi
           simp only [Option.some.injEq, Prod.mk.injEq, true_and] at hi
           obtain ⟨rfl, rfl⟩ := hi
           obtain ⟨b, ents, clock, q1, q2, q3, q4, q5, B', r, seen, e1, e2⟩ := ho
           exact ⟨b, ents, clock, q1, q2, q3, zel Ft.sub q4, q5, B', r, seen, by rw [zc6 (l2.m _ _ hl)]; exact e1, e2⟩
   . cases h
 | itr i =>
   simp only [mSO] at h
   split at h
   . obtain ⟨ρ1, R1, h, l1, i1, hl⟩ := zdB h
     refine ⟨_, _, h, l1, i1, fun ρ2 l2 β own S w Sp Ft sp B F ho => ?_⟩
     obtain ⟨q1, Bi, q2⟩ := ho
     exact ⟨q1, Bi, by rw [zc6 (l2.m _ _ hl)]; exact q2⟩
   . cases h
 | lrec l r e =>
   simp only [mSO] at h
   split at h
   . cases h with
     | req hp h =>
       obtain ⟨rfl, rfl, rfl⟩ := hp
       exact ⟨_, _, h, .refl _, id, fun ρ2 l2 β own S w Sp Ft sp B F ho => ho⟩
   . cases h
 | vex s q =>
   simp only [mSO] at h
   split at h
   . cases h with
     | req hp h =>
       obtain ⟨rfl, hq⟩ := hp
       refine ⟨_, _, h, .refl _, id, fun ρ2 l2 β own S w Sp Ft sp B F ho => ⟨_, hq, ?_⟩⟩
       rcases ho with ho | ⟨b, arr, T, q1, q2, q3, q4, q5, q6, q7⟩
       . exact .inl ho
       . exact .inr ⟨b, arr, T, q1, q2, q3, q4, q5, q6, zbo Ft.sub (fun _ _ => rfl) _ _ _ q7⟩
   . split at h
     . rename_i s' M L' hM
       cases h with
       | req hp h =>
         obtain ⟨rfl, hq⟩ := hp
         refine ⟨_, _, h, .refl _, id, fun ρ2 l2 β own S w Sp Ft sp B F ho => ⟨_, hq, ?_⟩⟩
         rcases ho with ⟨q1, rfl, q3, q4, q5⟩ | ⟨b, arr, T, q1, q2, q3, q4, q5, q6, q7⟩
         . simp only [zfr, Option.some.injEq] at hM
           subst hM
           exact .inl ⟨q1, rfl, q3, q4, q5⟩
         . obtain ⟨q8, q9⟩ := zf3 s hM q7
           exact .inr ⟨b, arr, T, q1, q2, q3, q4, q5, by omega, zbo Ft.sub (fun _ _ => rfl) _ _ _ q8⟩
     . cases h
   . cases h with
     | req hp h =>
       obtain ⟨rfl, hq⟩ := hp
       refine ⟨_, _, h, .refl _, id, fun ρ2 l2 β own S w Sp Ft sp B F ho => ?_⟩
       obtain ⟨L, hL, ho⟩ := ho
       exact ⟨L, hq L hL, ho.ext Ft.sub (fun _ _ => rfl) (fun _ _ => rfl)⟩
   . cases h
 | mapE M es k g => simp only [mSO] at h; cases h
 | fam M sub es hh =>
   simp only [mSO] at h
   split at h
   . split at h
     . rename_i M' sub' es'
       cases h with
       | req hp h =>
         refine ⟨_, _, h, .refl _, id, fun ρ2 l2 β own S w Sp Ft sp B F ho => ?_⟩
         rw [hp]
         obtain ⟨b, ents, clock, q1, q2, q3, q4, G, q5, q6⟩ := ho
         exact ⟨b, ents, clock, q1, q2, q3, q4, G, zra Ft.sub q5, q6⟩
     . cases h
   . cases h
def OIs (go : GO) (ρ : Ren) (i : Nat) (o : SO) : Prop :=
 (∃ j c, zao i ρ.m = some (some j) /\ go j = some c /\ ∀ ρ2, ρ.le ρ2 -> ∀ {β own S w Sp}, Fit go ρ2 β own S w Sp -> ∀ sp B F, za5 β w S B F c -> za5 (bOf ρ2 β sp) w Sp B F o) ∨
 (zao i ρ.m = some none /\ ∃ r s, o = zai.so s r /\ r.len = 0)
theorem OIs.mono {go ρ ρ' i o} (h : OIs go ρ i o) (l : ρ.le ρ') : OIs go ρ' i o := by
 rcases h with ⟨j, c, h1, h2, h3⟩ | ⟨h1, h2⟩
 . exact .inl ⟨j, c, l.m _ _ h1, h2, fun ρ2 l2 => h3 ρ2 (l.trans l2)⟩
 . exact .inr ⟨l.m _ _ h1, h2⟩
theorem zdF : ∀ (l : List (Nat × SO)) {ρ : Ren} {f : Ren -> RT} {R v os k}, (zgh ρ l f).Runs gt go R v os k -> ∃ ρ' R', (f ρ').Runs gt go R' v os k /\ ρ.le ρ' /\ (ρ.inj -> ρ'.inj) /\ ∀ p ∈ l, OIs go ρ' p.1 p.2
 | [], ρ, f, R, v, os, k, h => ⟨ρ, _, h, .refl _, id, fun p hp => by cases hp⟩
 | (i, o) :: l, ρ, f, R, v, os, k, h => by
   simp only [zgh] at h
   split at h
   . cases h
   . rename_i hl
     have key : ∀ {r : RT}, (zki o r).Runs gt go R v os k -> r.Runs gt go R v os k /\ ∃ q s, o = zai.so s q /\ q.len = 0 := by
      intro r h
      cases o with
      | vec s L => simp only [zki] at h; cases h with | req hp h => exact ⟨h, .inr L, s, rfl, by simp [zai.len, hp]⟩
      | arr s L =>
        simp only [zki] at h
        split at h
        . exact ⟨h, .inl [], s, rfl, rfl⟩
        . cases h
      | _ => simp only [zki] at h; cases h
     obtain ⟨h, hq⟩ := key h
     obtain ⟨ρ1, R1, h1, l1, i1, m1⟩ := zdF l h
     refine ⟨ρ1, R1, h1, l1, i1, fun p hp => ?_⟩
     rcases List.mem_cons.1 hp with rfl | hp
     . exact .inr ⟨l1.m _ _ hl, hq⟩
     . exact m1 p hp
   . rename_i j hl
     cases h with
     | rO h =>
       dsimp only at h
       split at h
       . rename_i c hgo
         obtain ⟨ρ1, R1, h1, l1, i1, m1⟩ := zu9 h
         obtain ⟨ρ2, R2, h2, l2, i2, m2⟩ := zdF l h1
         refine ⟨ρ2, R2, h2, l1.trans l2, fun e => i2 (i1 e), fun p hp => ?_⟩
         rcases List.mem_cons.1 hp with rfl | hp
         . exact .inl ⟨j, c, (l1.trans l2).m _ _ hl, hgo, fun ρ3 l3 => m1 ρ3 (l2.trans l3)⟩
         . exact m2 p hp
       . cases h
end
def zgL (go : GO) (ρ : Ren) (own : Nat -> Nat -> Prop) : Nat -> Prop := fun b => ∃ j, j ∈ ρ.bor /\ (go j).isSome /\ own j b
theorem zeT {go ρ β own S w} (h : zaw β own S go w) : Fit go ρ β own S w (fun b => S b \/ zgL go ρ own b) :=
 ⟨h, fun _ e => .inl e, fun j hj hs _ hb => .inr ⟨j, hj, hs, hb⟩⟩
theorem zl4 {go : GO} {ρ : Ren} {β own S w} (h : zaw β own S go w) (hinj : ρ.inj) (l : List (Nat × SO)) (hl : ∀ p ∈ l, OIs go ρ p.1 p.2)
 (hb : ∀ i j, zao i ρ.m = some (some j) -> j ∉ ρ.bor) {sp : Nat -> Nat} (hsp : ∀ i o, zao i l = some o -> zao i ρ.m = some none -> ∀ r s, o = zai.so s r -> r.len = 0 -> sp i = s) :
 zaw (bOf ρ β sp) (zcc ρ own) (fun b => S b \/ zgL go ρ own b) (fun i => zao i l) w := by
  have hown : ∀ i j, zao i ρ.m = some (some j) -> zcc ρ own i = own j := fun i j e => by simp [zcc, e]
  have hown0 : ∀ i, zao i ρ.m = some none -> zcc ρ own i = fun _ => False := fun i e => by simp [zcc, e]
  refine ⟨fun i o e => ?_, fun i i' b hne hi hi' => ?_, fun i b hi => ?_, fun b hb => ?_⟩
  . rcases hl _ (zcn e) with ⟨j, c, h1, h2, h3⟩ | ⟨h1, r, s, h2, h3⟩
    . obtain ⟨B, hB, ho⟩ := h.obj j c h2
      refine ⟨B, by rw [zc6 h1]; exact hB, ?_⟩
      rw [hown i j h1]
      exact h3 ρ (.refl _) (zeT h) sp B _ ho
    . refine ⟨_, zod h1, ?_⟩
      simp only at h1 h2
      subst h2
      rw [hown0 i h1, hsp i _ e h1 r s rfl h3]
      exact zm8 h3
  . obtain ⟨o, ho⟩ := Option.isSome_iff_exists.1 hi
    obtain ⟨o', ho'⟩ := Option.isSome_iff_exists.1 hi'
    rcases hl _ (zcn ho) with ⟨j, c, h1, h2, _⟩ | ⟨h1, _⟩
    . rcases hl _ (zcn ho') with ⟨j', c', h1', h2', _⟩ | ⟨h1', _⟩
      . rw [hown i j h1, hown i' j' h1']
        exact h.sep j j' b (fun e => by subst e; exact hne (hinj i i' j h1 h1')) (by simp [h2]) (by simp [h2'])
      . rw [hown0 i' h1']; exact fun _ e => e
    . rw [hown0 i h1]; exact fun e => e.elim
  . obtain ⟨o, ho⟩ := Option.isSome_iff_exists.1 hi
    rcases hl _ (zcn ho) with ⟨j, c, h1, h2, _⟩ | ⟨h1, _⟩
    . rw [hown i j h1]
      rintro e (e' | ⟨j', hj', hs', e'⟩)
      . exact h.st j b (by simp [h2]) e e'
      . exact h.sep j j' b (fun q => by subst q; exact hb i j h1 hj') (by simp [h2]) hs' e e'
    . rw [hown0 i h1]; exact fun e => e.elim
  . rcases hb with e | ⟨j, _, hs, e⟩
    . exact h.sz b e
    . obtain ⟨c, hc⟩ := Option.isSome_iff_exists.1 hs
      obtain ⟨B, _, ho⟩ := h.obj j c hc
      exact ho.lt b e
mutual
theorem zlf {β β' : Nat -> Option zaz} {w S} {σ : Nat -> Nat} (hσ : ∀ i B, β i = some B -> β' (σ i) = some B) : ∀ (s : SV) (x : Value), rel β w S s x -> rel β' w S (s.ren σ) x
 | .any, _, _ => by simp [SV.ren, rel]
 | .int _ _, _, h => by simpa [SV.ren, rel] using h
 | .bool _, _, h => by simpa [SV.ren, rel] using h
 | .pr _, _, h => by simpa [SV.ren, rel] using h
 | .tt, _, h => by simpa [SV.ren, rel] using h
 | .ff, _, h => by simpa [SV.ren, rel] using h
 | .str _, _, h => by simpa [SV.ren, rel] using h
 | .val _, _, h => by simpa [SV.ren, rel] using h
 | .rd _, _, h => by simpa [SV.ren, rel] using h
 | .rp _ _, _, h => by simpa [SV.ren, rel] using h
 | .ra _ _, _, h => by simpa [SV.ren, rel] using h
 | .ptr i a b, x, h => by
   simp only [SV.ren, rel] at h ⊢
   obtain ⟨B, b, h1, h2⟩ := h
   exact ⟨B, b, hσ _ _ h1, h2⟩
 | .slc i a b, x, h => by
   simp only [SV.ren, rel] at h ⊢
   obtain ⟨B, h1, h2⟩ := h
   exact ⟨B, hσ _ _ h1, h2⟩
 | .slx i a b, x, h => by
   simp only [SV.ren, rel] at h ⊢
   obtain ⟨B, b, h1, h2⟩ := h
   exact ⟨B, b, hσ _ _ h1, h2⟩
 | .fex p, x, h => by simpa [SV.ren, rel] using h
 | .gn i, x, h => by
   simp only [SV.ren, rel] at h ⊢
   obtain ⟨B, h1, h2⟩ := h
   exact ⟨B, hσ _ _ h1, h2⟩
 | .mp i, x, h => by
   simp only [SV.ren, rel] at h ⊢
   obtain ⟨B, b, h1, h2⟩ := h
   exact ⟨B, b, hσ _ _ h1, h2⟩
 | .fn f a c, x, h => by
   simp only [SV.ren, rel] at h ⊢
   obtain ⟨xs, ys, e, h1, h2⟩ := h
   exact ⟨xs, ys, e, zec hσ a _ h1, zec hσ c _ h2⟩
 | .ifc t s, x, h => by
   simp only [SV.ren, rel] at h ⊢
   obtain ⟨y, e, h1⟩ := h
   exact ⟨y, e, zlf hσ s y h1⟩
 | .agg cs, x, h => by
   simp only [SV.ren, rel] at h ⊢
   obtain ⟨xs, e, h1⟩ := h
   exact ⟨xs, e, zec hσ cs _ h1⟩
 | .tup cs, x, h => by
   simp only [SV.ren, rel] at h ⊢
   obtain ⟨xs, e, h1⟩ := h
   exact ⟨xs, e, zec hσ cs _ h1⟩
theorem zec {β β' : Nat -> Option zaz} {w S} {σ : Nat -> Nat} (hσ : ∀ i B, β i = some B -> β' (σ i) = some B) : ∀ (l : List SV) (xs : List Value), zal β w S l xs -> zal β' w S (zft σ l) xs
 | [], _, h => by simpa [zft, zal] using h
 | s :: l, xs, h => by
   simp only [zft, zal] at h ⊢
   obtain ⟨x, r, e, h1, h2⟩ := h
   exact ⟨x, r, e, zlf hσ s x h1, zec hσ l r h2⟩
end
theorem zgw (σ : Nat -> Nat) : ∀ (l : List SV), (zft σ l).length = l.length
 | [] => rfl
 | _ :: l => by simp [zft, zgw σ l]
theorem zh2 (σ : Nat -> Nat) : ∀ (l : List (List SV)), (zho σ l).length = l.length
 | [] => rfl
 | _ :: l => by simp [zho, zh2 σ l]
theorem zmw {β β' : Nat -> Option zaz} {w S} {σ : Nat -> Nat} (hσ : ∀ i B, β i = some B -> β' (σ i) = some B) (s : Nat) : ∀ (l : List (List SV)) (xs : List Value), zaZ β w S s l xs -> zaZ β' w S s (zho σ l) xs
 | [], _, _ => by simp [zho, zaZ]
 | e :: l, xs, h => by
   simp only [zho, zaZ] at h ⊢
   exact ⟨by rw [zgw]; exact h.1, zec hσ _ _ h.2.1, zmw hσ s l _ h.2.2⟩
theorem za5.ren {β β' : Nat -> Option zaz} {w S} {σ : Nat -> Nat} (hσ : ∀ i B, β i = some B -> β' (σ i) = some B) {B F o} (h : za5 β w S B F o) : za5 β' w S B F (o.ren σ) := by
 cases o with
 | row cs =>
   obtain ⟨b, arr, T, q1, q2, q3, q4, q5, q6⟩ := h
   exact ⟨b, arr, T, q1, by rw [zgw]; exact q2, q3, q4, q5, zec hσ _ _ q6⟩
 | vec s L => exact h
 | arr s L =>
   rcases h with ⟨q1, rfl, q3⟩ | ⟨b, arr, T, q1, q2, q3, q4, q5, q6, q7⟩
   . exact .inl ⟨q1, rfl, q3⟩
   . exact .inr ⟨b, arr, T, q1, q2, q3, q4, q5, by rw [zh2]; exact q6, zmw hσ s L _ q7⟩
 | map M es it =>
   obtain ⟨b, ents, clock, q1, q2, q3, q4, q5, q6⟩ := h
   refine ⟨b, ents, clock, q1, q2, q3, zel (fun _ e => e) q4, q5, ?_⟩
   cases it with
   | none => trivial
   | some p =>
     obtain ⟨rid, left, cur⟩ := p
     obtain ⟨B', r, seen, e1, e2⟩ := q6
     exact ⟨B', r, seen, hσ _ _ e1, e2⟩
 | itr i => obtain ⟨q1, Bi, q2⟩ := h; exact ⟨q1, Bi, hσ _ _ q2⟩
 | lrec l r e => exact h
 | vex s p => exact h
 | mapE M es k g =>
   obtain ⟨b, ents, clock, q1, q2, q3, q4, q5, i, m, v, Bg, q6, q7, q8, q9⟩ := h
   exact ⟨b, ents, clock, q1, q2, q3, zel (fun _ e => e) q4, q5, i, m, v, Bg, q6, q7, hσ _ _ q8, q9⟩
 | fam M sub es hh =>
   obtain ⟨b, ents, clock, q1, q2, q3, q4, G, q5, q6⟩ := h
   have hr : ∀ k, (∀ j g, (match hh with | none => none | some (k, j, g) => some (k, σ j, match g with | none => none | some g => some (σ g))) ≠ some (k, j, g)) -> ∀ j g, hh ≠ some (k, j, g) := by
    intro k h j g e
    subst e
    exact h _ _ rfl
   refine ⟨b, ents, clock, q1, q2, q3, q4, G, zhU (fun _ e => e) (fun k v m hv => ⟨fun j g e => ?_, fun e => hv.2 (hr k e)⟩) q5, fun k k' h1 h2 h3 h4 h5 => q6 k k' h1 h2 h3 (hr k h4) (hr k' h5)⟩
   cases hh with
   | none => cases e
   | some p =>
     obtain ⟨k0, j0, g0⟩ := p
     simp only [Option.some.injEq, Prod.mk.injEq] at e
     obtain ⟨rfl, rfl, rfl⟩ := e
     obtain ⟨⟨B1, r1, r2⟩, r3⟩ := hv.1 _ _ rfl
     refine ⟨⟨B1, hσ _ _ r1, r2⟩, fun i e => ?_⟩
     cases g0 with
     | none => cases e
     | some g0 =>
       cases e
       obtain ⟨B2, r4, r5⟩ := r3 _ rfl
       exact ⟨B2, hσ _ _ r4, r5⟩
theorem zlK {w S S'} {p : PV} (hf : p.flat) {x : Value} (h : zaY w S p x) : zaY w S' p x := by
 cases p <;> simp only [PV.flat] at hf <;> simpa only [zaY] using h
theorem zj4 {w S S'} : ∀ {ps : List PV} (_ : ∀ p ∈ ps, p.flat) {xs : List Value}, zaG w S ps xs -> zaG w S' ps xs
 | [], _, _, _ => by simp [zaG]
 | p :: ps, hf, xs, h => by
   simp only [zaG] at h ⊢
   obtain ⟨x, r, e, h1, h2⟩ := h
   exact ⟨x, r, e, zlK (hf p (by simp)) h1, zj4 (fun q hq => hf q (by simp [hq])) h2⟩
theorem zhJ {w S S'} (s : Nat) : ∀ {L : List (List PV)} (_ : ∀ e ∈ L, ∀ p ∈ e, p.flat) {xs : List Value}, zat w S s L xs -> zat w S' s L xs
 | [], _, _, _ => by simp [zat]
 | e :: L, hf, xs, h => by
   simp only [zat] at h ⊢
   exact ⟨h.1, zj4 (hf e (by simp)) h.2.1, zhJ s (fun q hq => hf q (by simp [hq])) h.2.2⟩
mutual
theorem zf6 {β : Nat -> Option zaz} {w S S'} : ∀ {s : SV} (_ : s.flat) {x : Value}, rel β w S s x -> rel β w S' s x
 | .any, _, _, _ => by simp [rel]
 | .int _ _, _, _, h => by simpa [rel] using h
 | .bool _, _, _, h => by simpa [rel] using h
 | .pr _, _, _, h => by simpa [rel] using h
 | .tt, _, _, h => by simpa [rel] using h
 | .ff, _, _, h => by simpa [rel] using h
 | .str _, _, _, h => by simpa [rel] using h
 | .val _, _, _, h => by simpa [rel] using h
 | .rd p, hf, _, h => by simp only [rel, SV.flat] at *; exact zlK hf h
 | .rp _ _, hf, _, _ => by simp [SV.flat] at hf
 | .ra _ _, hf, _, _ => by simp [SV.flat] at hf
 | .ptr _ _ _, _, _, h => by simpa [rel] using h
 | .slc _ _ _, _, _, h => by simpa [rel] using h
 | .slx _ _ _, _, _, h => by simpa [rel] using h
 | .gn _, _, _, h => by simpa [rel] using h
 | .fex _, _, _, h => by simpa [rel] using h
 | .mp _, _, _, h => by simpa [rel] using h
 | .fn f a c, hf, x, h => by
   simp only [rel, SV.flat] at *
   obtain ⟨xs, ys, e, h1, h2⟩ := h
   exact ⟨xs, ys, e, zdD hf.1 h1, zdD hf.2 h2⟩
 | .ifc t s, hf, x, h => by
   simp only [rel, SV.flat] at *
   obtain ⟨y, e, h1⟩ := h
   exact ⟨y, e, zf6 hf h1⟩
 | .agg cs, hf, x, h => by
   simp only [rel, SV.flat] at *
   obtain ⟨xs, e, h1⟩ := h
   exact ⟨xs, e, zdD hf h1⟩
 | .tup cs, hf, x, h => by
   simp only [rel, SV.flat] at *
   obtain ⟨xs, e, h1⟩ := h
   exact ⟨xs, e, zdD hf h1⟩
theorem zdD {β : Nat -> Option zaz} {w S S'} : ∀ {l : List SV} (_ : zdw l) {xs : List Value}, zal β w S l xs -> zal β w S' l xs
 | [], _, _, h => by simpa [zal] using h
 | s :: l, hf, xs, h => by
   simp only [zal, zdw] at *
   obtain ⟨x, r, e, h1, h2⟩ := h
   exact ⟨x, r, e, zf6 hf.1 h1, zdD hf.2 h2⟩
end
theorem zl3 {β : Nat -> Option zaz} {w S S'} (s : Nat) : ∀ {L : List (List SV)} (_ : zkb L) {xs : List Value}, zaZ β w S s L xs -> zaZ β w S' s L xs
 | [], _, _, _ => by simp [zaZ]
 | e :: L, hf, xs, h => by
   simp only [zaZ, zkb] at *
   exact ⟨h.1, zdD hf.1 h.2.1, zl3 s hf.2 h.2.2⟩
theorem zlW {one : Bool} {l : List PV} (h : ∀ p ∈ l, p.flat) : (zaX one l).flat := by
 unfold zaX
 have key : ∀ p : PV, p.flat -> p.sv.flat := fun p hp => by cases p <;> simp_all [PV.sv, SV.flat, PV.flat]
 cases one with
 | true =>
   cases l with
   | nil => simp [SV.flat]
   | cons p l => exact key p (h p (by simp))
 | false =>
   simp only [SV.flat]
   induction l with
   | nil => simp [zdw]
   | cons p l ih => simp only [List.map, zdw]; exact ⟨key p (h p (by simp)), ih fun q hq => h q (by simp [hq])⟩
theorem zp9 {M : zaj} {k : M.κ} : ∀ p ∈ M.ek k, p.flat := by
 intro p hp
 have h := M.ekk k
 have : p.kind ∈ (M.ek k).map PV.kind := List.mem_map_of_mem hp
 rw [h] at this
 obtain ⟨q, _, e⟩ := List.mem_map.1 this
 cases p <;> simp_all [PV.kind, PV.flat]
theorem zlZ {β : Nat -> Option zaz} {w S S'} {M : zaj} : ∀ {es : List (M.κ × M.ν)} (_ : ∀ x ∈ es, ∀ p ∈ M.ev x.2, PV.flat p) {l : List MapEntry}, za4 β w S M es l -> za4 β w S' M es l
 | [], _, l, h => by simpa [za4] using h
 | (k, v) :: es, hf, l, h => by
   simp only [za4] at h ⊢
   obtain ⟨m, r, e, h1, h2, h3⟩ := h
   exact ⟨m, r, e, zf6 (zlW zp9) h1, zf6 (zlW (hf (k, v) (by simp))) h2, zlZ (fun x hx => hf x (by simp [hx])) h3⟩
theorem za5.flat {β : Nat -> Option zaz} {w S S'} {B F o} (hf : o.flat) (h : za5 β w S B F o) : za5 β w S' B F o := by
 cases o with
 | row cs =>
   obtain ⟨b, arr, T, q1, q2, q3, q4, q5, q6⟩ := h
   exact ⟨b, arr, T, q1, q2, q3, q4, q5, zdD hf q6⟩
 | vec s L =>
   rcases h with h | ⟨b, arr, T, q1, q2, q3, q4, q5, q6, q7⟩
   . exact .inl h
   . exact .inr ⟨b, arr, T, q1, q2, q3, q4, q5, q6, zhJ s hf q7⟩
 | arr s L =>
   rcases h with h | ⟨b, arr, T, q1, q2, q3, q4, q5, q6, q7⟩
   . exact .inl h
   . exact .inr ⟨b, arr, T, q1, q2, q3, q4, q5, q6, zl3 s hf q7⟩
 | map M es it =>
   obtain ⟨b, ents, clock, q1, q2, q3, q4, q5, q6⟩ := h
   refine ⟨b, ents, clock, q1, q2, q3, zlZ hf q4, q5, ?_⟩
   cases it with
   | none => trivial
   | some p => exact q6
 | itr i => exact h
 | lrec l r e => exact h
 | vex s p =>
   obtain ⟨L, hL, h⟩ := h
   refine ⟨L, hL, ?_⟩
   rcases h with h | ⟨b, arr, T, q1, q2, q3, q4, q5, q6, q7⟩
   . exact .inl h
   . exact .inr ⟨b, arr, T, q1, q2, q3, q4, q5, q6, zhJ s (hf L hL) q7⟩
 | mapE M es k g => exact hf.elim
 | fam M sub es hh => exact hf.elim
end Go.Sx
