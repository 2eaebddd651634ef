/- WHAT IS PROVED: the law candlinglaw19.AllocNames (a renaming of virtual registers leaves the pressure and the accepted allocations) returns true for every input, leaves its arguments as they read, and ends. CONDITIONS: those of the given card alone. Part 11 of 11, merged by program from own texts. -/
import Derived.Test.YtlahifihaeafbaaGreatDoorZj
import Derived.ProofKit
import Derived.LaidMore
import Derived.OpenShut
import Derived.Test.YtlahifihaeafbaaGreatDoorRows
import Derived.Stop.Joined
import Derived.Test.YtlahifihaeafbaaGreatDoorTie
import Derived.Test.YtlahifihaeafbaaGreatDoorCards
set_option linter.all false
set_option maxRecDepth 100000
namespace Go.Proofs.YtlahifihaeafbaaGreatDoor
open Go Go.Sx Go.ChangeShapes
section
variable {H : Type} {enc : TypeId × Value -> H} {P : Program} {W : World} {sp : Nat -> Bool} {held : Bool}
abbrev stay (W : World) : Nat -> Prop := fun b => b < W.heap.size
theorem add_off {b o n : Nat} : (Addr.add ⟨b, o, none⟩ n) = ⟨b, o + n, none⟩ := by
 unfold Addr.add; split
 . next h => subst h; rfl
 . rfl
theorem cell_arr {b o : Nat} {v : Value} (h : W.cell? ⟨b, o, none⟩ = some v) : ∃ arr T fz, W.heap[b]? = some (.cells arr T fz) ∧ arr[o]? = some v := by
 unfold World.cell? at h
 split at h
 . next c T fz e => exact ⟨c, T, fz, e, by simpa using h⟩
 . cases h
theorem cells_row {b o s : Nat} {cs : List Value} {arr : Array Value} {T : TypeId} {fz : Nat × Nat} (hh : W.heap[b]? = some (.cells arr T fz)) (h : W.cells? 0 ⟨b, o, none⟩ s = some cs) : ∃ r, arr.toList.drop o = cs ++ r := by
 obtain ⟨_, hl, he⟩ := World.cells?_some h
 refine ⟨(arr.toList.drop o).drop s, ?_⟩
 have e : cs = (arr.toList.drop o).take s := by
  apply List.ext_getElem?
  intro i
  by_cases hi : i < s
  . have := he i hi
    rw [add_off] at this
    rw [List.getElem?_take_of_lt hi, List.getElem?_drop, <- this]
    unfold World.cell?
    rw [hh]
    simp
  . rw [List.getElem?_eq_none (by omega), List.getElem?_eq_none (by rw [List.length_take]; omega)]
 rw [e]; exact (List.take_append_drop s _).symm
theorem relPR_of {S : Nat -> Prop} {s : Nat} : ∀ {L : List (List PV)} {vs : List Value}, (∀ i e, L[i]? = some e -> e.length = s ∧ relPL W S e (vs.drop (i * s))) -> relPR W S s L vs
 | [], _, _ => by simp [relPR]
 | e :: L, vs, h => by
   simp only [relPR]
   have h0 := h 0 e rfl
   rw [Nat.zero_mul, List.drop_zero] at h0
   refine ⟨h0.1, h0.2, relPR_of fun i e' he => ?_⟩
   have h1 := h (i + 1) e' (by simpa using he)
   rw [List.drop_drop]
   rw [show s + i * s = (i + 1) * s by rw [Nat.add_mul, Nat.one_mul, Nat.add_comm]]
   exact h1
theorem open_rows {α : Type} [Inhabited α] {pv : α -> List PV} {t e : TypeId} {s fuel : Nat} {cs : List Value} {x : DataW H × List MemPlace} (ht : P.underlying t = some (.slice e)) (hc : P.cellsOf e = s) (hs : 0 < s) (hp : ∀ a, (pv a).length = s)
 (hd : ∀ n cs y, DataW.trod enc P W 0 sp held n e cs = some y -> ∃ a, ∀ r, relPL W (stay W) (pv a) (cs ++ r))
 (h : DataW.trod enc P W 0 sp held fuel t cs = some x) : ∃ L : List α, ∃ v, cs = [v] ∧ relP W (stay W) (.sl s (L.map pv)) v := by
  rcases DataW.trod_slice ht h with ⟨h0, _⟩ | ⟨a, len, cap, elems, rest, n, _, rfl, rfl, hb, hl, hm, hlen, hel, _, _⟩
  . subst h0
    refine ⟨[], _, rfl, ?_⟩
    simp only [relP, List.map_nil]
    exact ⟨none, 0, rfl, Nat.le_refl _, fun q => absurd rfl q⟩
  rw [hc] at hel
  have each : ∀ i, i < len -> ∃ cs' y, W.cells? 0 (a.add (i * s)) s = some cs' ∧ DataW.trod enc P W 0 sp held n e cs' = some y := by
   intro i hi
   have := hel i hi
   rw [List.getElem?_eq_getElem (by omega)] at this
   obtain ⟨cs', h1, h2⟩ := Option.bind_eq_some_iff.1 this
   exact ⟨cs', _, h1, h2⟩
  by_cases h0 : len = 0
  . subst h0
    refine ⟨[], _, rfl, ?_⟩
    simp only [relP, List.map_nil]
    exact ⟨some a, cap, rfl, Nat.zero_le _, fun q => absurd rfl q⟩
  obtain ⟨b, off, spot⟩ := a
  obtain ⟨cs0, y0, e0, _⟩ := each 0 (by omega)
  have hc0 := (World.cells?_some e0).2.2 0 hs
  rw [Nat.zero_mul] at hc0
  have hlen0 : 0 < cs0.length := by rw [(World.cells?_some e0).2.1]; exact hs
  rw [List.getElem?_eq_getElem hlen0] at hc0
  have hspot : spot = none := by simpa [Addr.add] using World.cell?_spot hc0
  subst hspot
  rw [add_off, add_off] at hc0
  obtain ⟨arr, T, fz, hh, _⟩ := cell_arr hc0
  have each2 : ∀ i, ∃ p : α, i < len -> relPL W (stay W) (pv p) (arr.toList.drop (off + i * s)) := by
   intro i
   by_cases hi : i < len
   . obtain ⟨cs', y, h1, h2⟩ := each i hi
     obtain ⟨p, hp⟩ := hd _ _ _ h2
     rw [add_off] at h1
     obtain ⟨r, hr⟩ := cells_row hh h1
     exact ⟨p, fun _ => by rw [hr]; exact hp r⟩
   . exact ⟨default, fun q => absurd q hi⟩
  have hf := Classical.axiomOfChoice each2
  obtain ⟨f, hf⟩ := hf
  refine ⟨(List.range len).map f, _, rfl, ?_⟩
  simp only [relP, List.length_map, List.length_range]
  refine ⟨_, cap, rfl, hl, fun _ => ⟨b, off, arr, T, fz, rfl, ?_, hh, ?_⟩⟩
  . exact (Array.getElem?_eq_some_iff.1 hh).1
  . refine relPR_of fun i e he => ?_
    rw [List.getElem?_map, List.getElem?_map] at he
    by_cases hi : i < len
    . rw [List.getElem?_range hi] at he
      simp only [Option.map_some, Option.some.injEq] at he
      subst he
      refine ⟨hp _, ?_⟩
      rw [List.drop_drop]
      exact hf i hi
    . rw [List.getElem?_eq_none (by simp; omega)] at he
      cases he
end
theorem dec_int {H : Type} {enc : TypeId × Value -> H} {W : World} {sp : Nat -> Bool} {held : Bool} (n : Nat) (cs : List Value) (y : DataW H × List MemPlace) (h : DataW.trod enc Tryz.prog W 0 sp held n 3 cs = some y) : ∃ a, ∀ r, relPL W (stay W) (ipv a) (cs ++ r) := by
 obtain ⟨k, rfl, _, _⟩ := DataW.trod_int Tryz.underlying3 h
 exact ⟨k, fun r => by simp [ipv, relPL, relP]⟩
theorem c15 {cs : List Value} (h : cs.length = 15) : ∃ a0 a1 a2 a3 a4 a5 a6 a7 a8 a9 a10 a11 a12 a13 a14, cs = [a0, a1, a2, a3, a4, a5, a6, a7, a8, a9, a10, a11, a12, a13, a14] := by
 match cs, h with
 | [a0, a1, a2, a3, a4, a5, a6, a7, a8, a9, a10, a11, a12, a13, a14], _ => exact ⟨_, _, _, _, _, _, _, _, _, _, _, _, _, _, _, rfl⟩
theorem dec_i {H : Type} {enc : TypeId × Value -> H} {W : World} {sp : Nat -> Bool} {held : Bool} {n : Nat} {t : TypeId} {k : IntKind} (ht : Tryz.prog.underlying t = some (.int k)) {v : Value} {o : Option (DataW H × List MemPlace)} (ho : o.isSome = true) (h : DataW.trod enc Tryz.prog W 0 sp held n t [v] = o) : ∃ m, v = .int k m := by
 obtain ⟨y, rfl⟩ := Option.isSome_iff_exists.1 ho
 obtain ⟨m, e, _, _⟩ := DataW.trod_int ht h
 cases e
 exact ⟨m, rfl⟩
theorem co63 : Tryz.prog.cellsOf 63 = 15 := by kernel_rfl
theorem co61 : Tryz.prog.cellsOf 61 = 4 := by kernel_rfl
theorem co59 : Tryz.prog.cellsOf 59 = 1 := by kernel_rfl
theorem co3 : Tryz.prog.cellsOf 3 = 1 := by kernel_rfl
theorem co38 : Tryz.prog.cellsOf 38 = 2 := by kernel_rfl
theorem co22 : Tryz.prog.cellsOf 22 = 1 := by kernel_rfl
theorem co36 : Tryz.prog.cellsOf 36 = 1 := by kernel_rfl
theorem dec_hi {H : Type} {enc : TypeId × Value -> H} {W : World} {sp : Nat -> Bool} {held : Bool} (n : Nat) (cs : List Value) (y : DataW H × List MemPlace) (h : DataW.trod enc Tryz.prog W 0 sp held n 63 cs = some y) : ∃ a, ∀ r, relPL W (stay W) (HI.pv a) (cs ++ r) := by
 obtain ⟨xs, m, rfl, _, hl, hx, hf⟩ := DataW.trod_struct Tryz.underlying63 h
 rw [co63] at hl
 obtain ⟨a0, a1, a2, a3, a4, a5, a6, a7, a8, a9, a10, a11, a12, a13, a14, rfl⟩ := c15 hl
 have hx : xs.length = 12 := hx
 have is : ∀ i, i < 12 -> (xs[i]?).isSome = true := fun i hi => by rw [List.getElem?_eq_getElem (by omega)]; rfl
 have f0 := hf 0 { name := "Op", type := 3, offset := 0, embedded := false, tag := "", pkgPath := "", byteOffset := 0 } rfl
 have f1 := hf 1 { name := "Sub", type := 3, offset := 1, embedded := false, tag := "", pkgPath := "", byteOffset := 8 } rfl
 have f2 := hf 2 { name := "From", type := 3, offset := 2, embedded := false, tag := "", pkgPath := "", byteOffset := 16 } rfl
 have f3 := hf 3 { name := "Ty", type := 3, offset := 3, embedded := false, tag := "", pkgPath := "", byteOffset := 24 } rfl
 have f4 := hf 4 { name := "D", type := 3, offset := 4, embedded := false, tag := "", pkgPath := "", byteOffset := 32 } rfl
 have f5 := hf 5 { name := "A", type := 3, offset := 5, embedded := false, tag := "", pkgPath := "", byteOffset := 40 } rfl
 have f6 := hf 6 { name := "B", type := 3, offset := 6, embedded := false, tag := "", pkgPath := "", byteOffset := 48 } rfl
 have f7 := hf 7 { name := "C", type := 3, offset := 7, embedded := false, tag := "", pkgPath := "", byteOffset := 56 } rfl
 have f8 := hf 8 { name := "K", type := 3, offset := 8, embedded := false, tag := "", pkgPath := "", byteOffset := 64 } rfl
 have f9 := hf 9 { name := "I", type := 59, offset := 9, embedded := false, tag := "", pkgPath := "", byteOffset := 72 } rfl
 have f10 := hf 10 { name := "Chain", type := 59, offset := 10, embedded := false, tag := "", pkgPath := "", byteOffset := 76 } rfl
 have f11 := hf 11 { name := "V", type := 61, offset := 11, embedded := false, tag := "", pkgPath := "", byteOffset := 80 } rfl
 simp only [co3, co59, co61, List.drop_zero, List.drop_succ_cons, List.take_succ_cons, List.take_zero] at f0 f1 f2 f3 f4 f5 f6 f7 f8 f9 f10 f11
 obtain ⟨m0, rfl⟩ := dec_i Tryz.underlying3 (is 0 (by decide)) f0
 obtain ⟨m1, rfl⟩ := dec_i Tryz.underlying3 (is 1 (by decide)) f1
 obtain ⟨m2, rfl⟩ := dec_i Tryz.underlying3 (is 2 (by decide)) f2
 obtain ⟨m3, rfl⟩ := dec_i Tryz.underlying3 (is 3 (by decide)) f3
 obtain ⟨m4, rfl⟩ := dec_i Tryz.underlying3 (is 4 (by decide)) f4
 obtain ⟨m5, rfl⟩ := dec_i Tryz.underlying3 (is 5 (by decide)) f5
 obtain ⟨m6, rfl⟩ := dec_i Tryz.underlying3 (is 6 (by decide)) f6
 obtain ⟨m7, rfl⟩ := dec_i Tryz.underlying3 (is 7 (by decide)) f7
 obtain ⟨m8, rfl⟩ := dec_i Tryz.underlying3 (is 8 (by decide)) f8
 obtain ⟨m9, rfl⟩ := dec_i Tryz.underlying59 (is 9 (by decide)) f9
 obtain ⟨m10, rfl⟩ := dec_i Tryz.underlying59 (is 10 (by decide)) f10
 obtain ⟨z, hz⟩ := Option.isSome_iff_exists.1 (is 11 (by decide))
 rw [hz] at f11
 obtain ⟨ys, q, _, _, _, hy, hg⟩ := DataW.trod_array Tryz.underlying61 f11
 have is2 : ∀ i, i < 4 -> (ys[i]?).isSome = true := fun i hi => by rw [List.getElem?_eq_getElem (by omega)]; rfl
 have g0 := hg 0 (by decide)
 have g1 := hg 1 (by decide)
 have g2 := hg 2 (by decide)
 have g3 := hg 3 (by decide)
 simp only [co59, Nat.zero_mul, Nat.mul_one, List.drop_zero, List.drop_succ_cons, List.take_succ_cons, List.take_zero] at g0 g1 g2 g3
 obtain ⟨m11, rfl⟩ := dec_i Tryz.underlying59 (is2 0 (by decide)) g0
 obtain ⟨m12, rfl⟩ := dec_i Tryz.underlying59 (is2 1 (by decide)) g1
 obtain ⟨m13, rfl⟩ := dec_i Tryz.underlying59 (is2 2 (by decide)) g2
 obtain ⟨m14, rfl⟩ := dec_i Tryz.underlying59 (is2 3 (by decide)) g3
 exact ⟨⟨m0, m1, m2, m3, m4, m5, m6, m7, m8, m9, m10, m11, m12, m13, m14⟩, fun r => by
  simp only [HI.pv, relPL, relP, List.cons_append]
  exact ⟨_, _, rfl, rfl, ⟨_, _, rfl, rfl, ⟨_, _, rfl, rfl, ⟨_, _, rfl, rfl, ⟨_, _, rfl, rfl, ⟨_, _, rfl, rfl, ⟨_, _, rfl, rfl, ⟨_, _, rfl, rfl, ⟨_, _, rfl, rfl, ⟨_, _, rfl, rfl, ⟨_, _, rfl, rfl, ⟨_, _, rfl, rfl, ⟨_, _, rfl, rfl, ⟨_, _, rfl, rfl, ⟨_, _, rfl, rfl, trivial⟩⟩⟩⟩⟩⟩⟩⟩⟩⟩⟩⟩⟩⟩⟩⟩
instance : Inhabited HI := ⟨⟨0, 0, 0, 0, 0, 0, 0, 0, 0, 0, 0, 0, 0, 0, 0⟩⟩
section
variable {H : Type} {enc : TypeId × Value -> H} {W : World} {sp : Nat -> Bool} {held : Bool} {fuel : Nat} {cs : List Value} {x : DataW H × List MemPlace}
theorem open_his (h : DataW.trod enc Tryz.prog W 0 sp held fuel 22 cs = some x) : ∃ l : List HI, ∃ v, cs = [v] ∧ rel (fun _ => none) W (stay W) (hiS l) v := by
 obtain ⟨l, v, e, hr⟩ := open_rows (pv := HI.pv) Tryz.underlying22 co63 (by decide) (fun a => rfl) dec_hi h
 exact ⟨l, v, e, by simpa only [rel] using hr⟩
theorem open_is (h : DataW.trod enc Tryz.prog W 0 sp held fuel 36 cs = some x) : ∃ l : List Int, ∃ v, cs = [v] ∧ rel (fun _ => none) W (stay W) (inS l) v := by
 obtain ⟨l, v, e, hr⟩ := open_rows (pv := ipv) Tryz.underlying36 co3 (by decide) (fun a => rfl) dec_int h
 exact ⟨l, v, e, by simpa only [rel] using hr⟩
theorem open_al (h : DataW.trod enc Tryz.prog W 0 sp held fuel 38 cs = some x) : ∃ a : AL, ∃ v1 v2, cs = [v1, v2] ∧ relL (fun _ => none) W (stay W) a.cells [v1, v2] := by
 obtain ⟨xs, m, rfl, _, hl, hx, hf⟩ := DataW.trod_struct Tryz.underlying38 h
 rw [co38] at hl
 match cs, hl with
 | [v1, v2], _ =>
   have hx : xs.length = 2 := hx
   have is : ∀ i, i < 2 -> (xs[i]?).isSome = true := fun i hi => by rw [List.getElem?_eq_getElem (by omega)]; rfl
   have f0 := hf 0 { name := "L", type := 22, offset := 0, embedded := false, tag := "", pkgPath := "", byteOffset := 0 } rfl
   have f1 := hf 1 { name := "From", type := 36, offset := 1, embedded := false, tag := "", pkgPath := "", byteOffset := 24 } rfl
   simp only [co22, co36, List.drop_zero, List.drop_succ_cons, List.take_succ_cons, List.take_zero] at f0 f1
   obtain ⟨y0, h0⟩ := Option.isSome_iff_exists.1 (is 0 (by decide))
   obtain ⟨y1, h1⟩ := Option.isSome_iff_exists.1 (is 1 (by decide))
   rw [h0] at f0; rw [h1] at f1
   obtain ⟨l, w1, e1, r1⟩ := open_his f0
   obtain ⟨f, w2, e2, r2⟩ := open_is f1
   cases e1; cases e2
   exact ⟨⟨l, f⟩, _, _, rfl, by simp only [AL.cells, relL]; exact ⟨_, _, rfl, r1, _, _, rfl, r2, rfl⟩⟩
end
end Go.Proofs.YtlahifihaeafbaaGreatDoor
namespace Go.Proofs.YtlahifihaeafbaaGreatDoor
open Go Go.Sx Go.ChangeShapes
def fmD : FM -> DataW Unit
 | ⟨n, a, b⟩ => .agg [.lit (.string n.data.toList), .lit (.int .i64 a), .lit (.int .i64 b)]
def fmP : FM -> List PV
 | ⟨n, a, b⟩ => [.str n, .int .i64 a, .int .i64 b]
theorem fmD_inj {f g : FM} (h : fmD f = fmD g) : f = g := by
 obtain ⟨⟨⟨n⟩⟩, a, b⟩ := f
 obtain ⟨⟨⟨m⟩⟩, c, d⟩ := g
 simp only [fmD, DataW.agg.injEq, List.cons.injEq, DataW.lit.injEq, Lit.string.injEq, Lit.int.injEq, true_and, and_true] at h
 obtain ⟨h1, h2, h3⟩ := h
 subst h1; subst h2; subst h3; rfl
theorem laidD : (Rows.laid_candling_host_forms : DataW Unit) = .agg (formRows.map fmD) := by rfl
theorem gForms : Tryz.prog.globalNamed "candling/host.forms" = some 0 := by kernel_rfl
theorem tForms : (Tryz.prog.globals[0]?).map (·.type) = some 189 := by kernel_rfl
theorem co9 : Tryz.prog.cellsOf 9 = 1 := by kernel_rfl
theorem co130 : Tryz.prog.cellsOf 130 = 3 := by kernel_rfl
theorem co189 : Tryz.prog.cellsOf 189 = 138 := by kernel_rfl
theorem dec_fm {W : World} (n : Nat) (cs : List Value) (y : DataW Unit × List MemPlace) (h : DataW.trod (fun _ => ()) Tryz.prog W 0 (fun _ => true) false n 130 cs = some y) : ∃ f : FM, y.1 = fmD f ∧ ∀ r, relPL W (stay W) (fmP f) (cs ++ r) := by
 obtain ⟨xs, m, rfl, hy, hl, hx, hf⟩ := DataW.trod_struct Tryz.underlying130 h
 rw [co130] at hl
 match cs, hl with
 | [a0, a1, a2], _ =>
   have hx : xs.length = 3 := hx
   match xs, hx with
   | [x0, x1, x2], _ =>
     have f0 := hf 0 { name := "name", type := 9, offset := 0, embedded := false, tag := "", pkgPath := "candling/host", byteOffset := 0 } rfl
     have f1 := hf 1 { name := "fields", type := 3, offset := 1, embedded := false, tag := "", pkgPath := "candling/host", byteOffset := 16 } rfl
     have f2 := hf 2 { name := "rule", type := 3, offset := 2, embedded := false, tag := "", pkgPath := "candling/host", byteOffset := 24 } rfl
     simp only [co3, co9, List.drop_zero, List.drop_succ_cons, List.take_succ_cons, List.take_zero] at f0 f1 f2
     obtain ⟨s, e0, g0, _⟩ := DataW.trod_string Tryz.underlying9 f0
     obtain ⟨k1, e1, g1, _⟩ := DataW.trod_int Tryz.underlying3 f1
     obtain ⟨k2, e2, g2, _⟩ := DataW.trod_int Tryz.underlying3 f2
     cases e0; cases e1; cases e2
     subst g0; subst g1; subst g2
     refine ⟨⟨s, k1, k2⟩, by rw [hy]; rfl, fun r => ?_⟩
     simp only [fmP, relPL, relP, List.cons_append]
     exact ⟨_, _, rfl, rfl, _, _, rfl, rfl, _, _, rfl, rfl, trivial⟩
theorem forms_laid {W : World} (h : laidMetH Tryz.prog [("candling/host.forms", Rows.laid_candling_host_forms)] W) (g : Nat) (s : SV) (hs : GG g = some s) : rel (fun _ => none) W (stay W) s (.pointer (some ⟨g, 0, none⟩)) := by
 match g, hs with
 | 0, hs =>
   cases hs
   rw [MakeChecks.laidMetH_plain _ _ _ (by kernel_rfl)] at h
   obtain ⟨ps, ⟨g0, t0, cs0, f0, p0, q0, hg0, ht0, hv0, hd0, _, _⟩, _, _⟩ := h
   obtain rfl := Option.some.inj (gForms.symm.trans hg0)
   obtain rfl := Option.some.inj (tForms.symm.trans ht0)
   rw [laidD] at hd0
   obtain ⟨xs, m, rfl, hx, hl, hn, hel⟩ := DataW.trod_array Tryz.underlying189 hd0
   rw [co189] at hl
   simp only [Prod.mk.injEq, DataW.agg.injEq] at hx
   have hx := hx.1
   have hh : ∃ T fz, W.heap[0]? = some (.cells cs0 T fz) := by
    simp only [World.var?, gForms, Option.bind_some] at hv0
    split at hv0
    . next cs T fz e => cases hv0; exact ⟨T, fz, e⟩
    . cases hv0
   obtain ⟨T, fz, hh⟩ := hh
   simp only [rel]
   refine ⟨0, 0, cs0, T, fz, rfl, (Array.getElem?_eq_some_iff.1 hh).1, hh, ?_⟩
   rw [List.drop_zero]
   refine relPR_of fun i e he => ?_
   have hi : i < 46 := by
    have := (List.getElem?_eq_some_iff.1 he).1
    rw [List.length_map] at this
    exact this
   have h1 := hel i hi
   rw [co130, List.getElem?_eq_getElem (by omega)] at h1
   obtain ⟨f, e1, e2⟩ := dec_fm _ _ _ h1
   have h3 : (xs.map (·.1))[i]? = some (fmD f) := by rw [List.getElem?_map, List.getElem?_eq_getElem (by omega), Option.map_some, e1]
   rw [<- hx, List.getElem?_map] at h3
   rw [List.getElem?_map] at he
   cases hq : formRows[i]? with
   | none => rw [hq] at he; cases he
   | some f' =>
     rw [hq] at he h3
     have : f' = f := fmD_inj (by simpa using h3)
     subst this
     have he : fmP f' = e := Option.some.inj he
     subst he
     refine ⟨rfl, ?_⟩
     have := e2 ((cs0.toList.drop (i * 3)).drop 3)
     rw [List.take_append_drop] at this
     exact this
end Go.Proofs.YtlahifihaeafbaaGreatDoor
namespace Go.Proofs.YtlahifihaeafbaaGreatDoor
open Go Go.Sx Go.ChangeShapes Go.WideShapes Go.ChangeAt Go.RowKit
theorem ownK : ownKnob Tryz.prog.godebug = none := by kernel_rfl
theorem lay_b : laidOutB Tryz.prog = true := by kernel_rfl
abbrev laidL : List (String × DataW Unit) := [("candling/host.forms", Rows.laid_candling_host_forms)]
theorem door_met (os : Os) (args : Array Value) : laidMetH Tryz.prog laidL ((World.doorLaid Tryz.prog 60 os).forCall (fun _ _ => 0) ⟨#[], args, []⟩).memory :=
 laidMetH_of_parts3 (fuel := 8) (laidMet_of_run' 8 (by kernel_rfl) (by kernel_rfl)) (by kernel_rfl) (by kernel_rfl)
theorem mem_none {W : World} : MemOk (fun _ => none) (fun _ _ => False) (stay W) (fun _ => none) W := by
 refine ⟨?_, ?_, ?_, ?_⟩
 . intro id o h; cases h
 . intro id id' b _ h; cases h
 . intro id b h; cases h
 . intro b h; exact h
theorem run_tt {W : World} {f : FuncId} {args : List SV} {vs : Array Value} (hok : LSpec.ok Tryz.prog GG f ⟨args, [], [], [], .tt⟩) (hL : laidMetH Tryz.prog laidL W) (ha : relL (fun _ => none) W (stay W) args vs.toList) :
 Calls Tryz.prog f vs W fun e W' => e = .returned (.bool true) ∧ Below W.heap.size W W' := by
  obtain ⟨_, _, h⟩ := hok
  have h0 : (LSpec.mk args [] [] [] .tt).go0 = fun _ => none := by
   funext i; simp [LSpec.go0, getN]
  have hm : MemOk (fun _ => none) (fun _ _ => False) (stay W) (LSpec.mk args [] [] [] .tt).go0 W := by rw [h0]; exact mem_none
  refine (h (fun _ => none) (fun _ _ => False) (stay W) W vs (fun _ _ => rfl) hm ha (fun g s hs => forms_laid hL g s hs)).mono ?_
  rintro e W' ⟨v, β', own', S', he, _, _, hr, _, hf, _, _⟩
  simp only [rel] at hr
  subst hr
  refine ⟨he, hf.os, hf.tape, hf.output, hf.size, fun k hk => hf.block k hk ?_⟩
  rintro ⟨id, h1, h2⟩
  rw [h0] at h1
  cases h1
theorem ok_sl {W : World} {base : Nat} {v : Value} (h : Value.okWide Tryz.prog W .any base 22 v) : v.cells.toList = [v] := by
 simp only [Value.okWide, Tryz.underlying22, Cell.okWide, Cell.ok] at h
 cases v <;> simp_all [Value.cells]
theorem ok_al {W : World} {base : Nat} {v : Value} (h : Value.okWide Tryz.prog W .any base 38 v) : ∃ cs, v = .agg cs := by
 simp only [Value.okWide, Tryz.underlying38] at h
 obtain ⟨cs, h, _⟩ := h
 exact ⟨cs, h⟩
theorem trodAll_stays {H : Type} {enc : TypeId × Value -> H} {P : Program} (hp : laidOutB P = true) {W W' : World} {sp : Nat -> Bool} (hb : Below W.heap.size W W') : ∀ {ts : List TypeId} {vs : List Value} {ds : List (DataW H)} {p : List MemPlace},
 (∀ t ∈ ts, P.readableRec t = true ∧ t < P.types.size) -> (∀ x ∈ p, x.block < W.heap.size) -> (∀ x ∈ p, sp x.block = true) -> DataW.TrodAll enc P W 0 (fun _ => true) true ts vs ds p -> DataW.TrodAll enc P W' 0 sp true ts vs ds p
  | [], vs, ds, p, _, _, _, h => by
    obtain ⟨rfl, rfl, rfl⟩ := trodAll_nil h
    rfl
  | t :: ts, vs, ds, p, ht, hlt, hsp, h => by
    obtain ⟨v, vs', d, ds', p, q, rfl, rfl, rfl, h1, h2⟩ := trodAll_cons h
    have h0 := ht t (List.mem_cons_self ..)
    exact ⟨p, q, WideElems.Trod_stays hp h0.1 h0.2 h1 (fun x hx => hb.same (hlt x (List.mem_append_left _ hx))) (fun x hx => hsp x (List.mem_append_left _ hx)),
     trodAll_stays hp hb (fun u hu => ht u (List.mem_cons_of_mem _ hu)) (fun x hx => hlt x (List.mem_append_right _ hx)) (fun x hx => hsp x (List.mem_append_right _ hx)) h2, rfl⟩
theorem post_tt {H : Type} {enc : TypeId × Value -> H} {fn : Func} {s : ChangeSpec} {W W' : World} {args : Array Value} {ds gs : List (DataW H)} {before : List MemPlace} (hv : s.vars = []) (hf : s.fn H ds = { results := [.lit (.bool true)], args := ds })
 (hr : fn.resultTypes = #[4]) (ht : ∀ t ∈ fn.params.toList, Tryz.prog.readableRec t = true ∧ t < Tryz.prog.types.size) (hb : Below W.heap.size W W') (hW : DataW.Whole enc Tryz.prog fn.params.toList s.vars false W args.toList ds gs before) :
 s.post enc Tryz.prog fn false true false false W args (.bool true) W' := by
  have hlt : ∀ x ∈ before, x.block < W.heap.size := fun x hx => hW.lt x hx
  have hW0 := hW
  obtain ⟨p, q, hA, hV, rfl, hz, hn⟩ := hW
  rw [hv] at hV
  obtain ⟨rfl, rfl⟩ := trodVars_none hV
  rw [List.append_nil] at hlt hz hn hW0
  have hfn : s.fn H (ds ++ []) = { results := [.lit (.bool true)], args := ds } := by rw [List.append_nil]; exact hf
  have hres : ∀ (b : Nat) (sp : Nat -> Bool) (hd : Bool), DataW.TrodAll enc Tryz.prog W' b sp hd fn.resultTypes.toList ((Value.bool true).resultList fn.resultTypes.size) (s.fn H (ds ++ [])).results [] := fun b sp hd => by
   rw [hfn, hr]; exact trodAll_mk1 (shut_bool Tryz.underlying4 _)
  have hargs : ∀ sp : Nat -> Bool, (∀ x ∈ p, sp x.block = true) -> DataW.TrodAll enc Tryz.prog W' 0 sp true fn.params.toList args.toList (s.fn H (ds ++ [])).args p := fun sp h => by
   rw [hfn]; exact trodAll_stays lay_b hb ht hlt h hA
  have hvars : ∀ sp : Nat -> Bool, DataW.TrodVars enc Tryz.prog W' sp s.vars (s.fn H (ds ++ [])).vars [] := fun sp => by rw [hfn, hv]; rfl
  refine ⟨ds, [], p, [], p, [], hW0, hres _ _ _, hargs _ (fun x hx => by simpa using hlt x hx), hvars _, World.keptBut_mono (fun x hx => ⟨hx, .inr (.inl hx)⟩) (hb.frame _), fun _ => ?_⟩
  refine ⟨ok_one hr rfl (okWide_bool_mk Tryz.underlying4 _), _, _, ([] ++ p) ++ [], ⟨[] ++ p, [], trodAll_append (hargs _ (fun _ _ => rfl)) (hres _ _ _), hvars _, rfl, ?_, ?_⟩, ?_⟩
  . intro b off hp
    have hp : MemPlace.cell b off ∈ p := by simpa using hp
    rw [hb.frozen (p := ⟨b, off, none⟩) (hlt _ hp)]
    exact hz b off hp
  . intro ha; cases ha
  . intro x hx _; simpa using hx
theorem wit8 (os : Os) (H : Type) (enc : TypeId × Value -> H) : ∃ (w : World) (tape : Tape) (i : Input), w.os = os ∧ (w.forCall tape i).Shaped Tryz.checked.prog ∧ i.vars = [] ∧ Input.okWide Tryz.checked.prog (w.forCall tape i) .any w.heap.size 8 i ∧
 ((Rows.allocNamesSpec.pre enc Tryz.checked.prog Tryz.f8 [] false (w.forCall tape i).memory i.args ∧ laidMetH Tryz.prog laidL (w.forCall tape i).memory) ∧ sizedMet enc Tryz.checked.prog Tryz.f8 (OpenSpec.ofChange Rows.allocNamesSpec) false (w.forCall tape i).memory i.args) ∧ ({} : Assume).holds Tryz.checked.prog (lone (Frame.enter Tryz.checked.prog 8 i.args .normal) [] (w.forCall tape i)) :=
  ChangeSpec.witness_shaped (enc := enc) (C := Tryz.checked) (os := os) (X := fun w _ => laidMetH Tryz.prog laidL w) false (World.doorLaid Tryz.prog 60 os) #[.slice none 0 0, .agg #[.slice none 0 0, .slice none 0 0], .int .i64 0, .int .i64 0, .int .i64 0, .int .i64 0] 8 rfl
   (World.shaped_of_RefB (by kernel_rfl) (by kernel_rfl)) (by kernel_rfl) (by kernel_rfl) (by kernel_rfl) (door_met os _)
theorem pars8 : ∀ t ∈ Tryz.f8.params.toList, Tryz.prog.readableRec t = true ∧ t < Tryz.prog.types.size := by
 have h : (Tryz.f8.params.toList.all fun t => Tryz.prog.readableRec t && decide (t < Tryz.prog.types.size)) = true := by kernel_rfl
 intro t ht
 have := List.all_eq_true.1 h t ht
 rw [Bool.and_eq_true, decide_eq_true_eq] at this
 exact this
theorem lifted8 (os : Os) (started : os.Started) (H : Type) (enc : TypeId × Value -> H) :
 ReturnsInHanded {} Tryz.checked os 8 .any (fun w args => (Rows.allocNamesSpec.pre enc Tryz.prog Tryz.f8 [] false w args ∧ laidMetH Tryz.prog laidL w) ∧ sizedMet enc Tryz.prog Tryz.f8 (OpenSpec.ofChange Rows.allocNamesSpec) false w args)
  (Rows.allocNamesSpec.post enc Tryz.prog Tryz.f8 false true false false) := by
  refine returnsInHanded_of_change_and (C := Tryz.checked) (X := fun w _ => laidMetH Tryz.prog laidL w) (fun _ _ _ hh h => h.of_heap hh) ownK started (by kernel_rfl) Tryz.func8
   (wit8 os H enc) ?_
  intro W base args ds gs before hval0 hW _ _ hL _
  have hval : ∀ (j : Nat) t v, Tryz.f8.params[j]? = some t -> args[j]? = some v -> Value.okWide Tryz.prog W .any base t v := hval0
  have hW' := hW
  obtain ⟨p, q, hA0, hV, rfl, hfz, hnd⟩ := hW
  have hA : DataW.TrodAll enc Tryz.prog W 0 (fun _ => true) true Tryz.f8.params.toList args.toList ds p := hA0
  rw [Tryz.params8] at hA hval
  obtain ⟨v0, vs0, d0, ds0, p0, q0, e0, rfl, rfl, h0, hA⟩ := trodAll_cons hA
  obtain ⟨v1, vs1, d1, ds1, p1, q1, rfl, rfl, rfl, h1, hA⟩ := trodAll_cons hA
  obtain ⟨v2, vs2, d2, ds2, p2, q2, rfl, rfl, rfl, h2, hA⟩ := trodAll_cons hA
  obtain ⟨v3, vs3, d3, ds3, p3, q3, rfl, rfl, rfl, h3, hA⟩ := trodAll_cons hA
  obtain ⟨v4, vs4, d4, ds4, p4, q4, rfl, rfl, rfl, h4, hA⟩ := trodAll_cons hA
  obtain ⟨v5, vs5, d5, ds5, p5, q5, rfl, rfl, rfl, h5, hA⟩ := trodAll_cons hA
  obtain ⟨rfl, rfl, rfl⟩ := trodAll_nil hA
  obtain rfl : args = #[v0, v1, v2, v3, v4, v5] := by cases args; simp_all
  obtain ⟨rfl, rfl⟩ := trodVars_none hV
  have r0 := h0
  have r1 := h1
  have r2 := h2
  have r3 := h3
  have r4 := h4
  have r5 := h5
  obtain ⟨n2, rfl, rfl, rfl, _⟩ := open_int Tryz.underlying3 (hval 2 3 v2 rfl rfl) h2
  obtain ⟨n3, rfl, rfl, rfl, _⟩ := open_int Tryz.underlying3 (hval 3 3 v3 rfl rfl) h3
  obtain ⟨n4, rfl, rfl, rfl, _⟩ := open_int Tryz.underlying3 (hval 4 3 v4 rfl rfl) h4
  obtain ⟨n5, rfl, rfl, rfl, _⟩ := open_int Tryz.underlying3 (hval 5 3 v5 rfl rfl) h5
  obtain ⟨f0, g0⟩ := h0
  rw [ok_sl (hval 0 22 v0 rfl rfl)] at g0
  obtain ⟨l, w0, ew, hl⟩ := open_his g0
  cases ew
  obtain ⟨cs, rfl⟩ := ok_al (hval 1 38 v1 rfl rfl)
  obtain ⟨f1, g1⟩ := h1
  obtain ⟨a, u1, u2, ew, ha⟩ := open_al g1
  refine (run_tt (s8 l a n2 n3 n4 n5) hL ?_).mono ?_
  . simp only [relL]
    refine ⟨_, _, rfl, hl, _, _, rfl, ?_, _, _, rfl, ?_, _, _, rfl, ?_, _, _, rfl, ?_, _, _, rfl, ?_, rfl⟩
    . simp only [rel]
      refine ⟨cs, rfl, ?_⟩
      have e : cs.toList = [u1, u2] := ew
      rw [e]; exact ha
    . simp only [rel]
    . simp only [rel]
    . simp only [rel]
    . simp only [rel]
  . rintro e W' ⟨he, hb⟩
    exact ⟨_, he, post_tt rfl rfl (by kernel_rfl) pars8 hb hW'⟩
end Go.Proofs.YtlahifihaeafbaaGreatDoor
namespace Go.Proofs.YtlahifihaeafbaaGreatDoor
open Go
theorem x1 : Tryz.pinned.checked.prog.funcNamed Rows.allocNamesRow.func = some 8 := by kernel_rfl
theorem x2 : joinedFacts Tryz.pinned.checked.prog 8 Tryz.f8 Rows.allocNamesSpec Rows.allocNamesRow = true := by kernel_rfl
theorem x3 : Tryz.f8.isInstance Tryz.pinned.checked.prog Rows.allocNamesRow.origin Rows.allocNamesRow.targs := of_decide_eq_true (by kernel_rfl)
theorem x4 : Tryz.f8.isWrapper Tryz.pinned.checked.prog Rows.allocNamesRow.wrapper Rows.allocNamesRow.mainSum := by unfold Func.isWrapper; first | (rw [if_pos (by decide +kernel)]; kernel_rfl) | (rw [if_neg (by decide +kernel)]; exact ⟨rfl, rfl⟩)
theorem names_row : Rows.AllocNamesSaid :=
 OpenClaim.holds_of_wide 8 Tryz.f8 rfl rfl rfl rfl rfl rfl rfl ⟨rfl, rfl, rfl, rfl, rfl⟩ rfl rfl rfl rfl rfl x1 Tryz.func8 x2 x3 x4
  (fun os started H enc _ => lifted8 os started H enc)
theorem stand8 (j : Nat) (t : TypeId) (ht : Tryz.f8.params[j]? = some t) : Tryz.prog.wantsStandIn t = false := by
 rw [Tryz.params8] at ht
 have h : t = 22 ∨ t = 38 ∨ t = 3 := by
  rcases j with _ | _ | _ | _ | _ | _ | j
  . left; simpa using ht.symm
  . right; left; simpa using ht.symm
  . right; right; simpa using ht.symm
  . right; right; simpa using ht.symm
  . right; right; simpa using ht.symm
  . right; right; simpa using ht.symm
  . simp at ht
 rcases h with rfl | rfl | rfl
 . exact (show Tryz.prog.wantsStandIn 22 = false by kernel_rfl)
 . exact (show Tryz.prog.wantsStandIn 38 = false by kernel_rfl)
 . exact (show Tryz.prog.wantsStandIn 3 = false by kernel_rfl)
theorem names_card : Rows.AllocNamesCardSaid :=
 Claim7.holds_tied_plain_at .later [] [.data] true (true, "8a3bbbef7d30f58cb314d0d6d880e6bf53018c4f4d0721cb67f80ba50b7f320e") true
  names_row (fun _ h => by cases h) (by kernel_rfl) (fun _ h => by cases h) allocNames_row_tie rfl ⟨rfl, rfl⟩ (by kernel_rfl) rfl
  (fun f fn hf hfn => by
   obtain rfl : f = 8 := Option.some.inj ((show Tryz.prog.funcNamed "candling/candlinglaw19.AllocNames" = some 8 by kernel_rfl).symm.trans hf) |>.symm
   obtain rfl : fn = Tryz.f8 := (Option.some.inj (Tryz.func8.symm.trans hfn)).symm
   exact ⟨by kernel_rfl, stand8⟩)
  (by kernel_rfl)
end Go.Proofs.YtlahifihaeafbaaGreatDoor
