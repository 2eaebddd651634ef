/- WHAT IS PROVED: the law candlinglaw19.AllocTwice (an inserted instruction may stand twice, one directly behind the other: the allocation is accepted still, with one more inserted instruction) returns true for every input, leaves its arguments as they read, and ends. CONDITIONS: those of the given card alone. Part 11 of 11, merged by program from own texts. -/
import Derived.Test.YtlahifihaeafbaaGreatDoorZj
import Derived.Stop.Joined
import Derived.Test.YtlahifihaeafbaaGreatDoorTie
import Derived.Test.YtlahifihaeafbaaGreatDoorCards
set_option linter.all false
set_option maxRecDepth 100000
namespace Go.Proofs.YtlahifihaeafbaaGreatDoor
open Go Go.Sx Go.ChangeShapes Go.WideShapes Go.ChangeAt Go.RowKit
theorem zCW : ownKnob Tryz.prog.godebug = none := by kernel_rfl
theorem zy1 : laidOutB Tryz.prog = true := by kernel_rfl
abbrev zib : List (String × DataW Unit) := [("candling/host.forms", Rows.laid_candling_host_forms)]
theorem zra (os : Os) (args : Array Value) : laidMetH Tryz.prog zib ((World.doorLaid Tryz.prog 60 os).forCall (fun _ _ => 0) ⟨#[], args, []⟩).memory :=
 laidMetH_of_parts3 (fuel := 8) (laidMet_of_run' 8 (by kernel_rfl) (by kernel_rfl)) (by kernel_rfl) (by kernel_rfl)
theorem zrD {W : World} : zaw (fun _ => none) (fun _ _ => False) (zeF W) (fun _ => none) W := by
 refine ⟨?_, ?_, ?_, ?_⟩
 . intro id o h; cases h
 . intro id id' b _ h; cases h
 . intro id b h; cases h
 . intro b h; exact h
theorem zxo {W : World} {f : FuncId} {args : List SV} {vs : Array Value} (hok : zaa.ok Tryz.prog GG f ⟨args, [], [], [], .tt⟩) (hL : laidMetH Tryz.prog zib W) (ha : zam (fun _ => none) W (zeF W) args vs.toList) :
 Calls Tryz.prog f vs W fun e W' => e = .returned (.bool true) /\ Below W.heap.size W W' := by
  obtain ⟨_, _, h⟩ := hok
  have h0 : (zaa.mk args [] [] [] .tt).go0 = fun _ => none := by
   funext i; simp [zaa.go0, zaQ]
  have hm : zaw (fun _ => none) (fun _ _ => False) (zeF W) (zaa.mk args [] [] [] .tt).go0 W := by rw [h0]; exact zrD
  refine (h (fun _ => none) (fun _ _ => False) (zeF W) W vs (fun _ _ => rfl) hm ha (fun g s hs => zoj hL g s hs)).mono ?_
  rintro e W' ⟨v, β', own', S', he, _, _, hr, _, hf, _, _⟩
  simp only [rel] at hr
  subst hr
  refine ⟨he, hf.os, hf.tape, hf.output, hf.size, fun k hk => hf.block k hk ?_⟩
  rintro ⟨id, h1, h2⟩
  rw [h0] at h1
  cases h1
theorem zzi {W : World} {base : Nat} {v : Value} (h : Value.okWide Tryz.prog W .any base 22 v) : v.cells.toList = [v] := by
 simp only [Value.okWide, Tryz.underlying22, Cell.okWide, Cell.ok] at h
 cases v <;> simp_all [Value.cells]
theorem zze {W : World} {base : Nat} {v : Value} (h : Value.okWide Tryz.prog W .any base 38 v) : ∃ cs, v = .agg cs := by
 simp only [Value.okWide, Tryz.underlying38] at h
 obtain ⟨cs, h, _⟩ := h
 exact ⟨cs, h⟩
theorem zhi {H : Type} {enc : TypeId × Value -> H} {P : Program} (hp : laidOutB P = true) {W W' : World} {sp : Nat -> Bool} (hb : Below W.heap.size W W') : ∀ {ts : List TypeId} {vs : List Value} {ds : List (DataW H)} {p : List MemPlace},
 (∀ t ∈ ts, P.readableRec t = true /\ t < P.types.size) -> (∀ x ∈ p, x.block < W.heap.size) -> (∀ x ∈ p, sp x.block = true) -> DataW.TrodAll enc P W 0 (fun _ => true) true ts vs ds p -> DataW.TrodAll enc P W' 0 sp true ts vs ds p
  | [], vs, ds, p, _, _, _, h => by
    obtain ⟨rfl, rfl, rfl⟩ := trodAll_nil h
    rfl
  | t :: ts, vs, ds, p, ht, hlt, hsp, h => by
    obtain ⟨v, vs', d, ds', p, q, rfl, rfl, rfl, h1, h2⟩ := trodAll_cons h
    have h0 := ht t (List.mem_cons_self ..)
    exact ⟨p, q, WideElems.Trod_stays hp h0.1 h0.2 h1 (fun x hx => hb.same (hlt x (List.mem_append_left _ hx))) (fun x hx => hsp x (List.mem_append_left _ hx)),
     zhi hp hb (fun u hu => ht u (List.mem_cons_of_mem _ hu)) (fun x hx => hlt x (List.mem_append_right _ hx)) (fun x hx => hsp x (List.mem_append_right _ hx)) h2, rfl⟩
theorem zt7 {H : Type} {enc : TypeId × Value -> H} {fn : Func} {s : ChangeSpec} {W W' : World} {args : Array Value} {ds gs : List (DataW H)} {before : List MemPlace} (hv : s.vars = []) (hf : s.fn H ds = { results := [.lit (.bool true)], args := ds })
 (hr : fn.resultTypes = #[4]) (ht : ∀ t ∈ fn.params.toList, Tryz.prog.readableRec t = true /\ t < Tryz.prog.types.size) (hb : Below W.heap.size W W') (hW : DataW.Whole enc Tryz.prog fn.params.toList s.vars false W args.toList ds gs before) :
 s.post enc Tryz.prog fn false true false false W args (.bool true) W' := by
  have hlt : ∀ x ∈ before, x.block < W.heap.size := fun x hx => hW.lt x hx
  have hW0 := hW
  obtain ⟨p, q, hA, hV, rfl, hz, hn⟩ := hW
  rw [hv] at hV
  obtain ⟨rfl, rfl⟩ := trodVars_none hV
  rw [List.append_nil] at hlt hz hn hW0
  have hfn : s.fn H (ds ++ []) = { results := [.lit (.bool true)], args := ds } := by rw [List.append_nil]; exact hf
  have hres : ∀ (b : Nat) (sp : Nat -> Bool) (hd : Bool), DataW.TrodAll enc Tryz.prog W' b sp hd fn.resultTypes.toList ((Value.bool true).resultList fn.resultTypes.size) (s.fn H (ds ++ [])).results [] := fun b sp hd => by
   rw [hfn, hr]; exact trodAll_mk1 (shut_bool Tryz.underlying4 _)
  have hargs : ∀ sp : Nat -> Bool, (∀ x ∈ p, sp x.block = true) -> DataW.TrodAll enc Tryz.prog W' 0 sp true fn.params.toList args.toList (s.fn H (ds ++ [])).args p := fun sp h => by
   rw [hfn]; exact zhi zy1 hb ht hlt h hA
  have hvars : ∀ sp : Nat -> Bool, DataW.TrodVars enc Tryz.prog W' sp s.vars (s.fn H (ds ++ [])).vars [] := fun sp => by rw [hfn, hv]; rfl
  refine ⟨ds, [], p, [], p, [], hW0, hres _ _ _, hargs _ (fun x hx => by simpa using hlt x hx), hvars _, World.keptBut_mono (fun x hx => ⟨hx, .inr (.inl hx)⟩) (hb.frame _), fun _ => ?_⟩
  refine ⟨ok_one hr rfl (okWide_bool_mk Tryz.underlying4 _), _, _, ([] ++ p) ++ [], ⟨[] ++ p, [], trodAll_append (hargs _ (fun _ _ => rfl)) (hres _ _ _), hvars _, rfl, ?_, ?_⟩, ?_⟩
  . intro b off hp
    have hp : MemPlace.cell b off ∈ p := by simpa using hp
    rw [hb.frozen (p := ⟨b, off, none⟩) (hlt _ hp)]
    exact hz b off hp
  . intro ha; cases ha
  . intro x hx _; simpa using hx
end Go.Proofs.YtlahifihaeafbaaGreatDoor
namespace Go.Proofs.YtlahifihaeafbaaGreatDoor
open Go Go.Sx Go.ChangeShapes Go.WideShapes Go.ChangeAt Go.RowKit
theorem zzP (os : Os) (H : Type) (enc : TypeId × Value -> H) : ∃ (w : World) (tape : Tape) (i : Input), w.os = os /\ (w.forCall tape i).Shaped Tryz.checked.prog /\ i.vars = [] /\ Input.okWide Tryz.checked.prog (w.forCall tape i) .any w.heap.size 12 i ∧
 ((Rows.allocTwiceSpec.pre enc Tryz.checked.prog Tryz.f12 [] false (w.forCall tape i).memory i.args /\ laidMetH Tryz.prog zib (w.forCall tape i).memory) /\ sizedMet enc Tryz.checked.prog Tryz.f12 (OpenSpec.ofChange Rows.allocTwiceSpec) false (w.forCall tape i).memory i.args) /\ ({} : Assume).holds Tryz.checked.prog (lone (Frame.enter Tryz.checked.prog 12 i.args .normal) [] (w.forCall tape i)) :=
  ChangeSpec.witness_shaped (enc := enc) (C := Tryz.checked) (os := os) (X := fun w _ => laidMetH Tryz.prog zib w) false (World.doorLaid Tryz.prog 60 os) #[.slice none 0 0, .agg #[.slice none 0 0, .slice none 0 0], .int .i64 0, .int .i64 0, .int .i64 0] 12 rfl
   (World.shaped_of_RefB (by kernel_rfl) (by kernel_rfl)) (by kernel_rfl) (by kernel_rfl) (by kernel_rfl) (zra os _)
theorem zxh : ∀ t ∈ Tryz.f12.params.toList, Tryz.prog.readableRec t = true /\ t < Tryz.prog.types.size := by
 have h : (Tryz.f12.params.toList.all fun t => Tryz.prog.readableRec t && decide (t < Tryz.prog.types.size)) = true := by kernel_rfl
 intro t ht
 have := List.all_eq_true.1 h t ht
 rw [Bool.and_eq_true, decide_eq_true_eq] at this
 exact this
theorem zrA (os : Os) (started : os.Started) (H : Type) (enc : TypeId × Value -> H) :
 ReturnsInHanded {} Tryz.checked os 12 .any (fun w args => (Rows.allocTwiceSpec.pre enc Tryz.prog Tryz.f12 [] false w args /\ laidMetH Tryz.prog zib w) /\ sizedMet enc Tryz.prog Tryz.f12 (OpenSpec.ofChange Rows.allocTwiceSpec) false w args)
  (Rows.allocTwiceSpec.post enc Tryz.prog Tryz.f12 false true false false) := by
  refine returnsInHanded_of_change_and (C := Tryz.checked) (X := fun w _ => laidMetH Tryz.prog zib w) (fun _ _ _ hh h => h.of_heap hh) zCW started (by kernel_rfl) Tryz.func12
   (zzP os H enc) ?_
  intro W base args ds gs before hval0 hW _ _ hL _
  have hval : ∀ (j : Nat) t v, Tryz.f12.params[j]? = some t -> args[j]? = some v -> Value.okWide Tryz.prog W .any base t v := hval0
  have hW' := hW
  obtain ⟨p, q, hA0, hV, rfl, hfz, hnd⟩ := hW
  have hA : DataW.TrodAll enc Tryz.prog W 0 (fun _ => true) true Tryz.f12.params.toList args.toList ds p := hA0
  rw [Tryz.params12] at hA hval
  obtain ⟨v0, vs0, d0, ds0, p0, q0, e0, rfl, rfl, h0, hA⟩ := trodAll_cons hA
  obtain ⟨v1, vs1, d1, ds1, p1, q1, rfl, rfl, rfl, h1, hA⟩ := trodAll_cons hA
  obtain ⟨v2, vs2, d2, ds2, p2, q2, rfl, rfl, rfl, h2, hA⟩ := trodAll_cons hA
  obtain ⟨v3, vs3, d3, ds3, p3, q3, rfl, rfl, rfl, h3, hA⟩ := trodAll_cons hA
  obtain ⟨v4, vs4, d4, ds4, p4, q4, rfl, rfl, rfl, h4, hA⟩ := trodAll_cons hA
  obtain ⟨rfl, rfl, rfl⟩ := trodAll_nil hA
  obtain rfl : args = #[v0, v1, v2, v3, v4] := by cases args; simp_all
  obtain ⟨rfl, rfl⟩ := trodVars_none hV
  obtain ⟨n2, rfl, rfl, rfl, _⟩ := open_int Tryz.underlying3 (hval 2 3 v2 rfl rfl) h2
  obtain ⟨n3, rfl, rfl, rfl, _⟩ := open_int Tryz.underlying3 (hval 3 3 v3 rfl rfl) h3
  obtain ⟨n4, rfl, rfl, rfl, _⟩ := open_int Tryz.underlying3 (hval 4 3 v4 rfl rfl) h4
  obtain ⟨f0, g0⟩ := h0
  rw [zzi (hval 0 22 v0 rfl rfl)] at g0
  obtain ⟨l0, w0, ew, hl0⟩ := zms g0
  cases ew
  obtain ⟨cs1, rfl⟩ := zze (hval 1 38 v1 rfl rfl)
  obtain ⟨f1, g1⟩ := h1
  obtain ⟨⟨aL1, aF1⟩, u1, u2, ew1, ha1⟩ := zt1 g1
  refine (zxo (s12 l0 aL1 aF1 n2 n3 n4) hL ?_).mono ?_
  . simp only [zam]
    refine ⟨_, _, rfl, hl0, _, _, rfl, ?_, _, _, rfl, ?_, _, _, rfl, ?_, _, _, rfl, ?_, rfl⟩
    . simp only [rel]
      refine ⟨cs1, rfl, ?_⟩
      have e : cs1.toList = [u1, u2] := ew1
      rw [e]; exact ha1
    . simp only [rel]
    . simp only [rel]
    . simp only [rel]
  . rintro e W' ⟨he, hb⟩
    exact ⟨_, he, zt7 rfl rfl (by kernel_rfl) zxh hb hW'⟩
end Go.Proofs.YtlahifihaeafbaaGreatDoor
namespace Go.Proofs.YtlahifihaeafbaaGreatDoor
open Go
theorem x1 : Tryz.pinned.checked.prog.funcNamed Rows.allocTwiceRow.func = some 12 := by kernel_rfl
theorem x2 : joinedFacts Tryz.pinned.checked.prog 12 Tryz.f12 Rows.allocTwiceSpec Rows.allocTwiceRow = true := by kernel_rfl
theorem x3 : Tryz.f12.isInstance Tryz.pinned.checked.prog Rows.allocTwiceRow.origin Rows.allocTwiceRow.targs := of_decide_eq_true (by kernel_rfl)
theorem x4 : Tryz.f12.isWrapper Tryz.pinned.checked.prog Rows.allocTwiceRow.wrapper Rows.allocTwiceRow.mainSum := by unfold Func.isWrapper; first | (rw [if_pos (by decide +kernel)]; kernel_rfl) | (rw [if_neg (by decide +kernel)]; exact ⟨rfl, rfl⟩)
theorem zpL : Rows.AllocTwiceSaid :=
 OpenClaim.holds_of_wide 12 Tryz.f12 rfl rfl rfl rfl rfl rfl rfl ⟨rfl, rfl, rfl, rfl, rfl⟩ rfl rfl rfl rfl rfl x1 Tryz.func12 x2 x3 x4
  (fun os started H enc _ => zrA os started H enc)
theorem zuh (j : Nat) (t : TypeId) (ht : Tryz.f12.params[j]? = some t) : Tryz.prog.wantsStandIn t = false := by
 rw [Tryz.params12] at ht
 have h : t = 22 \/ t = 38 \/ t = 3 := by
  rcases j with _ | _ | _ | _ | _ | j
  . left; simpa using ht.symm
  . right; left; simpa using ht.symm
  . right; right; simpa using ht.symm
  . right; right; simpa using ht.symm
  . right; right; simpa using ht.symm
  . simp at ht
 rcases h with rfl | rfl | rfl
 . exact (show Tryz.prog.wantsStandIn 22 = false by kernel_rfl)
 . exact (show Tryz.prog.wantsStandIn 38 = false by kernel_rfl)
 . exact (show Tryz.prog.wantsStandIn 3 = false by kernel_rfl)
theorem twice_card : Rows.AllocTwiceCardSaid :=
 Claim7.holds_tied_plain_at .later [] [.data] true (true, "8a3bbbef7d30f58cb314d0d6d880e6bf53018c4f4d0721cb67f80ba50b7f320e") true
  zpL (fun _ h => by cases h) (by kernel_rfl) (fun _ h => by cases h) allocTwice_row_tie rfl ⟨rfl, rfl⟩ (by kernel_rfl) rfl
  (fun f fn hf hfn => by
   obtain rfl : f = 12 := Option.some.inj ((show Tryz.prog.funcNamed "candling/candlinglaw19.AllocTwice" = some 12 by kernel_rfl).symm.trans hf) |>.symm
   obtain rfl : fn = Tryz.f12 := (Option.some.inj (Tryz.func12.symm.trans hfn)).symm
   exact ⟨by kernel_rfl, zuh⟩)
  (by kernel_rfl)
end Go.Proofs.YtlahifihaeafbaaGreatDoor
