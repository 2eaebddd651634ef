/- Part 7 of 11 of a proof of the law AllocMore: what the last part leans on. -/
import Derived.Test.YtlahifihaeafbaaGreatDoorZf
set_option linter.all false
set_option maxRecDepth 100000
namespace Go.Proofs.YtlahifihaeafbaaGreatDoor
open Go Go.Sx
def c195 : MC := .seq (.reg [oo 2 (.box (.t 0)),oo 4 (.mv (ki 0))]) (.seq (.reg [oo 5 (.mv kf)]) (.seq (.seq (.reg [oo 6 (.fld 2 (.t 2)),oo 7 (.ld none (.t 6))]) (.blk 0 (.seq (.reg [oo 9 (.cmp .eql (.t 7) (ki 1)),om 8 9]) (.cond (.t 8) (.reg [oo 10 (.fld 1 (.t 2)),oo 11 (.ld none (.t 10)),om 12 1,oo 13 (.cmp .eql (.t 11) (.t 12)),om 5 13]) (.seq (.seq (.reg [oo 15 (.cmp .eql (.t 7) (ki 2)),om 14 15]) (.cond (.t 14) (.skip) (.reg [oo 16 (.cmp .eql (.t 7) (ki 3)),om 14 16]))) (.cond (.t 14) (.reg [oo 17 (.fld 1 (.t 2)),oo 18 (.ld none (.t 17)),oo 19 (.cmp .eql (.t 18) (ki 32)),os (some 20) (.mv (.t 19)),og 20 true (some 21) (.mv (.t 1)),og 20 true (some 22) (.cmp .lss (.t 21) (ki 32)),oo 23 (.pick (.t 20) (.t 22) kf),om 5 23]) (.seq (.reg [oo 25 (.cmp .eql (.t 7) (ki 4)),om 24 25]) (.cond (.t 24) (.reg [om 26 1,oo 27 (.cmp .eql (.t 26) (ki 32)),os (some 28) (.mv (.t 27)),og 28 true (some 29) (.fld 1 (.t 2)),og 28 true (some 30) (.ld none (.t 29)),og 28 true (some 31) (.cmp .eql (.t 30) (ki 8)),ogs 28 true (some 32) (.mv (.t 31)),og 32 false (some 33) (.fld 1 (.t 2)),og 32 false (some 34) (.ld none (.t 33)),og 32 false (some 35) (.cmp .eql (.t 34) (ki 16)),og 28 true (some 36) (.pick (.t 32) kt (.t 35)),oo 37 (.pick (.t 28) (.t 36) kf),om 5 37]) (.seq (.reg [oo 39 (.cmp .eql (.t 7) (ki 5)),om 38 39]) (.cond (.t 38) (.reg [oo 40 (.fld 1 (.t 2)),oo 41 (.ld none (.t 40)),oo 42 (.cmp .eql (.t 41) (ki 1)),om 5 42]) (.seq (.reg [oo 44 (.cmp .eql (.t 7) (ki 6)),om 43 44]) (.cond (.t 43) (.reg [om 45 1,oo 46 (.cmp .eql (.t 45) (ki 1)),os (some 47) (.mv (.t 46)),og 47 true (some 48) (.fld 1 (.t 2)),og 47 true (some 49) (.ld none (.t 48)),og 47 true (some 50) (.call (.k (.fn (.func 197) [] [])) [(.t 49)]),oo 51 (.pick (.t 47) (.t 50) kf),om 5 51]) (.seq (.reg [oo 53 (.cmp .eql (.t 7) (ki 7)),om 52 53]) (.cond (.t 52) (.reg [om 54 1,oo 55 (.cmp .eql (.t 54) (ki 32)),os (some 56) (.mv (.t 55)),og 56 true (some 57) (.fld 1 (.t 2)),og 56 true (some 58) (.ld none (.t 57)),og 56 true (some 59) (.cmp .eql (.t 58) (ki 32)),oo 60 (.pick (.t 56) (.t 59) kf),om 5 60]) (.seq (.seq (.reg [oo 62 (.cmp .eql (.t 7) (ki 8)),om 61 62]) (.cond (.t 61) (.skip) (.seq (.reg [oo 63 (.cmp .eql (.t 7) (ki 9)),om 61 63]) (.cond (.t 61) (.skip) (.reg [oo 64 (.cmp .eql (.t 7) (ki 10)),om 61 64]))))) (.cond (.t 61) (.reg [om 65 1,oo 66 (.cmp .eql (.t 65) (ki 128)),os (some 67) (.mv (.t 66)),og 67 true (some 68) (.fld 1 (.t 2)),og 67 true (some 69) (.ld none (.t 68)),og 67 true (some 70) (.cmp .eql (.t 69) (ki 128)),oo 71 (.pick (.t 67) (.t 70) kf),om 5 71]) (.seq (.reg [oo 73 (.cmp .eql (.t 7) (ki 11)),om 72 73]) (.cond (.t 72) (.reg [om 74 1,oo 75 (.cmp .eql (.t 74) (ki 32)),os (some 76) (.mv (.t 75)),og 76 true (some 77) (.fld 1 (.t 2)),og 76 true (some 78) (.ld none (.t 77)),og 76 true (some 79) (.cmp .eql (.t 78) (ki 128)),oo 80 (.pick (.t 76) (.t 79) kf),om 5 80]) (.seq (.reg [oo 82 (.cmp .eql (.t 7) (ki 12)),om 81 82]) (.cond (.t 81) (.seq (.reg [oo 83 (.fld 3 (.t 2)),oo 84 (.ld none (.t 83)),oo 85 (.cmp .geq (.t 84) (ki 0)),os (some 86) (.mv (.t 85)),og 86 true (some 87) (.fld 3 (.t 2)),og 86 true (some 88) (.ld none (.t 87)),og 86 true (some 89) (.cmp .lss (.t 88) (ki 4)),oo 90 (.pick (.t 86) (.t 89) kf),os (some 91) (.mv (.t 90)),og 91 true (some 92) (.mv (.t 1)),og 91 true (some 93) (.cmp .eql (.t 92) (ki 128)),oo 94 (.pick (.t 91) (.t 93) kf),os (some 95) (.mv (.t 94)),og 95 true (some 96) (.fld 1 (.t 2)),og 95 true (some 97) (.ld none (.t 96)),og 95 true (some 98) (.cmp .eql (.t 97) (ki 32)),oo 99 (.pick (.t 95) (.t 98) kf),oo 100 (.fld 1 (.t 2)),oo 101 (.ld none (.t 100)),oo 102 (.call (.k (.fn (.func 193) [] [])) [(.t 99),(.t 101)]),om 4 102])
 (.ret)) (.seq (.reg [oo 104 (.cmp .eql (.t 7) (ki 13)),om 103 104]) (.cond (.t 103) (.reg [om 105 1,oo 106 (.cmp .eql (.t 105) (ki 128)),os (some 107) (.mv (.t 106)),og 107 true (some 108) (.fld 1 (.t 2)),og 107 true (some 109) (.ld none (.t 108)),og 107 true (some 110) (.cmp .eql (.t 109) (ki 32)),oo 111 (.pick (.t 107) (.t 110) kf),om 5 111]) (.skip))))))))))))))))))))))) (.seq (.reg [om 112 5,os (some 113) (.mv (.t 112)),og 113 true (some 114) (.fld 3 (.t 2)),og 113 true (some 115) (.ld none (.t 114)),og 113 true (some 116) (.cmp .eql (.t 115) (ki 0)),oo 117 (.pick (.t 113) (.t 116) kf),oo 118 (.fld 1 (.t 2)),oo 119 (.ld none (.t 118)),oo 120 (.call (.k (.fn (.func 193) [] [])) [(.t 117),(.t 119)]),om 4 120]) (.ret))))
theorem k195 : FnOk Tryz.prog 195 121 c195 [.t 4] := fk Tryz.func195 ⟨tv,⟨tv,⟨⟨tv,⟨tv,⟨tv,⟨⟨tv,⟨tv,tv⟩⟩,⟨tv,⟨tv,⟨tv,⟨tv,⟨tv,⟨tv,⟨tv,⟨tv,⟨tv,⟨⟨tv,⟨tv,⟨tv,⟨tv,tv⟩⟩⟩⟩,⟨tv,⟨tv,⟨tv,⟨tv,⟨⟨tv,tv⟩,⟨tv,⟨tv,tv⟩⟩⟩⟩⟩⟩⟩⟩⟩⟩⟩⟩⟩⟩⟩⟩⟩⟩⟩⟩⟩,⟨tv,tv⟩⟩⟩⟩
def c217 : MC := .seq (.reg [oo 3 (.box (.t 1)),oo 4 (.mv (ki 0))]) (.seq (.seq (.reg [oo 5 (.fld 0 (.t 3)),oo 6 (.ld none (.t 5)),oo 7 (.cmp .geq (.t 6) (ki 0))]) (.cond (.t 7) (.seq (.seq (.reg [oo 8 (.fld 0 (.t 3)),oo 9 (.ld none (.t 8)),om 10 0,oo 11 (.lenS (.t 10)),oo 12 (.cmp .geq (.t 9) (.t 11)),os (some 13) (.mv (.t 12)),og 13 false (some 14) (.fld 1 (.t 3)),og 13 false (some 15) (.ld none (.t 14)),og 13 false (some 16) (.cmp .neq (.t 15) (ki 0)),oo 17 (.pick (.t 13) kt (.t 16)),os (some 18) (.mv (.t 17)),og 18 false (some 19) (.fld 2 (.t 3)),og 18 false (some 20) (.ld (some 4) (.t 19)),og 18 false (some 21) (.bld [(.int .u32 0),(.int .u32 0),(.int .u32 0),(.int .u32 0)] []),og 18 false (some 22) (.eqs [.int .u32,.int .u32,.int .u32,.int .u32] true (.t 20) (.t 21)),oo 23 (.pick (.t 18) kt (.t 22)),os (some 24) (.mv (.t 23)),og 24 false (some 25) (.mv (.t 0)),og 24 false (some 26) (.fld 0 (.t 3)),og 24 false (some 27) (.ld none (.t 26)),og 24 false (some 28) (.ixa 1 (.t 25) (.t 27)),og 24 false (some 29) (.ld none (.t 28)),og 24 false (some 30) (.call (.k (.fn (.func 219) [] [])) [(.t 29)]),og 24 false (some 31) (.cmp .eql (.t 30) (ki 0)),oo 32 (.pick (.t 24) kt (.t 31))]) (.cond (.t 32) (.seq (.reg [oo 4 (.mv (ki 0))]) (.ret)) (.skip))) (.seq (.reg [om 33 0,oo 34 (.fld 0 (.t 3)),oo 35 (.ld none (.t 34)),oo 36 (.ixa 1 (.t 33) (.t 35)),oo 37 (.ld none (.t 36)),om 4 37]) (.ret))) (.skip))) (.seq (.seq (.reg [oo 38 (.fld 0 (.t 3)),oo 39 (.ld none (.t 38)),oo 40 (.cmp .neq (.t 39) (ki (-1))),os (some 41) (.mv (.t 40)),og 41 false (some 42) (.fld 1 (.t 3)),og 41 false (some 43) (.ld none (.t 42)),og 41 false (some 44) (.call (.k (.fn (.func 219) [] [])) [(.t 43)]),og 41 false (some 45) (.cmp .eql (.t 44) (ki 0)),oo 46 (.pick (.t 41) kt (.t 45)),os (some 47) (.mv (.t 46)),og 47 false (some 48) (.fld 1 (.t 3)),og 47 false (some 49) (.ld none (.t 48)),og 47 false (some 50) (.cmp .lss (.t 49) (ki 128)),ogs 47 false (some 51) (.mv (.t 50)),og 51 true (some 52) (.fld 2 (.t 3)),og 51 true (some 53) (.ixr 4 1 (.t 52) (ki 1)),og 51 true (some 54) (.ld none (.t 53)),og 51 true (some 55) (.cmp .neq (.t 54) (.k (.int .u32 0))),ogs 51 true (some 56) (.mv (.t 55)),og 56 false (some 57) (.fld 2 (.t 3)),og 56 false (some 58) (.ixr 4 1 (.t 57) (ki 2)),og 56 false (some 59) (.ld none (.t 58)),og 56 false (some 60) (.cmp .neq (.t 59) (.k (.int .u32 0))),og 51 true (some 61) (.pick (.t 56) kt (.t 60)),ogs 51 true (some 62) (.mv (.t 61)),og 62 false (some 63) (.fld 2 (.t 3)),og 62 false (some 64) (.ixr 4 1 (.t 63) (ki 3)),og 62 false (some 65) (.ld none (.t 64)),og 62 false (some 66) (.cmp .neq (.t 65) (.k (.int .u32 0))),og 51 true (some 67) (.pick (.t 62) kt (.t 66)),ogs 51 true (some 68) (.mv (.t 67)),og 68 false (some 69) (.fld 2 (.t 3)),og 68 false (some 70) (.ixr 4 1 (.t 69) (ki 0)),og 68 false (some 71) (.ld none (.t 70)),og 68 false (some 72) (.cv .u64 (.t 71)),og 68 false (some 73) (.fld 1 (.t 3)),og 68 false (some 74) (.ld none (.t 73)),og 68 false (some 75) (.ar .shr (.t 72) (.t 74)),og 68 false (some 76) (.cmp .neq (.t 75) (.k (.int .u64 0))),og 51 true (some 77) (.pick (.t 68) kt (.t 76)),og 47 false (some 78) (.pick (.t 51) (.t 77) kf),oo 79 (.pick (.t 47) kt (.t 78))])
 (.cond (.t 79) (.seq (.reg [oo 4 (.mv (ki 0))]) (.ret)) (.skip))) (.seq (.reg [oo 80 (.fld 1 (.t 3)),oo 81 (.ld none (.t 80)),om 4 81]) (.ret))))
theorem k217 : FnOk Tryz.prog 217 82 c217 [.t 4] := fk Tryz.func217 ⟨tv,⟨⟨tv,⟨⟨⟨tv,⟨⟨tv,tv⟩,tv⟩⟩,⟨tv,tv⟩⟩,tv⟩⟩,⟨⟨tv,⟨⟨tv,tv⟩,tv⟩⟩,⟨tv,tv⟩⟩⟩⟩
def c216 : MC := .seq (.reg [oo 2 (.box (.t 0)),oo 3 (.mv (ki 0))]) (.seq (.reg [oo 4 (.ld none (.t 1)),oo 5 (.ld (some 6) (.t 2)),oo 6 (.call (.k (.fn (.func 217) [] [])) [(.t 4),(.t 5)]),om 3 6]) (.ret))
theorem k216 : FnOk Tryz.prog 216 7 c216 [.t 3] := fk Tryz.func216 ⟨tv,⟨tv,tv⟩⟩
def unOk (op frm ty : Int) : Bool := decide ((op = 1 ∧ ty = frm) ∨ ((op = 2 ∨ op = 3) ∧ ty = 32 ∧ frm < 32) ∨ (op = 4 ∧ frm = 32 ∧ (ty = 8 ∨ ty = 16)) ∨ (op = 5 ∧ ty = 1) ∨ (op = 6 ∧ frm = 1 ∧ storF ty = true) ∨
 (op = 7 ∧ frm = 32 ∧ ty = 32) ∨ ((op = 8 ∨ op = 9 ∨ op = 10) ∧ frm = 128 ∧ ty = 128) ∨ (op = 11 ∧ frm = 32 ∧ ty = 128) ∨ (op = 12 ∧ frm = 128 ∧ ty = 32) ∨ (op = 13 ∧ frm = 128 ∧ ty = 32))
def unF (op frm ty : Int) : Int := onlyF (unOk op frm ty) ty
def tyF (frm : Int) : Int := if bytesF frm = 0 then 0 else frm
def zAtom : List SV := [kz 0, kz 0, ku 0, ku 0, ku 0, ku 0]
def zAtomP : List PV := [.int .i64 0, .int .i64 0, .int .u32 0, .int .u32 0, .int .u32 0, .int .u32 0]
def L195 (op : Int) (frm : Int) (ty : Int) : LSpec := ⟨[.agg [kz 3, kz ty, kz op, kz 0, .any], kz frm], [], [], [], kz (unF op frm ty)⟩
set_option maxHeartbeats 40000000 in
theorem s195 (op : Int) (frm : Int) (ty : Int) : LSpec.ok Tryz.prog GG 195 (L195 op frm ty) := by
 refine fn_spec mix k195 _ rfl rfl (Tab.ok (l := [(193, S193), (197, S197)]) ⟨t193, t197, trivial⟩) noL noJ ?_
 repeat' ((conv => whnf); first
  | exact trivial
  | with_reducible first | refine ai (by with_reducible rfl) ?_ | refine ai ⟨by with_reducible rfl, by with_reducible rfl⟩ ?_ | refine ai (show noConf _ _ = true by kernel_rfl) ?_ | refine ai rfl ?_ | refine ai ⟨rfl, rfl⟩ ?_ | refine ai (by decide) ?_ | refine ai (by omega) ?_ | refine And.intro ?_ ?_ | refine asL_mk ?_ | refine exI (i64_in (by omega) (by omega)) ?_
  | (with_reducible intro h; exact absurd h (by decide))
  | with_reducible intro _)
 all_goals (refine Sd.mk ?_; (try simp only [unF, onlyF, unOk] at *); grind)
noncomputable def S195 : SFn
 | [.agg [a, b, c, d, _], e], k => asI b fun ty => asI c fun op => asI e fun frm => k (L195 op frm ty)
 | _, _ => .fail
theorem t195 : FnS Tryz.prog GG 195 S195 := by
 intro args k gt go R v os n h
 unfold S195 at h
 split at h
 . obtain ⟨ty, _, h⟩ := asI_inv h
   obtain ⟨op, _, h⟩ := asI_inv h
   obtain ⟨frm, _, h⟩ := asI_inv h
   exact ⟨_, _, s195 op frm ty, h⟩
 . cases h
def L217 (frm : Int) : LSpec := ⟨[.rd (.sl 1 [ipv frm]), .agg zAtom], [], [], [], kz (tyF frm)⟩
theorem s217 (frm : Int) : LSpec.ok Tryz.prog GG 217 (L217 frm) := by
 refine fn_spec mix k217 _ rfl rfl (Tab.ok (l := [(219, S219)]) ⟨t219, trivial⟩) noL noJ ?_
 repeat' ((conv => whnf); first
  | exact trivial
  | with_reducible first | refine ai (by with_reducible rfl) ?_ | refine ai ⟨by with_reducible rfl, by with_reducible rfl⟩ ?_ | refine ai (show noConf _ _ = true by kernel_rfl) ?_ | refine ai rfl ?_ | refine ai ⟨rfl, rfl⟩ ?_ | refine ai (by decide) ?_ | refine ai (by omega) ?_ | refine And.intro ?_ ?_ | refine asL_mk ?_ | refine exI (i64_in (by omega) (by omega)) ?_
  | (with_reducible intro h; exact absurd h (by decide))
  | with_reducible refine exI (x := ULift.up _) ⟨rfl, by omega, rfl⟩ ?_
  | with_reducible intro _)
 all_goals (refine Sd.mk ?_; (try simp only [tyF] at *); grind)
noncomputable def S217 : SFn
 | [.rd (.sl _ [[.int .i64 frm]]), _], k => k (L217 frm)
 | _, _ => .fail
theorem t217 : FnS Tryz.prog GG 217 S217 := by
 intro args k gt go R v os n h
 unfold S217 at h
 split at h
 . exact ⟨_, _, s217 _, h⟩
 . cases h
def L216 (frm : Int) : LSpec := ⟨[.agg zAtom, .ptr 0 0 0], [.row [.rd (.sl 1 [ipv frm])]], [some (.row [.rd (.sl 1 [ipv frm])])], [], kz (tyF frm)⟩
theorem s216 (frm : Int) : LSpec.ok Tryz.prog GG 216 (L216 frm) := by
 refine fn_spec mix k216 _ rfl rfl (Tab.ok (l := [(217, S217)]) ⟨t217, trivial⟩) noL noJ ?_
 repeat' ((conv => whnf); first
  | exact trivial
  | with_reducible first | refine ai (by with_reducible rfl) ?_ | refine ai ⟨by with_reducible rfl, by with_reducible rfl⟩ ?_ | refine ai (show noConf _ _ = true by kernel_rfl) ?_ | refine ai rfl ?_ | refine ai ⟨rfl, rfl⟩ ?_ | refine ai (by decide) ?_ | refine ai (by omega) ?_ | refine And.intro ?_ ?_ | refine asL_mk ?_ | refine exI (i64_in (by omega) (by omega)) ?_
  | (with_reducible intro h; exact absurd h (by decide))
  | with_reducible intro _)
noncomputable def S216 : SFn
 | [_, .ptr a _ _], k => asRow a fun r => match r with
   | .agg [.rd (.sl _ [[.int .i64 frm]])] => k (L216 frm)
   | _ => .fail
 | _, _ => .fail
theorem t216 : FnS Tryz.prog GG 216 S216 := by
 intro args k gt go R v os n h
 unfold S216 at h
 split at h
 . obtain ⟨r, _, h⟩ := asRow_inv h
   split at h
   . exact ⟨_, _, s216 _, h⟩
   . cases h
 . cases h
end Go.Proofs.YtlahifihaeafbaaGreatDoor
namespace Go.Proofs.YtlahifihaeafbaaGreatDoor
open Go Go.Sx
def c215 : MC := .seq (.reg [oo 4 (.mv (.k (.val (.slice none 0 0))))]) (.seq (.reg [oo 5 (.mv (.k (.val (.slice none 0 0))))]) (.seq (.seq (.reg [om 8 0,oo 9 (.lenS (.t 8)),oo 10 (.mv (ki 0))]) (.blk 0 (.loop 0 (.seq (.reg [oo 11 (.cmp .lss (.t 10) (.t 9))]) (.seq (.cond (.t 11) (.skip) (.exit 0)) (.seq (.blk 1 (.seq (.reg [oo 12 (.ixa 6 (.t 8) (.t 10)),oo 13 (.ld (some 6) (.t 12)),oo 7 (.alloc [(kz 0),(kz 0),(.int .u32 0),(.int .u32 0),(.int .u32 0),(.int .u32 0)]),o none (.st (some 6) (.t 7) (.t 13))]) (.reg [om 14 5,om 15 1,oo 16 (.ld (some 6) (.t 7)),oo 17 (.call (.t 15) [(.t 16)]),oo 18 (.bsl 1 1 [(kz 0)] [(0,(.t 17))]),oo 19 (.app 1 8 (.t 14) (.t 18)),om 5 19]))) (.reg [oo 20 (.ar .add (.t 10) (ki 1)),om 10 20]))))))) (.seq (.reg [om 21 5,om 4 21]) (.ret))))
theorem k215 : FnOk Tryz.prog 215 22 c215 [.t 4] := fk Tryz.func215 ⟨tv,⟨tv,⟨⟨tv,⟨tv,⟨⟨tv,tv⟩,⟨⟨tv,tv⟩,tv⟩⟩⟩⟩,⟨tv,tv⟩⟩⟩⟩
def c191 : MC := .seq (.reg [oo 2 (.box (.t 0)),oo 4 (.mv (.k (.val (.slice none 0 0))))]) (.seq (.reg [om 5 1,oo 6 (.mkf (.func 216) [] [(.t 2)]),oo 7 (.call (.k (.fn (.func 215) [] [])) [(.t 5),(.t 6)]),om 4 7]) (.ret))
theorem k191 : FnOk Tryz.prog 191 8 c191 [.t 4] := fk Tryz.func191 ⟨tv,⟨tv,tv⟩⟩
def c218 : MC := .seq (.reg [oo 4 (.mv (ki 0))]) (.seq (.seq (.reg [om 6 0,oo 7 (.lenS (.t 6)),oo 8 (.mv (ki 0))]) (.blk 0 (.loop 0 (.seq (.reg [oo 9 (.cmp .lss (.t 8) (.t 7))]) (.seq (.cond (.t 9) (.skip) (.exit 0)) (.seq (.blk 1 (.seq (.reg [om 10 8,om 5 10]) (.seq (.reg [om 11 1,om 12 0,om 13 5,oo 14 (.ixa 1 (.t 12) (.t 13)),oo 15 (.ld none (.t 14)),oo 16 (.cmp .eql (.t 11) (.t 15))]) (.cond (.t 16) (.seq (.reg [om 17 5,om 4 17]) (.ret)) (.skip))))) (.reg [oo 18 (.ar .add (.t 8) (ki 1)),om 8 18]))))))) (.seq (.reg [oo 4 (.mv (ki (-1)))]) (.ret)))
theorem k218 : FnOk Tryz.prog 218 19 c218 [.t 4] := fk Tryz.func218 ⟨tv,⟨⟨tv,⟨tv,⟨⟨tv,tv⟩,⟨⟨tv,⟨tv,⟨⟨tv,tv⟩,tv⟩⟩⟩,tv⟩⟩⟩⟩,⟨tv,tv⟩⟩⟩
def c192 : MC := .seq (.reg [oo 4 (.mv kf)]) (.seq (.reg [om 5 0,om 6 1,oo 7 (.call (.k (.fn (.func 218) [] [])) [(.t 5),(.t 6)]),oo 8 (.cmp .geq (.t 7) (ki 0)),om 4 8]) (.ret))
theorem k192 : FnOk Tryz.prog 192 9 c192 [.t 4] := fk Tryz.func192 ⟨tv,⟨tv,tv⟩⟩
def c173 : MC := .seq (.reg [oo 3 (.box (.t 1)),oo 4 (.mv (ki 0))]) (.seq (.reg [om 9 0,oo 10 (.fld 4 (.t 3)),oo 11 (.ld none (.t 10)),oo 12 (.call (.k (.fn (.func 191) [] [])) [(.t 9),(.t 11)]),om 5 12]) (.seq (.seq (.reg [om 13 5,oo 14 (.call (.k (.fn (.func 192) [] [])) [(.t 13),(ki 0)])]) (.cond (.t 14) (.seq (.reg [oo 4 (.mv (ki 0))]) (.ret)) (.skip))) (.seq (.reg [oo 15 (.fld 2 (.t 3)),oo 16 (.ld none (.t 15)),oo 17 (.cmp .eql (.t 16) (ki 0)),os (some 18) (.mv (.t 17)),og 18 true (some 19) (.fld 3 (.t 3)),og 18 true (some 20) (.ld none (.t 19)),og 18 true (some 21) (.cmp .eql (.t 20) (ki 0)),oo 22 (.pick (.t 18) (.t 21) kf),om 6 22]) (.seq (.blk 0 (.seq (.reg [oo 24 (.fld 0 (.t 3)),oo 25 (.ld none (.t 24)),oo 26 (.cmp .eql (.t 25) (ki 1)),os (some 27) (.mv (.t 26)),og 27 true (some 28) (.mv (.t 5)),og 27 true (some 29) (.lenS (.t 28)),og 27 true (some 30) (.cmp .eql (.t 29) (ki 1)),oo 31 (.pick (.t 27) (.t 30) kf),om 23 31]) (.cond (.t 23) (.seq (.drw [om 32 6,os (some 33) (.mv (.t 32)),og 33 true (some 34) (.fld 1 (.t 3)),og 33 true (some 35) (.ld none (.t 34)),og 33 true (some 36) (.mv (.t 5)),og 33 true (some 37) (.ixa 1 (.t 36) (ki 0)),og 33 true (some 38) (.ld none (.t 37)),og 33 true (some 39) (.cmp .eql (.t 35) (.t 38)),oo 40 (.pick (.t 33) (.t 39) kf),oo 41 (.fld 1 (.t 3)),oo 42 (.ld none (.t 41)),oo 43 (.call (.k (.fn (.func 193) [] [])) [(.t 40),(.t 42)]),om 4 43] [[],[0],[1],[2,1],[1],[4,1],[5,1],[3,6,1],[1,7],[],[9],[8,10,1],[11,11,0,1,2,3,4,5,6,7,8,9,10,11]]) (.ret)) (.seq (.reg [oo 45 (.fld 0 (.t 3)),oo 46 (.ld none (.t 45)),oo 47 (.cmp .eql (.t 46) (ki 2)),os (some 48) (.mv (.t 47)),og 48 true (some 49) (.mv (.t 5)),og 48 true (some 50) (.lenS (.t 49)),og 48 true (some 51) (.cmp .eql (.t 50) (ki 0)),oo 52 (.pick (.t 48) (.t 51) kf),om 44 52]) (.cond (.t 44) (.seq (.drw [oo 53 (.fld 2 (.t 3)),oo 54 (.ld none (.t 53)),oo 55 (.cmp .eql (.t 54) (ki 0)),os (some 56) (.mv (.t 55)),og 56 true (some 57) (.fld 3 (.t 3)),og 56 true (some 58) (.ld none (.t 57)),og 56 true (some 59) (.fld 1 (.t 3)),og 56 true (some 60) (.ld none (.t 59)),og 56 true (some 61) (.call (.k (.fn (.func 194) [] [])) [(.t 58),(.t 60)]),oo 62 (.pick (.t 56) (.t 61) kf),oo 63 (.fld 1 (.t 3)),oo 64 (.ld none (.t 63)),oo 65 (.call (.k (.fn (.func 193) [] [])) [(.t 62),(.t 64)]),om 4 65] [[],[0],[1],[2],[3],[4,3],[3],[6,3],[5,7,3,3],[3,8],[],[10],[9,11,8],[12,12,0,1,2,3,4,5,6,7,8,9,10,11,12]]) (.ret)) (.seq (.reg [oo 67 (.fld 0 (.t 3)),oo 68 (.ld none (.t 67)),oo 69 (.cmp .eql (.t 68) (ki 3)),os (some 70) (.mv (.t 69)),og 70 true (some 71) (.mv (.t 5)),og 70 true (some 72) (.lenS (.t 71)),og 70 true (some 73) (.cmp .eql (.t 72) (ki 1)),oo 74 (.pick (.t 70) (.t 73) kf),om 66 74]) (.cond (.t 66) (.seq (.drw [oo 75 (.ld (some 5) (.t 3)),om 76 5,oo 77 (.ixa 1 (.t 76) (ki 0)),oo 78 (.ld none (.t 77)),oo 79 (.call (.k (.fn (.func 195) [] [])) [(.t 75),(.t 78)]),om 4 79] [[],[],[1],[2],[0,3],[4,4,0,1,2,3,4]]) (.ret)) (.seq (.reg [oo 81 (.fld 0 (.t 3)),oo 82 (.ld none (.t 81)),oo 83 (.cmp .eql (.t 82) (ki 4)),os (some 84) (.mv (.t 83)),og 84 true (some 85) (.mv (.t 5)),og 84 true (some 86) (.lenS (.t 85)),og 84 true (some 87) (.cmp .eql (.t 86) (ki 2)),oo 88 (.pick (.t 84) (.t 87) kf),om 80 88])
 (.cond (.t 80) (.seq (.drw [oo 89 (.ld (some 5) (.t 3)),om 90 5,oo 91 (.ixa 1 (.t 90) (ki 0)),oo 92 (.ld none (.t 91)),om 93 5,oo 94 (.ixa 1 (.t 93) (ki 1)),oo 95 (.ld none (.t 94)),oo 96 (.call (.k (.fn (.func 196) [] [])) [(.t 89),(.t 92),(.t 95)]),om 4 96] [[],[],[1],[2],[],[4],[5],[0,3,6],[7,7,0,1,2,3,4,5,6,7]]) (.ret)) (.seq (.reg [oo 98 (.fld 0 (.t 3)),oo 99 (.ld none (.t 98)),oo 100 (.cmp .eql (.t 99) (ki 5)),os (some 101) (.mv (.t 100)),og 101 false (some 102) (.fld 0 (.t 3)),og 101 false (some 103) (.ld none (.t 102)),og 101 false (some 104) (.cmp .eql (.t 103) (ki 6)),oo 105 (.pick (.t 101) kt (.t 104)),os (some 106) (.mv (.t 105)),og 106 true (some 107) (.mv (.t 5)),og 106 true (some 108) (.lenS (.t 107)),og 106 true (some 109) (.cmp .eql (.t 108) (ki 1)),oo 110 (.pick (.t 106) (.t 109) kf),om 97 110]) (.cond (.t 97) (.seq (.drw [om 111 6,os (some 112) (.mv (.t 111)),og 112 true (some 113) (.mv (.t 5)),og 112 true (some 114) (.ixa 1 (.t 113) (ki 0)),og 112 true (some 115) (.ld none (.t 114)),og 112 true (some 116) (.cmp .eql (.t 115) (ki 32)),oo 117 (.pick (.t 112) (.t 116) kf),os (some 118) (.mv (.t 117)),og 118 true (some 119) (.fld 1 (.t 3)),og 118 true (some 120) (.ld none (.t 119)),og 118 true (some 121) (.call (.k (.fn (.func 197) [] [])) [(.t 120)]),oo 122 (.pick (.t 118) (.t 121) kf),oo 123 (.fld 1 (.t 3)),oo 124 (.ld none (.t 123)),oo 125 (.call (.k (.fn (.func 193) [] [])) [(.t 122),(.t 124)]),om 4 125] [[],[0],[1],[2,1],[3,1],[4,1],[1,5],[6,1],[7],[8,7],[9,7,7],[7,10],[],[12],[11,13,10],[14,14,0,1,2,3,4,5,6,7,8,9,10,11,12,13,14]]) (.ret)) (.seq (.reg [oo 127 (.fld 0 (.t 3)),oo 128 (.ld none (.t 127)),oo 129 (.cmp .eql (.t 128) (ki 9)),os (some 130) (.mv (.t 129)),og 130 true (some 131) (.mv (.t 5)),og 130 true (some 132) (.lenS (.t 131)),og 130 true (some 133) (.cmp .eql (.t 132) (ki 1)),oo 134 (.pick (.t 130) (.t 133) kf),om 126 134]) (.cond (.t 126) (.seq (.reg [om 135 6,os (some 136) (.mv (.t 135)),og 136 true (some 137) (.mv (.t 5)),og 136 true (some 138) (.ixa 1 (.t 137) (ki 0)),og 136 true (some 139) (.ld none (.t 138)),og 136 true (some 140) (.cmp .eql (.t 139) (ki 32)),oo 141 (.pick (.t 136) (.t 140) kf),os (some 142) (.mv (.t 141)),og 142 true (some 143) (.fld 1 (.t 3)),og 142 true (some 144) (.ld none (.t 143)),og 142 true (some 145) (.call (.k (.fn (.func 197) [] [])) [(.t 144)]),oo 146 (.pick (.t 142) (.t 145) kf),oo 147 (.call (.k (.fn (.func 193) [] [])) [(.t 146),(ki 32)]),om 4 147]) (.ret)) (.seq (.reg [oo 149 (.fld 0 (.t 3)),oo 150 (.ld none (.t 149)),oo 151 (.cmp .eql (.t 150) (ki 7)),os (some 152) (.mv (.t 151)),og 152 true (some 153) (.mv (.t 5)),og 152 true (some 154) (.lenS (.t 153)),og 152 true (some 155) (.cmp .eql (.t 154) (ki 3)),oo 156 (.pick (.t 152) (.t 155) kf),om 148 156]) (.cond (.t 148) (.seq (.drw [om 157 6,os (some 158) (.mv (.t 157)),og 158 true (some 159) (.mv (.t 5)),og 158 true (some 160) (.ixa 1 (.t 159) (ki 0)),og 158 true (some 161) (.ld none (.t 160)),og 158 true (some 162) (.cmp .eql (.t 161) (ki 1)),oo 163 (.pick (.t 158) (.t 162) kf),os (some 164) (.mv (.t 163)),og 164 true (some 165) (.mv (.t 5)),og 164 true (some 166) (.ixa 1 (.t 165) (ki 1)),og 164 true (some 167) (.ld none (.t 166)),og 164 true (some 168) (.mv (.t 5)),og 164 true (some 169) (.ixa 1 (.t 168) (ki 2)),og 164 true (some 170) (.ld none (.t 169)),og 164 true (some 171) (.cmp .eql (.t 167) (.t 170)),oo 172 (.pick (.t 164) (.t 171) kf),os (some 173) (.mv (.t 172)),og 173 true (some 174) (.fld 1 (.t 3)),og 173 true (some 175) (.ld none (.t 174)),og 173 true (some 176) (.mv (.t 5)),og 173 true (some 177) (.ixa 1 (.t 176) (ki 1)),og 173 true (some 178) (.ld none (.t 177)),og 173 true (some 179) (.cmp .eql (.t 175) (.t 178)),oo 180 (.pick (.t 173) (.t 179) kf),oo 181 (.fld 1 (.t 3)),oo 182 (.ld none (.t 181)),oo 183 (.call (.k (.fn (.func 193) [] [])) [(.t 180),(.t 182)]),om 4 183] [[],[0],[1],[2,1],[3,1],[4,1],[1,5],[6,1],[7],[8,7],[9,7],[7],[11,7],[12,7],[10,13,7],[7,14],[15,7],[16],[17,16],[16],[19,16],[20,16],[18,21,16],[16,22],[],[24],[23,25,16],[26,26,0,1,2,3,4,5,6,7,8,9,10,11,12,13,14,15,16,17,18,19,20,21,22,23,24,25,26]])
 (.ret)) (.seq (.reg [oo 185 (.fld 0 (.t 3)),oo 186 (.ld none (.t 185)),oo 187 (.cmp .eql (.t 186) (ki 8)),om 184 187]) (.cond (.t 184) (.seq (.reg [oo 188 (.mkm),o none (.mup true [.int .i64] (.t 188) (ki 1) (ki 4)),o none (.mup true [.int .i64] (.t 188) (ki 2) (ki 5)),om 189 188,oo 190 (.fld 2 (.t 3)),oo 191 (.ld none (.t 190)),oo 192 (.lkp false true [.int .i64] true [.int .i64 0] (.t 189) (.t 191)),om 7 192]) (.seq (.reg [om 193 5,oo 194 (.call (.k (.fn (.func 77) [] [])) [(.t 193),(.k (.fn (.func 198) [] []))]),oo 195 (.not (.t 194)),om 8 195]) (.seq (.reg [om 196 7,oo 197 (.cmp .gtr (.t 196) (ki 0)),os (some 198) (.mv (.t 197)),og 198 true (some 199) (.mv (.t 5)),og 198 true (some 200) (.lenS (.t 199)),og 198 true (some 201) (.mv (.t 7)),og 198 true (some 202) (.cmp .eql (.t 200) (.t 201)),oo 203 (.pick (.t 198) (.t 202) kf),os (some 204) (.mv (.t 203)),og 204 true (some 205) (.mv (.t 8)),oo 206 (.pick (.t 204) (.t 205) kf),os (some 207) (.mv (.t 206)),og 207 true (some 208) (.fld 3 (.t 3)),og 207 true (some 209) (.ld none (.t 208)),og 207 true (some 210) (.cmp .eql (.t 209) (ki 0)),oo 211 (.pick (.t 207) (.t 210) kf),os (some 212) (.mv (.t 211)),og 212 true (some 213) (.fld 1 (.t 3)),og 212 true (some 214) (.ld none (.t 213)),og 212 true (some 215) (.cmp .eql (.t 214) (ki 32)),oo 216 (.pick (.t 212) (.t 215) kf),oo 217 (.fld 1 (.t 3)),oo 218 (.ld none (.t 217)),oo 219 (.call (.k (.fn (.func 193) [] [])) [(.t 216),(.t 218)]),om 4 219]) (.ret)))) (.skip)))))))))))))))))) (.seq (.reg [oo 4 (.mv (ki 0))]) (.ret))))))
theorem k173 : FnOk Tryz.prog 173 220 c173 [.t 4] := fk Tryz.func173 ⟨tv,⟨tv,⟨⟨tv,⟨⟨tv,tv⟩,tv⟩⟩,⟨tv,⟨⟨tv,⟨⟨tv,tv⟩,⟨tv,⟨⟨tv,tv⟩,⟨tv,⟨⟨tv,tv⟩,⟨tv,⟨⟨tv,tv⟩,⟨tv,⟨⟨tv,tv⟩,⟨tv,⟨⟨tv,tv⟩,⟨tv,⟨⟨tv,tv⟩,⟨tv,⟨⟨tv,⟨tv,⟨tv,tv⟩⟩⟩,tv⟩⟩⟩⟩⟩⟩⟩⟩⟩⟩⟩⟩⟩⟩⟩⟩,⟨tv,tv⟩⟩⟩⟩⟩⟩
def L215 (frm : Int) : LSpec := ⟨[.rd (.sl 6 [zAtomP]), .fn (.func 216) [] [.ptr 0 0 0]], [.row [.rd (.sl 1 [ipv frm])]], [some (.row [.rd (.sl 1 [ipv frm])])], [.vec 1 [ipv (tyF frm)]], .slc 1 0 1⟩
theorem s215 (frm : Int) : LSpec.ok Tryz.prog GG 215 (L215 frm) := by
 refine fn_spec mix k215 _ rfl rfl (Tab.ok (l := [(216, S216)]) ⟨t216, trivial⟩) (fun _ => .rounds 3) noJ ?_
 repeat' ((conv => whnf); first
  | exact trivial
  | with_reducible first | refine aj ?_ | refine ai rfl ?_ | refine ai ⟨rfl, rfl⟩ ?_
  | ((with_reducible refine ai ?_ ?_); first | focus (exact ⟨trivial, trivial, trivial⟩) | focus (simp [Rows.len]; done))
  | with_reducible first | refine And.intro ?_ ?_ | refine asL_mk ?_ | refine exI (i64_in (by omega) (by omega)) ?_
  | refine exI (x := ULift.up _) (Eq.refl _) ?_
  | refine exI (x := ULift.up _) ⟨rfl, by omega, Eq.refl _⟩ ?_
  | ((with_reducible intro h); first | exact absurd h (by decide) | (exfalso; revert h; simp; done))
  | with_reducible refine exI (x := ULift.up _) ⟨rfl, by omega, rfl⟩ ?_
  | with_reducible intro _)
def L215a  : LSpec := ⟨[.val (.slice none 0 0), .fn (.func 216) [] [.ptr 0 0 0]], [.row [.val (.slice none 0 0)]], [some (.row [.val (.slice none 0 0)])], [], .val (.slice none 0 0)⟩
theorem s215a  : LSpec.ok Tryz.prog GG 215 (L215a ) := by
 refine fn_spec mix k215 _ rfl rfl (Tab.ok (l := [(216, S216)]) ⟨t216, trivial⟩) (fun _ => .rounds 3) noJ ?_
 repeat' ((conv => whnf); first
  | exact trivial
  | with_reducible first | refine aj ?_ | refine ai rfl ?_ | refine ai ⟨rfl, rfl⟩ ?_
  | ((with_reducible refine ai ?_ ?_); first | focus (exact ⟨trivial, trivial, trivial⟩) | focus (simp [Rows.len]; done))
  | with_reducible first | refine And.intro ?_ ?_ | refine asL_mk ?_ | refine exI (i64_in (by omega) (by omega)) ?_
  | refine exI (x := ULift.up _) (Eq.refl _) ?_
  | refine exI (x := ULift.up _) ⟨rfl, by omega, Eq.refl _⟩ ?_
  | ((with_reducible intro h); first | exact absurd h (by decide) | (exfalso; revert h; simp; done))
  | with_reducible intro _)
noncomputable def S215 : SFn
 | [a0, .fn _ _ [.ptr p _ _]], k => asSl a0 fun l => match l with
   | [] => k L215a
   | _ => asRow p fun r => match r with
     | .agg [.rd (.sl _ [[.int .i64 frm]])] => k (L215 frm)
     | _ => .fail
 | _, _ => .fail
theorem t215 : FnS Tryz.prog GG 215 S215 := by
 intro args k gt go R v os n h
 unfold S215 at h
 split at h
 . obtain ⟨l, _, h⟩ := asSl_inv h
   split at h
   . exact ⟨_, _, s215a, h⟩
   . obtain ⟨r, _, h⟩ := asRow_inv h
     split at h
     . exact ⟨_, _, s215 _, h⟩
     . cases h
 . cases h
def L191 (frm : Int) : LSpec := ⟨[.rd (.sl 1 [ipv frm]), .rd (.sl 6 [zAtomP])], [], [], [.vec 1 [ipv (tyF frm)]], .slc 0 0 1⟩
theorem s191 (frm : Int) : LSpec.ok Tryz.prog GG 191 (L191 frm) := by
 refine fn_spec mix k191 _ rfl rfl (Tab.ok (l := [(215, S215)]) ⟨t215, trivial⟩) noL noJ ?_
 repeat' ((conv => whnf); first
  | exact trivial
  | with_reducible first | refine aj ?_ | refine ai rfl ?_ | refine ai ⟨rfl, rfl⟩ ?_
  | ((with_reducible refine ai ?_ ?_); first | focus (exact ⟨trivial, trivial, trivial⟩) | focus (simp [Rows.len]; done))
  | with_reducible first | refine And.intro ?_ ?_ | refine asL_mk ?_ | refine exI (i64_in (by omega) (by omega)) ?_
  | refine exI (x := ULift.up _) (Eq.refl _) ?_
  | refine exI (x := ULift.up _) ⟨rfl, by omega, Eq.refl _⟩ ?_
  | ((with_reducible intro h); first | exact absurd h (by decide) | (exfalso; revert h; simp; done))
  | with_reducible intro _)
def L191a  : LSpec := ⟨[.val (.slice none 0 0), .val (.slice none 0 0)], [], [], [], .val (.slice none 0 0)⟩
theorem s191a  : LSpec.ok Tryz.prog GG 191 (L191a ) := by
 refine fn_spec mix k191 _ rfl rfl (Tab.ok (l := [(215, S215)]) ⟨t215, trivial⟩) noL noJ ?_
 repeat' ((conv => whnf); first
  | exact trivial
  | with_reducible first | refine aj ?_ | refine ai rfl ?_ | refine ai ⟨rfl, rfl⟩ ?_
  | ((with_reducible refine ai ?_ ?_); first | focus (exact ⟨trivial, trivial, trivial⟩) | focus (simp [Rows.len]; done))
  | with_reducible first | refine And.intro ?_ ?_ | refine asL_mk ?_ | refine exI (i64_in (by omega) (by omega)) ?_
  | refine exI (x := ULift.up _) (Eq.refl _) ?_
  | refine exI (x := ULift.up _) ⟨rfl, by omega, Eq.refl _⟩ ?_
  | ((with_reducible intro h); first | exact absurd h (by decide) | (exfalso; revert h; simp; done))
  | with_reducible intro _)
noncomputable def S191 : SFn
 | [a0, a1], k => asSl a0 fun l => match l with
   | [] => k L191a
   | [[.int .i64 frm]] => k (L191 frm)
   | _ => .fail
 | _, _ => .fail
theorem t191 : FnS Tryz.prog GG 191 S191 := by
 intro args k gt go R v os n h
 unfold S191 at h
 split at h
 . obtain ⟨l, _, h⟩ := asSl_inv h
   split at h
   . exact ⟨_, _, s191a, h⟩
   . exact ⟨_, _, s191 _, h⟩
   . cases h
 . cases h
def L218 (a : Int) : LSpec := ⟨[.rd (.sl 1 [ipv a]), kz 0], [], [], [], kz (if a = 0 then 0 else -1)⟩
theorem s218 (a : Int) : LSpec.ok Tryz.prog GG 218 (L218 a) := by
 refine fn_spec mix k218 _ rfl rfl (Tab.ok (l := []) trivial) (fun _ => .rounds 3) noJ ?_
 repeat' ((conv => whnf); first
  | exact trivial
  | with_reducible first | refine aj ?_ | refine ai rfl ?_ | refine ai ⟨rfl, rfl⟩ ?_
  | ((with_reducible refine ai ?_ ?_); first | focus (exact ⟨trivial, trivial, trivial⟩) | focus (simp [Rows.len]; done))
  | with_reducible first | refine And.intro ?_ ?_ | refine asL_mk ?_ | refine exI (i64_in (by omega) (by omega)) ?_
  | refine exI (x := ULift.up _) (Eq.refl _) ?_
  | refine exI (x := ULift.up _) ⟨rfl, by omega, Eq.refl _⟩ ?_
  | ((with_reducible intro h); first | exact absurd h (by decide) | (exfalso; revert h; simp; done))
  | with_reducible refine exI (x := ULift.up _) ⟨rfl, by omega, rfl⟩ ?_
  | with_reducible intro _)
 all_goals (refine Sd.mk ?_; grind)
def L218a  : LSpec := ⟨[.val (.slice none 0 0), kz 0], [], [], [], kz (-1)⟩
theorem s218a  : LSpec.ok Tryz.prog GG 218 (L218a ) := by
 refine fn_spec mix k218 _ rfl rfl (Tab.ok (l := []) trivial) (fun _ => .rounds 3) noJ ?_
 repeat' ((conv => whnf); first
  | exact trivial
  | with_reducible first | refine aj ?_ | refine ai rfl ?_ | refine ai ⟨rfl, rfl⟩ ?_
  | ((with_reducible refine ai ?_ ?_); first | focus (exact ⟨trivial, trivial, trivial⟩) | focus (simp [Rows.len]; done))
  | with_reducible first | refine And.intro ?_ ?_ | refine asL_mk ?_ | refine exI (i64_in (by omega) (by omega)) ?_
  | refine exI (x := ULift.up _) (Eq.refl _) ?_
  | refine exI (x := ULift.up _) ⟨rfl, by omega, Eq.refl _⟩ ?_
  | ((with_reducible intro h); first | exact absurd h (by decide) | (exfalso; revert h; simp; done))
  | with_reducible intro _)
noncomputable def S218 : SFn
 | [a0, a1], k => asSl a0 fun l => match l with
   | [] => k L218a
   | [[.int .i64 frm]] => k (L218 frm)
   | _ => .fail
 | _, _ => .fail
theorem t218 : FnS Tryz.prog GG 218 S218 := by
 intro args k gt go R v os n h
 unfold S218 at h
 split at h
 . obtain ⟨l, _, h⟩ := asSl_inv h
   split at h
   . exact ⟨_, _, s218a, h⟩
   . exact ⟨_, _, s218 _, h⟩
   . cases h
 . cases h
def L192 (a : Int) : LSpec := ⟨[.rd (.sl 1 [ipv a]), kz 0], [], [], [], .bool (decide (a = 0))⟩
theorem s192 (a : Int) : LSpec.ok Tryz.prog GG 192 (L192 a) := by
 refine fn_spec mix k192 _ rfl rfl (Tab.ok (l := [(218, S218)]) ⟨t218, trivial⟩) noL noJ ?_
 repeat' ((conv => whnf); first
  | exact trivial
  | with_reducible first | refine aj ?_ | refine ai rfl ?_ | refine ai ⟨rfl, rfl⟩ ?_
  | ((with_reducible refine ai ?_ ?_); first | focus (exact ⟨trivial, trivial, trivial⟩) | focus (simp [Rows.len]; done))
  | with_reducible first | refine And.intro ?_ ?_ | refine asL_mk ?_ | refine exI (i64_in (by omega) (by omega)) ?_
  | refine exI (x := ULift.up _) (Eq.refl _) ?_
  | refine exI (x := ULift.up _) ⟨rfl, by omega, Eq.refl _⟩ ?_
  | ((with_reducible intro h); first | exact absurd h (by decide) | (exfalso; revert h; simp; done))
  | with_reducible intro _)
 all_goals (refine Sd.mk ?_; grind)
def L192a  : LSpec := ⟨[.val (.slice none 0 0), kz 0], [], [], [], .ff⟩
theorem s192a  : LSpec.ok Tryz.prog GG 192 (L192a ) := by
 refine fn_spec mix k192 _ rfl rfl (Tab.ok (l := [(218, S218)]) ⟨t218, trivial⟩) noL noJ ?_
 repeat' ((conv => whnf); first
  | exact trivial
  | with_reducible first | refine aj ?_ | refine ai rfl ?_ | refine ai ⟨rfl, rfl⟩ ?_
  | ((with_reducible refine ai ?_ ?_); first | focus (exact ⟨trivial, trivial, trivial⟩) | focus (simp [Rows.len]; done))
  | with_reducible first | refine And.intro ?_ ?_ | refine asL_mk ?_ | refine exI (i64_in (by omega) (by omega)) ?_
  | refine exI (x := ULift.up _) (Eq.refl _) ?_
  | refine exI (x := ULift.up _) ⟨rfl, by omega, Eq.refl _⟩ ?_
  | ((with_reducible intro h); first | exact absurd h (by decide) | (exfalso; revert h; simp; done))
  | with_reducible intro _)
noncomputable def S192 : SFn
 | [a0, a1], k => asSl a0 fun l => match l with
   | [] => k L192a
   | [[.int .i64 frm]] => k (L192 frm)
   | _ => .fail
 | _, _ => .fail
theorem t192 : FnS Tryz.prog GG 192 S192 := by
 intro args k gt go R v os n h
 unfold S192 at h
 split at h
 . obtain ⟨l, _, h⟩ := asSl_inv h
   split at h
   . exact ⟨_, _, s192a, h⟩
   . exact ⟨_, _, s192 _, h⟩
   . cases h
 . cases h
def exUn (op frm ty : Int) : Int := if tyF frm = 0 then 0 else unF op (tyF frm) ty
def L173 (op : Int) (frm : Int) (ty : Int) : LSpec := ⟨[.rd (.sl 1 [ipv frm]), .agg [kz 3, kz ty, kz op, kz 0, .rd (.sl 6 [zAtomP])]], [], [], [], kz (exUn op frm ty)⟩
set_option maxHeartbeats 40000000 in
theorem s173 (op : Int) (frm : Int) (ty : Int) : LSpec.ok Tryz.prog GG 173 (L173 op frm ty) := by
 refine fn_spec mix k173 _ rfl rfl (Tab.ok (l := [(191, S191), (192, S192), (193, S193), (194, S194), (195, S195)]) ⟨t191, t192, t193, t194, t195, trivial⟩) noL noJ ?_
 repeat' ((conv => whnf); first
  | exact trivial
  | with_reducible first | refine aj ?_ | refine ai rfl ?_ | refine ai ⟨rfl, rfl⟩ ?_
  | ((with_reducible refine ai ?_ ?_); first | focus (exact ⟨trivial, trivial, trivial⟩) | focus (simp [Rows.len]; done))
  | with_reducible first | refine And.intro ?_ ?_ | refine asL_mk ?_ | refine exI (i64_in (by omega) (by omega)) ?_
  | refine exI (x := ULift.up _) (Eq.refl _) ?_
  | refine exI (x := ULift.up _) ⟨rfl, by omega, Eq.refl _⟩ ?_
  | ((with_reducible intro h); first | exact absurd h (by decide) | (exfalso; revert h; simp; done))
  | with_reducible refine exI (x := ULift.up _) ⟨rfl, by omega, rfl⟩ ?_
  | with_reducible intro _)
 all_goals (refine Sd.mk ?_; (try simp only [exUn]); grind)
def L173a (off : Int) (ty : Int) : LSpec := ⟨[.val (.slice none 0 0), .agg [kz 2, kz ty, kz 0, kz off, .val (.slice none 0 0)]], [], [], [], kz (onlyF (fieldF off ty) ty)⟩
set_option maxHeartbeats 40000000 in
theorem s173a (off : Int) (ty : Int) : LSpec.ok Tryz.prog GG 173 (L173a off ty) := by
 refine fn_spec mix k173 _ rfl rfl (Tab.ok (l := [(191, S191), (192, S192), (193, S193), (194, S194), (195, S195)]) ⟨t191, t192, t193, t194, t195, trivial⟩) noL noJ ?_
 repeat' ((conv => whnf); first
  | exact trivial
  | with_reducible first | refine aj ?_ | refine ai rfl ?_ | refine ai ⟨rfl, rfl⟩ ?_
  | ((with_reducible refine ai ?_ ?_); first | focus (exact ⟨trivial, trivial, trivial⟩) | focus (simp [Rows.len]; done))
  | with_reducible first | refine And.intro ?_ ?_ | refine asL_mk ?_ | refine exI (i64_in (by omega) (by omega)) ?_
  | refine exI (x := ULift.up _) (Eq.refl _) ?_
  | refine exI (x := ULift.up _) ⟨rfl, by omega, Eq.refl _⟩ ?_
  | ((with_reducible intro h); first | exact absurd h (by decide) | (exfalso; revert h; simp; done))
  | with_reducible intro _)
 all_goals (refine Sd.mk ?_; grind)
noncomputable def S173 : SFn
 | [a0, .agg [_, .int .i64 ty, .int .i64 op, .int .i64 off, _]], k => asSl a0 fun l => match l with
   | [] => k (L173a off ty)
   | [[.int .i64 frm]] => k (L173 op frm ty)
   | _ => .fail
 | _, _ => .fail
theorem t173 : FnS Tryz.prog GG 173 S173 := by
 intro args k gt go R v os n h
 unfold S173 at h
 split at h
 . obtain ⟨l, _, h⟩ := asSl_inv h
   split at h
   . exact ⟨_, _, s173a _ _, h⟩
   . exact ⟨_, _, s173 _ _ _, h⟩
   . cases h
 . cases h
end Go.Proofs.YtlahifihaeafbaaGreatDoor
namespace Go.Proofs.YtlahifihaeafbaaGreatDoor
open Go Go.Sx
def c147 : MC := .seq (.reg [oo 4 (.mv kf)]) (.seq (.reg [om 5 0,om 6 1,oo 7 (.bld [(kz 0),(kz 0),(kz 0),(kz 0),(.val (.slice none 0 0))] [(0,1,(ki 2)),(1,1,(.t 5)),(3,1,(.t 6))]),oo 8 (.call (.k (.fn (.func 173) [] [])) [(.k (.val (.slice none 0 0))),(.t 7)]),om 9 0,oo 10 (.cmp .eql (.t 8) (.t 9)),os (some 11) (.mv (.t 10)),og 11 true (some 12) (.mv (.t 0)),og 11 true (some 13) (.cmp .neq (.t 12) (ki 0)),oo 14 (.pick (.t 11) (.t 13) kf),om 4 14]) (.ret))
theorem k147 : FnOk Tryz.prog 147 15 c147 [.t 4] := fk Tryz.func147 ⟨tv,⟨tv,tv⟩⟩
def c145 : MC := .seq (.reg [oo 1 (.box (.t 0)),oo 2 (.mv kf)]) (.seq (.seq (.reg [oo 3 (.fld 1 (.t 1)),oo 4 (.ld none (.t 3)),oo 5 (.call (.k (.fn (.func 144) [] [])) [(.t 4),(ki 1),(ki 7)]),oo 6 (.not (.t 5)),os (some 7) (.mv (.t 6)),og 7 false (some 8) (.fld 2 (.t 1)),og 7 false (some 9) (.ld none (.t 8)),og 7 false (some 10) (.cmp .eql (.t 9) (ki 128)),oo 11 (.pick (.t 7) kt (.t 10)),os (some 12) (.mv (.t 11)),og 12 false (some 13) (.fld 3 (.t 1)),og 12 false (some 14) (.ld none (.t 13)),og 12 false (some 15) (.cmp .eql (.t 14) (ki 128)),oo 16 (.pick (.t 12) kt (.t 15))]) (.cond (.t 16) (.seq (.reg [oo 2 (.mv kf)]) (.ret)) (.skip))) (.seq (.reg [oo 17 (.fld 2 (.t 1)),oo 18 (.ld none (.t 17)),oo 19 (.bsl 1 1 [(kz 0)] [(0,(.t 18))]),oo 20 (.fld 1 (.t 1)),oo 21 (.ld none (.t 20)),oo 22 (.fld 3 (.t 1)),oo 23 (.ld none (.t 22)),oo 24 (.bld [(kz 0),(kz 0),(.int .u32 0),(.int .u32 0),(.int .u32 0),(.int .u32 0)] []),oo 25 (.bsl 6 1 [(kz 0),(kz 0),(.int .u32 0),(.int .u32 0),(.int .u32 0),(.int .u32 0)] [(0,(.t 24))]),oo 26 (.bld [(kz 0),(kz 0),(kz 0),(kz 0),(.val (.slice none 0 0))] [(0,1,(ki 3)),(2,1,(.t 21)),(1,1,(.t 23)),(4,1,(.t 25))]),oo 27 (.call (.k (.fn (.func 173) [] [])) [(.t 19),(.t 26)]),oo 28 (.cmp .neq (.t 27) (ki 0)),om 2 28]) (.ret)))
theorem k145 : FnOk Tryz.prog 145 29 c145 [.t 2] := fk Tryz.func145 ⟨tv,⟨⟨tv,⟨⟨tv,tv⟩,tv⟩⟩,⟨tv,tv⟩⟩⟩
def c107 : MC := .seq (.reg [oo 2 (.box (.t 0)),oo 3 (.box (.t 1)),oo 4 (.mv kf)]) (.seq (.seq (.reg [oo 5 (.fld 2 (.t 2)),oo 6 (.ld none (.t 5))]) (.blk 0 (.seq (.reg [oo 8 (.cmp .eql (.t 6) (ki 1)),om 7 8]) (.cond (.t 7) (.seq (.reg [oo 9 (.fld 1 (.t 3)),oo 10 (.ld none (.t 9)),oo 11 (.call (.k (.fn (.func 144) [] [])) [(.t 10),(ki 1),(ki 19)]),om 4 11]) (.ret)) (.seq (.reg [oo 13 (.cmp .eql (.t 6) (ki 2)),om 12 13]) (.cond (.t 12) (.seq (.reg [oo 14 (.ld (some 15) (.t 3)),oo 15 (.call (.k (.fn (.func 145) [] [])) [(.t 14)]),om 4 15]) (.ret)) (.seq (.reg [oo 17 (.cmp .eql (.t 6) (ki 3)),om 16 17]) (.cond (.t 16) (.seq (.reg [oo 18 (.fld 1 (.t 3)),oo 19 (.ld none (.t 18)),oo 20 (.call (.k (.fn (.func 144) [] [])) [(.t 19),(ki 8),(ki 10)]),os (some 21) (.mv (.t 20)),og 21 false (some 22) (.fld 1 (.t 3)),og 21 false (some 23) (.ld none (.t 22)),og 21 false (some 24) (.call (.k (.fn (.func 144) [] [])) [(.t 23),(ki 20),(ki 29)]),oo 25 (.pick (.t 21) kt (.t 24)),om 4 25]) (.ret)) (.seq (.reg [oo 27 (.cmp .eql (.t 6) (ki 4)),om 26 27]) (.cond (.t 26) (.seq (.reg [oo 28 (.fld 1 (.t 3)),oo 29 (.ld none (.t 28)),oo 30 (.cmp .eql (.t 29) (ki 1)),os (some 31) (.mv (.t 30)),og 31 false (some 32) (.fld 1 (.t 3)),og 31 false (some 33) (.ld none (.t 32)),og 31 false (some 34) (.call (.k (.fn (.func 144) [] [])) [(.t 33),(ki 8),(ki 10)]),oo 35 (.pick (.t 31) kt (.t 34)),om 4 35]) (.ret)) (.seq (.reg [oo 37 (.cmp .eql (.t 6) (ki 5)),om 36 37]) (.cond (.t 36) (.seq (.reg [oo 38 (.fld 1 (.t 3)),oo 39 (.ld none (.t 38)),oo 40 (.cmp .eql (.t 39) (ki 14)),os (some 41) (.mv (.t 40)),og 41 false (some 42) (.fld 1 (.t 3)),og 41 false (some 43) (.ld none (.t 42)),og 41 false (some 44) (.cmp .eql (.t 43) (ki 15)),oo 45 (.pick (.t 41) kt (.t 44)),om 4 45]) (.ret)) (.seq (.reg [oo 47 (.cmp .eql (.t 6) (ki 6)),om 46 47]) (.cond (.t 46) (.seq (.reg [oo 48 (.fld 8 (.t 3)),oo 49 (.ld none (.t 48)),oo 50 (.call (.k (.fn (.func 144) [] [])) [(.t 49),(ki 0),(ki 3)]),om 4 50]) (.ret)) (.seq (.reg [oo 52 (.cmp .eql (.t 6) (ki 7)),om 51 52]) (.cond (.t 51) (.seq (.reg [oo 53 (.fld 3 (.t 3)),oo 54 (.ld none (.t 53)),oo 55 (.call (.k (.fn (.func 146) [] [])) [(.t 54)]),os (some 56) (.mv (.t 55)),og 56 true (some 57) (.fld 3 (.t 3)),og 56 true (some 58) (.ld none (.t 57)),og 56 true (some 59) (.fld 8 (.t 3)),og 56 true (some 60) (.ld none (.t 59)),og 56 true (some 61) (.call (.k (.fn (.func 147) [] [])) [(.t 58),(.t 60)]),oo 62 (.pick (.t 56) (.t 61) kf),om 4 62]) (.ret)) (.seq (.reg [oo 64 (.cmp .eql (.t 6) (ki 8)),om 63 64]) (.cond (.t 63) (.seq (.reg [oo 65 (.fld 8 (.t 3)),oo 66 (.ld none (.t 65)),oo 67 (.call (.k (.fn (.func 147) [] [])) [(ki 128),(.t 66)]),om 4 67]) (.ret)) (.seq (.reg [oo 69 (.cmp .eql (.t 6) (ki 9)),om 68 69]) (.cond (.t 68) (.seq (.reg [oo 70 (.fld 3 (.t 3)),oo 71 (.ld none (.t 70)),oo 72 (.call (.k (.fn (.func 146) [] [])) [(.t 71)]),om 4 72]) (.ret)) (.seq (.reg [oo 74 (.cmp .eql (.t 6) (ki 10)),om 73 74]) (.cond (.t 73) (.seq (.reg [oo 75 (.fld 3 (.t 3)),oo 76 (.ld none (.t 75)),oo 77 (.call (.k (.fn (.func 146) [] [])) [(.t 76)]),os (some 78) (.mv (.t 77)),og 78 false (some 79) (.fld 3 (.t 3)),og 78 false (some 80) (.ld none (.t 79)),og 78 false (some 81) (.cmp .eql (.t 80) (ki 128)),oo 82 (.pick (.t 78) kt (.t 81)),om 4 82])
 (.ret)) (.seq (.reg [oo 84 (.cmp .eql (.t 6) (ki 11)),om 83 84]) (.cond (.t 83) (.seq (.reg [oo 85 (.fld 8 (.t 3)),oo 86 (.ld none (.t 85)),oo 87 (.call (.k (.fn (.func 144) [] [])) [(.t 86),(ki 1),(ki 16)]),om 4 87]) (.ret)) (.seq (.reg [oo 89 (.cmp .eql (.t 6) (ki 12)),om 88 89]) (.cond (.t 88) (.seq (.reg [oo 90 (.fld 1 (.t 3)),oo 91 (.ld none (.t 90)),oo 92 (.call (.k (.fn (.func 144) [] [])) [(.t 91),(ki 0),(ki 2)]),os (some 93) (.mv (.t 92)),og 93 true (some 94) (.fld 1 (.t 3)),og 93 true (some 95) (.ld none (.t 94)),og 93 true (some 96) (.cmp .eql (.t 95) (ki 0)),ogs 93 true (some 97) (.mv (.t 96)),og 97 false (some 98) (.fld 7 (.t 3)),og 97 false (some 99) (.ld none (.t 98)),og 97 false (some 100) (.cmp .eql (.t 99) (ki 0)),og 93 true (some 101) (.pick (.t 97) kt (.t 100)),oo 102 (.pick (.t 93) (.t 101) kf),om 4 102]) (.ret)) (.seq (.reg [oo 104 (.cmp .eql (.t 6) (ki 13)),om 103 104]) (.cond (.t 103) (.seq (.reg [oo 105 (.fld 8 (.t 3)),oo 106 (.ld none (.t 105)),oo 107 (.call (.k (.fn (.func 144) [] [])) [(.t 106),(ki 0),(ki 7)]),om 4 107]) (.ret)) (.seq (.reg [oo 109 (.cmp .eql (.t 6) (ki 14)),om 108 109]) (.cond (.t 108) (.seq (.reg [oo 110 (.fld 1 (.t 3)),oo 111 (.ld none (.t 110)),oo 112 (.call (.k (.fn (.func 144) [] [])) [(.t 111),(ki 1),(ki 2)]),om 4 112]) (.ret)) (.seq (.reg [oo 114 (.cmp .eql (.t 6) (ki 15)),om 113 114]) (.cond (.t 113) (.seq (.reg [oo 115 (.fld 8 (.t 3)),oo 116 (.ld none (.t 115)),oo 117 (.call (.k (.fn (.func 144) [] [])) [(.t 116),(ki 0),(ki 8)]),os (some 118) (.mv (.t 117)),og 118 true (some 119) (.fld 9 (.t 3)),og 118 true (some 120) (.ld none (.t 119)),og 118 true (some 121) (.cmp .leq (.t 120) (.k (.int .u32 1000000))),oo 122 (.pick (.t 118) (.t 121) kf),om 4 122]) (.ret)) (.seq (.reg [oo 124 (.cmp .eql (.t 6) (ki 16)),om 123 124]) (.cond (.t 123) (.seq (.reg [oo 125 (.fld 8 (.t 3)),oo 126 (.ld none (.t 125)),oo 127 (.cmp .eql (.t 126) (ki 4)),os (some 128) (.mv (.t 127)),og 128 false (some 129) (.fld 8 (.t 3)),og 128 false (some 130) (.ld none (.t 129)),og 128 false (some 131) (.cmp .eql (.t 130) (ki 8)),oo 132 (.pick (.t 128) kt (.t 131)),om 4 132]) (.ret)) (.seq (.reg [oo 134 (.cmp .eql (.t 6) (ki 17)),om 133 134]) (.cond (.t 133) (.seq (.reg [oo 135 (.fld 8 (.t 3)),oo 136 (.ld none (.t 135)),oo 137 (.call (.k (.fn (.func 144) [] [])) [(.t 136),(ki 1),(ki 9)]),om 4 137]) (.ret)) (.seq (.reg [oo 139 (.cmp .eql (.t 6) (ki 18)),om 138 139]) (.cond (.t 138) (.seq (.reg [oo 140 (.fld 8 (.t 3)),oo 141 (.ld none (.t 140)),oo 142 (.call (.k (.fn (.func 144) [] [])) [(.t 141),(ki 0),(ki 511)]),om 4 142]) (.ret)) (.seq (.reg [oo 144 (.cmp .eql (.t 6) (ki 19)),om 143 144]) (.cond (.t 143) (.seq (.reg [oo 145 (.fld 8 (.t 3)),oo 146 (.ld none (.t 145)),oo 147 (.call (.k (.fn (.func 144) [] [])) [(.t 146),(ki 0),(ki 508)]),os (some 148) (.mv (.t 147)),og 148 true (some 149) (.fld 8 (.t 3)),og 148 true (some 150) (.ld none (.t 149)),og 148 true (some 151) (.ar .rem (.t 150) (ki 4)),og 148 true (some 152) (.cmp .eql (.t 151) (ki 0)),oo 153 (.pick (.t 148) (.t 152) kf),om 4 153])
 (.ret)) (.skip))))))))))))))))))))))))))))))))))))))))) (.seq (.reg [oo 4 (.mv kt)]) (.ret)))
theorem k107 : FnOk Tryz.prog 107 154 c107 [.t 4] := fk Tryz.func107 ⟨tv,⟨⟨tv,⟨tv,⟨⟨tv,tv⟩,⟨tv,⟨⟨tv,tv⟩,⟨tv,⟨⟨tv,tv⟩,⟨tv,⟨⟨tv,tv⟩,⟨tv,⟨⟨tv,tv⟩,⟨tv,⟨⟨tv,tv⟩,⟨tv,⟨⟨tv,tv⟩,⟨tv,⟨⟨tv,tv⟩,⟨tv,⟨⟨tv,tv⟩,⟨tv,⟨⟨tv,tv⟩,⟨tv,⟨⟨tv,tv⟩,⟨tv,⟨⟨tv,tv⟩,⟨tv,⟨⟨tv,tv⟩,⟨tv,⟨⟨tv,tv⟩,⟨tv,⟨⟨tv,tv⟩,⟨tv,⟨⟨tv,tv⟩,⟨tv,⟨⟨tv,tv⟩,⟨tv,⟨⟨tv,tv⟩,⟨tv,⟨⟨tv,tv⟩,tv⟩⟩⟩⟩⟩⟩⟩⟩⟩⟩⟩⟩⟩⟩⟩⟩⟩⟩⟩⟩⟩⟩⟩⟩⟩⟩⟩⟩⟩⟩⟩⟩⟩⟩⟩⟩⟩⟩⟩,⟨tv,tv⟩⟩⟩
def placeF (ty off : Int) : Bool := decide (onlyF (fieldF off ty) ty = ty ∧ ty ≠ 0)
def unaryF (sub frm ty : Int) : Bool := withinF sub 1 7 && decide (frm ≠ 128) && decide (ty ≠ 128) && decide (exUn sub frm ty ≠ 0)
def obeysF (rule : Int) (x : HI) : Bool :=
 if rule = 1 then withinF x.sub 1 19
 else if rule = 2 then unaryF x.sub x.frm x.ty
 else if rule = 3 then withinF x.sub 8 10 || withinF x.sub 20 29
 else if rule = 4 then decide (x.sub = 1) || withinF x.sub 8 10
 else if rule = 5 then decide (x.sub = 14 ∨ x.sub = 15)
 else if rule = 6 then withinF x.k 0 3
 else if rule = 7 then wordF x.ty && placeF x.ty x.k
 else if rule = 8 then placeF 128 x.k
 else if rule = 9 then wordF x.ty
 else if rule = 10 then wordF x.ty || decide (x.ty = 128)
 else if rule = 11 then withinF x.k 1 16
 else if rule = 12 then withinF x.sub 0 2 && decide (x.sub = 0 ∨ x.c = 0)
 else if rule = 13 then withinF x.k 0 7
 else if rule = 14 then withinF x.sub 1 2
 else if rule = 15 then withinF x.k 0 8 && decide (x.i ≤ 1000000)
 else if rule = 16 then decide (x.k = 4 ∨ x.k = 8)
 else if rule = 17 then withinF x.k 1 9
 else if rule = 18 then withinF x.k 0 511
 else if rule = 19 then withinF x.k 0 508 && decide (x.k.tmod 4 = 0)
 else true
def L147 (ty : Int) (off : Int) : LSpec := ⟨[kz ty, kz off], [], [], [], .bool (placeF ty off)⟩
theorem s147 (ty : Int) (off : Int) : LSpec.ok Tryz.prog GG 147 (L147 ty off) := by
 refine fn_spec mix k147 _ rfl rfl (Tab.ok (l := [(173, S173)]) ⟨t173, trivial⟩) noL noJ ?_
 repeat' ((conv => whnf); first
  | exact trivial
  | with_reducible first | refine aj ?_ | refine ai rfl ?_ | refine ai ⟨rfl, rfl⟩ ?_
  | ((with_reducible refine ai ?_ ?_); focus exact w3)
  | with_reducible first | refine And.intro ?_ ?_ | refine asL_mk ?_ | refine exI (i64_in (by omega) (by omega)) ?_
  | refine exI (x := ULift.up _) (Eq.refl _) ?_
  | refine exI (x := ULift.up _) ⟨rfl, by omega, Eq.refl _⟩ ?_
  | ((with_reducible intro h); first | exact absurd h (by decide) | (exfalso; revert h; simp; done))
  | with_reducible intro _)
 all_goals (refine Sd.mk ?_; (try simp only [placeF]); grind)
noncomputable def S147 : SFn
 | [a0, a1], k => asI a0 fun ty => asI a1 fun off => k (L147 ty off)
 | _, _ => .fail
theorem t147 : FnS Tryz.prog GG 147 S147 := by
 intro args k gt go R v os n h
 unfold S147 at h
 split at h
 . obtain ⟨ty, _, h⟩ := asI_inv h
   obtain ⟨off, _, h⟩ := asI_inv h
   exact ⟨_, _, s147 ty off, h⟩
 . cases h
def L145 (x : HI) : LSpec := ⟨[.agg x.cells], [], [], [], .bool (unaryF x.sub x.frm x.ty)⟩
theorem s145 (x : HI) : LSpec.ok Tryz.prog GG 145 (L145 x) := by
 refine fn_spec mix k145 _ rfl rfl (Tab.ok (l := [(144, S144), (173, S173)]) ⟨t144, t173, trivial⟩) noL noJ ?_
 repeat' ((conv => whnf); first
  | exact trivial
  | with_reducible first | refine aj ?_ | refine ai rfl ?_ | refine ai ⟨rfl, rfl⟩ ?_
  | ((with_reducible refine ai ?_ ?_); focus exact w3)
  | with_reducible first | refine And.intro ?_ ?_ | refine asL_mk ?_ | refine exI (i64_in (by omega) (by omega)) ?_
  | refine exI (x := ULift.up _) (Eq.refl _) ?_
  | refine exI (x := ULift.up _) ⟨rfl, by omega, Eq.refl _⟩ ?_
  | ((with_reducible intro h); first | exact absurd h (by decide) | (exfalso; revert h; simp; done))
  | with_reducible intro _)
 all_goals (refine Sd.mk ?_; (try simp only [unaryF]); grind)
noncomputable def S145 : SFn
 | [a0], k => asHI a0 fun x => k (L145 x)
 | _, _ => .fail
theorem t145 : FnS Tryz.prog GG 145 S145 := by
 intro args k gt go R v os n h
 unfold S145 at h
 split at h
 . obtain ⟨x, _, h⟩ := asHI_inv h
   exact ⟨_, _, s145 x, h⟩
 . cases h
def L107 (f : FM) (x : HI) : LSpec := ⟨[.agg f.cells, .agg x.cells], [], [], [], .bool (obeysF f.rule x)⟩
set_option maxHeartbeats 40000000 in
theorem s107 (f : FM) (x : HI) : LSpec.ok Tryz.prog GG 107 (L107 f x) := by
 refine fn_spec mix k107 _ rfl rfl (Tab.ok (l := [(144, S144), (145, S145), (146, S146), (147, S147)]) ⟨t144, t145, t146, t147, trivial⟩) noL noJ ?_
 repeat' ((conv => whnf); first
  | exact trivial
  | with_reducible first | refine aj ?_ | refine ai rfl ?_ | refine ai ⟨rfl, rfl⟩ ?_
  | ((with_reducible refine ai ?_ ?_); focus exact w3)
  | with_reducible first | refine And.intro ?_ ?_ | refine asL_mk ?_ | refine exI (i64_in (by omega) (by omega)) ?_
  | refine exI (x := ULift.up _) (Eq.refl _) ?_
  | refine exI (x := ULift.up _) ⟨rfl, by omega, Eq.refl _⟩ ?_
  | ((with_reducible intro h); first | exact absurd h (by decide) | (exfalso; revert h; simp; done))
  | with_reducible intro _)
 all_goals (refine Sd.mk ?_; (try simp only [obeysF]); grind)
noncomputable def S107 : SFn
 | [a0, a1], k => asFM a0 fun f => asHI a1 fun x => k (L107 f x)
 | _, _ => .fail
theorem t107 : FnS Tryz.prog GG 107 S107 := by
 intro args k gt go R v os n h
 unfold S107 at h
 split at h
 . obtain ⟨f, _, h⟩ := asFM_inv h
   obtain ⟨x, _, h⟩ := asHI_inv h
   exact ⟨_, _, s107 f x, h⟩
 . cases h
end Go.Proofs.YtlahifihaeafbaaGreatDoor
namespace Go.Proofs.YtlahifihaeafbaaGreatDoor
open Go Go.Sx
def c58 : MC := .seq (.reg [oo 1 (.box (.t 0)),oo 2 (.mv kf)]) (.seq (.reg [oo 6 (.fld 0 (.t 1)),oo 7 (.ld none (.t 6)),oo 8 (.call (.k (.fn (.func 80) [] [])) [(.t 7)]),om 5 8,oo 9 (.ext 0 (.t 5)),oo 10 (.ext 1 (.t 5)),oo 3 (.alloc [(.str ⟨#[]⟩),(kz 0),(kz 0)]),o none (.st (some 3) (.t 3) (.t 9)),om 4 10]) (.seq (.drw [om 11 4,os (some 12) (.mv (.t 11)),og 12 true (some 13) (.ld (some 3) (.t 3)),og 12 true (some 14) (.ld (some 15) (.t 1)),og 12 true (some 15) (.call (.k (.fn (.func 106) [] [])) [(.t 13),(.t 14)]),og 12 true (some 16) (.ld (some 15) (.t 1)),og 12 true (some 17) (.eqs [.int .i64,.int .i64,.int .i64,.int .i64,.int .i64,.int .i64,.int .i64,.int .i64,.int .i64,.int .u32,.int .u32,.int .u32,.int .u32,.int .u32,.int .u32] false (.t 15) (.t 16)),oo 18 (.pick (.t 12) (.t 17) kf),os (some 19) (.mv (.t 18)),og 19 true (some 20) (.fld 4 (.t 1)),og 19 true (some 21) (.ld none (.t 20)),og 19 true (some 22) (.cmp .geq (.t 21) (ki 0)),oo 23 (.pick (.t 19) (.t 22) kf),os (some 24) (.mv (.t 23)),og 24 true (some 25) (.fld 5 (.t 1)),og 24 true (some 26) (.ld none (.t 25)),og 24 true (some 27) (.cmp .geq (.t 26) (ki 0)),oo 28 (.pick (.t 24) (.t 27) kf),os (some 29) (.mv (.t 28)),og 29 true (some 30) (.fld 6 (.t 1)),og 29 true (some 31) (.ld none (.t 30)),og 29 true (some 32) (.cmp .geq (.t 31) (ki 0)),oo 33 (.pick (.t 29) (.t 32) kf),os (some 34) (.mv (.t 33)),og 34 true (some 35) (.fld 7 (.t 1)),og 34 true (some 36) (.ld none (.t 35)),og 34 true (some 37) (.cmp .geq (.t 36) (ki 0)),oo 38 (.pick (.t 34) (.t 37) kf),os (some 39) (.mv (.t 38)),og 39 true (some 40) (.ld (some 3) (.t 3)),og 39 true (some 41) (.ld (some 15) (.t 1)),og 39 true (some 42) (.call (.k (.fn (.func 107) [] [])) [(.t 40),(.t 41)]),oo 43 (.pick (.t 39) (.t 42) kf),om 2 43] [[],[0],[1],[1],[2,3,1,1],[1],[4,5,1],[1,6],[7,4],[8],[9,8],[10,8],[8,11],[12,8],[13],[14,13],[15,13],[13,16],[17,13],[18],[19,18],[20,18],[18,21],[22,18],[23],[24,23],[25,23],[23,26],[27,23],[28],[28],[29,30,28,28],[28,31],[32,31,0,1,2,3,4,5,6,7,8,9,10,11,12,13,14,15,16,17,18,19,20,21,22,23,24,25,26,27,28,29,30,31,32]]) (.ret)))
theorem k58 : FnOk Tryz.prog 58 44 c58 [.t 2] := fk Tryz.func58 ⟨tv,⟨tv,⟨tv,tv⟩⟩⟩
theorem HI.eq_iff (x y : HI) : x = y ↔ x.op = y.op ∧ x.sub = y.sub ∧ x.frm = y.frm ∧ x.ty = y.ty ∧ x.d = y.d ∧ x.a = y.a ∧ x.b = y.b ∧ x.c = y.c ∧ x.k = y.k ∧ x.i = y.i ∧ x.ch = y.ch ∧ x.v0 = y.v0 ∧ x.v1 = y.v1 ∧ x.v2 = y.v2 ∧ x.v3 = y.v3 := by
 cases x; cases y; simp
theorem HI.eta (x : HI) : HI.mk x.op x.sub x.frm x.ty x.d x.a x.b x.c x.k x.i x.ch x.v0 x.v1 x.v2 x.v3 = x := rfl
theorem FM.eta (x : FM) : FM.mk x.name x.fields x.rule = x := rfl
def bareOk (x : HI) : Bool := decide (bareF (formF x.op).1 x = x)
def validF (x : HI) : Bool := (formF x.op).2 && bareOk x && decide (0 ≤ x.d) && decide (0 ≤ x.a) && decide (0 ≤ x.b) && decide (0 ≤ x.c) && obeysF (formF x.op).1.rule x
theorem bareOk_iff (x : HI) : bareOk x = true ↔ (bareF (formF x.op).1 x).op = x.op ∧ (bareF (formF x.op).1 x).sub = x.sub ∧ (bareF (formF x.op).1 x).frm = x.frm ∧ (bareF (formF x.op).1 x).ty = x.ty ∧ (bareF (formF x.op).1 x).d = x.d ∧ (bareF (formF x.op).1 x).a = x.a ∧ (bareF (formF x.op).1 x).b = x.b ∧ (bareF (formF x.op).1 x).c = x.c ∧ (bareF (formF x.op).1 x).k = x.k ∧ (bareF (formF x.op).1 x).i = x.i ∧ (bareF (formF x.op).1 x).ch = x.ch ∧ (bareF (formF x.op).1 x).v0 = x.v0 ∧ (bareF (formF x.op).1 x).v1 = x.v1 ∧ (bareF (formF x.op).1 x).v2 = x.v2 ∧ (bareF (formF x.op).1 x).v3 = x.v3 ∧ True := by
 unfold bareOk
 rw [decide_eq_true_iff, HI.eq_iff]
 simp only [and_true]
def L58 (x : HI) : LSpec := ⟨[.agg x.cells], [], [], [], .bool (validF x)⟩
set_option maxHeartbeats 40000000 in
theorem s58 (x : HI) : LSpec.ok Tryz.prog GG 58 (L58 x) := by
 refine fn_spec mix k58 _ rfl rfl (Tab.ok (l := [(80, S80), (106, S106), (107, S107)]) ⟨t80, t106, t107, trivial⟩) noL noJ ?_
 repeat' ((conv => whnf); first
  | exact trivial
  | with_reducible first | refine aj ?_ | refine ai rfl ?_ | refine ai ⟨rfl, rfl⟩ ?_
  | ((with_reducible refine ai ?_ ?_); focus exact w3)
  | with_reducible first | refine And.intro ?_ ?_ | refine asL_mk ?_ | refine exI (i64_in (by omega) (by omega)) ?_
  | refine exI (x := ULift.up _) (Eq.refl _) ?_
  | refine exI (x := ULift.up _) ⟨rfl, by omega, Eq.refl _⟩ ?_
  | ((with_reducible intro h); first | exact absurd h (by decide) | (exfalso; revert h; simp; done))
  | ((with_reducible refine ai ?_ ?_); first | focus (exact ⟨_, rfl⟩))
  | with_reducible intro _)
 all_goals (refine Sd.mk ?_; have hb := bareOk_iff x; simp only [bareF] at hb; (try simp only [HI.eta, FM.eta] at *); (try simp only [validF]); grind)
noncomputable def S58 : SFn
 | [a0], k => asHI a0 fun x => k (L58 x)
 | _, _ => .fail
theorem t58 : FnS Tryz.prog GG 58 S58 := by
 intro args k gt go R v os n h
 unfold S58 at h
 split at h
 . obtain ⟨x, _, h⟩ := asHI_inv h
   exact ⟨_, _, s58 x, h⟩
 . cases h
end Go.Proofs.YtlahifihaeafbaaGreatDoor
namespace Go.Proofs.YtlahifihaeafbaaGreatDoor
open Go Go.Sx
def c33 : MC := .seq (.reg [oo 1 (.box (.t 0)),oo 2 (.alloc [.ff,(kz 0)]),oo 3 (.mv kf)]) (.seq (.reg [oo 7 (.fld 0 (.t 1)),oo 8 (.ld none (.t 7)),oo 9 (.call (.k (.fn (.func 80) [] [])) [(.t 8)]),om 6 9,oo 10 (.ext 0 (.t 6)),oo 11 (.ext 1 (.t 6)),oo 4 (.alloc [(.str ⟨#[]⟩),(kz 0),(kz 0)]),o none (.st (some 3) (.t 4) (.t 10)),om 5 11]) (.seq (.seq (.reg [oo 12 (.ld (some 15) (.t 1)),oo 13 (.call (.k (.fn (.func 58) [] [])) [(.t 12)]),oo 14 (.not (.t 13)),os (some 15) (.mv (.t 14)),og 15 false (some 16) (.ld (some 3) (.t 4)),og 15 false (some 17) (.call (.k (.fn (.func 81) [] [])) [(.t 16),(ki 8)]),og 15 false (some 18) (.not (.t 17)),oo 19 (.pick (.t 15) kt (.t 18))]) (.cond (.t 19) (.seq (.reg [oo 20 (.bld [.ff,(kz 0)] []),o none (.st (some 2) (.t 2) (.t 20)),oo 3 (.mv kf)]) (.ret)) (.skip))) (.seq (.drw [oo 21 (.ld (some 3) (.t 4)),oo 22 (.call (.k (.fn (.func 81) [] [])) [(.t 21),(ki 2048)]),oo 23 (.fld 4 (.t 1)),oo 24 (.ld none (.t 23)),oo 25 (.bld [.ff,(kz 0)] [(0,1,(.t 22)),(1,1,(.t 24))]),o none (.st (some 2) (.t 2) (.t 25)),oo 3 (.mv kt)] [[],[0],[],[2],[1,3],[4,1,0,1,2,3,4],[5,0,1,2,3,4,5]]) (.ret))))
theorem k33 : FnOk Tryz.prog 33 26 c33 [.c 2 (some 2),.t 3] := fk Tryz.func33 ⟨tv,⟨tv,⟨⟨tv,⟨⟨tv,tv⟩,tv⟩⟩,⟨tv,tv⟩⟩⟩⟩
def c82 : MC := .seq (.reg [oo 2 (.box (.t 0)),oo 4 (.mv (.k (.val (.slice none 0 0))))]) (.seq (.reg [oo 5 (.mv (.k (.val (.slice none 0 0))))]) (.seq (.seq (.reg [oo 6 (.ld (some 3) (.t 2)),oo 7 (.call (.k (.fn (.func 81) [] [])) [(.t 6),(ki 16)])]) (.cond (.t 7) (.drw [om 8 5,om 9 1,oo 10 (.nchk (.t 9)),oo 11 (.fld 5 (.t 10)),oo 12 (.ld (some 3) (.t 2)),oo 13 (.call (.k (.fn (.func 81) [] [])) [(.t 12),(ki 4096)]),oo 14 (.bld [(.val (.pointer none)),.ff] [(0,1,(.t 11)),(1,1,(.t 13))]),oo 15 (.bsl 2 1 [(.val (.pointer none)),.ff] [(0,(.t 14))]),oo 16 (.app 2 16 (.t 8) (.t 15)),om 5 16] [[],[],[1],[2],[],[4],[3,5],[6],[0,7,5],[8,8,0,1,2,3,4,5,6,7,8]]) (.skip))) (.seq (.seq (.reg [oo 17 (.ld (some 3) (.t 2)),oo 18 (.call (.k (.fn (.func 81) [] [])) [(.t 17),(ki 32)])]) (.cond (.t 18) (.drw [om 19 5,om 20 1,oo 21 (.nchk (.t 20)),oo 22 (.fld 6 (.t 21)),oo 23 (.ld (some 3) (.t 2)),oo 24 (.call (.k (.fn (.func 81) [] [])) [(.t 23),(ki 8192)]),oo 25 (.bld [(.val (.pointer none)),.ff] [(0,1,(.t 22)),(1,1,(.t 24))]),oo 26 (.bsl 2 1 [(.val (.pointer none)),.ff] [(0,(.t 25))]),oo 27 (.app 2 16 (.t 19) (.t 26)),om 5 27] [[],[],[1],[2],[],[4],[3,5],[6],[0,7,5],[8,8,0,1,2,3,4,5,6,7,8]]) (.skip))) (.seq (.seq (.reg [oo 28 (.ld (some 3) (.t 2)),oo 29 (.call (.k (.fn (.func 81) [] [])) [(.t 28),(ki 64)]),os (some 30) (.mv (.t 29)),og 30 true (some 31) (.fld 2 (.t 2)),og 30 true (some 32) (.ld none (.t 31)),og 30 true (some 33) (.cmp .neq (.t 32) (ki 12)),ogs 30 true (some 34) (.mv (.t 33)),og 34 false (some 35) (.mv (.t 1)),og 34 false (some 36) (.nchk (.t 35)),og 34 false (some 37) (.fld 1 (.t 36)),og 34 false (some 38) (.ld none (.t 37)),og 34 false (some 39) (.cmp .eql (.t 38) (ki 0)),og 30 true (some 40) (.pick (.t 34) kt (.t 39)),oo 41 (.pick (.t 30) (.t 40) kf)]) (.cond (.t 41) (.drw [om 42 5,om 43 1,oo 44 (.nchk (.t 43)),oo 45 (.fld 7 (.t 44)),oo 46 (.ld (some 3) (.t 2)),oo 47 (.call (.k (.fn (.func 81) [] [])) [(.t 46),(ki 16384)]),oo 48 (.bld [(.val (.pointer none)),.ff] [(0,1,(.t 45)),(1,1,(.t 47))]),oo 49 (.bsl 2 1 [(.val (.pointer none)),.ff] [(0,(.t 48))]),oo 50 (.app 2 16 (.t 42) (.t 49)),om 5 50] [[],[],[1],[2],[],[4],[3,5],[6],[0,7,5],[8,8,0,1,2,3,4,5,6,7,8]]) (.skip))) (.seq (.reg [om 51 5,om 4 51]) (.ret))))))
theorem k82 : FnOk Tryz.prog 82 52 c82 [.t 4] := fk Tryz.func82 ⟨tv,⟨tv,⟨⟨tv,⟨tv,tv⟩⟩,⟨⟨tv,⟨tv,tv⟩⟩,⟨⟨tv,⟨tv,tv⟩⟩,⟨tv,tv⟩⟩⟩⟩⟩⟩
def ff (x : HI) (b : Int) : Bool := hasF (formF x.op).1.fields b
def defF (x : HI) : HR × Bool := if validF x = true ∧ ff x 8 = true then (⟨ff x 2048, x.d⟩, true) else (⟨false, 0⟩, false)
def L33 (x : HI) : LSpec := ⟨[.agg x.cells], [], [], [], .tup [.agg (defF x).1.cells, .bool (defF x).2]⟩
set_option maxHeartbeats 40000000 in
theorem s33 (x : HI) : LSpec.ok Tryz.prog GG 33 (L33 x) := by
 refine fn_spec mix k33 _ rfl rfl (Tab.ok (l := [(80, S80), (58, S58), (81, S81)]) ⟨t80, t58, t81, trivial⟩) noL noJ ?_
 repeat' ((conv => whnf); first
  | exact trivial
  | with_reducible first | refine aj ?_ | refine ai rfl ?_ | refine ai ⟨rfl, rfl⟩ ?_
  | ((with_reducible refine ai ?_ ?_); focus exact w3)
  | with_reducible first | refine And.intro ?_ ?_ | refine asL_mk ?_ | refine exI (i64_in (by omega) (by omega)) ?_
  | refine exI (x := ULift.up _) (Eq.refl _) ?_
  | refine exI (x := ULift.up _) ⟨rfl, by omega, Eq.refl _⟩ ?_
  | ((with_reducible intro h); first | exact absurd h (by decide) | (exfalso; revert h; simp; done))
  | with_reducible intro _)
 all_goals (refine Sd.mk ?_; (try simp only [HI.eta, FM.eta] at *); (try simp only [defF, ff]); grind)
noncomputable def S33 : SFn
 | [a0], k => asHI a0 fun x => k (L33 x)
 | _, _ => .fail
theorem t33 : FnS Tryz.prog GG 33 S33 := by
 intro args k gt go R v os n h
 unfold S33 at h
 split at h
 . obtain ⟨x, _, h⟩ := asHI_inv h
   exact ⟨_, _, s33 x, h⟩
 . cases h
def rdA (x : HI) : List SV := [.ptr 0 0 5, .bool (ff x 4096)]
def rdB (x : HI) : List SV := [.ptr 0 0 6, .bool (ff x 8192)]
def rdC (x : HI) : List SV := [.ptr 0 0 7, .bool (ff x 16384)]
def ffC (x : HI) : Bool := ff x 64 && (decide ((formF x.op).1.rule ≠ 12) || decide (x.sub = 0))
def rdL (x : HI) : Bool -> Bool -> Bool -> List (List SV)
 | false, false, false => []
 | true, false, false => [rdA x]
 | false, true, false => [rdB x]
 | true, true, false => [rdA x, rdB x]
 | false, false, true => [rdC x]
 | true, false, true => [rdA x, rdC x]
 | false, true, true => [rdB x, rdC x]
 | true, true, true => [rdA x, rdB x, rdC x]
def rdN : Bool -> Bool -> Bool -> Nat
 | false, false, false => 0
 | true, false, false => 1
 | false, true, false => 1
 | true, true, false => 2
 | false, false, true => 1
 | true, false, true => 2
 | false, true, true => 2
 | true, true, true => 3
def L82 (x : HI) (ha hb hc : Bool) : LSpec := ⟨[.agg (formF x.op).1.cells, .ptr 0 0 0], [.row x.cells], [some (.row x.cells)], [.arr 2 (rdL x ha hb hc)], .slc 1 0 (rdN ha hb hc)⟩
set_option maxHeartbeats 40000000 in
theorem s82 (x : HI) (ha hb hc : Bool) (h1 : ff x 16 = ha) (h2 : ff x 32 = hb) (h3 : ffC x = hc) : LSpec.ok Tryz.prog GG 82 (L82 x ha hb hc) := by
 cases ha <;> cases hb <;> cases hc
 all_goals
  refine fn_spec mix k82 _ rfl rfl (Tab.ok (l := [(81, S81)]) ⟨t81, trivial⟩) noL noJ ?_
  repeat' ((conv => whnf); first
   | exact trivial
   | with_reducible refine And.intro (Sd.mk (by with_reducible rfl)) ?_
   | with_reducible refine And.intro (Sd.mk ⟨by with_reducible rfl, by with_reducible rfl⟩) ?_
   | with_reducible refine And.intro (Sd.mk (show noConf _ _ = true by kernel_rfl)) ?_
   | with_reducible refine And.intro (Sd.mk rfl) ?_
   | with_reducible refine And.intro (Sd.mk ⟨rfl, rfl⟩) ?_
   | with_reducible refine And.intro (Sd.mk (by decide)) ?_
   | with_reducible refine And.intro (Sd.mk (by omega)) ?_
   | ((with_reducible refine And.intro (Sd.mk ?_) ?_); focus (exact ⟨trivial, trivial, trivial⟩))
   | ((with_reducible refine And.intro (Sd.mk ?_) ?_); focus (refine ⟨rfl, ?_⟩; simp; done))
   | ((with_reducible refine And.intro (Sd.mk ?_) ?_); focus (simp [Rows.len]; done))
   | with_reducible refine And.intro ?_ ?_
   | with_reducible refine asL_mk ?_
   | with_reducible refine exI (i64_in (by omega) (by omega)) ?_
   | refine exI (x := ULift.up _) (Eq.refl _) ?_
   | refine exI (x := ULift.up _) ⟨rfl, by omega, Eq.refl _⟩ ?_
   | ((with_reducible intro h); exact absurd h (by decide))
   | ((with_reducible intro h); exfalso; revert h; simp; done)
   | ((with_reducible intro h); exact Bool.noConfusion (h.symm.trans h1))
   | ((with_reducible intro h); exact Bool.noConfusion (h.symm.trans h2))
   | with_reducible intro _)
  all_goals first
   | exact Sd.mk ⟨rfl, rfl, rfl⟩
   | (refine Sd.mk ?_; (try simp only [HI.eta, FM.eta] at *); (try simp only [ff, ffC] at *); grind)
   | (exfalso; (try simp only [HI.eta, FM.eta] at *); (try simp only [ff, ffC] at *); grind)
noncomputable def S82 : SFn
 | [a0, .ptr a _ _], k => asFM a0 fun f => asRow a fun r => asHI r fun x => .req (f = (formF x.op).1)
  (.split (ff x 16 = true) (.split (ff x 32 = true) (.split (ffC x = true) (k (L82 x true true true)) (k (L82 x true true false))) (.split (ffC x = true) (k (L82 x true false true)) (k (L82 x true false false))))
   (.split (ff x 32 = true) (.split (ffC x = true) (k (L82 x false true true)) (k (L82 x false true false))) (.split (ffC x = true) (k (L82 x false false true)) (k (L82 x false false false)))))
 | _, _ => .fail
theorem t82 : FnS Tryz.prog GG 82 S82 := by
 intro args k gt go R v os n h
 unfold S82 at h
 split at h
 . obtain ⟨f, _, h⟩ := asFM_inv h
   obtain ⟨r, _, h⟩ := asRow_inv h
   obtain ⟨x, _, h⟩ := asHI_inv h
   obtain ⟨hf, _, h⟩ := req_inv h
   cases h with
   | left h1 h => cases h with
     | left h2 h => cases h with
       | left h3 h => exact ⟨_, _, s82 x _ _ _ h1 h2 h3, h⟩
       | right h3 h => exact ⟨_, _, s82 x _ _ _ h1 h2 (by simpa using h3), h⟩
     | right h2 h => cases h with
       | left h3 h => exact ⟨_, _, s82 x _ _ _ h1 (by simpa using h2) h3, h⟩
       | right h3 h => exact ⟨_, _, s82 x _ _ _ h1 (by simpa using h2) (by simpa using h3), h⟩
   | right h1 h => cases h with
     | left h2 h => cases h with
       | left h3 h => exact ⟨_, _, s82 x _ _ _ (by simpa using h1) h2 h3, h⟩
       | right h3 h => exact ⟨_, _, s82 x _ _ _ (by simpa using h1) h2 (by simpa using h3), h⟩
     | right h2 h => cases h with
       | left h3 h => exact ⟨_, _, s82 x _ _ _ (by simpa using h1) (by simpa using h2) h3, h⟩
       | right h3 h => exact ⟨_, _, s82 x _ _ _ (by simpa using h1) (by simpa using h2) (by simpa using h3), h⟩
 . cases h
end Go.Proofs.YtlahifihaeafbaaGreatDoor
namespace Go.Proofs.YtlahifihaeafbaaGreatDoor
open Go Go.Sx
def c34 : MC := .seq (.reg [oo 1 (.box (.t 0)),oo 2 (.mv (.k (.val (.slice none 0 0))))]) (.seq (.reg [oo 3 (.mv (.k (.val (.slice none 0 0))))]) (.seq (.seq (.reg [oo 8 (.ld (some 15) (.t 1)),oo 9 (.call (.k (.fn (.func 58) [] [])) [(.t 8)]),oo 10 (.not (.t 9))]) (.cond (.t 10) (.seq (.reg [oo 2 (.mv (.k (.val (.slice none 0 0))))]) (.ret)) (.skip))) (.seq (.reg [oo 12 (.fld 0 (.t 1)),oo 13 (.ld none (.t 12)),oo 14 (.call (.k (.fn (.func 80) [] [])) [(.t 13)]),om 11 14,oo 15 (.ext 0 (.t 11)),oo 16 (.ext 1 (.t 11)),oo 4 (.alloc [(.str ⟨#[]⟩),(kz 0),(kz 0)]),o none (.st (some 3) (.t 4) (.t 15)),om 5 16]) (.seq (.seq (.reg [oo 17 (.ld (some 3) (.t 4)),oo 18 (.call (.k (.fn (.func 82) [] [])) [(.t 17),(.t 1)]),oo 19 (.lenS (.t 18)),oo 20 (.mv (ki 0))]) (.blk 0 (.loop 0 (.seq (.reg [oo 21 (.cmp .lss (.t 20) (.t 19))]) (.seq (.cond (.t 21) (.skip) (.exit 0)) (.seq (.blk 1 (.seq (.reg [oo 22 (.ixa 2 (.t 18) (.t 20)),oo 23 (.ld (some 2) (.t 22)),oo 7 (.alloc [(.val (.pointer none)),.ff]),o none (.st (some 2) (.t 7) (.t 23))]) (.drw [om 24 3,oo 25 (.fld 1 (.t 7)),oo 26 (.ld none (.t 25)),oo 27 (.fld 0 (.t 7)),oo 28 (.ld none (.t 27)),oo 29 (.nchk (.t 28)),oo 30 (.ld none (.t 29)),oo 31 (.bld [.ff,(kz 0)] [(0,1,(.t 26)),(1,1,(.t 30))]),oo 32 (.bsl 2 1 [.ff,(kz 0)] [(0,(.t 31))]),oo 33 (.app 2 16 (.t 24) (.t 32)),om 3 33] [[],[],[1],[],[3],[4],[5],[2,6],[7],[0,8],[9,9,0,1,2,3,4,5,6,7,8,9]]))) (.reg [oo 34 (.ar .add (.t 20) (ki 1)),om 20 34]))))))) (.seq (.reg [om 35 3,om 2 35]) (.ret))))))
theorem k34 : FnOk Tryz.prog 34 36 c34 [.t 2] := fk Tryz.func34 ⟨tv,⟨tv,⟨⟨tv,⟨⟨tv,tv⟩,tv⟩⟩,⟨tv,⟨⟨tv,⟨tv,⟨⟨tv,tv⟩,⟨⟨tv,tv⟩,tv⟩⟩⟩⟩,⟨tv,tv⟩⟩⟩⟩⟩⟩
def usesF (x : HI) : List HR :=
 if validF x = true then (if ff x 16 = true then [⟨ff x 4096, x.a⟩] else []) ++ (if ff x 32 = true then [⟨ff x 8192, x.b⟩] else []) ++ (if ffC x = true then [⟨ff x 16384, x.c⟩] else []) else []
def L34 (x : HI) : LSpec := ⟨[.agg x.cells], [], [], [.vec 2 ((usesF x).map HR.pv)], .slc 0 0 (usesF x).length⟩
set_option maxHeartbeats 40000000 in
theorem s34 (x : HI) : LSpec.ok Tryz.prog GG 34 (L34 x) := by
 refine fn_spec mix k34 _ rfl rfl (Tab.ok (l := [(58, S58), (80, S80), (82, S82)]) ⟨t58, t80, t82, trivial⟩) (fun _ => .rounds 5) noJ ?_
 repeat' ((conv => whnf); first
  | exact trivial
  | with_reducible first | refine aj ?_ | refine ai rfl ?_ | refine ai ⟨rfl, rfl⟩ ?_
  | ((with_reducible refine ai ?_ ?_); focus exact w3)
  | with_reducible first | refine And.intro ?_ ?_ | refine asL_mk ?_ | refine exI (i64_in (by omega) (by omega)) ?_
  | refine exI (x := ULift.up _) (Eq.refl _) ?_
  | refine exI (x := ULift.up _) ⟨rfl, by omega, Eq.refl _⟩ ?_
  | ((with_reducible intro h); first | exact absurd h (by decide) | (exfalso; revert h; simp; done))
  | with_reducible intro _)
 all_goals first
  | exact Sd.mk ⟨rfl, rfl, rfl⟩
  | (refine Sd.mk ?_; (try simp only [HI.eta, FM.eta] at *); simp_all [usesF, HR.pv, rdN, Rows.len]; done)
  | (refine Sd.mk ?_; (try simp only [HI.eta, FM.eta] at *); simp only [usesF]; grind)
noncomputable def S34 : SFn
 | [a0], k => asHI a0 fun x => k (L34 x)
 | _, _ => .fail
theorem t34 : FnS Tryz.prog GG 34 S34 := by
 intro args k gt go R v os n h
 unfold S34 at h
 split at h
 . obtain ⟨x, _, h⟩ := asHI_inv h
   exact ⟨_, _, s34 x, h⟩
 . cases h
end Go.Proofs.YtlahifihaeafbaaGreatDoor
namespace Go.Proofs.YtlahifihaeafbaaGreatDoor
open Go Go.Sx
abbrev subT : List Int -> Sub := fun v => .vec 1 (v.map ipv)
abbrev ag (r : HR) (es : TM) : List Int := agetD MTS r es
def lastI (X : List Int) : Int := nth X (X.length - 1)
def addT (i : Int) (es : TM) (r : HR) : TM := if ag r es = [] ∨ lastI (ag r es) ≠ i then aput MTS r (ag r es ++ [i]) es else es
def defT (i : Int) (es : TM) (x : HI) : TM := if (defF x).2 = true then aput MTS (defF x).1 (ag (defF x).1 es ++ [i]) es else es
def timesGo : List HI -> Int -> TM -> TM -> TM × TM
 | [], _, us, ds => (us, ds)
 | x :: l, i, us, ds => timesGo l (i + 1) ((usesF x).foldl (addT i) us) (defT i ds x)
def timesF (l : List HI) : TM × TM := timesGo l 0 [] []
abbrev KT (es : TM) : List HR := es.map (·.1)
section
variable {M : MapTy} {k k' : M.κ} {v u : M.ν}
theorem aget_put_same : ∀ {es : List (M.κ × M.ν)}, aget M k (aput M k v es) = some v
 | [] => by
   simp only [aput, aget]
   cases h : M.deq k k with
   | isTrue e => rfl
   | isFalse e => exact absurd rfl e
 | (j, x) :: es => by
   simp only [aput]
   cases h : M.deq j k with
   | isTrue e => simp only [aget, h]
   | isFalse e => simp only [aget, h]; exact aget_put_same
theorem aget_put_other (hk : k' ≠ k) : ∀ {es : List (M.κ × M.ν)}, aget M k' (aput M k v es) = aget M k' es
 | [] => by
   simp only [aput, aget]
   cases h : M.deq k k' with
   | isTrue e => exact absurd e.symm hk
   | isFalse e => rfl
 | (j, x) :: es => by
   simp only [aput]
   cases h : M.deq j k with
   | isTrue e =>
     subst e
     simp only [aget]
     cases h' : M.deq j k' with
     | isTrue e => exact absurd e.symm hk
     | isFalse e => rfl
   | isFalse e =>
     simp only [aget]
     cases h' : M.deq j k' with
     | isTrue e' => rfl
     | isFalse e' => exact aget_put_other hk
theorem aput_twice : ∀ {es : List (M.κ × M.ν)}, aput M k v (aput M k u es) = aput M k v es
 | [] => by
   simp only [aput]
   cases h : M.deq k k with
   | isTrue e => rfl
   | isFalse e => exact absurd rfl e
 | (j, x) :: es => by
   simp only [aput]
   cases h : M.deq j k with
   | isTrue e => simp only [aput, h]
   | isFalse e => simp only [aput, h]; rw [aput_twice]
end
theorem ag_put {r r' : HR} {X : List Int} {es : TM} : ag r' (aput MTS r X es) = if r' = r then X else ag r' es := by
 unfold ag agetD
 split
 . next h => subst h; rw [aget_put_same]; rfl
 . next h => rw [aget_put_other h]
theorem aput_aput {r : HR} {X Y : List Int} {es : TM} : aput MTS r Y (aput MTS r X es) = aput MTS r Y es := aput_twice
theorem aget_aput {r : HR} {X : List Int} {es : TM} : (aget MTS r (aput MTS r X es)).isSome = true := by rw [aget_put_same]; rfl
theorem aget_nil {r : HR} {es : TM} : (aget MTS r es).isSome = true ∨ (List.map ipv (agetD MTS r es) = [] ∧ [PV.sl 1 []] = [PV.sl 1 []]) := by
 cases h : aget MTS r es with
 | none => exact .inr ⟨by rw [agetD, h]; rfl, rfl⟩
 | some v => exact .inl rfl
theorem KT_put {r : HR} {X : List Int} {es : TM} (h : (KT es).Nodup) : (KT (aput MTS r X es)).Nodup := Sx.aput_nodup (M := MTS) h
def wfT (i : Int) (es : TM) : Prop := ∀ r, srt (ag r es) ∧ ∀ x ∈ ag r es, 0 ≤ x ∧ x < i
theorem srt_len : ∀ {L : List Int} {a i : Int}, srt L -> (∀ x ∈ L, a ≤ x ∧ x < i) -> a ≤ i -> (L.length : Int) ≤ i - a
 | [], a, i, _, _, h => by simp; omega
 | x :: L, a, i, hs, hb, h => by
   rw [srt, List.pairwise_cons] at hs
   have h1 := hb x (by simp)
   have := srt_len (L := L) (a := x + 1) (i := i) hs.2 (fun y hy => ⟨by have := hs.1 y hy; omega, (hb y (by simp [hy])).2⟩) (by omega)
   simp only [List.length_cons]
   omega
theorem wfT_len {i : Int} {es : TM} (h : wfT i es) (hi : 0 ≤ i) (r : HR) : ((ag r es).length : Int) ≤ i := by
 have := srt_len (h r).1 (h r).2 hi
 omega
theorem wfT_nil {i : Int} : wfT i [] := fun r => by
 have : ag r [] = [] := rfl
 rw [this]
 exact ⟨List.Pairwise.nil, fun x hx => by cases hx⟩
theorem wfT_mono {i j : Int} {es : TM} (h : wfT i es) (hij : i ≤ j) : wfT j es := fun r => ⟨(h r).1, fun x hx => by have := (h r).2 x hx; omega⟩
theorem last_mem {X : List Int} (h : X ≠ []) : X = X.dropLast ++ [lastI X] := by
 have hl : X.getLast h = lastI X := by
  have h0 := List.length_pos_iff.2 h
  have := nth_get X (X.length - 1) ⟨by omega, by omega⟩
  have e : ((X.length : Int) - 1).toNat = X.length - 1 := by omega
  rw [e] at this
  rw [List.getLast_eq_getElem]
  rw [List.getElem?_eq_getElem (by omega)] at this
  exact Option.some.inj this
 rw [<- hl]
 exact (List.dropLast_concat_getLast h).symm
theorem lastI_mem {X : List Int} (h : X ≠ []) : lastI X ∈ X := by
 have e := last_mem h
 have : lastI X ∈ X.dropLast ++ [lastI X] := by simp
 rwa [<- e] at this
theorem srt_app {X : List Int} {i : Int} (h : srt X) (hb : ∀ x ∈ X, x < i) : srt (X ++ [i]) := by
 rw [srt, List.pairwise_append]
 exact ⟨h, by simp, fun a ha b hb' => by simp at hb'; subst hb'; exact hb a ha⟩
theorem wf_app {i : Int} {es : TM} {r : HR} (h : wfT (i + 1) es) (hi : 0 ≤ i) (hl : ag r es = [] ∨ lastI (ag r es) ≠ i) : wfT (i + 1) (aput MTS r (ag r es ++ [i]) es) := by
 intro r'
 rw [ag_put]
 split
 . have hb : ∀ x ∈ ag r es, x < i := by
    rcases hl with hl | hl
    . rw [hl]; intro x hx; cases hx
    . by_cases he : ag r es = []
      . rw [he]; intro x hx; cases hx
      . have e := last_mem he
        have hs := (h r).1
        rw [e, srt, List.pairwise_append] at hs
        have hlast := (h r).2 (lastI (ag r es)) (lastI_mem he)
        intro x hx
        rw [e] at hx
        rcases List.mem_append.1 hx with hx | hx
        . have := hs.2.2 x hx _ (List.mem_singleton.2 rfl)
          omega
        . simp at hx; omega
   refine ⟨srt_app (h r).1 hb, fun x hx => ?_⟩
   rcases List.mem_append.1 hx with hx | hx
   . exact (h r).2 x hx
   . simp at hx; omega
 . exact h r'
theorem wf_add {i : Int} {es : TM} {r : HR} (h : wfT (i + 1) es) (hi : 0 ≤ i) : wfT (i + 1) (addT i es r) := by
 unfold addT
 split
 . next hl => exact wf_app h hi hl
 . exact h
theorem wf_def {i : Int} {es : TM} {x : HI} (h : wfT i es) (hi : 0 ≤ i) : wfT (i + 1) (defT i es x) := by
 unfold defT
 split
 . refine wf_app (wfT_mono h (by omega)) hi ?_
   by_cases he : ag (defF x).1 es = []
   . exact .inl he
   . right
     have e := last_mem he
     have := (h (defF x).1).2 (lastI (ag (defF x).1 es)) (lastI_mem he)
     omega
 . exact wfT_mono h (by omega)
theorem KT_add {i : Int} {es : TM} {r : HR} (h : (KT es).Nodup) : (KT (addT i es r)).Nodup := by
 unfold addT
 split
 . exact KT_put h
 . exact h
theorem KT_def {i : Int} {es : TM} {x : HI} (h : (KT es).Nodup) : (KT (defT i es x)).Nodup := by
 unfold defT
 split
 . exact KT_put h
 . exact h
theorem wf_fold {i : Int} (hi : 0 ≤ i) : ∀ (us : List HR) {es : TM}, wfT (i + 1) es -> wfT (i + 1) (us.foldl (addT i) es)
 | [], _, h => h
 | r :: us, _, h => wf_fold hi us (wf_add h hi)
theorem KT_fold {i : Int} : ∀ (us : List HR) {es : TM}, (KT es).Nodup -> (KT (us.foldl (addT i) es)).Nodup
 | [], _, h => h
 | r :: us, _, h => KT_fold us (KT_add h)
theorem times_wf : ∀ (l : List HI) {i : Int} {us ds : TM}, 0 ≤ i -> wfT i us -> wfT i ds -> (KT us).Nodup -> (KT ds).Nodup →
 wfT (i + l.length) (timesGo l i us ds).1 ∧ wfT (i + l.length) (timesGo l i us ds).2 ∧ (KT (timesGo l i us ds).1).Nodup ∧ (KT (timesGo l i us ds).2).Nodup
  | [], i, us, ds, _, h1, h2, h3, h4 => by simpa [timesGo] using ⟨h1, h2, h3, h4⟩
  | x :: l, i, us, ds, hi, h1, h2, h3, h4 => by
    have := times_wf l (i := i + 1) (us := (usesF x).foldl (addT i) us) (ds := defT i ds x) (by omega) (wf_fold hi _ (wfT_mono h1 (by omega))) (wf_def h2 hi) (KT_fold _ h3) (KT_def h4)
    simp only [timesGo, List.length_cons]
    have e : i + ((l.length + 1 : Nat) : Int) = i + 1 + l.length := by omega
    rw [e]
    exact this
end Go.Proofs.YtlahifihaeafbaaGreatDoor
namespace Go.Proofs.YtlahifihaeafbaaGreatDoor
open Go Go.Sx
structure BK where
 vec : Bool
 free : BM
 holds : IM
 at_ : IM
 slot : IM
 slots : BM
def BK.row (b : BK) (n : Nat) : SO := .row [.bool b.vec, .mp n, .mp (n + 1), .mp (n + 2), .mp (n + 3), .mp (n + 4)]
def BK.leave (b : BK) (r : Int) : BK := { b with at_ := adel MII (agetD MII r b.holds) b.at_, holds := adel MII r b.holds, free := aput MIB r true b.free }
def BK.free1 (b : BK) (v : Int) : BK := if (aget MII v b.at_).isSome = true then b.leave (agetD MII v b.at_) else b
def BK.free2 (b : BK) (v : Int) : BK := if (aget MII v b.slot).isSome = true then { b with slot := adel MII v b.slot, slots := aput MIB (agetD MII v b.slot) true b.slots } else b
def BK.forget (b : BK) (v : Int) : BK := (b.free1 v).free2 v
def BK.put (b : BK) (r v : Int) : BK := { b with free := adel MIB r b.free, holds := aput MII r v b.holds, at_ := aput MII v r b.at_ }
noncomputable def asBK (p : Nat) (f : BK -> RT) : RT := asRow p fun r => match r with
 | .agg [v, .mp a, .mp b, .mp c, .mp d, .mp e] => asB v fun v => asMap MIB a fun a => asMap MII b fun b => asMap MII c fun c => asMap MII d fun d => asMap MIB e fun e => f ⟨v, a, b, c, d, e⟩
 | _ => .fail
section
variable {gt : GT} {go : GO} {R : List Sx.Loc} {v : Option SV} {os : List (Nat × Option SO)} {k : Nat}
theorem asBK_inv {p : Nat} {f : BK -> RT} (h : (asBK p f).Runs gt go R v os k) : ∃ x R', (f x).Runs gt go R' v os k := by
 unfold asBK at h
 obtain ⟨_, _, h⟩ := asRow_inv h
 split at h
 . obtain ⟨_, _, h⟩ := asB_inv h
   obtain ⟨_, _, h⟩ := asMap_inv h
   obtain ⟨_, _, h⟩ := asMap_inv h
   obtain ⟨_, _, h⟩ := asMap_inv h
   obtain ⟨_, _, h⟩ := asMap_inv h
   obtain ⟨_, _, h⟩ := asMap_inv h
   exact ⟨_, _, h⟩
 . cases h
end
end Go.Proofs.YtlahifihaeafbaaGreatDoor
namespace Go.Proofs.YtlahifihaeafbaaGreatDoor
open Go Go.Sx
def c153 : MC := .seq (.drw [om 4 0,oo 5 (.nchk (.t 4)),oo 6 (.fld 3 (.t 5)),oo 7 (.ld none (.t 6)),om 8 0,oo 9 (.nchk (.t 8)),oo 10 (.fld 2 (.t 9)),oo 11 (.ld none (.t 10)),om 12 1,oo 13 (.lkp false true [.int .i64] true [.int .i64 0] (.t 11) (.t 12)),o none (.mdel true [.int .i64] (.t 7) (.t 13))] [[],[0],[1],[2],[],[4],[5],[6],[],[7,8],[3,9]]) (.seq (.reg [om 14 0,oo 15 (.nchk (.t 14)),oo 16 (.fld 2 (.t 15)),oo 17 (.ld none (.t 16)),om 18 1,o none (.mdel true [.int .i64] (.t 17) (.t 18))]) (.reg [om 19 0,oo 20 (.nchk (.t 19)),oo 21 (.fld 1 (.t 20)),oo 22 (.ld none (.t 21)),om 23 1,o none (.mup true [.int .i64] (.t 22) (.t 23) kt)]))
theorem k153 : FnOk Tryz.prog 153 24 c153 [] := fk Tryz.func153 ⟨tv,⟨tv,tv⟩⟩
def c122 : MC := .seq (.seq (.reg [om 9 0,oo 10 (.nchk (.t 9)),oo 11 (.fld 3 (.t 10)),oo 12 (.ld none (.t 11)),om 13 1,oo 14 (.lkp true true [.int .i64] true [.int .i64 0] (.t 12) (.t 13)),om 8 14,oo 15 (.ext 0 (.t 8)),oo 16 (.ext 1 (.t 8)),om 4 15,om 5 16]) (.seq (.reg [om 17 5]) (.cond (.t 17) (.reg [om 18 0,om 19 4,oo 20 (.call (.k (.fn (.func 153) [] [])) [(.t 18),(.t 19)])]) (.skip)))) (.seq (.reg [om 22 0,oo 23 (.nchk (.t 22)),oo 24 (.fld 4 (.t 23)),oo 25 (.ld none (.t 24)),om 26 1,oo 27 (.lkp true true [.int .i64] true [.int .i64 0] (.t 25) (.t 26)),om 21 27,oo 28 (.ext 0 (.t 21)),oo 29 (.ext 1 (.t 21)),om 6 28,om 7 29]) (.seq (.reg [om 30 7]) (.cond (.t 30) (.seq (.reg [om 31 0,oo 32 (.nchk (.t 31)),oo 33 (.fld 4 (.t 32)),oo 34 (.ld none (.t 33)),om 35 1,o none (.mdel true [.int .i64] (.t 34) (.t 35))]) (.reg [om 36 0,oo 37 (.nchk (.t 36)),oo 38 (.fld 5 (.t 37)),oo 39 (.ld none (.t 38)),om 40 6,o none (.mup true [.int .i64] (.t 39) (.t 40) kt)])) (.skip))))
theorem k122 : FnOk Tryz.prog 122 41 c122 [] := fk Tryz.func122 ⟨⟨tv,⟨tv,⟨tv,tv⟩⟩⟩,⟨tv,⟨tv,⟨⟨tv,tv⟩,tv⟩⟩⟩⟩
def c124 : MC := .seq (.reg [om 6 0,oo 7 (.nchk (.t 6)),oo 8 (.fld 1 (.t 7)),oo 9 (.ld none (.t 8)),om 10 1,o none (.mdel true [.int .i64] (.t 9) (.t 10))]) (.drw [om 11 0,oo 12 (.nchk (.t 11)),oo 13 (.fld 2 (.t 12)),oo 14 (.ld none (.t 13)),om 15 1,om 16 0,oo 17 (.nchk (.t 16)),oo 18 (.fld 3 (.t 17)),oo 19 (.ld none (.t 18)),om 20 2,om 21 2,om 22 1,oo 23 (.ment true [.int .i64] true [.int .i64 0] (.t 14) (.t 15)),oo 24 (.ext 1 (.t 23)),o none (.mest (.t 14) (.t 24) (.t 21)),oo 25 (.ment true [.int .i64] true [.int .i64 0] (.t 19) (.t 20)),oo 26 (.ext 1 (.t 25)),o none (.mest (.t 19) (.t 26) (.t 22))] [[],[0],[1],[2],[],[],[5],[6],[7],[],[],[],[3,4,8],[12],[3,13,10,12,0,1,2,3,4,8,10,12],[8,9,14,0,1,2,3,4,8,10,12,13,14],[15],[8,16,11,15,0,1,2,3,4,5,6,7,8,9,10,11,12,13,14,15]])
theorem k124 : FnOk Tryz.prog 124 27 c124 [] := fk Tryz.func124 ⟨tv,tv⟩
attribute [local irreducible] Go.Sx.agetD Go.Sx.aget Go.Sx.aput Go.Sx.adel
theorem fg_0 {b : BK} {v : Int} (h : (aget MII v b.at_).isSome = true) : b.free1 v = b.leave (agetD MII v b.at_) := by unfold BK.free1; rw [if_pos h]
theorem fg_1 {b : BK} {v : Int} (h : (aget MII v b.at_).isSome = false) : b.free1 v = b := by unfold BK.free1; rw [if_neg (by rw [h]; decide)]
theorem fg_s {b : BK} {v : Int} : (b.free1 v).slot = b.slot ∧ (b.free1 v).slots = b.slots ∧ (b.free1 v).vec = b.vec := by unfold BK.free1; split <;> exact ⟨rfl, rfl, rfl⟩
theorem fs_0 {b c : BK} {v : Int} (e : b.free1 v = c) (h : (aget MII v b.slot).isSome = true) : b.forget v = { c with slot := adel MII v b.slot, slots := aput MIB (agetD MII v b.slot) true b.slots } := by
 subst e; unfold BK.forget BK.free2; rw [fg_s.1, if_pos h, fg_s.2.1]
theorem fs_1 {b c : BK} {v : Int} (e : b.free1 v = c) (h : (aget MII v b.slot).isSome = false) : b.forget v = c := by
 subst e; unfold BK.forget BK.free2; rw [fg_s.1, if_neg (by rw [h]; decide)]
theorem eqm {M : MapTy} {a b : List (M.κ × M.ν)} (h : a = b) : SO.map M a none = SO.map M b none := by rw [h]
noncomputable def L153 (b : BK) (r : Int) : LSpec := ⟨[.ptr 0 0 0, kz r], [.row [.bool b.vec, .mp 1, .mp 2, .mp 3, .mp 4, .mp 5], .map MIB b.free none, .map MII b.holds none, .map MII b.at_ none, .map MII b.slot none, .map MIB b.slots none], [some (.row [.bool (b.leave r).vec, .mp 1, .mp 2, .mp 3, .mp 4, .mp 5]), some (.map MIB (b.leave r).free none), some (.map MII (b.leave r).holds none), some (.map MII (b.leave r).at_ none), some (.map MII (b.leave r).slot none), some (.map MIB (b.leave r).slots none)], [], .tup []⟩
set_option maxHeartbeats 2000000 in
theorem s153 (b : BK) (r : Int) : LSpec.ok Tryz.prog GG 153 (L153 b r) := by
 refine fn_spec mix k153 _ rfl rfl (Tab.ok (l := []) trivial) noL noJ ?_
 repeat' ((conv => whnf); first
  | exact trivial
  | with_reducible first | refine aj ?_ | refine ai rfl ?_ | refine ai ⟨rfl, rfl⟩ ?_
  | ((with_reducible refine ai ?_ ?_); focus exact w3)
  | refine And.intro (Sd.mk (p := MapTy.one MII = _ ∧ _) ⟨rfl, rfl⟩) ?_
  | refine And.intro (Sd.mk (p := MapTy.vone MII = _ ∧ _) ⟨rfl, rfl⟩) ?_
  | refine And.intro (Sd.mk (p := MapTy.one MIB = _ ∧ _) ⟨rfl, rfl⟩) ?_
  | refine And.intro (Sd.mk (p := MapTy.vone MIB = _ ∧ _) ⟨rfl, rfl⟩) ?_
  | apply exI (x := (ULift.up (_ : Bool) : ULift.{1} Bool)) trivial
  | apply exI (x := (ULift.up (_ : Int) : ULift.{1} Int)) trivial
  | with_reducible first | refine And.intro ?_ ?_ | refine asL_mk ?_ | refine exI (i64_in (by omega) (by omega)) ?_
  | refine exI (x := ULift.up _) (Eq.refl _) ?_
  | refine exI (x := ULift.up _) ⟨rfl, by omega, Eq.refl _⟩ ?_
  | exact nx
  | ((with_reducible intro h); try dsimp only at h))
 all_goals (refine Sd.mk ?_)
noncomputable def S153 : SFn
 | [.ptr p _ _, .int .i64 r], k => asBK p fun b => k (L153 b r)
 | _, _ => .fail
theorem t153 : FnS Tryz.prog GG 153 S153 := by
 intro args k gt go R v os n h
 unfold S153 at h
 split at h
 . obtain ⟨b, _, h⟩ := asBK_inv h
   exact ⟨_, _, s153 b _, h⟩
 . cases h
noncomputable def L122 (b : BK) (v : Int) : LSpec := ⟨[.ptr 0 0 0, kz v], [.row [.bool b.vec, .mp 1, .mp 2, .mp 3, .mp 4, .mp 5], .map MIB b.free none, .map MII b.holds none, .map MII b.at_ none, .map MII b.slot none, .map MIB b.slots none], [some (.row [.bool (b.forget v).vec, .mp 1, .mp 2, .mp 3, .mp 4, .mp 5]), some (.map MIB (b.forget v).free none), some (.map MII (b.forget v).holds none), some (.map MII (b.forget v).at_ none), some (.map MII (b.forget v).slot none), some (.map MIB (b.forget v).slots none)], [], .tup []⟩
set_option maxHeartbeats 2000000 in
theorem s122 (b : BK) (v : Int) : LSpec.ok Tryz.prog GG 122 (L122 b v) := by
 refine fn_spec mix k122 _ rfl rfl (Tab.ok (l := [(153, S153)]) ⟨t153, trivial⟩) noL noJ ?_
 repeat' ((conv => whnf); first
  | exact trivial
  | with_reducible first | refine aj ?_ | refine ai rfl ?_ | refine ai ⟨rfl, rfl⟩ ?_
  | ((with_reducible refine ai ?_ ?_); focus exact w3)
  | refine And.intro (Sd.mk (p := MapTy.one MII = _ ∧ _) ⟨rfl, rfl⟩) ?_
  | refine And.intro (Sd.mk (p := MapTy.vone MII = _ ∧ _) ⟨rfl, rfl⟩) ?_
  | refine And.intro (Sd.mk (p := MapTy.one MIB = _ ∧ _) ⟨rfl, rfl⟩) ?_
  | refine And.intro (Sd.mk (p := MapTy.vone MIB = _ ∧ _) ⟨rfl, rfl⟩) ?_
  | apply exI (x := (ULift.up (_ : Bool) : ULift.{1} Bool)) trivial
  | apply exI (x := (ULift.up (_ : Int) : ULift.{1} Int)) trivial
  | with_reducible first | refine And.intro ?_ ?_ | refine asL_mk ?_ | refine exI (i64_in (by omega) (by omega)) ?_
  | refine exI (x := ULift.up _) (Eq.refl _) ?_
  | refine exI (x := ULift.up _) ⟨rfl, by omega, Eq.refl _⟩ ?_
  | exact nx
  | ((with_reducible intro h); try dsimp only at h))
 all_goals (refine Sd.mk ?_)
 all_goals first
  | (rw [fs_0 (b := b) (v := v) (fg_0 (by assumption)) (by assumption)] <;> rfl)
  | (rw [fs_1 (b := b) (v := v) (fg_0 (by assumption)) (by assumption)] <;> rfl)
  | (rw [fs_0 (b := b) (v := v) (fg_1 (by assumption)) (by assumption)] <;> rfl)
  | (rw [fs_1 (b := b) (v := v) (fg_1 (by assumption)) (by assumption)] <;> rfl)
noncomputable def S122 : SFn
 | [.ptr p _ _, .int .i64 v], k => asBK p fun b => k (L122 b v)
 | _, _ => .fail
theorem t122 : FnS Tryz.prog GG 122 S122 := by
 intro args k gt go R v os n h
 unfold S122 at h
 split at h
 . obtain ⟨b, _, h⟩ := asBK_inv h
   exact ⟨_, _, s122 b _, h⟩
 . cases h
noncomputable def L124 (b : BK) (r : Int) (v : Int) : LSpec := ⟨[.ptr 0 0 0, kz r, kz v], [.row [.bool b.vec, .mp 1, .mp 2, .mp 3, .mp 4, .mp 5], .map MIB b.free none, .map MII b.holds none, .map MII b.at_ none, .map MII b.slot none, .map MIB b.slots none], [some (.row [.bool (b.put r v).vec, .mp 1, .mp 2, .mp 3, .mp 4, .mp 5]), some (.map MIB (b.put r v).free none), some (.map MII (b.put r v).holds none), some (.map MII (b.put r v).at_ none), some (.map MII (b.put r v).slot none), some (.map MIB (b.put r v).slots none)], [], .tup []⟩
set_option maxHeartbeats 2000000 in
theorem s124 (b : BK) (r : Int) (v : Int) : LSpec.ok Tryz.prog GG 124 (L124 b r v) := by
 refine fn_spec mix k124 _ rfl rfl (Tab.ok (l := []) trivial) noL noJ ?_
 repeat' ((conv => whnf); first
  | exact trivial
  | with_reducible first | refine aj ?_ | refine ai rfl ?_ | refine ai ⟨rfl, rfl⟩ ?_
  | ((with_reducible refine ai ?_ ?_); focus exact w3)
  | refine And.intro (Sd.mk (p := MapTy.one MII = _ ∧ _) ⟨rfl, rfl⟩) ?_
  | refine And.intro (Sd.mk (p := MapTy.vone MII = _ ∧ _) ⟨rfl, rfl⟩) ?_
  | refine And.intro (Sd.mk (p := MapTy.one MIB = _ ∧ _) ⟨rfl, rfl⟩) ?_
  | refine And.intro (Sd.mk (p := MapTy.vone MIB = _ ∧ _) ⟨rfl, rfl⟩) ?_
  | apply exI (x := (ULift.up (_ : Bool) : ULift.{1} Bool)) trivial
  | apply exI (x := (ULift.up (_ : Int) : ULift.{1} Int)) trivial
  | with_reducible first | refine And.intro ?_ ?_ | refine asL_mk ?_ | refine exI (i64_in (by omega) (by omega)) ?_
  | refine exI (x := ULift.up _) (Eq.refl _) ?_
  | refine exI (x := ULift.up _) ⟨rfl, by omega, Eq.refl _⟩ ?_
  | exact nx
  | ((with_reducible intro h); try dsimp only at h))
 all_goals (refine Sd.mk ?_)
 all_goals first
  | exact eqm (aput_twice (M := MII)).symm
noncomputable def S124 : SFn
 | [.ptr p _ _, .int .i64 r, .int .i64 v], k => asBK p fun b => k (L124 b r v)
 | _, _ => .fail
theorem t124 : FnS Tryz.prog GG 124 S124 := by
 intro args k gt go R v os n h
 unfold S124 at h
 split at h
 . obtain ⟨b, _, h⟩ := asBK_inv h
   exact ⟨_, _, s124 b _ _, h⟩
 . cases h
end Go.Proofs.YtlahifihaeafbaaGreatDoor
namespace Go.Proofs.YtlahifihaeafbaaGreatDoor
open Go Go.Sx
def c123 : MC := .seq (.reg [oo 8 (.mv (ki 0))]) (.seq (.seq (.reg [om 9 1,oo 10 (.nchk (.t 9)),oo 11 (.fld 1 (.t 10)),oo 12 (.ld none (.t 11)),oo 13 (.lenM (.t 12)),oo 14 (.cmp .eql (.t 13) (ki 0))]) (.cond (.t 14) (.reg [om 15 0,om 16 1,om 17 2,om 18 3,oo 19 (.call (.k (.fn (.func 154) [] [])) [(.t 15),(.t 16),(.t 17),(.t 18)])]) (.skip))) (.seq (.reg [om 20 1,oo 21 (.nchk (.t 20)),oo 22 (.fld 1 (.t 21)),oo 23 (.ld none (.t 22)),oo 24 (.call (.k (.fn (.func 155) [] [])) [(.t 23),(.k (.fn (.func 96) [] []))]),oo 25 (.ixa 1 (.t 24) (ki 0)),oo 26 (.ld none (.t 25)),om 8 26]) (.ret)))
theorem k123 : FnOk Tryz.prog 123 27 c123 [.t 8] := fk Tryz.func123 ⟨tv,⟨⟨tv,⟨tv,tv⟩⟩,⟨tv,tv⟩⟩⟩
def c73 : MC := .seq (.reg [oo 4 (.mv (.k (.val (.pointer none))))]) (.seq (.reg [om 9 0,oo 10 (.mkm),oo 11 (.mkm),oo 12 (.mkm),oo 13 (.mkm),oo 14 (.mkm),oo 15 (.bld [.ff,(.val (.map none)),(.val (.map none)),(.val (.map none)),(.val (.map none)),(.val (.map none))] [(0,1,(.t 9)),(1,1,(.t 10)),(2,1,(.t 11)),(3,1,(.t 12)),(4,1,(.t 13)),(5,1,(.t 14))]),oo 16 (.box (.t 15)),om 5 16]) (.seq (.seq (.reg [om 17 1,oo 18 (.mv (ki 0))]) (.blk 0 (.loop 0 (.seq (.reg [oo 19 (.cmp .lss (.t 18) (.t 17))]) (.seq (.cond (.t 19) (.skip) (.exit 0)) (.seq (.blk 1 (.seq (.reg [om 20 18,om 6 20]) (.reg [om 21 5,oo 22 (.nchk (.t 21)),oo 23 (.fld 1 (.t 22)),oo 24 (.ld none (.t 23)),om 25 6,o none (.mup true [.int .i64] (.t 24) (.t 25) kt)]))) (.reg [oo 26 (.ar .add (.t 18) (ki 1)),om 18 26]))))))) (.seq (.seq (.reg [om 27 0]) (.cond (.t 27) (.seq (.reg [oo 7 (.mv (ki 208))]) (.blk 2 (.loop 1 (.seq (.seq (.reg [om 28 7,oo 29 (.ar .add (.t 28) (ki 4)),oo 30 (.cmp .leq (.t 29) (ki 512))]) (.cond (.t 30) (.skip) (.exit 2))) (.seq (.blk 3 (.reg [om 33 5,oo 34 (.nchk (.t 33)),oo 35 (.fld 5 (.t 34)),oo 36 (.ld none (.t 35)),om 37 7,o none (.mup true [.int .i64] (.t 36) (.t 37) kt)])) (.reg [om 31 7,oo 32 (.ar .add (.t 31) (ki 4)),om 7 32])))))) (.seq (.reg [oo 38 (.mv (ki 0))]) (.blk 4 (.loop 2 (.seq (.reg [oo 39 (.cmp .lss (.t 38) (ki 208))]) (.seq (.cond (.t 39) (.skip) (.exit 4)) (.seq (.blk 5 (.seq (.reg [om 40 38,om 8 40]) (.reg [om 41 5,oo 42 (.nchk (.t 41)),oo 43 (.fld 5 (.t 42)),oo 44 (.ld none (.t 43)),om 45 8,o none (.mup true [.int .i64] (.t 44) (.t 45) kt)]))) (.reg [oo 46 (.ar .add (.t 38) (ki 1)),om 38 46]))))))))) (.seq (.reg [om 47 5,om 4 47]) (.ret)))))
theorem k73 : FnOk Tryz.prog 73 48 c73 [.t 4] := fk Tryz.func73 ⟨tv,⟨tv,⟨⟨tv,⟨tv,⟨⟨tv,tv⟩,⟨⟨tv,tv⟩,tv⟩⟩⟩⟩,⟨⟨tv,⟨⟨tv,⟨⟨tv,⟨tv,tv⟩⟩,⟨tv,tv⟩⟩⟩,⟨tv,⟨tv,⟨⟨tv,tv⟩,⟨⟨tv,tv⟩,tv⟩⟩⟩⟩⟩⟩,⟨tv,tv⟩⟩⟩⟩⟩
attribute [local irreducible] Go.Sx.agetD Go.Sx.aget Go.Sx.aput Go.Sx.adel sortI
def BK.top (b : BK) : Int := nth (sortI (K1I b.free)) 0
theorem tk_0 {b : BK} (h0 : b.free ≠ []) (h : ((b.free.length : Nat) : Int) = 0) : False := by
 have := List.length_pos_iff.2 h0
 omega
theorem tk_1 {b : BK} (h0 : b.free ≠ []) : 0 ≤ (0 : Int) ∧ (0 : Int) < ((b.free.length : Nat) : Int) := by
 have := List.length_pos_iff.2 h0
 omega
theorem tk_2 {b : BK} (h0 : b.free ≠ []) : 0 ≤ (0 : Int) ∧ (0 : Int) < ((sortI (K1I b.free)).length : Nat) := by
 have := List.length_pos_iff.2 h0
 have := (sortI_perm (K1I b.free)).length_eq
 rw [List.length_map] at this
 omega
def upN (f : Nat -> Int) : Nat -> BM
 | 0 => []
 | k + 1 => aput MIB (f k) true (upN f k)
def slV (x : Int) : BM := upN (fun j => 208 + 4 * j) ((x - 208) / 4).toNat
def slW (x : Int) : BM := upN (fun j => j) x.toNat
theorem slV_step {x : Int} (h : 208 ≤ x) (h4 : (x - 208) % 4 = 0) : slV (x + 4) = aput MIB x true (slV x) := by
 unfold slV
 have e : ((x + 4 - 208) / 4).toNat = ((x - 208) / 4).toNat + 1 := by omega
 have e2 : 208 + 4 * ((((x - 208) / 4).toNat : Nat) : Int) = x := by omega
 rw [e, upN, e2]
theorem slW_step {x : Int} (h : 0 ≤ x) : slW (x + 1) = aput MIB x true (slW x) := by
 unfold slW
 have e : (x + 1).toNat = x.toNat + 1 := by omega
 have e2 : ((x.toNat : Nat) : Int) = x := by omega
 rw [e, upN, e2]
def newBK (vec : Bool) (n : Int) : BK := ⟨vec, slW n, [], [], [], if vec = true then slV 512 else slW 208⟩
abbrev C73 := Int × BM × BM
def os73 (vec : Bool) (fr sl : BM) : List (Nat × Option SO) := [(5, some (.row [.bool vec, .mp 0, .mp 1, .mp 2, .mp 3, .mp 4])), (0, some (.map MIB fr none)), (1, some (.map MII [] none)), (2, some (.map MII [] none)), (3, some (.map MII [] none)), (4, some (.map MIB sl none))]
def inv73a (vec : Bool) (n : Int) : C73 -> St
 | (i, fr, sl) => ⟨[(18, kz i), (17, kz n), (5, .ptr 5 0 0), (0, .bool vec)], os73 vec fr sl, 6⟩
def inv73b (vec : Bool) : C73 -> St
 | (i, fr, sl) => ⟨[(7, kz i), (5, .ptr 5 0 0)], os73 vec fr sl, 6⟩
def inv73c (vec : Bool) : C73 -> St
 | (i, fr, sl) => ⟨[(38, kz i), (5, .ptr 5 0 0)], os73 vec fr sl, 6⟩
def I73a (n : Int) : C73 -> Prop
 | (i, fr, sl) => 0 ≤ i ∧ i ≤ n ∧ n ≤ 1000 ∧ fr = slW i ∧ sl = []
def I73b : C73 -> C73 -> Prop
 | (_, fr0, _), (i, fr, sl) => 208 ≤ i ∧ i ≤ 512 ∧ (i - 208) % 4 = 0 ∧ fr = fr0 ∧ sl = slV i
def I73c : C73 -> C73 -> Prop
 | (_, fr0, _), (i, fr, sl) => 0 ≤ i ∧ i ≤ 208 ∧ fr = fr0 ∧ sl = slW i
def LA73 (vec : Bool) (n : Int) : Nat -> LAnn
 | 0 => .inv C73 (fun _ => I73a n) (inv73a vec n) (fun c => (n - c.1).toNat)
 | 1 => .inv C73 I73b (inv73b vec) (fun c => (512 - c.1).toNat)
 | _ => .inv C73 I73c (inv73c vec) (fun c => (208 - c.1).toNat)
theorem all73a {n : Int} {Q : C73 -> Prop} (h : ∀ i fr, I73a n (i, fr, []) -> Q (i, fr, [])) : ∀ c, I73a n c -> Q c := fun ⟨i, fr, sl⟩ hI => by
 obtain ⟨h1, h2, h3, h4, h5⟩ := hI
 subst h5
 exact h _ _ ⟨h1, h2, h3, h4, rfl⟩
theorem all73b {i0 fr sl0} {Q : C73 -> Prop} (h : ∀ i sl, I73b (i0, fr, sl0) (i, fr, sl) -> Q (i, fr, sl)) : ∀ c, I73b (i0, fr, sl0) c -> Q c := fun ⟨i, fr', sl⟩ hI => by
 obtain ⟨h1, h2, h3, h4, h5⟩ := hI
 subst h4
 exact h _ _ ⟨h1, h2, h3, rfl, h5⟩
theorem all73c {i0 fr sl0} {Q : C73 -> Prop} (h : ∀ i sl, I73c (i0, fr, sl0) (i, fr, sl) -> Q (i, fr, sl)) : ∀ c, I73c (i0, fr, sl0) c -> Q c := fun ⟨i, fr', sl⟩ hI => by
 obtain ⟨h1, h2, h4, h5⟩ := hI
 subst h4
 exact h _ _ ⟨h1, h2, rfl, h5⟩
theorem nb_a0 {n : Int} (h : 0 ≤ n) (h2 : n ≤ 1000) : I73a n (0, [], []) := ⟨by omega, h, h2, rfl, rfl⟩
theorem nb_a {n i : Int} {fr : BM} (hI : I73a n (i, fr, [])) (h : i < n) : I73a n (i + 1, aput MIB i true fr, []) ∧ (n - (i + 1)).toNat < (n - i).toNat := by
 obtain ⟨h1, h2, h3, h4, h5⟩ := hI
 exact ⟨⟨by omega, by omega, h3, by rw [slW_step h1, h4], rfl⟩, by omega⟩
theorem nb_b0 {fr : BM} : I73b (208, fr, []) (208, fr, []) := ⟨by omega, by omega, by omega, rfl, rfl⟩
theorem nb_b {i0 i : Int} {fr sl0 sl : BM} (hI : I73b (i0, fr, sl0) (i, fr, sl)) (h : i + 4 ≤ 512) : I73b (i0, fr, sl0) (i + 4, fr, aput MIB i true sl) ∧ (512 - (i + 4)).toNat < (512 - i).toNat := by
 obtain ⟨h1, h2, h3, h4, h5⟩ := hI
 exact ⟨⟨by omega, by omega, by omega, rfl, by rw [slV_step h1 h3, h5]⟩, by omega⟩
theorem nb_c0 {fr : BM} : I73c (0, fr, []) (0, fr, []) := ⟨by omega, by omega, rfl, rfl⟩
theorem nb_c {i0 i : Int} {fr sl0 sl : BM} (hI : I73c (i0, fr, sl0) (i, fr, sl)) (h : i < 208) : I73c (i0, fr, sl0) (i + 1, fr, aput MIB i true sl) ∧ (208 - (i + 1)).toNat < (208 - i).toNat := by
 obtain ⟨h1, h2, h4, h5⟩ := hI
 exact ⟨⟨by omega, by omega, rfl, by rw [slW_step h1, h5]⟩, by omega⟩
theorem nb_f {n i : Int} {vec : Bool} {fr : BM} (hI : I73a n (i, fr, [])) (h : ¬ i < n) : SO.map MIB (newBK vec n).free none = SO.map MIB fr none := by
 obtain ⟨h1, h2, h3, h4, h5⟩ := hI
 have : i = n := by omega
 rw [h4, this]; rfl
theorem nb_s1 {n i0 i : Int} {fr sl0 sl : BM} (hI : I73b (i0, fr, sl0) (i, fr, sl)) (h : ¬ i + 4 ≤ 512) {vec : Bool} (hv : vec = true) : SO.map MIB (newBK vec n).slots none = SO.map MIB sl none := by
 obtain ⟨h1, h2, h3, h4, h5⟩ := hI
 have : i = 512 := by omega
 rw [h5, this]; unfold newBK; rw [hv]; rfl
theorem nb_s2 {n i0 i : Int} {fr sl0 sl : BM} (hI : I73c (i0, fr, sl0) (i, fr, sl)) (h : ¬ i < 208) {vec : Bool} (hv : vec = false) : SO.map MIB (newBK vec n).slots none = SO.map MIB sl none := by
 obtain ⟨h1, h2, h4, h5⟩ := hI
 have : i = 208 := by omega
 rw [h5, this]; unfold newBK; rw [hv]; rfl
noncomputable def L123 (b : BK) (i : Int) : LSpec := ⟨[.any, .ptr 0 0 0, kz i, .any], [.row [.bool b.vec, .mp 1, .mp 2, .mp 3, .mp 4, .mp 5], .map MIB b.free none, .map MII b.holds none, .map MII b.at_ none, .map MII b.slot none, .map MIB b.slots none], [some (.row [.bool b.vec, .mp 1, .mp 2, .mp 3, .mp 4, .mp 5]), some (.map MIB b.free none), some (.map MII b.holds none), some (.map MII b.at_ none), some (.map MII b.slot none), some (.map MIB b.slots none)], [], kz b.top⟩
set_option maxHeartbeats 2000000 in
theorem s123 (b : BK) (i : Int) (hn : (K1I b.free).Nodup) (hl : b.free.length ≤ 12) (h0 : b.free ≠ []) : LSpec.ok Tryz.prog GG 123 (L123 b i) := by
 refine fn_spec mix k123 _ rfl rfl (Tab.ok (l := [(155, S155)]) ⟨t155, trivial⟩) noL noJ ?_
 repeat' ((conv => whnf); first
  | exact trivial
  | with_reducible first | refine aj ?_ | refine ai rfl ?_ | refine ai ⟨rfl, rfl⟩ ?_
  | ((with_reducible refine ai ?_ ?_); focus exact w3)
  | refine And.intro (Sd.mk (p := MapTy.one MII = _ ∧ _) ⟨rfl, rfl⟩) ?_
  | refine And.intro (Sd.mk (p := MapTy.vone MII = _ ∧ _) ⟨rfl, rfl⟩) ?_
  | refine And.intro (Sd.mk (p := MapTy.one MIB = _ ∧ _) ⟨rfl, rfl⟩) ?_
  | refine And.intro (Sd.mk (p := MapTy.vone MIB = _ ∧ _) ⟨rfl, rfl⟩) ?_
  | apply exI (x := (ULift.up (_ : Bool) : ULift.{1} Bool)) trivial
  | apply exI (x := (ULift.up (_ : Int) : ULift.{1} Int)) trivial
  | ((with_reducible intro h); exact (tk_0 h0 h).elim)
  | with_reducible first | refine And.intro (Sd.mk (p := List.Nodup _ ∧ _) ⟨hn, hl⟩) ?_ | refine ai (tk_1 h0) ?_
  | refine exI (x := ULift.up _) (pv_get0 _ _ _ (tk_2 h0)) ?_
  | with_reducible first | refine And.intro ?_ ?_ | refine asL_mk ?_ | refine exI (i64_in (by omega) (by omega)) ?_
  | refine exI (x := ULift.up _) (Eq.refl _) ?_
  | refine exI (x := ULift.up _) ⟨rfl, by omega, Eq.refl _⟩ ?_
  | exact nx
  | ((with_reducible intro h); try dsimp only at h))
 all_goals (refine Sd.mk ?_)
noncomputable def S123 : SFn
 | [_, .ptr p _ _, .int .i64 i, _], k => asBK p fun b => .req ((K1I b.free).Nodup ∧ b.free.length ≤ 12 ∧ b.free ≠ []) (k (L123 b i))
 | _, _ => .fail
theorem t123 : FnS Tryz.prog GG 123 S123 := by
 intro args k gt go R v os n h
 unfold S123 at h
 split at h
 . obtain ⟨b, _, h⟩ := asBK_inv h
   obtain ⟨hp, _, h⟩ := req_inv h
   exact ⟨_, _, s123 b _ hp.1 hp.2.1 hp.2.2, h⟩
 . cases h
noncomputable def L73 (vec : Bool) (n : Int) : LSpec := ⟨[.bool vec, kz n], [], [], [.row [.bool (newBK vec n).vec, .mp 1, .mp 2, .mp 3, .mp 4, .mp 5], .map MIB (newBK vec n).free none, .map MII (newBK vec n).holds none, .map MII (newBK vec n).at_ none, .map MII (newBK vec n).slot none, .map MIB (newBK vec n).slots none], .ptr 0 0 0⟩
set_option maxHeartbeats 4000000 in
theorem s73 (vec : Bool) (n : Int) (h0 : 0 ≤ n) (h1 : n ≤ 1000) : LSpec.ok Tryz.prog GG 73 (L73 vec n) := by
 refine fn_spec mix k73 _ rfl rfl (Tab.ok (l := []) trivial) (LA73 vec n) noJ ?_
 repeat' ((conv => whnf); first
  | exact trivial
  | with_reducible first | refine aj ?_ | refine ai rfl ?_ | refine ai ⟨rfl, rfl⟩ ?_
  | ((with_reducible refine ai ?_ ?_); focus exact w3)
  | with_reducible first | refine all73a ?_ | refine all73b ?_ | refine all73c ?_ | apply exW (γ := C73) (c := (_, _, _))
  | apply exI (α := MapTy) trivial
  | refine And.intro (Sd.mk (p := MapTy.one MII = _ ∧ _) ⟨rfl, rfl⟩) ?_
  | refine And.intro (Sd.mk (p := MapTy.vone MII = _ ∧ _) ⟨rfl, rfl⟩) ?_
  | refine And.intro (Sd.mk (p := MapTy.one MIB = _ ∧ _) ⟨rfl, rfl⟩) ?_
  | refine And.intro (Sd.mk (p := MapTy.vone MIB = _ ∧ _) ⟨rfl, rfl⟩) ?_
  | apply exI (x := (ULift.up (_ : Bool) : ULift.{1} Bool)) trivial
  | apply exI (x := (ULift.up (_ : Int) : ULift.{1} Int)) trivial
  | with_reducible first | refine exI (i64_in (by simp only [I73a, I73b, I73c] at *; omega) (by simp only [I73a, I73b, I73c] at *; omega)) ?_ | refine And.intro ?_ ?_ | refine asL_mk ?_ | refine exI (i64_in (by omega) (by omega)) ?_
  | refine exI (x := ULift.up _) (Eq.refl _) ?_
  | refine exI (x := ULift.up _) ⟨rfl, by omega, Eq.refl _⟩ ?_
  | exact nx
  | ((with_reducible intro h); try dsimp only at h))
 all_goals (refine Sd.mk ?_)
 all_goals first
  | exact nb_a0 h0 h1
  | exact nb_a (by assumption) (by assumption)
  | exact nb_b0
  | exact nb_b (by assumption) (by assumption)
  | exact nb_c0
  | exact nb_c (by assumption) (by assumption)
  | exact nb_f (by assumption) (by assumption)
  | exact nb_s1 (by assumption) (by assumption) (by assumption)
  | exact nb_s2 (by assumption) (by assumption) (by assumption)
noncomputable def S73 : SFn
 | [a0, .int .i64 n], k => asB a0 fun vec => .req (0 ≤ n ∧ n ≤ 1000) (k (L73 vec n))
 | _, _ => .fail
theorem t73 : FnS Tryz.prog GG 73 S73 := by
 intro args k gt go R v os n h
 unfold S73 at h
 split at h
 . obtain ⟨vec, _, h⟩ := asB_inv h
   obtain ⟨hp, _, h⟩ := req_inv h
   exact ⟨_, _, s73 vec _ hp.1 hp.2, h⟩
 . cases h
end Go.Proofs.YtlahifihaeafbaaGreatDoor
namespace Go.Proofs.YtlahifihaeafbaaGreatDoor
open Go Go.Sx
def c38 : MC := .seq (.reg [oo 3 (.box (.t 0)),oo 6 (.alloc [(kz 0),(kz 0),(kz 0),(kz 0),(kz 0),(kz 0),(kz 0),(kz 0),(kz 0),(.int .u32 0),(.int .u32 0),(.int .u32 0),(.int .u32 0),(.int .u32 0),(.int .u32 0)]),oo 7 (.mv (ki 0))]) (.seq (.seq (.reg [oo 13 (.ld (some 15) (.t 3)),oo 14 (.call (.k (.fn (.func 58) [] [])) [(.t 13)]),oo 15 (.not (.t 14))]) (.cond (.t 15) (.seq (.reg [oo 16 (.bld [(kz 0),(kz 0),(kz 0),(kz 0),(kz 0),(kz 0),(kz 0),(kz 0),(kz 0),(.int .u32 0),(.int .u32 0),(.int .u32 0),(.int .u32 0),(.int .u32 0),(.int .u32 0)] []),o none (.st (some 15) (.t 6) (.t 16)),oo 7 (.mv (ki 170))]) (.ret)) (.skip))) (.seq (.reg [oo 18 (.fld 0 (.t 3)),oo 19 (.ld none (.t 18)),oo 20 (.call (.k (.fn (.func 80) [] [])) [(.t 19)]),om 17 20,oo 21 (.ext 0 (.t 17)),oo 22 (.ext 1 (.t 17)),oo 8 (.alloc [(.str ⟨#[]⟩),(kz 0),(kz 0)]),o none (.st (some 3) (.t 8) (.t 21)),om 9 22]) (.seq (.reg [oo 23 (.ld (some 3) (.t 8)),oo 24 (.call (.k (.fn (.func 82) [] [])) [(.t 23),(.t 3)]),om 10 24]) (.seq (.seq (.reg [om 25 2,oo 26 (.lenS (.t 25)),om 27 10,oo 28 (.lenS (.t 27)),oo 29 (.cmp .neq (.t 26) (.t 28)),os (some 30) (.mv (.t 29)),og 30 false (some 31) (.mv (.t 1)),og 30 false (some 32) (.cmp .lss (.t 31) (ki 0)),oo 33 (.pick (.t 30) kt (.t 32)),os (some 34) (.mv (.t 33)),og 34 false (some 35) (.mv (.t 1)),og 34 false (some 36) (.cmp .neq (.t 35) (ki 0)),ogs 34 false (some 37) (.mv (.t 36)),og 37 true (some 38) (.ld (some 3) (.t 8)),og 37 true (some 39) (.call (.k (.fn (.func 81) [] [])) [(.t 38),(ki 8)]),og 37 true (some 40) (.not (.t 39)),og 34 false (some 41) (.pick (.t 37) (.t 40) kf),oo 42 (.pick (.t 34) kt (.t 41))]) (.cond (.t 42) (.seq (.reg [oo 43 (.bld [(kz 0),(kz 0),(kz 0),(kz 0),(kz 0),(kz 0),(kz 0),(kz 0),(kz 0),(.int .u32 0),(.int .u32 0),(.int .u32 0),(.int .u32 0),(.int .u32 0),(.int .u32 0)] []),o none (.st (some 15) (.t 6) (.t 43)),oo 7 (.mv (ki 1))]) (.ret)) (.skip))) (.seq (.seq (.reg [om 44 10,oo 45 (.lenS (.t 44)),oo 46 (.mv (ki 0))]) (.blk 0 (.loop 0 (.seq (.reg [oo 47 (.cmp .lss (.t 46) (.t 45))]) (.seq (.cond (.t 47) (.skip) (.exit 0)) (.seq (.blk 1 (.seq (.reg [om 48 46,oo 49 (.ixa 2 (.t 44) (.t 46)),oo 50 (.ld (some 2) (.t 49)),oo 12 (.alloc [(.val (.pointer none)),.ff]),om 11 48,o none (.st (some 2) (.t 12) (.t 50))]) (.seq (.seq (.reg [om 51 2,om 52 11,oo 53 (.ixa 1 (.t 51) (.t 52)),oo 54 (.ld none (.t 53)),oo 55 (.cmp .lss (.t 54) (ki 0))]) (.cond (.t 55) (.seq (.reg [oo 56 (.bld [(kz 0),(kz 0),(kz 0),(kz 0),(kz 0),(kz 0),(kz 0),(kz 0),(kz 0),(.int .u32 0),(.int .u32 0),(.int .u32 0),(.int .u32 0),(.int .u32 0),(.int .u32 0)] []),o none (.st (some 15) (.t 6) (.t 56)),oo 7 (.mv (ki 1))]) (.ret)) (.skip))) (.drw [oo 57 (.fld 0 (.t 12)),oo 58 (.ld none (.t 57)),om 59 2,om 60 11,oo 61 (.ixa 1 (.t 59) (.t 60)),oo 62 (.ld none (.t 61)),oo 63 (.nchk (.t 58)),o none (.st (some 1) (.t 63) (.t 62))] [[],[0],[],[],[2,3],[4],[1,0,1,2,3,4,5],[6,5,0,1,2,3,4,5]])))) (.reg [oo 64 (.ar .add (.t 46) (ki 1)),om 46 64]))))))) (.seq (.seq (.reg [oo 65 (.ld (some 3) (.t 8)),oo 66 (.call (.k (.fn (.func 81) [] [])) [(.t 65),(ki 8)])])
 (.cond (.t 66) (.reg [om 67 1,oo 68 (.fld 4 (.t 3)),o none (.st (some 1) (.t 68) (.t 67))]) (.skip))) (.seq (.reg [oo 69 (.ld (some 15) (.t 3)),o none (.st (some 15) (.t 6) (.t 69)),oo 7 (.mv (ki 0))]) (.ret))))))))
theorem k38 : FnOk Tryz.prog 38 70 c38 [.c 6 (some 15),.t 7] := fk Tryz.func38 ⟨tv,⟨⟨tv,⟨⟨tv,tv⟩,tv⟩⟩,⟨tv,⟨tv,⟨⟨tv,⟨⟨tv,tv⟩,tv⟩⟩,⟨⟨tv,⟨tv,⟨⟨tv,tv⟩,⟨⟨tv,⟨⟨tv,⟨⟨tv,tv⟩,tv⟩⟩,tv⟩⟩,tv⟩⟩⟩⟩,⟨⟨tv,⟨tv,tv⟩⟩,⟨tv,tv⟩⟩⟩⟩⟩⟩⟩⟩
def zeroHI : HI := ⟨0, 0, 0, 0, 0, 0, 0, 0, 0, 0, 0, 0, 0, 0, 0⟩
def b2n (b : Bool) : Nat := match b with | true => 1 | false => 0
def anyNeg (us : List Int) : Bool := us.any fun u => decide (u < 0)
def withF (x : HI) (d : Int) (us : List Int) : HI × Int :=
 if validF x = false then (zeroHI, 170)
 else if us.length ≠ (usesF x).length ∨ d < 0 ∨ (d ≠ 0 ∧ ff x 8 = false) then (zeroHI, 1)
 else if anyNeg us = true then (zeroHI, 1)
 else ({ x with
  d := if ff x 8 = true then d else x.d
  a := if ff x 16 = true then us.getD 0 0 else x.a
  b := if ff x 32 = true then us.getD (b2n (ff x 16)) 0 else x.b
  c := if ffC x = true then us.getD (b2n (ff x 16) + b2n (ff x 32)) 0 else x.c }, 0)
theorem ints_get (us : List Int) (n : Int) (h : 0 ≤ n ∧ n < us.length) : (us.map ipv)[n.toNat]? = some (ipv (us.getD n.toNat 0)) := by
 have h1 : n.toNat < us.length := by omega
 rw [List.getElem?_map, List.getElem?_eq_getElem h1]
 simp [List.getD_eq_getElem?_getD, List.getElem?_eq_getElem h1]
theorem any3 {us : List Int} (h : us.length = 3) : anyNeg us = (decide (us.getD 0 0 < 0) || decide (us.getD 1 0 < 0) || decide (us.getD 2 0 < 0)) := by
 match us, h with
 | [a, b, c], _ => simp [anyNeg, Bool.or_assoc]
theorem any2 {us : List Int} (h : us.length = 2) : anyNeg us = (decide (us.getD 0 0 < 0) || decide (us.getD 1 0 < 0)) := by
 match us, h with
 | [a, b], _ => simp [anyNeg]
theorem any1 {us : List Int} (h : us.length = 1) : anyNeg us = decide (us.getD 0 0 < 0) := by
 match us, h with
 | [a], _ => simp [anyNeg]
theorem any0 {us : List Int} (h : us.length = 0) : anyNeg us = false := by
 match us, h with
 | [], _ => simp [anyNeg]
theorem cst0 (n : Nat) : ((n : Int) = 0) = (n = 0) := by simp
theorem cst1 (n : Nat) : ((n : Int) = 1) = (n = 1) := propext (by omega)
theorem cst2 (n : Nat) : ((n : Int) = 2) = (n = 2) := propext (by omega)
theorem cst3 (n : Nat) : ((n : Int) = 3) = (n = 3) := propext (by omega)
theorem uses_len {x : HI} (h : validF x = true) : (usesF x).length = b2n (ff x 16) + b2n (ff x 32) + b2n (ffC x) := by
 unfold usesF
 rw [if_pos h]
 cases ff x 16 <;> cases ff x 32 <;> cases ffC x <;> rfl
def L38 (x : HI) (d : Int) (us : List Int) : LSpec := ⟨[.agg x.cells, kz d, .rd (.sl 1 (us.map ipv))], [], [], [], .tup [.agg (withF x d us).1.cells, kz (withF x d us).2]⟩
set_option maxHeartbeats 40000000 in
theorem s38 (x : HI) (d : Int) (us : List Int) : LSpec.ok Tryz.prog GG 38 (L38 x d us) := by
 refine fn_spec mix k38 _ rfl rfl (Tab.ok (l := [(58, S58), (80, S80), (82, S82), (81, S81)]) ⟨t58, t80, t82, t81, trivial⟩) (fun _ => .rounds 5) noJ ?_
 repeat' ((conv => whnf); first
  | exact trivial
  | with_reducible first | refine aj ?_ | refine ai rfl ?_ | refine ai ⟨rfl, rfl⟩ ?_
  | ((with_reducible refine ai ?_ ?_); focus exact w3)
  | with_reducible first | refine And.intro ?_ ?_ | refine asL_mk ?_ | refine exI (i64_in (by omega) (by omega)) ?_
  | refine exI (x := ULift.up _) (Eq.refl _) ?_
  | refine exI (x := ULift.up _) ⟨rfl, by omega, Eq.refl _⟩ ?_
  | ((with_reducible intro h); first | exact absurd h (by decide) | (exfalso; revert h; simp; done))
  | refine exI (x := ULift.up _) ⟨rfl, by omega, ints_get _ _ (by simp only [List.length_map] at *; simp only [rdN] at *; omega)⟩ ?_
  | with_reducible intro _)
 all_goals (refine Sd.mk ?_; simp only [HI.eta, FM.eta, rdN, List.length_map] at *)
 all_goals simp_all [withF, uses_len, any3, any2, any1, any0, b2n, HI.cells, zeroHI, cst0, cst1, cst2, cst3]
 all_goals (simp only [ff] at *; grind)
noncomputable def S38 : SFn
 | [a0, a1, a2], k => asHI a0 fun x => asI a1 fun d => asSl a2 fun L_us => asL ipv L_us fun us => k (L38 x d us)
 | _, _ => .fail
theorem t38 : FnS Tryz.prog GG 38 S38 := by
 intro args k gt go R v os n h
 unfold S38 at h
 split at h
 . obtain ⟨x, _, h⟩ := asHI_inv h
   obtain ⟨d, _, h⟩ := asI_inv h
   obtain ⟨L_us, _, h⟩ := asSl_inv h
   obtain ⟨us, _, h⟩ := asL_inv h
   exact ⟨_, _, s38 x d us, h⟩
 . cases h
end Go.Proofs.YtlahifihaeafbaaGreatDoor
namespace Go.Proofs.YtlahifihaeafbaaGreatDoor
open Go Go.Sx
def c37 : MC := .seq (.reg [oo 1 (.box (.t 0)),oo 2 (.mv (ki 0))]) (.seq (.seq (.reg [oo 8 (.ld (some 15) (.t 1)),oo 9 (.call (.k (.fn (.func 58) [] [])) [(.t 8)]),oo 10 (.not (.t 9))]) (.cond (.t 10) (.seq (.reg [oo 2 (.mv (ki 170))]) (.ret)) (.skip))) (.seq (.reg [oo 11 (.ld (some 15) (.t 1)),oo 12 (.call (.k (.fn (.func 34) [] [])) [(.t 11)]),om 3 12]) (.seq (.seq (.reg [oo 14 (.ld (some 15) (.t 1)),oo 15 (.call (.k (.fn (.func 33) [] [])) [(.t 14)]),om 13 15,oo 16 (.ext 0 (.t 13)),oo 17 (.ext 1 (.t 13)),oo 4 (.alloc [.ff,(kz 0)]),o none (.st (some 2) (.t 4) (.t 16)),om 5 17]) (.seq (.reg [om 18 5]) (.cond (.t 18) (.reg [om 19 3,oo 20 (.ld (some 2) (.t 4)),oo 21 (.bsl 2 1 [.ff,(kz 0)] [(0,(.t 20))]),oo 22 (.app 2 16 (.t 19) (.t 21)),om 3 22]) (.skip)))) (.seq (.seq (.reg [om 23 3,oo 24 (.lenS (.t 23)),oo 25 (.mv (ki 0))]) (.blk 0 (.loop 0 (.seq (.reg [oo 26 (.cmp .lss (.t 25) (.t 24))]) (.seq (.cond (.t 26) (.skip) (.exit 0)) (.seq (.blk 1 (.seq (.reg [oo 27 (.ixa 2 (.t 23) (.t 25)),oo 28 (.ld (some 2) (.t 27)),oo 7 (.alloc [.ff,(kz 0)]),o none (.st (some 2) (.t 7) (.t 28))]) (.seq (.reg [oo 29 (.fld 0 (.t 7)),oo 30 (.ld none (.t 29)),os (some 31) (.mv (.t 30)),og 31 true (some 32) (.fld 1 (.t 7)),og 31 true (some 33) (.ld none (.t 32)),og 31 true (some 34) (.cmp .geq (.t 33) (ki 6)),oo 35 (.pick (.t 31) (.t 34) kf),os (some 36) (.mv (.t 35)),og 36 false (some 37) (.fld 0 (.t 7)),og 36 false (some 38) (.ld none (.t 37)),og 36 false (some 39) (.not (.t 38)),ogs 36 false (some 40) (.mv (.t 39)),og 40 true (some 41) (.fld 1 (.t 7)),og 40 true (some 42) (.ld none (.t 41)),og 40 true (some 43) (.cmp .geq (.t 42) (ki 12)),og 36 false (some 44) (.pick (.t 40) (.t 43) kf),oo 45 (.pick (.t 36) kt (.t 44))]) (.cond (.t 45) (.seq (.reg [oo 2 (.mv (ki 170))]) (.ret)) (.skip))))) (.reg [oo 46 (.ar .add (.t 25) (ki 1)),om 25 46]))))))) (.seq (.reg [oo 2 (.mv (ki 0))]) (.ret))))))
theorem k37 : FnOk Tryz.prog 37 47 c37 [.t 2] := fk Tryz.func37 ⟨tv,⟨⟨tv,⟨⟨tv,tv⟩,tv⟩⟩,⟨tv,⟨⟨tv,⟨tv,⟨tv,tv⟩⟩⟩,⟨⟨tv,⟨tv,⟨⟨tv,tv⟩,⟨⟨tv,⟨tv,⟨⟨tv,tv⟩,tv⟩⟩⟩,tv⟩⟩⟩⟩,⟨tv,tv⟩⟩⟩⟩⟩⟩
def regsF (x : HI) : List HR := usesF x ++ (if (defF x).2 = true then [(defF x).1] else [])
def okR (r : HR) : Bool := if r.vec = true then decide (r.n < 6) else decide (r.n < 12)
def checkF (x : HI) : Int := if validF x = true ∧ (regsF x).all okR = true then 0 else 170
def inv37 (x : HI) (i : Int) : St := ⟨[(25, kz i), (24, kz (regsF x).length), (23, .slc 0 0 (regsF x).length)], [(0, some (.vec 2 ((regsF x).map HR.pv)))], 1⟩
theorem usesF_len (x : HI) : (usesF x).length ≤ 3 := by
 simp only [usesF]; split <;> (try split) <;> (try split) <;> (try split) <;> simp
theorem regsF_len (x : HI) : (regsF x).length ≤ 4 := by
 have := usesF_len x; simp only [regsF, List.length_append]; split <;> simp <;> omega
def I37 (x : HI) (i : Int) : Prop := 0 ≤ i ∧ i ≤ (regsF x).length ∧ (regsF x).length ≤ 4 ∧ ((regsF x).take i.toNat).all okR = true
theorem chk_badV {x : HI} {i : Int} (hI : I37 x i) (h : i < (regsF x).length) (hv : (nth (regsF x) i).vec = true) (hn : 6 ≤ (nth (regsF x) i).n) : checkF x = 170 := by
 have hb : okR (nth (regsF x) i) = false := by simp [okR, hv, hn]
 simp only [checkF]; split
 . next h1 => rw [all_get h1.2 ⟨hI.1, h⟩] at hb; cases hb
 . rfl
theorem chk_badW {x : HI} {i : Int} (hI : I37 x i) (h : i < (regsF x).length) (hv : (nth (regsF x) i).vec = false) (hn : 12 ≤ (nth (regsF x) i).n) : checkF x = 170 := by
 have hb : okR (nth (regsF x) i) = false := by simp [okR, hv, hn]
 simp only [checkF]; split
 . next h1 => rw [all_get h1.2 ⟨hI.1, h⟩] at hb; cases hb
 . rfl
theorem chk_step {x : HI} {i : Int} (hI : I37 x i) (h : i < (regsF x).length) (hb : okR (nth (regsF x) i) = true) : I37 x (i + 1) ∧ ((regsF x).length - (i + 1)).toNat < ((regsF x).length - i).toNat := by
 obtain ⟨h1, h2, h3, h4⟩ := hI
 refine ⟨⟨by omega, by omega, h3, ?_⟩, by omega⟩
 rw [all_step _ _ _ ⟨h1, h⟩, h4, hb]; rfl
theorem chk_stepV {x : HI} {i : Int} (hI : I37 x i) (h : i < (regsF x).length) (hv : (nth (regsF x) i).vec = true) (hn : ¬ 6 ≤ (nth (regsF x) i).n) : I37 x (i + 1) ∧ ((regsF x).length - (i + 1)).toNat < ((regsF x).length - i).toNat :=
 chk_step hI h (by simp [okR, hv]; omega)
theorem chk_stepW {x : HI} {i : Int} (hI : I37 x i) (h : i < (regsF x).length) (hv : (nth (regsF x) i).vec = false) (hn : ¬ 12 ≤ (nth (regsF x) i).n) : I37 x (i + 1) ∧ ((regsF x).length - (i + 1)).toNat < ((regsF x).length - i).toNat :=
 chk_step hI h (by simp [okR, hv]; omega)
theorem chk_end {x : HI} {i : Int} (hI : I37 x i) (hv : (!validF x) = false) (h : ¬ i < (regsF x).length) : checkF x = 0 := by
 have h1 := hI.2.2.2
 rw [take_end _ _ h] at h1
 have hv : validF x = true := by simpa using hv
 simp [checkF, hv, h1]
def L37 (x : HI) : LSpec := ⟨[.agg x.cells], [], [], [], kz (checkF x)⟩
set_option maxHeartbeats 40000000 in
theorem s37 (x : HI) : LSpec.ok Tryz.prog GG 37 (L37 x) := by
 refine fn_spec mix k37 _ rfl rfl (Tab.ok (l := [(58, S58), (34, S34), (33, S33)]) ⟨t58, t34, t33, trivial⟩) (fun _ => .inv Int (fun _ => I37 x) (inv37 x) (fun i => ((regsF x).length - i).toNat)) noJ ?_
 repeat' ((conv => whnf); first
  | exact trivial
  | with_reducible first | refine aj ?_ | refine ai rfl ?_ | refine ai ⟨rfl, rfl⟩ ?_
  | ((with_reducible refine ai ?_ ?_); focus exact w3)
  | with_reducible first | refine And.intro ?_ ?_ | apply exW (c := _) | refine exI (i64_in (by simp only [I37] at *; omega) (by simp only [I37] at *; omega)) ?_
  | refine exI (x := ULift.up _) (pv_get0 _ _ _ (by simp only [I37] at *; omega)) ?_
  | with_reducible first | refine asL_mk ?_ | refine exI (i64_in (by omega) (by omega)) ?_
  | refine exI (x := ULift.up _) (Eq.refl _) ?_
  | refine exI (x := ULift.up _) ⟨rfl, by omega, Eq.refl _⟩ ?_
  | exact ny
  | ((with_reducible intro h); try dsimp only at h))
 all_goals (refine Sd.mk ?_; have hl := regsF_len x; have hu := usesF_len x; (try simp only [HI.eta] at *))
 all_goals first
  | exact chk_badV (by assumption) (by assumption) (by assumption) (by assumption)
  | exact chk_badW (by assumption) (by assumption) (by assumption) (by assumption)
  | exact chk_stepV (by assumption) (by assumption) (by assumption) (by assumption)
  | exact chk_stepW (by assumption) (by assumption) (by assumption) (by assumption)
  | exact chk_end (by assumption) (by assumption) (by assumption)
  | exact ⟨by omega, by omega, hl, rfl⟩
  | (simp only [I37] at *; omega)
  | (simp only [checkF]; simp_all; done)
  | (simp_all [regsF, Rows.len, HR.pv, I37]; done)
  | (simp_all [regsF, Rows.len, HR.pv]; omega)
noncomputable def S37 : SFn
 | [a0], k => asHI a0 fun x => k (L37 x)
 | _, _ => .fail
theorem t37 : FnS Tryz.prog GG 37 S37 := by
 intro args k gt go R v os n h
 unfold S37 at h
 split at h
 . obtain ⟨x, _, h⟩ := asHI_inv h
   exact ⟨_, _, s37 x, h⟩
 . cases h
end Go.Proofs.YtlahifihaeafbaaGreatDoor
namespace Go.Proofs.YtlahifihaeafbaaGreatDoor
open Go Go.Sx
def c50 : MC := .seq (.reg [oo 2 (.alloc [(.val (.map none)),(.val (.map none))])]) (.seq (.reg [oo 11 (.mkm),oo 12 (.mkm),oo 13 (.bld [(.val (.map none)),(.val (.map none))] [(0,1,(.t 11)),(1,1,(.t 12))]),oo 3 (.alloc [(.val (.map none)),(.val (.map none))]),o none (.st (some 2) (.t 3) (.t 13))]) (.gh (.toFam 1) (.gh (.toFam 2) (.seq (.seq (.reg [om 14 0,oo 15 (.lenS (.t 14)),oo 16 (.mv (ki 0))]) (.blk 0 (.loop 0 (.seq (.reg [oo 17 (.cmp .lss (.t 16) (.t 15))]) (.seq (.cond (.t 17) (.skip) (.exit 0)) (.seq (.blk 1 (.seq (.reg [om 18 16,oo 19 (.ixa 15 (.t 14) (.t 16)),oo 20 (.ld (some 15) (.t 19)),oo 5 (.alloc [(kz 0),(kz 0),(kz 0),(kz 0),(kz 0),(kz 0),(kz 0),(kz 0),(kz 0),(.int .u32 0),(.int .u32 0),(.int .u32 0),(.int .u32 0),(.int .u32 0),(.int .u32 0)]),om 4 18,o none (.st (some 15) (.t 5) (.t 20))]) (.seq (.seq (.reg [oo 21 (.ld (some 15) (.t 5)),oo 22 (.call (.k (.fn (.func 34) [] [])) [(.t 21)]),oo 23 (.lenS (.t 22)),oo 24 (.mv (ki 0))]) (.blk 2 (.loop 1 (.seq (.reg [oo 25 (.cmp .lss (.t 24) (.t 23))]) (.seq (.cond (.t 25) (.skip) (.exit 2)) (.seq (.blk 3 (.seq (.reg [oo 26 (.ixa 2 (.t 22) (.t 24)),oo 27 (.ld (some 2) (.t 26)),oo 7 (.alloc [.ff,(kz 0)]),o none (.st (some 2) (.t 7) (.t 27))]) (.seq (.reg [oo 28 (.fld 0 (.t 3)),oo 29 (.ld none (.t 28)),oo 30 (.ld (some 2) (.t 7)),oo 31 (.lkp false false [.bool,.int .i64] true [.sl 1 []] (.t 29) (.t 30)),om 8 31]) (.seq (.reg [om 32 8,oo 33 (.lenS (.t 32)),oo 34 (.cmp .eql (.t 33) (ki 0)),os (some 35) (.mv (.t 34)),og 35 false (some 36) (.mv (.t 8)),og 35 false (some 37) (.mv (.t 8)),og 35 false (some 38) (.lenS (.t 37)),og 35 false (some 39) (.ar .sub (.t 38) (ki 1)),og 35 false (some 40) (.ixa 1 (.t 36) (.t 39)),og 35 false (some 41) (.ld none (.t 40)),og 35 false (some 42) (.mv (.t 4)),og 35 false (some 43) (.cmp .neq (.t 41) (.t 42)),oo 44 (.pick (.t 35) kt (.t 43))]) (.cond (.t 44) (.drw [oo 45 (.fld 0 (.t 3)),oo 46 (.ld none (.t 45)),oo 47 (.ld (some 2) (.t 7)),om 48 8,om 49 4,oo 50 (.bsl 1 1 [(kz 0)] [(0,(.t 49))]),oo 51 (.app 1 8 (.t 48) (.t 50)),o none (.mup false [.bool,.int .i64] (.t 46) (.t 47) (.t 51))] [[],[0],[],[],[],[4],[3,5],[1,2,6,6,0,1,2,3,4,5,6]]) (.gh (.putb 1) (.skip))))))) (.reg [oo 52 (.ar .add (.t 24) (ki 1)),om 24 52]))))))) (.seq (.reg [oo 54 (.ld (some 15) (.t 5)),oo 55 (.call (.k (.fn (.func 33) [] [])) [(.t 54)]),om 53 55,oo 56 (.ext 0 (.t 53)),oo 57 (.ext 1 (.t 53)),oo 9 (.alloc [.ff,(kz 0)]),o none (.st (some 2) (.t 9) (.t 56)),om 10 57]) (.seq (.reg [om 58 10]) (.cond (.t 58) (.reg [oo 59 (.fld 1 (.t 3)),oo 60 (.ld none (.t 59)),oo 61 (.ld (some 2) (.t 9)),om 63 4,oo 64 (.bsl 1 1 [(kz 0)] [(0,(.t 63))]),oo 65 (.ment false [.bool,.int .i64] true [.sl 1 []] (.t 60) (.t 61)),oo 62 (.ext 0 (.t 65)),oo 66 (.app 1 8 (.t 62) (.t 64)),oo 67 (.ext 1 (.t 65)),o none (.mest (.t 60) (.t 67) (.t 66))]) (.skip))))))) (.reg [oo 68 (.ar .add (.t 16) (ki 1)),om 16 68]))))))) (.gh (.toMap 1) (.gh (.toMap 2) (.seq (.reg [oo 69 (.ld (some 2) (.t 3)),o none (.st (some 2) (.t 2) (.t 69))])
 (.ret))))))))
theorem k50 : FnOk Tryz.prog 50 70 c50 [.c 2 (some 2)] := fk Tryz.func50 ⟨tv,⟨tv,⟨⟨tv,⟨tv,⟨⟨tv,tv⟩,⟨⟨tv,⟨⟨tv,⟨tv,⟨⟨tv,tv⟩,⟨⟨tv,⟨tv,⟨tv,⟨tv,tv⟩⟩⟩⟩,tv⟩⟩⟩⟩,⟨tv,⟨tv,⟨tv,tv⟩⟩⟩⟩⟩,tv⟩⟩⟩⟩,⟨tv,tv⟩⟩⟩⟩
attribute [local irreducible] usesF defF validF Go.Sx.agetD Go.Sx.aget Go.Sx.aput
abbrev Co50 := Int × TM × TM
abbrev Ci50 := Int × TM × TM × Int
def os50 (us ds : TM) : List (Nat × Option SO) := [(0, some (.row [.val (.map none), .val (.map none)])), (3, some (.row [.mp 1, .mp 2])), (1, some (.fam MTS subT us none)), (2, some (.fam MTS subT ds none))]
def inv50o (l : List HI) : Co50 -> St
 | (i, us, ds) => ⟨[(16, kz i), (15, kz l.length), (14, hiS l), (3, .ptr 3 0 0), (2, .ptr 0 0 0)], os50 us ds, 4⟩
def inv50i (l : List HI) : Ci50 -> St
 | (i, us, ds, j) => ⟨[(24, kz j), (23, kz (usesF (nth l i)).length), (22, .slc 5 0 (usesF (nth l i)).length), (16, kz i), (15, kz l.length), (14, hiS l), (5, .ptr 4 0 0), (4, kz i), (3, .ptr 3 0 0), (2, .ptr 0 0 0)],
    os50 us ds ++ [(4, some (.row (nth l i).cells)), (5, some (.vec 2 ((usesF (nth l i)).map HR.pv)))], 6⟩
def I50o (l : List HI) : Co50 -> Prop
 | (i, us, ds) => 0 ≤ i ∧ i ≤ l.length ∧ l.length ≤ 4000 ∧ wfT i us ∧ wfT i ds ∧ timesGo (l.drop i.toNat) i us ds = timesF l
def I50i (l : List HI) : Ci50 -> Ci50 -> Prop
 | (i0, us0, ds0, _), (i, us, ds, j) => i = i0 ∧ ds = ds0 ∧ 0 ≤ j ∧ j ≤ (usesF (nth l i)).length ∧ (usesF (nth l i)).length ≤ 3 ∧ wfT (i + 1) us ∧ ((usesF (nth l i)).drop j.toNat).foldl (addT i) us = (usesF (nth l i)).foldl (addT i) us0
def LA50 (l : List HI) : Nat -> LAnn
 | 0 => .inv Co50 (fun _ => I50o l) (inv50o l) (fun c => ((l.length : Int) - c.1).toNat)
 | _ => .inv Ci50 (I50i l) (inv50i l) (fun c => ((usesF (nth l c.1)).length - c.2.2.2).toNat)
theorem all50o {l : List HI} {Q : Co50 -> Prop} (h : ∀ i us ds, I50o l (i, us, ds) -> Q (i, us, ds)) : ∀ c, I50o l c -> Q c := fun ⟨i, us, ds⟩ hI => h _ _ _ hI
theorem all50i {l : List HI} {i us0 ds j0} {Q : Ci50 -> Prop} (h : ∀ us j, I50i l (i, us0, ds, j0) (i, us, ds, j) -> Q (i, us, ds, j)) : ∀ c, I50i l (i, us0, ds, j0) c -> Q c := fun ⟨i', us, ds', j⟩ hI => by
 obtain ⟨h1, h2, h3⟩ := hI
 subst h1; subst h2
 exact h _ _ ⟨rfl, rfl, h3⟩
theorem tp_0 {l : List HI} (h : l.length ≤ 4000) : I50o l (0, [], []) := ⟨by omega, by omega, h, wfT_nil, wfT_nil, rfl⟩
theorem tp_i {l : List HI} {i us ds} (h : I50o l (i, us, ds)) : I50i l (i, us, ds, 0) (i, us, ds, 0) := ⟨rfl, rfl, by omega, by omega, usesF_len _, wfT_mono h.2.2.2.1 (by omega), rfl⟩
theorem tl_le {l : List HI} {i us ds us' ds' j0 j} (h0 : I50o l (i, us', ds')) (h : I50i l (i, us', ds, j0) (i, us, ds, j)) (r : HR) : (List.map ipv (agetD MTS r us)).length ≤ 4001 := by
 have h1 := h0.2.1
 have h2 := h0.2.2.1
 have h3 := h0.1
 have := wfT_len h.2.2.2.2.2.1 (by omega) r
 rw [List.length_map]
 simp only [ag] at this
 omega
theorem tl_1 {l : List HI} {i us ds us' ds' j0 j} (_ : I50o l (i, us', ds')) (_ : I50i l (i, us', ds, j0) (i, us, ds, j)) {r : HR} : -9223372036854775808 ≤ ((List.map ipv (agetD MTS r us)).length : Int) - 1 := by omega
theorem tl_2 {l : List HI} {i us ds us' ds' j0 j} (h0 : I50o l (i, us', ds')) (h : I50i l (i, us', ds, j0) (i, us, ds, j)) {r : HR} : ((List.map ipv (agetD MTS r us)).length : Int) - 1 < 9223372036854775808 := by
 have := tl_le h0 h r
 omega
theorem tl_4 {r : HR} {us : TM} (h : ¬ ((List.map ipv (agetD MTS r us)).length : Int) = 0) : (List.map ipv (agetD MTS r us))[0 + (((List.map ipv (agetD MTS r us)).length : Int) - 1).toNat]? = some (ipv (lastI (ag r us))) := by
 rw [pv_get0 _ _ _ (by rw [List.length_map] at *; omega)]
 unfold lastI
 rw [List.length_map]
theorem hole_ok {κ : Type} {k : κ} {j : Nat} {g : Option Nat} : holeAt (some (k, j, g)) k := fun _ _ _ e => by cases e; rfl
theorem put_okT {X : List Int} {i : Int} : subT (X ++ [i]) = Sub.vec 1 (List.map ipv X ++ [[PV.int .i64 i]]) := by simp only [subT, List.map_append]; rfl
theorem put_ok3 {X : List Int} {i : Int} {n : Nat} (h : n = (List.map ipv X ++ [[PV.int .i64 i]]).length) : subT (X ++ [i]) = Sub.vec 1 (List.map ipv X ++ [[PV.int .i64 i]]) ∧ 0 = 0 ∧ n = (List.map ipv X ++ [[PV.int .i64 i]]).length := ⟨put_okT, rfl, h⟩
theorem tl_5 {l : List HI} {i us ds us' ds' j0 j} {X : List (List SV)} (h0 : I50o l (i, us', ds')) (h : I50i l (i, us', ds, j0) (i, us, ds, j)) (hX : X.length = 1) {r : HR} : (Rows.len (Sum.inr (List.map ipv (agetD MTS r us))) + Rows.len (Sum.inl X)) * 8 ≤ 2 ^ 46 := by
 have := tl_le h0 h r
 simp only [Rows.len, hX] at *
 omega
theorem tl_6 {l : List HI} {i us ds} {X : List (List SV)} (h0 : I50o l (i, us, ds)) (hX : X.length = 1) {r : HR} : (Rows.len (Sum.inr (List.map ipv (agetD MTS r ds))) + Rows.len (Sum.inl X)) * 8 ≤ 2 ^ 46 := by
 obtain ⟨h1, h2, h3, h4, h5, _⟩ := h0
 have := wfT_len h5 h1 r
 simp only [Rows.len, hX, List.length_map, ag] at *
 omega
theorem tj {l : List HI} {i us ds us' ds' j0 j us2} (h0 : I50o l (i, us', ds')) (h : I50i l (i, us', ds, j0) (i, us, ds, j)) (hj : j < (usesF (nth l i)).length) (e : addT i us (nth (usesF (nth l i)) j) = us2) :
 I50i l (i, us', ds, j0) (i, us2, ds, j + 1) ∧ (((usesF (nth l i)).length : Int) - (j + 1)).toNat < (((usesF (nth l i)).length : Int) - j).toNat := by
  obtain ⟨_, _, h3, h4, h5, h6, h7⟩ := h
  subst e
  refine ⟨⟨rfl, rfl, by omega, by omega, h5, wf_add h6 h0.1, ?_⟩, by omega⟩
  rw [drop_step _ _ ⟨h3, hj⟩] at h7
  exact h7
theorem ad_0 {i : Int} {us : TM} {r : HR} (h : ((List.map ipv (agetD MTS r us)).length : Int) = 0) : addT i us r = aput MTS r (agetD MTS r us ++ [i]) us := by
 have : (agetD MTS r us).length = 0 := by rw [List.length_map] at h; omega
 unfold addT; rw [if_pos (.inl (List.length_eq_zero_iff.1 this))]
theorem ad_1 {i : Int} {us : TM} {r : HR} (h : ¬ lastI (ag r us) = i) : addT i us r = aput MTS r (agetD MTS r us ++ [i]) us := by
 unfold addT; rw [if_pos (.inr h)]
theorem ad_2 {i : Int} {us : TM} {r : HR} (h : ¬ ((List.map ipv (agetD MTS r us)).length : Int) = 0) (h2 : ¬ ¬ lastI (ag r us) = i) : addT i us r = us := by
 unfold addT; rw [if_neg]
 rintro (e | e)
 . rw [List.length_map] at h
   simp only [ag] at e
   rw [e] at h; exact h rfl
 . exact h2 e
theorem df_0 {i : Int} {ds : TM} {x : HI} (h : (defF x).2 = false) : defT i ds x = ds := by unfold defT; rw [if_neg (by rw [h]; decide)]
theorem df_1 {i : Int} {ds : TM} {x : HI} (h : (defF x).2 = true) : defT i ds x = aput MTS (defF x).1 (agetD MTS (defF x).1 ds ++ [i]) (aput MTS (defF x).1 (agetD MTS (defF x).1 ds) ds) := by unfold defT; rw [if_pos h, aput_aput]
theorem to {l : List HI} {i us ds us2 j ds2} (h0 : I50o l (i, us, ds)) (h : I50i l (i, us, ds, 0) (i, us2, ds, j)) (hi : i < l.length) (hj : ¬ j < (usesF (nth l i)).length) (e : defT i ds (nth l i) = ds2) :
 I50o l (i + 1, us2, ds2) ∧ ((l.length : Int) - (i + 1)).toNat < ((l.length : Int) - i).toNat := by
  obtain ⟨h1, h2, h3, h4, h5, h6⟩ := h0
  obtain ⟨_, _, k3, k4, k5, k6, k7⟩ := h
  rw [List.drop_eq_nil_of_le (by omega)] at k7
  subst e
  refine ⟨⟨by omega, by omega, h3, k6, wf_def h5 h1, ?_⟩, by omega⟩
  rw [drop_step _ _ ⟨h1, hi⟩, timesGo, <- k7] at h6
  exact h6
theorem te {l : List HI} {i us ds} (h : I50o l (i, us, ds)) (hi : ¬ i < l.length) : (timesF l).1 = us ∧ (timesF l).2 = ds := by
 obtain ⟨h1, h2, h3, h4, h5, h6⟩ := h
 rw [List.drop_eq_nil_of_le (by omega)] at h6
 rw [<- h6]
 exact ⟨rfl, rfl⟩
theorem te_1 {l : List HI} {i us ds} (h : I50o l (i, us, ds)) (hi : ¬ i < l.length) : SO.map MTS (timesF l).1 none = SO.map MTS us none := by rw [(te h hi).1]
theorem te_2 {l : List HI} {i us ds} (h : I50o l (i, us, ds)) (hi : ¬ i < l.length) : SO.map MTS (timesF l).2 none = SO.map MTS ds none := by rw [(te h hi).2]
noncomputable def L50 (l : List HI) : LSpec := ⟨[.rd (.sl 15 (l.map HI.pv))], [], [], [.map MTS (timesF l).1 none, .map MTS (timesF l).2 none], .agg [.mp 0, .mp 1]⟩
set_option maxHeartbeats 8000000 in
theorem s50 (l : List HI) (hl : l.length ≤ 4000) : LSpec.ok Tryz.prog GG 50 (L50 l) := by
 refine fn_spec mix k50 _ rfl rfl (Tab.ok (l := [(33, S33), (34, S34)]) ⟨t33, t34, trivial⟩) (LA50 l) noJ ?_
 repeat' ((conv => whnf); first
  | exact trivial
  | with_reducible first | refine aj ?_ | refine ai rfl ?_ | refine ai ⟨rfl, rfl⟩ ?_
  | ((with_reducible refine ai ?_ ?_); focus exact w3)
  | with_reducible first | refine all50o ?_ | refine all50i ?_ | apply exW (γ := Co50) (c := (_, _, _)) | apply exW (γ := Ci50) (c := (_, _, _, _))
  | refine exI (x := MTS) trivial ?_
  | with_reducible first | refine Exists.intro subT ?_ | refine And.intro (Sd.mk (p := holeAt _ _) hole_ok) ?_ | refine exI (i64_in (tl_1 (by assumption) (by assumption)) (tl_2 (by assumption) (by assumption))) ?_ | refine exI (i64_in (by simp only [I50o, I50i, List.length_map] at *; omega) (by simp only [I50o, I50i, List.length_map] at *; omega)) ?_ | refine ai (tl_3 (by assumption)) ?_ | refine exI (x := ULift.up _) (tl_4 (by assumption)) ?_
  | refine exI (x := ULift.up _) (pv_get0 _ _ _ (by simp only [I50o, I50i, List.length_map] at *; omega)) ?_
  | refine exI (x := ULift.up _) ⟨rfl, (by simp only [I50o, I50i, List.length_map] at *; omega), pv_get _ _ _ (by simp only [I50o, I50i, List.length_map] at *; omega)⟩ ?_
  | refine And.intro (Sd.mk (p := MapTy.one MTS = _ ∧ _) ⟨rfl, rfl⟩) ?_
  | apply exI (x := ULift.up (HR.mk _ _)) trivial
  | apply exI (x := (ULift.up ((_ : List Int) ++ [(_ : Int)]) : ULift (List Int))) trivial
  | with_reducible first | refine ai (put_ok3 (by simp [Rows.len])) ?_ | refine And.intro (Sd.mk aget_nil) ?_ | refine And.intro (Sd.mk aget_aput) ?_ | refine And.intro (Sd.mk (p := (_ : Int) ≤ _ ∧ _) (by simp only [I50o, I50i, List.length_map] at *; omega)) ?_ | refine And.intro ?_ ?_ | refine asL_mk ?_ | refine exI (i64_in (by omega) (by omega)) ?_
  | refine exI (x := ULift.up _) (Eq.refl _) ?_
  | refine exI (x := ULift.up _) ⟨rfl, by omega, Eq.refl _⟩ ?_
  | exact nx
  | ((with_reducible intro h); try dsimp only at h))
 all_goals (refine Sd.mk ?_)
 all_goals try first
  | exact tp_0 hl
  | exact tp_i (by assumption)
  | exact tl_5 (by assumption) (by assumption) rfl
  | exact tl_6 (by assumption) rfl
  | exact te_1 (by assumption) (by assumption)
  | exact te_2 (by assumption) (by assumption)
 all_goals (try simp only [HI.eta, HR.eta] at *)
 all_goals first
  | exact tj (by assumption) (by assumption) (by assumption) (ad_0 (by assumption))
  | exact tj (by assumption) (by assumption) (by assumption) (ad_1 (by assumption))
  | exact tj (by assumption) (by assumption) (by assumption) (ad_2 (by assumption) (by assumption))
  | exact to (by assumption) (by assumption) (by assumption) (by assumption) (df_0 (by assumption))
  | exact to (by assumption) (by assumption) (by assumption) (by assumption) (df_1 (by assumption))
noncomputable def S50 : SFn
 | [a0], k => asSl a0 fun L_l => asL HI.pv L_l fun l => .req (l.length ≤ 4000) (k (L50 l))
 | _, _ => .fail
theorem t50 : FnS Tryz.prog GG 50 S50 := by
 intro args k gt go R v os n h
 unfold S50 at h
 split at h
 . obtain ⟨L_l, _, h⟩ := asSl_inv h
   obtain ⟨l, _, h⟩ := asL_inv h
   obtain ⟨hp, _, h⟩ := req_inv h
   exact ⟨_, _, s50 l hp, h⟩
 . cases h
end Go.Proofs.YtlahifihaeafbaaGreatDoor
namespace Go.Proofs.YtlahifihaeafbaaGreatDoor
open Go Go.Sx
structure AS where
 us : TM
 ds : TM
 code : List HI
 L : List HI
 fr : List Int
 w : BK
 v : BK
def asVec {α : Type} (pv : α -> List PV) (s : Nat) : SV -> (List α -> RT) -> RT
 | .slc j _ _, f => .rO j fun o => match o with
   | some (.vec _ LL) => asL pv LL f
   | _ => .fail
 | _, _ => .fail
noncomputable def asAS (p : Nat) (f : AS -> RT) : RT := asRow p fun r => match r with
 | .agg [.mp u, .mp d, c, l, fr, .ptr w _ _, .ptr v _ _] => asMap MTS u fun us => asMap MTS d fun ds => asSl c fun L_c => asL HI.pv L_c fun code => asVec HI.pv 15 l fun L => asVec ipv 1 fr fun fr => asBK w fun w => asBK v fun v => f ⟨us, ds, code, L, fr, w, v⟩
 | _ => .fail
section
variable {gt : GT} {go : GO} {R : List Sx.Loc} {v : Option SV} {os : List (Nat × Option SO)} {k : Nat}
theorem asVec_inv {α : Type} {pv : α -> List PV} {s : Nat} {x : SV} {f : List α -> RT} (h : (asVec pv s x f).Runs gt go R v os k) : ∃ y R', (f y).Runs gt go R' v os k := by
 unfold asVec at h
 split at h
 . cases h with
   | rO h =>
     dsimp only at h
     split at h
     . exact asL_inv h
     . cases h
 . cases h
theorem asAS_inv {p : Nat} {f : AS -> RT} (h : (asAS p f).Runs gt go R v os k) : ∃ x R', (f x).Runs gt go R' v os k := by
 unfold asAS at h
 obtain ⟨_, _, h⟩ := asRow_inv h
 split at h
 . obtain ⟨_, _, h⟩ := asMap_inv h
   obtain ⟨_, _, h⟩ := asMap_inv h
   obtain ⟨_, _, h⟩ := asSl_inv h
   obtain ⟨_, _, h⟩ := asL_inv h
   obtain ⟨_, _, h⟩ := asVec_inv h
   obtain ⟨_, _, h⟩ := asVec_inv h
   obtain ⟨_, _, h⟩ := asBK_inv h
   obtain ⟨_, _, h⟩ := asBK_inv h
   exact ⟨_, _, h⟩
 . cases h
end
def AS.bank (s : AS) (r : HR) : BK := if r.vec = true then s.v else s.w
def AS.emit (s : AS) (x : HI) (f : Int) : AS := { s with L := s.L ++ [x], fr := s.fr ++ [f] }
def AS.setB (s : AS) (r : HR) (b : BK) : AS := if r.vec = true then { s with v := b } else { s with w := b }
theorem bank_t {s : AS} {r : HR} (h : r.vec = true) : s.bank r = s.v := by unfold AS.bank; rw [if_pos h]
theorem bank_f {s : AS} {r : HR} (h : ¬ r.vec = true) : s.bank r = s.w := by unfold AS.bank; rw [if_neg h]
end Go.Proofs.YtlahifihaeafbaaGreatDoor
